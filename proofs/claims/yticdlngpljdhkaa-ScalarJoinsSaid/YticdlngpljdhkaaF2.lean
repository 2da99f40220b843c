import Derived.Test.YticdlngpljdhkaaF1
set_option linter.unusedSimpArgs false
set_option linter.unusedVariables false
namespace Go.Proofs.Ya
open Go Go.RowKit Go.Shelf Go.Proofs.Num
theorem info34 : (Try.prog.info? 34).map (·.size) = some 4 := by kernel_rfl
set_option maxHeartbeats 1000000 in
theorem least_c {x : Nat} (hx : x < 2 ^ 256) (w : World) :
    Calls Try.prog 24 #[fe x] w fun e w' => e = .returned (fe (leastF x)) ∧ Below w.heap.size w w' := by
  go_enter Try.func24, Try.ntmps24
  have BE := Below.refl w.heap.size w
  refine wp_seq_k (fun K1 hK1 => ?_)
  refine wp_region_plain 2 (by kernel_rfl) (fun Lk hLk => ?_)
  simp only [List.take, List.drop]
  refine wpV_alloc (by rfl) ?_
  refine wpV_alloc (by rfl) ?_
  refine wpV_nil (hLk.out _ ?_)
  clear hLk Lk
  simp only [List.take, List.drop]
  refine wpN_new (t := 34) (cs := (fel x).toArray) (by rfl) (fun W => ?_) (fun g3 Hg3 ng3 => ?_)
  · (first | rfl | go_simp)
  refine wpN_new (t := 34) (cs := ([.int .u64 0, .int .u64 0, .int .u64 0, .int .u64 0]).toArray) (by rfl) (fun W => ?_) (fun g4 Hg4 ng4 => ?_)
  · go_simp
  simp only [putT, List.set]
  refine wpN_nil (fun w5 Sw5 hbs => ?_)
  have Bg3 : Blk w5 g3 34 (fel x).toArray := hbs _ (List.mem_cons_of_mem _ (List.mem_cons_self ..))
  have Bg4 : Blk w5 g4 34 ([.int .u64 0, .int .u64 0, .int .u64 0, .int .u64 0]).toArray := hbs _ (List.mem_cons_self ..)
  clear hbs
  have Gg3 : w.heap.size ≤ g3 := Nat.le_trans BE.size Hg3
  have Ng3_g4 : g3 ≠ g4 := ng4 (g3, _, _) (List.mem_cons_self ..)
  have Gg4 : w.heap.size ≤ g4 := Nat.le_trans BE.size Hg4
  replace BE := BE.trans (Sw5.2.2.mono BE.size)
  have Tg3 := blk_there Bg3 (n := 4) (by simp [flen])
  have Rg3_0 := blk_range Bg3 (l := fel x) rfl
  have Lg3 := Bg3.lt
  have Tg4 := blk_there Bg4 (n := 4) (by simp [flen])
  have Rg4_0 := blk_range Bg4 (l := [.int .u64 0, .int .u64 0, .int .u64 0, .int .u64 0]) rfl
  have Lg4 := Bg4.lt
  clear ng3 ng4 Bg3 Bg4
  refine wpL_nil (no_panic ?_)
  refine hK1 _ _ ?_
  refine wp_seq_k (fun K6 hK6 => ?_)
  refine wp_seq_k (fun K7 hK7 => ?_)
  refine wp_region_plain 1 (by kernel_rfl) (fun Lk hLk => ?_)
  simp only [List.take, List.drop]
  refine wpV_move (v := .int .i64 0) (by rfl) rfl rfl ?_
  simp only [putT, List.set]
  refine wpV_nil (hLk.out _ ?_)
  clear hLk Lk
  simp only [List.take, List.drop]
  iterate 1 refine wpN_skip (by rfl) ?_
  refine wpN_nil (fun w9 Sw9 hbs => ?_)
  clear hbs
  replace Rg3_0 := range_sees Rg3_0 Lg3 Sw9
  replace Tg3 := there_sees Tg3 Lg3 Sw9
  replace Rg4_0 := range_sees Rg4_0 Lg4 Sw9
  replace Tg4 := there_sees Tg4 Lg4 Sw9
  replace Lg3 := Nat.lt_of_lt_of_le Lg3 Sw9.2.2.size
  replace Lg4 := Nat.lt_of_lt_of_le Lg4 Sw9.2.2.size
  replace BE := BE.trans (Sw9.2.2.mono BE.size)
  refine wpL_nil (no_panic ?_)
  refine hK7 _ _ ?_
  refine wp_block ?_
  refine wp_loop_rounds 3 ?_
  rw [rounds_succ]
  refine wp_seq_k (fun K10 hK10 => ?_)
  refine wp_region_plain 1 (by kernel_rfl) (fun Lk hLk => ?_)
  simp only [List.take, List.drop]
  refine wpV_bin (v := .bool true) (by rfl) rfl rfl rfl (fun W => run_lss _ _ _ _ W) ?_
  simp only [putT, List.set]
  refine wpV_nil (hLk.out _ ?_)
  clear hLk Lk
  simp only [List.take, List.drop]
  iterate 1 refine wpN_skip (by rfl) ?_
  refine wpN_nil (fun w12 Sw12 hbs => ?_)
  clear hbs
  replace Rg3_0 := range_sees Rg3_0 Lg3 Sw12
  replace Tg3 := there_sees Tg3 Lg3 Sw12
  replace Rg4_0 := range_sees Rg4_0 Lg4 Sw12
  replace Tg4 := there_sees Tg4 Lg4 Sw12
  replace Lg3 := Nat.lt_of_lt_of_le Lg3 Sw12.2.2.size
  replace Lg4 := Nat.lt_of_lt_of_le Lg4 Sw12.2.2.size
  replace BE := BE.trans (Sw12.2.2.mono BE.size)
  refine wpL_nil (no_panic ?_)
  refine hK10 _ _ ?_
  refine wp_seq_k (fun K13 hK13 => ?_)
  refine wp_cond_true rfl ?_
  refine wp_skip ?_
  refine hK13 _ _ ?_
  refine wp_seq_k (fun K14 hK14 => ?_)
  refine wp_block ?_
  refine wp_seq_k (fun K15 hK15 => ?_)
  refine wp_region_grow 7 [5] (by kernel_rfl) (by kernel_rfl) (by kernel_rfl) (fun Lk hLk => ?_)
  simp only [List.take, List.drop]
  refine wpV_load (cs := fel x) (by rfl) rfl rfl Rg3_0 Lg3 Try.underlying34 rfl info34 ?_
  simp only [putT, List.set]
  refine wpV_callf (v := fe pF) (args := #[]) (by rfl) rfl Try.func51 (by kernel_rfl) (by kernel_rfl) rfl (fun W _ => prime_c W) ?_
  simp only [putT, List.set]
  refine wpV_callf (v := .tuple #[fe (subW x pF), .int .u64 (subB x pF)]) (args := #[fe x, fe pF]) (by rfl) rfl Try.func50 (by kernel_rfl) (by kernel_rfl) rfl (fun W _ => minus_c hx pF_lt W) ?_
  simp only [putT, List.set]
  refine wpV_move (v := .tuple #[fe (subW x pF), .int .u64 (subB x pF)]) (by rfl) rfl rfl ?_
  simp only [putT, List.set]
  refine wpV_extract (v := fe (subW x pF)) (by rfl) rfl rfl rfl ?_
  simp only [putT, List.set]
  refine wpV_extract (v := .int .u64 (subB x pF)) (by rfl) rfl rfl rfl ?_
  simp only [putT, List.set]
  refine wpV_alloc (by rfl) ?_
  refine wpV_nil (hLk.out _ ?_)
  clear hLk Lk
  simp only [List.take, List.drop]
  iterate 6 refine wpN_skip (by rfl) ?_
  refine wpN_new (t := 34) (cs := ([.int .u64 0, .int .u64 0, .int .u64 0, .int .u64 0]).toArray) (by rfl) (fun W => ?_) (fun g17 Hg17 ng17 => ?_)
  · go_simp
  simp only [putT, List.set]
  refine wpN_nil (fun w18 Sw18 hbs => ?_)
  have Bg17 : Blk w18 g17 34 ([.int .u64 0, .int .u64 0, .int .u64 0, .int .u64 0]).toArray := hbs _ (List.mem_cons_self ..)
  clear hbs
  have Ng3_g17 : g3 ≠ g17 := Nat.ne_of_lt (Nat.lt_of_lt_of_le Lg3 Hg17)
  have Ng4_g17 : g4 ≠ g17 := Nat.ne_of_lt (Nat.lt_of_lt_of_le Lg4 Hg17)
  have Gg17 : w.heap.size ≤ g17 := Nat.le_trans BE.size Hg17
  replace Rg3_0 := range_sees Rg3_0 Lg3 Sw18
  replace Tg3 := there_sees Tg3 Lg3 Sw18
  replace Rg4_0 := range_sees Rg4_0 Lg4 Sw18
  replace Tg4 := there_sees Tg4 Lg4 Sw18
  replace Lg3 := Nat.lt_of_lt_of_le Lg3 Sw18.2.2.size
  replace Lg4 := Nat.lt_of_lt_of_le Lg4 Sw18.2.2.size
  replace BE := BE.trans (Sw18.2.2.mono BE.size)
  have Tg17 := blk_there Bg17 (n := 4) (by simp [flen])
  have Rg17_0 := blk_range Bg17 (l := [.int .u64 0, .int .u64 0, .int .u64 0, .int .u64 0]) rfl
  have Lg17 := Bg17.lt
  clear ng17 Bg17
  refine wpL_store (g := g17) (off := 0) (n := 4) (cs := fel (subW x pF)) (by rfl) (by rfl) (by rfl) (by rfl) (by rfl) Tg17 (by simp [flen]) info34 (fel_one _) (fun w19 Pw19 RR TT => ?_)
  replace Rg3_0 := Pw19.range Rg3_0 (.inl Ng3_g17)
  replace Tg3 := Pw19.other_there Tg3 Ng3_g17
  replace Rg4_0 := Pw19.range Rg4_0 (.inl Ng4_g17)
  replace Tg4 := Pw19.other_there Tg4 Ng4_g17
  replace Rg17_0 := RR
  clear RR
  replace Tg17 := TT
  replace Lg3 := Pw19.lt Lg3
  replace Lg4 := Pw19.lt Lg4
  replace Lg17 := Pw19.lt Lg17
  replace BE := Pw19.below BE Gg17
  refine wpL_assign (v := .int .u64 (subB x pF)) (by rfl) (by rfl) (by rfl) ?_
  simp only [putT, List.set]
  refine wpL_nil (no_panic ?_)
  refine hK15 _ _ ?_
  refine wp_seq_k (fun K20 hK20 => ?_)
  refine wp_region_plain 2 (by kernel_rfl) (fun Lk hLk => ?_)
  simp only [List.take, List.drop]
  refine wpV_move (v := .int .u64 (subB x pF)) (by rfl) rfl rfl ?_
  simp only [putT, List.set]
  refine wpV_bin (v := .bool ((subB x pF) == 0)) (by rfl) rfl rfl rfl (fun W => run_eql _ _ _ _ W) ?_
  simp only [putT, List.set]
  refine wpV_nil (hLk.out _ ?_)
  clear hLk Lk
  simp only [List.take, List.drop]
  iterate 2 refine wpN_skip (by rfl) ?_
  refine wpN_nil (fun w22 Sw22 hbs => ?_)
  clear hbs
  replace Rg3_0 := range_sees Rg3_0 Lg3 Sw22
  replace Tg3 := there_sees Tg3 Lg3 Sw22
  replace Rg4_0 := range_sees Rg4_0 Lg4 Sw22
  replace Tg4 := there_sees Tg4 Lg4 Sw22
  replace Rg17_0 := range_sees Rg17_0 Lg17 Sw22
  replace Tg17 := there_sees Tg17 Lg17 Sw22
  replace Lg3 := Nat.lt_of_lt_of_le Lg3 Sw22.2.2.size
  replace Lg4 := Nat.lt_of_lt_of_le Lg4 Sw22.2.2.size
  replace Lg17 := Nat.lt_of_lt_of_le Lg17 Sw22.2.2.size
  replace BE := BE.trans (Sw22.2.2.mono BE.size)
  refine wpL_nil (no_panic ?_)
  refine hK20 _ _ ?_
  cases hc23 : ((subB x pF) == 0)
  · skip
    have qhc23 := subB_f hc23
    refine wp_cond_false rfl ?_
    refine wp_skip ?_
    refine hK14 _ _ ?_
    refine wp_region_plain 1 (by kernel_rfl) (fun Lk hLk => ?_)
    simp only [List.take, List.drop]
    refine wpV_bin (v := .int .i64 1) (by rfl) rfl rfl rfl (fun W => run_add (by decide) W) ?_
    simp only [putT, List.set]
    refine wpV_nil (hLk.out _ ?_)
    clear hLk Lk
    simp only [List.take, List.drop]
    iterate 1 refine wpN_skip (by rfl) ?_
    refine wpN_nil (fun w25 Sw25 hbs => ?_)
    clear hbs
    replace Rg3_0 := range_sees Rg3_0 Lg3 Sw25
    replace Tg3 := there_sees Tg3 Lg3 Sw25
    replace Rg4_0 := range_sees Rg4_0 Lg4 Sw25
    replace Tg4 := there_sees Tg4 Lg4 Sw25
    replace Rg17_0 := range_sees Rg17_0 Lg17 Sw25
    replace Tg17 := there_sees Tg17 Lg17 Sw25
    replace Lg3 := Nat.lt_of_lt_of_le Lg3 Sw25.2.2.size
    replace Lg4 := Nat.lt_of_lt_of_le Lg4 Sw25.2.2.size
    replace Lg17 := Nat.lt_of_lt_of_le Lg17 Sw25.2.2.size
    replace BE := BE.trans (Sw25.2.2.mono BE.size)
    refine wpL_move (v := .int .i64 1) (by rfl) (by rfl) (by rfl) ?_
    simp only [putT, List.set]
    refine wpL_nil (no_panic ?_)
    refine then_normal ?_
    rw [rounds_succ]
    refine wp_seq_k (fun K26 hK26 => ?_)
    refine wp_region_plain 1 (by kernel_rfl) (fun Lk hLk => ?_)
    simp only [List.take, List.drop]
    refine wpV_bin (v := .bool true) (by rfl) rfl rfl rfl (fun W => run_lss _ _ _ _ W) ?_
    simp only [putT, List.set]
    refine wpV_nil (hLk.out _ ?_)
    clear hLk Lk
    simp only [List.take, List.drop]
    iterate 1 refine wpN_skip (by rfl) ?_
    refine wpN_nil (fun w28 Sw28 hbs => ?_)
    clear hbs
    replace Rg3_0 := range_sees Rg3_0 Lg3 Sw28
    replace Tg3 := there_sees Tg3 Lg3 Sw28
    replace Rg4_0 := range_sees Rg4_0 Lg4 Sw28
    replace Tg4 := there_sees Tg4 Lg4 Sw28
    replace Rg17_0 := range_sees Rg17_0 Lg17 Sw28
    replace Tg17 := there_sees Tg17 Lg17 Sw28
    replace Lg3 := Nat.lt_of_lt_of_le Lg3 Sw28.2.2.size
    replace Lg4 := Nat.lt_of_lt_of_le Lg4 Sw28.2.2.size
    replace Lg17 := Nat.lt_of_lt_of_le Lg17 Sw28.2.2.size
    replace BE := BE.trans (Sw28.2.2.mono BE.size)
    refine wpL_nil (no_panic ?_)
    refine hK26 _ _ ?_
    refine wp_seq_k (fun K29 hK29 => ?_)
    refine wp_cond_true rfl ?_
    refine wp_skip ?_
    refine hK29 _ _ ?_
    refine wp_seq_k (fun K30 hK30 => ?_)
    refine wp_block ?_
    refine wp_seq_k (fun K31 hK31 => ?_)
    refine wp_region_grow 7 [5] (by kernel_rfl) (by kernel_rfl) (by kernel_rfl) (fun Lk hLk => ?_)
    simp only [List.take, List.drop]
    refine wpV_load (cs := fel x) (by rfl) rfl rfl Rg3_0 Lg3 Try.underlying34 rfl info34 ?_
    simp only [putT, List.set]
    refine wpV_callf (v := fe pF) (args := #[]) (by rfl) rfl Try.func51 (by kernel_rfl) (by kernel_rfl) rfl (fun W _ => prime_c W) ?_
    simp only [putT, List.set]
    refine wpV_callf (v := .tuple #[fe (subW x pF), .int .u64 (subB x pF)]) (args := #[fe x, fe pF]) (by rfl) rfl Try.func50 (by kernel_rfl) (by kernel_rfl) rfl (fun W _ => minus_c hx pF_lt W) ?_
    simp only [putT, List.set]
    refine wpV_move (v := .tuple #[fe (subW x pF), .int .u64 (subB x pF)]) (by rfl) rfl rfl ?_
    simp only [putT, List.set]
    refine wpV_extract (v := fe (subW x pF)) (by rfl) rfl rfl rfl ?_
    simp only [putT, List.set]
    refine wpV_extract (v := .int .u64 (subB x pF)) (by rfl) rfl rfl rfl ?_
    simp only [putT, List.set]
    refine wpV_alloc (by rfl) ?_
    refine wpV_nil (hLk.out _ ?_)
    clear hLk Lk
    simp only [List.take, List.drop]
    iterate 6 refine wpN_skip (by rfl) ?_
    refine wpN_new (t := 34) (cs := ([.int .u64 0, .int .u64 0, .int .u64 0, .int .u64 0]).toArray) (by rfl) (fun W => ?_) (fun g33 Hg33 ng33 => ?_)
    · go_simp
    simp only [putT, List.set]
    refine wpN_nil (fun w34 Sw34 hbs => ?_)
    have Bg33 : Blk w34 g33 34 ([.int .u64 0, .int .u64 0, .int .u64 0, .int .u64 0]).toArray := hbs _ (List.mem_cons_self ..)
    clear hbs
    have Ng3_g33 : g3 ≠ g33 := Nat.ne_of_lt (Nat.lt_of_lt_of_le Lg3 Hg33)
    have Ng4_g33 : g4 ≠ g33 := Nat.ne_of_lt (Nat.lt_of_lt_of_le Lg4 Hg33)
    have Ng17_g33 : g17 ≠ g33 := Nat.ne_of_lt (Nat.lt_of_lt_of_le Lg17 Hg33)
    have Gg33 : w.heap.size ≤ g33 := Nat.le_trans BE.size Hg33
    replace Rg3_0 := range_sees Rg3_0 Lg3 Sw34
    replace Tg3 := there_sees Tg3 Lg3 Sw34
    replace Rg4_0 := range_sees Rg4_0 Lg4 Sw34
    replace Tg4 := there_sees Tg4 Lg4 Sw34
    replace Rg17_0 := range_sees Rg17_0 Lg17 Sw34
    replace Tg17 := there_sees Tg17 Lg17 Sw34
    replace Lg3 := Nat.lt_of_lt_of_le Lg3 Sw34.2.2.size
    replace Lg4 := Nat.lt_of_lt_of_le Lg4 Sw34.2.2.size
    replace Lg17 := Nat.lt_of_lt_of_le Lg17 Sw34.2.2.size
    replace BE := BE.trans (Sw34.2.2.mono BE.size)
    have Tg33 := blk_there Bg33 (n := 4) (by simp [flen])
    have Rg33_0 := blk_range Bg33 (l := [.int .u64 0, .int .u64 0, .int .u64 0, .int .u64 0]) rfl
    have Lg33 := Bg33.lt
    clear ng33 Bg33
    refine wpL_store (g := g33) (off := 0) (n := 4) (cs := fel (subW x pF)) (by rfl) (by rfl) (by rfl) (by rfl) (by rfl) Tg33 (by simp [flen]) info34 (fel_one _) (fun w35 Pw35 RR TT => ?_)
    replace Rg3_0 := Pw35.range Rg3_0 (.inl Ng3_g33)
    replace Tg3 := Pw35.other_there Tg3 Ng3_g33
    replace Rg4_0 := Pw35.range Rg4_0 (.inl Ng4_g33)
    replace Tg4 := Pw35.other_there Tg4 Ng4_g33
    replace Rg17_0 := Pw35.range Rg17_0 (.inl Ng17_g33)
    replace Tg17 := Pw35.other_there Tg17 Ng17_g33
    replace Rg33_0 := RR
    clear RR
    replace Tg33 := TT
    replace Lg3 := Pw35.lt Lg3
    replace Lg4 := Pw35.lt Lg4
    replace Lg17 := Pw35.lt Lg17
    replace Lg33 := Pw35.lt Lg33
    replace BE := Pw35.below BE Gg33
    refine wpL_assign (v := .int .u64 (subB x pF)) (by rfl) (by rfl) (by rfl) ?_
    simp only [putT, List.set]
    refine wpL_nil (no_panic ?_)
    refine hK31 _ _ ?_
    refine wp_seq_k (fun K36 hK36 => ?_)
    refine wp_region_plain 2 (by kernel_rfl) (fun Lk hLk => ?_)
    simp only [List.take, List.drop]
    refine wpV_move (v := .int .u64 (subB x pF)) (by rfl) rfl rfl ?_
    simp only [putT, List.set]
    refine wpV_bin (v := .bool false) (by rfl) rfl rfl rfl (fun W => (run_eql _ _ _ _ W).trans (by rw [hc23])) ?_
    simp only [putT, List.set]
    refine wpV_nil (hLk.out _ ?_)
    clear hLk Lk
    simp only [List.take, List.drop]
    iterate 2 refine wpN_skip (by rfl) ?_
    refine wpN_nil (fun w38 Sw38 hbs => ?_)
    clear hbs
    replace Rg3_0 := range_sees Rg3_0 Lg3 Sw38
    replace Tg3 := there_sees Tg3 Lg3 Sw38
    replace Rg4_0 := range_sees Rg4_0 Lg4 Sw38
    replace Tg4 := there_sees Tg4 Lg4 Sw38
    replace Rg17_0 := range_sees Rg17_0 Lg17 Sw38
    replace Tg17 := there_sees Tg17 Lg17 Sw38
    replace Rg33_0 := range_sees Rg33_0 Lg33 Sw38
    replace Tg33 := there_sees Tg33 Lg33 Sw38
    replace Lg3 := Nat.lt_of_lt_of_le Lg3 Sw38.2.2.size
    replace Lg4 := Nat.lt_of_lt_of_le Lg4 Sw38.2.2.size
    replace Lg17 := Nat.lt_of_lt_of_le Lg17 Sw38.2.2.size
    replace Lg33 := Nat.lt_of_lt_of_le Lg33 Sw38.2.2.size
    replace BE := BE.trans (Sw38.2.2.mono BE.size)
    refine wpL_nil (no_panic ?_)
    refine hK36 _ _ ?_
    refine wp_cond_false rfl ?_
    refine wp_skip ?_
    refine hK30 _ _ ?_
    refine wp_region_plain 1 (by kernel_rfl) (fun Lk hLk => ?_)
    simp only [List.take, List.drop]
    refine wpV_bin (v := .int .i64 2) (by rfl) rfl rfl rfl (fun W => run_add (by decide) W) ?_
    simp only [putT, List.set]
    refine wpV_nil (hLk.out _ ?_)
    clear hLk Lk
    simp only [List.take, List.drop]
    iterate 1 refine wpN_skip (by rfl) ?_
    refine wpN_nil (fun w40 Sw40 hbs => ?_)
    clear hbs
    replace Rg3_0 := range_sees Rg3_0 Lg3 Sw40
    replace Tg3 := there_sees Tg3 Lg3 Sw40
    replace Rg4_0 := range_sees Rg4_0 Lg4 Sw40
    replace Tg4 := there_sees Tg4 Lg4 Sw40
    replace Rg17_0 := range_sees Rg17_0 Lg17 Sw40
    replace Tg17 := there_sees Tg17 Lg17 Sw40
    replace Rg33_0 := range_sees Rg33_0 Lg33 Sw40
    replace Tg33 := there_sees Tg33 Lg33 Sw40
    replace Lg3 := Nat.lt_of_lt_of_le Lg3 Sw40.2.2.size
    replace Lg4 := Nat.lt_of_lt_of_le Lg4 Sw40.2.2.size
    replace Lg17 := Nat.lt_of_lt_of_le Lg17 Sw40.2.2.size
    replace Lg33 := Nat.lt_of_lt_of_le Lg33 Sw40.2.2.size
    replace BE := BE.trans (Sw40.2.2.mono BE.size)
    refine wpL_move (v := .int .i64 2) (by rfl) (by rfl) (by rfl) ?_
    simp only [putT, List.set]
    refine wpL_nil (no_panic ?_)
    refine then_normal ?_
    rw [rounds_succ]
    refine wp_seq_k (fun K41 hK41 => ?_)
    refine wp_region_plain 1 (by kernel_rfl) (fun Lk hLk => ?_)
    simp only [List.take, List.drop]
    refine wpV_bin (v := .bool false) (by rfl) rfl rfl rfl (fun W => run_lss _ _ _ _ W) ?_
    simp only [putT, List.set]
    refine wpV_nil (hLk.out _ ?_)
    clear hLk Lk
    simp only [List.take, List.drop]
    iterate 1 refine wpN_skip (by rfl) ?_
    refine wpN_nil (fun w43 Sw43 hbs => ?_)
    clear hbs
    replace Rg3_0 := range_sees Rg3_0 Lg3 Sw43
    replace Tg3 := there_sees Tg3 Lg3 Sw43
    replace Rg4_0 := range_sees Rg4_0 Lg4 Sw43
    replace Tg4 := there_sees Tg4 Lg4 Sw43
    replace Rg17_0 := range_sees Rg17_0 Lg17 Sw43
    replace Tg17 := there_sees Tg17 Lg17 Sw43
    replace Rg33_0 := range_sees Rg33_0 Lg33 Sw43
    replace Tg33 := there_sees Tg33 Lg33 Sw43
    replace Lg3 := Nat.lt_of_lt_of_le Lg3 Sw43.2.2.size
    replace Lg4 := Nat.lt_of_lt_of_le Lg4 Sw43.2.2.size
    replace Lg17 := Nat.lt_of_lt_of_le Lg17 Sw43.2.2.size
    replace Lg33 := Nat.lt_of_lt_of_le Lg33 Sw43.2.2.size
    replace BE := BE.trans (Sw43.2.2.mono BE.size)
    refine wpL_nil (no_panic ?_)
    refine hK41 _ _ ?_
    refine wp_seq_k (fun K44 hK44 => ?_)
    refine wp_cond_false rfl ?_
    refine wp_exit ?_
    refine hK6 _ _ ?_
    refine wp_seq_k (fun K45 hK45 => ?_)
    refine wp_region_plain 1 (by kernel_rfl) (fun Lk hLk => ?_)
    simp only [List.take, List.drop]
    refine wpV_load (cs := fel x) (by rfl) rfl rfl Rg3_0 Lg3 Try.underlying34 rfl info34 ?_
    simp only [putT, List.set]
    refine wpV_nil (hLk.out _ ?_)
    clear hLk Lk
    simp only [List.take, List.drop]
    iterate 1 refine wpN_skip (by rfl) ?_
    refine wpN_nil (fun w47 Sw47 hbs => ?_)
    clear hbs
    replace Rg3_0 := range_sees Rg3_0 Lg3 Sw47
    replace Tg3 := there_sees Tg3 Lg3 Sw47
    replace Rg4_0 := range_sees Rg4_0 Lg4 Sw47
    replace Tg4 := there_sees Tg4 Lg4 Sw47
    replace Rg17_0 := range_sees Rg17_0 Lg17 Sw47
    replace Tg17 := there_sees Tg17 Lg17 Sw47
    replace Rg33_0 := range_sees Rg33_0 Lg33 Sw47
    replace Tg33 := there_sees Tg33 Lg33 Sw47
    replace Lg3 := Nat.lt_of_lt_of_le Lg3 Sw47.2.2.size
    replace Lg4 := Nat.lt_of_lt_of_le Lg4 Sw47.2.2.size
    replace Lg17 := Nat.lt_of_lt_of_le Lg17 Sw47.2.2.size
    replace Lg33 := Nat.lt_of_lt_of_le Lg33 Sw47.2.2.size
    replace BE := BE.trans (Sw47.2.2.mono BE.size)
    refine wpL_store (g := g4) (off := 0) (n := 4) (cs := fel x) (by rfl) (by rfl) (by rfl) (by rfl) (by rfl) Tg4 (by simp [flen]) info34 (fel_one _) (fun w48 Pw48 RR TT => ?_)
    replace Rg3_0 := Pw48.range Rg3_0 (.inl Ng3_g4)
    replace Tg3 := Pw48.other_there Tg3 Ng3_g4
    replace Rg17_0 := Pw48.range Rg17_0 (.inl (Ne.symm Ng4_g17))
    replace Tg17 := Pw48.other_there Tg17 (Ne.symm Ng4_g17)
    replace Rg33_0 := Pw48.range Rg33_0 (.inl (Ne.symm Ng4_g33))
    replace Tg33 := Pw48.other_there Tg33 (Ne.symm Ng4_g33)
    replace Rg4_0 := RR
    clear RR
    replace Tg4 := TT
    replace Lg3 := Pw48.lt Lg3
    replace Lg4 := Pw48.lt Lg4
    replace Lg17 := Pw48.lt Lg17
    replace Lg33 := Pw48.lt Lg33
    replace BE := Pw48.below BE Gg4
    refine wpL_nil (no_panic ?_)
    refine hK45 _ _ ?_
    refine wp_ret ?_
    refine bodyPost_ret (v := fe x) (res1 rfl (.cell (by rfl) (run_loadVar_mid _ _ _ _ (fel x) _ Rg4_0 Try.underlying34 rfl info34))) rfl ?_
    exact ⟨by rw [least0 qhc23], BE⟩
  · skip
    have qhc23 := subB_t hc23
    refine wp_cond_true rfl ?_
    refine wp_region_plain 1 (by kernel_rfl) (fun Lk hLk => ?_)
    simp only [List.take, List.drop]
    refine wpV_load (cs := fel (subW x pF)) (by rfl) rfl rfl Rg17_0 Lg17 Try.underlying34 rfl info34 ?_
    simp only [putT, List.set]
    refine wpV_nil (hLk.out _ ?_)
    clear hLk Lk
    simp only [List.take, List.drop]
    iterate 1 refine wpN_skip (by rfl) ?_
    refine wpN_nil (fun w50 Sw50 hbs => ?_)
    clear hbs
    replace Rg3_0 := range_sees Rg3_0 Lg3 Sw50
    replace Tg3 := there_sees Tg3 Lg3 Sw50
    replace Rg4_0 := range_sees Rg4_0 Lg4 Sw50
    replace Tg4 := there_sees Tg4 Lg4 Sw50
    replace Rg17_0 := range_sees Rg17_0 Lg17 Sw50
    replace Tg17 := there_sees Tg17 Lg17 Sw50
    replace Lg3 := Nat.lt_of_lt_of_le Lg3 Sw50.2.2.size
    replace Lg4 := Nat.lt_of_lt_of_le Lg4 Sw50.2.2.size
    replace Lg17 := Nat.lt_of_lt_of_le Lg17 Sw50.2.2.size
    replace BE := BE.trans (Sw50.2.2.mono BE.size)
    refine wpL_store (g := g3) (off := 0) (n := 4) (cs := fel (subW x pF)) (by rfl) (by rfl) (by rfl) (by rfl) (by rfl) Tg3 (by simp [flen]) info34 (fel_one _) (fun w51 Pw51 RR TT => ?_)
    replace Rg4_0 := Pw51.range Rg4_0 (.inl (Ne.symm Ng3_g4))
    replace Tg4 := Pw51.other_there Tg4 (Ne.symm Ng3_g4)
    replace Rg17_0 := Pw51.range Rg17_0 (.inl (Ne.symm Ng3_g17))
    replace Tg17 := Pw51.other_there Tg17 (Ne.symm Ng3_g17)
    replace Rg3_0 := RR
    clear RR
    replace Tg3 := TT
    replace Lg3 := Pw51.lt Lg3
    replace Lg4 := Pw51.lt Lg4
    replace Lg17 := Pw51.lt Lg17
    replace BE := Pw51.below BE Gg3
    refine wpL_nil (no_panic ?_)
    refine hK14 _ _ ?_
    refine wp_region_plain 1 (by kernel_rfl) (fun Lk hLk => ?_)
    simp only [List.take, List.drop]
    refine wpV_bin (v := .int .i64 1) (by rfl) rfl rfl rfl (fun W => run_add (by decide) W) ?_
    simp only [putT, List.set]
    refine wpV_nil (hLk.out _ ?_)
    clear hLk Lk
    simp only [List.take, List.drop]
    iterate 1 refine wpN_skip (by rfl) ?_
    refine wpN_nil (fun w53 Sw53 hbs => ?_)
    clear hbs
    replace Rg3_0 := range_sees Rg3_0 Lg3 Sw53
    replace Tg3 := there_sees Tg3 Lg3 Sw53
    replace Rg4_0 := range_sees Rg4_0 Lg4 Sw53
    replace Tg4 := there_sees Tg4 Lg4 Sw53
    replace Rg17_0 := range_sees Rg17_0 Lg17 Sw53
    replace Tg17 := there_sees Tg17 Lg17 Sw53
    replace Lg3 := Nat.lt_of_lt_of_le Lg3 Sw53.2.2.size
    replace Lg4 := Nat.lt_of_lt_of_le Lg4 Sw53.2.2.size
    replace Lg17 := Nat.lt_of_lt_of_le Lg17 Sw53.2.2.size
    replace BE := BE.trans (Sw53.2.2.mono BE.size)
    refine wpL_move (v := .int .i64 1) (by rfl) (by rfl) (by rfl) ?_
    simp only [putT, List.set]
    refine wpL_nil (no_panic ?_)
    refine then_normal ?_
    rw [rounds_succ]
    refine wp_seq_k (fun K54 hK54 => ?_)
    refine wp_region_plain 1 (by kernel_rfl) (fun Lk hLk => ?_)
    simp only [List.take, List.drop]
    refine wpV_bin (v := .bool true) (by rfl) rfl rfl rfl (fun W => run_lss _ _ _ _ W) ?_
    simp only [putT, List.set]
    refine wpV_nil (hLk.out _ ?_)
    clear hLk Lk
    simp only [List.take, List.drop]
    iterate 1 refine wpN_skip (by rfl) ?_
    refine wpN_nil (fun w56 Sw56 hbs => ?_)
    clear hbs
    replace Rg3_0 := range_sees Rg3_0 Lg3 Sw56
    replace Tg3 := there_sees Tg3 Lg3 Sw56
    replace Rg4_0 := range_sees Rg4_0 Lg4 Sw56
    replace Tg4 := there_sees Tg4 Lg4 Sw56
    replace Rg17_0 := range_sees Rg17_0 Lg17 Sw56
    replace Tg17 := there_sees Tg17 Lg17 Sw56
    replace Lg3 := Nat.lt_of_lt_of_le Lg3 Sw56.2.2.size
    replace Lg4 := Nat.lt_of_lt_of_le Lg4 Sw56.2.2.size
    replace Lg17 := Nat.lt_of_lt_of_le Lg17 Sw56.2.2.size
    replace BE := BE.trans (Sw56.2.2.mono BE.size)
    refine wpL_nil (no_panic ?_)
    refine hK54 _ _ ?_
    refine wp_seq_k (fun K57 hK57 => ?_)
    refine wp_cond_true rfl ?_
    refine wp_skip ?_
    refine hK57 _ _ ?_
    refine wp_seq_k (fun K58 hK58 => ?_)
    refine wp_block ?_
    refine wp_seq_k (fun K59 hK59 => ?_)
    refine wp_region_grow 7 [5] (by kernel_rfl) (by kernel_rfl) (by kernel_rfl) (fun Lk hLk => ?_)
    simp only [List.take, List.drop]
    refine wpV_load (cs := fel (subW x pF)) (by rfl) rfl rfl Rg3_0 Lg3 Try.underlying34 rfl info34 ?_
    simp only [putT, List.set]
    refine wpV_callf (v := fe pF) (args := #[]) (by rfl) rfl Try.func51 (by kernel_rfl) (by kernel_rfl) rfl (fun W _ => prime_c W) ?_
    simp only [putT, List.set]
    refine wpV_callf (v := .tuple #[fe (subW (subW x pF) pF), .int .u64 (subB (subW x pF) pF)]) (args := #[fe (subW x pF), fe pF]) (by rfl) rfl Try.func50 (by kernel_rfl) (by kernel_rfl) rfl (fun W _ => minus_c (subW_lt ..) pF_lt W) ?_
    simp only [putT, List.set]
    refine wpV_move (v := .tuple #[fe (subW (subW x pF) pF), .int .u64 (subB (subW x pF) pF)]) (by rfl) rfl rfl ?_
    simp only [putT, List.set]
    refine wpV_extract (v := fe (subW (subW x pF) pF)) (by rfl) rfl rfl rfl ?_
    simp only [putT, List.set]
    refine wpV_extract (v := .int .u64 (subB (subW x pF) pF)) (by rfl) rfl rfl rfl ?_
    simp only [putT, List.set]
    refine wpV_alloc (by rfl) ?_
    refine wpV_nil (hLk.out _ ?_)
    clear hLk Lk
    simp only [List.take, List.drop]
    iterate 6 refine wpN_skip (by rfl) ?_
    refine wpN_new (t := 34) (cs := ([.int .u64 0, .int .u64 0, .int .u64 0, .int .u64 0]).toArray) (by rfl) (fun W => ?_) (fun g61 Hg61 ng61 => ?_)
    · go_simp
    simp only [putT, List.set]
    refine wpN_nil (fun w62 Sw62 hbs => ?_)
    have Bg61 : Blk w62 g61 34 ([.int .u64 0, .int .u64 0, .int .u64 0, .int .u64 0]).toArray := hbs _ (List.mem_cons_self ..)
    clear hbs
    have Ng3_g61 : g3 ≠ g61 := Nat.ne_of_lt (Nat.lt_of_lt_of_le Lg3 Hg61)
    have Ng4_g61 : g4 ≠ g61 := Nat.ne_of_lt (Nat.lt_of_lt_of_le Lg4 Hg61)
    have Ng17_g61 : g17 ≠ g61 := Nat.ne_of_lt (Nat.lt_of_lt_of_le Lg17 Hg61)
    have Gg61 : w.heap.size ≤ g61 := Nat.le_trans BE.size Hg61
    replace Rg3_0 := range_sees Rg3_0 Lg3 Sw62
    replace Tg3 := there_sees Tg3 Lg3 Sw62
    replace Rg4_0 := range_sees Rg4_0 Lg4 Sw62
    replace Tg4 := there_sees Tg4 Lg4 Sw62
    replace Rg17_0 := range_sees Rg17_0 Lg17 Sw62
    replace Tg17 := there_sees Tg17 Lg17 Sw62
    replace Lg3 := Nat.lt_of_lt_of_le Lg3 Sw62.2.2.size
    replace Lg4 := Nat.lt_of_lt_of_le Lg4 Sw62.2.2.size
    replace Lg17 := Nat.lt_of_lt_of_le Lg17 Sw62.2.2.size
    replace BE := BE.trans (Sw62.2.2.mono BE.size)
    have Tg61 := blk_there Bg61 (n := 4) (by simp [flen])
    have Rg61_0 := blk_range Bg61 (l := [.int .u64 0, .int .u64 0, .int .u64 0, .int .u64 0]) rfl
    have Lg61 := Bg61.lt
    clear ng61 Bg61
    refine wpL_store (g := g61) (off := 0) (n := 4) (cs := fel (subW (subW x pF) pF)) (by rfl) (by rfl) (by rfl) (by rfl) (by rfl) Tg61 (by simp [flen]) info34 (fel_one _) (fun w63 Pw63 RR TT => ?_)
    replace Rg3_0 := Pw63.range Rg3_0 (.inl Ng3_g61)
    replace Tg3 := Pw63.other_there Tg3 Ng3_g61
    replace Rg4_0 := Pw63.range Rg4_0 (.inl Ng4_g61)
    replace Tg4 := Pw63.other_there Tg4 Ng4_g61
    replace Rg17_0 := Pw63.range Rg17_0 (.inl Ng17_g61)
    replace Tg17 := Pw63.other_there Tg17 Ng17_g61
    replace Rg61_0 := RR
    clear RR
    replace Tg61 := TT
    replace Lg3 := Pw63.lt Lg3
    replace Lg4 := Pw63.lt Lg4
    replace Lg17 := Pw63.lt Lg17
    replace Lg61 := Pw63.lt Lg61
    replace BE := Pw63.below BE Gg61
    refine wpL_assign (v := .int .u64 (subB (subW x pF) pF)) (by rfl) (by rfl) (by rfl) ?_
    simp only [putT, List.set]
    refine wpL_nil (no_panic ?_)
    refine hK59 _ _ ?_
    refine wp_seq_k (fun K64 hK64 => ?_)
    refine wp_region_plain 2 (by kernel_rfl) (fun Lk hLk => ?_)
    simp only [List.take, List.drop]
    refine wpV_move (v := .int .u64 (subB (subW x pF) pF)) (by rfl) rfl rfl ?_
    simp only [putT, List.set]
    refine wpV_bin (v := .bool ((subB (subW x pF) pF) == 0)) (by rfl) rfl rfl rfl (fun W => run_eql _ _ _ _ W) ?_
    simp only [putT, List.set]
    refine wpV_nil (hLk.out _ ?_)
    clear hLk Lk
    simp only [List.take, List.drop]
    iterate 2 refine wpN_skip (by rfl) ?_
    refine wpN_nil (fun w66 Sw66 hbs => ?_)
    clear hbs
    replace Rg3_0 := range_sees Rg3_0 Lg3 Sw66
    replace Tg3 := there_sees Tg3 Lg3 Sw66
    replace Rg4_0 := range_sees Rg4_0 Lg4 Sw66
    replace Tg4 := there_sees Tg4 Lg4 Sw66
    replace Rg17_0 := range_sees Rg17_0 Lg17 Sw66
    replace Tg17 := there_sees Tg17 Lg17 Sw66
    replace Rg61_0 := range_sees Rg61_0 Lg61 Sw66
    replace Tg61 := there_sees Tg61 Lg61 Sw66
    replace Lg3 := Nat.lt_of_lt_of_le Lg3 Sw66.2.2.size
    replace Lg4 := Nat.lt_of_lt_of_le Lg4 Sw66.2.2.size
    replace Lg17 := Nat.lt_of_lt_of_le Lg17 Sw66.2.2.size
    replace Lg61 := Nat.lt_of_lt_of_le Lg61 Sw66.2.2.size
    replace BE := BE.trans (Sw66.2.2.mono BE.size)
    refine wpL_nil (no_panic ?_)
    refine hK64 _ _ ?_
    cases hc67 : ((subB (subW x pF) pF) == 0)
    · skip
      have qhc67 := subB_f hc67
      refine wp_cond_false rfl ?_
      refine wp_skip ?_
      refine hK58 _ _ ?_
      refine wp_region_plain 1 (by kernel_rfl) (fun Lk hLk => ?_)
      simp only [List.take, List.drop]
      refine wpV_bin (v := .int .i64 2) (by rfl) rfl rfl rfl (fun W => run_add (by decide) W) ?_
      simp only [putT, List.set]
      refine wpV_nil (hLk.out _ ?_)
      clear hLk Lk
      simp only [List.take, List.drop]
      iterate 1 refine wpN_skip (by rfl) ?_
      refine wpN_nil (fun w69 Sw69 hbs => ?_)
      clear hbs
      replace Rg3_0 := range_sees Rg3_0 Lg3 Sw69
      replace Tg3 := there_sees Tg3 Lg3 Sw69
      replace Rg4_0 := range_sees Rg4_0 Lg4 Sw69
      replace Tg4 := there_sees Tg4 Lg4 Sw69
      replace Rg17_0 := range_sees Rg17_0 Lg17 Sw69
      replace Tg17 := there_sees Tg17 Lg17 Sw69
      replace Rg61_0 := range_sees Rg61_0 Lg61 Sw69
      replace Tg61 := there_sees Tg61 Lg61 Sw69
      replace Lg3 := Nat.lt_of_lt_of_le Lg3 Sw69.2.2.size
      replace Lg4 := Nat.lt_of_lt_of_le Lg4 Sw69.2.2.size
      replace Lg17 := Nat.lt_of_lt_of_le Lg17 Sw69.2.2.size
      replace Lg61 := Nat.lt_of_lt_of_le Lg61 Sw69.2.2.size
      replace BE := BE.trans (Sw69.2.2.mono BE.size)
      refine wpL_move (v := .int .i64 2) (by rfl) (by rfl) (by rfl) ?_
      simp only [putT, List.set]
      refine wpL_nil (no_panic ?_)
      refine then_normal ?_
      rw [rounds_succ]
      refine wp_seq_k (fun K70 hK70 => ?_)
      refine wp_region_plain 1 (by kernel_rfl) (fun Lk hLk => ?_)
      simp only [List.take, List.drop]
      refine wpV_bin (v := .bool false) (by rfl) rfl rfl rfl (fun W => run_lss _ _ _ _ W) ?_
      simp only [putT, List.set]
      refine wpV_nil (hLk.out _ ?_)
      clear hLk Lk
      simp only [List.take, List.drop]
      iterate 1 refine wpN_skip (by rfl) ?_
      refine wpN_nil (fun w72 Sw72 hbs => ?_)
      clear hbs
      replace Rg3_0 := range_sees Rg3_0 Lg3 Sw72
      replace Tg3 := there_sees Tg3 Lg3 Sw72
      replace Rg4_0 := range_sees Rg4_0 Lg4 Sw72
      replace Tg4 := there_sees Tg4 Lg4 Sw72
      replace Rg17_0 := range_sees Rg17_0 Lg17 Sw72
      replace Tg17 := there_sees Tg17 Lg17 Sw72
      replace Rg61_0 := range_sees Rg61_0 Lg61 Sw72
      replace Tg61 := there_sees Tg61 Lg61 Sw72
      replace Lg3 := Nat.lt_of_lt_of_le Lg3 Sw72.2.2.size
      replace Lg4 := Nat.lt_of_lt_of_le Lg4 Sw72.2.2.size
      replace Lg17 := Nat.lt_of_lt_of_le Lg17 Sw72.2.2.size
      replace Lg61 := Nat.lt_of_lt_of_le Lg61 Sw72.2.2.size
      replace BE := BE.trans (Sw72.2.2.mono BE.size)
      refine wpL_nil (no_panic ?_)
      refine hK70 _ _ ?_
      refine wp_seq_k (fun K73 hK73 => ?_)
      refine wp_cond_false rfl ?_
      refine wp_exit ?_
      refine hK6 _ _ ?_
      refine wp_seq_k (fun K74 hK74 => ?_)
      refine wp_region_plain 1 (by kernel_rfl) (fun Lk hLk => ?_)
      simp only [List.take, List.drop]
      refine wpV_load (cs := fel (subW x pF)) (by rfl) rfl rfl Rg3_0 Lg3 Try.underlying34 rfl info34 ?_
      simp only [putT, List.set]
      refine wpV_nil (hLk.out _ ?_)
      clear hLk Lk
      simp only [List.take, List.drop]
      iterate 1 refine wpN_skip (by rfl) ?_
      refine wpN_nil (fun w76 Sw76 hbs => ?_)
      clear hbs
      replace Rg3_0 := range_sees Rg3_0 Lg3 Sw76
      replace Tg3 := there_sees Tg3 Lg3 Sw76
      replace Rg4_0 := range_sees Rg4_0 Lg4 Sw76
      replace Tg4 := there_sees Tg4 Lg4 Sw76
      replace Rg17_0 := range_sees Rg17_0 Lg17 Sw76
      replace Tg17 := there_sees Tg17 Lg17 Sw76
      replace Rg61_0 := range_sees Rg61_0 Lg61 Sw76
      replace Tg61 := there_sees Tg61 Lg61 Sw76
      replace Lg3 := Nat.lt_of_lt_of_le Lg3 Sw76.2.2.size
      replace Lg4 := Nat.lt_of_lt_of_le Lg4 Sw76.2.2.size
      replace Lg17 := Nat.lt_of_lt_of_le Lg17 Sw76.2.2.size
      replace Lg61 := Nat.lt_of_lt_of_le Lg61 Sw76.2.2.size
      replace BE := BE.trans (Sw76.2.2.mono BE.size)
      refine wpL_store (g := g4) (off := 0) (n := 4) (cs := fel (subW x pF)) (by rfl) (by rfl) (by rfl) (by rfl) (by rfl) Tg4 (by simp [flen]) info34 (fel_one _) (fun w77 Pw77 RR TT => ?_)
      replace Rg3_0 := Pw77.range Rg3_0 (.inl Ng3_g4)
      replace Tg3 := Pw77.other_there Tg3 Ng3_g4
      replace Rg17_0 := Pw77.range Rg17_0 (.inl (Ne.symm Ng4_g17))
      replace Tg17 := Pw77.other_there Tg17 (Ne.symm Ng4_g17)
      replace Rg61_0 := Pw77.range Rg61_0 (.inl (Ne.symm Ng4_g61))
      replace Tg61 := Pw77.other_there Tg61 (Ne.symm Ng4_g61)
      replace Rg4_0 := RR
      clear RR
      replace Tg4 := TT
      replace Lg3 := Pw77.lt Lg3
      replace Lg4 := Pw77.lt Lg4
      replace Lg17 := Pw77.lt Lg17
      replace Lg61 := Pw77.lt Lg61
      replace BE := Pw77.below BE Gg4
      refine wpL_nil (no_panic ?_)
      refine hK74 _ _ ?_
      refine wp_ret ?_
      refine bodyPost_ret (v := fe (subW x pF)) (res1 rfl (.cell (by rfl) (run_loadVar_mid _ _ _ _ (fel (subW x pF)) _ Rg4_0 Try.underlying34 rfl info34))) rfl ?_
      exact ⟨by rw [(least1 hx qhc23).trans (least0 qhc67)], BE⟩
    · skip
      have qhc67 := subB_t hc67
      refine wp_cond_true rfl ?_
      refine wp_region_plain 1 (by kernel_rfl) (fun Lk hLk => ?_)
      simp only [List.take, List.drop]
      refine wpV_load (cs := fel (subW (subW x pF) pF)) (by rfl) rfl rfl Rg61_0 Lg61 Try.underlying34 rfl info34 ?_
      simp only [putT, List.set]
      refine wpV_nil (hLk.out _ ?_)
      clear hLk Lk
      simp only [List.take, List.drop]
      iterate 1 refine wpN_skip (by rfl) ?_
      refine wpN_nil (fun w79 Sw79 hbs => ?_)
      clear hbs
      replace Rg3_0 := range_sees Rg3_0 Lg3 Sw79
      replace Tg3 := there_sees Tg3 Lg3 Sw79
      replace Rg4_0 := range_sees Rg4_0 Lg4 Sw79
      replace Tg4 := there_sees Tg4 Lg4 Sw79
      replace Rg17_0 := range_sees Rg17_0 Lg17 Sw79
      replace Tg17 := there_sees Tg17 Lg17 Sw79
      replace Rg61_0 := range_sees Rg61_0 Lg61 Sw79
      replace Tg61 := there_sees Tg61 Lg61 Sw79
      replace Lg3 := Nat.lt_of_lt_of_le Lg3 Sw79.2.2.size
      replace Lg4 := Nat.lt_of_lt_of_le Lg4 Sw79.2.2.size
      replace Lg17 := Nat.lt_of_lt_of_le Lg17 Sw79.2.2.size
      replace Lg61 := Nat.lt_of_lt_of_le Lg61 Sw79.2.2.size
      replace BE := BE.trans (Sw79.2.2.mono BE.size)
      refine wpL_store (g := g3) (off := 0) (n := 4) (cs := fel (subW (subW x pF) pF)) (by rfl) (by rfl) (by rfl) (by rfl) (by rfl) Tg3 (by simp [flen]) info34 (fel_one _) (fun w80 Pw80 RR TT => ?_)
      replace Rg4_0 := Pw80.range Rg4_0 (.inl (Ne.symm Ng3_g4))
      replace Tg4 := Pw80.other_there Tg4 (Ne.symm Ng3_g4)
      replace Rg17_0 := Pw80.range Rg17_0 (.inl (Ne.symm Ng3_g17))
      replace Tg17 := Pw80.other_there Tg17 (Ne.symm Ng3_g17)
      replace Rg61_0 := Pw80.range Rg61_0 (.inl (Ne.symm Ng3_g61))
      replace Tg61 := Pw80.other_there Tg61 (Ne.symm Ng3_g61)
      replace Rg3_0 := RR
      clear RR
      replace Tg3 := TT
      replace Lg3 := Pw80.lt Lg3
      replace Lg4 := Pw80.lt Lg4
      replace Lg17 := Pw80.lt Lg17
      replace Lg61 := Pw80.lt Lg61
      replace BE := Pw80.below BE Gg3
      refine wpL_nil (no_panic ?_)
      refine hK58 _ _ ?_
      refine wp_region_plain 1 (by kernel_rfl) (fun Lk hLk => ?_)
      simp only [List.take, List.drop]
      refine wpV_bin (v := .int .i64 2) (by rfl) rfl rfl rfl (fun W => run_add (by decide) W) ?_
      simp only [putT, List.set]
      refine wpV_nil (hLk.out _ ?_)
      clear hLk Lk
      simp only [List.take, List.drop]
      iterate 1 refine wpN_skip (by rfl) ?_
      refine wpN_nil (fun w82 Sw82 hbs => ?_)
      clear hbs
      replace Rg3_0 := range_sees Rg3_0 Lg3 Sw82
      replace Tg3 := there_sees Tg3 Lg3 Sw82
      replace Rg4_0 := range_sees Rg4_0 Lg4 Sw82
      replace Tg4 := there_sees Tg4 Lg4 Sw82
      replace Rg17_0 := range_sees Rg17_0 Lg17 Sw82
      replace Tg17 := there_sees Tg17 Lg17 Sw82
      replace Rg61_0 := range_sees Rg61_0 Lg61 Sw82
      replace Tg61 := there_sees Tg61 Lg61 Sw82
      replace Lg3 := Nat.lt_of_lt_of_le Lg3 Sw82.2.2.size
      replace Lg4 := Nat.lt_of_lt_of_le Lg4 Sw82.2.2.size
      replace Lg17 := Nat.lt_of_lt_of_le Lg17 Sw82.2.2.size
      replace Lg61 := Nat.lt_of_lt_of_le Lg61 Sw82.2.2.size
      replace BE := BE.trans (Sw82.2.2.mono BE.size)
      refine wpL_move (v := .int .i64 2) (by rfl) (by rfl) (by rfl) ?_
      simp only [putT, List.set]
      refine wpL_nil (no_panic ?_)
      refine then_normal ?_
      rw [rounds_succ]
      refine wp_seq_k (fun K83 hK83 => ?_)
      refine wp_region_plain 1 (by kernel_rfl) (fun Lk hLk => ?_)
      simp only [List.take, List.drop]
      refine wpV_bin (v := .bool false) (by rfl) rfl rfl rfl (fun W => run_lss _ _ _ _ W) ?_
      simp only [putT, List.set]
      refine wpV_nil (hLk.out _ ?_)
      clear hLk Lk
      simp only [List.take, List.drop]
      iterate 1 refine wpN_skip (by rfl) ?_
      refine wpN_nil (fun w85 Sw85 hbs => ?_)
      clear hbs
      replace Rg3_0 := range_sees Rg3_0 Lg3 Sw85
      replace Tg3 := there_sees Tg3 Lg3 Sw85
      replace Rg4_0 := range_sees Rg4_0 Lg4 Sw85
      replace Tg4 := there_sees Tg4 Lg4 Sw85
      replace Rg17_0 := range_sees Rg17_0 Lg17 Sw85
      replace Tg17 := there_sees Tg17 Lg17 Sw85
      replace Rg61_0 := range_sees Rg61_0 Lg61 Sw85
      replace Tg61 := there_sees Tg61 Lg61 Sw85
      replace Lg3 := Nat.lt_of_lt_of_le Lg3 Sw85.2.2.size
      replace Lg4 := Nat.lt_of_lt_of_le Lg4 Sw85.2.2.size
      replace Lg17 := Nat.lt_of_lt_of_le Lg17 Sw85.2.2.size
      replace Lg61 := Nat.lt_of_lt_of_le Lg61 Sw85.2.2.size
      replace BE := BE.trans (Sw85.2.2.mono BE.size)
      refine wpL_nil (no_panic ?_)
      refine hK83 _ _ ?_
      refine wp_seq_k (fun K86 hK86 => ?_)
      refine wp_cond_false rfl ?_
      refine wp_exit ?_
      refine hK6 _ _ ?_
      refine wp_seq_k (fun K87 hK87 => ?_)
      refine wp_region_plain 1 (by kernel_rfl) (fun Lk hLk => ?_)
      simp only [List.take, List.drop]
      refine wpV_load (cs := fel (subW (subW x pF) pF)) (by rfl) rfl rfl Rg3_0 Lg3 Try.underlying34 rfl info34 ?_
      simp only [putT, List.set]
      refine wpV_nil (hLk.out _ ?_)
      clear hLk Lk
      simp only [List.take, List.drop]
      iterate 1 refine wpN_skip (by rfl) ?_
      refine wpN_nil (fun w89 Sw89 hbs => ?_)
      clear hbs
      replace Rg3_0 := range_sees Rg3_0 Lg3 Sw89
      replace Tg3 := there_sees Tg3 Lg3 Sw89
      replace Rg4_0 := range_sees Rg4_0 Lg4 Sw89
      replace Tg4 := there_sees Tg4 Lg4 Sw89
      replace Rg17_0 := range_sees Rg17_0 Lg17 Sw89
      replace Tg17 := there_sees Tg17 Lg17 Sw89
      replace Rg61_0 := range_sees Rg61_0 Lg61 Sw89
      replace Tg61 := there_sees Tg61 Lg61 Sw89
      replace Lg3 := Nat.lt_of_lt_of_le Lg3 Sw89.2.2.size
      replace Lg4 := Nat.lt_of_lt_of_le Lg4 Sw89.2.2.size
      replace Lg17 := Nat.lt_of_lt_of_le Lg17 Sw89.2.2.size
      replace Lg61 := Nat.lt_of_lt_of_le Lg61 Sw89.2.2.size
      replace BE := BE.trans (Sw89.2.2.mono BE.size)
      refine wpL_store (g := g4) (off := 0) (n := 4) (cs := fel (subW (subW x pF) pF)) (by rfl) (by rfl) (by rfl) (by rfl) (by rfl) Tg4 (by simp [flen]) info34 (fel_one _) (fun w90 Pw90 RR TT => ?_)
      replace Rg3_0 := Pw90.range Rg3_0 (.inl Ng3_g4)
      replace Tg3 := Pw90.other_there Tg3 Ng3_g4
      replace Rg17_0 := Pw90.range Rg17_0 (.inl (Ne.symm Ng4_g17))
      replace Tg17 := Pw90.other_there Tg17 (Ne.symm Ng4_g17)
      replace Rg61_0 := Pw90.range Rg61_0 (.inl (Ne.symm Ng4_g61))
      replace Tg61 := Pw90.other_there Tg61 (Ne.symm Ng4_g61)
      replace Rg4_0 := RR
      clear RR
      replace Tg4 := TT
      replace Lg3 := Pw90.lt Lg3
      replace Lg4 := Pw90.lt Lg4
      replace Lg17 := Pw90.lt Lg17
      replace Lg61 := Pw90.lt Lg61
      replace BE := Pw90.below BE Gg4
      refine wpL_nil (no_panic ?_)
      refine hK87 _ _ ?_
      refine wp_ret ?_
      refine bodyPost_ret (v := fe (subW (subW x pF) pF)) (res1 rfl (.cell (by rfl) (run_loadVar_mid _ _ _ _ (fel (subW (subW x pF) pF)) _ Rg4_0 Try.underlying34 rfl info34))) rfl ?_
      exact ⟨by rw [least2 hx qhc23 qhc67], BE⟩
end Go.Proofs.Ya
