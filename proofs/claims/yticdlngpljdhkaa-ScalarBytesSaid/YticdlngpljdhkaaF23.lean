import Derived.Test.YticdlngpljdhkaaF18
import Derived.Test.YticdlngpljdhkaaF22
import Derived.Test.YticdlngpljdhkaaNumT
set_option linter.unusedSimpArgs false
set_option linter.unusedVariables false
namespace Go.Proofs.Ya
open Go Go.RowKit Go.Shelf Go.Proofs.Num
theorem swideA_c (l : List UInt8) (w : World) : Calls Try.prog 21 #[.string (bs l)] w fun e w' => e = .returned (.tuple #[fe (swideN l), .int .i64 (swideE l)]) ∧ Below w.heap.size w w' := by
  by_cases h : 64 < l.length
  · have := wide_over h
    rw [this.1, this.2.1]
    exact swideX_c h w
  · have := wide_in h
    rw [this.1, this.2]
    exact swide_c h w
set_option maxHeartbeats 4000000 in
theorem lsbytes_c {x : Nat} (hx : x < 2 ^ 256) (l : List UInt8) {w : World}  :
    Calls Try.prog 8 #[fe x, .string (bs l)] w fun e w' => e = .returned (.bool true) ∧ Below w.heap.size w w' := by
  go_enter Try.func8, Try.ntmps8
  have BE := Below.refl w.heap.size w
  refine wp_seq_k (fun K1 hK1 => ?_)
  refine wp_region_plain 1 (by kernel_rfl) (fun Lk hLk => ?_)
  simp only [List.take, List.drop]
  refine wpV_alloc (by rfl) ?_
  refine wpV_nil (hLk.out _ ?_)
  clear hLk Lk
  simp only [List.take, List.drop]
  refine wpN_new (t := 24) (cs := (fel x).toArray) (by rfl) (fun W => ?_) (fun g3 Hg3 ng3 => ?_)
  · (first | rfl | go_simp)
  simp only [putT, List.set]
  refine wpN_nil (fun w4 Sw4 hbs => ?_)
  have Bg3 : Blk w4 g3 24 (fel x).toArray := hbs _ (List.mem_cons_self ..)
  clear hbs
  have Gg3 : w.heap.size ≤ g3 := Nat.le_trans BE.size Hg3
  replace BE := BE.trans (Sw4.2.2.mono BE.size)
  have Tg3 := blk_there Bg3 (n := 4) (by simp [flen])
  have Rg3_0 := blk_range Bg3 (l := fel x) rfl
  have Lg3 := Bg3.lt
  clear ng3 Bg3
  refine wpL_assign (v := .bool false) (by rfl) (by rfl) (by rfl) ?_
  simp only [putT, List.set]
  refine wpL_nil (no_panic ?_)
  refine hK1 _ _ ?_
  refine wp_seq_k (fun K5 hK5 => ?_)
  refine wp_region_plain 5 (by kernel_rfl) (fun Lk hLk => ?_)
  simp only [List.take, List.drop]
  refine wpV_move (v := .string (bs l)) (by rfl) rfl rfl ?_
  simp only [putT, List.set]
  refine wpV_move (v := .string (bs l)) (by rfl) rfl rfl ?_
  simp only [putT, List.set]
  refine wpV_lenS (by rfl) rfl rfl rfl Try.underlying9 ?_
  simp only [putT, List.set]
  refine wpV_min (n := l.length) (m := 70) (by rfl) rfl rfl rfl ?_
  simp only [putT, List.set]
  refine wpV_cut (l := l) (m := 70) (by rfl) rfl rfl rfl Try.underlying9 ?_
  simp only [putT, List.set]
  refine wpV_nil (hLk.out _ ?_)
  clear hLk Lk
  simp only [List.take, List.drop]
  iterate 5 refine wpN_skip (by rfl) ?_
  refine wpN_nil (fun w7 Sw7 hbs => ?_)
  clear hbs
  replace Rg3_0 := range_sees Rg3_0 Lg3 Sw7
  replace Tg3 := there_sees Tg3 Lg3 Sw7
  replace Lg3 := Nat.lt_of_lt_of_le Lg3 Sw7.2.2.size
  replace BE := BE.trans (Sw7.2.2.mono BE.size)
  refine wpL_assign (v := .string (bs (cut l 70))) (by rfl) (by rfl) (by rfl) ?_
  simp only [putT, List.set]
  refine wpL_nil (no_panic ?_)
  have hm_m := cut_len l 70
  generalize cut l 70 = m at hm_m ⊢
  refine hK5 _ _ ?_
  refine wp_seq_k (fun K8 hK8 => ?_)
  refine wp_region_plain 6 (by kernel_rfl) (fun Lk hLk => ?_)
  simp only [List.take, List.drop]
  refine wpV_move (v := .string (bs m)) (by rfl) rfl rfl ?_
  simp only [putT, List.set]
  refine wpV_callf (v := .tuple #[fe (swideN m), .int .i64 (swideE m)]) (args := #[.string (bs m)]) (by rfl) rfl Try.func21 (by kernel_rfl) (by kernel_rfl) rfl (fun W hW => swideA_c m W) ?_
  simp only [putT, List.set]
  refine wpV_move (v := .tuple #[fe (swideN m), .int .i64 (swideE m)]) (by rfl) rfl rfl ?_
  simp only [putT, List.set]
  refine wpV_extract (v := fe (swideN m)) (by rfl) rfl rfl rfl ?_
  simp only [putT, List.set]
  refine wpV_extract (v := .int .i64 (swideE m)) (by rfl) rfl rfl rfl ?_
  simp only [putT, List.set]
  refine wpV_alloc (by rfl) ?_
  refine wpV_nil (hLk.out _ ?_)
  clear hLk Lk
  simp only [List.take, List.drop]
  iterate 5 refine wpN_skip (by rfl) ?_
  refine wpN_new (t := 24) (cs := ([.int .u64 0, .int .u64 0, .int .u64 0, .int .u64 0]).toArray) (by rfl) (fun W => ?_) (fun g10 Hg10 ng10 => ?_)
  · go_simp
  simp only [putT, List.set]
  refine wpN_nil (fun w11 Sw11 hbs => ?_)
  have Bg10 : Blk w11 g10 24 ([.int .u64 0, .int .u64 0, .int .u64 0, .int .u64 0]).toArray := hbs _ (List.mem_cons_self ..)
  clear hbs
  have Ng3_g10 : g3 ≠ g10 := Nat.ne_of_lt (Nat.lt_of_lt_of_le Lg3 Hg10)
  have Gg10 : w.heap.size ≤ g10 := Nat.le_trans BE.size Hg10
  replace Rg3_0 := range_sees Rg3_0 Lg3 Sw11
  replace Tg3 := there_sees Tg3 Lg3 Sw11
  replace Lg3 := Nat.lt_of_lt_of_le Lg3 Sw11.2.2.size
  replace BE := BE.trans (Sw11.2.2.mono BE.size)
  have Tg10 := blk_there Bg10 (n := 4) (by simp [flen])
  have Rg10_0 := blk_range Bg10 (l := [.int .u64 0, .int .u64 0, .int .u64 0, .int .u64 0]) rfl
  have Lg10 := Bg10.lt
  clear ng10 Bg10
  refine wpL_store (g := g10) (off := 0) (n := 4) (cs := fel (swideN m)) (by rfl) (by rfl) (by rfl) (by rfl) (by rfl) Tg10 (by simp [flen]) info24 (fel_one _) (fun w12 Pw12 RR TT => ?_)
  replace Rg3_0 := Pw12.range Rg3_0 (.inl Ng3_g10)
  replace Tg3 := Pw12.other_there Tg3 Ng3_g10
  replace Rg10_0 := RR
  clear RR
  replace Tg10 := TT
  replace Lg3 := Pw12.lt Lg3
  replace Lg10 := Pw12.lt Lg10
  replace BE := Pw12.below BE Gg10
  refine wpL_assign (v := .int .i64 (swideE m)) (by rfl) (by rfl) (by rfl) ?_
  simp only [putT, List.set]
  refine wpL_nil (no_panic ?_)
  refine hK8 _ _ ?_
  refine wp_seq_k (fun K13 hK13 => ?_)
  refine wp_region_plain 6 (by kernel_rfl) (fun Lk hLk => ?_)
  simp only [List.take, List.drop]
  refine wpV_move (v := .string (bs m)) (by rfl) rfl rfl ?_
  simp only [putT, List.set]
  refine wpV_callf (v := .tuple #[fe (sparseN m), .int .i64 (sparseE m)]) (args := #[.string (bs m)]) (by rfl) rfl Try.func32 (by kernel_rfl) (by kernel_rfl) rfl (fun W hW => sparse_c m W) ?_
  simp only [putT, List.set]
  refine wpV_move (v := .tuple #[fe (sparseN m), .int .i64 (sparseE m)]) (by rfl) rfl rfl ?_
  simp only [putT, List.set]
  refine wpV_extract (v := fe (sparseN m)) (by rfl) rfl rfl rfl ?_
  simp only [putT, List.set]
  refine wpV_extract (v := .int .i64 (sparseE m)) (by rfl) rfl rfl rfl ?_
  simp only [putT, List.set]
  refine wpV_alloc (by rfl) ?_
  refine wpV_nil (hLk.out _ ?_)
  clear hLk Lk
  simp only [List.take, List.drop]
  iterate 5 refine wpN_skip (by rfl) ?_
  refine wpN_new (t := 24) (cs := ([.int .u64 0, .int .u64 0, .int .u64 0, .int .u64 0]).toArray) (by rfl) (fun W => ?_) (fun g15 Hg15 ng15 => ?_)
  · go_simp
  simp only [putT, List.set]
  refine wpN_nil (fun w16 Sw16 hbs => ?_)
  have Bg15 : Blk w16 g15 24 ([.int .u64 0, .int .u64 0, .int .u64 0, .int .u64 0]).toArray := hbs _ (List.mem_cons_self ..)
  clear hbs
  have Ng3_g15 : g3 ≠ g15 := Nat.ne_of_lt (Nat.lt_of_lt_of_le Lg3 Hg15)
  have Ng10_g15 : g10 ≠ g15 := Nat.ne_of_lt (Nat.lt_of_lt_of_le Lg10 Hg15)
  have Gg15 : w.heap.size ≤ g15 := Nat.le_trans BE.size Hg15
  replace Rg3_0 := range_sees Rg3_0 Lg3 Sw16
  replace Tg3 := there_sees Tg3 Lg3 Sw16
  replace Rg10_0 := range_sees Rg10_0 Lg10 Sw16
  replace Tg10 := there_sees Tg10 Lg10 Sw16
  replace Lg3 := Nat.lt_of_lt_of_le Lg3 Sw16.2.2.size
  replace Lg10 := Nat.lt_of_lt_of_le Lg10 Sw16.2.2.size
  replace BE := BE.trans (Sw16.2.2.mono BE.size)
  have Tg15 := blk_there Bg15 (n := 4) (by simp [flen])
  have Rg15_0 := blk_range Bg15 (l := [.int .u64 0, .int .u64 0, .int .u64 0, .int .u64 0]) rfl
  have Lg15 := Bg15.lt
  clear ng15 Bg15
  refine wpL_store (g := g15) (off := 0) (n := 4) (cs := fel (sparseN m)) (by rfl) (by rfl) (by rfl) (by rfl) (by rfl) Tg15 (by simp [flen]) info24 (fel_one _) (fun w17 Pw17 RR TT => ?_)
  replace Rg3_0 := Pw17.range Rg3_0 (.inl Ng3_g15)
  replace Tg3 := Pw17.other_there Tg3 Ng3_g15
  replace Rg10_0 := Pw17.range Rg10_0 (.inl Ng10_g15)
  replace Tg10 := Pw17.other_there Tg10 Ng10_g15
  replace Rg15_0 := RR
  clear RR
  replace Tg15 := TT
  replace Lg3 := Pw17.lt Lg3
  replace Lg10 := Pw17.lt Lg10
  replace Lg15 := Pw17.lt Lg15
  replace BE := Pw17.below BE Gg15
  refine wpL_assign (v := .int .i64 (sparseE m)) (by rfl) (by rfl) (by rfl) ?_
  simp only [putT, List.set]
  refine wpL_nil (no_panic ?_)
  refine hK13 _ _ ?_
  refine wp_seq_k (fun K18 hK18 => ?_)
  refine wp_seq_k (fun K19 hK19 => ?_)
  refine wp_region_grow 9 [] (by kernel_rfl) (by kernel_rfl) (by kernel_rfl) (fun Lk hLk => ?_)
  simp only [List.take, List.drop]
  refine wpV_load (cs := fel x) (by rfl) rfl rfl Rg3_0 Lg3 Try.underlying24 rfl info24 ?_
  simp only [putT, List.set]
  refine wpV_callf (v := .string (bs (bytesN 32 (restS x)))) (args := #[fe x]) (by rfl) rfl Try.func33 (by kernel_rfl) (by kernel_rfl) rfl (fun W hW => sbytes_c hx W) ?_
  simp only [putT, List.set]
  refine wpV_load (cs := fel x) (by rfl) rfl rfl Rg3_0 Lg3 Try.underlying24 rfl info24 ?_
  simp only [putT, List.set]
  refine wpV_callf (v := .string (bs (bytesN 32 (restS x)))) (args := #[fe x]) (by rfl) rfl Try.func34 (by kernel_rfl) (by kernel_rfl) rfl (fun W hW => rbytes05_c hx) ?_
  simp only [putT, List.set]
  refine wpV_binS (v := .bool false) (by rfl) rfl rfl rfl (fun W => (run_neq_bs _ _ _ W).trans (by rw [(decide_eq_false (fun h => h (rfl)) : decide (bytesN 32 (restS x) ≠ bytesN 32 (restS x)) = false)])) ?_
  simp only [putT, List.set]
  refine wpV_move (v := .bool false) (by rfl) rfl rfl ?_
  simp only [putT, List.set]
  refine wpV_callf (v := .bool true) (args := #[]) (by rfl) rfl Try.func16 (by kernel_rfl) (by kernel_rfl) rfl (fun W hW => alive05_c) ?_
  simp only [putT, List.set]
  refine wpV_not (b := true) (by rfl) rfl rfl ?_
  simp only [Bool.not_true, Bool.not_false]
  simp only [putT, List.set]
  refine wpV_pick (v := .bool false) (by rfl) rfl rfl rfl ?_
  simp only [putT, List.set]
  refine wpV_nil (hLk.out _ ?_)
  clear hLk Lk
  simp only [List.take, List.drop]
  iterate 9 refine wpN_skip (by rfl) ?_
  refine wpN_nil (fun w21 Sw21 hbs => ?_)
  clear hbs
  replace Rg3_0 := range_sees Rg3_0 Lg3 Sw21
  replace Tg3 := there_sees Tg3 Lg3 Sw21
  replace Rg10_0 := range_sees Rg10_0 Lg10 Sw21
  replace Tg10 := there_sees Tg10 Lg10 Sw21
  replace Rg15_0 := range_sees Rg15_0 Lg15 Sw21
  replace Tg15 := there_sees Tg15 Lg15 Sw21
  replace Lg3 := Nat.lt_of_lt_of_le Lg3 Sw21.2.2.size
  replace Lg10 := Nat.lt_of_lt_of_le Lg10 Sw21.2.2.size
  replace Lg15 := Nat.lt_of_lt_of_le Lg15 Sw21.2.2.size
  replace BE := BE.trans (Sw21.2.2.mono BE.size)
  refine wpL_nil (no_panic ?_)
  refine hK19 _ _ ?_
  refine wp_cond_false rfl ?_
  refine wp_skip ?_
  refine hK18 _ _ ?_
  refine wp_seq_k (fun K22 hK22 => ?_)
  refine wp_seq_k (fun K23 hK23 => ?_)
  refine wp_region_plain 3 (by kernel_rfl) (fun Lk hLk => ?_)
  simp only [List.take, List.drop]
  refine wpV_move (v := .string (bs m)) (by rfl) rfl rfl ?_
  simp only [putT, List.set]
  refine wpV_lenS (by rfl) rfl rfl rfl Try.underlying9 ?_
  simp only [putT, List.set]
  refine wpV_bin (v := .bool (decide (64 < m.length))) (by rfl) rfl rfl rfl (fun W => run_gtrN m.length 64 _ _ W) ?_
  simp only [putT, List.set]
  refine wpV_nil (hLk.out _ ?_)
  clear hLk Lk
  simp only [List.take, List.drop]
  iterate 3 refine wpN_skip (by rfl) ?_
  refine wpN_nil (fun w25 Sw25 hbs => ?_)
  clear hbs
  replace Rg3_0 := range_sees Rg3_0 Lg3 Sw25
  replace Tg3 := there_sees Tg3 Lg3 Sw25
  replace Rg10_0 := range_sees Rg10_0 Lg10 Sw25
  replace Tg10 := there_sees Tg10 Lg10 Sw25
  replace Rg15_0 := range_sees Rg15_0 Lg15 Sw25
  replace Tg15 := there_sees Tg15 Lg15 Sw25
  replace Lg3 := Nat.lt_of_lt_of_le Lg3 Sw25.2.2.size
  replace Lg10 := Nat.lt_of_lt_of_le Lg10 Sw25.2.2.size
  replace Lg15 := Nat.lt_of_lt_of_le Lg15 Sw25.2.2.size
  replace BE := BE.trans (Sw25.2.2.mono BE.size)
  refine wpL_nil (no_panic ?_)
  refine hK23 _ _ ?_
  cases hc26 : (decide (64 < m.length))
  · skip
    have h64 : ¬ 64 < m.length := of_decide_eq_false hc26
    obtain ⟨q1, q2⟩ := wide_in h64
    refine wp_cond_false rfl ?_
    refine wp_skip ?_
    refine hK22 _ _ ?_
    refine wp_seq_k (fun K27 hK27 => ?_)
    refine wp_seq_k (fun K28 hK28 => ?_)
    refine wp_region_grow 8 [] (by kernel_rfl) (by kernel_rfl) (by kernel_rfl) (fun Lk hLk => ?_)
    simp only [List.take, List.drop]
    refine wpV_move (v := .int .i64 (swideE m)) (by rfl) rfl rfl ?_
    simp only [putT, List.set]
    refine wpV_bin (v := .bool false) (by rfl) rfl rfl rfl (fun W => (run_neq _ _ _ _ W).trans (by rw [(by rw [q2]; rfl : (swideE m != 0) = false)])) ?_
    simp only [putT, List.set]
    refine wpV_move (v := .bool false) (by rfl) rfl rfl ?_
    simp only [putT, List.set]
    refine wpV_load (cs := fel (swideN m)) (by rfl) rfl rfl Rg10_0 Lg10 Try.underlying24 rfl info24 ?_
    simp only [putT, List.set]
    refine wpV_move (v := .string (bs m)) (by rfl) rfl rfl ?_
    simp only [putT, List.set]
    refine wpV_callf (v := fe (restS (leN m))) (args := #[.string (bs m)]) (by rfl) rfl Try.func35 (by kernel_rfl) (by kernel_rfl) rfl (fun W hW => rwide05_c (Nat.le_of_not_lt h64)) ?_
    simp only [putT, List.set]
    refine wpV_val (v := .bool false) (by rfl) (by rfl) (fun W hW => ?_) ?_
    · exact (decide_eq_false (fun h => h (q1)) : decide (swideN m ≠ restS (leN m)) = false) ▸ run_neq_fe (swideN_lt ..) (restS_lt _) Try.underlying24 Try.underlying22 info22 (by kernel_rfl) rfl rfl rfl W
    simp only [putT, List.set]
    refine wpV_pick (v := .bool false) (by rfl) rfl rfl rfl ?_
    simp only [putT, List.set]
    refine wpV_nil (hLk.out _ ?_)
    clear hLk Lk
    simp only [List.take, List.drop]
    iterate 8 refine wpN_skip (by rfl) ?_
    refine wpN_nil (fun w30 Sw30 hbs => ?_)
    clear hbs
    replace Rg3_0 := range_sees Rg3_0 Lg3 Sw30
    replace Tg3 := there_sees Tg3 Lg3 Sw30
    replace Rg10_0 := range_sees Rg10_0 Lg10 Sw30
    replace Tg10 := there_sees Tg10 Lg10 Sw30
    replace Rg15_0 := range_sees Rg15_0 Lg15 Sw30
    replace Tg15 := there_sees Tg15 Lg15 Sw30
    replace Lg3 := Nat.lt_of_lt_of_le Lg3 Sw30.2.2.size
    replace Lg10 := Nat.lt_of_lt_of_le Lg10 Sw30.2.2.size
    replace Lg15 := Nat.lt_of_lt_of_le Lg15 Sw30.2.2.size
    replace BE := BE.trans (Sw30.2.2.mono BE.size)
    refine wpL_nil (no_panic ?_)
    refine hK28 _ _ ?_
    refine wp_cond_false rfl ?_
    refine wp_skip ?_
    refine hK27 _ _ ?_
    refine wp_seq_k (fun K31 hK31 => ?_)
    refine wp_seq_k (fun K32 hK32 => ?_)
    refine wp_region_plain 3 (by kernel_rfl) (fun Lk hLk => ?_)
    simp only [List.take, List.drop]
    refine wpV_move (v := .string (bs m)) (by rfl) rfl rfl ?_
    simp only [putT, List.set]
    refine wpV_lenS (by rfl) rfl rfl rfl Try.underlying9 ?_
    simp only [putT, List.set]
    refine wpV_bin (v := .bool (((m.length : Nat) : Int) != 32)) (by rfl) rfl rfl rfl (fun W => run_neq _ _ _ _ W) ?_
    simp only [putT, List.set]
    refine wpV_nil (hLk.out _ ?_)
    clear hLk Lk
    simp only [List.take, List.drop]
    iterate 3 refine wpN_skip (by rfl) ?_
    refine wpN_nil (fun w34 Sw34 hbs => ?_)
    clear hbs
    replace Rg3_0 := range_sees Rg3_0 Lg3 Sw34
    replace Tg3 := there_sees Tg3 Lg3 Sw34
    replace Rg10_0 := range_sees Rg10_0 Lg10 Sw34
    replace Tg10 := there_sees Tg10 Lg10 Sw34
    replace Rg15_0 := range_sees Rg15_0 Lg15 Sw34
    replace Tg15 := there_sees Tg15 Lg15 Sw34
    replace Lg3 := Nat.lt_of_lt_of_le Lg3 Sw34.2.2.size
    replace Lg10 := Nat.lt_of_lt_of_le Lg10 Sw34.2.2.size
    replace Lg15 := Nat.lt_of_lt_of_le Lg15 Sw34.2.2.size
    replace BE := BE.trans (Sw34.2.2.mono BE.size)
    refine wpL_nil (no_panic ?_)
    refine hK32 _ _ ?_
    cases hc35 : (((m.length : Nat) : Int) != 32)
    · skip
      have h32 : m.length = 32 := by have := bne_eq_false_iff_eq.1 hc35; omega
      refine wp_cond_false rfl ?_
      refine wp_skip ?_
      refine hK31 _ _ ?_
      refine wp_seq_k (fun K36 hK36 => ?_)
      refine wp_seq_k (fun K37 hK37 => ?_)
      refine wp_region_plain 3 (by kernel_rfl) (fun Lk hLk => ?_)
      simp only [List.take, List.drop]
      refine wpV_move (v := .string (bs m)) (by rfl) rfl rfl ?_
      simp only [putT, List.set]
      refine wpV_callf (v := .bool (decide (bytesN 32 (restS (restS (leN m))) = m))) (args := #[.string (bs m)]) (by rfl) rfl Try.func36 (by kernel_rfl) (by kernel_rfl) rfl (fun W hW => rbelow05_c (Nat.le_of_not_lt h64)) ?_
      simp only [putT, List.set]
      refine wpV_not (b := decide (bytesN 32 (restS (restS (leN m))) = m)) (by rfl) rfl rfl ?_
      simp only [putT, List.set]
      refine wpV_nil (hLk.out _ ?_)
      clear hLk Lk
      simp only [List.take, List.drop]
      iterate 3 refine wpN_skip (by rfl) ?_
      refine wpN_nil (fun w39 Sw39 hbs => ?_)
      clear hbs
      replace Rg3_0 := range_sees Rg3_0 Lg3 Sw39
      replace Tg3 := there_sees Tg3 Lg3 Sw39
      replace Rg10_0 := range_sees Rg10_0 Lg10 Sw39
      replace Tg10 := there_sees Tg10 Lg10 Sw39
      replace Rg15_0 := range_sees Rg15_0 Lg15 Sw39
      replace Tg15 := there_sees Tg15 Lg15 Sw39
      replace Lg3 := Nat.lt_of_lt_of_le Lg3 Sw39.2.2.size
      replace Lg10 := Nat.lt_of_lt_of_le Lg10 Sw39.2.2.size
      replace Lg15 := Nat.lt_of_lt_of_le Lg15 Sw39.2.2.size
      replace BE := BE.trans (Sw39.2.2.mono BE.size)
      refine wpL_nil (no_panic ?_)
      refine hK37 _ _ ?_
      cases hc40 : (!(decide (bytesN 32 (restS (restS (leN m))) = m)))
      · skip
        have hb : bytesN 32 (restS (restS (leN m))) = m := by simpa using hc40
        refine wp_cond_false rfl ?_
        refine wp_skip ?_
        refine hK36 _ _ ?_
        refine wp_seq_k (fun K41 hK41 => ?_)
        refine wp_region_plain 7 (by kernel_rfl) (fun Lk hLk => ?_)
        simp only [List.take, List.drop]
        refine wpV_move (v := .int .i64 (sparseE m)) (by rfl) rfl rfl ?_
        simp only [putT, List.set]
        refine wpV_bin (v := .bool true) (by rfl) rfl rfl rfl (fun W => (run_eql _ _ _ _ W).trans (by rw [(by rw [(sp_wide h32 hb).2]; rfl : (sparseE m == 0) = true)])) ?_
        simp only [putT, List.set]
        refine wpV_move (v := .bool true) (by rfl) rfl rfl ?_
        simp only [putT, List.set]
        refine wpV_load (cs := fel (sparseN m)) (by rfl) rfl rfl Rg15_0 Lg15 Try.underlying24 rfl info24 ?_
        simp only [putT, List.set]
        refine wpV_load (cs := fel (swideN m)) (by rfl) rfl rfl Rg10_0 Lg10 Try.underlying24 rfl info24 ?_
        simp only [putT, List.set]
        refine wpV_val (v := .bool true) (by rfl) (by rfl) (fun W hW => ?_) ?_
        · exact (decide_eq_true ((sp_wide h32 hb).1) : decide (sparseN m = swideN m) = true) ▸ run_eql_fe (sparseN_lt ..) (swideN_lt ..) Try.underlying24 Try.underlying22 info22 (by kernel_rfl) rfl rfl rfl W
        simp only [putT, List.set]
        refine wpV_pick (v := .bool true) (by rfl) rfl rfl rfl ?_
        simp only [putT, List.set]
        refine wpV_nil (hLk.out _ ?_)
        clear hLk Lk
        simp only [List.take, List.drop]
        iterate 7 refine wpN_skip (by rfl) ?_
        refine wpN_nil (fun w43 Sw43 hbs => ?_)
        clear hbs
        replace Rg3_0 := range_sees Rg3_0 Lg3 Sw43
        replace Tg3 := there_sees Tg3 Lg3 Sw43
        replace Rg10_0 := range_sees Rg10_0 Lg10 Sw43
        replace Tg10 := there_sees Tg10 Lg10 Sw43
        replace Rg15_0 := range_sees Rg15_0 Lg15 Sw43
        replace Tg15 := there_sees Tg15 Lg15 Sw43
        replace Lg3 := Nat.lt_of_lt_of_le Lg3 Sw43.2.2.size
        replace Lg10 := Nat.lt_of_lt_of_le Lg10 Sw43.2.2.size
        replace Lg15 := Nat.lt_of_lt_of_le Lg15 Sw43.2.2.size
        replace BE := BE.trans (Sw43.2.2.mono BE.size)
        refine wpL_assign (v := .bool true) (by rfl) (by rfl) (by rfl) ?_
        simp only [putT, List.set]
        refine wpL_nil (no_panic ?_)
        refine hK41 _ _ ?_
        refine wp_ret ?_
        repeat (first | with_reducible refine then_ret ?_ | with_reducible refine inblock_ret ?_)
        refine bodyPost_ret (v := .bool true) (res1 rfl (.tmp (by rfl))) rfl ?_
        exact ⟨rfl, BE⟩
      · skip
        have hb : bytesN 32 (restS (restS (leN m))) ≠ m := by simpa using hc40
        refine wp_cond_true rfl ?_
        refine wp_seq_k (fun K44 hK44 => ?_)
        refine wp_region_plain 7 (by kernel_rfl) (fun Lk hLk => ?_)
        simp only [List.take, List.drop]
        refine wpV_move (v := .int .i64 (sparseE m)) (by rfl) rfl rfl ?_
        simp only [putT, List.set]
        refine wpV_bin (v := .bool true) (by rfl) rfl rfl rfl (fun W => (run_eql _ _ _ _ W).trans (by rw [(by rw [(sp1 h32 hb).2]; rfl : (sparseE m == 11) = true)])) ?_
        simp only [putT, List.set]
        refine wpV_move (v := .bool true) (by rfl) rfl rfl ?_
        simp only [putT, List.set]
        refine wpV_load (cs := fel (sparseN m)) (by rfl) rfl rfl Rg15_0 Lg15 Try.underlying24 rfl info24 ?_
        simp only [putT, List.set]
        refine wpV_val (v := fe 0) (by rfl) (by rfl) (fun W hW => ?_) ?_
        · rw [show fe 0 = .agg ([.int .u64 0, .int .u64 0, .int .u64 0, .int .u64 0]).toArray from (by kernel_rfl)]; unfold RunsVal; kernel_rfl
        simp only [putT, List.set]
        refine wpV_val (v := .bool true) (by rfl) (by rfl) (fun W hW => ?_) ?_
        · exact (decide_eq_true ((sp1 h32 hb).1) : decide (sparseN m = 0) = true) ▸ run_eql_fe (sparseN_lt ..) (by decide) Try.underlying24 Try.underlying22 info22 (by kernel_rfl) rfl rfl rfl W
        simp only [putT, List.set]
        refine wpV_pick (v := .bool true) (by rfl) rfl rfl rfl ?_
        simp only [putT, List.set]
        refine wpV_nil (hLk.out _ ?_)
        clear hLk Lk
        simp only [List.take, List.drop]
        iterate 7 refine wpN_skip (by rfl) ?_
        refine wpN_nil (fun w46 Sw46 hbs => ?_)
        clear hbs
        replace Rg3_0 := range_sees Rg3_0 Lg3 Sw46
        replace Tg3 := there_sees Tg3 Lg3 Sw46
        replace Rg10_0 := range_sees Rg10_0 Lg10 Sw46
        replace Tg10 := there_sees Tg10 Lg10 Sw46
        replace Rg15_0 := range_sees Rg15_0 Lg15 Sw46
        replace Tg15 := there_sees Tg15 Lg15 Sw46
        replace Lg3 := Nat.lt_of_lt_of_le Lg3 Sw46.2.2.size
        replace Lg10 := Nat.lt_of_lt_of_le Lg10 Sw46.2.2.size
        replace Lg15 := Nat.lt_of_lt_of_le Lg15 Sw46.2.2.size
        replace BE := BE.trans (Sw46.2.2.mono BE.size)
        refine wpL_assign (v := .bool true) (by rfl) (by rfl) (by rfl) ?_
        simp only [putT, List.set]
        refine wpL_nil (no_panic ?_)
        refine hK44 _ _ ?_
        refine wp_ret ?_
        repeat (first | with_reducible refine then_ret ?_ | with_reducible refine inblock_ret ?_)
        refine bodyPost_ret (v := .bool true) (res1 rfl (.tmp (by rfl))) rfl ?_
        exact ⟨rfl, BE⟩
    · skip
      have h32 : m.length ≠ 32 := by have := bne_iff_ne.1 hc35; omega
      refine wp_cond_true rfl ?_
      refine wp_seq_k (fun K47 hK47 => ?_)
      refine wp_region_plain 7 (by kernel_rfl) (fun Lk hLk => ?_)
      simp only [List.take, List.drop]
      refine wpV_move (v := .int .i64 (sparseE m)) (by rfl) rfl rfl ?_
      simp only [putT, List.set]
      refine wpV_bin (v := .bool true) (by rfl) rfl rfl rfl (fun W => (run_eql _ _ _ _ W).trans (by rw [(by rw [(sp0 h32).2]; rfl : (sparseE m == 1) = true)])) ?_
      simp only [putT, List.set]
      refine wpV_move (v := .bool true) (by rfl) rfl rfl ?_
      simp only [putT, List.set]
      refine wpV_load (cs := fel (sparseN m)) (by rfl) rfl rfl Rg15_0 Lg15 Try.underlying24 rfl info24 ?_
      simp only [putT, List.set]
      refine wpV_val (v := fe 0) (by rfl) (by rfl) (fun W hW => ?_) ?_
      · rw [show fe 0 = .agg ([.int .u64 0, .int .u64 0, .int .u64 0, .int .u64 0]).toArray from (by kernel_rfl)]; unfold RunsVal; kernel_rfl
      simp only [putT, List.set]
      refine wpV_val (v := .bool true) (by rfl) (by rfl) (fun W hW => ?_) ?_
      · exact (decide_eq_true ((sp0 h32).1) : decide (sparseN m = 0) = true) ▸ run_eql_fe (sparseN_lt ..) (by decide) Try.underlying24 Try.underlying22 info22 (by kernel_rfl) rfl rfl rfl W
      simp only [putT, List.set]
      refine wpV_pick (v := .bool true) (by rfl) rfl rfl rfl ?_
      simp only [putT, List.set]
      refine wpV_nil (hLk.out _ ?_)
      clear hLk Lk
      simp only [List.take, List.drop]
      iterate 7 refine wpN_skip (by rfl) ?_
      refine wpN_nil (fun w49 Sw49 hbs => ?_)
      clear hbs
      replace Rg3_0 := range_sees Rg3_0 Lg3 Sw49
      replace Tg3 := there_sees Tg3 Lg3 Sw49
      replace Rg10_0 := range_sees Rg10_0 Lg10 Sw49
      replace Tg10 := there_sees Tg10 Lg10 Sw49
      replace Rg15_0 := range_sees Rg15_0 Lg15 Sw49
      replace Tg15 := there_sees Tg15 Lg15 Sw49
      replace Lg3 := Nat.lt_of_lt_of_le Lg3 Sw49.2.2.size
      replace Lg10 := Nat.lt_of_lt_of_le Lg10 Sw49.2.2.size
      replace Lg15 := Nat.lt_of_lt_of_le Lg15 Sw49.2.2.size
      replace BE := BE.trans (Sw49.2.2.mono BE.size)
      refine wpL_assign (v := .bool true) (by rfl) (by rfl) (by rfl) ?_
      simp only [putT, List.set]
      refine wpL_nil (no_panic ?_)
      refine hK47 _ _ ?_
      refine wp_ret ?_
      repeat (first | with_reducible refine then_ret ?_ | with_reducible refine inblock_ret ?_)
      refine bodyPost_ret (v := .bool true) (res1 rfl (.tmp (by rfl))) rfl ?_
      exact ⟨rfl, BE⟩
  · skip
    have h64 : 64 < m.length := of_decide_eq_true hc26
    obtain ⟨q1, q2, q3, q4⟩ := wide_over h64
    refine wp_cond_true rfl ?_
    refine wp_seq_k (fun K50 hK50 => ?_)
    refine wp_region_plain 16 (by kernel_rfl) (fun Lk hLk => ?_)
    simp only [List.take, List.drop]
    refine wpV_move (v := .int .i64 (swideE m)) (by rfl) rfl rfl ?_
    simp only [putT, List.set]
    refine wpV_bin (v := .bool true) (by rfl) rfl rfl rfl (fun W => (run_eql _ _ _ _ W).trans (by rw [(by rw [q2]; rfl : (swideE m == 1) = true)])) ?_
    simp only [putT, List.set]
    refine wpV_move (v := .bool true) (by rfl) rfl rfl ?_
    simp only [putT, List.set]
    refine wpV_load (cs := fel (swideN m)) (by rfl) rfl rfl Rg10_0 Lg10 Try.underlying24 rfl info24 ?_
    simp only [putT, List.set]
    refine wpV_val (v := fe 0) (by rfl) (by rfl) (fun W hW => ?_) ?_
    · rw [show fe 0 = .agg ([.int .u64 0, .int .u64 0, .int .u64 0, .int .u64 0]).toArray from (by kernel_rfl)]; unfold RunsVal; kernel_rfl
    simp only [putT, List.set]
    refine wpV_val (v := .bool true) (by rfl) (by rfl) (fun W hW => ?_) ?_
    · exact (decide_eq_true (q1) : decide (swideN m = 0) = true) ▸ run_eql_fe (swideN_lt ..) (by decide) Try.underlying24 Try.underlying22 info22 (by kernel_rfl) rfl rfl rfl W
    simp only [putT, List.set]
    refine wpV_pick (v := .bool true) (by rfl) rfl rfl rfl ?_
    simp only [putT, List.set]
    refine wpV_move (v := .bool true) (by rfl) rfl rfl ?_
    simp only [putT, List.set]
    refine wpV_move (v := .int .i64 (sparseE m)) (by rfl) rfl rfl ?_
    simp only [putT, List.set]
    refine wpV_bin (v := .bool true) (by rfl) rfl rfl rfl (fun W => (run_eql _ _ _ _ W).trans (by rw [(by rw [q4]; rfl : (sparseE m == 1) = true)])) ?_
    simp only [putT, List.set]
    refine wpV_pick (v := .bool true) (by rfl) rfl rfl rfl ?_
    simp only [putT, List.set]
    refine wpV_move (v := .bool true) (by rfl) rfl rfl ?_
    simp only [putT, List.set]
    refine wpV_load (cs := fel (sparseN m)) (by rfl) rfl rfl Rg15_0 Lg15 Try.underlying24 rfl info24 ?_
    simp only [putT, List.set]
    refine wpV_load (cs := fel (swideN m)) (by rfl) rfl rfl Rg10_0 Lg10 Try.underlying24 rfl info24 ?_
    simp only [putT, List.set]
    refine wpV_val (v := .bool true) (by rfl) (by rfl) (fun W hW => ?_) ?_
    · exact (decide_eq_true (q3.trans q1.symm) : decide (sparseN m = swideN m) = true) ▸ run_eql_fe (sparseN_lt ..) (swideN_lt ..) Try.underlying24 Try.underlying22 info22 (by kernel_rfl) rfl rfl rfl W
    simp only [putT, List.set]
    refine wpV_pick (v := .bool true) (by rfl) rfl rfl rfl ?_
    simp only [putT, List.set]
    refine wpV_nil (hLk.out _ ?_)
    clear hLk Lk
    simp only [List.take, List.drop]
    iterate 16 refine wpN_skip (by rfl) ?_
    refine wpN_nil (fun w52 Sw52 hbs => ?_)
    clear hbs
    replace Rg3_0 := range_sees Rg3_0 Lg3 Sw52
    replace Tg3 := there_sees Tg3 Lg3 Sw52
    replace Rg10_0 := range_sees Rg10_0 Lg10 Sw52
    replace Tg10 := there_sees Tg10 Lg10 Sw52
    replace Rg15_0 := range_sees Rg15_0 Lg15 Sw52
    replace Tg15 := there_sees Tg15 Lg15 Sw52
    replace Lg3 := Nat.lt_of_lt_of_le Lg3 Sw52.2.2.size
    replace Lg10 := Nat.lt_of_lt_of_le Lg10 Sw52.2.2.size
    replace Lg15 := Nat.lt_of_lt_of_le Lg15 Sw52.2.2.size
    replace BE := BE.trans (Sw52.2.2.mono BE.size)
    refine wpL_assign (v := .bool true) (by rfl) (by rfl) (by rfl) ?_
    simp only [putT, List.set]
    refine wpL_nil (no_panic ?_)
    refine hK50 _ _ ?_
    refine wp_ret ?_
    repeat (first | with_reducible refine then_ret ?_ | with_reducible refine inblock_ret ?_)
    refine bodyPost_ret (v := .bool true) (res1 rfl (.tmp (by rfl))) rfl ?_
    exact ⟨rfl, BE⟩
end Go.Proofs.Ya
