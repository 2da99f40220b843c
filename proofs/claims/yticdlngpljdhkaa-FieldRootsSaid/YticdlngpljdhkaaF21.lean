import Derived.Test.YticdlngpljdhkaaF17
import Derived.Test.YticdlngpljdhkaaNumL
import Derived.Test.YticdlngpljdhkaaNumS
set_option linter.unusedSimpArgs false
set_option linter.unusedVariables false
namespace Go.Proofs.Ya
open Go Go.RowKit Go.Shelf Go.Proofs.Num
theorem rootsq_c (x : Nat) (w : World) :
    Calls Try.prog 42 #[fe (fmul (leastF x) (leastF x))] w fun e w' => e = .returned (.tuple #[fe (fsqrt (fmul (leastF x) (leastF x))).1, .bool true]) ∧ Below w.heap.size w w' := by
  have h := fsqrt_c (fmul_lt (leastF x) (leastF x)) w
  rw [root_sq] at h
  exact h
set_option maxHeartbeats 4000000 in
theorem froots_c {x : Nat} (hx : x < 2 ^ 256) {w : World}  :
    Calls Try.prog 13 #[fe x] w fun e w' => e = .returned (.bool true) ∧ Below w.heap.size w w' := by
  go_enter Try.func13, Try.ntmps13
  have BE := Below.refl w.heap.size w
  refine wp_seq_k (fun K1 hK1 => ?_)
  refine wp_region_plain 1 (by kernel_rfl) (fun Lk hLk => ?_)
  simp only [List.take, List.drop]
  refine wpV_alloc (by rfl) ?_
  refine wpV_nil (hLk.out _ ?_)
  clear hLk Lk
  simp only [List.take, List.drop]
  refine wpN_new (t := 34) (cs := (fel x).toArray) (by rfl) (fun W => ?_) (fun g3 Hg3 ng3 => ?_)
  · (first | rfl | go_simp)
  simp only [putT, List.set]
  refine wpN_nil (fun w4 Sw4 hbs => ?_)
  have Bg3 : Blk w4 g3 34 (fel x).toArray := hbs _ (List.mem_cons_self ..)
  clear hbs
  have Gg3 : w.heap.size ≤ g3 := Nat.le_trans BE.size Hg3
  replace BE := BE.trans (Sw4.2.2.mono BE.size)
  have Tg3 := blk_there Bg3 (n := 4) (by simp [flen])
  have Rg3_0 := blk_range Bg3 (l := fel x) rfl
  have Lg3 := Bg3.lt
  clear ng3 Bg3
  refine wpL_assign (v := .bool false) (by rfl) (by rfl) (by rfl) ?_
  simp only [putT, List.set]
  refine wpL_nil (no_panic ?_)
  refine hK1 _ _ ?_
  refine wp_seq_k (fun K5 hK5 => ?_)
  refine wp_region_plain 2 (by kernel_rfl) (fun Lk hLk => ?_)
  simp only [List.take, List.drop]
  refine wpV_load (cs := fel x) (by rfl) rfl rfl Rg3_0 Lg3 Try.underlying34 rfl info34 ?_
  simp only [putT, List.set]
  refine wpV_callf (v := fe (leastF x)) (args := #[fe x]) (by rfl) rfl Try.func25 (by kernel_rfl) (by kernel_rfl) rfl (fun W hW => rleast04_c hx) ?_
  simp only [putT, List.set]
  refine wpV_nil (hLk.out _ ?_)
  clear hLk Lk
  simp only [List.take, List.drop]
  iterate 2 refine wpN_skip (by rfl) ?_
  refine wpN_nil (fun w7 Sw7 hbs => ?_)
  clear hbs
  replace Rg3_0 := range_sees Rg3_0 Lg3 Sw7
  replace Tg3 := there_sees Tg3 Lg3 Sw7
  replace Lg3 := Nat.lt_of_lt_of_le Lg3 Sw7.2.2.size
  replace BE := BE.trans (Sw7.2.2.mono BE.size)
  refine wpL_store (g := g3) (off := 0) (n := 4) (cs := fel (leastF x)) (by rfl) (by rfl) (by rfl) (by rfl) (by rfl) Tg3 (by simp [flen]) info34 (fel_one _) (fun w8 Pw8 RR TT => ?_)
  replace Rg3_0 := RR
  clear RR
  replace Tg3 := TT
  replace Lg3 := Pw8.lt Lg3
  replace BE := Pw8.below BE Gg3
  refine wpL_nil (no_panic ?_)
  refine hK5 _ _ ?_
  refine wp_seq_k (fun K9 hK9 => ?_)
  refine wp_region_plain 8 (by kernel_rfl) (fun Lk hLk => ?_)
  simp only [List.take, List.drop]
  refine wpV_load (cs := fel (leastF x)) (by rfl) rfl rfl Rg3_0 Lg3 Try.underlying34 rfl info34 ?_
  simp only [putT, List.set]
  refine wpV_load (cs := fel (leastF x)) (by rfl) rfl rfl Rg3_0 Lg3 Try.underlying34 rfl info34 ?_
  simp only [putT, List.set]
  refine wpV_callf (v := fe (fmul (leastF x) (leastF x))) (args := #[fe (leastF x), fe (leastF x)]) (by rfl) rfl Try.func30 (by kernel_rfl) (by kernel_rfl) rfl (fun W hW => fmul_c (leastF_lt ..) (leastF_lt ..) W) ?_
  simp only [putT, List.set]
  refine wpV_callf (v := .tuple #[fe ((fsqrt (fmul (leastF x) (leastF x))).1), .bool true]) (args := #[fe (fmul (leastF x) (leastF x))]) (by rfl) rfl Try.func42 (by kernel_rfl) (by kernel_rfl) rfl (fun W hW => rootsq_c x W) ?_
  simp only [putT, List.set]
  refine wpV_move (v := .tuple #[fe ((fsqrt (fmul (leastF x) (leastF x))).1), .bool true]) (by rfl) rfl rfl ?_
  simp only [putT, List.set]
  refine wpV_extract (v := fe ((fsqrt (fmul (leastF x) (leastF x))).1)) (by rfl) rfl rfl rfl ?_
  simp only [putT, List.set]
  refine wpV_extract (v := .bool true) (by rfl) rfl rfl rfl ?_
  simp only [putT, List.set]
  refine wpV_alloc (by rfl) ?_
  refine wpV_nil (hLk.out _ ?_)
  clear hLk Lk
  simp only [List.take, List.drop]
  iterate 7 refine wpN_skip (by rfl) ?_
  refine wpN_new (t := 34) (cs := ([.int .u64 0, .int .u64 0, .int .u64 0, .int .u64 0]).toArray) (by rfl) (fun W => ?_) (fun g11 Hg11 ng11 => ?_)
  · go_simp
  simp only [putT, List.set]
  refine wpN_nil (fun w12 Sw12 hbs => ?_)
  have Bg11 : Blk w12 g11 34 ([.int .u64 0, .int .u64 0, .int .u64 0, .int .u64 0]).toArray := hbs _ (List.mem_cons_self ..)
  clear hbs
  have Ng3_g11 : g3 ≠ g11 := Nat.ne_of_lt (Nat.lt_of_lt_of_le Lg3 Hg11)
  have Gg11 : w.heap.size ≤ g11 := Nat.le_trans BE.size Hg11
  replace Rg3_0 := range_sees Rg3_0 Lg3 Sw12
  replace Tg3 := there_sees Tg3 Lg3 Sw12
  replace Lg3 := Nat.lt_of_lt_of_le Lg3 Sw12.2.2.size
  replace BE := BE.trans (Sw12.2.2.mono BE.size)
  have Tg11 := blk_there Bg11 (n := 4) (by simp [flen])
  have Rg11_0 := blk_range Bg11 (l := [.int .u64 0, .int .u64 0, .int .u64 0, .int .u64 0]) rfl
  have Lg11 := Bg11.lt
  clear ng11 Bg11
  refine wpL_store (g := g11) (off := 0) (n := 4) (cs := fel ((fsqrt (fmul (leastF x) (leastF x))).1)) (by rfl) (by rfl) (by rfl) (by rfl) (by rfl) Tg11 (by simp [flen]) info34 (fel_one _) (fun w13 Pw13 RR TT => ?_)
  replace Rg3_0 := Pw13.range Rg3_0 (.inl Ng3_g11)
  replace Tg3 := Pw13.other_there Tg3 Ng3_g11
  replace Rg11_0 := RR
  clear RR
  replace Tg11 := TT
  replace Lg3 := Pw13.lt Lg3
  replace Lg11 := Pw13.lt Lg11
  replace BE := Pw13.below BE Gg11
  refine wpL_assign (v := .bool true) (by rfl) (by rfl) (by rfl) ?_
  simp only [putT, List.set]
  refine wpL_nil (no_panic ?_)
  refine hK9 _ _ ?_
  refine wp_seq_k (fun K14 hK14 => ?_)
  refine wp_seq_k (fun K15 hK15 => ?_)
  cases hq16 : decide ((fsqrt (fmul (leastF x) (leastF x))).1 ≠ leastF x)
  · skip
    refine wp_region_plain 24 (by kernel_rfl) (fun Lk hLk => ?_)
    simp only [List.take, List.drop]
    refine wpV_move (v := .bool true) (by rfl) rfl rfl ?_
    simp only [putT, List.set]
    refine wpV_not (b := true) (by rfl) rfl rfl ?_
    simp only [Bool.not_true, Bool.not_false]
    simp only [putT, List.set]
    refine wpV_move (v := .bool false) (by rfl) rfl rfl ?_
    simp only [putT, List.set]
    refine wpV_load (cs := fel ((fsqrt (fmul (leastF x) (leastF x))).1)) (by rfl) rfl rfl Rg11_0 Lg11 Try.underlying34 rfl info34 ?_
    simp only [putT, List.set]
    refine wpV_load (cs := fel (leastF x)) (by rfl) rfl rfl Rg3_0 Lg3 Try.underlying34 rfl info34 ?_
    simp only [putT, List.set]
    refine wpV_val (v := .bool false) (by rfl) (by rfl) (fun W hW => ?_) ?_
    · exact hq16 ▸ run_neq_fe (fsqrt_lt _) (leastF_lt ..) Try.underlying34 Try.underlying22 info22 (by kernel_rfl) rfl rfl rfl W
    simp only [putT, List.set]
    refine wpV_move (v := .bool false) (by rfl) rfl rfl ?_
    simp only [putT, List.set]
    refine wpV_skip (by rfl) (by rfl) ?_
    simp only [putT, List.set]
    refine wpV_skip (by rfl) (by rfl) ?_
    simp only [putT, List.set]
    refine wpV_skip (by rfl) (by rfl) ?_
    simp only [putT, List.set]
    refine wpV_skip (by rfl) (by rfl) ?_
    simp only [putT, List.set]
    refine wpV_skip (by rfl) (by rfl) ?_
    simp only [putT, List.set]
    refine wpV_pick (v := .bool false) (by rfl) rfl rfl rfl ?_
    simp only [putT, List.set]
    refine wpV_pick (v := .bool false) (by rfl) rfl rfl rfl ?_
    simp only [putT, List.set]
    refine wpV_move (v := .bool false) (by rfl) rfl rfl ?_
    simp only [putT, List.set]
    refine wpV_val (v := .pointer (some ⟨g11, 0, none⟩)) (by rfl) (by rfl) (fun W hW => ?_) ?_
    · (go_simp; exact rfl)
    simp only [putT, List.set]
    refine wpV_load1 (v := .int .u64 (limb ((fsqrt (fmul (leastF x) (leastF x))).1) 0)) (by rfl) rfl rfl (range_one (range_sub Rg11_0 0 1 0 (xs := [.int .u64 (limb ((fsqrt (fmul (leastF x) (leastF x))).1) 0)]) rfl rfl)) Lg11 Try.underlying22 rfl ?_
    simp only [putT, List.set]
    refine wpV_bin (v := .int .u64 0) (by rfl) rfl rfl rfl (fun W => run_rem (by decide) (limb_even (fsqrt_even _)) W) ?_
    simp only [putT, List.set]
    refine wpV_bin (v := .bool false) (by rfl) rfl rfl rfl (fun W => run_neq _ _ _ _ W) ?_
    simp only [putT, List.set]
    refine wpV_pick (v := .bool false) (by rfl) rfl rfl rfl ?_
    simp only [putT, List.set]
    refine wpV_move (v := .bool false) (by rfl) rfl rfl ?_
    simp only [putT, List.set]
    refine wpV_callf (v := .bool true) (args := #[]) (by rfl) rfl Try.func22 (by kernel_rfl) (by kernel_rfl) rfl (fun W hW => alive04_c) ?_
    simp only [putT, List.set]
    refine wpV_not (b := true) (by rfl) rfl rfl ?_
    simp only [Bool.not_true, Bool.not_false]
    simp only [putT, List.set]
    refine wpV_pick (v := .bool false) (by rfl) rfl rfl rfl ?_
    simp only [putT, List.set]
    refine wpV_nil (hLk.out _ ?_)
    clear hLk Lk
    simp only [List.take, List.drop]
    iterate 24 refine wpN_skip (by rfl) ?_
    refine wpN_nil (fun w18 Sw18 hbs => ?_)
    clear hbs
    replace Rg3_0 := range_sees Rg3_0 Lg3 Sw18
    replace Tg3 := there_sees Tg3 Lg3 Sw18
    replace Rg11_0 := range_sees Rg11_0 Lg11 Sw18
    replace Tg11 := there_sees Tg11 Lg11 Sw18
    replace Lg3 := Nat.lt_of_lt_of_le Lg3 Sw18.2.2.size
    replace Lg11 := Nat.lt_of_lt_of_le Lg11 Sw18.2.2.size
    replace BE := BE.trans (Sw18.2.2.mono BE.size)
    refine wpL_nil (no_panic ?_)
    refine hK15 _ _ ?_
    refine wp_cond_false rfl ?_
    refine wp_skip ?_
    refine hK14 _ _ ?_
    refine wp_seq_k (fun K19 hK19 => ?_)
    refine wp_region_plain 6 (by kernel_rfl) (fun Lk hLk => ?_)
    simp only [List.take, List.drop]
    refine wpV_load (cs := fel (leastF x)) (by rfl) rfl rfl Rg3_0 Lg3 Try.underlying34 rfl info34 ?_
    simp only [putT, List.set]
    refine wpV_callf (v := .tuple #[fe ((fsqrt (leastF x)).1), .bool ((fsqrt (leastF x)).2)]) (args := #[fe (leastF x)]) (by rfl) rfl Try.func42 (by kernel_rfl) (by kernel_rfl) rfl (fun W hW => fsqrt_c (leastF_lt ..) W) ?_
    simp only [putT, List.set]
    refine wpV_move (v := .tuple #[fe ((fsqrt (leastF x)).1), .bool ((fsqrt (leastF x)).2)]) (by rfl) rfl rfl ?_
    simp only [putT, List.set]
    refine wpV_extract (v := fe ((fsqrt (leastF x)).1)) (by rfl) rfl rfl rfl ?_
    simp only [putT, List.set]
    refine wpV_extract (v := .bool ((fsqrt (leastF x)).2)) (by rfl) rfl rfl rfl ?_
    simp only [putT, List.set]
    refine wpV_alloc (by rfl) ?_
    refine wpV_nil (hLk.out _ ?_)
    clear hLk Lk
    simp only [List.take, List.drop]
    iterate 5 refine wpN_skip (by rfl) ?_
    refine wpN_new (t := 34) (cs := ([.int .u64 0, .int .u64 0, .int .u64 0, .int .u64 0]).toArray) (by rfl) (fun W => ?_) (fun g21 Hg21 ng21 => ?_)
    · go_simp
    simp only [putT, List.set]
    refine wpN_nil (fun w22 Sw22 hbs => ?_)
    have Bg21 : Blk w22 g21 34 ([.int .u64 0, .int .u64 0, .int .u64 0, .int .u64 0]).toArray := hbs _ (List.mem_cons_self ..)
    clear hbs
    have Ng3_g21 : g3 ≠ g21 := Nat.ne_of_lt (Nat.lt_of_lt_of_le Lg3 Hg21)
    have Ng11_g21 : g11 ≠ g21 := Nat.ne_of_lt (Nat.lt_of_lt_of_le Lg11 Hg21)
    have Gg21 : w.heap.size ≤ g21 := Nat.le_trans BE.size Hg21
    replace Rg3_0 := range_sees Rg3_0 Lg3 Sw22
    replace Tg3 := there_sees Tg3 Lg3 Sw22
    replace Rg11_0 := range_sees Rg11_0 Lg11 Sw22
    replace Tg11 := there_sees Tg11 Lg11 Sw22
    replace Lg3 := Nat.lt_of_lt_of_le Lg3 Sw22.2.2.size
    replace Lg11 := Nat.lt_of_lt_of_le Lg11 Sw22.2.2.size
    replace BE := BE.trans (Sw22.2.2.mono BE.size)
    have Tg21 := blk_there Bg21 (n := 4) (by simp [flen])
    have Rg21_0 := blk_range Bg21 (l := [.int .u64 0, .int .u64 0, .int .u64 0, .int .u64 0]) rfl
    have Lg21 := Bg21.lt
    clear ng21 Bg21
    refine wpL_store (g := g21) (off := 0) (n := 4) (cs := fel ((fsqrt (leastF x)).1)) (by rfl) (by rfl) (by rfl) (by rfl) (by rfl) Tg21 (by simp [flen]) info34 (fel_one _) (fun w23 Pw23 RR TT => ?_)
    replace Rg3_0 := Pw23.range Rg3_0 (.inl Ng3_g21)
    replace Tg3 := Pw23.other_there Tg3 Ng3_g21
    replace Rg11_0 := Pw23.range Rg11_0 (.inl Ng11_g21)
    replace Tg11 := Pw23.other_there Tg11 Ng11_g21
    replace Rg21_0 := RR
    clear RR
    replace Tg21 := TT
    replace Lg3 := Pw23.lt Lg3
    replace Lg11 := Pw23.lt Lg11
    replace Lg21 := Pw23.lt Lg21
    replace BE := Pw23.below BE Gg21
    refine wpL_assign (v := .bool ((fsqrt (leastF x)).2)) (by rfl) (by rfl) (by rfl) ?_
    simp only [putT, List.set]
    refine wpL_nil (no_panic ?_)
    refine hK19 _ _ ?_
    refine wp_seq_k (fun K24 hK24 => ?_)
    refine wp_region_plain 8 (by kernel_rfl) (fun Lk hLk => ?_)
    simp only [List.take, List.drop]
    refine wpV_load (cs := fel (leastF x)) (by rfl) rfl rfl Rg3_0 Lg3 Try.underlying34 rfl info34 ?_
    simp only [putT, List.set]
    refine wpV_load (cs := fel (leastF x)) (by rfl) rfl rfl Rg3_0 Lg3 Try.underlying34 rfl info34 ?_
    simp only [putT, List.set]
    refine wpV_callf (v := fe (fadd (leastF x) (leastF x))) (args := #[fe (leastF x), fe (leastF x)]) (by rfl) rfl Try.func26 (by kernel_rfl) (by kernel_rfl) rfl (fun W hW => fadd_c (leastF_lt ..) (leastF_lt ..) W) ?_
    simp only [putT, List.set]
    refine wpV_callf (v := .tuple #[fe ((fsqrt (fadd (leastF x) (leastF x))).1), .bool ((fsqrt (fadd (leastF x) (leastF x))).2)]) (args := #[fe (fadd (leastF x) (leastF x))]) (by rfl) rfl Try.func42 (by kernel_rfl) (by kernel_rfl) rfl (fun W hW => fsqrt_c (fadd_lt ..) W) ?_
    simp only [putT, List.set]
    refine wpV_move (v := .tuple #[fe ((fsqrt (fadd (leastF x) (leastF x))).1), .bool ((fsqrt (fadd (leastF x) (leastF x))).2)]) (by rfl) rfl rfl ?_
    simp only [putT, List.set]
    refine wpV_extract (v := fe ((fsqrt (fadd (leastF x) (leastF x))).1)) (by rfl) rfl rfl rfl ?_
    simp only [putT, List.set]
    refine wpV_extract (v := .bool ((fsqrt (fadd (leastF x) (leastF x))).2)) (by rfl) rfl rfl rfl ?_
    simp only [putT, List.set]
    refine wpV_alloc (by rfl) ?_
    refine wpV_nil (hLk.out _ ?_)
    clear hLk Lk
    simp only [List.take, List.drop]
    iterate 7 refine wpN_skip (by rfl) ?_
    refine wpN_new (t := 34) (cs := ([.int .u64 0, .int .u64 0, .int .u64 0, .int .u64 0]).toArray) (by rfl) (fun W => ?_) (fun g26 Hg26 ng26 => ?_)
    · go_simp
    simp only [putT, List.set]
    refine wpN_nil (fun w27 Sw27 hbs => ?_)
    have Bg26 : Blk w27 g26 34 ([.int .u64 0, .int .u64 0, .int .u64 0, .int .u64 0]).toArray := hbs _ (List.mem_cons_self ..)
    clear hbs
    have Ng3_g26 : g3 ≠ g26 := Nat.ne_of_lt (Nat.lt_of_lt_of_le Lg3 Hg26)
    have Ng11_g26 : g11 ≠ g26 := Nat.ne_of_lt (Nat.lt_of_lt_of_le Lg11 Hg26)
    have Ng21_g26 : g21 ≠ g26 := Nat.ne_of_lt (Nat.lt_of_lt_of_le Lg21 Hg26)
    have Gg26 : w.heap.size ≤ g26 := Nat.le_trans BE.size Hg26
    replace Rg3_0 := range_sees Rg3_0 Lg3 Sw27
    replace Tg3 := there_sees Tg3 Lg3 Sw27
    replace Rg11_0 := range_sees Rg11_0 Lg11 Sw27
    replace Tg11 := there_sees Tg11 Lg11 Sw27
    replace Rg21_0 := range_sees Rg21_0 Lg21 Sw27
    replace Tg21 := there_sees Tg21 Lg21 Sw27
    replace Lg3 := Nat.lt_of_lt_of_le Lg3 Sw27.2.2.size
    replace Lg11 := Nat.lt_of_lt_of_le Lg11 Sw27.2.2.size
    replace Lg21 := Nat.lt_of_lt_of_le Lg21 Sw27.2.2.size
    replace BE := BE.trans (Sw27.2.2.mono BE.size)
    have Tg26 := blk_there Bg26 (n := 4) (by simp [flen])
    have Rg26_0 := blk_range Bg26 (l := [.int .u64 0, .int .u64 0, .int .u64 0, .int .u64 0]) rfl
    have Lg26 := Bg26.lt
    clear ng26 Bg26
    refine wpL_store (g := g26) (off := 0) (n := 4) (cs := fel ((fsqrt (fadd (leastF x) (leastF x))).1)) (by rfl) (by rfl) (by rfl) (by rfl) (by rfl) Tg26 (by simp [flen]) info34 (fel_one _) (fun w28 Pw28 RR TT => ?_)
    replace Rg3_0 := Pw28.range Rg3_0 (.inl Ng3_g26)
    replace Tg3 := Pw28.other_there Tg3 Ng3_g26
    replace Rg11_0 := Pw28.range Rg11_0 (.inl Ng11_g26)
    replace Tg11 := Pw28.other_there Tg11 Ng11_g26
    replace Rg21_0 := Pw28.range Rg21_0 (.inl Ng21_g26)
    replace Tg21 := Pw28.other_there Tg21 Ng21_g26
    replace Rg26_0 := RR
    clear RR
    replace Tg26 := TT
    replace Lg3 := Pw28.lt Lg3
    replace Lg11 := Pw28.lt Lg11
    replace Lg21 := Pw28.lt Lg21
    replace Lg26 := Pw28.lt Lg26
    replace BE := Pw28.below BE Gg26
    refine wpL_assign (v := .bool ((fsqrt (fadd (leastF x) (leastF x))).2)) (by rfl) (by rfl) (by rfl) ?_
    simp only [putT, List.set]
    refine wpL_nil (no_panic ?_)
    refine hK24 _ _ ?_
    refine wp_seq_k (fun K29 hK29 => ?_)
    refine wp_seq_k (fun K30 hK30 => ?_)
    refine wp_region_plain 3 (by kernel_rfl) (fun Lk hLk => ?_)
    simp only [List.take, List.drop]
    refine wpV_load (cs := fel (leastF x)) (by rfl) rfl rfl Rg3_0 Lg3 Try.underlying34 rfl info34 ?_
    simp only [putT, List.set]
    refine wpV_val (v := fe 0) (by rfl) (by rfl) (fun W hW => ?_) ?_
    · rw [show fe 0 = .agg ([.int .u64 0, .int .u64 0, .int .u64 0, .int .u64 0]).toArray from (by kernel_rfl)]; unfold RunsVal; kernel_rfl
    simp only [putT, List.set]
    refine wpV_val (v := .bool (decide (leastF x = 0))) (by rfl) (by rfl) (fun W hW => ?_) ?_
    · exact run_eql_fe (leastF_lt ..) (by decide) Try.underlying34 Try.underlying22 info22 (by kernel_rfl) rfl rfl rfl W
    simp only [putT, List.set]
    refine wpV_nil (hLk.out _ ?_)
    clear hLk Lk
    simp only [List.take, List.drop]
    iterate 3 refine wpN_skip (by rfl) ?_
    refine wpN_nil (fun w32 Sw32 hbs => ?_)
    clear hbs
    replace Rg3_0 := range_sees Rg3_0 Lg3 Sw32
    replace Tg3 := there_sees Tg3 Lg3 Sw32
    replace Rg11_0 := range_sees Rg11_0 Lg11 Sw32
    replace Tg11 := there_sees Tg11 Lg11 Sw32
    replace Rg21_0 := range_sees Rg21_0 Lg21 Sw32
    replace Tg21 := there_sees Tg21 Lg21 Sw32
    replace Rg26_0 := range_sees Rg26_0 Lg26 Sw32
    replace Tg26 := there_sees Tg26 Lg26 Sw32
    replace Lg3 := Nat.lt_of_lt_of_le Lg3 Sw32.2.2.size
    replace Lg11 := Nat.lt_of_lt_of_le Lg11 Sw32.2.2.size
    replace Lg21 := Nat.lt_of_lt_of_le Lg21 Sw32.2.2.size
    replace Lg26 := Nat.lt_of_lt_of_le Lg26 Sw32.2.2.size
    replace BE := BE.trans (Sw32.2.2.mono BE.size)
    refine wpL_nil (no_panic ?_)
    refine hK30 _ _ ?_
    cases hc33 : (decide (leastF x = 0))
    · skip
      have e0 : leastF x ≠ 0 := of_decide_eq_false hc33
      have e2 := root_one e0
      rw [e2]
      refine wp_cond_false rfl ?_
      refine wp_skip ?_
      refine hK29 _ _ ?_
      refine wp_seq_k (fun K34 hK34 => ?_)
      refine wp_seq_k (fun K35 hK35 => ?_)
      cases e1 : (fsqrt (leastF x)).2
      · skip
        rw [e1] at e2
        rw [Bool.not_false] at e2 ⊢
        refine wp_region_plain 3 (by kernel_rfl) (fun Lk hLk => ?_)
        simp only [List.take, List.drop]
        refine wpV_move (v := .bool false) (by rfl) rfl rfl ?_
        simp only [putT, List.set]
        refine wpV_move (v := .bool true) (by rfl) rfl rfl ?_
        simp only [putT, List.set]
        refine wpV_val (v := .bool false) (by rfl) (by rfl) (fun W hW => ?_) ?_
        · (go_simp; exact rfl)
        simp only [putT, List.set]
        refine wpV_nil (hLk.out _ ?_)
        clear hLk Lk
        simp only [List.take, List.drop]
        iterate 3 refine wpN_skip (by rfl) ?_
        refine wpN_nil (fun w37 Sw37 hbs => ?_)
        clear hbs
        replace Rg3_0 := range_sees Rg3_0 Lg3 Sw37
        replace Tg3 := there_sees Tg3 Lg3 Sw37
        replace Rg11_0 := range_sees Rg11_0 Lg11 Sw37
        replace Tg11 := there_sees Tg11 Lg11 Sw37
        replace Rg21_0 := range_sees Rg21_0 Lg21 Sw37
        replace Tg21 := there_sees Tg21 Lg21 Sw37
        replace Rg26_0 := range_sees Rg26_0 Lg26 Sw37
        replace Tg26 := there_sees Tg26 Lg26 Sw37
        replace Lg3 := Nat.lt_of_lt_of_le Lg3 Sw37.2.2.size
        replace Lg11 := Nat.lt_of_lt_of_le Lg11 Sw37.2.2.size
        replace Lg21 := Nat.lt_of_lt_of_le Lg21 Sw37.2.2.size
        replace Lg26 := Nat.lt_of_lt_of_le Lg26 Sw37.2.2.size
        replace BE := BE.trans (Sw37.2.2.mono BE.size)
        refine wpL_nil (no_panic ?_)
        refine hK35 _ _ ?_
        refine wp_cond_false rfl ?_
        refine wp_skip ?_
        refine hK34 _ _ ?_
        refine wp_seq_k (fun K38 hK38 => ?_)
        refine wp_seq_k (fun K39 hK39 => ?_)
        refine wp_region_plain 1 (by kernel_rfl) (fun Lk hLk => ?_)
        simp only [List.take, List.drop]
        refine wpV_move (v := .bool false) (by rfl) rfl rfl ?_
        simp only [putT, List.set]
        refine wpV_nil (hLk.out _ ?_)
        clear hLk Lk
        simp only [List.take, List.drop]
        iterate 1 refine wpN_skip (by rfl) ?_
        refine wpN_nil (fun w41 Sw41 hbs => ?_)
        clear hbs
        replace Rg3_0 := range_sees Rg3_0 Lg3 Sw41
        replace Tg3 := there_sees Tg3 Lg3 Sw41
        replace Rg11_0 := range_sees Rg11_0 Lg11 Sw41
        replace Tg11 := there_sees Tg11 Lg11 Sw41
        replace Rg21_0 := range_sees Rg21_0 Lg21 Sw41
        replace Tg21 := there_sees Tg21 Lg21 Sw41
        replace Rg26_0 := range_sees Rg26_0 Lg26 Sw41
        replace Tg26 := there_sees Tg26 Lg26 Sw41
        replace Lg3 := Nat.lt_of_lt_of_le Lg3 Sw41.2.2.size
        replace Lg11 := Nat.lt_of_lt_of_le Lg11 Sw41.2.2.size
        replace Lg21 := Nat.lt_of_lt_of_le Lg21 Sw41.2.2.size
        replace Lg26 := Nat.lt_of_lt_of_le Lg26 Sw41.2.2.size
        replace BE := BE.trans (Sw41.2.2.mono BE.size)
        refine wpL_nil (no_panic ?_)
        refine hK39 _ _ ?_
        refine wp_cond_false rfl ?_
        refine wp_skip ?_
        refine hK38 _ _ ?_
        refine wp_seq_k (fun K42 hK42 => ?_)
        refine wp_region_grow 18 [] (by kernel_rfl) (by kernel_rfl) (by kernel_rfl) (fun Lk hLk => ?_)
        simp only [List.take, List.drop]
        refine wpV_load (cs := fel ((fsqrt (fadd (leastF x) (leastF x))).1)) (by rfl) rfl rfl Rg26_0 Lg26 Try.underlying34 rfl info34 ?_
        simp only [putT, List.set]
        refine wpV_load (cs := fel ((fsqrt (fadd (leastF x) (leastF x))).1)) (by rfl) rfl rfl Rg26_0 Lg26 Try.underlying34 rfl info34 ?_
        simp only [putT, List.set]
        refine wpV_callf (v := fe (fmul ((fsqrt (fadd (leastF x) (leastF x))).1) ((fsqrt (fadd (leastF x) (leastF x))).1))) (args := #[fe ((fsqrt (fadd (leastF x) (leastF x))).1), fe ((fsqrt (fadd (leastF x) (leastF x))).1)]) (by rfl) rfl Try.func30 (by kernel_rfl) (by kernel_rfl) rfl (fun W hW => fmul_c (fsqrt_lt _) (fsqrt_lt _) W) ?_
        simp only [putT, List.set]
        refine wpV_load (cs := fel (leastF x)) (by rfl) rfl rfl Rg3_0 Lg3 Try.underlying34 rfl info34 ?_
        simp only [putT, List.set]
        refine wpV_load (cs := fel (leastF x)) (by rfl) rfl rfl Rg3_0 Lg3 Try.underlying34 rfl info34 ?_
        simp only [putT, List.set]
        refine wpV_callf (v := fe (fadd (leastF x) (leastF x))) (args := #[fe (leastF x), fe (leastF x)]) (by rfl) rfl Try.func26 (by kernel_rfl) (by kernel_rfl) rfl (fun W hW => fadd_c (leastF_lt ..) (leastF_lt ..) W) ?_
        simp only [putT, List.set]
        refine wpV_val (v := .bool true) (by rfl) (by rfl) (fun W hW => ?_) ?_
        · exact (decide_eq_true ((fsqrt_sq e2).trans (leastF_of_lt (fadd_ltp ..))) : decide (fmul ((fsqrt (fadd (leastF x) (leastF x))).1) ((fsqrt (fadd (leastF x) (leastF x))).1) = fadd (leastF x) (leastF x)) = true) ▸ run_eql_fe (fmul_lt ..) (fadd_lt ..) Try.underlying34 Try.underlying22 info22 (by kernel_rfl) rfl rfl rfl W
        simp only [putT, List.set]
        refine wpV_move (v := .bool true) (by rfl) rfl rfl ?_
        simp only [putT, List.set]
        refine wpV_load (cs := fel ((fsqrt (leastF x)).1)) (by rfl) rfl rfl Rg21_0 Lg21 Try.underlying34 rfl info34 ?_
        simp only [putT, List.set]
        refine wpV_val (v := fe 0) (by rfl) (by rfl) (fun W hW => ?_) ?_
        · rw [show fe 0 = .agg ([.int .u64 0, .int .u64 0, .int .u64 0, .int .u64 0]).toArray from (by kernel_rfl)]; unfold RunsVal; kernel_rfl
        simp only [putT, List.set]
        refine wpV_val (v := .bool true) (by rfl) (by rfl) (fun W hW => ?_) ?_
        · exact (decide_eq_true (fsqrt_none e1) : decide ((fsqrt (leastF x)).1 = 0) = true) ▸ run_eql_fe (fsqrt_lt _) (by decide) Try.underlying34 Try.underlying22 info22 (by kernel_rfl) rfl rfl rfl W
        simp only [putT, List.set]
        refine wpV_pick (v := .bool true) (by rfl) rfl rfl rfl ?_
        simp only [putT, List.set]
        refine wpV_move (v := .bool true) (by rfl) rfl rfl ?_
        simp only [putT, List.set]
        refine wpV_val (v := .pointer (some ⟨g26, 0, none⟩)) (by rfl) (by rfl) (fun W hW => ?_) ?_
        · (go_simp; exact rfl)
        simp only [putT, List.set]
        refine wpV_load1 (v := .int .u64 (limb ((fsqrt (fadd (leastF x) (leastF x))).1) 0)) (by rfl) rfl rfl (range_one (range_sub Rg26_0 0 1 0 (xs := [.int .u64 (limb ((fsqrt (fadd (leastF x) (leastF x))).1) 0)]) rfl rfl)) Lg26 Try.underlying22 rfl ?_
        simp only [putT, List.set]
        refine wpV_bin (v := .int .u64 0) (by rfl) rfl rfl rfl (fun W => run_rem (by decide) (limb_even (fsqrt_even _)) W) ?_
        simp only [putT, List.set]
        refine wpV_bin (v := .bool true) (by rfl) rfl rfl rfl (fun W => run_eql _ _ _ _ W) ?_
        simp only [putT, List.set]
        refine wpV_pick (v := .bool true) (by rfl) rfl rfl rfl ?_
        simp only [putT, List.set]
        refine wpV_nil (hLk.out _ ?_)
        clear hLk Lk
        simp only [List.take, List.drop]
        iterate 18 refine wpN_skip (by rfl) ?_
        refine wpN_nil (fun w44 Sw44 hbs => ?_)
        clear hbs
        replace Rg3_0 := range_sees Rg3_0 Lg3 Sw44
        replace Tg3 := there_sees Tg3 Lg3 Sw44
        replace Rg11_0 := range_sees Rg11_0 Lg11 Sw44
        replace Tg11 := there_sees Tg11 Lg11 Sw44
        replace Rg21_0 := range_sees Rg21_0 Lg21 Sw44
        replace Tg21 := there_sees Tg21 Lg21 Sw44
        replace Rg26_0 := range_sees Rg26_0 Lg26 Sw44
        replace Tg26 := there_sees Tg26 Lg26 Sw44
        replace Lg3 := Nat.lt_of_lt_of_le Lg3 Sw44.2.2.size
        replace Lg11 := Nat.lt_of_lt_of_le Lg11 Sw44.2.2.size
        replace Lg21 := Nat.lt_of_lt_of_le Lg21 Sw44.2.2.size
        replace Lg26 := Nat.lt_of_lt_of_le Lg26 Sw44.2.2.size
        replace BE := BE.trans (Sw44.2.2.mono BE.size)
        refine wpL_assign (v := .bool true) (by rfl) (by rfl) (by rfl) ?_
        simp only [putT, List.set]
        refine wpL_nil (no_panic ?_)
        refine hK42 _ _ ?_
        refine wp_ret ?_
        repeat (first | with_reducible refine then_ret ?_ | with_reducible refine inblock_ret ?_)
        refine bodyPost_ret (v := .bool true) (res1 rfl (.tmp (by rfl))) rfl ?_
        exact ⟨rfl, BE⟩
      · skip
        rw [e1] at e2
        rw [Bool.not_true] at e2 ⊢
        refine wp_region_plain 3 (by kernel_rfl) (fun Lk hLk => ?_)
        simp only [List.take, List.drop]
        refine wpV_move (v := .bool true) (by rfl) rfl rfl ?_
        simp only [putT, List.set]
        refine wpV_move (v := .bool false) (by rfl) rfl rfl ?_
        simp only [putT, List.set]
        refine wpV_val (v := .bool false) (by rfl) (by rfl) (fun W hW => ?_) ?_
        · (go_simp; exact rfl)
        simp only [putT, List.set]
        refine wpV_nil (hLk.out _ ?_)
        clear hLk Lk
        simp only [List.take, List.drop]
        iterate 3 refine wpN_skip (by rfl) ?_
        refine wpN_nil (fun w46 Sw46 hbs => ?_)
        clear hbs
        replace Rg3_0 := range_sees Rg3_0 Lg3 Sw46
        replace Tg3 := there_sees Tg3 Lg3 Sw46
        replace Rg11_0 := range_sees Rg11_0 Lg11 Sw46
        replace Tg11 := there_sees Tg11 Lg11 Sw46
        replace Rg21_0 := range_sees Rg21_0 Lg21 Sw46
        replace Tg21 := there_sees Tg21 Lg21 Sw46
        replace Rg26_0 := range_sees Rg26_0 Lg26 Sw46
        replace Tg26 := there_sees Tg26 Lg26 Sw46
        replace Lg3 := Nat.lt_of_lt_of_le Lg3 Sw46.2.2.size
        replace Lg11 := Nat.lt_of_lt_of_le Lg11 Sw46.2.2.size
        replace Lg21 := Nat.lt_of_lt_of_le Lg21 Sw46.2.2.size
        replace Lg26 := Nat.lt_of_lt_of_le Lg26 Sw46.2.2.size
        replace BE := BE.trans (Sw46.2.2.mono BE.size)
        refine wpL_nil (no_panic ?_)
        refine hK35 _ _ ?_
        refine wp_cond_false rfl ?_
        refine wp_skip ?_
        refine hK34 _ _ ?_
        refine wp_seq_k (fun K47 hK47 => ?_)
        refine wp_seq_k (fun K48 hK48 => ?_)
        refine wp_region_plain 1 (by kernel_rfl) (fun Lk hLk => ?_)
        simp only [List.take, List.drop]
        refine wpV_move (v := .bool true) (by rfl) rfl rfl ?_
        simp only [putT, List.set]
        refine wpV_nil (hLk.out _ ?_)
        clear hLk Lk
        simp only [List.take, List.drop]
        iterate 1 refine wpN_skip (by rfl) ?_
        refine wpN_nil (fun w50 Sw50 hbs => ?_)
        clear hbs
        replace Rg3_0 := range_sees Rg3_0 Lg3 Sw50
        replace Tg3 := there_sees Tg3 Lg3 Sw50
        replace Rg11_0 := range_sees Rg11_0 Lg11 Sw50
        replace Tg11 := there_sees Tg11 Lg11 Sw50
        replace Rg21_0 := range_sees Rg21_0 Lg21 Sw50
        replace Tg21 := there_sees Tg21 Lg21 Sw50
        replace Rg26_0 := range_sees Rg26_0 Lg26 Sw50
        replace Tg26 := there_sees Tg26 Lg26 Sw50
        replace Lg3 := Nat.lt_of_lt_of_le Lg3 Sw50.2.2.size
        replace Lg11 := Nat.lt_of_lt_of_le Lg11 Sw50.2.2.size
        replace Lg21 := Nat.lt_of_lt_of_le Lg21 Sw50.2.2.size
        replace Lg26 := Nat.lt_of_lt_of_le Lg26 Sw50.2.2.size
        replace BE := BE.trans (Sw50.2.2.mono BE.size)
        refine wpL_nil (no_panic ?_)
        refine hK48 _ _ ?_
        refine wp_cond_true rfl ?_
        refine wp_seq_k (fun K51 hK51 => ?_)
        refine wp_region_grow 16 [] (by kernel_rfl) (by kernel_rfl) (by kernel_rfl) (fun Lk hLk => ?_)
        simp only [List.take, List.drop]
        refine wpV_load (cs := fel ((fsqrt (leastF x)).1)) (by rfl) rfl rfl Rg21_0 Lg21 Try.underlying34 rfl info34 ?_
        simp only [putT, List.set]
        refine wpV_load (cs := fel ((fsqrt (leastF x)).1)) (by rfl) rfl rfl Rg21_0 Lg21 Try.underlying34 rfl info34 ?_
        simp only [putT, List.set]
        refine wpV_callf (v := fe (fmul ((fsqrt (leastF x)).1) ((fsqrt (leastF x)).1))) (args := #[fe ((fsqrt (leastF x)).1), fe ((fsqrt (leastF x)).1)]) (by rfl) rfl Try.func30 (by kernel_rfl) (by kernel_rfl) rfl (fun W hW => fmul_c (fsqrt_lt _) (fsqrt_lt _) W) ?_
        simp only [putT, List.set]
        refine wpV_load (cs := fel (leastF x)) (by rfl) rfl rfl Rg3_0 Lg3 Try.underlying34 rfl info34 ?_
        simp only [putT, List.set]
        refine wpV_val (v := .bool true) (by rfl) (by rfl) (fun W hW => ?_) ?_
        · exact (decide_eq_true ((fsqrt_sq e1).trans (leastF_least x)) : decide (fmul ((fsqrt (leastF x)).1) ((fsqrt (leastF x)).1) = leastF x) = true) ▸ run_eql_fe (fmul_lt ..) (leastF_lt ..) Try.underlying34 Try.underlying22 info22 (by kernel_rfl) rfl rfl rfl W
        simp only [putT, List.set]
        refine wpV_move (v := .bool true) (by rfl) rfl rfl ?_
        simp only [putT, List.set]
        refine wpV_load (cs := fel ((fsqrt (fadd (leastF x) (leastF x))).1)) (by rfl) rfl rfl Rg26_0 Lg26 Try.underlying34 rfl info34 ?_
        simp only [putT, List.set]
        refine wpV_val (v := fe 0) (by rfl) (by rfl) (fun W hW => ?_) ?_
        · rw [show fe 0 = .agg ([.int .u64 0, .int .u64 0, .int .u64 0, .int .u64 0]).toArray from (by kernel_rfl)]; unfold RunsVal; kernel_rfl
        simp only [putT, List.set]
        refine wpV_val (v := .bool true) (by rfl) (by rfl) (fun W hW => ?_) ?_
        · exact (decide_eq_true (fsqrt_none e2) : decide ((fsqrt (fadd (leastF x) (leastF x))).1 = 0) = true) ▸ run_eql_fe (fsqrt_lt _) (by decide) Try.underlying34 Try.underlying22 info22 (by kernel_rfl) rfl rfl rfl W
        simp only [putT, List.set]
        refine wpV_pick (v := .bool true) (by rfl) rfl rfl rfl ?_
        simp only [putT, List.set]
        refine wpV_move (v := .bool true) (by rfl) rfl rfl ?_
        simp only [putT, List.set]
        refine wpV_val (v := .pointer (some ⟨g21, 0, none⟩)) (by rfl) (by rfl) (fun W hW => ?_) ?_
        · (go_simp; exact rfl)
        simp only [putT, List.set]
        refine wpV_load1 (v := .int .u64 (limb ((fsqrt (leastF x)).1) 0)) (by rfl) rfl rfl (range_one (range_sub Rg21_0 0 1 0 (xs := [.int .u64 (limb ((fsqrt (leastF x)).1) 0)]) rfl rfl)) Lg21 Try.underlying22 rfl ?_
        simp only [putT, List.set]
        refine wpV_bin (v := .int .u64 0) (by rfl) rfl rfl rfl (fun W => run_rem (by decide) (limb_even (fsqrt_even _)) W) ?_
        simp only [putT, List.set]
        refine wpV_bin (v := .bool true) (by rfl) rfl rfl rfl (fun W => run_eql _ _ _ _ W) ?_
        simp only [putT, List.set]
        refine wpV_pick (v := .bool true) (by rfl) rfl rfl rfl ?_
        simp only [putT, List.set]
        refine wpV_nil (hLk.out _ ?_)
        clear hLk Lk
        simp only [List.take, List.drop]
        iterate 16 refine wpN_skip (by rfl) ?_
        refine wpN_nil (fun w53 Sw53 hbs => ?_)
        clear hbs
        replace Rg3_0 := range_sees Rg3_0 Lg3 Sw53
        replace Tg3 := there_sees Tg3 Lg3 Sw53
        replace Rg11_0 := range_sees Rg11_0 Lg11 Sw53
        replace Tg11 := there_sees Tg11 Lg11 Sw53
        replace Rg21_0 := range_sees Rg21_0 Lg21 Sw53
        replace Tg21 := there_sees Tg21 Lg21 Sw53
        replace Rg26_0 := range_sees Rg26_0 Lg26 Sw53
        replace Tg26 := there_sees Tg26 Lg26 Sw53
        replace Lg3 := Nat.lt_of_lt_of_le Lg3 Sw53.2.2.size
        replace Lg11 := Nat.lt_of_lt_of_le Lg11 Sw53.2.2.size
        replace Lg21 := Nat.lt_of_lt_of_le Lg21 Sw53.2.2.size
        replace Lg26 := Nat.lt_of_lt_of_le Lg26 Sw53.2.2.size
        replace BE := BE.trans (Sw53.2.2.mono BE.size)
        refine wpL_assign (v := .bool true) (by rfl) (by rfl) (by rfl) ?_
        simp only [putT, List.set]
        refine wpL_nil (no_panic ?_)
        refine hK51 _ _ ?_
        refine wp_ret ?_
        repeat (first | with_reducible refine then_ret ?_ | with_reducible refine inblock_ret ?_)
        refine bodyPost_ret (v := .bool true) (res1 rfl (.tmp (by rfl))) rfl ?_
        exact ⟨rfl, BE⟩
    · skip
      have e0 : leastF x = 0 := of_decide_eq_true hc33
      have e1 : (fsqrt (leastF x)).2 = true := by rw [e0, sqrt_zero_eq]
      have e2 : (fsqrt (fadd (leastF x) (leastF x))).2 = true := by rw [e0]; exact congrArg Prod.snd sqrt_zero_eq
      rw [e1, e2]
      refine wp_cond_true rfl ?_
      refine wp_seq_k (fun K54 hK54 => ?_)
      refine wp_region_plain 14 (by kernel_rfl) (fun Lk hLk => ?_)
      simp only [List.take, List.drop]
      refine wpV_move (v := .bool true) (by rfl) rfl rfl ?_
      simp only [putT, List.set]
      refine wpV_move (v := .bool true) (by rfl) rfl rfl ?_
      simp only [putT, List.set]
      refine wpV_move (v := .bool true) (by rfl) rfl rfl ?_
      simp only [putT, List.set]
      refine wpV_pick (v := .bool true) (by rfl) rfl rfl rfl ?_
      simp only [putT, List.set]
      refine wpV_move (v := .bool true) (by rfl) rfl rfl ?_
      simp only [putT, List.set]
      refine wpV_load (cs := fel ((fsqrt (leastF x)).1)) (by rfl) rfl rfl Rg21_0 Lg21 Try.underlying34 rfl info34 ?_
      simp only [putT, List.set]
      refine wpV_load (cs := fel (leastF x)) (by rfl) rfl rfl Rg3_0 Lg3 Try.underlying34 rfl info34 ?_
      simp only [putT, List.set]
      refine wpV_val (v := .bool true) (by rfl) (by rfl) (fun W hW => ?_) ?_
      · exact (decide_eq_true (by rw [e0, sqrt_zero_eq]) : decide ((fsqrt (leastF x)).1 = leastF x) = true) ▸ run_eql_fe (fsqrt_lt _) (leastF_lt ..) Try.underlying34 Try.underlying22 info22 (by kernel_rfl) rfl rfl rfl W
      simp only [putT, List.set]
      refine wpV_pick (v := .bool true) (by rfl) rfl rfl rfl ?_
      simp only [putT, List.set]
      refine wpV_move (v := .bool true) (by rfl) rfl rfl ?_
      simp only [putT, List.set]
      refine wpV_load (cs := fel ((fsqrt (fadd (leastF x) (leastF x))).1)) (by rfl) rfl rfl Rg26_0 Lg26 Try.underlying34 rfl info34 ?_
      simp only [putT, List.set]
      refine wpV_load (cs := fel (leastF x)) (by rfl) rfl rfl Rg3_0 Lg3 Try.underlying34 rfl info34 ?_
      simp only [putT, List.set]
      refine wpV_val (v := .bool true) (by rfl) (by rfl) (fun W hW => ?_) ?_
      · exact (decide_eq_true (by rw [e0]; exact congrArg Prod.fst sqrt_zero_eq) : decide ((fsqrt (fadd (leastF x) (leastF x))).1 = leastF x) = true) ▸ run_eql_fe (fsqrt_lt _) (leastF_lt ..) Try.underlying34 Try.underlying22 info22 (by kernel_rfl) rfl rfl rfl W
      simp only [putT, List.set]
      refine wpV_pick (v := .bool true) (by rfl) rfl rfl rfl ?_
      simp only [putT, List.set]
      refine wpV_nil (hLk.out _ ?_)
      clear hLk Lk
      simp only [List.take, List.drop]
      iterate 14 refine wpN_skip (by rfl) ?_
      refine wpN_nil (fun w56 Sw56 hbs => ?_)
      clear hbs
      replace Rg3_0 := range_sees Rg3_0 Lg3 Sw56
      replace Tg3 := there_sees Tg3 Lg3 Sw56
      replace Rg11_0 := range_sees Rg11_0 Lg11 Sw56
      replace Tg11 := there_sees Tg11 Lg11 Sw56
      replace Rg21_0 := range_sees Rg21_0 Lg21 Sw56
      replace Tg21 := there_sees Tg21 Lg21 Sw56
      replace Rg26_0 := range_sees Rg26_0 Lg26 Sw56
      replace Tg26 := there_sees Tg26 Lg26 Sw56
      replace Lg3 := Nat.lt_of_lt_of_le Lg3 Sw56.2.2.size
      replace Lg11 := Nat.lt_of_lt_of_le Lg11 Sw56.2.2.size
      replace Lg21 := Nat.lt_of_lt_of_le Lg21 Sw56.2.2.size
      replace Lg26 := Nat.lt_of_lt_of_le Lg26 Sw56.2.2.size
      replace BE := BE.trans (Sw56.2.2.mono BE.size)
      refine wpL_assign (v := .bool true) (by rfl) (by rfl) (by rfl) ?_
      simp only [putT, List.set]
      refine wpL_nil (no_panic ?_)
      refine hK54 _ _ ?_
      refine wp_ret ?_
      repeat (first | with_reducible refine then_ret ?_ | with_reducible refine inblock_ret ?_)
      refine bodyPost_ret (v := .bool true) (res1 rfl (.tmp (by rfl))) rfl ?_
      exact ⟨rfl, BE⟩
  · skip
    refine wp_region_plain 24 (by kernel_rfl) (fun Lk hLk => ?_)
    simp only [List.take, List.drop]
    refine wpV_move (v := .bool true) (by rfl) rfl rfl ?_
    simp only [putT, List.set]
    refine wpV_not (b := true) (by rfl) rfl rfl ?_
    simp only [Bool.not_true, Bool.not_false]
    simp only [putT, List.set]
    refine wpV_move (v := .bool false) (by rfl) rfl rfl ?_
    simp only [putT, List.set]
    refine wpV_load (cs := fel ((fsqrt (fmul (leastF x) (leastF x))).1)) (by rfl) rfl rfl Rg11_0 Lg11 Try.underlying34 rfl info34 ?_
    simp only [putT, List.set]
    refine wpV_load (cs := fel (leastF x)) (by rfl) rfl rfl Rg3_0 Lg3 Try.underlying34 rfl info34 ?_
    simp only [putT, List.set]
    refine wpV_val (v := .bool true) (by rfl) (by rfl) (fun W hW => ?_) ?_
    · exact hq16 ▸ run_neq_fe (fsqrt_lt _) (leastF_lt ..) Try.underlying34 Try.underlying22 info22 (by kernel_rfl) rfl rfl rfl W
    simp only [putT, List.set]
    refine wpV_move (v := .bool true) (by rfl) rfl rfl ?_
    simp only [putT, List.set]
    refine wpV_load (cs := fel ((fsqrt (fmul (leastF x) (leastF x))).1)) (by rfl) rfl rfl Rg11_0 Lg11 Try.underlying34 rfl info34 ?_
    simp only [putT, List.set]
    refine wpV_load (cs := fel (leastF x)) (by rfl) rfl rfl Rg3_0 Lg3 Try.underlying34 rfl info34 ?_
    simp only [putT, List.set]
    refine wpV_callf (v := fe (fadd ((fsqrt (fmul (leastF x) (leastF x))).1) (leastF x))) (args := #[fe ((fsqrt (fmul (leastF x) (leastF x))).1), fe (leastF x)]) (by rfl) rfl Try.func26 (by kernel_rfl) (by kernel_rfl) rfl (fun W hW => fadd_c (fsqrt_lt _) (leastF_lt ..) W) ?_
    simp only [putT, List.set]
    refine wpV_val (v := fe 0) (by rfl) (by rfl) (fun W hW => ?_) ?_
    · rw [show fe 0 = .agg ([.int .u64 0, .int .u64 0, .int .u64 0, .int .u64 0]).toArray from (by kernel_rfl)]; unfold RunsVal; kernel_rfl
    simp only [putT, List.set]
    refine wpV_val (v := .bool false) (by rfl) (by rfl) (fun W hW => ?_) ?_
    · exact (decide_eq_false (fun h => h (root_contrary (of_decide_eq_true hq16))) : decide (fadd ((fsqrt (fmul (leastF x) (leastF x))).1) (leastF x) ≠ 0) = false) ▸ run_neq_fe (fadd_lt ..) (by decide) Try.underlying34 Try.underlying22 info22 (by kernel_rfl) rfl rfl rfl W
    simp only [putT, List.set]
    refine wpV_pick (v := .bool false) (by rfl) rfl rfl rfl ?_
    simp only [putT, List.set]
    refine wpV_pick (v := .bool false) (by rfl) rfl rfl rfl ?_
    simp only [putT, List.set]
    refine wpV_move (v := .bool false) (by rfl) rfl rfl ?_
    simp only [putT, List.set]
    refine wpV_val (v := .pointer (some ⟨g11, 0, none⟩)) (by rfl) (by rfl) (fun W hW => ?_) ?_
    · (go_simp; exact rfl)
    simp only [putT, List.set]
    refine wpV_load1 (v := .int .u64 (limb ((fsqrt (fmul (leastF x) (leastF x))).1) 0)) (by rfl) rfl rfl (range_one (range_sub Rg11_0 0 1 0 (xs := [.int .u64 (limb ((fsqrt (fmul (leastF x) (leastF x))).1) 0)]) rfl rfl)) Lg11 Try.underlying22 rfl ?_
    simp only [putT, List.set]
    refine wpV_bin (v := .int .u64 0) (by rfl) rfl rfl rfl (fun W => run_rem (by decide) (limb_even (fsqrt_even _)) W) ?_
    simp only [putT, List.set]
    refine wpV_bin (v := .bool false) (by rfl) rfl rfl rfl (fun W => run_neq _ _ _ _ W) ?_
    simp only [putT, List.set]
    refine wpV_pick (v := .bool false) (by rfl) rfl rfl rfl ?_
    simp only [putT, List.set]
    refine wpV_move (v := .bool false) (by rfl) rfl rfl ?_
    simp only [putT, List.set]
    refine wpV_callf (v := .bool true) (args := #[]) (by rfl) rfl Try.func22 (by kernel_rfl) (by kernel_rfl) rfl (fun W hW => alive04_c) ?_
    simp only [putT, List.set]
    refine wpV_not (b := true) (by rfl) rfl rfl ?_
    simp only [Bool.not_true, Bool.not_false]
    simp only [putT, List.set]
    refine wpV_pick (v := .bool false) (by rfl) rfl rfl rfl ?_
    simp only [putT, List.set]
    refine wpV_nil (hLk.out _ ?_)
    clear hLk Lk
    simp only [List.take, List.drop]
    iterate 24 refine wpN_skip (by rfl) ?_
    refine wpN_nil (fun w58 Sw58 hbs => ?_)
    clear hbs
    replace Rg3_0 := range_sees Rg3_0 Lg3 Sw58
    replace Tg3 := there_sees Tg3 Lg3 Sw58
    replace Rg11_0 := range_sees Rg11_0 Lg11 Sw58
    replace Tg11 := there_sees Tg11 Lg11 Sw58
    replace Lg3 := Nat.lt_of_lt_of_le Lg3 Sw58.2.2.size
    replace Lg11 := Nat.lt_of_lt_of_le Lg11 Sw58.2.2.size
    replace BE := BE.trans (Sw58.2.2.mono BE.size)
    refine wpL_nil (no_panic ?_)
    refine hK15 _ _ ?_
    refine wp_cond_false rfl ?_
    refine wp_skip ?_
    refine hK14 _ _ ?_
    refine wp_seq_k (fun K59 hK59 => ?_)
    refine wp_region_plain 6 (by kernel_rfl) (fun Lk hLk => ?_)
    simp only [List.take, List.drop]
    refine wpV_load (cs := fel (leastF x)) (by rfl) rfl rfl Rg3_0 Lg3 Try.underlying34 rfl info34 ?_
    simp only [putT, List.set]
    refine wpV_callf (v := .tuple #[fe ((fsqrt (leastF x)).1), .bool ((fsqrt (leastF x)).2)]) (args := #[fe (leastF x)]) (by rfl) rfl Try.func42 (by kernel_rfl) (by kernel_rfl) rfl (fun W hW => fsqrt_c (leastF_lt ..) W) ?_
    simp only [putT, List.set]
    refine wpV_move (v := .tuple #[fe ((fsqrt (leastF x)).1), .bool ((fsqrt (leastF x)).2)]) (by rfl) rfl rfl ?_
    simp only [putT, List.set]
    refine wpV_extract (v := fe ((fsqrt (leastF x)).1)) (by rfl) rfl rfl rfl ?_
    simp only [putT, List.set]
    refine wpV_extract (v := .bool ((fsqrt (leastF x)).2)) (by rfl) rfl rfl rfl ?_
    simp only [putT, List.set]
    refine wpV_alloc (by rfl) ?_
    refine wpV_nil (hLk.out _ ?_)
    clear hLk Lk
    simp only [List.take, List.drop]
    iterate 5 refine wpN_skip (by rfl) ?_
    refine wpN_new (t := 34) (cs := ([.int .u64 0, .int .u64 0, .int .u64 0, .int .u64 0]).toArray) (by rfl) (fun W => ?_) (fun g61 Hg61 ng61 => ?_)
    · go_simp
    simp only [putT, List.set]
    refine wpN_nil (fun w62 Sw62 hbs => ?_)
    have Bg61 : Blk w62 g61 34 ([.int .u64 0, .int .u64 0, .int .u64 0, .int .u64 0]).toArray := hbs _ (List.mem_cons_self ..)
    clear hbs
    have Ng3_g61 : g3 ≠ g61 := Nat.ne_of_lt (Nat.lt_of_lt_of_le Lg3 Hg61)
    have Ng11_g61 : g11 ≠ g61 := Nat.ne_of_lt (Nat.lt_of_lt_of_le Lg11 Hg61)
    have Gg61 : w.heap.size ≤ g61 := Nat.le_trans BE.size Hg61
    replace Rg3_0 := range_sees Rg3_0 Lg3 Sw62
    replace Tg3 := there_sees Tg3 Lg3 Sw62
    replace Rg11_0 := range_sees Rg11_0 Lg11 Sw62
    replace Tg11 := there_sees Tg11 Lg11 Sw62
    replace Lg3 := Nat.lt_of_lt_of_le Lg3 Sw62.2.2.size
    replace Lg11 := Nat.lt_of_lt_of_le Lg11 Sw62.2.2.size
    replace BE := BE.trans (Sw62.2.2.mono BE.size)
    have Tg61 := blk_there Bg61 (n := 4) (by simp [flen])
    have Rg61_0 := blk_range Bg61 (l := [.int .u64 0, .int .u64 0, .int .u64 0, .int .u64 0]) rfl
    have Lg61 := Bg61.lt
    clear ng61 Bg61
    refine wpL_store (g := g61) (off := 0) (n := 4) (cs := fel ((fsqrt (leastF x)).1)) (by rfl) (by rfl) (by rfl) (by rfl) (by rfl) Tg61 (by simp [flen]) info34 (fel_one _) (fun w63 Pw63 RR TT => ?_)
    replace Rg3_0 := Pw63.range Rg3_0 (.inl Ng3_g61)
    replace Tg3 := Pw63.other_there Tg3 Ng3_g61
    replace Rg11_0 := Pw63.range Rg11_0 (.inl Ng11_g61)
    replace Tg11 := Pw63.other_there Tg11 Ng11_g61
    replace Rg61_0 := RR
    clear RR
    replace Tg61 := TT
    replace Lg3 := Pw63.lt Lg3
    replace Lg11 := Pw63.lt Lg11
    replace Lg61 := Pw63.lt Lg61
    replace BE := Pw63.below BE Gg61
    refine wpL_assign (v := .bool ((fsqrt (leastF x)).2)) (by rfl) (by rfl) (by rfl) ?_
    simp only [putT, List.set]
    refine wpL_nil (no_panic ?_)
    refine hK59 _ _ ?_
    refine wp_seq_k (fun K64 hK64 => ?_)
    refine wp_region_plain 8 (by kernel_rfl) (fun Lk hLk => ?_)
    simp only [List.take, List.drop]
    refine wpV_load (cs := fel (leastF x)) (by rfl) rfl rfl Rg3_0 Lg3 Try.underlying34 rfl info34 ?_
    simp only [putT, List.set]
    refine wpV_load (cs := fel (leastF x)) (by rfl) rfl rfl Rg3_0 Lg3 Try.underlying34 rfl info34 ?_
    simp only [putT, List.set]
    refine wpV_callf (v := fe (fadd (leastF x) (leastF x))) (args := #[fe (leastF x), fe (leastF x)]) (by rfl) rfl Try.func26 (by kernel_rfl) (by kernel_rfl) rfl (fun W hW => fadd_c (leastF_lt ..) (leastF_lt ..) W) ?_
    simp only [putT, List.set]
    refine wpV_callf (v := .tuple #[fe ((fsqrt (fadd (leastF x) (leastF x))).1), .bool ((fsqrt (fadd (leastF x) (leastF x))).2)]) (args := #[fe (fadd (leastF x) (leastF x))]) (by rfl) rfl Try.func42 (by kernel_rfl) (by kernel_rfl) rfl (fun W hW => fsqrt_c (fadd_lt ..) W) ?_
    simp only [putT, List.set]
    refine wpV_move (v := .tuple #[fe ((fsqrt (fadd (leastF x) (leastF x))).1), .bool ((fsqrt (fadd (leastF x) (leastF x))).2)]) (by rfl) rfl rfl ?_
    simp only [putT, List.set]
    refine wpV_extract (v := fe ((fsqrt (fadd (leastF x) (leastF x))).1)) (by rfl) rfl rfl rfl ?_
    simp only [putT, List.set]
    refine wpV_extract (v := .bool ((fsqrt (fadd (leastF x) (leastF x))).2)) (by rfl) rfl rfl rfl ?_
    simp only [putT, List.set]
    refine wpV_alloc (by rfl) ?_
    refine wpV_nil (hLk.out _ ?_)
    clear hLk Lk
    simp only [List.take, List.drop]
    iterate 7 refine wpN_skip (by rfl) ?_
    refine wpN_new (t := 34) (cs := ([.int .u64 0, .int .u64 0, .int .u64 0, .int .u64 0]).toArray) (by rfl) (fun W => ?_) (fun g66 Hg66 ng66 => ?_)
    · go_simp
    simp only [putT, List.set]
    refine wpN_nil (fun w67 Sw67 hbs => ?_)
    have Bg66 : Blk w67 g66 34 ([.int .u64 0, .int .u64 0, .int .u64 0, .int .u64 0]).toArray := hbs _ (List.mem_cons_self ..)
    clear hbs
    have Ng3_g66 : g3 ≠ g66 := Nat.ne_of_lt (Nat.lt_of_lt_of_le Lg3 Hg66)
    have Ng11_g66 : g11 ≠ g66 := Nat.ne_of_lt (Nat.lt_of_lt_of_le Lg11 Hg66)
    have Ng61_g66 : g61 ≠ g66 := Nat.ne_of_lt (Nat.lt_of_lt_of_le Lg61 Hg66)
    have Gg66 : w.heap.size ≤ g66 := Nat.le_trans BE.size Hg66
    replace Rg3_0 := range_sees Rg3_0 Lg3 Sw67
    replace Tg3 := there_sees Tg3 Lg3 Sw67
    replace Rg11_0 := range_sees Rg11_0 Lg11 Sw67
    replace Tg11 := there_sees Tg11 Lg11 Sw67
    replace Rg61_0 := range_sees Rg61_0 Lg61 Sw67
    replace Tg61 := there_sees Tg61 Lg61 Sw67
    replace Lg3 := Nat.lt_of_lt_of_le Lg3 Sw67.2.2.size
    replace Lg11 := Nat.lt_of_lt_of_le Lg11 Sw67.2.2.size
    replace Lg61 := Nat.lt_of_lt_of_le Lg61 Sw67.2.2.size
    replace BE := BE.trans (Sw67.2.2.mono BE.size)
    have Tg66 := blk_there Bg66 (n := 4) (by simp [flen])
    have Rg66_0 := blk_range Bg66 (l := [.int .u64 0, .int .u64 0, .int .u64 0, .int .u64 0]) rfl
    have Lg66 := Bg66.lt
    clear ng66 Bg66
    refine wpL_store (g := g66) (off := 0) (n := 4) (cs := fel ((fsqrt (fadd (leastF x) (leastF x))).1)) (by rfl) (by rfl) (by rfl) (by rfl) (by rfl) Tg66 (by simp [flen]) info34 (fel_one _) (fun w68 Pw68 RR TT => ?_)
    replace Rg3_0 := Pw68.range Rg3_0 (.inl Ng3_g66)
    replace Tg3 := Pw68.other_there Tg3 Ng3_g66
    replace Rg11_0 := Pw68.range Rg11_0 (.inl Ng11_g66)
    replace Tg11 := Pw68.other_there Tg11 Ng11_g66
    replace Rg61_0 := Pw68.range Rg61_0 (.inl Ng61_g66)
    replace Tg61 := Pw68.other_there Tg61 Ng61_g66
    replace Rg66_0 := RR
    clear RR
    replace Tg66 := TT
    replace Lg3 := Pw68.lt Lg3
    replace Lg11 := Pw68.lt Lg11
    replace Lg61 := Pw68.lt Lg61
    replace Lg66 := Pw68.lt Lg66
    replace BE := Pw68.below BE Gg66
    refine wpL_assign (v := .bool ((fsqrt (fadd (leastF x) (leastF x))).2)) (by rfl) (by rfl) (by rfl) ?_
    simp only [putT, List.set]
    refine wpL_nil (no_panic ?_)
    refine hK64 _ _ ?_
    refine wp_seq_k (fun K69 hK69 => ?_)
    refine wp_seq_k (fun K70 hK70 => ?_)
    refine wp_region_plain 3 (by kernel_rfl) (fun Lk hLk => ?_)
    simp only [List.take, List.drop]
    refine wpV_load (cs := fel (leastF x)) (by rfl) rfl rfl Rg3_0 Lg3 Try.underlying34 rfl info34 ?_
    simp only [putT, List.set]
    refine wpV_val (v := fe 0) (by rfl) (by rfl) (fun W hW => ?_) ?_
    · rw [show fe 0 = .agg ([.int .u64 0, .int .u64 0, .int .u64 0, .int .u64 0]).toArray from (by kernel_rfl)]; unfold RunsVal; kernel_rfl
    simp only [putT, List.set]
    refine wpV_val (v := .bool (decide (leastF x = 0))) (by rfl) (by rfl) (fun W hW => ?_) ?_
    · exact run_eql_fe (leastF_lt ..) (by decide) Try.underlying34 Try.underlying22 info22 (by kernel_rfl) rfl rfl rfl W
    simp only [putT, List.set]
    refine wpV_nil (hLk.out _ ?_)
    clear hLk Lk
    simp only [List.take, List.drop]
    iterate 3 refine wpN_skip (by rfl) ?_
    refine wpN_nil (fun w72 Sw72 hbs => ?_)
    clear hbs
    replace Rg3_0 := range_sees Rg3_0 Lg3 Sw72
    replace Tg3 := there_sees Tg3 Lg3 Sw72
    replace Rg11_0 := range_sees Rg11_0 Lg11 Sw72
    replace Tg11 := there_sees Tg11 Lg11 Sw72
    replace Rg61_0 := range_sees Rg61_0 Lg61 Sw72
    replace Tg61 := there_sees Tg61 Lg61 Sw72
    replace Rg66_0 := range_sees Rg66_0 Lg66 Sw72
    replace Tg66 := there_sees Tg66 Lg66 Sw72
    replace Lg3 := Nat.lt_of_lt_of_le Lg3 Sw72.2.2.size
    replace Lg11 := Nat.lt_of_lt_of_le Lg11 Sw72.2.2.size
    replace Lg61 := Nat.lt_of_lt_of_le Lg61 Sw72.2.2.size
    replace Lg66 := Nat.lt_of_lt_of_le Lg66 Sw72.2.2.size
    replace BE := BE.trans (Sw72.2.2.mono BE.size)
    refine wpL_nil (no_panic ?_)
    refine hK70 _ _ ?_
    cases hc73 : (decide (leastF x = 0))
    · skip
      have e0 : leastF x ≠ 0 := of_decide_eq_false hc73
      have e2 := root_one e0
      rw [e2]
      refine wp_cond_false rfl ?_
      refine wp_skip ?_
      refine hK69 _ _ ?_
      refine wp_seq_k (fun K74 hK74 => ?_)
      refine wp_seq_k (fun K75 hK75 => ?_)
      cases e1 : (fsqrt (leastF x)).2
      · skip
        rw [e1] at e2
        rw [Bool.not_false] at e2 ⊢
        refine wp_region_plain 3 (by kernel_rfl) (fun Lk hLk => ?_)
        simp only [List.take, List.drop]
        refine wpV_move (v := .bool false) (by rfl) rfl rfl ?_
        simp only [putT, List.set]
        refine wpV_move (v := .bool true) (by rfl) rfl rfl ?_
        simp only [putT, List.set]
        refine wpV_val (v := .bool false) (by rfl) (by rfl) (fun W hW => ?_) ?_
        · (go_simp; exact rfl)
        simp only [putT, List.set]
        refine wpV_nil (hLk.out _ ?_)
        clear hLk Lk
        simp only [List.take, List.drop]
        iterate 3 refine wpN_skip (by rfl) ?_
        refine wpN_nil (fun w77 Sw77 hbs => ?_)
        clear hbs
        replace Rg3_0 := range_sees Rg3_0 Lg3 Sw77
        replace Tg3 := there_sees Tg3 Lg3 Sw77
        replace Rg11_0 := range_sees Rg11_0 Lg11 Sw77
        replace Tg11 := there_sees Tg11 Lg11 Sw77
        replace Rg61_0 := range_sees Rg61_0 Lg61 Sw77
        replace Tg61 := there_sees Tg61 Lg61 Sw77
        replace Rg66_0 := range_sees Rg66_0 Lg66 Sw77
        replace Tg66 := there_sees Tg66 Lg66 Sw77
        replace Lg3 := Nat.lt_of_lt_of_le Lg3 Sw77.2.2.size
        replace Lg11 := Nat.lt_of_lt_of_le Lg11 Sw77.2.2.size
        replace Lg61 := Nat.lt_of_lt_of_le Lg61 Sw77.2.2.size
        replace Lg66 := Nat.lt_of_lt_of_le Lg66 Sw77.2.2.size
        replace BE := BE.trans (Sw77.2.2.mono BE.size)
        refine wpL_nil (no_panic ?_)
        refine hK75 _ _ ?_
        refine wp_cond_false rfl ?_
        refine wp_skip ?_
        refine hK74 _ _ ?_
        refine wp_seq_k (fun K78 hK78 => ?_)
        refine wp_seq_k (fun K79 hK79 => ?_)
        refine wp_region_plain 1 (by kernel_rfl) (fun Lk hLk => ?_)
        simp only [List.take, List.drop]
        refine wpV_move (v := .bool false) (by rfl) rfl rfl ?_
        simp only [putT, List.set]
        refine wpV_nil (hLk.out _ ?_)
        clear hLk Lk
        simp only [List.take, List.drop]
        iterate 1 refine wpN_skip (by rfl) ?_
        refine wpN_nil (fun w81 Sw81 hbs => ?_)
        clear hbs
        replace Rg3_0 := range_sees Rg3_0 Lg3 Sw81
        replace Tg3 := there_sees Tg3 Lg3 Sw81
        replace Rg11_0 := range_sees Rg11_0 Lg11 Sw81
        replace Tg11 := there_sees Tg11 Lg11 Sw81
        replace Rg61_0 := range_sees Rg61_0 Lg61 Sw81
        replace Tg61 := there_sees Tg61 Lg61 Sw81
        replace Rg66_0 := range_sees Rg66_0 Lg66 Sw81
        replace Tg66 := there_sees Tg66 Lg66 Sw81
        replace Lg3 := Nat.lt_of_lt_of_le Lg3 Sw81.2.2.size
        replace Lg11 := Nat.lt_of_lt_of_le Lg11 Sw81.2.2.size
        replace Lg61 := Nat.lt_of_lt_of_le Lg61 Sw81.2.2.size
        replace Lg66 := Nat.lt_of_lt_of_le Lg66 Sw81.2.2.size
        replace BE := BE.trans (Sw81.2.2.mono BE.size)
        refine wpL_nil (no_panic ?_)
        refine hK79 _ _ ?_
        refine wp_cond_false rfl ?_
        refine wp_skip ?_
        refine hK78 _ _ ?_
        refine wp_seq_k (fun K82 hK82 => ?_)
        refine wp_region_grow 18 [] (by kernel_rfl) (by kernel_rfl) (by kernel_rfl) (fun Lk hLk => ?_)
        simp only [List.take, List.drop]
        refine wpV_load (cs := fel ((fsqrt (fadd (leastF x) (leastF x))).1)) (by rfl) rfl rfl Rg66_0 Lg66 Try.underlying34 rfl info34 ?_
        simp only [putT, List.set]
        refine wpV_load (cs := fel ((fsqrt (fadd (leastF x) (leastF x))).1)) (by rfl) rfl rfl Rg66_0 Lg66 Try.underlying34 rfl info34 ?_
        simp only [putT, List.set]
        refine wpV_callf (v := fe (fmul ((fsqrt (fadd (leastF x) (leastF x))).1) ((fsqrt (fadd (leastF x) (leastF x))).1))) (args := #[fe ((fsqrt (fadd (leastF x) (leastF x))).1), fe ((fsqrt (fadd (leastF x) (leastF x))).1)]) (by rfl) rfl Try.func30 (by kernel_rfl) (by kernel_rfl) rfl (fun W hW => fmul_c (fsqrt_lt _) (fsqrt_lt _) W) ?_
        simp only [putT, List.set]
        refine wpV_load (cs := fel (leastF x)) (by rfl) rfl rfl Rg3_0 Lg3 Try.underlying34 rfl info34 ?_
        simp only [putT, List.set]
        refine wpV_load (cs := fel (leastF x)) (by rfl) rfl rfl Rg3_0 Lg3 Try.underlying34 rfl info34 ?_
        simp only [putT, List.set]
        refine wpV_callf (v := fe (fadd (leastF x) (leastF x))) (args := #[fe (leastF x), fe (leastF x)]) (by rfl) rfl Try.func26 (by kernel_rfl) (by kernel_rfl) rfl (fun W hW => fadd_c (leastF_lt ..) (leastF_lt ..) W) ?_
        simp only [putT, List.set]
        refine wpV_val (v := .bool true) (by rfl) (by rfl) (fun W hW => ?_) ?_
        · exact (decide_eq_true ((fsqrt_sq e2).trans (leastF_of_lt (fadd_ltp ..))) : decide (fmul ((fsqrt (fadd (leastF x) (leastF x))).1) ((fsqrt (fadd (leastF x) (leastF x))).1) = fadd (leastF x) (leastF x)) = true) ▸ run_eql_fe (fmul_lt ..) (fadd_lt ..) Try.underlying34 Try.underlying22 info22 (by kernel_rfl) rfl rfl rfl W
        simp only [putT, List.set]
        refine wpV_move (v := .bool true) (by rfl) rfl rfl ?_
        simp only [putT, List.set]
        refine wpV_load (cs := fel ((fsqrt (leastF x)).1)) (by rfl) rfl rfl Rg61_0 Lg61 Try.underlying34 rfl info34 ?_
        simp only [putT, List.set]
        refine wpV_val (v := fe 0) (by rfl) (by rfl) (fun W hW => ?_) ?_
        · rw [show fe 0 = .agg ([.int .u64 0, .int .u64 0, .int .u64 0, .int .u64 0]).toArray from (by kernel_rfl)]; unfold RunsVal; kernel_rfl
        simp only [putT, List.set]
        refine wpV_val (v := .bool true) (by rfl) (by rfl) (fun W hW => ?_) ?_
        · exact (decide_eq_true (fsqrt_none e1) : decide ((fsqrt (leastF x)).1 = 0) = true) ▸ run_eql_fe (fsqrt_lt _) (by decide) Try.underlying34 Try.underlying22 info22 (by kernel_rfl) rfl rfl rfl W
        simp only [putT, List.set]
        refine wpV_pick (v := .bool true) (by rfl) rfl rfl rfl ?_
        simp only [putT, List.set]
        refine wpV_move (v := .bool true) (by rfl) rfl rfl ?_
        simp only [putT, List.set]
        refine wpV_val (v := .pointer (some ⟨g66, 0, none⟩)) (by rfl) (by rfl) (fun W hW => ?_) ?_
        · (go_simp; exact rfl)
        simp only [putT, List.set]
        refine wpV_load1 (v := .int .u64 (limb ((fsqrt (fadd (leastF x) (leastF x))).1) 0)) (by rfl) rfl rfl (range_one (range_sub Rg66_0 0 1 0 (xs := [.int .u64 (limb ((fsqrt (fadd (leastF x) (leastF x))).1) 0)]) rfl rfl)) Lg66 Try.underlying22 rfl ?_
        simp only [putT, List.set]
        refine wpV_bin (v := .int .u64 0) (by rfl) rfl rfl rfl (fun W => run_rem (by decide) (limb_even (fsqrt_even _)) W) ?_
        simp only [putT, List.set]
        refine wpV_bin (v := .bool true) (by rfl) rfl rfl rfl (fun W => run_eql _ _ _ _ W) ?_
        simp only [putT, List.set]
        refine wpV_pick (v := .bool true) (by rfl) rfl rfl rfl ?_
        simp only [putT, List.set]
        refine wpV_nil (hLk.out _ ?_)
        clear hLk Lk
        simp only [List.take, List.drop]
        iterate 18 refine wpN_skip (by rfl) ?_
        refine wpN_nil (fun w84 Sw84 hbs => ?_)
        clear hbs
        replace Rg3_0 := range_sees Rg3_0 Lg3 Sw84
        replace Tg3 := there_sees Tg3 Lg3 Sw84
        replace Rg11_0 := range_sees Rg11_0 Lg11 Sw84
        replace Tg11 := there_sees Tg11 Lg11 Sw84
        replace Rg61_0 := range_sees Rg61_0 Lg61 Sw84
        replace Tg61 := there_sees Tg61 Lg61 Sw84
        replace Rg66_0 := range_sees Rg66_0 Lg66 Sw84
        replace Tg66 := there_sees Tg66 Lg66 Sw84
        replace Lg3 := Nat.lt_of_lt_of_le Lg3 Sw84.2.2.size
        replace Lg11 := Nat.lt_of_lt_of_le Lg11 Sw84.2.2.size
        replace Lg61 := Nat.lt_of_lt_of_le Lg61 Sw84.2.2.size
        replace Lg66 := Nat.lt_of_lt_of_le Lg66 Sw84.2.2.size
        replace BE := BE.trans (Sw84.2.2.mono BE.size)
        refine wpL_assign (v := .bool true) (by rfl) (by rfl) (by rfl) ?_
        simp only [putT, List.set]
        refine wpL_nil (no_panic ?_)
        refine hK82 _ _ ?_
        refine wp_ret ?_
        repeat (first | with_reducible refine then_ret ?_ | with_reducible refine inblock_ret ?_)
        refine bodyPost_ret (v := .bool true) (res1 rfl (.tmp (by rfl))) rfl ?_
        exact ⟨rfl, BE⟩
      · skip
        rw [e1] at e2
        rw [Bool.not_true] at e2 ⊢
        refine wp_region_plain 3 (by kernel_rfl) (fun Lk hLk => ?_)
        simp only [List.take, List.drop]
        refine wpV_move (v := .bool true) (by rfl) rfl rfl ?_
        simp only [putT, List.set]
        refine wpV_move (v := .bool false) (by rfl) rfl rfl ?_
        simp only [putT, List.set]
        refine wpV_val (v := .bool false) (by rfl) (by rfl) (fun W hW => ?_) ?_
        · (go_simp; exact rfl)
        simp only [putT, List.set]
        refine wpV_nil (hLk.out _ ?_)
        clear hLk Lk
        simp only [List.take, List.drop]
        iterate 3 refine wpN_skip (by rfl) ?_
        refine wpN_nil (fun w86 Sw86 hbs => ?_)
        clear hbs
        replace Rg3_0 := range_sees Rg3_0 Lg3 Sw86
        replace Tg3 := there_sees Tg3 Lg3 Sw86
        replace Rg11_0 := range_sees Rg11_0 Lg11 Sw86
        replace Tg11 := there_sees Tg11 Lg11 Sw86
        replace Rg61_0 := range_sees Rg61_0 Lg61 Sw86
        replace Tg61 := there_sees Tg61 Lg61 Sw86
        replace Rg66_0 := range_sees Rg66_0 Lg66 Sw86
        replace Tg66 := there_sees Tg66 Lg66 Sw86
        replace Lg3 := Nat.lt_of_lt_of_le Lg3 Sw86.2.2.size
        replace Lg11 := Nat.lt_of_lt_of_le Lg11 Sw86.2.2.size
        replace Lg61 := Nat.lt_of_lt_of_le Lg61 Sw86.2.2.size
        replace Lg66 := Nat.lt_of_lt_of_le Lg66 Sw86.2.2.size
        replace BE := BE.trans (Sw86.2.2.mono BE.size)
        refine wpL_nil (no_panic ?_)
        refine hK75 _ _ ?_
        refine wp_cond_false rfl ?_
        refine wp_skip ?_
        refine hK74 _ _ ?_
        refine wp_seq_k (fun K87 hK87 => ?_)
        refine wp_seq_k (fun K88 hK88 => ?_)
        refine wp_region_plain 1 (by kernel_rfl) (fun Lk hLk => ?_)
        simp only [List.take, List.drop]
        refine wpV_move (v := .bool true) (by rfl) rfl rfl ?_
        simp only [putT, List.set]
        refine wpV_nil (hLk.out _ ?_)
        clear hLk Lk
        simp only [List.take, List.drop]
        iterate 1 refine wpN_skip (by rfl) ?_
        refine wpN_nil (fun w90 Sw90 hbs => ?_)
        clear hbs
        replace Rg3_0 := range_sees Rg3_0 Lg3 Sw90
        replace Tg3 := there_sees Tg3 Lg3 Sw90
        replace Rg11_0 := range_sees Rg11_0 Lg11 Sw90
        replace Tg11 := there_sees Tg11 Lg11 Sw90
        replace Rg61_0 := range_sees Rg61_0 Lg61 Sw90
        replace Tg61 := there_sees Tg61 Lg61 Sw90
        replace Rg66_0 := range_sees Rg66_0 Lg66 Sw90
        replace Tg66 := there_sees Tg66 Lg66 Sw90
        replace Lg3 := Nat.lt_of_lt_of_le Lg3 Sw90.2.2.size
        replace Lg11 := Nat.lt_of_lt_of_le Lg11 Sw90.2.2.size
        replace Lg61 := Nat.lt_of_lt_of_le Lg61 Sw90.2.2.size
        replace Lg66 := Nat.lt_of_lt_of_le Lg66 Sw90.2.2.size
        replace BE := BE.trans (Sw90.2.2.mono BE.size)
        refine wpL_nil (no_panic ?_)
        refine hK88 _ _ ?_
        refine wp_cond_true rfl ?_
        refine wp_seq_k (fun K91 hK91 => ?_)
        refine wp_region_grow 16 [] (by kernel_rfl) (by kernel_rfl) (by kernel_rfl) (fun Lk hLk => ?_)
        simp only [List.take, List.drop]
        refine wpV_load (cs := fel ((fsqrt (leastF x)).1)) (by rfl) rfl rfl Rg61_0 Lg61 Try.underlying34 rfl info34 ?_
        simp only [putT, List.set]
        refine wpV_load (cs := fel ((fsqrt (leastF x)).1)) (by rfl) rfl rfl Rg61_0 Lg61 Try.underlying34 rfl info34 ?_
        simp only [putT, List.set]
        refine wpV_callf (v := fe (fmul ((fsqrt (leastF x)).1) ((fsqrt (leastF x)).1))) (args := #[fe ((fsqrt (leastF x)).1), fe ((fsqrt (leastF x)).1)]) (by rfl) rfl Try.func30 (by kernel_rfl) (by kernel_rfl) rfl (fun W hW => fmul_c (fsqrt_lt _) (fsqrt_lt _) W) ?_
        simp only [putT, List.set]
        refine wpV_load (cs := fel (leastF x)) (by rfl) rfl rfl Rg3_0 Lg3 Try.underlying34 rfl info34 ?_
        simp only [putT, List.set]
        refine wpV_val (v := .bool true) (by rfl) (by rfl) (fun W hW => ?_) ?_
        · exact (decide_eq_true ((fsqrt_sq e1).trans (leastF_least x)) : decide (fmul ((fsqrt (leastF x)).1) ((fsqrt (leastF x)).1) = leastF x) = true) ▸ run_eql_fe (fmul_lt ..) (leastF_lt ..) Try.underlying34 Try.underlying22 info22 (by kernel_rfl) rfl rfl rfl W
        simp only [putT, List.set]
        refine wpV_move (v := .bool true) (by rfl) rfl rfl ?_
        simp only [putT, List.set]
        refine wpV_load (cs := fel ((fsqrt (fadd (leastF x) (leastF x))).1)) (by rfl) rfl rfl Rg66_0 Lg66 Try.underlying34 rfl info34 ?_
        simp only [putT, List.set]
        refine wpV_val (v := fe 0) (by rfl) (by rfl) (fun W hW => ?_) ?_
        · rw [show fe 0 = .agg ([.int .u64 0, .int .u64 0, .int .u64 0, .int .u64 0]).toArray from (by kernel_rfl)]; unfold RunsVal; kernel_rfl
        simp only [putT, List.set]
        refine wpV_val (v := .bool true) (by rfl) (by rfl) (fun W hW => ?_) ?_
        · exact (decide_eq_true (fsqrt_none e2) : decide ((fsqrt (fadd (leastF x) (leastF x))).1 = 0) = true) ▸ run_eql_fe (fsqrt_lt _) (by decide) Try.underlying34 Try.underlying22 info22 (by kernel_rfl) rfl rfl rfl W
        simp only [putT, List.set]
        refine wpV_pick (v := .bool true) (by rfl) rfl rfl rfl ?_
        simp only [putT, List.set]
        refine wpV_move (v := .bool true) (by rfl) rfl rfl ?_
        simp only [putT, List.set]
        refine wpV_val (v := .pointer (some ⟨g61, 0, none⟩)) (by rfl) (by rfl) (fun W hW => ?_) ?_
        · (go_simp; exact rfl)
        simp only [putT, List.set]
        refine wpV_load1 (v := .int .u64 (limb ((fsqrt (leastF x)).1) 0)) (by rfl) rfl rfl (range_one (range_sub Rg61_0 0 1 0 (xs := [.int .u64 (limb ((fsqrt (leastF x)).1) 0)]) rfl rfl)) Lg61 Try.underlying22 rfl ?_
        simp only [putT, List.set]
        refine wpV_bin (v := .int .u64 0) (by rfl) rfl rfl rfl (fun W => run_rem (by decide) (limb_even (fsqrt_even _)) W) ?_
        simp only [putT, List.set]
        refine wpV_bin (v := .bool true) (by rfl) rfl rfl rfl (fun W => run_eql _ _ _ _ W) ?_
        simp only [putT, List.set]
        refine wpV_pick (v := .bool true) (by rfl) rfl rfl rfl ?_
        simp only [putT, List.set]
        refine wpV_nil (hLk.out _ ?_)
        clear hLk Lk
        simp only [List.take, List.drop]
        iterate 16 refine wpN_skip (by rfl) ?_
        refine wpN_nil (fun w93 Sw93 hbs => ?_)
        clear hbs
        replace Rg3_0 := range_sees Rg3_0 Lg3 Sw93
        replace Tg3 := there_sees Tg3 Lg3 Sw93
        replace Rg11_0 := range_sees Rg11_0 Lg11 Sw93
        replace Tg11 := there_sees Tg11 Lg11 Sw93
        replace Rg61_0 := range_sees Rg61_0 Lg61 Sw93
        replace Tg61 := there_sees Tg61 Lg61 Sw93
        replace Rg66_0 := range_sees Rg66_0 Lg66 Sw93
        replace Tg66 := there_sees Tg66 Lg66 Sw93
        replace Lg3 := Nat.lt_of_lt_of_le Lg3 Sw93.2.2.size
        replace Lg11 := Nat.lt_of_lt_of_le Lg11 Sw93.2.2.size
        replace Lg61 := Nat.lt_of_lt_of_le Lg61 Sw93.2.2.size
        replace Lg66 := Nat.lt_of_lt_of_le Lg66 Sw93.2.2.size
        replace BE := BE.trans (Sw93.2.2.mono BE.size)
        refine wpL_assign (v := .bool true) (by rfl) (by rfl) (by rfl) ?_
        simp only [putT, List.set]
        refine wpL_nil (no_panic ?_)
        refine hK91 _ _ ?_
        refine wp_ret ?_
        repeat (first | with_reducible refine then_ret ?_ | with_reducible refine inblock_ret ?_)
        refine bodyPost_ret (v := .bool true) (res1 rfl (.tmp (by rfl))) rfl ?_
        exact ⟨rfl, BE⟩
    · skip
      have e0 : leastF x = 0 := of_decide_eq_true hc73
      have e1 : (fsqrt (leastF x)).2 = true := by rw [e0, sqrt_zero_eq]
      have e2 : (fsqrt (fadd (leastF x) (leastF x))).2 = true := by rw [e0]; exact congrArg Prod.snd sqrt_zero_eq
      rw [e1, e2]
      refine wp_cond_true rfl ?_
      refine wp_seq_k (fun K94 hK94 => ?_)
      refine wp_region_plain 14 (by kernel_rfl) (fun Lk hLk => ?_)
      simp only [List.take, List.drop]
      refine wpV_move (v := .bool true) (by rfl) rfl rfl ?_
      simp only [putT, List.set]
      refine wpV_move (v := .bool true) (by rfl) rfl rfl ?_
      simp only [putT, List.set]
      refine wpV_move (v := .bool true) (by rfl) rfl rfl ?_
      simp only [putT, List.set]
      refine wpV_pick (v := .bool true) (by rfl) rfl rfl rfl ?_
      simp only [putT, List.set]
      refine wpV_move (v := .bool true) (by rfl) rfl rfl ?_
      simp only [putT, List.set]
      refine wpV_load (cs := fel ((fsqrt (leastF x)).1)) (by rfl) rfl rfl Rg61_0 Lg61 Try.underlying34 rfl info34 ?_
      simp only [putT, List.set]
      refine wpV_load (cs := fel (leastF x)) (by rfl) rfl rfl Rg3_0 Lg3 Try.underlying34 rfl info34 ?_
      simp only [putT, List.set]
      refine wpV_val (v := .bool true) (by rfl) (by rfl) (fun W hW => ?_) ?_
      · exact (decide_eq_true (by rw [e0, sqrt_zero_eq]) : decide ((fsqrt (leastF x)).1 = leastF x) = true) ▸ run_eql_fe (fsqrt_lt _) (leastF_lt ..) Try.underlying34 Try.underlying22 info22 (by kernel_rfl) rfl rfl rfl W
      simp only [putT, List.set]
      refine wpV_pick (v := .bool true) (by rfl) rfl rfl rfl ?_
      simp only [putT, List.set]
      refine wpV_move (v := .bool true) (by rfl) rfl rfl ?_
      simp only [putT, List.set]
      refine wpV_load (cs := fel ((fsqrt (fadd (leastF x) (leastF x))).1)) (by rfl) rfl rfl Rg66_0 Lg66 Try.underlying34 rfl info34 ?_
      simp only [putT, List.set]
      refine wpV_load (cs := fel (leastF x)) (by rfl) rfl rfl Rg3_0 Lg3 Try.underlying34 rfl info34 ?_
      simp only [putT, List.set]
      refine wpV_val (v := .bool true) (by rfl) (by rfl) (fun W hW => ?_) ?_
      · exact (decide_eq_true (by rw [e0]; exact congrArg Prod.fst sqrt_zero_eq) : decide ((fsqrt (fadd (leastF x) (leastF x))).1 = leastF x) = true) ▸ run_eql_fe (fsqrt_lt _) (leastF_lt ..) Try.underlying34 Try.underlying22 info22 (by kernel_rfl) rfl rfl rfl W
      simp only [putT, List.set]
      refine wpV_pick (v := .bool true) (by rfl) rfl rfl rfl ?_
      simp only [putT, List.set]
      refine wpV_nil (hLk.out _ ?_)
      clear hLk Lk
      simp only [List.take, List.drop]
      iterate 14 refine wpN_skip (by rfl) ?_
      refine wpN_nil (fun w96 Sw96 hbs => ?_)
      clear hbs
      replace Rg3_0 := range_sees Rg3_0 Lg3 Sw96
      replace Tg3 := there_sees Tg3 Lg3 Sw96
      replace Rg11_0 := range_sees Rg11_0 Lg11 Sw96
      replace Tg11 := there_sees Tg11 Lg11 Sw96
      replace Rg61_0 := range_sees Rg61_0 Lg61 Sw96
      replace Tg61 := there_sees Tg61 Lg61 Sw96
      replace Rg66_0 := range_sees Rg66_0 Lg66 Sw96
      replace Tg66 := there_sees Tg66 Lg66 Sw96
      replace Lg3 := Nat.lt_of_lt_of_le Lg3 Sw96.2.2.size
      replace Lg11 := Nat.lt_of_lt_of_le Lg11 Sw96.2.2.size
      replace Lg61 := Nat.lt_of_lt_of_le Lg61 Sw96.2.2.size
      replace Lg66 := Nat.lt_of_lt_of_le Lg66 Sw96.2.2.size
      replace BE := BE.trans (Sw96.2.2.mono BE.size)
      refine wpL_assign (v := .bool true) (by rfl) (by rfl) (by rfl) ?_
      simp only [putT, List.set]
      refine wpL_nil (no_panic ?_)
      refine hK94 _ _ ?_
      refine wp_ret ?_
      repeat (first | with_reducible refine then_ret ?_ | with_reducible refine inblock_ret ?_)
      refine bodyPost_ret (v := .bool true) (res1 rfl (.tmp (by rfl))) rfl ?_
      exact ⟨rfl, BE⟩
end Go.Proofs.Ya
