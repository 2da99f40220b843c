import Derived.Test.YtdcmmnindlhghaaF11
set_option linter.unusedSimpArgs false
set_option linter.unusedVariables false
namespace Go.Proofs.Ya
open Go Go.RowKit Go.Shelf Go.Proofs.Num
open List renaming set → Z0, take → Z1, drop → Z2
open Go renaming undef → Z3, wp_seq_k → Z4, wp_cond_true → Z5, wp_cond_false → Z6
open Go.Proofs.Num renaming putT → Z7, wp_region_seq → Z8, wpL_nil → Z9, no_panic → Z10, wpL_move → Z12, wpL_assign → Z13, wpV_nil → Z14, wpV_bin → Z15, wpV_move → Z16, wpL_store1 → Z18, wpV_callf → Z20
set_option maxHeartbeats 1000000 in
theorem plus04_c {n x m y g0 g1 cg0 cg1 : Nat} {w : World} (hn : n ≤ 4000) (hm : m ≤ 4000) (hx : x < 65536 ^ n) (hy : y < 65536 ^ m) (hcg0 : n ≤ cg0) (Lg0 : g0 < w.heap.size) (Rg0_0 : w.rangeAt g0 0 (dl n x)) (hcg1 : m ≤ cg1) (Lg1 : g1 < w.heap.size) (Rg1_0 : w.rangeAt g1 0 (dl m y)) :
  Calls Try.prog 73 #[.slice (some ⟨g0, 0, none⟩) n cg0, .slice (some ⟨g1, 0, none⟩) m cg1] w fun e w' => ∃ v, e = .returned v ∧ NewRow w (dlen (x + y)) (dl (dlen (x + y)) (x + y)) v w' ∧ Below w.heap.size w w' := by
 go_enter Try.func73, Try.ntmps73
 have BE := Below.refl w.heap.size w
 refine Z4 (fun K1 hK1 => ?_)
 refine wp_region_plain 0 (by kernel_rfl) (fun Lk hLk => ?_)
 simp only [Z1,Z2]
 refine Z14 (hLk.out _ ?_)
 clear hLk Lk
 simp only [Z1,Z2]
 refine wpN_nil (fun w3 Sw3 hbs => ?_)
 clear hbs
 replace Rg0_0 := range_sees Rg0_0 Lg0 Sw3
 replace Rg1_0 := range_sees Rg1_0 Lg1 Sw3
 replace Lg0 := Nat.lt_of_lt_of_le Lg0 Sw3.2.2.size
 replace Lg1 := Nat.lt_of_lt_of_le Lg1 Sw3.2.2.size
 replace BE := BE.trans (Sw3.2.2.mono BE.size)
 refine Z13 (v := (.slice none 0 0)) (by rfl) (by rfl) (by rfl) ?_
 simp only [Z7,Z0]
 refine Z9 (Z10 ?_)
 refine hK1 _ _ ?_
 refine Z4 (fun K4 hK4 => ?_)
 refine wp_region_plain 5 (by kernel_rfl) (fun Lk hLk => ?_)
 simp only [Z1,Z2]
 refine Z16 (v := .slice (some ⟨g0, 0, none⟩) n cg0) (by rfl) rfl rfl ?_
 simp only [Z7,Z0]
 refine wpV_lenA (n := n) (by rfl) rfl rfl rfl Try.underlying100 ?_
 simp only [Z7,Z0]
 refine Z16 (v := .slice (some ⟨g1, 0, none⟩) m cg1) (by rfl) rfl rfl ?_
 simp only [Z7,Z0]
 refine wpV_lenA (n := m) (by rfl) rfl rfl rfl Try.underlying100 ?_
 simp only [Z7,Z0]
 refine Z15 (v := .int .i64 ((n + m : Nat) : Int)) (by rfl) rfl rfl rfl (fun W => run_add (by simp only [IntKind.wrap_i64]; omega) W) ?_
 simp only [Z7,Z0]
 refine Z14 (hLk.out _ ?_)
 clear hLk Lk
 simp only [Z1,Z2]
 iterate 5 refine wpN_skip (by rfl) ?_
 refine wpN_nil (fun w6 Sw6 hbs => ?_)
 clear hbs
 replace Rg0_0 := range_sees Rg0_0 Lg0 Sw6
 replace Rg1_0 := range_sees Rg1_0 Lg1 Sw6
 replace Lg0 := Nat.lt_of_lt_of_le Lg0 Sw6.2.2.size
 replace Lg1 := Nat.lt_of_lt_of_le Lg1 Sw6.2.2.size
 replace BE := BE.trans (Sw6.2.2.mono BE.size)
 refine wpL_make (n := n + m) (z := .int .i64 0) (bytes := 8) (by rfl) (by rfl) (by rfl) (by rfl) Try.underlying100 (by kernel_rfl) rfl (by omega) (by omega) (fun g7 w8 Sw8 Hg7 Bg7 => ?_)
 have Ng0_g7 : g0 ≠ g7 := Nat.ne_of_lt (Nat.lt_of_lt_of_le Lg0 Hg7)
 have Ng1_g7 : g1 ≠ g7 := Nat.ne_of_lt (Nat.lt_of_lt_of_le Lg1 Hg7)
 have Gg7 : w.heap.size ≤ g7 := Nat.le_trans BE.size Hg7
 replace Rg0_0 := range_sees Rg0_0 Lg0 Sw8
 replace Rg1_0 := range_sees Rg1_0 Lg1 Sw8
 replace Lg0 := Nat.lt_of_lt_of_le Lg0 Sw8.2.2.size
 replace Lg1 := Nat.lt_of_lt_of_le Lg1 Sw8.2.2.size
 replace BE := BE.trans (Sw8.2.2.mono BE.size)
 have Tg7 := blk_there Bg7 (n := n + m) (by simp)
 have Rg7_0 := blk_range Bg7 (l := List.replicate (n + m) (.int .i64 0)) rfl
 rw [← dl_zero] at Rg7_0
 have Lg7 := Bg7.lt
 clear Bg7
 simp only [Z7,Z0]
 refine Z13 (v := .slice (some ⟨g7, 0, none⟩) (n + m) (n + m)) (by rfl) (by rfl) (by rfl) ?_
 simp only [Z7,Z0]
 refine Z9 (Z10 ?_)
 refine hK4 _ _ ?_
 refine Z4 (fun K9 hK9 => ?_)
 refine Z4 (fun K10 hK10 => ?_)
 refine wp_region_plain 3 (by kernel_rfl) (fun Lk hLk => ?_)
 simp only [Z1,Z2]
 refine Z16 (v := .slice (some ⟨g0, 0, none⟩) n cg0) (by rfl) rfl rfl ?_
 simp only [Z7,Z0]
 refine wpV_lenA (n := n) (by rfl) rfl rfl rfl Try.underlying100 ?_
 simp only [Z7,Z0]
 refine Z16 (v := .int .i64 0) (by rfl) rfl rfl ?_
 simp only [Z7,Z0]
 refine Z14 (hLk.out _ ?_)
 clear hLk Lk
 simp only [Z1,Z2]
 iterate 3 refine wpN_skip (by rfl) ?_
 refine wpN_nil (fun w12 Sw12 hbs => ?_)
 clear hbs
 replace Rg0_0 := range_sees Rg0_0 Lg0 Sw12
 replace Rg1_0 := range_sees Rg1_0 Lg1 Sw12
 replace Rg7_0 := range_sees Rg7_0 Lg7 Sw12
 replace Tg7 := there_sees Tg7 Lg7 Sw12
 replace Lg0 := Nat.lt_of_lt_of_le Lg0 Sw12.2.2.size
 replace Lg1 := Nat.lt_of_lt_of_le Lg1 Sw12.2.2.size
 replace Lg7 := Nat.lt_of_lt_of_le Lg7 Sw12.2.2.size
 replace BE := BE.trans (Sw12.2.2.mono BE.size)
 refine Z9 (Z10 ?_)
 refine hK10 _ _ ?_
 refine wp_block ?_
 refine wp_loop_ghost (fun n9 a9 W9 => ∃ (i : Nat) (u13 : Nat → Value), n9 = n - i ∧ a9 = { tmps := #[.slice (some ⟨g0, 0, none⟩) n cg0, .slice (some ⟨g1, 0, none⟩) m cg1, Z3, Z3, (.slice none 0 0), .slice (some ⟨g7, 0, none⟩) (n + m) (n + m), u13 6, Z3, .slice (some ⟨g0, 0, none⟩) n cg0, .int .i64 ((n : Nat) : Int), .slice (some ⟨g1, 0, none⟩) m cg1, .int .i64 ((m : Nat) : Int), .int .i64 ((n + m : Nat) : Int), .slice (some ⟨g7, 0, none⟩) (n + m) (n + m), .slice (some ⟨g0, 0, none⟩) n cg0, .int .i64 ((n : Nat) : Int), .int .i64 ((i : Nat) : Int), u13 17, u13 18, u13 19, u13 20, u13 21, u13 22, u13 23, u13 24, u13 25, u13 26, Z3, Z3, Z3, Z3, Z3, Z3, Z3, Z3, Z3, Z3, Z3, Z3, Z3, Z3, Z3, Z3, Z3, Z3, Z3, Z3], defers := [] } ∧ Below w.heap.size w W9 ∧ World.rangeAt W9 g0 0 (dl n x) ∧ g0 < W9.heap.size ∧ World.rangeAt W9 g1 0 (dl m y) ∧ g1 < W9.heap.size ∧ World.rangeAt W9 g7 0 (dl (n + m) (x % 65536 ^ i)) ∧ World.there W9 g7 0 (n + m) ∧ g7 < W9.heap.size ∧ (i ≤ n)) (n - (0)) ?_ (fun n9 a9 W9 hI => ?_)
 ·
  exact ⟨0, (fun q9 => (#[Z3, Z3, Z3, Z3, Z3, Z3, Z3, Z3, Z3, Z3, Z3, Z3, Z3, Z3, Z3, Z3, Z3, Z3, Z3, Z3, Z3, Z3, Z3, Z3, Z3, Z3, Z3] : Array Value).getD q9 Z3), rfl, rfl, BE, Rg0_0, Lg0, Rg1_0, Lg1, (by rw [Nat.pow_zero, Nat.mod_one]; exact Rg7_0), Tg7, Lg7, (by omega)⟩
 clear BE Rg0_0 Rg1_0 Rg7_0 Tg7 Lg0 Lg1 Lg7
 obtain ⟨i, u13, rfl, rfl, BE, Rg0_0, Lg0, Rg1_0, Lg1, Rg7_0, Tg7, Lg7, hi4⟩ := hI
 obtain ⟨w14, rfl⟩ : ∃ W8, W8 = W9 := ⟨_, rfl⟩
 refine Z4 (fun K15 hK15 => ?_)
 refine wp_region_plain 1 (by kernel_rfl) (fun Lk hLk => ?_)
 simp only [Z1,Z2]
 refine Z15 (v := .bool (decide (i < n))) (by rfl) rfl rfl rfl (fun W => run_lssN i n _ _ W) ?_
 simp only [Z7,Z0]
 refine Z14 (hLk.out _ ?_)
 clear hLk Lk
 simp only [Z1,Z2]
 iterate 1 refine wpN_skip (by rfl) ?_
 refine wpN_nil (fun w17 Sw17 hbs => ?_)
 clear hbs
 replace Rg0_0 := range_sees Rg0_0 Lg0 Sw17
 replace Rg1_0 := range_sees Rg1_0 Lg1 Sw17
 replace Rg7_0 := range_sees Rg7_0 Lg7 Sw17
 replace Tg7 := there_sees Tg7 Lg7 Sw17
 replace Lg0 := Nat.lt_of_lt_of_le Lg0 Sw17.2.2.size
 replace Lg1 := Nat.lt_of_lt_of_le Lg1 Sw17.2.2.size
 replace Lg7 := Nat.lt_of_lt_of_le Lg7 Sw17.2.2.size
 replace BE := BE.trans (Sw17.2.2.mono BE.size)
 refine Z9 (Z10 ?_)
 refine hK15 _ _ ?_
 refine Z4 (fun K18 hK18 => ?_)
 cases hc19 : (decide (i < n))
 ·
  have ei : n = i := by have := of_decide_eq_false hc19; omega
  subst ei
  rw [Nat.mod_eq_of_lt hx] at Rg7_0
  refine Z6 rfl ?_
  refine wp_exit ?_
  refine hK9 _ _ ?_
  refine Z4 (fun K20 hK20 => ?_)
  refine Z4 (fun K21 hK21 => ?_)
  refine wp_region_plain 3 (by kernel_rfl) (fun Lk hLk => ?_)
  simp only [Z1,Z2]
  refine Z16 (v := .slice (some ⟨g1, 0, none⟩) m cg1) (by rfl) rfl rfl ?_
  simp only [Z7,Z0]
  refine wpV_lenA (n := m) (by rfl) rfl rfl rfl Try.underlying100 ?_
  simp only [Z7,Z0]
  refine Z16 (v := .int .i64 0) (by rfl) rfl rfl ?_
  simp only [Z7,Z0]
  refine Z14 (hLk.out _ ?_)
  clear hLk Lk
  simp only [Z1,Z2]
  iterate 3 refine wpN_skip (by rfl) ?_
  refine wpN_nil (fun w23 Sw23 hbs => ?_)
  clear hbs
  replace Rg0_0 := range_sees Rg0_0 Lg0 Sw23
  replace Rg1_0 := range_sees Rg1_0 Lg1 Sw23
  replace Rg7_0 := range_sees Rg7_0 Lg7 Sw23
  replace Tg7 := there_sees Tg7 Lg7 Sw23
  replace Lg0 := Nat.lt_of_lt_of_le Lg0 Sw23.2.2.size
  replace Lg1 := Nat.lt_of_lt_of_le Lg1 Sw23.2.2.size
  replace Lg7 := Nat.lt_of_lt_of_le Lg7 Sw23.2.2.size
  replace BE := BE.trans (Sw23.2.2.mono BE.size)
  refine Z9 (Z10 ?_)
  refine hK21 _ _ ?_
  refine wp_block ?_
  refine wp_loop_ghost (fun n9 a9 W9 => ∃ (i : Nat) (u24 : Nat → Value), n9 = m - i ∧ a9 = { tmps := #[.slice (some ⟨g0, 0, none⟩) n cg0, .slice (some ⟨g1, 0, none⟩) m cg1, Z3, Z3, (.slice none 0 0), .slice (some ⟨g7, 0, none⟩) (n + m) (n + m), u13 6, u24 7, .slice (some ⟨g0, 0, none⟩) n cg0, .int .i64 ((n : Nat) : Int), .slice (some ⟨g1, 0, none⟩) m cg1, .int .i64 ((m : Nat) : Int), .int .i64 ((n + m : Nat) : Int), .slice (some ⟨g7, 0, none⟩) (n + m) (n + m), .slice (some ⟨g0, 0, none⟩) n cg0, .int .i64 ((n : Nat) : Int), .int .i64 ((n : Nat) : Int), .bool false, u13 18, u13 19, u13 20, u13 21, u13 22, u13 23, u13 24, u13 25, u13 26, .slice (some ⟨g1, 0, none⟩) m cg1, .int .i64 ((m : Nat) : Int), .int .i64 ((i : Nat) : Int), u24 30, u24 31, u24 32, u24 33, u24 34, u24 35, u24 36, u24 37, u24 38, u24 39, u24 40, u24 41, u24 42, u24 43, u24 44, Z3, Z3], defers := [] } ∧ Below w.heap.size w W9 ∧ World.rangeAt W9 g0 0 (dl n x) ∧ g0 < W9.heap.size ∧ World.rangeAt W9 g1 0 (dl m y) ∧ g1 < W9.heap.size ∧ World.rangeAt W9 g7 0 (nl (n + m) (plF x y i)) ∧ World.there W9 g7 0 (n + m) ∧ g7 < W9.heap.size ∧ (i ≤ m)) (m - (0)) ?_ (fun n9 a9 W9 hI => ?_)
  ·
   exact ⟨0, (fun q9 => (#[Z3, Z3, Z3, Z3, Z3, Z3, Z3, Z3, Z3, Z3, Z3, Z3, Z3, Z3, Z3, Z3, Z3, Z3, Z3, Z3, Z3, Z3, Z3, Z3, Z3, Z3, Z3, Z3, Z3, Z3, Z3, Z3, Z3, Z3, Z3, Z3, Z3, Z3, Z3, Z3, Z3, Z3, Z3, Z3, Z3] : Array Value).getD q9 Z3), rfl, rfl, BE, Rg0_0, Lg0, Rg1_0, Lg1, (by rw [← plF_zero]; exact Rg7_0), Tg7, Lg7, (by omega)⟩
  clear BE Rg0_0 Rg1_0 Rg7_0 Tg7 Lg0 Lg1 Lg7
  obtain ⟨i, u24, rfl, rfl, BE, Rg0_0, Lg0, Rg1_0, Lg1, Rg7_0, Tg7, Lg7, hi4⟩ := hI
  obtain ⟨w25, rfl⟩ : ∃ W8, W8 = W9 := ⟨_, rfl⟩
  refine Z4 (fun K26 hK26 => ?_)
  refine wp_region_plain 1 (by kernel_rfl) (fun Lk hLk => ?_)
  simp only [Z1,Z2]
  refine Z15 (v := .bool (decide (i < m))) (by rfl) rfl rfl rfl (fun W => run_lssN i m _ _ W) ?_
  simp only [Z7,Z0]
  refine Z14 (hLk.out _ ?_)
  clear hLk Lk
  simp only [Z1,Z2]
  iterate 1 refine wpN_skip (by rfl) ?_
  refine wpN_nil (fun w28 Sw28 hbs => ?_)
  clear hbs
  replace Rg0_0 := range_sees Rg0_0 Lg0 Sw28
  replace Rg1_0 := range_sees Rg1_0 Lg1 Sw28
  replace Rg7_0 := range_sees Rg7_0 Lg7 Sw28
  replace Tg7 := there_sees Tg7 Lg7 Sw28
  replace Lg0 := Nat.lt_of_lt_of_le Lg0 Sw28.2.2.size
  replace Lg1 := Nat.lt_of_lt_of_le Lg1 Sw28.2.2.size
  replace Lg7 := Nat.lt_of_lt_of_le Lg7 Sw28.2.2.size
  replace BE := BE.trans (Sw28.2.2.mono BE.size)
  refine Z9 (Z10 ?_)
  refine hK26 _ _ ?_
  refine Z4 (fun K29 hK29 => ?_)
  cases hc30 : (decide (i < m))
  ·
   have ei : m = i := by have := of_decide_eq_false hc30; omega
   subst ei
   refine Z6 rfl ?_
   refine wp_exit ?_
   refine hK20 _ _ ?_
   refine Z4 (fun K31 hK31 => ?_)
   refine Z8 ?_
   refine Z12 (v := .slice (some ⟨g7, 0, none⟩) (n + m) (n + m)) (by rfl) (by rfl) (by rfl) ?_
   simp only [Z7,Z0]
   refine wpL_callE (f := 89) (args := #[.slice (some ⟨g7, 0, none⟩) (n + m) (n + m)]) (R := NewRow w28 (dlen (x + y)) (dl (dlen (x + y)) (x + y))) (by rfl) (by rfl) rfl Try.func89 (by kernel_rfl) (by kernel_rfl) (carry_c (n := n + m) (x := x + y) (f := (plF x y m)) (by omega) (fun i _ => Nat.le_trans (plF_le x y m i) (by decide)) (plF_val hx hy) (Nat.le_refl _) Lg7 Rg7_0) (fun v9 w34 hv9 Sw34 => ?_)
   obtain ⟨g33, g33c, rfl, Cg33, Hg33, Lg33, Rg33_0⟩ := hv9
   have Ng0_g33 : g0 ≠ g33 := Nat.ne_of_lt (Nat.lt_of_lt_of_le Lg0 Hg33)
   have Ng1_g33 : g1 ≠ g33 := Nat.ne_of_lt (Nat.lt_of_lt_of_le Lg1 Hg33)
   have Ng7_g33 : g7 ≠ g33 := Nat.ne_of_lt (Nat.lt_of_lt_of_le Lg7 Hg33)
   have Gg33 : w.heap.size ≤ g33 := Nat.le_trans BE.size Hg33
   replace Rg0_0 := range_sees Rg0_0 Lg0 Sw34
   replace Rg1_0 := range_sees Rg1_0 Lg1 Sw34
   replace Rg7_0 := range_sees Rg7_0 Lg7 Sw34
   replace Tg7 := there_sees Tg7 Lg7 Sw34
   replace Lg0 := Nat.lt_of_lt_of_le Lg0 Sw34.2.2.size
   replace Lg1 := Nat.lt_of_lt_of_le Lg1 Sw34.2.2.size
   replace Lg7 := Nat.lt_of_lt_of_le Lg7 Sw34.2.2.size
   replace BE := BE.trans (Sw34.2.2.mono BE.size)
   simp only [Z7,Z0]
   refine Z13 (v := .slice (some ⟨g33, 0, none⟩) (dlen (x + y)) g33c) (by rfl) (by rfl) (by rfl) ?_
   simp only [Z7,Z0]
   refine Z9 (Z10 ?_)
   refine hK31 _ _ ?_
   refine wp_ret ?_
   repeat (first | with_reducible refine then_ret ?_ | with_reducible refine inblock_ret ?_)
   refine bodyPost_ret (v := .slice (some ⟨g33, 0, none⟩) (dlen (x + y)) g33c) (res1 rfl (.tmp (by rfl))) rfl ?_
   exact ⟨_, rfl, ⟨g33, g33c, rfl, Cg33, Gg33, Lg33, Rg33_0⟩, BE⟩
  ·
   have hi : i < m := of_decide_eq_true hc30
   refine Z5 rfl ?_
   refine wp_skip ?_
   refine hK29 _ _ ?_
   refine Z4 (fun K35 hK35 => ?_)
   refine wp_block ?_
   refine Z4 (fun K36 hK36 => ?_)
   refine wp_region_plain 1 (by kernel_rfl) (fun Lk hLk => ?_)
   simp only [Z1,Z2]
   refine Z16 (v := .int .i64 ((i : Nat) : Int)) (by rfl) rfl rfl ?_
   simp only [Z7,Z0]
   refine Z14 (hLk.out _ ?_)
   clear hLk Lk
   simp only [Z1,Z2]
   iterate 1 refine wpN_skip (by rfl) ?_
   refine wpN_nil (fun w38 Sw38 hbs => ?_)
   clear hbs
   replace Rg0_0 := range_sees Rg0_0 Lg0 Sw38
   replace Rg1_0 := range_sees Rg1_0 Lg1 Sw38
   replace Rg7_0 := range_sees Rg7_0 Lg7 Sw38
   replace Tg7 := there_sees Tg7 Lg7 Sw38
   replace Lg0 := Nat.lt_of_lt_of_le Lg0 Sw38.2.2.size
   replace Lg1 := Nat.lt_of_lt_of_le Lg1 Sw38.2.2.size
   replace Lg7 := Nat.lt_of_lt_of_le Lg7 Sw38.2.2.size
   replace BE := BE.trans (Sw38.2.2.mono BE.size)
   refine Z13 (v := .int .i64 ((i : Nat) : Int)) (by rfl) (by rfl) (by rfl) ?_
   simp only [Z7,Z0]
   refine Z9 (Z10 ?_)
   refine hK36 _ _ ?_
   refine wp_region_grow 12 [] (by kernel_rfl) (by kernel_rfl) (by kernel_rfl) (fun Lk hLk => ?_)
   simp only [Z1,Z2]
   refine Z16 (v := .slice (some ⟨g7, 0, none⟩) (n + m) (n + m)) (by rfl) rfl rfl ?_
   simp only [Z7,Z0]
   refine Z16 (v := .int .i64 ((i : Nat) : Int)) (by rfl) rfl rfl ?_
   simp only [Z7,Z0]
   refine Z16 (v := .slice (some ⟨g7, 0, none⟩) (n + m) (n + m)) (by rfl) rfl rfl ?_
   simp only [Z7,Z0]
   refine Z16 (v := .int .i64 ((i : Nat) : Int)) (by rfl) rfl rfl ?_
   simp only [Z7,Z0]
   refine wpV_idxs (n := i) (by rfl) rfl rfl rfl Try.underlying100 info3 (by omega) ?_
   simp only [Nat.zero_add]
   simp only [Z7,Z0]
   refine wpV_load1 (v := .int .i64 (((plF x y i) i : Nat) : Int)) (by rfl) rfl rfl (by have := Rg7_0 _ _ (nl_get (j := i) (n + m) (plF x y i) (by omega)); rwa [Nat.zero_add] at this) Lg7 Try.underlying3 rfl ?_
   simp only [Z7,Z0]
   refine Z16 (v := .slice (some ⟨g1, 0, none⟩) m cg1) (by rfl) rfl rfl ?_
   simp only [Z7,Z0]
   refine Z16 (v := .int .i64 ((i : Nat) : Int)) (by rfl) rfl rfl ?_
   simp only [Z7,Z0]
   refine wpV_idxs (n := i) (by rfl) rfl rfl rfl Try.underlying100 info3 (by omega) ?_
   simp only [Nat.zero_add]
   simp only [Z7,Z0]
   refine wpV_load1 (v := .int .i64 ((digN y i : Nat) : Int)) (by rfl) rfl rfl (by have := Rg1_0 _ _ (dl_get (j := i) m y (by omega)); rwa [Nat.zero_add] at this) Lg1 Try.underlying3 rfl ?_
   simp only [Z7,Z0]
   refine Z15 (v := .int .i64 ((plF x y i i + digN y i : Nat) : Int)) (by rfl) rfl rfl rfl (fun W => run_add (by have := plF_le x y i i; have := digN_lt y i; simp only [IntKind.wrap_i64]; omega) W) ?_
   simp only [Z7,Z0]
   refine wpV_idxs (n := i) (by rfl) rfl rfl rfl Try.underlying100 info3 (by omega) ?_
   simp only [Nat.zero_add]
   simp only [Z7,Z0]
   refine Z14 (hLk.out _ ?_)
   clear hLk Lk
   simp only [Z1,Z2]
   iterate 12 refine wpN_skip (by rfl) ?_
   refine wpN_nil (fun w40 Sw40 hbs => ?_)
   clear hbs
   replace Rg0_0 := range_sees Rg0_0 Lg0 Sw40
   replace Rg1_0 := range_sees Rg1_0 Lg1 Sw40
   replace Rg7_0 := range_sees Rg7_0 Lg7 Sw40
   replace Tg7 := there_sees Tg7 Lg7 Sw40
   replace Lg0 := Nat.lt_of_lt_of_le Lg0 Sw40.2.2.size
   replace Lg1 := Nat.lt_of_lt_of_le Lg1 Sw40.2.2.size
   replace Lg7 := Nat.lt_of_lt_of_le Lg7 Sw40.2.2.size
   replace BE := BE.trans (Sw40.2.2.mono BE.size)
   refine Z18 (g := g7) (off := i) (n := n + m) (v := .int .i64 ((plF x y i i + digN y i : Nat) : Int)) (by rfl) (by rfl) (by rfl) (by rfl) (by rfl) Tg7 (by omega) info3 rfl (fun w41 Pw41 RR TT => ?_)
   replace Rg0_0 := Pw41.range Rg0_0 (.inl Ng0_g7)
   replace Rg1_0 := Pw41.range Rg1_0 (.inl Ng1_g7)
   replace Rg7_0 := range_set Rg7_0 Pw41 RR
   clear RR
   replace Tg7 := TT
   replace Lg0 := Pw41.lt Lg0
   replace Lg1 := Pw41.lt Lg1
   replace Lg7 := Pw41.lt Lg7
   replace BE := Pw41.below BE Gg7
   rw [pl_put2] at Rg7_0
   refine Z9 (Z10 ?_)
   refine hK35 _ _ ?_
   refine wp_region_plain 2 (by kernel_rfl) (fun Lk hLk => ?_)
   simp only [Z1,Z2]
   refine Z15 (v := .int .i64 ((i + 1 : Nat) : Int)) (by rfl) rfl rfl rfl (fun W => run_add (by simp only [IntKind.wrap_i64]; omega) W) ?_
   simp only [Z7,Z0]
   refine Z16 (v := .int .i64 ((i + 1 : Nat) : Int)) (by rfl) rfl rfl ?_
   simp only [Z7,Z0]
   refine Z14 (hLk.out _ ?_)
   clear hLk Lk
   simp only [Z1,Z2]
   iterate 2 refine wpN_skip (by rfl) ?_
   refine wpN_nil (fun w43 Sw43 hbs => ?_)
   clear hbs
   replace Rg0_0 := range_sees Rg0_0 Lg0 Sw43
   replace Rg1_0 := range_sees Rg1_0 Lg1 Sw43
   replace Rg7_0 := range_sees Rg7_0 Lg7 Sw43
   replace Tg7 := there_sees Tg7 Lg7 Sw43
   replace Lg0 := Nat.lt_of_lt_of_le Lg0 Sw43.2.2.size
   replace Lg1 := Nat.lt_of_lt_of_le Lg1 Sw43.2.2.size
   replace Lg7 := Nat.lt_of_lt_of_le Lg7 Sw43.2.2.size
   replace BE := BE.trans (Sw43.2.2.mono BE.size)
   refine Z9 (Z10 ?_)
   refine Exists.intro _ ⟨?_, (i + 1), (fun q9 => (#[Z3, Z3, Z3, Z3, Z3, Z3, Z3, .int .i64 ((i : Nat) : Int), Z3, Z3, Z3, Z3, Z3, Z3, Z3, Z3, Z3, Z3, Z3, Z3, Z3, Z3, Z3, Z3, Z3, Z3, Z3, Z3, Z3, Z3, .bool true, .int .i64 ((i : Nat) : Int), .slice (some ⟨g7, 0, none⟩) (n + m) (n + m), .int .i64 ((i : Nat) : Int), .slice (some ⟨g7, 0, none⟩) (n + m) (n + m), .int .i64 ((i : Nat) : Int), .pointer (some ⟨g7, i, none⟩), .int .i64 (((plF x y i) i : Nat) : Int), .slice (some ⟨g1, 0, none⟩) m cg1, .int .i64 ((i : Nat) : Int), .pointer (some ⟨g1, i, none⟩), .int .i64 ((digN y i : Nat) : Int), .int .i64 ((plF x y i i + digN y i : Nat) : Int), .pointer (some ⟨g7, i, none⟩), .int .i64 ((i + 1 : Nat) : Int)] : Array Value).getD q9 Z3), rfl, rfl, BE, Rg0_0, Lg0, Rg1_0, Lg1, Rg7_0, Tg7, Lg7, (by omega)⟩
   omega
 ·
  have hi : i < n := of_decide_eq_true hc19
  refine Z5 rfl ?_
  refine wp_skip ?_
  refine hK18 _ _ ?_
  refine Z4 (fun K44 hK44 => ?_)
  refine wp_block ?_
  refine Z4 (fun K45 hK45 => ?_)
  refine wp_region_plain 1 (by kernel_rfl) (fun Lk hLk => ?_)
  simp only [Z1,Z2]
  refine Z16 (v := .int .i64 ((i : Nat) : Int)) (by rfl) rfl rfl ?_
  simp only [Z7,Z0]
  refine Z14 (hLk.out _ ?_)
  clear hLk Lk
  simp only [Z1,Z2]
  iterate 1 refine wpN_skip (by rfl) ?_
  refine wpN_nil (fun w47 Sw47 hbs => ?_)
  clear hbs
  replace Rg0_0 := range_sees Rg0_0 Lg0 Sw47
  replace Rg1_0 := range_sees Rg1_0 Lg1 Sw47
  replace Rg7_0 := range_sees Rg7_0 Lg7 Sw47
  replace Tg7 := there_sees Tg7 Lg7 Sw47
  replace Lg0 := Nat.lt_of_lt_of_le Lg0 Sw47.2.2.size
  replace Lg1 := Nat.lt_of_lt_of_le Lg1 Sw47.2.2.size
  replace Lg7 := Nat.lt_of_lt_of_le Lg7 Sw47.2.2.size
  replace BE := BE.trans (Sw47.2.2.mono BE.size)
  refine Z13 (v := .int .i64 ((i : Nat) : Int)) (by rfl) (by rfl) (by rfl) ?_
  simp only [Z7,Z0]
  refine Z9 (Z10 ?_)
  refine hK45 _ _ ?_
  refine wp_region_plain 7 (by kernel_rfl) (fun Lk hLk => ?_)
  simp only [Z1,Z2]
  refine Z16 (v := .slice (some ⟨g7, 0, none⟩) (n + m) (n + m)) (by rfl) rfl rfl ?_
  simp only [Z7,Z0]
  refine Z16 (v := .int .i64 ((i : Nat) : Int)) (by rfl) rfl rfl ?_
  simp only [Z7,Z0]
  refine Z16 (v := .slice (some ⟨g0, 0, none⟩) n cg0) (by rfl) rfl rfl ?_
  simp only [Z7,Z0]
  refine Z16 (v := .int .i64 ((i : Nat) : Int)) (by rfl) rfl rfl ?_
  simp only [Z7,Z0]
  refine wpV_idxs (n := i) (by rfl) rfl rfl rfl Try.underlying100 info3 (by omega) ?_
  simp only [Nat.zero_add]
  simp only [Z7,Z0]
  refine wpV_load1 (v := .int .i64 ((digN x i : Nat) : Int)) (by rfl) rfl rfl (by have := Rg0_0 _ _ (dl_get (j := i) n x (by omega)); rwa [Nat.zero_add] at this) Lg0 Try.underlying3 rfl ?_
  simp only [Z7,Z0]
  refine wpV_idxs (n := i) (by rfl) rfl rfl rfl Try.underlying100 info3 (by omega) ?_
  simp only [Nat.zero_add]
  simp only [Z7,Z0]
  refine Z14 (hLk.out _ ?_)
  clear hLk Lk
  simp only [Z1,Z2]
  iterate 7 refine wpN_skip (by rfl) ?_
  refine wpN_nil (fun w49 Sw49 hbs => ?_)
  clear hbs
  replace Rg0_0 := range_sees Rg0_0 Lg0 Sw49
  replace Rg1_0 := range_sees Rg1_0 Lg1 Sw49
  replace Rg7_0 := range_sees Rg7_0 Lg7 Sw49
  replace Tg7 := there_sees Tg7 Lg7 Sw49
  replace Lg0 := Nat.lt_of_lt_of_le Lg0 Sw49.2.2.size
  replace Lg1 := Nat.lt_of_lt_of_le Lg1 Sw49.2.2.size
  replace Lg7 := Nat.lt_of_lt_of_le Lg7 Sw49.2.2.size
  replace BE := BE.trans (Sw49.2.2.mono BE.size)
  refine Z18 (g := g7) (off := i) (n := n + m) (v := .int .i64 ((digN x i : Nat) : Int)) (by rfl) (by rfl) (by rfl) (by rfl) (by rfl) Tg7 (by omega) info3 rfl (fun w50 Pw50 RR TT => ?_)
  replace Rg0_0 := Pw50.range Rg0_0 (.inl Ng0_g7)
  replace Rg1_0 := Pw50.range Rg1_0 (.inl Ng1_g7)
  replace Rg7_0 := range_set Rg7_0 Pw50 RR
  clear RR
  replace Tg7 := TT
  replace Lg0 := Pw50.lt Lg0
  replace Lg1 := Pw50.lt Lg1
  replace Lg7 := Pw50.lt Lg7
  replace BE := Pw50.below BE Gg7
  rw [pl_put1] at Rg7_0
  refine Z9 (Z10 ?_)
  refine hK44 _ _ ?_
  refine wp_region_plain 2 (by kernel_rfl) (fun Lk hLk => ?_)
  simp only [Z1,Z2]
  refine Z15 (v := .int .i64 ((i + 1 : Nat) : Int)) (by rfl) rfl rfl rfl (fun W => run_add (by simp only [IntKind.wrap_i64]; omega) W) ?_
  simp only [Z7,Z0]
  refine Z16 (v := .int .i64 ((i + 1 : Nat) : Int)) (by rfl) rfl rfl ?_
  simp only [Z7,Z0]
  refine Z14 (hLk.out _ ?_)
  clear hLk Lk
  simp only [Z1,Z2]
  iterate 2 refine wpN_skip (by rfl) ?_
  refine wpN_nil (fun w52 Sw52 hbs => ?_)
  clear hbs
  replace Rg0_0 := range_sees Rg0_0 Lg0 Sw52
  replace Rg1_0 := range_sees Rg1_0 Lg1 Sw52
  replace Rg7_0 := range_sees Rg7_0 Lg7 Sw52
  replace Tg7 := there_sees Tg7 Lg7 Sw52
  replace Lg0 := Nat.lt_of_lt_of_le Lg0 Sw52.2.2.size
  replace Lg1 := Nat.lt_of_lt_of_le Lg1 Sw52.2.2.size
  replace Lg7 := Nat.lt_of_lt_of_le Lg7 Sw52.2.2.size
  replace BE := BE.trans (Sw52.2.2.mono BE.size)
  refine Z9 (Z10 ?_)
  refine Exists.intro _ ⟨?_, (i + 1), (fun q9 => (#[Z3, Z3, Z3, Z3, Z3, Z3, .int .i64 ((i : Nat) : Int), Z3, Z3, Z3, Z3, Z3, Z3, Z3, Z3, Z3, Z3, .bool true, .int .i64 ((i : Nat) : Int), .slice (some ⟨g7, 0, none⟩) (n + m) (n + m), .int .i64 ((i : Nat) : Int), .slice (some ⟨g0, 0, none⟩) n cg0, .int .i64 ((i : Nat) : Int), .pointer (some ⟨g0, i, none⟩), .int .i64 ((digN x i : Nat) : Int), .pointer (some ⟨g7, i, none⟩), .int .i64 ((i + 1 : Nat) : Int)] : Array Value).getD q9 Z3), rfl, rfl, BE, Rg0_0, Lg0, Rg1_0, Lg1, Rg7_0, Tg7, Lg7, (by omega)⟩
  omega
set_option maxHeartbeats 1000000 in
theorem times04_c {n x m y g0 g1 o cg0 cg1 : Nat} {w : World} (hn : n ≤ 1000) (hm : m ≤ 1000) (hx : x < 65536 ^ n) (hy : y < 65536 ^ m) (hcg0 : n ≤ cg0) (Lg0 : g0 < w.heap.size) (Rg0_o : w.rangeAt g0 o (dl n x)) (hcg1 : m ≤ cg1) (Lg1 : g1 < w.heap.size) (Rg1_0 : w.rangeAt g1 0 (dl m y)) :
  Calls Try.prog 77 #[.slice (some ⟨g0, o, none⟩) n cg0, .slice (some ⟨g1, 0, none⟩) m cg1] w fun e w' => ∃ v, e = .returned v ∧ NewRow w (dlen (x * y)) (dl (dlen (x * y)) (x * y)) v w' ∧ Below w.heap.size w w' := by
 go_enter Try.func77, Try.ntmps77
 have BE := Below.refl w.heap.size w
 refine Z4 (fun K1 hK1 => ?_)
 refine wp_region_plain 0 (by kernel_rfl) (fun Lk hLk => ?_)
 simp only [Z1,Z2]
 refine Z14 (hLk.out _ ?_)
 clear hLk Lk
 simp only [Z1,Z2]
 refine wpN_nil (fun w3 Sw3 hbs => ?_)
 clear hbs
 replace Rg0_o := range_sees Rg0_o Lg0 Sw3
 replace Rg1_0 := range_sees Rg1_0 Lg1 Sw3
 replace Lg0 := Nat.lt_of_lt_of_le Lg0 Sw3.2.2.size
 replace Lg1 := Nat.lt_of_lt_of_le Lg1 Sw3.2.2.size
 replace BE := BE.trans (Sw3.2.2.mono BE.size)
 refine Z13 (v := (.slice none 0 0)) (by rfl) (by rfl) (by rfl) ?_
 simp only [Z7,Z0]
 refine Z9 (Z10 ?_)
 refine hK1 _ _ ?_
 refine Z4 (fun K4 hK4 => ?_)
 refine wp_region_plain 5 (by kernel_rfl) (fun Lk hLk => ?_)
 simp only [Z1,Z2]
 refine Z16 (v := .slice (some ⟨g0, o, none⟩) n cg0) (by rfl) rfl rfl ?_
 simp only [Z7,Z0]
 refine wpV_lenA (n := n) (by rfl) rfl rfl rfl Try.underlying100 ?_
 simp only [Z7,Z0]
 refine Z16 (v := .slice (some ⟨g1, 0, none⟩) m cg1) (by rfl) rfl rfl ?_
 simp only [Z7,Z0]
 refine wpV_lenA (n := m) (by rfl) rfl rfl rfl Try.underlying100 ?_
 simp only [Z7,Z0]
 refine Z15 (v := .int .i64 ((n + m : Nat) : Int)) (by rfl) rfl rfl rfl (fun W => run_add (by simp only [IntKind.wrap_i64]; omega) W) ?_
 simp only [Z7,Z0]
 refine Z14 (hLk.out _ ?_)
 clear hLk Lk
 simp only [Z1,Z2]
 iterate 5 refine wpN_skip (by rfl) ?_
 refine wpN_nil (fun w6 Sw6 hbs => ?_)
 clear hbs
 replace Rg0_o := range_sees Rg0_o Lg0 Sw6
 replace Rg1_0 := range_sees Rg1_0 Lg1 Sw6
 replace Lg0 := Nat.lt_of_lt_of_le Lg0 Sw6.2.2.size
 replace Lg1 := Nat.lt_of_lt_of_le Lg1 Sw6.2.2.size
 replace BE := BE.trans (Sw6.2.2.mono BE.size)
 refine wpL_make (n := n + m) (z := .int .i64 0) (bytes := 8) (by rfl) (by rfl) (by rfl) (by rfl) Try.underlying100 (by kernel_rfl) rfl (by omega) (by omega) (fun g7 w8 Sw8 Hg7 Bg7 => ?_)
 have Ng0_g7 : g0 ≠ g7 := Nat.ne_of_lt (Nat.lt_of_lt_of_le Lg0 Hg7)
 have Ng1_g7 : g1 ≠ g7 := Nat.ne_of_lt (Nat.lt_of_lt_of_le Lg1 Hg7)
 have Gg7 : w.heap.size ≤ g7 := Nat.le_trans BE.size Hg7
 replace Rg0_o := range_sees Rg0_o Lg0 Sw8
 replace Rg1_0 := range_sees Rg1_0 Lg1 Sw8
 replace Lg0 := Nat.lt_of_lt_of_le Lg0 Sw8.2.2.size
 replace Lg1 := Nat.lt_of_lt_of_le Lg1 Sw8.2.2.size
 replace BE := BE.trans (Sw8.2.2.mono BE.size)
 have Tg7 := blk_there Bg7 (n := n + m) (by simp)
 have Rg7_0 := blk_range Bg7 (l := List.replicate (n + m) (.int .i64 0)) rfl
 rw [← nl_zero] at Rg7_0
 have Lg7 := Bg7.lt
 clear Bg7
 simp only [Z7,Z0]
 refine Z13 (v := .slice (some ⟨g7, 0, none⟩) (n + m) (n + m)) (by rfl) (by rfl) (by rfl) ?_
 simp only [Z7,Z0]
 refine Z9 (Z10 ?_)
 refine hK4 _ _ ?_
 refine Z4 (fun K9 hK9 => ?_)
 refine Z4 (fun K10 hK10 => ?_)
 refine wp_region_plain 3 (by kernel_rfl) (fun Lk hLk => ?_)
 simp only [Z1,Z2]
 refine Z16 (v := .slice (some ⟨g0, o, none⟩) n cg0) (by rfl) rfl rfl ?_
 simp only [Z7,Z0]
 refine wpV_lenA (n := n) (by rfl) rfl rfl rfl Try.underlying100 ?_
 simp only [Z7,Z0]
 refine Z16 (v := .int .i64 0) (by rfl) rfl rfl ?_
 simp only [Z7,Z0]
 refine Z14 (hLk.out _ ?_)
 clear hLk Lk
 simp only [Z1,Z2]
 iterate 3 refine wpN_skip (by rfl) ?_
 refine wpN_nil (fun w12 Sw12 hbs => ?_)
 clear hbs
 replace Rg0_o := range_sees Rg0_o Lg0 Sw12
 replace Rg1_0 := range_sees Rg1_0 Lg1 Sw12
 replace Rg7_0 := range_sees Rg7_0 Lg7 Sw12
 replace Tg7 := there_sees Tg7 Lg7 Sw12
 replace Lg0 := Nat.lt_of_lt_of_le Lg0 Sw12.2.2.size
 replace Lg1 := Nat.lt_of_lt_of_le Lg1 Sw12.2.2.size
 replace Lg7 := Nat.lt_of_lt_of_le Lg7 Sw12.2.2.size
 replace BE := BE.trans (Sw12.2.2.mono BE.size)
 refine Z9 (Z10 ?_)
 refine hK10 _ _ ?_
 refine wp_block ?_
 refine wp_loop_ghost (fun n9 a9 W9 => ∃ (i : Nat) (f : Nat → Nat) (u13 : Nat → Value), n9 = n - i ∧ a9 = { tmps := #[.slice (some ⟨g0, o, none⟩) n cg0, .slice (some ⟨g1, 0, none⟩) m cg1, Z3, Z3, (.slice none 0 0), .slice (some ⟨g7, 0, none⟩) (n + m) (n + m), u13 6, u13 7, .slice (some ⟨g0, o, none⟩) n cg0, .int .i64 ((n : Nat) : Int), .slice (some ⟨g1, 0, none⟩) m cg1, .int .i64 ((m : Nat) : Int), .int .i64 ((n + m : Nat) : Int), .slice (some ⟨g7, 0, none⟩) (n + m) (n + m), .slice (some ⟨g0, o, none⟩) n cg0, .int .i64 ((n : Nat) : Int), .int .i64 ((i : Nat) : Int), u13 17, u13 18, u13 19, u13 20, u13 21, u13 22, u13 23, u13 24, u13 25, u13 26, u13 27, u13 28, u13 29, u13 30, u13 31, u13 32, u13 33, u13 34, u13 35, u13 36, u13 37, u13 38, u13 39, u13 40, u13 41, u13 42, u13 43, u13 44, u13 45, u13 46, Z3, Z3], defers := [] } ∧ Below w.heap.size w W9 ∧ World.rangeAt W9 g0 o (dl n x) ∧ g0 < W9.heap.size ∧ World.rangeAt W9 g1 0 (dl m y) ∧ g1 < W9.heap.size ∧ World.rangeAt W9 g7 0 (nl (n + m) f) ∧ World.there W9 g7 0 (n + m) ∧ g7 < W9.heap.size ∧ (i ≤ n) ∧ (TmI x y n m i 0 f)) (n - (0)) ?_ (fun n9 a9 W9 hI => ?_)
 ·
  exact ⟨0, (fun _ => 0), (fun q9 => (#[Z3, Z3, Z3, Z3, Z3, Z3, Z3, Z3, Z3, Z3, Z3, Z3, Z3, Z3, Z3, Z3, Z3, Z3, Z3, Z3, Z3, Z3, Z3, Z3, Z3, Z3, Z3, Z3, Z3, Z3, Z3, Z3, Z3, Z3, Z3, Z3, Z3, Z3, Z3, Z3, Z3, Z3, Z3, Z3, Z3, Z3, Z3] : Array Value).getD q9 Z3), rfl, rfl, BE, Rg0_o, Lg0, Rg1_0, Lg1, Rg7_0, Tg7, Lg7, (by omega), (tm_start x y n m)⟩
 clear BE Rg0_o Rg1_0 Rg7_0 Tg7 Lg0 Lg1 Lg7
 obtain ⟨i, f, u13, rfl, rfl, BE, Rg0_o, Lg0, Rg1_0, Lg1, Rg7_0, Tg7, Lg7, hi4, HT⟩ := hI
 obtain ⟨w14, rfl⟩ : ∃ W8, W8 = W9 := ⟨_, rfl⟩
 refine Z4 (fun K15 hK15 => ?_)
 refine wp_region_plain 1 (by kernel_rfl) (fun Lk hLk => ?_)
 simp only [Z1,Z2]
 refine Z15 (v := .bool (decide (i < n))) (by rfl) rfl rfl rfl (fun W => run_lssN i n _ _ W) ?_
 simp only [Z7,Z0]
 refine Z14 (hLk.out _ ?_)
 clear hLk Lk
 simp only [Z1,Z2]
 iterate 1 refine wpN_skip (by rfl) ?_
 refine wpN_nil (fun w17 Sw17 hbs => ?_)
 clear hbs
 replace Rg0_o := range_sees Rg0_o Lg0 Sw17
 replace Rg1_0 := range_sees Rg1_0 Lg1 Sw17
 replace Rg7_0 := range_sees Rg7_0 Lg7 Sw17
 replace Tg7 := there_sees Tg7 Lg7 Sw17
 replace Lg0 := Nat.lt_of_lt_of_le Lg0 Sw17.2.2.size
 replace Lg1 := Nat.lt_of_lt_of_le Lg1 Sw17.2.2.size
 replace Lg7 := Nat.lt_of_lt_of_le Lg7 Sw17.2.2.size
 replace BE := BE.trans (Sw17.2.2.mono BE.size)
 refine Z9 (Z10 ?_)
 refine hK15 _ _ ?_
 refine Z4 (fun K18 hK18 => ?_)
 cases hc19 : (decide (i < n))
 ·
  have ei : n = i := by have := of_decide_eq_false hc19; omega
  subst ei
  refine Z6 rfl ?_
  refine wp_exit ?_
  refine hK9 _ _ ?_
  refine Z4 (fun K20 hK20 => ?_)
  refine Z8 ?_
  refine Z12 (v := .slice (some ⟨g7, 0, none⟩) (n + m) (n + m)) (by rfl) (by rfl) (by rfl) ?_
  simp only [Z7,Z0]
  refine wpL_callE (f := 89) (args := #[.slice (some ⟨g7, 0, none⟩) (n + m) (n + m)]) (R := NewRow w17 (dlen (x * y)) (dl (dlen (x * y)) (x * y))) (by rfl) (by rfl) rfl Try.func89 (by kernel_rfl) (by kernel_rfl) (carry_c (n := n + m) (x := x * y) (f := f) (by omega) (fun i _ => Nat.le_trans (tm_small (Nat.le_refl _) hn HT i) (by decide)) (tm_end hx HT) (Nat.le_refl _) Lg7 Rg7_0) (fun v9 w23 hv9 Sw23 => ?_)
  obtain ⟨g22, g22c, rfl, Cg22, Hg22, Lg22, Rg22_0⟩ := hv9
  have Ng0_g22 : g0 ≠ g22 := Nat.ne_of_lt (Nat.lt_of_lt_of_le Lg0 Hg22)
  have Ng1_g22 : g1 ≠ g22 := Nat.ne_of_lt (Nat.lt_of_lt_of_le Lg1 Hg22)
  have Ng7_g22 : g7 ≠ g22 := Nat.ne_of_lt (Nat.lt_of_lt_of_le Lg7 Hg22)
  have Gg22 : w.heap.size ≤ g22 := Nat.le_trans BE.size Hg22
  replace Rg0_o := range_sees Rg0_o Lg0 Sw23
  replace Rg1_0 := range_sees Rg1_0 Lg1 Sw23
  replace Rg7_0 := range_sees Rg7_0 Lg7 Sw23
  replace Tg7 := there_sees Tg7 Lg7 Sw23
  replace Lg0 := Nat.lt_of_lt_of_le Lg0 Sw23.2.2.size
  replace Lg1 := Nat.lt_of_lt_of_le Lg1 Sw23.2.2.size
  replace Lg7 := Nat.lt_of_lt_of_le Lg7 Sw23.2.2.size
  replace BE := BE.trans (Sw23.2.2.mono BE.size)
  simp only [Z7,Z0]
  refine Z13 (v := .slice (some ⟨g22, 0, none⟩) (dlen (x * y)) g22c) (by rfl) (by rfl) (by rfl) ?_
  simp only [Z7,Z0]
  refine Z9 (Z10 ?_)
  refine hK20 _ _ ?_
  refine wp_ret ?_
  repeat (first | with_reducible refine then_ret ?_ | with_reducible refine inblock_ret ?_)
  refine bodyPost_ret (v := .slice (some ⟨g22, 0, none⟩) (dlen (x * y)) g22c) (res1 rfl (.tmp (by rfl))) rfl ?_
  exact ⟨_, rfl, ⟨g22, g22c, rfl, Cg22, Gg22, Lg22, Rg22_0⟩, BE⟩
 ·
  have hi : i < n := of_decide_eq_true hc19
  refine Z5 rfl ?_
  refine wp_skip ?_
  refine hK18 _ _ ?_
  refine Z4 (fun K24 hK24 => ?_)
  refine wp_block ?_
  refine Z4 (fun K25 hK25 => ?_)
  refine wp_region_plain 1 (by kernel_rfl) (fun Lk hLk => ?_)
  simp only [Z1,Z2]
  refine Z16 (v := .int .i64 ((i : Nat) : Int)) (by rfl) rfl rfl ?_
  simp only [Z7,Z0]
  refine Z14 (hLk.out _ ?_)
  clear hLk Lk
  simp only [Z1,Z2]
  iterate 1 refine wpN_skip (by rfl) ?_
  refine wpN_nil (fun w27 Sw27 hbs => ?_)
  clear hbs
  replace Rg0_o := range_sees Rg0_o Lg0 Sw27
  replace Rg1_0 := range_sees Rg1_0 Lg1 Sw27
  replace Rg7_0 := range_sees Rg7_0 Lg7 Sw27
  replace Tg7 := there_sees Tg7 Lg7 Sw27
  replace Lg0 := Nat.lt_of_lt_of_le Lg0 Sw27.2.2.size
  replace Lg1 := Nat.lt_of_lt_of_le Lg1 Sw27.2.2.size
  replace Lg7 := Nat.lt_of_lt_of_le Lg7 Sw27.2.2.size
  replace BE := BE.trans (Sw27.2.2.mono BE.size)
  refine Z13 (v := .int .i64 ((i : Nat) : Int)) (by rfl) (by rfl) (by rfl) ?_
  simp only [Z7,Z0]
  refine Z9 (Z10 ?_)
  refine hK25 _ _ ?_
  refine Z4 (fun K28 hK28 => ?_)
  refine wp_region_plain 3 (by kernel_rfl) (fun Lk hLk => ?_)
  simp only [Z1,Z2]
  refine Z16 (v := .slice (some ⟨g1, 0, none⟩) m cg1) (by rfl) rfl rfl ?_
  simp only [Z7,Z0]
  refine wpV_lenA (n := m) (by rfl) rfl rfl rfl Try.underlying100 ?_
  simp only [Z7,Z0]
  refine Z16 (v := .int .i64 0) (by rfl) rfl rfl ?_
  simp only [Z7,Z0]
  refine Z14 (hLk.out _ ?_)
  clear hLk Lk
  simp only [Z1,Z2]
  iterate 3 refine wpN_skip (by rfl) ?_
  refine wpN_nil (fun w30 Sw30 hbs => ?_)
  clear hbs
  replace Rg0_o := range_sees Rg0_o Lg0 Sw30
  replace Rg1_0 := range_sees Rg1_0 Lg1 Sw30
  replace Rg7_0 := range_sees Rg7_0 Lg7 Sw30
  replace Tg7 := there_sees Tg7 Lg7 Sw30
  replace Lg0 := Nat.lt_of_lt_of_le Lg0 Sw30.2.2.size
  replace Lg1 := Nat.lt_of_lt_of_le Lg1 Sw30.2.2.size
  replace Lg7 := Nat.lt_of_lt_of_le Lg7 Sw30.2.2.size
  replace BE := BE.trans (Sw30.2.2.mono BE.size)
  refine Z9 (Z10 ?_)
  refine hK28 _ _ ?_
  refine wp_block ?_
  refine wp_loop_ghost (fun n9 a9 W9 => ∃ (k : Nat) (f : Nat → Nat) (u31 : Nat → Value), n9 = m - k ∧ a9 = { tmps := #[.slice (some ⟨g0, o, none⟩) n cg0, .slice (some ⟨g1, 0, none⟩) m cg1, Z3, Z3, (.slice none 0 0), .slice (some ⟨g7, 0, none⟩) (n + m) (n + m), .int .i64 ((i : Nat) : Int), u31 7, .slice (some ⟨g0, o, none⟩) n cg0, .int .i64 ((n : Nat) : Int), .slice (some ⟨g1, 0, none⟩) m cg1, .int .i64 ((m : Nat) : Int), .int .i64 ((n + m : Nat) : Int), .slice (some ⟨g7, 0, none⟩) (n + m) (n + m), .slice (some ⟨g0, o, none⟩) n cg0, .int .i64 ((n : Nat) : Int), .int .i64 ((i : Nat) : Int), .bool true, .int .i64 ((i : Nat) : Int), .slice (some ⟨g1, 0, none⟩) m cg1, .int .i64 ((m : Nat) : Int), .int .i64 ((k : Nat) : Int), u31 22, u31 23, u31 24, u31 25, u31 26, u31 27, u31 28, u31 29, u31 30, u31 31, u31 32, u31 33, u31 34, u31 35, u31 36, u31 37, u31 38, u31 39, u31 40, u31 41, u31 42, u31 43, u31 44, u31 45, u13 46, Z3, Z3], defers := [] } ∧ Below w.heap.size w W9 ∧ World.rangeAt W9 g0 o (dl n x) ∧ g0 < W9.heap.size ∧ World.rangeAt W9 g1 0 (dl m y) ∧ g1 < W9.heap.size ∧ World.rangeAt W9 g7 0 (nl (n + m) f) ∧ World.there W9 g7 0 (n + m) ∧ g7 < W9.heap.size ∧ (k ≤ m) ∧ (TmI x y n m i k f)) (m - (0)) ?_ (fun n9 a9 W9 hI => ?_)
  ·
   exact ⟨0, f, (fun q9 => (#[Z3, Z3, Z3, Z3, Z3, Z3, Z3, u13 7, Z3, Z3, Z3, Z3, Z3, Z3, Z3, Z3, Z3, Z3, Z3, Z3, Z3, Z3, u13 22, u13 23, u13 24, u13 25, u13 26, u13 27, u13 28, u13 29, u13 30, u13 31, u13 32, u13 33, u13 34, u13 35, u13 36, u13 37, u13 38, u13 39, u13 40, u13 41, u13 42, u13 43, u13 44, u13 45] : Array Value).getD q9 Z3), rfl, rfl, BE, Rg0_o, Lg0, Rg1_0, Lg1, Rg7_0, Tg7, Lg7, (by omega), HT⟩
  clear BE Rg0_o Rg1_0 Rg7_0 Tg7 Lg0 Lg1 Lg7
  obtain ⟨k, f, u31, rfl, rfl, BE, Rg0_o, Lg0, Rg1_0, Lg1, Rg7_0, Tg7, Lg7, hk4, HT⟩ := hI
  obtain ⟨w32, rfl⟩ : ∃ W8, W8 = W9 := ⟨_, rfl⟩
  refine Z4 (fun K33 hK33 => ?_)
  refine wp_region_plain 1 (by kernel_rfl) (fun Lk hLk => ?_)
  simp only [Z1,Z2]
  refine Z15 (v := .bool (decide (k < m))) (by rfl) rfl rfl rfl (fun W => run_lssN k m _ _ W) ?_
  simp only [Z7,Z0]
  refine Z14 (hLk.out _ ?_)
  clear hLk Lk
  simp only [Z1,Z2]
  iterate 1 refine wpN_skip (by rfl) ?_
  refine wpN_nil (fun w35 Sw35 hbs => ?_)
  clear hbs
  replace Rg0_o := range_sees Rg0_o Lg0 Sw35
  replace Rg1_0 := range_sees Rg1_0 Lg1 Sw35
  replace Rg7_0 := range_sees Rg7_0 Lg7 Sw35
  replace Tg7 := there_sees Tg7 Lg7 Sw35
  replace Lg0 := Nat.lt_of_lt_of_le Lg0 Sw35.2.2.size
  replace Lg1 := Nat.lt_of_lt_of_le Lg1 Sw35.2.2.size
  replace Lg7 := Nat.lt_of_lt_of_le Lg7 Sw35.2.2.size
  replace BE := BE.trans (Sw35.2.2.mono BE.size)
  refine Z9 (Z10 ?_)
  refine hK33 _ _ ?_
  refine Z4 (fun K36 hK36 => ?_)
  cases hc37 : (decide (k < m))
  ·
   have ek : m = k := by have := of_decide_eq_false hc37; omega
   subst ek
   refine Z6 rfl ?_
   refine wp_exit ?_
   refine hK24 _ _ ?_
   refine wp_region_plain 2 (by kernel_rfl) (fun Lk hLk => ?_)
   simp only [Z1,Z2]
   refine Z15 (v := .int .i64 ((i + 1 : Nat) : Int)) (by rfl) rfl rfl rfl (fun W => run_add (by simp only [IntKind.wrap_i64]; omega) W) ?_
   simp only [Z7,Z0]
   refine Z16 (v := .int .i64 ((i + 1 : Nat) : Int)) (by rfl) rfl rfl ?_
   simp only [Z7,Z0]
   refine Z14 (hLk.out _ ?_)
   clear hLk Lk
   simp only [Z1,Z2]
   iterate 2 refine wpN_skip (by rfl) ?_
   refine wpN_nil (fun w39 Sw39 hbs => ?_)
   clear hbs
   replace Rg0_o := range_sees Rg0_o Lg0 Sw39
   replace Rg1_0 := range_sees Rg1_0 Lg1 Sw39
   replace Rg7_0 := range_sees Rg7_0 Lg7 Sw39
   replace Tg7 := there_sees Tg7 Lg7 Sw39
   replace Lg0 := Nat.lt_of_lt_of_le Lg0 Sw39.2.2.size
   replace Lg1 := Nat.lt_of_lt_of_le Lg1 Sw39.2.2.size
   replace Lg7 := Nat.lt_of_lt_of_le Lg7 Sw39.2.2.size
   replace BE := BE.trans (Sw39.2.2.mono BE.size)
   refine Z9 (Z10 ?_)
   refine Exists.intro _ ⟨?_, (i + 1), f, (fun q9 => (#[Z3, Z3, Z3, Z3, Z3, Z3, .int .i64 ((i : Nat) : Int), u31 7, Z3, Z3, Z3, Z3, Z3, Z3, Z3, Z3, Z3, .bool true, .int .i64 ((i : Nat) : Int), .slice (some ⟨g1, 0, none⟩) m cg1, .int .i64 ((m : Nat) : Int), .int .i64 ((m : Nat) : Int), .bool false, u31 23, u31 24, u31 25, u31 26, u31 27, u31 28, u31 29, u31 30, u31 31, u31 32, u31 33, u31 34, u31 35, u31 36, u31 37, u31 38, u31 39, u31 40, u31 41, u31 42, u31 43, u31 44, u31 45, .int .i64 ((i + 1 : Nat) : Int)] : Array Value).getD q9 Z3), rfl, rfl, BE, Rg0_o, Lg0, Rg1_0, Lg1, Rg7_0, Tg7, Lg7, (by omega), (tm_row hy HT)⟩
   omega
  ·
   have hk : k < m := of_decide_eq_true hc37
   refine Z5 rfl ?_
   refine wp_skip ?_
   refine hK36 _ _ ?_
   refine Z4 (fun K40 hK40 => ?_)
   refine wp_block ?_
   refine Z4 (fun K41 hK41 => ?_)
   refine wp_region_plain 1 (by kernel_rfl) (fun Lk hLk => ?_)
   simp only [Z1,Z2]
   refine Z16 (v := .int .i64 ((k : Nat) : Int)) (by rfl) rfl rfl ?_
   simp only [Z7,Z0]
   refine Z14 (hLk.out _ ?_)
   clear hLk Lk
   simp only [Z1,Z2]
   iterate 1 refine wpN_skip (by rfl) ?_
   refine wpN_nil (fun w43 Sw43 hbs => ?_)
   clear hbs
   replace Rg0_o := range_sees Rg0_o Lg0 Sw43
   replace Rg1_0 := range_sees Rg1_0 Lg1 Sw43
   replace Rg7_0 := range_sees Rg7_0 Lg7 Sw43
   replace Tg7 := there_sees Tg7 Lg7 Sw43
   replace Lg0 := Nat.lt_of_lt_of_le Lg0 Sw43.2.2.size
   replace Lg1 := Nat.lt_of_lt_of_le Lg1 Sw43.2.2.size
   replace Lg7 := Nat.lt_of_lt_of_le Lg7 Sw43.2.2.size
   replace BE := BE.trans (Sw43.2.2.mono BE.size)
   refine Z13 (v := .int .i64 ((k : Nat) : Int)) (by rfl) (by rfl) (by rfl) ?_
   simp only [Z7,Z0]
   refine Z9 (Z10 ?_)
   refine hK41 _ _ ?_
   refine wp_region_grow 21 [] (by kernel_rfl) (by kernel_rfl) (by kernel_rfl) (fun Lk hLk => ?_)
   simp only [Z1,Z2]
   refine Z16 (v := .slice (some ⟨g7, 0, none⟩) (n + m) (n + m)) (by rfl) rfl rfl ?_
   simp only [Z7,Z0]
   refine Z16 (v := .int .i64 ((i : Nat) : Int)) (by rfl) rfl rfl ?_
   simp only [Z7,Z0]
   refine Z16 (v := .int .i64 ((k : Nat) : Int)) (by rfl) rfl rfl ?_
   simp only [Z7,Z0]
   refine Z15 (v := .int .i64 ((i + k : Nat) : Int)) (by rfl) rfl rfl rfl (fun W => run_add (by simp only [IntKind.wrap_i64]; omega) W) ?_
   simp only [Z7,Z0]
   refine Z16 (v := .slice (some ⟨g7, 0, none⟩) (n + m) (n + m)) (by rfl) rfl rfl ?_
   simp only [Z7,Z0]
   refine Z16 (v := .int .i64 ((i : Nat) : Int)) (by rfl) rfl rfl ?_
   simp only [Z7,Z0]
   refine Z16 (v := .int .i64 ((k : Nat) : Int)) (by rfl) rfl rfl ?_
   simp only [Z7,Z0]
   refine Z15 (v := .int .i64 ((i + k : Nat) : Int)) (by rfl) rfl rfl rfl (fun W => run_add (by simp only [IntKind.wrap_i64]; omega) W) ?_
   simp only [Z7,Z0]
   refine wpV_idxs (n := i + k) (by rfl) rfl rfl rfl Try.underlying100 info3 (by omega) ?_
   simp only [Nat.zero_add]
   simp only [Z7,Z0]
   refine wpV_load1 (v := .int .i64 ((f (i + k) : Nat) : Int)) (by rfl) rfl rfl (by have := Rg7_0 _ _ (nl_get (j := i + k) (n + m) f (by omega)); rwa [Nat.zero_add] at this) Lg7 Try.underlying3 rfl ?_
   simp only [Z7,Z0]
   refine Z16 (v := .slice (some ⟨g0, o, none⟩) n cg0) (by rfl) rfl rfl ?_
   simp only [Z7,Z0]
   refine Z16 (v := .int .i64 ((i : Nat) : Int)) (by rfl) rfl rfl ?_
   simp only [Z7,Z0]
   refine wpV_idxs (n := i) (by rfl) rfl rfl rfl Try.underlying100 info3 (by omega) ?_
   simp only [Z7,Z0]
   refine wpV_load1 (v := .int .i64 ((digN x i : Nat) : Int)) (by rfl) rfl rfl (Rg0_o _ _ (dl_get (j := i) n x (by omega))) Lg0 Try.underlying3 rfl ?_
   simp only [Z7,Z0]
   refine Z16 (v := .slice (some ⟨g1, 0, none⟩) m cg1) (by rfl) rfl rfl ?_
   simp only [Z7,Z0]
   refine Z16 (v := .int .i64 ((k : Nat) : Int)) (by rfl) rfl rfl ?_
   simp only [Z7,Z0]
   refine wpV_idxs (n := k) (by rfl) rfl rfl rfl Try.underlying100 info3 (by omega) ?_
   simp only [Nat.zero_add]
   simp only [Z7,Z0]
   refine wpV_load1 (v := .int .i64 ((digN y k : Nat) : Int)) (by rfl) rfl rfl (by have := Rg1_0 _ _ (dl_get (j := k) m y (by omega)); rwa [Nat.zero_add] at this) Lg1 Try.underlying3 rfl ?_
   simp only [Z7,Z0]
   refine Z15 (v := .int .i64 ((digN x i * digN y k : Nat) : Int)) (by rfl) rfl rfl rfl (fun W => run_mul (by have := dig_mul_le x y i k; have e : ((digN x i : Nat) : Int) * ((digN y k : Nat) : Int) = ((digN x i * digN y k : Nat) : Int) := (by simp); rw [e]; generalize digN x i * digN y k = p at *; simp only [IntKind.wrap_i64]; omega) W) ?_
   simp only [Z7,Z0]
   refine Z15 (v := .int .i64 ((f (i + k) + digN x i * digN y k : Nat) : Int)) (by rfl) rfl rfl rfl (fun W => run_add (by have := dig_mul_le x y i k; have := tm_small hi4 hn HT (i + k); generalize digN x i * digN y k = p at *; generalize f (i + k) = q at *; simp only [IntKind.wrap_i64]; omega) W) ?_
   simp only [Z7,Z0]
   refine wpV_idxs (n := i + k) (by rfl) rfl rfl rfl Try.underlying100 info3 (by omega) ?_
   simp only [Nat.zero_add]
   simp only [Z7,Z0]
   refine Z14 (hLk.out _ ?_)
   clear hLk Lk
   simp only [Z1,Z2]
   iterate 21 refine wpN_skip (by rfl) ?_
   refine wpN_nil (fun w45 Sw45 hbs => ?_)
   clear hbs
   replace Rg0_o := range_sees Rg0_o Lg0 Sw45
   replace Rg1_0 := range_sees Rg1_0 Lg1 Sw45
   replace Rg7_0 := range_sees Rg7_0 Lg7 Sw45
   replace Tg7 := there_sees Tg7 Lg7 Sw45
   replace Lg0 := Nat.lt_of_lt_of_le Lg0 Sw45.2.2.size
   replace Lg1 := Nat.lt_of_lt_of_le Lg1 Sw45.2.2.size
   replace Lg7 := Nat.lt_of_lt_of_le Lg7 Sw45.2.2.size
   replace BE := BE.trans (Sw45.2.2.mono BE.size)
   refine Z18 (g := g7) (off := i + k) (n := n + m) (v := .int .i64 ((f (i + k) + digN x i * digN y k : Nat) : Int)) (by rfl) (by rfl) (by rfl) (by rfl) (by rfl) Tg7 (by omega) info3 rfl (fun w46 Pw46 RR TT => ?_)
   replace Rg0_o := Pw46.range Rg0_o (.inl Ng0_g7)
   replace Rg1_0 := Pw46.range Rg1_0 (.inl Ng1_g7)
   replace Rg7_0 := range_set Rg7_0 Pw46 RR
   clear RR
   replace Tg7 := TT
   replace Lg0 := Pw46.lt Lg0
   replace Lg1 := Pw46.lt Lg1
   replace Lg7 := Pw46.lt Lg7
   replace BE := Pw46.below BE Gg7
   rw [tm_put] at Rg7_0
   refine Z9 (Z10 ?_)
   refine hK40 _ _ ?_
   refine wp_region_plain 2 (by kernel_rfl) (fun Lk hLk => ?_)
   simp only [Z1,Z2]
   refine Z15 (v := .int .i64 ((k + 1 : Nat) : Int)) (by rfl) rfl rfl rfl (fun W => run_add (by simp only [IntKind.wrap_i64]; omega) W) ?_
   simp only [Z7,Z0]
   refine Z16 (v := .int .i64 ((k + 1 : Nat) : Int)) (by rfl) rfl rfl ?_
   simp only [Z7,Z0]
   refine Z14 (hLk.out _ ?_)
   clear hLk Lk
   simp only [Z1,Z2]
   iterate 2 refine wpN_skip (by rfl) ?_
   refine wpN_nil (fun w48 Sw48 hbs => ?_)
   clear hbs
   replace Rg0_o := range_sees Rg0_o Lg0 Sw48
   replace Rg1_0 := range_sees Rg1_0 Lg1 Sw48
   replace Rg7_0 := range_sees Rg7_0 Lg7 Sw48
   replace Tg7 := there_sees Tg7 Lg7 Sw48
   replace Lg0 := Nat.lt_of_lt_of_le Lg0 Sw48.2.2.size
   replace Lg1 := Nat.lt_of_lt_of_le Lg1 Sw48.2.2.size
   replace Lg7 := Nat.lt_of_lt_of_le Lg7 Sw48.2.2.size
   replace BE := BE.trans (Sw48.2.2.mono BE.size)
   refine Z9 (Z10 ?_)
   refine Exists.intro _ ⟨?_, (k + 1), (tmF x y i k f), (fun q9 => (#[Z3, Z3, Z3, Z3, Z3, Z3, Z3, .int .i64 ((k : Nat) : Int), Z3, Z3, Z3, Z3, Z3, Z3, Z3, Z3, Z3, Z3, Z3, Z3, Z3, Z3, .bool true, .int .i64 ((k : Nat) : Int), .slice (some ⟨g7, 0, none⟩) (n + m) (n + m), .int .i64 ((i : Nat) : Int), .int .i64 ((k : Nat) : Int), .int .i64 ((i + k : Nat) : Int), .slice (some ⟨g7, 0, none⟩) (n + m) (n + m), .int .i64 ((i : Nat) : Int), .int .i64 ((k : Nat) : Int), .int .i64 ((i + k : Nat) : Int), .pointer (some ⟨g7, i + k, none⟩), .int .i64 ((f (i + k) : Nat) : Int), .slice (some ⟨g0, o, none⟩) n cg0, .int .i64 ((i : Nat) : Int), .pointer (some ⟨g0, o + i, none⟩), .int .i64 ((digN x i : Nat) : Int), .slice (some ⟨g1, 0, none⟩) m cg1, .int .i64 ((k : Nat) : Int), .pointer (some ⟨g1, k, none⟩), .int .i64 ((digN y k : Nat) : Int), .int .i64 ((digN x i * digN y k : Nat) : Int), .int .i64 ((f (i + k) + digN x i * digN y k : Nat) : Int), .pointer (some ⟨g7, i + k, none⟩), .int .i64 ((k + 1 : Nat) : Int)] : Array Value).getD q9 Z3), rfl, rfl, BE, Rg0_o, Lg0, Rg1_0, Lg1, Rg7_0, Tg7, Lg7, (by omega), (tm_step hi hk HT)⟩
   omega
set_option maxHeartbeats 1000000 in
theorem minus04_c {n x m y g0 g1 cg0 cg1 : Nat} {w : World} (hn : n ≤ 10000) (hm : m ≤ 10000) (hx : x < 65536 ^ n) (hy : y < 65536 ^ m) (hyx : y ≤ x) (hcg0 : n ≤ cg0) (Lg0 : g0 < w.heap.size) (Rg0_0 : w.rangeAt g0 0 (dl n x)) (hcg1 : m ≤ cg1) (Lg1 : g1 < w.heap.size) (Rg1_0 : w.rangeAt g1 0 (dl m y)) :
  Calls Try.prog 70 #[.slice (some ⟨g0, 0, none⟩) n cg0, .slice (some ⟨g1, 0, none⟩) m cg1] w fun e w' => ∃ v, e = .returned v ∧ NewRow w (dlen (x - y)) (dl (dlen (x - y)) (x - y)) v w' ∧ Below w.heap.size w w' := by
 go_enter Try.func70, Try.ntmps70
 have BE := Below.refl w.heap.size w
 refine Z4 (fun K1 hK1 => ?_)
 refine wp_region_plain 0 (by kernel_rfl) (fun Lk hLk => ?_)
 simp only [Z1,Z2]
 refine Z14 (hLk.out _ ?_)
 clear hLk Lk
 simp only [Z1,Z2]
 refine wpN_nil (fun w3 Sw3 hbs => ?_)
 clear hbs
 replace Rg0_0 := range_sees Rg0_0 Lg0 Sw3
 replace Rg1_0 := range_sees Rg1_0 Lg1 Sw3
 replace Lg0 := Nat.lt_of_lt_of_le Lg0 Sw3.2.2.size
 replace Lg1 := Nat.lt_of_lt_of_le Lg1 Sw3.2.2.size
 replace BE := BE.trans (Sw3.2.2.mono BE.size)
 refine Z13 (v := (.slice none 0 0)) (by rfl) (by rfl) (by rfl) ?_
 simp only [Z7,Z0]
 refine Z9 (Z10 ?_)
 refine hK1 _ _ ?_
 refine Z4 (fun K4 hK4 => ?_)
 refine wp_region_plain 2 (by kernel_rfl) (fun Lk hLk => ?_)
 simp only [Z1,Z2]
 refine Z16 (v := .slice (some ⟨g0, 0, none⟩) n cg0) (by rfl) rfl rfl ?_
 simp only [Z7,Z0]
 refine wpV_lenA (n := n) (by rfl) rfl rfl rfl Try.underlying100 ?_
 simp only [Z7,Z0]
 refine Z14 (hLk.out _ ?_)
 clear hLk Lk
 simp only [Z1,Z2]
 iterate 2 refine wpN_skip (by rfl) ?_
 refine wpN_nil (fun w6 Sw6 hbs => ?_)
 clear hbs
 replace Rg0_0 := range_sees Rg0_0 Lg0 Sw6
 replace Rg1_0 := range_sees Rg1_0 Lg1 Sw6
 replace Lg0 := Nat.lt_of_lt_of_le Lg0 Sw6.2.2.size
 replace Lg1 := Nat.lt_of_lt_of_le Lg1 Sw6.2.2.size
 replace BE := BE.trans (Sw6.2.2.mono BE.size)
 refine wpL_make (n := n) (z := .int .i64 0) (bytes := 8) (by rfl) (by rfl) (by rfl) (by rfl) Try.underlying100 (by kernel_rfl) rfl (by omega) (by omega) (fun g7 w8 Sw8 Hg7 Bg7 => ?_)
 have Ng0_g7 : g0 ≠ g7 := Nat.ne_of_lt (Nat.lt_of_lt_of_le Lg0 Hg7)
 have Ng1_g7 : g1 ≠ g7 := Nat.ne_of_lt (Nat.lt_of_lt_of_le Lg1 Hg7)
 have Gg7 : w.heap.size ≤ g7 := Nat.le_trans BE.size Hg7
 replace Rg0_0 := range_sees Rg0_0 Lg0 Sw8
 replace Rg1_0 := range_sees Rg1_0 Lg1 Sw8
 replace Lg0 := Nat.lt_of_lt_of_le Lg0 Sw8.2.2.size
 replace Lg1 := Nat.lt_of_lt_of_le Lg1 Sw8.2.2.size
 replace BE := BE.trans (Sw8.2.2.mono BE.size)
 have Tg7 := blk_there Bg7 (n := n) (by simp)
 have Rg7_0 := blk_range Bg7 (l := List.replicate n (.int .i64 0)) rfl
 rw [← dl_zero] at Rg7_0
 have Lg7 := Bg7.lt
 clear Bg7
 simp only [Z7,Z0]
 refine Z13 (v := .slice (some ⟨g7, 0, none⟩) n n) (by rfl) (by rfl) (by rfl) ?_
 simp only [Z7,Z0]
 refine Z9 (Z10 ?_)
 refine hK4 _ _ ?_
 refine Z4 (fun K9 hK9 => ?_)
 refine wp_region_plain 0 (by kernel_rfl) (fun Lk hLk => ?_)
 simp only [Z1,Z2]
 refine Z14 (hLk.out _ ?_)
 clear hLk Lk
 simp only [Z1,Z2]
 refine wpN_nil (fun w11 Sw11 hbs => ?_)
 clear hbs
 replace Rg0_0 := range_sees Rg0_0 Lg0 Sw11
 replace Rg1_0 := range_sees Rg1_0 Lg1 Sw11
 replace Rg7_0 := range_sees Rg7_0 Lg7 Sw11
 replace Tg7 := there_sees Tg7 Lg7 Sw11
 replace Lg0 := Nat.lt_of_lt_of_le Lg0 Sw11.2.2.size
 replace Lg1 := Nat.lt_of_lt_of_le Lg1 Sw11.2.2.size
 replace Lg7 := Nat.lt_of_lt_of_le Lg7 Sw11.2.2.size
 replace BE := BE.trans (Sw11.2.2.mono BE.size)
 refine Z13 (v := .int .i64 0) (by rfl) (by rfl) (by rfl) ?_
 simp only [Z7,Z0]
 refine Z9 (Z10 ?_)
 refine hK9 _ _ ?_
 refine Z4 (fun K12 hK12 => ?_)
 refine Z4 (fun K13 hK13 => ?_)
 refine wp_region_plain 3 (by kernel_rfl) (fun Lk hLk => ?_)
 simp only [Z1,Z2]
 refine Z16 (v := .slice (some ⟨g0, 0, none⟩) n cg0) (by rfl) rfl rfl ?_
 simp only [Z7,Z0]
 refine wpV_lenA (n := n) (by rfl) rfl rfl rfl Try.underlying100 ?_
 simp only [Z7,Z0]
 refine Z16 (v := .int .i64 0) (by rfl) rfl rfl ?_
 simp only [Z7,Z0]
 refine Z14 (hLk.out _ ?_)
 clear hLk Lk
 simp only [Z1,Z2]
 iterate 3 refine wpN_skip (by rfl) ?_
 refine wpN_nil (fun w15 Sw15 hbs => ?_)
 clear hbs
 replace Rg0_0 := range_sees Rg0_0 Lg0 Sw15
 replace Rg1_0 := range_sees Rg1_0 Lg1 Sw15
 replace Rg7_0 := range_sees Rg7_0 Lg7 Sw15
 replace Tg7 := there_sees Tg7 Lg7 Sw15
 replace Lg0 := Nat.lt_of_lt_of_le Lg0 Sw15.2.2.size
 replace Lg1 := Nat.lt_of_lt_of_le Lg1 Sw15.2.2.size
 replace Lg7 := Nat.lt_of_lt_of_le Lg7 Sw15.2.2.size
 replace BE := BE.trans (Sw15.2.2.mono BE.size)
 refine Z9 (Z10 ?_)
 refine hK13 _ _ ?_
 refine wp_block ?_
 refine wp_loop_ghost (fun n9 a9 W9 => ∃ (i : Nat) (R : Nat) (low : Nat) (u16 : Nat → Value), n9 = n - i ∧ a9 = { tmps := #[.slice (some ⟨g0, 0, none⟩) n cg0, .slice (some ⟨g1, 0, none⟩) m cg1, Z3, Z3, (.slice none 0 0), .slice (some ⟨g7, 0, none⟩) n n, .int .i64 ((low : Nat) : Int), u16 7, u16 8, .slice (some ⟨g0, 0, none⟩) n cg0, .int .i64 ((n : Nat) : Int), .slice (some ⟨g7, 0, none⟩) n n, .slice (some ⟨g0, 0, none⟩) n cg0, .int .i64 ((n : Nat) : Int), .int .i64 ((i : Nat) : Int), u16 15, u16 16, u16 17, u16 18, u16 19, u16 20, u16 21, u16 22, u16 23, u16 24, u16 25, u16 26, u16 27, u16 28, u16 29, u16 30, u16 31, u16 32, u16 33, u16 34, u16 35, u16 36, u16 37, u16 38, u16 39, u16 40, u16 41, Z3, Z3], defers := [] } ∧ Below w.heap.size w W9 ∧ World.rangeAt W9 g0 0 (dl n x) ∧ g0 < W9.heap.size ∧ World.rangeAt W9 g1 0 (dl m y) ∧ g1 < W9.heap.size ∧ World.rangeAt W9 g7 0 (dl n R) ∧ World.there W9 g7 0 n ∧ g7 < W9.heap.size ∧ (i ≤ n) ∧ (MiI x y i R low)) (n - (0)) ?_ (fun n9 a9 W9 hI => ?_)
 ·
  exact ⟨0, 0, 0, (fun q9 => (#[Z3, Z3, Z3, Z3, Z3, Z3, Z3, Z3, Z3, Z3, Z3, Z3, Z3, Z3, Z3, Z3, Z3, Z3, Z3, Z3, Z3, Z3, Z3, Z3, Z3, Z3, Z3, Z3, Z3, Z3, Z3, Z3, Z3, Z3, Z3, Z3, Z3, Z3, Z3, Z3, Z3, Z3] : Array Value).getD q9 Z3), rfl, rfl, BE, Rg0_0, Lg0, Rg1_0, Lg1, Rg7_0, Tg7, Lg7, (by omega), (mi_start x y)⟩
 clear BE Rg0_0 Rg1_0 Rg7_0 Tg7 Lg0 Lg1 Lg7
 obtain ⟨i, R, low, u16, rfl, rfl, BE, Rg0_0, Lg0, Rg1_0, Lg1, Rg7_0, Tg7, Lg7, hi4, HM⟩ := hI
 obtain ⟨w17, rfl⟩ : ∃ W8, W8 = W9 := ⟨_, rfl⟩
 have hl1 := HM.low
 have hdx := digN_lt x i
 have hdy := digN_lt y i
 refine Z4 (fun K18 hK18 => ?_)
 refine wp_region_plain 1 (by kernel_rfl) (fun Lk hLk => ?_)
 simp only [Z1,Z2]
 refine Z15 (v := .bool (decide (i < n))) (by rfl) rfl rfl rfl (fun W => run_lssN i n _ _ W) ?_
 simp only [Z7,Z0]
 refine Z14 (hLk.out _ ?_)
 clear hLk Lk
 simp only [Z1,Z2]
 iterate 1 refine wpN_skip (by rfl) ?_
 refine wpN_nil (fun w20 Sw20 hbs => ?_)
 clear hbs
 replace Rg0_0 := range_sees Rg0_0 Lg0 Sw20
 replace Rg1_0 := range_sees Rg1_0 Lg1 Sw20
 replace Rg7_0 := range_sees Rg7_0 Lg7 Sw20
 replace Tg7 := there_sees Tg7 Lg7 Sw20
 replace Lg0 := Nat.lt_of_lt_of_le Lg0 Sw20.2.2.size
 replace Lg1 := Nat.lt_of_lt_of_le Lg1 Sw20.2.2.size
 replace Lg7 := Nat.lt_of_lt_of_le Lg7 Sw20.2.2.size
 replace BE := BE.trans (Sw20.2.2.mono BE.size)
 refine Z9 (Z10 ?_)
 refine hK18 _ _ ?_
 refine Z4 (fun K21 hK21 => ?_)
 cases hc22 : (decide (i < n))
 ·
  have ei : n = i := by have := of_decide_eq_false hc22; omega
  subst ei
  refine Z6 rfl ?_
  refine wp_exit ?_
  refine hK12 _ _ ?_
  refine Z4 (fun K23 hK23 => ?_)
  have eR := mi_end hx hyx HM
  subst eR
  refine wp_region_plain 2 (by kernel_rfl) (fun Lk hLk => ?_)
  simp only [Z1,Z2]
  refine Z16 (v := .slice (some ⟨g7, 0, none⟩) n n) (by rfl) rfl rfl ?_
  simp only [Z7,Z0]
  refine Z20 (v := .slice (some ⟨g7, 0, none⟩) (dlen (x - y)) n) (args := #[.slice (some ⟨g7, 0, none⟩) n n]) (by rfl) rfl Try.func64 (by kernel_rfl) (by kernel_rfl) rfl (fun W hW => trim_c (x := (x - y)) (by omega) (Nat.lt_of_le_of_lt (Nat.sub_le x y) hx) (Nat.le_refl _) (Nat.lt_of_lt_of_le Lg7 hW.2.2.size) (range_sees Rg7_0 Lg7 hW)) ?_
  simp only [Z7,Z0]
  refine Z14 (hLk.out _ ?_)
  clear hLk Lk
  simp only [Z1,Z2]
  iterate 2 refine wpN_skip (by rfl) ?_
  refine wpN_nil (fun w25 Sw25 hbs => ?_)
  clear hbs
  replace Rg0_0 := range_sees Rg0_0 Lg0 Sw25
  replace Rg1_0 := range_sees Rg1_0 Lg1 Sw25
  replace Rg7_0 := range_sees Rg7_0 Lg7 Sw25
  replace Tg7 := there_sees Tg7 Lg7 Sw25
  replace Lg0 := Nat.lt_of_lt_of_le Lg0 Sw25.2.2.size
  replace Lg1 := Nat.lt_of_lt_of_le Lg1 Sw25.2.2.size
  replace Lg7 := Nat.lt_of_lt_of_le Lg7 Sw25.2.2.size
  replace BE := BE.trans (Sw25.2.2.mono BE.size)
  refine Z13 (v := .slice (some ⟨g7, 0, none⟩) (dlen (x - y)) n) (by rfl) (by rfl) (by rfl) ?_
  simp only [Z7,Z0]
  refine Z9 (Z10 ?_)
  refine hK23 _ _ ?_
  refine wp_ret ?_
  repeat (first | with_reducible refine then_ret ?_ | with_reducible refine inblock_ret ?_)
  refine bodyPost_ret (v := .slice (some ⟨g7, 0, none⟩) (dlen (x - y)) n) (res1 rfl (.tmp (by rfl))) rfl ?_
  exact ⟨_, rfl, ⟨g7, n, rfl, (Nat.le_trans ((dlen_le _ _).2 (Nat.lt_of_le_of_lt (Nat.sub_le x y) hx)) (Nat.le_refl _)), Gg7, Lg7, (range_dl_take (m := dlen (x - y)) Rg7_0 ((dlen_le _ _).2 (Nat.lt_of_le_of_lt (Nat.sub_le x y) hx)))⟩, BE⟩
 ·
  have hi : i < n := of_decide_eq_true hc22
  refine Z5 rfl ?_
  refine wp_skip ?_
  refine hK21 _ _ ?_
  refine Z4 (fun K26 hK26 => ?_)
  refine wp_block ?_
  refine Z4 (fun K27 hK27 => ?_)
  refine wp_region_plain 1 (by kernel_rfl) (fun Lk hLk => ?_)
  simp only [Z1,Z2]
  refine Z16 (v := .int .i64 ((i : Nat) : Int)) (by rfl) rfl rfl ?_
  simp only [Z7,Z0]
  refine Z14 (hLk.out _ ?_)
  clear hLk Lk
  simp only [Z1,Z2]
  iterate 1 refine wpN_skip (by rfl) ?_
  refine wpN_nil (fun w29 Sw29 hbs => ?_)
  clear hbs
  replace Rg0_0 := range_sees Rg0_0 Lg0 Sw29
  replace Rg1_0 := range_sees Rg1_0 Lg1 Sw29
  replace Rg7_0 := range_sees Rg7_0 Lg7 Sw29
  replace Tg7 := there_sees Tg7 Lg7 Sw29
  replace Lg0 := Nat.lt_of_lt_of_le Lg0 Sw29.2.2.size
  replace Lg1 := Nat.lt_of_lt_of_le Lg1 Sw29.2.2.size
  replace Lg7 := Nat.lt_of_lt_of_le Lg7 Sw29.2.2.size
  replace BE := BE.trans (Sw29.2.2.mono BE.size)
  refine Z13 (v := .int .i64 ((i : Nat) : Int)) (by rfl) (by rfl) (by rfl) ?_
  simp only [Z7,Z0]
  refine Z9 (Z10 ?_)
  refine hK27 _ _ ?_
  refine Z4 (fun K30 hK30 => ?_)
  refine wp_region_plain 6 (by kernel_rfl) (fun Lk hLk => ?_)
  simp only [Z1,Z2]
  refine Z16 (v := .slice (some ⟨g0, 0, none⟩) n cg0) (by rfl) rfl rfl ?_
  simp only [Z7,Z0]
  refine Z16 (v := .int .i64 ((i : Nat) : Int)) (by rfl) rfl rfl ?_
  simp only [Z7,Z0]
  refine wpV_idxs (n := i) (by rfl) rfl rfl rfl Try.underlying100 info3 (by omega) ?_
  simp only [Nat.zero_add]
  simp only [Z7,Z0]
  refine wpV_load1 (v := .int .i64 ((digN x i : Nat) : Int)) (by rfl) rfl rfl (by have := Rg0_0 _ _ (dl_get (j := i) n x (by omega)); rwa [Nat.zero_add] at this) Lg0 Try.underlying3 rfl ?_
  simp only [Z7,Z0]
  refine Z16 (v := .int .i64 ((low : Nat) : Int)) (by rfl) rfl rfl ?_
  simp only [Z7,Z0]
  refine Z15 (v := .int .i64 (((digN x i : Nat) : Int) - ((low : Nat) : Int))) (by rfl) rfl rfl rfl (fun W => run_sub (by simp only [IntKind.wrap_i64]; omega) W) ?_
  simp only [Z7,Z0]
  refine Z14 (hLk.out _ ?_)
  clear hLk Lk
  simp only [Z1,Z2]
  iterate 6 refine wpN_skip (by rfl) ?_
  refine wpN_nil (fun w32 Sw32 hbs => ?_)
  clear hbs
  replace Rg0_0 := range_sees Rg0_0 Lg0 Sw32
  replace Rg1_0 := range_sees Rg1_0 Lg1 Sw32
  replace Rg7_0 := range_sees Rg7_0 Lg7 Sw32
  replace Tg7 := there_sees Tg7 Lg7 Sw32
  replace Lg0 := Nat.lt_of_lt_of_le Lg0 Sw32.2.2.size
  replace Lg1 := Nat.lt_of_lt_of_le Lg1 Sw32.2.2.size
  replace Lg7 := Nat.lt_of_lt_of_le Lg7 Sw32.2.2.size
  replace BE := BE.trans (Sw32.2.2.mono BE.size)
  refine Z13 (v := .int .i64 (((digN x i : Nat) : Int) - ((low : Nat) : Int))) (by rfl) (by rfl) (by rfl) ?_
  simp only [Z7,Z0]
  refine Z9 (Z10 ?_)
  refine hK30 _ _ ?_
  refine Z4 (fun K33 hK33 => ?_)
  refine Z4 (fun K34 hK34 => ?_)
  refine wp_region_plain 4 (by kernel_rfl) (fun Lk hLk => ?_)
  simp only [Z1,Z2]
  refine Z16 (v := .int .i64 ((i : Nat) : Int)) (by rfl) rfl rfl ?_
  simp only [Z7,Z0]
  refine Z16 (v := .slice (some ⟨g1, 0, none⟩) m cg1) (by rfl) rfl rfl ?_
  simp only [Z7,Z0]
  refine wpV_lenA (n := m) (by rfl) rfl rfl rfl Try.underlying100 ?_
  simp only [Z7,Z0]
  refine Z15 (v := .bool (decide (i < m))) (by rfl) rfl rfl rfl (fun W => run_lssN i m _ _ W) ?_
  simp only [Z7,Z0]
  refine Z14 (hLk.out _ ?_)
  clear hLk Lk
  simp only [Z1,Z2]
  iterate 4 refine wpN_skip (by rfl) ?_
  refine wpN_nil (fun w36 Sw36 hbs => ?_)
  clear hbs
  replace Rg0_0 := range_sees Rg0_0 Lg0 Sw36
  replace Rg1_0 := range_sees Rg1_0 Lg1 Sw36
  replace Rg7_0 := range_sees Rg7_0 Lg7 Sw36
  replace Tg7 := there_sees Tg7 Lg7 Sw36
  replace Lg0 := Nat.lt_of_lt_of_le Lg0 Sw36.2.2.size
  replace Lg1 := Nat.lt_of_lt_of_le Lg1 Sw36.2.2.size
  replace Lg7 := Nat.lt_of_lt_of_le Lg7 Sw36.2.2.size
  replace BE := BE.trans (Sw36.2.2.mono BE.size)
  refine Z9 (Z10 ?_)
  refine hK34 _ _ ?_
  cases hc37 : (decide (i < m))
  ·
   have hby : digN y i = 0 := digN_big (Nat.lt_of_lt_of_le hy (Nat.pow_le_pow_right (by decide) (Nat.le_of_not_lt (of_decide_eq_false hc37))))
   refine Z6 rfl ?_
   refine wp_skip ?_
   refine hK33 _ _ ?_
   refine Z4 (fun K38 hK38 => ?_)
   refine wp_region_plain 0 (by kernel_rfl) (fun Lk hLk => ?_)
   simp only [Z1,Z2]
   refine Z14 (hLk.out _ ?_)
   clear hLk Lk
   simp only [Z1,Z2]
   refine wpN_nil (fun w40 Sw40 hbs => ?_)
   clear hbs
   replace Rg0_0 := range_sees Rg0_0 Lg0 Sw40
   replace Rg1_0 := range_sees Rg1_0 Lg1 Sw40
   replace Rg7_0 := range_sees Rg7_0 Lg7 Sw40
   replace Tg7 := there_sees Tg7 Lg7 Sw40
   replace Lg0 := Nat.lt_of_lt_of_le Lg0 Sw40.2.2.size
   replace Lg1 := Nat.lt_of_lt_of_le Lg1 Sw40.2.2.size
   replace Lg7 := Nat.lt_of_lt_of_le Lg7 Sw40.2.2.size
   replace BE := BE.trans (Sw40.2.2.mono BE.size)
   refine Z13 (v := .int .i64 0) (by rfl) (by rfl) (by rfl) ?_
   simp only [Z7,Z0]
   refine Z9 (Z10 ?_)
   refine hK38 _ _ ?_
   refine Z4 (fun K41 hK41 => ?_)
   refine Z4 (fun K42 hK42 => ?_)
   refine wp_region_plain 2 (by kernel_rfl) (fun Lk hLk => ?_)
   simp only [Z1,Z2]
   refine Z16 (v := .int .i64 (((digN x i : Nat) : Int) - ((low : Nat) : Int))) (by rfl) rfl rfl ?_
   simp only [Z7,Z0]
   refine Z15 (v := .bool (decide (((digN x i : Nat) : Int) - ((low : Nat) : Int) < 0))) (by rfl) rfl rfl rfl (fun W => run_lss _ _ _ _ W) ?_
   simp only [Z7,Z0]
   refine Z14 (hLk.out _ ?_)
   clear hLk Lk
   simp only [Z1,Z2]
   iterate 2 refine wpN_skip (by rfl) ?_
   refine wpN_nil (fun w44 Sw44 hbs => ?_)
   clear hbs
   replace Rg0_0 := range_sees Rg0_0 Lg0 Sw44
   replace Rg1_0 := range_sees Rg1_0 Lg1 Sw44
   replace Rg7_0 := range_sees Rg7_0 Lg7 Sw44
   replace Tg7 := there_sees Tg7 Lg7 Sw44
   replace Lg0 := Nat.lt_of_lt_of_le Lg0 Sw44.2.2.size
   replace Lg1 := Nat.lt_of_lt_of_le Lg1 Sw44.2.2.size
   replace Lg7 := Nat.lt_of_lt_of_le Lg7 Sw44.2.2.size
   replace BE := BE.trans (Sw44.2.2.mono BE.size)
   refine Z9 (Z10 ?_)
   refine hK42 _ _ ?_
   cases hc45 : (decide (((digN x i : Nat) : Int) - ((low : Nat) : Int) < 0))
   ·
    have hng := of_decide_eq_false hc45
    have eL : miL x y i low = 0 := by unfold miL; split <;> omega
    have eD : ((miD x y i low : Nat) : Int) = (((digN x i : Nat) : Int) - ((low : Nat) : Int)) := by have := mi_parts (x := x) (y := y) (i := i) hl1; rw [eL] at this; omega
    refine Z6 rfl ?_
    refine wp_skip ?_
    refine hK41 _ _ ?_
    rw [show ((digN x i : Nat) : Int) - ((low : Nat) : Int) = ((miD x y i low : Nat) : Int) from eD.symm]
    refine wp_region_plain 4 (by kernel_rfl) (fun Lk hLk => ?_)
    simp only [Z1,Z2]
    refine Z16 (v := .slice (some ⟨g7, 0, none⟩) n n) (by rfl) rfl rfl ?_
    simp only [Z7,Z0]
    refine Z16 (v := .int .i64 ((i : Nat) : Int)) (by rfl) rfl rfl ?_
    simp only [Z7,Z0]
    refine Z16 (v := .int .i64 ((miD x y i low : Nat) : Int)) (by rfl) rfl rfl ?_
    simp only [Z7,Z0]
    refine wpV_idxs (n := i) (by rfl) rfl rfl rfl Try.underlying100 info3 (by omega) ?_
    simp only [Nat.zero_add]
    simp only [Z7,Z0]
    refine Z14 (hLk.out _ ?_)
    clear hLk Lk
    simp only [Z1,Z2]
    iterate 4 refine wpN_skip (by rfl) ?_
    refine wpN_nil (fun w47 Sw47 hbs => ?_)
    clear hbs
    replace Rg0_0 := range_sees Rg0_0 Lg0 Sw47
    replace Rg1_0 := range_sees Rg1_0 Lg1 Sw47
    replace Rg7_0 := range_sees Rg7_0 Lg7 Sw47
    replace Tg7 := there_sees Tg7 Lg7 Sw47
    replace Lg0 := Nat.lt_of_lt_of_le Lg0 Sw47.2.2.size
    replace Lg1 := Nat.lt_of_lt_of_le Lg1 Sw47.2.2.size
    replace Lg7 := Nat.lt_of_lt_of_le Lg7 Sw47.2.2.size
    replace BE := BE.trans (Sw47.2.2.mono BE.size)
    refine Z18 (g := g7) (off := i) (n := n) (v := .int .i64 ((miD x y i low : Nat) : Int)) (by rfl) (by rfl) (by rfl) (by rfl) (by rfl) Tg7 (by omega) info3 rfl (fun w48 Pw48 RR TT => ?_)
    replace Rg0_0 := Pw48.range Rg0_0 (.inl Ng0_g7)
    replace Rg1_0 := Pw48.range Rg1_0 (.inl Ng1_g7)
    replace Rg7_0 := range_set Rg7_0 Pw48 RR
    clear RR
    replace Tg7 := TT
    replace Lg0 := Pw48.lt Lg0
    replace Lg1 := Pw48.lt Lg1
    replace Lg7 := Pw48.lt Lg7
    replace BE := Pw48.below BE Gg7
    rw [mi_put HM] at Rg7_0
    refine Z9 (Z10 ?_)
    refine hK26 _ _ ?_
    refine wp_region_plain 2 (by kernel_rfl) (fun Lk hLk => ?_)
    simp only [Z1,Z2]
    refine Z15 (v := .int .i64 ((i + 1 : Nat) : Int)) (by rfl) rfl rfl rfl (fun W => run_add (by simp only [IntKind.wrap_i64]; omega) W) ?_
    simp only [Z7,Z0]
    refine Z16 (v := .int .i64 ((i + 1 : Nat) : Int)) (by rfl) rfl rfl ?_
    simp only [Z7,Z0]
    refine Z14 (hLk.out _ ?_)
    clear hLk Lk
    simp only [Z1,Z2]
    iterate 2 refine wpN_skip (by rfl) ?_
    refine wpN_nil (fun w50 Sw50 hbs => ?_)
    clear hbs
    replace Rg0_0 := range_sees Rg0_0 Lg0 Sw50
    replace Rg1_0 := range_sees Rg1_0 Lg1 Sw50
    replace Rg7_0 := range_sees Rg7_0 Lg7 Sw50
    replace Tg7 := there_sees Tg7 Lg7 Sw50
    replace Lg0 := Nat.lt_of_lt_of_le Lg0 Sw50.2.2.size
    replace Lg1 := Nat.lt_of_lt_of_le Lg1 Sw50.2.2.size
    replace Lg7 := Nat.lt_of_lt_of_le Lg7 Sw50.2.2.size
    replace BE := BE.trans (Sw50.2.2.mono BE.size)
    refine Z9 (Z10 ?_)
    refine Exists.intro _ ⟨?_, (i + 1), (miR x y i R low), 0, (fun q9 => (#[Z3, Z3, Z3, Z3, Z3, Z3, Z3, .int .i64 ((i : Nat) : Int), .int .i64 ((miD x y i low : Nat) : Int), Z3, Z3, Z3, Z3, Z3, Z3, .bool true, .int .i64 ((i : Nat) : Int), .slice (some ⟨g0, 0, none⟩) n cg0, .int .i64 ((i : Nat) : Int), .pointer (some ⟨g0, i, none⟩), .int .i64 ((digN x i : Nat) : Int), .int .i64 ((low : Nat) : Int), .int .i64 ((miD x y i low : Nat) : Int), .int .i64 ((i : Nat) : Int), .slice (some ⟨g1, 0, none⟩) m cg1, .int .i64 ((m : Nat) : Int), .bool false, u16 27, u16 28, u16 29, u16 30, u16 31, u16 32, .int .i64 ((miD x y i low : Nat) : Int), .bool false, u16 35, u16 36, .slice (some ⟨g7, 0, none⟩) n n, .int .i64 ((i : Nat) : Int), .int .i64 ((miD x y i low : Nat) : Int), .pointer (some ⟨g7, i, none⟩), .int .i64 ((i + 1 : Nat) : Int)] : Array Value).getD q9 Z3), rfl, rfl, BE, Rg0_0, Lg0, Rg1_0, Lg1, Rg7_0, Tg7, Lg7, (by omega), (by have := mi_step HM; rw [eL] at this; exact this)⟩
    omega
   ·
    have hng := of_decide_eq_true hc45
    have eL : miL x y i low = 1 := by unfold miL; split <;> omega
    have eD : ((miD x y i low : Nat) : Int) = (((digN x i : Nat) : Int) - ((low : Nat) : Int)) + 65536 := by have := mi_parts (x := x) (y := y) (i := i) hl1; rw [eL] at this; omega
    refine Z5 rfl ?_
    refine Z4 (fun K51 hK51 => ?_)
    refine wp_region_plain 2 (by kernel_rfl) (fun Lk hLk => ?_)
    simp only [Z1,Z2]
    refine Z16 (v := .int .i64 (((digN x i : Nat) : Int) - ((low : Nat) : Int))) (by rfl) rfl rfl ?_
    simp only [Z7,Z0]
    refine Z15 (v := .int .i64 ((miD x y i low : Nat) : Int)) (by rfl) rfl rfl rfl (fun W => run_add (by rw [eD]; simp only [IntKind.wrap_i64]; omega) W) ?_
    simp only [Z7,Z0]
    refine Z14 (hLk.out _ ?_)
    clear hLk Lk
    simp only [Z1,Z2]
    iterate 2 refine wpN_skip (by rfl) ?_
    refine wpN_nil (fun w53 Sw53 hbs => ?_)
    clear hbs
    replace Rg0_0 := range_sees Rg0_0 Lg0 Sw53
    replace Rg1_0 := range_sees Rg1_0 Lg1 Sw53
    replace Rg7_0 := range_sees Rg7_0 Lg7 Sw53
    replace Tg7 := there_sees Tg7 Lg7 Sw53
    replace Lg0 := Nat.lt_of_lt_of_le Lg0 Sw53.2.2.size
    replace Lg1 := Nat.lt_of_lt_of_le Lg1 Sw53.2.2.size
    replace Lg7 := Nat.lt_of_lt_of_le Lg7 Sw53.2.2.size
    replace BE := BE.trans (Sw53.2.2.mono BE.size)
    refine Z13 (v := .int .i64 ((miD x y i low : Nat) : Int)) (by rfl) (by rfl) (by rfl) ?_
    simp only [Z7,Z0]
    refine Z9 (Z10 ?_)
    refine hK51 _ _ ?_
    refine wp_region_plain 0 (by kernel_rfl) (fun Lk hLk => ?_)
    simp only [Z1,Z2]
    refine Z14 (hLk.out _ ?_)
    clear hLk Lk
    simp only [Z1,Z2]
    refine wpN_nil (fun w55 Sw55 hbs => ?_)
    clear hbs
    replace Rg0_0 := range_sees Rg0_0 Lg0 Sw55
    replace Rg1_0 := range_sees Rg1_0 Lg1 Sw55
    replace Rg7_0 := range_sees Rg7_0 Lg7 Sw55
    replace Tg7 := there_sees Tg7 Lg7 Sw55
    replace Lg0 := Nat.lt_of_lt_of_le Lg0 Sw55.2.2.size
    replace Lg1 := Nat.lt_of_lt_of_le Lg1 Sw55.2.2.size
    replace Lg7 := Nat.lt_of_lt_of_le Lg7 Sw55.2.2.size
    replace BE := BE.trans (Sw55.2.2.mono BE.size)
    refine Z13 (v := .int .i64 1) (by rfl) (by rfl) (by rfl) ?_
    simp only [Z7,Z0]
    refine Z9 (Z10 ?_)
    refine hK41 _ _ ?_
    refine wp_region_plain 4 (by kernel_rfl) (fun Lk hLk => ?_)
    simp only [Z1,Z2]
    refine Z16 (v := .slice (some ⟨g7, 0, none⟩) n n) (by rfl) rfl rfl ?_
    simp only [Z7,Z0]
    refine Z16 (v := .int .i64 ((i : Nat) : Int)) (by rfl) rfl rfl ?_
    simp only [Z7,Z0]
    refine Z16 (v := .int .i64 ((miD x y i low : Nat) : Int)) (by rfl) rfl rfl ?_
    simp only [Z7,Z0]
    refine wpV_idxs (n := i) (by rfl) rfl rfl rfl Try.underlying100 info3 (by omega) ?_
    simp only [Nat.zero_add]
    simp only [Z7,Z0]
    refine Z14 (hLk.out _ ?_)
    clear hLk Lk
    simp only [Z1,Z2]
    iterate 4 refine wpN_skip (by rfl) ?_
    refine wpN_nil (fun w57 Sw57 hbs => ?_)
    clear hbs
    replace Rg0_0 := range_sees Rg0_0 Lg0 Sw57
    replace Rg1_0 := range_sees Rg1_0 Lg1 Sw57
    replace Rg7_0 := range_sees Rg7_0 Lg7 Sw57
    replace Tg7 := there_sees Tg7 Lg7 Sw57
    replace Lg0 := Nat.lt_of_lt_of_le Lg0 Sw57.2.2.size
    replace Lg1 := Nat.lt_of_lt_of_le Lg1 Sw57.2.2.size
    replace Lg7 := Nat.lt_of_lt_of_le Lg7 Sw57.2.2.size
    replace BE := BE.trans (Sw57.2.2.mono BE.size)
    refine Z18 (g := g7) (off := i) (n := n) (v := .int .i64 ((miD x y i low : Nat) : Int)) (by rfl) (by rfl) (by rfl) (by rfl) (by rfl) Tg7 (by omega) info3 rfl (fun w58 Pw58 RR TT => ?_)
    replace Rg0_0 := Pw58.range Rg0_0 (.inl Ng0_g7)
    replace Rg1_0 := Pw58.range Rg1_0 (.inl Ng1_g7)
    replace Rg7_0 := range_set Rg7_0 Pw58 RR
    clear RR
    replace Tg7 := TT
    replace Lg0 := Pw58.lt Lg0
    replace Lg1 := Pw58.lt Lg1
    replace Lg7 := Pw58.lt Lg7
    replace BE := Pw58.below BE Gg7
    rw [mi_put HM] at Rg7_0
    refine Z9 (Z10 ?_)
    refine hK26 _ _ ?_
    refine wp_region_plain 2 (by kernel_rfl) (fun Lk hLk => ?_)
    simp only [Z1,Z2]
    refine Z15 (v := .int .i64 ((i + 1 : Nat) : Int)) (by rfl) rfl rfl rfl (fun W => run_add (by simp only [IntKind.wrap_i64]; omega) W) ?_
    simp only [Z7,Z0]
    refine Z16 (v := .int .i64 ((i + 1 : Nat) : Int)) (by rfl) rfl rfl ?_
    simp only [Z7,Z0]
    refine Z14 (hLk.out _ ?_)
    clear hLk Lk
    simp only [Z1,Z2]
    iterate 2 refine wpN_skip (by rfl) ?_
    refine wpN_nil (fun w60 Sw60 hbs => ?_)
    clear hbs
    replace Rg0_0 := range_sees Rg0_0 Lg0 Sw60
    replace Rg1_0 := range_sees Rg1_0 Lg1 Sw60
    replace Rg7_0 := range_sees Rg7_0 Lg7 Sw60
    replace Tg7 := there_sees Tg7 Lg7 Sw60
    replace Lg0 := Nat.lt_of_lt_of_le Lg0 Sw60.2.2.size
    replace Lg1 := Nat.lt_of_lt_of_le Lg1 Sw60.2.2.size
    replace Lg7 := Nat.lt_of_lt_of_le Lg7 Sw60.2.2.size
    replace BE := BE.trans (Sw60.2.2.mono BE.size)
    refine Z9 (Z10 ?_)
    refine Exists.intro _ ⟨?_, (i + 1), (miR x y i R low), 1, (fun q9 => (#[Z3, Z3, Z3, Z3, Z3, Z3, Z3, .int .i64 ((i : Nat) : Int), .int .i64 ((miD x y i low : Nat) : Int), Z3, Z3, Z3, Z3, Z3, Z3, .bool true, .int .i64 ((i : Nat) : Int), .slice (some ⟨g0, 0, none⟩) n cg0, .int .i64 ((i : Nat) : Int), .pointer (some ⟨g0, i, none⟩), .int .i64 ((digN x i : Nat) : Int), .int .i64 ((low : Nat) : Int), .int .i64 (((digN x i : Nat) : Int) - ((low : Nat) : Int)), .int .i64 ((i : Nat) : Int), .slice (some ⟨g1, 0, none⟩) m cg1, .int .i64 ((m : Nat) : Int), .bool false, u16 27, u16 28, u16 29, u16 30, u16 31, u16 32, .int .i64 (((digN x i : Nat) : Int) - ((low : Nat) : Int)), .bool true, .int .i64 (((digN x i : Nat) : Int) - ((low : Nat) : Int)), .int .i64 ((miD x y i low : Nat) : Int), .slice (some ⟨g7, 0, none⟩) n n, .int .i64 ((i : Nat) : Int), .int .i64 ((miD x y i low : Nat) : Int), .pointer (some ⟨g7, i, none⟩), .int .i64 ((i + 1 : Nat) : Int)] : Array Value).getD q9 Z3), rfl, rfl, BE, Rg0_0, Lg0, Rg1_0, Lg1, Rg7_0, Tg7, Lg7, (by omega), (by have := mi_step HM; rw [eL] at this; exact this)⟩
    omega
  ·
   have him : i < m := of_decide_eq_true hc37
   refine Z5 rfl ?_
   refine wp_region_plain 6 (by kernel_rfl) (fun Lk hLk => ?_)
   simp only [Z1,Z2]
   refine Z16 (v := .int .i64 (((digN x i : Nat) : Int) - ((low : Nat) : Int))) (by rfl) rfl rfl ?_
   simp only [Z7,Z0]
   refine Z16 (v := .slice (some ⟨g1, 0, none⟩) m cg1) (by rfl) rfl rfl ?_
   simp only [Z7,Z0]
   refine Z16 (v := .int .i64 ((i : Nat) : Int)) (by rfl) rfl rfl ?_
   simp only [Z7,Z0]
   refine wpV_idxs (n := i) (by rfl) rfl rfl rfl Try.underlying100 info3 (by omega) ?_
   simp only [Nat.zero_add]
   simp only [Z7,Z0]
   refine wpV_load1 (v := .int .i64 ((digN y i : Nat) : Int)) (by rfl) rfl rfl (by have := Rg1_0 _ _ (dl_get (j := i) m y (by omega)); rwa [Nat.zero_add] at this) Lg1 Try.underlying3 rfl ?_
   simp only [Z7,Z0]
   refine Z15 (v := .int .i64 (((digN x i : Nat) : Int) - ((low : Nat) : Int) - ((digN y i : Nat) : Int))) (by rfl) rfl rfl rfl (fun W => run_sub (by simp only [IntKind.wrap_i64]; omega) W) ?_
   simp only [Z7,Z0]
   refine Z14 (hLk.out _ ?_)
   clear hLk Lk
   simp only [Z1,Z2]
   iterate 6 refine wpN_skip (by rfl) ?_
   refine wpN_nil (fun w62 Sw62 hbs => ?_)
   clear hbs
   replace Rg0_0 := range_sees Rg0_0 Lg0 Sw62
   replace Rg1_0 := range_sees Rg1_0 Lg1 Sw62
   replace Rg7_0 := range_sees Rg7_0 Lg7 Sw62
   replace Tg7 := there_sees Tg7 Lg7 Sw62
   replace Lg0 := Nat.lt_of_lt_of_le Lg0 Sw62.2.2.size
   replace Lg1 := Nat.lt_of_lt_of_le Lg1 Sw62.2.2.size
   replace Lg7 := Nat.lt_of_lt_of_le Lg7 Sw62.2.2.size
   replace BE := BE.trans (Sw62.2.2.mono BE.size)
   refine Z13 (v := .int .i64 (((digN x i : Nat) : Int) - ((low : Nat) : Int) - ((digN y i : Nat) : Int))) (by rfl) (by rfl) (by rfl) ?_
   simp only [Z7,Z0]
   refine Z9 (Z10 ?_)
   refine hK33 _ _ ?_
   refine Z4 (fun K63 hK63 => ?_)
   refine wp_region_plain 0 (by kernel_rfl) (fun Lk hLk => ?_)
   simp only [Z1,Z2]
   refine Z14 (hLk.out _ ?_)
   clear hLk Lk
   simp only [Z1,Z2]
   refine wpN_nil (fun w65 Sw65 hbs => ?_)
   clear hbs
   replace Rg0_0 := range_sees Rg0_0 Lg0 Sw65
   replace Rg1_0 := range_sees Rg1_0 Lg1 Sw65
   replace Rg7_0 := range_sees Rg7_0 Lg7 Sw65
   replace Tg7 := there_sees Tg7 Lg7 Sw65
   replace Lg0 := Nat.lt_of_lt_of_le Lg0 Sw65.2.2.size
   replace Lg1 := Nat.lt_of_lt_of_le Lg1 Sw65.2.2.size
   replace Lg7 := Nat.lt_of_lt_of_le Lg7 Sw65.2.2.size
   replace BE := BE.trans (Sw65.2.2.mono BE.size)
   refine Z13 (v := .int .i64 0) (by rfl) (by rfl) (by rfl) ?_
   simp only [Z7,Z0]
   refine Z9 (Z10 ?_)
   refine hK63 _ _ ?_
   refine Z4 (fun K66 hK66 => ?_)
   refine Z4 (fun K67 hK67 => ?_)
   refine wp_region_plain 2 (by kernel_rfl) (fun Lk hLk => ?_)
   simp only [Z1,Z2]
   refine Z16 (v := .int .i64 (((digN x i : Nat) : Int) - ((low : Nat) : Int) - ((digN y i : Nat) : Int))) (by rfl) rfl rfl ?_
   simp only [Z7,Z0]
   refine Z15 (v := .bool (decide (((digN x i : Nat) : Int) - ((low : Nat) : Int) - ((digN y i : Nat) : Int) < 0))) (by rfl) rfl rfl rfl (fun W => run_lss _ _ _ _ W) ?_
   simp only [Z7,Z0]
   refine Z14 (hLk.out _ ?_)
   clear hLk Lk
   simp only [Z1,Z2]
   iterate 2 refine wpN_skip (by rfl) ?_
   refine wpN_nil (fun w69 Sw69 hbs => ?_)
   clear hbs
   replace Rg0_0 := range_sees Rg0_0 Lg0 Sw69
   replace Rg1_0 := range_sees Rg1_0 Lg1 Sw69
   replace Rg7_0 := range_sees Rg7_0 Lg7 Sw69
   replace Tg7 := there_sees Tg7 Lg7 Sw69
   replace Lg0 := Nat.lt_of_lt_of_le Lg0 Sw69.2.2.size
   replace Lg1 := Nat.lt_of_lt_of_le Lg1 Sw69.2.2.size
   replace Lg7 := Nat.lt_of_lt_of_le Lg7 Sw69.2.2.size
   replace BE := BE.trans (Sw69.2.2.mono BE.size)
   refine Z9 (Z10 ?_)
   refine hK67 _ _ ?_
   cases hc70 : (decide (((digN x i : Nat) : Int) - ((low : Nat) : Int) - ((digN y i : Nat) : Int) < 0))
   ·
    have hng := of_decide_eq_false hc70
    have eL : miL x y i low = 0 := by unfold miL; split <;> omega
    have eD : ((miD x y i low : Nat) : Int) = (((digN x i : Nat) : Int) - ((low : Nat) : Int) - ((digN y i : Nat) : Int)) := by have := mi_parts (x := x) (y := y) (i := i) hl1; rw [eL] at this; omega
    refine Z6 rfl ?_
    refine wp_skip ?_
    refine hK66 _ _ ?_
    rw [show ((digN x i : Nat) : Int) - ((low : Nat) : Int) - ((digN y i : Nat) : Int) = ((miD x y i low : Nat) : Int) from eD.symm]
    refine wp_region_plain 4 (by kernel_rfl) (fun Lk hLk => ?_)
    simp only [Z1,Z2]
    refine Z16 (v := .slice (some ⟨g7, 0, none⟩) n n) (by rfl) rfl rfl ?_
    simp only [Z7,Z0]
    refine Z16 (v := .int .i64 ((i : Nat) : Int)) (by rfl) rfl rfl ?_
    simp only [Z7,Z0]
    refine Z16 (v := .int .i64 ((miD x y i low : Nat) : Int)) (by rfl) rfl rfl ?_
    simp only [Z7,Z0]
    refine wpV_idxs (n := i) (by rfl) rfl rfl rfl Try.underlying100 info3 (by omega) ?_
    simp only [Nat.zero_add]
    simp only [Z7,Z0]
    refine Z14 (hLk.out _ ?_)
    clear hLk Lk
    simp only [Z1,Z2]
    iterate 4 refine wpN_skip (by rfl) ?_
    refine wpN_nil (fun w72 Sw72 hbs => ?_)
    clear hbs
    replace Rg0_0 := range_sees Rg0_0 Lg0 Sw72
    replace Rg1_0 := range_sees Rg1_0 Lg1 Sw72
    replace Rg7_0 := range_sees Rg7_0 Lg7 Sw72
    replace Tg7 := there_sees Tg7 Lg7 Sw72
    replace Lg0 := Nat.lt_of_lt_of_le Lg0 Sw72.2.2.size
    replace Lg1 := Nat.lt_of_lt_of_le Lg1 Sw72.2.2.size
    replace Lg7 := Nat.lt_of_lt_of_le Lg7 Sw72.2.2.size
    replace BE := BE.trans (Sw72.2.2.mono BE.size)
    refine Z18 (g := g7) (off := i) (n := n) (v := .int .i64 ((miD x y i low : Nat) : Int)) (by rfl) (by rfl) (by rfl) (by rfl) (by rfl) Tg7 (by omega) info3 rfl (fun w73 Pw73 RR TT => ?_)
    replace Rg0_0 := Pw73.range Rg0_0 (.inl Ng0_g7)
    replace Rg1_0 := Pw73.range Rg1_0 (.inl Ng1_g7)
    replace Rg7_0 := range_set Rg7_0 Pw73 RR
    clear RR
    replace Tg7 := TT
    replace Lg0 := Pw73.lt Lg0
    replace Lg1 := Pw73.lt Lg1
    replace Lg7 := Pw73.lt Lg7
    replace BE := Pw73.below BE Gg7
    rw [mi_put HM] at Rg7_0
    refine Z9 (Z10 ?_)
    refine hK26 _ _ ?_
    refine wp_region_plain 2 (by kernel_rfl) (fun Lk hLk => ?_)
    simp only [Z1,Z2]
    refine Z15 (v := .int .i64 ((i + 1 : Nat) : Int)) (by rfl) rfl rfl rfl (fun W => run_add (by simp only [IntKind.wrap_i64]; omega) W) ?_
    simp only [Z7,Z0]
    refine Z16 (v := .int .i64 ((i + 1 : Nat) : Int)) (by rfl) rfl rfl ?_
    simp only [Z7,Z0]
    refine Z14 (hLk.out _ ?_)
    clear hLk Lk
    simp only [Z1,Z2]
    iterate 2 refine wpN_skip (by rfl) ?_
    refine wpN_nil (fun w75 Sw75 hbs => ?_)
    clear hbs
    replace Rg0_0 := range_sees Rg0_0 Lg0 Sw75
    replace Rg1_0 := range_sees Rg1_0 Lg1 Sw75
    replace Rg7_0 := range_sees Rg7_0 Lg7 Sw75
    replace Tg7 := there_sees Tg7 Lg7 Sw75
    replace Lg0 := Nat.lt_of_lt_of_le Lg0 Sw75.2.2.size
    replace Lg1 := Nat.lt_of_lt_of_le Lg1 Sw75.2.2.size
    replace Lg7 := Nat.lt_of_lt_of_le Lg7 Sw75.2.2.size
    replace BE := BE.trans (Sw75.2.2.mono BE.size)
    refine Z9 (Z10 ?_)
    refine Exists.intro _ ⟨?_, (i + 1), (miR x y i R low), 0, (fun q9 => (#[Z3, Z3, Z3, Z3, Z3, Z3, Z3, .int .i64 ((i : Nat) : Int), .int .i64 ((miD x y i low : Nat) : Int), Z3, Z3, Z3, Z3, Z3, Z3, .bool true, .int .i64 ((i : Nat) : Int), .slice (some ⟨g0, 0, none⟩) n cg0, .int .i64 ((i : Nat) : Int), .pointer (some ⟨g0, i, none⟩), .int .i64 ((digN x i : Nat) : Int), .int .i64 ((low : Nat) : Int), .int .i64 (((digN x i : Nat) : Int) - ((low : Nat) : Int)), .int .i64 ((i : Nat) : Int), .slice (some ⟨g1, 0, none⟩) m cg1, .int .i64 ((m : Nat) : Int), .bool true, .int .i64 (((digN x i : Nat) : Int) - ((low : Nat) : Int)), .slice (some ⟨g1, 0, none⟩) m cg1, .int .i64 ((i : Nat) : Int), .pointer (some ⟨g1, i, none⟩), .int .i64 ((digN y i : Nat) : Int), .int .i64 ((miD x y i low : Nat) : Int), .int .i64 ((miD x y i low : Nat) : Int), .bool false, u16 35, u16 36, .slice (some ⟨g7, 0, none⟩) n n, .int .i64 ((i : Nat) : Int), .int .i64 ((miD x y i low : Nat) : Int), .pointer (some ⟨g7, i, none⟩), .int .i64 ((i + 1 : Nat) : Int)] : Array Value).getD q9 Z3), rfl, rfl, BE, Rg0_0, Lg0, Rg1_0, Lg1, Rg7_0, Tg7, Lg7, (by omega), (by have := mi_step HM; rw [eL] at this; exact this)⟩
    omega
   ·
    have hng := of_decide_eq_true hc70
    have eL : miL x y i low = 1 := by unfold miL; split <;> omega
    have eD : ((miD x y i low : Nat) : Int) = (((digN x i : Nat) : Int) - ((low : Nat) : Int) - ((digN y i : Nat) : Int)) + 65536 := by have := mi_parts (x := x) (y := y) (i := i) hl1; rw [eL] at this; omega
    refine Z5 rfl ?_
    refine Z4 (fun K76 hK76 => ?_)
    refine wp_region_plain 2 (by kernel_rfl) (fun Lk hLk => ?_)
    simp only [Z1,Z2]
    refine Z16 (v := .int .i64 (((digN x i : Nat) : Int) - ((low : Nat) : Int) - ((digN y i : Nat) : Int))) (by rfl) rfl rfl ?_
    simp only [Z7,Z0]
    refine Z15 (v := .int .i64 ((miD x y i low : Nat) : Int)) (by rfl) rfl rfl rfl (fun W => run_add (by rw [eD]; simp only [IntKind.wrap_i64]; omega) W) ?_
    simp only [Z7,Z0]
    refine Z14 (hLk.out _ ?_)
    clear hLk Lk
    simp only [Z1,Z2]
    iterate 2 refine wpN_skip (by rfl) ?_
    refine wpN_nil (fun w78 Sw78 hbs => ?_)
    clear hbs
    replace Rg0_0 := range_sees Rg0_0 Lg0 Sw78
    replace Rg1_0 := range_sees Rg1_0 Lg1 Sw78
    replace Rg7_0 := range_sees Rg7_0 Lg7 Sw78
    replace Tg7 := there_sees Tg7 Lg7 Sw78
    replace Lg0 := Nat.lt_of_lt_of_le Lg0 Sw78.2.2.size
    replace Lg1 := Nat.lt_of_lt_of_le Lg1 Sw78.2.2.size
    replace Lg7 := Nat.lt_of_lt_of_le Lg7 Sw78.2.2.size
    replace BE := BE.trans (Sw78.2.2.mono BE.size)
    refine Z13 (v := .int .i64 ((miD x y i low : Nat) : Int)) (by rfl) (by rfl) (by rfl) ?_
    simp only [Z7,Z0]
    refine Z9 (Z10 ?_)
    refine hK76 _ _ ?_
    refine wp_region_plain 0 (by kernel_rfl) (fun Lk hLk => ?_)
    simp only [Z1,Z2]
    refine Z14 (hLk.out _ ?_)
    clear hLk Lk
    simp only [Z1,Z2]
    refine wpN_nil (fun w80 Sw80 hbs => ?_)
    clear hbs
    replace Rg0_0 := range_sees Rg0_0 Lg0 Sw80
    replace Rg1_0 := range_sees Rg1_0 Lg1 Sw80
    replace Rg7_0 := range_sees Rg7_0 Lg7 Sw80
    replace Tg7 := there_sees Tg7 Lg7 Sw80
    replace Lg0 := Nat.lt_of_lt_of_le Lg0 Sw80.2.2.size
    replace Lg1 := Nat.lt_of_lt_of_le Lg1 Sw80.2.2.size
    replace Lg7 := Nat.lt_of_lt_of_le Lg7 Sw80.2.2.size
    replace BE := BE.trans (Sw80.2.2.mono BE.size)
    refine Z13 (v := .int .i64 1) (by rfl) (by rfl) (by rfl) ?_
    simp only [Z7,Z0]
    refine Z9 (Z10 ?_)
    refine hK66 _ _ ?_
    refine wp_region_plain 4 (by kernel_rfl) (fun Lk hLk => ?_)
    simp only [Z1,Z2]
    refine Z16 (v := .slice (some ⟨g7, 0, none⟩) n n) (by rfl) rfl rfl ?_
    simp only [Z7,Z0]
    refine Z16 (v := .int .i64 ((i : Nat) : Int)) (by rfl) rfl rfl ?_
    simp only [Z7,Z0]
    refine Z16 (v := .int .i64 ((miD x y i low : Nat) : Int)) (by rfl) rfl rfl ?_
    simp only [Z7,Z0]
    refine wpV_idxs (n := i) (by rfl) rfl rfl rfl Try.underlying100 info3 (by omega) ?_
    simp only [Nat.zero_add]
    simp only [Z7,Z0]
    refine Z14 (hLk.out _ ?_)
    clear hLk Lk
    simp only [Z1,Z2]
    iterate 4 refine wpN_skip (by rfl) ?_
    refine wpN_nil (fun w82 Sw82 hbs => ?_)
    clear hbs
    replace Rg0_0 := range_sees Rg0_0 Lg0 Sw82
    replace Rg1_0 := range_sees Rg1_0 Lg1 Sw82
    replace Rg7_0 := range_sees Rg7_0 Lg7 Sw82
    replace Tg7 := there_sees Tg7 Lg7 Sw82
    replace Lg0 := Nat.lt_of_lt_of_le Lg0 Sw82.2.2.size
    replace Lg1 := Nat.lt_of_lt_of_le Lg1 Sw82.2.2.size
    replace Lg7 := Nat.lt_of_lt_of_le Lg7 Sw82.2.2.size
    replace BE := BE.trans (Sw82.2.2.mono BE.size)
    refine Z18 (g := g7) (off := i) (n := n) (v := .int .i64 ((miD x y i low : Nat) : Int)) (by rfl) (by rfl) (by rfl) (by rfl) (by rfl) Tg7 (by omega) info3 rfl (fun w83 Pw83 RR TT => ?_)
    replace Rg0_0 := Pw83.range Rg0_0 (.inl Ng0_g7)
    replace Rg1_0 := Pw83.range Rg1_0 (.inl Ng1_g7)
    replace Rg7_0 := range_set Rg7_0 Pw83 RR
    clear RR
    replace Tg7 := TT
    replace Lg0 := Pw83.lt Lg0
    replace Lg1 := Pw83.lt Lg1
    replace Lg7 := Pw83.lt Lg7
    replace BE := Pw83.below BE Gg7
    rw [mi_put HM] at Rg7_0
    refine Z9 (Z10 ?_)
    refine hK26 _ _ ?_
    refine wp_region_plain 2 (by kernel_rfl) (fun Lk hLk => ?_)
    simp only [Z1,Z2]
    refine Z15 (v := .int .i64 ((i + 1 : Nat) : Int)) (by rfl) rfl rfl rfl (fun W => run_add (by simp only [IntKind.wrap_i64]; omega) W) ?_
    simp only [Z7,Z0]
    refine Z16 (v := .int .i64 ((i + 1 : Nat) : Int)) (by rfl) rfl rfl ?_
    simp only [Z7,Z0]
    refine Z14 (hLk.out _ ?_)
    clear hLk Lk
    simp only [Z1,Z2]
    iterate 2 refine wpN_skip (by rfl) ?_
    refine wpN_nil (fun w85 Sw85 hbs => ?_)
    clear hbs
    replace Rg0_0 := range_sees Rg0_0 Lg0 Sw85
    replace Rg1_0 := range_sees Rg1_0 Lg1 Sw85
    replace Rg7_0 := range_sees Rg7_0 Lg7 Sw85
    replace Tg7 := there_sees Tg7 Lg7 Sw85
    replace Lg0 := Nat.lt_of_lt_of_le Lg0 Sw85.2.2.size
    replace Lg1 := Nat.lt_of_lt_of_le Lg1 Sw85.2.2.size
    replace Lg7 := Nat.lt_of_lt_of_le Lg7 Sw85.2.2.size
    replace BE := BE.trans (Sw85.2.2.mono BE.size)
    refine Z9 (Z10 ?_)
    refine Exists.intro _ ⟨?_, (i + 1), (miR x y i R low), 1, (fun q9 => (#[Z3, Z3, Z3, Z3, Z3, Z3, Z3, .int .i64 ((i : Nat) : Int), .int .i64 ((miD x y i low : Nat) : Int), Z3, Z3, Z3, Z3, Z3, Z3, .bool true, .int .i64 ((i : Nat) : Int), .slice (some ⟨g0, 0, none⟩) n cg0, .int .i64 ((i : Nat) : Int), .pointer (some ⟨g0, i, none⟩), .int .i64 ((digN x i : Nat) : Int), .int .i64 ((low : Nat) : Int), .int .i64 (((digN x i : Nat) : Int) - ((low : Nat) : Int)), .int .i64 ((i : Nat) : Int), .slice (some ⟨g1, 0, none⟩) m cg1, .int .i64 ((m : Nat) : Int), .bool true, .int .i64 (((digN x i : Nat) : Int) - ((low : Nat) : Int)), .slice (some ⟨g1, 0, none⟩) m cg1, .int .i64 ((i : Nat) : Int), .pointer (some ⟨g1, i, none⟩), .int .i64 ((digN y i : Nat) : Int), .int .i64 (((digN x i : Nat) : Int) - ((low : Nat) : Int) - ((digN y i : Nat) : Int)), .int .i64 (((digN x i : Nat) : Int) - ((low : Nat) : Int) - ((digN y i : Nat) : Int)), .bool true, .int .i64 (((digN x i : Nat) : Int) - ((low : Nat) : Int) - ((digN y i : Nat) : Int)), .int .i64 ((miD x y i low : Nat) : Int), .slice (some ⟨g7, 0, none⟩) n n, .int .i64 ((i : Nat) : Int), .int .i64 ((miD x y i low : Nat) : Int), .pointer (some ⟨g7, i, none⟩), .int .i64 ((i + 1 : Nat) : Int)] : Array Value).getD q9 Z3), rfl, rfl, BE, Rg0_0, Lg0, Rg1_0, Lg1, Rg7_0, Tg7, Lg7, (by omega), (by have := mi_step HM; rw [eL] at this; exact this)⟩
    omega
end Go.Proofs.Ya

