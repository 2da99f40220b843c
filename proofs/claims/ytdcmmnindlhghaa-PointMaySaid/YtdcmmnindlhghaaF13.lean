import Derived.Test.YtdcmmnindlhghaaF12
import Derived.Test.YtdcmmnindlhghaaJoinP
set_option linter.unusedSimpArgs false
set_option linter.unusedVariables false
namespace Go.Proofs.Ya
open Go Go.RowKit Go.Shelf Go.Proofs.Num
open List renaming set → Z0, take → Z1, drop → Z2
open Go renaming undef → Z3, wp_seq_k → Z4, wp_cond_true → Z5, wp_cond_false → Z6
open Go.Proofs.Num renaming putT → Z7, wp_region_seq → Z8, wpL_nil → Z9, no_panic → Z10, wpL_chunk → Z11, wpL_move → Z12, wpL_assign → Z13, wpV_nil → Z14, wpV_bin → Z15, wpV_move → Z16, then_normal → Z17, wpL_store1 → Z18, wpV_val → Z19
theorem info23 : (Try.prog.info? 23).map (·.size) = some 4 := by kernel_rfl
set_option maxHeartbeats 1000000 in
theorem less_c {n x m y g0 g1 cg0 cg1 : Nat} {w : World} (hnn : n ≤ 100000) (hn : n = dlen x) (hm : m = dlen y) (hcg0 : n ≤ cg0) (Lg0 : g0 < w.heap.size) (Rg0_0 : w.rangeAt g0 0 (dl n x)) (hcg1 : m ≤ cg1) (Lg1 : g1 < w.heap.size) (Rg1_0 : w.rangeAt g1 0 (dl m y)) :
  Calls Try.prog 67 #[.slice (some ⟨g0, 0, none⟩) n cg0, .slice (some ⟨g1, 0, none⟩) m cg1] w fun e w' => e = .returned (.bool (decide (x < y))) ∧ Below w.heap.size w w' := by
 go_enter Try.func67, Try.ntmps67
 have BE := Below.refl w.heap.size w
 refine Z4 (fun K1 hK1 => ?_)
 refine wp_region_plain 0 (by kernel_rfl) (fun Lk hLk => ?_)
 simp only [Z1,Z2]
 refine Z14 (hLk.out _ ?_)
 clear hLk Lk
 simp only [Z1,Z2]
 refine wpN_nil (fun w3 Sw3 hbs => ?_)
 clear hbs
 replace Rg0_0 := range_sees Rg0_0 Lg0 Sw3
 replace Rg1_0 := range_sees Rg1_0 Lg1 Sw3
 replace Lg0 := Nat.lt_of_lt_of_le Lg0 Sw3.2.2.size
 replace Lg1 := Nat.lt_of_lt_of_le Lg1 Sw3.2.2.size
 replace BE := BE.trans (Sw3.2.2.mono BE.size)
 refine Z13 (v := .bool false) (by rfl) (by rfl) (by rfl) ?_
 simp only [Z7,Z0]
 refine Z9 (Z10 ?_)
 refine hK1 _ _ ?_
 refine Z4 (fun K4 hK4 => ?_)
 refine Z4 (fun K5 hK5 => ?_)
 refine wp_region_plain 5 (by kernel_rfl) (fun Lk hLk => ?_)
 simp only [Z1,Z2]
 refine Z16 (v := .slice (some ⟨g0, 0, none⟩) n cg0) (by rfl) rfl rfl ?_
 simp only [Z7,Z0]
 refine wpV_lenA (n := n) (by rfl) rfl rfl rfl Try.underlying100 ?_
 simp only [Z7,Z0]
 refine Z16 (v := .slice (some ⟨g1, 0, none⟩) m cg1) (by rfl) rfl rfl ?_
 simp only [Z7,Z0]
 refine wpV_lenA (n := m) (by rfl) rfl rfl rfl Try.underlying100 ?_
 simp only [Z7,Z0]
 refine Z15 (v := .bool (((n : Nat) : Int) != ((m : Nat) : Int))) (by rfl) rfl rfl rfl (fun W => run_neq _ _ _ _ W) ?_
 simp only [Z7,Z0]
 refine Z14 (hLk.out _ ?_)
 clear hLk Lk
 simp only [Z1,Z2]
 iterate 5 refine wpN_skip (by rfl) ?_
 refine wpN_nil (fun w7 Sw7 hbs => ?_)
 clear hbs
 replace Rg0_0 := range_sees Rg0_0 Lg0 Sw7
 replace Rg1_0 := range_sees Rg1_0 Lg1 Sw7
 replace Lg0 := Nat.lt_of_lt_of_le Lg0 Sw7.2.2.size
 replace Lg1 := Nat.lt_of_lt_of_le Lg1 Sw7.2.2.size
 replace BE := BE.trans (Sw7.2.2.mono BE.size)
 refine Z9 (Z10 ?_)
 refine hK5 _ _ ?_
 cases hc8 : (((n : Nat) : Int) != ((m : Nat) : Int))
 ·
  have hnm : m = n := by have h9 := hc8; simp at h9; omega
  refine Z6 rfl ?_
  refine wp_skip ?_
  refine hK4 _ _ ?_
  refine Z4 (fun K9 hK9 => ?_)
  refine Z4 (fun K10 hK10 => ?_)
  refine wp_region_plain 3 (by kernel_rfl) (fun Lk hLk => ?_)
  simp only [Z1,Z2]
  refine Z16 (v := .slice (some ⟨g0, 0, none⟩) n cg0) (by rfl) rfl rfl ?_
  simp only [Z7,Z0]
  refine wpV_lenA (n := n) (by rfl) rfl rfl rfl Try.underlying100 ?_
  simp only [Z7,Z0]
  refine Z15 (v := .int .i64 (((n : Nat) : Int) - 1)) (by rfl) rfl rfl rfl (fun W => run_sub (by simp only [IntKind.wrap_i64]; omega) W) ?_
  simp only [Z7,Z0]
  refine Z14 (hLk.out _ ?_)
  clear hLk Lk
  simp only [Z1,Z2]
  iterate 3 refine wpN_skip (by rfl) ?_
  refine wpN_nil (fun w12 Sw12 hbs => ?_)
  clear hbs
  replace Rg0_0 := range_sees Rg0_0 Lg0 Sw12
  replace Rg1_0 := range_sees Rg1_0 Lg1 Sw12
  replace Lg0 := Nat.lt_of_lt_of_le Lg0 Sw12.2.2.size
  replace Lg1 := Nat.lt_of_lt_of_le Lg1 Sw12.2.2.size
  replace BE := BE.trans (Sw12.2.2.mono BE.size)
  refine Z13 (v := .int .i64 (((n : Nat) : Int) - 1)) (by rfl) (by rfl) (by rfl) ?_
  simp only [Z7,Z0]
  refine Z9 (Z10 ?_)
  refine hK10 _ _ ?_
  refine wp_block ?_
  refine wp_loop_ghost (fun n9 a9 W9 => ∃ (k : Nat) (u13 : Nat → Value), n9 = 2 * k ∧ a9 = { tmps := #[.slice (some ⟨g0, 0, none⟩) n cg0, .slice (some ⟨g1, 0, none⟩) m cg1, Z3, Z3, u13 4, .int .i64 (((k : Nat) : Int) - 1), .slice (some ⟨g0, 0, none⟩) n cg0, .int .i64 ((n : Nat) : Int), .slice (some ⟨g1, 0, none⟩) m cg1, .int .i64 ((m : Nat) : Int), .bool false, Z3, Z3, Z3, Z3, Z3, .slice (some ⟨g0, 0, none⟩) n cg0, .int .i64 ((n : Nat) : Int), .int .i64 (((n : Nat) : Int) - 1), u13 19, u13 20, u13 21, u13 22, u13 23, u13 24, u13 25, u13 26, u13 27, u13 28, u13 29, u13 30, u13 31, u13 32, u13 33, u13 34, u13 35, u13 36, u13 37, u13 38, u13 39, u13 40], defers := [] } ∧ Below w.heap.size w W9 ∧ World.rangeAt W9 g0 0 (dl n x) ∧ g0 < W9.heap.size ∧ World.rangeAt W9 g1 0 (dl m y) ∧ g1 < W9.heap.size ∧ (k ≤ n) ∧ (x / 65536 ^ k = y / 65536 ^ k)) (2 * (n)) ?_ (fun n9 a9 W9 hI => ?_)
  ·
   exact ⟨n, (fun q9 => (#[Z3, Z3, Z3, Z3, .bool false, Z3, Z3, Z3, Z3, Z3, Z3, Z3, Z3, Z3, Z3, Z3, Z3, Z3, Z3, Z3, Z3, Z3, Z3, Z3, Z3, Z3, Z3, Z3, Z3, Z3, Z3, Z3, Z3, Z3, Z3, Z3, Z3, Z3, Z3, Z3, Z3] : Array Value).getD q9 Z3), rfl, rfl, BE, Rg0_0, Lg0, Rg1_0, Lg1, (Nat.le_refl _), (by rw [Nat.div_eq_of_lt (hn ▸ dlen_lt x), Nat.div_eq_of_lt (hnm ▸ hm ▸ dlen_lt y)])⟩
  clear BE Rg0_0 Rg1_0 Lg0 Lg1
  obtain ⟨k, u13, rfl, rfl, BE, Rg0_0, Lg0, Rg1_0, Lg1, hkn, hxy⟩ := hI
  obtain ⟨w14, rfl⟩ : ∃ W8, W8 = W9 := ⟨_, rfl⟩
  refine Z4 (fun K15 hK15 => ?_)
  refine Z4 (fun K16 hK16 => ?_)
  refine wp_region_plain 2 (by kernel_rfl) (fun Lk hLk => ?_)
  simp only [Z1,Z2]
  refine Z16 (v := .int .i64 (((k : Nat) : Int) - 1)) (by rfl) rfl rfl ?_
  simp only [Z7,Z0]
  refine Z15 (v := .bool (decide (0 ≤ ((k : Nat) : Int) - 1))) (by rfl) rfl rfl rfl (fun W => run_geq _ _ _ _ W) ?_
  simp only [Z7,Z0]
  refine Z14 (hLk.out _ ?_)
  clear hLk Lk
  simp only [Z1,Z2]
  iterate 2 refine wpN_skip (by rfl) ?_
  refine wpN_nil (fun w18 Sw18 hbs => ?_)
  clear hbs
  replace Rg0_0 := range_sees Rg0_0 Lg0 Sw18
  replace Rg1_0 := range_sees Rg1_0 Lg1 Sw18
  replace Lg0 := Nat.lt_of_lt_of_le Lg0 Sw18.2.2.size
  replace Lg1 := Nat.lt_of_lt_of_le Lg1 Sw18.2.2.size
  replace BE := BE.trans (Sw18.2.2.mono BE.size)
  refine Z9 (Z10 ?_)
  refine hK16 _ _ ?_
  cases hc19 : (decide (0 ≤ ((k : Nat) : Int) - 1))
  ·
   have ek : k = 0 := by have := of_decide_eq_false hc19; omega
   subst ek
   refine Z6 rfl ?_
   refine wp_exit ?_
   refine hK9 _ _ ?_
   refine Z4 (fun K20 hK20 => ?_)
   refine wp_region_plain 0 (by kernel_rfl) (fun Lk hLk => ?_)
   simp only [Z1,Z2]
   refine Z14 (hLk.out _ ?_)
   clear hLk Lk
   simp only [Z1,Z2]
   refine wpN_nil (fun w22 Sw22 hbs => ?_)
   clear hbs
   replace Rg0_0 := range_sees Rg0_0 Lg0 Sw22
   replace Rg1_0 := range_sees Rg1_0 Lg1 Sw22
   replace Lg0 := Nat.lt_of_lt_of_le Lg0 Sw22.2.2.size
   replace Lg1 := Nat.lt_of_lt_of_le Lg1 Sw22.2.2.size
   replace BE := BE.trans (Sw22.2.2.mono BE.size)
   refine Z13 (v := .bool false) (by rfl) (by rfl) (by rfl) ?_
   simp only [Z7,Z0]
   refine Z9 (Z10 ?_)
   refine hK20 _ _ ?_
   refine wp_ret ?_
   repeat (first | with_reducible refine then_ret ?_ | with_reducible refine inblock_ret ?_)
   refine bodyPost_ret (v := .bool false) (res1 rfl (.tmp (by rfl))) rfl ?_
   have exy : x = y := by simpa using hxy
   subst exy
   exact ⟨by simp, BE⟩
  ·
   obtain ⟨j, rfl⟩ : ∃ j, k = j + 1 := ⟨k - 1, by have := of_decide_eq_true hc19; omega⟩
   rw [show (((j + 1 : Nat) : Int) - 1) = ((j : Nat) : Int) by omega]
   refine Z5 rfl ?_
   refine wp_skip ?_
   refine hK15 _ _ ?_
   refine Z4 (fun K23 hK23 => ?_)
   refine wp_block ?_
   refine Z4 (fun K24 hK24 => ?_)
   refine wp_region_grow 9 [] (by kernel_rfl) (by kernel_rfl) (by kernel_rfl) (fun Lk hLk => ?_)
   simp only [Z1,Z2]
   refine Z16 (v := .slice (some ⟨g0, 0, none⟩) n cg0) (by rfl) rfl rfl ?_
   simp only [Z7,Z0]
   refine Z16 (v := .int .i64 ((j : Nat) : Int)) (by rfl) rfl rfl ?_
   simp only [Z7,Z0]
   refine wpV_idxs (n := j) (by rfl) rfl rfl rfl Try.underlying100 info3 (by omega) ?_
   simp only [Nat.zero_add]
   simp only [Z7,Z0]
   refine wpV_load1 (v := .int .i64 ((digN x j : Nat) : Int)) (by rfl) rfl rfl (by have := Rg0_0 _ _ (dl_get (j := j) n x (by omega)); rwa [Nat.zero_add] at this) Lg0 Try.underlying3 rfl ?_
   simp only [Z7,Z0]
   refine Z16 (v := .slice (some ⟨g1, 0, none⟩) m cg1) (by rfl) rfl rfl ?_
   simp only [Z7,Z0]
   refine Z16 (v := .int .i64 ((j : Nat) : Int)) (by rfl) rfl rfl ?_
   simp only [Z7,Z0]
   refine wpV_idxs (n := j) (by rfl) rfl rfl rfl Try.underlying100 info3 (by omega) ?_
   simp only [Nat.zero_add]
   simp only [Z7,Z0]
   refine wpV_load1 (v := .int .i64 ((digN y j : Nat) : Int)) (by rfl) rfl rfl (by have := Rg1_0 _ _ (dl_get (j := j) m y (by omega)); rwa [Nat.zero_add] at this) Lg1 Try.underlying3 rfl ?_
   simp only [Z7,Z0]
   refine Z15 (v := .bool (((digN x j : Nat) : Int) != ((digN y j : Nat) : Int))) (by rfl) rfl rfl rfl (fun W => run_neq _ _ _ _ W) ?_
   simp only [Z7,Z0]
   refine Z14 (hLk.out _ ?_)
   clear hLk Lk
   simp only [Z1,Z2]
   iterate 9 refine wpN_skip (by rfl) ?_
   refine wpN_nil (fun w26 Sw26 hbs => ?_)
   clear hbs
   replace Rg0_0 := range_sees Rg0_0 Lg0 Sw26
   replace Rg1_0 := range_sees Rg1_0 Lg1 Sw26
   replace Lg0 := Nat.lt_of_lt_of_le Lg0 Sw26.2.2.size
   replace Lg1 := Nat.lt_of_lt_of_le Lg1 Sw26.2.2.size
   replace BE := BE.trans (Sw26.2.2.mono BE.size)
   refine Z9 (Z10 ?_)
   refine hK24 _ _ ?_
   cases hc27 : (((digN x j : Nat) : Int) != ((digN y j : Nat) : Int))
   ·
    have hdq : digN x j = digN y j := by have h9 := hc27; simp at h9; omega
    refine Z6 rfl ?_
    refine wp_skip ?_
    refine hK23 _ _ ?_
    refine wp_region_plain 2 (by kernel_rfl) (fun Lk hLk => ?_)
    simp only [Z1,Z2]
    refine Z16 (v := .int .i64 ((j : Nat) : Int)) (by rfl) rfl rfl ?_
    simp only [Z7,Z0]
    refine Z15 (v := .int .i64 (((j : Nat) : Int) - 1)) (by rfl) rfl rfl rfl (fun W => run_sub (by simp only [IntKind.wrap_i64]; omega) W) ?_
    simp only [Z7,Z0]
    refine Z14 (hLk.out _ ?_)
    clear hLk Lk
    simp only [Z1,Z2]
    iterate 2 refine wpN_skip (by rfl) ?_
    refine wpN_nil (fun w29 Sw29 hbs => ?_)
    clear hbs
    replace Rg0_0 := range_sees Rg0_0 Lg0 Sw29
    replace Rg1_0 := range_sees Rg1_0 Lg1 Sw29
    replace Lg0 := Nat.lt_of_lt_of_le Lg0 Sw29.2.2.size
    replace Lg1 := Nat.lt_of_lt_of_le Lg1 Sw29.2.2.size
    replace BE := BE.trans (Sw29.2.2.mono BE.size)
    refine Z13 (v := .int .i64 (((j : Nat) : Int) - 1)) (by rfl) (by rfl) (by rfl) ?_
    simp only [Z7,Z0]
    refine Z9 (Z10 ?_)
    refine Exists.intro _ ⟨?_, j, (fun q9 => (#[Z3, Z3, Z3, Z3, u13 4, Z3, Z3, Z3, Z3, Z3, Z3, Z3, Z3, Z3, Z3, Z3, Z3, Z3, Z3, .int .i64 ((j : Nat) : Int), .bool true, .int .i64 ((j : Nat) : Int), .int .i64 (((j : Nat) : Int) - 1), .slice (some ⟨g0, 0, none⟩) n cg0, .int .i64 ((j : Nat) : Int), .pointer (some ⟨g0, j, none⟩), .int .i64 ((digN x j : Nat) : Int), .slice (some ⟨g1, 0, none⟩) m cg1, .int .i64 ((j : Nat) : Int), .pointer (some ⟨g1, j, none⟩), .int .i64 ((digN y j : Nat) : Int), .bool false, u13 32, u13 33, u13 34, u13 35, u13 36, u13 37, u13 38, u13 39, u13 40] : Array Value).getD q9 Z3), rfl, rfl, BE, Rg0_0, Lg0, Rg1_0, Lg1, (by omega), (less_eq hxy hdq)⟩
    omega
   ·
    have hdq : digN x j ≠ digN y j := by intro e; rw [e] at hc27; simp at hc27
    refine Z5 rfl ?_
    refine Z4 (fun K30 hK30 => ?_)
    refine wp_region_grow 9 [] (by kernel_rfl) (by kernel_rfl) (by kernel_rfl) (fun Lk hLk => ?_)
    simp only [Z1,Z2]
    refine Z16 (v := .slice (some ⟨g0, 0, none⟩) n cg0) (by rfl) rfl rfl ?_
    simp only [Z7,Z0]
    refine Z16 (v := .int .i64 ((j : Nat) : Int)) (by rfl) rfl rfl ?_
    simp only [Z7,Z0]
    refine wpV_idxs (n := j) (by rfl) rfl rfl rfl Try.underlying100 info3 (by omega) ?_
    simp only [Nat.zero_add]
    simp only [Z7,Z0]
    refine wpV_load1 (v := .int .i64 ((digN x j : Nat) : Int)) (by rfl) rfl rfl (by have := Rg0_0 _ _ (dl_get (j := j) n x (by omega)); rwa [Nat.zero_add] at this) Lg0 Try.underlying3 rfl ?_
    simp only [Z7,Z0]
    refine Z16 (v := .slice (some ⟨g1, 0, none⟩) m cg1) (by rfl) rfl rfl ?_
    simp only [Z7,Z0]
    refine Z16 (v := .int .i64 ((j : Nat) : Int)) (by rfl) rfl rfl ?_
    simp only [Z7,Z0]
    refine wpV_idxs (n := j) (by rfl) rfl rfl rfl Try.underlying100 info3 (by omega) ?_
    simp only [Nat.zero_add]
    simp only [Z7,Z0]
    refine wpV_load1 (v := .int .i64 ((digN y j : Nat) : Int)) (by rfl) rfl rfl (by have := Rg1_0 _ _ (dl_get (j := j) m y (by omega)); rwa [Nat.zero_add] at this) Lg1 Try.underlying3 rfl ?_
    simp only [Z7,Z0]
    refine Z15 (v := .bool (decide (digN x j < digN y j))) (by rfl) rfl rfl rfl (fun W => run_lssN (digN x j) (digN y j) _ _ W) ?_
    simp only [Z7,Z0]
    refine Z14 (hLk.out _ ?_)
    clear hLk Lk
    simp only [Z1,Z2]
    iterate 9 refine wpN_skip (by rfl) ?_
    refine wpN_nil (fun w32 Sw32 hbs => ?_)
    clear hbs
    replace Rg0_0 := range_sees Rg0_0 Lg0 Sw32
    replace Rg1_0 := range_sees Rg1_0 Lg1 Sw32
    replace Lg0 := Nat.lt_of_lt_of_le Lg0 Sw32.2.2.size
    replace Lg1 := Nat.lt_of_lt_of_le Lg1 Sw32.2.2.size
    replace BE := BE.trans (Sw32.2.2.mono BE.size)
    refine Z13 (v := .bool (decide (digN x j < digN y j))) (by rfl) (by rfl) (by rfl) ?_
    simp only [Z7,Z0]
    refine Z9 (Z10 ?_)
    refine hK30 _ _ ?_
    refine wp_ret ?_
    repeat (first | with_reducible refine then_ret ?_ | with_reducible refine inblock_ret ?_)
    refine bodyPost_ret (v := .bool (decide (digN x j < digN y j))) (res1 rfl (.tmp (by rfl))) rfl ?_
    exact ⟨by rw [less_dig hxy hdq], BE⟩
 ·
  have hnm : m ≠ n := by intro e; rw [e] at hc8; simp at hc8
  refine Z5 rfl ?_
  refine Z4 (fun K33 hK33 => ?_)
  refine wp_region_plain 5 (by kernel_rfl) (fun Lk hLk => ?_)
  simp only [Z1,Z2]
  refine Z16 (v := .slice (some ⟨g0, 0, none⟩) n cg0) (by rfl) rfl rfl ?_
  simp only [Z7,Z0]
  refine wpV_lenA (n := n) (by rfl) rfl rfl rfl Try.underlying100 ?_
  simp only [Z7,Z0]
  refine Z16 (v := .slice (some ⟨g1, 0, none⟩) m cg1) (by rfl) rfl rfl ?_
  simp only [Z7,Z0]
  refine wpV_lenA (n := m) (by rfl) rfl rfl rfl Try.underlying100 ?_
  simp only [Z7,Z0]
  refine Z15 (v := .bool (decide (n < m))) (by rfl) rfl rfl rfl (fun W => run_lssN n m _ _ W) ?_
  simp only [Z7,Z0]
  refine Z14 (hLk.out _ ?_)
  clear hLk Lk
  simp only [Z1,Z2]
  iterate 5 refine wpN_skip (by rfl) ?_
  refine wpN_nil (fun w35 Sw35 hbs => ?_)
  clear hbs
  replace Rg0_0 := range_sees Rg0_0 Lg0 Sw35
  replace Rg1_0 := range_sees Rg1_0 Lg1 Sw35
  replace Lg0 := Nat.lt_of_lt_of_le Lg0 Sw35.2.2.size
  replace Lg1 := Nat.lt_of_lt_of_le Lg1 Sw35.2.2.size
  replace BE := BE.trans (Sw35.2.2.mono BE.size)
  refine Z13 (v := .bool (decide (n < m))) (by rfl) (by rfl) (by rfl) ?_
  simp only [Z7,Z0]
  refine Z9 (Z10 ?_)
  refine hK33 _ _ ?_
  refine wp_ret ?_
  repeat (first | with_reducible refine then_ret ?_ | with_reducible refine inblock_ret ?_)
  refine bodyPost_ret (v := .bool (decide (n < m))) (res1 rfl (.tmp (by rfl))) rfl ?_
  exact ⟨by rw [hn, hm, less_len (by omega)], BE⟩
set_option maxHeartbeats 1000000 in
theorem prime04_c  {w : World}  :
  Calls Try.prog 68 #[] w fun e w' => ∃ v, e = .returned v ∧ NewRow w 16 (dl 16 pF) v w' ∧ Below w.heap.size w w' := by
 go_enter Try.func68, Try.ntmps68
 have BE := Below.refl w.heap.size w
 refine Z4 (fun K1 hK1 => ?_)
 refine wp_region_plain 0 (by kernel_rfl) (fun Lk hLk => ?_)
 simp only [Z1,Z2]
 refine Z14 (hLk.out _ ?_)
 clear hLk Lk
 simp only [Z1,Z2]
 refine wpN_nil (fun w3 Sw3 hbs => ?_)
 clear hbs
 replace BE := BE.trans (Sw3.2.2.mono BE.size)
 refine Z13 (v := (.slice none 0 0)) (by rfl) (by rfl) (by rfl) ?_
 simp only [Z7,Z0]
 refine Z9 (Z10 ?_)
 refine hK1 _ _ ?_
 refine Z4 (fun K4 hK4 => ?_)
 refine wp_region_plain 0 (by kernel_rfl) (fun Lk hLk => ?_)
 simp only [Z1,Z2]
 refine Z14 (hLk.out _ ?_)
 clear hLk Lk
 simp only [Z1,Z2]
 refine wpN_nil (fun w6 Sw6 hbs => ?_)
 clear hbs
 replace BE := BE.trans (Sw6.2.2.mono BE.size)
 refine wpL_make (n := 16) (z := .int .i64 0) (bytes := 8) (by rfl) (by rfl) (by rfl) (by rfl) Try.underlying100 (by kernel_rfl) rfl (by decide) (by decide) (fun g7 w8 Sw8 Hg7 Bg7 => ?_)
 have Gg7 : w.heap.size ≤ g7 := Nat.le_trans BE.size Hg7
 replace BE := BE.trans (Sw8.2.2.mono BE.size)
 have Tg7 := blk_there Bg7 (n := 16) (by simp)
 have Rg7_0 := blk_range Bg7 (l := List.replicate 16 (.int .i64 0)) rfl
 have Lg7 := Bg7.lt
 clear Bg7
 simp only [Z7,Z0]
 refine Z13 (v := .slice (some ⟨g7, 0, none⟩) 16 16) (by rfl) (by rfl) (by rfl) ?_
 simp only [Z7,Z0]
 refine Z9 (Z10 ?_)
 refine hK4 _ _ ?_
 refine Z4 (fun K9 hK9 => ?_)
 refine Z4 (fun K10 hK10 => ?_)
 have R9 : World.rangeAt w8 g7 0 ([.int .i64 0, .int .i64 0, .int .i64 0, .int .i64 0, .int .i64 0, .int .i64 0, .int .i64 0, .int .i64 0, .int .i64 0, .int .i64 0, .int .i64 0, .int .i64 0, .int .i64 0, .int .i64 0, .int .i64 0, .int .i64 0]) := Rg7_0
 clear Rg7_0
 have Rg7_0 := R9
 clear R9
 refine wp_region_plain 3 (by kernel_rfl) (fun Lk hLk => ?_)
 simp only [Z1,Z2]
 refine Z16 (v := .slice (some ⟨g7, 0, none⟩) 16 16) (by rfl) rfl rfl ?_
 simp only [Z7,Z0]
 refine wpV_lenA (n := 16) (by rfl) rfl rfl rfl Try.underlying100 ?_
 simp only [Z7,Z0]
 refine Z16 (v := .int .i64 0) (by rfl) rfl rfl ?_
 simp only [Z7,Z0]
 refine Z14 (hLk.out _ ?_)
 clear hLk Lk
 simp only [Z1,Z2]
 iterate 3 refine wpN_skip (by rfl) ?_
 refine wpN_nil (fun w12 Sw12 hbs => ?_)
 clear hbs
 replace Rg7_0 := range_sees Rg7_0 Lg7 Sw12
 replace Tg7 := there_sees Tg7 Lg7 Sw12
 replace Lg7 := Nat.lt_of_lt_of_le Lg7 Sw12.2.2.size
 replace BE := BE.trans (Sw12.2.2.mono BE.size)
 refine Z9 (Z10 ?_)
 refine hK10 _ _ ?_
 refine wp_block ?_
 refine wp_loop_rounds 17 ?_
 rw [rounds_succ]
 refine Z4 (fun K13 hK13 => ?_)
 refine wp_region_plain 1 (by kernel_rfl) (fun Lk hLk => ?_)
 simp only [Z1,Z2]
 refine Z15 (v := .bool true) (by rfl) rfl rfl rfl (fun W => run_lss _ _ _ _ W) ?_
 simp only [Z7,Z0]
 refine Z14 (hLk.out _ ?_)
 clear hLk Lk
 simp only [Z1,Z2]
 iterate 1 refine wpN_skip (by rfl) ?_
 refine wpN_nil (fun w15 Sw15 hbs => ?_)
 clear hbs
 replace Rg7_0 := range_sees Rg7_0 Lg7 Sw15
 replace Tg7 := there_sees Tg7 Lg7 Sw15
 replace Lg7 := Nat.lt_of_lt_of_le Lg7 Sw15.2.2.size
 replace BE := BE.trans (Sw15.2.2.mono BE.size)
 refine Z9 (Z10 ?_)
 refine hK13 _ _ ?_
 refine Z4 (fun K16 hK16 => ?_)
 refine Z5 rfl ?_
 refine wp_skip ?_
 refine hK16 _ _ ?_
 refine Z4 (fun K17 hK17 => ?_)
 refine wp_block ?_
 refine Z4 (fun K18 hK18 => ?_)
 refine wp_region_plain 1 (by kernel_rfl) (fun Lk hLk => ?_)
 simp only [Z1,Z2]
 refine Z16 (v := .int .i64 0) (by rfl) rfl rfl ?_
 simp only [Z7,Z0]
 refine Z14 (hLk.out _ ?_)
 clear hLk Lk
 simp only [Z1,Z2]
 iterate 1 refine wpN_skip (by rfl) ?_
 refine wpN_nil (fun w20 Sw20 hbs => ?_)
 clear hbs
 replace Rg7_0 := range_sees Rg7_0 Lg7 Sw20
 replace Tg7 := there_sees Tg7 Lg7 Sw20
 replace Lg7 := Nat.lt_of_lt_of_le Lg7 Sw20.2.2.size
 replace BE := BE.trans (Sw20.2.2.mono BE.size)
 refine Z13 (v := .int .i64 0) (by rfl) (by rfl) (by rfl) ?_
 simp only [Z7,Z0]
 refine Z9 (Z10 ?_)
 refine hK18 _ _ ?_
 refine wp_region_plain 3 (by kernel_rfl) (fun Lk hLk => ?_)
 simp only [Z1,Z2]
 refine Z16 (v := .slice (some ⟨g7, 0, none⟩) 16 16) (by rfl) rfl rfl ?_
 simp only [Z7,Z0]
 refine Z16 (v := .int .i64 0) (by rfl) rfl rfl ?_
 simp only [Z7,Z0]
 refine wpV_idxs (n := 0) (by rfl) rfl rfl rfl Try.underlying100 info3 (by omega) ?_
 simp only [Nat.zero_add]
 simp only [Z7,Z0]
 refine Z14 (hLk.out _ ?_)
 clear hLk Lk
 simp only [Z1,Z2]
 iterate 3 refine wpN_skip (by rfl) ?_
 refine wpN_nil (fun w22 Sw22 hbs => ?_)
 clear hbs
 replace Rg7_0 := range_sees Rg7_0 Lg7 Sw22
 replace Tg7 := there_sees Tg7 Lg7 Sw22
 replace Lg7 := Nat.lt_of_lt_of_le Lg7 Sw22.2.2.size
 replace BE := BE.trans (Sw22.2.2.mono BE.size)
 refine Z18 (g := g7) (off := 0) (n := 16) (v := .int .i64 65535) (by rfl) (by rfl) (by rfl) (by rfl) (by rfl) Tg7 (by omega) info3 rfl (fun w23 Pw23 RR TT => ?_)
 replace Rg7_0 := range_set Rg7_0 Pw23 RR
 clear RR
 replace Tg7 := TT
 replace Lg7 := Pw23.lt Lg7
 replace BE := Pw23.below BE Gg7
 refine Z9 (Z10 ?_)
 refine hK17 _ _ ?_
 refine wp_region_plain 2 (by kernel_rfl) (fun Lk hLk => ?_)
 simp only [Z1,Z2]
 refine Z15 (v := .int .i64 1) (by rfl) rfl rfl rfl (fun W => run_add (by decide) W) ?_
 simp only [Z7,Z0]
 refine Z16 (v := .int .i64 1) (by rfl) rfl rfl ?_
 simp only [Z7,Z0]
 refine Z14 (hLk.out _ ?_)
 clear hLk Lk
 simp only [Z1,Z2]
 iterate 2 refine wpN_skip (by rfl) ?_
 refine wpN_nil (fun w25 Sw25 hbs => ?_)
 clear hbs
 replace Rg7_0 := range_sees Rg7_0 Lg7 Sw25
 replace Tg7 := there_sees Tg7 Lg7 Sw25
 replace Lg7 := Nat.lt_of_lt_of_le Lg7 Sw25.2.2.size
 replace BE := BE.trans (Sw25.2.2.mono BE.size)
 refine Z9 (Z10 ?_)
 refine Z17 (Q := fun _ _ _ => True) ?_
 rw [rounds_succ]
 refine Z4 (fun K26 hK26 => ?_)
 refine wp_region_plain 1 (by kernel_rfl) (fun Lk hLk => ?_)
 simp only [Z1,Z2]
 refine Z15 (v := .bool true) (by rfl) rfl rfl rfl (fun W => run_lss _ _ _ _ W) ?_
 simp only [Z7,Z0]
 refine Z14 (hLk.out _ ?_)
 clear hLk Lk
 simp only [Z1,Z2]
 iterate 1 refine wpN_skip (by rfl) ?_
 refine wpN_nil (fun w28 Sw28 hbs => ?_)
 clear hbs
 replace Rg7_0 := range_sees Rg7_0 Lg7 Sw28
 replace Tg7 := there_sees Tg7 Lg7 Sw28
 replace Lg7 := Nat.lt_of_lt_of_le Lg7 Sw28.2.2.size
 replace BE := BE.trans (Sw28.2.2.mono BE.size)
 refine Z9 (Z10 ?_)
 refine hK26 _ _ ?_
 refine Z4 (fun K29 hK29 => ?_)
 refine Z5 rfl ?_
 refine wp_skip ?_
 refine hK29 _ _ ?_
 refine Z4 (fun K30 hK30 => ?_)
 refine wp_block ?_
 refine Z4 (fun K31 hK31 => ?_)
 refine wp_region_plain 1 (by kernel_rfl) (fun Lk hLk => ?_)
 simp only [Z1,Z2]
 refine Z16 (v := .int .i64 1) (by rfl) rfl rfl ?_
 simp only [Z7,Z0]
 refine Z14 (hLk.out _ ?_)
 clear hLk Lk
 simp only [Z1,Z2]
 iterate 1 refine wpN_skip (by rfl) ?_
 refine wpN_nil (fun w33 Sw33 hbs => ?_)
 clear hbs
 replace Rg7_0 := range_sees Rg7_0 Lg7 Sw33
 replace Tg7 := there_sees Tg7 Lg7 Sw33
 replace Lg7 := Nat.lt_of_lt_of_le Lg7 Sw33.2.2.size
 replace BE := BE.trans (Sw33.2.2.mono BE.size)
 refine Z13 (v := .int .i64 1) (by rfl) (by rfl) (by rfl) ?_
 simp only [Z7,Z0]
 refine Z9 (Z10 ?_)
 refine hK31 _ _ ?_
 refine wp_region_plain 3 (by kernel_rfl) (fun Lk hLk => ?_)
 simp only [Z1,Z2]
 refine Z16 (v := .slice (some ⟨g7, 0, none⟩) 16 16) (by rfl) rfl rfl ?_
 simp only [Z7,Z0]
 refine Z16 (v := .int .i64 1) (by rfl) rfl rfl ?_
 simp only [Z7,Z0]
 refine wpV_idxs (n := 1) (by rfl) rfl rfl rfl Try.underlying100 info3 (by omega) ?_
 simp only [Nat.zero_add]
 simp only [Z7,Z0]
 refine Z14 (hLk.out _ ?_)
 clear hLk Lk
 simp only [Z1,Z2]
 iterate 3 refine wpN_skip (by rfl) ?_
 refine wpN_nil (fun w35 Sw35 hbs => ?_)
 clear hbs
 replace Rg7_0 := range_sees Rg7_0 Lg7 Sw35
 replace Tg7 := there_sees Tg7 Lg7 Sw35
 replace Lg7 := Nat.lt_of_lt_of_le Lg7 Sw35.2.2.size
 replace BE := BE.trans (Sw35.2.2.mono BE.size)
 refine Z18 (g := g7) (off := 1) (n := 16) (v := .int .i64 65535) (by rfl) (by rfl) (by rfl) (by rfl) (by rfl) Tg7 (by omega) info3 rfl (fun w36 Pw36 RR TT => ?_)
 replace Rg7_0 := range_set Rg7_0 Pw36 RR
 clear RR
 replace Tg7 := TT
 replace Lg7 := Pw36.lt Lg7
 replace BE := Pw36.below BE Gg7
 refine Z9 (Z10 ?_)
 refine hK30 _ _ ?_
 refine wp_region_plain 2 (by kernel_rfl) (fun Lk hLk => ?_)
 simp only [Z1,Z2]
 refine Z15 (v := .int .i64 2) (by rfl) rfl rfl rfl (fun W => run_add (by decide) W) ?_
 simp only [Z7,Z0]
 refine Z16 (v := .int .i64 2) (by rfl) rfl rfl ?_
 simp only [Z7,Z0]
 refine Z14 (hLk.out _ ?_)
 clear hLk Lk
 simp only [Z1,Z2]
 iterate 2 refine wpN_skip (by rfl) ?_
 refine wpN_nil (fun w38 Sw38 hbs => ?_)
 clear hbs
 replace Rg7_0 := range_sees Rg7_0 Lg7 Sw38
 replace Tg7 := there_sees Tg7 Lg7 Sw38
 replace Lg7 := Nat.lt_of_lt_of_le Lg7 Sw38.2.2.size
 replace BE := BE.trans (Sw38.2.2.mono BE.size)
 refine Z9 (Z10 ?_)
 refine Z17 (Q := fun _ _ _ => True) ?_
 rw [rounds_succ]
 refine Z4 (fun K39 hK39 => ?_)
 refine wp_region_plain 1 (by kernel_rfl) (fun Lk hLk => ?_)
 simp only [Z1,Z2]
 refine Z15 (v := .bool true) (by rfl) rfl rfl rfl (fun W => run_lss _ _ _ _ W) ?_
 simp only [Z7,Z0]
 refine Z14 (hLk.out _ ?_)
 clear hLk Lk
 simp only [Z1,Z2]
 iterate 1 refine wpN_skip (by rfl) ?_
 refine wpN_nil (fun w41 Sw41 hbs => ?_)
 clear hbs
 replace Rg7_0 := range_sees Rg7_0 Lg7 Sw41
 replace Tg7 := there_sees Tg7 Lg7 Sw41
 replace Lg7 := Nat.lt_of_lt_of_le Lg7 Sw41.2.2.size
 replace BE := BE.trans (Sw41.2.2.mono BE.size)
 refine Z9 (Z10 ?_)
 refine hK39 _ _ ?_
 refine Z4 (fun K42 hK42 => ?_)
 refine Z5 rfl ?_
 refine wp_skip ?_
 refine hK42 _ _ ?_
 refine Z4 (fun K43 hK43 => ?_)
 refine wp_block ?_
 refine Z4 (fun K44 hK44 => ?_)
 refine wp_region_plain 1 (by kernel_rfl) (fun Lk hLk => ?_)
 simp only [Z1,Z2]
 refine Z16 (v := .int .i64 2) (by rfl) rfl rfl ?_
 simp only [Z7,Z0]
 refine Z14 (hLk.out _ ?_)
 clear hLk Lk
 simp only [Z1,Z2]
 iterate 1 refine wpN_skip (by rfl) ?_
 refine wpN_nil (fun w46 Sw46 hbs => ?_)
 clear hbs
 replace Rg7_0 := range_sees Rg7_0 Lg7 Sw46
 replace Tg7 := there_sees Tg7 Lg7 Sw46
 replace Lg7 := Nat.lt_of_lt_of_le Lg7 Sw46.2.2.size
 replace BE := BE.trans (Sw46.2.2.mono BE.size)
 refine Z13 (v := .int .i64 2) (by rfl) (by rfl) (by rfl) ?_
 simp only [Z7,Z0]
 refine Z9 (Z10 ?_)
 refine hK44 _ _ ?_
 refine wp_region_plain 3 (by kernel_rfl) (fun Lk hLk => ?_)
 simp only [Z1,Z2]
 refine Z16 (v := .slice (some ⟨g7, 0, none⟩) 16 16) (by rfl) rfl rfl ?_
 simp only [Z7,Z0]
 refine Z16 (v := .int .i64 2) (by rfl) rfl rfl ?_
 simp only [Z7,Z0]
 refine wpV_idxs (n := 2) (by rfl) rfl rfl rfl Try.underlying100 info3 (by omega) ?_
 simp only [Nat.zero_add]
 simp only [Z7,Z0]
 refine Z14 (hLk.out _ ?_)
 clear hLk Lk
 simp only [Z1,Z2]
 iterate 3 refine wpN_skip (by rfl) ?_
 refine wpN_nil (fun w48 Sw48 hbs => ?_)
 clear hbs
 replace Rg7_0 := range_sees Rg7_0 Lg7 Sw48
 replace Tg7 := there_sees Tg7 Lg7 Sw48
 replace Lg7 := Nat.lt_of_lt_of_le Lg7 Sw48.2.2.size
 replace BE := BE.trans (Sw48.2.2.mono BE.size)
 refine Z18 (g := g7) (off := 2) (n := 16) (v := .int .i64 65535) (by rfl) (by rfl) (by rfl) (by rfl) (by rfl) Tg7 (by omega) info3 rfl (fun w49 Pw49 RR TT => ?_)
 replace Rg7_0 := range_set Rg7_0 Pw49 RR
 clear RR
 replace Tg7 := TT
 replace Lg7 := Pw49.lt Lg7
 replace BE := Pw49.below BE Gg7
 refine Z9 (Z10 ?_)
 refine hK43 _ _ ?_
 refine wp_region_plain 2 (by kernel_rfl) (fun Lk hLk => ?_)
 simp only [Z1,Z2]
 refine Z15 (v := .int .i64 3) (by rfl) rfl rfl rfl (fun W => run_add (by decide) W) ?_
 simp only [Z7,Z0]
 refine Z16 (v := .int .i64 3) (by rfl) rfl rfl ?_
 simp only [Z7,Z0]
 refine Z14 (hLk.out _ ?_)
 clear hLk Lk
 simp only [Z1,Z2]
 iterate 2 refine wpN_skip (by rfl) ?_
 refine wpN_nil (fun w51 Sw51 hbs => ?_)
 clear hbs
 replace Rg7_0 := range_sees Rg7_0 Lg7 Sw51
 replace Tg7 := there_sees Tg7 Lg7 Sw51
 replace Lg7 := Nat.lt_of_lt_of_le Lg7 Sw51.2.2.size
 replace BE := BE.trans (Sw51.2.2.mono BE.size)
 refine Z9 (Z10 ?_)
 refine Z17 (Q := fun _ _ _ => True) ?_
 rw [rounds_succ]
 refine Z4 (fun K52 hK52 => ?_)
 refine wp_region_plain 1 (by kernel_rfl) (fun Lk hLk => ?_)
 simp only [Z1,Z2]
 refine Z15 (v := .bool true) (by rfl) rfl rfl rfl (fun W => run_lss _ _ _ _ W) ?_
 simp only [Z7,Z0]
 refine Z14 (hLk.out _ ?_)
 clear hLk Lk
 simp only [Z1,Z2]
 iterate 1 refine wpN_skip (by rfl) ?_
 refine wpN_nil (fun w54 Sw54 hbs => ?_)
 clear hbs
 replace Rg7_0 := range_sees Rg7_0 Lg7 Sw54
 replace Tg7 := there_sees Tg7 Lg7 Sw54
 replace Lg7 := Nat.lt_of_lt_of_le Lg7 Sw54.2.2.size
 replace BE := BE.trans (Sw54.2.2.mono BE.size)
 refine Z9 (Z10 ?_)
 refine hK52 _ _ ?_
 refine Z4 (fun K55 hK55 => ?_)
 refine Z5 rfl ?_
 refine wp_skip ?_
 refine hK55 _ _ ?_
 refine Z4 (fun K56 hK56 => ?_)
 refine wp_block ?_
 refine Z4 (fun K57 hK57 => ?_)
 refine wp_region_plain 1 (by kernel_rfl) (fun Lk hLk => ?_)
 simp only [Z1,Z2]
 refine Z16 (v := .int .i64 3) (by rfl) rfl rfl ?_
 simp only [Z7,Z0]
 refine Z14 (hLk.out _ ?_)
 clear hLk Lk
 simp only [Z1,Z2]
 iterate 1 refine wpN_skip (by rfl) ?_
 refine wpN_nil (fun w59 Sw59 hbs => ?_)
 clear hbs
 replace Rg7_0 := range_sees Rg7_0 Lg7 Sw59
 replace Tg7 := there_sees Tg7 Lg7 Sw59
 replace Lg7 := Nat.lt_of_lt_of_le Lg7 Sw59.2.2.size
 replace BE := BE.trans (Sw59.2.2.mono BE.size)
 refine Z13 (v := .int .i64 3) (by rfl) (by rfl) (by rfl) ?_
 simp only [Z7,Z0]
 refine Z9 (Z10 ?_)
 refine hK57 _ _ ?_
 refine wp_region_plain 3 (by kernel_rfl) (fun Lk hLk => ?_)
 simp only [Z1,Z2]
 refine Z16 (v := .slice (some ⟨g7, 0, none⟩) 16 16) (by rfl) rfl rfl ?_
 simp only [Z7,Z0]
 refine Z16 (v := .int .i64 3) (by rfl) rfl rfl ?_
 simp only [Z7,Z0]
 refine wpV_idxs (n := 3) (by rfl) rfl rfl rfl Try.underlying100 info3 (by omega) ?_
 simp only [Nat.zero_add]
 simp only [Z7,Z0]
 refine Z14 (hLk.out _ ?_)
 clear hLk Lk
 simp only [Z1,Z2]
 iterate 3 refine wpN_skip (by rfl) ?_
 refine wpN_nil (fun w61 Sw61 hbs => ?_)
 clear hbs
 replace Rg7_0 := range_sees Rg7_0 Lg7 Sw61
 replace Tg7 := there_sees Tg7 Lg7 Sw61
 replace Lg7 := Nat.lt_of_lt_of_le Lg7 Sw61.2.2.size
 replace BE := BE.trans (Sw61.2.2.mono BE.size)
 refine Z18 (g := g7) (off := 3) (n := 16) (v := .int .i64 65535) (by rfl) (by rfl) (by rfl) (by rfl) (by rfl) Tg7 (by omega) info3 rfl (fun w62 Pw62 RR TT => ?_)
 replace Rg7_0 := range_set Rg7_0 Pw62 RR
 clear RR
 replace Tg7 := TT
 replace Lg7 := Pw62.lt Lg7
 replace BE := Pw62.below BE Gg7
 refine Z9 (Z10 ?_)
 refine hK56 _ _ ?_
 refine wp_region_plain 2 (by kernel_rfl) (fun Lk hLk => ?_)
 simp only [Z1,Z2]
 refine Z15 (v := .int .i64 4) (by rfl) rfl rfl rfl (fun W => run_add (by decide) W) ?_
 simp only [Z7,Z0]
 refine Z16 (v := .int .i64 4) (by rfl) rfl rfl ?_
 simp only [Z7,Z0]
 refine Z14 (hLk.out _ ?_)
 clear hLk Lk
 simp only [Z1,Z2]
 iterate 2 refine wpN_skip (by rfl) ?_
 refine wpN_nil (fun w64 Sw64 hbs => ?_)
 clear hbs
 replace Rg7_0 := range_sees Rg7_0 Lg7 Sw64
 replace Tg7 := there_sees Tg7 Lg7 Sw64
 replace Lg7 := Nat.lt_of_lt_of_le Lg7 Sw64.2.2.size
 replace BE := BE.trans (Sw64.2.2.mono BE.size)
 refine Z9 (Z10 ?_)
 refine Z17 (Q := fun _ _ _ => True) ?_
 rw [rounds_succ]
 refine Z4 (fun K65 hK65 => ?_)
 refine wp_region_plain 1 (by kernel_rfl) (fun Lk hLk => ?_)
 simp only [Z1,Z2]
 refine Z15 (v := .bool true) (by rfl) rfl rfl rfl (fun W => run_lss _ _ _ _ W) ?_
 simp only [Z7,Z0]
 refine Z14 (hLk.out _ ?_)
 clear hLk Lk
 simp only [Z1,Z2]
 iterate 1 refine wpN_skip (by rfl) ?_
 refine wpN_nil (fun w67 Sw67 hbs => ?_)
 clear hbs
 replace Rg7_0 := range_sees Rg7_0 Lg7 Sw67
 replace Tg7 := there_sees Tg7 Lg7 Sw67
 replace Lg7 := Nat.lt_of_lt_of_le Lg7 Sw67.2.2.size
 replace BE := BE.trans (Sw67.2.2.mono BE.size)
 refine Z9 (Z10 ?_)
 refine hK65 _ _ ?_
 refine Z4 (fun K68 hK68 => ?_)
 refine Z5 rfl ?_
 refine wp_skip ?_
 refine hK68 _ _ ?_
 refine Z4 (fun K69 hK69 => ?_)
 refine wp_block ?_
 refine Z4 (fun K70 hK70 => ?_)
 refine wp_region_plain 1 (by kernel_rfl) (fun Lk hLk => ?_)
 simp only [Z1,Z2]
 refine Z16 (v := .int .i64 4) (by rfl) rfl rfl ?_
 simp only [Z7,Z0]
 refine Z14 (hLk.out _ ?_)
 clear hLk Lk
 simp only [Z1,Z2]
 iterate 1 refine wpN_skip (by rfl) ?_
 refine wpN_nil (fun w72 Sw72 hbs => ?_)
 clear hbs
 replace Rg7_0 := range_sees Rg7_0 Lg7 Sw72
 replace Tg7 := there_sees Tg7 Lg7 Sw72
 replace Lg7 := Nat.lt_of_lt_of_le Lg7 Sw72.2.2.size
 replace BE := BE.trans (Sw72.2.2.mono BE.size)
 refine Z13 (v := .int .i64 4) (by rfl) (by rfl) (by rfl) ?_
 simp only [Z7,Z0]
 refine Z9 (Z10 ?_)
 refine hK70 _ _ ?_
 refine wp_region_plain 3 (by kernel_rfl) (fun Lk hLk => ?_)
 simp only [Z1,Z2]
 refine Z16 (v := .slice (some ⟨g7, 0, none⟩) 16 16) (by rfl) rfl rfl ?_
 simp only [Z7,Z0]
 refine Z16 (v := .int .i64 4) (by rfl) rfl rfl ?_
 simp only [Z7,Z0]
 refine wpV_idxs (n := 4) (by rfl) rfl rfl rfl Try.underlying100 info3 (by omega) ?_
 simp only [Nat.zero_add]
 simp only [Z7,Z0]
 refine Z14 (hLk.out _ ?_)
 clear hLk Lk
 simp only [Z1,Z2]
 iterate 3 refine wpN_skip (by rfl) ?_
 refine wpN_nil (fun w74 Sw74 hbs => ?_)
 clear hbs
 replace Rg7_0 := range_sees Rg7_0 Lg7 Sw74
 replace Tg7 := there_sees Tg7 Lg7 Sw74
 replace Lg7 := Nat.lt_of_lt_of_le Lg7 Sw74.2.2.size
 replace BE := BE.trans (Sw74.2.2.mono BE.size)
 refine Z18 (g := g7) (off := 4) (n := 16) (v := .int .i64 65535) (by rfl) (by rfl) (by rfl) (by rfl) (by rfl) Tg7 (by omega) info3 rfl (fun w75 Pw75 RR TT => ?_)
 replace Rg7_0 := range_set Rg7_0 Pw75 RR
 clear RR
 replace Tg7 := TT
 replace Lg7 := Pw75.lt Lg7
 replace BE := Pw75.below BE Gg7
 refine Z9 (Z10 ?_)
 refine hK69 _ _ ?_
 refine wp_region_plain 2 (by kernel_rfl) (fun Lk hLk => ?_)
 simp only [Z1,Z2]
 refine Z15 (v := .int .i64 5) (by rfl) rfl rfl rfl (fun W => run_add (by decide) W) ?_
 simp only [Z7,Z0]
 refine Z16 (v := .int .i64 5) (by rfl) rfl rfl ?_
 simp only [Z7,Z0]
 refine Z14 (hLk.out _ ?_)
 clear hLk Lk
 simp only [Z1,Z2]
 iterate 2 refine wpN_skip (by rfl) ?_
 refine wpN_nil (fun w77 Sw77 hbs => ?_)
 clear hbs
 replace Rg7_0 := range_sees Rg7_0 Lg7 Sw77
 replace Tg7 := there_sees Tg7 Lg7 Sw77
 replace Lg7 := Nat.lt_of_lt_of_le Lg7 Sw77.2.2.size
 replace BE := BE.trans (Sw77.2.2.mono BE.size)
 refine Z9 (Z10 ?_)
 refine Z17 (Q := fun _ _ _ => True) ?_
 rw [rounds_succ]
 refine Z4 (fun K78 hK78 => ?_)
 refine wp_region_plain 1 (by kernel_rfl) (fun Lk hLk => ?_)
 simp only [Z1,Z2]
 refine Z15 (v := .bool true) (by rfl) rfl rfl rfl (fun W => run_lss _ _ _ _ W) ?_
 simp only [Z7,Z0]
 refine Z14 (hLk.out _ ?_)
 clear hLk Lk
 simp only [Z1,Z2]
 iterate 1 refine wpN_skip (by rfl) ?_
 refine wpN_nil (fun w80 Sw80 hbs => ?_)
 clear hbs
 replace Rg7_0 := range_sees Rg7_0 Lg7 Sw80
 replace Tg7 := there_sees Tg7 Lg7 Sw80
 replace Lg7 := Nat.lt_of_lt_of_le Lg7 Sw80.2.2.size
 replace BE := BE.trans (Sw80.2.2.mono BE.size)
 refine Z9 (Z10 ?_)
 refine hK78 _ _ ?_
 refine Z4 (fun K81 hK81 => ?_)
 refine Z5 rfl ?_
 refine wp_skip ?_
 refine hK81 _ _ ?_
 refine Z4 (fun K82 hK82 => ?_)
 refine wp_block ?_
 refine Z4 (fun K83 hK83 => ?_)
 refine wp_region_plain 1 (by kernel_rfl) (fun Lk hLk => ?_)
 simp only [Z1,Z2]
 refine Z16 (v := .int .i64 5) (by rfl) rfl rfl ?_
 simp only [Z7,Z0]
 refine Z14 (hLk.out _ ?_)
 clear hLk Lk
 simp only [Z1,Z2]
 iterate 1 refine wpN_skip (by rfl) ?_
 refine wpN_nil (fun w85 Sw85 hbs => ?_)
 clear hbs
 replace Rg7_0 := range_sees Rg7_0 Lg7 Sw85
 replace Tg7 := there_sees Tg7 Lg7 Sw85
 replace Lg7 := Nat.lt_of_lt_of_le Lg7 Sw85.2.2.size
 replace BE := BE.trans (Sw85.2.2.mono BE.size)
 refine Z13 (v := .int .i64 5) (by rfl) (by rfl) (by rfl) ?_
 simp only [Z7,Z0]
 refine Z9 (Z10 ?_)
 refine hK83 _ _ ?_
 refine wp_region_plain 3 (by kernel_rfl) (fun Lk hLk => ?_)
 simp only [Z1,Z2]
 refine Z16 (v := .slice (some ⟨g7, 0, none⟩) 16 16) (by rfl) rfl rfl ?_
 simp only [Z7,Z0]
 refine Z16 (v := .int .i64 5) (by rfl) rfl rfl ?_
 simp only [Z7,Z0]
 refine wpV_idxs (n := 5) (by rfl) rfl rfl rfl Try.underlying100 info3 (by omega) ?_
 simp only [Nat.zero_add]
 simp only [Z7,Z0]
 refine Z14 (hLk.out _ ?_)
 clear hLk Lk
 simp only [Z1,Z2]
 iterate 3 refine wpN_skip (by rfl) ?_
 refine wpN_nil (fun w87 Sw87 hbs => ?_)
 clear hbs
 replace Rg7_0 := range_sees Rg7_0 Lg7 Sw87
 replace Tg7 := there_sees Tg7 Lg7 Sw87
 replace Lg7 := Nat.lt_of_lt_of_le Lg7 Sw87.2.2.size
 replace BE := BE.trans (Sw87.2.2.mono BE.size)
 refine Z18 (g := g7) (off := 5) (n := 16) (v := .int .i64 65535) (by rfl) (by rfl) (by rfl) (by rfl) (by rfl) Tg7 (by omega) info3 rfl (fun w88 Pw88 RR TT => ?_)
 replace Rg7_0 := range_set Rg7_0 Pw88 RR
 clear RR
 replace Tg7 := TT
 replace Lg7 := Pw88.lt Lg7
 replace BE := Pw88.below BE Gg7
 refine Z9 (Z10 ?_)
 refine hK82 _ _ ?_
 refine wp_region_plain 2 (by kernel_rfl) (fun Lk hLk => ?_)
 simp only [Z1,Z2]
 refine Z15 (v := .int .i64 6) (by rfl) rfl rfl rfl (fun W => run_add (by decide) W) ?_
 simp only [Z7,Z0]
 refine Z16 (v := .int .i64 6) (by rfl) rfl rfl ?_
 simp only [Z7,Z0]
 refine Z14 (hLk.out _ ?_)
 clear hLk Lk
 simp only [Z1,Z2]
 iterate 2 refine wpN_skip (by rfl) ?_
 refine wpN_nil (fun w90 Sw90 hbs => ?_)
 clear hbs
 replace Rg7_0 := range_sees Rg7_0 Lg7 Sw90
 replace Tg7 := there_sees Tg7 Lg7 Sw90
 replace Lg7 := Nat.lt_of_lt_of_le Lg7 Sw90.2.2.size
 replace BE := BE.trans (Sw90.2.2.mono BE.size)
 refine Z9 (Z10 ?_)
 refine Z17 (Q := fun _ _ _ => True) ?_
 rw [rounds_succ]
 refine Z4 (fun K91 hK91 => ?_)
 refine wp_region_plain 1 (by kernel_rfl) (fun Lk hLk => ?_)
 simp only [Z1,Z2]
 refine Z15 (v := .bool true) (by rfl) rfl rfl rfl (fun W => run_lss _ _ _ _ W) ?_
 simp only [Z7,Z0]
 refine Z14 (hLk.out _ ?_)
 clear hLk Lk
 simp only [Z1,Z2]
 iterate 1 refine wpN_skip (by rfl) ?_
 refine wpN_nil (fun w93 Sw93 hbs => ?_)
 clear hbs
 replace Rg7_0 := range_sees Rg7_0 Lg7 Sw93
 replace Tg7 := there_sees Tg7 Lg7 Sw93
 replace Lg7 := Nat.lt_of_lt_of_le Lg7 Sw93.2.2.size
 replace BE := BE.trans (Sw93.2.2.mono BE.size)
 refine Z9 (Z10 ?_)
 refine hK91 _ _ ?_
 refine Z4 (fun K94 hK94 => ?_)
 refine Z5 rfl ?_
 refine wp_skip ?_
 refine hK94 _ _ ?_
 refine Z4 (fun K95 hK95 => ?_)
 refine wp_block ?_
 refine Z4 (fun K96 hK96 => ?_)
 refine wp_region_plain 1 (by kernel_rfl) (fun Lk hLk => ?_)
 simp only [Z1,Z2]
 refine Z16 (v := .int .i64 6) (by rfl) rfl rfl ?_
 simp only [Z7,Z0]
 refine Z14 (hLk.out _ ?_)
 clear hLk Lk
 simp only [Z1,Z2]
 iterate 1 refine wpN_skip (by rfl) ?_
 refine wpN_nil (fun w98 Sw98 hbs => ?_)
 clear hbs
 replace Rg7_0 := range_sees Rg7_0 Lg7 Sw98
 replace Tg7 := there_sees Tg7 Lg7 Sw98
 replace Lg7 := Nat.lt_of_lt_of_le Lg7 Sw98.2.2.size
 replace BE := BE.trans (Sw98.2.2.mono BE.size)
 refine Z13 (v := .int .i64 6) (by rfl) (by rfl) (by rfl) ?_
 simp only [Z7,Z0]
 refine Z9 (Z10 ?_)
 refine hK96 _ _ ?_
 refine wp_region_plain 3 (by kernel_rfl) (fun Lk hLk => ?_)
 simp only [Z1,Z2]
 refine Z16 (v := .slice (some ⟨g7, 0, none⟩) 16 16) (by rfl) rfl rfl ?_
 simp only [Z7,Z0]
 refine Z16 (v := .int .i64 6) (by rfl) rfl rfl ?_
 simp only [Z7,Z0]
 refine wpV_idxs (n := 6) (by rfl) rfl rfl rfl Try.underlying100 info3 (by omega) ?_
 simp only [Nat.zero_add]
 simp only [Z7,Z0]
 refine Z14 (hLk.out _ ?_)
 clear hLk Lk
 simp only [Z1,Z2]
 iterate 3 refine wpN_skip (by rfl) ?_
 refine wpN_nil (fun w100 Sw100 hbs => ?_)
 clear hbs
 replace Rg7_0 := range_sees Rg7_0 Lg7 Sw100
 replace Tg7 := there_sees Tg7 Lg7 Sw100
 replace Lg7 := Nat.lt_of_lt_of_le Lg7 Sw100.2.2.size
 replace BE := BE.trans (Sw100.2.2.mono BE.size)
 refine Z18 (g := g7) (off := 6) (n := 16) (v := .int .i64 65535) (by rfl) (by rfl) (by rfl) (by rfl) (by rfl) Tg7 (by omega) info3 rfl (fun w101 Pw101 RR TT => ?_)
 replace Rg7_0 := range_set Rg7_0 Pw101 RR
 clear RR
 replace Tg7 := TT
 replace Lg7 := Pw101.lt Lg7
 replace BE := Pw101.below BE Gg7
 refine Z9 (Z10 ?_)
 refine hK95 _ _ ?_
 refine wp_region_plain 2 (by kernel_rfl) (fun Lk hLk => ?_)
 simp only [Z1,Z2]
 refine Z15 (v := .int .i64 7) (by rfl) rfl rfl rfl (fun W => run_add (by decide) W) ?_
 simp only [Z7,Z0]
 refine Z16 (v := .int .i64 7) (by rfl) rfl rfl ?_
 simp only [Z7,Z0]
 refine Z14 (hLk.out _ ?_)
 clear hLk Lk
 simp only [Z1,Z2]
 iterate 2 refine wpN_skip (by rfl) ?_
 refine wpN_nil (fun w103 Sw103 hbs => ?_)
 clear hbs
 replace Rg7_0 := range_sees Rg7_0 Lg7 Sw103
 replace Tg7 := there_sees Tg7 Lg7 Sw103
 replace Lg7 := Nat.lt_of_lt_of_le Lg7 Sw103.2.2.size
 replace BE := BE.trans (Sw103.2.2.mono BE.size)
 refine Z9 (Z10 ?_)
 refine Z17 (Q := fun _ _ _ => True) ?_
 rw [rounds_succ]
 refine Z4 (fun K104 hK104 => ?_)
 refine wp_region_plain 1 (by kernel_rfl) (fun Lk hLk => ?_)
 simp only [Z1,Z2]
 refine Z15 (v := .bool true) (by rfl) rfl rfl rfl (fun W => run_lss _ _ _ _ W) ?_
 simp only [Z7,Z0]
 refine Z14 (hLk.out _ ?_)
 clear hLk Lk
 simp only [Z1,Z2]
 iterate 1 refine wpN_skip (by rfl) ?_
 refine wpN_nil (fun w106 Sw106 hbs => ?_)
 clear hbs
 replace Rg7_0 := range_sees Rg7_0 Lg7 Sw106
 replace Tg7 := there_sees Tg7 Lg7 Sw106
 replace Lg7 := Nat.lt_of_lt_of_le Lg7 Sw106.2.2.size
 replace BE := BE.trans (Sw106.2.2.mono BE.size)
 refine Z9 (Z10 ?_)
 refine hK104 _ _ ?_
 refine Z4 (fun K107 hK107 => ?_)
 refine Z5 rfl ?_
 refine wp_skip ?_
 refine hK107 _ _ ?_
 refine Z4 (fun K108 hK108 => ?_)
 refine wp_block ?_
 refine Z4 (fun K109 hK109 => ?_)
 refine wp_region_plain 1 (by kernel_rfl) (fun Lk hLk => ?_)
 simp only [Z1,Z2]
 refine Z16 (v := .int .i64 7) (by rfl) rfl rfl ?_
 simp only [Z7,Z0]
 refine Z14 (hLk.out _ ?_)
 clear hLk Lk
 simp only [Z1,Z2]
 iterate 1 refine wpN_skip (by rfl) ?_
 refine wpN_nil (fun w111 Sw111 hbs => ?_)
 clear hbs
 replace Rg7_0 := range_sees Rg7_0 Lg7 Sw111
 replace Tg7 := there_sees Tg7 Lg7 Sw111
 replace Lg7 := Nat.lt_of_lt_of_le Lg7 Sw111.2.2.size
 replace BE := BE.trans (Sw111.2.2.mono BE.size)
 refine Z13 (v := .int .i64 7) (by rfl) (by rfl) (by rfl) ?_
 simp only [Z7,Z0]
 refine Z9 (Z10 ?_)
 refine hK109 _ _ ?_
 refine wp_region_plain 3 (by kernel_rfl) (fun Lk hLk => ?_)
 simp only [Z1,Z2]
 refine Z16 (v := .slice (some ⟨g7, 0, none⟩) 16 16) (by rfl) rfl rfl ?_
 simp only [Z7,Z0]
 refine Z16 (v := .int .i64 7) (by rfl) rfl rfl ?_
 simp only [Z7,Z0]
 refine wpV_idxs (n := 7) (by rfl) rfl rfl rfl Try.underlying100 info3 (by omega) ?_
 simp only [Nat.zero_add]
 simp only [Z7,Z0]
 refine Z14 (hLk.out _ ?_)
 clear hLk Lk
 simp only [Z1,Z2]
 iterate 3 refine wpN_skip (by rfl) ?_
 refine wpN_nil (fun w113 Sw113 hbs => ?_)
 clear hbs
 replace Rg7_0 := range_sees Rg7_0 Lg7 Sw113
 replace Tg7 := there_sees Tg7 Lg7 Sw113
 replace Lg7 := Nat.lt_of_lt_of_le Lg7 Sw113.2.2.size
 replace BE := BE.trans (Sw113.2.2.mono BE.size)
 refine Z18 (g := g7) (off := 7) (n := 16) (v := .int .i64 65535) (by rfl) (by rfl) (by rfl) (by rfl) (by rfl) Tg7 (by omega) info3 rfl (fun w114 Pw114 RR TT => ?_)
 replace Rg7_0 := range_set Rg7_0 Pw114 RR
 clear RR
 replace Tg7 := TT
 replace Lg7 := Pw114.lt Lg7
 replace BE := Pw114.below BE Gg7
 refine Z9 (Z10 ?_)
 refine hK108 _ _ ?_
 refine wp_region_plain 2 (by kernel_rfl) (fun Lk hLk => ?_)
 simp only [Z1,Z2]
 refine Z15 (v := .int .i64 8) (by rfl) rfl rfl rfl (fun W => run_add (by decide) W) ?_
 simp only [Z7,Z0]
 refine Z16 (v := .int .i64 8) (by rfl) rfl rfl ?_
 simp only [Z7,Z0]
 refine Z14 (hLk.out _ ?_)
 clear hLk Lk
 simp only [Z1,Z2]
 iterate 2 refine wpN_skip (by rfl) ?_
 refine wpN_nil (fun w116 Sw116 hbs => ?_)
 clear hbs
 replace Rg7_0 := range_sees Rg7_0 Lg7 Sw116
 replace Tg7 := there_sees Tg7 Lg7 Sw116
 replace Lg7 := Nat.lt_of_lt_of_le Lg7 Sw116.2.2.size
 replace BE := BE.trans (Sw116.2.2.mono BE.size)
 refine Z9 (Z10 ?_)
 refine Z17 (Q := fun _ _ _ => True) ?_
 rw [rounds_succ]
 refine Z4 (fun K117 hK117 => ?_)
 refine wp_region_plain 1 (by kernel_rfl) (fun Lk hLk => ?_)
 simp only [Z1,Z2]
 refine Z15 (v := .bool true) (by rfl) rfl rfl rfl (fun W => run_lss _ _ _ _ W) ?_
 simp only [Z7,Z0]
 refine Z14 (hLk.out _ ?_)
 clear hLk Lk
 simp only [Z1,Z2]
 iterate 1 refine wpN_skip (by rfl) ?_
 refine wpN_nil (fun w119 Sw119 hbs => ?_)
 clear hbs
 replace Rg7_0 := range_sees Rg7_0 Lg7 Sw119
 replace Tg7 := there_sees Tg7 Lg7 Sw119
 replace Lg7 := Nat.lt_of_lt_of_le Lg7 Sw119.2.2.size
 replace BE := BE.trans (Sw119.2.2.mono BE.size)
 refine Z9 (Z10 ?_)
 refine hK117 _ _ ?_
 refine Z4 (fun K120 hK120 => ?_)
 refine Z5 rfl ?_
 refine wp_skip ?_
 refine hK120 _ _ ?_
 refine Z4 (fun K121 hK121 => ?_)
 refine wp_block ?_
 refine Z4 (fun K122 hK122 => ?_)
 refine wp_region_plain 1 (by kernel_rfl) (fun Lk hLk => ?_)
 simp only [Z1,Z2]
 refine Z16 (v := .int .i64 8) (by rfl) rfl rfl ?_
 simp only [Z7,Z0]
 refine Z14 (hLk.out _ ?_)
 clear hLk Lk
 simp only [Z1,Z2]
 iterate 1 refine wpN_skip (by rfl) ?_
 refine wpN_nil (fun w124 Sw124 hbs => ?_)
 clear hbs
 replace Rg7_0 := range_sees Rg7_0 Lg7 Sw124
 replace Tg7 := there_sees Tg7 Lg7 Sw124
 replace Lg7 := Nat.lt_of_lt_of_le Lg7 Sw124.2.2.size
 replace BE := BE.trans (Sw124.2.2.mono BE.size)
 refine Z13 (v := .int .i64 8) (by rfl) (by rfl) (by rfl) ?_
 simp only [Z7,Z0]
 refine Z9 (Z10 ?_)
 refine hK122 _ _ ?_
 refine wp_region_plain 3 (by kernel_rfl) (fun Lk hLk => ?_)
 simp only [Z1,Z2]
 refine Z16 (v := .slice (some ⟨g7, 0, none⟩) 16 16) (by rfl) rfl rfl ?_
 simp only [Z7,Z0]
 refine Z16 (v := .int .i64 8) (by rfl) rfl rfl ?_
 simp only [Z7,Z0]
 refine wpV_idxs (n := 8) (by rfl) rfl rfl rfl Try.underlying100 info3 (by omega) ?_
 simp only [Nat.zero_add]
 simp only [Z7,Z0]
 refine Z14 (hLk.out _ ?_)
 clear hLk Lk
 simp only [Z1,Z2]
 iterate 3 refine wpN_skip (by rfl) ?_
 refine wpN_nil (fun w126 Sw126 hbs => ?_)
 clear hbs
 replace Rg7_0 := range_sees Rg7_0 Lg7 Sw126
 replace Tg7 := there_sees Tg7 Lg7 Sw126
 replace Lg7 := Nat.lt_of_lt_of_le Lg7 Sw126.2.2.size
 replace BE := BE.trans (Sw126.2.2.mono BE.size)
 refine Z18 (g := g7) (off := 8) (n := 16) (v := .int .i64 65535) (by rfl) (by rfl) (by rfl) (by rfl) (by rfl) Tg7 (by omega) info3 rfl (fun w127 Pw127 RR TT => ?_)
 replace Rg7_0 := range_set Rg7_0 Pw127 RR
 clear RR
 replace Tg7 := TT
 replace Lg7 := Pw127.lt Lg7
 replace BE := Pw127.below BE Gg7
 refine Z9 (Z10 ?_)
 refine hK121 _ _ ?_
 refine wp_region_plain 2 (by kernel_rfl) (fun Lk hLk => ?_)
 simp only [Z1,Z2]
 refine Z15 (v := .int .i64 9) (by rfl) rfl rfl rfl (fun W => run_add (by decide) W) ?_
 simp only [Z7,Z0]
 refine Z16 (v := .int .i64 9) (by rfl) rfl rfl ?_
 simp only [Z7,Z0]
 refine Z14 (hLk.out _ ?_)
 clear hLk Lk
 simp only [Z1,Z2]
 iterate 2 refine wpN_skip (by rfl) ?_
 refine wpN_nil (fun w129 Sw129 hbs => ?_)
 clear hbs
 replace Rg7_0 := range_sees Rg7_0 Lg7 Sw129
 replace Tg7 := there_sees Tg7 Lg7 Sw129
 replace Lg7 := Nat.lt_of_lt_of_le Lg7 Sw129.2.2.size
 replace BE := BE.trans (Sw129.2.2.mono BE.size)
 refine Z9 (Z10 ?_)
 refine Z17 (Q := fun _ _ _ => True) ?_
 rw [rounds_succ]
 refine Z4 (fun K130 hK130 => ?_)
 refine wp_region_plain 1 (by kernel_rfl) (fun Lk hLk => ?_)
 simp only [Z1,Z2]
 refine Z15 (v := .bool true) (by rfl) rfl rfl rfl (fun W => run_lss _ _ _ _ W) ?_
 simp only [Z7,Z0]
 refine Z14 (hLk.out _ ?_)
 clear hLk Lk
 simp only [Z1,Z2]
 iterate 1 refine wpN_skip (by rfl) ?_
 refine wpN_nil (fun w132 Sw132 hbs => ?_)
 clear hbs
 replace Rg7_0 := range_sees Rg7_0 Lg7 Sw132
 replace Tg7 := there_sees Tg7 Lg7 Sw132
 replace Lg7 := Nat.lt_of_lt_of_le Lg7 Sw132.2.2.size
 replace BE := BE.trans (Sw132.2.2.mono BE.size)
 refine Z9 (Z10 ?_)
 refine hK130 _ _ ?_
 refine Z4 (fun K133 hK133 => ?_)
 refine Z5 rfl ?_
 refine wp_skip ?_
 refine hK133 _ _ ?_
 refine Z4 (fun K134 hK134 => ?_)
 refine wp_block ?_
 refine Z4 (fun K135 hK135 => ?_)
 refine wp_region_plain 1 (by kernel_rfl) (fun Lk hLk => ?_)
 simp only [Z1,Z2]
 refine Z16 (v := .int .i64 9) (by rfl) rfl rfl ?_
 simp only [Z7,Z0]
 refine Z14 (hLk.out _ ?_)
 clear hLk Lk
 simp only [Z1,Z2]
 iterate 1 refine wpN_skip (by rfl) ?_
 refine wpN_nil (fun w137 Sw137 hbs => ?_)
 clear hbs
 replace Rg7_0 := range_sees Rg7_0 Lg7 Sw137
 replace Tg7 := there_sees Tg7 Lg7 Sw137
 replace Lg7 := Nat.lt_of_lt_of_le Lg7 Sw137.2.2.size
 replace BE := BE.trans (Sw137.2.2.mono BE.size)
 refine Z13 (v := .int .i64 9) (by rfl) (by rfl) (by rfl) ?_
 simp only [Z7,Z0]
 refine Z9 (Z10 ?_)
 refine hK135 _ _ ?_
 refine wp_region_plain 3 (by kernel_rfl) (fun Lk hLk => ?_)
 simp only [Z1,Z2]
 refine Z16 (v := .slice (some ⟨g7, 0, none⟩) 16 16) (by rfl) rfl rfl ?_
 simp only [Z7,Z0]
 refine Z16 (v := .int .i64 9) (by rfl) rfl rfl ?_
 simp only [Z7,Z0]
 refine wpV_idxs (n := 9) (by rfl) rfl rfl rfl Try.underlying100 info3 (by omega) ?_
 simp only [Nat.zero_add]
 simp only [Z7,Z0]
 refine Z14 (hLk.out _ ?_)
 clear hLk Lk
 simp only [Z1,Z2]
 iterate 3 refine wpN_skip (by rfl) ?_
 refine wpN_nil (fun w139 Sw139 hbs => ?_)
 clear hbs
 replace Rg7_0 := range_sees Rg7_0 Lg7 Sw139
 replace Tg7 := there_sees Tg7 Lg7 Sw139
 replace Lg7 := Nat.lt_of_lt_of_le Lg7 Sw139.2.2.size
 replace BE := BE.trans (Sw139.2.2.mono BE.size)
 refine Z18 (g := g7) (off := 9) (n := 16) (v := .int .i64 65535) (by rfl) (by rfl) (by rfl) (by rfl) (by rfl) Tg7 (by omega) info3 rfl (fun w140 Pw140 RR TT => ?_)
 replace Rg7_0 := range_set Rg7_0 Pw140 RR
 clear RR
 replace Tg7 := TT
 replace Lg7 := Pw140.lt Lg7
 replace BE := Pw140.below BE Gg7
 refine Z9 (Z10 ?_)
 refine hK134 _ _ ?_
 refine wp_region_plain 2 (by kernel_rfl) (fun Lk hLk => ?_)
 simp only [Z1,Z2]
 refine Z15 (v := .int .i64 10) (by rfl) rfl rfl rfl (fun W => run_add (by decide) W) ?_
 simp only [Z7,Z0]
 refine Z16 (v := .int .i64 10) (by rfl) rfl rfl ?_
 simp only [Z7,Z0]
 refine Z14 (hLk.out _ ?_)
 clear hLk Lk
 simp only [Z1,Z2]
 iterate 2 refine wpN_skip (by rfl) ?_
 refine wpN_nil (fun w142 Sw142 hbs => ?_)
 clear hbs
 replace Rg7_0 := range_sees Rg7_0 Lg7 Sw142
 replace Tg7 := there_sees Tg7 Lg7 Sw142
 replace Lg7 := Nat.lt_of_lt_of_le Lg7 Sw142.2.2.size
 replace BE := BE.trans (Sw142.2.2.mono BE.size)
 refine Z9 (Z10 ?_)
 refine Z17 (Q := fun _ _ _ => True) ?_
 rw [rounds_succ]
 refine Z4 (fun K143 hK143 => ?_)
 refine wp_region_plain 1 (by kernel_rfl) (fun Lk hLk => ?_)
 simp only [Z1,Z2]
 refine Z15 (v := .bool true) (by rfl) rfl rfl rfl (fun W => run_lss _ _ _ _ W) ?_
 simp only [Z7,Z0]
 refine Z14 (hLk.out _ ?_)
 clear hLk Lk
 simp only [Z1,Z2]
 iterate 1 refine wpN_skip (by rfl) ?_
 refine wpN_nil (fun w145 Sw145 hbs => ?_)
 clear hbs
 replace Rg7_0 := range_sees Rg7_0 Lg7 Sw145
 replace Tg7 := there_sees Tg7 Lg7 Sw145
 replace Lg7 := Nat.lt_of_lt_of_le Lg7 Sw145.2.2.size
 replace BE := BE.trans (Sw145.2.2.mono BE.size)
 refine Z9 (Z10 ?_)
 refine hK143 _ _ ?_
 refine Z4 (fun K146 hK146 => ?_)
 refine Z5 rfl ?_
 refine wp_skip ?_
 refine hK146 _ _ ?_
 refine Z4 (fun K147 hK147 => ?_)
 refine wp_block ?_
 refine Z4 (fun K148 hK148 => ?_)
 refine wp_region_plain 1 (by kernel_rfl) (fun Lk hLk => ?_)
 simp only [Z1,Z2]
 refine Z16 (v := .int .i64 10) (by rfl) rfl rfl ?_
 simp only [Z7,Z0]
 refine Z14 (hLk.out _ ?_)
 clear hLk Lk
 simp only [Z1,Z2]
 iterate 1 refine wpN_skip (by rfl) ?_
 refine wpN_nil (fun w150 Sw150 hbs => ?_)
 clear hbs
 replace Rg7_0 := range_sees Rg7_0 Lg7 Sw150
 replace Tg7 := there_sees Tg7 Lg7 Sw150
 replace Lg7 := Nat.lt_of_lt_of_le Lg7 Sw150.2.2.size
 replace BE := BE.trans (Sw150.2.2.mono BE.size)
 refine Z13 (v := .int .i64 10) (by rfl) (by rfl) (by rfl) ?_
 simp only [Z7,Z0]
 refine Z9 (Z10 ?_)
 refine hK148 _ _ ?_
 refine wp_region_plain 3 (by kernel_rfl) (fun Lk hLk => ?_)
 simp only [Z1,Z2]
 refine Z16 (v := .slice (some ⟨g7, 0, none⟩) 16 16) (by rfl) rfl rfl ?_
 simp only [Z7,Z0]
 refine Z16 (v := .int .i64 10) (by rfl) rfl rfl ?_
 simp only [Z7,Z0]
 refine wpV_idxs (n := 10) (by rfl) rfl rfl rfl Try.underlying100 info3 (by omega) ?_
 simp only [Nat.zero_add]
 simp only [Z7,Z0]
 refine Z14 (hLk.out _ ?_)
 clear hLk Lk
 simp only [Z1,Z2]
 iterate 3 refine wpN_skip (by rfl) ?_
 refine wpN_nil (fun w152 Sw152 hbs => ?_)
 clear hbs
 replace Rg7_0 := range_sees Rg7_0 Lg7 Sw152
 replace Tg7 := there_sees Tg7 Lg7 Sw152
 replace Lg7 := Nat.lt_of_lt_of_le Lg7 Sw152.2.2.size
 replace BE := BE.trans (Sw152.2.2.mono BE.size)
 refine Z18 (g := g7) (off := 10) (n := 16) (v := .int .i64 65535) (by rfl) (by rfl) (by rfl) (by rfl) (by rfl) Tg7 (by omega) info3 rfl (fun w153 Pw153 RR TT => ?_)
 replace Rg7_0 := range_set Rg7_0 Pw153 RR
 clear RR
 replace Tg7 := TT
 replace Lg7 := Pw153.lt Lg7
 replace BE := Pw153.below BE Gg7
 refine Z9 (Z10 ?_)
 refine hK147 _ _ ?_
 refine wp_region_plain 2 (by kernel_rfl) (fun Lk hLk => ?_)
 simp only [Z1,Z2]
 refine Z15 (v := .int .i64 11) (by rfl) rfl rfl rfl (fun W => run_add (by decide) W) ?_
 simp only [Z7,Z0]
 refine Z16 (v := .int .i64 11) (by rfl) rfl rfl ?_
 simp only [Z7,Z0]
 refine Z14 (hLk.out _ ?_)
 clear hLk Lk
 simp only [Z1,Z2]
 iterate 2 refine wpN_skip (by rfl) ?_
 refine wpN_nil (fun w155 Sw155 hbs => ?_)
 clear hbs
 replace Rg7_0 := range_sees Rg7_0 Lg7 Sw155
 replace Tg7 := there_sees Tg7 Lg7 Sw155
 replace Lg7 := Nat.lt_of_lt_of_le Lg7 Sw155.2.2.size
 replace BE := BE.trans (Sw155.2.2.mono BE.size)
 refine Z9 (Z10 ?_)
 refine Z17 (Q := fun _ _ _ => True) ?_
 rw [rounds_succ]
 refine Z4 (fun K156 hK156 => ?_)
 refine wp_region_plain 1 (by kernel_rfl) (fun Lk hLk => ?_)
 simp only [Z1,Z2]
 refine Z15 (v := .bool true) (by rfl) rfl rfl rfl (fun W => run_lss _ _ _ _ W) ?_
 simp only [Z7,Z0]
 refine Z14 (hLk.out _ ?_)
 clear hLk Lk
 simp only [Z1,Z2]
 iterate 1 refine wpN_skip (by rfl) ?_
 refine wpN_nil (fun w158 Sw158 hbs => ?_)
 clear hbs
 replace Rg7_0 := range_sees Rg7_0 Lg7 Sw158
 replace Tg7 := there_sees Tg7 Lg7 Sw158
 replace Lg7 := Nat.lt_of_lt_of_le Lg7 Sw158.2.2.size
 replace BE := BE.trans (Sw158.2.2.mono BE.size)
 refine Z9 (Z10 ?_)
 refine hK156 _ _ ?_
 refine Z4 (fun K159 hK159 => ?_)
 refine Z5 rfl ?_
 refine wp_skip ?_
 refine hK159 _ _ ?_
 refine Z4 (fun K160 hK160 => ?_)
 refine wp_block ?_
 refine Z4 (fun K161 hK161 => ?_)
 refine wp_region_plain 1 (by kernel_rfl) (fun Lk hLk => ?_)
 simp only [Z1,Z2]
 refine Z16 (v := .int .i64 11) (by rfl) rfl rfl ?_
 simp only [Z7,Z0]
 refine Z14 (hLk.out _ ?_)
 clear hLk Lk
 simp only [Z1,Z2]
 iterate 1 refine wpN_skip (by rfl) ?_
 refine wpN_nil (fun w163 Sw163 hbs => ?_)
 clear hbs
 replace Rg7_0 := range_sees Rg7_0 Lg7 Sw163
 replace Tg7 := there_sees Tg7 Lg7 Sw163
 replace Lg7 := Nat.lt_of_lt_of_le Lg7 Sw163.2.2.size
 replace BE := BE.trans (Sw163.2.2.mono BE.size)
 refine Z13 (v := .int .i64 11) (by rfl) (by rfl) (by rfl) ?_
 simp only [Z7,Z0]
 refine Z9 (Z10 ?_)
 refine hK161 _ _ ?_
 refine wp_region_plain 3 (by kernel_rfl) (fun Lk hLk => ?_)
 simp only [Z1,Z2]
 refine Z16 (v := .slice (some ⟨g7, 0, none⟩) 16 16) (by rfl) rfl rfl ?_
 simp only [Z7,Z0]
 refine Z16 (v := .int .i64 11) (by rfl) rfl rfl ?_
 simp only [Z7,Z0]
 refine wpV_idxs (n := 11) (by rfl) rfl rfl rfl Try.underlying100 info3 (by omega) ?_
 simp only [Nat.zero_add]
 simp only [Z7,Z0]
 refine Z14 (hLk.out _ ?_)
 clear hLk Lk
 simp only [Z1,Z2]
 iterate 3 refine wpN_skip (by rfl) ?_
 refine wpN_nil (fun w165 Sw165 hbs => ?_)
 clear hbs
 replace Rg7_0 := range_sees Rg7_0 Lg7 Sw165
 replace Tg7 := there_sees Tg7 Lg7 Sw165
 replace Lg7 := Nat.lt_of_lt_of_le Lg7 Sw165.2.2.size
 replace BE := BE.trans (Sw165.2.2.mono BE.size)
 refine Z18 (g := g7) (off := 11) (n := 16) (v := .int .i64 65535) (by rfl) (by rfl) (by rfl) (by rfl) (by rfl) Tg7 (by omega) info3 rfl (fun w166 Pw166 RR TT => ?_)
 replace Rg7_0 := range_set Rg7_0 Pw166 RR
 clear RR
 replace Tg7 := TT
 replace Lg7 := Pw166.lt Lg7
 replace BE := Pw166.below BE Gg7
 refine Z9 (Z10 ?_)
 refine hK160 _ _ ?_
 refine wp_region_plain 2 (by kernel_rfl) (fun Lk hLk => ?_)
 simp only [Z1,Z2]
 refine Z15 (v := .int .i64 12) (by rfl) rfl rfl rfl (fun W => run_add (by decide) W) ?_
 simp only [Z7,Z0]
 refine Z16 (v := .int .i64 12) (by rfl) rfl rfl ?_
 simp only [Z7,Z0]
 refine Z14 (hLk.out _ ?_)
 clear hLk Lk
 simp only [Z1,Z2]
 iterate 2 refine wpN_skip (by rfl) ?_
 refine wpN_nil (fun w168 Sw168 hbs => ?_)
 clear hbs
 replace Rg7_0 := range_sees Rg7_0 Lg7 Sw168
 replace Tg7 := there_sees Tg7 Lg7 Sw168
 replace Lg7 := Nat.lt_of_lt_of_le Lg7 Sw168.2.2.size
 replace BE := BE.trans (Sw168.2.2.mono BE.size)
 refine Z9 (Z10 ?_)
 refine Z17 (Q := fun _ _ _ => True) ?_
 rw [rounds_succ]
 refine Z4 (fun K169 hK169 => ?_)
 refine wp_region_plain 1 (by kernel_rfl) (fun Lk hLk => ?_)
 simp only [Z1,Z2]
 refine Z15 (v := .bool true) (by rfl) rfl rfl rfl (fun W => run_lss _ _ _ _ W) ?_
 simp only [Z7,Z0]
 refine Z14 (hLk.out _ ?_)
 clear hLk Lk
 simp only [Z1,Z2]
 iterate 1 refine wpN_skip (by rfl) ?_
 refine wpN_nil (fun w171 Sw171 hbs => ?_)
 clear hbs
 replace Rg7_0 := range_sees Rg7_0 Lg7 Sw171
 replace Tg7 := there_sees Tg7 Lg7 Sw171
 replace Lg7 := Nat.lt_of_lt_of_le Lg7 Sw171.2.2.size
 replace BE := BE.trans (Sw171.2.2.mono BE.size)
 refine Z9 (Z10 ?_)
 refine hK169 _ _ ?_
 refine Z4 (fun K172 hK172 => ?_)
 refine Z5 rfl ?_
 refine wp_skip ?_
 refine hK172 _ _ ?_
 refine Z4 (fun K173 hK173 => ?_)
 refine wp_block ?_
 refine Z4 (fun K174 hK174 => ?_)
 refine wp_region_plain 1 (by kernel_rfl) (fun Lk hLk => ?_)
 simp only [Z1,Z2]
 refine Z16 (v := .int .i64 12) (by rfl) rfl rfl ?_
 simp only [Z7,Z0]
 refine Z14 (hLk.out _ ?_)
 clear hLk Lk
 simp only [Z1,Z2]
 iterate 1 refine wpN_skip (by rfl) ?_
 refine wpN_nil (fun w176 Sw176 hbs => ?_)
 clear hbs
 replace Rg7_0 := range_sees Rg7_0 Lg7 Sw176
 replace Tg7 := there_sees Tg7 Lg7 Sw176
 replace Lg7 := Nat.lt_of_lt_of_le Lg7 Sw176.2.2.size
 replace BE := BE.trans (Sw176.2.2.mono BE.size)
 refine Z13 (v := .int .i64 12) (by rfl) (by rfl) (by rfl) ?_
 simp only [Z7,Z0]
 refine Z9 (Z10 ?_)
 refine hK174 _ _ ?_
 refine wp_region_plain 3 (by kernel_rfl) (fun Lk hLk => ?_)
 simp only [Z1,Z2]
 refine Z16 (v := .slice (some ⟨g7, 0, none⟩) 16 16) (by rfl) rfl rfl ?_
 simp only [Z7,Z0]
 refine Z16 (v := .int .i64 12) (by rfl) rfl rfl ?_
 simp only [Z7,Z0]
 refine wpV_idxs (n := 12) (by rfl) rfl rfl rfl Try.underlying100 info3 (by omega) ?_
 simp only [Nat.zero_add]
 simp only [Z7,Z0]
 refine Z14 (hLk.out _ ?_)
 clear hLk Lk
 simp only [Z1,Z2]
 iterate 3 refine wpN_skip (by rfl) ?_
 refine wpN_nil (fun w178 Sw178 hbs => ?_)
 clear hbs
 replace Rg7_0 := range_sees Rg7_0 Lg7 Sw178
 replace Tg7 := there_sees Tg7 Lg7 Sw178
 replace Lg7 := Nat.lt_of_lt_of_le Lg7 Sw178.2.2.size
 replace BE := BE.trans (Sw178.2.2.mono BE.size)
 refine Z18 (g := g7) (off := 12) (n := 16) (v := .int .i64 65535) (by rfl) (by rfl) (by rfl) (by rfl) (by rfl) Tg7 (by omega) info3 rfl (fun w179 Pw179 RR TT => ?_)
 replace Rg7_0 := range_set Rg7_0 Pw179 RR
 clear RR
 replace Tg7 := TT
 replace Lg7 := Pw179.lt Lg7
 replace BE := Pw179.below BE Gg7
 refine Z9 (Z10 ?_)
 refine hK173 _ _ ?_
 refine wp_region_plain 2 (by kernel_rfl) (fun Lk hLk => ?_)
 simp only [Z1,Z2]
 refine Z15 (v := .int .i64 13) (by rfl) rfl rfl rfl (fun W => run_add (by decide) W) ?_
 simp only [Z7,Z0]
 refine Z16 (v := .int .i64 13) (by rfl) rfl rfl ?_
 simp only [Z7,Z0]
 refine Z14 (hLk.out _ ?_)
 clear hLk Lk
 simp only [Z1,Z2]
 iterate 2 refine wpN_skip (by rfl) ?_
 refine wpN_nil (fun w181 Sw181 hbs => ?_)
 clear hbs
 replace Rg7_0 := range_sees Rg7_0 Lg7 Sw181
 replace Tg7 := there_sees Tg7 Lg7 Sw181
 replace Lg7 := Nat.lt_of_lt_of_le Lg7 Sw181.2.2.size
 replace BE := BE.trans (Sw181.2.2.mono BE.size)
 refine Z9 (Z10 ?_)
 refine Z17 (Q := fun _ _ _ => True) ?_
 rw [rounds_succ]
 refine Z4 (fun K182 hK182 => ?_)
 refine wp_region_plain 1 (by kernel_rfl) (fun Lk hLk => ?_)
 simp only [Z1,Z2]
 refine Z15 (v := .bool true) (by rfl) rfl rfl rfl (fun W => run_lss _ _ _ _ W) ?_
 simp only [Z7,Z0]
 refine Z14 (hLk.out _ ?_)
 clear hLk Lk
 simp only [Z1,Z2]
 iterate 1 refine wpN_skip (by rfl) ?_
 refine wpN_nil (fun w184 Sw184 hbs => ?_)
 clear hbs
 replace Rg7_0 := range_sees Rg7_0 Lg7 Sw184
 replace Tg7 := there_sees Tg7 Lg7 Sw184
 replace Lg7 := Nat.lt_of_lt_of_le Lg7 Sw184.2.2.size
 replace BE := BE.trans (Sw184.2.2.mono BE.size)
 refine Z9 (Z10 ?_)
 refine hK182 _ _ ?_
 refine Z4 (fun K185 hK185 => ?_)
 refine Z5 rfl ?_
 refine wp_skip ?_
 refine hK185 _ _ ?_
 refine Z4 (fun K186 hK186 => ?_)
 refine wp_block ?_
 refine Z4 (fun K187 hK187 => ?_)
 refine wp_region_plain 1 (by kernel_rfl) (fun Lk hLk => ?_)
 simp only [Z1,Z2]
 refine Z16 (v := .int .i64 13) (by rfl) rfl rfl ?_
 simp only [Z7,Z0]
 refine Z14 (hLk.out _ ?_)
 clear hLk Lk
 simp only [Z1,Z2]
 iterate 1 refine wpN_skip (by rfl) ?_
 refine wpN_nil (fun w189 Sw189 hbs => ?_)
 clear hbs
 replace Rg7_0 := range_sees Rg7_0 Lg7 Sw189
 replace Tg7 := there_sees Tg7 Lg7 Sw189
 replace Lg7 := Nat.lt_of_lt_of_le Lg7 Sw189.2.2.size
 replace BE := BE.trans (Sw189.2.2.mono BE.size)
 refine Z13 (v := .int .i64 13) (by rfl) (by rfl) (by rfl) ?_
 simp only [Z7,Z0]
 refine Z9 (Z10 ?_)
 refine hK187 _ _ ?_
 refine wp_region_plain 3 (by kernel_rfl) (fun Lk hLk => ?_)
 simp only [Z1,Z2]
 refine Z16 (v := .slice (some ⟨g7, 0, none⟩) 16 16) (by rfl) rfl rfl ?_
 simp only [Z7,Z0]
 refine Z16 (v := .int .i64 13) (by rfl) rfl rfl ?_
 simp only [Z7,Z0]
 refine wpV_idxs (n := 13) (by rfl) rfl rfl rfl Try.underlying100 info3 (by omega) ?_
 simp only [Nat.zero_add]
 simp only [Z7,Z0]
 refine Z14 (hLk.out _ ?_)
 clear hLk Lk
 simp only [Z1,Z2]
 iterate 3 refine wpN_skip (by rfl) ?_
 refine wpN_nil (fun w191 Sw191 hbs => ?_)
 clear hbs
 replace Rg7_0 := range_sees Rg7_0 Lg7 Sw191
 replace Tg7 := there_sees Tg7 Lg7 Sw191
 replace Lg7 := Nat.lt_of_lt_of_le Lg7 Sw191.2.2.size
 replace BE := BE.trans (Sw191.2.2.mono BE.size)
 refine Z18 (g := g7) (off := 13) (n := 16) (v := .int .i64 65535) (by rfl) (by rfl) (by rfl) (by rfl) (by rfl) Tg7 (by omega) info3 rfl (fun w192 Pw192 RR TT => ?_)
 replace Rg7_0 := range_set Rg7_0 Pw192 RR
 clear RR
 replace Tg7 := TT
 replace Lg7 := Pw192.lt Lg7
 replace BE := Pw192.below BE Gg7
 refine Z9 (Z10 ?_)
 refine hK186 _ _ ?_
 refine wp_region_plain 2 (by kernel_rfl) (fun Lk hLk => ?_)
 simp only [Z1,Z2]
 refine Z15 (v := .int .i64 14) (by rfl) rfl rfl rfl (fun W => run_add (by decide) W) ?_
 simp only [Z7,Z0]
 refine Z16 (v := .int .i64 14) (by rfl) rfl rfl ?_
 simp only [Z7,Z0]
 refine Z14 (hLk.out _ ?_)
 clear hLk Lk
 simp only [Z1,Z2]
 iterate 2 refine wpN_skip (by rfl) ?_
 refine wpN_nil (fun w194 Sw194 hbs => ?_)
 clear hbs
 replace Rg7_0 := range_sees Rg7_0 Lg7 Sw194
 replace Tg7 := there_sees Tg7 Lg7 Sw194
 replace Lg7 := Nat.lt_of_lt_of_le Lg7 Sw194.2.2.size
 replace BE := BE.trans (Sw194.2.2.mono BE.size)
 refine Z9 (Z10 ?_)
 refine Z17 (Q := fun _ _ _ => True) ?_
 rw [rounds_succ]
 refine Z4 (fun K195 hK195 => ?_)
 refine wp_region_plain 1 (by kernel_rfl) (fun Lk hLk => ?_)
 simp only [Z1,Z2]
 refine Z15 (v := .bool true) (by rfl) rfl rfl rfl (fun W => run_lss _ _ _ _ W) ?_
 simp only [Z7,Z0]
 refine Z14 (hLk.out _ ?_)
 clear hLk Lk
 simp only [Z1,Z2]
 iterate 1 refine wpN_skip (by rfl) ?_
 refine wpN_nil (fun w197 Sw197 hbs => ?_)
 clear hbs
 replace Rg7_0 := range_sees Rg7_0 Lg7 Sw197
 replace Tg7 := there_sees Tg7 Lg7 Sw197
 replace Lg7 := Nat.lt_of_lt_of_le Lg7 Sw197.2.2.size
 replace BE := BE.trans (Sw197.2.2.mono BE.size)
 refine Z9 (Z10 ?_)
 refine hK195 _ _ ?_
 refine Z4 (fun K198 hK198 => ?_)
 refine Z5 rfl ?_
 refine wp_skip ?_
 refine hK198 _ _ ?_
 refine Z4 (fun K199 hK199 => ?_)
 refine wp_block ?_
 refine Z4 (fun K200 hK200 => ?_)
 refine wp_region_plain 1 (by kernel_rfl) (fun Lk hLk => ?_)
 simp only [Z1,Z2]
 refine Z16 (v := .int .i64 14) (by rfl) rfl rfl ?_
 simp only [Z7,Z0]
 refine Z14 (hLk.out _ ?_)
 clear hLk Lk
 simp only [Z1,Z2]
 iterate 1 refine wpN_skip (by rfl) ?_
 refine wpN_nil (fun w202 Sw202 hbs => ?_)
 clear hbs
 replace Rg7_0 := range_sees Rg7_0 Lg7 Sw202
 replace Tg7 := there_sees Tg7 Lg7 Sw202
 replace Lg7 := Nat.lt_of_lt_of_le Lg7 Sw202.2.2.size
 replace BE := BE.trans (Sw202.2.2.mono BE.size)
 refine Z13 (v := .int .i64 14) (by rfl) (by rfl) (by rfl) ?_
 simp only [Z7,Z0]
 refine Z9 (Z10 ?_)
 refine hK200 _ _ ?_
 refine wp_region_plain 3 (by kernel_rfl) (fun Lk hLk => ?_)
 simp only [Z1,Z2]
 refine Z16 (v := .slice (some ⟨g7, 0, none⟩) 16 16) (by rfl) rfl rfl ?_
 simp only [Z7,Z0]
 refine Z16 (v := .int .i64 14) (by rfl) rfl rfl ?_
 simp only [Z7,Z0]
 refine wpV_idxs (n := 14) (by rfl) rfl rfl rfl Try.underlying100 info3 (by omega) ?_
 simp only [Nat.zero_add]
 simp only [Z7,Z0]
 refine Z14 (hLk.out _ ?_)
 clear hLk Lk
 simp only [Z1,Z2]
 iterate 3 refine wpN_skip (by rfl) ?_
 refine wpN_nil (fun w204 Sw204 hbs => ?_)
 clear hbs
 replace Rg7_0 := range_sees Rg7_0 Lg7 Sw204
 replace Tg7 := there_sees Tg7 Lg7 Sw204
 replace Lg7 := Nat.lt_of_lt_of_le Lg7 Sw204.2.2.size
 replace BE := BE.trans (Sw204.2.2.mono BE.size)
 refine Z18 (g := g7) (off := 14) (n := 16) (v := .int .i64 65535) (by rfl) (by rfl) (by rfl) (by rfl) (by rfl) Tg7 (by omega) info3 rfl (fun w205 Pw205 RR TT => ?_)
 replace Rg7_0 := range_set Rg7_0 Pw205 RR
 clear RR
 replace Tg7 := TT
 replace Lg7 := Pw205.lt Lg7
 replace BE := Pw205.below BE Gg7
 refine Z9 (Z10 ?_)
 refine hK199 _ _ ?_
 refine wp_region_plain 2 (by kernel_rfl) (fun Lk hLk => ?_)
 simp only [Z1,Z2]
 refine Z15 (v := .int .i64 15) (by rfl) rfl rfl rfl (fun W => run_add (by decide) W) ?_
 simp only [Z7,Z0]
 refine Z16 (v := .int .i64 15) (by rfl) rfl rfl ?_
 simp only [Z7,Z0]
 refine Z14 (hLk.out _ ?_)
 clear hLk Lk
 simp only [Z1,Z2]
 iterate 2 refine wpN_skip (by rfl) ?_
 refine wpN_nil (fun w207 Sw207 hbs => ?_)
 clear hbs
 replace Rg7_0 := range_sees Rg7_0 Lg7 Sw207
 replace Tg7 := there_sees Tg7 Lg7 Sw207
 replace Lg7 := Nat.lt_of_lt_of_le Lg7 Sw207.2.2.size
 replace BE := BE.trans (Sw207.2.2.mono BE.size)
 refine Z9 (Z10 ?_)
 refine Z17 (Q := fun _ _ _ => True) ?_
 rw [rounds_succ]
 refine Z4 (fun K208 hK208 => ?_)
 refine wp_region_plain 1 (by kernel_rfl) (fun Lk hLk => ?_)
 simp only [Z1,Z2]
 refine Z15 (v := .bool true) (by rfl) rfl rfl rfl (fun W => run_lss _ _ _ _ W) ?_
 simp only [Z7,Z0]
 refine Z14 (hLk.out _ ?_)
 clear hLk Lk
 simp only [Z1,Z2]
 iterate 1 refine wpN_skip (by rfl) ?_
 refine wpN_nil (fun w210 Sw210 hbs => ?_)
 clear hbs
 replace Rg7_0 := range_sees Rg7_0 Lg7 Sw210
 replace Tg7 := there_sees Tg7 Lg7 Sw210
 replace Lg7 := Nat.lt_of_lt_of_le Lg7 Sw210.2.2.size
 replace BE := BE.trans (Sw210.2.2.mono BE.size)
 refine Z9 (Z10 ?_)
 refine hK208 _ _ ?_
 refine Z4 (fun K211 hK211 => ?_)
 refine Z5 rfl ?_
 refine wp_skip ?_
 refine hK211 _ _ ?_
 refine Z4 (fun K212 hK212 => ?_)
 refine wp_block ?_
 refine Z4 (fun K213 hK213 => ?_)
 refine wp_region_plain 1 (by kernel_rfl) (fun Lk hLk => ?_)
 simp only [Z1,Z2]
 refine Z16 (v := .int .i64 15) (by rfl) rfl rfl ?_
 simp only [Z7,Z0]
 refine Z14 (hLk.out _ ?_)
 clear hLk Lk
 simp only [Z1,Z2]
 iterate 1 refine wpN_skip (by rfl) ?_
 refine wpN_nil (fun w215 Sw215 hbs => ?_)
 clear hbs
 replace Rg7_0 := range_sees Rg7_0 Lg7 Sw215
 replace Tg7 := there_sees Tg7 Lg7 Sw215
 replace Lg7 := Nat.lt_of_lt_of_le Lg7 Sw215.2.2.size
 replace BE := BE.trans (Sw215.2.2.mono BE.size)
 refine Z13 (v := .int .i64 15) (by rfl) (by rfl) (by rfl) ?_
 simp only [Z7,Z0]
 refine Z9 (Z10 ?_)
 refine hK213 _ _ ?_
 refine wp_region_plain 3 (by kernel_rfl) (fun Lk hLk => ?_)
 simp only [Z1,Z2]
 refine Z16 (v := .slice (some ⟨g7, 0, none⟩) 16 16) (by rfl) rfl rfl ?_
 simp only [Z7,Z0]
 refine Z16 (v := .int .i64 15) (by rfl) rfl rfl ?_
 simp only [Z7,Z0]
 refine wpV_idxs (n := 15) (by rfl) rfl rfl rfl Try.underlying100 info3 (by omega) ?_
 simp only [Nat.zero_add]
 simp only [Z7,Z0]
 refine Z14 (hLk.out _ ?_)
 clear hLk Lk
 simp only [Z1,Z2]
 iterate 3 refine wpN_skip (by rfl) ?_
 refine wpN_nil (fun w217 Sw217 hbs => ?_)
 clear hbs
 replace Rg7_0 := range_sees Rg7_0 Lg7 Sw217
 replace Tg7 := there_sees Tg7 Lg7 Sw217
 replace Lg7 := Nat.lt_of_lt_of_le Lg7 Sw217.2.2.size
 replace BE := BE.trans (Sw217.2.2.mono BE.size)
 refine Z18 (g := g7) (off := 15) (n := 16) (v := .int .i64 65535) (by rfl) (by rfl) (by rfl) (by rfl) (by rfl) Tg7 (by omega) info3 rfl (fun w218 Pw218 RR TT => ?_)
 replace Rg7_0 := range_set Rg7_0 Pw218 RR
 clear RR
 replace Tg7 := TT
 replace Lg7 := Pw218.lt Lg7
 replace BE := Pw218.below BE Gg7
 refine Z9 (Z10 ?_)
 refine hK212 _ _ ?_
 refine wp_region_plain 2 (by kernel_rfl) (fun Lk hLk => ?_)
 simp only [Z1,Z2]
 refine Z15 (v := .int .i64 16) (by rfl) rfl rfl rfl (fun W => run_add (by decide) W) ?_
 simp only [Z7,Z0]
 refine Z16 (v := .int .i64 16) (by rfl) rfl rfl ?_
 simp only [Z7,Z0]
 refine Z14 (hLk.out _ ?_)
 clear hLk Lk
 simp only [Z1,Z2]
 iterate 2 refine wpN_skip (by rfl) ?_
 refine wpN_nil (fun w220 Sw220 hbs => ?_)
 clear hbs
 replace Rg7_0 := range_sees Rg7_0 Lg7 Sw220
 replace Tg7 := there_sees Tg7 Lg7 Sw220
 replace Lg7 := Nat.lt_of_lt_of_le Lg7 Sw220.2.2.size
 replace BE := BE.trans (Sw220.2.2.mono BE.size)
 refine Z9 (Z10 ?_)
 refine Z17 (Q := fun _ _ _ => True) ?_
 rw [rounds_succ]
 refine Z4 (fun K221 hK221 => ?_)
 refine wp_region_plain 1 (by kernel_rfl) (fun Lk hLk => ?_)
 simp only [Z1,Z2]
 refine Z15 (v := .bool false) (by rfl) rfl rfl rfl (fun W => run_lss _ _ _ _ W) ?_
 simp only [Z7,Z0]
 refine Z14 (hLk.out _ ?_)
 clear hLk Lk
 simp only [Z1,Z2]
 iterate 1 refine wpN_skip (by rfl) ?_
 refine wpN_nil (fun w223 Sw223 hbs => ?_)
 clear hbs
 replace Rg7_0 := range_sees Rg7_0 Lg7 Sw223
 replace Tg7 := there_sees Tg7 Lg7 Sw223
 replace Lg7 := Nat.lt_of_lt_of_le Lg7 Sw223.2.2.size
 replace BE := BE.trans (Sw223.2.2.mono BE.size)
 refine Z9 (Z10 ?_)
 refine hK221 _ _ ?_
 refine Z4 (fun K224 hK224 => ?_)
 refine Z6 rfl ?_
 refine wp_exit ?_
 refine hK9 _ _ ?_
 refine Z4 (fun K225 hK225 => ?_)
 refine wp_region_plain 2 (by kernel_rfl) (fun Lk hLk => ?_)
 simp only [Z1,Z2]
 refine Z16 (v := .slice (some ⟨g7, 0, none⟩) 16 16) (by rfl) rfl rfl ?_
 simp only [Z7,Z0]
 refine wpV_idxs (n := 0) (by rfl) rfl rfl rfl Try.underlying100 info3 (by omega) ?_
 simp only [Nat.zero_add]
 simp only [Z7,Z0]
 refine Z14 (hLk.out _ ?_)
 clear hLk Lk
 simp only [Z1,Z2]
 iterate 2 refine wpN_skip (by rfl) ?_
 refine wpN_nil (fun w227 Sw227 hbs => ?_)
 clear hbs
 replace Rg7_0 := range_sees Rg7_0 Lg7 Sw227
 replace Tg7 := there_sees Tg7 Lg7 Sw227
 replace Lg7 := Nat.lt_of_lt_of_le Lg7 Sw227.2.2.size
 replace BE := BE.trans (Sw227.2.2.mono BE.size)
 refine Z18 (g := g7) (off := 0) (n := 16) (v := .int .i64 65517) (by rfl) (by rfl) (by rfl) (by rfl) (by rfl) Tg7 (by omega) info3 rfl (fun w228 Pw228 RR TT => ?_)
 replace Rg7_0 := range_set Rg7_0 Pw228 RR
 clear RR
 replace Tg7 := TT
 replace Lg7 := Pw228.lt Lg7
 replace BE := Pw228.below BE Gg7
 refine Z9 (Z10 ?_)
 refine hK225 _ _ ?_
 refine Z4 (fun K229 hK229 => ?_)
 refine wp_region_plain 2 (by kernel_rfl) (fun Lk hLk => ?_)
 simp only [Z1,Z2]
 refine Z16 (v := .slice (some ⟨g7, 0, none⟩) 16 16) (by rfl) rfl rfl ?_
 simp only [Z7,Z0]
 refine wpV_idxs (n := 15) (by rfl) rfl rfl rfl Try.underlying100 info3 (by omega) ?_
 simp only [Nat.zero_add]
 simp only [Z7,Z0]
 refine Z14 (hLk.out _ ?_)
 clear hLk Lk
 simp only [Z1,Z2]
 iterate 2 refine wpN_skip (by rfl) ?_
 refine wpN_nil (fun w231 Sw231 hbs => ?_)
 clear hbs
 replace Rg7_0 := range_sees Rg7_0 Lg7 Sw231
 replace Tg7 := there_sees Tg7 Lg7 Sw231
 replace Lg7 := Nat.lt_of_lt_of_le Lg7 Sw231.2.2.size
 replace BE := BE.trans (Sw231.2.2.mono BE.size)
 refine Z18 (g := g7) (off := 15) (n := 16) (v := .int .i64 32767) (by rfl) (by rfl) (by rfl) (by rfl) (by rfl) Tg7 (by omega) info3 rfl (fun w232 Pw232 RR TT => ?_)
 replace Rg7_0 := range_set Rg7_0 Pw232 RR
 clear RR
 replace Tg7 := TT
 replace Lg7 := Pw232.lt Lg7
 replace BE := Pw232.below BE Gg7
 refine Z9 (Z10 ?_)
 refine hK229 _ _ ?_
 refine Z4 (fun K233 hK233 => ?_)
 have R9 : World.rangeAt w232 g7 0 (dl 16 pF) := by rw [show dl 16 pF = [.int .i64 65517, .int .i64 65535, .int .i64 65535, .int .i64 65535, .int .i64 65535, .int .i64 65535, .int .i64 65535, .int .i64 65535, .int .i64 65535, .int .i64 65535, .int .i64 65535, .int .i64 65535, .int .i64 65535, .int .i64 65535, .int .i64 65535, .int .i64 32767] by kernel_rfl]; exact Rg7_0
 clear Rg7_0
 have Rg7_0 := R9
 clear R9
 refine wp_region_plain 1 (by kernel_rfl) (fun Lk hLk => ?_)
 simp only [Z1,Z2]
 refine Z16 (v := .slice (some ⟨g7, 0, none⟩) 16 16) (by rfl) rfl rfl ?_
 simp only [Z7,Z0]
 refine Z14 (hLk.out _ ?_)
 clear hLk Lk
 simp only [Z1,Z2]
 iterate 1 refine wpN_skip (by rfl) ?_
 refine wpN_nil (fun w235 Sw235 hbs => ?_)
 clear hbs
 replace Rg7_0 := range_sees Rg7_0 Lg7 Sw235
 replace Tg7 := there_sees Tg7 Lg7 Sw235
 replace Lg7 := Nat.lt_of_lt_of_le Lg7 Sw235.2.2.size
 replace BE := BE.trans (Sw235.2.2.mono BE.size)
 refine Z13 (v := .slice (some ⟨g7, 0, none⟩) 16 16) (by rfl) (by rfl) (by rfl) ?_
 simp only [Z7,Z0]
 refine Z9 (Z10 ?_)
 refine hK233 _ _ ?_
 refine wp_ret ?_
 repeat (first | with_reducible refine then_ret ?_ | with_reducible refine inblock_ret ?_)
 refine bodyPost_ret (v := .slice (some ⟨g7, 0, none⟩) 16 16) (res1 rfl (.tmp (by rfl))) rfl ?_
 exact ⟨_, rfl, ⟨g7, 16, rfl, (Nat.le_refl _), Gg7, Lg7, Rg7_0⟩, BE⟩
set_option maxHeartbeats 1000000 in
theorem digits_c {x : Nat} {w : World} (hx : x < 2 ^ 256) :
  Calls Try.prog 71 #[fe x] w fun e w' => ∃ v, e = .returned v ∧ NewRow w 16 (dl 16 x) v w' ∧ Below w.heap.size w w' := by
 go_enter Try.func71, Try.ntmps71
 have BE := Below.refl w.heap.size w
 refine Z4 (fun K1 hK1 => ?_)
 refine wp_region_plain 1 (by kernel_rfl) (fun Lk hLk => ?_)
 simp only [Z1,Z2]
 refine wpV_alloc (by rfl) ?_
 refine Z14 (hLk.out _ ?_)
 clear hLk Lk
 simp only [Z1,Z2]
 refine wpN_new (t := 23) (cs := (fel x).toArray) (by rfl) (fun W => ?_) (fun g3 Hg3 ng3 => ?_)
 ·
  (first | rfl | go_simp)
 simp only [Z7,Z0]
 refine wpN_nil (fun w4 Sw4 hbs => ?_)
 have Bg3 : Blk w4 g3 23 (fel x).toArray := hbs _ (List.mem_cons_self ..)
 clear hbs
 have Gg3 : w.heap.size ≤ g3 := Nat.le_trans BE.size Hg3
 replace BE := BE.trans (Sw4.2.2.mono BE.size)
 have Tg3 := blk_there Bg3 (n := 4) (by simp [flen])
 have Rg3_0 := blk_range Bg3 (l := fel x) rfl
 have Lg3 := Bg3.lt
 clear ng3 Bg3
 refine Z13 (v := (.slice none 0 0)) (by rfl) (by rfl) (by rfl) ?_
 simp only [Z7,Z0]
 refine Z9 (Z10 ?_)
 refine hK1 _ _ ?_
 refine Z4 (fun K5 hK5 => ?_)
 refine Z8 ?_
 refine wpL_row0 (by rfl) (by rfl) Try.underlying100 info3 (fun g7 w8 Sw8 Hg7 Bg7 => ?_)
 have Ng3_g7 : g3 ≠ g7 := Nat.ne_of_lt (Nat.lt_of_lt_of_le Lg3 Hg7)
 have Gg7 : w.heap.size ≤ g7 := Nat.le_trans BE.size Hg7
 replace Rg3_0 := range_sees Rg3_0 Lg3 Sw8
 replace Tg3 := there_sees Tg3 Lg3 Sw8
 replace Lg3 := Nat.lt_of_lt_of_le Lg3 Sw8.2.2.size
 replace BE := BE.trans (Sw8.2.2.mono BE.size)
 have Tg7 := blk_there Bg7 (n := 0) (by rfl)
 have Rg7_0 := blk_range Bg7 (l := []) rfl
 rw [← dl_none] at Rg7_0
 have Lg7 := Bg7.lt
 clear Bg7
 simp only [Z7,Z0]
 refine Z13 (v := .slice (some ⟨g7, 0, none⟩) 0 0) (by rfl) (by rfl) (by rfl) ?_
 simp only [Z7,Z0]
 refine Z9 (Z10 ?_)
 refine hK5 _ _ ?_
 refine Z4 (fun K9 hK9 => ?_)
 refine Z4 (fun K10 hK10 => ?_)
 refine wp_region_plain 2 (by kernel_rfl) (fun Lk hLk => ?_)
 simp only [Z1,Z2]
 refine wpV_load (cs := fel x) (by rfl) rfl rfl Rg3_0 Lg3 Try.underlying23 rfl info23 ?_
 simp only [Z7,Z0]
 refine Z16 (v := .int .i64 0) (by rfl) rfl rfl ?_
 simp only [Z7,Z0]
 refine Z14 (hLk.out _ ?_)
 clear hLk Lk
 simp only [Z1,Z2]
 iterate 2 refine wpN_skip (by rfl) ?_
 refine wpN_nil (fun w12 Sw12 hbs => ?_)
 clear hbs
 replace Rg3_0 := range_sees Rg3_0 Lg3 Sw12
 replace Tg3 := there_sees Tg3 Lg3 Sw12
 replace Rg7_0 := range_sees Rg7_0 Lg7 Sw12
 replace Tg7 := there_sees Tg7 Lg7 Sw12
 replace Lg3 := Nat.lt_of_lt_of_le Lg3 Sw12.2.2.size
 replace Lg7 := Nat.lt_of_lt_of_le Lg7 Sw12.2.2.size
 replace BE := BE.trans (Sw12.2.2.mono BE.size)
 refine Z9 (Z10 ?_)
 refine hK10 _ _ ?_
 refine wp_block ?_
 refine wp_loop_ghost (fun n9 a9 W9 => ∃ (i : Nat) (gq : Nat) (gqc : Nat) (u13 : Nat → Value), n9 = 4 - i ∧ a9 = { tmps := #[fe x, .pointer (some ⟨g3, 0, none⟩), (.slice none 0 0), .slice (some ⟨gq, 0, none⟩) (4 * i) gqc, Z3, u13 5, u13 6, .slice (some ⟨g7, 0, none⟩) 0 0, fe x, .int .i64 ((i : Nat) : Int), u13 10, u13 11, u13 12, u13 13, u13 14, u13 15, u13 16, u13 17, u13 18, u13 19, u13 20, u13 21, u13 22, u13 23, u13 24, Z3], defers := [] } ∧ Below w.heap.size w W9 ∧ World.rangeAt W9 g3 0 (fel x) ∧ World.there W9 g3 0 4 ∧ g3 < W9.heap.size ∧ World.rangeAt W9 gq 0 (dl (4 * i) x) ∧ World.there W9 gq 0 gqc ∧ gq < W9.heap.size ∧ 4 * i ≤ gqc ∧ w.heap.size ≤ gq ∧ g3 ≠ gq ∧ (i ≤ 4)) (4 - (0)) ?_ (fun n9 a9 W9 hI => ?_)
 ·
  exact ⟨0, g7, 0, (fun q9 => (#[Z3, Z3, Z3, Z3, Z3, Z3, Z3, Z3, Z3, Z3, Z3, Z3, Z3, Z3, Z3, Z3, Z3, Z3, Z3, Z3, Z3, Z3, Z3, Z3, Z3] : Array Value).getD q9 Z3), rfl, rfl, BE, Rg3_0, Tg3, Lg3, (show World.rangeAt _ _ _ [] from Rg7_0), Tg7, Lg7, (Nat.le_refl _), Gg7, Ng3_g7, (by omega)⟩
 clear BE Rg3_0 Rg7_0 Tg3 Tg7 Lg3 Lg7
 obtain ⟨i, gq, gqc, u13, rfl, rfl, BE, Rg3_0, Tg3, Lg3, Rgq_0, Tgq, Lgq, Cgq, Ggq, Ng3_gq, hi4⟩ := hI
 obtain ⟨w14, rfl⟩ : ∃ W8, W8 = W9 := ⟨_, rfl⟩
 refine Z4 (fun K15 hK15 => ?_)
 refine wp_region_plain 1 (by kernel_rfl) (fun Lk hLk => ?_)
 simp only [Z1,Z2]
 refine Z15 (v := .bool (decide (i < 4))) (by rfl) rfl rfl rfl (fun W => run_lssN i 4 _ _ W) ?_
 simp only [Z7,Z0]
 refine Z14 (hLk.out _ ?_)
 clear hLk Lk
 simp only [Z1,Z2]
 iterate 1 refine wpN_skip (by rfl) ?_
 refine wpN_nil (fun w17 Sw17 hbs => ?_)
 clear hbs
 replace Rg3_0 := range_sees Rg3_0 Lg3 Sw17
 replace Tg3 := there_sees Tg3 Lg3 Sw17
 replace Rgq_0 := range_sees Rgq_0 Lgq Sw17
 replace Tgq := there_sees Tgq Lgq Sw17
 replace Lg3 := Nat.lt_of_lt_of_le Lg3 Sw17.2.2.size
 replace Lgq := Nat.lt_of_lt_of_le Lgq Sw17.2.2.size
 replace BE := BE.trans (Sw17.2.2.mono BE.size)
 refine Z9 (Z10 ?_)
 refine hK15 _ _ ?_
 refine Z4 (fun K18 hK18 => ?_)
 cases hc19 : (decide (i < 4))
 ·
  have ei : 4 = i := by have := of_decide_eq_false hc19; omega
  subst ei
  refine Z6 rfl ?_
  refine wp_exit ?_
  refine hK9 _ _ ?_
  refine Z4 (fun K20 hK20 => ?_)
  refine wp_region_plain 1 (by kernel_rfl) (fun Lk hLk => ?_)
  simp only [Z1,Z2]
  refine Z16 (v := .slice (some ⟨gq, 0, none⟩) (4 * 4) gqc) (by rfl) rfl rfl ?_
  simp only [Z7,Z0]
  refine Z14 (hLk.out _ ?_)
  clear hLk Lk
  simp only [Z1,Z2]
  iterate 1 refine wpN_skip (by rfl) ?_
  refine wpN_nil (fun w22 Sw22 hbs => ?_)
  clear hbs
  replace Rg3_0 := range_sees Rg3_0 Lg3 Sw22
  replace Tg3 := there_sees Tg3 Lg3 Sw22
  replace Rgq_0 := range_sees Rgq_0 Lgq Sw22
  replace Tgq := there_sees Tgq Lgq Sw22
  replace Lg3 := Nat.lt_of_lt_of_le Lg3 Sw22.2.2.size
  replace Lgq := Nat.lt_of_lt_of_le Lgq Sw22.2.2.size
  replace BE := BE.trans (Sw22.2.2.mono BE.size)
  refine Z13 (v := .slice (some ⟨gq, 0, none⟩) (4 * 4) gqc) (by rfl) (by rfl) (by rfl) ?_
  simp only [Z7,Z0]
  refine Z9 (Z10 ?_)
  refine hK20 _ _ ?_
  refine wp_ret ?_
  repeat (first | with_reducible refine then_ret ?_ | with_reducible refine inblock_ret ?_)
  refine bodyPost_ret (v := .slice (some ⟨gq, 0, none⟩) (4 * 4) gqc) (res1 rfl (.tmp (by rfl))) rfl ?_
  exact ⟨_, rfl, ⟨gq, gqc, rfl, Cgq, Ggq, Lgq, (range_dl_take (m := 4 * 4) Rgq_0 (by omega))⟩, BE⟩
 ·
  have hi : i < 4 := of_decide_eq_true hc19
  refine Z5 rfl ?_
  refine wp_skip ?_
  refine hK18 _ _ ?_
  refine Z4 (fun K23 hK23 => ?_)
  refine wp_block ?_
  refine Z4 (fun K24 hK24 => ?_)
  refine wp_region_plain 1 (by kernel_rfl) (fun Lk hLk => ?_)
  simp only [Z1,Z2]
  refine wpV_index (n := i) (v := .int .u64 ((limbN x i : Nat) : Int)) (by rfl) rfl rfl rfl Try.underlying23 info22 Try.underlying22 rfl (by omega) (fel_get (j := i) x (by omega)) ?_
  simp only [Z7,Z0]
  refine Z14 (hLk.out _ ?_)
  clear hLk Lk
  simp only [Z1,Z2]
  iterate 1 refine wpN_skip (by rfl) ?_
  refine wpN_nil (fun w26 Sw26 hbs => ?_)
  clear hbs
  replace Rg3_0 := range_sees Rg3_0 Lg3 Sw26
  replace Tg3 := there_sees Tg3 Lg3 Sw26
  replace Rgq_0 := range_sees Rgq_0 Lgq Sw26
  replace Tgq := there_sees Tgq Lgq Sw26
  replace Lg3 := Nat.lt_of_lt_of_le Lg3 Sw26.2.2.size
  replace Lgq := Nat.lt_of_lt_of_le Lgq Sw26.2.2.size
  replace BE := BE.trans (Sw26.2.2.mono BE.size)
  refine Z13 (v := .int .u64 ((limbN x i : Nat) : Int)) (by rfl) (by rfl) (by rfl) ?_
  simp only [Z7,Z0]
  refine Z9 (Z10 ?_)
  refine hK24 _ _ ?_
  refine Z4 (fun K27 hK27 => ?_)
  refine wp_region_plain 0 (by kernel_rfl) (fun Lk hLk => ?_)
  simp only [Z1,Z2]
  refine Z14 (hLk.out _ ?_)
  clear hLk Lk
  simp only [Z1,Z2]
  refine wpN_nil (fun w29 Sw29 hbs => ?_)
  clear hbs
  replace Rg3_0 := range_sees Rg3_0 Lg3 Sw29
  replace Tg3 := there_sees Tg3 Lg3 Sw29
  replace Rgq_0 := range_sees Rgq_0 Lgq Sw29
  replace Tgq := there_sees Tgq Lgq Sw29
  replace Lg3 := Nat.lt_of_lt_of_le Lg3 Sw29.2.2.size
  replace Lgq := Nat.lt_of_lt_of_le Lgq Sw29.2.2.size
  replace BE := BE.trans (Sw29.2.2.mono BE.size)
  refine Z13 (v := .int .i64 0) (by rfl) (by rfl) (by rfl) ?_
  simp only [Z7,Z0]
  refine Z9 (Z10 ?_)
  refine hK27 _ _ ?_
  refine wp_block ?_
  refine wp_loop_ghost (fun n9 a9 W9 => ∃ (j : Nat) (wv : Nat) (gr : Nat) (grc : Nat) (u30 : Nat → Value), n9 = 4 - j ∧ a9 = { tmps := #[fe x, .pointer (some ⟨g3, 0, none⟩), (.slice none 0 0), .slice (some ⟨gr, 0, none⟩) (4 * i + j) grc, Z3, .int .u64 ((wv : Nat) : Int), .int .i64 ((j : Nat) : Int), .slice (some ⟨g7, 0, none⟩) 0 0, fe x, .int .i64 ((i : Nat) : Int), .bool true, .int .u64 ((limbN x i : Nat) : Int), u30 12, u30 13, u30 14, u30 15, u30 16, u30 17, u30 18, u30 19, u30 20, u30 21, u30 22, u30 23, u13 24, Z3], defers := [] } ∧ Below w.heap.size w W9 ∧ World.rangeAt W9 g3 0 (fel x) ∧ World.there W9 g3 0 4 ∧ g3 < W9.heap.size ∧ World.rangeAt W9 gr 0 (dl (4 * i + j) x) ∧ World.there W9 gr 0 grc ∧ gr < W9.heap.size ∧ 4 * i + j ≤ grc ∧ w.heap.size ≤ gr ∧ g3 ≠ gr ∧ (j ≤ 4) ∧ (wv = limbN x i / 65536 ^ j)) (4 - (0)) ?_ (fun n9 a9 W9 hI => ?_)
  ·
   exact ⟨0, (limbN x i), gq, gqc, (fun q9 => (#[Z3, Z3, Z3, Z3, Z3, Z3, Z3, Z3, Z3, Z3, Z3, Z3, u13 12, u13 13, u13 14, u13 15, u13 16, u13 17, u13 18, u13 19, u13 20, u13 21, u13 22, u13 23] : Array Value).getD q9 Z3), rfl, rfl, BE, Rg3_0, Tg3, Lg3, (by have := Rgq_0; exact this), Tgq, Lgq, Cgq, Ggq, Ng3_gq, (by omega), (by simp)⟩
  clear BE Rg3_0 Rgq_0 Tg3 Tgq Lg3 Lgq
  obtain ⟨j, wv, gr, grc, u30, rfl, rfl, BE, Rg3_0, Tg3, Lg3, Rgr_0, Tgr, Lgr, Cgr, Ggr, Ng3_gr, hj4, hwv⟩ := hI
  obtain ⟨w31, rfl⟩ : ∃ W8, W8 = W9 := ⟨_, rfl⟩
  refine Z4 (fun K32 hK32 => ?_)
  refine Z4 (fun K33 hK33 => ?_)
  refine wp_region_plain 2 (by kernel_rfl) (fun Lk hLk => ?_)
  simp only [Z1,Z2]
  refine Z16 (v := .int .i64 ((j : Nat) : Int)) (by rfl) rfl rfl ?_
  simp only [Z7,Z0]
  refine Z15 (v := .bool (decide (j < 4))) (by rfl) rfl rfl rfl (fun W => run_lssN j 4 _ _ W) ?_
  simp only [Z7,Z0]
  refine Z14 (hLk.out _ ?_)
  clear hLk Lk
  simp only [Z1,Z2]
  iterate 2 refine wpN_skip (by rfl) ?_
  refine wpN_nil (fun w35 Sw35 hbs => ?_)
  clear hbs
  replace Rg3_0 := range_sees Rg3_0 Lg3 Sw35
  replace Tg3 := there_sees Tg3 Lg3 Sw35
  replace Rgr_0 := range_sees Rgr_0 Lgr Sw35
  replace Tgr := there_sees Tgr Lgr Sw35
  replace Lg3 := Nat.lt_of_lt_of_le Lg3 Sw35.2.2.size
  replace Lgr := Nat.lt_of_lt_of_le Lgr Sw35.2.2.size
  replace BE := BE.trans (Sw35.2.2.mono BE.size)
  refine Z9 (Z10 ?_)
  refine hK33 _ _ ?_
  cases hc36 : (decide (j < 4))
  ·
   have ej : 4 = j := by have := of_decide_eq_false hc36; omega
   subst ej
   refine Z6 rfl ?_
   refine wp_exit ?_
   refine hK23 _ _ ?_
   refine wp_region_plain 2 (by kernel_rfl) (fun Lk hLk => ?_)
   simp only [Z1,Z2]
   refine Z15 (v := .int .i64 ((i + 1 : Nat) : Int)) (by rfl) rfl rfl rfl (fun W => run_add (by simp only [IntKind.wrap_i64]; omega) W) ?_
   simp only [Z7,Z0]
   refine Z16 (v := .int .i64 ((i + 1 : Nat) : Int)) (by rfl) rfl rfl ?_
   simp only [Z7,Z0]
   refine Z14 (hLk.out _ ?_)
   clear hLk Lk
   simp only [Z1,Z2]
   iterate 2 refine wpN_skip (by rfl) ?_
   refine wpN_nil (fun w38 Sw38 hbs => ?_)
   clear hbs
   replace Rg3_0 := range_sees Rg3_0 Lg3 Sw38
   replace Tg3 := there_sees Tg3 Lg3 Sw38
   replace Rgr_0 := range_sees Rgr_0 Lgr Sw38
   replace Tgr := there_sees Tgr Lgr Sw38
   replace Lg3 := Nat.lt_of_lt_of_le Lg3 Sw38.2.2.size
   replace Lgr := Nat.lt_of_lt_of_le Lgr Sw38.2.2.size
   replace BE := BE.trans (Sw38.2.2.mono BE.size)
   refine Z9 (Z10 ?_)
   refine Exists.intro _ ⟨?_, (i + 1), gr, grc, (fun q9 => (#[Z3, Z3, Z3, Z3, Z3, .int .u64 ((wv : Nat) : Int), .int .i64 ((4 : Nat) : Int), Z3, Z3, Z3, .bool true, .int .u64 ((limbN x i : Nat) : Int), .int .i64 ((4 : Nat) : Int), .bool false, u30 14, u30 15, u30 16, u30 17, u30 18, u30 19, u30 20, u30 21, u30 22, u30 23, .int .i64 ((i + 1 : Nat) : Int)] : Array Value).getD q9 Z3), rfl, rfl, BE, Rg3_0, Tg3, Lg3, (range_dl_take (m := 4 * i + 4) Rgr_0 (by omega)), Tgr, Lgr, Cgr, Ggr, Ng3_gr, (by omega)⟩
   omega
  ·
   have hj : j < 4 := of_decide_eq_true hc36
   refine Z5 rfl ?_
   refine wp_skip ?_
   refine hK32 _ _ ?_
   refine Z4 (fun K39 hK39 => ?_)
   refine wp_block ?_
   refine Z4 (fun K40 hK40 => ?_)
   refine Z8 ?_
   refine Z12 (v := .slice (some ⟨gr, 0, none⟩) (4 * i + j) grc) (by rfl) (by rfl) (by rfl) ?_
   simp only [Z7,Z0]
   refine Z12 (v := .int .u64 ((wv : Nat) : Int)) (by rfl) (by rfl) (by rfl) ?_
   simp only [Z7,Z0]
   refine Z11 2 (by rfl) (fun Lk hLk => ?_)
   simp only [Z1,Z2]
   refine Z15 (v := .int .u64 ((digN x (4 * i + j) : Nat) : Int)) (by rfl) rfl rfl rfl (fun W => run_rem (by decide) ((tmod_nat _ 65536).trans (congrArg _ (by rw [hwv]; exact dig_limb x i j hj))) W) ?_
   simp only [Z7,Z0]
   refine wpV_conv (d := .bool) (e := ((digN x (4 * i + j) : Nat) : Int)) (by rfl) rfl rfl (run_conv_int Try.underlying22 Try.underlying3 (by have := digN_lt x (4 * i + j); simp only [IntKind.wrap_i64]; omega)) ?_
   simp only [Z7,Z0]
   refine Z14 (hLk _ (fun w42 Sw42 => ?_))
   clear hLk Lk
   simp only [Z1,Z2]
   replace Rg3_0 := range_sees Rg3_0 Lg3 Sw42
   replace Tg3 := there_sees Tg3 Lg3 Sw42
   replace Rgr_0 := range_sees Rgr_0 Lgr Sw42
   replace Tgr := there_sees Tgr Lgr Sw42
   replace Lg3 := Nat.lt_of_lt_of_le Lg3 Sw42.2.2.size
   replace Lgr := Nat.lt_of_lt_of_le Lgr Sw42.2.2.size
   replace BE := BE.trans (Sw42.2.2.mono BE.size)
   refine wpL_row1 (z := .int .i64 0) (bytes := 8) (n := ((digN x (4 * i + j) : Nat) : Int)) (by rfl) (by rfl) (by rfl) Try.underlying100 (by kernel_rfl) rfl (fun g43 w44 Sw44 Hg43 Bg43 => ?_)
   have Ng3_g43 : g3 ≠ g43 := Nat.ne_of_lt (Nat.lt_of_lt_of_le Lg3 Hg43)
   have Ngr_g43 : gr ≠ g43 := Nat.ne_of_lt (Nat.lt_of_lt_of_le Lgr Hg43)
   have Gg43 : w.heap.size ≤ g43 := Nat.le_trans BE.size Hg43
   replace Rg3_0 := range_sees Rg3_0 Lg3 Sw44
   replace Tg3 := there_sees Tg3 Lg3 Sw44
   replace Rgr_0 := range_sees Rgr_0 Lgr Sw44
   replace Tgr := there_sees Tgr Lgr Sw44
   replace Lg3 := Nat.lt_of_lt_of_le Lg3 Sw44.2.2.size
   replace Lgr := Nat.lt_of_lt_of_le Lgr Sw44.2.2.size
   replace BE := BE.trans (Sw44.2.2.mono BE.size)
   have Tg43 := blk_there Bg43 (n := 1) (by rfl)
   have Rg43_0 := blk_range Bg43 (l := [.int .i64 ((digN x (4 * i + j) : Nat) : Int)]) rfl
   replace Rg43_0 : World.rangeAt w44 g43 0 (dl 1 (digN x (4 * i + j))) := by rw [dl_one (v := digN x (4 * i + j)) (digN_lt _ _)]; exact Rg43_0
   have Lg43 := Bg43.lt
   clear Bg43
   simp only [Z7,Z0]
   refine wpL_append (olds := dl (4 * i + j) x) (news := dl 1 (digN x (4 * i + j))) (z := .int .i64 0) (bytes := 8) (by rfl) (by rfl) (by rfl) (by rfl) Try.underlying100 (by kernel_rfl) rfl rfl (dl_len _ _) (dl_len _ _) Rgr_0 Tgr Lgr Rg43_0 (nl_one _ _) (by omega) (by unfold maxLen; omega) (fun g45 g45c w46 Sw46 Qg45 Cg45 Rg45_0 Tg45 Lg45 => ?_)
   rw [dl_app1] at Rg45_0
   have Ng3_g45 : g3 ≠ g45 := Qg45.elim (fun q => q ▸ Ng3_gr) (fun q => Nat.ne_of_lt (Nat.lt_of_lt_of_le Lg3 q))
   have Gg45 : w.heap.size ≤ g45 := Qg45.elim (fun q => q ▸ Ggr) (fun q => Nat.le_trans BE.size q)
   replace Rg3_0 := Sw46.range Rg3_0 Ng3_gr Lg3
   replace Tg3 := Sw46.there Tg3 Ng3_gr Lg3
   replace Lg3 := Sw46.lt Lg3
   replace BE := Sw46.below BE (Nat.le_refl _) Ggr
   simp only [Z7,Z0]
   refine Z13 (v := .slice (some ⟨g45, 0, none⟩) (4 * i + j + 1) g45c) (by rfl) (by rfl) (by rfl) ?_
   simp only [Z7,Z0]
   refine Z9 (Z10 ?_)
   refine hK40 _ _ ?_
   refine wp_region_plain 2 (by kernel_rfl) (fun Lk hLk => ?_)
   simp only [Z1,Z2]
   refine Z16 (v := .int .u64 ((wv : Nat) : Int)) (by rfl) rfl rfl ?_
   simp only [Z7,Z0]
   refine Z15 (v := .int .u64 ((wv / 65536 : Nat) : Int)) (by rfl) rfl rfl rfl (fun W => run_quo (by decide) ((congrArg _ (tdiv_nat wv 65536)).trans (by have := ww_lt x i j; rw [← hwv] at this; rw [wrap_u64]; omega)) W) ?_
   simp only [Z7,Z0]
   refine Z14 (hLk.out _ ?_)
   clear hLk Lk
   simp only [Z1,Z2]
   iterate 2 refine wpN_skip (by rfl) ?_
   refine wpN_nil (fun w48 Sw48 hbs => ?_)
   clear hbs
   replace Rg3_0 := range_sees Rg3_0 Lg3 Sw48
   replace Tg3 := there_sees Tg3 Lg3 Sw48
   replace Rg45_0 := range_sees Rg45_0 Lg45 Sw48
   replace Tg45 := there_sees Tg45 Lg45 Sw48
   replace Lg3 := Nat.lt_of_lt_of_le Lg3 Sw48.2.2.size
   replace Lg45 := Nat.lt_of_lt_of_le Lg45 Sw48.2.2.size
   replace BE := BE.trans (Sw48.2.2.mono BE.size)
   refine Z13 (v := .int .u64 ((wv / 65536 : Nat) : Int)) (by rfl) (by rfl) (by rfl) ?_
   simp only [Z7,Z0]
   refine Z9 (Z10 ?_)
   refine hK39 _ _ ?_
   refine wp_region_plain 2 (by kernel_rfl) (fun Lk hLk => ?_)
   simp only [Z1,Z2]
   refine Z16 (v := .int .i64 ((j : Nat) : Int)) (by rfl) rfl rfl ?_
   simp only [Z7,Z0]
   refine Z15 (v := .int .i64 ((j + 1 : Nat) : Int)) (by rfl) rfl rfl rfl (fun W => run_add (by simp only [IntKind.wrap_i64]; omega) W) ?_
   simp only [Z7,Z0]
   refine Z14 (hLk.out _ ?_)
   clear hLk Lk
   simp only [Z1,Z2]
   iterate 2 refine wpN_skip (by rfl) ?_
   refine wpN_nil (fun w50 Sw50 hbs => ?_)
   clear hbs
   replace Rg3_0 := range_sees Rg3_0 Lg3 Sw50
   replace Tg3 := there_sees Tg3 Lg3 Sw50
   replace Rg45_0 := range_sees Rg45_0 Lg45 Sw50
   replace Tg45 := there_sees Tg45 Lg45 Sw50
   replace Lg3 := Nat.lt_of_lt_of_le Lg3 Sw50.2.2.size
   replace Lg45 := Nat.lt_of_lt_of_le Lg45 Sw50.2.2.size
   replace BE := BE.trans (Sw50.2.2.mono BE.size)
   refine Z13 (v := .int .i64 ((j + 1 : Nat) : Int)) (by rfl) (by rfl) (by rfl) ?_
   simp only [Z7,Z0]
   refine Z9 (Z10 ?_)
   refine Exists.intro _ ⟨?_, (j + 1), (wv / 65536), g45, g45c, (fun q9 => (#[Z3, Z3, Z3, Z3, Z3, Z3, Z3, Z3, Z3, Z3, Z3, Z3, .int .i64 ((j : Nat) : Int), .bool true, .int .i64 ((j : Nat) : Int), .int .i64 ((j + 1 : Nat) : Int), .slice (some ⟨gr, 0, none⟩) (4 * i + j) grc, .int .u64 ((wv : Nat) : Int), .int .u64 ((digN x (4 * i + j) : Nat) : Int), .int .i64 ((digN x (4 * i + j) : Nat) : Int), .slice (some ⟨g43, 0, none⟩) 1 1, .slice (some ⟨g45, 0, none⟩) (4 * i + j + 1) g45c, .int .u64 ((wv : Nat) : Int), .int .u64 ((wv / 65536 : Nat) : Int)] : Array Value).getD q9 Z3), rfl, rfl, BE, Rg3_0, Tg3, Lg3, Rg45_0, Tg45, Lg45, Cg45, Gg45, Ng3_g45, (by omega), (by rw [hwv, Nat.pow_succ, Nat.div_div_eq_div_mul])⟩
   omega
set_option maxHeartbeats 1000000 in
theorem words_c {n x g0 cg0 : Nat} {w : World} (hn : n ≤ 16) (hx : x < 65536 ^ n) (hcg0 : n ≤ cg0) (Lg0 : g0 < w.heap.size) (Rg0_0 : w.rangeAt g0 0 (dl n x)) :
  Calls Try.prog 66 #[.slice (some ⟨g0, 0, none⟩) n cg0] w fun e w' => e = .returned (fe x) ∧ Below w.heap.size w w' := by
 go_enter Try.func66, Try.ntmps66
 have BE := Below.refl w.heap.size w
 refine Z4 (fun K1 hK1 => ?_)
 refine wp_region_plain 1 (by kernel_rfl) (fun Lk hLk => ?_)
 simp only [Z1,Z2]
 refine wpV_alloc (by rfl) ?_
 refine Z14 (hLk.out _ ?_)
 clear hLk Lk
 simp only [Z1,Z2]
 refine wpN_new (t := 23) (cs := ([.int .u64 0, .int .u64 0, .int .u64 0, .int .u64 0]).toArray) (by rfl) (fun W => ?_) (fun g3 Hg3 ng3 => ?_)
 ·
  go_simp
 simp only [Z7,Z0]
 refine wpN_nil (fun w4 Sw4 hbs => ?_)
 have Bg3 : Blk w4 g3 23 ([.int .u64 0, .int .u64 0, .int .u64 0, .int .u64 0]).toArray := hbs _ (List.mem_cons_self ..)
 clear hbs
 have Ng0_g3 : g0 ≠ g3 := Nat.ne_of_lt (Nat.lt_of_lt_of_le Lg0 Hg3)
 have Gg3 : w.heap.size ≤ g3 := Nat.le_trans BE.size Hg3
 replace Rg0_0 := range_sees Rg0_0 Lg0 Sw4
 replace Lg0 := Nat.lt_of_lt_of_le Lg0 Sw4.2.2.size
 replace BE := BE.trans (Sw4.2.2.mono BE.size)
 have Tg3 := blk_there Bg3 (n := 4) (by simp [flen])
 have Rg3_0 := blk_range Bg3 (l := [.int .u64 0, .int .u64 0, .int .u64 0, .int .u64 0]) rfl
 have Lg3 := Bg3.lt
 clear ng3 Bg3
 refine Z9 (Z10 ?_)
 refine hK1 _ _ ?_
 refine Z4 (fun K5 hK5 => ?_)
 refine wp_region_plain 2 (by kernel_rfl) (fun Lk hLk => ?_)
 simp only [Z1,Z2]
 refine Z19 (v := fe 0) (by rfl) (by rfl) (fun W hW => ?_) ?_
 ·
  rw [show fe 0 = .agg ([.int .u64 0, .int .u64 0, .int .u64 0, .int .u64 0]).toArray from (by kernel_rfl)]; unfold RunsVal; kernel_rfl
 simp only [Z7,Z0]
 refine wpV_alloc (by rfl) ?_
 refine Z14 (hLk.out _ ?_)
 clear hLk Lk
 simp only [Z1,Z2]
 iterate 1 refine wpN_skip (by rfl) ?_
 refine wpN_new (t := 23) (cs := ([.int .u64 0, .int .u64 0, .int .u64 0, .int .u64 0]).toArray) (by rfl) (fun W => ?_) (fun g7 Hg7 ng7 => ?_)
 ·
  go_simp
 simp only [Z7,Z0]
 refine wpN_nil (fun w8 Sw8 hbs => ?_)
 have Bg7 : Blk w8 g7 23 ([.int .u64 0, .int .u64 0, .int .u64 0, .int .u64 0]).toArray := hbs _ (List.mem_cons_self ..)
 clear hbs
 have Ng0_g7 : g0 ≠ g7 := Nat.ne_of_lt (Nat.lt_of_lt_of_le Lg0 Hg7)
 have Ng3_g7 : g3 ≠ g7 := Nat.ne_of_lt (Nat.lt_of_lt_of_le Lg3 Hg7)
 have Gg7 : w.heap.size ≤ g7 := Nat.le_trans BE.size Hg7
 replace Rg0_0 := range_sees Rg0_0 Lg0 Sw8
 replace Rg3_0 := range_sees Rg3_0 Lg3 Sw8
 replace Tg3 := there_sees Tg3 Lg3 Sw8
 replace Lg0 := Nat.lt_of_lt_of_le Lg0 Sw8.2.2.size
 replace Lg3 := Nat.lt_of_lt_of_le Lg3 Sw8.2.2.size
 replace BE := BE.trans (Sw8.2.2.mono BE.size)
 have Tg7 := blk_there Bg7 (n := 4) (by simp [flen])
 have Rg7_0 := blk_range Bg7 (l := [.int .u64 0, .int .u64 0, .int .u64 0, .int .u64 0]) rfl
 have Lg7 := Bg7.lt
 clear ng7 Bg7
 refine wpL_store (g := g7) (off := 0) (n := 4) (cs := fel 0) (by rfl) (by rfl) (by rfl) (by rfl) (by rfl) Tg7 (by simp [flen]) info23 (fel_one _) (fun w9 Pw9 RR TT => ?_)
 replace Rg0_0 := Pw9.range Rg0_0 (.inl Ng0_g7)
 replace Rg3_0 := Pw9.range Rg3_0 (.inl Ng3_g7)
 replace Tg3 := Pw9.other_there Tg3 Ng3_g7
 replace Rg7_0 := RR
 clear RR
 replace Tg7 := TT
 replace Lg0 := Pw9.lt Lg0
 replace Lg3 := Pw9.lt Lg3
 replace Lg7 := Pw9.lt Lg7
 replace BE := Pw9.below BE Gg7
 refine Z9 (Z10 ?_)
 refine hK5 _ _ ?_
 refine Z4 (fun K10 hK10 => ?_)
 refine Z4 (fun K11 hK11 => ?_)
 refine wp_region_plain 3 (by kernel_rfl) (fun Lk hLk => ?_)
 simp only [Z1,Z2]
 refine Z16 (v := .slice (some ⟨g0, 0, none⟩) n cg0) (by rfl) rfl rfl ?_
 simp only [Z7,Z0]
 refine wpV_lenA (n := n) (by rfl) rfl rfl rfl Try.underlying100 ?_
 simp only [Z7,Z0]
 refine Z15 (v := .int .i64 (((n : Nat) : Int) - 1)) (by rfl) rfl rfl rfl (fun W => run_sub (by simp only [IntKind.wrap_i64]; omega) W) ?_
 simp only [Z7,Z0]
 refine Z14 (hLk.out _ ?_)
 clear hLk Lk
 simp only [Z1,Z2]
 iterate 3 refine wpN_skip (by rfl) ?_
 refine wpN_nil (fun w13 Sw13 hbs => ?_)
 clear hbs
 replace Rg0_0 := range_sees Rg0_0 Lg0 Sw13
 replace Rg3_0 := range_sees Rg3_0 Lg3 Sw13
 replace Tg3 := there_sees Tg3 Lg3 Sw13
 replace Rg7_0 := range_sees Rg7_0 Lg7 Sw13
 replace Tg7 := there_sees Tg7 Lg7 Sw13
 replace Lg0 := Nat.lt_of_lt_of_le Lg0 Sw13.2.2.size
 replace Lg3 := Nat.lt_of_lt_of_le Lg3 Sw13.2.2.size
 replace Lg7 := Nat.lt_of_lt_of_le Lg7 Sw13.2.2.size
 replace BE := BE.trans (Sw13.2.2.mono BE.size)
 refine Z13 (v := .int .i64 (((n : Nat) : Int) - 1)) (by rfl) (by rfl) (by rfl) ?_
 simp only [Z7,Z0]
 refine Z9 (Z10 ?_)
 refine hK11 _ _ ?_
 refine wp_block ?_
 refine wp_loop_ghost (fun n9 a9 W9 => ∃ (k : Nat) (u14 : Nat → Value), n9 = 2 * k ∧ a9 = { tmps := #[.slice (some ⟨g0, 0, none⟩) n cg0, Z3, .pointer (some ⟨g3, 0, none⟩), .pointer (some ⟨g7, 0, none⟩), .int .i64 (((k : Nat) : Int) - 1), fe 0, .slice (some ⟨g0, 0, none⟩) n cg0, .int .i64 ((n : Nat) : Int), .int .i64 (((n : Nat) : Int) - 1), u14 9, u14 10, u14 11, u14 12, u14 13, u14 14, u14 15, u14 16, u14 17, u14 18, u14 19, u14 20, u14 21, u14 22, u14 23, u14 24, u14 25, u14 26, Z3], defers := [] } ∧ Below w.heap.size w W9 ∧ World.rangeAt W9 g0 0 (dl n x) ∧ g0 < W9.heap.size ∧ World.rangeAt W9 g3 0 ([.int .u64 0, .int .u64 0, .int .u64 0, .int .u64 0]) ∧ World.there W9 g3 0 4 ∧ g3 < W9.heap.size ∧ World.rangeAt W9 g7 0 (ww x k) ∧ World.there W9 g7 0 4 ∧ g7 < W9.heap.size ∧ (k ≤ n)) (2 * (n)) ?_ (fun n9 a9 W9 hI => ?_)
 ·
  exact ⟨n, (fun q9 => (#[Z3, Z3, Z3, Z3, Z3, Z3, Z3, Z3, Z3, Z3, Z3, Z3, Z3, Z3, Z3, Z3, Z3, Z3, Z3, Z3, Z3, Z3, Z3, Z3, Z3, Z3, Z3] : Array Value).getD q9 Z3), rfl, rfl, BE, Rg0_0, Lg0, Rg3_0, Tg3, Lg3, (by rw [ww_start hx hn]; exact Rg7_0), Tg7, Lg7, (Nat.le_refl _)⟩
 clear BE Rg0_0 Rg3_0 Rg7_0 Tg3 Tg7 Lg0 Lg3 Lg7
 obtain ⟨k, u14, rfl, rfl, BE, Rg0_0, Lg0, Rg3_0, Tg3, Lg3, Rg7_0, Tg7, Lg7, hkn⟩ := hI
 obtain ⟨w15, rfl⟩ : ∃ W8, W8 = W9 := ⟨_, rfl⟩
 refine Z4 (fun K16 hK16 => ?_)
 refine Z4 (fun K17 hK17 => ?_)
 refine wp_region_plain 2 (by kernel_rfl) (fun Lk hLk => ?_)
 simp only [Z1,Z2]
 refine Z16 (v := .int .i64 (((k : Nat) : Int) - 1)) (by rfl) rfl rfl ?_
 simp only [Z7,Z0]
 refine Z15 (v := .bool (decide (0 ≤ ((k : Nat) : Int) - 1))) (by rfl) rfl rfl rfl (fun W => run_geq _ _ _ _ W) ?_
 simp only [Z7,Z0]
 refine Z14 (hLk.out _ ?_)
 clear hLk Lk
 simp only [Z1,Z2]
 iterate 2 refine wpN_skip (by rfl) ?_
 refine wpN_nil (fun w19 Sw19 hbs => ?_)
 clear hbs
 replace Rg0_0 := range_sees Rg0_0 Lg0 Sw19
 replace Rg3_0 := range_sees Rg3_0 Lg3 Sw19
 replace Tg3 := there_sees Tg3 Lg3 Sw19
 replace Rg7_0 := range_sees Rg7_0 Lg7 Sw19
 replace Tg7 := there_sees Tg7 Lg7 Sw19
 replace Lg0 := Nat.lt_of_lt_of_le Lg0 Sw19.2.2.size
 replace Lg3 := Nat.lt_of_lt_of_le Lg3 Sw19.2.2.size
 replace Lg7 := Nat.lt_of_lt_of_le Lg7 Sw19.2.2.size
 replace BE := BE.trans (Sw19.2.2.mono BE.size)
 refine Z9 (Z10 ?_)
 refine hK17 _ _ ?_
 cases hc20 : (decide (0 ≤ ((k : Nat) : Int) - 1))
 ·
  have ek : k = 0 := by have := of_decide_eq_false hc20; omega
  subst ek
  refine Z6 rfl ?_
  refine wp_exit ?_
  refine hK10 _ _ ?_
  refine Z4 (fun K21 hK21 => ?_)
  have R9 : World.rangeAt w19 g7 0 (fel x) := by rw [← ww_end]; exact Rg7_0
  clear Rg7_0
  have Rg7_0 := R9
  clear R9
  refine wp_region_plain 1 (by kernel_rfl) (fun Lk hLk => ?_)
  simp only [Z1,Z2]
  refine wpV_load (cs := fel x) (by rfl) rfl rfl Rg7_0 Lg7 Try.underlying23 rfl info23 ?_
  simp only [Z7,Z0]
  refine Z14 (hLk.out _ ?_)
  clear hLk Lk
  simp only [Z1,Z2]
  iterate 1 refine wpN_skip (by rfl) ?_
  refine wpN_nil (fun w23 Sw23 hbs => ?_)
  clear hbs
  replace Rg0_0 := range_sees Rg0_0 Lg0 Sw23
  replace Rg3_0 := range_sees Rg3_0 Lg3 Sw23
  replace Tg3 := there_sees Tg3 Lg3 Sw23
  replace Rg7_0 := range_sees Rg7_0 Lg7 Sw23
  replace Tg7 := there_sees Tg7 Lg7 Sw23
  replace Lg0 := Nat.lt_of_lt_of_le Lg0 Sw23.2.2.size
  replace Lg3 := Nat.lt_of_lt_of_le Lg3 Sw23.2.2.size
  replace Lg7 := Nat.lt_of_lt_of_le Lg7 Sw23.2.2.size
  replace BE := BE.trans (Sw23.2.2.mono BE.size)
  refine wpL_store (g := g3) (off := 0) (n := 4) (cs := fel x) (by rfl) (by rfl) (by rfl) (by rfl) (by rfl) Tg3 (by simp [flen]) info23 (fel_one _) (fun w24 Pw24 RR TT => ?_)
  replace Rg0_0 := Pw24.range Rg0_0 (.inl Ng0_g3)
  replace Rg7_0 := Pw24.range Rg7_0 (.inl (Ne.symm Ng3_g7))
  replace Tg7 := Pw24.other_there Tg7 (Ne.symm Ng3_g7)
  replace Rg3_0 := RR
  clear RR
  replace Tg3 := TT
  replace Lg0 := Pw24.lt Lg0
  replace Lg3 := Pw24.lt Lg3
  replace Lg7 := Pw24.lt Lg7
  replace BE := Pw24.below BE Gg3
  refine Z9 (Z10 ?_)
  refine hK21 _ _ ?_
  refine wp_ret ?_
  repeat (first | with_reducible refine then_ret ?_ | with_reducible refine inblock_ret ?_)
  refine bodyPost_ret (v := fe x) (res1 rfl (.cell (by rfl) (run_loadVar_mid _ _ _ _ (fel x) _ Rg3_0 Try.underlying23 rfl info23))) rfl ?_
  exact ⟨rfl, BE⟩
 ·
  obtain ⟨j, rfl⟩ : ∃ j, k = j + 1 := ⟨k - 1, by have := of_decide_eq_true hc20; omega⟩
  rw [show (((j + 1 : Nat) : Int) - 1) = ((j : Nat) : Int) by omega]
  have hw1 := ww_word x j
  have hw2 := ww_lt x (j / 4) (j - 4 * (j / 4))
  have hw3 := digN_lt x j
  refine Z5 rfl ?_
  refine wp_skip ?_
  refine hK16 _ _ ?_
  refine Z4 (fun K25 hK25 => ?_)
  refine wp_block ?_
  refine wp_region_grow 14 [] (by kernel_rfl) (by kernel_rfl) (by kernel_rfl) (fun Lk hLk => ?_)
  simp only [Z1,Z2]
  refine Z16 (v := .int .i64 ((j : Nat) : Int)) (by rfl) rfl rfl ?_
  simp only [Z7,Z0]
  refine Z15 (v := .int .i64 ((j / 4 : Nat) : Int)) (by rfl) rfl rfl rfl (fun W => run_quo (by decide) ((congrArg _ (tdiv_nat j 4)).trans (wrap_nat _ (by omega))) W) ?_
  simp only [Z7,Z0]
  refine Z16 (v := .int .i64 ((j : Nat) : Int)) (by rfl) rfl rfl ?_
  simp only [Z7,Z0]
  refine Z15 (v := .int .i64 ((j / 4 : Nat) : Int)) (by rfl) rfl rfl rfl (fun W => run_quo (by decide) ((congrArg _ (tdiv_nat j 4)).trans (wrap_nat _ (by omega))) W) ?_
  simp only [Z7,Z0]
  refine wpV_idx (n := j / 4) (by rfl) rfl rfl rfl Try.underlying23 info22 (by omega) ?_
  simp only [Nat.zero_add]
  simp only [Z7,Z0]
  refine wpV_load1 (v := .int .u64 ((limbN x (j / 4) / 65536 ^ (j + 1 - 4 * (j / 4)) : Nat) : Int)) (by rfl) rfl rfl (by have := Rg7_0 _ _ (ww_get (i := j / 4) _ _ (by omega)); rwa [Nat.zero_add] at this) Lg7 Try.underlying22 rfl ?_
  simp only [Z7,Z0]
  refine Z15 (v := .int .u64 ((65536 * (limbN x (j / 4) / 65536 ^ (j + 1 - 4 * (j / 4))) : Nat) : Int)) (by rfl) rfl rfl rfl (fun W => run_mul (by generalize limbN x (j / 4) / 65536 ^ (j + 1 - 4 * (j / 4)) = q at *; rw [wrap_u64]; omega) W) ?_
  simp only [Z7,Z0]
  refine Z16 (v := .slice (some ⟨g0, 0, none⟩) n cg0) (by rfl) rfl rfl ?_
  simp only [Z7,Z0]
  refine Z16 (v := .int .i64 ((j : Nat) : Int)) (by rfl) rfl rfl ?_
  simp only [Z7,Z0]
  refine wpV_idxs (n := j) (by rfl) rfl rfl rfl Try.underlying100 info3 (by omega) ?_
  simp only [Nat.zero_add]
  simp only [Z7,Z0]
  refine wpV_load1 (v := .int .i64 ((digN x j : Nat) : Int)) (by rfl) rfl rfl (by have := Rg0_0 _ _ (dl_get (j := j) n x (by omega)); rwa [Nat.zero_add] at this) Lg0 Try.underlying3 rfl ?_
  simp only [Z7,Z0]
  refine wpV_conv (d := .bool) (e := ((digN x j : Nat) : Int)) (by rfl) rfl rfl (run_conv_int Try.underlying3 Try.underlying22 (by rw [wrap_u64]; omega)) ?_
  simp only [Z7,Z0]
  refine Z15 (v := .int .u64 ((limbN x (j / 4) / 65536 ^ (j - 4 * (j / 4)) : Nat) : Int)) (by rfl) rfl rfl rfl (fun W => run_add (by rw [wrap_u64]; omega) W) ?_
  simp only [Z7,Z0]
  refine wpV_idx (n := j / 4) (by rfl) rfl rfl rfl Try.underlying23 info22 (by omega) ?_
  simp only [Nat.zero_add]
  simp only [Z7,Z0]
  refine Z14 (hLk.out _ ?_)
  clear hLk Lk
  simp only [Z1,Z2]
  iterate 14 refine wpN_skip (by rfl) ?_
  refine wpN_nil (fun w27 Sw27 hbs => ?_)
  clear hbs
  replace Rg0_0 := range_sees Rg0_0 Lg0 Sw27
  replace Rg3_0 := range_sees Rg3_0 Lg3 Sw27
  replace Tg3 := there_sees Tg3 Lg3 Sw27
  replace Rg7_0 := range_sees Rg7_0 Lg7 Sw27
  replace Tg7 := there_sees Tg7 Lg7 Sw27
  replace Lg0 := Nat.lt_of_lt_of_le Lg0 Sw27.2.2.size
  replace Lg3 := Nat.lt_of_lt_of_le Lg3 Sw27.2.2.size
  replace Lg7 := Nat.lt_of_lt_of_le Lg7 Sw27.2.2.size
  replace BE := BE.trans (Sw27.2.2.mono BE.size)
  refine Z18 (g := g7) (off := j / 4) (n := 4) (v := .int .u64 ((limbN x (j / 4) / 65536 ^ (j - 4 * (j / 4)) : Nat) : Int)) (by rfl) (by rfl) (by rfl) (by rfl) (by rfl) Tg7 (by omega) info22 rfl (fun w28 Pw28 RR TT => ?_)
  replace Rg0_0 := Pw28.range Rg0_0 (.inl Ng0_g7)
  replace Rg3_0 := Pw28.range Rg3_0 (.inl Ng3_g7)
  replace Tg3 := Pw28.other_there Tg3 Ng3_g7
  replace Rg7_0 := range_set Rg7_0 Pw28 RR
  clear RR
  replace Tg7 := TT
  replace Lg0 := Pw28.lt Lg0
  replace Lg3 := Pw28.lt Lg3
  replace Lg7 := Pw28.lt Lg7
  replace BE := Pw28.below BE Gg7
  rw [ww_put (by omega)] at Rg7_0
  refine Z9 (Z10 ?_)
  refine hK25 _ _ ?_
  refine wp_region_plain 2 (by kernel_rfl) (fun Lk hLk => ?_)
  simp only [Z1,Z2]
  refine Z16 (v := .int .i64 ((j : Nat) : Int)) (by rfl) rfl rfl ?_
  simp only [Z7,Z0]
  refine Z15 (v := .int .i64 (((j : Nat) : Int) - 1)) (by rfl) rfl rfl rfl (fun W => run_sub (by simp only [IntKind.wrap_i64]; omega) W) ?_
  simp only [Z7,Z0]
  refine Z14 (hLk.out _ ?_)
  clear hLk Lk
  simp only [Z1,Z2]
  iterate 2 refine wpN_skip (by rfl) ?_
  refine wpN_nil (fun w30 Sw30 hbs => ?_)
  clear hbs
  replace Rg0_0 := range_sees Rg0_0 Lg0 Sw30
  replace Rg3_0 := range_sees Rg3_0 Lg3 Sw30
  replace Tg3 := there_sees Tg3 Lg3 Sw30
  replace Rg7_0 := range_sees Rg7_0 Lg7 Sw30
  replace Tg7 := there_sees Tg7 Lg7 Sw30
  replace Lg0 := Nat.lt_of_lt_of_le Lg0 Sw30.2.2.size
  replace Lg3 := Nat.lt_of_lt_of_le Lg3 Sw30.2.2.size
  replace Lg7 := Nat.lt_of_lt_of_le Lg7 Sw30.2.2.size
  replace BE := BE.trans (Sw30.2.2.mono BE.size)
  refine Z13 (v := .int .i64 (((j : Nat) : Int) - 1)) (by rfl) (by rfl) (by rfl) ?_
  simp only [Z7,Z0]
  refine Z9 (Z10 ?_)
  refine Exists.intro _ ⟨?_, j, (fun q9 => (#[Z3, Z3, Z3, Z3, Z3, Z3, Z3, Z3, Z3, .int .i64 ((j : Nat) : Int), .bool true, .int .i64 ((j : Nat) : Int), .int .i64 (((j : Nat) : Int) - 1), .int .i64 ((j : Nat) : Int), .int .i64 ((j / 4 : Nat) : Int), .int .i64 ((j : Nat) : Int), .int .i64 ((j / 4 : Nat) : Int), .pointer (some ⟨g7, j / 4, none⟩), .int .u64 ((limbN x (j / 4) / 65536 ^ (j + 1 - 4 * (j / 4)) : Nat) : Int), .int .u64 ((65536 * (limbN x (j / 4) / 65536 ^ (j + 1 - 4 * (j / 4))) : Nat) : Int), .slice (some ⟨g0, 0, none⟩) n cg0, .int .i64 ((j : Nat) : Int), .pointer (some ⟨g0, j, none⟩), .int .i64 ((digN x j : Nat) : Int), .int .u64 ((digN x j : Nat) : Int), .int .u64 ((limbN x (j / 4) / 65536 ^ (j - 4 * (j / 4)) : Nat) : Int), .pointer (some ⟨g7, j / 4, none⟩)] : Array Value).getD q9 Z3), rfl, rfl, BE, Rg0_0, Lg0, Rg3_0, Tg3, Lg3, Rg7_0, Tg7, Lg7, (by omega)⟩
  omega
end Go.Proofs.Ya

