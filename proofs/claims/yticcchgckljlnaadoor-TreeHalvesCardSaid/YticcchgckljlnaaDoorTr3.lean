import Derived.WalkKit
import Derived.WalkSpells
import Derived.Laws.Pointers
import Derived.RowKit3
import Derived.Below
import Derived.Outline
import Derived.LoopN
import Derived.Lib.Hide
import Derived.Handy
import Derived.Laws.Bits64b
import Derived.Test.YticcchgckljlnaaDoorTr2
import Derived.Test.YticcchgckljlnaaDoorRf3
set_option linter.unusedSimpArgs false
set_option linter.unusedVariables false
namespace Go.Proofs.Yb
open Go Go.RowKit Go.Proofs.Num
set_option maxHeartbeats 1000000 in
theorem rleaf_c {d : List UInt8} {w : World} (hd : d.length ≤ 9223372036854775000) :
    Calls Tryd.prog 39 #[.string (bs d)] w fun e w' => e = .returned (.string (bs (leafS d))) ∧ Below w.heap.size w w' := by
  go_enter Tryd.func39, Tryd.ntmps39
  have M := Mem.start w
  refine wp_seq_k (fun K1 hK1 => ?_)
  refine wp_region_seq ?_
  refine wpL_assign (v := .string (bs ([]))) (by rfl) (by rfl) (by rfl) ?_
  simp only [putT, List.set]
  refine wpL_nil (no_panic ?_)
  refine hK1 _ _ ?_
  refine wp_seq_k (fun K3 hK3 => ?_)
  refine wp_region_seq ?_
  refine wpL_move (v := .string (bs d)) (by rfl) (by rfl) (by rfl) ?_
  simp only [putT, List.set]
  refine wpL_chunk 2 (by rfl) (fun Lk hLk => ?_)
  simp only [List.take, List.drop]
  refine wpV_binS (v := .string (bs (([0]) ++ d))) (by rfl) rfl rfl rfl (run_add_bs _ _ _ (by simp; omega)) ?_
  simp only [putT, List.set]
  refine wpV_callf (v := .string (bs (sha (([0]) ++ d)))) (args := #[.string (bs (([0]) ++ d))]) (by rfl) rfl Tryd.func21 (by kernel_rfl) (by kernel_rfl) rfl (fun W hW => rsum_c (l := ([0]) ++ d) (by simp; omega)) ?_
  simp only [putT, List.set]
  refine wpV_nil (hLk _ (fun w5 Sw5 => ?_))
  clear hLk Lk
  simp only [List.take, List.drop]
  replace M := M.sees Sw5
  refine wpL_assign (v := .string (bs (sha (([0]) ++ d)))) (by rfl) (by rfl) (by rfl) ?_
  simp only [putT, List.set]
  refine wpL_nil (no_panic ?_)
  refine hK3 _ _ ?_
  refine wp_ret ?_
  repeat (first | with_reducible refine then_ret ?_ | with_reducible refine inblock_ret ?_)
  refine bodyPost_ret (v := .string (bs (sha (([0]) ++ d)))) (res1 rfl (.tmp (by rfl))) rfl ?_
  have BE := M.below
  exact ⟨rfl, BE⟩
set_option maxHeartbeats 1000000 in
theorem rnode_c {a b : List UInt8} {w : World} (ha : a.length ≤ 4611686018427380000) (hb : b.length ≤ 4611686018427380000) :
    Calls Tryd.prog 41 #[.string (bs a), .string (bs b)] w fun e w' => e = .returned (.string (bs (nodeS a b))) ∧ Below w.heap.size w w' := by
  go_enter Tryd.func41, Tryd.ntmps41
  have M := Mem.start w
  refine wp_seq_k (fun K1 hK1 => ?_)
  refine wp_region_seq ?_
  refine wpL_assign (v := .string (bs ([]))) (by rfl) (by rfl) (by rfl) ?_
  simp only [putT, List.set]
  refine wpL_nil (no_panic ?_)
  refine hK1 _ _ ?_
  refine wp_seq_k (fun K3 hK3 => ?_)
  refine wp_region_seq ?_
  refine wpL_move (v := .string (bs a)) (by rfl) (by rfl) (by rfl) ?_
  simp only [putT, List.set]
  refine wpL_chunk 4 (by rfl) (fun Lk hLk => ?_)
  simp only [List.take, List.drop]
  refine wpV_binS (v := .string (bs (([1]) ++ a))) (by rfl) rfl rfl rfl (run_add_bs _ _ _ (by simp; omega)) ?_
  simp only [putT, List.set]
  refine wpV_move (v := .string (bs b)) (by rfl) rfl rfl ?_
  simp only [putT, List.set]
  refine wpV_binS (v := .string (bs ((([1]) ++ a) ++ b))) (by rfl) rfl rfl rfl (run_add_bs _ _ _ (by simp; omega)) ?_
  simp only [putT, List.set]
  refine wpV_callf (v := .string (bs (sha ((([1]) ++ a) ++ b)))) (args := #[.string (bs ((([1]) ++ a) ++ b))]) (by rfl) rfl Tryd.func21 (by kernel_rfl) (by kernel_rfl) rfl (fun W hW => rsum_c (l := (([1]) ++ a) ++ b) (by simp; omega)) ?_
  simp only [putT, List.set]
  refine wpV_nil (hLk _ (fun w5 Sw5 => ?_))
  clear hLk Lk
  simp only [List.take, List.drop]
  replace M := M.sees Sw5
  refine wpL_assign (v := .string (bs (sha ((([1]) ++ a) ++ b)))) (by rfl) (by rfl) (by rfl) ?_
  simp only [putT, List.set]
  refine wpL_nil (no_panic ?_)
  refine hK3 _ _ ?_
  refine wp_ret ?_
  repeat (first | with_reducible refine then_ret ?_ | with_reducible refine inblock_ret ?_)
  refine bodyPost_ret (v := .string (bs (sha ((([1]) ++ a) ++ b)))) (res1 rfl (.tmp (by rfl))) rfl ?_
  have BE := M.below
  exact ⟨rfl, BE⟩
set_option maxHeartbeats 1000000 in
theorem rsplit_c {n : Nat} {w : World} (h2 : 2 ≤ n) (hn : n ≤ 4611686018427387904) :
    Calls Tryd.prog 54 #[.int .i64 ((n : Nat) : Int)] w fun e w' => e = .returned (.int .i64 ((splitN n : Nat) : Int)) ∧ Below w.heap.size w w' := by
  go_enter Tryd.func54, Tryd.ntmps54
  have M := Mem.start w
  refine wp_seq_k (fun K1 hK1 => ?_)
  refine wp_region_seq ?_
  refine wpL_assign (v := .int .i64 0) (by rfl) (by rfl) (by rfl) ?_
  simp only [putT, List.set]
  refine wpL_nil (no_panic ?_)
  refine hK1 _ _ ?_
  refine wp_seq_k (fun K3 hK3 => ?_)
  refine wp_region_seq ?_
  refine wpL_assign (v := .int .i64 1) (by rfl) (by rfl) (by rfl) ?_
  simp only [putT, List.set]
  refine wpL_nil (no_panic ?_)
  refine hK3 _ _ ?_
  refine wp_seq_k (fun K5 hK5 => ?_)
  refine wp_block ?_
  refine wp_loop_ghost (fun n9 a9 W9 => ∃ (k : Nat) (j : Nat) (u6 : Nat → Value), n9 = n - k ∧ a9 = { tmps := #[.int .i64 ((n : Nat) : Int), undef, .int .i64 0, .int .i64 ((k : Nat) : Int), u6 4, u6 5, u6 6, u6 7, u6 8, u6 9, undef], defers := [] } ∧ Mem [] w W9 [] ∧ (k = 2 ^ j) ∧ (k < n)) (n - (1)) ?_ (fun n9 a9 W9 hI => ?_)
  · exact ⟨1, 0, (fun q9 => (#[undef, undef, undef, undef, undef, undef, undef, undef, undef, undef] : Array Value).getD q9 undef), rfl, rfl, M, rfl, (by omega)⟩
  clear M
  obtain ⟨k, j, u6, rfl, rfl, M, hk, hkn⟩ := hI
  obtain ⟨w7, rfl⟩ : ∃ W8, W8 = W9 := ⟨_, rfl⟩
  have hkp : 0 < k := hk ▸ Nat.two_pow_pos j
  refine wp_seq_k (fun K8 hK8 => ?_)
  refine wp_seq_k (fun K9 hK9 => ?_)
  refine wp_region_seq ?_
  refine wpL_move (v := .int .i64 ((k : Nat) : Int)) (by rfl) (by rfl) (by rfl) ?_
  simp only [putT, List.set]
  refine wpL_chunk 3 (by rfl) (fun Lk hLk => ?_)
  simp only [List.take, List.drop]
  refine wpV_bin (v := .int .i64 ((2 * k : Nat) : Int)) (by rfl) rfl rfl rfl (fun W => run_mul (by simp only [IntKind.wrap_i64]; omega) W) ?_
  simp only [putT, List.set]
  refine wpV_move (v := .int .i64 ((n : Nat) : Int)) (by rfl) rfl rfl ?_
  simp only [putT, List.set]
  refine wpV_bin (v := .bool (decide (2 * k < n))) (by rfl) rfl rfl rfl (fun W => run_lssN (2 * k) n _ _ W) ?_
  simp only [putT, List.set]
  refine wpV_nil (hLk _ (fun w11 Sw11 => ?_))
  clear hLk Lk
  simp only [List.take, List.drop]
  replace M := M.sees Sw11
  refine wpL_nil (no_panic ?_)
  refine hK9 _ _ ?_
  cases hc12 : (decide (2 * k < n))
  · skip
    have h2k : ¬ 2 * k < n := of_decide_eq_false hc12
    refine wp_cond_false rfl ?_
    refine wp_exit ?_
    refine hK5 _ _ ?_
    refine wp_seq_k (fun K13 hK13 => ?_)
    refine wp_region_seq ?_
    refine wpL_move (v := .int .i64 ((k : Nat) : Int)) (by rfl) (by rfl) (by rfl) ?_
    simp only [putT, List.set]
    refine wpL_assign (v := .int .i64 ((k : Nat) : Int)) (by rfl) (by rfl) (by rfl) ?_
    simp only [putT, List.set]
    refine wpL_nil (no_panic ?_)
    refine hK13 _ _ ?_
    refine wp_ret ?_
    repeat (first | with_reducible refine then_ret ?_ | with_reducible refine inblock_ret ?_)
    refine bodyPost_ret (v := .int .i64 ((k : Nat) : Int)) (res1 rfl (.tmp (by rfl))) rfl ?_
    have BE := M.below
    exact ⟨by rw [splitN_of (j := j) (by omega) (by omega), hk], BE⟩
  · skip
    have h2k : 2 * k < n := of_decide_eq_true hc12
    refine wp_cond_true rfl ?_
    refine wp_skip ?_
    refine hK8 _ _ ?_
    refine wp_block ?_
    refine wp_region_seq ?_
    refine wpL_move (v := .int .i64 ((k : Nat) : Int)) (by rfl) (by rfl) (by rfl) ?_
    simp only [putT, List.set]
    refine wpL_chunk 1 (by rfl) (fun Lk hLk => ?_)
    simp only [List.take, List.drop]
    refine wpV_bin (v := .int .i64 ((2 * k : Nat) : Int)) (by rfl) rfl rfl rfl (fun W => run_mul (by simp only [IntKind.wrap_i64]; omega) W) ?_
    simp only [putT, List.set]
    refine wpV_nil (hLk _ (fun w16 Sw16 => ?_))
    clear hLk Lk
    simp only [List.take, List.drop]
    replace M := M.sees Sw16
    refine wpL_assign (v := .int .i64 ((2 * k : Nat) : Int)) (by rfl) (by rfl) (by rfl) ?_
    simp only [putT, List.set]
    refine wpL_nil (no_panic ?_)
    refine Exists.intro _ ⟨?_, (2 * k), (j + 1), (fun q9 => (#[undef, undef, undef, undef, .int .i64 ((k : Nat) : Int), .int .i64 ((2 * k : Nat) : Int), .int .i64 ((n : Nat) : Int), .bool true, .int .i64 ((k : Nat) : Int), .int .i64 ((2 * k : Nat) : Int)] : Array Value).getD q9 undef), rfl, rfl, M, (by rw [hk, Nat.pow_succ, Nat.mul_comm]), h2k⟩
    omega
set_option maxHeartbeats 1000000 in
theorem rright_c {ps : List (List UInt8)} {g0 o cg0 ng0 : Nat} {w : World} (hq : ps.length ≤ 4611686018427387904) (hng0 : ng0 = ps.length) (hcg0 : ng0 ≤ cg0) (Lg0 : g0 < w.heap.size) (Rg0_o : w.rangeAt g0 o (scells ps)) :
    Calls Tryd.prog 43 #[.slice (some ⟨g0, o, none⟩) ng0 cg0] w fun e w' => e = .returned (.bool (rightB ps)) ∧ Below w.heap.size w w' := by
  subst hng0
  go_enter Tryd.func43, Tryd.ntmps43
  have M := Mem.start w
  refine wp_seq_k (fun K1 hK1 => ?_)
  refine wp_region_seq ?_
  refine wpL_assign (v := .bool false) (by rfl) (by rfl) (by rfl) ?_
  simp only [putT, List.set]
  refine wpL_nil (no_panic ?_)
  refine hK1 _ _ ?_
  refine wp_seq_k (fun K3 hK3 => ?_)
  refine wp_seq_k (fun K4 hK4 => ?_)
  refine wp_region_seq ?_
  refine wpL_move (v := .slice (some ⟨g0, o, none⟩) ps.length cg0) (by rfl) (by rfl) (by rfl) ?_
  simp only [putT, List.set]
  refine wpL_chunk 1 (by rfl) (fun Lk hLk => ?_)
  simp only [List.take, List.drop]
  refine wpV_lenA (n := ps.length) (by rfl) rfl rfl rfl Tryd.underlying48 ?_
  simp only [putT, List.set]
  refine wpV_nil (hLk _ (fun w6 Sw6 => ?_))
  clear hLk Lk
  simp only [List.take, List.drop]
  replace M := M.sees Sw6
  refine wpL_move (v := .int .i64 0) (by rfl) (by rfl) (by rfl) ?_
  simp only [putT, List.set]
  refine wpL_nil (no_panic ?_)
  refine hK4 _ _ ?_
  refine wp_block ?_
  refine wp_loop_ghost (fun n9 a9 W9 => ∃ (k : Nat) (u7 : Nat → Value), n9 = ps.length - k ∧ a9 = { tmps := #[.slice (some ⟨g0, o, none⟩) ps.length cg0, undef, u7 2, undef, u7 4, .slice (some ⟨g0, o, none⟩) ps.length cg0, .int .i64 ((ps.length : Nat) : Int), .int .i64 ((k : Nat) : Int), u7 8, u7 9, u7 10, u7 11, u7 12, u7 13, u7 14, undef, undef, undef], defers := [] } ∧ Mem [] w W9 [] ∧ (k ≤ ps.length) ∧ (∀ j, j < k → (ps.getD j []).length = 32)) (ps.length - (0)) ?_ (fun n9 a9 W9 hI => ?_)
  · exact ⟨0, (fun q9 => (#[undef, undef, .bool false, undef, undef, undef, undef, undef, undef, undef, undef, undef, undef, undef, undef] : Array Value).getD q9 undef), rfl, rfl, M, (by omega), (fun j hj => absurd hj (Nat.not_lt_zero _))⟩
  clear M
  obtain ⟨k, u7, rfl, rfl, M, hk4, hall⟩ := hI
  obtain ⟨w8, rfl⟩ : ∃ W8, W8 = W9 := ⟨_, rfl⟩
  refine wp_seq_k (fun K9 hK9 => ?_)
  refine wp_region_seq ?_
  refine wpL_chunk 1 (by rfl) (fun Lk hLk => ?_)
  simp only [List.take, List.drop]
  refine wpV_bin (v := .bool (decide (k < ps.length))) (by rfl) rfl rfl rfl (fun W => run_lssN k ps.length _ _ W) ?_
  simp only [putT, List.set]
  refine wpV_nil (hLk _ (fun w11 Sw11 => ?_))
  clear hLk Lk
  simp only [List.take, List.drop]
  replace M := M.sees Sw11
  refine wpL_nil (no_panic ?_)
  refine hK9 _ _ ?_
  refine wp_seq_k (fun K12 hK12 => ?_)
  cases hc13 : (decide (k < ps.length))
  · skip
    have ek : k = ps.length := by have := of_decide_eq_false hc13; omega
    subst ek
    refine wp_cond_false rfl ?_
    refine wp_exit ?_
    refine hK3 _ _ ?_
    refine wp_seq_k (fun K14 hK14 => ?_)
    refine wp_region_seq ?_
    refine wpL_move (v := .slice (some ⟨g0, o, none⟩) ps.length cg0) (by rfl) (by rfl) (by rfl) ?_
    simp only [putT, List.set]
    refine wpL_chunk 2 (by rfl) (fun Lk hLk => ?_)
    simp only [List.take, List.drop]
    refine wpV_lenA (n := ps.length) (by rfl) rfl rfl rfl Tryd.underlying48 ?_
    simp only [putT, List.set]
    refine wpV_bin (v := .bool (decide (ps.length ≤ 4096))) (by rfl) rfl rfl rfl (fun W => run_leqN ps.length 4096 _ _ W) ?_
    simp only [putT, List.set]
    refine wpV_nil (hLk _ (fun w16 Sw16 => ?_))
    clear hLk Lk
    simp only [List.take, List.drop]
    replace M := M.sees Sw16
    refine wpL_assign (v := .bool (decide (ps.length ≤ 4096))) (by rfl) (by rfl) (by rfl) ?_
    simp only [putT, List.set]
    refine wpL_nil (no_panic ?_)
    refine hK14 _ _ ?_
    refine wp_ret ?_
    repeat (first | with_reducible refine then_ret ?_ | with_reducible refine inblock_ret ?_)
    refine bodyPost_ret (v := .bool (decide (ps.length ≤ 4096))) (res1 rfl (.tmp (by rfl))) rfl ?_
    have BE := M.below
    exact ⟨by rw [right_all hall], BE⟩
  · skip
    have hk : k < ps.length := of_decide_eq_true hc13
    refine wp_cond_true rfl ?_
    refine wp_skip ?_
    refine hK12 _ _ ?_
    refine wp_seq_k (fun K17 hK17 => ?_)
    refine wp_block ?_
    refine wp_seq_k (fun K18 hK18 => ?_)
    refine wp_region_seq ?_
    refine wpL_chunk 2 (by rfl) (fun Lk hLk => ?_)
    simp only [List.take, List.drop]
    refine wpV_idxs (n := k) (by rfl) rfl rfl rfl Tryd.underlying48 info9 (by omega) ?_
    simp only [putT, List.set]
    refine wpV_load1 (v := .string (bs (ps.getD k []))) (by rfl) rfl rfl ((M.oldR Rg0_o Lg0) _ _ (scells_get (ps := ps) (by omega))) (M.oldL Lg0) Tryd.underlying9 rfl ?_
    simp only [putT, List.set]
    refine wpV_nil (hLk _ (fun w20 Sw20 => ?_))
    clear hLk Lk
    simp only [List.take, List.drop]
    replace M := M.sees Sw20
    refine wpL_assign (v := .string (bs (ps.getD k []))) (by rfl) (by rfl) (by rfl) ?_
    simp only [putT, List.set]
    refine wpL_nil (no_panic ?_)
    refine hK18 _ _ ?_
    refine wp_seq_k (fun K21 hK21 => ?_)
    refine wp_region_seq ?_
    refine wpL_move (v := .string (bs (ps.getD k []))) (by rfl) (by rfl) (by rfl) ?_
    simp only [putT, List.set]
    refine wpL_chunk 2 (by rfl) (fun Lk hLk => ?_)
    simp only [List.take, List.drop]
    refine wpV_lenS (by rfl) rfl rfl rfl Tryd.underlying9 ?_
    simp only [putT, List.set]
    refine wpV_bin (v := .bool (decide ((ps.getD k []).length ≠ 32))) (by rfl) rfl rfl rfl (fun W => run_neqN ((ps.getD k []).length) 32 _ _ W) ?_
    simp only [putT, List.set]
    refine wpV_nil (hLk _ (fun w23 Sw23 => ?_))
    clear hLk Lk
    simp only [List.take, List.drop]
    replace M := M.sees Sw23
    refine wpL_nil (no_panic ?_)
    refine hK21 _ _ ?_
    cases hc24 : (decide ((ps.getD k []).length ≠ 32))
    · skip
      have hgood : (ps.getD k []).length = 32 := Decidable.not_not.1 (of_decide_eq_false hc24)
      refine wp_cond_false rfl ?_
      refine wp_skip ?_
      refine hK17 _ _ ?_
      refine wp_region_seq ?_
      refine wpL_chunk 1 (by rfl) (fun Lk hLk => ?_)
      simp only [List.take, List.drop]
      refine wpV_bin (v := .int .i64 ((k + 1 : Nat) : Int)) (by rfl) rfl rfl rfl (fun W => run_add (by simp only [IntKind.wrap_i64]; omega) W) ?_
      simp only [putT, List.set]
      refine wpV_nil (hLk _ (fun w26 Sw26 => ?_))
      clear hLk Lk
      simp only [List.take, List.drop]
      replace M := M.sees Sw26
      refine wpL_move (v := .int .i64 ((k + 1 : Nat) : Int)) (by rfl) (by rfl) (by rfl) ?_
      simp only [putT, List.set]
      refine wpL_nil (no_panic ?_)
      refine Exists.intro _ ⟨?_, (k + 1), (fun q9 => (#[undef, undef, u7 2, undef, .string (bs (ps.getD k [])), undef, undef, undef, .bool true, .pointer (some ⟨g0, o + k, none⟩), .string (bs (ps.getD k [])), .string (bs (ps.getD k [])), .int .i64 (((ps.getD k []).length : Nat) : Int), .bool false, .int .i64 ((k + 1 : Nat) : Int)] : Array Value).getD q9 undef), rfl, rfl, M, (by omega), (fun j hj => (Nat.lt_succ_iff_lt_or_eq.1 hj).elim (hall j) (fun e => e ▸ hgood))⟩
      omega
    · skip
      have hgood : (ps.getD k []).length ≠ 32 := of_decide_eq_true hc24
      refine wp_cond_true rfl ?_
      refine wp_seq_k (fun K27 hK27 => ?_)
      refine wp_region_seq ?_
      refine wpL_assign (v := .bool false) (by rfl) (by rfl) (by rfl) ?_
      simp only [putT, List.set]
      refine wpL_nil (no_panic ?_)
      refine hK27 _ _ ?_
      refine wp_ret ?_
      repeat (first | with_reducible refine then_ret ?_ | with_reducible refine inblock_ret ?_)
      refine bodyPost_ret (v := .bool false) (res1 rfl (.tmp (by rfl))) rfl ?_
      have BE := M.below
      exact ⟨by rw [right_bad hk hgood], BE⟩
set_option maxHeartbeats 1000000 in
theorem rright_c0  {w : World}  :
    Calls Tryd.prog 43 #[.slice none 0 0] w fun e w' => e = .returned (.bool true) ∧ Below w.heap.size w w' := by
  go_enter Tryd.func43, Tryd.ntmps43
  have M := Mem.start w
  refine wp_seq_k (fun K1 hK1 => ?_)
  refine wp_region_seq ?_
  refine wpL_assign (v := .bool false) (by rfl) (by rfl) (by rfl) ?_
  simp only [putT, List.set]
  refine wpL_nil (no_panic ?_)
  refine hK1 _ _ ?_
  refine wp_seq_k (fun K3 hK3 => ?_)
  refine wp_seq_k (fun K4 hK4 => ?_)
  refine wp_region_seq ?_
  refine wpL_move (v := .slice none 0 0) (by rfl) (by rfl) (by rfl) ?_
  simp only [putT, List.set]
  refine wpL_chunk 1 (by rfl) (fun Lk hLk => ?_)
  simp only [List.take, List.drop]
  refine wpV_lenA (n := 0) (by rfl) rfl rfl rfl Tryd.underlying48 ?_
  simp only [putT, List.set]
  refine wpV_nil (hLk _ (fun w6 Sw6 => ?_))
  clear hLk Lk
  simp only [List.take, List.drop]
  replace M := M.sees Sw6
  refine wpL_move (v := .int .i64 0) (by rfl) (by rfl) (by rfl) ?_
  simp only [putT, List.set]
  refine wpL_nil (no_panic ?_)
  refine hK4 _ _ ?_
  refine wp_block ?_
  refine wp_loop_rounds 2 ?_
  rw [rounds_succ]
  refine wp_seq_k (fun K7 hK7 => ?_)
  refine wp_region_seq ?_
  refine wpL_chunk 1 (by rfl) (fun Lk hLk => ?_)
  simp only [List.take, List.drop]
  refine wpV_bin (v := .bool false) (by rfl) rfl rfl rfl (fun W => run_lss _ _ _ _ W) ?_
  simp only [putT, List.set]
  refine wpV_nil (hLk _ (fun w9 Sw9 => ?_))
  clear hLk Lk
  simp only [List.take, List.drop]
  replace M := M.sees Sw9
  refine wpL_nil (no_panic ?_)
  refine hK7 _ _ ?_
  refine wp_seq_k (fun K10 hK10 => ?_)
  refine wp_cond_false rfl ?_
  refine wp_exit ?_
  refine hK3 _ _ ?_
  refine wp_seq_k (fun K11 hK11 => ?_)
  refine wp_region_seq ?_
  refine wpL_move (v := .slice none 0 0) (by rfl) (by rfl) (by rfl) ?_
  simp only [putT, List.set]
  refine wpL_chunk 2 (by rfl) (fun Lk hLk => ?_)
  simp only [List.take, List.drop]
  refine wpV_lenA (n := 0) (by rfl) rfl rfl rfl Tryd.underlying48 ?_
  simp only [putT, List.set]
  refine wpV_bin (v := .bool true) (by rfl) rfl rfl rfl (fun W => run_leq _ _ _ _ W) ?_
  simp only [putT, List.set]
  refine wpV_nil (hLk _ (fun w13 Sw13 => ?_))
  clear hLk Lk
  simp only [List.take, List.drop]
  replace M := M.sees Sw13
  refine wpL_assign (v := .bool true) (by rfl) (by rfl) (by rfl) ?_
  simp only [putT, List.set]
  refine wpL_nil (no_panic ?_)
  refine hK11 _ _ ?_
  refine wp_ret ?_
  repeat (first | with_reducible refine then_ret ?_ | with_reducible refine inblock_ret ?_)
  refine bodyPost_ret (v := .bool true) (res1 rfl (.tmp (by rfl))) rfl ?_
  have BE := M.below
  exact ⟨rfl, BE⟩
set_option maxHeartbeats 4000000 in
theorem rroot_c : ∀ (N : Nat) {ps : List (List UInt8)} {g0 o cg0 ng0 : Nat} {w : World} (hN : ps.length = N) (h4 : ps.length ≤ 4096) (hs : ∀ s ∈ ps, s.length = 32)  (hng0 : ng0 = ps.length) (hcg0 : ng0 ≤ cg0) (Lg0 : g0 < w.heap.size) (Rg0_o : w.rangeAt g0 o (scells ps)),
    Calls Tryd.prog 45 #[.slice (some ⟨g0, o, none⟩) ng0 cg0] w fun e w' => e = .returned (.string (bs (rootS ps))) ∧ Below w.heap.size w w' := by
  intro N
  induction N using Nat.strongRecOn with
  | _ N ih =>
    intro ps g0 o cg0 ng0 w hN h4 hs hng0 hcg0 Lg0 Rg0_o
    subst hng0 hN
    go_enter Tryd.func45, Tryd.ntmps45
    have M := Mem.start w
    refine wp_seq_k (fun K1 hK1 => ?_)
    refine wp_region_seq ?_
    refine wpL_assign (v := .string (bs ([]))) (by rfl) (by rfl) (by rfl) ?_
    simp only [putT, List.set]
    refine wpL_nil (no_panic ?_)
    refine hK1 _ _ ?_
    refine wp_seq_k (fun K3 hK3 => ?_)
    refine wp_seq_k (fun K4 hK4 => ?_)
    refine wp_region_seq ?_
    refine wpL_move (v := .slice (some ⟨g0, o, none⟩) ps.length cg0) (by rfl) (by rfl) (by rfl) ?_
    simp only [putT, List.set]
    refine wpL_chunk 2 (by rfl) (fun Lk hLk => ?_)
    simp only [List.take, List.drop]
    refine wpV_lenA (n := ps.length) (by rfl) rfl rfl rfl Tryd.underlying48 ?_
    simp only [putT, List.set]
    refine wpV_bin (v := .bool (decide (ps.length = 0))) (by rfl) rfl rfl rfl (fun W => run_eqlN ps.length 0 _ _ W) ?_
    simp only [putT, List.set]
    refine wpV_nil (hLk _ (fun w6 Sw6 => ?_))
    clear hLk Lk
    simp only [List.take, List.drop]
    replace M := M.sees Sw6
    refine wpL_nil (no_panic ?_)
    refine hK4 _ _ ?_
    cases hc7 : (decide (ps.length = 0))
    · skip
      have hn0 : ¬ ps.length = 0 := of_decide_eq_false hc7
      refine wp_cond_false rfl ?_
      refine wp_skip ?_
      refine hK3 _ _ ?_
      refine wp_seq_k (fun K8 hK8 => ?_)
      refine wp_seq_k (fun K9 hK9 => ?_)
      refine wp_region_seq ?_
      refine wpL_move (v := .slice (some ⟨g0, o, none⟩) ps.length cg0) (by rfl) (by rfl) (by rfl) ?_
      simp only [putT, List.set]
      refine wpL_chunk 2 (by rfl) (fun Lk hLk => ?_)
      simp only [List.take, List.drop]
      refine wpV_lenA (n := ps.length) (by rfl) rfl rfl rfl Tryd.underlying48 ?_
      simp only [putT, List.set]
      refine wpV_bin (v := .bool (decide (ps.length = 1))) (by rfl) rfl rfl rfl (fun W => run_eqlN ps.length 1 _ _ W) ?_
      simp only [putT, List.set]
      refine wpV_nil (hLk _ (fun w11 Sw11 => ?_))
      clear hLk Lk
      simp only [List.take, List.drop]
      replace M := M.sees Sw11
      refine wpL_nil (no_panic ?_)
      refine hK9 _ _ ?_
      cases hc12 : (decide (ps.length = 1))
      · skip
        have hn1 : ¬ ps.length = 1 := of_decide_eq_false hc12
        have h2 : 2 ≤ ps.length := by omega
        obtain ⟨sb1, sb2, sb3⟩ := split_bits (n := ps.length) (by omega) h2
        have hsl := splitN_lt h2
        have hsp := splitN_pos ps.length
        refine wp_cond_false rfl ?_
        refine wp_skip ?_
        refine hK8 _ _ ?_
        refine wp_seq_k (fun K13 hK13 => ?_)
        refine wp_region_seq ?_
        refine wpL_move (v := .slice (some ⟨g0, o, none⟩) ps.length cg0) (by rfl) (by rfl) (by rfl) ?_
        simp only [putT, List.set]
        refine wpL_chunk 2 (by rfl) (fun Lk hLk => ?_)
        simp only [List.take, List.drop]
        refine wpV_lenA (n := ps.length) (by rfl) rfl rfl rfl Tryd.underlying48 ?_
        simp only [putT, List.set]
        refine wpV_callf (v := .int .i64 ((splitN ps.length : Nat) : Int)) (args := #[.int .i64 ((ps.length : Nat) : Int)]) (by rfl) rfl Tryd.func54 (by kernel_rfl) (by kernel_rfl) rfl (fun W hW => rsplit_c (n := ps.length) h2 (by omega)) ?_
        simp only [putT, List.set]
        refine wpV_nil (hLk _ (fun w15 Sw15 => ?_))
        clear hLk Lk
        simp only [List.take, List.drop]
        replace M := M.sees Sw15
        refine wpL_assign (v := .int .i64 ((splitN ps.length : Nat) : Int)) (by rfl) (by rfl) (by rfl) ?_
        simp only [putT, List.set]
        refine wpL_nil (no_panic ?_)
        refine hK13 _ _ ?_
        refine wp_seq_k (fun K16 hK16 => ?_)
        refine wp_region_grow 9 [] (by kernel_rfl) (by kernel_rfl) (by kernel_rfl) (fun Lk hLk => ?_)
        simp only [List.take, List.drop]
        refine wpV_move (v := .slice (some ⟨g0, o, none⟩) ps.length cg0) (by rfl) rfl rfl ?_
        simp only [putT, List.set]
        refine wpV_move (v := .int .i64 ((splitN ps.length : Nat) : Int)) (by rfl) rfl rfl ?_
        simp only [putT, List.set]
        refine wpV_sliceH (hi := splitN ps.length) (by rfl) rfl rfl rfl Tryd.underlying48 info9 (Nat.le_trans (Nat.le_of_lt hsl) hcg0) ?_
        simp only [putT, List.set]
        refine wpV_callf (v := .string (bs (rootS (ps.take (splitN ps.length))))) (args := #[.slice (some ⟨g0, o, none⟩) (splitN ps.length) cg0]) (by rfl) rfl Tryd.func45 (by kernel_rfl) (by kernel_rfl) rfl (fun W hW => ih (ps.take (splitN ps.length)).length (by rw [List.length_take]; omega) (ps := ps.take (splitN ps.length)) rfl (by rw [List.length_take]; omega) (fun s9 h9 => hs s9 (List.mem_of_mem_take h9))  (by rw [List.length_take]; omega) (Nat.le_trans (Nat.le_of_lt hsl) hcg0) ((M.sees hW).oldL Lg0) (range_stake (splitN ps.length) ((M.sees hW).oldR Rg0_o Lg0))) ?_
        simp only [putT, List.set]
        refine wpV_move (v := .slice (some ⟨g0, o, none⟩) ps.length cg0) (by rfl) rfl rfl ?_
        simp only [putT, List.set]
        refine wpV_move (v := .int .i64 ((splitN ps.length : Nat) : Int)) (by rfl) rfl rfl ?_
        simp only [putT, List.set]
        refine wpV_sliceL (lo := splitN ps.length) (by rfl) rfl rfl rfl Tryd.underlying48 info9 (Nat.le_of_lt hsl) hcg0 (Nat.lt_of_lt_of_le hsl hcg0) ?_
        simp only [putT, List.set]
        refine wpV_callf (v := .string (bs (rootS (ps.drop (splitN ps.length))))) (args := #[.slice (some ⟨g0, o + splitN ps.length, none⟩) (ps.length - splitN ps.length) (cg0 - splitN ps.length)]) (by rfl) rfl Tryd.func45 (by kernel_rfl) (by kernel_rfl) rfl (fun W hW => ih (ps.drop (splitN ps.length)).length (by rw [List.length_drop]; omega) (ps := ps.drop (splitN ps.length)) rfl (by rw [List.length_drop]; omega) (fun s9 h9 => hs s9 (List.mem_of_mem_drop h9))  (by rw [List.length_drop]) (Nat.sub_le_sub_right hcg0 _) ((M.sees hW).oldL Lg0) (range_sdrop (k := splitN ps.length) (Nat.le_of_lt hsl) ((M.sees hW).oldR Rg0_o Lg0))) ?_
        simp only [putT, List.set]
        refine wpV_callf (v := .string (bs (nodeS (rootS (ps.take (splitN ps.length))) (rootS (ps.drop (splitN ps.length)))))) (args := #[.string (bs (rootS (ps.take (splitN ps.length)))), .string (bs (rootS (ps.drop (splitN ps.length))))]) (by rfl) rfl Tryd.func41 (by kernel_rfl) (by kernel_rfl) rfl (fun W hW => rnode_c (a := rootS (ps.take (splitN ps.length))) (b := rootS (ps.drop (splitN ps.length))) (by rw [rootS_len (fun s9 h9 => hs s9 (List.mem_of_mem_take h9))]; decide) (by rw [rootS_len (fun s9 h9 => hs s9 (List.mem_of_mem_drop h9))]; decide)) ?_
        simp only [putT, List.set]
        refine wpV_nil (hLk.out _ ?_)
        clear hLk Lk
        simp only [List.take, List.drop]
        iterate 9 refine wpN_skip (by rfl) ?_
        refine wpN_nil (fun w18 Sw18 hbs => ?_)
        clear hbs
        replace M := M.sees Sw18
        refine wpL_assign (v := .string (bs (nodeS (rootS (ps.take (splitN ps.length))) (rootS (ps.drop (splitN ps.length)))))) (by rfl) (by rfl) (by rfl) ?_
        simp only [putT, List.set]
        refine wpL_nil (no_panic ?_)
        refine hK16 _ _ ?_
        refine wp_ret ?_
        repeat (first | with_reducible refine then_ret ?_ | with_reducible refine inblock_ret ?_)
        refine bodyPost_ret (v := .string (bs (nodeS (rootS (ps.take (splitN ps.length))) (rootS (ps.drop (splitN ps.length)))))) (res1 rfl (.tmp (by rfl))) rfl ?_
        have BE := M.below
        exact ⟨by rw [rootS_2 h2], BE⟩
      · skip
        have hn1 : ps.length = 1 := of_decide_eq_true hc12
        refine wp_cond_true rfl ?_
        refine wp_seq_k (fun K19 hK19 => ?_)
        refine wp_region_seq ?_
        refine wpL_move (v := .slice (some ⟨g0, o, none⟩) ps.length cg0) (by rfl) (by rfl) (by rfl) ?_
        simp only [putT, List.set]
        refine wpL_chunk 2 (by rfl) (fun Lk hLk => ?_)
        simp only [List.take, List.drop]
        refine wpV_idxs (n := 0) (by rfl) rfl rfl rfl Tryd.underlying48 info9 (by omega) ?_
        simp only [putT, List.set]
        refine wpV_load1 (v := .string (bs (ps.getD 0 []))) (by rfl) rfl rfl ((M.oldR Rg0_o Lg0) _ _ (scells_get (ps := ps) (by omega))) (M.oldL Lg0) Tryd.underlying9 rfl ?_
        simp only [putT, List.set]
        refine wpV_nil (hLk _ (fun w21 Sw21 => ?_))
        clear hLk Lk
        simp only [List.take, List.drop]
        replace M := M.sees Sw21
        refine wpL_assign (v := .string (bs (ps.getD 0 []))) (by rfl) (by rfl) (by rfl) ?_
        simp only [putT, List.set]
        refine wpL_nil (no_panic ?_)
        refine hK19 _ _ ?_
        refine wp_ret ?_
        repeat (first | with_reducible refine then_ret ?_ | with_reducible refine inblock_ret ?_)
        refine bodyPost_ret (v := .string (bs (ps.getD 0 []))) (res1 rfl (.tmp (by rfl))) rfl ?_
        have BE := M.below
        exact ⟨by rw [rootS_1 hn1], BE⟩
    · skip
      have hn0 : ps.length = 0 := of_decide_eq_true hc7
      refine wp_cond_true rfl ?_
      refine wp_seq_k (fun K22 hK22 => ?_)
      refine wp_region_seq ?_
      refine wpL_chunk 1 (by rfl) (fun Lk hLk => ?_)
      simp only [List.take, List.drop]
      refine wpV_callf (v := .string (bs (sha ([])))) (args := #[.string (bs ([]))]) (by rfl) rfl Tryd.func21 (by kernel_rfl) (by kernel_rfl) rfl (fun W hW => rsum_c (l := []) (by decide)) ?_
      simp only [putT, List.set]
      refine wpV_nil (hLk _ (fun w24 Sw24 => ?_))
      clear hLk Lk
      simp only [List.take, List.drop]
      replace M := M.sees Sw24
      refine wpL_assign (v := .string (bs (sha ([])))) (by rfl) (by rfl) (by rfl) ?_
      simp only [putT, List.set]
      refine wpL_nil (no_panic ?_)
      refine hK22 _ _ ?_
      refine wp_ret ?_
      repeat (first | with_reducible refine then_ret ?_ | with_reducible refine inblock_ret ?_)
      refine bodyPost_ret (v := .string (bs (sha ([])))) (res1 rfl (.tmp (by rfl))) rfl ?_
      have BE := M.below
      exact ⟨by rw [rootS_0 hn0], BE⟩
set_option maxHeartbeats 1000000 in
theorem rroot_c0  {w : World}  :
    Calls Tryd.prog 45 #[.slice none 0 0] w fun e w' => e = .returned (.string (bs (rootS []))) ∧ Below w.heap.size w w' := by
  go_enter Tryd.func45, Tryd.ntmps45
  have M := Mem.start w
  refine wp_seq_k (fun K1 hK1 => ?_)
  refine wp_region_seq ?_
  refine wpL_assign (v := .string (bs ([]))) (by rfl) (by rfl) (by rfl) ?_
  simp only [putT, List.set]
  refine wpL_nil (no_panic ?_)
  refine hK1 _ _ ?_
  refine wp_seq_k (fun K3 hK3 => ?_)
  refine wp_seq_k (fun K4 hK4 => ?_)
  refine wp_region_seq ?_
  refine wpL_move (v := .slice none 0 0) (by rfl) (by rfl) (by rfl) ?_
  simp only [putT, List.set]
  refine wpL_chunk 2 (by rfl) (fun Lk hLk => ?_)
  simp only [List.take, List.drop]
  refine wpV_lenA (n := 0) (by rfl) rfl rfl rfl Tryd.underlying48 ?_
  simp only [putT, List.set]
  refine wpV_bin (v := .bool true) (by rfl) rfl rfl rfl (fun W => (run_eqlN 0 0 _ _ W).trans (by rw [(show decide (0 = 0) = true from rfl)])) ?_
  simp only [putT, List.set]
  refine wpV_nil (hLk _ (fun w6 Sw6 => ?_))
  clear hLk Lk
  simp only [List.take, List.drop]
  replace M := M.sees Sw6
  refine wpL_nil (no_panic ?_)
  refine hK4 _ _ ?_
  refine wp_cond_true rfl ?_
  refine wp_seq_k (fun K7 hK7 => ?_)
  refine wp_region_seq ?_
  refine wpL_chunk 1 (by rfl) (fun Lk hLk => ?_)
  simp only [List.take, List.drop]
  refine wpV_callf (v := .string (bs (sha ([])))) (args := #[.string (bs ([]))]) (by rfl) rfl Tryd.func21 (by kernel_rfl) (by kernel_rfl) rfl (fun W hW => rsum_c (l := []) (by decide)) ?_
  simp only [putT, List.set]
  refine wpV_nil (hLk _ (fun w9 Sw9 => ?_))
  clear hLk Lk
  simp only [List.take, List.drop]
  replace M := M.sees Sw9
  refine wpL_assign (v := .string (bs (sha ([])))) (by rfl) (by rfl) (by rfl) ?_
  simp only [putT, List.set]
  refine wpL_nil (no_panic ?_)
  refine hK7 _ _ ?_
  refine wp_ret ?_
  repeat (first | with_reducible refine then_ret ?_ | with_reducible refine inblock_ret ?_)
  refine bodyPost_ret (v := .string (bs (sha ([])))) (res1 rfl (.tmp (by rfl))) rfl ?_
  have BE := M.below
  exact ⟨by rw [rootS_0 rfl], BE⟩
end Go.Proofs.Yb
