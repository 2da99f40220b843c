import Derived.WalkKit
import Derived.WalkSpells
import Derived.Laws.Pointers
import Derived.RowKit3
import Derived.Below
import Derived.Outline
import Derived.LoopN
import Derived.Lib.Hide
import Derived.Handy
import Derived.Laws.Bits64b
import Derived.Test.YticcchgckljlnaaDoorTr3
import Derived.Test.YticcchgckljlnaaDoorTrP
set_option linter.unusedSimpArgs false
set_option linter.unusedVariables false
namespace Go.Proofs.Yb
open Go Go.RowKit Go.Proofs.Num
attribute [local irreducible] wpV wpN wpList
theorem same_all {ps qs : List (List UInt8)} (h : ps.length = qs.length) (hall : ∀ j, j < ps.length → ps.getD j [] = qs.getD j []) : ps = qs := by
  refine List.ext_getElem h fun i h1 h2 => ?_
  have := hall i h1
  simpa [List.getD_eq_getElem?_getD, h1, h2] using this
set_option maxHeartbeats 2000000 in
theorem idx1_r {ps : List (List UInt8)} {ap : Option Addr} {np cp : Nat} {w : World} (hq : ps.length ≤ 4611686018427387904) (Hp : RowA w ap np cp (scells ps)) :
    Calls Tryd.prog 109 #[.slice ap np cp, .func (.func 97) #[] #[]] w fun e w' => e = .returned (.int .i64 (badI ps)) ∧ Below w.heap.size w w' := by
  obtain rfl : np = ps.length := by have := Hp.len; rwa [scells_len] at this
  go_enter Tryd.func109, Tryd.ntmps109
  have M := Mem.start w
  refine wp_seq_k (fun K1 hK1 => ?_)
  refine wp_region_seq ?_
  refine wpL_assign (v := .int .i64 0) (by rfl) (by rfl) (by rfl) ?_
  simp only [putT, List.set]
  refine wpL_nil (no_panic ?_)
  refine hK1 _ _ ?_
  refine wp_seq_k (fun K3 hK3 => ?_)
  refine wp_seq_k (fun K4 hK4 => ?_)
  refine wp_region_seq ?_
  refine wpL_move (v := .slice ap ps.length cp) (by rfl) (by rfl) (by rfl) ?_
  simp only [putT, List.set]
  refine wpL_chunk 1 (by rfl) (fun Lk hLk => ?_)
  simp only [List.take, List.drop]
  refine wpV_lenA (n := ps.length) (by rfl) rfl rfl rfl Tryd.underlying48 ?_
  simp only [putT, List.set]
  refine wpV_nil (hLk _ (fun w6 Sw6 => ?_))
  clear hLk Lk
  simp only [List.take, List.drop]
  replace M := M.sees Sw6
  refine wpL_move (v := .int .i64 0) (by rfl) (by rfl) (by rfl) ?_
  simp only [putT, List.set]
  refine wpL_nil (no_panic ?_)
  refine hK4 _ _ ?_
  refine wp_block ?_
  refine wp_loop_ghost (fun n9 a9 W9 => ∃ (k : Nat) (u7 : Nat → Value), n9 = ps.length - k ∧ a9 = { tmps := #[.slice ap ps.length cp, .func (.func 97) #[] #[], undef, undef, u7 4, u7 5, .slice ap ps.length cp, .int .i64 ((ps.length : Nat) : Int), .int .i64 ((k : Nat) : Int), u7 9, u7 10, u7 11, u7 12, u7 13, u7 14, u7 15, u7 16, u7 17, u7 18], defers := [] } ∧ Mem [] w W9 [] ∧ (k ≤ ps.length) ∧ (∀ j, j < k → (ps.getD j []).length = 32)) (ps.length - (0)) ?_ (fun n9 a9 W9 hI => ?_)
  · exact ⟨0, (fun q9 => (#[undef, undef, undef, undef, .int .i64 0, undef, undef, undef, undef, undef, undef, undef, undef, undef, undef, undef, undef, undef, undef] : Array Value).getD q9 undef), rfl, rfl, M, (by omega), (fun j hj => absurd hj (Nat.not_lt_zero _))⟩
  clear M
  obtain ⟨k, u7, rfl, rfl, M, hk4, hall⟩ := hI
  obtain ⟨w8, rfl⟩ : ∃ W8, W8 = W9 := ⟨_, rfl⟩
  refine wp_seq_k (fun K9 hK9 => ?_)
  refine wp_region_seq ?_
  refine wpL_chunk 1 (by rfl) (fun Lk hLk => ?_)
  simp only [List.take, List.drop]
  refine wpV_bin (v := .bool (decide (k < ps.length))) (by rfl) rfl rfl rfl (fun W => run_lssN k ps.length _ _ W) ?_
  simp only [putT, List.set]
  refine wpV_nil (hLk _ (fun w11 Sw11 => ?_))
  clear hLk Lk
  simp only [List.take, List.drop]
  replace M := M.sees Sw11
  refine wpL_nil (no_panic ?_)
  refine hK9 _ _ ?_
  refine wp_seq_k (fun K12 hK12 => ?_)
  cases hc13 : (decide (k < ps.length))
  · skip
    have ek : k = ps.length := by have := of_decide_eq_false hc13; omega
    subst ek
    refine wp_cond_false rfl ?_
    refine wp_exit ?_
    refine hK3 _ _ ?_
    refine wp_seq_k (fun K14 hK14 => ?_)
    refine wp_region_seq ?_
    refine wpL_assign (v := .int .i64 (-1)) (by rfl) (by rfl) (by rfl) ?_
    simp only [putT, List.set]
    refine wpL_nil (no_panic ?_)
    refine hK14 _ _ ?_
    refine wp_ret ?_
    repeat (first | with_reducible refine then_ret ?_ | with_reducible refine inblock_ret ?_)
    refine bodyPost_ret (v := .int .i64 (-1)) (res1 rfl (.tmp (by rfl))) rfl ?_
    have BE := M.below
    exact ⟨by rw [badI_none hall], BE⟩
  · skip
    have hk : k < ps.length := of_decide_eq_true hc13
    refine wp_cond_true rfl ?_
    refine wp_skip ?_
    refine hK12 _ _ ?_
    refine wp_seq_k (fun K16 hK16 => ?_)
    refine wp_block ?_
    refine wp_seq_k (fun K17 hK17 => ?_)
    refine wp_region_seq ?_
    refine wpL_move (v := .int .i64 ((k : Nat) : Int)) (by rfl) (by rfl) (by rfl) ?_
    simp only [putT, List.set]
    refine wpL_assign (v := .int .i64 ((k : Nat) : Int)) (by rfl) (by rfl) (by rfl) ?_
    simp only [putT, List.set]
    refine wpL_nil (no_panic ?_)
    refine hK17 _ _ ?_
    refine wp_seq_k (fun K19 hK19 => ?_)
    refine wp_region_seq ?_
    refine wpL_move (v := .func (.func 97) #[] #[]) (by rfl) (by rfl) (by rfl) ?_
    simp only [putT, List.set]
    refine wpL_move (v := .slice ap ps.length cp) (by rfl) (by rfl) (by rfl) ?_
    simp only [putT, List.set]
    refine wpL_move (v := .int .i64 ((k : Nat) : Int)) (by rfl) (by rfl) (by rfl) ?_
    simp only [putT, List.set]
    refine wpL_chunk 3 (by rfl) (fun Lk hLk => ?_)
    simp only [List.take, List.drop]
    refine wpV_idxA (i := k) (by rfl) rfl rfl rfl Tryd.underlying48 info9 (M.oldA Hp) (by omega) ?_
    simp only [putT, List.set]
    refine wpV_loadA (i := k) (v := .string (bs (ps.getD k []))) (by rfl) rfl rfl (M.oldA Hp) (scells_get (ps := ps) (by omega)) Tryd.underlying9 rfl ?_
    simp only [putT, List.set]
    refine wpV_callv (v := .bool (decide ((ps.getD k []).length ≠ 32))) (args := #[.string (bs (ps.getD k []))]) (by rfl) rfl rfl Tryd.func97 (by kernel_rfl) (by kernel_rfl) rfl (fun W hW => wellF_c) ?_
    simp only [putT, List.set]
    refine wpV_nil (hLk _ (fun w21 Sw21 => ?_))
    clear hLk Lk
    simp only [List.take, List.drop]
    replace M := M.sees Sw21
    refine wpL_nil (no_panic ?_)
    refine hK19 _ _ ?_
    cases hc22 : (decide ((ps.getD k []).length ≠ 32))
    · skip
      have hgood : (ps.getD k []).length = 32 := Decidable.not_not.1 (of_decide_eq_false hc22)
      refine wp_cond_false rfl ?_
      refine wp_skip ?_
      refine hK16 _ _ ?_
      refine wp_region_seq ?_
      refine wpL_chunk 1 (by rfl) (fun Lk hLk => ?_)
      simp only [List.take, List.drop]
      refine wpV_bin (v := .int .i64 ((k + 1 : Nat) : Int)) (by rfl) rfl rfl rfl (fun W => run_add (by simp only [IntKind.wrap_i64]; omega) W) ?_
      simp only [putT, List.set]
      refine wpV_nil (hLk _ (fun w24 Sw24 => ?_))
      clear hLk Lk
      simp only [List.take, List.drop]
      replace M := M.sees Sw24
      refine wpL_move (v := .int .i64 ((k + 1 : Nat) : Int)) (by rfl) (by rfl) (by rfl) ?_
      simp only [putT, List.set]
      refine wpL_nil (no_panic ?_)
      refine Exists.intro _ ⟨?_, (k + 1), (fun q9 => (#[undef, undef, undef, undef, u7 4, .int .i64 ((k : Nat) : Int), undef, undef, undef, .bool true, .int .i64 ((k : Nat) : Int), .func (.func 97) #[] #[], .slice ap ps.length cp, .int .i64 ((k : Nat) : Int), .pointer (ap.map (·.add k)), .string (bs (ps.getD k [])), .bool false, u7 17, .int .i64 ((k + 1 : Nat) : Int)] : Array Value).getD q9 undef), rfl, rfl, M, (by omega), (fun j hj => (Nat.lt_succ_iff_lt_or_eq.1 hj).elim (hall j) (fun e => e ▸ hgood))⟩
      omega
    · skip
      have hgood : (ps.getD k []).length ≠ 32 := of_decide_eq_true hc22
      refine wp_cond_true rfl ?_
      refine wp_seq_k (fun K25 hK25 => ?_)
      refine wp_region_seq ?_
      refine wpL_move (v := .int .i64 ((k : Nat) : Int)) (by rfl) (by rfl) (by rfl) ?_
      simp only [putT, List.set]
      refine wpL_assign (v := .int .i64 ((k : Nat) : Int)) (by rfl) (by rfl) (by rfl) ?_
      simp only [putT, List.set]
      refine wpL_nil (no_panic ?_)
      refine hK25 _ _ ?_
      refine wp_ret ?_
      repeat (first | with_reducible refine then_ret ?_ | with_reducible refine inblock_ret ?_)
      refine bodyPost_ret (v := .int .i64 ((k : Nat) : Int)) (res1 rfl (.tmp (by rfl))) rfl ?_
      have BE := M.below
      exact ⟨by rw [badI_some hk hall hgood], BE⟩
set_option maxHeartbeats 1000000 in
theorem cont1_r {ps : List (List UInt8)} {ap : Option Addr} {np cp : Nat} {w : World} (hq : ps.length ≤ 4611686018427387904) (Hp : RowA w ap np cp (scells ps)) :
    Calls Tryd.prog 96 #[.slice ap np cp, .func (.func 97) #[] #[]] w fun e w' => e = .returned (.bool (!all32 ps)) ∧ Below w.heap.size w w' := by
  obtain rfl : np = ps.length := by have := Hp.len; rwa [scells_len] at this
  go_enter Tryd.func96, Tryd.ntmps96
  have M := Mem.start w
  refine wp_seq_k (fun K1 hK1 => ?_)
  refine wp_region_seq ?_
  refine wpL_assign (v := .bool false) (by rfl) (by rfl) (by rfl) ?_
  simp only [putT, List.set]
  refine wpL_nil (no_panic ?_)
  refine hK1 _ _ ?_
  refine wp_seq_k (fun K3 hK3 => ?_)
  refine wp_region_seq ?_
  refine wpL_move (v := .slice ap ps.length cp) (by rfl) (by rfl) (by rfl) ?_
  simp only [putT, List.set]
  refine wpL_move (v := .func (.func 97) #[] #[]) (by rfl) (by rfl) (by rfl) ?_
  simp only [putT, List.set]
  refine wpL_chunk 2 (by rfl) (fun Lk hLk => ?_)
  simp only [List.take, List.drop]
  refine wpV_callf (v := .int .i64 (badI ps)) (args := #[.slice ap ps.length cp, .func (.func 97) #[] #[]]) (by rfl) rfl Tryd.func109 (by kernel_rfl) (by kernel_rfl) rfl (fun W hW => by with_reducible exact idx1_r (ps := ps) hq ((M.sees hW).oldA Hp)) ?_
  simp only [putT, List.set]
  refine wpV_bin (v := .bool (decide (0 ≤ badI ps))) (by rfl) rfl rfl rfl (fun W => run_geq _ _ _ _ W) ?_
  simp only [putT, List.set]
  refine wpV_nil (hLk _ (fun w5 Sw5 => ?_))
  clear hLk Lk
  simp only [List.take, List.drop]
  replace M := M.sees Sw5
  refine wpL_assign (v := .bool (decide (0 ≤ badI ps))) (by rfl) (by rfl) (by rfl) ?_
  simp only [putT, List.set]
  refine wpL_nil (no_panic ?_)
  refine hK3 _ _ ?_
  refine wp_ret ?_
  repeat (first | with_reducible refine then_ret ?_ | with_reducible refine inblock_ret ?_)
  refine bodyPost_ret (v := .bool (decide (0 ≤ badI ps))) (res1 rfl (.tmp (by rfl))) rfl ?_
  have BE := M.below
  exact ⟨by rw [badI_ge], BE⟩
set_option maxHeartbeats 1000000 in
theorem well_r {ps : List (List UInt8)} {ap : Option Addr} {np cp : Nat} {w : World} (hq : ps.length ≤ 4611686018427387904) (Hp : RowA w ap np cp (scells ps)) :
    Calls Tryd.prog 76 #[.slice ap np cp] w fun e w' => e = .returned (.bool (all32 ps)) ∧ Below w.heap.size w w' := by
  obtain rfl : np = ps.length := by have := Hp.len; rwa [scells_len] at this
  go_enter Tryd.func76, Tryd.ntmps76
  have M := Mem.start w
  refine wp_seq_k (fun K1 hK1 => ?_)
  refine wp_region_seq ?_
  refine wpL_assign (v := .bool false) (by rfl) (by rfl) (by rfl) ?_
  simp only [putT, List.set]
  refine wpL_nil (no_panic ?_)
  refine hK1 _ _ ?_
  refine wp_seq_k (fun K3 hK3 => ?_)
  refine wp_region_seq ?_
  refine wpL_move (v := .slice ap ps.length cp) (by rfl) (by rfl) (by rfl) ?_
  simp only [putT, List.set]
  refine wpL_chunk 2 (by rfl) (fun Lk hLk => ?_)
  simp only [List.take, List.drop]
  refine wpV_callf (v := .bool (!all32 ps)) (args := #[.slice ap ps.length cp, .func (.func 97) #[] #[]]) (by rfl) rfl Tryd.func96 (by kernel_rfl) (by kernel_rfl) rfl (fun W hW => by with_reducible exact cont1_r (ps := ps) hq ((M.sees hW).oldA Hp)) ?_
  simp only [putT, List.set]
  refine wpV_not (b := !all32 ps) (by rfl) rfl rfl ?_
  simp only [putT, List.set]
  refine wpV_nil (hLk _ (fun w5 Sw5 => ?_))
  clear hLk Lk
  simp only [List.take, List.drop]
  replace M := M.sees Sw5
  refine wpL_assign (v := .bool (!(!all32 ps))) (by rfl) (by rfl) (by rfl) ?_
  simp only [putT, List.set]
  refine wpL_nil (no_panic ?_)
  refine hK3 _ _ ?_
  refine wp_ret ?_
  repeat (first | with_reducible refine then_ret ?_ | with_reducible refine inblock_ret ?_)
  refine bodyPost_ret (v := .bool (!(!all32 ps))) (res1 rfl (.tmp (by rfl))) rfl ?_
  have BE := M.below
  exact ⟨by rw [Bool.not_not], BE⟩
set_option maxHeartbeats 1000000 in
theorem right_r {ps : List (List UInt8)} {ap : Option Addr} {np cp : Nat} {w : World} (Hp : RowA w ap np cp (scells ps)) :
    Calls Tryd.prog 42 #[.slice ap np cp] w fun e w' => e = .returned (.bool (rightB ps)) ∧ Below w.heap.size w w' := by
  obtain rfl : np = ps.length := by have := Hp.len; rwa [scells_len] at this
  go_enter Tryd.func42, Tryd.ntmps42
  have M := Mem.start w
  refine wp_seq_k (fun K1 hK1 => ?_)
  refine wp_region_seq ?_
  refine wpL_assign (v := .bool false) (by rfl) (by rfl) (by rfl) ?_
  simp only [putT, List.set]
  refine wpL_nil (no_panic ?_)
  refine hK1 _ _ ?_
  refine wp_seq_k (fun K3 hK3 => ?_)
  cases hg4 : (decide (ps.length ≤ 4096))
  · skip
    refine wp_region_seq ?_
    refine wpL_move (v := .slice ap ps.length cp) (by rfl) (by rfl) (by rfl) ?_
    simp only [putT, List.set]
    refine wpL_chunk 6 (by rfl) (fun Lk hLk => ?_)
    simp only [List.take, List.drop]
    refine wpV_lenA (n := ps.length) (by rfl) rfl rfl rfl Tryd.underlying48 ?_
    simp only [putT, List.set]
    refine wpV_bin (v := .bool false) (by rfl) rfl rfl rfl (fun W => (run_leqN ps.length 4096 _ _ W).trans (by rw [hg4])) ?_
    simp only [putT, List.set]
    refine wpV_move (v := .bool false) (by rfl) rfl rfl ?_
    simp only [putT, List.set]
    refine wpV_skip (by rfl) (by rfl) ?_
    simp only [putT, List.set]
    refine wpV_skip (by rfl) (by rfl) ?_
    simp only [putT, List.set]
    refine wpV_pick (v := .bool false) (by rfl) rfl rfl rfl ?_
    simp only [putT, List.set]
    refine wpV_nil (hLk _ (fun w6 Sw6 => ?_))
    clear hLk Lk
    simp only [List.take, List.drop]
    replace M := M.sees Sw6
    refine wpL_assign (v := .bool false) (by rfl) (by rfl) (by rfl) ?_
    simp only [putT, List.set]
    refine wpL_nil (no_panic ?_)
    refine hK3 _ _ ?_
    refine wp_ret ?_
    repeat (first | with_reducible refine then_ret ?_ | with_reducible refine inblock_ret ?_)
    refine bodyPost_ret (v := .bool false) (res1 rfl (.tmp (by rfl))) rfl ?_
    have BE := M.below
    exact ⟨by unfold rightB; first | rw [hg4, Bool.true_and] | rw [hg4, Bool.false_and], BE⟩
  · skip
    have hle : ps.length ≤ 4096 := of_decide_eq_true hg4
    refine wp_region_seq ?_
    refine wpL_move (v := .slice ap ps.length cp) (by rfl) (by rfl) (by rfl) ?_
    simp only [putT, List.set]
    refine wpL_chunk 6 (by rfl) (fun Lk hLk => ?_)
    simp only [List.take, List.drop]
    refine wpV_lenA (n := ps.length) (by rfl) rfl rfl rfl Tryd.underlying48 ?_
    simp only [putT, List.set]
    refine wpV_bin (v := .bool true) (by rfl) rfl rfl rfl (fun W => (run_leqN ps.length 4096 _ _ W).trans (by rw [hg4])) ?_
    simp only [putT, List.set]
    refine wpV_move (v := .bool true) (by rfl) rfl rfl ?_
    simp only [putT, List.set]
    refine wpV_move (v := .slice ap ps.length cp) (by rfl) rfl rfl ?_
    simp only [putT, List.set]
    refine wpV_callf (v := .bool (all32 ps)) (args := #[.slice ap ps.length cp]) (by rfl) rfl Tryd.func76 (by kernel_rfl) (by kernel_rfl) rfl (fun W hW => by with_reducible exact well_r (ps := ps) (by omega) ((M.sees hW).oldA Hp)) ?_
    simp only [putT, List.set]
    refine wpV_pick (v := .bool (all32 ps)) (by rfl) rfl rfl rfl ?_
    simp only [putT, List.set]
    refine wpV_nil (hLk _ (fun w8 Sw8 => ?_))
    clear hLk Lk
    simp only [List.take, List.drop]
    replace M := M.sees Sw8
    refine wpL_assign (v := .bool (all32 ps)) (by rfl) (by rfl) (by rfl) ?_
    simp only [putT, List.set]
    refine wpL_nil (no_panic ?_)
    refine hK3 _ _ ?_
    refine wp_ret ?_
    repeat (first | with_reducible refine then_ret ?_ | with_reducible refine inblock_ret ?_)
    refine bodyPost_ret (v := .bool (all32 ps)) (res1 rfl (.tmp (by rfl))) rfl ?_
    have BE := M.below
    exact ⟨by unfold rightB; first | rw [hg4, Bool.true_and] | rw [hg4, Bool.false_and], BE⟩
set_option maxHeartbeats 1000000 in
theorem same_r {ps : List (List UInt8)} {ap : Option Addr} {np cp : Nat} {qs : List (List UInt8)} {aq : Option Addr} {nq cq : Nat} {w : World} (hq : ps.length ≤ 4611686018427387904) (Hp : RowA w ap np cp (scells ps)) (Hq : RowA w aq nq cq (scells qs)) :
    Calls Tryd.prog 50 #[.slice ap np cp, .slice aq nq cq] w fun e w' => e = .returned (.bool (decide (ps = qs))) ∧ Below w.heap.size w w' := by
  obtain rfl : np = ps.length := by have := Hp.len; rwa [scells_len] at this
  obtain rfl : nq = qs.length := by have := Hq.len; rwa [scells_len] at this
  go_enter Tryd.func50, Tryd.ntmps50
  have M := Mem.start w
  refine wp_seq_k (fun K1 hK1 => ?_)
  refine wp_region_seq ?_
  refine wpL_assign (v := .bool false) (by rfl) (by rfl) (by rfl) ?_
  simp only [putT, List.set]
  refine wpL_nil (no_panic ?_)
  refine hK1 _ _ ?_
  refine wp_seq_k (fun K3 hK3 => ?_)
  refine wp_seq_k (fun K4 hK4 => ?_)
  refine wp_region_seq ?_
  refine wpL_move (v := .slice ap ps.length cp) (by rfl) (by rfl) (by rfl) ?_
  simp only [putT, List.set]
  refine wpL_chunk 4 (by rfl) (fun Lk hLk => ?_)
  simp only [List.take, List.drop]
  refine wpV_lenA (n := ps.length) (by rfl) rfl rfl rfl Tryd.underlying48 ?_
  simp only [putT, List.set]
  refine wpV_move (v := .slice aq qs.length cq) (by rfl) rfl rfl ?_
  simp only [putT, List.set]
  refine wpV_lenA (n := qs.length) (by rfl) rfl rfl rfl Tryd.underlying48 ?_
  simp only [putT, List.set]
  refine wpV_bin (v := .bool (decide (ps.length ≠ qs.length))) (by rfl) rfl rfl rfl (fun W => run_neqN ps.length qs.length _ _ W) ?_
  simp only [putT, List.set]
  refine wpV_nil (hLk _ (fun w6 Sw6 => ?_))
  clear hLk Lk
  simp only [List.take, List.drop]
  replace M := M.sees Sw6
  refine wpL_nil (no_panic ?_)
  refine hK4 _ _ ?_
  cases hc7 : (decide (ps.length ≠ qs.length))
  · skip
    have hle : ps.length = qs.length := Decidable.not_not.1 (of_decide_eq_false hc7)
    refine wp_cond_false rfl ?_
    refine wp_skip ?_
    refine hK3 _ _ ?_
    refine wp_seq_k (fun K8 hK8 => ?_)
    refine wp_seq_k (fun K9 hK9 => ?_)
    refine wp_region_seq ?_
    refine wpL_move (v := .slice ap ps.length cp) (by rfl) (by rfl) (by rfl) ?_
    simp only [putT, List.set]
    refine wpL_chunk 1 (by rfl) (fun Lk hLk => ?_)
    simp only [List.take, List.drop]
    refine wpV_lenA (n := ps.length) (by rfl) rfl rfl rfl Tryd.underlying48 ?_
    simp only [putT, List.set]
    refine wpV_nil (hLk _ (fun w11 Sw11 => ?_))
    clear hLk Lk
    simp only [List.take, List.drop]
    replace M := M.sees Sw11
    refine wpL_move (v := .int .i64 0) (by rfl) (by rfl) (by rfl) ?_
    simp only [putT, List.set]
    refine wpL_nil (no_panic ?_)
    refine hK9 _ _ ?_
    refine wp_block ?_
    refine wp_loop_ghost (fun n9 a9 W9 => ∃ (k : Nat) (u12 : Nat → Value), n9 = ps.length - k ∧ a9 = { tmps := #[.slice ap ps.length cp, .slice aq qs.length cq, undef, undef, u12 4, u12 5, .slice ap ps.length cp, .int .i64 ((ps.length : Nat) : Int), .slice aq qs.length cq, .int .i64 ((qs.length : Nat) : Int), .bool false, .slice ap ps.length cp, .int .i64 ((ps.length : Nat) : Int), .int .i64 ((k : Nat) : Int), u12 14, u12 15, u12 16, u12 17, u12 18, u12 19, u12 20, u12 21, u12 22, u12 23, u12 24, u12 25], defers := [] } ∧ Mem [] w W9 [] ∧ (k ≤ ps.length) ∧ (∀ j, j < k → ps.getD j [] = qs.getD j [])) (ps.length - (0)) ?_ (fun n9 a9 W9 hI => ?_)
    · exact ⟨0, (fun q9 => (#[undef, undef, undef, undef, .bool false, undef, undef, undef, undef, undef, undef, undef, undef, undef, undef, undef, undef, undef, undef, undef, undef, undef, undef, undef, undef, undef] : Array Value).getD q9 undef), rfl, rfl, M, (by omega), (fun j hj => absurd hj (Nat.not_lt_zero _))⟩
    clear M
    obtain ⟨k, u12, rfl, rfl, M, hk4, hall⟩ := hI
    obtain ⟨w13, rfl⟩ : ∃ W8, W8 = W9 := ⟨_, rfl⟩
    refine wp_seq_k (fun K14 hK14 => ?_)
    refine wp_region_seq ?_
    refine wpL_chunk 1 (by rfl) (fun Lk hLk => ?_)
    simp only [List.take, List.drop]
    refine wpV_bin (v := .bool (decide (k < ps.length))) (by rfl) rfl rfl rfl (fun W => run_lssN k ps.length _ _ W) ?_
    simp only [putT, List.set]
    refine wpV_nil (hLk _ (fun w16 Sw16 => ?_))
    clear hLk Lk
    simp only [List.take, List.drop]
    replace M := M.sees Sw16
    refine wpL_nil (no_panic ?_)
    refine hK14 _ _ ?_
    refine wp_seq_k (fun K17 hK17 => ?_)
    cases hc18 : (decide (k < ps.length))
    · skip
      have ek : k = ps.length := by have := of_decide_eq_false hc18; omega
      subst ek
      refine wp_cond_false rfl ?_
      refine wp_exit ?_
      refine hK8 _ _ ?_
      refine wp_seq_k (fun K19 hK19 => ?_)
      refine wp_region_seq ?_
      refine wpL_assign (v := .bool true) (by rfl) (by rfl) (by rfl) ?_
      simp only [putT, List.set]
      refine wpL_nil (no_panic ?_)
      refine hK19 _ _ ?_
      refine wp_ret ?_
      repeat (first | with_reducible refine then_ret ?_ | with_reducible refine inblock_ret ?_)
      refine bodyPost_ret (v := .bool true) (res1 rfl (.tmp (by rfl))) rfl ?_
      have BE := M.below
      exact ⟨by rw [decide_eq_true (same_all hle hall)], BE⟩
    · skip
      have hk : k < ps.length := of_decide_eq_true hc18
      refine wp_cond_true rfl ?_
      refine wp_skip ?_
      refine hK17 _ _ ?_
      refine wp_seq_k (fun K21 hK21 => ?_)
      refine wp_block ?_
      refine wp_seq_k (fun K22 hK22 => ?_)
      refine wp_region_seq ?_
      refine wpL_move (v := .int .i64 ((k : Nat) : Int)) (by rfl) (by rfl) (by rfl) ?_
      simp only [putT, List.set]
      refine wpL_assign (v := .int .i64 ((k : Nat) : Int)) (by rfl) (by rfl) (by rfl) ?_
      simp only [putT, List.set]
      refine wpL_nil (no_panic ?_)
      refine hK22 _ _ ?_
      refine wp_seq_k (fun K24 hK24 => ?_)
      refine wp_region_grow 9 [] (by kernel_rfl) (by kernel_rfl) (by kernel_rfl) (fun Lk hLk => ?_)
      simp only [List.take, List.drop]
      refine wpV_move (v := .slice ap ps.length cp) (by rfl) rfl rfl ?_
      simp only [putT, List.set]
      refine wpV_move (v := .int .i64 ((k : Nat) : Int)) (by rfl) rfl rfl ?_
      simp only [putT, List.set]
      refine wpV_idxA (i := k) (by rfl) rfl rfl rfl Tryd.underlying48 info9 (M.oldA Hp) (by omega) ?_
      simp only [putT, List.set]
      refine wpV_loadA (i := k) (v := .string (bs (ps.getD k []))) (by rfl) rfl rfl (M.oldA Hp) (scells_get (ps := ps) (by omega)) Tryd.underlying9 rfl ?_
      simp only [putT, List.set]
      refine wpV_move (v := .slice aq qs.length cq) (by rfl) rfl rfl ?_
      simp only [putT, List.set]
      refine wpV_move (v := .int .i64 ((k : Nat) : Int)) (by rfl) rfl rfl ?_
      simp only [putT, List.set]
      refine wpV_idxA (i := k) (by rfl) rfl rfl rfl Tryd.underlying48 info9 (M.oldA Hq) (by omega) ?_
      simp only [putT, List.set]
      refine wpV_loadA (i := k) (v := .string (bs (qs.getD k []))) (by rfl) rfl rfl (M.oldA Hq) (scells_get (ps := qs) (by omega)) Tryd.underlying9 rfl ?_
      simp only [putT, List.set]
      refine wpV_binS (v := .bool (decide (ps.getD k [] ≠ qs.getD k []))) (by rfl) rfl rfl rfl (run_neq_bs _ _ _) ?_
      simp only [putT, List.set]
      refine wpV_nil (hLk.out _ ?_)
      clear hLk Lk
      simp only [List.take, List.drop]
      iterate 9 refine wpN_skip (by rfl) ?_
      refine wpN_nil (fun w26 Sw26 hbs => ?_)
      clear hbs
      replace M := M.sees Sw26
      refine wpL_nil (no_panic ?_)
      refine hK24 _ _ ?_
      cases hc27 : (decide (ps.getD k [] ≠ qs.getD k []))
      · skip
        have hgood : ps.getD k [] = qs.getD k [] := Decidable.not_not.1 (of_decide_eq_false hc27)
        refine wp_cond_false rfl ?_
        refine wp_skip ?_
        refine hK21 _ _ ?_
        refine wp_region_seq ?_
        refine wpL_chunk 1 (by rfl) (fun Lk hLk => ?_)
        simp only [List.take, List.drop]
        refine wpV_bin (v := .int .i64 ((k + 1 : Nat) : Int)) (by rfl) rfl rfl rfl (fun W => run_add (by simp only [IntKind.wrap_i64]; omega) W) ?_
        simp only [putT, List.set]
        refine wpV_nil (hLk _ (fun w29 Sw29 => ?_))
        clear hLk Lk
        simp only [List.take, List.drop]
        replace M := M.sees Sw29
        refine wpL_move (v := .int .i64 ((k + 1 : Nat) : Int)) (by rfl) (by rfl) (by rfl) ?_
        simp only [putT, List.set]
        refine wpL_nil (no_panic ?_)
        refine Exists.intro _ ⟨?_, (k + 1), (fun q9 => (#[undef, undef, undef, undef, u12 4, .int .i64 ((k : Nat) : Int), undef, undef, undef, undef, undef, undef, undef, undef, .bool true, .int .i64 ((k : Nat) : Int), .slice ap ps.length cp, .int .i64 ((k : Nat) : Int), .pointer (ap.map (·.add k)), .string (bs (ps.getD k [])), .slice aq qs.length cq, .int .i64 ((k : Nat) : Int), .pointer (aq.map (·.add k)), .string (bs (qs.getD k [])), .bool false, .int .i64 ((k + 1 : Nat) : Int)] : Array Value).getD q9 undef), rfl, rfl, M, (by omega), (fun j hj => (Nat.lt_succ_iff_lt_or_eq.1 hj).elim (hall j) (fun e => e ▸ hgood))⟩
        omega
      · skip
        have hgood : ps.getD k [] ≠ qs.getD k [] := of_decide_eq_true hc27
        refine wp_cond_true rfl ?_
        refine wp_seq_k (fun K30 hK30 => ?_)
        refine wp_region_seq ?_
        refine wpL_assign (v := .bool false) (by rfl) (by rfl) (by rfl) ?_
        simp only [putT, List.set]
        refine wpL_nil (no_panic ?_)
        refine hK30 _ _ ?_
        refine wp_ret ?_
        repeat (first | with_reducible refine then_ret ?_ | with_reducible refine inblock_ret ?_)
        refine bodyPost_ret (v := .bool false) (res1 rfl (.tmp (by rfl))) rfl ?_
        have BE := M.below
        exact ⟨by rw [decide_eq_false (fun e => hgood (by rw [e]))], BE⟩
  · skip
    have hne : ps ≠ qs := fun e => absurd (congrArg List.length e) (of_decide_eq_true hc7)
    refine wp_cond_true rfl ?_
    refine wp_seq_k (fun K32 hK32 => ?_)
    refine wp_region_seq ?_
    refine wpL_assign (v := .bool false) (by rfl) (by rfl) (by rfl) ?_
    simp only [putT, List.set]
    refine wpL_nil (no_panic ?_)
    refine hK32 _ _ ?_
    refine wp_ret ?_
    repeat (first | with_reducible refine then_ret ?_ | with_reducible refine inblock_ret ?_)
    refine bodyPost_ret (v := .bool false) (res1 rfl (.tmp (by rfl))) rfl ?_
    have BE := M.below
    exact ⟨by rw [decide_eq_false hne], BE⟩
set_option maxHeartbeats 1000000 in
theorem oc64_c {n : Nat} {w : World} (hn : n ≤ 4096) :
    Calls Tryd.prog 111 #[.int .u64 ((n : Nat) : Int)] w fun e w' => e = .returned (.int .i64 ((ones n : Nat) : Int)) ∧ Below w.heap.size w w' := by
  obtain ⟨ho1, ho2, ho3⟩ := oc_ones hn
  go_enter Tryd.func111, Tryd.ntmps111
  have M := Mem.start w
  refine wp_seq_k (fun K1 hK1 => ?_)
  refine wp_region_seq ?_
  refine wpL_assign (v := .int .i64 0) (by rfl) (by rfl) (by rfl) ?_
  simp only [putT, List.set]
  refine wpL_nil (no_panic ?_)
  refine hK1 _ _ ?_
  refine wp_seq_k (fun K3 hK3 => ?_)
  refine wp_region_seq ?_
  refine wpL_move (v := .int .u64 ((n : Nat) : Int)) (by rfl) (by rfl) (by rfl) ?_
  simp only [putT, List.set]
  refine wpL_chunk 5 (by rfl) (fun Lk hLk => ?_)
  simp only [List.take, List.drop]
  refine wpV_bin (v := .int .u64 ((n / 2 ^ 1 : Nat) : Int)) (by rfl) rfl rfl rfl (fun W => nr_shr64 (x := n) (n := 1) (by omega) W) ?_
  simp only [putT, List.set]
  refine wpV_bin (v := .int .u64 (((n / 2 ^ 1) &&& 6148914691236517205 : Nat) : Int)) (by rfl) rfl rfl rfl (fun W => nr_and64 (x := n / 2 ^ 1) (y := 6148914691236517205) (div_lt64 _ (by omega)) (by decide) W) ?_
  simp only [putT, List.set]
  refine wpV_move (v := .int .u64 ((n : Nat) : Int)) (by rfl) rfl rfl ?_
  simp only [putT, List.set]
  refine wpV_bin (v := .int .u64 ((n &&& 6148914691236517205 : Nat) : Int)) (by rfl) rfl rfl rfl (fun W => nr_and64 (x := n) (y := 6148914691236517205) (by omega) (by decide) W) ?_
  simp only [putT, List.set]
  refine wpV_bin (v := .int .u64 ((oc1 n : Nat) : Int)) (by rfl) rfl rfl rfl (fun W => nr_add64 _ ((n / 2 ^ 1) &&& 6148914691236517205) (n &&& 6148914691236517205) W) ?_
  simp only [putT, List.set]
  refine wpV_nil (hLk _ (fun w5 Sw5 => ?_))
  clear hLk Lk
  simp only [List.take, List.drop]
  replace M := M.sees Sw5
  refine wpL_assign (v := .int .u64 ((oc1 n : Nat) : Int)) (by rfl) (by rfl) (by rfl) ?_
  simp only [putT, List.set]
  refine wpL_nil (no_panic ?_)
  refine hK3 _ _ ?_
  refine wp_seq_k (fun K6 hK6 => ?_)
  refine wp_region_seq ?_
  refine wpL_move (v := .int .u64 ((oc1 n : Nat) : Int)) (by rfl) (by rfl) (by rfl) ?_
  simp only [putT, List.set]
  refine wpL_chunk 5 (by rfl) (fun Lk hLk => ?_)
  simp only [List.take, List.drop]
  refine wpV_bin (v := .int .u64 (((oc1 n) / 2 ^ 2 : Nat) : Int)) (by rfl) rfl rfl rfl (fun W => nr_shr64 (x := oc1 n) (n := 2) (by omega) W) ?_
  simp only [putT, List.set]
  refine wpV_bin (v := .int .u64 ((((oc1 n) / 2 ^ 2) &&& 3689348814741910323 : Nat) : Int)) (by rfl) rfl rfl rfl (fun W => nr_and64 (x := (oc1 n) / 2 ^ 2) (y := 3689348814741910323) (div_lt64 _ (mod_lt64 _)) (by decide) W) ?_
  simp only [putT, List.set]
  refine wpV_move (v := .int .u64 ((oc1 n : Nat) : Int)) (by rfl) rfl rfl ?_
  simp only [putT, List.set]
  refine wpV_bin (v := .int .u64 (((oc1 n) &&& 3689348814741910323 : Nat) : Int)) (by rfl) rfl rfl rfl (fun W => nr_and64 (x := oc1 n) (y := 3689348814741910323) (mod_lt64 _) (by decide) W) ?_
  simp only [putT, List.set]
  refine wpV_bin (v := .int .u64 ((oc2 n : Nat) : Int)) (by rfl) rfl rfl rfl (fun W => nr_add64 _ (((oc1 n) / 2 ^ 2) &&& 3689348814741910323) ((oc1 n) &&& 3689348814741910323) W) ?_
  simp only [putT, List.set]
  refine wpV_nil (hLk _ (fun w8 Sw8 => ?_))
  clear hLk Lk
  simp only [List.take, List.drop]
  replace M := M.sees Sw8
  refine wpL_assign (v := .int .u64 ((oc2 n : Nat) : Int)) (by rfl) (by rfl) (by rfl) ?_
  simp only [putT, List.set]
  refine wpL_nil (no_panic ?_)
  refine hK6 _ _ ?_
  refine wp_seq_k (fun K9 hK9 => ?_)
  refine wp_region_seq ?_
  refine wpL_move (v := .int .u64 ((oc2 n : Nat) : Int)) (by rfl) (by rfl) (by rfl) ?_
  simp only [putT, List.set]
  refine wpL_chunk 4 (by rfl) (fun Lk hLk => ?_)
  simp only [List.take, List.drop]
  refine wpV_bin (v := .int .u64 (((oc2 n) / 2 ^ 4 : Nat) : Int)) (by rfl) rfl rfl rfl (fun W => nr_shr64 (x := oc2 n) (n := 4) (by omega) W) ?_
  simp only [putT, List.set]
  refine wpV_move (v := .int .u64 ((oc2 n : Nat) : Int)) (by rfl) rfl rfl ?_
  simp only [putT, List.set]
  refine wpV_bin (v := .int .u64 (((((oc2 n) / 2 ^ 4) + (oc2 n)) % 18446744073709551616 : Nat) : Int)) (by rfl) rfl rfl rfl (fun W => nr_add64 _ ((oc2 n) / 2 ^ 4) (oc2 n) W) ?_
  simp only [putT, List.set]
  refine wpV_bin (v := .int .u64 ((oc3 n : Nat) : Int)) (by rfl) rfl rfl rfl (fun W => nr_and64 (x := (((oc2 n) / 2 ^ 4) + (oc2 n)) % 18446744073709551616) (y := 1085102592571150095) (mod_lt64 _) (by decide) W) ?_
  simp only [putT, List.set]
  refine wpV_nil (hLk _ (fun w11 Sw11 => ?_))
  clear hLk Lk
  simp only [List.take, List.drop]
  replace M := M.sees Sw11
  refine wpL_assign (v := .int .u64 ((oc3 n : Nat) : Int)) (by rfl) (by rfl) (by rfl) ?_
  simp only [putT, List.set]
  refine wpL_nil (no_panic ?_)
  refine hK9 _ _ ?_
  refine wp_seq_k (fun K12 hK12 => ?_)
  refine wp_region_seq ?_
  refine wpL_move (v := .int .u64 ((oc3 n : Nat) : Int)) (by rfl) (by rfl) (by rfl) ?_
  simp only [putT, List.set]
  refine wpL_move (v := .int .u64 ((oc3 n : Nat) : Int)) (by rfl) (by rfl) (by rfl) ?_
  simp only [putT, List.set]
  refine wpL_chunk 2 (by rfl) (fun Lk hLk => ?_)
  simp only [List.take, List.drop]
  refine wpV_bin (v := .int .u64 (((oc3 n) / 2 ^ 8 : Nat) : Int)) (by rfl) rfl rfl rfl (fun W => nr_shr64 (x := oc3 n) (n := 8) (by omega) W) ?_
  simp only [putT, List.set]
  refine wpV_bin (v := .int .u64 ((oc4 n : Nat) : Int)) (by rfl) rfl rfl rfl (fun W => nr_add64 _ (oc3 n) ((oc3 n) / 2 ^ 8) W) ?_
  simp only [putT, List.set]
  refine wpV_nil (hLk _ (fun w14 Sw14 => ?_))
  clear hLk Lk
  simp only [List.take, List.drop]
  replace M := M.sees Sw14
  refine wpL_assign (v := .int .u64 ((oc4 n : Nat) : Int)) (by rfl) (by rfl) (by rfl) ?_
  simp only [putT, List.set]
  refine wpL_nil (no_panic ?_)
  refine hK12 _ _ ?_
  refine wp_seq_k (fun K15 hK15 => ?_)
  refine wp_region_seq ?_
  refine wpL_move (v := .int .u64 ((oc4 n : Nat) : Int)) (by rfl) (by rfl) (by rfl) ?_
  simp only [putT, List.set]
  refine wpL_move (v := .int .u64 ((oc4 n : Nat) : Int)) (by rfl) (by rfl) (by rfl) ?_
  simp only [putT, List.set]
  refine wpL_chunk 2 (by rfl) (fun Lk hLk => ?_)
  simp only [List.take, List.drop]
  refine wpV_bin (v := .int .u64 (((oc4 n) / 2 ^ 16 : Nat) : Int)) (by rfl) rfl rfl rfl (fun W => nr_shr64 (x := oc4 n) (n := 16) (by omega) W) ?_
  simp only [putT, List.set]
  refine wpV_bin (v := .int .u64 ((oc5 n : Nat) : Int)) (by rfl) rfl rfl rfl (fun W => nr_add64 _ (oc4 n) ((oc4 n) / 2 ^ 16) W) ?_
  simp only [putT, List.set]
  refine wpV_nil (hLk _ (fun w17 Sw17 => ?_))
  clear hLk Lk
  simp only [List.take, List.drop]
  replace M := M.sees Sw17
  refine wpL_assign (v := .int .u64 ((oc5 n : Nat) : Int)) (by rfl) (by rfl) (by rfl) ?_
  simp only [putT, List.set]
  refine wpL_nil (no_panic ?_)
  refine hK15 _ _ ?_
  refine wp_seq_k (fun K18 hK18 => ?_)
  refine wp_region_seq ?_
  refine wpL_move (v := .int .u64 ((oc5 n : Nat) : Int)) (by rfl) (by rfl) (by rfl) ?_
  simp only [putT, List.set]
  refine wpL_move (v := .int .u64 ((oc5 n : Nat) : Int)) (by rfl) (by rfl) (by rfl) ?_
  simp only [putT, List.set]
  refine wpL_chunk 2 (by rfl) (fun Lk hLk => ?_)
  simp only [List.take, List.drop]
  refine wpV_bin (v := .int .u64 (((oc5 n) / 2 ^ 32 : Nat) : Int)) (by rfl) rfl rfl rfl (fun W => nr_shr64 (x := oc5 n) (n := 32) (by omega) W) ?_
  simp only [putT, List.set]
  refine wpV_bin (v := .int .u64 ((oc6 n : Nat) : Int)) (by rfl) rfl rfl rfl (fun W => nr_add64 _ (oc5 n) ((oc5 n) / 2 ^ 32) W) ?_
  simp only [putT, List.set]
  refine wpV_nil (hLk _ (fun w20 Sw20 => ?_))
  clear hLk Lk
  simp only [List.take, List.drop]
  replace M := M.sees Sw20
  refine wpL_assign (v := .int .u64 ((oc6 n : Nat) : Int)) (by rfl) (by rfl) (by rfl) ?_
  simp only [putT, List.set]
  refine wpL_nil (no_panic ?_)
  refine hK18 _ _ ?_
  refine wp_seq_k (fun K21 hK21 => ?_)
  refine wp_region_seq ?_
  refine wpL_move (v := .int .u64 ((oc6 n : Nat) : Int)) (by rfl) (by rfl) (by rfl) ?_
  simp only [putT, List.set]
  refine wpL_chunk 2 (by rfl) (fun Lk hLk => ?_)
  simp only [List.take, List.drop]
  refine wpV_conv (d := .bool) (e := ((oc6 n : Nat) : Int)) (by rfl) rfl rfl (run_conv_int Tryd.underlying27 Tryd.underlying3 (by simp only [IntKind.wrap_i64]; omega)) ?_
  simp only [putT, List.set]
  refine wpV_bin (v := .int .i64 ((ones n : Nat) : Int)) (by rfl) rfl rfl rfl (fun W => run_and ((and_i64 ho1 (by decide)).trans (by rw [ho2])) W) ?_
  simp only [putT, List.set]
  refine wpV_nil (hLk _ (fun w23 Sw23 => ?_))
  clear hLk Lk
  simp only [List.take, List.drop]
  replace M := M.sees Sw23
  refine wpL_assign (v := .int .i64 ((ones n : Nat) : Int)) (by rfl) (by rfl) (by rfl) ?_
  simp only [putT, List.set]
  refine wpL_nil (no_panic ?_)
  refine hK21 _ _ ?_
  refine wp_ret ?_
  repeat (first | with_reducible refine then_ret ?_ | with_reducible refine inblock_ret ?_)
  refine bodyPost_ret (v := .int .i64 ((ones n : Nat) : Int)) (res1 rfl (.tmp (by rfl))) rfl ?_
  have BE := M.below
  exact ⟨rfl, BE⟩
set_option maxHeartbeats 1000000 in
theorem oc_c {n : Nat} {w : World} (hn : n ≤ 4096) :
    Calls Tryd.prog 98 #[.int .u64 ((n : Nat) : Int)] w fun e w' => e = .returned (.int .i64 ((ones n : Nat) : Int)) ∧ Below w.heap.size w w' := by
  go_enter Tryd.func98, Tryd.ntmps98
  have M := Mem.start w
  refine wp_seq_k (fun K1 hK1 => ?_)
  refine wp_region_seq ?_
  refine wpL_assign (v := .int .i64 0) (by rfl) (by rfl) (by rfl) ?_
  simp only [putT, List.set]
  refine wpL_nil (no_panic ?_)
  refine hK1 _ _ ?_
  refine wp_seq_k (fun K3 hK3 => ?_)
  refine wp_cond_false rfl ?_
  refine wp_skip ?_
  refine hK3 _ _ ?_
  refine wp_seq_k (fun K4 hK4 => ?_)
  refine wp_region_seq ?_
  refine wpL_move (v := .int .u64 ((n : Nat) : Int)) (by rfl) (by rfl) (by rfl) ?_
  simp only [putT, List.set]
  refine wpL_chunk 1 (by rfl) (fun Lk hLk => ?_)
  simp only [List.take, List.drop]
  refine wpV_callf (v := .int .i64 ((ones n : Nat) : Int)) (args := #[.int .u64 ((n : Nat) : Int)]) (by rfl) rfl Tryd.func111 (by kernel_rfl) (by kernel_rfl) rfl (fun W hW => oc64_c (n := n) hn) ?_
  simp only [putT, List.set]
  refine wpV_nil (hLk _ (fun w6 Sw6 => ?_))
  clear hLk Lk
  simp only [List.take, List.drop]
  replace M := M.sees Sw6
  refine wpL_assign (v := .int .i64 ((ones n : Nat) : Int)) (by rfl) (by rfl) (by rfl) ?_
  simp only [putT, List.set]
  refine wpL_nil (no_panic ?_)
  refine hK4 _ _ ?_
  refine wp_ret ?_
  repeat (first | with_reducible refine then_ret ?_ | with_reducible refine inblock_ret ?_)
  refine bodyPost_ret (v := .int .i64 ((ones n : Nat) : Int)) (res1 rfl (.tmp (by rfl))) rfl ?_
  have BE := M.below
  exact ⟨rfl, BE⟩
end Go.Proofs.Yb

