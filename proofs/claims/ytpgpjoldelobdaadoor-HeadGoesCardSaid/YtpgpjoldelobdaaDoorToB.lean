import Derived.WalkKit
import Derived.WalkSpells
import Derived.Laws.Pointers
import Derived.RowKit3
import Derived.Below
import Derived.Outline
import Derived.LoopN
import Derived.Lib.Hide
import Derived.Handy
import Derived.Laws.Bits64b
import Derived.Test.YtpgpjoldelobdaaDoorToA
import Derived.Test.YtpgpjoldelobdaaDoorTrQ
import Derived.Test.YtpgpjoldelobdaaDoorEqS
import Derived.Test.YtpgpjoldelobdaaDoorF3
import Derived.Test.YtpgpjoldelobdaaDoorShq
set_option linter.unusedSimpArgs false
set_option linter.unusedVariables false
namespace Go.Proofs.Yc
open Go Go.RowKit Go.Proofs.Num
open Tryd renaming underlying37 → U937, underlying9 → U99
open Go.Proofs.Num  renaming putT → Z0
open List renaming set → Z6
open Go renaming undef → Z9
open Go.Proofs.Num renaming wp_region_seq → Z13, wpL_nil → Z14, no_panic → Z15
attribute [local irreducible] wpV wpN wpList
set_option maxHeartbeats 1000000 in
theorem wellPF_c {l : List UInt8} {w : World}  :
  Calls Tryd.prog 113 #[.string (bs l)] w fun e w' => e = .returned (.bool (decide (l.length ≠ 32))) ∧ Below w.heap.size w w' := by
 go_enter Tryd.func113, Tryd.ntmps113
 have M := Mem.start w
 refine qS fun _ k1 => ?_
 refine lg ?_; refine lZ k1 ?_
 refine qS fun _ k3 => ?_
 refine lM ?_
 refine cM 2 fun Lk hLk => ?_
 refine wpV_lenS (by rfl) rfl rfl rfl U99 ?_
 simp only [Z0, Z6]
 refine vB (v := .bool (decide (l.length ≠ 32))) (hr := run_neqN l.length 32 _ _) ?_
 refine hLk _ fun w5 M => ?_
 refine lg ?_; refine lZ k3 ?_; refine rt1 ?_
 exact ⟨rfl, M.below⟩
set_option maxHeartbeats 2000000 in
theorem idxp_r {ps : List (List UInt8)} {ap : Option Addr} {np cp : Nat} {w : World} (hq : ps.length ≤ 4611686018427387904) (Hp : RowA w ap np cp (scells ps)) :
  Calls Tryd.prog 144 #[.slice ap np cp, .func (.func 113) #[] #[]] w fun e w' => e = .returned (.int .i64 (badI ps)) ∧ Below w.heap.size w w' := by
 obtain rfl : np = ps.length := by have := Hp.len; rwa [scells_len] at this
 go_enter Tryd.func144, Tryd.ntmps144
 have M := Mem.start w
 refine qS fun _ k1 => ?_
 refine lg ?_; refine lZ k1 ?_
 refine sk fun _ k3 => ?_
 refine qS fun _ k4 => ?_
 refine lM ?_
 refine cM 1 fun Lk hLk => ?_
 refine wpV_lenA (n := ps.length) (by rfl) rfl rfl rfl U937 ?_
 simp only [Z0, Z6]
 refine hLk _ fun w6 M => ?_
 refine lM ?_; refine lZ k4 ?_; refine wp_block ?_
 refine wp_loop_ghost (fun n9 a9 W9 => ∃ (k : Nat) (u7_4 u7_5 u7_9 u7_10 u7_11 u7_12 u7_13 u7_14 u7_15 u7_16 u7_17 u7_18 : Value), n9 = ps.length - k ∧ a9 = { tmps := #[.slice ap ps.length cp, .func (.func 113) #[] #[], Z9, Z9, u7_4, u7_5, .slice ap ps.length cp, .int .i64 ps.length, .int .i64 k, u7_9, u7_10, u7_11, u7_12, u7_13, u7_14, u7_15, u7_16, u7_17, u7_18], defers := [] } ∧ Mem [] w W9 [] ∧ (k ≤ ps.length) ∧ (∀ j, j < k → (ps.getD j []).length = 32)) (ps.length - (0)) ?_ (fun n9 a9 W9 hI => ?_)
 ·
  exact ⟨0, _, _, _, _, _, _, _, _, _, _, _, _, rfl, rfl, M, (by omega), (fun j hj => absurd hj (Nat.not_lt_zero _))⟩
 clear M
 obtain ⟨k, u7_4, u7_5, u7_9, u7_10, u7_11, u7_12, u7_13, u7_14, u7_15, u7_16, u7_17, u7_18, rfl, rfl, M, hk4, hall⟩ := hI
 obtain ⟨w8, rfl⟩ : ∃ W8, W8 = W9 := ⟨_, rfl⟩
 refine qS fun _ k9 => ?_
 refine cM 1 fun Lk hLk => ?_
 refine vB (v := .bool (decide (k < ps.length))) (hr := run_lssN k ps.length _ _) ?_
 refine hLk _ fun w11 M => ?_
 refine lZ k9 ?_
 refine sk fun _ k12 => ?_
 cases hc13 : (decide (k < ps.length))
 ·
  have ek : k = ps.length := by have := of_decide_eq_false hc13; omega
  subst ek
  refine cF ?_; refine eZ k3 ?_
  refine qS fun _ k14 => ?_
  refine lg ?_; refine lZ k14 ?_; refine rt1 ?_
  have BE := M.below
  exact ⟨by (rw [badI_none hall]; try rfl), BE⟩
 have hk : k < ps.length := of_decide_eq_true hc13
 refine cT ?_; refine sZ k12 ?_
 refine sk fun _ k16 => ?_
 refine wp_block ?_
 refine qS fun _ k17 => ?_
 refine lM ?_; refine lg ?_; refine lZ k17 ?_
 refine qS fun _ k19 => ?_
 refine lM ?_; refine lM ?_; refine lM ?_
 refine cM 3 fun Lk hLk => ?_
 refine wpV_idxA (i := k) (by rfl) rfl rfl rfl U937 info9 (M.oldA Hp) (by omega) ?_
 simp only [Z0, Z6]
 refine wpV_loadA (i := k) (v := .string (bs (ps.getD k []))) (by rfl) rfl rfl (M.oldA Hp) (scells_get (ps := ps) (by omega)) U99 rfl ?_
 simp only [Z0, Z6]
 refine vC (fun W => wellPF_c) ?_
 refine hLk _ fun w21 M => ?_
 refine lZ k19 ?_
 cases hc22 : (decide ((ps.getD k []).length ≠ 32))
 ·
  have hgood : (ps.getD k []).length = 32 := Decidable.not_not.1 (of_decide_eq_false hc22)
  refine cF ?_; refine sZ k16 ?_; refine Z13 ?_
  refine cM 1 fun Lk hLk => ?_
  refine vB (v := .int .i64 (k + 1 : Nat)) (hr := run_add (by simp only [IntKind.wrap_i64]; omega)) ?_
  refine hLk _ fun w24 M => ?_
  refine lM ?_
  refine Z14 (Z15 ?_)
  refine Exists.intro _ ⟨?_, (k + 1), _, _, _, _, _, _, _, _, _, _, _, _, rfl, rfl, M, (by omega), (fun j hj => (Nat.lt_succ_iff_lt_or_eq.1 hj).elim (hall j) (fun e => e ▸ hgood))⟩
  omega
 have hgood : (ps.getD k []).length ≠ 32 := of_decide_eq_true hc22
 refine cT ?_
 refine qS fun _ k25 => ?_
 refine lM ?_; refine lg ?_; refine lZ k25 ?_; refine rt1 ?_
 have BE := M.below
 exact ⟨by (rw [badI_some hk hall hgood]; try rfl), BE⟩
set_option maxHeartbeats 1000000 in
theorem contp_r {ps : List (List UInt8)} {ap : Option Addr} {np cp : Nat} {w : World} (hq : ps.length ≤ 4611686018427387904) (Hp : RowA w ap np cp (scells ps)) :
  Calls Tryd.prog 112 #[.slice ap np cp, .func (.func 113) #[] #[]] w fun e w' => e = .returned (.bool (!all32 ps)) ∧ Below w.heap.size w w' := by
 obtain rfl : np = ps.length := by have := Hp.len; rwa [scells_len] at this
 go_enter Tryd.func112, Tryd.ntmps112
 have M := Mem.start w
 refine qS fun _ k1 => ?_
 refine lg ?_; refine lZ k1 ?_
 refine qS fun _ k3 => ?_
 refine lM ?_; refine lM ?_
 refine cM 2 fun Lk hLk => ?_
 refine vCh (v := .int .i64 (badI ps)) (args := #[.slice ap ps.length cp, .func (.func 113) #[] #[]]) (fun W hW => by with_reducible exact idxp_r (ps := ps) hq ((M.sees hW).oldA Hp)) ?_
 refine vB (v := .bool (decide (0 ≤ badI ps))) (hr := run_geq _ _ _ _) ?_
 refine hLk _ fun w5 M => ?_
 refine lg ?_; refine lZ k3 ?_; refine rt1 ?_
 have BE := M.below
 exact ⟨by (rw [badI_ge]; try rfl), BE⟩
set_option maxHeartbeats 1000000 in
theorem wellp_r {ps : List (List UInt8)} {ap : Option Addr} {np cp : Nat} {w : World} (hq : ps.length ≤ 4611686018427387904) (Hp : RowA w ap np cp (scells ps)) :
  Calls Tryd.prog 78 #[.slice ap np cp] w fun e w' => e = .returned (.bool (all32 ps)) ∧ Below w.heap.size w w' := by
 obtain rfl : np = ps.length := by have := Hp.len; rwa [scells_len] at this
 go_enter Tryd.func78, Tryd.ntmps78
 have M := Mem.start w
 refine qS fun _ k1 => ?_
 refine lg ?_; refine lZ k1 ?_
 refine qS fun _ k3 => ?_
 refine lM ?_
 refine cM 2 fun Lk hLk => ?_
 refine vCh (v := .bool (!all32 ps)) (args := #[.slice ap ps.length cp, .func (.func 113) #[] #[]]) (fun W hW => by with_reducible exact contp_r (ps := ps) hq ((M.sees hW).oldA Hp)) ?_
 refine wpV_not (b := !all32 ps) (by rfl) rfl rfl ?_
 simp only [Z0, Z6]
 refine hLk _ fun w5 M => ?_
 refine lg ?_; refine lZ k3 ?_; refine rt1 ?_
 have BE := M.below
 exact ⟨by (rw [Bool.not_not]; try rfl), BE⟩
end Go.Proofs.Yc

