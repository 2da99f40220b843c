import Derived.WalkKit
import Derived.WalkSpells
import Derived.Laws.Pointers
import Derived.RowKit3
import Derived.Below
import Derived.Outline
import Derived.LoopN
import Derived.Lib.Hide
import Derived.Handy
import Derived.Laws.Bits64b
import Derived.Test.YticcchgckljlnaaDoorTr3
import Derived.Test.YticcchgckljlnaaDoorTrP
set_option linter.unusedSimpArgs false
set_option linter.unusedVariables false
namespace Go.Proofs.Yb
open Go Go.RowKit Go.Proofs.Num
open List renaming set → Z0, take → Z1, drop → Z2
open Go renaming undef → Z3, wp_seq_k → Z4, wp_cond_true → Z5, wp_cond_false → Z6
open Go.Proofs.Num renaming putT → Z7, wp_region_seq → Z8, wpL_nil → Z9, no_panic → Z10, wpL_chunk → Z11, wpL_move → Z12, wpL_assign → Z13, wpV_nil → Z14, wpV_bin → Z15, wpV_move → Z16, then_normal → Z17, wpL_store1 → Z18, wpV_val → Z19, wpV_callf → Z20
attribute [local irreducible] wpV wpN wpList
set_option maxHeartbeats 2000000 in
theorem idx1_r {ps : List (List UInt8)} {ap : Option Addr} {np cp : Nat} {w : World} (hq : ps.length ≤ 4611686018427387904) (Hp : RowA w ap np cp (scells ps)) :
  Calls Tryd.prog 109 #[.slice ap np cp, .func (.func 97) #[] #[]] w fun e w' => e = .returned (.int .i64 (badI ps)) ∧ Below w.heap.size w w' := by
 obtain rfl : np = ps.length := by have := Hp.len; rwa [scells_len] at this
 go_enter Tryd.func109, Tryd.ntmps109
 have M := Mem.start w
 refine Z4 (fun K1 hK1 => ?_)
 refine Z8 ?_
 refine Z13 (v := .int .i64 0) (by rfl) (by rfl) (by rfl) ?_
 simp only [Z7,Z0]
 refine Z9 (Z10 ?_)
 refine hK1 _ _ ?_
 refine Z4 (fun K3 hK3 => ?_)
 refine Z4 (fun K4 hK4 => ?_)
 refine Z8 ?_
 refine Z12 (v := .slice ap ps.length cp) (by rfl) (by rfl) (by rfl) ?_
 simp only [Z7,Z0]
 refine Z11 1 (by rfl) (fun Lk hLk => ?_)
 simp only [Z1,Z2]
 refine wpV_lenA (n := ps.length) (by rfl) rfl rfl rfl Tryd.underlying48 ?_
 simp only [Z7,Z0]
 refine Z14 (hLk _ (fun w6 Sw6 => ?_))
 clear hLk Lk
 simp only [Z1,Z2]
 replace M := M.sees Sw6
 refine Z12 (v := .int .i64 0) (by rfl) (by rfl) (by rfl) ?_
 simp only [Z7,Z0]
 refine Z9 (Z10 ?_)
 refine hK4 _ _ ?_
 refine wp_block ?_
 refine wp_loop_ghost (fun n9 a9 W9 => ∃ (k : Nat) (u7 : Nat → Value), n9 = ps.length - k ∧ a9 = { tmps := #[.slice ap ps.length cp, .func (.func 97) #[] #[], Z3, Z3, u7 4, u7 5, .slice ap ps.length cp, .int .i64 ((ps.length : Nat) : Int), .int .i64 ((k : Nat) : Int), u7 9, u7 10, u7 11, u7 12, u7 13, u7 14, u7 15, u7 16, u7 17, u7 18], defers := [] } ∧ Mem [] w W9 [] ∧ (k ≤ ps.length) ∧ (∀ j, j < k → (ps.getD j []).length = 32)) (ps.length - (0)) ?_ (fun n9 a9 W9 hI => ?_)
 ·
  exact ⟨0, (fun q9 => (#[Z3, Z3, Z3, Z3, .int .i64 0, Z3, Z3, Z3, Z3, Z3, Z3, Z3, Z3, Z3, Z3, Z3, Z3, Z3, Z3] : Array Value).getD q9 Z3), rfl, rfl, M, (by omega), (fun j hj => absurd hj (Nat.not_lt_zero _))⟩
 clear M
 obtain ⟨k, u7, rfl, rfl, M, hk4, hall⟩ := hI
 obtain ⟨w8, rfl⟩ : ∃ W8, W8 = W9 := ⟨_, rfl⟩
 refine Z4 (fun K9 hK9 => ?_)
 refine Z8 ?_
 refine Z11 1 (by rfl) (fun Lk hLk => ?_)
 simp only [Z1,Z2]
 refine Z15 (v := .bool (decide (k < ps.length))) (by rfl) rfl rfl rfl (fun W => run_lssN k ps.length _ _ W) ?_
 simp only [Z7,Z0]
 refine Z14 (hLk _ (fun w11 Sw11 => ?_))
 clear hLk Lk
 simp only [Z1,Z2]
 replace M := M.sees Sw11
 refine Z9 (Z10 ?_)
 refine hK9 _ _ ?_
 refine Z4 (fun K12 hK12 => ?_)
 cases hc13 : (decide (k < ps.length))
 ·
  have ek : k = ps.length := by have := of_decide_eq_false hc13; omega
  subst ek
  refine Z6 rfl ?_
  refine wp_exit ?_
  refine hK3 _ _ ?_
  refine Z4 (fun K14 hK14 => ?_)
  refine Z8 ?_
  refine Z13 (v := .int .i64 (-1)) (by rfl) (by rfl) (by rfl) ?_
  simp only [Z7,Z0]
  refine Z9 (Z10 ?_)
  refine hK14 _ _ ?_
  refine wp_ret ?_
  repeat (first | with_reducible refine then_ret ?_ | with_reducible refine inblock_ret ?_)
  refine bodyPost_ret (v := .int .i64 (-1)) (res1 rfl (.tmp (by rfl))) rfl ?_
  have BE := M.below
  exact ⟨by rw [badI_none hall], BE⟩
 ·
  have hk : k < ps.length := of_decide_eq_true hc13
  refine Z5 rfl ?_
  refine wp_skip ?_
  refine hK12 _ _ ?_
  refine Z4 (fun K16 hK16 => ?_)
  refine wp_block ?_
  refine Z4 (fun K17 hK17 => ?_)
  refine Z8 ?_
  refine Z12 (v := .int .i64 ((k : Nat) : Int)) (by rfl) (by rfl) (by rfl) ?_
  simp only [Z7,Z0]
  refine Z13 (v := .int .i64 ((k : Nat) : Int)) (by rfl) (by rfl) (by rfl) ?_
  simp only [Z7,Z0]
  refine Z9 (Z10 ?_)
  refine hK17 _ _ ?_
  refine Z4 (fun K19 hK19 => ?_)
  refine Z8 ?_
  refine Z12 (v := .func (.func 97) #[] #[]) (by rfl) (by rfl) (by rfl) ?_
  simp only [Z7,Z0]
  refine Z12 (v := .slice ap ps.length cp) (by rfl) (by rfl) (by rfl) ?_
  simp only [Z7,Z0]
  refine Z12 (v := .int .i64 ((k : Nat) : Int)) (by rfl) (by rfl) (by rfl) ?_
  simp only [Z7,Z0]
  refine Z11 3 (by rfl) (fun Lk hLk => ?_)
  simp only [Z1,Z2]
  refine wpV_idxA (i := k) (by rfl) rfl rfl rfl Tryd.underlying48 info9 (M.oldA Hp) (by omega) ?_
  simp only [Z7,Z0]
  refine wpV_loadA (i := k) (v := .string (bs (ps.getD k []))) (by rfl) rfl rfl (M.oldA Hp) (scells_get (ps := ps) (by omega)) Tryd.underlying9 rfl ?_
  simp only [Z7,Z0]
  refine wpV_callv (v := .bool (decide ((ps.getD k []).length ≠ 32))) (args := #[.string (bs (ps.getD k []))]) (by rfl) rfl rfl Tryd.func97 (by kernel_rfl) (by kernel_rfl) rfl (fun W hW => wellF_c) ?_
  simp only [Z7,Z0]
  refine Z14 (hLk _ (fun w21 Sw21 => ?_))
  clear hLk Lk
  simp only [Z1,Z2]
  replace M := M.sees Sw21
  refine Z9 (Z10 ?_)
  refine hK19 _ _ ?_
  cases hc22 : (decide ((ps.getD k []).length ≠ 32))
  ·
   have hgood : (ps.getD k []).length = 32 := Decidable.not_not.1 (of_decide_eq_false hc22)
   refine Z6 rfl ?_
   refine wp_skip ?_
   refine hK16 _ _ ?_
   refine Z8 ?_
   refine Z11 1 (by rfl) (fun Lk hLk => ?_)
   simp only [Z1,Z2]
   refine Z15 (v := .int .i64 ((k + 1 : Nat) : Int)) (by rfl) rfl rfl rfl (fun W => run_add (by simp only [IntKind.wrap_i64]; omega) W) ?_
   simp only [Z7,Z0]
   refine Z14 (hLk _ (fun w24 Sw24 => ?_))
   clear hLk Lk
   simp only [Z1,Z2]
   replace M := M.sees Sw24
   refine Z12 (v := .int .i64 ((k + 1 : Nat) : Int)) (by rfl) (by rfl) (by rfl) ?_
   simp only [Z7,Z0]
   refine Z9 (Z10 ?_)
   refine Exists.intro _ ⟨?_, (k + 1), (fun q9 => (#[Z3, Z3, Z3, Z3, u7 4, .int .i64 ((k : Nat) : Int), Z3, Z3, Z3, .bool true, .int .i64 ((k : Nat) : Int), .func (.func 97) #[] #[], .slice ap ps.length cp, .int .i64 ((k : Nat) : Int), .pointer (ap.map (·.add k)), .string (bs (ps.getD k [])), .bool false, u7 17, .int .i64 ((k + 1 : Nat) : Int)] : Array Value).getD q9 Z3), rfl, rfl, M, (by omega), (fun j hj => (Nat.lt_succ_iff_lt_or_eq.1 hj).elim (hall j) (fun e => e ▸ hgood))⟩
   omega
  ·
   have hgood : (ps.getD k []).length ≠ 32 := of_decide_eq_true hc22
   refine Z5 rfl ?_
   refine Z4 (fun K25 hK25 => ?_)
   refine Z8 ?_
   refine Z12 (v := .int .i64 ((k : Nat) : Int)) (by rfl) (by rfl) (by rfl) ?_
   simp only [Z7,Z0]
   refine Z13 (v := .int .i64 ((k : Nat) : Int)) (by rfl) (by rfl) (by rfl) ?_
   simp only [Z7,Z0]
   refine Z9 (Z10 ?_)
   refine hK25 _ _ ?_
   refine wp_ret ?_
   repeat (first | with_reducible refine then_ret ?_ | with_reducible refine inblock_ret ?_)
   refine bodyPost_ret (v := .int .i64 ((k : Nat) : Int)) (res1 rfl (.tmp (by rfl))) rfl ?_
   have BE := M.below
   exact ⟨by rw [badI_some hk hall hgood], BE⟩
set_option maxHeartbeats 1000000 in
theorem cont1_r {ps : List (List UInt8)} {ap : Option Addr} {np cp : Nat} {w : World} (hq : ps.length ≤ 4611686018427387904) (Hp : RowA w ap np cp (scells ps)) :
  Calls Tryd.prog 96 #[.slice ap np cp, .func (.func 97) #[] #[]] w fun e w' => e = .returned (.bool (!all32 ps)) ∧ Below w.heap.size w w' := by
 obtain rfl : np = ps.length := by have := Hp.len; rwa [scells_len] at this
 go_enter Tryd.func96, Tryd.ntmps96
 have M := Mem.start w
 refine Z4 (fun K1 hK1 => ?_)
 refine Z8 ?_
 refine Z13 (v := .bool false) (by rfl) (by rfl) (by rfl) ?_
 simp only [Z7,Z0]
 refine Z9 (Z10 ?_)
 refine hK1 _ _ ?_
 refine Z4 (fun K3 hK3 => ?_)
 refine Z8 ?_
 refine Z12 (v := .slice ap ps.length cp) (by rfl) (by rfl) (by rfl) ?_
 simp only [Z7,Z0]
 refine Z12 (v := .func (.func 97) #[] #[]) (by rfl) (by rfl) (by rfl) ?_
 simp only [Z7,Z0]
 refine Z11 2 (by rfl) (fun Lk hLk => ?_)
 simp only [Z1,Z2]
 refine Z20 (v := .int .i64 (badI ps)) (args := #[.slice ap ps.length cp, .func (.func 97) #[] #[]]) (by rfl) rfl Tryd.func109 (by kernel_rfl) (by kernel_rfl) rfl (fun W hW => by with_reducible exact idx1_r (ps := ps) hq ((M.sees hW).oldA Hp)) ?_
 simp only [Z7,Z0]
 refine Z15 (v := .bool (decide (0 ≤ badI ps))) (by rfl) rfl rfl rfl (fun W => run_geq _ _ _ _ W) ?_
 simp only [Z7,Z0]
 refine Z14 (hLk _ (fun w5 Sw5 => ?_))
 clear hLk Lk
 simp only [Z1,Z2]
 replace M := M.sees Sw5
 refine Z13 (v := .bool (decide (0 ≤ badI ps))) (by rfl) (by rfl) (by rfl) ?_
 simp only [Z7,Z0]
 refine Z9 (Z10 ?_)
 refine hK3 _ _ ?_
 refine wp_ret ?_
 repeat (first | with_reducible refine then_ret ?_ | with_reducible refine inblock_ret ?_)
 refine bodyPost_ret (v := .bool (decide (0 ≤ badI ps))) (res1 rfl (.tmp (by rfl))) rfl ?_
 have BE := M.below
 exact ⟨by rw [badI_ge], BE⟩
set_option maxHeartbeats 1000000 in
theorem well_r {ps : List (List UInt8)} {ap : Option Addr} {np cp : Nat} {w : World} (hq : ps.length ≤ 4611686018427387904) (Hp : RowA w ap np cp (scells ps)) :
  Calls Tryd.prog 76 #[.slice ap np cp] w fun e w' => e = .returned (.bool (all32 ps)) ∧ Below w.heap.size w w' := by
 obtain rfl : np = ps.length := by have := Hp.len; rwa [scells_len] at this
 go_enter Tryd.func76, Tryd.ntmps76
 have M := Mem.start w
 refine Z4 (fun K1 hK1 => ?_)
 refine Z8 ?_
 refine Z13 (v := .bool false) (by rfl) (by rfl) (by rfl) ?_
 simp only [Z7,Z0]
 refine Z9 (Z10 ?_)
 refine hK1 _ _ ?_
 refine Z4 (fun K3 hK3 => ?_)
 refine Z8 ?_
 refine Z12 (v := .slice ap ps.length cp) (by rfl) (by rfl) (by rfl) ?_
 simp only [Z7,Z0]
 refine Z11 2 (by rfl) (fun Lk hLk => ?_)
 simp only [Z1,Z2]
 refine Z20 (v := .bool (!all32 ps)) (args := #[.slice ap ps.length cp, .func (.func 97) #[] #[]]) (by rfl) rfl Tryd.func96 (by kernel_rfl) (by kernel_rfl) rfl (fun W hW => by with_reducible exact cont1_r (ps := ps) hq ((M.sees hW).oldA Hp)) ?_
 simp only [Z7,Z0]
 refine wpV_not (b := !all32 ps) (by rfl) rfl rfl ?_
 simp only [Z7,Z0]
 refine Z14 (hLk _ (fun w5 Sw5 => ?_))
 clear hLk Lk
 simp only [Z1,Z2]
 replace M := M.sees Sw5
 refine Z13 (v := .bool (!(!all32 ps))) (by rfl) (by rfl) (by rfl) ?_
 simp only [Z7,Z0]
 refine Z9 (Z10 ?_)
 refine hK3 _ _ ?_
 refine wp_ret ?_
 repeat (first | with_reducible refine then_ret ?_ | with_reducible refine inblock_ret ?_)
 refine bodyPost_ret (v := .bool (!(!all32 ps))) (res1 rfl (.tmp (by rfl))) rfl ?_
 have BE := M.below
 exact ⟨by rw [Bool.not_not], BE⟩
set_option maxHeartbeats 1000000 in
theorem right_r {ps : List (List UInt8)} {ap : Option Addr} {np cp : Nat} {w : World} (Hp : RowA w ap np cp (scells ps)) :
  Calls Tryd.prog 42 #[.slice ap np cp] w fun e w' => e = .returned (.bool (rightB ps)) ∧ Below w.heap.size w w' := by
 obtain rfl : np = ps.length := by have := Hp.len; rwa [scells_len] at this
 go_enter Tryd.func42, Tryd.ntmps42
 have M := Mem.start w
 refine Z4 (fun K1 hK1 => ?_)
 refine Z8 ?_
 refine Z13 (v := .bool false) (by rfl) (by rfl) (by rfl) ?_
 simp only [Z7,Z0]
 refine Z9 (Z10 ?_)
 refine hK1 _ _ ?_
 refine Z4 (fun K3 hK3 => ?_)
 cases hg4 : (decide (ps.length ≤ 4096))
 ·
  refine Z8 ?_
  refine Z12 (v := .slice ap ps.length cp) (by rfl) (by rfl) (by rfl) ?_
  simp only [Z7,Z0]
  refine Z11 6 (by rfl) (fun Lk hLk => ?_)
  simp only [Z1,Z2]
  refine wpV_lenA (n := ps.length) (by rfl) rfl rfl rfl Tryd.underlying48 ?_
  simp only [Z7,Z0]
  refine Z15 (v := .bool false) (by rfl) rfl rfl rfl (fun W => (run_leqN ps.length 4096 _ _ W).trans (by rw [hg4])) ?_
  simp only [Z7,Z0]
  refine Z16 (v := .bool false) (by rfl) rfl rfl ?_
  simp only [Z7,Z0]
  refine wpV_skip (by rfl) (by rfl) ?_
  simp only [Z7,Z0]
  refine wpV_skip (by rfl) (by rfl) ?_
  simp only [Z7,Z0]
  refine wpV_pick (v := .bool false) (by rfl) rfl rfl rfl ?_
  simp only [Z7,Z0]
  refine Z14 (hLk _ (fun w6 Sw6 => ?_))
  clear hLk Lk
  simp only [Z1,Z2]
  replace M := M.sees Sw6
  refine Z13 (v := .bool false) (by rfl) (by rfl) (by rfl) ?_
  simp only [Z7,Z0]
  refine Z9 (Z10 ?_)
  refine hK3 _ _ ?_
  refine wp_ret ?_
  repeat (first | with_reducible refine then_ret ?_ | with_reducible refine inblock_ret ?_)
  refine bodyPost_ret (v := .bool false) (res1 rfl (.tmp (by rfl))) rfl ?_
  have BE := M.below
  exact ⟨by unfold rightB; first | rw [hg4, Bool.true_and] | rw [hg4, Bool.false_and], BE⟩
 ·
  have hle : ps.length ≤ 4096 := of_decide_eq_true hg4
  refine Z8 ?_
  refine Z12 (v := .slice ap ps.length cp) (by rfl) (by rfl) (by rfl) ?_
  simp only [Z7,Z0]
  refine Z11 6 (by rfl) (fun Lk hLk => ?_)
  simp only [Z1,Z2]
  refine wpV_lenA (n := ps.length) (by rfl) rfl rfl rfl Tryd.underlying48 ?_
  simp only [Z7,Z0]
  refine Z15 (v := .bool true) (by rfl) rfl rfl rfl (fun W => (run_leqN ps.length 4096 _ _ W).trans (by rw [hg4])) ?_
  simp only [Z7,Z0]
  refine Z16 (v := .bool true) (by rfl) rfl rfl ?_
  simp only [Z7,Z0]
  refine Z16 (v := .slice ap ps.length cp) (by rfl) rfl rfl ?_
  simp only [Z7,Z0]
  refine Z20 (v := .bool (all32 ps)) (args := #[.slice ap ps.length cp]) (by rfl) rfl Tryd.func76 (by kernel_rfl) (by kernel_rfl) rfl (fun W hW => by with_reducible exact well_r (ps := ps) (by omega) ((M.sees hW).oldA Hp)) ?_
  simp only [Z7,Z0]
  refine wpV_pick (v := .bool (all32 ps)) (by rfl) rfl rfl rfl ?_
  simp only [Z7,Z0]
  refine Z14 (hLk _ (fun w8 Sw8 => ?_))
  clear hLk Lk
  simp only [Z1,Z2]
  replace M := M.sees Sw8
  refine Z13 (v := .bool (all32 ps)) (by rfl) (by rfl) (by rfl) ?_
  simp only [Z7,Z0]
  refine Z9 (Z10 ?_)
  refine hK3 _ _ ?_
  refine wp_ret ?_
  repeat (first | with_reducible refine then_ret ?_ | with_reducible refine inblock_ret ?_)
  refine bodyPost_ret (v := .bool (all32 ps)) (res1 rfl (.tmp (by rfl))) rfl ?_
  have BE := M.below
  exact ⟨by unfold rightB; first | rw [hg4, Bool.true_and] | rw [hg4, Bool.false_and], BE⟩
end Go.Proofs.Yb

