import Derived.WalkKit
import Derived.WalkSpells
import Derived.Laws.Pointers
import Derived.RowKit3
import Derived.Below
import Derived.Outline
import Derived.LoopN
import Derived.Lib.Hide
import Derived.Handy
import Derived.Laws.Bits64b
import Derived.Test.YtpgpjoldelobdaaDoorHdB
import Derived.Test.YtpgpjoldelobdaaDoorShq
import Derived.Test.YtpgpjoldelobdaaDoorSq4
import Derived.Test.YtpgpjoldelobdaaDoorMacR
import Derived.Test.YtpgpjoldelobdaaDoorF3
set_option linter.unusedSimpArgs false
set_option linter.unusedVariables false
namespace Go.Proofs.Yc
open Go Go.RowKit Go.Proofs.Num
open Tryd renaming underlying37 → U937
open Go.Proofs.Num  renaming putT → Z0
open List renaming set → Z6
attribute [local irreducible] wpV wpN wpList
set_option maxHeartbeats 1000000 in
theorem Tnode_c {a b : List UInt8} {w : World} (ha : a.length ≤ 9223372036854775744) (hb : b.length ≤ 9223372036854775744) (L1 : 1 < w.heap.size) (R1_0 : w.rangeAt 1 0 kcells) :
  Calls Tryd.prog 119 #[.string (bs a), .string (bs b)] w fun e w' => e = .returned (.string (bs (nodeS a b))) ∧ Below w.heap.size w w' := by
 go_enter Tryd.func119, Tryd.ntmps119
 have M := Mem.start w
 refine qS fun _ k1 => ?_
 refine lg ?_; refine lZ k1 ?_
 refine qS fun _ k3 => ?_
 refine lM ?_; refine lM ?_
 refine wpL_rowN (vs := [.string (bs ([1])), .string (bs a), .string (bs b)]) (z := .string { data := #[] }) (bytes := 16) (by rfl) (by rfl) U937 (by kernel_rfl) (by decide) (by kernel_rfl) (fun g5 w6 Sw6 Hg5 Bg5 => ?_)
 replace M := ((M.sees Sw6).add (N := 3) (cs := [.string (bs ([1])), .string (bs a), .string (bs b)]) (M.ge Hg5) (M.fresh Hg5) Bg5 rfl)
 clear Bg5
 simp only [Z0, Z6]
 refine cM 1 fun Lk hLk => ?_
 refine vCh (v := .string (bs (sha (([1]) ++ a ++ b)))) (args := #[.slice (some ⟨g5, 0, none⟩) 3 3]) (fun W hW => (by have h := sum_c (ps := [[1], a, b]) (w := W) (by simp) (getD_le3 (by decide) ha hb) ((M.sees hW).oldL L1) ((M.sees hW).oldR R1_0 L1) (Nat.le_refl _) ((M.sees hW).lt 0 rfl) ((M.sees hW).r 0 0 rfl rfl); rw [flat3] at h; exact h)) ?_
 refine hLk _ fun w7 M => ?_
 refine lg ?_; refine lZ k3 ?_; refine rt1 ?_
 exact ⟨rfl, M.below⟩
set_option maxHeartbeats 1000000 in
theorem Tidx1_c0  {w : World}  :
  Calls Tryd.prog 144 #[.slice none 0 0, .func (.func 156) #[] #[]] w fun e w' => e = .returned (.int .i64 (-1)) ∧ Below w.heap.size w w' := by
 go_enter Tryd.func144, Tryd.ntmps144
 have M := Mem.start w
 refine qS fun _ k1 => ?_
 refine lg ?_; refine lZ k1 ?_
 refine sk fun _ k3 => ?_
 refine qS fun _ k4 => ?_
 refine lM ?_
 refine cM 1 fun Lk hLk => ?_
 refine wpV_lenA (n := 0) (by rfl) rfl rfl rfl U937 ?_
 simp only [Z0, Z6]
 refine hLk _ fun w6 M => ?_
 refine lM ?_; refine lZ k4 ?_; refine wp_block ?_; refine wp_loop_rounds 2 ?_
 rw [rounds_succ]
 refine qS fun _ k7 => ?_
 refine cM 1 fun Lk hLk => ?_
 refine vB (v := .bool false) (hr := run_lss _ _ _ _) ?_
 refine hLk _ fun w9 M => ?_
 refine lZ k7 ?_
 refine sk fun _ _ => ?_
 refine cF ?_; refine eZ k3 ?_
 refine qS fun _ k11 => ?_
 refine lg ?_; refine lZ k11 ?_; refine rt1 ?_
 exact ⟨rfl, M.below⟩
set_option maxHeartbeats 1000000 in
theorem Tcont1_c0  {w : World}  :
  Calls Tryd.prog 112 #[.slice none 0 0, .func (.func 156) #[] #[]] w fun e w' => e = .returned (.bool false) ∧ Below w.heap.size w w' := by
 go_enter Tryd.func112, Tryd.ntmps112
 have M := Mem.start w
 refine qS fun _ k1 => ?_
 refine lg ?_; refine lZ k1 ?_
 refine qS fun _ k3 => ?_
 refine lM ?_; refine lM ?_
 refine cM 2 fun Lk hLk => ?_
 refine vC (fun W => Tidx1_c0) ?_
 refine vB (v := .bool false) (hr := run_geq _ _ _ _) ?_
 refine hLk _ fun w5 M => ?_
 refine lg ?_; refine lZ k3 ?_; refine rt1 ?_
 exact ⟨rfl, M.below⟩
set_option maxHeartbeats 1000000 in
theorem Twell_c0  {w : World}  :
  Calls Tryd.prog 145 #[.slice none 0 0] w fun e w' => e = .returned (.bool true) ∧ Below w.heap.size w w' := by
 go_enter Tryd.func145, Tryd.ntmps145
 have M := Mem.start w
 refine qS fun _ k1 => ?_
 refine lg ?_; refine lZ k1 ?_
 refine qS fun _ k3 => ?_
 refine lM ?_
 refine cM 2 fun Lk hLk => ?_
 refine vC (fun W => Tcont1_c0) ?_
 refine vu ?_
 refine hLk _ fun w5 M => ?_
 refine lg ?_; refine lZ k3 ?_; refine rt1 ?_
 exact ⟨rfl, M.below⟩
set_option maxHeartbeats 1000000 in
theorem Tright_c0  {w : World}  :
  Calls Tryd.prog 114 #[.slice none 0 0] w fun e w' => e = .returned (.bool true) ∧ Below w.heap.size w w' := by
 go_enter Tryd.func114, Tryd.ntmps114
 have M := Mem.start w
 refine qS fun _ k1 => ?_
 refine lg ?_; refine lZ k1 ?_
 refine qS fun _ k3 => ?_
 refine lM ?_
 refine cM 6 fun Lk hLk => ?_
 refine wpV_lenA (n := 0) (by rfl) rfl rfl rfl U937 ?_
 simp only [Z0, Z6]
 refine vB (v := .bool true) (hr := run_leq _ _ _ _) ?_
 refine vM ?_; refine vM ?_
 refine vC (fun W => Twell_c0) ?_
 refine vK ?_
 refine hLk _ fun w5 M => ?_
 refine lg ?_; refine lZ k3 ?_; refine rt1 ?_
 exact ⟨rfl, M.below⟩
set_option maxHeartbeats 1000000 in
theorem Troot_c0  {w : World} (L1 : 1 < w.heap.size) (R1_0 : w.rangeAt 1 0 kcells) :
  Calls Tryd.prog 115 #[.slice none 0 0] w fun e w' => e = .returned (.string (bs (rootS []))) ∧ Below w.heap.size w w' := by
 go_enter Tryd.func115, Tryd.ntmps115
 have M := Mem.start w
 refine qS fun _ k1 => ?_
 refine lg ?_; refine lZ k1 ?_
 refine sk fun _ _ => ?_
 refine qS fun _ k4 => ?_
 refine lM ?_
 refine cM 1 fun Lk hLk => ?_
 refine wpV_lenA (n := 0) (by rfl) rfl rfl rfl U937 ?_
 simp only [Z0, Z6]
 refine hLk _ fun w6 M => ?_
 refine lZ k4 ?_; refine wp_block ?_
 refine qS fun _ k7 => ?_
 refine cM 1 fun Lk hLk => ?_
 refine vB (v := .bool true) (hr := fun W => (run_eqlN 0 0 _ _ W).trans (by rw [(show decide (0 = 0) = true from rfl)])) ?_
 refine hLk _ fun w9 M => ?_
 refine lg ?_; refine lZ k7 ?_; refine cT ?_
 refine qS fun _ k10 => ?_
 refine cM 1 fun Lk hLk => ?_
 refine vCh (fun W hW => sum0_c ((M.sees hW).oldL L1) ((M.sees hW).oldR R1_0 L1)) ?_
 refine hLk _ fun w12 M => ?_
 refine lg ?_; refine lZ k10 ?_; refine rt1 ?_
 have BE := M.below
 exact ⟨by (rw [rootS_0 rfl]; try rfl), BE⟩
set_option maxHeartbeats 1000000 in
theorem TRoot_c0  {w : World} (L1 : 1 < w.heap.size) (R1_0 : w.rangeAt 1 0 kcells) :
  Calls Tryd.prog 79 #[.slice none 0 0] w fun e w' => e = .returned (.tuple #[.string (bs (rootS [])), .int .i64 0]) ∧ Below w.heap.size w w' := by
 go_enter Tryd.func79, Tryd.ntmps79
 have M := Mem.start w
 refine qS fun _ k1 => ?_
 refine lg ?_; refine lg ?_; refine lZ k1 ?_
 refine sk fun _ k3 => ?_
 refine qS fun _ k4 => ?_
 refine lM ?_
 refine cM 2 fun Lk hLk => ?_
 refine vC (fun W => Tright_c0) ?_
 refine vt ?_
 refine hLk _ fun w6 M => ?_
 refine lZ k4 ?_; refine cF ?_; refine sZ k3 ?_
 refine qS fun _ k7 => ?_
 refine lM ?_
 refine cM 1 fun Lk hLk => ?_
 refine vCh (fun W hW => Troot_c0 ((M.sees hW).oldL L1) ((M.sees hW).oldR R1_0 L1)) ?_
 refine hLk _ fun w9 M => ?_
 refine lg ?_; refine lg ?_; refine lZ k7 ?_; refine rt2 ?_
 exact ⟨rfl, M.below⟩
end Go.Proofs.Yc

