/- Bytes of numbers, packing: plainly. -/
import Derived.Test.YtpgpjoldelobdaaDoorSteps13
import Derived.Test.YtpgpjoldelobdaaDoorShq
set_option linter.unusedSimpArgs false
set_option linter.unusedVariables false
namespace Go.Proofs.Num
open Go Go.RowKit
/-- A number in w bytes, the highest one first. -/
def beL (w n : Nat) : List UInt8 := (List.range w).map fun i => UInt8.ofNat (n / 256 ^ (w - 1 - i))
theorem beL_len (w n : Nat) : (beL w n).length = w := by simp [beL]
/-- What is written when the last i bytes are. -/
def beF (w n i j : Nat) : Nat := if w ≤ j + i then n / 256 ^ (w - 1 - j) % 256 else 0
theorem beF_zero (w n : Nat) : List.replicate w (.int .u8 0) = bl w (beF w n 0) := by
 rw [bl_zero]
 exact bl_ext fun j hj => by unfold beF; rw [if_neg (by omega)]
theorem beF_step (w n : Nat) {i : Nat} (h : i < w) : (bl w (beF w n i)).set (w - 1 - i) (.int .u8 ((n / 2 ^ (8 * i) % 256 : Nat) : Int)) = bl w (beF w n (i + 1)) := by
 refine (bl_set _ _ _).trans (bl_ext fun j hj => ?_)
 unfold beF
 by_cases h0 : j = w - 1 - i
 ·
  rw [if_pos h0, if_pos (by omega), show w - 1 - j = i by omega, show (256 : Nat) = 2 ^ 8 by decide, ← Nat.pow_mul]
 ·
  rw [if_neg h0]
  by_cases h1 : w ≤ j + i
  ·
   rw [if_pos h1, if_pos (by omega)]
  ·
   rw [if_neg h1, if_neg (by omega)]
theorem beF_end (w n : Nat) : bl w (beF w n w) = bcells (beL w n) := by
 unfold bl beL bcells
 rw [List.map_map]
 refine List.map_congr_left fun j hj => ?_
 have := List.mem_range.1 hj
 simp only [Function.comp, UInt8.toNat_ofNat']
 unfold beF
 rw [if_pos (by omega)]
/-- Parts put together: ahead of each its length in 4 bytes. -/
def packL : List (List UInt8) → List UInt8
 | [] => []
 | s :: ps => beL 4 s.length ++ s ++ packL ps
theorem packL_app : ∀ a b : List (List UInt8), packL (a ++ b) = packL a ++ packL b
 | [], _ => rfl
 | s :: a, b => by simp [packL, packL_app a b]
def packN : List (List UInt8) → Nat
 | [] => 0
 | s :: ps => 4 + s.length + packN ps
theorem packL_len : ∀ ps : List (List UInt8), (packL ps).length = packN ps
 | [] => rfl
 | s :: ps => by simp [packL, packN, packL_len ps, beL_len]; omega
theorem packL_take {ps : List (List UInt8)} {k : Nat} (h : k < ps.length) : packL (ps.take (k + 1)) = packL (ps.take k) ++ beL 4 (ps.getD k []).length ++ ps.getD k [] := by
 have e : ps.take (k + 1) = ps.take k ++ [ps.getD k []] := by rw [List.take_add_one, List.getD_eq_getElem?_getD, List.getElem?_eq_getElem h]; rfl
 rw [e, packL_app]
 simp [packL]
end Go.Proofs.Num

