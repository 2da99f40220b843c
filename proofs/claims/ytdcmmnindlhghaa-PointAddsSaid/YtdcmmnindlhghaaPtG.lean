/- Points, as the reference reckons them: plainly. -/
import Derived.Test.YtdcmmnindlhghaaEqS
set_option linter.unusedSimpArgs false
set_option linter.unusedVariables false
namespace Go.Proofs.Num
open Go Go.RowKit
def dR : Nat := fmul (fsub 0 121665) (finv 121666)
theorem dR_lt : dR < 2 ^ 256 := fmul_lt ..
def affX (p : P4) : Nat := fmul p.x (finv p.z)
def affY (p : P4) : Nat := fmul p.y (finv p.z)
theorem affX_lt (p : P4) : affX p < 2 ^ 256 := fmul_lt ..
theorem affY_lt (p : P4) : affY p < 2 ^ 256 := fmul_lt ..
/-- The document's sum. -/
def sumAll (a b c d : Nat) : Nat := fmul dR (fmul (fmul a c) (fmul b d))
def sumX (a b c d : Nat) : Nat := fmul (fadd (fmul a d) (fmul c b)) (finv (fadd 1 (sumAll a b c d)))
def sumY (a b c d : Nat) : Nat := fmul (fadd (fmul b d) (fmul a c)) (finv (fsub 1 (sumAll a b c d)))
theorem sumX_lt (a b c d : Nat) : sumX a b c d < 2 ^ 256 := fmul_lt ..
theorem sumY_lt (a b c d : Nat) : sumY a b c d < 2 ^ 256 := fmul_lt ..
end Go.Proofs.Num

