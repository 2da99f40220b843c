/- Points, as the reference reckons them: plainly. -/
import Derived.Test.YtdcmmnindlhghaaJoinP
set_option linter.unusedSimpArgs false
set_option linter.unusedVariables false
namespace Go.Proofs.Num
open Go Go.RowKit
def dR : Nat := fmul (fsub 0 121665) (finv 121666)
theorem dR_lt : dR < 2 ^ 256 := fmul_lt ..
def onP (x y d : Nat) : Bool := decide (fsub (fmul y y) (fmul x x) = fadd 1 (fmul d (fmul (fmul x x) (fmul y y))))
def affX (p : P4) : Nat := fmul p.x (finv p.z)
def affY (p : P4) : Nat := fmul p.y (finv p.z)
theorem affX_lt (p : P4) : affX p < 2 ^ 256 := fmul_lt ..
theorem affY_lt (p : P4) : affY p < 2 ^ 256 := fmul_lt ..
def rRight (p : P4) : Bool := decide (leastF p.x = p.x) && decide (leastF p.y = p.y) && decide (leastF p.z = p.z) && decide (leastF p.t = p.t) && decide (p.z ≠ 0) && decide (fmul p.x p.y = fmul p.z p.t) && onP (affX p) (affY p) dR
/-- The document's sum. -/
def sumAll (a b c d : Nat) : Nat := fmul dR (fmul (fmul a c) (fmul b d))
def sumX (a b c d : Nat) : Nat := fmul (fadd (fmul a d) (fmul c b)) (finv (fadd 1 (sumAll a b c d)))
def sumY (a b c d : Nat) : Nat := fmul (fadd (fmul b d) (fmul a c)) (finv (fsub 1 (sumAll a b c d)))
end Go.Proofs.Num

