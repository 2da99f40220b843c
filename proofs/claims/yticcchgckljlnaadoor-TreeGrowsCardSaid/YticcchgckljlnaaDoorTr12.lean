import Derived.WalkKit
import Derived.WalkSpells
import Derived.Laws.Pointers
import Derived.RowKit3
import Derived.Below
import Derived.Outline
import Derived.LoopN
import Derived.Lib.Hide
import Derived.Handy
import Derived.Laws.Bits64b
import Derived.Test.YticcchgckljlnaaDoorTr4
import Derived.Test.YticcchgckljlnaaDoorTrP
import Derived.Test.YticcchgckljlnaaDoorAdds2
set_option linter.unusedSimpArgs false
set_option linter.unusedVariables false
namespace Go.Proofs.Yb
open Go Go.RowKit Go.Proofs.Num
attribute [local irreducible] wpV wpN wpList
theorem may_nil : mayG 0 [] = true := by
  have h := mayG_nat 0 []
  have e : mayN 0 [] = true := by
    unfold mayN
    rw [ones_zero]
    rfl
  exact h.trans e
theorem may_of {m : Nat} {ps : List (List UInt8)} (hm : m ≤ 4096) (hl : ps.length = ones m) (h : ∀ s ∈ ps, s.length = 32) : mayG ((m : Nat) : Int) ps = true := by
  rw [mayG_nat]
  unfold mayN
  rw [decide_eq_true hm, decide_eq_true hl]
  simpa [all32] using h
theorem ones_le_80 {n : Nat} (h : n ≤ 4096) : ones n ≤ 4611686018427387904 := Nat.le_trans (oc_ones h).2.2 (by decide)
end Go.Proofs.Yb

