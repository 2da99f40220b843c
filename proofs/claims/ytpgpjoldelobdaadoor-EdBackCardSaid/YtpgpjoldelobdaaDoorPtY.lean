/- A number of four words, one added: the carry, word by word; plainly. -/
import Derived.Test.YtpgpjoldelobdaaDoorAdds2
import Derived.Test.YtpgpjoldelobdaaDoorSteps4
set_option linter.unusedSimpArgs false
set_option linter.unusedVariables false
namespace Go.Proofs.Num
open Go Go.RowKit
theorem modZ (x : Int) {n : Nat} (h : 0 < n) : (-(n : Int) < x.tmod n ∧ x.tmod n < (n : Int)) ∧ ∃ i : Nat, (x.tmod n + n).tmod n = (i : Int) ∧ i < n := by
  have h1 : x.tmod n < (n : Int) := Int.tmod_lt_of_pos x (by omega)
  have h2 : -(n : Int) < x.tmod n := by
    have := Int.lt_tmod_of_pos x (show (0 : Int) < n by omega)
    omega
  refine ⟨⟨h2, h1⟩, ((x.tmod n + n).tmod n).toNat, ?_, ?_⟩
  · have h3 : 0 ≤ (x.tmod n + n).tmod n := Int.tmod_nonneg _ (by omega)
    omega
  · have h3 : 0 ≤ (x.tmod n + n).tmod n := Int.tmod_nonneg _ (by omega)
    have h4 := Int.tmod_lt_of_pos (x.tmod n + n) (show (0 : Int) < n by omega)
    omega
end Go.Proofs.Num

