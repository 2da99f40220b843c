/- Sums that go on, plainly. -/
import Derived.Test.YtpgpjoldelobdaaDoorShq
import Derived.Deep.Strs
set_option linter.unusedSimpArgs false
set_option linter.unusedVariables false
namespace Go.Proofs.Num
open Go
structure SX where
  h : S8
  b : List UInt8
  n : Nat
structure SX.Ok (x : SX) : Prop where
  h : x.h.Ok
  b : x.b.length ≤ 9223372036854775807
  n : x.n < 18446744073709551616
instance : DecidableEq S8 := fun v u => decidable_of_iff (v.a = u.a ∧ v.b = u.b ∧ v.c = u.c ∧ v.d = u.d ∧ v.e = u.e ∧ v.f = u.f ∧ v.g = u.g ∧ v.h = u.h) (by
  constructor
  · intro h
    cases v; cases u
    simp_all
  · rintro rfl
    simp)
end Go.Proofs.Num

namespace Go.Proofs.Num
open Go Go.RowKit Go.ChangeShapes Go.WideShapes Go.ChangeAt
section
variable {H : Type} {enc : TypeId × Value → H} {P : Program}
theorem nat_of_wf8 {x : Int} (h : (Lit.int .u8 x).wf = true) : ∃ n : Nat, n < 256 ∧ x = (n : Int) := by
  simp [Lit.wf, IntKind.min, IntKind.max, IntKind.signed, IntKind.bits] at h
  exact ⟨x.toNat, by omega, by omega⟩
end
end Go.Proofs.Num

