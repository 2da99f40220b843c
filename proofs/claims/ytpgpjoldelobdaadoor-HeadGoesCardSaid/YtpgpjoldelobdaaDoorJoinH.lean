/- A head among the arguments, opened: two numbers and two texts. -/
import Derived.Test.YtpgpjoldelobdaaDoorShq
import Derived.Lib.SmallJoins
import Derived.Test.YtpgpjoldelobdaaDoorSteps8
set_option linter.unusedSimpArgs false
set_option linter.unusedVariables false
namespace Go.Proofs.Num
open Go Go.RowKit Go.ChangeShapes Go.WideShapes Go.ChangeAt Go.Joins
section
variable {H : Type} {enc : TypeId × Value → H} {P : Program}
theorem open_head {t : TypeId} {f0 f1 f2 f3 : Field} {r : Reach} {b0 base : Nat} {spare : Nat → Bool} {held : Bool} {W : World} {v : Value} {d : DataW H} {ps : List MemPlace} (ht : P.underlying t = some (.struct #[f0, f1, f2, f3]))
  (h0 : P.underlying f0.type = some (.int .i64)) (h1 : P.underlying f1.type = some .string) (h2 : P.underlying f2.type = some (.int .i64)) (h3 : P.underlying f3.type = some .string)
  (ho : f0.offset = 0 ∧ f1.offset = 1 ∧ f2.offset = 2 ∧ f3.offset = 3) (hc : P.cellsOf f0.type = 1 ∧ P.cellsOf f1.type = 1 ∧ P.cellsOf f2.type = 1 ∧ P.cellsOf f3.type = 1) (hct : P.cellsOf t = 4)
  (hval : Value.okWide P W r b0 t v) (hd : DataW.Trod enc P W base spare held t v d ps) :
  ∃ (z : Int) (rt : List UInt8) (tm : Int) (sg : List UInt8), v = .agg ([.int .i64 z, .string (bs rt), .int .i64 tm, .string (bs sg)] : List Value).toArray ∧ (Lit.int .i64 z).wf = true ∧ (Lit.int .i64 tm).wf = true ∧ rt.length ≤ maxLen ∧ sg.length ≤ maxLen := by
 obtain ⟨cs, rfl, hsz⟩ := okWide_struct ht hval
 obtain ⟨c0, c1, c2, c3, rfl⟩ := array4 (hsz.trans hct)
 obtain ⟨fuel, hf⟩ := hd
 obtain ⟨y0, y1, y2, y3, n, hx, _, g0, g1, g2, g3⟩ := trod_struct4 ht hf
 rw [ho.1, hc.1] at g0
 rw [ho.2.1, hc.2.1] at g1
 rw [ho.2.2.1, hc.2.2.1] at g2
 rw [ho.2.2.2, hc.2.2.2] at g3
 obtain ⟨z, e0, _, w0⟩ := DataW.trod_int h0 g0
 obtain ⟨s, e1, _, w1⟩ := DataW.trod_string h1 g1
 obtain ⟨tm, e2, _, w2⟩ := DataW.trod_int h2 g2
 obtain ⟨u, e3, _, w3⟩ := DataW.trod_string h3 g3
 obtain ⟨l, rfl⟩ := bs_of s
 obtain ⟨m, rfl⟩ := bs_of u
 simp [Value.cells] at e0 e1 e2 e3
 subst e0 e1 e2 e3
 exact ⟨z, l, tm, m, rfl, w0, w2, by simpa [bs_size] using w1, by simpa [bs_size] using w3⟩
end
end Go.Proofs.Num

