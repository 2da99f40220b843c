/- What the reach says of the arguments: a text's length, a row's. -/
import Derived.Test.YticcchgckljlnaaDoorJoinB
import Derived.Test.YticcchgckljlnaaDoorTrP
set_option linter.unusedSimpArgs false
set_option linter.unusedVariables false
namespace Go.Proofs.Num
open Go Go.RowKit Go.ChangeShapes Go.WideShapes Go.ChangeAt
section
variable {H : Type} {enc : TypeId × Value → H} {P : Program}
theorem weights_str : ∀ {ts : List TypeId} {ds : List (DataW H)} {j : Nat} {t : TypeId} {bytes : List UInt8}, (DataW.weightsEach P ts ds).all (· ≤ reachBytes) = true → ts[j]? = some t → ds[j]? = some (.lit (.string bytes)) → bytes.length ≤ 140737488351232
  | [], _, _, _, _, _, ht, _ => by simp at ht
  | _ :: _, [], _, _, _, _, _, hd => by simp at hd
  | t0 :: ts, d :: ds, 0, t, bytes, h, ht, hd => by
    obtain rfl : t0 = t := by simpa using ht
    obtain rfl : d = .lit (.string bytes) := by simpa using hd
    rw [DataW.weightsEach, DataW.weights] at h
    simp only [List.singleton_append, List.all_cons, Bool.and_eq_true, decide_eq_true_eq] at h
    exact h.1
  | t0 :: ts, d :: ds, j + 1, t, bytes, h, ht, hd => by
    rw [DataW.weightsEach, List.all_append, Bool.and_eq_true] at h
    exact weights_str h.2 (by simpa using ht) (by simpa using hd)
theorem row_bound {t e : TypeId} {r : Reach} {b0 : Nat} {W : World} {v : Value} {d : DataW H} {ps : List MemPlace} {l : List (List UInt8)} (ht : P.underlying t = some (.slice e)) (he : P.underlying e = some .string) (hc : P.cellsOf e = 1)
    (hval : Value.okWide P W r b0 t v) (hd : DataW.Trod enc P W 0 (fun _ => true) true t v d ps) (h : RowS W v l) : l.length ≤ 9223372036854775807 := by
  obtain ⟨a0, len, cap, rfl⟩ := okWide_slice ht hval
  obtain ⟨fuel, hf⟩ := hd
  obtain ⟨a, c, e1, hR⟩ := h.open
  injection e1 with e1 e2 e3
  have hcap := hR.cap
  rcases open_strings ht he hc hf with ⟨hcs, _⟩ | ⟨a, len', cap', ss, hcs, _, hl, hm, _⟩
  · simp [Value.cells] at hcs
    obtain ⟨rfl, rfl, rfl⟩ := hcs
    omega
  · simp [Value.cells] at hcs
    obtain ⟨rfl, rfl, rfl⟩ := hcs
    have : cap ≤ 9223372036854775807 := hm
    omega
end
end Go.Proofs.Num

