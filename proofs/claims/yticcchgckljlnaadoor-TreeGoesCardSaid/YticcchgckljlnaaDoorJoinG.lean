/- A tree that goes on, opened. -/
import Derived.Test.YticcchgckljlnaaDoorTrP
import Derived.Test.YticcchgckljlnaaDoorJoinB
import Derived.ChangeSame
set_option linter.unusedSimpArgs false
set_option linter.unusedVariables false
namespace Go.Proofs.Num
open Go Go.RowKit Go.ChangeShapes Go.WideShapes Go.ChangeAt
section
variable {H : Type} {enc : TypeId × Value → H} {P : Program}
theorem rowS_of_trod {t e : TypeId} {fuel : Nat} {W : World} {v : Value} {x : DataW H × List MemPlace} (ht : P.underlying t = some (.slice e)) (he : P.underlying e = some .string) (hc : P.cellsOf e = 1)
    (hf : DataW.trod enc P W 0 (fun _ => true) true fuel t [v] = some x) : ∃ l, RowS W v l := by
  have hsl : ∃ a0 len cap, v = .slice a0 len cap := by
    rcases open_strings ht he hc hf with ⟨hcs, _⟩ | ⟨a, len', cap', ss, hcs, _⟩
    · exact ⟨none, 0, 0, by simpa using hcs⟩
    · exact ⟨some a, len', cap', by simpa using hcs⟩
  obtain ⟨a0, len, cap, rfl⟩ := hsl
  rcases open_strings ht he hc hf with ⟨hcs, _⟩ | ⟨a, len', cap', ss, hcs, _, hl, _, hz, _, hcell, _⟩
  · simp at hcs
    obtain ⟨rfl, rfl, rfl⟩ := hcs
    exact ⟨[], .inl ⟨rfl, rfl⟩⟩
  · simp at hcs
    obtain ⟨rfl, rfl, rfl⟩ := hcs
    simp only [if_true] at hz
    by_cases h0 : cap = 0
    · subst h0
      obtain rfl : len = 0 := by omega
      exact ⟨[], .inr (.inl ⟨a, rfl, rfl⟩)⟩
    · have h1 := hcell 0 (by omega)
      rw [show a.add 0 = a from rfl] at h1
      obtain ⟨g, o, sp⟩ := a
      have hsp : sp = none := by
        unfold World.cell? at h1
        split at h1
        · split at h1
          · cases h1
          · rename_i hn
            simpa using hn
        · cases h1
      subst hsp
      have hg : g < W.heap.size := by
        unfold World.cell? at h1
        split at h1
        · rename_i hh
          exact (Array.getElem?_eq_some_iff.1 hh).1
        · cases h1
      refine ⟨(ss.take len).map fun s => s.data.toList, .inr (.inr ⟨g, o, len, cap, rfl, by simp; omega, hl, hg, fun j u hu => ?_⟩)⟩
      have hj : j < len := by
        have := (List.getElem?_eq_some_iff.1 hu).1
        simp [scells] at this
        omega
      have h2 := hcell j (by omega)
      have e1 : (⟨g, o, none⟩ : Addr).add j = ⟨g, o + j, none⟩ := by cases j <;> simp [Addr.add]
      rw [e1] at h2
      rw [h2, ← hu]
      have hjs : j < ss.length := by omega
      simp [scells, List.getElem?_take_of_lt hj, List.getElem?_eq_getElem hjs, bs]
theorem open_grow {t e : TypeId} {f0 f1 : Field} {r : Reach} {b0 : Nat} {W : World} {v : Value} {d : DataW H} {ps : List MemPlace} (ht : P.underlying t = some (.struct #[f0, f1])) (hi : P.underlying f0.type = some (.int .i64))
    (hs : P.underlying f1.type = some (.slice e)) (he : P.underlying e = some .string) (ho : f0.offset = 0 ∧ f1.offset = 1) (hc : P.cellsOf t = 2 ∧ P.cellsOf f0.type = 1 ∧ P.cellsOf f1.type = 1 ∧ P.cellsOf e = 1)
    (hval : Value.okWide P W r b0 t v) (hd : DataW.Trod enc P W 0 (fun _ => true) true t v d ps) : ∃ (x : Int) (u : Value) (l : List (List UInt8)), v = .agg [.int .i64 x, u].toArray ∧ RowS W u l := by
  obtain ⟨cs, rfl, hsz⟩ := okWide_struct ht hval
  obtain ⟨l⟩ := cs
  obtain ⟨o0, o1⟩ := ho
  obtain ⟨c0, c1, c2, c3⟩ := hc
  rw [c0] at hsz
  obtain ⟨a0, a1, rfl⟩ : ∃ a0 a1, l = [a0, a1] := by
    match l, hsz with
    | [a0, a1], _ => exact ⟨a0, a1, rfl⟩
  obtain ⟨fuel, hf⟩ := hd
  obtain ⟨y0, y1, n, hx, _, h0, h1⟩ := trod_struct2 ht hf
  rw [o0, c1] at h0
  rw [o1, c2] at h1
  obtain ⟨z, e9, _, hz⟩ := DataW.trod_int hi h0
  simp [Value.cells] at e9
  subst e9
  obtain ⟨q, hq⟩ := rowS_of_trod hs he c3 h1
  exact ⟨z, a1, q, rfl, hq⟩
end
end Go.Proofs.Num

