/- What the reach says of the arguments: a text's length, a row's. -/
import Derived.Test.YticcchgckljlnaaDoorJoinB
import Derived.Test.YticcchgckljlnaaDoorTrP
import Derived.Test.YticcchgckljlnaaDoorTr
import Derived.Deep.Strs
import Derived.ChangeSlices
set_option linter.unusedSimpArgs false
set_option linter.unusedVariables false
namespace Go.Proofs.Num
open Go Go.RowKit Go.ChangeShapes Go.WideShapes Go.ChangeAt
section
variable {H : Type} {enc : TypeId × Value → H} {P : Program}
theorem row_bound {t e : TypeId} {r : Reach} {b0 : Nat} {W : World} {v : Value} {d : DataW H} {ps : List MemPlace} {l : List (List UInt8)} (ht : P.underlying t = some (.slice e)) (he : P.underlying e = some .string) (hc : P.cellsOf e = 1)
    (hval : Value.okWide P W r b0 t v) (hd : DataW.Trod enc P W 0 (fun _ => true) true t v d ps) (h : RowS W v l) : l.length ≤ 9223372036854775807 := by
  obtain ⟨a0, len, cap, rfl⟩ := okWide_slice ht hval
  obtain ⟨fuel, hf⟩ := hd
  obtain ⟨a, c, e1, hR⟩ := h.open
  injection e1 with e1 e2 e3
  have hcap := hR.cap
  rcases open_strings ht he hc hf with ⟨hcs, _⟩ | ⟨a, len', cap', ss, hcs, _, hl, hm, _⟩
  · simp [Value.cells] at hcs
    obtain ⟨rfl, rfl, rfl⟩ := hcs
    omega
  · simp [Value.cells] at hcs
    obtain ⟨rfl, rfl, rfl⟩ := hcs
    have : cap ≤ 9223372036854775807 := hm
    omega
end
end Go.Proofs.Num

namespace Go.Proofs.Num
open Go
structure SX where
  h : S8
  b : List UInt8
  n : Nat
structure SX.Ok (x : SX) : Prop where
  h : x.h.Ok
  b : x.b.length ≤ 9223372036854775807
  n : x.n < 18446744073709551616
instance : DecidableEq S8 := fun v u => decidable_of_iff (v.a = u.a ∧ v.b = u.b ∧ v.c = u.c ∧ v.d = u.d ∧ v.e = u.e ∧ v.f = u.f ∧ v.g = u.g ∧ v.h = u.h) (by
  constructor
  · intro h
    cases v; cases u
    simp_all
  · rintro rfl
    simp)
end Go.Proofs.Num

namespace Go.Proofs.Num
open Go Go.RowKit Go.ChangeShapes Go.WideShapes Go.ChangeAt
section
variable {H : Type} {enc : TypeId × Value → H} {P : Program}
theorem open_rowI {t e : TypeId} {r : Reach} {b0 : Nat} {W : World} {v : Value} {d : DataW H} {ps : List MemPlace} (ht : P.underlying t = some (.slice e)) (he : P.underlying e = some (.int .i64)) (hc : P.cellsOf e = 1)
    (hval : Value.okWide P W r b0 t v) (hd : DataW.Trod enc P W 0 (fun _ => true) true t v d ps) : ∃ (l : List Int) (a : Option Addr) (n c : Nat), v = .slice a n c ∧ RowA W a n c (icells l) := by
  obtain ⟨a0, len, cap, rfl⟩ := okWide_slice ht hval
  obtain ⟨fuel, hf⟩ := hd
  rcases open_ints ht he hc hf with ⟨hcs, _⟩ | ⟨a, len', cap', zs, hcs, _, hl, _, hz, _, hcell, _⟩
  · simp [Value.cells] at hcs
    obtain ⟨rfl, rfl, rfl⟩ := hcs
    exact ⟨[], none, 0, 0, rfl, RowA.nil⟩
  · simp [Value.cells] at hcs
    obtain ⟨rfl, rfl, rfl⟩ := hcs
    simp only [if_true] at hz
    by_cases h0 : cap = 0
    · subst h0
      obtain rfl : len = 0 := by omega
      exact ⟨[], some a, 0, 0, rfl, ⟨rfl, Nat.le_refl _, fun h => (by cases h), .inl rfl⟩⟩
    · have h1 := hcell 0 (by omega)
      rw [show a.add 0 = a from rfl] at h1
      obtain ⟨g, o, sp⟩ := a
      have hsp : sp = none := by
        unfold World.cell? at h1
        split at h1
        · split at h1
          · cases h1
          · rename_i hn
            simpa using hn
        · cases h1
      subst hsp
      have hg : g < W.heap.size := by
        unfold World.cell? at h1
        split at h1
        · rename_i hh
          exact (Array.getElem?_eq_some_iff.1 hh).1
        · cases h1
      refine ⟨zs.take len, some ⟨g, o, none⟩, len, cap, rfl, RowA.of (fun j u hu => ?_) hg (by rw [icells_len, List.length_take]; omega) hl⟩
      have hj : j < len := by
        have := (List.getElem?_eq_some_iff.1 hu).1
        simp [icells] at this
        omega
      have h2 := hcell j (by omega)
      rw [add_at] at h2
      rw [h2, ← hu]
      have hjs : j < zs.length := by omega
      simp [icells, List.getElem?_take_of_lt hj, List.getElem?_eq_getElem hjs]
end
end Go.Proofs.Num

