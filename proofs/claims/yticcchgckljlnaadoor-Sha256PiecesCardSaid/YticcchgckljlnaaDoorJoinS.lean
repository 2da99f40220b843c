/- A sum that goes on, opened. -/
import Derived.Test.YticcchgckljlnaaDoorJoinB
import Derived.Test.YticcchgckljlnaaDoorSha5
import Derived.Deep.Strs
set_option linter.unusedSimpArgs false
set_option linter.unusedVariables false
namespace Go.Proofs.Num
open Go Go.RowKit Go.ChangeShapes Go.WideShapes Go.ChangeAt
section
variable {H : Type} {enc : TypeId × Value → H} {P : Program}
theorem list_ten {α : Type} (l : List α) (h : l.length = 10) : ∃ a0 a1 a2 a3 a4 a5 a6 a7 a8 a9, l = [a0, a1, a2, a3, a4, a5, a6, a7, a8, a9] := by
  match l, h with
  | [a0, a1, a2, a3, a4, a5, a6, a7, a8, a9], _ => exact ⟨a0, a1, a2, a3, a4, a5, a6, a7, a8, a9, rfl⟩
theorem nat_of_wf32 {x : Int} (h : (Lit.int .u32 x).wf = true) : ∃ n : Nat, n < 4294967296 ∧ x = (n : Int) := by
  simp [Lit.wf, IntKind.min, IntKind.max, IntKind.signed, IntKind.bits] at h
  exact ⟨x.toNat, by omega, by omega⟩
theorem nat_of_wf8 {x : Int} (h : (Lit.int .u8 x).wf = true) : ∃ n : Nat, n < 256 ∧ x = (n : Int) := by
  simp [Lit.wf, IntKind.min, IntKind.max, IntKind.signed, IntKind.bits] at h
  exact ⟨x.toNat, by omega, by omega⟩
theorem cells_u32 {W : World} {base n : Nat} {spare : Nat → Bool} {held : Bool} {e : TypeId} (he : P.underlying e = some (.int .u32)) {cs : List Value} {xs : List (DataW H × List MemPlace)} (hx : xs.length = cs.length)
    (h : ∀ i, i < cs.length → DataW.trod enc P W base spare held n e ((cs.drop (i * 1)).take 1) = xs[i]?) : ∀ i, i < cs.length → ∃ m : Nat, m < 4294967296 ∧ cs[i]? = some (.int .u32 ((m : Nat) : Int)) := fun i hi => by
  have h1 := h i hi
  rw [List.getElem?_eq_getElem (by omega)] at h1
  obtain ⟨x, e1, _, e3⟩ := DataW.trod_int he h1
  obtain ⟨m, hm, rfl⟩ := nat_of_wf32 e3
  refine ⟨m, hm, ?_⟩
  have := congrArg (fun q => q[0]?) e1
  simpa [List.getElem?_take_of_lt, List.getElem?_drop] using this
theorem open_sum {t e : TypeId} {f0 f1 f2 : Field} {r : Reach} {b0 : Nat} {base : Nat} {spare : Nat → Bool} {held : Bool} {W : World} {v : Value} {d : DataW H} {ps : List MemPlace} (ht : P.underlying t = some (.struct #[f0, f1, f2])) (hta : P.underlying f0.type = some (.array 8 e)) (he : P.underlying e = some (.int .u32))
    (hb : P.underlying f1.type = some .string) (hn : P.underlying f2.type = some (.int .u64)) (ho : f0.offset = 0 ∧ f1.offset = 8 ∧ f2.offset = 9) (hc : P.cellsOf t = 10 ∧ P.cellsOf f0.type = 8 ∧ P.cellsOf f1.type = 1 ∧ P.cellsOf f2.type = 1 ∧ P.cellsOf e = 1)
    (hval : Value.okWide P W r b0 t v) (hd : DataW.Trod enc P W base spare held t v d ps) :
    ∃ x : SX, x.Ok ∧ v = .agg (c8 x.h ++ [Value.string (bs x.b)] ++ [Value.int .u64 ((x.n : Nat) : Int)]).toArray := by
  obtain ⟨cs, rfl, hsz⟩ := okWide_struct ht hval
  obtain ⟨l⟩ := cs
  obtain ⟨o0, o1, o2⟩ := ho
  obtain ⟨c0, c1, c2, c3, c4⟩ := hc
  rw [c0] at hsz
  obtain ⟨a0, a1, a2, a3, a4, a5, a6, a7, a8, a9, rfl⟩ := list_ten l hsz
  obtain ⟨fuel, hf⟩ := hd
  obtain ⟨y0, y1, y2, n, hx, _, h0, h1, h2⟩ := Go.Deep.trod_struct3 ht hf
  rw [o0, c1] at h0
  rw [o1, c2] at h1
  rw [o2, c3] at h2
  obtain ⟨xs, m, _, _, hl, hxl, hel⟩ := DataW.trod_array hta h0
  rw [c4] at hel
  have hall := cells_u32 (cs := [a0, a1, a2, a3, a4, a5, a6, a7]) he hxl (fun i hi => hel i hi)
  obtain ⟨n0, g0, e0⟩ := hall 0 (by simp)
  obtain ⟨n1, g1, e1⟩ := hall 1 (by simp)
  obtain ⟨n2, g2, e2⟩ := hall 2 (by simp)
  obtain ⟨n3, g3, e3⟩ := hall 3 (by simp)
  obtain ⟨n4, g4, e4⟩ := hall 4 (by simp)
  obtain ⟨n5, g5, e5⟩ := hall 5 (by simp)
  obtain ⟨n6, g6, e6⟩ := hall 6 (by simp)
  obtain ⟨n7, g7, e7⟩ := hall 7 (by simp)
  obtain ⟨s, e8, _, hs⟩ := DataW.trod_string hb h1
  obtain ⟨z, e9, _, hz⟩ := DataW.trod_int hn h2
  obtain ⟨n9, g9, rfl⟩ := nat_of_wf64 hz
  obtain ⟨q, rfl⟩ := bs_of s
  simp [Value.cells] at e0 e1 e2 e3 e4 e5 e6 e7 e8 e9
  subst e0 e1 e2 e3 e4 e5 e6 e7 e8 e9
  refine ⟨⟨⟨n0, n1, n2, n3, n4, n5, n6, n7⟩, q, n9⟩, ⟨⟨g0, g1, g2, g3, g4, g5, g6, g7⟩, ?_, g9⟩, rfl⟩
  have : q.length ≤ maxLen := by simpa [bs_size] using hs
  exact Nat.le_trans this (by decide)
end
end Go.Proofs.Num
