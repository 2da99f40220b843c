/- Rows of texts as a law takes them; what Root answers. -/
import Derived.Test.YticcchgckljlnaaDoorTr
import Derived.Test.YticcchgckljlnaaDoorOrders2
set_option linter.unusedSimpArgs false
set_option linter.unusedVariables false
namespace Go.Proofs.Num
open Go Go.RowKit
/-- A row of texts, or none. -/
def RowS (w : World) (v : Value) (ps : List (List UInt8)) : Prop := (v = .slice none 0 0 ∧ ps = []) ∨ (∃ a, v = .slice (some a) 0 0 ∧ ps = []) ∨ ∃ g o n c, v = .slice (some ⟨g, o, none⟩) n c ∧ n = ps.length ∧ n ≤ c ∧ g < w.heap.size ∧ w.rangeAt g o (scells ps)
theorem RowS.sees {w W : World} {v : Value} {ps : List (List UInt8)} (h : RowS w v ps) (hS : Sees w W) : RowS W v ps := by
  rcases h with h | h | ⟨g, o, n, c, h1, h2, h3, h4, h5⟩
  · exact .inl h
  · exact .inr (.inl h)
  · exact .inr <| .inr ⟨g, o, n, c, h1, h2, h3, Nat.lt_of_lt_of_le h4 hS.2.2.size, range_sees h5 h4 hS⟩
theorem RowS.mem {w W : World} {l : List Bk} {v : Value} {ps : List (List UInt8)} (h : RowS w v ps) (M : Mem [] w W l) : RowS W v ps := h.sees M.seesAll
theorem cutsS_nil (k m : Nat) : cutsS k m [] = [] := by simp [cutsS]
theorem cutsS_of {k m : Nat} {ps qs : List (List UInt8)} (h : qs = ps.take (min ps.length k)) : cutsS k m ps = qs.map fun s => cut s m := by rw [cutsS, ← h]
def rootT (ps : List (List UInt8)) : List UInt8 := if rightB ps then rootS ps else []
def rootE (ps : List (List UInt8)) : Int := if rightB ps then 0 else 1
theorem rootT_no {ps : List (List UInt8)} (h : rightB ps = false) : rootT ps = [] := by simp [rootT, h]
theorem rootT_yes {ps : List (List UInt8)} (h : rightB ps = true) : rootT ps = rootS ps := by simp [rootT, h]
theorem rootE_no {ps : List (List UInt8)} (h : rightB ps = false) : rootE ps = 1 := by simp [rootE, h]
theorem rootE_yes {ps : List (List UInt8)} (h : rightB ps = true) : rootE ps = 0 := by simp [rootE, h]
theorem rootS_two (a b : List UInt8) : rootS [a, b] = nodeS a b := by
  have e : splitN 2 = 1 := by decide
  rw [rootS_2 (by simp)]
  show nodeS (rootS (List.take (splitN 2) [a, b])) (rootS (List.drop (splitN 2) [a, b])) = _
  rw [e]
  show nodeS (rootS [a]) (rootS [b]) = _
  rw [rootS_1 rfl, rootS_1 rfl]
  rfl
theorem rootS_three (a b c : List UInt8) : rootS [a, b, c] = nodeS (nodeS a b) c := by
  have e : splitN 3 = 2 := by decide
  rw [rootS_2 (by simp)]
  show nodeS (rootS (List.take (splitN 3) [a, b, c])) (rootS (List.drop (splitN 3) [a, b, c])) = _
  rw [e]
  show nodeS (rootS [a, b]) (rootS [c]) = _
  rw [rootS_two, rootS_1 rfl]
  rfl
theorem right_three {a b c : List UInt8} (ha : a.length = 32) (hb : b.length = 32) (hc : c.length = 32) : rightB [a, b, c] = true := by
  simp [rightB, all32, ha, hb, hc]
theorem node_ne (a b : List UInt8) : nodeS a b ≠ [] := fun h => by
  have := nodeS_len a b
  rw [h] at this
  exact absurd this (by decide)
end Go.Proofs.Num
