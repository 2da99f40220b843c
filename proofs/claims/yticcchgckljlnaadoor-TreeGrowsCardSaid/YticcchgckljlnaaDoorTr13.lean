import Derived.WalkKit
import Derived.WalkSpells
import Derived.Laws.Pointers
import Derived.RowKit3
import Derived.Below
import Derived.Outline
import Derived.LoopN
import Derived.Lib.Hide
import Derived.Handy
import Derived.Laws.Bits64b
import Derived.Test.YticcchgckljlnaaDoorTr12
import Derived.Test.YticcchgckljlnaaDoorTrR
set_option linter.unusedSimpArgs false
set_option linter.unusedVariables false
namespace Go.Proofs.Yb
open Go Go.RowKit Go.Proofs.Num
attribute [local irreducible] wpV wpN wpList
/-- The leaves' sums of the first of some texts. -/
def lvD (m : Nat) (ds : List (List UInt8)) (k : Nat) : List (List UInt8) := (ds.take k).map fun s => leafS (cut s m)
theorem lvD_len {m : Nat} {ds : List (List UInt8)} {k : Nat} (h : k ≤ ds.length) : (lvD m ds k).length = k := by
  unfold lvD
  rw [List.length_map, List.length_take]; omega
theorem lvD_32 (m : Nat) (ds : List (List UInt8)) (k : Nat) : ∀ s ∈ lvD m ds k, s.length = 32 := fun s h => by
  obtain ⟨x, _, rfl⟩ := List.mem_map.1 h
  exact leafS_len _
theorem lvD_step {m : Nat} {ds : List (List UInt8)} {k : Nat} (h : k < ds.length) : lvD m ds k ++ [leafS (cut (ds.getD k []) m)] = lvD m ds (k + 1) := by
  unfold lvD
  rw [List.take_add_one, List.getD_eq_getElem?_getD, List.getElem?_eq_getElem h, List.map_append]
  rfl
theorem partsL_le {L : List (List UInt8)} (h : L.length ≤ 4096) : (partsL L).length ≤ 13 := by rw [partsL_len]; exact (oc_ones h).2.2
theorem Add_parts {L : List (List UInt8)} {ap : Option Addr} {np cp : Nat} {ls : List (List UInt8)} {aq : Option Addr} {nq cq : Nat} {m : Nat} {w : World} (hm : L.length = m) (hle : m + ls.length ≤ 4096) (h32 : ∀ s ∈ L, s.length = 32) (hl32 : ∀ s ∈ ls, s.length = 32) (h0l : 0 < ls.length)
    (L0 : 0 < w.heap.size) (R0_0 : w.rangeAt 0 0 kcells) (Hp : RowA w ap np cp (scells (partsL L))) (Hq : RowA w aq nq cq (scells ls)) :
    Calls Tryd.prog 55 #[.agg [.int .i64 ((m : Nat) : Int), .slice ap np cp].toArray, .slice aq nq cq] w fun e w' => ∃ v, e = .returned v ∧ (∃ g c, v = .tuple #[.agg [.int .i64 ((m + ls.length : Nat) : Int), .slice (some ⟨g, 0, none⟩) (partsL (L ++ ls)).length c].toArray, .int .i64 0] ∧ (partsL (L ++ ls)).length ≤ c ∧ Mem [] w w' [⟨g, c, [(0, scells (partsL (L ++ ls)))]⟩]) ∧ Below w.heap.size w w' := by
  subst hm
  have hpl : (partsL L).length = ones L.length := partsL_len L
  have hp32 := partsL_32 L h32
  have h9 := Add_new (ps := partsL L) (ap := ap) (np := np) (cp := cp) (ls := ls) (aq := aq) (nq := nq) (cq := cq) (m := L.length) (w := w) (by rw [hpl]; exact ones_le_80 (by omega)) (by omega) (may_of (by omega) hpl hp32) (right_of hl32 (by omega)) hle hpl hp32 hl32 h0l L0 R0_0 Hp Hq
  rw [← partsL_append] at h9
  exact Calls.mono h9 fun e W8 ⟨v8, e1, g8, c8, e2, e3, e4⟩ => ⟨v8, e1, ⟨g8, c8, e2, e3, e4⟩, e4.below⟩
end Go.Proofs.Yb

