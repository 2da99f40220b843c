/- What a world still shows of an elder one: for the walks over calls that make memory of their own. -/
import Derived.Below
import Derived.Laws.Rows
import Derived.Deep.Draws
set_option linter.unusedSimpArgs false
set_option linter.unusedVariables false
namespace Go.Proofs.Num
open Go Go.RowKit

def Blk (w : World) (g : Nat) (t : TypeId) (cs : Array Value) : Prop := w.heap[g]? = some (.cells cs t (0, 0))
section
variable {w w' : World} {g : Nat} {t : TypeId} {cs : Array Value}
theorem Blk.eq {cs' : Array Value} (h : Blk w g t cs) (e : cs = cs') : Blk w g t cs' := e ▸ h
theorem Blk.lt (h : Blk w g t cs) : g < w.heap.size := by
  rcases Nat.lt_or_ge g w.heap.size with hlt | hge
  · exact hlt
  · unfold Blk at h; rw [Array.getElem?_eq_none hge] at h; cases h
theorem Blk.cell (h : Blk w g t cs) (i : Nat) : w.cell? ⟨g, i, none⟩ = cs[i]? := cell_of_row w g i cs t (0, 0) h
theorem Blk.frozen (h : Blk w g t cs) (i : Nat) : w.frozen? ⟨g, i, none⟩ = false := by
  unfold Blk at h
  simp [World.frozen?, h]
theorem Blk.new (w : World) (t : TypeId) (cs : Array Value) : Blk (w.alloc (.cells cs t)) w.heap.size t cs := heap_alloc_new w _
theorem Blk.drew (h : Blk w g t cs) : Blk w.drew g t cs := h
theorem Blk.drewN (h : Blk w g t cs) (n : Nat) : Blk (w.drewN n) g t cs := h
theorem Blk.alloc (h : Blk w g t cs) (o : Obj) : Blk (w.alloc o) g t cs := (Below.heap_alloc w o g h.lt).trans h
theorem Blk.set_ (h : Blk w g t cs) (i : Nat) (u : Value) : Blk (w.setCell ⟨g, i, none⟩ u) g t (cs.setIfInBounds i u) := by
  unfold Blk at h ⊢
  simp [World.setCell, Array.getElem?_modify, h]
theorem Blk.far (h : Blk w g t cs) {p : Addr} (hp : g ≠ p.block) (u : Value) : Blk (w.setCell p u) g t cs := (Below.heap_setCell w p u g hp).trans h
theorem Blk.below {B : Nat} (h : Blk w g t cs) (hb : Below B w w') (hg : g < B) : Blk w' g t cs := (hb.block g hg).trans h
end

theorem Blk.far4 {w : World} {g gd : Nat} {t : TypeId} {cs : Array Value} (h : Blk w g t cs) (hp : g ≠ gd) (a b c d : Value) :
    Blk ((((w.setCell ⟨gd, 0, none⟩ a).setCell ⟨gd, 1, none⟩ b).setCell ⟨gd, 2, none⟩ c).setCell ⟨gd, 3, none⟩ d) g t cs :=
  (((h.far (p := ⟨gd, 0, none⟩) hp a).far (p := ⟨gd, 1, none⟩) hp b).far (p := ⟨gd, 2, none⟩) hp c).far (p := ⟨gd, 3, none⟩) hp d
theorem Blk.set4 {w : World} {g : Nat} {t : TypeId} {x0 x1 x2 x3 : Value} (h : Blk w g t #[x0, x1, x2, x3]) (a b c d : Value) :
    Blk ((((w.setCell ⟨g, 0, none⟩ a).setCell ⟨g, 1, none⟩ b).setCell ⟨g, 2, none⟩ c).setCell ⟨g, 3, none⟩ d) g t #[a, b, c, d] :=
  Blk.eq ((((h.set_ 0 a).set_ 1 b).set_ 2 c).set_ 3 d) (by simp)
theorem below_set4 {B : Nat} {w0 w : World} {gd : Nat} (h : Below B w0 w) (hp : B ≤ gd) (a b c d : Value) :
    Below B w0 ((((w.setCell ⟨gd, 0, none⟩ a).setCell ⟨gd, 1, none⟩ b).setCell ⟨gd, 2, none⟩ c).setCell ⟨gd, 3, none⟩ d) :=
  (((h.setCell (p := ⟨gd, 0, none⟩) hp a).setCell (p := ⟨gd, 1, none⟩) hp b).setCell (p := ⟨gd, 2, none⟩) hp c).setCell (p := ⟨gd, 3, none⟩) hp d

/-- All cells and marks of w read in W as they did. -/
abbrev Sees (w W : World) : Prop := (∀ b o, b < w.heap.size → W.cell? ⟨b, o, none⟩ = w.cell? ⟨b, o, none⟩) ∧ (∀ b o, b < w.heap.size → W.frozen? ⟨b, o, none⟩ = w.frozen? ⟨b, o, none⟩) ∧ Below w.heap.size w W

theorem sees_of {w W : World} (h : Below w.heap.size w W) : Sees w W :=
  ⟨fun b o hb => h.cell (p := ⟨b, o, none⟩) hb, fun b o hb => h.frozen (p := ⟨b, o, none⟩) hb, h⟩
theorem sees_refl (w : World) : Sees w w := sees_of (Below.refl _ _)
theorem sees_drew {w W : World} (h : Sees w W) : Sees w W.drew := sees_of h.2.2.drew
theorem sees_call {w W W' : World} (h : Sees w W) (hb : Below W.heap.size W W') : Sees w W' := sees_of (h.2.2.trans (hb.mono h.2.2.size))
theorem sees_alloc {w W : World} (h : Sees w W) (o : Obj) : Sees w (W.alloc o) := sees_of (h.2.2.alloc h.2.2.size o)
theorem sees_set {w W : World} (h : Sees w W) {p : Addr} (hp : w.heap.size ≤ p.block) (u : Value) : Sees w (W.setCell p u) := sees_of (h.2.2.setCell hp u)
theorem bcell {W w1 : World} (hb : Below W.heap.size W w1) : (∀ b o, b < W.heap.size → w1.cell? ⟨b, o, none⟩ = W.cell? ⟨b, o, none⟩) ∧ (∀ b o, b < W.heap.size → w1.frozen? ⟨b, o, none⟩ = W.frozen? ⟨b, o, none⟩) :=
  ⟨fun b o h => hb.cell (p := ⟨b, o, none⟩) h, fun b o h => hb.frozen (p := ⟨b, o, none⟩) h⟩

theorem sees_realloc {w W : World} {o : Obj} (h : Sees w (W.alloc o)) (hs : w.heap.size ≤ W.heap.size) (o' : Obj) : Sees w (W.alloc o') := by
  refine sees_of ⟨h.2.2.os, h.2.2.tape, h.2.2.output, by simp; omega, fun k hk => ?_⟩
  rw [Below.heap_alloc W o' k (by omega), ← Below.heap_alloc W o k (by omega)]
  exact h.2.2.block k hk

/-- The walk goes on in any world of which so much is known. -/
theorem wp_world {P : Program} {c : Code} {Q : Exit → Act → World → Prop} {a : Act} {w : World} (S : World → Prop) (hs : S w) (h : ∀ w, S w → Code.wp P c Q a w) : Code.wp P c Q a w := h w hs
theorem putT (l : List Value) (ds : List Deferred) (i : Nat) (v : Value) : Act.put ⟨l.toArray, ds⟩ (some i) v = ⟨(l.set i v).toArray, ds⟩ := by simp [Act.put]
end Go.Proofs.Num
