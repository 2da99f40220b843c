/- What a world still shows of an elder one: for the walks over calls that make memory of their own. -/
import Derived.Below
import Derived.Laws.Rows
import Derived.Deep.Draws
import Derived.StillTail
import Derived.Deep.RegionHeld3
import Derived.Laws.BitsLemmas
import Derived.Laws.Sem
import Derived.Laws.Slices
import Derived.Laws.Strings
import Derived.Laws.OwnMore
import Derived.Laws.IdiomStrings
import Derived.ArgAppend
import Derived.Great.BuildSlice
import Derived.Lib.OthersKept
set_option linter.unusedSimpArgs false
set_option linter.unusedVariables false
namespace Go.Proofs.Num
open Go Go.RowKit
def Blk (w : World) (g : Nat) (t : TypeId) (cs : Array Value) : Prop := w.heap[g]? = some (.cells cs t (0, 0))
section
variable {w w' : World} {g : Nat} {t : TypeId} {cs : Array Value}
theorem Blk.eq {cs' : Array Value} (h : Blk w g t cs) (e : cs = cs') : Blk w g t cs' := e ▸ h
theorem Blk.lt (h : Blk w g t cs) : g < w.heap.size := by
 rcases Nat.lt_or_ge g w.heap.size with hlt | hge
 ·
  exact hlt
 ·
  unfold Blk at h; rw [Array.getElem?_eq_none hge] at h; cases h
theorem Blk.cell (h : Blk w g t cs) (i : Nat) : w.cell? ⟨g, i, none⟩ = cs[i]? := cell_of_row w g i cs t (0, 0) h
theorem Blk.frozen (h : Blk w g t cs) (i : Nat) : w.frozen? ⟨g, i, none⟩ = false := by
 unfold Blk at h
 simp [World.frozen?, h]
theorem Blk.new (w : World) (t : TypeId) (cs : Array Value) : Blk (w.alloc (.cells cs t)) w.heap.size t cs := heap_alloc_new w _
theorem Blk.drew (h : Blk w g t cs) : Blk w.drew g t cs := h
theorem Blk.alloc (h : Blk w g t cs) (o : Obj) : Blk (w.alloc o) g t cs := (Below.heap_alloc w o g h.lt).trans h
theorem Blk.far (h : Blk w g t cs) {p : Addr} (hp : g ≠ p.block) (u : Value) : Blk (w.setCell p u) g t cs := (Below.heap_setCell w p u g hp).trans h
theorem Blk.below {B : Nat} (h : Blk w g t cs) (hb : Below B w w') (hg : g < B) : Blk w' g t cs := (hb.block g hg).trans h
end
/-- All cells and marks of w read in W as they did. -/
abbrev Sees (w W : World) : Prop := (∀ b o, b < w.heap.size → W.cell? ⟨b, o, none⟩ = w.cell? ⟨b, o, none⟩) ∧ (∀ b o, b < w.heap.size → W.frozen? ⟨b, o, none⟩ = w.frozen? ⟨b, o, none⟩) ∧ Below w.heap.size w W
theorem sees_of {w W : World} (h : Below w.heap.size w W) : Sees w W :=
 ⟨fun b o hb => h.cell (p := ⟨b, o, none⟩) hb, fun b o hb => h.frozen (p := ⟨b, o, none⟩) hb, h⟩
theorem sees_refl (w : World) : Sees w w := sees_of (Below.refl _ _)
theorem sees_drew {w W : World} (h : Sees w W) : Sees w W.drew := sees_of h.2.2.drew
theorem sees_call {w W W' : World} (h : Sees w W) (hb : Below W.heap.size W W') : Sees w W' := sees_of (h.2.2.trans (hb.mono h.2.2.size))
theorem sees_alloc {w W : World} (h : Sees w W) (o : Obj) : Sees w (W.alloc o) := sees_of (h.2.2.alloc h.2.2.size o)
/-- The walk goes on in any world of which so much is known. -/
theorem wp_world {P : Program} {c : Code} {Q : Exit → Act → World → Prop} {a : Act} {w : World} (S : World → Prop) (hs : S w) (h : ∀ w, S w → Code.wp P c Q a w) : Code.wp P c Q a w := h w hs
theorem putT (l : List Value) (ds : List Deferred) (i : Nat) (v : Value) : Act.put ⟨l.toArray, ds⟩ (some i) v = ⟨(l.set i v).toArray, ds⟩ := by simp [Act.put]
end Go.Proofs.Num

namespace Go.Proofs.Num
open Go Go.RowKit
/-- What an operation comes to in a world: this value, and a world that shows all that there was. -/
def Grows (P : Program) (o : Oper) (a : Act) (W : World) (v : Value) : Prop :=
 match (execOp a.eval o).run P W with
 | .ok (.value u) W' => u = v ∧ Below W.heap.size W W'
 | .ok (.enter f args) W' => W' = W ∧ Calls P f args W (fun e W'' => e = .returned v ∧ Below W.heap.size W W'')
 | _ => False
def Makes (P : Program) (a0 : Act) (o : Oper) (t : TypeId) (cs : Array Value) : Prop :=
 ∀ (W : World), (execOp a0.eval o).run P W = .ok (.value (.pointer (some ⟨W.heap.size, 0, none⟩))) (W.alloc (.cells cs t))
def isAlloc (o : Oper) : Bool := match o.op with | .alloc _ | .box .. => true | _ => false
def isPure (o : Oper) : Bool := match o.op with | .move _ | .extract .. => true | _ => false
def ptr (g : Nat) : Value := .pointer (some ⟨g, 0, none⟩)
/-- The walk over the values, in the order of the text. -/
def wpV (P : Program) (ops : Array Oper) (w0 : World) (L : Act → Prop) : List Oper → Act → Prop
 | [], a => L a
 | o :: rest, a => if isAlloc o then wpV P ops w0 L rest a else
   if Region.wanted o (yielded ops a.tmps) then ∃ v, (∀ W, Sees w0 W → Grows P o a W v) ∧ wpV P ops w0 L rest (a.put o.dst v)
   else wpV P ops w0 L rest (a.put o.dst undef)
/-- The walk over the new variables. -/
def wpN (P : Program) (a0 : Act) (w0 : World) (L : Act → List (Nat × TypeId × Array Value) → Prop) : List Oper → Act → List (Nat × TypeId × Array Value) → Prop
 | [], a, bs => L a bs
 | o :: rest, a, bs => if isAlloc o then ∃ t cs, Makes P a0 o t cs ∧ ∀ g, w0.heap.size ≤ g → (∀ b ∈ bs, b.1 ≠ g) → wpN P a0 w0 L rest (a.put o.dst (ptr g)) ((g, t, cs) :: bs)
   else wpN P a0 w0 L rest a bs
def dstOf (ops : Array Oper) (i : Nat) : Option Tmp := (ops[i]?).bind (·.dst)
/-- The check of any region. -/
def growP (ops : Array Oper) (n : Nat) : Bool :=
 Region.noSelect ops && decide (n ≤ ops.size) &&
 ((List.range n).all fun i => match ops[i]? with
  | none => false
  | some o => (!isAlloc o || (o.guard.isNone && (o.looksAt ops).all fun t => (List.range n).all fun j => dstOf ops j != some t)) && (o.looksAt ops).all fun t => (List.range n).all fun j => dstOf ops j != some t || (decide (j < i) && !(((ops[j]?).map isAlloc).getD true) && Region.waitsFor .any ops i j) || (decide (i < j) && Region.waitsFor .any ops j i)) &&
 ((List.range n).all fun i => match ops[i]? with
  | none => false
  | some o => o.after.all fun e => !Region.binds .any e || decide (e.on < i)) &&
 ((List.range n).all fun i => (List.range n).all fun j => i == j || dstOf ops i == none || dstOf ops i != dstOf ops j)
/-- And of one that draws. -/
def growD (ops : Array Oper) (n : Nat) (fl : List Nat) : Bool :=
 Region.chainB .any ops n &&
 ((List.range n).all fun i => decide (n = ops.size) || fl.contains i || (List.range (n + 1)).any fun j => decide (i < j) && !fl.contains j && Region.waitsFor .any ops j i) &&
 (fl.all fun f => match ops[f]? with
  | none => false
  | some o => decide (f < n) && isPure o && o.guard.isNone &&
   (List.range ops.size).all fun j => !(decide (f < j) && (decide (n ≤ j) || fl.contains j)) || Region.waitsFor .any ops j f || (match ops[j]? with | some oj => o.apart ops oj | none => true)) &&
 Region.seqB .any ops (ops.size - n) n (Array.ofFn (n := ops.size) fun i => decide (i.1 < n))
section
variable {P : Program} {ops : Array Oper} {w0 : World}
theorem wpV_out {L : Act → Prop} : ∀ (l : List Oper) (k : Nat) (a : Act), (∀ j, j < l.length → l[j]? = ops[k + j]?) → wpV P ops w0 L l a →
  ∃ (val : Nat → Value) (A : Nat → Act), A k = a ∧ L (A (k + l.length)) ∧ ∀ i o, k ≤ i → i < k + l.length → ops[i]? = some o →
   (isAlloc o = true → A (i + 1) = A i) ∧ (isAlloc o = false → A (i + 1) = (A i).put o.dst (val i) ∧
    (Region.wanted o (yielded ops (A i).tmps) = true → ∀ W, Sees w0 W → Grows P o (A i) W (val i)) ∧ (Region.wanted o (yielded ops (A i).tmps) = false → val i = undef))
 | [], k, a, _, h => ⟨fun _ => undef, fun _ => a, rfl, h, fun i o h1 h2 => by simp at h2; omega⟩
 | o :: l, k, a, hl, h => by
  have h0 : ops[k]? = some o := by simpa using (hl 0 (by simp)).symm
  have hl' : ∀ j, j < l.length → l[j]? = ops[k + 1 + j]? := fun j hj => by
   have := hl (j + 1) (by simp; omega)
   simpa [Nat.add_assoc, Nat.add_comm 1 j] using this
  have key : ∀ (a' : Act) (v : Value), wpV P ops w0 L l a' →
    ((isAlloc o = true → a' = a) ∧ (isAlloc o = false → a' = a.put o.dst v ∧ (Region.wanted o (yielded ops a.tmps) = true → ∀ W, Sees w0 W → Grows P o a W v) ∧ (Region.wanted o (yielded ops a.tmps) = false → v = undef))) →
    ∃ (val : Nat → Value) (A : Nat → Act), A k = a ∧ L (A (k + (o :: l).length)) ∧ ∀ i o, k ≤ i → i < k + (l.length + 1) → ops[i]? = some o →
   (isAlloc o = true → A (i + 1) = A i) ∧ (isAlloc o = false → A (i + 1) = (A i).put o.dst (val i) ∧
    (Region.wanted o (yielded ops (A i).tmps) = true → ∀ W, Sees w0 W → Grows P o (A i) W (val i)) ∧ (Region.wanted o (yielded ops (A i).tmps) = false → val i = undef)) := by
   intro a' v hv hs
   obtain ⟨val, A, hA, hL, hi⟩ := wpV_out l (k + 1) a' hl' hv
   refine ⟨fun i => if i = k then v else val i, fun i => if i = k then a else A i, by simp, ?_, ?_⟩
   ·
    show L (if k + (o :: l).length = k then a else A (k + (o :: l).length))
    rw [if_neg (by simp), show k + (o :: l).length = k + 1 + l.length by simp; omega]
    exact hL
   ·
    intro i o' h1 h2 h3
    by_cases hik : i = k
    ·
     subst hik
     have : o' = o := Option.some.inj (h3.symm.trans h0)
     subst this
     simp only [if_true]
     rw [if_neg (by omega), hA]
     exact hs
    ·
     simp only [hik, if_false]
     rw [if_neg (by omega)]
     exact hi i o' (by omega) (by omega) h3
  simp only [wpV] at h
  cases ha : isAlloc o with
  | true =>
   simp only [ha, if_true] at h
   exact key a undef h ⟨fun _ => rfl, fun h => by rw [ha] at h; cases h⟩
  | false =>
   simp only [ha, Bool.false_eq_true, if_false] at h
   cases hw : Region.wanted o (yielded ops a.tmps) with
   | true =>
    simp only [hw, if_true] at h
    obtain ⟨v, hg, hk⟩ := h
    exact key _ v hk ⟨fun h => (by rw [ha] at h; cases h), fun _ => ⟨rfl, fun _ => hg, fun h => by rw [hw] at h; cases h⟩⟩
   | false =>
    simp only [hw, Bool.false_eq_true, if_false] at h
    exact key _ undef h ⟨fun h => (by rw [ha] at h; cases h), fun _ => ⟨rfl, fun h => (by rw [hw] at h; cases h), fun _ => rfl⟩⟩
/-- The slots of a frame: of the operations that are done, their values; else what there was. -/
structure Slots (ops : Array Oper) (n : Nat) (a0 : Act) (S : Nat → Bool) (sv : Nat → Value) (a : Act) : Prop where
 defers : a.defers = a0.defers
 size : a.tmps.size = a0.tmps.size
 done : ∀ t, t < a0.tmps.size → ∀ i, i < n → dstOf ops i = some t → S i = true → a.tmps[t]? = some (sv i)
 old : ∀ t, t < a0.tmps.size → (∀ i, i < n → dstOf ops i = some t → S i = false) → a.tmps[t]? = a0.tmps[t]?
theorem Slots.start (n : Nat) (a0 : Act) (sv : Nat → Value) : Slots ops n a0 (fun _ => false) sv a0 :=
 ⟨rfl, rfl, fun _ _ _ _ _ h => (by cases h), fun _ _ _ => rfl⟩
theorem Slots.put {n : Nat} {a0 a : Act} {S S' : Nat → Bool} {sv sv' : Nat → Value} (h : Slots ops n a0 S sv a) {i : Nat} (hi : i < n)
  (hd : ∀ j, j < n → j ≠ i → dstOf ops i ≠ none → dstOf ops i ≠ dstOf ops j) {v : Value} (hS : ∀ j, S' j = (S j || decide (j = i))) (hsv : ∀ j, j ≠ i → S j = true → sv' j = sv j) (hv : sv' i = v) :
  Slots ops n a0 S' sv' (a.put (dstOf ops i) v) := by
 have hput : ∀ t, t < a0.tmps.size → (a.put (dstOf ops i) v).tmps[t]? = if dstOf ops i = some t then some v else a.tmps[t]? := by
  intro t ht
  cases hdi : dstOf ops i with
  | none => simp [Act.put]
  | some d =>
   simp only [Act.put, Array.getElem?_setIfInBounds, Option.some.injEq]
   by_cases hdt : d = t
   ·
    subst hdt; simp [h.size, ht]
   ·
    simp [hdt]
 refine ⟨?_, ?_, ?_, ?_⟩
 ·
  cases hdi : dstOf ops i <;> simp [Act.put, h.defers]
 ·
  cases hdi : dstOf ops i <;> simp [Act.put, h.size]
 ·
  intro t ht j hj hjt hSj
  rw [hput t ht]
  by_cases hji : j = i
  ·
   subst hji; rw [if_pos hjt, hv]
  ·
   have hne : dstOf ops i ≠ some t := fun e => hd j hj hji (by rw [e]; simp) (e.trans hjt.symm)
   rw [if_neg hne]
   have hSj' : S j = true := by
    rw [hS, Bool.or_eq_true] at hSj
    exact hSj.resolve_right (by simp [hji])
   rw [hsv j hji hSj']
   exact h.done t ht j hj hjt hSj'
 ·
  intro t ht hall
  rw [hput t ht]
  have hne : dstOf ops i ≠ some t := fun e => by
   have := hall i hi e
   rw [hS] at this
   simp at this
  rw [if_neg hne]
  refine h.old t ht fun j hj hjt => ?_
  have := hall j hj hjt
  rw [hS] at this
  simp at this
  exact this.1
theorem Slots.same {n : Nat} {a0 a a' : Act} {S : Nat → Bool} {sv : Nat → Value} (h : Slots ops n a0 S sv a) (h' : Slots ops n a0 S sv a') : a = a' := by
 have ht : a.tmps = a'.tmps := by
  apply Array.ext_getElem?
  intro t
  by_cases hlt : t < a0.tmps.size
  ·
   by_cases hex : ∃ i, i < n ∧ dstOf ops i = some t ∧ S i = true
   ·
    obtain ⟨i, hi, hd, hS⟩ := hex
    rw [h.done t hlt i hi hd hS, h'.done t hlt i hi hd hS]
   ·
    have hall : ∀ i, i < n → dstOf ops i = some t → S i = false := fun i hi hd => by
     cases hS : S i with
     | false => rfl
     | true => exact absurd ⟨i, hi, hd, hS⟩ hex
    rw [h.old t hlt hall, h'.old t hlt hall]
  ·
   rw [Array.getElem?_eq_none (by rw [h.size]; omega), Array.getElem?_eq_none (by rw [h'.size]; omega)]
 cases a; cases a'
 simp only at ht
 subst ht
 congr 1
 exact h.defers.trans h'.defers.symm
/-- Two frames that agree on the slots that an operation looks at. -/
theorem Slots.look {n : Nat} {a0 a a' : Act} {S S' : Nat → Bool} {sv sv' : Nat → Value} (h : Slots ops n a0 S sv a) (h' : Slots ops n a0 S' sv' a') {t : Nat}
  (hd : ∀ j, j < n → dstOf ops j = some t → (S j = true ∧ S' j = true ∧ sv j = sv' j) ∨ (S j = false ∧ S' j = false)) : a.tmps[t]? = a'.tmps[t]? := by
 by_cases hlt : t < a0.tmps.size
 ·
  by_cases hex : ∃ i, i < n ∧ dstOf ops i = some t ∧ S i = true
  ·
   obtain ⟨i, hi, he, hS⟩ := hex
   rcases hd i hi he with ⟨h1, h2, h3⟩ | ⟨h1, h2⟩
   ·
    rw [h.done t hlt i hi he h1, h'.done t hlt i hi he h2, h3]
   ·
    rw [h1] at hS; cases hS
  ·
   have hno : ∀ i, i < n → dstOf ops i = some t → S i = false ∧ S' i = false := fun i hi e => by
    rcases hd i hi e with ⟨h1, _⟩ | h1
    ·
     exact absurd ⟨i, hi, e, h1⟩ hex
    ·
     exact h1
   rw [h.old t hlt fun i hi e => (hno i hi e).1, h'.old t hlt fun i hi e => (hno i hi e).2]
 ·
  rw [Array.getElem?_eq_none (by rw [h.size]; omega), Array.getElem?_eq_none (by rw [h'.size]; omega)]
theorem same_look {a a' : Act} {o : Oper} (hsel : ∀ cs b, o.op ≠ .select cs b) (h : ∀ t ∈ o.looksAt ops, a.tmps[t]? = a'.tmps[t]?) :
  execOp a.eval o = execOp a'.eval o ∧ Region.wanted o (yielded ops a.tmps) = Region.wanted o (yielded ops a'.tmps) := by
 constructor
 ·
  refine execOp_congr o hsel fun x hx => ?_
  cases x with
  | tmp t =>
   have := h t (List.mem_append_left _ (List.mem_filterMap.2 ⟨.tmp t, by simpa using hx, rfl⟩))
   simp only [Act.eval, Array.getD_eq_getD_getElem?, this]
  | _ => rfl
 ·
  unfold Region.wanted
  cases hg : o.guard with
  | none => rfl
  | some gw =>
   obtain ⟨g, want⟩ := gw
   have hy : yielded ops a.tmps g = yielded ops a'.tmps g := by
    unfold yielded
    cases ht : (ops[g]?).bind (·.dst) with
    | none => rfl
    | some t =>
     have := h t (by simp [Oper.looksAt, hg, ht])
     simp only [Option.bind_some, this]
   simp only [hy]
def al (ops : Array Oper) (i : Nat) : Bool := ((ops[i]?).map isAlloc).getD false
theorem wpN_out {a0 : Act} {L : Act → List (Nat × TypeId × Array Value) → Prop} (gs : Nat → Nat) : ∀ (l : List Oper) (k : Nat) (a : Act) (bs : List (Nat × TypeId × Array Value)), (∀ j, j < l.length → l[j]? = ops[k + j]?) → wpN P a0 w0 L l a bs →
  (∀ i, k ≤ i → i < k + l.length → al ops i = true → w0.heap.size ≤ gs i) → (∀ b ∈ bs, ∀ i, k ≤ i → i < k + l.length → al ops i = true → b.1 ≠ gs i) →
  (∀ i j, k ≤ i → i < j → j < k + l.length → al ops i = true → al ops j = true → gs i ≠ gs j) →
  ∃ (B : Nat → Act) (ty : Nat → TypeId × Array Value) (bs' : List (Nat × TypeId × Array Value)), B k = a ∧ L (B (k + l.length)) bs' ∧
   (∀ b ∈ bs', b ∈ bs ∨ ∃ i, k ≤ i ∧ i < k + l.length ∧ al ops i = true ∧ b = (gs i, ty i)) ∧
   ∀ i o, k ≤ i → i < k + l.length → ops[i]? = some o → (isAlloc o = true → B (i + 1) = (B i).put o.dst (ptr (gs i)) ∧ Makes P a0 o (ty i).1 (ty i).2) ∧ (isAlloc o = false → B (i + 1) = B i)
 | [], k, a, bs, _, h, _, _, _ => ⟨fun _ => a, fun _ => (0, #[]), bs, rfl, h, fun b hb => .inl hb, fun i o h1 h2 => by simp at h2; omega⟩
 | o :: l, k, a, bs, hl, h, hf, hb, hd => by
  have h0 : ops[k]? = some o := by simpa using (hl 0 (by simp)).symm
  have hl' : ∀ j, j < l.length → l[j]? = ops[k + 1 + j]? := fun j hj => by
   have := hl (j + 1) (by simp; omega)
   simpa [Nat.add_assoc, Nat.add_comm 1 j] using this
  have hal : al ops k = isAlloc o := by simp [al, h0]
  have hlen : k + (o :: l).length = k + 1 + l.length := by simp; omega
  rw [hlen] at hf hb hd ⊢
  simp only [wpN] at h
  cases ha : isAlloc o with
  | true =>
   simp only [ha, if_true] at h
   obtain ⟨t, cs, hm, hk⟩ := h
   have hk' := hk (gs k) (hf k (Nat.le_refl _) (by omega) (hal.trans ha)) (fun b hbm => hb b hbm k (Nat.le_refl _) (by omega) (hal.trans ha))
   obtain ⟨B, ty, bs', hB, hL, hbs, hst⟩ := wpN_out gs l (k + 1) _ _ hl' hk' (fun i h1 h2 h3 => hf i (by omega) h2 h3)
    (fun b hbm i h1 h2 h3 => by
     rcases List.mem_cons.1 hbm with rfl | hbm
     ·
      exact hd k i (Nat.le_refl _) (by omega) h2 (hal.trans ha) h3
     ·
      exact hb b hbm i (by omega) h2 h3)
    (fun i j h1 h2 h3 h4 h5 => hd i j (by omega) h2 h3 h4 h5)
   refine ⟨fun i => if i = k then a else B i, fun i => if i = k then (t, cs) else ty i, bs', by simp, ?_, ?_, ?_⟩
   ·
    show L (if k + 1 + l.length = k then a else B (k + 1 + l.length)) bs'
    rw [if_neg (by omega)]; exact hL
   ·
    intro b hbm
    rcases hbs b hbm with h | ⟨i, h1, h2, h3, h4⟩
    ·
     rcases List.mem_cons.1 h with rfl | h
     ·
      exact .inr ⟨k, Nat.le_refl _, by omega, hal.trans ha, by simp⟩
     ·
      exact .inl h
    ·
     exact .inr ⟨i, by omega, h2, h3, by show b = (gs i, if i = k then (t, cs) else ty i); rw [if_neg (by omega)]; exact h4⟩
   ·
    intro i o' h1 h2 h3
    by_cases hik : i = k
    ·
     subst hik
     have : o' = o := Option.some.inj (h3.symm.trans h0)
     subst this
     simp only [if_true]
     rw [if_neg (by omega), hB]
     exact ⟨fun _ => ⟨rfl, hm⟩, fun h => by rw [ha] at h; cases h⟩
    ·
     simp only [hik, if_false]
     rw [if_neg (by omega)]
     exact hst i o' (by omega) h2 h3
  | false =>
   simp only [ha, Bool.false_eq_true, if_false] at h
   obtain ⟨B, ty, bs', hB, hL, hbs, hst⟩ := wpN_out gs l (k + 1) _ _ hl' h (fun i h1 h2 h3 => hf i (by omega) h2 h3)
    (fun b hbm i h1 h2 h3 => hb b hbm i (by omega) h2 h3) (fun i j h1 h2 h3 h4 h5 => hd i j (by omega) h2 h3 h4 h5)
   refine ⟨fun i => if i = k then a else B i, ty, bs', by simp, ?_, ?_, ?_⟩
   ·
    show L (if k + 1 + l.length = k then a else B (k + 1 + l.length)) bs'
    rw [if_neg (by omega)]; exact hL
   ·
    intro b hbm
    rcases hbs b hbm with h | ⟨i, h1, h2, h3, h4⟩
    ·
     exact .inl h
    ·
     exact .inr ⟨i, by omega, h2, h3, h4⟩
   ·
    intro i o' h1 h2 h3
    by_cases hik : i = k
    ·
     subst hik
     have : o' = o := Option.some.inj (h3.symm.trans h0)
     subst this
     simp only [if_true]
     rw [if_neg (by omega), hB]
     exact ⟨fun h => (by rw [ha] at h; cases h), fun _ => rfl⟩
    ·
     simp only [hik, if_false]
     rw [if_neg (by omega)]
     exact hst i o' (by omega) h2 h3
theorem Makes.same {a0 : Act} {o : Oper} {t t' : TypeId} {cs cs' : Array Value} (h : Makes P a0 o t cs) (h' : Makes P a0 o t' cs') (w : World) : (t, cs) = (t', cs') := by
 have e := (h w).symm.trans (h' w)
 simp only [Result.ok.injEq, true_and] at e
 have e2 : (w.alloc (.cells cs t)).heap[w.heap.size]? = (w.alloc (.cells cs' t')).heap[w.heap.size]? := by rw [e]
 rw [heap_alloc_new, heap_alloc_new] at e2
 simp only [Option.some.injEq, Obj.cells.injEq] at e2
 exact Prod.ext e2.2.1 e2.1
theorem Grows.wp {o : Oper} {a : Act} {W : World} {v : Value} (h : Grows P o a W v) {K : Act → World → Prop} {Q : Exit → Act → World → Prop}
  (hK : ∀ W', Below W.heap.size W W' → K (a.put o.dst v) W') : o.wp P a W K Q := by
 unfold Grows at h
 unfold Oper.wp
 generalize (execOp a.eval o).run P W = r at *
 cases r with
 | ok n w' =>
  cases n <;> simp only at h <;> simp only [Oper.upon]
  case value u => obtain ⟨rfl, hb⟩ := h; exact hK _ hb
  case enter f args =>
   obtain ⟨rfl, hc⟩ := h
   exact hc.mono fun e w'' ⟨he, hb⟩ => by subst he; exact hK _ hb
 | halt x w' => simp only at h
theorem pure_run {o : Oper} (hp : isPure o = true) {ρ : Operand → Value} {W W' : World} {v : Value} (h : (execOp ρ o).run P W = .ok (.value v) W') (W2 : World) : (execOp ρ o).run P W2 = .ok (.value v) W2 := by
 obtain ⟨dst, op, type, pos, after, guard⟩ := o
 cases op <;> simp only [isPure, Bool.false_eq_true] at hp
 case move x =>
  simp [execOp] at h ⊢
  exact h.1
 case extract t i =>
  simp only [execOp, Instr.extract] at h ⊢
  cases hv : ρ t <;> simp only [hv] at h ⊢
  all_goals first | (simp [stuck] at h; done) | skip
  rename_i vs
  cases hx : vs[i]? <;> simp [hx] at h ⊢
  exact h.1
/-- So far along whatever order: what is listed is done. -/
structure Mid (P : Program) (ops : Array Oper) (n : Nat) (a0 : Act) (w0 : World) (val : Nat → Value) (ty : Nat → TypeId × Array Value) (gs : Nat → Nat) (listed : Array Bool) (a : Act) (w : World) : Prop where
 inv : HeadInv .any ops n listed
 sees : Sees w0 w
 slots : Slots ops n a0 (fun i => listed.getD i false) (fun i => if al ops i then ptr (gs i) else val i) a
 fresh : ∀ i, i < n → al ops i = true → listed.getD i false = true → w0.heap.size ≤ gs i ∧ Blk w (gs i) (ty i).1 (ty i).2
 ne : ∀ i j, i < n → j < n → i ≠ j → al ops i = true → al ops j = true → listed.getD i false = true → listed.getD j false = true → gs i ≠ gs j
/-- What the check and the two walks give. -/
structure Given (P : Program) (ops : Array Oper) (n : Nat) (a0 : Act) (w0 : World) (val : Nat → Value) (ty : Nat → TypeId × Array Value) (A : Nat → Act) : Prop where
 sel : Region.noSelect ops = true
 nlt : n ≤ ops.size
 look : ∀ i o, i < n → ops[i]? = some o → ∀ t ∈ o.looksAt ops, ∀ j, j < n → dstOf ops j = some t → (j < i ∧ al ops j = false ∧ Region.waitsFor .any ops i j = true) ∨ (i < j ∧ Region.waitsFor .any ops j i = true)
 plain : ∀ i o, i < n → ops[i]? = some o → isAlloc o = true → o.guard = none ∧ ∀ t ∈ o.looksAt ops, ∀ j, j < n → dstOf ops j ≠ some t
 low : ∀ i o, i < n → ops[i]? = some o → ∀ e ∈ o.after, Region.binds .any e = true → e.on < i
 dist : ∀ i j, i < n → j < n → i ≠ j → dstOf ops i ≠ none → dstOf ops i ≠ dstOf ops j
 text : ∀ i, i ≤ n → Slots ops n a0 (fun j => decide (j < i) && !al ops j) val (A i)
 step : ∀ i o, i < n → ops[i]? = some o → isAlloc o = false → (Region.wanted o (yielded ops (A i).tmps) = true → ∀ W, Sees w0 W → Grows P o (A i) W (val i)) ∧ (Region.wanted o (yielded ops (A i).tmps) = false → val i = undef)
 make : ∀ i o, i < n → ops[i]? = some o → isAlloc o = true → Makes P a0 o (ty i).1 (ty i).2
variable {n : Nat} {fl : List Nat} {a0 : Act} {val : Nat → Value} {ty : Nat → TypeId × Array Value} {A : Nat → Act}
theorem Given.ops_at (G : Given P ops n a0 w0 val ty A) {i : Nat} (hi : i < n) : ∃ o, ops[i]? = some o ∧ al ops i = isAlloc o ∧ dstOf ops i = o.dst := by
 have hlt : i < ops.size := Nat.lt_of_lt_of_le hi G.nlt
 exact ⟨ops[i], by simp [hlt], by simp [al, hlt], by simp [dstOf, hlt]⟩
/-- An operation that may come up finds what the text's walk found. -/
theorem Mid.look (G : Given P ops n a0 w0 val ty A) {gs : Nat → Nat} {listed : Array Bool} {a : Act} {w : World} (M : Mid P ops n a0 w0 val ty gs listed a w) {i : Nat} {o : Oper} (hi : i < n) (ho : ops[i]? = some o)
  (hr : i ∈ Region.ready .any ops listed) : execOp a.eval o = execOp (A i).eval o ∧ Region.wanted o (yielded ops a.tmps) = Region.wanted o (yielded ops (A i).tmps) := by
 obtain ⟨_, o', ho', hall⟩ := mem_ready.1 hr
 have : o' = o := Option.some.inj (ho'.symm.trans ho)
 subst this
 refine same_look (Region.noSelect_spec G.sel i o' · · ho) fun t ht => ?_
 refine M.slots.look (G.text i (Nat.le_of_lt hi)) fun j hj hd => ?_
 rcases G.look i o' hi ho t ht j hj hd with ⟨h1, h2, h3⟩ | ⟨h1, h3⟩
 ·
  obtain ⟨oi, hoi, e, he, hb, hon⟩ := Region.waitsFor_spec h3
  have : oi = o' := Option.some.inj (hoi.symm.trans ho)
  subst this
  have hl := hall e he hb
  rw [hon] at hl
  exact .inl ⟨hl, by simp [h1, h2], by simp [h2]⟩
 ·
  obtain ⟨oj, hoj, e, he, hb, hon⟩ := Region.waitsFor_spec h3
  refine .inr ⟨?_, by simp; omega⟩
  cases hl : listed.getD j false with
  | false => rfl
  | true =>
   have := M.inv.closed j oj hoj hl e he hb
   rw [hon, getD_both (mem_ready.1 hr).1] at this
   cases this
theorem getD_set {listed : Array Bool} {i : Nat} (hi : i < listed.size) (j : Nat) : (listed.setIfInBounds i true).getD j false = (listed.getD j false || decide (j = i)) := by
 by_cases h : i = j
 ·
  subst h; simp [hi]
 ·
  rw [getD_set_ne false h]; simp [Ne.symm h]
/-- Listing one operation more, which has left v. -/
theorem Mid.val_step (G : Given P ops n a0 w0 val ty A) {gs : Nat → Nat} {listed : Array Bool} {a : Act} {w w' : World} (M : Mid P ops n a0 w0 val ty gs listed a w) {i : Nat} {o : Oper} (hi : i < n) (ho : ops[i]? = some o)
  (hal : isAlloc o = false) (hr : i ∈ Region.ready .any ops listed) (hb : Below w.heap.size w w') : Mid P ops n a0 w0 val ty gs (listed.setIfInBounds i true) (a.put o.dst (val i)) w' := by
 obtain ⟨o', ho', h1, h2⟩ := G.ops_at hi
 have : o' = o := Option.some.inj (ho'.symm.trans ho)
 subst this
 have hsz : i < listed.size := by rw [M.inv.size]; exact Nat.lt_of_lt_of_le hi G.nlt
 have hli : listed.getD i false = false := getD_both (mem_ready.1 hr).1
 have hne : ∀ j, al ops j = true → j ≠ i := fun j hj e => by subst e; rw [h1, hal] at hj; cases hj
 refine ⟨M.inv.set hr hi, sees_call M.sees hb, ?_, ?_, ?_⟩
 ·
  rw [← h2]
  refine M.slots.put hi (fun j hj hji hn => G.dist i j hi hj (Ne.symm hji) hn) (fun j => getD_set hsz j) (fun _ _ _ => rfl) ?_
  simp [h1, hal]
 ·
  intro j hj hja hjl
  rw [getD_set hsz, Bool.or_eq_true] at hjl
  have := M.fresh j hj hja (hjl.resolve_right (by simpa using hne j hja))
  exact ⟨this.1, this.2.below hb this.2.lt⟩
 ·
  intro j k hj hk hjk hja hka hjl hkl
  rw [getD_set hsz, Bool.or_eq_true] at hjl hkl
  exact M.ne j k hj hk hjk hja hka (hjl.resolve_right (by simpa using hne j hja)) (hkl.resolve_right (by simpa using hne k hka))
theorem Mid.new_step (G : Given P ops n a0 w0 val ty A) {gs : Nat → Nat} {listed : Array Bool} {a : Act} {w : World} (M : Mid P ops n a0 w0 val ty gs listed a w) {i : Nat} {o : Oper} (hi : i < n) (ho : ops[i]? = some o)
  (hal : isAlloc o = true) (hr : i ∈ Region.ready .any ops listed) : ∃ gs', Mid P ops n a0 w0 val ty gs' (listed.setIfInBounds i true) (a.put o.dst (ptr w.heap.size)) (w.alloc (.cells (ty i).2 (ty i).1)) := by
 obtain ⟨o', ho', h1, h2⟩ := G.ops_at hi
 have : o' = o := Option.some.inj (ho'.symm.trans ho)
 subst this
 have hsz : i < listed.size := by rw [M.inv.size]; exact Nat.lt_of_lt_of_le hi G.nlt
 have hli : listed.getD i false = false := getD_both (mem_ready.1 hr).1
 refine ⟨fun j => if j = i then w.heap.size else gs j, M.inv.set hr hi, sees_alloc M.sees _, ?_, ?_, ?_⟩
 ·
  rw [← h2]
  refine M.slots.put hi (fun j hj hji hn => G.dist i j hi hj (Ne.symm hji) hn) (fun j => getD_set hsz j) (fun j hj _ => by simp [hj]) ?_
  simp [h1, hal]
 ·
  intro j hj hja hjl
  by_cases hji : j = i
  ·
   subst hji
   simp only [if_true]
   exact ⟨M.sees.2.2.size, Blk.new _ _ _⟩
  ·
   simp only [hji, if_false]
   rw [getD_set hsz, Bool.or_eq_true] at hjl
   have := M.fresh j hj hja (hjl.resolve_right (by simpa using hji))
   exact ⟨this.1, this.2.alloc _⟩
 ·
  intro j k hj hk hjk hja hka hjl hkl
  rw [getD_set hsz, Bool.or_eq_true] at hjl hkl
  by_cases hji : j = i
  ·
   subst hji
   have hkj : k ≠ j := Ne.symm hjk
   simp only [if_true, hkj, if_false]
   have := (M.fresh k hk hka (hkl.resolve_right (by simpa using hkj))).2.lt
   omega
  ·
   by_cases hki : k = i
   ·
    subst hki
    simp only [if_true, hji, if_false]
    have := (M.fresh j hj hja (hjl.resolve_right (by simpa using hji))).2.lt
    omega
   ·
    simp only [hji, hki, if_false]
    exact M.ne j k hj hk hjk hja hka (hjl.resolve_right (by simpa using hji)) (hkl.resolve_right (by simpa using hki))
theorem Mid.op (G : Given P ops n a0 w0 val ty A) {Q : Exit → Act → World → Prop} {gs : Nat → Nat} {listed : Array Bool} {a : Act} {w : World} (M : Mid P ops n a0 w0 val ty gs listed a w) {i : Nat} (hi : i < n)
  (hr : i ∈ Region.ready .any ops listed) : wpOp P ops Q i (fun a' w' => ∃ gs', Mid P ops n a0 w0 val ty gs' (listed.setIfInBounds i true) a' w') a w := by
 obtain ⟨o, ho, h1, h2⟩ := G.ops_at hi
 obtain ⟨he, hw⟩ := M.look G hi ho hr
 unfold wpOp
 simp only [ho]
 cases hal : isAlloc o with
 | true =>
  obtain ⟨hg, hpl⟩ := G.plain i o hi ho hal
  have hex : execOp a.eval o = execOp a0.eval o := (same_look (Region.noSelect_spec G.sel i o · · ho) fun t ht =>
   M.slots.look (Slots.start n a0 val) fun j hj hd => absurd hd (hpl t ht j hj)).1
  have hwt : Region.wanted o (yielded ops a.tmps) = true := by simp [Region.wanted, hg]
  rw [if_pos hwt]
  left
  unfold Oper.wp
  rw [hex, G.make i o hi ho hal w, Oper.upon_value]
  exact M.new_step G hi ho hal hr
 | false =>
  obtain ⟨s1, s2⟩ := G.step i o hi ho hal
  cases hwt : Region.wanted o (yielded ops a.tmps) with
  | true =>
   rw [if_pos rfl]
   left
   have hg := s1 (hw ▸ hwt) w M.sees
   unfold Grows at hg
   rw [← he] at hg
   exact Grows.wp (v := val i) hg fun W' hb => ⟨gs, M.val_step G hi ho hal hr hb⟩
  | false =>
   rw [if_neg (by simp)]
   have := s2 (hw ▸ hwt)
   rw [← this]
   exact ⟨gs, M.val_step G hi ho hal hr (Below.refl _ _)⟩
/-- What the check gives of a region that draws. -/
structure Drawn (ops : Array Oper) (n : Nat) (fl : List Nat) : Prop where
 chain : Region.chainB .any ops n = true
 sink : n < ops.size → ∀ i, i < n → i ∉ fl → ∃ j, j ≤ n ∧ i < j ∧ j ∉ fl ∧ Region.waitsFor .any ops j i = true
 float : ∀ f, f ∈ fl → f < n ∧ ∃ o, ops[f]? = some o ∧ isPure o = true ∧ o.guard = none ∧ ∀ j oj, ops[j]? = some oj → f < j → (n ≤ j ∨ j ∈ fl) → Region.waitsFor .any ops j f = true ∨ o.apart ops oj = true
/-- While an operation ahead of the tail is not done that is no float, nothing of the tail comes up. -/
theorem Drawn.tail_waits (D : Drawn ops n fl) {listed : Array Bool} (inv : HeadInv .any ops n listed) :
  ∀ (d i : Nat), n - i = d → i < n → i ∉ fl → listed.getD i true = false → ∀ t, n ≤ t → t ∉ Region.ready .any ops listed := by
 intro d
 induction d using Nat.strongRecOn with
 | _ d ih =>
  intro i hd hi hfl hun t ht hr
  obtain ⟨_, ot, hot, hall⟩ := mem_ready.1 hr
  have htlt : t < ops.size := (Array.getElem?_eq_some_iff.1 hot).1
  by_cases htn : t = n
  ·
   subst htn
   obtain ⟨j, hjle, hij, hjfl, hwj⟩ := D.sink (by omega) i hi hfl
   obtain ⟨oj, hoj, e, he, hb, hon⟩ := Region.waitsFor_spec hwj
   by_cases hjt : j = t
   ·
    subst hjt
    have : oj = ot := Option.some.inj (hoj.symm.trans hot)
    subst this
    have h2 := hall e he hb
    rw [hon, getD_both hun] at h2
    cases h2
   ·
    cases hl : listed.getD j false with
    | true =>
     have h2 := inv.closed j oj hoj hl e he hb
     rw [hon, getD_both hun] at h2
     cases h2
    | false =>
     have hjs : j < listed.size := by rw [inv.size]; omega
     exact ih (t - j) (by omega) j rfl (by omega) hjfl (getD_in hjs hl) t (Nat.le_refl _) hr
  ·
   have h1 := List.all_eq_true.1 D.chain t (List.mem_range.2 htlt)
   simp only [Bool.or_eq_true, decide_eq_true_eq] at h1
   rcases h1 with h1 | h1
   ·
    omega
   ·
    obtain ⟨o', ho', e, he, hb, hon⟩ := Region.waitsFor_spec h1
    have : o' = ot := Option.some.inj (ho'.symm.trans hot)
    subst this
    have h2 := hall e he hb
    rw [hon, getD_both (inv.tail (t - 1) (by omega) (by omega))] at h2
    cases h2
def left (n : Nat) (listed : Array Bool) : Nat := ((List.range n).filter fun i => !listed.getD i false).length
theorem filter_one {p q : Nat → Bool} {i : Nat} : ∀ (l : List Nat), l.Nodup → i ∈ l → p i = true → q i = false → (∀ j, j ≠ i → q j = p j) → (l.filter p).length = (l.filter q).length + 1
 | [], _, h, _, _, _ => by cases h
 | x :: l, hn, h, hp, hq, hj => by
  obtain ⟨hx, hl⟩ := List.nodup_cons.1 hn
  by_cases hxi : x = i
  ·
   subst hxi
   rw [List.filter_cons_of_pos hp, List.filter_cons_of_neg (by simp [hq]), List.length_cons]
   congr 2
   exact List.filter_congr fun j hjl => (hj j (fun e => hx (e ▸ hjl))).symm
  ·
   have hil : i ∈ l := by rcases List.mem_cons.1 h with h | h; exact absurd h.symm hxi; exact h
   have ih := filter_one l hl hil hp hq hj
   rw [List.filter_cons, List.filter_cons, hj x hxi]
   cases p x <;> simp [ih]
theorem left_set {listed : Array Bool} {i : Nat} (hi : i < n) (hsz : i < listed.size) (hl : listed.getD i false = false) : left n listed = left n (listed.setIfInBounds i true) + 1 := by
 unfold left
 refine filter_one (i := i) _ List.nodup_range (List.mem_range.2 hi) (by simp only [hl, Bool.not_false]) ?_ fun j hj => ?_
 ·
  rw [getD_set hsz]; simp
 ·
  rw [getD_set hsz]; simp [hj]
theorem exists_least {p : Nat → Prop} : ∀ k, p k → ∃ i, p i ∧ ∀ j, j < i → ¬ p j := by
 intro k
 induction k using Nat.strongRecOn with
 | _ k ih =>
  intro hk
  by_cases h : ∃ j, j < k ∧ p j
  ·
   obtain ⟨j, hj, hp⟩ := h; exact ih j hj hp
  ·
   exact ⟨k, hk, fun j hj hp => h ⟨j, hj, hp⟩⟩
/-- The least operation that is not done may come up. -/
theorem Given.least (G : Given P ops n a0 w0 val ty A) {listed : Array Bool} (inv : HeadInv .any ops n listed) {i : Nat} (hi : i < n) (hl : listed.getD i false = false) (hlow : ∀ j, j < i → listed.getD j false = true) :
  i ∈ Region.ready .any ops listed := by
 obtain ⟨o, ho, _, _⟩ := G.ops_at hi
 exact mem_ready.2 ⟨getD_in (by rw [inv.size]; exact Nat.lt_of_lt_of_le hi G.nlt) hl, o, ho, fun e he hb => hlow _ (G.low i o hi ho e he hb)⟩
theorem Given.any (G : Given P ops n a0 w0 val ty A) (D : Drawn ops n fl) {Q : Exit → Act → World → Prop} (hQ : ∀ c a w, ¬ Q (.panic c) a w)
  (hT : ∀ gs listed a w, Mid P ops n a0 w0 val ty gs listed a w → (∀ i, i < n → listed.getD i false = true) → wpAny P .any ops Q (ops.size - n) listed a w) :
  ∀ (d : Nat) (gs : Nat → Nat) (listed : Array Bool) (a : Act) (w : World), left n listed = d → Mid P ops n a0 w0 val ty gs listed a w → wpAny P .any ops Q (d + (ops.size - n)) listed a w := by
 intro d
 induction d with
 | zero =>
  intro gs listed a w hd M
  rw [Nat.zero_add]
  refine hT gs listed a w M fun i hi => ?_
  cases hl : listed.getD i false with
  | true => rfl
  | false =>
   have : i ∈ (List.range n).filter fun i => !listed.getD i false := List.mem_filter.2 ⟨List.mem_range.2 hi, by rw [hl]; rfl⟩
   rw [List.length_eq_zero_iff.1 hd] at this
   cases this
 | succ d ih =>
  intro gs listed a w hd M
  have hex : ∃ i, i < n ∧ listed.getD i false = false := by
   obtain ⟨i, hi⟩ := List.exists_mem_of_length_pos (l := (List.range n).filter fun i => !listed.getD i false) (by unfold left at hd; omega)
   have := List.mem_filter.1 hi
   exact ⟨i, List.mem_range.1 this.1, by simpa using this.2⟩
  obtain ⟨k, hk⟩ := hex
  obtain ⟨i, ⟨hin, hil⟩, hmin⟩ := exists_least (p := fun i => i < n ∧ listed.getD i false = false) k hk
  have hlow : ∀ j, j < i → listed.getD j false = true := fun j hj => by
   cases hl : listed.getD j false with
   | true => rfl
   | false => exact absurd ⟨by omega, hl⟩ (hmin j hj)
  have hri := G.least M.inv hin hil hlow
  rw [show d + 1 + (ops.size - n) = (d + (ops.size - n)) + 1 by omega]
  by_cases hnf : ∃ j, j < n ∧ j ∉ fl ∧ listed.getD j false = false
  ·
   obtain ⟨j, hj, hjf, hjl⟩ := hnf
   refine ⟨fun h0 => (by rw [h0] at hri; cases hri), fun k hk => ?_⟩
   have hkn : k < n := by
    rcases Nat.lt_or_ge k n with h | h
    ·
     exact h
    ·
     exact absurd hk (D.tail_waits M.inv _ j rfl hj hjf (getD_in (by rw [M.inv.size]; exact Nat.lt_of_lt_of_le hj G.nlt) hjl) k h)
   have hsz : k < listed.size := by rw [M.inv.size]; exact Nat.lt_of_lt_of_le hkn G.nlt
   have hkl : listed.getD k false = false := getD_both (mem_ready.1 hk).1
   refine wpOp_mono (fun a' w' ⟨gs', M'⟩ => ih gs' _ a' w' ?_ M') (M.op G hkn hk)
   have := left_set hkn hsz hkl
   omega
  ·
   have hif : i ∈ fl := Classical.byContradiction fun h => hnf ⟨i, hin, h, hil⟩
   obtain ⟨_, o, ho, hp, hg, hap⟩ := D.float i hif
   have hal : isAlloc o = false := by
    obtain ⟨dst, op, type, pos, after, guard⟩ := o
    cases op <;> simp_all [isPure, isAlloc]
   obtain ⟨he, hw⟩ := M.look G hin ho hri
   have hwt : Region.wanted o (yielded ops a.tmps) = true := by simp [Region.wanted, hg]
   have hgr := (G.step i o hin ho hal).1 (hw ▸ hwt) w M.sees
   have hrun : ∀ W, (execOp a.eval o).run P W = .ok (.value (val i)) W := by
    unfold Grows at hgr
    rw [he]
    generalize hr : (execOp (A i).eval o).run P w = r at hgr
    cases r with
    | ok nx w' =>
     cases nx <;> simp only at hgr
     case value u =>
      obtain ⟨rfl, _⟩ := hgr
      exact fun W => pure_run hp hr W
     case enter f args =>
      exfalso
      obtain ⟨dst, op, type, pos, after, guard⟩ := o
      cases op <;> simp only [isPure, Bool.false_eq_true] at hp
      case move x => simp [execOp] at hr
      case extract t j =>
       simp only [execOp, Instr.extract] at hr
       cases hv : (A i).eval t <;> simp only [hv] at hr
       all_goals first | (simp [stuck] at hr; done) | skip
       rename_i vs
       cases hx : vs[j]? <;> simp [hx] at hr
    | halt x w' => simp only at hgr
   have hsz : i < listed.size := by rw [M.inv.size]; exact Nat.lt_of_lt_of_le hin G.nlt
   refine wpAny_first ho (Region.noSelect_spec G.sel) (fun c a w h => absurd h (hQ c _ w)) _ listed a w ?_ hri (.inl ⟨hwt, hrun⟩) ?_
   ·
    intro j oj hoj hji hun hno
    have hjf : n ≤ j ∨ j ∈ fl := by
     rcases Nat.lt_or_ge j n with h | h
     ·
      right
      exact Classical.byContradiction fun hf => hnf ⟨j, h, hf, getD_both hun⟩
     ·
      exact .inl h
    have hij : i < j := by
     rcases Nat.lt_or_ge j i with h | h
     ·
      have h9 := hlow j h
      rw [getD_both hun] at h9
      cases h9
     ·
      omega
    rcases hap j oj hoj hij hjf with h | h
    ·
     obtain ⟨oj', hoj', e, he, hb, hon⟩ := Region.waitsFor_spec h
     have : oj' = oj := Option.some.inj (hoj'.symm.trans hoj)
     subst this
     exact absurd hon (hno e he hb)
    ·
     exact h
   ·
    refine ih gs _ _ w ?_ (M.val_step G hin ho hal hri (Below.refl _ _))
    have := left_set hin hsz hil
    omega
theorem slots_text {n : Nat} {a0 : Act} {val : Nat → Value} {A : Nat → Act} (hA : A 0 = a0) (hdist : ∀ i j, i < n → j < n → i ≠ j → dstOf ops i ≠ none → dstOf ops i ≠ dstOf ops j)
  (hops : ∀ i, i < n → ∃ o, ops[i]? = some o ∧ al ops i = isAlloc o ∧ dstOf ops i = o.dst)
  (hst : ∀ i o, i < n → ops[i]? = some o → (isAlloc o = true → A (i + 1) = A i) ∧ (isAlloc o = false → A (i + 1) = (A i).put o.dst (val i))) :
  ∀ i, i ≤ n → Slots ops n a0 (fun j => decide (j < i) && !al ops j) val (A i) := by
 intro i
 induction i with
 | zero => intro _; rw [hA]; simpa using Slots.start n a0 val
 | succ i ih =>
  intro hi
  have hin : i < n := hi
  obtain ⟨o, ho, h1, h2⟩ := hops i hin
  obtain ⟨s1, s2⟩ := hst i o hin ho
  cases hal : isAlloc o with
  | true =>
   rw [s1 hal]
   have e : (fun j => decide (j < i + 1) && !al ops j) = (fun j => decide (j < i) && !al ops j) := by
    funext j
    by_cases hj : j = i
    ·
     subst hj; simp [h1, hal]
    ·
     have : (j < i + 1) = (j < i) := by simp; omega
     simp only [this]
   rw [e]
   exact ih (by omega)
  | false =>
   rw [s2 hal, ← h2]
   refine (ih (by omega)).put hin (fun j hj hji hn => hdist i j hin hj (Ne.symm hji) hn) (fun j => ?_) (fun _ _ _ => rfl) rfl
   by_cases hj : j = i
   ·
    subst hj; simp [h1, hal]
   ·
    have : (j < i + 1) = (j < i) := by simp; omega
    simp only [this, hj, decide_false, Bool.or_false]
theorem slots_new {n : Nat} {a0 : Act} {val : Nat → Value} {gs : Nat → Nat} {B : Nat → Act} (hB : Slots ops n a0 (fun j => decide (j < n) && !al ops j) val (B 0))
  (hdist : ∀ i j, i < n → j < n → i ≠ j → dstOf ops i ≠ none → dstOf ops i ≠ dstOf ops j)
  (hops : ∀ i, i < n → ∃ o, ops[i]? = some o ∧ al ops i = isAlloc o ∧ dstOf ops i = o.dst)
  (hst : ∀ i o, i < n → ops[i]? = some o → (isAlloc o = true → B (i + 1) = (B i).put o.dst (ptr (gs i))) ∧ (isAlloc o = false → B (i + 1) = B i)) :
  ∀ i, i ≤ n → Slots ops n a0 (fun j => decide (j < n) && (!al ops j || decide (j < i))) (fun j => if al ops j then ptr (gs j) else val j) (B i) := by
 intro i
 induction i with
 | zero =>
  intro _
  have e : (fun j => decide (j < n) && (!al ops j || decide (j < 0))) = (fun j => decide (j < n) && !al ops j) := by funext j; simp
  rw [e]
  refine ⟨hB.defers, hB.size, fun t ht i hi hd hS => ?_, hB.old⟩
  have := hB.done t ht i hi hd hS
  simp only [Bool.and_eq_true, Bool.not_eq_true'] at hS
  simp [hS.2, this]
 | succ i ih =>
  intro hi
  have hin : i < n := hi
  obtain ⟨o, ho, h1, h2⟩ := hops i hin
  obtain ⟨s1, s2⟩ := hst i o hin ho
  cases hal : isAlloc o with
  | true =>
   rw [s1 hal, ← h2]
   refine (ih (by omega)).put hin (fun j hj hji hn => hdist i j hin hj (Ne.symm hji) hn) (fun j => ?_) (fun _ _ _ => rfl) (by simp [h1, hal])
   by_cases hj : j = i
   ·
    subst hj; simp [h1, hal, hin]
   ·
    have : (j < i + 1) = (j < i) := by simp; omega
    simp only [this, hj, decide_false, Bool.or_false]
  | false =>
   rw [s2 hal]
   have e : (fun j => decide (j < n) && (!al ops j || decide (j < i + 1))) = (fun j => decide (j < n) && (!al ops j || decide (j < i))) := by
    funext j
    by_cases hj : j = i
    ·
     subst hj; simp [h1, hal]
    ·
     have : (j < i + 1) = (j < i) := by simp; omega
     simp only [this]
   rw [e]
   exact ih (by omega)
/-- What the walks over values and new variables give, whatever the order. -/
theorem grow_given {Q : Exit → Act → World → Prop} {a : Act} {w : World} {l : List Oper} (n : Nat) (hB : growP l.toArray n = true)
  (h0 : ∀ L : Act → Prop, Hid (∀ a1, wpN P a w (fun a2 bs => ∀ W, Sees w W → (∀ b ∈ bs, Blk W b.1 b.2.1 b.2.2) → wpList P l.toArray Q (l.drop n) a2 W) (l.take n) a1 [] → L a1) → wpV P l.toArray w L (l.take n) a) :
  ∃ val ty A, Given P l.toArray n a w val ty A ∧ ∀ gs listed a' w', Mid P l.toArray n a w val ty gs listed a' w' → (∀ i, i < n → listed.getD i false = true) → wpList P l.toArray Q (l.drop n) a' w' := by
 have h := h0 _ (fun _ h => h)
 clear h0
 simp only [growP, Bool.and_eq_true, decide_eq_true_eq] at hB
 obtain ⟨⟨⟨⟨hsel, hn⟩, hlook⟩, hlow⟩, hdist⟩ := hB
 have hnl : n ≤ l.length := by simpa using hn
 have htl : (l.take n).length = n := by simp; omega
 have hops : ∀ i, i < n → ∃ o, l.toArray[i]? = some o ∧ al l.toArray i = isAlloc o ∧ dstOf l.toArray i = o.dst := fun i hi => by
  have hlt : i < l.toArray.size := Nat.lt_of_lt_of_le hi hn
  exact ⟨l.toArray[i], by simp [Nat.lt_of_lt_of_le hi hnl], by simp [al, Nat.lt_of_lt_of_le hi hnl], by simp [dstOf, Nat.lt_of_lt_of_le hi hnl]⟩
 have hat : ∀ j, j < (l.take n).length → (l.take n)[j]? = l.toArray[0 + j]? := fun j hj => by
  have hj' : j < n := by rw [htl] at hj; exact hj
  simp [hj']
 have hdist' : ∀ i j, i < n → j < n → i ≠ j → dstOf l.toArray i ≠ none → dstOf l.toArray i ≠ dstOf l.toArray j := fun i j hi hj hij h0 => by
  have := List.all_eq_true.1 (List.all_eq_true.1 hdist i (List.mem_range.2 hi)) j (List.mem_range.2 hj)
  simp only [Bool.or_eq_true, beq_iff_eq, bne_iff_ne] at this
  rcases this with (h | h) | h
  ·
   exact absurd h hij
  ·
   exact absurd h h0
  ·
   exact h
 obtain ⟨val, A, hA, hL, hst⟩ := wpV_out (l.take n) 0 a hat h
 rw [htl, Nat.zero_add] at hL
 obtain ⟨B0, ty, bs0, hB0, _, _, hst0⟩ := wpN_out (ops := l.toArray) (fun i => w.heap.size + i) (l.take n) 0 _ _ hat hL (fun _ _ _ _ => by omega) (fun b hb => by cases hb) (fun i j _ hij _ _ _ => by omega)
 have G : Given P l.toArray n a w val ty A := by
  refine ⟨hsel, hn, ?_, ?_, ?_, hdist', ?_, ?_, ?_⟩
  ·
   intro i o hi ho t ht j hj hd
   have := List.all_eq_true.1 hlook i (List.mem_range.2 hi)
   simp only [ho, Bool.and_eq_true] at this
   have := List.all_eq_true.1 (List.all_eq_true.1 this.2 t ht) j (List.mem_range.2 hj)
   simp only [hd, bne_self_eq_false, Bool.false_or, Bool.or_eq_true, Bool.and_eq_true, decide_eq_true_eq, Bool.not_eq_true'] at this
   obtain ⟨oj, hoj, h1, _⟩ := hops j hj
   rcases this with this | this
   rotate_left
   ·
    exact .inr this
   refine .inl ⟨this.1.1, ?_, this.2⟩
   have h3 := this.1.2
   rw [hoj] at h3
   rw [h1]
   simpa using h3
  ·
   intro i o hi ho ha
   have := List.all_eq_true.1 hlook i (List.mem_range.2 hi)
   simp only [ho, Bool.and_eq_true, ha, Bool.not_true, Bool.false_or] at this
   refine ⟨by simpa using this.1.1, fun t ht j hj => ?_⟩
   have := List.all_eq_true.1 (List.all_eq_true.1 this.1.2 t ht) j (List.mem_range.2 hj)
   simpa using this
  ·
   intro i o hi ho e he hb
   have := List.all_eq_true.1 hlow i (List.mem_range.2 hi)
   simp only [ho] at this
   have := Array.all_eq_true_iff_forall_mem.1 this e he
   simpa [hb] using this
  ·
   exact slots_text hA hdist' hops fun i o hi ho => ⟨fun ha => (hst i o (Nat.zero_le _) (by rw [htl]; omega) ho).1 ha, fun ha => ((hst i o (Nat.zero_le _) (by rw [htl]; omega) ho).2 ha).1⟩
  ·
   exact fun i o hi ho ha => ((hst i o (Nat.zero_le _) (by rw [htl]; omega) ho).2 ha).2
  ·
   exact fun i o hi ho ha => ((hst0 i o (Nat.zero_le _) (by rw [htl]; omega) ho).1 ha).2
 refine ⟨val, ty, A, G, fun gs listed a' w' M hall => ?_⟩
 have hal' : ∀ i, al l.toArray i = true → 0 ≤ i → i < 0 + (l.take n).length → i < n := fun i _ _ h => by rw [htl] at h; omega
 obtain ⟨B, ty', bs', hB, hLB, hbs, hstB⟩ := wpN_out (ops := l.toArray) gs (l.take n) 0 _ _ hat hL (fun i h1 h2 h3 => (M.fresh i (hal' i h3 h1 h2) h3 (hall i (hal' i h3 h1 h2))).1) (fun b hb => by cases hb)
  (fun i j h1 h2 h3 h4 h5 => by
   rw [htl] at h3
   exact M.ne i j (by omega) (by omega) (by omega) h4 h5 (hall i (by omega)) (hall j (by omega)))
 rw [htl, Nat.zero_add] at hLB
 have hS := slots_new (gs := gs) (B := B) (by rw [hB]; have := G.text n (Nat.le_refl _); exact this) hdist' hops (fun i o hi ho => ⟨fun ha => ((hstB i o (Nat.zero_le _) (by rw [htl]; omega) ho).1 ha).1, fun ha => (hstB i o (Nat.zero_le _) (by rw [htl]; omega) ho).2 ha⟩) n (Nat.le_refl _)
 have hSe : (fun j => decide (j < n) && (!al l.toArray j || decide (j < n))) = fun i => listed.getD i false := by
  funext j
  by_cases hj : j < n
  ·
   simp only [hj, decide_true, Bool.or_true, Bool.and_true]
   exact (hall j hj).symm
  ·
   simp only [hj, decide_false, Bool.false_and]
   rcases Nat.lt_or_ge j l.toArray.size with hjs | hjs
   ·
    exact (getD_both (M.inv.tail j (by omega) hjs)).symm
   ·
    rw [Array.getD_eq_getD_getElem?, Array.getElem?_eq_none (by rw [M.inv.size]; exact hjs)]; rfl
 rw [hSe] at hS
 have hBa : B n = a' := hS.same M.slots
 rw [hBa] at hLB
 exact hLB w' M.sees fun b hb => by
  rcases hbs b hb with h | ⟨i, h1, h2, h3, rfl⟩
  ·
   cases h
  ·
   have hi := hal' i h3 h1 h2
   obtain ⟨o, ho, h4, _⟩ := hops i hi
   have e := Makes.same (((hstB i o h1 h2 ho).1 (h4 ▸ h3)).2) (G.make i o hi ho (h4 ▸ h3)) w
   have := (M.fresh i hi h3 (hall i hi)).2
   have e1 : (ty' i).1 = (ty i).1 := congrArg Prod.fst e
   have e2 : (ty' i).2 = (ty i).2 := congrArg Prod.snd e
   rw [← e1, ← e2] at this
   exact this
theorem drawn_of {l : List Oper} {n : Nat} {fl : List Nat} (hD : growD l.toArray n fl = true) : Drawn l.toArray n fl := by
 simp only [growD, Bool.and_eq_true] at hD
 obtain ⟨⟨⟨hch, hsink⟩, hfl⟩, _⟩ := hD
 refine ⟨hch, ?_, ?_⟩
 ·
  intro hnn i hi hif
  have := List.all_eq_true.1 hsink i (List.mem_range.2 hi)
  rw [Bool.or_eq_true, Bool.or_eq_true] at this
  rcases this with (h | h) | h
  ·
   exfalso
   have : n = l.toArray.size := by simpa using h
   omega
  ·
   exact absurd (by simpa using h) hif
  ·
   obtain ⟨j, hj, hj2⟩ := List.any_eq_true.1 h
   simp only [Bool.and_eq_true, decide_eq_true_eq, Bool.not_eq_true'] at hj2
   exact ⟨j, by have := List.mem_range.1 hj; omega, hj2.1.1, by simpa using hj2.1.2, hj2.2⟩
 ·
  intro f hf
  have := List.all_eq_true.1 hfl f hf
  cases ho : l.toArray[f]? with
  | none => simp only [ho] at this; cases this
  | some o =>
   simp only [ho, Bool.and_eq_true, decide_eq_true_eq] at this
   refine ⟨this.1.1.1, o, rfl, this.1.1.2, by simpa using this.1.2, fun j oj hj hfj hjt => ?_⟩
   have hjs : j < l.toArray.size := (Array.getElem?_eq_some_iff.1 hj).1
   have h2 := List.all_eq_true.1 this.2 j (List.mem_range.2 hjs)
   simp only [hj, Bool.or_eq_true, Bool.not_eq_true'] at h2
   rcases h2 with (h2 | h2) | h2
   ·
    exfalso
    rw [Bool.and_eq_false_iff] at h2
    rcases h2 with h2 | h2
    ·
     simp at h2; omega
    ·
     rw [Bool.or_eq_false_iff] at h2
     rcases hjt with h | h
     ·
      have := h2.1; simp at this; omega
     ·
      have := h2.2; simp at this; exact this h
   ·
    exact .inl h2
   ·
    exact .inr h2
theorem mid_start {a : Act} {w w1 : World} (hs : Sees w w1) (n : Nat) (val : Nat → Value) (ty : Nat → TypeId × Array Value) : Mid P ops n a w val ty (fun _ => 0) (Array.replicate ops.size false) a w1 := by
 refine ⟨⟨by simp, fun j oj _ hl => (by rw [getD_replicate_false] at hl; cases hl), fun t _ ht => getD_in (by simpa using ht) (getD_replicate_false _ _)⟩, hs, ?_, ?_, ?_⟩
 ·
  have e : (fun i => (Array.replicate ops.size false).getD i false) = fun _ => false := by funext i; exact getD_replicate_false _ _
  rw [e]
  exact Slots.start n a _
 ·
  intro i _ _ hl
  rw [getD_replicate_false] at hl; cases hl
 ·
  intro i j _ _ _ _ _ hl
  rw [getD_replicate_false] at hl; cases hl
theorem Mid.all_listed {a0 a : Act} {w0 w : World} {val : Nat → Value} {ty : Nat → TypeId × Array Value} {gs : Nat → Nat} {listed : Array Bool} {n : Nat} (M : Mid P ops n a0 w0 val ty gs listed a w) (hall : ∀ i, i < n → listed.getD i false = true) :
  listed = Array.ofFn (n := ops.size) fun i => decide (i.1 < n) := by
 apply Array.ext (by simp [M.inv.size])
 intro i h1 h2
 have h3 : i < ops.size := by rw [M.inv.size] at h1; exact h1
 rw [Array.getElem_ofFn]
 have e : listed.getD i false = listed[i] := by simp [h1]
 rw [← e]
 by_cases hi : i < n
 ·
  simp only [hi, decide_true]; exact hall i hi
 ·
  simp only [hi, decide_false]; exact getD_both (M.inv.tail i (by omega) h3)
theorem grow_any {Q : Exit → Act → World → Prop} (hQ : ∀ c a w, ¬ Q (.panic c) a w) {a : Act} {w w1 : World} (hs : Sees w w1) {l : List Oper} (n : Nat) (fl : List Nat) (hB : growP l.toArray n = true) (hD : growD l.toArray n fl = true)
  (h0 : ∀ L : Act → Prop, Hid (∀ a1, wpN P a w (fun a2 bs => ∀ W, Sees w W → (∀ b ∈ bs, Blk W b.1 b.2.1 b.2.2) → wpList P l.toArray Q (l.drop n) a2 W) (l.take n) a1 [] → L a1) → wpV P l.toArray w L (l.take n) a) :
  wpAny P .any l.toArray Q l.toArray.size (Array.replicate l.toArray.size false) a w1 := by
 obtain ⟨val, ty, A, G, hfin⟩ := grow_given n hB h0
 have hleft : left n (Array.replicate l.toArray.size false) = n := by
  unfold left
  rw [List.filter_eq_self.2 (fun i _ => by rw [getD_replicate_false]; rfl), List.length_range]
 have hseq : Region.seqB .any l.toArray (l.toArray.size - n) n (Array.ofFn (n := l.toArray.size) fun i => decide (i.1 < n)) = true := by
  simp only [growD, Bool.and_eq_true] at hD
  exact hD.2
 have hnn := G.nlt
 have H := G.any (drawn_of hD) (Q := Q) hQ (fun gs listed a' w' M hall => ?_) n (fun _ => 0) _ a w1 hleft (mid_start hs n val ty)
 ·
  rw [show n + (l.toArray.size - n) = l.toArray.size by omega] at H
  exact H
 ·
  have hdl : (l.drop n).length = l.toArray.size - n := by simp
  have := wpAny_of_seq (md := .any) (Q' := Q) (P := P) (ops := l.toArray) (l.drop n) n listed a' w' (fun j => by simp [List.getElem?_drop]) (by rw [hdl, M.all_listed hall]; exact hseq) (hfin gs listed a' w' M hall)
  rwa [hdl] at this
/-- THE RULE: the values in the order of the text, then the new variables, then what is stored. -/
theorem wp_region_grow {id : Nat} {Q : Exit → Act → World → Prop} {a : Act} {w : World} {l : List Oper} (n : Nat) (fl : List Nat) (hm : P.follows .mixedOrders = true) (hB : growP l.toArray n = true) (hD : growD l.toArray n fl = true)
  (h0 : ∀ L : Act → Prop, Hid (∀ a1, wpN P a w (fun a2 bs => ∀ W, Sees w W → (∀ b ∈ bs, Blk W b.1 b.2.1 b.2.2) → wpList P l.toArray (NoPanic Q) (l.drop n) a2 W) (l.take n) a1 [] → L a1) → wpV P l.toArray w L (l.take n) a) :
  (Code.region id l.toArray true).wp P Q a w :=
 wp_region_noPanic (wp_region_any hm (grow_any (fun c a w h => h) (sees_drew (sees_refl _)) n fl hB hD h0))
def RunsVal (r : Result Next) (v : Value) (W : World) : Prop := r = .ok (.value v) W
def RunsInto (r : Result Next) (f : FuncId) (args : Array Value) (W : World) : Prop := r = .ok (.enter f args) W
section steps
variable {L : Act → Prop} {o : Oper} {rest : List Oper} {a a0 : Act} {v : Value}
theorem wpV_nil (h : L a) : wpV P ops w0 L [] a := h
theorem wpV_val (ha : isAlloc o = false) (hw : Region.wanted o (yielded ops a.tmps) = true) (hr : ∀ W, Sees w0 W → RunsVal ((execOp a.eval o).run P W) v W) (h : wpV P ops w0 L rest (a.put o.dst v)) : wpV P ops w0 L (o :: rest) a := by
 simp only [wpV, ha, hw, if_true, Bool.false_eq_true, if_false]
 exact ⟨v, fun W hW => by unfold Grows; rw [show (execOp a.eval o).run P W = _ from hr W hW]; exact ⟨rfl, Below.refl _ _⟩, h⟩
theorem wpV_call (f : FuncId) (args : Array Value) (ha : isAlloc o = false) (hw : Region.wanted o (yielded ops a.tmps) = true) (hc : ∀ W, Sees w0 W → Calls P f args W (fun e W' => e = .returned v ∧ Below W.heap.size W W'))
  (hr : ∀ W, Sees w0 W → RunsInto ((execOp a.eval o).run P W) f args W) (h : wpV P ops w0 L rest (a.put o.dst v)) : wpV P ops w0 L (o :: rest) a := by
 simp only [wpV, ha, hw, if_true, Bool.false_eq_true, if_false]
 exact ⟨v, fun W hW => by unfold Grows; rw [show (execOp a.eval o).run P W = _ from hr W hW]; exact ⟨rfl, hc W hW⟩, h⟩
theorem wpV_skip (ha : isAlloc o = false) (hw : Region.wanted o (yielded ops a.tmps) = false) (h : wpV P ops w0 L rest (a.put o.dst undef)) : wpV P ops w0 L (o :: rest) a := by
 simp only [wpV, ha, hw, Bool.false_eq_true, if_false]
 exact h
theorem wpV_alloc (ha : isAlloc o = true) (h : wpV P ops w0 L rest a) : wpV P ops w0 L (o :: rest) a := by
 simp only [wpV, ha, if_true]
 exact h
variable {L2 : Act → List (Nat × TypeId × Array Value) → Prop} {bs : List (Nat × TypeId × Array Value)}
theorem wpN_nil (h : L2 a bs) : wpN P a0 w0 L2 [] a bs := h
theorem wpN_skip (ha : isAlloc o = false) (h : wpN P a0 w0 L2 rest a bs) : wpN P a0 w0 L2 (o :: rest) a bs := by
 simp only [wpN, ha, Bool.false_eq_true, if_false]
 exact h
theorem wpN_new {t : TypeId} {cs : Array Value} (ha : isAlloc o = true) (hm : ∀ (W : World), (execOp a0.eval o).run P W = .ok (.value (.pointer (some ⟨W.heap.size, 0, none⟩))) (W.alloc (.cells cs t)))
  (h : ∀ g, w0.heap.size ≤ g → (∀ b ∈ bs, b.1 ≠ g) → wpN P a0 w0 L2 rest (a.put o.dst (.pointer (some ⟨g, 0, none⟩))) ((g, t, cs) :: bs)) : wpN P a0 w0 L2 (o :: rest) a bs := by
 simp only [wpN, ha, if_true]
 exact ⟨t, cs, hm, h⟩
end steps
end
end Go.Proofs.Num

namespace Go.Proofs.Num
open Go Go.RowKit
variable {P : Program}
theorem range_sees {w W : World} {b o : Nat} {cs : List Value} (h : w.rangeAt b o cs) (hb : b < w.heap.size) (hW : Sees w W) : W.rangeAt b o cs :=
  fun j v hv => (hW.1 b _ hb).trans (h j v hv)
theorem there_sees {w W : World} {b o n : Nat} (h : w.there b o n) (hb : b < w.heap.size) (hW : Sees w W) : W.there b o n :=
  fun j hj => by rw [hW.1 b _ hb, hW.2.1 b _ hb]; exact h j hj
theorem cell_sees {w W : World} {b o : Nat} {v : Value} (h : w.cell? ⟨b, o, none⟩ = some v) (hb : b < w.heap.size) (hW : Sees w W) : W.cell? ⟨b, o, none⟩ = some v :=
  (hW.1 b _ hb).trans h
theorem blk_there {w : World} {g : Nat} {t : TypeId} {cs : Array Value} (h : Blk w g t cs) {n : Nat} (hn : n = cs.size) : w.there g 0 n := fun j hj => by
  subst hn
  rw [h.cell, h.frozen]
  simp [hj]
theorem blk_range {w : World} {g : Nat} {t : TypeId} {cs : Array Value} (h : Blk w g t cs) {l : List Value} (hl : cs = l.toArray) : w.rangeAt g 0 l := fun j v hv => by
  subst hl
  rw [Nat.zero_add, h.cell]
  simpa using hv
theorem range_append {w : World} {b o : Nat} {xs ys : List Value} (h : w.rangeAt b o (xs ++ ys)) : w.rangeAt b o xs ∧ w.rangeAt b (o + xs.length) ys :=
  ⟨fun j v hv => h j v (by rw [List.getElem?_append_left (List.getElem?_eq_some_iff.1 hv).1]; exact hv),
   fun j v hv => by rw [Nat.add_assoc]; exact h _ v (by rw [List.getElem?_append_right (by omega)]; simpa using hv)⟩
theorem range_join {w : World} {b o o' : Nat} {xs ys : List Value} (h : w.rangeAt b o xs) (h' : w.rangeAt b o' ys) (ho : o' = o + xs.length) : w.rangeAt b o (xs ++ ys) := fun j v hv => by
  subst ho
  by_cases hj : j < xs.length
  · exact h j v (by rw [List.getElem?_append_left hj] at hv; exact hv)
  · rw [List.getElem?_append_right (by omega)] at hv
    have := h' _ v hv
    rwa [show o + xs.length + (j - xs.length) = o + j by omega] at this
theorem range_one {w : World} {b o : Nat} {v : Value} (h : w.rangeAt b o [v]) : w.cell? ⟨b, o, none⟩ = some v := h 0 v rfl
theorem cell_range {w : World} {b o : Nat} {v : Value} (h : w.cell? ⟨b, o, none⟩ = some v) : w.rangeAt b o [v] := fun j u hu => by
  cases j with
  | zero => simp only [List.getElem?_cons_zero, Option.some.injEq] at hu; subst hu; exact h
  | succ j => simp at hu
/-- w' is w but for cells of block g, from off on, so many. -/
structure Puts (g off n : Nat) (w w' : World) : Prop where
  os : w'.os = w.os
  tape : w'.tape = w.tape
  output : w'.output = w.output
  size : w'.heap.size = w.heap.size
  other : ∀ k, k ≠ g → w'.heap[k]? = w.heap[k]?
  cells : ∀ o, o < off ∨ off + n ≤ o → w'.cell? ⟨g, o, none⟩ = w.cell? ⟨g, o, none⟩
  frozen : ∀ o, w'.frozen? ⟨g, o, none⟩ = w.frozen? ⟨g, o, none⟩
theorem Puts.below {g off n B : Nat} {w0 w w' : World} (h : Puts g off n w w') (hb : Below B w0 w) (hg : B ≤ g) : Below B w0 w' :=
  hb.trans ⟨h.os, h.tape, h.output, Nat.le_of_eq h.size.symm, fun k hk => h.other k (by omega)⟩
theorem Puts.lt {g off n b : Nat} {w w' : World} (h : Puts g off n w w') (hb : b < w.heap.size) : b < w'.heap.size := by rw [h.size]; exact hb
theorem Puts.range {g off n b o : Nat} {w w' : World} {cs : List Value} (h : Puts g off n w w') (hr : w.rangeAt b o cs) (ha : b ≠ g ∨ o + cs.length ≤ off ∨ off + n ≤ o) : w'.rangeAt b o cs := fun j v hv => by
  by_cases hb : b = g
  · subst hb
    have hj := (List.getElem?_eq_some_iff.1 hv).1
    rw [h.cells _ (by rcases ha with ha | ha | ha; exact absurd rfl ha; left; omega; right; omega)]
    exact hr j v hv
  · rw [World.cell?_of_block (w := w) (h.other b hb)]
    exact hr j v hv
theorem Puts.there {g off n b o m : Nat} {w w' : World} (h : Puts g off n w w') (ht : w.there b o m) (hs : b = g → ∀ j, j < n → (w'.cell? ⟨g, off + j, none⟩).isSome = true) : w'.there b o m := fun j hj => by
  by_cases hb : b = g
  · subst hb
    rw [h.frozen]
    refine ⟨?_, (ht j hj).2⟩
    by_cases hin : o + j < off ∨ off + n ≤ o + j
    · rw [h.cells _ hin]; exact (ht j hj).1
    · have := hs rfl (o + j - off) (by omega)
      rwa [show off + (o + j - off) = o + j by omega] at this
  · rw [World.cell?_of_block (w := w) (h.other b hb), World.frozen?_of_block (w := w) (h.other b hb)]
    exact ht j hj
theorem Puts.other_there {g off n b o m : Nat} {w w' : World} (h : Puts g off n w w') (ht : w.there b o m) (hb : b ≠ g) : w'.there b o m := h.there ht fun e => absurd e hb
theorem puts_one (w : World) (g o : Nat) (v : Value) : Puts g o 1 w (w.setCell ⟨g, o, none⟩ v) := by
  refine ⟨rfl, rfl, rfl, by simp [World.setCell], fun k hk => Below.heap_setCell _ _ _ _ hk, fun x hx => ?_, fun x => ?_⟩
  · exact World.cell?_setCell_other w ⟨g, o, none⟩ ⟨g, x, none⟩ v (by simp; omega)
  · simp
theorem puts_trans {g off n m : Nat} {w w' w'' : World} (h : Puts g off n w w') (h' : Puts g (off + n) m w' w'') : Puts g off (n + m) w w'' :=
  ⟨h'.os.trans h.os, h'.tape.trans h.tape, h'.output.trans h.output, h'.size.trans h.size, fun k hk => (h'.other k hk).trans (h.other k hk),
   fun o ho => (h'.cells o (by omega)).trans (h.cells o (by omega)), fun o => (h'.frozen o).trans (h.frozen o)⟩
theorem puts_cells (g : Nat) : ∀ (vs : List Value) (o : Nat) (w : World), Puts g o vs.length w (w.setCells g o vs)
  | [], o, w => ⟨rfl, rfl, rfl, rfl, fun _ _ => rfl, fun _ _ => rfl, fun _ => rfl⟩
  | v :: vs, o, w => by
    have := puts_trans (puts_one w g o v) (puts_cells g vs (o + 1) (w.setCell ⟨g, o, none⟩ v))
    rw [List.length_cons, Nat.add_comm vs.length 1]
    exact this
section values
variable {ops : Array Oper} {w0 : World} {L : Act → Prop} {o : Oper} {rest : List Oper} {a : Act} {v : Value}
theorem wpV_move {x : Operand} (hw : Region.wanted o (yielded ops a.tmps) = true) (ho : o.op = .move x) (hx : a.eval x = v) (h : wpV P ops w0 L rest (a.put o.dst v)) : wpV P ops w0 L (o :: rest) a :=
  wpV_val (by simp [isAlloc, ho]) hw (fun W _ => by unfold RunsVal; simp [execOp, ho, hx]) h
theorem wpV_load {ty : TypeId} {x : Operand} {b off : Nat} {cs : List Value} {d : TypeDesc} (hw : Region.wanted o (yielded ops a.tmps) = true) (ho : o.op = .load ty x) (hx : a.eval x = .pointer (some ⟨b, off, none⟩)) (hc : w0.rangeAt b off cs)
    (hb : b < w0.heap.size) (hu : P.underlying ty = some d) (hd : d.isRow = true) (hi : (P.info? ty).map (·.size) = some cs.length) (h : wpV P ops w0 L rest (a.put o.dst (.agg cs.toArray))) : wpV P ops w0 L (o :: rest) a :=
  wpV_val (by simp [isAlloc, ho]) hw (fun W hW => by
    unfold RunsVal
    simp only [execOp, ho, hx, run_loadAt_mid W b off ty cs d (range_sees hc hb hW) hu hd hi, Sem.run_bind, Result.andThen_ok, Sem.run_pure]) h
theorem run_loadAt_one (w : World) (b o : Nat) (ty : TypeId) (v : Value) (d : TypeDesc) (hc : w.cell? ⟨b, o, none⟩ = some v) (hu : P.underlying ty = some d) (hd : d.isRow = false) :
    (Instr.loadAt ty (.pointer (some ⟨b, o, none⟩))).run P w = .ok v w := by
  have hagg : (isAgg ty).run P w = .ok false w := by
    unfold isAgg
    rw [Sem.run_bind, run_underlying hu w]
    cases d <;> simp_all
  simp only [Instr.loadAt, Instr.sureAddr, Sem.run_bind, Sem.run_pure, Result.andThen_ok, loadVar, hagg, Bool.false_eq_true, if_false]
  simp [hc, go_sem]
theorem wpV_load1 {ty : TypeId} {x : Operand} {b off : Nat} {d : TypeDesc} (hw : Region.wanted o (yielded ops a.tmps) = true) (ho : o.op = .load ty x) (hx : a.eval x = .pointer (some ⟨b, off, none⟩)) (hc : w0.cell? ⟨b, off, none⟩ = some v)
    (hb : b < w0.heap.size) (hu : P.underlying ty = some d) (hd : d.isRow = false) (h : wpV P ops w0 L rest (a.put o.dst v)) : wpV P ops w0 L (o :: rest) a :=
  wpV_val (by simp [isAlloc, ho]) hw (fun W hW => by
    unfold RunsVal
    simp only [execOp, ho, hx, run_loadAt_one W b off ty v d (cell_sees hc hb hW) hu hd, Sem.run_bind, Result.andThen_ok, Sem.run_pure]) h
theorem run_call_body {ρ : Operand → Value} {f : FuncId} {fn : Func} {xs : Array Operand} {ts : Array TypeId} {W : World} (ho : o.op = .call { callee := .value (.func f), args := xs, argTypes := ts }) (hρ : ρ (.func f) = .func (.func f) #[] #[]) (hf : P.funcs[f]? = some fn)
    (hn : (fn.name == "runtime.NumGoroutine") = false) (hb : fn.body.isNone = false) : (execOp ρ o).run P W = .ok (.enter f (xs.map ρ)) W := by
  have h1 : fn.name ≠ "runtime.NumGoroutine" := by simpa using hn
  have h2 : ¬ fn.body = none := by intro e; simp [e] at hb
  simp [execOp, ho, resolve, hρ, Deferred.ofValue, invoke, callFunc, hf, h1, h2]
end values
theorem wpV_ext {ops : Array Oper} {w0 : World} {L : Act → Prop} {o : Oper} {rest : List Oper} {a : Act} {v : Value} {f : FuncId} {xs : Array Operand} {ts : Array TypeId} {args : Array Value} (hw : Region.wanted o (yielded ops a.tmps) = true) (ho : o.op = .call { callee := .value (.func f), args := xs, argTypes := ts })
    (hargs0 : xs.toList.map a.eval = args.toList) (hr : ∀ W, (callFunc f args).run P W = .ok (.value v) W) (h : wpV P ops w0 L rest (a.put o.dst v)) : wpV P ops w0 L (o :: rest) a :=
  wpV_val (by simp [isAlloc, ho]) hw (fun W hW => by
    unfold RunsVal
    have hargs : xs.map a.eval = args := Array.toList_inj.1 (by rw [Array.toList_map]; exact hargs0)
    have hρ : a.eval (.func f) = .func (.func f) #[] #[] := rfl
    simp [execOp, ho, resolve, hρ, Deferred.ofValue, invoke, hargs, hr W]) h
section tails
variable {ops : Array Oper} {Q : Exit → Act → World → Prop} {o : Oper} {rest : List Oper} {a : Act} {W : World}
theorem wpL_assign {x : Operand} {v : Value} (hg : o.guard = none) (ho : o.op = .assign x) (hx : a.eval x = v) (h : wpList P ops Q rest (a.put o.dst v) W) : wpList P ops Q (o :: rest) a W :=
  wpList_plain hg fun K hK => by
    unfold Oper.wp
    simp only [execOp, ho, hx, Sem.run_pure, Oper.upon_value]
    exact hK _ _ h
theorem wpL_move {x : Operand} {v : Value} (hg : o.guard = none) (ho : o.op = .move x) (hx : a.eval x = v) (h : wpList P ops Q rest (a.put o.dst v) W) : wpList P ops Q (o :: rest) a W :=
  wpList_plain hg fun K hK => by
    unfold Oper.wp
    simp only [execOp, ho, hx, Sem.run_pure, Oper.upon_value]
    exact hK _ _ h
theorem wpL_nil (h : Q .normal a W) : wpList P ops Q [] a W := h
theorem wpL_store {ty : TypeId} {x y : Operand} {g off n : Nat} {cs : List Value} (hg : o.guard = none) (ho : o.op = .store ty x y) (hd : o.dst = none) (hx : a.eval x = .pointer (some ⟨g, off, none⟩)) (hy : a.eval y = .agg cs.toArray)
    (ht : W.there g 0 n) (hn : off + cs.length ≤ n) (hi : (P.info? ty).map (·.size) = some cs.length) (h1 : ∀ v ∈ cs, v.oneCell' = true)
    (h : ∀ W', Puts g off cs.length W W' → W'.rangeAt g off cs → W'.there g 0 n → wpList P ops Q rest a W') : wpList P ops Q (o :: rest) a W := by
  have ht' : W.there g off cs.length := fun j hj => by have := ht (off + j) (by omega); simpa using this
  have hr := World.rangeAt_setCells_same W g off cs ht'
  have hp := puts_cells g cs off W
  refine wpList_store_mid hg ty x y ho g off cs.toArray hx hy (by simpa using ht') (by simpa using hi) (all_oneCell_toArray h1) ?_
  rw [hd]
  refine h _ hp hr (hp.there ht fun _ j hj => ?_)
  rw [hr j cs[j] (by simp [hj])]; rfl
theorem wpL_store1 {ty : TypeId} {x y : Operand} {g off n : Nat} {v : Value} (hg : o.guard = none) (ho : o.op = .store ty x y) (hd : o.dst = none) (hx : a.eval x = .pointer (some ⟨g, off, none⟩)) (hy : a.eval y = v)
    (ht : W.there g 0 n) (hn : off < n) (hi : (P.info? ty).map (·.size) = some 1) (h1 : v.oneCell' = true)
    (h : ∀ W', Puts g off 1 W W' → W'.rangeAt g off [v] → W'.there g 0 n → wpList P ops Q rest a W') : wpList P ops Q (o :: rest) a W := by
  have ht' := ht off hn
  rw [Nat.zero_add] at ht'
  have hcs : v.cells = #[v] := by cases v <;> simp_all [Value.oneCell', Value.cells]
  refine wpList_plain hg fun K hK => ?_
  have hj0 : ∀ j, j < [v].length → j = 0 := fun j hj => by simpa using hj
  have hrun : (Instr.storeAt ty (.pointer (some ⟨g, off, none⟩)) v).run P W = .ok () (W.setCells g off [v]) := by
    have := run_storeCells_cells (P := P) g off [v] 0 W (fun j hj => by rw [hj0 j hj]; simpa using ht'.1) (fun j hj => by rw [hj0 j hj]; simpa using ht'.2) (fun u hu => by rw [List.mem_singleton.1 hu]; exact h1)
    simp only [Nat.add_zero] at this
    cases hq : P.info? ty with
    | none => simp [hq] at hi
    | some i =>
      have hs : i.size = 1 := by simpa [hq] using hi
      simp [Instr.storeAt, Instr.sureAddr, storeVar, sizeOf, typeInfo, hq, hcs, hs, this]
  have hp := puts_cells g [v] off W
  have hr := World.rangeAt_setCells_same W g off [v] (fun j hj => by rw [hj0 j hj]; simpa using ht')
  unfold Oper.wp
  simp only [execOp, ho, hx, hy, Sem.run_bind, hrun, Result.andThen_ok, Sem.run_pure, Oper.upon_skip, hd]
  refine hK _ _ (h _ hp hr (hp.there ht fun _ j hj => ?_))
  rw [hj0 j hj, Nat.add_zero, range_one hr]; rfl
end tails
/-- What one result is. -/
inductive ResOne (P : Program) (tmps : Array Value) (w : World) : ResultVar → Value → Prop
  | tmp {t : Tmp} {v : Value} (h : tmps.getD t undef = v) : ResOne P tmps w (.tmp t) v
  | cell {t : Tmp} {ty : TypeId} {p : Addr} {v : Value} (hp : tmps.getD t undef = .pointer (some p)) (hl : (loadVar ty p).run P w = .ok v w) : ResOne P tmps w (.cell t ty) v
theorem res1 {fn : Func} {tmps : Array Value} {w : World} {r : ResultVar} {v : Value} (h : fn.results = #[r]) (h1 : ResOne P tmps w r v) : (results fn tmps).run P w = .ok v w := by
  cases h1
  all_goals (simp [results, h, asAddr] at *; simp_all)
theorem res2 {fn : Func} {tmps : Array Value} {w : World} {r s : ResultVar} {v u : Value} (h : fn.results = #[r, s]) (h1 : ResOne P tmps w r v) (h2 : ResOne P tmps w s u) : (results fn tmps).run P w = .ok (.tuple #[v, u]) w := by
  cases h1 <;> cases h2
  all_goals (simp [results, h, asAddr] at *; simp_all)
theorem then_normal {Q : Exit → Act → World → Prop} {K : Act → World → Prop} {a : Act} {w : World} (h : K a w) : Exit.then K Q .normal a w := h
/-- A loop, by what holds at each round's head, with a number that goes down. -/
theorem wp_loop_ghost {Q : Exit → Act → World → Prop} {c : Code} {a : Act} {w : World} (I : Nat → Act → World → Prop) (n : Nat) (h₀ : I n a w)
    (round : ∀ n a w, I n a w → c.wp P (Exit.then (fun a' w' => ∃ m, m < n ∧ I m a' w') Q) a w) : (Code.loop c).wp P Q a w := by
  intro b k cs
  have key : ∀ n a w, I n a w →
      ∃ e a' w', Q e a' w' ∧ Arrives P (lone (b.at a (.code c :: .inLoop c :: k)) cs w) b k cs e a' w' := by
    intro n
    induction n using Nat.strongRecOn with
    | _ n ih =>
      intro a w hI
      obtain ⟨e, a₁, w₁, hq, harr⟩ := round n a w hI b (.inLoop c :: k) cs
      cases e with
      | normal =>
        obtain ⟨m, hlt, hI₁⟩ := hq
        obtain ⟨e₂, a₂, w₂, hq₂, harr₂⟩ := ih m hlt a₁ w₁ hI₁
        exact ⟨e₂, a₂, w₂, hq₂, .of_steps (Steps.trans harr (.one step_inLoop)) harr₂⟩
      | exit id => exact ⟨_, a₁, w₁, hq, .pass (x := .inLoop c) rfl (fun _ _ => .inl (by simp)) harr⟩
      | goto l => exact ⟨_, a₁, w₁, hq, .pass (x := .inLoop c) rfl (fun _ _ => .inl (by simp)) harr⟩
      | ret => exact ⟨_, a₁, w₁, hq, .pass (x := .inLoop c) rfl (fun _ _ => .inl (by simp)) harr⟩
      | panic ch => exact ⟨_, a₁, w₁, hq, .pass (x := .inLoop c) rfl (fun _ _ => .inl (by simp)) harr⟩
      | outgrown => exact ⟨_, a₁, w₁, hq, .pass (x := .inLoop c) rfl (fun _ _ => .inl (by simp)) harr⟩
  obtain ⟨e, a', w', hq, harr⟩ := key n a w h₀
  exact ⟨e, a', w', hq, .of_steps (.one step_loop) harr⟩
section arith
variable {ops : Array Oper} {w0 : World} {L : Act → Prop} {o : Oper} {rest : List Oper} {a : Act}
/-- Sums and comparisons of whole numbers. -/
theorem wpV_bin {op : BinOp} {T T' : TypeId} {x y : Operand} {k k' : IntKind} {m n : Int} {v : Value} (hw : Region.wanted o (yielded ops a.tmps) = true) (ho : o.op = .binOp op T x y T') (hx : a.eval x = .int k m) (hy : a.eval y = .int k' n)
    (hr : ∀ W, (binOp op T (.int k m) (.int k' n)).run P W = .ok v W) (h : wpV P ops w0 L rest (a.put o.dst v)) : wpV P ops w0 L (o :: rest) a :=
  wpV_val (by simp [isAlloc, ho]) hw (fun W _ => by
    unfold RunsVal
    have hg : ∀ u : Unit → Sem Value, (eqGuard op T x y (.int k m) (.int k' n) >>= u).run P W = (u ()).run P W := fun u => by
      unfold eqGuard
      cases op <;> simp
    simp only [execOp, ho, hx, hy, Sem.run_bind, Sem.run_pure]
    have := hr W
    have e : (eqGuard op T x y (.int k m) (.int k' n)).run P W = .ok () W := by
      unfold eqGuard
      cases op <;> simp
    simp only [e, Result.andThen_ok, this]) h
theorem run_lss (T : TypeId) (k : IntKind) (m n : Int) (W : World) : (binOp .lss T (.int k m) (.int k n)).run P W = .ok (.bool (decide (m < n))) W := by simp [binOp, go_sem]
theorem run_leq (T : TypeId) (k : IntKind) (m n : Int) (W : World) : (binOp .leq T (.int k m) (.int k n)).run P W = .ok (.bool (decide (m ≤ n))) W := by simp [binOp, go_sem]
theorem run_gtr (T : TypeId) (k : IntKind) (m n : Int) (W : World) : (binOp .gtr T (.int k m) (.int k n)).run P W = .ok (.bool (decide (n < m))) W := by simp [binOp, go_sem]
theorem run_geq (T : TypeId) (k : IntKind) (m n : Int) (W : World) : (binOp .geq T (.int k m) (.int k n)).run P W = .ok (.bool (decide (n ≤ m))) W := by simp [binOp, go_sem]
theorem run_eql (T : TypeId) (k : IntKind) (m n : Int) (W : World) : (binOp .eql T (.int k m) (.int k n)).run P W = .ok (.bool (m == n)) W := by simp [binOp, go_sem]
theorem run_neq (T : TypeId) (k : IntKind) (m n : Int) (W : World) : (binOp .neq T (.int k m) (.int k n)).run P W = .ok (.bool (m != n)) W := by simp [binOp, go_sem]
theorem run_add {T : TypeId} {k : IntKind} {m n e : Int} (h : k.wrap (m + n) = e) (W : World) : (binOp .add T (.int k m) (.int k n)).run P W = .ok (.int k e) W := by subst h; simp [binOp, go_sem]
theorem run_sub {T : TypeId} {k : IntKind} {m n e : Int} (h : k.wrap (m - n) = e) (W : World) : (binOp .sub T (.int k m) (.int k n)).run P W = .ok (.int k e) W := by subst h; simp [binOp, go_sem]
theorem run_mul {T : TypeId} {k : IntKind} {m n e : Int} (h : k.wrap (m * n) = e) (W : World) : (binOp .mul T (.int k m) (.int k n)).run P W = .ok (.int k e) W := by subst h; simp [binOp, go_sem]
theorem run_and {T : TypeId} {k : IntKind} {m n e : Int} (h : bits .and k m n = e) (W : World) : (binOp .and T (.int k m) (.int k n)).run P W = .ok (.int k e) W := by subst h; simp [binOp, go_sem]
theorem run_or {T : TypeId} {k : IntKind} {m n e : Int} (h : bits .or k m n = e) (W : World) : (binOp .or T (.int k m) (.int k n)).run P W = .ok (.int k e) W := by subst h; simp [binOp, go_sem]
theorem run_quo {T : TypeId} {k : IntKind} {m n e : Int} (hn : n ≠ 0) (h : k.wrap (m.tdiv n) = e) (W : World) : (binOp .quo T (.int k m) (.int k n)).run P W = .ok (.int k e) W := by subst h; simp [binOp, go_sem, hn]
theorem run_rem {T : TypeId} {k : IntKind} {m n e : Int} (hn : n ≠ 0) (h : m.tmod n = e) (W : World) : (binOp .rem T (.int k m) (.int k n)).run P W = .ok (.int k e) W := by subst h; simp [binOp, go_sem, hn]
end arith
/-- The end of a region: on into the rest. -/
theorem no_panic {Q : Exit → Act → World → Prop} {a : Act} {w : World} (h : Q .normal a w) : NoPanic Q .normal a w := h
end Go.Proofs.Num

namespace Go.Proofs.Num
open Go Go.RowKit
variable {P : Program}
section
variable {ops : Array Oper} {w0 : World} {L : Act → Prop} {o : Oper} {rest : List Oper} {a : Act} {v : Value}
theorem run_sizeOf {T : TypeId} {n : Nat} (h : (P.info? T).map (·.size) = some n) (W : World) : (sizeOf T).run P W = .ok n W := by
 cases hq : P.info? T with
 | none => simp [hq] at h
 | some i => simp [hq] at h; simp [sizeOf, typeInfo, hq, h]
theorem run_indexAt_arr {T e : TypeId} {len g off n : Nat} {k : IntKind} (hu : P.underlying T = some (.array len e)) (hs : (P.info? e).map (·.size) = some 1) (hn : n < len) (W : World) :
  (Instr.indexAt T (.pointer (some ⟨g, off, none⟩)) (.int k (n : Nat))).run P W = .ok (.pointer (some ⟨g, off + n, none⟩)) W := by
 simp [Instr.indexAt, asIntOf, run_underlying hu, Instr.sureAddr, run_sizeOf hs, hn, Sem.run_bind, Addr.add_mid]
theorem wpV_idx {T : TypeId} {x y : Operand} {e : TypeId} {len g off n : Nat} {k : IntKind} (hw : Region.wanted o (yielded ops a.tmps) = true) (ho : o.op = .indexAddr T x y) (hx : a.eval x = .pointer (some ⟨g, off, none⟩)) (hy : a.eval y = .int k (n : Nat))
  (hu : P.underlying T = some (.array len e)) (hs : (P.info? e).map (·.size) = some 1) (hn : n < len) (h : wpV P ops w0 L rest (a.put o.dst (.pointer (some ⟨g, off + n, none⟩)))) : wpV P ops w0 L (o :: rest) a :=
 wpV_val (by simp [isAlloc, ho]) hw (fun W _ => by
  unfold RunsVal
  simp only [execOp, ho, hx, hy, run_indexAt_arr hu hs hn W, Sem.run_bind, Result.andThen_ok, Sem.run_pure]) h
theorem run_indexAt_slice {T e : TypeId} {len cap g off n : Nat} {k : IntKind} (hu : P.underlying T = some (.slice e)) (hs : (P.info? e).map (·.size) = some 1) (hn : n < len) (W : World) :
  (Instr.indexAt T (.slice (some ⟨g, off, none⟩) len cap) (.int k (n : Nat))).run P W = .ok (.pointer (some ⟨g, off + n, none⟩)) W := by
 simp [Instr.indexAt, asIntOf, run_underlying hu, run_sizeOf hs, hn, Sem.run_bind, Addr.add_mid]
theorem wpV_idxs {T : TypeId} {x y : Operand} {e : TypeId} {len cap g off n : Nat} {k : IntKind} (hw : Region.wanted o (yielded ops a.tmps) = true) (ho : o.op = .indexAddr T x y) (hx : a.eval x = .slice (some ⟨g, off, none⟩) len cap) (hy : a.eval y = .int k (n : Nat))
  (hu : P.underlying T = some (.slice e)) (hs : (P.info? e).map (·.size) = some 1) (hn : n < len) (h : wpV P ops w0 L rest (a.put o.dst (.pointer (some ⟨g, off + n, none⟩)))) : wpV P ops w0 L (o :: rest) a :=
 wpV_val (by simp [isAlloc, ho]) hw (fun W _ => by
  unfold RunsVal
  simp only [execOp, ho, hx, hy, run_indexAt_slice hu hs hn W, Sem.run_bind, Result.andThen_ok, Sem.run_pure]) h
theorem run_index_arr {T e : TypeId} {len n : Nat} {k : IntKind} {cs : List Value} {v : Value} {d : TypeDesc} (hu : P.underlying T = some (.array len e)) (hs : (P.info? e).map (·.size) = some 1) (he : P.underlying e = some d) (hd : d.isRow = false) (hn : n < len) (hv : cs[n]? = some v) (W : World) :
  (Instr.index T (.agg cs.toArray) (.int k (n : Nat))).run P W = .ok v W := by
 have hagg : (isAgg e).run P W = .ok false W := by
  unfold isAgg
  rw [Sem.run_bind, run_underlying he W]
  cases d <;> simp_all
 simp [Instr.index, asIntOf, run_underlying hu, run_sizeOf hs, hn, Sem.run_bind, part, hagg, hv]
theorem wpV_index {T : TypeId} {x y : Operand} {e : TypeId} {len n : Nat} {k : IntKind} {cs : List Value} {d : TypeDesc} (hw : Region.wanted o (yielded ops a.tmps) = true) (ho : o.op = .index T x y) (hx : a.eval x = .agg cs.toArray) (hy : a.eval y = .int k (n : Nat))
  (hu : P.underlying T = some (.array len e)) (hs : (P.info? e).map (·.size) = some 1) (he : P.underlying e = some d) (hd : d.isRow = false) (hn : n < len) (hv : cs[n]? = some v) (h : wpV P ops w0 L rest (a.put o.dst v)) : wpV P ops w0 L (o :: rest) a :=
 wpV_val (by simp [isAlloc, ho]) hw (fun W _ => by
  unfold RunsVal
  simp only [execOp, ho, hx, hy, run_index_arr hu hs he hd hn hv W, Sem.run_bind, Result.andThen_ok, Sem.run_pure]) h
theorem run_index_str {T : TypeId} {n : Nat} {k : IntKind} {s : ByteArray} (hu : P.underlying T = some .string) (hn : n < s.size) (W : World) :
  (Instr.index T (.string s) (.int k (n : Nat))).run P W = .ok (.int .u8 (s[n].toNat : Nat)) W := by
 simp [Instr.index, asIntOf, run_underlying hu, hn, Sem.run_bind]
/-- Shifts, by a number that is not negative. -/
theorem run_shr {T : TypeId} {k k' : IntKind} {m n : Nat} {e : Int} (hk : n ≤ k.bits) (he : ((m / 2 ^ n : Nat) : Int) = e) (W : World) : (binOp .shr T (.int k (m : Nat)) (.int k' (n : Nat))).run P W = .ok (.int k e) W := by
 subst he
 have h : ¬ ((n : Int) < 0) := by omega
 have h2 : min n k.bits = n := Nat.min_eq_left hk
 have h3 : ((m : Int)).fdiv ((2 : Int) ^ n) = ((m / 2 ^ n : Nat) : Int) := by
  rw [show ((2 : Int) ^ n) = ((2 ^ n : Nat) : Int) by rw [Int.natCast_pow]; rfl, Int.fdiv_eq_ediv_of_nonneg _ (Int.natCast_nonneg _)]
  rfl
 simp [binOp, Op.shift, h, h2, h3]
theorem run_shl {T : TypeId} {k k' : IntKind} {m n : Nat} {e : Int} (hk : n ≤ k.bits) (he : k.wrap ((m * 2 ^ n : Nat) : Int) = e) (W : World) : (binOp .shl T (.int k (m : Nat)) (.int k' (n : Nat))).run P W = .ok (.int k e) W := by
 subst he
 have h : ¬ ((n : Int) < 0) := by omega
 have h2 : min n k.bits = n := Nat.min_eq_left hk
 have h3 : (m : Int) * (2 : Int) ^ n = ((m * 2 ^ n : Nat) : Int) := by
  rw [Int.natCast_mul, Int.natCast_pow]; rfl
 simp only [binOp, Op.shift, h, if_false, Int.toNat_natCast, h2, h3, Sem.run_pure]
theorem tdiv_nat (a b : Nat) : ((a : Nat) : Int).tdiv (b : Nat) = ((a / b : Nat) : Int) := by
 rw [Int.tdiv_eq_ediv_of_nonneg (by omega)]; rfl
theorem tmod_nat (a b : Nat) : ((a : Nat) : Int).tmod (b : Nat) = ((a % b : Nat) : Int) := by
 rw [Int.tmod_eq_emod_of_nonneg (by omega)]; rfl
theorem wrap_nat (a : Nat) (h : a < 9223372036854775808) : IntKind.i64.wrap (a : Nat) = (a : Nat) := by
 rw [IntKind.wrap_i64]; omega
theorem run_lssN (m n : Nat) (T : TypeId) (k : IntKind) (W : World) : (binOp .lss T (.int k (m : Nat)) (.int k (n : Nat))).run P W = .ok (.bool (decide (m < n))) W := by
 rw [run_lss, decide_eq_decide.2 (show ((m : Nat) : Int) < (n : Nat) ↔ m < n by omega)]
theorem run_gtrN (m n : Nat) (T : TypeId) (k : IntKind) (W : World) : (binOp .gtr T (.int k (m : Nat)) (.int k (n : Nat))).run P W = .ok (.bool (decide (n < m))) W := by
 rw [run_gtr, decide_eq_decide.2 (show ((n : Nat) : Int) < (m : Nat) ↔ n < m by omega)]
theorem run_geqN (m n : Nat) (T : TypeId) (k : IntKind) (W : World) : (binOp .geq T (.int k (m : Nat)) (.int k (n : Nat))).run P W = .ok (.bool (decide (n ≤ m))) W := by
 rw [run_geq, decide_eq_decide.2 (show ((n : Nat) : Int) ≤ (m : Nat) ↔ n ≤ m by omega)]
theorem run_arrayAt {T e : TypeId} {n len cap : Nat} {p : Option Addr} (hu : P.underlying T = some (.array n e)) (hn : n ≤ len) (W : World) : (Instr.arrayAt T (.slice p len cap)).run P W = .ok (.pointer p) W := by
 simp [Instr.arrayAt, run_underlying hu, Sem.run_bind, Nat.not_lt.2 hn]
theorem wpV_conv {S T : TypeId} {x : Operand} {k k' : IntKind} {m e : Int} (hw : Region.wanted o (yielded ops a.tmps) = true) (ho : o.op = .convert S T x) (hx : a.eval x = .int k' m) {d : TypeDesc}
  (hr : ∀ W, (convert S T (.int k' m)).run P W = .ok (.int k e) W) (h : wpV P ops w0 L rest (a.put o.dst (.int k e))) : wpV P ops w0 L (o :: rest) a :=
 wpV_val (by simp [isAlloc, ho]) hw (fun W _ => by
  unfold RunsVal
  simp only [execOp, ho, hx, hr W, Sem.run_bind, Result.andThen_ok, Sem.run_pure]) h
theorem wpV_pick {c x y : Operand} {b : Bool} (hw : Region.wanted o (yielded ops a.tmps) = true) (ho : o.op = .pick c x y) (hc : a.eval c = .bool b) (hv : (if b then a.eval x else a.eval y) = v) (h : wpV P ops w0 L rest (a.put o.dst v)) : wpV P ops w0 L (o :: rest) a :=
 wpV_val (by simp [isAlloc, ho]) hw (fun W _ => by
  unfold RunsVal
  simp only [execOp, ho, hc, asBool, Sem.run_bind, Result.andThen_ok, Sem.run_pure, hv]) h
theorem two_rows {w w0 : World} {g h B0 : Nat} {A C : List Value} (ha : w.there g 0 A.length) (hc : w.there h 0 C.length) (hne : g ≠ h) (hb : Below B0 w0 w) (hg : B0 ≤ g) (hh : B0 ≤ h) :
  ((w.setCells g 0 A).setCells h 0 C).drew.rangeAt g 0 A ∧ ((w.setCells g 0 A).setCells h 0 C).drew.rangeAt h 0 C ∧ Below B0 w0 ((w.setCells g 0 A).setCells h 0 C).drew := by
 have p1 := puts_cells g A 0 w
 have p2 := puts_cells h C 0 (w.setCells g 0 A)
 have r1 := World.rangeAt_setCells_same w g 0 A ha
 have t2 := p1.other_there hc (Ne.symm hne)
 have r2 := World.rangeAt_setCells_same (w.setCells g 0 A) h 0 C t2
 exact ⟨p2.range r1 (.inl hne), r2, (p2.below (p1.below hb hg) hh).drew⟩
end
end Go.Proofs.Num

namespace Go.Proofs.Num
open Go
/-- Word i of a number. -/
def limb (x i : Nat) : Int := ((x / 2 ^ (64 * i) % 18446744073709551616 : Nat) : Int)
/-- A number of four words, as Go's array. -/
def fel (x : Nat) : List Value := [.int .u64 (limb x 0), .int .u64 (limb x 1), .int .u64 (limb x 2), .int .u64 (limb x 3)]
abbrev fe (x : Nat) : Value := .agg (fel x).toArray
theorem fe_lit (x : Nat) : fe x = .agg #[.int .u64 (limb x 0), .int .u64 (limb x 1), .int .u64 (limb x 2), .int .u64 (limb x 3)] := rfl
theorem flen (x : Nat) : (fel x).length = 4 := rfl
theorem fel_one (x : Nat) : ∀ v ∈ fel x, v.oneCell' = true := by
 intro v hv
 simp only [fel, List.mem_cons, List.not_mem_nil, or_false] at hv
 rcases hv with rfl | rfl | rfl | rfl <;> rfl
theorem fone {x : Nat} {v : Value} (h : v ∈ fel x) : v.oneCell' = true := fel_one x v h
def Wd (x : Int) : Prop := 0 ≤ x ∧ x < 18446744073709551616
theorem limb_wd (x i : Nat) : Wd (limb x i) := by unfold Wd limb; omega
theorem limb_nn (x i : Nat) : 0 ≤ limb x i := (limb_wd x i).1
/-- bits.Sub64: the difference and the borrow; bits.Add64: the sum and the carry. -/
def sd (x y b : Int) : Int := (x - y - b) % 18446744073709551616
def sb (x y b : Int) : Int := if x < y + b then 1 else 0
def ad (x y c : Int) : Int := (x + y + c) % 18446744073709551616
def ac (x y c : Int) : Int := (x + y + c) / 18446744073709551616
theorem sd_wd (x y b : Int) : Wd (sd x y b) := by unfold Wd sd; omega
theorem ad_wd (x y b : Int) : Wd (ad x y b) := by unfold Wd ad; omega
theorem sb_01 (x y b : Int) : 0 ≤ sb x y b ∧ sb x y b ≤ 1 := by unfold sb; split <;> omega
theorem ac_01 {x y c : Int} (hx : Wd x) (hy : Wd y) (hc : 0 ≤ c ∧ c ≤ 1) : 0 ≤ ac x y c ∧ ac x y c ≤ 1 := by
 unfold Wd at hx hy; unfold ac; omega
theorem limbs_sum (x : Nat) (hx : x < 2 ^ 256) : (x : Int) = limb x 0 + 2 ^ 64 * limb x 1 + 2 ^ 128 * limb x 2 + 2 ^ 192 * limb x 3 := by
 unfold limb
 simp only [Nat.reduceMul, Nat.reducePow, Int.reducePow] at *
 omega
theorem limb_of {z : Nat} {z0 z1 z2 z3 : Int} (h0 : Wd z0) (h1 : Wd z1) (h2 : Wd z2) (h3 : Wd z3) (h : (z : Int) = z0 + 2 ^ 64 * z1 + 2 ^ 128 * z2 + 2 ^ 192 * z3) :
  limb z 0 = z0 ∧ limb z 1 = z1 ∧ limb z 2 = z2 ∧ limb z 3 = z3 := by
 unfold Wd at *; unfold limb
 simp only [Nat.reduceMul, Nat.reducePow, Int.reducePow] at *
 omega
theorem fe_of {z : Nat} {z0 z1 z2 z3 : Int} (h0 : Wd z0) (h1 : Wd z1) (h2 : Wd z2) (h3 : Wd z3) (h : (z : Int) = z0 + 2 ^ 64 * z1 + 2 ^ 128 * z2 + 2 ^ 192 * z3) :
  (Value.agg #[.int .u64 z0, .int .u64 z1, .int .u64 z2, .int .u64 z3]) = fe z := by
 obtain ⟨a, b, c, d⟩ := limb_of h0 h1 h2 h3 h
 rw [fe_lit, a, b, c, d]
theorem fe_inj {x y : Nat} (hx : x < 2 ^ 256) (hy : y < 2 ^ 256) (h0 : limb x 0 = limb y 0) (h1 : limb x 1 = limb y 1) (h2 : limb x 2 = limb y 2) (h3 : limb x 3 = limb y 3) : x = y := by
 have a := limbs_sum x hx
 have b := limbs_sum y hy
 rw [h0, h1, h2, h3] at a
 omega
/-- The difference of two numbers, and what is borrowed. -/
def subW (x y : Nat) : Nat := (x + 2 ^ 256 - y) % 2 ^ 256
def subB (x y : Nat) : Int := if x < y then 1 else 0
theorem sub_chain (x y : Nat) (hx : x < 2 ^ 256) (hy : y < 2 ^ 256) :
  let b0 := sb (limb x 0) (limb y 0) 0
  let b1 := sb (limb x 1) (limb y 1) b0
  let b2 := sb (limb x 2) (limb y 2) b1
  (Value.agg #[.int .u64 (sd (limb x 0) (limb y 0) 0), .int .u64 (sd (limb x 1) (limb y 1) b0), .int .u64 (sd (limb x 2) (limb y 2) b1), .int .u64 (sd (limb x 3) (limb y 3) b2)]) = fe (subW x y) ∧ sb (limb x 3) (limb y 3) b2 = subB x y := by
 intro b0 b1 b2
 have a := limbs_sum x hx
 have b := limbs_sum y hy
 obtain ⟨x0, x0'⟩ := limb_wd x 0
 obtain ⟨x1, x1'⟩ := limb_wd x 1
 obtain ⟨x2, x2'⟩ := limb_wd x 2
 obtain ⟨x3, x3'⟩ := limb_wd x 3
 obtain ⟨y0, y0'⟩ := limb_wd y 0
 obtain ⟨y1, y1'⟩ := limb_wd y 1
 obtain ⟨y2, y2'⟩ := limb_wd y 2
 obtain ⟨y3, y3'⟩ := limb_wd y 3
 have hk : (x : Int) + 2 ^ 256 * sb (limb x 3) (limb y 3) b2 - y = sd (limb x 0) (limb y 0) 0 + 2 ^ 64 * sd (limb x 1) (limb y 1) b0 + 2 ^ 128 * sd (limb x 2) (limb y 2) b1 + 2 ^ 192 * sd (limb x 3) (limb y 3) b2 := by
  have e : ∀ p q r : Int, 0 ≤ p → p < 18446744073709551616 → 0 ≤ q → q < 18446744073709551616 → 0 ≤ r → r ≤ 1 → p - q - r + 18446744073709551616 * sb p q r = sd p q r := by
   intro p q r; unfold sb sd; intros; split <;> omega
  have h0 := e _ _ 0 x0 x0' y0 y0' (by omega) (by omega)
  have h1 := e _ _ b0 x1 x1' y1 y1' (sb_01 _ _ _).1 (sb_01 _ _ _).2
  have h2 := e _ _ b1 x2 x2' y2 y2' (sb_01 _ _ _).1 (sb_01 _ _ _).2
  have h3 := e _ _ b2 x3 x3' y3 y3' (sb_01 _ _ _).1 (sb_01 _ _ _).2
  show (x : Int) + 2 ^ 256 * sb (limb x 3) (limb y 3) b2 - y = _
  have g0 : sb (limb x 0) (limb y 0) 0 = b0 := rfl
  have g1 : sb (limb x 1) (limb y 1) b0 = b1 := rfl
  have g2 : sb (limb x 2) (limb y 2) b1 = b2 := rfl
  rw [g0] at h0; rw [g1] at h1; rw [g2] at h2
  generalize sb (limb x 3) (limb y 3) b2 = b3 at *
  clear_value b0 b1 b2
  simp only [Int.reducePow] at *
  omega
 have w0 := sd_wd (limb x 0) (limb y 0) 0
 have w1 := sd_wd (limb x 1) (limb y 1) b0
 have w2 := sd_wd (limb x 2) (limb y 2) b1
 have w3 := sd_wd (limb x 3) (limb y 3) b2
 have hb := sb_01 (limb x 3) (limb y 3) b2
 generalize sd (limb x 0) (limb y 0) 0 = d0 at *
 generalize sd (limb x 1) (limb y 1) b0 = d1 at *
 generalize sd (limb x 2) (limb y 2) b1 = d2 at *
 generalize sd (limb x 3) (limb y 3) b2 = d3 at *
 generalize sb (limb x 3) (limb y 3) b2 = b3 at *
 have hb' : b3 = 0 ∨ b3 = 1 := by omega
 constructor
 ·
  refine fe_of w0 w1 w2 w3 ?_
  rw [← hk]
  unfold subW
  unfold Wd at *
  simp only [Nat.reducePow, Int.reducePow] at *
  rcases hb' with rfl | rfl <;> omega
 ·
  unfold subB Wd at *
  simp only [Nat.reducePow, Int.reducePow] at *
  rcases hb' with rfl | rfl <;> split <;> omega
/-- One bit of a number. -/
def bitN (N m : Nat) : Int := ((N / 2 ^ m % 2 : Nat) : Int)
theorem bitN_01 (N m : Nat) : 0 ≤ bitN N m ∧ bitN N m ≤ 1 := by unfold bitN; omega
theorem wrap_u64 (n : Int) : IntKind.u64.wrap n = n % 18446744073709551616 := by simp [IntKind.wrap, IntKind.bits, IntKind.signed]
theorem bits_nat64 (a b : Nat) (ha : a < 2 ^ 64) (hb : b < 2 ^ 64) :
  bits .and .u64 a b = (a &&& b : Nat) ∧ bits .or .u64 a b = (a ||| b : Nat) :=
 bits_nat .u64 64 (by decide) (fun n h0 h1 => by rw [wrap_u64]; omega) a b ha hb
theorem bit_of (N m : Nat) : bits .and .u64 (limb N (m / 64) / 2 ^ (m % 64)) 1 = bitN N m := by
 unfold limb bitN
 have e : (((N / 2 ^ (64 * (m / 64)) % 18446744073709551616 : Nat) : Int) / 2 ^ (m % 64)) = ((N / 2 ^ (64 * (m / 64)) % 18446744073709551616 / 2 ^ (m % 64) : Nat) : Int) := by
  rw [Int.natCast_ediv, Int.natCast_pow]; rfl
 rw [e, show (1 : Int) = ((1 : Nat) : Int) from rfl, (bits_nat64 _ 1 (by
  refine Nat.lt_of_le_of_lt (Nat.div_le_self _ _) ?_
  omega) (by decide)).1, Nat.and_one_is_mod]
 congr 1
 have h64 : m % 64 < 64 := Nat.mod_lt _ (by decide)
 have hm : m = 64 * (m / 64) + m % 64 := (Nat.div_add_mod m 64).symm
 conv => rhs; rw [hm, Nat.pow_add, ← Nat.div_div_eq_div_mul]
 generalize N / 2 ^ (64 * (m / 64)) = A
 generalize m % 64 = j at *
 have hd : (18446744073709551616 : Nat) = 2 ^ j * 2 ^ (64 - j) := by rw [← Nat.pow_add, show j + (64 - j) = 64 from by omega]
 rw [hd, Nat.mod_mul_right_div_self, Nat.mod_mod_of_dvd]
 exact ⟨2 ^ (64 - j - 1), by rw [← Nat.pow_succ', show (64 - j - 1).succ = 64 - j from by omega]⟩
/-- A word moved left by one, and a bit put in. -/
def shb (a b : Int) : Int := bits .or .u64 (IntKind.u64.wrap (a * 2)) b
def top (a : Int) : Int := a / 9223372036854775808
theorem shb_eq {a b : Int} (ha : Wd a) (hb : 0 ≤ b ∧ b ≤ 1) : shb a b = (a * 2) % 18446744073709551616 + b := by
 obtain ⟨a, rfl⟩ := Int.eq_ofNat_of_zero_le ha.1
 obtain ⟨b, rfl⟩ := Int.eq_ofNat_of_zero_le hb.1
 unfold shb
 unfold Wd at ha
 rw [wrap_u64]
 have e : ((a : Int) * 2 % 18446744073709551616) = ((2 * (a % 9223372036854775808) : Nat) : Int) := by omega
 rw [e, (bits_nat64 _ _ (by omega) (by omega)).2]
 have hb' : b = 0 ∨ b = 1 := by omega
 rcases hb' with rfl | rfl
 ·
  simp
 ·
  have : (2 * (a % 9223372036854775808)) ||| 1 = 2 * (a % 9223372036854775808) + 1 := by
   have := Nat.two_pow_add_eq_or_of_lt (i := 1) (b := 1) (by decide) (a % 9223372036854775808)
   rw [Nat.pow_one] at this
   exact this.symm
  rw [this]
  omega
theorem top_01 {a : Int} (ha : Wd a) : 0 ≤ top a ∧ top a ≤ 1 := by unfold Wd at ha; unfold top; omega
/-- Four words moved left by one, and a bit put in. -/
theorem shift_chain (r : Nat) (b : Int) (hr : r < 2 ^ 255) (hb : 0 ≤ b ∧ b ≤ 1) :
  (Value.agg #[.int .u64 (shb (limb r 0) b), .int .u64 (shb (limb r 1) (top (limb r 0))), .int .u64 (shb (limb r 2) (top (limb r 1))), .int .u64 (shb (limb r 3) (top (limb r 2)))]) = fe (2 * r + b.toNat) := by
 have a := limbs_sum r (by omega)
 have w0 := limb_wd r 0
 have w1 := limb_wd r 1
 have w2 := limb_wd r 2
 have w3 := limb_wd r 3
 rw [shb_eq w0 hb, shb_eq w1 (top_01 w0), shb_eq w2 (top_01 w1), shb_eq w3 (top_01 w2)]
 unfold Wd top at *
 refine fe_of ?_ ?_ ?_ ?_ ?_
 ·
  unfold Wd; omega
 ·
  unfold Wd; omega
 ·
  unfold Wd; omega
 ·
  unfold Wd; omega
 ·
  simp only [Nat.reducePow, Int.reducePow] at *
  generalize limb r 0 = x0 at *
  generalize limb r 1 = x1 at *
  generalize limb r 2 = x2 at *
  generalize limb r 3 = x3 at *
  omega
/-- The base point's order. -/
def ordL : Nat := 7237005577332262213973186563042994240857116359379907606001950938285454250989
/-- One more bit of a number that is divided by L. -/
theorem rest_step (N m : Nat) : N / 2 ^ m % ordL = (2 * (N / 2 ^ (m + 1) % ordL) + N / 2 ^ m % 2) % ordL := by
 have : N / 2 ^ (m + 1) = N / 2 ^ m / 2 := by rw [Nat.pow_succ, ← Nat.div_div_eq_div_mul]
 rw [this]
 generalize N / 2 ^ m = A
 unfold ordL
 omega
theorem rest_lt (A : Nat) : A % ordL < ordL := Nat.mod_lt _ (by decide)
theorem rest_sub {s : Nat} (h : s < 2 * ordL) : s % ordL = if s < ordL then s else subW s ordL := by
 unfold subW ordL at *
 simp only [Nat.reducePow] at *
 split <;> omega
end Go.Proofs.Num

namespace Go.Proofs.Num
open Go
theorem add_chain (x y : Nat) (hx : x < 2 ^ 256) (hy : y < 2 ^ 256) :
  let c0 := ac (limb x 0) (limb y 0) 0
  let c1 := ac (limb x 1) (limb y 1) c0
  let c2 := ac (limb x 2) (limb y 2) c1
  (Value.agg #[.int .u64 (ad (limb x 0) (limb y 0) 0), .int .u64 (ad (limb x 1) (limb y 1) c0), .int .u64 (ad (limb x 2) (limb y 2) c1), .int .u64 (ad (limb x 3) (limb y 3) c2)]) = fe ((x + y) % 2 ^ 256) ∧ ac (limb x 3) (limb y 3) c2 = (((x + y) / 2 ^ 256 : Nat) : Int) := by
 intro c0 c1 c2
 have a := limbs_sum x hx
 have b := limbs_sum y hy
 have w0 := ad_wd (limb x 0) (limb y 0) 0
 have w1 := ad_wd (limb x 1) (limb y 1) c0
 have w2 := ad_wd (limb x 2) (limb y 2) c1
 have w3 := ad_wd (limb x 3) (limb y 3) c2
 have e : ∀ p q r : Int, p + q + r = ad p q r + 18446744073709551616 * ac p q r := by intro p q r; unfold ad ac; omega
 have h0 := e (limb x 0) (limb y 0) 0
 have h1 := e (limb x 1) (limb y 1) c0
 have h2 := e (limb x 2) (limb y 2) c1
 have h3 := e (limb x 3) (limb y 3) c2
 have g0 : ac (limb x 0) (limb y 0) 0 = c0 := rfl
 have g1 : ac (limb x 1) (limb y 1) c0 = c1 := rfl
 have g2 : ac (limb x 2) (limb y 2) c1 = c2 := rfl
 rw [g0] at h0; rw [g1] at h1; rw [g2] at h2
 have hk : (x : Int) + y = ad (limb x 0) (limb y 0) 0 + 2 ^ 64 * ad (limb x 1) (limb y 1) c0 + 2 ^ 128 * ad (limb x 2) (limb y 2) c1 + 2 ^ 192 * ad (limb x 3) (limb y 3) c2 + 2 ^ 256 * ac (limb x 3) (limb y 3) c2 := by
  simp only [Int.reducePow] at *
  generalize ac (limb x 3) (limb y 3) c2 = c3 at *
  clear_value c0 c1 c2
  omega
 generalize ad (limb x 0) (limb y 0) 0 = d0 at *
 generalize ad (limb x 1) (limb y 1) c0 = d1 at *
 generalize ad (limb x 2) (limb y 2) c1 = d2 at *
 generalize ad (limb x 3) (limb y 3) c2 = d3 at *
 generalize ac (limb x 3) (limb y 3) c2 = c3 at *
 clear h0 h1 h2 h3 g0 g1 g2 e a b
 clear_value c0 c1 c2
 constructor
 ·
  refine fe_of w0 w1 w2 w3 ?_
  unfold Wd at *
  simp only [Nat.reducePow, Int.reducePow] at *
  omega
 ·
  unfold Wd at *
  simp only [Nat.reducePow, Int.reducePow] at *
  omega
/-- p. -/
def pF : Nat := 57896044618658097711785492504343953926634992332820282019728792003956564819949
def addW (x y : Nat) : Nat := (x + y) % 2 ^ 256
def addC (x y : Nat) : Nat := (x + y) / 2 ^ 256
theorem addW_lt (x y : Nat) : addW x y < 2 ^ 256 := Nat.mod_lt _ (by decide)
theorem subW_lt (x y : Nat) : subW x y < 2 ^ 256 := Nat.mod_lt _ (by decide)
theorem addC_le {x y : Nat} (hx : x < 2 ^ 256) (hy : y < 2 ^ 256) : addC x y ≤ 1 := by unfold addC; simp only [Nat.reducePow] at *; omega
def leastF (x : Nat) : Nat := x % pF
def foldF (x a : Nat) : Nat := (x + 2 ^ 256 * a) % pF
def fadd (x y : Nat) : Nat := (x + y) % pF
def fsub (x y : Nat) : Nat := (x + (pF - y % pF)) % pF
def fmul (x y : Nat) : Nat := (x * y) % pF
theorem pF_lt : pF < 2 ^ 256 := by decide
theorem mod_pF_lt (x : Nat) : x % pF < 2 ^ 256 := Nat.lt_trans (Nat.mod_lt _ (by decide)) pF_lt
theorem leastF_lt (x : Nat) : leastF x < 2 ^ 256 := mod_pF_lt _
theorem fadd_lt (x y : Nat) : fadd x y < 2 ^ 256 := mod_pF_lt _
theorem fsub_lt (x y : Nat) : fsub x y < 2 ^ 256 := mod_pF_lt _
theorem fmul_lt (x y : Nat) : fmul x y < 2 ^ 256 := mod_pF_lt _
theorem fadd_eq {x y : Nat} : foldF (addW x y) (addC x y) = fadd x y := by
 unfold foldF addW addC fadd
 rw [Nat.mod_add_div]
theorem fsub_eq {x y : Nat} : fadd x (subW pF (leastF y)) = fsub x y := by
 unfold fadd fsub subW leastF
 have : y % pF < pF := Nat.mod_lt _ (by decide)
 congr 2
 unfold pF at *
 simp only [Nat.reducePow] at *
 omega
theorem subB_t {x y : Nat} (h : (subB x y == 0) = true) : y ≤ x := by
 unfold subB at h
 split at h
 ·
  simp at h
 ·
  omega
theorem subB_f {x y : Nat} (h : (subB x y == 0) = false) : x < y := by
 unfold subB at h
 split at h
 ·
  assumption
 ·
  simp at h
theorem least0 {x : Nat} (h : x < pF) : leastF x = x := Nat.mod_eq_of_lt h
theorem least1 {x : Nat} (hx : x < 2 ^ 256) (h : pF ≤ x) : leastF x = leastF (subW x pF) := by
 unfold leastF subW pF at *
 simp only [Nat.reducePow] at *
 omega
theorem least2 {x : Nat} (hx : x < 2 ^ 256) (h : pF ≤ x) (h2 : pF ≤ subW x pF) : leastF x = subW (subW x pF) pF := by
 unfold leastF subW pF at *
 simp only [Nat.reducePow] at *
 omega
/-- The first n words of a number. -/
def wl (n x : Nat) : List Value := (List.range n).map fun i => .int .u64 (limb x i)
theorem wl_get (n x : Nat) {j : Nat} (h : j < n) : (wl n x)[j]? = some (.int .u64 (limb x j)) := by simp [wl, h]
theorem wl_len (n x : Nat) : (wl n x).length = n := by simp [wl]
theorem fel_get (x : Nat) {j : Nat} (h : j < 4) : (fel x)[j]? = some (.int .u64 (limb x j)) := wl_get 4 x h
theorem wl_fel (x : Nat) : wl 4 x = fel x := rfl
theorem wl_zero (n : Nat) : wl n 0 = List.replicate n (.int .u64 0) := by
 apply List.ext_getElem?
 intro i
 simp only [wl, List.getElem?_map, List.getElem?_replicate]
 by_cases h : i < n
 ·
  simp [h, limb]
 ·
  simp [h]
theorem wl_ext {n : Nat} {l : List Value} {y : Nat} (hl : l.length = n) (h : ∀ i, i < n → l[i]? = some (.int .u64 (limb y i))) : l = wl n y := by
 apply List.ext_getElem?
 intro i
 by_cases hi : i < n
 ·
  rw [h i hi, wl_get n y hi]
 ·
  rw [List.getElem?_eq_none (by omega), List.getElem?_eq_none (by rw [wl_len]; omega)]
/-- A word of a number, as a natural one. -/
def limbN (x i : Nat) : Nat := x / 2 ^ (64 * i) % 18446744073709551616
theorem limb_eq (x i : Nat) : limb x i = (limbN x i : Nat) := rfl
/-- Another word put in its place. -/
theorem wl_set {n x y j : Nat} {v : Nat} (h : y + limbN x j * 2 ^ (64 * j) = x + v * 2 ^ (64 * j)) (hv : v < 18446744073709551616) : (wl n x).set j (.int .u64 (v : Nat)) = wl n y := by
 have hB : (18446744073709551616 : Nat) = 2 ^ 64 := by decide
 -- the words of y
 have e1 : ∀ i, i < j → limbN y i = limbN x i := by
  intro i hi
  unfold limbN
  have hd : 64 * j = 64 * i + 64 + 64 * (j - i - 1) := by omega
  have hp : 2 ^ (64 * j) = 2 ^ (64 * i) * (18446744073709551616 * 2 ^ (64 * (j - i - 1))) := by rw [hB, ← Nat.pow_add, ← Nat.pow_add, ← Nat.add_assoc, ← hd]
  have hpos : 0 < 2 ^ (64 * i) := Nat.two_pow_pos _
  have hx : (x + v * 2 ^ (64 * j)) / 2 ^ (64 * i) = x / 2 ^ (64 * i) + v * (18446744073709551616 * 2 ^ (64 * (j - i - 1))) := by
   rw [hp, Nat.mul_left_comm, Nat.add_mul_div_left _ _ hpos]
  have hy : (y + limbN x j * 2 ^ (64 * j)) / 2 ^ (64 * i) = y / 2 ^ (64 * i) + limbN x j * (18446744073709551616 * 2 ^ (64 * (j - i - 1))) := by
   rw [hp, Nat.mul_left_comm, Nat.add_mul_div_left _ _ hpos]
  rw [h] at hy
  have : y / 2 ^ (64 * i) + limbN x j * (18446744073709551616 * 2 ^ (64 * (j - i - 1))) = x / 2 ^ (64 * i) + v * (18446744073709551616 * 2 ^ (64 * (j - i - 1))) := by rw [← hy, hx]
  have a1 : ∀ z w : Nat, (z + w * (18446744073709551616 * 2 ^ (64 * (j - i - 1)))) % 18446744073709551616 = z % 18446744073709551616 := by
   intro z w
   rw [Nat.mul_left_comm, Nat.add_mul_mod_self_left]
  rw [← a1 (y / 2 ^ (64 * i)) (limbN x j), this, a1]
 have hj : y / 2 ^ (64 * j) + limbN x j = x / 2 ^ (64 * j) + v := by
  have hpos : 0 < 2 ^ (64 * j) := Nat.two_pow_pos _
  rw [← Nat.add_mul_div_right _ _ hpos, h, Nat.add_mul_div_right _ _ hpos]
 have e2 : limbN y j = v := by
  have : x / 2 ^ (64 * j) = limbN x j + 18446744073709551616 * (x / 2 ^ (64 * j) / 18446744073709551616) := by unfold limbN; omega
  unfold limbN at *
  omega
 have e3 : ∀ i, j < i → limbN y i = limbN x i := by
  intro i hi
  unfold limbN
  have hd : 64 * i = 64 * j + 64 + 64 * (i - j - 1) := by omega
  rw [hd, Nat.pow_add, Nat.pow_add, ← hB, ← Nat.div_div_eq_div_mul, ← Nat.div_div_eq_div_mul, ← Nat.div_div_eq_div_mul, ← Nat.div_div_eq_div_mul]
  have : y / 2 ^ (64 * j) / 18446744073709551616 = x / 2 ^ (64 * j) / 18446744073709551616 := by
   unfold limbN at *
   omega
  rw [this]
 refine wl_ext (by simp [wl_len]) fun i hi => ?_
 rcases Nat.lt_trichotomy i j with h1 | h1 | h1
 ·
  rw [List.getElem?_set_ne (by omega), wl_get n x hi, limb_eq, limb_eq, e1 i h1]
 ·
  subst h1
  rw [List.getElem?_set_self (by rw [wl_len]; exact hi), limb_eq, e2]
 ·
  rw [List.getElem?_set_ne (by omega), wl_get n x hi, limb_eq, limb_eq, e3 i h1]
end Go.Proofs.Num

namespace Go.Proofs.Num
open Go
theorem core_step {M c t p lo c' B E R : Nat} (h1 : t + p + c = lo + B * c') (hA : M + c * E = R) (ht : t * E ≤ M) : (M - t * E + lo * E) + c' * (B * E) = R + p * E := by
 have h2 : (t + p + c) * E = (lo + B * c') * E := by rw [h1]
 rw [Nat.add_mul, Nat.add_mul, Nat.add_mul, show B * c' * E = c' * (B * E) by rw [Nat.mul_comm B c', Nat.mul_assoc]] at h2
 generalize c' * (B * E) = q at *
 generalize t * E = tE at *
 generalize p * E = pE at *
 generalize c * E = cE at *
 generalize lo * E = lE at *
 omega
theorem limbN_lt (x i : Nat) : limbN x i < 18446744073709551616 := Nat.mod_lt _ (by decide)
theorem mod_step (y k : Nat) : y % 2 ^ (64 * (k + 1)) = y % 2 ^ (64 * k) + limbN y k * 2 ^ (64 * k) := by
 unfold limbN
 rw [show 64 * (k + 1) = 64 * k + 64 by omega, Nat.pow_add, Nat.mod_mul]
 rw [Nat.mul_comm (2 ^ (64 * k)) _]
theorem limb_mul_le (M j : Nat) : limbN M j * 2 ^ (64 * j) ≤ M := by
 unfold limbN
 exact Nat.le_trans (Nat.mul_le_mul_right _ (Nat.mod_le _ _)) (Nat.div_mul_le_self _ _)
/-- what the inner loop of a product of numbers does in a round. -/
structure WideInv (x y i k M c : Nat) : Prop where
 sum : M + c * 2 ^ (64 * (i + k)) = (x % 2 ^ (64 * i)) * y + limbN x i * 2 ^ (64 * i) * (y % 2 ^ (64 * k))
 word : c < 18446744073709551616
 top : M < 2 ^ (64 * (i + 4))
def wideLo (x y i k M c : Nat) : Nat := ((limbN x i * limbN y k % 18446744073709551616 + limbN M (i + k)) % 18446744073709551616 + c) % 18446744073709551616
def wideC (x y i k M c : Nat) : Nat := limbN x i * limbN y k / 18446744073709551616 + (limbN x i * limbN y k % 18446744073709551616 + limbN M (i + k)) / 18446744073709551616 + ((limbN x i * limbN y k % 18446744073709551616 + limbN M (i + k)) % 18446744073709551616 + c) / 18446744073709551616
def wideM (x y i k M c : Nat) : Nat := M - limbN M (i + k) * 2 ^ (64 * (i + k)) + wideLo x y i k M c * 2 ^ (64 * (i + k))
theorem wideM_eq (x y i k M c : Nat) : wideM x y i k M c + limbN M (i + k) * 2 ^ (64 * (i + k)) = M + wideLo x y i k M c * 2 ^ (64 * (i + k)) := by
 have := limb_mul_le M (i + k)
 unfold wideM
 omega
theorem wideLo_lt (x y i k M c : Nat) : wideLo x y i k M c < 18446744073709551616 := Nat.mod_lt _ (by decide)
theorem mul_bound {a b : Nat} (ha : a < 18446744073709551616) (hb : b < 18446744073709551616) : a * b ≤ 340282366920938463426481119284349108225 :=
 Nat.le_trans (Nat.mul_le_mul (Nat.le_of_lt_succ ha) (Nat.le_of_lt_succ hb)) (by decide)
theorem wide_parts {x y i k M c : Nat} (h : WideInv x y i k M c) :
  limbN M (i + k) + limbN x i * limbN y k + c = wideLo x y i k M c + 18446744073709551616 * wideC x y i k M c ∧ wideC x y i k M c < 18446744073709551616 := by
 have hp := mul_bound (limbN_lt x i) (limbN_lt y k)
 have ht := limbN_lt M (i + k)
 have hc := h.word
 unfold wideLo wideC
 generalize limbN x i * limbN y k = p at *
 generalize limbN M (i + k) = t at *
 omega
theorem wide_step {x y i k M c : Nat} (hk : k < 4) (h : WideInv x y i k M c) : WideInv x y i (k + 1) (wideM x y i k M c) (wideC x y i k M c) := by
 obtain ⟨h1, h2⟩ := wide_parts h
 have hle := limb_mul_le M (i + k)
 refine ⟨?_, h2, ?_⟩
 ·
  have e := core_step h1 h.sum hle
  have e2 : 2 ^ (64 * (i + (k + 1))) = 18446744073709551616 * 2 ^ (64 * (i + k)) := by
   have e4 : (18446744073709551616 : Nat) = 2 ^ 64 := by decide
   rw [show 64 * (i + (k + 1)) = 64 + 64 * (i + k) by omega, Nat.pow_add, e4]
  rw [e2]
  unfold wideM
  rw [e, mod_step y k]
  have e3 : 2 ^ (64 * (i + k)) = 2 ^ (64 * i) * 2 ^ (64 * k) := by rw [show 64 * (i + k) = 64 * i + 64 * k by omega, Nat.pow_add]
  rw [e3]
  generalize 2 ^ (64 * i) = A
  generalize 2 ^ (64 * k) = D
  generalize limbN x i = a
  generalize limbN y k = b
  rw [Nat.mul_add, ← Nat.add_assoc, Nat.mul_mul_mul_comm]
 ·
  have hE : 0 < 2 ^ (64 * (i + k)) := Nat.two_pow_pos _
  have e2 : 2 ^ (64 * (i + 4)) = 2 ^ (64 * (3 - k)) * (18446744073709551616 * 2 ^ (64 * (i + k))) := by
   have e4 : (18446744073709551616 : Nat) = 2 ^ 64 := by decide
   rw [show 64 * (i + 4) = 64 * (3 - k) + (64 + 64 * (i + k)) by omega, Nat.pow_add, Nat.pow_add, e4]
  have ht := h.top
  have hlo := wideLo_lt x y i k M c
  unfold wideM
  rw [e2] at ht ⊢
  generalize wideLo x y i k M c = lo at *
  -- M = q * (B E) + t E + r
  have hM : M = (M / 2 ^ (64 * (i + k)) / 18446744073709551616) * (18446744073709551616 * 2 ^ (64 * (i + k))) + limbN M (i + k) * 2 ^ (64 * (i + k)) + M % 2 ^ (64 * (i + k)) := by
   have a1 := Nat.div_add_mod M (2 ^ (64 * (i + k)))
   have a2 := Nat.div_add_mod (M / 2 ^ (64 * (i + k))) 18446744073709551616
   unfold limbN
   rw [← Nat.mul_assoc, ← Nat.add_mul, Nat.mul_comm _ 18446744073709551616, a2, Nat.mul_comm, a1]
  have hr := Nat.mod_lt M hE
  have hq : M / 2 ^ (64 * (i + k)) / 18446744073709551616 < 2 ^ (64 * (3 - k)) := by
   rw [Nat.div_div_eq_div_mul, Nat.mul_comm (2 ^ (64 * (i + k)))]
   exact Nat.div_lt_of_lt_mul (by rw [Nat.mul_comm]; exact ht)
  generalize M / 2 ^ (64 * (i + k)) / 18446744073709551616 = q at *
  generalize limbN M (i + k) * 2 ^ (64 * (i + k)) = tE at *
  generalize M % 2 ^ (64 * (i + k)) = r at *
  have h5 : lo * 2 ^ (64 * (i + k)) + 2 ^ (64 * (i + k)) ≤ 18446744073709551616 * 2 ^ (64 * (i + k)) := by
   rw [← Nat.succ_mul]; exact Nat.mul_le_mul_right _ hlo
  have h6 : q * (18446744073709551616 * 2 ^ (64 * (i + k))) + 18446744073709551616 * 2 ^ (64 * (i + k)) ≤ 2 ^ (64 * (3 - k)) * (18446744073709551616 * 2 ^ (64 * (i + k))) := by
   rw [← Nat.succ_mul]; exact Nat.mul_le_mul_right _ hq
  generalize 2 ^ (64 * (3 - k)) * (18446744073709551616 * 2 ^ (64 * (i + k))) = top at *
  generalize q * (18446744073709551616 * 2 ^ (64 * (i + k))) = qq at *
  generalize lo * 2 ^ (64 * (i + k)) = ll at *
  omega
theorem wide_start {x y i M : Nat} (h : M = (x % 2 ^ (64 * i)) * y) (hy : y < 2 ^ 256) : WideInv x y i 0 M 0 := by
 refine ⟨by simp [h, Nat.mod_one], by decide, ?_⟩
 rw [h, show 64 * (i + 4) = 64 * i + 256 by omega, Nat.pow_add]
 exact Nat.mul_lt_mul'' (Nat.mod_lt _ (Nat.two_pow_pos _)) hy
def wideN (M i c : Nat) : Nat := M + c * 2 ^ (64 * (i + 4))
theorem wide_end {x y i M c : Nat} (hy : y < 2 ^ 256) (h : WideInv x y i 4 M c) : wideN M i c = (x % 2 ^ (64 * (i + 1))) * y ∧ limbN M (i + 4) = 0 := by
 have h1 := h.sum
 have h2 := h.top
 constructor
 ·
  unfold wideN
  rw [h1, Nat.mod_eq_of_lt (a := y) (by simpa using hy), mod_step, Nat.add_mul]
 ·
  unfold limbN
  rw [Nat.div_eq_of_lt h2]
theorem fel_lo (N : Nat) : fel (N % 2 ^ 256) = [.int .u64 (limb N 0), .int .u64 (limb N 1), .int .u64 (limb N 2), .int .u64 (limb N 3)] := by
 unfold fel limb
 simp only [Nat.reduceMul, Nat.reducePow]
 congr 1
 ·
  congr 2; omega
 congr 1
 ·
  congr 2; omega
 congr 1
 ·
  congr 2; omega
 congr 1
 ·
  congr 2; omega
theorem wideN_eq {x y i M c : Nat} (hy : y < 2 ^ 256) (h : WideInv x y i 4 M c) : wideN M i c + limbN M (i + 4) * 2 ^ (64 * (i + 4)) = M + c * 2 ^ (64 * (i + 4)) := by
 rw [(wide_end hy h).2, Nat.zero_mul, Nat.add_zero]
 unfold wideN
 rfl
theorem limb_hi (N j : Nat) : limb (N / 2 ^ 256) j = limb N (4 + j) := by
 unfold limb
 rw [Nat.div_div_eq_div_mul, ← Nat.pow_add, show 256 + 64 * j = 64 * (4 + j) by omega]
theorem fel_hi (N : Nat) : fel (N / 2 ^ 256) = [.int .u64 (limb N 4), .int .u64 (limb N 5), .int .u64 (limb N 6), .int .u64 (limb N 7)] := by
 unfold fel
 rw [limb_hi, limb_hi, limb_hi, limb_hi]
def mulLo (x y : Nat) : Nat := x * y % 2 ^ 256
def mulHi (x y : Nat) : Nat := x * y / 2 ^ 256
theorem mulLo_lt (x y : Nat) : mulLo x y < 2 ^ 256 := Nat.mod_lt _ (by decide)
theorem mulHi_lt {x y : Nat} (hx : x < 2 ^ 256) (hy : y < 2 ^ 256) : mulHi x y < 2 ^ 256 := Nat.div_lt_of_lt_mul (Nat.mul_lt_mul'' hx hy)
end Go.Proofs.Num

namespace Go.Proofs.Num
open Go
/-- Folding: what stands above 2^256 counts 38 times. -/
def foldM (x a : Nat) : Nat := if a = 0 then 0 else if a = 1 ∧ x < 2 ^ 128 then 1 else 2
theorem foldF_step {x a : Nat} (hx : x < 2 ^ 256) (ha : a < 2 ^ 64) : foldF (addW x (a * 38)) (addC x (a * 38)) = foldF x a := by
 unfold foldF addW addC
 rw [Nat.mod_add_div]
 have h : 2 ^ 256 * a = (pF * 2) * a + a * 38 := by
  rw [Nat.mul_comm a 38, ← Nat.add_mul]
  congr 1
 rw [h]
 rw [show x + (pF * 2 * a + a * 38) = x + a * 38 + pF * (2 * a) by rw [Nat.mul_assoc]; omega, Nat.add_mul_mod_self_left]
theorem foldM_step {x a : Nat} (hx : x < 2 ^ 256) (ha : a < 2 ^ 64) (h0 : a ≠ 0) : foldM (addW x (a * 38)) (addC x (a * 38)) < foldM x a := by
 unfold foldM addW addC
 simp only [Nat.reducePow] at *
 repeat' split
 all_goals omega
theorem foldF_zero (x : Nat) : foldF x 0 = leastF x := by unfold foldF leastF; rw [Nat.mul_zero, Nat.add_zero]
theorem addC_lt {x a : Nat} (hx : x < 2 ^ 256) (ha : a < 2 ^ 64) : addC x (a * 38) < 2 ^ 64 := by
 unfold addC
 simp only [Nat.reducePow] at *
 omega
theorem mul38_lt {a : Nat} (ha : a < 2 ^ 64) : a * 38 < 2 ^ 256 := by
 simp only [Nat.reducePow] at *
 omega
theorem fel_38 {a : Nat} (ha : a < 2 ^ 64) : fel (a * 38) = [.int .u64 ((a * 38 % 18446744073709551616 : Nat) : Int), .int .u64 ((a * 38 / 18446744073709551616 : Nat) : Int), .int .u64 0, .int .u64 0] := by
 unfold fel limb
 simp only [Nat.reduceMul, Nat.reducePow] at *
 congr 1
 ·
  congr 2; omega
 congr 1
 ·
  congr 2; omega
 congr 1
 ·
  rw [Nat.div_eq_of_lt (by omega)]; rfl
 congr 1
 ·
  rw [Nat.div_eq_of_lt (by omega)]; rfl
/-- One bit of a number, as the program asks for it. -/
theorem bitN_of (N m : Nat) : bits .and .u64 ((limbN N (m / 64) / 2 ^ (m % 64) : Nat) : Int) 1 = ((N / 2 ^ m % 2 : Nat) : Int) := by
 have := bit_of N m
 unfold bitN at this
 rw [← this, limb_eq, Int.natCast_ediv, Int.natCast_pow]
 rfl
theorem fel_of {n : Nat} (hn : n < 18446744073709551616) : fel n = [.int .u64 (n : Nat), .int .u64 0, .int .u64 0, .int .u64 0] := by
 unfold fel limb
 simp only [Nat.reduceMul, Nat.reducePow]
 congr 1
 ·
  congr 2; omega
 congr 1
 ·
  rw [Nat.div_eq_of_lt (by omega)]; rfl
 congr 1
 ·
  rw [Nat.div_eq_of_lt (by omega)]; rfl
 congr 1
 ·
  rw [Nat.div_eq_of_lt (by omega)]; rfl
/-- Powers. -/
def fpow (x n : Nat) : Nat := x ^ n % pF
theorem fpow_lt (x n : Nat) : fpow x n < 2 ^ 256 := mod_pF_lt _
theorem fpow_zero (x : Nat) : fpow x 0 = 1 := by unfold fpow; rw [Nat.pow_zero]; decide
theorem fpow_mul (x n m : Nat) : fmul (fpow x n) (fpow x m) = fpow x (n + m) := by
 unfold fmul fpow
 rw [← Nat.mul_mod, ← Nat.pow_add]
theorem fpow_succ (x n : Nat) : fmul (fpow x n) x = fpow x (n + 1) := by
 unfold fmul fpow
 rw [Nat.mod_mul_mod, Nat.pow_succ]
theorem fpow_step (x n k : Nat) (hk : k < 256) : (n / 2 ^ (255 - k) % 2 = 1 → fmul (fmul (fpow x (n / 2 ^ (256 - k))) (fpow x (n / 2 ^ (256 - k)))) x = fpow x (n / 2 ^ (256 - (k + 1)))) ∧
  (n / 2 ^ (255 - k) % 2 ≠ 1 → fmul (fpow x (n / 2 ^ (256 - k))) (fpow x (n / 2 ^ (256 - k))) = fpow x (n / 2 ^ (256 - (k + 1)))) := by
 have e : n / 2 ^ (256 - k) = n / 2 ^ (255 - k) / 2 := by
  rw [show 256 - k = (255 - k) + 1 by omega, Nat.pow_succ, ← Nat.div_div_eq_div_mul]
 rw [show 256 - (k + 1) = 255 - k by omega, e]
 generalize n / 2 ^ (255 - k) = m
 constructor
 ·
  intro h
  rw [fpow_mul, fpow_succ]
  congr 1
  omega
 ·
  intro h
  rw [fpow_mul]
  congr 1
  omega
def finv (x : Nat) : Nat := fpow x (pF - 2)
theorem finv_lt (x : Nat) : finv x < 2 ^ 256 := fpow_lt _ _
theorem inv_exp : subW pF 2 = pF - 2 := by decide
/-- (p + 3) / 8 and (p - 1) / 4. -/
def eighthE : Nat := 7237005577332262213973186563042994240829374041602535252466099000494570602494
def fourthE : Nat := 14474011154664524427946373126085988481658748083205070504932198000989141204987
/-- The root that the program finds. -/
def root1 (x : Nat) : Nat := fpow (leastF x) eighthE
def root2 (x : Nat) : Nat := if fmul (root1 x) (root1 x) = leastF x then root1 x else fmul (root1 x) (fpow 2 fourthE)
def fsqrt (x : Nat) : Nat × Bool := if fmul (root2 x) (root2 x) = leastF x then (if root2 x % 2 = 1 then fsub 0 (root2 x) else root2 x, true) else (0, false)
end Go.Proofs.Num

namespace Go.Proofs.Num
open Go
def restS (N : Nat) : Nat := N % ordL
theorem ordL_lt : ordL < 2 ^ 256 := by decide
theorem restS_lt (N : Nat) : restS N < 2 ^ 256 := Nat.lt_trans (Nat.mod_lt _ (by decide)) ordL_lt
def sadd (x y : Nat) : Nat := (x + y) % ordL
def smul (x y : Nat) : Nat := x * y % ordL
theorem sadd_lt (x y : Nat) : sadd x y < 2 ^ 256 := restS_lt _
theorem smul_lt (x y : Nat) : smul x y < 2 ^ 256 := restS_lt _
/-- One round of the division, bit by bit. -/
def restR (N j : Nat) : Nat := 2 * (N / 2 ^ (j + 1) % ordL) + N / 2 ^ j % 2
theorem restR_lt (N j : Nat) : restR N j < 2 * ordL := by
 have := rest_lt (N / 2 ^ (j + 1)); unfold restR; omega
theorem restR_256 (N j : Nat) : restR N j < 2 ^ 256 := Nat.lt_trans (restR_lt N j) (by decide)
theorem restR_t {N j : Nat} (h : (subB (restR N j) ordL == 0) = true) : subW (restR N j) ordL = N / 2 ^ j % ordL := by
 have h1 := subB_t h
 rw [rest_step N j]
 have := rest_sub (restR_lt N j)
 rw [if_neg (by omega)] at this
 exact this.symm
theorem restR_f {N j : Nat} (h : (subB (restR N j) ordL == 0) = false) : restR N j = N / 2 ^ j % ordL := by
 have h1 := subB_f h
 rw [rest_step N j]
 have := rest_sub (restR_lt N j)
 rw [if_pos (by omega)] at this
 exact this.symm
theorem restR_chain (N j : Nat) :
  ([.int .u64 (shb (limb (N / 2 ^ (j + 1) % ordL) 0) ((N / 2 ^ j % 2 : Nat) : Int)), .int .u64 (shb (limb (N / 2 ^ (j + 1) % ordL) 1) (top (limb (N / 2 ^ (j + 1) % ordL) 0))), .int .u64 (shb (limb (N / 2 ^ (j + 1) % ordL) 2) (top (limb (N / 2 ^ (j + 1) % ordL) 1))), .int .u64 (shb (limb (N / 2 ^ (j + 1) % ordL) 3) (top (limb (N / 2 ^ (j + 1) % ordL) 2)))] : List Value) = fel (restR N j) := by
 have h1 := rest_lt (N / 2 ^ (j + 1))
 generalize hr : N / 2 ^ (j + 1) % ordL = r at *
 have hs := shift_chain r (bitN N j) (by unfold ordL at h1; omega) (bitN_01 N j)
 have hb : (bitN N j).toNat = N / 2 ^ j % 2 := by unfold bitN; omega
 rw [hb] at hs
 have hR : restR N j = 2 * r + N / 2 ^ j % 2 := by unfold restR; rw [hr]
 rw [hR]
 have : fe (2 * r + N / 2 ^ j % 2) = .agg #[.int .u64 (shb (limb r 0) (bitN N j)), .int .u64 (shb (limb r 1) (top (limb r 0))), .int .u64 (shb (limb r 2) (top (limb r 1))), .int .u64 (shb (limb r 3) (top (limb r 2)))] := hs.symm
 unfold fe at this
 injection this with h2
 have h3 := congrArg Array.toList h2
 simp only [List.toList_toArray] at h3
 rw [h3]; rfl
/-- The sum of words, in five. -/
structure SumInv (x y i M : Nat) : Prop where
 sum : M = x % 2 ^ (64 * i) + y % 2 ^ (64 * i)
def sumT (x y i M : Nat) : Nat := ((limbN x i + limbN y i) % 18446744073709551616 + limbN M i) % 18446744073709551616
def sumC (x y i M : Nat) : Nat := (limbN x i + limbN y i) / 18446744073709551616 + ((limbN x i + limbN y i) % 18446744073709551616 + limbN M i) / 18446744073709551616
def sumM (x y i M : Nat) : Nat := M - limbN M i * 2 ^ (64 * i) + sumT x y i M * 2 ^ (64 * i)
def sumN (x y i M : Nat) : Nat := sumM x y i M + sumC x y i M * 2 ^ (64 * (i + 1))
theorem sumM_eq (x y i M : Nat) : sumM x y i M + limbN M i * 2 ^ (64 * i) = M + sumT x y i M * 2 ^ (64 * i) := by
 have := limb_mul_le M i
 unfold sumM; omega
theorem sumT_lt (x y i M : Nat) : sumT x y i M < 18446744073709551616 := Nat.mod_lt _ (by decide)
theorem sum_limb {x y i M : Nat} (h : SumInv x y i M) : limbN M i ≤ 1 ∧ M < 2 ^ (64 * i) * 2 := by
 have hx := Nat.mod_lt x (Nat.two_pow_pos (64 * i))
 have hy := Nat.mod_lt y (Nat.two_pow_pos (64 * i))
 have hM : M < 2 ^ (64 * i) * 2 := by rw [h.sum]; omega
 refine ⟨?_, hM⟩
 unfold limbN
 have : M / 2 ^ (64 * i) < 2 := Nat.div_lt_of_lt_mul hM
 generalize M / 2 ^ (64 * i) = q at *
 omega
theorem sumC_lt (x y i M : Nat) : sumC x y i M < 18446744073709551616 := by
 have h1 := limbN_lt x i
 have h2 := limbN_lt y i
 have h3 := limbN_lt M i
 unfold sumC; omega
theorem pow64_succ (i : Nat) : 2 ^ (64 * (i + 1)) = 18446744073709551616 * 2 ^ (64 * i) := by
 have e4 : (18446744073709551616 : Nat) = 2 ^ 64 := by decide
 rw [show 64 * (i + 1) = 64 + 64 * i by omega, Nat.pow_add, e4]
theorem sum_parts (x y i M : Nat) : limbN x i + limbN y i + limbN M i = sumT x y i M + 18446744073709551616 * sumC x y i M := by
 unfold sumT sumC; omega
theorem sum_step {x y i M : Nat} (h : SumInv x y i M) : SumInv x y (i + 1) (sumN x y i M) := by
 obtain ⟨hl, hM⟩ := sum_limb h
 have hp := sum_parts x y i M
 refine ⟨?_⟩
 have e := sumM_eq x y i M
 have hx := mod_step x i
 have hy := mod_step y i
 have hs := h.sum
 unfold sumN
 rw [hx, hy, pow64_succ]
 generalize 2 ^ (64 * i) = E at *
 generalize sumT x y i M = t at *
 generalize sumC x y i M = c at *
 generalize limbN x i = a at *
 generalize limbN y i = b at *
 generalize limbN M i = m at *
 have hmul : (a + b + m) * E = (t + 18446744073709551616 * c) * E := by rw [hp]
 have e1 : (t + 18446744073709551616 * c) * E = t * E + c * (18446744073709551616 * E) := by grind
 have e2 : (a + b + m) * E = a * E + b * E + m * E := by grind
 omega
theorem sum_gap {x y i M : Nat} (h : SumInv x y i M) : limbN (sumM x y i M) (i + 1) = 0 := by
 obtain ⟨hl, hM⟩ := sum_limb h
 have e := sumM_eq x y i M
 have ht := sumT_lt x y i M
 have hle := limb_mul_le M i
 have hm : M - limbN M i * 2 ^ (64 * i) < 2 ^ (64 * i) := by
  have hd := Nat.div_add_mod M (2 ^ (64 * i))
  have hq : limbN M i = M / 2 ^ (64 * i) := by
   unfold limbN
   have : M / 2 ^ (64 * i) < 2 := Nat.div_lt_of_lt_mul hM
   generalize M / 2 ^ (64 * i) = q at *
   omega
  rw [hq]
  have := Nat.mod_lt M (Nat.two_pow_pos (64 * i))
  have e3 : M / 2 ^ (64 * i) * 2 ^ (64 * i) = 2 ^ (64 * i) * (M / 2 ^ (64 * i)) := Nat.mul_comm _ _
  omega
 have hlt : sumM x y i M < 2 ^ (64 * (i + 1)) := by
  rw [pow64_succ]
  unfold sumM
  have : sumT x y i M * 2 ^ (64 * i) ≤ 18446744073709551615 * 2 ^ (64 * i) := Nat.mul_le_mul_right _ (by omega)
  generalize 2 ^ (64 * i) = E at *
  omega
 unfold limbN
 rw [Nat.div_eq_of_lt hlt]
theorem sumN_eq {x y i M : Nat} (h : SumInv x y i M) : sumN x y i M + limbN (sumM x y i M) (i + 1) * 2 ^ (64 * (i + 1)) = sumM x y i M + sumC x y i M * 2 ^ (64 * (i + 1)) := by
 rw [sum_gap h]; unfold sumN; omega
theorem sum_start (x y : Nat) : SumInv x y 0 0 := ⟨by simp [Nat.mod_one]⟩
theorem sum_end {x y M : Nat} (hx : x < 2 ^ 256) (hy : y < 2 ^ 256) (h : SumInv x y 4 M) : M = x + y := by
 rw [h.sum, Nat.mod_eq_of_lt (by simpa using hx), Nat.mod_eq_of_lt (by simpa using hy)]
/-- Bytes as a number, the lowest first. -/
def leN : List UInt8 → Nat
 | [] => 0
 | b :: l => b.toNat + 256 * leN l
theorem leN_append (l m : List UInt8) : leN (l ++ m) = leN l + 256 ^ l.length * leN m := by
 induction l with
 | nil => simp [leN]
 | cons b l ih => simp only [List.cons_append, leN, ih, List.length_cons, Nat.pow_succ]; grind
theorem leN_lt (l : List UInt8) : leN l < 256 ^ l.length := by
 induction l with
 | nil => simp [leN]
 | cons b l ih =>
  have := b.toNat_lt
  simp only [leN, List.length_cons, Nat.pow_succ]; omega
/-- The first so many bytes' number. -/
theorem leN_take (l : List UInt8) {i : Nat} (hi : i < l.length) : leN (l.take (i + 1)) = leN (l.take i) + l[i].toNat * 256 ^ i := by
 rw [List.take_add_one, leN_append, List.getElem?_eq_getElem hi, List.length_take, Nat.min_eq_left (by omega)]
 simp [leN, Nat.mul_comm]
theorem leN_take_lt (l : List UInt8) (i : Nat) : leN (l.take i) < 256 ^ i :=
 Nat.lt_of_lt_of_le (leN_lt _) (Nat.pow_le_pow_right (by decide) (by rw [List.length_take]; omega))
/-- A number's bytes. -/
def bytesN (n x : Nat) : List UInt8 := (List.range n).map fun i => UInt8.ofNat (x / 256 ^ i)
theorem bytesN_len (n x : Nat) : (bytesN n x).length = n := by simp [bytesN]
/-- A byte of a word. -/
theorem byte_of (N i : Nat) : limbN N (i / 8) / 2 ^ (8 * (i % 8)) % 256 = N / 256 ^ i % 256 := by
 unfold limbN
 have h8 : i % 8 < 8 := Nat.mod_lt _ (by decide)
 have e256 : (256 : Nat) = 2 ^ 8 := by decide
 have hi : 256 ^ i = 2 ^ (64 * (i / 8)) * 2 ^ (8 * (i % 8)) := by rw [e256, ← Nat.pow_mul, ← Nat.pow_add]; congr 1; omega
 rw [hi, ← Nat.div_div_eq_div_mul]
 generalize N / 2 ^ (64 * (i / 8)) = A
 have hd : (18446744073709551616 : Nat) = 2 ^ (8 * (i % 8)) * 2 ^ (64 - 8 * (i % 8)) := by rw [← Nat.pow_add, show 8 * (i % 8) + (64 - 8 * (i % 8)) = 64 from by omega]
 rw [hd, Nat.mod_mul_right_div_self, Nat.mod_mod_of_dvd]
 exact ⟨2 ^ (64 - 8 * (i % 8) - 8), by rw [e256, ← Nat.pow_add, show 8 + (64 - 8 * (i % 8) - 8) = 64 - 8 * (i % 8) from by omega]⟩
/-- A byte put into a word, where nothing stands. -/
theorem put_byte {M i b : Nat} (hM : M < 256 ^ i) (hb : b < 256) :
  limbN M (i / 8) ||| (b * 2 ^ (8 * (i % 8))) = limbN M (i / 8) + b * 2 ^ (8 * (i % 8)) ∧ limbN M (i / 8) + b * 2 ^ (8 * (i % 8)) < 18446744073709551616 ∧
  (M + b * 256 ^ i) + limbN M (i / 8) * 2 ^ (64 * (i / 8)) = M + (limbN M (i / 8) + b * 2 ^ (8 * (i % 8))) * 2 ^ (64 * (i / 8)) := by
 have h8 : i % 8 < 8 := Nat.mod_lt _ (by decide)
 have e256 : (256 : Nat) = 2 ^ 8 := by decide
 have hi : 256 ^ i = 2 ^ (64 * (i / 8)) * 2 ^ (8 * (i % 8)) := by rw [e256, ← Nat.pow_mul, ← Nat.pow_add]; congr 1; omega
 have hlim : limbN M (i / 8) < 2 ^ (8 * (i % 8)) := by
  unfold limbN
  refine Nat.lt_of_le_of_lt (Nat.mod_le _ _) (Nat.div_lt_of_lt_mul ?_)
  rw [← hi]; exact hM
 refine ⟨?_, ?_, ?_⟩
 ·
  have := Nat.shiftLeft_add_eq_or_of_lt hlim b
  rw [Nat.or_comm, ← Nat.shiftLeft_eq, ← this, Nat.add_comm]
 ·
  have h1 : b * 2 ^ (8 * (i % 8)) ≤ 255 * 2 ^ (8 * (i % 8)) := Nat.mul_le_mul_right _ (by omega)
  have h2 : 2 ^ (8 * (i % 8)) ≤ 2 ^ 56 := Nat.pow_le_pow_right (by decide) (by omega)
  have h3 : (2 : Nat) ^ 56 = 72057594037927936 := by decide
  omega
 ·
  rw [hi, Nat.add_mul]
  generalize 2 ^ (64 * (i / 8)) = E
  generalize 2 ^ (8 * (i % 8)) = F
  have : b * (E * F) = b * F * E := by rw [Nat.mul_assoc, Nat.mul_comm F E]
  omega
set_option exponentiation.threshold 600 in
theorem mul_512 {x y : Nat} (hx : x < 2 ^ 256) (hy : y < 2 ^ 256) : x * y < 2 ^ (64 * 8) := by
 have := Nat.mul_lt_mul'' hx hy
 rwa [← Nat.pow_add] at this
set_option exponentiation.threshold 600 in
theorem leN_512 {l : List UInt8} (h : l.length ≤ 64) : leN l < 2 ^ (64 * 8) := by
 refine Nat.lt_of_lt_of_le (leN_lt l) ?_
 rw [show (256 : Nat) = 2 ^ 8 by decide, ← Nat.pow_mul]
 exact Nat.pow_le_pow_right (by decide) (by omega)
theorem wrap_u8N (n : Nat) : IntKind.u8.wrap ((n : Nat) : Int) = ((n % 256 : Nat) : Int) := by simp [IntKind.wrap, IntKind.bits, IntKind.signed]
/-- Cells of bytes. -/
def bcells (l : List UInt8) : List Value := l.map fun b => .int .u8 (b.toNat : Int)
theorem bcells_get (n y j : Nat) : (bcells (bytesN n y))[j]? = if j < n then some (.int .u8 ((y / 256 ^ j % 256 : Nat) : Int)) else none := by
 unfold bcells bytesN
 by_cases hj : j < n
 ·
  simp [hj]
 ·
  simp [hj]
theorem bcells_len (l : List UInt8) : (bcells l).length = l.length := by simp [bcells]
theorem bytesN_set {n x i : Nat} (hi : i < n) : (bcells (bytesN n (x % 256 ^ i))).set i (.int .u8 ((x / 256 ^ i % 256 : Nat) : Int)) = bcells (bytesN n (x % 256 ^ (i + 1))) := by
 apply List.ext_getElem?
 intro j
 rw [List.getElem?_set, bcells_get, bcells_get, bcells_len, bytesN_len]
 by_cases hij : i = j
 ·
  subst hij
  rw [if_pos rfl, if_pos hi, if_pos hi, Nat.pow_succ, Nat.mod_mul_right_div_self, Nat.mod_mod]
 ·
  rw [if_neg hij]
  by_cases hj : j < n
  ·
   rw [if_pos hj, if_pos hj]
   by_cases hlt : j < i
   ·
    obtain ⟨d, hd⟩ : ∃ d, i = j + 1 + d := ⟨i - j - 1, by omega⟩
    have p1 : 256 ^ i = 256 ^ j * (256 * 256 ^ d) := by rw [hd, Nat.pow_add, Nat.pow_succ, Nat.mul_assoc]
    have p2 : 256 ^ (i + 1) = 256 ^ j * (256 * (256 ^ d * 256)) := by rw [Nat.pow_succ, p1]; simp only [Nat.mul_assoc]
    rw [p1, p2, Nat.mod_mul_right_div_self, Nat.mod_mul_right_div_self, Nat.mod_mod_of_dvd _ (Nat.dvd_mul_right _ _), Nat.mod_mod_of_dvd _ (Nat.dvd_mul_right _ _)]
   ·
    have e2 : x % 256 ^ (i + 1) / 256 ^ j = 0 := Nat.div_eq_of_lt (Nat.lt_of_lt_of_le (Nat.mod_lt _ (Nat.pow_pos (by decide))) (Nat.pow_le_pow_right (by decide) (by omega)))
    have e3 : x % 256 ^ i / 256 ^ j = 0 := Nat.div_eq_of_lt (Nat.lt_of_lt_of_le (Nat.mod_lt _ (Nat.pow_pos (by decide))) (Nat.pow_le_pow_right (by decide) (by omega)))
    rw [e2, e3]
  ·
   rw [if_neg hj, if_neg hj]
theorem bcells_zero (n : Nat) : bcells (bytesN n 0) = List.replicate n (.int .u8 0) := by
 apply List.ext_getElem
 ·
  simp [bcells, bytesN]
 ·
  intro i h1 h2; simp [bcells, bytesN]
end Go.Proofs.Num

namespace Go.Proofs.Num
open Go Go.RowKit
variable {P : Program}
theorem inblock_ret {Q : Exit → Act → World → Prop} {id : Nat} {a : Act} {w : World} (h : Q .ret a w) : Exit.inBlock id Q .ret a w := h
theorem then_ret {Q : Exit → Act → World → Prop} {K : Act → World → Prop} {a : Act} {w : World} (h : Q .ret a w) : Exit.then K Q .ret a w := h
section
variable {ops : Array Oper} {w0 : World} {L : Act → Prop} {o : Oper} {rest : List Oper} {a : Act} {v : Value}
theorem run_slice_all {T e : TypeId} {n : Nat} (g off : Nat) (hT : P.underlying T = some (.array n e)) {s : Nat} (hs : (P.info? e).map (·.size) = some s) (W : World) :
  (Instr.sliceAt T (.pointer (some ⟨g, off, none⟩)) none none none).run P W = .ok (.slice (some ⟨g, off, none⟩) n n) W := by
 have he : P.elem T = e := by simp [Program.elem, hT]
 have hl : P.arrayLen T = n := by simp [Program.arrayLen, hT]
 rw [run_sliceAt_array_all W T ⟨g, off, none⟩ (by rw [hl, he]; exact hT), he, run_sizeOf hs, hl]
 simp [slicedAt, Result.andThen, Addr.add]
theorem wpV_sliceA {T e : TypeId} {x : Operand} {n g off s : Nat} (hw : Region.wanted o (yielded ops a.tmps) = true) (ho : o.op = .slice T x none none none) (hx : a.eval x = .pointer (some ⟨g, off, none⟩))
  (hT : P.underlying T = some (.array n e)) (hs : (P.info? e).map (·.size) = some s) (h : wpV P ops w0 L rest (a.put o.dst (.slice (some ⟨g, off, none⟩) n n))) : wpV P ops w0 L (o :: rest) a :=
 wpV_val (by simp [isAlloc, ho]) hw (fun W _ => by
  unfold RunsVal
  simp only [execOp, ho, hx, Option.map_none, Sem.run_bind, run_slice_all g off hT hs, Result.andThen_ok, Sem.run_pure]) h
theorem run_call_value {ρ : Operand → Value} {f : FuncId} {fn : Func} {y : Operand} {xs : Array Operand} {ts : Array TypeId} {W : World} (ho : o.op = .call { callee := .value y, args := xs, argTypes := ts }) (hρ : ρ y = .func (.func f) #[] #[]) (hf : P.funcs[f]? = some fn)
  (hn : (fn.name == "runtime.NumGoroutine") = false) (hb : fn.body.isNone = false) : (execOp ρ o).run P W = .ok (.enter f (xs.map ρ)) W := by
 have h1 : fn.name ≠ "runtime.NumGoroutine" := by simpa using hn
 have h2 : ¬ fn.body = none := by intro e; simp [e] at hb
 simp [execOp, ho, resolve, hρ, Deferred.ofValue, invoke, callFunc, hf, h1, h2]
theorem wpV_callv {f : FuncId} {fn : Func} {y : Operand} {xs : Array Operand} {ts : Array TypeId} {args : Array Value} (hw : Region.wanted o (yielded ops a.tmps) = true) (ho : o.op = .call { callee := .value y, args := xs, argTypes := ts }) (hy : a.eval y = .func (.func f) #[] #[]) (hf : P.funcs[f]? = some fn)
  (hn : (fn.name == "runtime.NumGoroutine") = false) (hbd : fn.body.isNone = false) (hargs0 : xs.toList.map a.eval = args.toList)
  (hc : ∀ W, Sees w0 W → Calls P f args W (fun e W' => e = .returned v ∧ Below W.heap.size W W')) (h : wpV P ops w0 L rest (a.put o.dst v)) : wpV P ops w0 L (o :: rest) a :=
 wpV_call f args (by simp [isAlloc, ho]) hw hc (fun W _ => by unfold RunsInto; rw [run_call_value ho hy hf hn hbd, (Array.toList_inj.1 (by rw [Array.toList_map]; exact hargs0) : xs.map a.eval = args)]) h
theorem range_sub {w : World} {b o : Nat} {cs : List Value} (h : w.rangeAt b o cs) (j m o' : Nat) {xs : List Value} (hx : (cs.drop j).take m = xs) (ho : o' = o + j) : w.rangeAt b o' xs := fun i v hv => by
 subst hx ho
 have : cs[j + i]? = some v := by
  rw [List.getElem?_take] at hv
  split at hv
  ·
   simpa [List.getElem?_drop] using hv
  ·
   simp at hv
 rw [Nat.add_assoc]
 exact h _ _ this
/-- Bytes as text. -/
theorem wpV_b2s {S T e : TypeId} {x : Operand} {g cap : Nat} {l : List UInt8} (hw : Region.wanted o (yielded ops a.tmps) = true) (ho : o.op = .convert S T x) {n : Nat} (hx : a.eval x = .slice (some ⟨g, 0, none⟩) n cap) (hn : n = l.length)
  (hS : P.underlying S = some (.slice e)) (he : P.underlying e = some (.int .u8)) (hT : P.underlying T = some .string) (hr : w0.rangeAt g 0 (l.map fun b => .int .u8 (b.toNat : Int))) (hg : g < w0.heap.size)
  (h : wpV P ops w0 L rest (a.put o.dst (.string ⟨l.toArray⟩))) : wpV P ops w0 L (o :: rest) a :=
 wpV_val (by simp [isAlloc, ho]) hw (fun W hW => by
  unfold RunsVal
  subst hn
  have hr' := range_sees hr hg hW
  have := run_convert_bytes_back (P := P) W S T e ⟨g, 0, none⟩ cap l hS he hT (fun j hj => by
   have := hr' j (.int .u8 (l[j].toNat : Int)) (by simp [hj])
   rw [Nat.zero_add] at this
   rcases j with _ | j
   ·
    simpa [Addr.add] using this
   ·
    simpa [Addr.add] using this)
  simp only [execOp, ho, hx, Sem.run_bind, this, Result.andThen_ok, Sem.run_pure]) h
end
section
variable {ops : Array Oper} {w0 : World} {L : Act → Prop} {o : Oper} {rest : List Oper} {a : Act} {v : Value}
/-- Text by its bytes. -/
def bs (l : List UInt8) : ByteArray := ⟨l.toArray⟩
theorem bs_size (l : List UInt8) : (bs l).size = l.length := rfl
def byteN (l : List UInt8) (i : Nat) : Nat := (l.getD i 0).toNat
theorem byteN_lt (l : List UInt8) (i : Nat) : byteN l i < 256 := (l.getD i 0).toNat_lt
theorem byteN_get {l : List UInt8} {i : Nat} (hi : i < l.length) : byteN l i = l[i].toNat := by unfold byteN; rw [List.getD_eq_getElem?_getD, List.getElem?_eq_getElem hi]; rfl
theorem leN_take_succ (l : List UInt8) {i : Nat} (hi : i < l.length) : leN (l.take (i + 1)) = leN (l.take i) + byteN l i * 256 ^ i := by rw [byteN_get hi]; exact leN_take l hi
theorem wpV_indexb {T : TypeId} {x y : Operand} {n : Nat} {k : IntKind} {l : List UInt8} (hn : n < l.length) (hw : Region.wanted o (yielded ops a.tmps) = true) (ho : o.op = .index T x y) (hx : a.eval x = .string (bs l)) (hy : a.eval y = .int k (n : Nat))
  (hu : P.underlying T = some .string) (h : wpV P ops w0 L rest (a.put o.dst (.int .u8 ((byteN l n : Nat) : Int)))) : wpV P ops w0 L (o :: rest) a :=
 wpV_val (by simp [isAlloc, ho]) hw (fun W _ => by
  unfold RunsVal
  have := run_index_str (P := P) (s := bs l) (k := k) hu hn W
  rw [show ((bs l)[n]'hn) = l[n]'hn from rfl, ← byteN_get hn] at this
  simp only [execOp, ho, hx, hy, this, Sem.run_bind, Result.andThen_ok, Sem.run_pure]) h
theorem bs_beq (l m : List UInt8) : ((bs l).toList == (bs m).toList) = decide (l = m) := by
 rw [show (bs l).toList = l from ByteArray.toList_mk l, show (bs m).toList = m from ByteArray.toList_mk m]
 by_cases h : l = m <;> simp [h]
theorem run_eql_bs (T : TypeId) (l m : List UInt8) (W : World) : (binOp .eql T (.string (bs l)) (.string (bs m))).run P W = .ok (.bool (decide (l = m))) W := by
 simp [binOp, go_sem, Op.stringOp, bs_beq]
theorem run_neq_bs (T : TypeId) (l m : List UInt8) (W : World) : (binOp .neq T (.string (bs l)) (.string (bs m))).run P W = .ok (.bool (decide (l ≠ m))) W := by
 simp [binOp, go_sem, Op.stringOp, bs_beq]
theorem wpV_binS {op : BinOp} {T T' : TypeId} {x y : Operand} {s t : ByteArray} {v : Value} (hw : Region.wanted o (yielded ops a.tmps) = true) (ho : o.op = .binOp op T x y T') (hx : a.eval x = .string s) (hy : a.eval y = .string t)
  (hr : ∀ W, (binOp op T (.string s) (.string t)).run P W = .ok v W) (h : wpV P ops w0 L rest (a.put o.dst v)) : wpV P ops w0 L (o :: rest) a :=
 wpV_val (by simp [isAlloc, ho]) hw (fun W _ => by
  unfold RunsVal
  simp only [execOp, ho, hx, hy, Sem.run_bind, Sem.run_pure]
  have := hr W
  have e : (eqGuard op T x y (.string s) (.string t)).run P W = .ok () W := by
   unfold eqGuard
   cases op <;> simp
  simp only [e, Result.andThen_ok, this]) h
theorem wpV_lenS {x : Operand} {ts : Array TypeId} {l : List UInt8} (hw : Region.wanted o (yielded ops a.tmps) = true) (ho : o.op = .call { callee := .builtin .len, args := #[x], argTypes := ts }) (hx : a.eval x = .string (bs l)) {T : TypeId} (ht : ts[0]? = some T) (hu : P.underlying T = some .string)
  (h : wpV P ops w0 L rest (a.put o.dst (.int .i64 ((l.length : Nat) : Int)))) : wpV P ops w0 L (o :: rest) a :=
 wpV_val (by simp [isAlloc, ho]) hw (fun W _ => by
  unfold RunsVal
  rw [← bs_size]
  simp [execOp, ho, hx, resolve, invoke, builtin, Builtin.len_, goInt, ht, run_underlying hu]) h
theorem wpV_lenA {x : Operand} {ts : Array TypeId} {p : Option Addr} {n cap : Nat} (hw : Region.wanted o (yielded ops a.tmps) = true) (ho : o.op = .call { callee := .builtin .len, args := #[x], argTypes := ts }) (hx : a.eval x = .slice p n cap) {T e : TypeId} (ht : ts[0]? = some T) (hu : P.underlying T = some (.slice e))
  (h : wpV P ops w0 L rest (a.put o.dst (.int .i64 ((n : Nat) : Int)))) : wpV P ops w0 L (o :: rest) a :=
 wpV_val (by simp [isAlloc, ho]) hw (fun W _ => by
  unfold RunsVal
  simp [execOp, ho, hx, resolve, invoke, builtin, Builtin.len_, goInt, ht, run_underlying hu]) h
theorem run_top {T : TypeId} {m : Int} {k' : IntKind} (hm : 0 ≤ m) (W : World) : (binOp .shr T (.int .u64 m) (.int k' 63)).run P W = .ok (.int .u64 (top m)) W := by
 obtain ⟨m, rfl⟩ := Int.eq_ofNat_of_zero_le hm
 refine run_shr (m := m) (n := 63) (by decide) ?_ W
 unfold top; omega
theorem run_shl1 {T : TypeId} {m : Int} {k' : IntKind} (hm : 0 ≤ m) (W : World) : (binOp .shl T (.int .u64 m) (.int k' 1)).run P W = .ok (.int .u64 (IntKind.u64.wrap (m * 2))) W := by
 obtain ⟨m, rfl⟩ := Int.eq_ofNat_of_zero_le hm
 exact run_shl (m := m) (n := 1) (by decide) rfl W
theorem run_conv_int {S T : TypeId} {k k' : IntKind} {m e : Int} {d : TypeDesc} (hS : P.underlying S = some d) (hT : P.underlying T = some (.int k)) (h : k.wrap m = e) (W : World) : (convert S T (.int k' m)).run P W = .ok (.int k e) W := by
 subst h
 cases d <;> simp [convert, run_underlying hS, run_underlying hT, Conv.intToInt]
end
section tails
variable {ops : Array Oper} {Q : Exit → Act → World → Prop} {o : Oper} {rest : List Oper} {a : Act} {W : World} {v : Value}
theorem wpL_val (hg : o.guard = none) (hr : RunsVal ((execOp a.eval o).run P W) v W) (h : wpList P ops Q rest (a.put o.dst v) W) : wpList P ops Q (o :: rest) a W :=
 wpList_plain hg fun K hK => by
  unfold RunsVal at hr
  unfold Oper.wp
  simp only [hr, Oper.upon_value]
  exact hK _ _ h
/-- A new row. -/
theorem wpL_make {T e : TypeId} {x y : Operand} {n bytes : Nat} {k k' : IntKind} {z : Value} (hg : o.guard = none) (ho : o.op = .makeSlice T x y) (hx : a.eval x = .int k (n : Nat)) (hy : a.eval y = .int k' (n : Nat))
  (hT : P.underlying T = some (.slice e)) (hinfo : (P.info? e).map (fun i => (i.zero, i.size, i.bytes)) = some (some z, 1, bytes)) (hzc : z.cells = #[z]) (hb : bytes * n ≤ 281474976710656) (h63 : n ≤ 9223372036854775807)
  (h : ∀ g W', Sees W W' → W.heap.size ≤ g → Blk W' g e (List.replicate n z).toArray → wpList P ops Q rest (a.put o.dst (.slice (some ⟨g, 0, none⟩) n n)) W') : wpList P ops Q (o :: rest) a W := by
 obtain ⟨i, hi, he⟩ := Option.map_eq_some_iff.1 hinfo
 simp only [Prod.mk.injEq] at he
 obtain ⟨hz, h1, h2⟩ := he
 subst h2
 have hmc : madeCells z.cells (((n : Nat) : Int).toNat * i.size) = (List.replicate n z).toArray := by
  rw [h1, hzc, madeCells]
  apply Array.ext
  ·
   simp
  ·
   intro j hj1 hj2; simp [Nat.mod_one]
 have hrun := run_make (P := P) W T e i z hT hi hz k k' (n : Nat) (n : Nat) (by omega) (by omega) (by rw [← Int.natCast_mul]; exact Int.ofNat_le.2 hb) (by omega)
 rw [hmc] at hrun
 refine wpList_plain hg fun K hK => ?_
 unfold Oper.wp
 simp only [execOp, ho, hx, hy, Sem.run_bind, hrun, Result.andThen_ok, Sem.run_pure, Oper.upon_value, Int.toNat_natCast]
 exact hK _ _ (h _ _ (sees_alloc (sees_refl W) _) (Nat.le_refl _) (Blk.new _ _ _))
end tails
end Go.Proofs.Num

namespace Go.Proofs.Num
open Go Go.RowKit
variable {P : Program}
section
variable {ops : Array Oper} {Q : Exit → Act → World → Prop}
theorem wpL_vals {w0 : World} {L : Act → Prop} (chunk rest : List Oper) : ∀ (a : Act) (W : World), Sees w0 W → (∀ o ∈ chunk, isAlloc o = false) → wpV P ops w0 L chunk a → (∀ a', L a' → ∀ W', Sees w0 W' → wpList P ops Q rest a' W') → wpList P ops Q (chunk ++ rest) a W := by
 induction chunk with
 | nil => intro a W hW _ h hL; exact hL a h W hW
 | cons o l ih =>
  intro a W hW ha h hL
  have hao := ha o (List.mem_cons_self ..)
  have hal := fun q hq => ha q (List.mem_cons_of_mem _ hq)
  simp only [wpV, hao, Bool.false_eq_true, if_false] at h
  rw [List.cons_append, wpList]
  by_cases hw : Region.wanted o (yielded ops a.tmps) = true
  ·
   rw [if_pos hw] at h ⊢
   obtain ⟨v, hg, h⟩ := h
   exact .inl ((hg W hW).wp fun W' hb => ih _ _ (sees_call hW hb) hal h hL)
  ·
   rw [if_neg hw] at h ⊢
   exact ih _ _ hW hal h hL
theorem wpL_chunk (k : Nat) {l : List Oper} {a : Act} {W : World} (ha : ((l.take k).all fun o => !isAlloc o) = true) (h : ∀ L : Act → Prop, (∀ a', (∀ W', Sees W W' → wpList P ops Q (l.drop k) a' W') → L a') → wpV P ops W L (l.take k) a) : wpList P ops Q l a W := by
 have := wpL_vals (P := P) (ops := ops) (Q := Q) (L := fun a' => ∀ W', Sees W W' → wpList P ops Q (l.drop k) a' W') (l.take k) (l.drop k) a W (sees_refl W) (fun o ho => by simpa using List.all_eq_true.1 ha o ho) (h _ fun a' h => h) (fun a' h => h)
 rwa [List.take_append_drop] at this
end
section tails
variable {ops : Array Oper} {Q : Exit → Act → World → Prop} {o : Oper} {rest : List Oper} {a : Act} {W : World} {v : Value}
theorem wpL_new {T e : TypeId} {len : Nat} {cs : List Value} (hg : o.guard = none)
  (hrun : (execOp a.eval o).run P W = .ok (.value (.slice (some ⟨W.heap.size, 0, none⟩) len len)) (W.alloc (.cells cs.toArray e)))
  (h : ∀ g W', Sees W W' → W.heap.size ≤ g → Blk W' g e cs.toArray → wpList P ops Q rest (a.put o.dst (.slice (some ⟨g, 0, none⟩) len len)) W') : wpList P ops Q (o :: rest) a W :=
 wpList_plain hg fun K hK => by
  unfold Oper.wp
  simp only [hrun, Oper.upon_value]
  exact hK _ _ (h _ _ (sees_alloc (sees_refl W) _) (Nat.le_refl _) (Blk.new _ _ _))
theorem wpL_row0 {T e : TypeId} (hg : o.guard = none) (ho : o.op = .buildSlice T 0 #[]) (hT : P.underlying T = some (.slice e)) (hs : (P.info? e).map (·.size) = some 1)
  (h : ∀ g W', Sees W W' → W.heap.size ≤ g → Blk W' g e #[] → wpList P ops Q rest (a.put o.dst (.slice (some ⟨g, 0, none⟩) 0 0)) W') : wpList P ops Q (o :: rest) a W :=
 wpL_new (T := T) (e := e) (len := 0) (cs := []) hg (by
  simp [execOp, ho, Instr.buildSlice, run_underlying hT, run_sizeOf hs, Instr.fill, newRow, Array.range_zero']) h
end tails
/-- Block g, or new ones, and nothing else. -/
structure Grew (g : Nat) (W W' : World) : Prop where
 os : W'.os = W.os
 tape : W'.tape = W.tape
 output : W'.output = W.output
 size : W.heap.size ≤ W'.heap.size
 block : ∀ k, k < W.heap.size → k ≠ g → W'.heap[k]? = W.heap[k]?
theorem Grew.below {g B : Nat} {w0 W W' : World} (h : Grew g W W') (hb : Below B w0 W) (hs : B ≤ w0.heap.size) (hg : B ≤ g) : Below B w0 W' :=
 hb.trans ⟨h.os, h.tape, h.output, h.size, fun k hk => h.block k (Nat.lt_of_lt_of_le (Nat.lt_of_lt_of_le hk hs) hb.size) (by omega)⟩
theorem Grew.range {g b o : Nat} {W W' : World} {cs : List Value} (h : Grew g W W') (hr : W.rangeAt b o cs) (hne : b ≠ g) (hb : b < W.heap.size) : W'.rangeAt b o cs := fun j v hv => by
 rw [World.cell?_of_block (h.block b hb hne)]; exact hr j v hv
theorem Grew.there {g b o n : Nat} {W W' : World} (h : Grew g W W') (ht : W.there b o n) (hne : b ≠ g) (hb : b < W.heap.size) : W'.there b o n := fun j hj => by
 rw [World.cell?_of_block (a := ⟨b, o + j, none⟩) (h.block b hb hne), World.frozen?_of_block (a := ⟨b, o + j, none⟩) (h.block b hb hne)]; exact ht j hj
theorem Grew.lt {g b : Nat} {W W' : World} (h : Grew g W W') (hb : b < W.heap.size) : b < W'.heap.size := Nat.lt_of_lt_of_le hb h.size
section tails
variable {ops : Array Oper} {Q : Exit → Act → World → Prop} {o : Oper} {rest : List Oper} {a : Act} {W : World} {v : Value}
/-- A new variable. -/
theorem wpL_var {t : TypeId} {cs : List Value} (hg : o.guard = none) (hrun : ∀ W : World, (execOp a.eval o).run P W = .ok (.value (.pointer (some ⟨W.heap.size, 0, none⟩))) (W.alloc (.cells cs.toArray t)))
  (h : ∀ g W', Sees W W' → W.heap.size ≤ g → Blk W' g t cs.toArray → wpList P ops Q rest (a.put o.dst (.pointer (some ⟨g, 0, none⟩))) W') : wpList P ops Q (o :: rest) a W :=
 wpList_plain hg fun K hK => by
  unfold Oper.wp
  simp only [hrun, Oper.upon_value]
  exact hK _ _ (h _ _ (sees_alloc (sees_refl W) _) (Nat.le_refl _) (Blk.new _ _ _))
theorem run_sliceL {T e : TypeId} {g off n cap lo : Nat} {k : IntKind} (hT : P.underlying T = some (.slice e)) (hs : (P.info? e).map (·.size) = some 1) (hl : lo ≤ n) (hc : n ≤ cap) (hlt : lo < cap) (W : World) :
  (Instr.sliceAt T (.slice (some ⟨g, off, none⟩) n cap) (some (.int k (lo : Nat))) none none).run P W = .ok (.slice (some ⟨g, off + lo, none⟩) (n - lo) (cap - lo)) W := by
 have he : P.elem T = e := by simp [Program.elem, hT]
 rw [run_sliceAt_slice _ _ _ _ _ _ (by rw [he]; exact hT)]
 rw [run_slice_l _ _ _ _ _ (by rw [he]; exact hT) _ _ (by omega) (by omega), he, run_sizeOf hs]
 have h0 : ¬ cap = lo := by omega
 simp [Result.andThen, sliced, Addr.add, h0]
end tails
end Go.Proofs.Num

namespace Go.Proofs.Num
open Go
theorem and_one (x : Nat) : bits .and .u64 (limb x 0) 1 = ((x % 2 : Nat) : Int) := by
 have := bitN_of x 0
 simpa [limb_eq] using this
theorem root2_t {x : Nat} (h : fmul (root1 x) (root1 x) = leastF x) : root2 x = root1 x := if_pos h
theorem root2_f {x : Nat} (h : ¬ fmul (root1 x) (root1 x) = leastF x) : root2 x = fmul (root1 x) (fpow 2 fourthE) := if_neg h
theorem sqrt_no {x : Nat} (h : ¬ fmul (root2 x) (root2 x) = leastF x) : fsqrt x = (0, false) := if_neg h
theorem sqrt_odd {x : Nat} (h : fmul (root2 x) (root2 x) = leastF x) (h2 : root2 x % 2 = 1) : fsqrt x = (fsub 0 (root2 x), true) := by unfold fsqrt; rw [if_pos h, if_pos h2]
theorem sqrt_even {x : Nat} (h : fmul (root2 x) (root2 x) = leastF x) (h2 : ¬ root2 x % 2 = 1) : fsqrt x = (root2 x, true) := by unfold fsqrt; rw [if_pos h, if_neg h2]
end Go.Proofs.Num

namespace Go.Proofs.Num
open Go Go.RowKit
variable {P : Program}
theorem letsOut_then {K : Act → World → Prop} {Q : Exit → Act → World → Prop} (h : LetsOut (Exit.then K Q)) : LetsOut Q := by
 first
 | exact h
 | (unfold LetsOut at *; exact fun e a w => h e a w)
 | (unfold LetsOut at *; exact h)
theorem wp_then {o : Oper} {a : Act} {w : World} {K K' : Act → World → Prop} {Q : Exit → Act → World → Prop} (h : ∀ a w, K' a w → K a w) (hh : o.wp P a w K' (Exit.then K Q)) : o.wp P a w K Q := by
 unfold Oper.wp at *
 generalize (execOp a.eval o).run P w = r at *
 cases r with
 | ok n w' =>
  cases n <;> simp only [Oper.upon] at hh ⊢ <;>
   first
    | exact h _ _ hh
    | exact Calls.mono hh (fun e w'' he => by
      cases e
      ·
       exact h _ _ he
      ·
       exact he
      ·
       exact letsOut_then he)
    | exact Rows.mono hh (fun _ _ he => h _ _ he)
 | halt x w' => cases x <;> simp only [Oper.upon] at hh ⊢ <;> exact hh
variable {ops : Array Oper} {Q : Exit → Act → World → Prop} {a : Act} {w : World}
theorem any_op {K : Act → World → Prop} (i : Nat) {o : Oper} (hi : ops[i]? = some o) (h : wpList P ops (Exit.then K Q) [o] a w) : wpOp P ops Q i K a w := by
 unfold wpOp
 simp only [hi]
 simp only [wpList] at h
 split at h
 ·
  next hw =>
  rw [if_pos hw]
  exact h.imp (wp_then fun a w h => h) fun ⟨h1, h2⟩ => ⟨h1, letsOut_then h2⟩
 ·
  next hw =>
  rw [if_neg hw]
  exact h
theorem any_opL {l : List Oper} {K : Act → World → Prop} (i : Nat) (hi : ((l.drop i).take 1).isEmpty = false) (h : wpList P l.toArray (Exit.then K Q) ((l.drop i).take 1) a w) : wpOp P l.toArray Q i K a w := by
 by_cases hl : i < l.length
 ·
  refine any_op i (o := l[i]) (by simp [hl]) ?_
  rw [List.drop_eq_getElem_cons hl] at h
  exact h
 ·
  rw [List.drop_eq_nil_of_le (by omega)] at hi
  simp at hi
theorem any_step {md : Region.Mode} {fuel : Nat} {listed : Array Bool} (rs : List Nat) (hr : Region.ready md ops listed = rs) (hne : rs.isEmpty = false) (h : ∀ i ∈ rs, wpOp P ops Q i (wpAny P md ops Q fuel (listed.setIfInBounds i true)) a w) : wpAny P md ops Q (fuel + 1) listed a w :=
 ⟨fun e => by rw [hr] at e; simp [e] at hne, fun i hi => h i (by rwa [hr] at hi)⟩
theorem any_one {i : Nat} {K : Nat → Prop} (h : K i) : ∀ j ∈ [i], K j := fun j hj => by simp at hj; subst hj; exact h
theorem any_two {i : Nat} {l : List Nat} {K : Nat → Prop} (h : K i) (h2 : ∀ j ∈ l, K j) : ∀ j ∈ i :: l, K j := fun j hj => by
 rcases List.mem_cons.1 hj with rfl | hj
 ·
  exact h
 ·
  exact h2 j hj
theorem any_end {md : Region.Mode} {listed : Array Bool} (hr : Region.ready md ops listed = []) (h : Q .normal a w) : wpAny P md ops Q 0 listed a w := ⟨hr, h⟩
theorem wp_region_tree {id : Nat} {l : List Oper} (hm : P.follows .mixedOrders = true) (h : ∀ W, Sees w W → wpAny P .any l.toArray Q l.length (Array.replicate l.length false) a W) : (Code.region id l.toArray true).wp P Q a w :=
 wp_region_any hm (by
  have := h _ (sees_drew (sees_refl w))
  rwa [show l.length = l.toArray.size by simp] at this)
theorem wp_region_seq {id : Nat} {l : List Oper} (h : wpList P l.toArray (NoPanic Q) l a w) : (Code.region id l.toArray false).wp P Q a w :=
 Code.wp_mono NoPanic.imp (wp_region_list h)
theorem wpV_sliceL {ops : Array Oper} {w0 : World} {L : Act → Prop} {o : Oper} {rest : List Oper} {a : Act} {T e : TypeId} {x y : Operand} {g off n cap lo : Nat} {k : IntKind} (hw : Region.wanted o (yielded ops a.tmps) = true) (ho : o.op = .slice T x (some y) none none) (hx : a.eval x = .slice (some ⟨g, off, none⟩) n cap) (hy : a.eval y = .int k (lo : Nat))
  (hT : P.underlying T = some (.slice e)) (hs : (P.info? e).map (·.size) = some 1) (hl : lo ≤ n) (hc : n ≤ cap) (hlt : lo < cap) (h : wpV P ops w0 L rest (a.put o.dst (.slice (some ⟨g, off + lo, none⟩) (n - lo) (cap - lo)))) : wpV P ops w0 L (o :: rest) a :=
 wpV_val (by simp [isAlloc, ho]) hw (fun W _ => by
  unfold RunsVal
  simp only [execOp, ho, hx, hy, Option.map_none, Option.map_some, Sem.run_bind, run_sliceL hT hs hl hc hlt, Result.andThen_ok, Sem.run_pure]) h
theorem wpV_not {ops : Array Oper} {w0 : World} {L : Act → Prop} {o : Oper} {rest : List Oper} {a : Act} {x : Operand} {T : TypeId} {b : Bool} (hw : Region.wanted o (yielded ops a.tmps) = true) (ho : o.op = .unOp .not T x) (hx : a.eval x = .bool b) (h : wpV P ops w0 L rest (a.put o.dst (.bool !b))) : wpV P ops w0 L (o :: rest) a :=
 wpV_val (by simp [isAlloc, ho]) hw (fun W _ => by
  unfold RunsVal
  simp [execOp, ho, hx, Op.unary, Sem.run_bind]) h
end Go.Proofs.Num

namespace Go.Proofs.Num
open Go Go.RowKit
variable {P : Program}
section tails
variable {ops : Array Oper} {Q : Exit → Act → World → Prop} {o : Oper} {rest : List Oper} {a : Act} {W : World} {v : Value}
def Iter (w : World) (g : Nat) (l : List UInt8) (pos : Nat) : Prop := w.heap[g]? = some (.stringIter (bs l) pos)
theorem Iter.sees {w W : World} {g pos : Nat} {l : List UInt8} (h : Iter w g l pos) (hg : g < w.heap.size) (hS : Sees w W) : Iter W g l pos := (hS.2.2.block g hg).trans h
end tails
end Go.Proofs.Num

namespace Go.Proofs.Num
open Go Go.RowKit
variable {P : Program}
section vals
variable {ops : Array Oper} {w0 : World} {L : Act → Prop} {o : Oper} {rest : List Oper} {a : Act}
def cut (l : List UInt8) (k : Nat) : List UInt8 := l.take (min l.length k)
theorem wpV_min {x : Operand} {ts : Array TypeId} {n m : Nat} {k k2 : IntKind} (hw : Region.wanted o (yielded ops a.tmps) = true) {y : Operand} (ho : o.op = .call { callee := .builtin .min, args := #[x, y], argTypes := ts }) (hx : a.eval x = .int k (n : Nat)) (hy : a.eval y = .int k2 (m : Nat))
  (h : wpV P ops w0 L rest (a.put o.dst (.int k ((min n m : Nat) : Int)))) : wpV P ops w0 L (o :: rest) a :=
 wpV_val (by simp [isAlloc, ho]) hw (fun W _ => by
  unfold RunsVal
  simp only [execOp, ho, resolve, invoke, builtin, Builtin.min_, Builtin.min2]
  simp [hx, hy, Builtin.min2]
  split <;> omega) h
theorem run_sliceS {T : TypeId} (hT : P.underlying T = some .string) {l : List UInt8} {hi : Nat} {k : IntKind} (hh : hi ≤ l.length) (W : World) : (Instr.sliceAt T (.string (bs l)) none (some (.int k ((hi : Nat) : Int))) none).run P W = .ok (.string (bs (l.take hi))) W := by
 have e : (bs l).extract 0 hi = bs (l.take hi) := by
  apply ByteArray.ext
  simp [bs, ByteArray.extract, ByteArray.copySlice]
 simp [Instr.sliceAt, Instr.slice, Instr.sliceBounds, Instr.sliceBound, asIntOf, run_underlying hT, Sem.run_bind, hh, bs_size, e]
theorem run_add_bs (T : TypeId) (l m : List UInt8) (h : l.length + m.length ≤ 9223372036854775807) (W : World) : (binOp .add T (.string (bs l)) (.string (bs m))).run P W = .ok (.string (bs (l ++ m))) W := by
 have e : bs l ++ bs m = bs (l ++ m) := by
  apply ByteArray.ext
  simp [bs]
 have h2 : ¬ IntKind.i64.max < ((bs l).size : Int) + ((bs m).size : Int) := by
  simp [bs_size, IntKind.max, IntKind.signed, IntKind.bits]
  omega
 simp [binOp, go_sem, Op.stringOp, e, h2]
 simp [bs_size]
 omega
end vals
section tails
variable {ops : Array Oper} {Q : Exit → Act → World → Prop} {o : Oper} {rest : List Oper} {a : Act} {W : World} {v : Value}
end tails
theorem bs_of (s : ByteArray) : ∃ l, s = bs l := ⟨s.data.toList, rfl⟩
end Go.Proofs.Num

