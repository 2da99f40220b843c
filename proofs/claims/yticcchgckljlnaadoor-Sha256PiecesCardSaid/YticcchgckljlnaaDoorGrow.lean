/- Regions that draw their order, and whose operations read, make new memory, or call what makes new memory: one walk in the order of the text serves every order. Conditions: a closed check on the region's edges; what is stored stands at the end, in one forced order. -/
import Derived.StillTail
import Derived.Deep.RegionHeld3
import Derived.Test.YticcchgckljlnaaDoorSeen
set_option linter.unusedSimpArgs false
set_option linter.unusedVariables false
namespace Go.Proofs.Num
open Go Go.RowKit

/-- What an operation comes to in a world: this value, and a world that shows all that there was. -/
def Grows (P : Program) (o : Oper) (a : Act) (W : World) (v : Value) : Prop :=
  match (execOp a.eval o).run P W with
  | .ok (.value u) W' => u = v ∧ Below W.heap.size W W'
  | .ok (.enter f args) W' => W' = W ∧ Calls P f args W (fun e W'' => e = .returned v ∧ Below W.heap.size W W'')
  | _ => False

def Makes (P : Program) (a0 : Act) (o : Oper) (t : TypeId) (cs : Array Value) : Prop :=
  ∀ (W : World), (execOp a0.eval o).run P W = .ok (.value (.pointer (some ⟨W.heap.size, 0, none⟩))) (W.alloc (.cells cs t))

def isAlloc (o : Oper) : Bool := match o.op with | .alloc _ | .box .. => true | _ => false
def isPure (o : Oper) : Bool := match o.op with | .move _ | .extract .. => true | _ => false
def ptr (g : Nat) : Value := .pointer (some ⟨g, 0, none⟩)

/-- The walk over the values, in the order of the text. -/
def wpV (P : Program) (ops : Array Oper) (w0 : World) (L : Act → Prop) : List Oper → Act → Prop
  | [], a => L a
  | o :: rest, a => if isAlloc o then wpV P ops w0 L rest a else
      if Region.wanted o (yielded ops a.tmps) then ∃ v, (∀ W, Sees w0 W → Grows P o a W v) ∧ wpV P ops w0 L rest (a.put o.dst v)
      else wpV P ops w0 L rest (a.put o.dst undef)

/-- The walk over the new variables. -/
def wpN (P : Program) (a0 : Act) (w0 : World) (L : Act → List (Nat × TypeId × Array Value) → Prop) : List Oper → Act → List (Nat × TypeId × Array Value) → Prop
  | [], a, bs => L a bs
  | o :: rest, a, bs => if isAlloc o then ∃ t cs, Makes P a0 o t cs ∧ ∀ g, w0.heap.size ≤ g → (∀ b ∈ bs, b.1 ≠ g) → wpN P a0 w0 L rest (a.put o.dst (ptr g)) ((g, t, cs) :: bs)
      else wpN P a0 w0 L rest a bs

def dstOf (ops : Array Oper) (i : Nat) : Option Tmp := (ops[i]?).bind (·.dst)

/-- The check of any region. -/
def growP (ops : Array Oper) (n : Nat) : Bool :=
  Region.noSelect ops && decide (n ≤ ops.size) &&
  ((List.range n).all fun i => match ops[i]? with
    | none => false
    | some o => (!isAlloc o || (o.guard.isNone && (o.looksAt ops).all fun t => (List.range n).all fun j => dstOf ops j != some t)) && (o.looksAt ops).all fun t => (List.range n).all fun j => dstOf ops j != some t || (decide (j < i) && !(((ops[j]?).map isAlloc).getD true) && Region.waitsFor .any ops i j) || (decide (i < j) && Region.waitsFor .any ops j i)) &&
  ((List.range n).all fun i => match ops[i]? with
    | none => false
    | some o => o.after.all fun e => !Region.binds .any e || decide (e.on < i)) &&
  ((List.range n).all fun i => (List.range n).all fun j => i == j || dstOf ops i == none || dstOf ops i != dstOf ops j)

/-- And of one that draws. -/
def growD (ops : Array Oper) (n : Nat) (fl : List Nat) : Bool :=
  Region.chainB .any ops n &&
  ((List.range n).all fun i => decide (n = ops.size) || fl.contains i || (List.range (n + 1)).any fun j => decide (i < j) && !fl.contains j && Region.waitsFor .any ops j i) &&
  (fl.all fun f => match ops[f]? with
    | none => false
    | some o => decide (f < n) && isPure o && o.guard.isNone &&
      (List.range ops.size).all fun j => !(decide (f < j) && (decide (n ≤ j) || fl.contains j)) || Region.waitsFor .any ops j f || (match ops[j]? with | some oj => o.apart ops oj | none => true)) &&
  Region.seqB .any ops (ops.size - n) n (Array.ofFn (n := ops.size) fun i => decide (i.1 < n))

section
variable {P : Program} {ops : Array Oper} {w0 : World}

theorem wpV_out {L : Act → Prop} : ∀ (l : List Oper) (k : Nat) (a : Act), (∀ j, j < l.length → l[j]? = ops[k + j]?) → wpV P ops w0 L l a →
    ∃ (val : Nat → Value) (A : Nat → Act), A k = a ∧ L (A (k + l.length)) ∧ ∀ i o, k ≤ i → i < k + l.length → ops[i]? = some o →
      (isAlloc o = true → A (i + 1) = A i) ∧ (isAlloc o = false → A (i + 1) = (A i).put o.dst (val i) ∧
        (Region.wanted o (yielded ops (A i).tmps) = true → ∀ W, Sees w0 W → Grows P o (A i) W (val i)) ∧ (Region.wanted o (yielded ops (A i).tmps) = false → val i = undef))
  | [], k, a, _, h => ⟨fun _ => undef, fun _ => a, rfl, h, fun i o h1 h2 => by simp at h2; omega⟩
  | o :: l, k, a, hl, h => by
    have h0 : ops[k]? = some o := by simpa using (hl 0 (by simp)).symm
    have hl' : ∀ j, j < l.length → l[j]? = ops[k + 1 + j]? := fun j hj => by
      have := hl (j + 1) (by simp; omega)
      simpa [Nat.add_assoc, Nat.add_comm 1 j] using this
    have key : ∀ (a' : Act) (v : Value), wpV P ops w0 L l a' →
        ((isAlloc o = true → a' = a) ∧ (isAlloc o = false → a' = a.put o.dst v ∧ (Region.wanted o (yielded ops a.tmps) = true → ∀ W, Sees w0 W → Grows P o a W v) ∧ (Region.wanted o (yielded ops a.tmps) = false → v = undef))) →
        ∃ (val : Nat → Value) (A : Nat → Act), A k = a ∧ L (A (k + (o :: l).length)) ∧ ∀ i o, k ≤ i → i < k + (l.length + 1) → ops[i]? = some o →
      (isAlloc o = true → A (i + 1) = A i) ∧ (isAlloc o = false → A (i + 1) = (A i).put o.dst (val i) ∧
        (Region.wanted o (yielded ops (A i).tmps) = true → ∀ W, Sees w0 W → Grows P o (A i) W (val i)) ∧ (Region.wanted o (yielded ops (A i).tmps) = false → val i = undef)) := by
      intro a' v hv hs
      obtain ⟨val, A, hA, hL, hi⟩ := wpV_out l (k + 1) a' hl' hv
      refine ⟨fun i => if i = k then v else val i, fun i => if i = k then a else A i, by simp, ?_, ?_⟩
      · show L (if k + (o :: l).length = k then a else A (k + (o :: l).length))
        rw [if_neg (by simp), show k + (o :: l).length = k + 1 + l.length by simp; omega]
        exact hL
      · intro i o' h1 h2 h3
        by_cases hik : i = k
        · subst hik
          have : o' = o := Option.some.inj (h3.symm.trans h0)
          subst this
          simp only [if_true]
          rw [if_neg (by omega), hA]
          exact hs
        · simp only [hik, if_false]
          rw [if_neg (by omega)]
          exact hi i o' (by omega) (by omega) h3
    simp only [wpV] at h
    cases ha : isAlloc o with
    | true =>
      simp only [ha, if_true] at h
      exact key a undef h ⟨fun _ => rfl, fun h => by rw [ha] at h; cases h⟩
    | false =>
      simp only [ha, Bool.false_eq_true, if_false] at h
      cases hw : Region.wanted o (yielded ops a.tmps) with
      | true =>
        simp only [hw, if_true] at h
        obtain ⟨v, hg, hk⟩ := h
        exact key _ v hk ⟨fun h => (by rw [ha] at h; cases h), fun _ => ⟨rfl, fun _ => hg, fun h => by rw [hw] at h; cases h⟩⟩
      | false =>
        simp only [hw, Bool.false_eq_true, if_false] at h
        exact key _ undef h ⟨fun h => (by rw [ha] at h; cases h), fun _ => ⟨rfl, fun h => (by rw [hw] at h; cases h), fun _ => rfl⟩⟩

/-- The slots of a frame: of the operations that are done, their values; else what there was. -/
structure Slots (ops : Array Oper) (n : Nat) (a0 : Act) (S : Nat → Bool) (sv : Nat → Value) (a : Act) : Prop where
  defers : a.defers = a0.defers
  size : a.tmps.size = a0.tmps.size
  done : ∀ t, t < a0.tmps.size → ∀ i, i < n → dstOf ops i = some t → S i = true → a.tmps[t]? = some (sv i)
  old : ∀ t, t < a0.tmps.size → (∀ i, i < n → dstOf ops i = some t → S i = false) → a.tmps[t]? = a0.tmps[t]?

theorem Slots.start (n : Nat) (a0 : Act) (sv : Nat → Value) : Slots ops n a0 (fun _ => false) sv a0 :=
  ⟨rfl, rfl, fun _ _ _ _ _ h => (by cases h), fun _ _ _ => rfl⟩

theorem Slots.put {n : Nat} {a0 a : Act} {S S' : Nat → Bool} {sv sv' : Nat → Value} (h : Slots ops n a0 S sv a) {i : Nat} (hi : i < n)
    (hd : ∀ j, j < n → j ≠ i → dstOf ops i ≠ none → dstOf ops i ≠ dstOf ops j) {v : Value} (hS : ∀ j, S' j = (S j || decide (j = i))) (hsv : ∀ j, j ≠ i → S j = true → sv' j = sv j) (hv : sv' i = v) :
    Slots ops n a0 S' sv' (a.put (dstOf ops i) v) := by
  have hput : ∀ t, t < a0.tmps.size → (a.put (dstOf ops i) v).tmps[t]? = if dstOf ops i = some t then some v else a.tmps[t]? := by
    intro t ht
    cases hdi : dstOf ops i with
    | none => simp [Act.put]
    | some d =>
      simp only [Act.put, Array.getElem?_setIfInBounds, Option.some.injEq]
      by_cases hdt : d = t
      · subst hdt; simp [h.size, ht]
      · simp [hdt]
  refine ⟨?_, ?_, ?_, ?_⟩
  · cases hdi : dstOf ops i <;> simp [Act.put, h.defers]
  · cases hdi : dstOf ops i <;> simp [Act.put, h.size]
  · intro t ht j hj hjt hSj
    rw [hput t ht]
    by_cases hji : j = i
    · subst hji; rw [if_pos hjt, hv]
    · have hne : dstOf ops i ≠ some t := fun e => hd j hj hji (by rw [e]; simp) (e.trans hjt.symm)
      rw [if_neg hne]
      have hSj' : S j = true := by
        rw [hS, Bool.or_eq_true] at hSj
        exact hSj.resolve_right (by simp [hji])
      rw [hsv j hji hSj']
      exact h.done t ht j hj hjt hSj'
  · intro t ht hall
    rw [hput t ht]
    have hne : dstOf ops i ≠ some t := fun e => by
      have := hall i hi e
      rw [hS] at this
      simp at this
    rw [if_neg hne]
    refine h.old t ht fun j hj hjt => ?_
    have := hall j hj hjt
    rw [hS] at this
    simp at this
    exact this.1

theorem Slots.same {n : Nat} {a0 a a' : Act} {S : Nat → Bool} {sv : Nat → Value} (h : Slots ops n a0 S sv a) (h' : Slots ops n a0 S sv a') : a = a' := by
  have ht : a.tmps = a'.tmps := by
    apply Array.ext_getElem?
    intro t
    by_cases hlt : t < a0.tmps.size
    · by_cases hex : ∃ i, i < n ∧ dstOf ops i = some t ∧ S i = true
      · obtain ⟨i, hi, hd, hS⟩ := hex
        rw [h.done t hlt i hi hd hS, h'.done t hlt i hi hd hS]
      · have hall : ∀ i, i < n → dstOf ops i = some t → S i = false := fun i hi hd => by
          cases hS : S i with
          | false => rfl
          | true => exact absurd ⟨i, hi, hd, hS⟩ hex
        rw [h.old t hlt hall, h'.old t hlt hall]
    · rw [Array.getElem?_eq_none (by rw [h.size]; omega), Array.getElem?_eq_none (by rw [h'.size]; omega)]
  cases a; cases a'
  simp only at ht
  subst ht
  congr 1
  exact h.defers.trans h'.defers.symm

/-- Two frames that agree on the slots that an operation looks at. -/
theorem Slots.look {n : Nat} {a0 a a' : Act} {S S' : Nat → Bool} {sv sv' : Nat → Value} (h : Slots ops n a0 S sv a) (h' : Slots ops n a0 S' sv' a') {t : Nat}
    (hd : ∀ j, j < n → dstOf ops j = some t → (S j = true ∧ S' j = true ∧ sv j = sv' j) ∨ (S j = false ∧ S' j = false)) : a.tmps[t]? = a'.tmps[t]? := by
  by_cases hlt : t < a0.tmps.size
  · by_cases hex : ∃ i, i < n ∧ dstOf ops i = some t ∧ S i = true
    · obtain ⟨i, hi, he, hS⟩ := hex
      rcases hd i hi he with ⟨h1, h2, h3⟩ | ⟨h1, h2⟩
      · rw [h.done t hlt i hi he h1, h'.done t hlt i hi he h2, h3]
      · rw [h1] at hS; cases hS
    · have hno : ∀ i, i < n → dstOf ops i = some t → S i = false ∧ S' i = false := fun i hi e => by
        rcases hd i hi e with ⟨h1, _⟩ | h1
        · exact absurd ⟨i, hi, e, h1⟩ hex
        · exact h1
      rw [h.old t hlt fun i hi e => (hno i hi e).1, h'.old t hlt fun i hi e => (hno i hi e).2]
  · rw [Array.getElem?_eq_none (by rw [h.size]; omega), Array.getElem?_eq_none (by rw [h'.size]; omega)]

theorem same_look {a a' : Act} {o : Oper} (hsel : ∀ cs b, o.op ≠ .select cs b) (h : ∀ t ∈ o.looksAt ops, a.tmps[t]? = a'.tmps[t]?) :
    execOp a.eval o = execOp a'.eval o ∧ Region.wanted o (yielded ops a.tmps) = Region.wanted o (yielded ops a'.tmps) := by
  constructor
  · refine execOp_congr o hsel fun x hx => ?_
    cases x with
    | tmp t =>
      have := h t (List.mem_append_left _ (List.mem_filterMap.2 ⟨.tmp t, by simpa using hx, rfl⟩))
      simp only [Act.eval, Array.getD_eq_getD_getElem?, this]
    | _ => rfl
  · unfold Region.wanted
    cases hg : o.guard with
    | none => rfl
    | some gw =>
      obtain ⟨g, want⟩ := gw
      have hy : yielded ops a.tmps g = yielded ops a'.tmps g := by
        unfold yielded
        cases ht : (ops[g]?).bind (·.dst) with
        | none => rfl
        | some t =>
          have := h t (by simp [Oper.looksAt, hg, ht])
          simp only [Option.bind_some, this]
      simp only [hy]

def al (ops : Array Oper) (i : Nat) : Bool := ((ops[i]?).map isAlloc).getD false

theorem wpN_out {a0 : Act} {L : Act → List (Nat × TypeId × Array Value) → Prop} (gs : Nat → Nat) : ∀ (l : List Oper) (k : Nat) (a : Act) (bs : List (Nat × TypeId × Array Value)), (∀ j, j < l.length → l[j]? = ops[k + j]?) → wpN P a0 w0 L l a bs →
    (∀ i, k ≤ i → i < k + l.length → al ops i = true → w0.heap.size ≤ gs i) → (∀ b ∈ bs, ∀ i, k ≤ i → i < k + l.length → al ops i = true → b.1 ≠ gs i) →
    (∀ i j, k ≤ i → i < j → j < k + l.length → al ops i = true → al ops j = true → gs i ≠ gs j) →
    ∃ (B : Nat → Act) (ty : Nat → TypeId × Array Value) (bs' : List (Nat × TypeId × Array Value)), B k = a ∧ L (B (k + l.length)) bs' ∧
      (∀ b ∈ bs', b ∈ bs ∨ ∃ i, k ≤ i ∧ i < k + l.length ∧ al ops i = true ∧ b = (gs i, ty i)) ∧
      ∀ i o, k ≤ i → i < k + l.length → ops[i]? = some o → (isAlloc o = true → B (i + 1) = (B i).put o.dst (ptr (gs i)) ∧ Makes P a0 o (ty i).1 (ty i).2) ∧ (isAlloc o = false → B (i + 1) = B i)
  | [], k, a, bs, _, h, _, _, _ => ⟨fun _ => a, fun _ => (0, #[]), bs, rfl, h, fun b hb => .inl hb, fun i o h1 h2 => by simp at h2; omega⟩
  | o :: l, k, a, bs, hl, h, hf, hb, hd => by
    have h0 : ops[k]? = some o := by simpa using (hl 0 (by simp)).symm
    have hl' : ∀ j, j < l.length → l[j]? = ops[k + 1 + j]? := fun j hj => by
      have := hl (j + 1) (by simp; omega)
      simpa [Nat.add_assoc, Nat.add_comm 1 j] using this
    have hal : al ops k = isAlloc o := by simp [al, h0]
    have hlen : k + (o :: l).length = k + 1 + l.length := by simp; omega
    rw [hlen] at hf hb hd ⊢
    simp only [wpN] at h
    cases ha : isAlloc o with
    | true =>
      simp only [ha, if_true] at h
      obtain ⟨t, cs, hm, hk⟩ := h
      have hk' := hk (gs k) (hf k (Nat.le_refl _) (by omega) (hal.trans ha)) (fun b hbm => hb b hbm k (Nat.le_refl _) (by omega) (hal.trans ha))
      obtain ⟨B, ty, bs', hB, hL, hbs, hst⟩ := wpN_out gs l (k + 1) _ _ hl' hk' (fun i h1 h2 h3 => hf i (by omega) h2 h3)
        (fun b hbm i h1 h2 h3 => by
          rcases List.mem_cons.1 hbm with rfl | hbm
          · exact hd k i (Nat.le_refl _) (by omega) h2 (hal.trans ha) h3
          · exact hb b hbm i (by omega) h2 h3)
        (fun i j h1 h2 h3 h4 h5 => hd i j (by omega) h2 h3 h4 h5)
      refine ⟨fun i => if i = k then a else B i, fun i => if i = k then (t, cs) else ty i, bs', by simp, ?_, ?_, ?_⟩
      · show L (if k + 1 + l.length = k then a else B (k + 1 + l.length)) bs'
        rw [if_neg (by omega)]; exact hL
      · intro b hbm
        rcases hbs b hbm with h | ⟨i, h1, h2, h3, h4⟩
        · rcases List.mem_cons.1 h with rfl | h
          · exact .inr ⟨k, Nat.le_refl _, by omega, hal.trans ha, by simp⟩
          · exact .inl h
        · exact .inr ⟨i, by omega, h2, h3, by show b = (gs i, if i = k then (t, cs) else ty i); rw [if_neg (by omega)]; exact h4⟩
      · intro i o' h1 h2 h3
        by_cases hik : i = k
        · subst hik
          have : o' = o := Option.some.inj (h3.symm.trans h0)
          subst this
          simp only [if_true]
          rw [if_neg (by omega), hB]
          exact ⟨fun _ => ⟨rfl, hm⟩, fun h => by rw [ha] at h; cases h⟩
        · simp only [hik, if_false]
          rw [if_neg (by omega)]
          exact hst i o' (by omega) h2 h3
    | false =>
      simp only [ha, Bool.false_eq_true, if_false] at h
      obtain ⟨B, ty, bs', hB, hL, hbs, hst⟩ := wpN_out gs l (k + 1) _ _ hl' h (fun i h1 h2 h3 => hf i (by omega) h2 h3)
        (fun b hbm i h1 h2 h3 => hb b hbm i (by omega) h2 h3) (fun i j h1 h2 h3 h4 h5 => hd i j (by omega) h2 h3 h4 h5)
      refine ⟨fun i => if i = k then a else B i, ty, bs', by simp, ?_, ?_, ?_⟩
      · show L (if k + 1 + l.length = k then a else B (k + 1 + l.length)) bs'
        rw [if_neg (by omega)]; exact hL
      · intro b hbm
        rcases hbs b hbm with h | ⟨i, h1, h2, h3, h4⟩
        · exact .inl h
        · exact .inr ⟨i, by omega, h2, h3, h4⟩
      · intro i o' h1 h2 h3
        by_cases hik : i = k
        · subst hik
          have : o' = o := Option.some.inj (h3.symm.trans h0)
          subst this
          simp only [if_true]
          rw [if_neg (by omega), hB]
          exact ⟨fun h => (by rw [ha] at h; cases h), fun _ => rfl⟩
        · simp only [hik, if_false]
          rw [if_neg (by omega)]
          exact hst i o' (by omega) h2 h3

theorem Makes.same {a0 : Act} {o : Oper} {t t' : TypeId} {cs cs' : Array Value} (h : Makes P a0 o t cs) (h' : Makes P a0 o t' cs') (w : World) : (t, cs) = (t', cs') := by
  have e := (h w).symm.trans (h' w)
  simp only [Result.ok.injEq, true_and] at e
  have e2 : (w.alloc (.cells cs t)).heap[w.heap.size]? = (w.alloc (.cells cs' t')).heap[w.heap.size]? := by rw [e]
  rw [heap_alloc_new, heap_alloc_new] at e2
  simp only [Option.some.injEq, Obj.cells.injEq] at e2
  exact Prod.ext e2.2.1 e2.1

theorem Grows.wp {o : Oper} {a : Act} {W : World} {v : Value} (h : Grows P o a W v) {K : Act → World → Prop} {Q : Exit → Act → World → Prop}
    (hK : ∀ W', Below W.heap.size W W' → K (a.put o.dst v) W') : o.wp P a W K Q := by
  unfold Grows at h
  unfold Oper.wp
  generalize (execOp a.eval o).run P W = r at *
  cases r with
  | ok n w' =>
    cases n <;> simp only at h <;> simp only [Oper.upon]
    case value u => obtain ⟨rfl, hb⟩ := h; exact hK _ hb
    case enter f args =>
      obtain ⟨rfl, hc⟩ := h
      exact hc.mono fun e w'' ⟨he, hb⟩ => by subst he; exact hK _ hb
  | halt x w' => simp only at h

theorem pure_run {o : Oper} (hp : isPure o = true) {ρ : Operand → Value} {W W' : World} {v : Value} (h : (execOp ρ o).run P W = .ok (.value v) W') (W2 : World) : (execOp ρ o).run P W2 = .ok (.value v) W2 := by
  obtain ⟨dst, op, type, pos, after, guard⟩ := o
  cases op <;> simp only [isPure, Bool.false_eq_true] at hp
  case move x =>
    simp [execOp] at h ⊢
    exact h.1
  case extract t i =>
    simp only [execOp, Instr.extract] at h ⊢
    cases hv : ρ t <;> simp only [hv] at h ⊢
    all_goals first | (simp [stuck] at h; done) | skip
    rename_i vs
    cases hx : vs[i]? <;> simp [hx] at h ⊢
    exact h.1

theorem isAlloc_sel {o : Oper} (h : isAlloc o = true) : ∀ cs b, o.op ≠ .select cs b := fun cs b e => by simp [isAlloc, e] at h

/-- So far along whatever order: what is listed is done. -/
structure Mid (P : Program) (ops : Array Oper) (n : Nat) (a0 : Act) (w0 : World) (val : Nat → Value) (ty : Nat → TypeId × Array Value) (gs : Nat → Nat) (listed : Array Bool) (a : Act) (w : World) : Prop where
  inv : HeadInv .any ops n listed
  sees : Sees w0 w
  slots : Slots ops n a0 (fun i => listed.getD i false) (fun i => if al ops i then ptr (gs i) else val i) a
  fresh : ∀ i, i < n → al ops i = true → listed.getD i false = true → w0.heap.size ≤ gs i ∧ Blk w (gs i) (ty i).1 (ty i).2
  ne : ∀ i j, i < n → j < n → i ≠ j → al ops i = true → al ops j = true → listed.getD i false = true → listed.getD j false = true → gs i ≠ gs j

/-- What the check and the two walks give. -/
structure Given (P : Program) (ops : Array Oper) (n : Nat) (a0 : Act) (w0 : World) (val : Nat → Value) (ty : Nat → TypeId × Array Value) (A : Nat → Act) : Prop where
  sel : Region.noSelect ops = true
  nlt : n ≤ ops.size
  look : ∀ i o, i < n → ops[i]? = some o → ∀ t ∈ o.looksAt ops, ∀ j, j < n → dstOf ops j = some t → (j < i ∧ al ops j = false ∧ Region.waitsFor .any ops i j = true) ∨ (i < j ∧ Region.waitsFor .any ops j i = true)
  plain : ∀ i o, i < n → ops[i]? = some o → isAlloc o = true → o.guard = none ∧ ∀ t ∈ o.looksAt ops, ∀ j, j < n → dstOf ops j ≠ some t
  low : ∀ i o, i < n → ops[i]? = some o → ∀ e ∈ o.after, Region.binds .any e = true → e.on < i
  dist : ∀ i j, i < n → j < n → i ≠ j → dstOf ops i ≠ none → dstOf ops i ≠ dstOf ops j
  text : ∀ i, i ≤ n → Slots ops n a0 (fun j => decide (j < i) && !al ops j) val (A i)
  step : ∀ i o, i < n → ops[i]? = some o → isAlloc o = false → (Region.wanted o (yielded ops (A i).tmps) = true → ∀ W, Sees w0 W → Grows P o (A i) W (val i)) ∧ (Region.wanted o (yielded ops (A i).tmps) = false → val i = undef)
  make : ∀ i o, i < n → ops[i]? = some o → isAlloc o = true → Makes P a0 o (ty i).1 (ty i).2

variable {n : Nat} {fl : List Nat} {a0 : Act} {val : Nat → Value} {ty : Nat → TypeId × Array Value} {A : Nat → Act}

theorem Given.ops_at (G : Given P ops n a0 w0 val ty A) {i : Nat} (hi : i < n) : ∃ o, ops[i]? = some o ∧ al ops i = isAlloc o ∧ dstOf ops i = o.dst := by
  have hlt : i < ops.size := Nat.lt_of_lt_of_le hi G.nlt
  exact ⟨ops[i], by simp [hlt], by simp [al, hlt], by simp [dstOf, hlt]⟩

/-- An operation that may come up finds what the text's walk found. -/
theorem Mid.look (G : Given P ops n a0 w0 val ty A) {gs : Nat → Nat} {listed : Array Bool} {a : Act} {w : World} (M : Mid P ops n a0 w0 val ty gs listed a w) {i : Nat} {o : Oper} (hi : i < n) (ho : ops[i]? = some o)
    (hr : i ∈ Region.ready .any ops listed) : execOp a.eval o = execOp (A i).eval o ∧ Region.wanted o (yielded ops a.tmps) = Region.wanted o (yielded ops (A i).tmps) := by
  obtain ⟨_, o', ho', hall⟩ := mem_ready.1 hr
  have : o' = o := Option.some.inj (ho'.symm.trans ho)
  subst this
  refine same_look (Region.noSelect_spec G.sel i o' · · ho) fun t ht => ?_
  refine M.slots.look (G.text i (Nat.le_of_lt hi)) fun j hj hd => ?_
  rcases G.look i o' hi ho t ht j hj hd with ⟨h1, h2, h3⟩ | ⟨h1, h3⟩
  · obtain ⟨oi, hoi, e, he, hb, hon⟩ := Region.waitsFor_spec h3
    have : oi = o' := Option.some.inj (hoi.symm.trans ho)
    subst this
    have hl := hall e he hb
    rw [hon] at hl
    exact .inl ⟨hl, by simp [h1, h2], by simp [h2]⟩
  · obtain ⟨oj, hoj, e, he, hb, hon⟩ := Region.waitsFor_spec h3
    refine .inr ⟨?_, by simp; omega⟩
    cases hl : listed.getD j false with
    | false => rfl
    | true =>
      have := M.inv.closed j oj hoj hl e he hb
      rw [hon, getD_both (mem_ready.1 hr).1] at this
      cases this

theorem getD_set {listed : Array Bool} {i : Nat} (hi : i < listed.size) (j : Nat) : (listed.setIfInBounds i true).getD j false = (listed.getD j false || decide (j = i)) := by
  by_cases h : i = j
  · subst h; simp [hi]
  · rw [getD_set_ne false h]; simp [Ne.symm h]

/-- Listing one operation more, which has left v. -/
theorem Mid.val_step (G : Given P ops n a0 w0 val ty A) {gs : Nat → Nat} {listed : Array Bool} {a : Act} {w w' : World} (M : Mid P ops n a0 w0 val ty gs listed a w) {i : Nat} {o : Oper} (hi : i < n) (ho : ops[i]? = some o)
    (hal : isAlloc o = false) (hr : i ∈ Region.ready .any ops listed) (hb : Below w.heap.size w w') : Mid P ops n a0 w0 val ty gs (listed.setIfInBounds i true) (a.put o.dst (val i)) w' := by
  obtain ⟨o', ho', h1, h2⟩ := G.ops_at hi
  have : o' = o := Option.some.inj (ho'.symm.trans ho)
  subst this
  have hsz : i < listed.size := by rw [M.inv.size]; exact Nat.lt_of_lt_of_le hi G.nlt
  have hli : listed.getD i false = false := getD_both (mem_ready.1 hr).1
  have hne : ∀ j, al ops j = true → j ≠ i := fun j hj e => by subst e; rw [h1, hal] at hj; cases hj
  refine ⟨M.inv.set hr hi, sees_call M.sees hb, ?_, ?_, ?_⟩
  · rw [← h2]
    refine M.slots.put hi (fun j hj hji hn => G.dist i j hi hj (Ne.symm hji) hn) (fun j => getD_set hsz j) (fun _ _ _ => rfl) ?_
    simp [h1, hal]
  · intro j hj hja hjl
    rw [getD_set hsz, Bool.or_eq_true] at hjl
    have := M.fresh j hj hja (hjl.resolve_right (by simpa using hne j hja))
    exact ⟨this.1, this.2.below hb this.2.lt⟩
  · intro j k hj hk hjk hja hka hjl hkl
    rw [getD_set hsz, Bool.or_eq_true] at hjl hkl
    exact M.ne j k hj hk hjk hja hka (hjl.resolve_right (by simpa using hne j hja)) (hkl.resolve_right (by simpa using hne k hka))

theorem Mid.new_step (G : Given P ops n a0 w0 val ty A) {gs : Nat → Nat} {listed : Array Bool} {a : Act} {w : World} (M : Mid P ops n a0 w0 val ty gs listed a w) {i : Nat} {o : Oper} (hi : i < n) (ho : ops[i]? = some o)
    (hal : isAlloc o = true) (hr : i ∈ Region.ready .any ops listed) : ∃ gs', Mid P ops n a0 w0 val ty gs' (listed.setIfInBounds i true) (a.put o.dst (ptr w.heap.size)) (w.alloc (.cells (ty i).2 (ty i).1)) := by
  obtain ⟨o', ho', h1, h2⟩ := G.ops_at hi
  have : o' = o := Option.some.inj (ho'.symm.trans ho)
  subst this
  have hsz : i < listed.size := by rw [M.inv.size]; exact Nat.lt_of_lt_of_le hi G.nlt
  have hli : listed.getD i false = false := getD_both (mem_ready.1 hr).1
  refine ⟨fun j => if j = i then w.heap.size else gs j, M.inv.set hr hi, sees_alloc M.sees _, ?_, ?_, ?_⟩
  · rw [← h2]
    refine M.slots.put hi (fun j hj hji hn => G.dist i j hi hj (Ne.symm hji) hn) (fun j => getD_set hsz j) (fun j hj _ => by simp [hj]) ?_
    simp [h1, hal]
  · intro j hj hja hjl
    by_cases hji : j = i
    · subst hji
      simp only [if_true]
      exact ⟨M.sees.2.2.size, Blk.new _ _ _⟩
    · simp only [hji, if_false]
      rw [getD_set hsz, Bool.or_eq_true] at hjl
      have := M.fresh j hj hja (hjl.resolve_right (by simpa using hji))
      exact ⟨this.1, this.2.alloc _⟩
  · intro j k hj hk hjk hja hka hjl hkl
    rw [getD_set hsz, Bool.or_eq_true] at hjl hkl
    by_cases hji : j = i
    · subst hji
      have hkj : k ≠ j := Ne.symm hjk
      simp only [if_true, hkj, if_false]
      have := (M.fresh k hk hka (hkl.resolve_right (by simpa using hkj))).2.lt
      omega
    · by_cases hki : k = i
      · subst hki
        simp only [if_true, hji, if_false]
        have := (M.fresh j hj hja (hjl.resolve_right (by simpa using hji))).2.lt
        omega
      · simp only [hji, hki, if_false]
        exact M.ne j k hj hk hjk hja hka (hjl.resolve_right (by simpa using hji)) (hkl.resolve_right (by simpa using hki))

theorem Mid.op (G : Given P ops n a0 w0 val ty A) {Q : Exit → Act → World → Prop} {gs : Nat → Nat} {listed : Array Bool} {a : Act} {w : World} (M : Mid P ops n a0 w0 val ty gs listed a w) {i : Nat} (hi : i < n)
    (hr : i ∈ Region.ready .any ops listed) : wpOp P ops Q i (fun a' w' => ∃ gs', Mid P ops n a0 w0 val ty gs' (listed.setIfInBounds i true) a' w') a w := by
  obtain ⟨o, ho, h1, h2⟩ := G.ops_at hi
  obtain ⟨he, hw⟩ := M.look G hi ho hr
  unfold wpOp
  simp only [ho]
  cases hal : isAlloc o with
  | true =>
    obtain ⟨hg, hpl⟩ := G.plain i o hi ho hal
    have hex : execOp a.eval o = execOp a0.eval o := (same_look (Region.noSelect_spec G.sel i o · · ho) fun t ht =>
      M.slots.look (Slots.start n a0 val) fun j hj hd => absurd hd (hpl t ht j hj)).1
    have hwt : Region.wanted o (yielded ops a.tmps) = true := by simp [Region.wanted, hg]
    rw [if_pos hwt]
    left
    unfold Oper.wp
    rw [hex, G.make i o hi ho hal w, Oper.upon_value]
    exact M.new_step G hi ho hal hr
  | false =>
    obtain ⟨s1, s2⟩ := G.step i o hi ho hal
    cases hwt : Region.wanted o (yielded ops a.tmps) with
    | true =>
      rw [if_pos rfl]
      left
      have hg := s1 (hw ▸ hwt) w M.sees
      unfold Grows at hg
      rw [← he] at hg
      exact Grows.wp (v := val i) hg fun W' hb => ⟨gs, M.val_step G hi ho hal hr hb⟩
    | false =>
      rw [if_neg (by simp)]
      have := s2 (hw ▸ hwt)
      rw [← this]
      exact ⟨gs, M.val_step G hi ho hal hr (Below.refl _ _)⟩

/-- What the check gives of a region that draws. -/
structure Drawn (ops : Array Oper) (n : Nat) (fl : List Nat) : Prop where
  chain : Region.chainB .any ops n = true
  sink : n < ops.size → ∀ i, i < n → i ∉ fl → ∃ j, j ≤ n ∧ i < j ∧ j ∉ fl ∧ Region.waitsFor .any ops j i = true
  float : ∀ f, f ∈ fl → f < n ∧ ∃ o, ops[f]? = some o ∧ isPure o = true ∧ o.guard = none ∧ ∀ j oj, ops[j]? = some oj → f < j → (n ≤ j ∨ j ∈ fl) → Region.waitsFor .any ops j f = true ∨ o.apart ops oj = true

/-- While an operation ahead of the tail is not done that is no float, nothing of the tail comes up. -/
theorem Drawn.tail_waits (D : Drawn ops n fl) {listed : Array Bool} (inv : HeadInv .any ops n listed) :
    ∀ (d i : Nat), n - i = d → i < n → i ∉ fl → listed.getD i true = false → ∀ t, n ≤ t → t ∉ Region.ready .any ops listed := by
  intro d
  induction d using Nat.strongRecOn with
  | _ d ih =>
    intro i hd hi hfl hun t ht hr
    obtain ⟨_, ot, hot, hall⟩ := mem_ready.1 hr
    have htlt : t < ops.size := (Array.getElem?_eq_some_iff.1 hot).1
    by_cases htn : t = n
    · subst htn
      obtain ⟨j, hjle, hij, hjfl, hwj⟩ := D.sink (by omega) i hi hfl
      obtain ⟨oj, hoj, e, he, hb, hon⟩ := Region.waitsFor_spec hwj
      by_cases hjt : j = t
      · subst hjt
        have : oj = ot := Option.some.inj (hoj.symm.trans hot)
        subst this
        have h2 := hall e he hb
        rw [hon, getD_both hun] at h2
        cases h2
      · cases hl : listed.getD j false with
        | true =>
          have h2 := inv.closed j oj hoj hl e he hb
          rw [hon, getD_both hun] at h2
          cases h2
        | false =>
          have hjs : j < listed.size := by rw [inv.size]; omega
          exact ih (t - j) (by omega) j rfl (by omega) hjfl (getD_in hjs hl) t (Nat.le_refl _) hr
    · have h1 := List.all_eq_true.1 D.chain t (List.mem_range.2 htlt)
      simp only [Bool.or_eq_true, decide_eq_true_eq] at h1
      rcases h1 with h1 | h1
      · omega
      · obtain ⟨o', ho', e, he, hb, hon⟩ := Region.waitsFor_spec h1
        have : o' = ot := Option.some.inj (ho'.symm.trans hot)
        subst this
        have h2 := hall e he hb
        rw [hon, getD_both (inv.tail (t - 1) (by omega) (by omega))] at h2
        cases h2

def left (n : Nat) (listed : Array Bool) : Nat := ((List.range n).filter fun i => !listed.getD i false).length

theorem filter_one {p q : Nat → Bool} {i : Nat} : ∀ (l : List Nat), l.Nodup → i ∈ l → p i = true → q i = false → (∀ j, j ≠ i → q j = p j) → (l.filter p).length = (l.filter q).length + 1
  | [], _, h, _, _, _ => by cases h
  | x :: l, hn, h, hp, hq, hj => by
    obtain ⟨hx, hl⟩ := List.nodup_cons.1 hn
    by_cases hxi : x = i
    · subst hxi
      rw [List.filter_cons_of_pos hp, List.filter_cons_of_neg (by simp [hq]), List.length_cons]
      congr 2
      exact List.filter_congr fun j hjl => (hj j (fun e => hx (e ▸ hjl))).symm
    · have hil : i ∈ l := by rcases List.mem_cons.1 h with h | h; exact absurd h.symm hxi; exact h
      have ih := filter_one l hl hil hp hq hj
      rw [List.filter_cons, List.filter_cons, hj x hxi]
      cases p x <;> simp [ih]

theorem left_set {listed : Array Bool} {i : Nat} (hi : i < n) (hsz : i < listed.size) (hl : listed.getD i false = false) : left n listed = left n (listed.setIfInBounds i true) + 1 := by
  unfold left
  refine filter_one (i := i) _ List.nodup_range (List.mem_range.2 hi) (by simp only [hl, Bool.not_false]) ?_ fun j hj => ?_
  · rw [getD_set hsz]; simp
  · rw [getD_set hsz]; simp [hj]

theorem exists_least {p : Nat → Prop} : ∀ k, p k → ∃ i, p i ∧ ∀ j, j < i → ¬ p j := by
  intro k
  induction k using Nat.strongRecOn with
  | _ k ih =>
    intro hk
    by_cases h : ∃ j, j < k ∧ p j
    · obtain ⟨j, hj, hp⟩ := h; exact ih j hj hp
    · exact ⟨k, hk, fun j hj hp => h ⟨j, hj, hp⟩⟩

/-- The least operation that is not done may come up. -/
theorem Given.least (G : Given P ops n a0 w0 val ty A) {listed : Array Bool} (inv : HeadInv .any ops n listed) {i : Nat} (hi : i < n) (hl : listed.getD i false = false) (hlow : ∀ j, j < i → listed.getD j false = true) :
    i ∈ Region.ready .any ops listed := by
  obtain ⟨o, ho, _, _⟩ := G.ops_at hi
  exact mem_ready.2 ⟨getD_in (by rw [inv.size]; exact Nat.lt_of_lt_of_le hi G.nlt) hl, o, ho, fun e he hb => hlow _ (G.low i o hi ho e he hb)⟩

theorem Given.any (G : Given P ops n a0 w0 val ty A) (D : Drawn ops n fl) {Q : Exit → Act → World → Prop} (hQ : ∀ c a w, ¬ Q (.panic c) a w)
    (hT : ∀ gs listed a w, Mid P ops n a0 w0 val ty gs listed a w → (∀ i, i < n → listed.getD i false = true) → wpAny P .any ops Q (ops.size - n) listed a w) :
    ∀ (d : Nat) (gs : Nat → Nat) (listed : Array Bool) (a : Act) (w : World), left n listed = d → Mid P ops n a0 w0 val ty gs listed a w → wpAny P .any ops Q (d + (ops.size - n)) listed a w := by
  intro d
  induction d with
  | zero =>
    intro gs listed a w hd M
    rw [Nat.zero_add]
    refine hT gs listed a w M fun i hi => ?_
    cases hl : listed.getD i false with
    | true => rfl
    | false =>
      have : i ∈ (List.range n).filter fun i => !listed.getD i false := List.mem_filter.2 ⟨List.mem_range.2 hi, by rw [hl]; rfl⟩
      rw [List.length_eq_zero_iff.1 hd] at this
      cases this
  | succ d ih =>
    intro gs listed a w hd M
    have hex : ∃ i, i < n ∧ listed.getD i false = false := by
      obtain ⟨i, hi⟩ := List.exists_mem_of_length_pos (l := (List.range n).filter fun i => !listed.getD i false) (by unfold left at hd; omega)
      have := List.mem_filter.1 hi
      exact ⟨i, List.mem_range.1 this.1, by simpa using this.2⟩
    obtain ⟨k, hk⟩ := hex
    obtain ⟨i, ⟨hin, hil⟩, hmin⟩ := exists_least (p := fun i => i < n ∧ listed.getD i false = false) k hk
    have hlow : ∀ j, j < i → listed.getD j false = true := fun j hj => by
      cases hl : listed.getD j false with
      | true => rfl
      | false => exact absurd ⟨by omega, hl⟩ (hmin j hj)
    have hri := G.least M.inv hin hil hlow
    rw [show d + 1 + (ops.size - n) = (d + (ops.size - n)) + 1 by omega]
    by_cases hnf : ∃ j, j < n ∧ j ∉ fl ∧ listed.getD j false = false
    · obtain ⟨j, hj, hjf, hjl⟩ := hnf
      refine ⟨fun h0 => (by rw [h0] at hri; cases hri), fun k hk => ?_⟩
      have hkn : k < n := by
        rcases Nat.lt_or_ge k n with h | h
        · exact h
        · exact absurd hk (D.tail_waits M.inv _ j rfl hj hjf (getD_in (by rw [M.inv.size]; exact Nat.lt_of_lt_of_le hj G.nlt) hjl) k h)
      have hsz : k < listed.size := by rw [M.inv.size]; exact Nat.lt_of_lt_of_le hkn G.nlt
      have hkl : listed.getD k false = false := getD_both (mem_ready.1 hk).1
      refine wpOp_mono (fun a' w' ⟨gs', M'⟩ => ih gs' _ a' w' ?_ M') (M.op G hkn hk)
      have := left_set hkn hsz hkl
      omega
    · have hif : i ∈ fl := Classical.byContradiction fun h => hnf ⟨i, hin, h, hil⟩
      obtain ⟨_, o, ho, hp, hg, hap⟩ := D.float i hif
      have hal : isAlloc o = false := by
        obtain ⟨dst, op, type, pos, after, guard⟩ := o
        cases op <;> simp_all [isPure, isAlloc]
      obtain ⟨he, hw⟩ := M.look G hin ho hri
      have hwt : Region.wanted o (yielded ops a.tmps) = true := by simp [Region.wanted, hg]
      have hgr := (G.step i o hin ho hal).1 (hw ▸ hwt) w M.sees
      have hrun : ∀ W, (execOp a.eval o).run P W = .ok (.value (val i)) W := by
        unfold Grows at hgr
        rw [he]
        generalize hr : (execOp (A i).eval o).run P w = r at hgr
        cases r with
        | ok nx w' =>
          cases nx <;> simp only at hgr
          case value u =>
            obtain ⟨rfl, _⟩ := hgr
            exact fun W => pure_run hp hr W
          case enter f args =>
            exfalso
            obtain ⟨dst, op, type, pos, after, guard⟩ := o
            cases op <;> simp only [isPure, Bool.false_eq_true] at hp
            case move x => simp [execOp] at hr
            case extract t j =>
              simp only [execOp, Instr.extract] at hr
              cases hv : (A i).eval t <;> simp only [hv] at hr
              all_goals first | (simp [stuck] at hr; done) | skip
              rename_i vs
              cases hx : vs[j]? <;> simp [hx] at hr
        | halt x w' => simp only at hgr
      have hsz : i < listed.size := by rw [M.inv.size]; exact Nat.lt_of_lt_of_le hin G.nlt
      refine wpAny_first ho (Region.noSelect_spec G.sel) (fun c a w h => absurd h (hQ c _ w)) _ listed a w ?_ hri (.inl ⟨hwt, hrun⟩) ?_
      · intro j oj hoj hji hun hno
        have hjf : n ≤ j ∨ j ∈ fl := by
          rcases Nat.lt_or_ge j n with h | h
          · right
            exact Classical.byContradiction fun hf => hnf ⟨j, h, hf, getD_both hun⟩
          · exact .inl h
        have hij : i < j := by
          rcases Nat.lt_or_ge j i with h | h
          · have h9 := hlow j h
            rw [getD_both hun] at h9
            cases h9
          · omega
        rcases hap j oj hoj hij hjf with h | h
        · obtain ⟨oj', hoj', e, he, hb, hon⟩ := Region.waitsFor_spec h
          have : oj' = oj := Option.some.inj (hoj'.symm.trans hoj)
          subst this
          exact absurd hon (hno e he hb)
        · exact h
      · refine ih gs _ _ w ?_ (M.val_step G hin ho hal hri (Below.refl _ _))
        have := left_set hin hsz hil
        omega

theorem slots_text {n : Nat} {a0 : Act} {val : Nat → Value} {A : Nat → Act} (hA : A 0 = a0) (hdist : ∀ i j, i < n → j < n → i ≠ j → dstOf ops i ≠ none → dstOf ops i ≠ dstOf ops j)
    (hops : ∀ i, i < n → ∃ o, ops[i]? = some o ∧ al ops i = isAlloc o ∧ dstOf ops i = o.dst)
    (hst : ∀ i o, i < n → ops[i]? = some o → (isAlloc o = true → A (i + 1) = A i) ∧ (isAlloc o = false → A (i + 1) = (A i).put o.dst (val i))) :
    ∀ i, i ≤ n → Slots ops n a0 (fun j => decide (j < i) && !al ops j) val (A i) := by
  intro i
  induction i with
  | zero => intro _; rw [hA]; simpa using Slots.start n a0 val
  | succ i ih =>
    intro hi
    have hin : i < n := hi
    obtain ⟨o, ho, h1, h2⟩ := hops i hin
    obtain ⟨s1, s2⟩ := hst i o hin ho
    cases hal : isAlloc o with
    | true =>
      rw [s1 hal]
      have e : (fun j => decide (j < i + 1) && !al ops j) = (fun j => decide (j < i) && !al ops j) := by
        funext j
        by_cases hj : j = i
        · subst hj; simp [h1, hal]
        · have : (j < i + 1) = (j < i) := by simp; omega
          simp only [this]
      rw [e]
      exact ih (by omega)
    | false =>
      rw [s2 hal, ← h2]
      refine (ih (by omega)).put hin (fun j hj hji hn => hdist i j hin hj (Ne.symm hji) hn) (fun j => ?_) (fun _ _ _ => rfl) rfl
      by_cases hj : j = i
      · subst hj; simp [h1, hal]
      · have : (j < i + 1) = (j < i) := by simp; omega
        simp only [this, hj, decide_false, Bool.or_false]

theorem slots_new {n : Nat} {a0 : Act} {val : Nat → Value} {gs : Nat → Nat} {B : Nat → Act} (hB : Slots ops n a0 (fun j => decide (j < n) && !al ops j) val (B 0))
    (hdist : ∀ i j, i < n → j < n → i ≠ j → dstOf ops i ≠ none → dstOf ops i ≠ dstOf ops j)
    (hops : ∀ i, i < n → ∃ o, ops[i]? = some o ∧ al ops i = isAlloc o ∧ dstOf ops i = o.dst)
    (hst : ∀ i o, i < n → ops[i]? = some o → (isAlloc o = true → B (i + 1) = (B i).put o.dst (ptr (gs i))) ∧ (isAlloc o = false → B (i + 1) = B i)) :
    ∀ i, i ≤ n → Slots ops n a0 (fun j => decide (j < n) && (!al ops j || decide (j < i))) (fun j => if al ops j then ptr (gs j) else val j) (B i) := by
  intro i
  induction i with
  | zero =>
    intro _
    have e : (fun j => decide (j < n) && (!al ops j || decide (j < 0))) = (fun j => decide (j < n) && !al ops j) := by funext j; simp
    rw [e]
    refine ⟨hB.defers, hB.size, fun t ht i hi hd hS => ?_, hB.old⟩
    have := hB.done t ht i hi hd hS
    simp only [Bool.and_eq_true, Bool.not_eq_true'] at hS
    simp [hS.2, this]
  | succ i ih =>
    intro hi
    have hin : i < n := hi
    obtain ⟨o, ho, h1, h2⟩ := hops i hin
    obtain ⟨s1, s2⟩ := hst i o hin ho
    cases hal : isAlloc o with
    | true =>
      rw [s1 hal, ← h2]
      refine (ih (by omega)).put hin (fun j hj hji hn => hdist i j hin hj (Ne.symm hji) hn) (fun j => ?_) (fun _ _ _ => rfl) (by simp [h1, hal])
      by_cases hj : j = i
      · subst hj; simp [h1, hal, hin]
      · have : (j < i + 1) = (j < i) := by simp; omega
        simp only [this, hj, decide_false, Bool.or_false]
    | false =>
      rw [s2 hal]
      have e : (fun j => decide (j < n) && (!al ops j || decide (j < i + 1))) = (fun j => decide (j < n) && (!al ops j || decide (j < i))) := by
        funext j
        by_cases hj : j = i
        · subst hj; simp [h1, hal]
        · have : (j < i + 1) = (j < i) := by simp; omega
          simp only [this]
      rw [e]
      exact ih (by omega)

/-- What the walks over values and new variables give, whatever the order. -/
theorem grow_given {Q : Exit → Act → World → Prop} {a : Act} {w : World} {l : List Oper} (n : Nat) (hB : growP l.toArray n = true)
    (h0 : ∀ L : Act → Prop, Hid (∀ a1, wpN P a w (fun a2 bs => ∀ W, Sees w W → (∀ b ∈ bs, Blk W b.1 b.2.1 b.2.2) → wpList P l.toArray Q (l.drop n) a2 W) (l.take n) a1 [] → L a1) → wpV P l.toArray w L (l.take n) a) :
    ∃ val ty A, Given P l.toArray n a w val ty A ∧ ∀ gs listed a' w', Mid P l.toArray n a w val ty gs listed a' w' → (∀ i, i < n → listed.getD i false = true) → wpList P l.toArray Q (l.drop n) a' w' := by
  have h := h0 _ (fun _ h => h)
  clear h0
  simp only [growP, Bool.and_eq_true, decide_eq_true_eq] at hB
  obtain ⟨⟨⟨⟨hsel, hn⟩, hlook⟩, hlow⟩, hdist⟩ := hB
  have hnl : n ≤ l.length := by simpa using hn
  have htl : (l.take n).length = n := by simp; omega
  have hops : ∀ i, i < n → ∃ o, l.toArray[i]? = some o ∧ al l.toArray i = isAlloc o ∧ dstOf l.toArray i = o.dst := fun i hi => by
    have hlt : i < l.toArray.size := Nat.lt_of_lt_of_le hi hn
    exact ⟨l.toArray[i], by simp [Nat.lt_of_lt_of_le hi hnl], by simp [al, Nat.lt_of_lt_of_le hi hnl], by simp [dstOf, Nat.lt_of_lt_of_le hi hnl]⟩
  have hat : ∀ j, j < (l.take n).length → (l.take n)[j]? = l.toArray[0 + j]? := fun j hj => by
    have hj' : j < n := by rw [htl] at hj; exact hj
    simp [hj']
  have hdist' : ∀ i j, i < n → j < n → i ≠ j → dstOf l.toArray i ≠ none → dstOf l.toArray i ≠ dstOf l.toArray j := fun i j hi hj hij h0 => by
    have := List.all_eq_true.1 (List.all_eq_true.1 hdist i (List.mem_range.2 hi)) j (List.mem_range.2 hj)
    simp only [Bool.or_eq_true, beq_iff_eq, bne_iff_ne] at this
    rcases this with (h | h) | h
    · exact absurd h hij
    · exact absurd h h0
    · exact h
  obtain ⟨val, A, hA, hL, hst⟩ := wpV_out (l.take n) 0 a hat h
  rw [htl, Nat.zero_add] at hL
  obtain ⟨B0, ty, bs0, hB0, _, _, hst0⟩ := wpN_out (ops := l.toArray) (fun i => w.heap.size + i) (l.take n) 0 _ _ hat hL (fun _ _ _ _ => by omega) (fun b hb => by cases hb) (fun i j _ hij _ _ _ => by omega)
  have G : Given P l.toArray n a w val ty A := by
    refine ⟨hsel, hn, ?_, ?_, ?_, hdist', ?_, ?_, ?_⟩
    · intro i o hi ho t ht j hj hd
      have := List.all_eq_true.1 hlook i (List.mem_range.2 hi)
      simp only [ho, Bool.and_eq_true] at this
      have := List.all_eq_true.1 (List.all_eq_true.1 this.2 t ht) j (List.mem_range.2 hj)
      simp only [hd, bne_self_eq_false, Bool.false_or, Bool.or_eq_true, Bool.and_eq_true, decide_eq_true_eq, Bool.not_eq_true'] at this
      obtain ⟨oj, hoj, h1, _⟩ := hops j hj
      rcases this with this | this
      rotate_left
      · exact .inr this
      refine .inl ⟨this.1.1, ?_, this.2⟩
      have h3 := this.1.2
      rw [hoj] at h3
      rw [h1]
      simpa using h3
    · intro i o hi ho ha
      have := List.all_eq_true.1 hlook i (List.mem_range.2 hi)
      simp only [ho, Bool.and_eq_true, ha, Bool.not_true, Bool.false_or] at this
      refine ⟨by simpa using this.1.1, fun t ht j hj => ?_⟩
      have := List.all_eq_true.1 (List.all_eq_true.1 this.1.2 t ht) j (List.mem_range.2 hj)
      simpa using this
    · intro i o hi ho e he hb
      have := List.all_eq_true.1 hlow i (List.mem_range.2 hi)
      simp only [ho] at this
      have := Array.all_eq_true_iff_forall_mem.1 this e he
      simpa [hb] using this
    · exact slots_text hA hdist' hops fun i o hi ho => ⟨fun ha => (hst i o (Nat.zero_le _) (by rw [htl]; omega) ho).1 ha, fun ha => ((hst i o (Nat.zero_le _) (by rw [htl]; omega) ho).2 ha).1⟩
    · exact fun i o hi ho ha => ((hst i o (Nat.zero_le _) (by rw [htl]; omega) ho).2 ha).2
    · exact fun i o hi ho ha => ((hst0 i o (Nat.zero_le _) (by rw [htl]; omega) ho).1 ha).2
  refine ⟨val, ty, A, G, fun gs listed a' w' M hall => ?_⟩
  have hal' : ∀ i, al l.toArray i = true → 0 ≤ i → i < 0 + (l.take n).length → i < n := fun i _ _ h => by rw [htl] at h; omega
  obtain ⟨B, ty', bs', hB, hLB, hbs, hstB⟩ := wpN_out (ops := l.toArray) gs (l.take n) 0 _ _ hat hL (fun i h1 h2 h3 => (M.fresh i (hal' i h3 h1 h2) h3 (hall i (hal' i h3 h1 h2))).1) (fun b hb => by cases hb)
    (fun i j h1 h2 h3 h4 h5 => by
      rw [htl] at h3
      exact M.ne i j (by omega) (by omega) (by omega) h4 h5 (hall i (by omega)) (hall j (by omega)))
  rw [htl, Nat.zero_add] at hLB
  have hS := slots_new (gs := gs) (B := B) (by rw [hB]; have := G.text n (Nat.le_refl _); exact this) hdist' hops (fun i o hi ho => ⟨fun ha => ((hstB i o (Nat.zero_le _) (by rw [htl]; omega) ho).1 ha).1, fun ha => (hstB i o (Nat.zero_le _) (by rw [htl]; omega) ho).2 ha⟩) n (Nat.le_refl _)
  have hSe : (fun j => decide (j < n) && (!al l.toArray j || decide (j < n))) = fun i => listed.getD i false := by
    funext j
    by_cases hj : j < n
    · simp only [hj, decide_true, Bool.or_true, Bool.and_true]
      exact (hall j hj).symm
    · simp only [hj, decide_false, Bool.false_and]
      rcases Nat.lt_or_ge j l.toArray.size with hjs | hjs
      · exact (getD_both (M.inv.tail j (by omega) hjs)).symm
      · rw [Array.getD_eq_getD_getElem?, Array.getElem?_eq_none (by rw [M.inv.size]; exact hjs)]; rfl
  rw [hSe] at hS
  have hBa : B n = a' := hS.same M.slots
  rw [hBa] at hLB
  exact hLB w' M.sees fun b hb => by
    rcases hbs b hb with h | ⟨i, h1, h2, h3, rfl⟩
    · cases h
    · have hi := hal' i h3 h1 h2
      obtain ⟨o, ho, h4, _⟩ := hops i hi
      have e := Makes.same (((hstB i o h1 h2 ho).1 (h4 ▸ h3)).2) (G.make i o hi ho (h4 ▸ h3)) w
      have := (M.fresh i hi h3 (hall i hi)).2
      have e1 : (ty' i).1 = (ty i).1 := congrArg Prod.fst e
      have e2 : (ty' i).2 = (ty i).2 := congrArg Prod.snd e
      rw [← e1, ← e2] at this
      exact this

theorem drawn_of {l : List Oper} {n : Nat} {fl : List Nat} (hD : growD l.toArray n fl = true) : Drawn l.toArray n fl := by
  simp only [growD, Bool.and_eq_true] at hD
  obtain ⟨⟨⟨hch, hsink⟩, hfl⟩, _⟩ := hD
  refine ⟨hch, ?_, ?_⟩
  · intro hnn i hi hif
    have := List.all_eq_true.1 hsink i (List.mem_range.2 hi)
    rw [Bool.or_eq_true, Bool.or_eq_true] at this
    rcases this with (h | h) | h
    · exfalso
      have : n = l.toArray.size := by simpa using h
      omega
    · exact absurd (by simpa using h) hif
    · obtain ⟨j, hj, hj2⟩ := List.any_eq_true.1 h
      simp only [Bool.and_eq_true, decide_eq_true_eq, Bool.not_eq_true'] at hj2
      exact ⟨j, by have := List.mem_range.1 hj; omega, hj2.1.1, by simpa using hj2.1.2, hj2.2⟩
  · intro f hf
    have := List.all_eq_true.1 hfl f hf
    cases ho : l.toArray[f]? with
    | none => simp only [ho] at this; cases this
    | some o =>
      simp only [ho, Bool.and_eq_true, decide_eq_true_eq] at this
      refine ⟨this.1.1.1, o, rfl, this.1.1.2, by simpa using this.1.2, fun j oj hj hfj hjt => ?_⟩
      have hjs : j < l.toArray.size := (Array.getElem?_eq_some_iff.1 hj).1
      have h2 := List.all_eq_true.1 this.2 j (List.mem_range.2 hjs)
      simp only [hj, Bool.or_eq_true, Bool.not_eq_true'] at h2
      rcases h2 with (h2 | h2) | h2
      · exfalso
        rw [Bool.and_eq_false_iff] at h2
        rcases h2 with h2 | h2
        · simp at h2; omega
        · rw [Bool.or_eq_false_iff] at h2
          rcases hjt with h | h
          · have := h2.1; simp at this; omega
          · have := h2.2; simp at this; exact this h
      · exact .inl h2
      · exact .inr h2

theorem mid_start {a : Act} {w w1 : World} (hs : Sees w w1) (n : Nat) (val : Nat → Value) (ty : Nat → TypeId × Array Value) : Mid P ops n a w val ty (fun _ => 0) (Array.replicate ops.size false) a w1 := by
  refine ⟨⟨by simp, fun j oj _ hl => (by rw [getD_replicate_false] at hl; cases hl), fun t _ ht => getD_in (by simpa using ht) (getD_replicate_false _ _)⟩, hs, ?_, ?_, ?_⟩
  · have e : (fun i => (Array.replicate ops.size false).getD i false) = fun _ => false := by funext i; exact getD_replicate_false _ _
    rw [e]
    exact Slots.start n a _
  · intro i _ _ hl
    rw [getD_replicate_false] at hl; cases hl
  · intro i j _ _ _ _ _ hl
    rw [getD_replicate_false] at hl; cases hl

theorem Mid.all_listed {a0 a : Act} {w0 w : World} {val : Nat → Value} {ty : Nat → TypeId × Array Value} {gs : Nat → Nat} {listed : Array Bool} {n : Nat} (M : Mid P ops n a0 w0 val ty gs listed a w) (hall : ∀ i, i < n → listed.getD i false = true) :
    listed = Array.ofFn (n := ops.size) fun i => decide (i.1 < n) := by
  apply Array.ext (by simp [M.inv.size])
  intro i h1 h2
  have h3 : i < ops.size := by rw [M.inv.size] at h1; exact h1
  rw [Array.getElem_ofFn]
  have e : listed.getD i false = listed[i] := by simp [h1]
  rw [← e]
  by_cases hi : i < n
  · simp only [hi, decide_true]; exact hall i hi
  · simp only [hi, decide_false]; exact getD_both (M.inv.tail i (by omega) h3)

theorem grow_any {Q : Exit → Act → World → Prop} (hQ : ∀ c a w, ¬ Q (.panic c) a w) {a : Act} {w w1 : World} (hs : Sees w w1) {l : List Oper} (n : Nat) (fl : List Nat) (hB : growP l.toArray n = true) (hD : growD l.toArray n fl = true)
    (h0 : ∀ L : Act → Prop, Hid (∀ a1, wpN P a w (fun a2 bs => ∀ W, Sees w W → (∀ b ∈ bs, Blk W b.1 b.2.1 b.2.2) → wpList P l.toArray Q (l.drop n) a2 W) (l.take n) a1 [] → L a1) → wpV P l.toArray w L (l.take n) a) :
    wpAny P .any l.toArray Q l.toArray.size (Array.replicate l.toArray.size false) a w1 := by
  obtain ⟨val, ty, A, G, hfin⟩ := grow_given n hB h0
  have hleft : left n (Array.replicate l.toArray.size false) = n := by
    unfold left
    rw [List.filter_eq_self.2 (fun i _ => by rw [getD_replicate_false]; rfl), List.length_range]
  have hseq : Region.seqB .any l.toArray (l.toArray.size - n) n (Array.ofFn (n := l.toArray.size) fun i => decide (i.1 < n)) = true := by
    simp only [growD, Bool.and_eq_true] at hD
    exact hD.2
  have hnn := G.nlt
  have H := G.any (drawn_of hD) (Q := Q) hQ (fun gs listed a' w' M hall => ?_) n (fun _ => 0) _ a w1 hleft (mid_start hs n val ty)
  · rw [show n + (l.toArray.size - n) = l.toArray.size by omega] at H
    exact H
  · have hdl : (l.drop n).length = l.toArray.size - n := by simp
    have := wpAny_of_seq (md := .any) (Q' := Q) (P := P) (ops := l.toArray) (l.drop n) n listed a' w' (fun j => by simp [List.getElem?_drop]) (by rw [hdl, M.all_listed hall]; exact hseq) (hfin gs listed a' w' M hall)
    rwa [hdl] at this

/-- THE RULE: the values in the order of the text, then the new variables, then what is stored. -/
theorem wp_region_grow {id : Nat} {Q : Exit → Act → World → Prop} {a : Act} {w : World} {l : List Oper} (n : Nat) (fl : List Nat) (hm : P.follows .mixedOrders = true) (hB : growP l.toArray n = true) (hD : growD l.toArray n fl = true)
    (h0 : ∀ L : Act → Prop, Hid (∀ a1, wpN P a w (fun a2 bs => ∀ W, Sees w W → (∀ b ∈ bs, Blk W b.1 b.2.1 b.2.2) → wpList P l.toArray (NoPanic Q) (l.drop n) a2 W) (l.take n) a1 [] → L a1) → wpV P l.toArray w L (l.take n) a) :
    (Code.region id l.toArray true).wp P Q a w :=
  wp_region_noPanic (wp_region_any hm (grow_any (fun c a w h => h) (sees_drew (sees_refl _)) n fl hB hD h0))

/-- The same of a region that does not draw. -/
theorem wp_region_plain {id : Nat} {Q : Exit → Act → World → Prop} {a : Act} {w : World} {l : List Oper} (n : Nat) (hB : growP l.toArray n = true)
    (h0 : ∀ L : Act → Prop, Hid (∀ a1, wpN P a w (fun a2 bs => ∀ W, Sees w W → (∀ b ∈ bs, Blk W b.1 b.2.1 b.2.2) → wpList P l.toArray (NoPanic Q) (l.drop n) a2 W) (l.take n) a1 [] → L a1) → wpV P l.toArray w L (l.take n) a) :
    (Code.region id l.toArray false).wp P Q a w := by
  refine Code.wp_mono NoPanic.imp (wp_region_list ?_)
  obtain ⟨val, ty, A, G, hfin⟩ := grow_given (P := P) (Q := NoPanic Q) n hB h0
  have hnn := G.nlt
  have hnl : n ≤ l.length := by simpa using hnn
  have key : ∀ (d k : Nat) (gs : Nat → Nat) (listed : Array Bool) (a' : Act) (w' : World), k + d = n → (∀ i, listed.getD i false = decide (i < k)) → Mid P l.toArray n a w val ty gs listed a' w' →
      wpList P l.toArray (NoPanic Q) (l.drop k) a' w' := by
    intro d
    induction d with
    | zero =>
      intro k gs listed a' w' hk hl M
      have : k = n := by omega
      subst this
      exact hfin gs listed a' w' M fun i hi => by rw [hl]; simpa using hi
    | succ d ih =>
      intro k gs listed a' w' hk hl M
      have hkn : k < n := by omega
      have hkl : k < l.length := by omega
      rw [List.drop_eq_getElem_cons hkl]
      have hr : k ∈ Region.ready .any l.toArray listed := G.least M.inv hkn (by rw [hl]; simp) (fun j hj => by rw [hl]; simpa using hj)
      have hop := M.op (Q := NoPanic Q) G hkn hr
      have hwp : wpOp P l.toArray (NoPanic Q) k (wpList P l.toArray (NoPanic Q) (l.drop (k + 1))) a' w' := by
        refine wpOp_mono (fun a2 w2 ⟨gs', M'⟩ => ih (k + 1) gs' _ a2 w2 (by omega) (fun i => ?_) M') hop
        have hsz : k < listed.size := by rw [M.inv.size]; simpa using hkl
        rw [getD_set hsz, hl]
        by_cases hik : i = k
        · subst hik; simp
        · have : (i < k + 1) = (i < k) := by simp; omega
          simp only [this, hik, decide_false, Bool.or_false]
      unfold wpOp at hwp
      simp only [List.getElem?_toArray, List.getElem?_eq_getElem hkl] at hwp
      exact hwp
  have h1 := key n 0 (fun _ => 0) _ a w (by omega) (fun i => by rw [getD_replicate_false]; simp) (mid_start (sees_refl w) n val ty)
  simpa using h1

def RunsVal (r : Result Next) (v : Value) (W : World) : Prop := r = .ok (.value v) W
def RunsInto (r : Result Next) (f : FuncId) (args : Array Value) (W : World) : Prop := r = .ok (.enter f args) W
section steps
variable {L : Act → Prop} {o : Oper} {rest : List Oper} {a a0 : Act} {v : Value}
theorem wpV_nil (h : L a) : wpV P ops w0 L [] a := h
theorem wpV_val (ha : isAlloc o = false) (hw : Region.wanted o (yielded ops a.tmps) = true) (hr : ∀ W, Sees w0 W → RunsVal ((execOp a.eval o).run P W) v W) (h : wpV P ops w0 L rest (a.put o.dst v)) : wpV P ops w0 L (o :: rest) a := by
  simp only [wpV, ha, hw, if_true, Bool.false_eq_true, if_false]
  exact ⟨v, fun W hW => by unfold Grows; rw [show (execOp a.eval o).run P W = _ from hr W hW]; exact ⟨rfl, Below.refl _ _⟩, h⟩
theorem wpV_call (f : FuncId) (args : Array Value) (ha : isAlloc o = false) (hw : Region.wanted o (yielded ops a.tmps) = true) (hc : ∀ W, Sees w0 W → Calls P f args W (fun e W' => e = .returned v ∧ Below W.heap.size W W'))
    (hr : ∀ W, Sees w0 W → RunsInto ((execOp a.eval o).run P W) f args W) (h : wpV P ops w0 L rest (a.put o.dst v)) : wpV P ops w0 L (o :: rest) a := by
  simp only [wpV, ha, hw, if_true, Bool.false_eq_true, if_false]
  exact ⟨v, fun W hW => by unfold Grows; rw [show (execOp a.eval o).run P W = _ from hr W hW]; exact ⟨rfl, hc W hW⟩, h⟩
theorem wpV_skip (ha : isAlloc o = false) (hw : Region.wanted o (yielded ops a.tmps) = false) (h : wpV P ops w0 L rest (a.put o.dst undef)) : wpV P ops w0 L (o :: rest) a := by
  simp only [wpV, ha, hw, Bool.false_eq_true, if_false]
  exact h
theorem wpV_alloc (ha : isAlloc o = true) (h : wpV P ops w0 L rest a) : wpV P ops w0 L (o :: rest) a := by
  simp only [wpV, ha, if_true]
  exact h
variable {L2 : Act → List (Nat × TypeId × Array Value) → Prop} {bs : List (Nat × TypeId × Array Value)}
theorem wpN_nil (h : L2 a bs) : wpN P a0 w0 L2 [] a bs := h
theorem wpN_skip (ha : isAlloc o = false) (h : wpN P a0 w0 L2 rest a bs) : wpN P a0 w0 L2 (o :: rest) a bs := by
  simp only [wpN, ha, Bool.false_eq_true, if_false]
  exact h
theorem wpN_new {t : TypeId} {cs : Array Value} (ha : isAlloc o = true) (hm : ∀ (W : World), (execOp a0.eval o).run P W = .ok (.value (.pointer (some ⟨W.heap.size, 0, none⟩))) (W.alloc (.cells cs t)))
    (h : ∀ g, w0.heap.size ≤ g → (∀ b ∈ bs, b.1 ≠ g) → wpN P a0 w0 L2 rest (a.put o.dst (.pointer (some ⟨g, 0, none⟩))) ((g, t, cs) :: bs)) : wpN P a0 w0 L2 (o :: rest) a bs := by
  simp only [wpN, ha, if_true]
  exact ⟨t, cs, hm, h⟩
end steps
end
end Go.Proofs.Num
