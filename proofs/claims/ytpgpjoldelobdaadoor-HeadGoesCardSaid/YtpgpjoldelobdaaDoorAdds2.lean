/- The group of the curve's points: sums do not hang on order or brackets; plainly. -/
import Derived.Test.YtpgpjoldelobdaaDoorPtN
import Derived.Test.YtpgpjoldelobdaaDoorSteps8
import Derived.Test.YtpgpjoldelobdaaDoorEqS
set_option linter.unusedSimpArgs false
set_option linter.unusedVariables false
namespace Go.Proofs.Num
open Go Go.RowKit
section
variable {n : Nat} [NeZero n]
theorem as_x {x1 y1 x2 y2 x3 y3 d : Fin n} (h1 : y1 * y1 - x1 * x1 = 1 + d * ((x1 * x1) * (y1 * y1))) (h2 : y2 * y2 - x2 * x2 = 1 + d * ((x2 * x2) * (y2 * y2))) (h3 : y3 * y3 - x3 * x3 = 1 + d * ((x3 * x3) * (y3 * y3))) :
   ((x1 * y2 + x2 * y1) * (1 - d * ((x1 * x2) * (y1 * y2))) * y3 + (y1 * y2 + x1 * x2) * (1 + d * ((x1 * x2) * (y1 * y2))) * x3) * (1 - (d * ((x3 * x2) * (y3 * y2))) * (d * ((x3 * x2) * (y3 * y2))) + d * ((x3 * y2 + x2 * y3) * (y3 * y2 + x3 * x2)) * (x1 * y1))
   = ((x3 * y2 + x2 * y3) * (1 - d * ((x3 * x2) * (y3 * y2))) * y1 + (y3 * y2 + x3 * x2) * (1 + d * ((x3 * x2) * (y3 * y2))) * x1) * (1 - (d * ((x1 * x2) * (y1 * y2))) * (d * ((x1 * x2) * (y1 * y2))) + d * ((x1 * y2 + x2 * y1) * (y1 * y2 + x1 * x2)) * (x3 * y3)) := by grind
theorem as_y {x1 y1 x2 y2 x3 y3 d : Fin n} (h1 : y1 * y1 - x1 * x1 = 1 + d * ((x1 * x1) * (y1 * y1))) (h2 : y2 * y2 - x2 * x2 = 1 + d * ((x2 * x2) * (y2 * y2))) (h3 : y3 * y3 - x3 * x3 = 1 + d * ((x3 * x3) * (y3 * y3))) :
   ((y1 * y2 + x1 * x2) * (1 + d * ((x1 * x2) * (y1 * y2))) * y3 + (x1 * y2 + x2 * y1) * (1 - d * ((x1 * x2) * (y1 * y2))) * x3) * (1 - (d * ((x3 * x2) * (y3 * y2))) * (d * ((x3 * x2) * (y3 * y2))) - d * ((x3 * y2 + x2 * y3) * (y3 * y2 + x3 * x2)) * (x1 * y1))
   = ((y3 * y2 + x3 * x2) * (1 + d * ((x3 * x2) * (y3 * y2))) * y1 + (x3 * y2 + x2 * y3) * (1 - d * ((x3 * x2) * (y3 * y2))) * x1) * (1 - (d * ((x1 * x2) * (y1 * y2))) * (d * ((x1 * x2) * (y1 * y2))) - d * ((x1 * y2 + x2 * y1) * (y1 * y2 + x1 * x2)) * (x3 * y3)) := by grind
theorem left_x {e d u v X Y x3 y3 l : Fin n} (h1 : (1 + e) * u = X) (h2 : (1 - e) * v = Y) (h3 : (1 + d * ((u * x3) * (v * y3))) * l = u * y3 + x3 * v) : (1 - e * e + d * (X * Y) * (x3 * y3)) * l = X * (1 - e) * y3 + Y * (1 + e) * x3 := by grind
theorem left_y {e d u v X Y x3 y3 l : Fin n} (h1 : (1 + e) * u = X) (h2 : (1 - e) * v = Y) (h3 : (1 - d * ((u * x3) * (v * y3))) * l = v * y3 + u * x3) : (1 - e * e - d * (X * Y) * (x3 * y3)) * l = Y * (1 + e) * y3 + X * (1 - e) * x3 := by grind
theorem den_x {e d u v X Y x3 y3 : Fin n} (h1 : (1 + e) * u = X) (h2 : (1 - e) * v = Y) : 1 - e * e + d * (X * Y) * (x3 * y3) = ((1 + e) * (1 - e)) * (1 + d * ((u * x3) * (v * y3))) := by grind
theorem den_y {e d u v X Y x3 y3 : Fin n} (h1 : (1 + e) * u = X) (h2 : (1 - e) * v = Y) : 1 - e * e - d * (X * Y) * (x3 * y3) = ((1 + e) * (1 - e)) * (1 - d * ((u * x3) * (v * y3))) := by grind
theorem cross {A B A' B' l r : Fin n} (h1 : B * l = A) (h2 : B' * r = A') (h : A * B' = A' * B) : (B * B') * l = (B * B') * r := by grind
theorem quo_m {D w x N : Fin n} (h : D * w = 1) (hx : x = N * w) : D * x = N := by grind
end
/-- One point is the sum of two. -/
def SumQ (x1 y1 x2 y2 x y : Fin pF) : Prop := (1 + dQ * ((x1 * x2) * (y1 * y2))) * x = x1 * y2 + x2 * y1 ∧ (1 - dQ * ((x1 * x2) * (y1 * y2))) * y = y1 * y2 + x1 * x2
theorem SumQ.comm {x1 y1 x2 y2 x y : Fin pF} (h : SumQ x1 y1 x2 y2 x y) : SumQ x2 y2 x1 y1 x y := by
  obtain ⟨h1, h2⟩ := h
  refine ⟨?_, ?_⟩ <;> grind
theorem SumQ.uniq {x1 y1 x2 y2 x y u v : Fin pF} (o1 : OnQ x1 y1) (o2 : OnQ x2 y2) (h : SumQ x1 y1 x2 y2 x y) (k : SumQ x1 y1 x2 y2 u v) : x = u ∧ y = v :=
  ⟨fz_cancel (compl_p o1 o2) (h.1.trans k.1.symm), fz_cancel (compl_m o1 o2) (h.2.trans k.2.symm)⟩
theorem SumQ.assoc {x1 y1 x2 y2 x3 y3 u v s t l m r q : Fin pF} (o1 : OnQ x1 y1) (o2 : OnQ x2 y2) (o3 : OnQ x3 y3) (ou : OnQ u v) (os : OnQ s t) (h12 : SumQ x1 y1 x2 y2 u v) (h23 : SumQ x2 y2 x3 y3 s t) (hl : SumQ u v x3 y3 l m) (hr : SumQ x1 y1 s t r q) : l = r ∧ m = q := by
  have h32 := h23.comm
  have hr' := hr.comm
  have n1 : (1 + dQ * ((x1 * x2) * (y1 * y2))) * (1 - dQ * ((x1 * x2) * (y1 * y2))) ≠ 0 := fz_ne (compl_p o1 o2) (compl_m o1 o2)
  have n3 : (1 + dQ * ((x3 * x2) * (y3 * y2))) * (1 - dQ * ((x3 * x2) * (y3 * y2))) ≠ 0 := fz_ne (compl_p o3 o2) (compl_m o3 o2)
  constructor
  · refine fz_cancel ?_ (cross (left_x h12.1 h12.2 hl.1) (left_x h32.1 h32.2 hr'.1) (as_x o1 o2 o3))
    rw [den_x h12.1 h12.2, den_x h32.1 h32.2]
    exact fz_ne (fz_ne n1 (compl_p ou o3)) (fz_ne n3 (compl_p os o1))
  · refine fz_cancel ?_ (cross (left_y h12.1 h12.2 hl.2) (left_y h32.1 h32.2 hr'.2) (as_y o1 o2 o3))
    rw [den_y h12.1 h12.2, den_y h32.1 h32.2]
    exact fz_ne (fz_ne n1 (compl_m ou o3)) (fz_ne n3 (compl_m os o1))
theorem sum_of {a b c d : Nat} (o1 : OnQ (fq a) (fq b)) (o2 : OnQ (fq c) (fq d)) : SumQ (fq a) (fq b) (fq c) (fq d) (fq (sumX a b c d)) (fq (sumY a b c d)) := by
  have hw : fq (fadd 1 (sumAll a b c d)) ≠ 0 := by
    rw [fq_add, fq_one, sumAll_q]
    exact compl_p o1 o2
  have hv : fq (fsub 1 (sumAll a b c d)) ≠ 0 := by
    rw [fq_sub, fq_one, sumAll_q]
    exact compl_m o1 o2
  have hw2 := fq_inv hw
  have hv2 := fq_inv hv
  constructor
  · refine quo_m (w := fq (finv (fadd 1 (sumAll a b c d)))) ?_ ?_
    · have e9 : fq (fadd 1 (sumAll a b c d)) = 1 + dQ * ((fq a * fq c) * (fq b * fq d)) := by rw [fq_add, fq_one, sumAll_q]
      rw [e9] at hw2
      exact hw2
    · unfold sumX
      rw [fq_mul, fq_add, fq_mul, fq_mul]
  · refine quo_m (w := fq (finv (fsub 1 (sumAll a b c d)))) ?_ ?_
    · have e9 : fq (fsub 1 (sumAll a b c d)) = 1 - dQ * ((fq a * fq c) * (fq b * fq d)) := by rw [fq_sub, fq_one, sumAll_q]
      rw [e9] at hv2
      exact hv2
    · unfold sumY
      rw [fq_mul, fq_add, fq_mul, fq_mul]
/-- Two are one point. -/
structure Eqv (p q : P4) : Prop where
  x : affX p = affX q
  y : affY p = affY q
theorem Eqv.rfl {p : P4} : Eqv p p := ⟨Eq.refl _, Eq.refl _⟩
theorem Eqv.symm {p q : P4} (h : Eqv p q) : Eqv q p := ⟨h.x.symm, h.y.symm⟩
theorem Eqv.trans {p q r : P4} (h : Eqv p q) (k : Eqv q r) : Eqv p r := ⟨h.x.trans k.x, h.y.trans k.y⟩
theorem add_sum {p q : P4} (hp : PtQ p) (hq : PtQ q) : SumQ (fq (affX p)) (fq (affY p)) (fq (affX q)) (fq (affY q)) (fq (affX (addP p q))) (fq (affY (addP p q))) := by
  obtain ⟨a, b⟩ := aff_add hp hq
  rw [a, b]
  exact sum_of hp.on hq.on
theorem eqv_of {p q : P4} (h : fq (affX p) = fq (affX q) ∧ fq (affY p) = fq (affY q)) : Eqv p q := ⟨fq_inj (affX_ltp _) (affX_ltp _) h.1, fq_inj (affY_ltp _) (affY_ltp _) h.2⟩
theorem add_comm {p q : P4} (hp : PtQ p) (hq : PtQ q) : Eqv (addP p q) (addP q p) := eqv_of (SumQ.uniq hp.on hq.on (add_sum hp hq) (add_sum hq hp).comm)
theorem add_assoc {p q r : P4} (hp : PtQ p) (hq : PtQ q) (hr : PtQ r) : Eqv (addP (addP p q) r) (addP p (addP q r)) :=
  eqv_of (SumQ.assoc hp.on hq.on hr.on (addP_ptq hp hq).on (addP_ptq hq hr).on (add_sum hp hq) (add_sum hq hr) (add_sum (addP_ptq hp hq) hr) (add_sum hp (addP_ptq hq hr)))
theorem zero_ptq : PtQ zeroP := (ofRightP right_zero).2
theorem fmul_0 (x : Nat) : fmul 0 x = 0 := by
  unfold fmul
  rw [Nat.zero_mul, Nat.zero_mod]
theorem zero_x : affX zeroP = 0 := fmul_0 (finv zeroP.z)
theorem zero_y : affY zeroP = 1 := fmul_inv (x := 1) (by decide)
theorem add_zero {p : P4} (hp : PtQ p) : Eqv (addP p zeroP) p := by
  refine eqv_of (SumQ.uniq hp.on zero_ptq.on (add_sum hp zero_ptq) ?_)
  rw [zero_x, zero_y, fq_zero, fq_one]
  refine ⟨?_, ?_⟩ <;> grind
theorem zero_add {p : P4} (hp : PtQ p) : Eqv (addP zeroP p) p := (add_comm zero_ptq hp).trans (add_zero hp)
end Go.Proofs.Num

namespace Go.Proofs.Num
open Go Go.RowKit
section
end
theorem textQ_len (x y : Nat) : (textQ x y).length = 32 := by unfold textQ; rw [List.length_set, bytesN_len]
end Go.Proofs.Num

namespace Go.Proofs.Num
open Go Go.RowKit
/-- The operations ahead whose slots an operation looks at. -/
def depsOf (ops : Array Oper) (n i : Nat) : List Nat := (List.range n).filter fun j => decide (j < i) && match ops[i]?, dstOf ops j with
 | some o, some t => (o.looksAt ops).contains t
 | _, _ => false
def frameOf (ops : Array Oper) (a0 : Act) (vs : Nat → Value) : List Nat → Act
 | [] => a0
 | j :: js => (frameOf ops a0 vs js).put (dstOf ops j) (vs j)
abbrev Rel := (Nat → Value) → Value → Nat → World → Prop
def relAt (Rs : List Rel) (i : Nat) : Rel := Rs.getD i fun _ _ _ _ => True
def Keeps (R : Rel) : Prop := ∀ vs v g W W', R vs v g W → Sees W W' → R vs v g W'
def Owns (R : Rel) : Prop := ∀ vs v g W, R vs v g W → g < W.heap.size
def Local (R : Rel) (ds : List Nat) : Prop := ∀ vs vs' v g W, (∀ j ∈ ds, vs j = vs' j) → R vs v g W → R vs' v g W
/-- The rule of one operation. -/
def RuleOf (P : Program) (ops : Array Oper) (Q : Exit → Act → World → Prop) (n : Nat) (cr : List Nat) (Rs : List Rel) (a0 : Act) (w0 : World) (i : Nat) (o : Oper) : Prop :=
 ∀ (vs : Nat → Value) (gs : Nat → Nat) (W : World), Sees w0 W → (∀ j ∈ depsOf ops n i, relAt Rs j vs (vs j) (gs j) W) →
  ∀ K : Act → World → Prop, (∀ v g W', Sees W W' → relAt Rs i vs v g W' → (i ∈ cr → W.heap.size ≤ g) → K ((frameOf ops a0 vs (depsOf ops n i)).put o.dst v) W') →
   wpList P ops (Exit.then K Q) [o] (frameOf ops a0 vs (depsOf ops n i)) W
section
variable {P : Program} {ops : Array Oper} {w0 : World} {n : Nat} {cr : List Nat} {Rs : List Rel} {a0 : Act} {Q : Exit → Act → World → Prop}
structure MidR (ops : Array Oper) (n : Nat) (cr : List Nat) (Rs : List Rel) (a0 : Act) (w0 : World) (vs : Nat → Value) (gs : Nat → Nat) (listed : Array Bool) (a : Act) (w : World) : Prop where
 inv : HeadInv .any ops n listed
 sees : Sees w0 w
 slots : Slots ops n a0 (fun i => listed.getD i false) vs a
 rel : ∀ i, i < n → listed.getD i false = true → relAt Rs i vs (vs i) (gs i) w
 ne : ∀ i j, i < n → j < n → i ≠ j → i ∈ cr → j ∈ cr → listed.getD i false = true → listed.getD j false = true → gs i ≠ gs j
structure GivenR (P : Program) (ops : Array Oper) (Q : Exit → Act → World → Prop) (n : Nat) (cr : List Nat) (Rs : List Rel) (a0 : Act) (w0 : World) : Prop where
 sel : Region.noSelect ops = true
 nlt : n ≤ ops.size
 look : ∀ i o, i < n → ops[i]? = some o → ∀ t ∈ o.looksAt ops, ∀ j, j < n → dstOf ops j = some t → (j < i ∧ Region.waitsFor .any ops i j = true) ∨ (i < j ∧ Region.waitsFor .any ops j i = true)
 low : ∀ i o, i < n → ops[i]? = some o → ∀ e ∈ o.after, Region.binds .any e = true → e.on < i
 dist : ∀ i j, i < n → j < n → i ≠ j → dstOf ops i ≠ none → dstOf ops i ≠ dstOf ops j
 keeps : ∀ i, i < n → Keeps (relAt Rs i)
 owns : ∀ i, i ∈ cr → Owns (relAt Rs i)
 local_ : ∀ i, i < n → Local (relAt Rs i) (depsOf ops n i)
 rule : ∀ i o, i < n → ops[i]? = some o → RuleOf P ops Q n cr Rs a0 w0 i o
theorem frameOf_slots (hdist : ∀ i j, i < n → j < n → i ≠ j → dstOf ops i ≠ none → dstOf ops i ≠ dstOf ops j) (vs : Nat → Value) : ∀ (js : List Nat), (∀ j ∈ js, j < n) → js.Nodup → Slots ops n a0 (fun i => decide (i ∈ js)) vs (frameOf ops a0 vs js)
 | [], _, _ => by
  have h := Slots.start (ops := ops) n a0 vs
  show Slots ops n a0 _ vs a0
  simpa using h
 | j :: js, hj, hn => by
  have h := frameOf_slots hdist vs js (fun k hk => hj k (List.mem_cons_of_mem _ hk)) (List.nodup_cons.1 hn).2
  have hjn := hj j (List.mem_cons_self ..)
  exact h.put hjn (fun k hk hkj hno => hdist j k hjn hk (Ne.symm hkj) hno) (fun k => by simp [List.mem_cons, Bool.or_comm]) (fun _ _ _ => rfl) rfl
theorem depsOf_lt {i j : Nat} (h : j ∈ depsOf ops n i) : j < n ∧ j < i := by
 have := List.mem_filter.1 h
 simp only [Bool.and_eq_true, decide_eq_true_eq] at this
 exact ⟨List.mem_range.1 this.1, this.2.1⟩
theorem depsOf_mem {i j : Nat} {o : Oper} {t : Tmp} (hj : j < n) (hji : j < i) (ho : ops[i]? = some o) (hd : dstOf ops j = some t) (ht : t ∈ o.looksAt ops) : j ∈ depsOf ops n i := by
 refine List.mem_filter.2 ⟨List.mem_range.2 hj, ?_⟩
 simp [hji, ho, hd, ht]
theorem depsOf_nodup (i : Nat) : (depsOf ops n i).Nodup := List.nodup_range.filter _
theorem getD_put_eq {a b : Act} {d : Option Tmp} {u v : Value} (hs : a.tmps.size = b.tmps.size) (h : b.put d u = b.put d v) : a.put d u = a.put d v := by
 cases d with
 | none => rfl
 | some t =>
  by_cases ht : t < b.tmps.size
  ·
   have h1 := congrArg (fun q : Act => q.tmps[t]?) h
   simp [Act.put, Array.getElem?_setIfInBounds, ht] at h1
   rw [h1]
  ·
   have e : ∀ w : Value, a.put (some t) w = a := fun w => by
    have hge : a.tmps.size ≤ t := by rw [hs]; exact Nat.le_of_not_lt ht
    simp only [Act.put]
    rw [Array.setIfInBounds_eq_of_size_le hge]
   rw [e, e]
/-- What one frame shows, another one that agrees shows. -/
theorem upon_move {o : Oper} {a b : Act} {S : Value → World → Prop} {K : Act → World → Prop} {r : Result Next} (hQ : ∀ c a w, ¬ Q (.panic c) a w) (hs : a.tmps.size = b.tmps.size)
  (h : o.upon P b (fun a' w' => ∃ v, a' = b.put o.dst v ∧ S v w') (Exit.then (fun a' w' => ∃ v, a' = b.put o.dst v ∧ S v w') Q) r) (hk : ∀ v w', S v w' → K (a.put o.dst v) w') : o.upon P a K Q r := by
 have key : ∀ u w', (∃ v, b.put o.dst u = b.put o.dst v ∧ S v w') → K (a.put o.dst u) w' := fun u w' ⟨v, h1, h2⟩ => by
  rw [getD_put_eq hs h1]
  exact hk v w' h2
 cases r with
 | ok nx w' =>
  cases nx <;> simp only [Oper.upon] at h ⊢
  case value u => exact key u w' h
  case skip => exact key undef w' h
  case defer d =>
   obtain ⟨v, h1, _⟩ := h
   exfalso
   have h2 := congrArg (fun q : Act => q.defers.length) h1
   cases hd : o.dst <;> simp [Act.put, hd] at h2
  case enter f args =>
   refine Calls.mono h fun e w'' he => ?_
   cases e
   ·
    exact key _ _ he
   ·
    exact absurd he (hQ _ _ _)
   ·
    exact letsOut_then he
  case row row args => exact Rows.mono h fun u w'' he => key u w'' he
 | halt x w' =>
  cases x <;> simp only [Oper.upon] at h ⊢
  exact absurd h (hQ _ _ _)
theorem MidR.agree (G : GivenR P ops Q n cr Rs a0 w0) {vs : Nat → Value} {gs : Nat → Nat} {listed : Array Bool} {a : Act} {w : World} (M : MidR ops n cr Rs a0 w0 vs gs listed a w) {i : Nat} {o : Oper} (hi : i < n) (ho : ops[i]? = some o)
  (hr : i ∈ Region.ready .any ops listed) : (∀ j ∈ depsOf ops n i, listed.getD j false = true) ∧ execOp a.eval o = execOp (frameOf ops a0 vs (depsOf ops n i)).eval o ∧
   Region.wanted o (yielded ops a.tmps) = Region.wanted o (yielded ops (frameOf ops a0 vs (depsOf ops n i)).tmps) := by
 obtain ⟨_, o', ho', hall⟩ := mem_ready.1 hr
 have : o' = o := Option.some.inj (ho'.symm.trans ho)
 subst this
 have hw : ∀ j, Region.waitsFor .any ops i j = true → listed.getD j false = true := fun j h3 => by
  obtain ⟨oi, hoi, e, he, hb, hon⟩ := Region.waitsFor_spec h3
  have : oi = o' := Option.some.inj (hoi.symm.trans ho)
  subst this
  have hl := hall e he hb
  rwa [hon] at hl
 have hno : ∀ j, Region.waitsFor .any ops j i = true → listed.getD j false = false := fun j h3 => by
  obtain ⟨oj, hoj, e, he, hb, hon⟩ := Region.waitsFor_spec h3
  cases hl : listed.getD j false with
  | false => rfl
  | true =>
   have := M.inv.closed j oj hoj hl e he hb
   rw [hon, getD_both (mem_ready.1 hr).1] at this
   cases this
 have hdep : ∀ j ∈ depsOf ops n i, listed.getD j false = true := fun j hj => by
  have h1 := List.mem_filter.1 hj
  simp only [ho, Bool.and_eq_true, decide_eq_true_eq] at h1
  obtain ⟨h2, h3, h4⟩ := h1
  have hjn := List.mem_range.1 h2
  cases hd : dstOf ops j with
  | none => simp [hd] at h4
  | some t =>
   simp only [hd] at h4
   rcases G.look i o' hi ho t (by simpa using h4) j hjn hd with ⟨_, h5⟩ | ⟨h5, _⟩
   ·
    exact hw j h5
   ·
    omega
 refine ⟨hdep, same_look (Region.noSelect_spec G.sel i o' · · ho) fun t ht => ?_⟩
 refine M.slots.look (frameOf_slots G.dist vs _ (fun j hj => (depsOf_lt hj).1) (depsOf_nodup i)) fun j hj hd => ?_
 rcases G.look i o' hi ho t ht j hj hd with ⟨h1, h3⟩ | ⟨h1, h3⟩
 ·
  exact .inl ⟨hw j h3, by simpa using depsOf_mem hj h1 ho hd ht, rfl⟩
 ·
  refine .inr ⟨hno j h3, ?_⟩
  simp only [decide_eq_false_iff_not]
  intro hm
  have := (depsOf_lt hm).2
  omega
theorem MidR.step (G : GivenR P ops Q n cr Rs a0 w0) {vs : Nat → Value} {gs : Nat → Nat} {listed : Array Bool} {a : Act} {w : World} (M : MidR ops n cr Rs a0 w0 vs gs listed a w) {i : Nat} (hi : i < n) {o : Oper} (ho : ops[i]? = some o)
  (hr : i ∈ Region.ready .any ops listed) {v : Value} {w' : World} (h : ∃ g, Sees w w' ∧ relAt Rs i vs v g w' ∧ (i ∈ cr → w.heap.size ≤ g)) : ∃ vs' gs', MidR ops n cr Rs a0 w0 vs' gs' (listed.setIfInBounds i true) (a.put o.dst v) w' := by
 have hlt : i < ops.size := Nat.lt_of_lt_of_le hi G.nlt
 have hdst : dstOf ops i = o.dst := by simp [dstOf, ho]
 have hsz : i < listed.size := by rw [M.inv.size]; exact hlt
 have hli : listed.getD i false = false := getD_both (mem_ready.1 hr).1
 obtain ⟨g, h1, h2, h3⟩ := h
 refine ⟨fun j => if j = i then v else vs j, fun j => if j = i then g else gs j, M.inv.set hr hi, sees_of (M.sees.2.2.trans (h1.2.2.mono M.sees.2.2.size)), ?_, ?_, ?_⟩
 ·
  rw [← hdst]
  exact M.slots.put hi (fun j hj hji hn => G.dist i j hi hj (Ne.symm hji) hn) (fun j => getD_set hsz j) (fun j hj _ => by simp [hj]) (by simp)
 ·
  intro j hj hl
  rw [getD_set hsz, Bool.or_eq_true] at hl
  by_cases hji : j = i
  ·
   subst hji
   simp only [if_true]
   exact G.local_ j hj _ _ _ _ _ (fun k hk => by rw [if_neg (Nat.ne_of_lt (depsOf_lt hk).2)]) h2
  ·
   simp only [hji, if_false]
   have hlj := hl.resolve_right (by simpa using hji)
   refine G.local_ j hj _ _ _ _ _ (fun k hk => ?_) (G.keeps j hj _ _ _ _ _ (M.rel j hj hlj) h1)
   have hki : k ≠ i := fun e => by
    subst e
    have hjl : j < ops.size := Nat.lt_of_lt_of_le hj G.nlt
    have hoj : ops[j]? = some ops[j] := by simp [hjl]
    have hm := List.mem_filter.1 hk
    simp only [hoj, Bool.and_eq_true, decide_eq_true_eq] at hm
    obtain ⟨_, hlt2, h4⟩ := hm
    cases hd : dstOf ops k with
    | none => simp [hd] at h4
    | some t =>
     simp only [hd] at h4
     rcases G.look j _ hj hoj t (by simpa using h4) k hi hd with ⟨_, h5⟩ | ⟨h5, _⟩
     ·
      obtain ⟨oj, hoj', e, he, hb, hon⟩ := Region.waitsFor_spec h5
      have := M.inv.closed j oj hoj' hlj e he hb
      rw [hon, hli] at this
      cases this
     ·
      omega
   rw [if_neg hki]
 ·
  intro j k hj hk hjk hjc hkc hjl hkl
  rw [getD_set hsz, Bool.or_eq_true] at hjl hkl
  by_cases hji : j = i
  ·
   subst hji
   have hkj : k ≠ j := Ne.symm hjk
   simp only [if_true, hkj, if_false]
   have := G.owns k hkc _ _ _ _ (M.rel k hk (hkl.resolve_right (by simpa using hkj)))
   have := h3 hjc
   omega
  ·
   by_cases hki : k = i
   ·
    subst hki
    simp only [if_true, hji, if_false]
    have := G.owns j hjc _ _ _ _ (M.rel j hj (hjl.resolve_right (by simpa using hji)))
    have := h3 hkc
    omega
   ·
    simp only [hji, hki, if_false]
    exact M.ne j k hj hk hjk hjc hkc (hjl.resolve_right (by simpa using hji)) (hkl.resolve_right (by simpa using hki))
theorem MidR.op (G : GivenR P ops Q n cr Rs a0 w0) (hQ : ∀ c a w, ¬ Q (.panic c) a w) {vs : Nat → Value} {gs : Nat → Nat} {listed : Array Bool} {a : Act} {w : World} (M : MidR ops n cr Rs a0 w0 vs gs listed a w) {i : Nat} (hi : i < n)
  (hr : i ∈ Region.ready .any ops listed) : wpOp P ops Q i (fun a' w' => ∃ vs' gs', MidR ops n cr Rs a0 w0 vs' gs' (listed.setIfInBounds i true) a' w') a w := by
 have hlt : i < ops.size := Nat.lt_of_lt_of_le hi G.nlt
 have ho : ops[i]? = some ops[i] := by simp [hlt]
 have hdst : dstOf ops i = ops[i].dst := by simp [dstOf, hlt]
 obtain ⟨hdep, he, hw⟩ := M.agree G hi ho hr
 have hsz : i < listed.size := by rw [M.inv.size]; exact hlt
 have hli : listed.getD i false = false := getD_both (mem_ready.1 hr).1
 have R0 := G.rule i _ hi ho vs gs w M.sees (fun j hj => M.rel j (depsOf_lt hj).1 (hdep j hj))
  (fun a' w' => ∃ v, a' = (frameOf ops a0 vs (depsOf ops n i)).put ops[i].dst v ∧ ∃ g, Sees w w' ∧ relAt Rs i vs v g w' ∧ (i ∈ cr → w.heap.size ≤ g))
  (fun v g W' h1 h2 h3 => ⟨v, rfl, g, h1, h2, h3⟩)
 have hstep : ∀ v w', (∃ g, Sees w w' ∧ relAt Rs i vs v g w' ∧ (i ∈ cr → w.heap.size ≤ g)) → ∃ vs' gs', MidR ops n cr Rs a0 w0 vs' gs' (listed.setIfInBounds i true) (a.put ops[i].dst v) w' := fun v w' h => M.step G hi ho hr h
 have hss : a.tmps.size = (frameOf ops a0 vs (depsOf ops n i)).tmps.size := by
  rw [M.slots.size, (frameOf_slots G.dist vs _ (fun j hj => (depsOf_lt hj).1) (depsOf_nodup i)).size]
 unfold wpOp
 simp only [ho]
 unfold wpList at R0
 cases hwt : Region.wanted ops[i] (yielded ops a.tmps) with
 | true =>
  rw [if_pos rfl]
  rw [if_pos (hw ▸ hwt)] at R0
  rcases R0 with h | ⟨h1, h2⟩
  ·
   left
   unfold Oper.wp
   rw [he]
   refine upon_move (S := fun v w' => ∃ g, Sees w w' ∧ relAt Rs i vs v g w' ∧ (i ∈ cr → w.heap.size ≤ g)) hQ hss ?_ hstep
   exact h
  ·
   right
   refine ⟨?_, letsOut_then h2⟩
   unfold Oper.asks at h1 ⊢
   rw [he]
   exact h1
 | false =>
  rw [if_neg (by simp)]
  rw [if_neg (by rw [← hw, hwt]; simp)] at R0
  obtain ⟨v, h1, h2⟩ := R0
  have := hstep v w h2
  rwa [← getD_put_eq hss h1] at this
theorem GivenR.least (G : GivenR P ops Q n cr Rs a0 w0) {listed : Array Bool} (inv : HeadInv .any ops n listed) {i : Nat} (hi : i < n) (hl : listed.getD i false = false) (hlow : ∀ j, j < i → listed.getD j false = true) :
  i ∈ Region.ready .any ops listed := by
 have hlt : i < ops.size := Nat.lt_of_lt_of_le hi G.nlt
 have ho : ops[i]? = some ops[i] := by simp [hlt]
 exact mem_ready.2 ⟨getD_in (by rw [inv.size]; exact hlt) hl, _, ho, fun e he hb => hlow _ (G.low i _ hi ho e he hb)⟩
theorem pure_upon {o : Oper} {b : Act} {w : World} {K : Act → World → Prop} {ρ : Operand → Value} (hp : isPure o = true) (hQ : ∀ c a w, ¬ Q (.panic c) a w) (h : o.upon P b K (Exit.then K Q) ((execOp ρ o).run P w)) : ∃ u, (∀ W, (execOp ρ o).run P W = .ok (.value u) W) ∧ K (b.put o.dst u) w := by
 obtain ⟨dst, op, type, pos, after, guard⟩ := o
 cases op <;> simp only [isPure, Bool.false_eq_true] at hp
 case move x =>
  refine ⟨ρ x, fun W => by simp [execOp], ?_⟩
  simpa [execOp, Oper.upon] using h
 case extract t j =>
  simp only [execOp, Instr.extract] at h ⊢
  cases hv : ρ t <;> simp only [hv] at h ⊢
  all_goals first | (exfalso; simp [stuck, Oper.upon] at h; done) | skip
  rename_i vs
  cases hx : vs[j]? with
  | none => exfalso; simp [hx, stuck, Oper.upon] at h
  | some u =>
   refine ⟨u, fun W => by simp, ?_⟩
   simpa [hx, Oper.upon] using h
theorem pure_asks {o : Oper} {b : Act} {w : World} (hp : isPure o = true) : ¬ o.asks P b w := by
 obtain ⟨dst, op, type, pos, after, guard⟩ := o
 cases op <;> simp only [isPure, Bool.false_eq_true] at hp
 case move x =>
  rintro ⟨h, _⟩
  simp only [execOp] at h
  exact absurd (show noRoomEvent ∈ (#[] : Array Event) from h) (by simp)
 case extract t j =>
  rintro ⟨h, _⟩
  simp only [execOp, Instr.extract] at h
  cases hv : b.eval t
  all_goals
   simp only [hv] at h
  case tuple vs =>
   cases hx : vs[j]? with
   | none =>
    simp only [hx] at h
    exact absurd (show noRoomEvent ∈ (#[] : Array Event) from h) (by simp)
   | some u =>
    simp only [hx] at h
    exact absurd (show noRoomEvent ∈ (#[] : Array Event) from h) (by simp)
  all_goals exact absurd (show noRoomEvent ∈ (#[] : Array Event) from h) (by simp)
theorem GivenR.any {fl : List Nat} (G : GivenR P ops Q n cr Rs a0 w0) (D : Drawn ops n fl) (hQ : ∀ c a w, ¬ Q (.panic c) a w)
  (hT : ∀ vs gs listed a w, MidR ops n cr Rs a0 w0 vs gs listed a w → (∀ i, i < n → listed.getD i false = true) → wpAny P .any ops Q (ops.size - n) listed a w) :
  ∀ (d : Nat) (vs : Nat → Value) (gs : Nat → Nat) (listed : Array Bool) (a : Act) (w : World), left n listed = d → MidR ops n cr Rs a0 w0 vs gs listed a w → wpAny P .any ops Q (d + (ops.size - n)) listed a w := by
 intro d
 induction d with
 | zero =>
  intro vs gs listed a w hd M
  rw [Nat.zero_add]
  refine hT vs gs listed a w M fun i hi => ?_
  cases hl : listed.getD i false with
  | true => rfl
  | false =>
   have : i ∈ (List.range n).filter fun i => !listed.getD i false := List.mem_filter.2 ⟨List.mem_range.2 hi, by rw [hl]; rfl⟩
   rw [List.length_eq_zero_iff.1 hd] at this
   cases this
 | succ d ih =>
  intro vs gs listed a w hd M
  have hex : ∃ i, i < n ∧ listed.getD i false = false := by
   obtain ⟨i, hi⟩ := List.exists_mem_of_length_pos (l := (List.range n).filter fun i => !listed.getD i false) (by unfold left at hd; omega)
   have := List.mem_filter.1 hi
   exact ⟨i, List.mem_range.1 this.1, by simpa using this.2⟩
  obtain ⟨k, hk⟩ := hex
  obtain ⟨i, ⟨hin, hil⟩, hmin⟩ := exists_least (p := fun i => i < n ∧ listed.getD i false = false) k hk
  have hlow : ∀ j, j < i → listed.getD j false = true := fun j hj => by
   cases hl : listed.getD j false with
   | true => rfl
   | false => exact absurd ⟨by omega, hl⟩ (hmin j hj)
  have hri := G.least M.inv hin hil hlow
  rw [show d + 1 + (ops.size - n) = (d + (ops.size - n)) + 1 by omega]
  by_cases hnf : ∃ j, j < n ∧ j ∉ fl ∧ listed.getD j false = false
  ·
   obtain ⟨j, hj, hjf, hjl⟩ := hnf
   refine ⟨fun h0 => (by rw [h0] at hri; cases hri), fun k hk => ?_⟩
   have hkn : k < n := by
    rcases Nat.lt_or_ge k n with h | h
    ·
     exact h
    ·
     exact absurd hk (D.tail_waits M.inv _ j rfl hj hjf (getD_in (by rw [M.inv.size]; exact Nat.lt_of_lt_of_le hj G.nlt) hjl) k h)
   have hsz : k < listed.size := by rw [M.inv.size]; exact Nat.lt_of_lt_of_le hkn G.nlt
   have hkl : listed.getD k false = false := getD_both (mem_ready.1 hk).1
   refine wpOp_mono (fun a' w' ⟨vs', gs', M'⟩ => ih vs' gs' _ a' w' ?_ M') (M.op G hQ hkn hk)
   have := left_set hkn hsz hkl
   omega
  ·
   have hif : i ∈ fl := Classical.byContradiction fun h => hnf ⟨i, hin, h, hil⟩
   obtain ⟨_, o, ho, hp, hg, hap⟩ := D.float i hif
   obtain ⟨hdep, he, hw⟩ := M.agree G hin ho hri
   have hwt : Region.wanted o (yielded ops a.tmps) = true := by simp [Region.wanted, hg]
   have R0 := G.rule i o hin ho vs gs w M.sees (fun j hj => M.rel j (depsOf_lt hj).1 (hdep j hj))
    (fun a' w' => ∃ v, a' = (frameOf ops a0 vs (depsOf ops n i)).put o.dst v ∧ ∃ g, Sees w w' ∧ relAt Rs i vs v g w' ∧ (i ∈ cr → w.heap.size ≤ g))
    (fun v g W' h1 h2 h3 => ⟨v, rfl, g, h1, h2, h3⟩)
   unfold wpList at R0
   rw [if_pos (hw ▸ hwt)] at R0
   have hss : a.tmps.size = (frameOf ops a0 vs (depsOf ops n i)).tmps.size := by
    rw [M.slots.size, (frameOf_slots G.dist vs _ (fun j hj => (depsOf_lt hj).1) (depsOf_nodup i)).size]
   have hsz : i < listed.size := by rw [M.inv.size]; exact Nat.lt_of_lt_of_le hin G.nlt
   rcases R0 with h | ⟨hask, hlo⟩
   ·
    unfold Oper.wp at h
    obtain ⟨u, hrun0, v, h1, h2⟩ := pure_upon hp hQ h
    have hrun : ∀ W, (execOp a.eval o).run P W = .ok (.value u) W := fun W => by rw [he]; exact hrun0 W
    refine wpAny_first ho (Region.noSelect_spec G.sel) (fun c a w h => absurd h (hQ c _ w)) _ listed a w ?_ hri (.inl ⟨hwt, hrun⟩) ?_
    ·
     intro j oj hoj hji hun hno
     have hjf : n ≤ j ∨ j ∈ fl := by
      rcases Nat.lt_or_ge j n with h | h
      ·
       right
       exact Classical.byContradiction fun hf => hnf ⟨j, h, hf, getD_both hun⟩
      ·
       exact .inl h
     have hij : i < j := by
      rcases Nat.lt_or_ge j i with h | h
      ·
       have h9 := hlow j h
       rw [getD_both hun] at h9
       cases h9
      ·
       omega
     rcases hap j oj hoj hij hjf with h | h
     ·
      obtain ⟨oj', hoj', e, he, hb, hon⟩ := Region.waitsFor_spec h
      have : oj' = oj := Option.some.inj (hoj'.symm.trans hoj)
      subst this
      exact absurd hon (hno e he hb)
     ·
      exact h
    ·
     obtain ⟨vs', gs', M'⟩ := M.step G hin ho hri h2
     rw [← getD_put_eq hss h1] at M'
     refine ih vs' gs' _ _ w ?_ M'
     have := left_set hin hsz hil
     omega
   ·
    exact absurd hask (pure_asks hp)
end
/-- What stands in the slots that are looked at. -/
def DepRel (Rs : List Rel) (vs : Nat → Value) (gs : Nat → Nat) (W : World) : List Nat → Prop
 | [] => True
 | j :: js => relAt Rs j vs (vs j) (gs j) W ∧ DepRel Rs vs gs W js
theorem DepRel.of {Rs : List Rel} {vs : Nat → Value} {gs : Nat → Nat} {W : World} : ∀ {js : List Nat}, (∀ j ∈ js, relAt Rs j vs (vs j) (gs j) W) → DepRel Rs vs gs W js
 | [], _ => trivial
 | j :: js, h => ⟨h j (List.mem_cons_self ..), DepRel.of fun k hk => h k (List.mem_cons_of_mem _ hk)⟩
/-- The rule of one operation, its dependencies named. -/
def RuleD (P : Program) (ops : Array Oper) (Q : Exit → Act → World → Prop) (cr : List Nat) (Rs : List Rel) (a0 : Act) (w0 : World) (i : Nat) (ds : List Nat) (o : Oper) : Prop :=
 ∀ (vs : Nat → Value) (gs : Nat → Nat) (W : World), Sees w0 W → DepRel Rs vs gs W ds →
  ∀ K : Act → World → Prop, (∀ v g W', Sees W W' → relAt Rs i vs v g W' → (i ∈ cr → W.heap.size ≤ g) → K ((frameOf ops a0 vs ds).put o.dst v) W') →
   wpList P ops (Exit.then K Q) [o] (frameOf ops a0 vs ds) W
def RulesL (P : Program) (ops : Array Oper) (Q : Exit → Act → World → Prop) (cr : List Nat) (Rs : List Rel) (a0 : Act) (w0 : World) : Nat → List (List Nat) → List Oper → Prop
 | _, _, [] => True
 | _, [], _ :: _ => False
 | i, ds :: dss, o :: rest => RuleD P ops Q cr Rs a0 w0 i ds o ∧ RulesL P ops Q cr Rs a0 w0 (i + 1) dss rest
theorem RulesL.get {P : Program} {ops : Array Oper} {Q : Exit → Act → World → Prop} {cr : List Nat} {Rs : List Rel} {a0 : Act} {w0 : World} : ∀ {l : List Oper} {i0 : Nat} {dss : List (List Nat)}, RulesL P ops Q cr Rs a0 w0 i0 dss l → ∀ i o, l[i]? = some o → ∃ ds, dss[i]? = some ds ∧ RuleD P ops Q cr Rs a0 w0 (i0 + i) ds o
 | [], _, _, _, i, o, h => by simp at h
 | _ :: _, _, [], h, _, _, _ => h.elim
 | x :: l, i0, ds :: dss, h, i, o, ho => by
  cases i with
  | zero =>
   have e : x = o := by simpa using ho
   subst e
   exact ⟨ds, rfl, h.1⟩
  | succ i =>
   obtain ⟨d, h1, h2⟩ := RulesL.get h.2 i o (by simpa using ho)
   exact ⟨d, by simpa using h1, by rwa [show i0 + (i + 1) = i0 + 1 + i by omega]⟩
def AllKeep : List Rel → Prop
 | [] => True
 | R :: Rs => Keeps R ∧ AllKeep Rs
theorem AllKeep.get : ∀ {Rs : List Rel}, AllKeep Rs → ∀ i, Keeps (relAt Rs i)
 | [], _, _ => fun _ _ _ _ _ _ _ => trivial
 | R :: Rs, h, 0 => h.1
 | R :: Rs, h, i + 1 => AllKeep.get h.2 i
def EqOn (vs vs' : Nat → Value) : List Nat → Prop
 | [] => True
 | j :: js => vs j = vs' j ∧ EqOn vs vs' js
theorem EqOn.of {vs vs' : Nat → Value} : ∀ {js : List Nat}, (∀ j ∈ js, vs j = vs' j) → EqOn vs vs' js
 | [], _ => trivial
 | j :: js, h => ⟨h j (List.mem_cons_self ..), EqOn.of fun k hk => h k (List.mem_cons_of_mem _ hk)⟩
def AllLoc : List (List Nat) → List Rel → Prop
 | _, [] => True
 | [], _ :: _ => False
 | ds :: dss, R :: Rs => (∀ vs vs' v g W, EqOn vs vs' ds → R vs v g W → R vs' v g W) ∧ AllLoc dss Rs
theorem AllLoc.get : ∀ {Rs : List Rel} {dss : List (List Nat)}, AllLoc dss Rs → ∀ i ds, dss[i]? = some ds → Local (relAt Rs i) ds
 | [], _, _, _, _, _ => fun _ _ _ _ _ _ _ => trivial
 | _ :: _, [], h, _, _, _ => h.elim
 | R :: Rs, ds :: dss, h, 0, d, hd => by
  have e : ds = d := by simpa using hd
  subst e
  exact fun vs vs' v g W he hr => h.1 vs vs' v g W (EqOn.of he) hr
 | R :: Rs, ds :: dss, h, i + 1, d, hd => AllLoc.get h.2 i d (by simpa using hd)
def AllOwn (Rs : List Rel) : List Nat → Prop
 | [] => True
 | i :: is => Owns (relAt Rs i) ∧ AllOwn Rs is
theorem AllOwn.get {Rs : List Rel} : ∀ {cr : List Nat}, AllOwn Rs cr → ∀ i ∈ cr, Owns (relAt Rs i)
 | [], _, _, h => by cases h
 | j :: js, h, i, hi => by
  rcases List.mem_cons.1 hi with e | e
  ·
   rw [e]; exact h.1
  ·
   exact AllOwn.get h.2 i e
end Go.Proofs.Num

namespace Go.Proofs.Num
open Go Go.RowKit
theorem Bk.Ok.mono {w0 w W : World} {b : Bk} (h : b.Ok [] w0 w) (hS : Sees w W) : b.Ok [] w0 W :=
 ⟨there_sees h.there h.lt hS, fun s hs => range_sees (h.range s hs) h.lt hS, Nat.lt_of_lt_of_le h.lt hS.2.2.size, h.own⟩
theorem Bk.Ok.ge {w0 w : World} {b : Bk} (h : b.Ok [] w0 w) : w0.heap.size ≤ b.g := by
 rcases h.own with h | h
 ·
  exact h
 ·
  cases h
theorem Bk.Ok.up {w0 w1 w : World} {b : Bk} (h : b.Ok [] w1 w) (hS : Sees w0 w1) : b.Ok [] w0 w := ⟨h.there, h.range, h.lt, .inl (Nat.le_trans hS.2.2.size h.ge)⟩
theorem AllKeep.cons {R : Rel} {Rs : List Rel} (h : Keeps R) (h' : AllKeep Rs) : AllKeep (R :: Rs) := ⟨h, h'⟩
theorem AllKeep.nil : AllKeep [] := trivial
theorem EqOn.get {vs vs' : Nat → Value} : ∀ {ds : List Nat}, EqOn vs vs' ds → ∀ j ∈ ds, vs j = vs' j
 | [], _, _, h => by cases h
 | d :: ds, h, j, hj => by
  rcases List.mem_cons.1 hj with e | e
  ·
   rw [e]; exact h.1
  ·
   exact EqOn.get h.2 j e
theorem AllLoc.nil {dss : List (List Nat)} : AllLoc dss [] := by cases dss <;> exact trivial
theorem AllOwn.cons {Rs : List Rel} {i : Nat} {cr : List Nat} (h : Owns (relAt Rs i)) (h' : AllOwn Rs cr) : AllOwn Rs (i :: cr) := ⟨h, h'⟩
theorem AllOwn.nil {Rs : List Rel} : AllOwn Rs [] := trivial
theorem RulesL.nil {P : Program} {ops : Array Oper} {Q : Exit → Act → World → Prop} {cr : List Nat} {Rs : List Rel} {a0 : Act} {w0 : World} {i : Nat} {dss : List (List Nat)} : RulesL P ops Q cr Rs a0 w0 i dss [] := by cases dss <;> exact trivial
theorem RulesL.cons {P : Program} {ops : Array Oper} {Q : Exit → Act → World → Prop} {cr : List Nat} {Rs : List Rel} {a0 : Act} {w0 : World} {i : Nat} {ds : List Nat} {dss : List (List Nat)} {o : Oper} {rest : List Oper} (b : (Nat → Value) → Act) (hb : (fun vs => frameOf ops a0 vs ds) = b)
  (h : ∀ (vs : Nat → Value) (gs : Nat → Nat) (W : World), Sees w0 W → DepRel Rs vs gs W ds → ∀ K : Act → World → Prop, (∀ v g W', Sees W W' → relAt Rs i vs v g W' → (i ∈ cr → W.heap.size ≤ g) → K ((b vs).put o.dst v) W') → wpList P ops (Exit.then K Q) [o] (b vs) W)
  (h' : RulesL P ops Q cr Rs a0 w0 (i + 1) dss rest) : RulesL P ops Q cr Rs a0 w0 i (ds :: dss) (o :: rest) := by
 refine ⟨fun vs gs W hS hD K hK => ?_, h'⟩
 subst hb
 exact h vs gs W hS hD K hK
end Go.Proofs.Num

