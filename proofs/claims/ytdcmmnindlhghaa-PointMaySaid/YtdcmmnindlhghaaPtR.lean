/- The group of the curve's points: sums do not hang on order or brackets; plainly. -/
import Derived.Test.YtdcmmnindlhghaaPtN
set_option linter.unusedSimpArgs false
set_option linter.unusedVariables false
namespace Go.Proofs.Num
open Go Go.RowKit
section
variable {n : Nat} [NeZero n]
theorem as_x {x1 y1 x2 y2 x3 y3 d : Fin n} (h1 : y1 * y1 - x1 * x1 = 1 + d * ((x1 * x1) * (y1 * y1))) (h2 : y2 * y2 - x2 * x2 = 1 + d * ((x2 * x2) * (y2 * y2))) (h3 : y3 * y3 - x3 * x3 = 1 + d * ((x3 * x3) * (y3 * y3))) :
   ((x1 * y2 + x2 * y1) * (1 - d * ((x1 * x2) * (y1 * y2))) * y3 + (y1 * y2 + x1 * x2) * (1 + d * ((x1 * x2) * (y1 * y2))) * x3) * (1 - (d * ((x3 * x2) * (y3 * y2))) * (d * ((x3 * x2) * (y3 * y2))) + d * ((x3 * y2 + x2 * y3) * (y3 * y2 + x3 * x2)) * (x1 * y1))
   = ((x3 * y2 + x2 * y3) * (1 - d * ((x3 * x2) * (y3 * y2))) * y1 + (y3 * y2 + x3 * x2) * (1 + d * ((x3 * x2) * (y3 * y2))) * x1) * (1 - (d * ((x1 * x2) * (y1 * y2))) * (d * ((x1 * x2) * (y1 * y2))) + d * ((x1 * y2 + x2 * y1) * (y1 * y2 + x1 * x2)) * (x3 * y3)) := by grind
theorem as_y {x1 y1 x2 y2 x3 y3 d : Fin n} (h1 : y1 * y1 - x1 * x1 = 1 + d * ((x1 * x1) * (y1 * y1))) (h2 : y2 * y2 - x2 * x2 = 1 + d * ((x2 * x2) * (y2 * y2))) (h3 : y3 * y3 - x3 * x3 = 1 + d * ((x3 * x3) * (y3 * y3))) :
   ((y1 * y2 + x1 * x2) * (1 + d * ((x1 * x2) * (y1 * y2))) * y3 + (x1 * y2 + x2 * y1) * (1 - d * ((x1 * x2) * (y1 * y2))) * x3) * (1 - (d * ((x3 * x2) * (y3 * y2))) * (d * ((x3 * x2) * (y3 * y2))) - d * ((x3 * y2 + x2 * y3) * (y3 * y2 + x3 * x2)) * (x1 * y1))
   = ((y3 * y2 + x3 * x2) * (1 + d * ((x3 * x2) * (y3 * y2))) * y1 + (x3 * y2 + x2 * y3) * (1 - d * ((x3 * x2) * (y3 * y2))) * x1) * (1 - (d * ((x1 * x2) * (y1 * y2))) * (d * ((x1 * x2) * (y1 * y2))) - d * ((x1 * y2 + x2 * y1) * (y1 * y2 + x1 * x2)) * (x3 * y3)) := by grind
theorem left_x {e d u v X Y x3 y3 l : Fin n} (h1 : (1 + e) * u = X) (h2 : (1 - e) * v = Y) (h3 : (1 + d * ((u * x3) * (v * y3))) * l = u * y3 + x3 * v) : (1 - e * e + d * (X * Y) * (x3 * y3)) * l = X * (1 - e) * y3 + Y * (1 + e) * x3 := by grind
theorem left_y {e d u v X Y x3 y3 l : Fin n} (h1 : (1 + e) * u = X) (h2 : (1 - e) * v = Y) (h3 : (1 - d * ((u * x3) * (v * y3))) * l = v * y3 + u * x3) : (1 - e * e - d * (X * Y) * (x3 * y3)) * l = Y * (1 + e) * y3 + X * (1 - e) * x3 := by grind
theorem den_x {e d u v X Y x3 y3 : Fin n} (h1 : (1 + e) * u = X) (h2 : (1 - e) * v = Y) : 1 - e * e + d * (X * Y) * (x3 * y3) = ((1 + e) * (1 - e)) * (1 + d * ((u * x3) * (v * y3))) := by grind
theorem den_y {e d u v X Y x3 y3 : Fin n} (h1 : (1 + e) * u = X) (h2 : (1 - e) * v = Y) : 1 - e * e - d * (X * Y) * (x3 * y3) = ((1 + e) * (1 - e)) * (1 - d * ((u * x3) * (v * y3))) := by grind
theorem cross {A B A' B' l r : Fin n} (h1 : B * l = A) (h2 : B' * r = A') (h : A * B' = A' * B) : (B * B') * l = (B * B') * r := by grind
theorem quo_m {D w x N : Fin n} (h : D * w = 1) (hx : x = N * w) : D * x = N := by grind
end
/-- One point is the sum of two. -/
def SumQ (x1 y1 x2 y2 x y : Fin pF) : Prop := (1 + dQ * ((x1 * x2) * (y1 * y2))) * x = x1 * y2 + x2 * y1 ∧ (1 - dQ * ((x1 * x2) * (y1 * y2))) * y = y1 * y2 + x1 * x2
theorem SumQ.comm {x1 y1 x2 y2 x y : Fin pF} (h : SumQ x1 y1 x2 y2 x y) : SumQ x2 y2 x1 y1 x y := by
  obtain ⟨h1, h2⟩ := h
  refine ⟨?_, ?_⟩ <;> grind
theorem SumQ.uniq {x1 y1 x2 y2 x y u v : Fin pF} (o1 : OnQ x1 y1) (o2 : OnQ x2 y2) (h : SumQ x1 y1 x2 y2 x y) (k : SumQ x1 y1 x2 y2 u v) : x = u ∧ y = v :=
  ⟨fz_cancel (compl_p o1 o2) (h.1.trans k.1.symm), fz_cancel (compl_m o1 o2) (h.2.trans k.2.symm)⟩
theorem SumQ.assoc {x1 y1 x2 y2 x3 y3 u v s t l m r q : Fin pF} (o1 : OnQ x1 y1) (o2 : OnQ x2 y2) (o3 : OnQ x3 y3) (ou : OnQ u v) (os : OnQ s t) (h12 : SumQ x1 y1 x2 y2 u v) (h23 : SumQ x2 y2 x3 y3 s t) (hl : SumQ u v x3 y3 l m) (hr : SumQ x1 y1 s t r q) : l = r ∧ m = q := by
  have h32 := h23.comm
  have hr' := hr.comm
  have n1 : (1 + dQ * ((x1 * x2) * (y1 * y2))) * (1 - dQ * ((x1 * x2) * (y1 * y2))) ≠ 0 := fz_ne (compl_p o1 o2) (compl_m o1 o2)
  have n3 : (1 + dQ * ((x3 * x2) * (y3 * y2))) * (1 - dQ * ((x3 * x2) * (y3 * y2))) ≠ 0 := fz_ne (compl_p o3 o2) (compl_m o3 o2)
  constructor
  · refine fz_cancel ?_ (cross (left_x h12.1 h12.2 hl.1) (left_x h32.1 h32.2 hr'.1) (as_x o1 o2 o3))
    rw [den_x h12.1 h12.2, den_x h32.1 h32.2]
    exact fz_ne (fz_ne n1 (compl_p ou o3)) (fz_ne n3 (compl_p os o1))
  · refine fz_cancel ?_ (cross (left_y h12.1 h12.2 hl.2) (left_y h32.1 h32.2 hr'.2) (as_y o1 o2 o3))
    rw [den_y h12.1 h12.2, den_y h32.1 h32.2]
    exact fz_ne (fz_ne n1 (compl_m ou o3)) (fz_ne n3 (compl_m os o1))
theorem sum_of {a b c d : Nat} (o1 : OnQ (fq a) (fq b)) (o2 : OnQ (fq c) (fq d)) : SumQ (fq a) (fq b) (fq c) (fq d) (fq (sumX a b c d)) (fq (sumY a b c d)) := by
  have hw : fq (fadd 1 (sumAll a b c d)) ≠ 0 := by
    rw [fq_add, fq_one, sumAll_q]
    exact compl_p o1 o2
  have hv : fq (fsub 1 (sumAll a b c d)) ≠ 0 := by
    rw [fq_sub, fq_one, sumAll_q]
    exact compl_m o1 o2
  have hw2 := fq_inv hw
  have hv2 := fq_inv hv
  constructor
  · refine quo_m (w := fq (finv (fadd 1 (sumAll a b c d)))) ?_ ?_
    · have e9 : fq (fadd 1 (sumAll a b c d)) = 1 + dQ * ((fq a * fq c) * (fq b * fq d)) := by rw [fq_add, fq_one, sumAll_q]
      rw [e9] at hw2
      exact hw2
    · unfold sumX
      rw [fq_mul, fq_add, fq_mul, fq_mul]
  · refine quo_m (w := fq (finv (fsub 1 (sumAll a b c d)))) ?_ ?_
    · have e9 : fq (fsub 1 (sumAll a b c d)) = 1 - dQ * ((fq a * fq c) * (fq b * fq d)) := by rw [fq_sub, fq_one, sumAll_q]
      rw [e9] at hv2
      exact hv2
    · unfold sumY
      rw [fq_mul, fq_add, fq_mul, fq_mul]
/-- Two are one point. -/
structure Eqv (p q : P4) : Prop where
  x : affX p = affX q
  y : affY p = affY q
theorem Eqv.rfl {p : P4} : Eqv p p := ⟨Eq.refl _, Eq.refl _⟩
theorem Eqv.symm {p q : P4} (h : Eqv p q) : Eqv q p := ⟨h.x.symm, h.y.symm⟩
theorem Eqv.trans {p q r : P4} (h : Eqv p q) (k : Eqv q r) : Eqv p r := ⟨h.x.trans k.x, h.y.trans k.y⟩
theorem add_sum {p q : P4} (hp : PtQ p) (hq : PtQ q) : SumQ (fq (affX p)) (fq (affY p)) (fq (affX q)) (fq (affY q)) (fq (affX (addP p q))) (fq (affY (addP p q))) := by
  obtain ⟨a, b⟩ := aff_add hp hq
  rw [a, b]
  exact sum_of hp.on hq.on
theorem eqv_of {p q : P4} (h : fq (affX p) = fq (affX q) ∧ fq (affY p) = fq (affY q)) : Eqv p q := ⟨fq_inj (affX_ltp _) (affX_ltp _) h.1, fq_inj (affY_ltp _) (affY_ltp _) h.2⟩
theorem add_comm {p q : P4} (hp : PtQ p) (hq : PtQ q) : Eqv (addP p q) (addP q p) := eqv_of (SumQ.uniq hp.on hq.on (add_sum hp hq) (add_sum hq hp).comm)
theorem add_assoc {p q r : P4} (hp : PtQ p) (hq : PtQ q) (hr : PtQ r) : Eqv (addP (addP p q) r) (addP p (addP q r)) :=
  eqv_of (SumQ.assoc hp.on hq.on hr.on (addP_ptq hp hq).on (addP_ptq hq hr).on (add_sum hp hq) (add_sum hq hr) (add_sum (addP_ptq hp hq) hr) (add_sum hp (addP_ptq hq hr)))
theorem zero_ptq : PtQ zeroP := (ofRightP right_zero).2
theorem fmul_0 (x : Nat) : fmul 0 x = 0 := by
  unfold fmul
  rw [Nat.zero_mul, Nat.zero_mod]
theorem zero_x : affX zeroP = 0 := fmul_0 (finv zeroP.z)
theorem zero_y : affY zeroP = 1 := fmul_inv (x := 1) (by decide)
theorem add_zero {p : P4} (hp : PtQ p) : Eqv (addP p zeroP) p := by
  refine eqv_of (SumQ.uniq hp.on zero_ptq.on (add_sum hp zero_ptq) ?_)
  rw [zero_x, zero_y, fq_zero, fq_one]
  refine ⟨?_, ?_⟩ <;> grind
theorem zero_add {p : P4} (hp : PtQ p) : Eqv (addP zeroP p) p := (add_comm zero_ptq hp).trans (add_zero hp)
end Go.Proofs.Num

