/- Points: what is parsed is of the curve, and written again it is the text; plainly. -/
import Derived.Test.YtpgpjoldelobdaaDoorAdds2
set_option linter.unusedSimpArgs false
set_option linter.unusedVariables false
namespace Go.Proofs.Num
open Go Go.RowKit
theorem r_q {n : Nat} [NeZero n] {R Y d w : Fin n} (h : R * R = (Y * Y - 1) * w) (hi : (Y * Y * d + 1) * w = 1) : Y * Y - R * R = 1 + d * ((R * R) * (Y * Y)) := by grind
theorem neg_q {n : Nat} [NeZero n] {R Y d : Fin n} (h : Y * Y - R * R = 1 + d * ((R * R) * (Y * Y))) : Y * Y - (-R) * (-R) = 1 + d * (((-R) * (-R)) * (Y * Y)) := by grind
theorem root_on {x y : Nat} (hr : rootX y = (x, true)) : x < pF ∧ x % 2 = 0 ∧ OnQ (fq x) (fq y) := by
 unfold rootX at hr
 generalize hu : fmul (fsub (fmul y y) 1) (finv (fadd (fmul (fmul y y) dF) 1)) = u at hr
 have h1 := fsqrt_ltp u
 have h2 := fsqrt_even u
 have h3 := fsqrt_sq (y := u) (by rw [hr])
 rw [hr] at h1 h2 h3
 simp only at h1 h2 h3
 refine ⟨h1, h2, ?_⟩
 have hq : fq (fadd (fmul (fmul y y) dF) 1) = fq y * fq y * dQ + 1 := by rw [fq_add, fq_mul, fq_mul]; rfl
 have hi := fq_inv (z := fadd (fmul (fmul y y) dF) 1) (by rw [hq]; exact den_ne _)
 rw [hq] at hi
 have hul : leastF u = u := by rw [← hu]; exact leastF_of_lt (fmul_ltp ..)
 have h4 : fq x * fq x = (fq y * fq y - 1) * fq (finv (fadd (fmul (fmul y y) dF) 1)) := by
  rw [← fq_mul, h3, hul, ← hu, fq_mul, fq_sub, fq_mul, fq_one]
 exact r_q h4 hi
theorem root_on_neg {x y : Nat} (hr : rootX y = (x, true)) : OnQ (fq (fsub 0 x)) (fq y) := by
 rw [fq_neg0]
 exact neg_q (root_on hr).2.2
end Go.Proofs.Num

