/- More on rows of digits. -/
import Derived.Test.YticcchgckljlnaaDoorSteps5
import Derived.Test.YticcchgckljlnaaDoorNumJ
set_option linter.unusedSimpArgs false
set_option linter.unusedVariables false
namespace Go.Proofs.Num
open Go Go.RowKit
theorem dl_app1 (k x : Nat) : dl k x ++ dl 1 (digN x k) = dl (k + 1) x := by rw [dl_one (digN_lt x k), dl_snoc]
theorem range_dl_mod {b o n m x : Nat} {w : World} (h : w.rangeAt b o (dl n x)) (hm : m ≤ n) : w.rangeAt b o (dl m (x % 65536 ^ m)) := by
  rw [dl_mod (Nat.le_refl m)]; exact range_dl_take h hm
theorem half_pow (u : Nat) : 2 ^ (u + 1) / 2 = 2 ^ u := by rw [Nat.pow_succ]; omega
theorem half_zero {t : Nat} (h : ¬ 0 < 2 ^ t / 2) : t = 0 := by
  rcases t with _ | u
  · rfl
  · rw [half_pow] at h; exact absurd (Nat.two_pow_pos u) h
theorem half_some {t : Nat} (h : 0 < 2 ^ t / 2) : ∃ u, t = u + 1 := by
  rcases t with _ | u
  · simp at h
  · exact ⟨u, rfl⟩
theorem pow_16 {u : Nat} (h : u < 16) : 2 ^ u ≤ 32768 := Nat.le_trans (Nat.pow_le_pow_right (by decide) (Nat.le_of_lt_succ h)) (by decide)
theorem drop_lt {x n : Nat} (m : Nat) (h : x < 65536 ^ n) (hm : m ≤ n) : x / 65536 ^ m < 65536 ^ (n - m) := by
  refine Nat.div_lt_of_lt_mul ?_
  rwa [← Nat.pow_add, Nat.add_sub_cancel' hm]
theorem B16_mod : (65536 : Nat) ^ 16 % pF = 38 := by decide
theorem fold_mod (d : Nat) : (d % 65536 ^ 16 + d / 65536 ^ 16 * 38) % pF = d % pF := by
  have h := Nat.div_add_mod d (65536 ^ 16)
  conv => rhs; rw [← h]
  rw [Nat.add_mod, Nat.add_mod (65536 ^ 16 * (d / 65536 ^ 16)), Nat.mul_mod (65536 ^ 16), B16_mod, Nat.add_comm, Nat.mul_comm (d / 65536 ^ 16) 38, Nat.mul_mod 38]
  rfl
theorem fold_lt {d : Nat} (h : 16 < dlen d) : d % 65536 ^ 16 + d / 65536 ^ 16 * 38 < d := by
  have h1 : ¬ d < 65536 ^ 16 := by rw [← dlen_le]; omega
  have e := Nat.div_add_mod d (65536 ^ 16)
  have hB : (65536 : Nat) ^ 16 = 115792089237316195423570985008687907853269984665640564039457584007913129639936 := by decide
  rw [hB] at *
  omega
theorem dlen_pF : dlen pF = 16 := by
  have h1 := (dlen_le 16 pF).2 (by decide)
  have h2 : ¬ dlen pF ≤ 15 := by rw [dlen_le]; decide
  omega
theorem dlen_ordL : dlen ordL = 16 := by
  have h1 := (dlen_le 16 ordL).2 (by decide)
  have h2 : ¬ dlen ordL ≤ 15 := by rw [dlen_le]; decide
  omega
end Go.Proofs.Num
