/- What stands above 2^256 of a product, taken back word by word. -/
import Derived.Test.YtpgpjoldelobdaaDoorSteps8
set_option linter.unusedSimpArgs false
set_option linter.unusedVariables false
namespace Go.Proofs.Num
open Go
theorem top_set {M j lo m : Nat} (hj : j < m) (hM : M < 2 ^ (64 * m)) (hlo : lo < 18446744073709551616) : M - limbN M j * 2 ^ (64 * j) + lo * 2 ^ (64 * j) < 2 ^ (64 * m) := by
 have hE : 0 < 2 ^ (64 * j) := Nat.two_pow_pos _
 have e2 : 2 ^ (64 * m) = 2 ^ (64 * (m - 1 - j)) * (18446744073709551616 * 2 ^ (64 * j)) := by
  have e4 : (18446744073709551616 : Nat) = 2 ^ 64 := by decide
  rw [show 64 * m = 64 * (m - 1 - j) + (64 + 64 * j) by omega, Nat.pow_add, Nat.pow_add, e4]
 rw [e2] at hM ⊢
 have h1 : M = (M / 2 ^ (64 * j) / 18446744073709551616) * (18446744073709551616 * 2 ^ (64 * j)) + limbN M j * 2 ^ (64 * j) + M % 2 ^ (64 * j) := by
  have a1 := Nat.div_add_mod M (2 ^ (64 * j))
  have a2 := Nat.div_add_mod (M / 2 ^ (64 * j)) 18446744073709551616
  unfold limbN
  rw [← Nat.mul_assoc, ← Nat.add_mul, Nat.mul_comm _ 18446744073709551616, a2, Nat.mul_comm, a1]
 have hr := Nat.mod_lt M hE
 have hq : M / 2 ^ (64 * j) / 18446744073709551616 < 2 ^ (64 * (m - 1 - j)) := by
  rw [Nat.div_div_eq_div_mul, Nat.mul_comm (2 ^ (64 * j))]
  exact Nat.div_lt_of_lt_mul (by rw [Nat.mul_comm]; exact hM)
 generalize M / 2 ^ (64 * j) / 18446744073709551616 = q at *
 generalize limbN M j * 2 ^ (64 * j) = tE at *
 generalize M % 2 ^ (64 * j) = r at *
 have h5 : lo * 2 ^ (64 * j) + 2 ^ (64 * j) ≤ 18446744073709551616 * 2 ^ (64 * j) := by
  rw [← Nat.succ_mul]; exact Nat.mul_le_mul_right _ hlo
 have h6 : q * (18446744073709551616 * 2 ^ (64 * j)) + 18446744073709551616 * 2 ^ (64 * j) ≤ 2 ^ (64 * (m - 1 - j)) * (18446744073709551616 * 2 ^ (64 * j)) := by
  rw [← Nat.succ_mul]; exact Nat.mul_le_mul_right _ hq
 generalize 2 ^ (64 * (m - 1 - j)) * (18446744073709551616 * 2 ^ (64 * j)) = top at *
 generalize q * (18446744073709551616 * 2 ^ (64 * j)) = qq at *
 generalize lo * 2 ^ (64 * j) = ll at *
 omega
structure BackInv (l u i M c : Nat) : Prop where
 sum : M + c * 2 ^ (64 * i) = l + (u % 2 ^ (64 * i)) * 38
 word : c < 18446744073709551616
 top : M < 2 ^ 256
def backLo (u i M c : Nat) : Nat := ((limbN M i + limbN u i * 38 % 18446744073709551616) % 18446744073709551616 + c) % 18446744073709551616
def backC (u i M c : Nat) : Nat := limbN u i * 38 / 18446744073709551616 + (limbN M i + limbN u i * 38 % 18446744073709551616) / 18446744073709551616 + ((limbN M i + limbN u i * 38 % 18446744073709551616) % 18446744073709551616 + c) / 18446744073709551616
def backM (u i M c : Nat) : Nat := M - limbN M i * 2 ^ (64 * i) + backLo u i M c * 2 ^ (64 * i)
theorem backLo_lt (u i M c : Nat) : backLo u i M c < 18446744073709551616 := Nat.mod_lt _ (by decide)
theorem backM_eq (u i M c : Nat) : backM u i M c + limbN M i * 2 ^ (64 * i) = M + backLo u i M c * 2 ^ (64 * i) := by
 have := limb_mul_le M i
 unfold backM
 omega
theorem back_parts {l u i M c : Nat} (h : BackInv l u i M c) :
  limbN M i + limbN u i * 38 + c = backLo u i M c + 18446744073709551616 * backC u i M c ∧ backC u i M c < 18446744073709551616 := by
 have hp := limbN_lt u i
 have ht := limbN_lt M i
 have hc := h.word
 unfold backLo backC
 generalize limbN u i = p at *
 generalize limbN M i = t at *
 omega
theorem back_step {l u i M c : Nat} (hi : i < 4) (h : BackInv l u i M c) : BackInv l u (i + 1) (backM u i M c) (backC u i M c) := by
 obtain ⟨h1, h2⟩ := back_parts h
 have hle := limb_mul_le M i
 refine ⟨?_, h2, ?_⟩
 ·
  have e := core_step h1 h.sum hle
  have e2 : 2 ^ (64 * (i + 1)) = 18446744073709551616 * 2 ^ (64 * i) := by
   have e4 : (18446744073709551616 : Nat) = 2 ^ 64 := by decide
   rw [show 64 * (i + 1) = 64 + 64 * i by omega, Nat.pow_add, e4]
  have e3 := mod_step u i
  rw [e2] at e3 ⊢
  unfold backM
  rw [e, e3, Nat.add_mul, Nat.add_assoc, Nat.mul_right_comm]
 ·
  have ht := h.top
  have := top_set (M := M) (j := i) (m := 4) (lo := backLo u i M c) hi (by simpa using ht) (backLo_lt _ _ _ _)
  unfold backM
  simpa using this
theorem back_start {l u : Nat} (hl : l < 2 ^ 256) : BackInv l u 0 l 0 := ⟨by simp [Nat.mod_one], by decide, hl⟩
theorem back_end {x y M c : Nat} (hx : x < 2 ^ 256) (hy : y < 2 ^ 256) (h : BackInv (mulLo x y) (mulHi x y) 4 M c) : foldF M c = fmul x y := by
 have h1 := h.sum
 rw [Nat.mod_eq_of_lt (by simpa using mulHi_lt hx hy)] at h1
 unfold foldF fmul
 rw [Nat.mul_comm (2 ^ 256) c]
 have h2 : M + c * 2 ^ 256 = mulLo x y + mulHi x y * 38 := by simpa using h1
 rw [h2]
 have h3 : x * y = mulLo x y + 2 ^ 256 * mulHi x y := by unfold mulLo mulHi; rw [Nat.mod_add_div]
 rw [h3]
 have h4 : 2 ^ 256 * mulHi x y = mulHi x y * 38 + pF * (2 * mulHi x y) := by
  rw [← Nat.mul_assoc, Nat.mul_comm (mulHi x y) 38, ← Nat.add_mul]
  congr 1
 rw [h4, ← Nat.add_assoc, Nat.add_mul_mod_self_left]
end Go.Proofs.Num

