/- Products of numbers, word by word. -/
import Derived.Test.YticcchgckljlnaaDoorNumB
set_option linter.unusedSimpArgs false
set_option linter.unusedVariables false
namespace Go.Proofs.Num
open Go

theorem core_step {M c t p lo c' B E R : Nat} (h1 : t + p + c = lo + B * c') (hA : M + c * E = R) (ht : t * E ≤ M) : (M - t * E + lo * E) + c' * (B * E) = R + p * E := by
  have h2 : (t + p + c) * E = (lo + B * c') * E := by rw [h1]
  rw [Nat.add_mul, Nat.add_mul, Nat.add_mul, show B * c' * E = c' * (B * E) by rw [Nat.mul_comm B c', Nat.mul_assoc]] at h2
  generalize c' * (B * E) = q at *
  generalize t * E = tE at *
  generalize p * E = pE at *
  generalize c * E = cE at *
  generalize lo * E = lE at *
  omega

theorem limbN_lt (x i : Nat) : limbN x i < 18446744073709551616 := Nat.mod_lt _ (by decide)
theorem mod_step (y k : Nat) : y % 2 ^ (64 * (k + 1)) = y % 2 ^ (64 * k) + limbN y k * 2 ^ (64 * k) := by
  unfold limbN
  rw [show 64 * (k + 1) = 64 * k + 64 by omega, Nat.pow_add, Nat.mod_mul]
  rw [Nat.mul_comm (2 ^ (64 * k)) _]
theorem limb_mul_le (M j : Nat) : limbN M j * 2 ^ (64 * j) ≤ M := by
  unfold limbN
  exact Nat.le_trans (Nat.mul_le_mul_right _ (Nat.mod_le _ _)) (Nat.div_mul_le_self _ _)

/-- what the inner loop of a product of numbers does in a round. -/
structure WideInv (x y i k M c : Nat) : Prop where
  sum : M + c * 2 ^ (64 * (i + k)) = (x % 2 ^ (64 * i)) * y + limbN x i * 2 ^ (64 * i) * (y % 2 ^ (64 * k))
  word : c < 18446744073709551616
  top : M < 2 ^ (64 * (i + 4))

def wideLo (x y i k M c : Nat) : Nat := ((limbN x i * limbN y k % 18446744073709551616 + limbN M (i + k)) % 18446744073709551616 + c) % 18446744073709551616
def wideC (x y i k M c : Nat) : Nat := limbN x i * limbN y k / 18446744073709551616 + (limbN x i * limbN y k % 18446744073709551616 + limbN M (i + k)) / 18446744073709551616 + ((limbN x i * limbN y k % 18446744073709551616 + limbN M (i + k)) % 18446744073709551616 + c) / 18446744073709551616
def wideM (x y i k M c : Nat) : Nat := M - limbN M (i + k) * 2 ^ (64 * (i + k)) + wideLo x y i k M c * 2 ^ (64 * (i + k))
theorem wideM_eq (x y i k M c : Nat) : wideM x y i k M c + limbN M (i + k) * 2 ^ (64 * (i + k)) = M + wideLo x y i k M c * 2 ^ (64 * (i + k)) := by
  have := limb_mul_le M (i + k)
  unfold wideM
  omega
theorem wideLo_lt (x y i k M c : Nat) : wideLo x y i k M c < 18446744073709551616 := Nat.mod_lt _ (by decide)

theorem mul_bound {a b : Nat} (ha : a < 18446744073709551616) (hb : b < 18446744073709551616) : a * b ≤ 340282366920938463426481119284349108225 :=
  Nat.le_trans (Nat.mul_le_mul (Nat.le_of_lt_succ ha) (Nat.le_of_lt_succ hb)) (by decide)

theorem wide_parts {x y i k M c : Nat} (h : WideInv x y i k M c) :
    limbN M (i + k) + limbN x i * limbN y k + c = wideLo x y i k M c + 18446744073709551616 * wideC x y i k M c ∧ wideC x y i k M c < 18446744073709551616 := by
  have hp := mul_bound (limbN_lt x i) (limbN_lt y k)
  have ht := limbN_lt M (i + k)
  have hc := h.word
  unfold wideLo wideC
  generalize limbN x i * limbN y k = p at *
  generalize limbN M (i + k) = t at *
  omega

theorem wide_step {x y i k M c : Nat} (hk : k < 4) (h : WideInv x y i k M c) : WideInv x y i (k + 1) (wideM x y i k M c) (wideC x y i k M c) := by
  obtain ⟨h1, h2⟩ := wide_parts h
  have hle := limb_mul_le M (i + k)
  refine ⟨?_, h2, ?_⟩
  · have e := core_step h1 h.sum hle
    have e2 : 2 ^ (64 * (i + (k + 1))) = 18446744073709551616 * 2 ^ (64 * (i + k)) := by
      have e4 : (18446744073709551616 : Nat) = 2 ^ 64 := by decide
      rw [show 64 * (i + (k + 1)) = 64 + 64 * (i + k) by omega, Nat.pow_add, e4]
    rw [e2]
    unfold wideM
    rw [e, mod_step y k]
    have e3 : 2 ^ (64 * (i + k)) = 2 ^ (64 * i) * 2 ^ (64 * k) := by rw [show 64 * (i + k) = 64 * i + 64 * k by omega, Nat.pow_add]
    rw [e3]
    generalize 2 ^ (64 * i) = A
    generalize 2 ^ (64 * k) = D
    generalize limbN x i = a
    generalize limbN y k = b
    rw [Nat.mul_add, ← Nat.add_assoc, Nat.mul_mul_mul_comm]
  · have hE : 0 < 2 ^ (64 * (i + k)) := Nat.two_pow_pos _
    have e2 : 2 ^ (64 * (i + 4)) = 2 ^ (64 * (3 - k)) * (18446744073709551616 * 2 ^ (64 * (i + k))) := by
      have e4 : (18446744073709551616 : Nat) = 2 ^ 64 := by decide
      rw [show 64 * (i + 4) = 64 * (3 - k) + (64 + 64 * (i + k)) by omega, Nat.pow_add, Nat.pow_add, e4]
    have ht := h.top
    have hlo := wideLo_lt x y i k M c
    unfold wideM
    rw [e2] at ht ⊢
    generalize wideLo x y i k M c = lo at *
    -- M = q * (B E) + t E + r
    have hM : M = (M / 2 ^ (64 * (i + k)) / 18446744073709551616) * (18446744073709551616 * 2 ^ (64 * (i + k))) + limbN M (i + k) * 2 ^ (64 * (i + k)) + M % 2 ^ (64 * (i + k)) := by
      have a1 := Nat.div_add_mod M (2 ^ (64 * (i + k)))
      have a2 := Nat.div_add_mod (M / 2 ^ (64 * (i + k))) 18446744073709551616
      unfold limbN
      rw [← Nat.mul_assoc, ← Nat.add_mul, Nat.mul_comm _ 18446744073709551616, a2, Nat.mul_comm, a1]
    have hr := Nat.mod_lt M hE
    have hq : M / 2 ^ (64 * (i + k)) / 18446744073709551616 < 2 ^ (64 * (3 - k)) := by
      rw [Nat.div_div_eq_div_mul, Nat.mul_comm (2 ^ (64 * (i + k)))]
      exact Nat.div_lt_of_lt_mul (by rw [Nat.mul_comm]; exact ht)
    generalize M / 2 ^ (64 * (i + k)) / 18446744073709551616 = q at *
    generalize limbN M (i + k) * 2 ^ (64 * (i + k)) = tE at *
    generalize M % 2 ^ (64 * (i + k)) = r at *
    have h5 : lo * 2 ^ (64 * (i + k)) + 2 ^ (64 * (i + k)) ≤ 18446744073709551616 * 2 ^ (64 * (i + k)) := by
      rw [← Nat.succ_mul]; exact Nat.mul_le_mul_right _ hlo
    have h6 : q * (18446744073709551616 * 2 ^ (64 * (i + k))) + 18446744073709551616 * 2 ^ (64 * (i + k)) ≤ 2 ^ (64 * (3 - k)) * (18446744073709551616 * 2 ^ (64 * (i + k))) := by
      rw [← Nat.succ_mul]; exact Nat.mul_le_mul_right _ hq
    generalize 2 ^ (64 * (3 - k)) * (18446744073709551616 * 2 ^ (64 * (i + k))) = top at *
    generalize q * (18446744073709551616 * 2 ^ (64 * (i + k))) = qq at *
    generalize lo * 2 ^ (64 * (i + k)) = ll at *
    omega

theorem wide_start {x y i M : Nat} (h : M = (x % 2 ^ (64 * i)) * y) (hy : y < 2 ^ 256) : WideInv x y i 0 M 0 := by
  refine ⟨by simp [h, Nat.mod_one], by decide, ?_⟩
  rw [h, show 64 * (i + 4) = 64 * i + 256 by omega, Nat.pow_add]
  exact Nat.mul_lt_mul'' (Nat.mod_lt _ (Nat.two_pow_pos _)) hy
def wideN (M i c : Nat) : Nat := M + c * 2 ^ (64 * (i + 4))
theorem wide_end {x y i M c : Nat} (hy : y < 2 ^ 256) (h : WideInv x y i 4 M c) : wideN M i c = (x % 2 ^ (64 * (i + 1))) * y ∧ limbN M (i + 4) = 0 := by
  have h1 := h.sum
  have h2 := h.top
  constructor
  · unfold wideN
    rw [h1, Nat.mod_eq_of_lt (a := y) (by simpa using hy), mod_step, Nat.add_mul]
  · unfold limbN
    rw [Nat.div_eq_of_lt h2]
theorem fel_lo (N : Nat) : fel (N % 2 ^ 256) = [.int .u64 (limb N 0), .int .u64 (limb N 1), .int .u64 (limb N 2), .int .u64 (limb N 3)] := by
  unfold fel limb
  simp only [Nat.reduceMul, Nat.reducePow]
  congr 1
  · congr 2; omega
  congr 1
  · congr 2; omega
  congr 1
  · congr 2; omega
  congr 1
  · congr 2; omega
theorem wideN_eq {x y i M c : Nat} (hy : y < 2 ^ 256) (h : WideInv x y i 4 M c) : wideN M i c + limbN M (i + 4) * 2 ^ (64 * (i + 4)) = M + c * 2 ^ (64 * (i + 4)) := by
  rw [(wide_end hy h).2, Nat.zero_mul, Nat.add_zero]
  unfold wideN
  rfl
theorem limb_hi (N j : Nat) : limb (N / 2 ^ 256) j = limb N (4 + j) := by
  unfold limb
  rw [Nat.div_div_eq_div_mul, ← Nat.pow_add, show 256 + 64 * j = 64 * (4 + j) by omega]
theorem fel_hi (N : Nat) : fel (N / 2 ^ 256) = [.int .u64 (limb N 4), .int .u64 (limb N 5), .int .u64 (limb N 6), .int .u64 (limb N 7)] := by
  unfold fel
  rw [limb_hi, limb_hi, limb_hi, limb_hi]
def mulLo (x y : Nat) : Nat := x * y % 2 ^ 256
def mulHi (x y : Nat) : Nat := x * y / 2 ^ 256
theorem mulLo_lt (x y : Nat) : mulLo x y < 2 ^ 256 := Nat.mod_lt _ (by decide)
theorem mulHi_lt {x y : Nat} (hx : x < 2 ^ 256) (hy : y < 2 ^ 256) : mulHi x y < 2 ^ 256 := Nat.div_lt_of_lt_mul (Nat.mul_lt_mul'' hx hy)
end Go.Proofs.Num
