/- The numbers that count modulo 2^255 - 19: folding, powers, inverses, roots. -/
import Derived.Test.YticcchgckljlnaaDoorNumC
set_option linter.unusedSimpArgs false
set_option linter.unusedVariables false
namespace Go.Proofs.Num
open Go

theorem pF_256 : 2 ^ 256 % pF = 38 := by decide
/-- Folding: what stands above 2^256 counts 38 times. -/
def foldM (x a : Nat) : Nat := if a = 0 then 0 else if a = 1 ∧ x < 2 ^ 128 then 1 else 2
theorem foldF_step {x a : Nat} (hx : x < 2 ^ 256) (ha : a < 2 ^ 64) : foldF (addW x (a * 38)) (addC x (a * 38)) = foldF x a := by
  unfold foldF addW addC
  rw [Nat.mod_add_div]
  have h : 2 ^ 256 * a = (pF * 2) * a + a * 38 := by
    rw [Nat.mul_comm a 38, ← Nat.add_mul]
    congr 1
  rw [h]
  rw [show x + (pF * 2 * a + a * 38) = x + a * 38 + pF * (2 * a) by rw [Nat.mul_assoc]; omega, Nat.add_mul_mod_self_left]
theorem foldM_step {x a : Nat} (hx : x < 2 ^ 256) (ha : a < 2 ^ 64) (h0 : a ≠ 0) : foldM (addW x (a * 38)) (addC x (a * 38)) < foldM x a := by
  unfold foldM addW addC
  simp only [Nat.reducePow] at *
  repeat' split
  all_goals omega
theorem foldF_zero (x : Nat) : foldF x 0 = leastF x := by unfold foldF leastF; rw [Nat.mul_zero, Nat.add_zero]
theorem addC_lt {x a : Nat} (hx : x < 2 ^ 256) (ha : a < 2 ^ 64) : addC x (a * 38) < 2 ^ 64 := by
  unfold addC
  simp only [Nat.reducePow] at *
  omega
theorem mul38_lt {a : Nat} (ha : a < 2 ^ 64) : a * 38 < 2 ^ 256 := by
  simp only [Nat.reducePow] at *
  omega
theorem fel_38 {a : Nat} (ha : a < 2 ^ 64) : fel (a * 38) = [.int .u64 ((a * 38 % 18446744073709551616 : Nat) : Int), .int .u64 ((a * 38 / 18446744073709551616 : Nat) : Int), .int .u64 0, .int .u64 0] := by
  unfold fel limb
  simp only [Nat.reduceMul, Nat.reducePow] at *
  congr 1
  · congr 2; omega
  congr 1
  · congr 2; omega
  congr 1
  · rw [Nat.div_eq_of_lt (by omega)]; rfl
  congr 1
  · rw [Nat.div_eq_of_lt (by omega)]; rfl

/-- One bit of a number, as the program asks for it. -/
theorem bitN_of (N m : Nat) : bits .and .u64 ((limbN N (m / 64) / 2 ^ (m % 64) : Nat) : Int) 1 = ((N / 2 ^ m % 2 : Nat) : Int) := by
  have := bit_of N m
  unfold bitN at this
  rw [← this, limb_eq, Int.natCast_ediv, Int.natCast_pow]
  rfl

theorem fel_of {n : Nat} (hn : n < 18446744073709551616) : fel n = [.int .u64 (n : Nat), .int .u64 0, .int .u64 0, .int .u64 0] := by
  unfold fel limb
  simp only [Nat.reduceMul, Nat.reducePow]
  congr 1
  · congr 2; omega
  congr 1
  · rw [Nat.div_eq_of_lt (by omega)]; rfl
  congr 1
  · rw [Nat.div_eq_of_lt (by omega)]; rfl
  congr 1
  · rw [Nat.div_eq_of_lt (by omega)]; rfl
/-- Powers. -/
def fpow (x n : Nat) : Nat := x ^ n % pF
theorem fpow_lt (x n : Nat) : fpow x n < 2 ^ 256 := mod_pF_lt _
theorem fpow_zero (x : Nat) : fpow x 0 = 1 := by unfold fpow; rw [Nat.pow_zero]; decide
theorem fpow_mul (x n m : Nat) : fmul (fpow x n) (fpow x m) = fpow x (n + m) := by
  unfold fmul fpow
  rw [← Nat.mul_mod, ← Nat.pow_add]
theorem fpow_succ (x n : Nat) : fmul (fpow x n) x = fpow x (n + 1) := by
  unfold fmul fpow
  rw [Nat.mod_mul_mod, Nat.pow_succ]
theorem fpow_step (x n k : Nat) (hk : k < 256) : (n / 2 ^ (255 - k) % 2 = 1 → fmul (fmul (fpow x (n / 2 ^ (256 - k))) (fpow x (n / 2 ^ (256 - k)))) x = fpow x (n / 2 ^ (256 - (k + 1)))) ∧
    (n / 2 ^ (255 - k) % 2 ≠ 1 → fmul (fpow x (n / 2 ^ (256 - k))) (fpow x (n / 2 ^ (256 - k))) = fpow x (n / 2 ^ (256 - (k + 1)))) := by
  have e : n / 2 ^ (256 - k) = n / 2 ^ (255 - k) / 2 := by
    rw [show 256 - k = (255 - k) + 1 by omega, Nat.pow_succ, ← Nat.div_div_eq_div_mul]
  rw [show 256 - (k + 1) = 255 - k by omega, e]
  generalize n / 2 ^ (255 - k) = m
  constructor
  · intro h
    rw [fpow_mul, fpow_succ]
    congr 1
    omega
  · intro h
    rw [fpow_mul]
    congr 1
    omega
def finv (x : Nat) : Nat := fpow x (pF - 2)
theorem finv_lt (x : Nat) : finv x < 2 ^ 256 := fpow_lt _ _
theorem inv_exp : subW pF 2 = pF - 2 := by decide

/-- (p + 3) / 8 and (p - 1) / 4. -/
def eighthE : Nat := 7237005577332262213973186563042994240829374041602535252466099000494570602494
def fourthE : Nat := 14474011154664524427946373126085988481658748083205070504932198000989141204987
/-- The root that the program finds. -/
def root1 (x : Nat) : Nat := fpow (leastF x) eighthE
def root2 (x : Nat) : Nat := if fmul (root1 x) (root1 x) = leastF x then root1 x else fmul (root1 x) (fpow 2 fourthE)
def fsqrt (x : Nat) : Nat × Bool := if fmul (root2 x) (root2 x) = leastF x then (if root2 x % 2 = 1 then fsub 0 (root2 x) else root2 x, true) else (0, false)
end Go.Proofs.Num
