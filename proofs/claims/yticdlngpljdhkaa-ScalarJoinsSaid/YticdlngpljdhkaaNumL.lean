/- The rules of sums and products modulo the two numbers. -/
import Derived.Test.YticdlngpljdhkaaNumF
set_option linter.unusedSimpArgs false
set_option linter.unusedVariables false
namespace Go.Proofs.Num
theorem gm_addl (a b n : Nat) : (a % n + b) % n = (a + b) % n := Nat.mod_add_mod a n b
theorem gm_addr (a b n : Nat) : (a + b % n) % n = (a + b) % n := Nat.add_mod_mod a b n
theorem gm_mull (a b n : Nat) : a % n * b % n = a * b % n := by rw [Nat.mul_mod, Nat.mod_mod, ← Nat.mul_mod]
theorem gm_mulr (a b n : Nat) : a * (b % n) % n = a * b % n := by rw [Nat.mul_mod, Nat.mod_mod, ← Nat.mul_mod]
theorem sadd_comm (x y : Nat) : sadd x y = sadd y x := by unfold sadd; rw [Nat.add_comm]
theorem smul_comm (x y : Nat) : smul x y = smul y x := by unfold smul; rw [Nat.mul_comm]
theorem sadd_assoc (x y z : Nat) : sadd (sadd x y) z = sadd x (sadd y z) := by unfold sadd; rw [gm_addl, gm_addr, Nat.add_assoc]
theorem smul_assoc (x y z : Nat) : smul (smul x y) z = smul x (smul y z) := by unfold smul; rw [gm_mull, gm_mulr, Nat.mul_assoc]
theorem smul_add (x y z : Nat) : smul x (sadd y z) = sadd (smul x y) (smul x z) := by unfold smul sadd; rw [gm_mulr, gm_addl, gm_addr, Nat.mul_add]
theorem smul_order (x : Nat) : smul x ordL = 0 := Nat.mul_mod_left ..
theorem smul_one (x : Nat) : smul x 1 = restS x := by unfold smul restS; rw [Nat.mul_one]
theorem sadd_order (x : Nat) : sadd x ordL = restS x := Nat.add_mod_right ..
theorem fadd_comm (x y : Nat) : fadd x y = fadd y x := by unfold fadd; rw [Nat.add_comm]
theorem fmul_comm (x y : Nat) : fmul x y = fmul y x := by unfold fmul; rw [Nat.mul_comm]
theorem fadd_assoc (x y z : Nat) : fadd (fadd x y) z = fadd x (fadd y z) := by unfold fadd; rw [gm_addl, gm_addr, Nat.add_assoc]
theorem fmul_assoc (x y z : Nat) : fmul (fmul x y) z = fmul x (fmul y z) := by unfold fmul; rw [gm_mull, gm_mulr, Nat.mul_assoc]
theorem fmul_add (x y z : Nat) : fmul x (fadd y z) = fadd (fmul x y) (fmul x z) := by unfold fmul fadd; rw [gm_mulr, gm_addl, gm_addr, Nat.mul_add]
theorem fmul_one (x : Nat) : fmul x 1 = leastF x := by unfold fmul leastF; rw [Nat.mul_one]
theorem fsub_add (x y : Nat) : fsub (fadd x y) y = leastF x := by
  unfold fsub fadd leastF
  rw [gm_addl]
  have h : y % pF < pF := Nat.mod_lt _ (by decide)
  have e : x + y + (pF - y % pF) = x + pF * (y / pF + 1) := by
    have := Nat.div_add_mod y pF
    rw [Nat.mul_add]
    generalize pF * (y / pF) = a at *
    omega
  rw [e, Nat.add_mul_mod_self_left]
theorem fsub_self (x : Nat) : fsub x x = 0 := by
  have h := fsub_add 0 x
  unfold fadd at h
  unfold fsub leastF at *
  rw [Nat.zero_add, gm_addl] at h
  exact h
theorem fadd_prime (x : Nat) : fadd x pF = leastF x := Nat.add_mod_right ..
theorem fmul_prime (x : Nat) : fmul x pF = 0 := Nat.mul_mod_left ..
theorem leastF_prime : leastF pF = 0 := Nat.mod_self _
end Go.Proofs.Num
