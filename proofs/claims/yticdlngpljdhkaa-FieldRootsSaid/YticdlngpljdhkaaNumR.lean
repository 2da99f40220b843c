/- Inverses and roots modulo p. -/
import Derived.Test.YticdlngpljdhkaaNumQ
import Derived.Test.YticdlngpljdhkaaNumG
set_option linter.unusedSimpArgs false
set_option linter.unusedVariables false
namespace Go.Proofs.Num
theorem pF_pos : 0 < pF := by decide
theorem fermat {x : Nat} (h : x % pF ≠ 0) : x ^ (pF - 1) % pF = 1 := by
  obtain ⟨hn, h1, ha⟩ := gen_pF
  obtain ⟨k, _, hk⟩ := ha (x % pF) (Nat.pos_of_ne_zero h) (Nat.mod_lt _ pF_pos)
  rw [← pow_gm, ← hk, pow_gm, ← Nat.pow_mul, Nat.mul_comm, Nat.pow_mul, ← pow_gm, h1, Nat.one_pow, Nat.mod_eq_of_lt hn]
theorem fmul_zero {a b : Nat} (h : fmul a b = 0) : a % pF = 0 ∨ b % pF = 0 := by
  rcases pri_mul pri_pF (Nat.dvd_of_mod_eq_zero h) with h | h
  · exact .inl (Nat.mod_eq_zero_of_dvd h)
  · exact .inr (Nat.mod_eq_zero_of_dvd h)
theorem finv_zero {x : Nat} (h : leastF x = 0) : finv x = 0 := by
  unfold finv fpow
  unfold leastF at h
  rw [← pow_gm, h, Nat.zero_pow (by decide)]
  rfl
theorem fmul_inv {x : Nat} (h : leastF x ≠ 0) : fmul x (finv x) = 1 := by
  unfold fmul finv fpow
  rw [gm_mulr, ← Nat.pow_succ', show (pF - 2).succ = pF - 1 by decide]
  exact fermat h
theorem finv_inv {x : Nat} (h : leastF x ≠ 0) : finv (finv x) = leastF x := by
  unfold finv fpow leastF
  rw [pow_gm, ← Nat.pow_mul, show (pF - 2) * (pF - 2) = (pF - 1) * (pF - 3) + 1 by decide, Nat.pow_succ, Nat.pow_mul, ← gm_mull, ← pow_gm, fermat h, Nat.one_pow, Nat.mod_eq_of_lt gen_pF.1, Nat.one_mul]
theorem leastF_of_lt {x : Nat} (h : x < pF) : leastF x = x := Nat.mod_eq_of_lt h
theorem finv_ltp (x : Nat) : finv x < pF := Nat.mod_lt _ pF_pos
theorem fmul_ltp (x y : Nat) : fmul x y < pF := Nat.mod_lt _ pF_pos
theorem fadd_ltp (x y : Nat) : fadd x y < pF := Nat.mod_lt _ pF_pos
theorem fsub_ltp (x y : Nat) : fsub x y < pF := Nat.mod_lt _ pF_pos
theorem leastF_inv (x : Nat) : leastF (finv x) = finv x := leastF_of_lt (finv_ltp x)
theorem leastF_ltp (x : Nat) : leastF x < pF := Nat.mod_lt _ pF_pos
theorem leastF_least (x : Nat) : leastF (leastF x) = leastF x := leastF_of_lt (leastF_ltp x)
theorem fhalf_of {x t : Nat} (ht : t = 2) (h : fmul t (finv t) = 1) : fadd (fmul x (finv t)) (fmul x (finv t)) = leastF x := by
  generalize finv t = z at *
  subst ht
  unfold fmul at h
  unfold fadd fmul leastF
  rw [← Nat.two_mul, gm_mulr, Nat.mul_left_comm, ← gm_mulr, h, Nat.mul_one]
theorem fhalf (x : Nat) : fadd (fmul x (finv 2)) (fmul x (finv 2)) = leastF x := fhalf_of rfl (fmul_inv (by decide))
/-- Halfway up: 1 or -1. -/
def chi (x : Nat) : Nat := x ^ ((pF - 1) / 2) % pF
theorem sq_one {z : Nat} (hz : z < pF) (h : z * z % pF = 1) : z = 1 ∨ z = pF - 1 := by
  have h0 : z ≠ 0 := fun e => by subst e; simp at h
  have hd : pF ∣ (z - 1) * (z + 1) := by
    have e : (z - 1) * (z + 1) = z * z - 1 := by
      obtain ⟨y, rfl⟩ : ∃ y, z = y + 1 := ⟨z - 1, by omega⟩
      rw [Nat.add_sub_cancel]
      have : (y + 1) * (y + 1) = y * (y + 1 + 1) + 1 := by
        rw [Nat.add_mul, Nat.one_mul, Nat.mul_add y (y + 1) 1, Nat.mul_one]
        omega
      omega
    rw [e]
    have h1 : 1 ≤ z * z := Nat.mul_pos (Nat.pos_of_ne_zero h0) (Nat.pos_of_ne_zero h0)
    have := Nat.div_add_mod (z * z) pF
    exact ⟨z * z / pF, by omega⟩
  rcases pri_mul pri_pF hd with h | h
  · left
    by_cases h1 : z = 1
    · exact h1
    · have := Nat.le_of_dvd (by omega) h
      omega
  · right
    have := Nat.le_of_dvd (by omega) h
    omega
theorem chi_lt (x : Nat) : chi x < pF := Nat.mod_lt _ pF_pos
theorem chi_or {x : Nat} (h : leastF x ≠ 0) : chi x = 1 ∨ chi x = pF - 1 := by
  refine sq_one (chi_lt x) ?_
  unfold chi
  rw [gm_mull, gm_mulr, ← Nat.pow_add, show (pF - 1) / 2 + (pF - 1) / 2 = pF - 1 by decide]
  exact fermat h
theorem chi_of {x r : Nat} (h : x ^ ((pF - 1) / 2) % pF = r) : chi x = r := h
theorem two_chi : chi 2 = pF - 1 :=
  chi_of ((pow_pwm (f := 255) (by decide +kernel) (by decide +kernel : pwm pF 255 2 ((pF - 1) / 2) 1 = pF - 1)).trans (by decide))
theorem chi_mul (x y : Nat) : chi (fmul x y) = fmul (chi x) (chi y) := by
  unfold chi fmul
  rw [pow_gm, Nat.mul_pow, gm_mull, gm_mulr]
theorem chi_dbl (x : Nat) : chi (fadd x x) = fmul (pF - 1) (chi x) := by
  have e : fadd x x = fmul 2 x := by unfold fadd fmul; rw [Nat.two_mul]
  rw [e, chi_mul, two_chi]
end Go.Proofs.Num
