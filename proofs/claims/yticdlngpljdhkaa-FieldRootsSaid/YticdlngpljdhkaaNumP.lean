/- Powers modulo a number, fast; primes by a number whose powers are all the others. -/
import Derived.Test.YticdlngpljdhkaaNumL
set_option linter.unusedSimpArgs false
set_option linter.unusedVariables false
namespace Go.Proofs.Num
/-- A power modulo m, by the bits of the exponent. -/
def pwm (m : Nat) : Nat → Nat → Nat → Nat → Nat
  | 0, _, _, acc => acc
  | f + 1, b, n, acc => pwm m f (b * b % m) (n / 2) (if n % 2 = 1 then acc * b % m else acc)
theorem pow_gm (b n m : Nat) : (b % m) ^ n % m = b ^ n % m := by
  induction n with
  | zero => rfl
  | succ n ih => rw [Nat.pow_succ, Nat.pow_succ, gm_mulr, ← gm_mull, ih, gm_mull]
theorem pwm_eq (m : Nat) : ∀ f b n acc, n < 2 ^ f → pwm m f b n acc % m = acc * b ^ n % m
  | 0, b, n, acc, h => by
      have h0 : n = 0 := by simpa using h
      subst h0
      simp [pwm]
  | f + 1, b, n, acc, h => by
      unfold pwm
      have h2 : n / 2 < 2 ^ f := by rw [Nat.pow_succ] at h; omega
      rw [pwm_eq m f _ _ _ h2]
      have e : b ^ n = (b * b) ^ (n / 2) * b ^ (n % 2) := by
        rw [← Nat.pow_two, ← Nat.pow_mul, ← Nat.pow_add, Nat.div_add_mod]
      split
      · rename_i h1
        rw [e, h1, Nat.pow_one, ← gm_mulr, pow_gm, gm_mulr, gm_mull]
        congr 1
        rw [Nat.mul_assoc, Nat.mul_comm b, ← Nat.mul_assoc]
      · rename_i h1
        have h0 : n % 2 = 0 := by omega
        rw [e, h0, Nat.pow_zero, Nat.mul_one, ← gm_mulr, pow_gm, gm_mulr]
theorem pow_pwm {m b n f r : Nat} (hf : n < 2 ^ f) (h : pwm m f b n 1 = r) : b ^ n % m = r % m := by
  rw [← h, pwm_eq m f b n 1 hf, Nat.one_mul]
theorem two_half : 2 ^ (pF - 2) % pF = 28948022309329048855892746252171976963317496166410141009864396001978282409975 :=
  (pow_pwm (f := 255) (by decide +kernel) (by decide +kernel : pwm pF 255 2 (pF - 2) 1 = 28948022309329048855892746252171976963317496166410141009864396001978282409975)).trans (by decide)
/-- As many values as places: each is met. -/
theorem pigeon : ∀ (m : Nat) (f : Nat → Nat), (∀ i, i < m → f i < m) → (∀ i j, i < m → j < m → f i = f j → i = j) → ∀ y, y < m → ∃ i, i < m ∧ f i = y
  | 0, _, _, _, y, hy => absurd hy (Nat.not_lt_zero _)
  | m + 1, f, hf, hi, y, hy => by
      have hm := hf m (Nat.lt_succ_self m)
      have ih := pigeon m (fun i => if f i = m then f m else f i)
        (fun i h => by
          have h1 := hf i (Nat.lt_succ_of_lt h)
          show (if f i = m then f m else f i) < m
          split
          · rename_i e
            have : f m ≠ m := fun e2 => by
              have := hi i m (Nat.lt_succ_of_lt h) (Nat.lt_succ_self m) (e.trans e2.symm)
              omega
            omega
          · omega)
        (fun i j h1 h2 e => by
          have e : (if f i = m then f m else f i) = (if f j = m then f m else f j) := e
          have hI := Nat.lt_succ_of_lt h1
          have hJ := Nat.lt_succ_of_lt h2
          have hM := Nat.lt_succ_self m
          split at e <;> split at e
          · rename_i a b
            exact hi i j hI hJ (a.trans b.symm)
          · have := hi m j hM hJ e
            omega
          · have := hi i m hI hM e
            omega
          · exact hi i j hI hJ e)
      by_cases hv : f m = y
      · exact ⟨m, Nat.lt_succ_self m, hv⟩
      · by_cases hym : y = m
        · obtain ⟨i, h1, h2⟩ := ih (f m) (by omega)
          have h2 : (if f i = m then f m else f i) = f m := h2
          split at h2
          · rename_i e
            exact ⟨i, Nat.lt_succ_of_lt h1, e.trans hym.symm⟩
          · have := hi i m (Nat.lt_succ_of_lt h1) (Nat.lt_succ_self m) h2
            omega
        · obtain ⟨i, h1, h2⟩ := ih y (by omega)
          have h2 : (if f i = m then f m else f i) = y := h2
          split at h2
          · exact absurd h2 hv
          · exact ⟨i, Nat.lt_succ_of_lt h1, h2⟩
def Pri (n : Nat) : Prop := 1 < n ∧ ∀ d, d ∣ n → d = 1 ∨ d = n
theorem pri_factor : ∀ m, 1 < m → ∃ q, Pri q ∧ q ∣ m := by
  intro m
  induction m using Nat.strongRecOn with
  | ind m ih =>
    intro hm
    by_cases h : Pri m
    · exact ⟨m, h, Nat.dvd_refl m⟩
    · have : ∃ d, d ∣ m ∧ d ≠ 1 ∧ d ≠ m := by
        refine Classical.byContradiction fun hn => h ⟨hm, fun d hd => ?_⟩
        refine Classical.byContradiction fun h2 => hn ⟨d, hd, fun e => h2 (.inl e), fun e => h2 (.inr e)⟩
      obtain ⟨d, hd, h1, h2⟩ := this
      have hle := Nat.le_of_dvd (by omega) hd
      have h0 : d ≠ 0 := fun e => by
        subst e
        have := Nat.eq_zero_of_zero_dvd hd
        omega
      obtain ⟨q, hq, hqd⟩ := ih d (by omega) (by omega)
      exact ⟨q, hq, Nat.dvd_trans hqd hd⟩
theorem pri_mul {q a b : Nat} (hq : Pri q) (h : q ∣ a * b) : q ∣ a ∨ q ∣ b := by
  rcases hq.2 _ (Nat.gcd_dvd_left q a) with h1 | h1
  · exact .inr (Nat.Coprime.dvd_of_dvd_mul_left h1 h)
  · exact .inl (h1 ▸ Nat.gcd_dvd_right q a)
theorem pri_list {q : Nat} (hq : Pri q) : ∀ l : List Nat, (∀ x ∈ l, Pri x) → q ∣ l.foldr (· * ·) 1 → q ∈ l
  | [], _, h => by
      have := Nat.le_of_dvd (by decide) h
      have := hq.1
      simp at *
      omega
  | x :: l, hl, h => by
      rcases pri_mul hq h with h1 | h1
      · rcases (hl x (List.mem_cons_self ..)).2 q h1 with e | e
        · have := hq.1
          omega
        · rw [e]
          exact List.mem_cons_self ..
      · exact List.mem_cons_of_mem _ (pri_list hq l (fun y hy => hl y (List.mem_cons_of_mem _ hy)) h1)
/-- All numbers from 1 to n-1 are powers of g. -/
def Gen (n g : Nat) : Prop := 1 < n ∧ g ^ (n - 1) % n = 1 ∧ ∀ a, 0 < a → a < n → ∃ k, k < n - 1 ∧ g ^ k % n = a
theorem pow_add_gm (g a b n : Nat) : g ^ (a + b) % n = (g ^ a % n) * (g ^ b % n) % n := by rw [Nat.pow_add, ← Nat.mul_mod]
theorem least_pow {g n N : Nat} (hn : 1 < n) (hN : 0 < N) (h : g ^ N % n = 1) : ∃ e, 0 < e ∧ g ^ e % n = 1 ∧ (∀ d, 0 < d → g ^ d % n = 1 → e ∣ d) := by
  have hex : ∃ e, (0 < e ∧ g ^ e % n = 1) ∧ ∀ d, d < e → ¬ (0 < d ∧ g ^ d % n = 1) := by
    have key : ∀ N, 0 < N → g ^ N % n = 1 → ∃ e, (0 < e ∧ g ^ e % n = 1) ∧ ∀ d, d < e → ¬ (0 < d ∧ g ^ d % n = 1) := by
      intro N
      induction N using Nat.strongRecOn with
      | ind N ih =>
        intro h0 h1
        by_cases hd : ∃ d, d < N ∧ 0 < d ∧ g ^ d % n = 1
        · obtain ⟨d, a, b, c⟩ := hd
          exact ih d a b c
        · exact ⟨N, ⟨h0, h1⟩, fun d hl hh => hd ⟨d, hl, hh⟩⟩
    exact key N hN h
  obtain ⟨e, ⟨h0, h1⟩, hl⟩ := hex
  refine ⟨e, h0, h1, fun d hd hgd => ?_⟩
  have hr : g ^ (d % e) % n = 1 := by
    have e1 : g ^ d % n = (g ^ (e * (d / e)) % n) * (g ^ (d % e) % n) % n := by rw [← pow_add_gm, Nat.div_add_mod]
    rw [hgd, Nat.pow_mul, ← pow_gm, h1, Nat.one_pow, Nat.mod_eq_of_lt hn, Nat.one_mul, Nat.mod_mod] at e1
    exact e1.symm
  refine Nat.dvd_of_mod_eq_zero (Classical.byContradiction fun hz => ?_)
  exact hl (d % e) (Nat.mod_lt _ h0) ⟨Nat.pos_of_ne_zero hz, hr⟩
theorem pratt {n g : Nat} {l : List Nat} (hn : 1 < n) (hl : ∀ q ∈ l, Pri q) (hp : l.foldr (· * ·) 1 = n - 1) (h1 : g ^ (n - 1) % n = 1) (hq : ∀ q ∈ l, g ^ ((n - 1) / q) % n ≠ 1) : Gen n g := by
  have hord : ∀ d, 0 < d → d < n - 1 → g ^ d % n ≠ 1 := by
    obtain ⟨e, he0, he1, hed⟩ := least_pow hn (by omega : 0 < n - 1) h1
    obtain ⟨c, hc⟩ := hed (n - 1) (by omega) h1
    have hc1 : c = 1 := by
      refine Classical.byContradiction fun hne => ?_
      have hc0 : c ≠ 0 := fun h => by
        subst h
        simp at hc
        omega
      obtain ⟨q, hqp, d, hd⟩ := pri_factor c (by omega)
      have hql : q ∈ l := pri_list hqp l hl (hp ▸ ⟨e * d, by rw [hc, hd, Nat.mul_left_comm]⟩)
      have hqd : (n - 1) / q = e * d := by
        rw [hc, hd, Nat.mul_left_comm, Nat.mul_div_cancel_left _ (by have := hqp.1; omega)]
      refine hq q hql ?_
      rw [hqd, Nat.pow_mul, ← pow_gm, he1, Nat.one_pow, Nat.mod_eq_of_lt hn]
    rw [hc1, Nat.mul_one] at hc
    intro d hd0 hdl hd1
    have := Nat.le_of_dvd hd0 (hed d hd0 hd1)
    omega
  have hnz : ∀ k, k < n - 1 → g ^ k % n ≠ 0 := by
    intro k hk hz
    have h2 : g ^ (k + (n - 1 - k)) % n = 1 := by rw [show k + (n - 1 - k) = n - 1 by omega]; exact h1
    rw [pow_add_gm, hz] at h2
    simp at h2
  refine ⟨hn, h1, fun a ha0 han => ?_⟩
  have hlt : ∀ k, g ^ k % n < n := fun k => Nat.mod_lt _ (by omega)
  obtain ⟨k, hk, hka⟩ := pigeon (n - 1) (fun k => g ^ k % n - 1) (fun i hi => by
      have := hlt i
      have := hnz i hi
      show g ^ i % n - 1 < n - 1
      omega) (fun i j hi hj e => by
      have e : g ^ i % n - 1 = g ^ j % n - 1 := e
      have e2 : g ^ i % n = g ^ j % n := by
        have := hnz i hi
        have := hnz j hj
        omega
      have key : ∀ i j, i < j → j < n - 1 → g ^ i % n = g ^ j % n → False := by
        intro i j hij hj e
        have hA : g ^ (i + (n - 1 - i)) % n = 1 := by rw [show i + (n - 1 - i) = n - 1 by omega]; exact h1
        rw [pow_add_gm, e, ← pow_add_gm, show j + (n - 1 - i) = (n - 1) + (j - i) by omega, pow_add_gm, h1, Nat.one_mul, Nat.mod_mod] at hA
        exact hord (j - i) (by omega) (by omega) hA
      rcases Nat.lt_trichotomy i j with h | h | h
      · exact (key i j h hj e2).elim
      · exact h
      · exact (key j i h hi e2.symm).elim) (a - 1) (by omega)
  have hka : g ^ k % n - 1 = a - 1 := hka
  have := hnz k hk
  exact ⟨k, hk, by omega⟩
theorem Gen.pri {n g : Nat} (h : Gen n g) : Pri n := by
  obtain ⟨hn, h1, ha⟩ := h
  refine ⟨hn, fun d hd => ?_⟩
  have hle := Nat.le_of_dvd (by omega) hd
  have h0 : d ≠ 0 := fun e => by
    subst e
    have := Nat.eq_zero_of_zero_dvd hd
    omega
  by_cases hdn : d = n
  · exact .inr hdn
  left
  obtain ⟨k, hk, hkd⟩ := ha d (by omega) (by omega)
  have h2 : g ^ (k + (n - 1 - k)) % n = 1 := by rw [show k + (n - 1 - k) = n - 1 by omega]; exact h1
  rw [pow_add_gm, hkd] at h2
  have h3 : d ∣ d * (g ^ (n - 1 - k) % n) % n := (Nat.dvd_mod_iff hd).2 (Nat.dvd_mul_right ..)
  rw [h2] at h3
  exact Nat.eq_one_of_dvd_one h3
def prattB (n g f : Nat) (l : List Nat) : Bool :=
  decide (1 < n) && decide (n - 1 < 2 ^ f) && (l.foldr (· * ·) 1 == n - 1) && (pwm n f g (n - 1) 1 % n == 1) && l.all (fun q => pwm n f g ((n - 1) / q) 1 % n != 1)
theorem pratt_of {n g f : Nat} {l : List Nat} (hl : ∀ q ∈ l, Pri q) (h : prattB n g f l = true) : Gen n g := by
  simp only [prattB, Bool.and_eq_true, decide_eq_true_eq, beq_iff_eq, List.all_eq_true, bne_iff_ne] at h
  obtain ⟨⟨⟨⟨hn, hf⟩, hp⟩, h1⟩, hq⟩ := h
  refine pratt hn hl hp ?_ fun q hql => ?_
  · have h2 := pwm_eq n f g (n - 1) 1 hf
    rw [h1, Nat.one_mul] at h2
    exact h2.symm
  · rw [← Nat.one_mul (g ^ _), ← pwm_eq n f g ((n - 1) / q) 1 (Nat.lt_of_le_of_lt (Nat.div_le_self ..) hf)]
    exact hq q hql
theorem pri_small {n : Nat} (h : (decide (1 < n) && (List.range n).all (fun d => d < 2 || n % d != 0)) = true) : Pri n := by
  simp only [Bool.and_eq_true, decide_eq_true_eq, List.all_eq_true, List.mem_range, Bool.or_eq_true, bne_iff_ne] at h
  obtain ⟨hn, h⟩ := h
  refine ⟨hn, fun d hd => ?_⟩
  have hle := Nat.le_of_dvd (by omega) hd
  by_cases hdn : d = n
  · exact .inr hdn
  rcases h d (by omega) with h1 | h1
  · rcases (by omega : d = 0 ∨ d = 1) with e | e
    · subst e
      have := Nat.eq_zero_of_zero_dvd hd
      omega
    · exact .inl e
  · exact absurd (Nat.mod_eq_zero_of_dvd hd) h1
end Go.Proofs.Num
