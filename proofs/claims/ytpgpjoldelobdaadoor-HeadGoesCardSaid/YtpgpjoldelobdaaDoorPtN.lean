/- Points, as the reference reckons them: plainly. -/
import Derived.Test.YtpgpjoldelobdaaDoorEqS
import Derived.Test.YtpgpjoldelobdaaDoorShq
import Derived.Test.YtpgpjoldelobdaaDoorSteps8
set_option linter.unusedSimpArgs false
set_option linter.unusedVariables false
namespace Go.Proofs.Num
open Go Go.RowKit
def dR : Nat := fmul (fsub 0 121665) (finv 121666)
def affX (p : P4) : Nat := fmul p.x (finv p.z)
def affY (p : P4) : Nat := fmul p.y (finv p.z)
/-- The document's sum. -/
def sumAll (a b c d : Nat) : Nat := fmul dR (fmul (fmul a c) (fmul b d))
def sumX (a b c d : Nat) : Nat := fmul (fadd (fmul a d) (fmul c b)) (finv (fadd 1 (sumAll a b c d)))
def sumY (a b c d : Nat) : Nat := fmul (fadd (fmul b d) (fmul a c)) (finv (fsub 1 (sumAll a b c d)))
end Go.Proofs.Num

namespace Go.Proofs.Num
open Go Go.RowKit
/-- A power, by the exponent's highest bits first: each number is looked at once. -/
def powB (x n : Nat) : Nat → Nat
 | 0 => 1
 | k + 1 => if n / 2 ^ (255 - k) % 2 = 1 then (powB x n k) ^ 2 % pF * x % pF else (powB x n k) ^ 2 % pF
theorem powB_eq (x n : Nat) (hn : n < 2 ^ 256) : ∀ k, k ≤ 256 → powB x n k = fpow x (n / 2 ^ (256 - k))
 | 0, _ => by rw [Nat.sub_zero, Nat.div_eq_of_lt hn, fpow_zero]; rfl
 | k + 1, hk => by
  have h := fpow_step x n k (by omega)
  have ih := powB_eq x n hn k (by omega)
  rw [powB, ih, Nat.pow_two]
  by_cases hb : n / 2 ^ (255 - k) % 2 = 1
  ·
   rw [if_pos hb, ← h.1 hb]; rfl
  ·
   rw [if_neg hb, ← h.2 hb]; rfl
theorem fpow_B {x n : Nat} (hn : n < 2 ^ 256) : fpow x n = powB x n 256 := by
 rw [powB_eq x n hn 256 (Nat.le_refl _), Nat.sub_self, Nat.pow_zero, Nat.div_one]
theorem finv_B (x : Nat) : finv x = powB x (pF - 2) 256 := fpow_B (by decide)
def baseY : Nat := 46316835694926478169428394003475163141307993866256225615783033603165251855960
def baseX : Nat := 15112221349535400772501151409588531511454012693041857206046113283949847762202
theorem finv_five : fmul 4 (finv 5) = baseY := by rw [finv_B]; decide +kernel
theorem dR_dF : dR = dF := by
 unfold dR
 rw [finv_B]
 decide +kernel
theorem over_base : finv (fadd (fmul (fmul baseY baseY) dF) 1) = powB (fadd (fmul (fmul baseY baseY) dF) 1) (pF - 2) 256 := finv_B _
def sqrtB (x : Nat) : Nat × Bool :=
 let r1 := powB (leastF x) eighthE 256
 let r2 := if fmul r1 r1 = leastF x then r1 else fmul r1 (powB 2 fourthE 256)
 if fmul r2 r2 = leastF x then (if r2 % 2 = 1 then fsub 0 r2 else r2, true) else (0, false)
theorem fsqrt_B (x : Nat) : fsqrt x = sqrtB x := by
 unfold fsqrt sqrtB root2 root1
 rw [fpow_B (x := leastF x) (n := eighthE) (by decide), fpow_B (x := 2) (n := fourthE) (by decide)]
theorem rootX_base : rootX baseY = (baseX, true) := by
 unfold rootX
 rw [over_base, fsqrt_B]
 decide +kernel
def baseP : P4 := affP baseX baseY
theorem baseP_ok : baseP.Ok := affP_ok (by decide) (by decide)
theorem nr_or8 {P : Program} {T : TypeId} {x y : Nat} (hx : x < 256) (hy : y < 256) (W : World) : (binOp .or T (.int .u8 (x : Int)) (.int .u8 (y : Int))).run P W = .ok (.int .u8 ((x ||| y : Nat) : Int)) W := by
 have h : x ||| y < 2 ^ 8 := Nat.or_lt_two_pow hx hy
 refine run_or (e := ((x ||| y : Nat) : Int)) ?_ W
 show IntKind.wrap .u8 ((BitVec.ofInt 8 (x : Int) ||| BitVec.ofInt 8 (y : Int)).toNat : Int) = _
 rw [BitVec.toNat_or, toNat_of hx, toNat_of hy]
 simp [IntKind.wrap, IntKind.bits, IntKind.signed]
 omega
/-- A point's bytes: of its y, the highest bit told by its x. -/
def textQ (x y : Nat) : List UInt8 := (bytesN 32 y).set 31 (UInt8.ofNat ((y / 256 ^ 31 % 256) ||| (x % 2 * 128)))
end Go.Proofs.Num

namespace Go.Proofs.Num
theorem gm_mull (a b n : Nat) : a % n * b % n = a * b % n := by rw [Nat.mul_mod, Nat.mod_mod, ← Nat.mul_mod]
theorem gm_mulr (a b n : Nat) : a * (b % n) % n = a * b % n := by rw [Nat.mul_mod, Nat.mod_mod, ← Nat.mul_mod]
end Go.Proofs.Num

namespace Go.Proofs.Num
/-- A power modulo m, by the bits of the exponent. -/
def pwm (m : Nat) : Nat → Nat → Nat → Nat → Nat
 | 0, _, _, acc => acc
 | f + 1, b, n, acc => pwm m f (b * b % m) (n / 2) (if n % 2 = 1 then acc * b % m else acc)
theorem pow_gm (b n m : Nat) : (b % m) ^ n % m = b ^ n % m := by
 induction n with
 | zero => rfl
 | succ n ih => rw [Nat.pow_succ, Nat.pow_succ, gm_mulr, ← gm_mull, ih, gm_mull]
theorem pwm_eq (m : Nat) : ∀ f b n acc, n < 2 ^ f → pwm m f b n acc % m = acc * b ^ n % m
 | 0, b, n, acc, h => by
   have h0 : n = 0 := by simpa using h
   subst h0
   simp [pwm]
 | f + 1, b, n, acc, h => by
   unfold pwm
   have h2 : n / 2 < 2 ^ f := by rw [Nat.pow_succ] at h; omega
   rw [pwm_eq m f _ _ _ h2]
   have e : b ^ n = (b * b) ^ (n / 2) * b ^ (n % 2) := by
    rw [← Nat.pow_two, ← Nat.pow_mul, ← Nat.pow_add, Nat.div_add_mod]
   split
   ·
    rename_i h1
    rw [e, h1, Nat.pow_one, ← gm_mulr, pow_gm, gm_mulr, gm_mull]
    congr 1
    rw [Nat.mul_assoc, Nat.mul_comm b, ← Nat.mul_assoc]
   ·
    rename_i h1
    have h0 : n % 2 = 0 := by omega
    rw [e, h0, Nat.pow_zero, Nat.mul_one, ← gm_mulr, pow_gm, gm_mulr]
theorem pow_pwm {m b n f r : Nat} (hf : n < 2 ^ f) (h : pwm m f b n 1 = r) : b ^ n % m = r % m := by
 rw [← h, pwm_eq m f b n 1 hf, Nat.one_mul]
/-- As many values as places: each is met. -/
theorem pigeon : ∀ (m : Nat) (f : Nat → Nat), (∀ i, i < m → f i < m) → (∀ i j, i < m → j < m → f i = f j → i = j) → ∀ y, y < m → ∃ i, i < m ∧ f i = y
 | 0, _, _, _, y, hy => absurd hy (Nat.not_lt_zero _)
 | m + 1, f, hf, hi, y, hy => by
   have hm := hf m (Nat.lt_succ_self m)
   have ih := pigeon m (fun i => if f i = m then f m else f i)
    (fun i h => by
     have h1 := hf i (Nat.lt_succ_of_lt h)
     show (if f i = m then f m else f i) < m
     split
     ·
      rename_i e
      have : f m ≠ m := fun e2 => by
       have := hi i m (Nat.lt_succ_of_lt h) (Nat.lt_succ_self m) (e.trans e2.symm)
       omega
      omega
     ·
      omega)
    (fun i j h1 h2 e => by
     have e : (if f i = m then f m else f i) = (if f j = m then f m else f j) := e
     have hI := Nat.lt_succ_of_lt h1
     have hJ := Nat.lt_succ_of_lt h2
     have hM := Nat.lt_succ_self m
     split at e <;> split at e
     ·
      rename_i a b
      exact hi i j hI hJ (a.trans b.symm)
     ·
      have := hi m j hM hJ e
      omega
     ·
      have := hi i m hI hM e
      omega
     ·
      exact hi i j hI hJ e)
   by_cases hv : f m = y
   ·
    exact ⟨m, Nat.lt_succ_self m, hv⟩
   ·
    by_cases hym : y = m
    ·
     obtain ⟨i, h1, h2⟩ := ih (f m) (by omega)
     have h2 : (if f i = m then f m else f i) = f m := h2
     split at h2
     ·
      rename_i e
      exact ⟨i, Nat.lt_succ_of_lt h1, e.trans hym.symm⟩
     ·
      have := hi i m (Nat.lt_succ_of_lt h1) (Nat.lt_succ_self m) h2
      omega
    ·
     obtain ⟨i, h1, h2⟩ := ih y (by omega)
     have h2 : (if f i = m then f m else f i) = y := h2
     split at h2
     ·
      exact absurd h2 hv
     ·
      exact ⟨i, Nat.lt_succ_of_lt h1, h2⟩
def Pri (n : Nat) : Prop := 1 < n ∧ ∀ d, d ∣ n → d = 1 ∨ d = n
theorem pri_factor : ∀ m, 1 < m → ∃ q, Pri q ∧ q ∣ m := by
 intro m
 induction m using Nat.strongRecOn with
 | ind m ih =>
  intro hm
  by_cases h : Pri m
  ·
   exact ⟨m, h, Nat.dvd_refl m⟩
  ·
   have : ∃ d, d ∣ m ∧ d ≠ 1 ∧ d ≠ m := by
    refine Classical.byContradiction fun hn => h ⟨hm, fun d hd => ?_⟩
    refine Classical.byContradiction fun h2 => hn ⟨d, hd, fun e => h2 (.inl e), fun e => h2 (.inr e)⟩
   obtain ⟨d, hd, h1, h2⟩ := this
   have hle := Nat.le_of_dvd (by omega) hd
   have h0 : d ≠ 0 := fun e => by
    subst e
    have := Nat.eq_zero_of_zero_dvd hd
    omega
   obtain ⟨q, hq, hqd⟩ := ih d (by omega) (by omega)
   exact ⟨q, hq, Nat.dvd_trans hqd hd⟩
theorem pri_mul {q a b : Nat} (hq : Pri q) (h : q ∣ a * b) : q ∣ a ∨ q ∣ b := by
 rcases hq.2 _ (Nat.gcd_dvd_left q a) with h1 | h1
 ·
  exact .inr (Nat.Coprime.dvd_of_dvd_mul_left h1 h)
 ·
  exact .inl (h1 ▸ Nat.gcd_dvd_right q a)
theorem pri_list {q : Nat} (hq : Pri q) : ∀ l : List Nat, (∀ x ∈ l, Pri x) → q ∣ l.foldr (· * ·) 1 → q ∈ l
 | [], _, h => by
   have := Nat.le_of_dvd (by decide) h
   have := hq.1
   simp at *
   omega
 | x :: l, hl, h => by
   rcases pri_mul hq h with h1 | h1
   ·
    rcases (hl x (List.mem_cons_self ..)).2 q h1 with e | e
    ·
     have := hq.1
     omega
    ·
     rw [e]
     exact List.mem_cons_self ..
   ·
    exact List.mem_cons_of_mem _ (pri_list hq l (fun y hy => hl y (List.mem_cons_of_mem _ hy)) h1)
/-- All numbers from 1 to n-1 are powers of g. -/
def Gen (n g : Nat) : Prop := 1 < n ∧ g ^ (n - 1) % n = 1 ∧ ∀ a, 0 < a → a < n → ∃ k, k < n - 1 ∧ g ^ k % n = a
theorem pow_add_gm (g a b n : Nat) : g ^ (a + b) % n = (g ^ a % n) * (g ^ b % n) % n := by rw [Nat.pow_add, ← Nat.mul_mod]
theorem least_pow {g n N : Nat} (hn : 1 < n) (hN : 0 < N) (h : g ^ N % n = 1) : ∃ e, 0 < e ∧ g ^ e % n = 1 ∧ (∀ d, 0 < d → g ^ d % n = 1 → e ∣ d) := by
 have hex : ∃ e, (0 < e ∧ g ^ e % n = 1) ∧ ∀ d, d < e → ¬ (0 < d ∧ g ^ d % n = 1) := by
  have key : ∀ N, 0 < N → g ^ N % n = 1 → ∃ e, (0 < e ∧ g ^ e % n = 1) ∧ ∀ d, d < e → ¬ (0 < d ∧ g ^ d % n = 1) := by
   intro N
   induction N using Nat.strongRecOn with
   | ind N ih =>
    intro h0 h1
    by_cases hd : ∃ d, d < N ∧ 0 < d ∧ g ^ d % n = 1
    ·
     obtain ⟨d, a, b, c⟩ := hd
     exact ih d a b c
    ·
     exact ⟨N, ⟨h0, h1⟩, fun d hl hh => hd ⟨d, hl, hh⟩⟩
  exact key N hN h
 obtain ⟨e, ⟨h0, h1⟩, hl⟩ := hex
 refine ⟨e, h0, h1, fun d hd hgd => ?_⟩
 have hr : g ^ (d % e) % n = 1 := by
  have e1 : g ^ d % n = (g ^ (e * (d / e)) % n) * (g ^ (d % e) % n) % n := by rw [← pow_add_gm, Nat.div_add_mod]
  rw [hgd, Nat.pow_mul, ← pow_gm, h1, Nat.one_pow, Nat.mod_eq_of_lt hn, Nat.one_mul, Nat.mod_mod] at e1
  exact e1.symm
 refine Nat.dvd_of_mod_eq_zero (Classical.byContradiction fun hz => ?_)
 exact hl (d % e) (Nat.mod_lt _ h0) ⟨Nat.pos_of_ne_zero hz, hr⟩
theorem pratt {n g : Nat} {l : List Nat} (hn : 1 < n) (hl : ∀ q ∈ l, Pri q) (hp : l.foldr (· * ·) 1 = n - 1) (h1 : g ^ (n - 1) % n = 1) (hq : ∀ q ∈ l, g ^ ((n - 1) / q) % n ≠ 1) : Gen n g := by
 have hord : ∀ d, 0 < d → d < n - 1 → g ^ d % n ≠ 1 := by
  obtain ⟨e, he0, he1, hed⟩ := least_pow hn (by omega : 0 < n - 1) h1
  obtain ⟨c, hc⟩ := hed (n - 1) (by omega) h1
  have hc1 : c = 1 := by
   refine Classical.byContradiction fun hne => ?_
   have hc0 : c ≠ 0 := fun h => by
    subst h
    simp at hc
    omega
   obtain ⟨q, hqp, d, hd⟩ := pri_factor c (by omega)
   have hql : q ∈ l := pri_list hqp l hl (hp ▸ ⟨e * d, by rw [hc, hd, Nat.mul_left_comm]⟩)
   have hqd : (n - 1) / q = e * d := by
    rw [hc, hd, Nat.mul_left_comm, Nat.mul_div_cancel_left _ (by have := hqp.1; omega)]
   refine hq q hql ?_
   rw [hqd, Nat.pow_mul, ← pow_gm, he1, Nat.one_pow, Nat.mod_eq_of_lt hn]
  rw [hc1, Nat.mul_one] at hc
  intro d hd0 hdl hd1
  have := Nat.le_of_dvd hd0 (hed d hd0 hd1)
  omega
 have hnz : ∀ k, k < n - 1 → g ^ k % n ≠ 0 := by
  intro k hk hz
  have h2 : g ^ (k + (n - 1 - k)) % n = 1 := by rw [show k + (n - 1 - k) = n - 1 by omega]; exact h1
  rw [pow_add_gm, hz] at h2
  simp at h2
 refine ⟨hn, h1, fun a ha0 han => ?_⟩
 have hlt : ∀ k, g ^ k % n < n := fun k => Nat.mod_lt _ (by omega)
 obtain ⟨k, hk, hka⟩ := pigeon (n - 1) (fun k => g ^ k % n - 1) (fun i hi => by
   have := hlt i
   have := hnz i hi
   show g ^ i % n - 1 < n - 1
   omega) (fun i j hi hj e => by
   have e : g ^ i % n - 1 = g ^ j % n - 1 := e
   have e2 : g ^ i % n = g ^ j % n := by
    have := hnz i hi
    have := hnz j hj
    omega
   have key : ∀ i j, i < j → j < n - 1 → g ^ i % n = g ^ j % n → False := by
    intro i j hij hj e
    have hA : g ^ (i + (n - 1 - i)) % n = 1 := by rw [show i + (n - 1 - i) = n - 1 by omega]; exact h1
    rw [pow_add_gm, e, ← pow_add_gm, show j + (n - 1 - i) = (n - 1) + (j - i) by omega, pow_add_gm, h1, Nat.one_mul, Nat.mod_mod] at hA
    exact hord (j - i) (by omega) (by omega) hA
   rcases Nat.lt_trichotomy i j with h | h | h
   ·
    exact (key i j h hj e2).elim
   ·
    exact h
   ·
    exact (key j i h hi e2.symm).elim) (a - 1) (by omega)
 have hka : g ^ k % n - 1 = a - 1 := hka
 have := hnz k hk
 exact ⟨k, hk, by omega⟩
theorem Gen.pri {n g : Nat} (h : Gen n g) : Pri n := by
 obtain ⟨hn, h1, ha⟩ := h
 refine ⟨hn, fun d hd => ?_⟩
 have hle := Nat.le_of_dvd (by omega) hd
 have h0 : d ≠ 0 := fun e => by
  subst e
  have := Nat.eq_zero_of_zero_dvd hd
  omega
 by_cases hdn : d = n
 ·
  exact .inr hdn
 left
 obtain ⟨k, hk, hkd⟩ := ha d (by omega) (by omega)
 have h2 : g ^ (k + (n - 1 - k)) % n = 1 := by rw [show k + (n - 1 - k) = n - 1 by omega]; exact h1
 rw [pow_add_gm, hkd] at h2
 have h3 : d ∣ d * (g ^ (n - 1 - k) % n) % n := (Nat.dvd_mod_iff hd).2 (Nat.dvd_mul_right ..)
 rw [h2] at h3
 exact Nat.eq_one_of_dvd_one h3
def prattB (n g f : Nat) (l : List Nat) : Bool :=
 decide (1 < n) && decide (n - 1 < 2 ^ f) && (l.foldr (· * ·) 1 == n - 1) && (pwm n f g (n - 1) 1 % n == 1) && l.all (fun q => pwm n f g ((n - 1) / q) 1 % n != 1)
theorem pratt_of {n g f : Nat} {l : List Nat} (hl : ∀ q ∈ l, Pri q) (h : prattB n g f l = true) : Gen n g := by
 simp only [prattB, Bool.and_eq_true, decide_eq_true_eq, beq_iff_eq, List.all_eq_true, bne_iff_ne] at h
 obtain ⟨⟨⟨⟨hn, hf⟩, hp⟩, h1⟩, hq⟩ := h
 refine pratt hn hl hp ?_ fun q hql => ?_
 ·
  have h2 := pwm_eq n f g (n - 1) 1 hf
  rw [h1, Nat.one_mul] at h2
  exact h2.symm
 ·
  rw [← Nat.one_mul (g ^ _), ← pwm_eq n f g ((n - 1) / q) 1 (Nat.lt_of_le_of_lt (Nat.div_le_self ..) hf)]
  exact hq q hql
theorem pri_small {n : Nat} (h : (decide (1 < n) && (List.range n).all (fun d => d < 2 || n % d != 0)) = true) : Pri n := by
 simp only [Bool.and_eq_true, decide_eq_true_eq, List.all_eq_true, List.mem_range, Bool.or_eq_true, bne_iff_ne] at h
 obtain ⟨hn, h⟩ := h
 refine ⟨hn, fun d hd => ?_⟩
 have hle := Nat.le_of_dvd (by omega) hd
 by_cases hdn : d = n
 ·
  exact .inr hdn
 rcases h d (by omega) with h1 | h1
 ·
  rcases (by omega : d = 0 ∨ d = 1) with e | e
  ·
   subst e
   have := Nat.eq_zero_of_zero_dvd hd
   omega
  ·
   exact .inl e
 ·
  exact absurd (Nat.mod_eq_zero_of_dvd hd) h1
end Go.Proofs.Num

namespace Go.Proofs.Num
theorem pri_2 : Pri 2 := pri_small (by decide +kernel)
theorem pri_3 : Pri 3 := pri_small (by decide +kernel)
theorem pri_17 : Pri 17 := pri_small (by decide +kernel)
theorem pri_479 : Pri 479 := pri_small (by decide +kernel)
theorem gen_pri_32573 : Gen 32573 2 := pratt_of (f := 15) (l := [2, 2, 17, 479]) (fun q h => by
 simp only [List.mem_cons, List.not_mem_nil, or_false] at h
 rcases h with rfl | rfl | rfl | rfl
 ·
  exact pri_2
 ·
  exact pri_2
 ·
  exact pri_17
 ·
  exact pri_479) (by decide +kernel)
theorem pri_32573 : Pri 32573 := gen_pri_32573.pri
theorem gen_pri_65147 : Gen 65147 2 := pratt_of (f := 16) (l := [2, 32573]) (fun q h => by
 simp only [List.mem_cons, List.not_mem_nil, or_false] at h
 rcases h with rfl | rfl
 ·
  exact pri_2
 ·
  exact pri_32573) (by decide +kernel)
theorem pri_65147 : Pri 65147 := gen_pri_65147.pri
theorem pri_353 : Pri 353 := pri_small (by decide +kernel)
theorem pri_59 : Pri 59 := pri_small (by decide +kernel)
theorem pri_487 : Pri 487 := pri_small (by decide +kernel)
theorem gen_pri_57467 : Gen 57467 2 := pratt_of (f := 16) (l := [2, 59, 487]) (fun q h => by
 simp only [List.mem_cons, List.not_mem_nil, or_false] at h
 rcases h with rfl | rfl | rfl
 ·
  exact pri_2
 ·
  exact pri_59
 ·
  exact pri_487) (by decide +kernel)
theorem pri_57467 : Pri 57467 := gen_pri_57467.pri
theorem pri_7 : Pri 7 := pri_small (by decide +kernel)
theorem pri_131 : Pri 131 := pri_small (by decide +kernel)
theorem gen_pri_132049 : Gen 132049 26 := pratt_of (f := 18) (l := [2, 2, 2, 2, 3, 3, 7, 131]) (fun q h => by
 simp only [List.mem_cons, List.not_mem_nil, or_false] at h
 rcases h with rfl | rfl | rfl | rfl | rfl | rfl | rfl | rfl
 ·
  exact pri_2
 ·
  exact pri_2
 ·
  exact pri_2
 ·
  exact pri_2
 ·
  exact pri_3
 ·
  exact pri_3
 ·
  exact pri_7
 ·
  exact pri_131) (by decide +kernel)
theorem pri_132049 : Pri 132049 := gen_pri_132049.pri
theorem pri_43 : Pri 43 := pri_small (by decide +kernel)
theorem pri_23 : Pri 23 := pri_small (by decide +kernel)
theorem gen_pri_3727 : Gen 3727 3 := pratt_of (f := 12) (l := [2, 3, 3, 3, 3, 23]) (fun q h => by
 simp only [List.mem_cons, List.not_mem_nil, or_false] at h
 rcases h with rfl | rfl | rfl | rfl | rfl | rfl
 ·
  exact pri_2
 ·
  exact pri_3
 ·
  exact pri_3
 ·
  exact pri_3
 ·
  exact pri_3
 ·
  exact pri_23) (by decide +kernel)
theorem pri_3727 : Pri 3727 := gen_pri_3727.pri
theorem gen_pri_b13 : Gen 1923133 2 := pratt_of (f := 21) (l := [2, 2, 3, 43, 3727]) (fun q h => by
 simp only [List.mem_cons, List.not_mem_nil, or_false] at h
 rcases h with rfl | rfl | rfl | rfl | rfl
 ·
  exact pri_2
 ·
  exact pri_2
 ·
  exact pri_3
 ·
  exact pri_43
 ·
  exact pri_3727) (by decide +kernel)
theorem pri_b13 : Pri 1923133 := gen_pri_b13.pri
theorem pri_31 : Pri 31 := pri_small (by decide +kernel)
theorem pri_107 : Pri 107 := pri_small (by decide +kernel)
theorem pri_223 : Pri 223 := pri_small (by decide +kernel)
theorem pri_173 : Pri 173 := pri_small (by decide +kernel)
theorem gen_pri_4153 : Gen 4153 5 := pratt_of (f := 13) (l := [2, 2, 2, 3, 173]) (fun q h => by
 simp only [List.mem_cons, List.not_mem_nil, or_false] at h
 rcases h with rfl | rfl | rfl | rfl | rfl
 ·
  exact pri_2
 ·
  exact pri_2
 ·
  exact pri_2
 ·
  exact pri_3
 ·
  exact pri_173) (by decide +kernel)
theorem pri_4153 : Pri 4153 := gen_pri_4153.pri
theorem pri_5 : Pri 5 := pri_small (by decide +kernel)
theorem pri_41 : Pri 41 := pri_small (by decide +kernel)
theorem gen_pri_1723 : Gen 1723 3 := pratt_of (f := 11) (l := [2, 3, 7, 41]) (fun q h => by
 simp only [List.mem_cons, List.not_mem_nil, or_false] at h
 rcases h with rfl | rfl | rfl | rfl
 ·
  exact pri_2
 ·
  exact pri_3
 ·
  exact pri_7
 ·
  exact pri_41) (by decide +kernel)
theorem pri_1723 : Pri 1723 := gen_pri_1723.pri
theorem gen_pri_430751 : Gen 430751 17 := pratt_of (f := 19) (l := [2, 5, 5, 5, 1723]) (fun q h => by
 simp only [List.mem_cons, List.not_mem_nil, or_false] at h
 rcases h with rfl | rfl | rfl | rfl | rfl
 ·
  exact pri_2
 ·
  exact pri_5
 ·
  exact pri_5
 ·
  exact pri_5
 ·
  exact pri_1723) (by decide +kernel)
theorem pri_430751 : Pri 430751 := gen_pri_430751.pri
theorem gen_pri_b17 : Gen 31757755568855353 10 := pratt_of (f := 55) (l := [2, 2, 2, 3, 31, 107, 223, 4153, 430751]) (fun q h => by
 simp only [List.mem_cons, List.not_mem_nil, or_false] at h
 rcases h with rfl | rfl | rfl | rfl | rfl | rfl | rfl | rfl | rfl
 ·
  exact pri_2
 ·
  exact pri_2
 ·
  exact pri_2
 ·
  exact pri_3
 ·
  exact pri_31
 ·
  exact pri_107
 ·
  exact pri_223
 ·
  exact pri_4153
 ·
  exact pri_430751) (by decide +kernel)
theorem pri_b17 : Pri 31757755568855353 := gen_pri_b17.pri
theorem pri_19 : Pri 19 := pri_small (by decide +kernel)
theorem pri_83 : Pri 83 := pri_small (by decide +kernel)
theorem gen_pri_9463 : Gen 9463 3 := pratt_of (f := 14) (l := [2, 3, 19, 83]) (fun q h => by
 simp only [List.mem_cons, List.not_mem_nil, or_false] at h
 rcases h with rfl | rfl | rfl | rfl
 ·
  exact pri_2
 ·
  exact pri_3
 ·
  exact pri_19
 ·
  exact pri_83) (by decide +kernel)
theorem pri_9463 : Pri 9463 := gen_pri_9463.pri
theorem gen_pri_37853 : Gen 37853 2 := pratt_of (f := 16) (l := [2, 2, 9463]) (fun q h => by
 simp only [List.mem_cons, List.not_mem_nil, or_false] at h
 rcases h with rfl | rfl | rfl
 ·
  exact pri_2
 ·
  exact pri_2
 ·
  exact pri_9463) (by decide +kernel)
theorem pri_37853 : Pri 37853 := gen_pri_37853.pri
theorem gen_pri_75707 : Gen 75707 2 := pratt_of (f := 17) (l := [2, 37853]) (fun q h => by
 simp only [List.mem_cons, List.not_mem_nil, or_false] at h
 rcases h with rfl | rfl
 ·
  exact pri_2
 ·
  exact pri_37853) (by decide +kernel)
theorem pri_75707 : Pri 75707 := gen_pri_75707.pri
theorem pri_47 : Pri 47 := pri_small (by decide +kernel)
theorem pri_127 : Pri 127 := pri_small (by decide +kernel)
theorem pri_103 : Pri 103 := pri_small (by decide +kernel)
theorem pri_11 : Pri 11 := pri_small (by decide +kernel)
theorem gen_pri_991 : Gen 991 6 := pratt_of (f := 10) (l := [2, 3, 3, 5, 11]) (fun q h => by
 simp only [List.mem_cons, List.not_mem_nil, or_false] at h
 rcases h with rfl | rfl | rfl | rfl | rfl
 ·
  exact pri_2
 ·
  exact pri_3
 ·
  exact pri_3
 ·
  exact pri_5
 ·
  exact pri_11) (by decide +kernel)
theorem pri_991 : Pri 991 := gen_pri_991.pri
theorem gen_pri_b34 : Gen 8574133 2 := pratt_of (f := 24) (l := [2, 2, 3, 7, 103, 991]) (fun q h => by
 simp only [List.mem_cons, List.not_mem_nil, or_false] at h
 rcases h with rfl | rfl | rfl | rfl | rfl | rfl
 ·
  exact pri_2
 ·
  exact pri_2
 ·
  exact pri_3
 ·
  exact pri_7
 ·
  exact pri_103
 ·
  exact pri_991) (by decide +kernel)
theorem pri_b34 : Pri 8574133 := gen_pri_b34.pri
theorem gen_pri_b32 : Gen 1919519569386763 2 := pratt_of (f := 51) (l := [2, 3, 7, 19, 47, 47, 127, 8574133]) (fun q h => by
 simp only [List.mem_cons, List.not_mem_nil, or_false] at h
 rcases h with rfl | rfl | rfl | rfl | rfl | rfl | rfl | rfl
 ·
  exact pri_2
 ·
  exact pri_3
 ·
  exact pri_7
 ·
  exact pri_19
 ·
  exact pri_47
 ·
  exact pri_47
 ·
  exact pri_127
 ·
  exact pri_b34) (by decide +kernel)
theorem pri_b32 : Pri 1919519569386763 := gen_pri_b32.pri
theorem pri_13 : Pri 13 := pri_small (by decide +kernel)
theorem pri_29 : Pri 29 := pri_small (by decide +kernel)
theorem gen_pri_2437 : Gen 2437 2 := pratt_of (f := 12) (l := [2, 2, 3, 7, 29]) (fun q h => by
 simp only [List.mem_cons, List.not_mem_nil, or_false] at h
 rcases h with rfl | rfl | rfl | rfl | rfl
 ·
  exact pri_2
 ·
  exact pri_2
 ·
  exact pri_3
 ·
  exact pri_7
 ·
  exact pri_29) (by decide +kernel)
theorem pri_2437 : Pri 2437 := gen_pri_2437.pri
theorem pri_97 : Pri 97 := pri_small (by decide +kernel)
theorem pri_419 : Pri 419 := pri_small (by decide +kernel)
theorem gen_pri_569003 : Gen 569003 2 := pratt_of (f := 20) (l := [2, 7, 97, 419]) (fun q h => by
 simp only [List.mem_cons, List.not_mem_nil, or_false] at h
 rcases h with rfl | rfl | rfl | rfl
 ·
  exact pri_2
 ·
  exact pri_7
 ·
  exact pri_97
 ·
  exact pri_419) (by decide +kernel)
theorem pri_569003 : Pri 569003 := gen_pri_569003.pri
theorem gen_pri_b40 : Gen 2773320623 5 := pratt_of (f := 32) (l := [2, 2437, 569003]) (fun q h => by
 simp only [List.mem_cons, List.not_mem_nil, or_false] at h
 rcases h with rfl | rfl | rfl
 ·
  exact pri_2
 ·
  exact pri_2437
 ·
  exact pri_569003) (by decide +kernel)
theorem pri_b40 : Pri 2773320623 := gen_pri_b40.pri
theorem gen_pri_b39 : Gen 72106336199 7 := pratt_of (f := 37) (l := [2, 13, 2773320623]) (fun q h => by
 simp only [List.mem_cons, List.not_mem_nil, or_false] at h
 rcases h with rfl | rfl | rfl
 ·
  exact pri_2
 ·
  exact pri_13
 ·
  exact pri_b40) (by decide +kernel)
theorem pri_b39 : Pri 72106336199 := gen_pri_b39.pri
theorem gen_pri_b27 : Gen 75445702479781427272750846543864801 7 := pratt_of (f := 116) (l := [2, 2, 2, 2, 2, 3, 3, 5, 5, 75707, 1919519569386763, 72106336199]) (fun q h => by
 simp only [List.mem_cons, List.not_mem_nil, or_false] at h
 rcases h with rfl | rfl | rfl | rfl | rfl | rfl | rfl | rfl | rfl | rfl | rfl | rfl
 ·
  exact pri_2
 ·
  exact pri_2
 ·
  exact pri_2
 ·
  exact pri_2
 ·
  exact pri_2
 ·
  exact pri_3
 ·
  exact pri_3
 ·
  exact pri_5
 ·
  exact pri_5
 ·
  exact pri_75707
 ·
  exact pri_b32
 ·
  exact pri_b39) (by decide +kernel)
theorem pri_b27 : Pri 75445702479781427272750846543864801 := gen_pri_b27.pri
theorem gen_pri_b6 : Gen 74058212732561358302231226437062788676166966415465897661863160754340907 2 := pratt_of (f := 236) (l := [2, 3, 353, 57467, 132049, 1923133, 31757755568855353, 75445702479781427272750846543864801]) (fun q h => by
 simp only [List.mem_cons, List.not_mem_nil, or_false] at h
 rcases h with rfl | rfl | rfl | rfl | rfl | rfl | rfl | rfl
 ·
  exact pri_2
 ·
  exact pri_3
 ·
  exact pri_353
 ·
  exact pri_57467
 ·
  exact pri_132049
 ·
  exact pri_b13
 ·
  exact pri_b17
 ·
  exact pri_b27) (by decide +kernel)
theorem pri_b6 : Pri 74058212732561358302231226437062788676166966415465897661863160754340907 := gen_pri_b6.pri
theorem gen_pF : Gen pF 2 := pratt_of (f := 255) (l := [2, 2, 3, 65147, 74058212732561358302231226437062788676166966415465897661863160754340907]) (fun q h => by
 simp only [List.mem_cons, List.not_mem_nil, or_false] at h
 rcases h with rfl | rfl | rfl | rfl | rfl
 ·
  exact pri_2
 ·
  exact pri_2
 ·
  exact pri_3
 ·
  exact pri_65147
 ·
  exact pri_b6) (by decide +kernel)
theorem pri_pF : Pri pF := gen_pF.pri
end Go.Proofs.Num

namespace Go.Proofs.Num
theorem pF_pos : 0 < pF := by decide
theorem fermat {x : Nat} (h : x % pF ≠ 0) : x ^ (pF - 1) % pF = 1 := by
 obtain ⟨hn, h1, ha⟩ := gen_pF
 obtain ⟨k, _, hk⟩ := ha (x % pF) (Nat.pos_of_ne_zero h) (Nat.mod_lt _ pF_pos)
 rw [← pow_gm, ← hk, pow_gm, ← Nat.pow_mul, Nat.mul_comm, Nat.pow_mul, ← pow_gm, h1, Nat.one_pow, Nat.mod_eq_of_lt hn]
theorem fmul_zero {a b : Nat} (h : fmul a b = 0) : a % pF = 0 ∨ b % pF = 0 := by
 rcases pri_mul pri_pF (Nat.dvd_of_mod_eq_zero h) with h | h
 ·
  exact .inl (Nat.mod_eq_zero_of_dvd h)
 ·
  exact .inr (Nat.mod_eq_zero_of_dvd h)
theorem fmul_inv {x : Nat} (h : leastF x ≠ 0) : fmul x (finv x) = 1 := by
 unfold fmul finv fpow
 rw [gm_mulr, ← Nat.pow_succ', show (pF - 2).succ = pF - 1 by decide]
 exact fermat h
theorem leastF_of_lt {x : Nat} (h : x < pF) : leastF x = x := Nat.mod_eq_of_lt h
theorem fmul_ltp (x y : Nat) : fmul x y < pF := Nat.mod_lt _ pF_pos
theorem fadd_ltp (x y : Nat) : fadd x y < pF := Nat.mod_lt _ pF_pos
theorem fsub_ltp (x y : Nat) : fsub x y < pF := Nat.mod_lt _ pF_pos
theorem leastF_ltp (x : Nat) : leastF x < pF := Nat.mod_lt _ pF_pos
/-- Halfway up: 1 or -1. -/
def chi (x : Nat) : Nat := x ^ ((pF - 1) / 2) % pF
theorem sq_one {z : Nat} (hz : z < pF) (h : z * z % pF = 1) : z = 1 ∨ z = pF - 1 := by
 have h0 : z ≠ 0 := fun e => by subst e; simp at h
 have hd : pF ∣ (z - 1) * (z + 1) := by
  have e : (z - 1) * (z + 1) = z * z - 1 := by
   obtain ⟨y, rfl⟩ : ∃ y, z = y + 1 := ⟨z - 1, by omega⟩
   rw [Nat.add_sub_cancel]
   have : (y + 1) * (y + 1) = y * (y + 1 + 1) + 1 := by
    rw [Nat.add_mul, Nat.one_mul, Nat.mul_add y (y + 1) 1, Nat.mul_one]
    omega
   omega
  rw [e]
  have h1 : 1 ≤ z * z := Nat.mul_pos (Nat.pos_of_ne_zero h0) (Nat.pos_of_ne_zero h0)
  have := Nat.div_add_mod (z * z) pF
  exact ⟨z * z / pF, by omega⟩
 rcases pri_mul pri_pF hd with h | h
 ·
  left
  by_cases h1 : z = 1
  ·
   exact h1
  ·
   have := Nat.le_of_dvd (by omega) h
   omega
 ·
  right
  have := Nat.le_of_dvd (by omega) h
  omega
theorem chi_lt (x : Nat) : chi x < pF := Nat.mod_lt _ pF_pos
theorem chi_or {x : Nat} (h : leastF x ≠ 0) : chi x = 1 ∨ chi x = pF - 1 := by
 refine sq_one (chi_lt x) ?_
 unfold chi
 rw [gm_mull, gm_mulr, ← Nat.pow_add, show (pF - 1) / 2 + (pF - 1) / 2 = pF - 1 by decide]
 exact fermat h
theorem chi_of {x r : Nat} (h : x ^ ((pF - 1) / 2) % pF = r) : chi x = r := h
theorem two_chi : chi 2 = pF - 1 :=
 chi_of ((pow_pwm (f := 255) (by decide +kernel) (by decide +kernel : pwm pF 255 2 ((pF - 1) / 2) 1 = pF - 1)).trans (by decide))
theorem chi_mul (x y : Nat) : chi (fmul x y) = fmul (chi x) (chi y) := by
 unfold chi fmul
 rw [pow_gm, Nat.mul_pow, gm_mull, gm_mulr]
end Go.Proofs.Num

namespace Go.Proofs.Num
theorem fpow_add9 (x a b : Nat) : fmul (fpow x a) (fpow x b) = fpow x (a + b) := by unfold fmul fpow; rw [gm_mull, gm_mulr, Nat.pow_add]
/-- A fourth of the way up. -/
def quart (x : Nat) : Nat := fpow x fourthE
theorem quart_sq (x : Nat) : fmul (quart x) (quart x) = chi x := by
 unfold quart
 rw [fpow_add9]
 rfl
theorem two_quart : fmul (fpow 2 fourthE) (fpow 2 fourthE) = pF - 1 := (quart_sq 2).trans two_chi
theorem chi_sq {x : Nat} (h : leastF x ≠ 0) : chi (fmul x x) = 1 := by
 rw [chi_mul]
 rcases chi_or h with h | h
 ·
  rw [h]; decide
 ·
  rw [h]; decide
end Go.Proofs.Num

namespace Go.Proofs.Num
open Go Go.RowKit
instance pF_ne : NeZero pF := ⟨by decide⟩
/-- A number modulo p. -/
def fq (x : Nat) : Fin pF := ⟨x % pF, Nat.mod_lt _ pF_pos⟩
theorem fq_mul (a b : Nat) : fq (fmul a b) = fq a * fq b := by
 apply Fin.ext
 rw [Fin.val_mul]
 show a * b % pF % pF = a % pF * (b % pF) % pF
 rw [Nat.mod_mod, ← Nat.mul_mod]
theorem fq_add (a b : Nat) : fq (fadd a b) = fq a + fq b := by
 apply Fin.ext
 rw [Fin.val_add]
 show (a + b) % pF % pF = (a % pF + b % pF) % pF
 rw [Nat.mod_mod, ← Nat.add_mod]
theorem fq_sub (a b : Nat) : fq (fsub a b) = fq a - fq b := by
 apply Fin.ext
 rw [Fin.sub_def]
 show (a + (pF - b % pF)) % pF % pF = (pF - b % pF + a % pF) % pF
 rw [Nat.mod_mod, Nat.add_mod, Nat.add_comm, Nat.add_mod (pF - b % pF) (a % pF), Nat.mod_mod]
theorem fq_zero : fq 0 = 0 := rfl
theorem fq_one : fq 1 = 1 := rfl
theorem fq_inj {a b : Nat} (ha : a < pF) (hb : b < pF) (h : fq a = fq b) : a = b := by
 have h1 := congrArg Fin.val h
 simp only [fq] at h1
 rwa [Nat.mod_eq_of_lt ha, Nat.mod_eq_of_lt hb] at h1
theorem fq_val (u : Fin pF) : fq u.val = u := by
 apply Fin.ext
 exact Nat.mod_eq_of_lt u.isLt
theorem fq_ne {a : Nat} (h : fq a ≠ 0) : leastF a ≠ 0 := fun e => h (by
 apply Fin.ext
 exact e)
theorem fz_mul {u v : Fin pF} (h : u * v = 0) : u = 0 ∨ v = 0 := by
 have h1 : fmul u.val v.val = 0 := by
  have := congrArg Fin.val h
  rw [Fin.val_mul] at this
  exact this
 rcases fmul_zero h1 with e | e
 ·
  left; apply Fin.ext; rw [Nat.mod_eq_of_lt u.isLt] at e; exact e
 ·
  right; apply Fin.ext; rw [Nat.mod_eq_of_lt v.isLt] at e; exact e
theorem fz_ne {u v : Fin pF} (hu : u ≠ 0) (hv : v ≠ 0) : u * v ≠ 0 := fun h => (fz_mul h).elim hu hv
theorem fz_cancel {u a b : Fin pF} (hu : u ≠ 0) (h : u * a = u * b) : a = b := by
 have h1 : u * (a - b) = 0 := by grind
 rcases fz_mul h1 with e | e
 ·
  exact absurd e hu
 ·
  grind
theorem fq_inv {z : Nat} (h : fq z ≠ 0) : fq z * fq (finv z) = 1 := by
 rw [← fq_mul, fmul_inv (fq_ne h), fq_one]
theorem f_inv {u : Fin pF} (h : u ≠ 0) : ∃ v, u * v = 1 := ⟨fq (finv u.val), by
 have h1 := fq_inv (z := u.val) (by rw [fq_val]; exact h)
 rwa [fq_val] at h1⟩
theorem f_two : (2 : Fin pF) ≠ 0 := by decide
/-- d, and a root of -1. -/
def dQ : Fin pF := fq dF
def iQ : Fin pF := fq (fpow 2 fourthE)
theorem iQ_sq : iQ * iQ = -1 := by
 unfold iQ
 rw [← fq_mul, two_quart]
 decide
theorem chi_B (x : Nat) : chi x = powB x ((pF - 1) / 2) 256 := fpow_B (by decide)
theorem chi_nd : chi (pF - dF) = pF - 1 := by
 rw [chi_B]
 decide +kernel
theorem fq_nd : fq (pF - dF) = -dQ := by decide +kernel
theorem nd_ne : ∀ r : Fin pF, r * r ≠ -dQ := fun r h => by
 rw [← fq_nd, ← fq_val r, ← fq_mul] at h
 have h1 : fmul r.val r.val = pF - dF := fq_inj (fmul_ltp ..) (by decide) h
 by_cases hz : leastF r.val = 0
 ·
  have h2 : r.val = 0 := by rw [← leastF_of_lt r.isLt]; exact hz
  rw [h2] at h1
  revert h1
  decide
 ·
  have h2 := chi_sq hz
  rw [h1, chi_nd] at h2
  revert h2
  decide
def OnQ (x y : Fin pF) : Prop := y * y - x * x = 1 + dQ * ((x * x) * (y * y))
section
variable {n : Nat} [NeZero n]
theorem compl_a {x1 y1 x2 y2 d i e : Fin n} (hi : i * i = -1) (h1 : y1 * y1 - x1 * x1 = 1 + d * ((x1 * x1) * (y1 * y1))) (h2 : y2 * y2 - x2 * x2 = 1 + d * ((x2 * x2) * (y2 * y2))) (he : e * e = 1) (hk : d * ((x1 * x2) * (y1 * y2)) = e) :
  (i * x1 + e * y1) * (i * x1 + e * y1) = -d * (((i * x1 * y1) * (i * x2 + y2)) * ((i * x1 * y1) * (i * x2 + y2))) := by grind
theorem compl_b {x1 y1 x2 y2 d i e : Fin n} (hi : i * i = -1) (h1 : y1 * y1 - x1 * x1 = 1 + d * ((x1 * x1) * (y1 * y1))) (h2 : y2 * y2 - x2 * x2 = 1 + d * ((x2 * x2) * (y2 * y2))) (he : e * e = 1) (hk : d * ((x1 * x2) * (y1 * y2)) = e) :
  (i * x1 - e * y1) * (i * x1 - e * y1) = -d * (((i * x1 * y1) * (i * x2 - y2)) * ((i * x1 * y1) * (i * x2 - y2))) := by grind
theorem sq_out {d r w v : Fin n} (h : r * r = -d * (w * w)) (hv : w * v = 1) : (r * v) * (r * v) = -d := by grind
theorem aff_on {X Y Z T z d : Fin n} (r : X * Y = Z * T) (s : Y * Y - X * X = Z * Z + d * (T * T)) (h : Z * z = 1) : (Y * z) * (Y * z) - (X * z) * (X * z) = 1 + d * (((X * z) * (X * z)) * ((Y * z) * (Y * z))) := by grind
theorem clos_p {X1 Y1 Z1 T1 X2 Y2 Z2 T2 d A B C D : Fin n} (r1 : X1 * Y1 = Z1 * T1) (s1 : Y1 * Y1 - X1 * X1 = Z1 * Z1 + d * (T1 * T1)) (r2 : X2 * Y2 = Z2 * T2) (s2 : Y2 * Y2 - X2 * X2 = Z2 * Z2 + d * (T2 * T2))
  (hA : A = (Y1 - X1) * (Y2 - X2)) (hB : B = (Y1 + X1) * (Y2 + X2)) (hC : C = T1 * T2 * (d + d)) (hD : D = Z1 * (Z2 + Z2)) :
  ((D + C) * (B + A)) * ((D + C) * (B + A)) - ((B - A) * (D - C)) * ((B - A) * (D - C)) = ((D - C) * (D + C)) * ((D - C) * (D + C)) + d * (((B - A) * (B + A)) * ((B - A) * (B + A))) := by
 subst hA hB hC hD
 grind
theorem sum_x {X1 Y1 Z1 T1 X2 Y2 Z2 T2 d A B C D z1 z2 z3 w : Fin n} (r1 : X1 * Y1 = Z1 * T1) (r2 : X2 * Y2 = Z2 * T2) (h1 : Z1 * z1 = 1) (h2 : Z2 * z2 = 1)
  (hA : A = (Y1 - X1) * (Y2 - X2)) (hB : B = (Y1 + X1) * (Y2 + X2)) (hC : C = T1 * T2 * (d + d)) (hD : D = Z1 * (Z2 + Z2)) (h3 : ((D - C) * (D + C)) * z3 = 1) (hw : (1 + d * (((X1 * z1) * (X2 * z2)) * ((Y1 * z1) * (Y2 * z2)))) * w = 1) :
  ((B - A) * (D - C)) * z3 = ((X1 * z1) * (Y2 * z2) + (X2 * z2) * (Y1 * z1)) * w := by
 subst hA hB hC hD
 grind
theorem sum_y {X1 Y1 Z1 T1 X2 Y2 Z2 T2 d A B C D z1 z2 z3 w : Fin n} (r1 : X1 * Y1 = Z1 * T1) (r2 : X2 * Y2 = Z2 * T2) (h1 : Z1 * z1 = 1) (h2 : Z2 * z2 = 1)
  (hA : A = (Y1 - X1) * (Y2 - X2)) (hB : B = (Y1 + X1) * (Y2 + X2)) (hC : C = T1 * T2 * (d + d)) (hD : D = Z1 * (Z2 + Z2)) (h3 : ((D - C) * (D + C)) * z3 = 1) (hw : (1 - d * (((X1 * z1) * (X2 * z2)) * ((Y1 * z1) * (Y2 * z2)))) * w = 1) :
  ((D + C) * (B + A)) * z3 = ((Y1 * z1) * (Y2 * z2) + (X1 * z1) * (X2 * z2)) * w := by
 subst hA hB hC hD
 grind
theorem fac_f {X1 Y1 Z1 T1 X2 Y2 Z2 T2 d C D z1 z2 : Fin n} (r1 : X1 * Y1 = Z1 * T1) (r2 : X2 * Y2 = Z2 * T2) (h1 : Z1 * z1 = 1) (h2 : Z2 * z2 = 1) (hC : C = T1 * T2 * (d + d)) (hD : D = Z1 * (Z2 + Z2)) :
  D - C = 2 * ((Z1 * Z2) * (1 - d * (((X1 * z1) * (X2 * z2)) * ((Y1 * z1) * (Y2 * z2))))) := by
 subst hC hD
 grind
theorem fac_g {X1 Y1 Z1 T1 X2 Y2 Z2 T2 d C D z1 z2 : Fin n} (r1 : X1 * Y1 = Z1 * T1) (r2 : X2 * Y2 = Z2 * T2) (h1 : Z1 * z1 = 1) (h2 : Z2 * z2 = 1) (hC : C = T1 * T2 * (d + d)) (hD : D = Z1 * (Z2 + Z2)) :
  D + C = 2 * ((Z1 * Z2) * (1 + d * (((X1 * z1) * (X2 * z2)) * ((Y1 * z1) * (Y2 * z2))))) := by
 subst hC hD
 grind
end
/-- NO DENOMINATOR IS 0: d is no square, -1 is one. -/
theorem compl_ne {x1 y1 x2 y2 : Fin pF} (h1 : OnQ x1 y1) (h2 : OnQ x2 y2) (e : Fin pF) (he : e * e = 1) : dQ * ((x1 * x2) * (y1 * y2)) ≠ e := fun hk => by
 have e0 : e ≠ 0 := fun h => by
  rw [h] at he
  exact absurd he (by decide)
 have hx : x1 ≠ 0 := fun h => e0 (by rw [← hk, h]; grind)
 have hy : y1 ≠ 0 := fun h => e0 (by rw [← hk, h]; grind)
 have hy2 : y2 ≠ 0 := fun h => e0 (by rw [← hk, h]; grind)
 have hi : iQ ≠ 0 := fun h => by
  have := iQ_sq
  rw [h] at this
  exact absurd this (by decide)
 have hw : iQ * x1 * y1 ≠ 0 := fz_ne (fz_ne hi hx) hy
 by_cases ha : iQ * x2 + y2 = 0
 ·
  have hb : iQ * x2 - y2 ≠ 0 := fun hb => by
   have h9 : (2 : Fin pF) * y2 = 0 := by grind
   exact (fz_mul h9).elim f_two hy2
  obtain ⟨v, hv⟩ := f_inv (fz_ne hw hb)
  exact nd_ne _ (sq_out (compl_b iQ_sq h1 h2 he hk) hv)
 ·
  obtain ⟨v, hv⟩ := f_inv (fz_ne hw ha)
  exact nd_ne _ (sq_out (compl_a iQ_sq h1 h2 he hk) hv)
theorem compl_m {x1 y1 x2 y2 : Fin pF} (h1 : OnQ x1 y1) (h2 : OnQ x2 y2) : 1 - dQ * ((x1 * x2) * (y1 * y2)) ≠ 0 := fun h => compl_ne h1 h2 1 (by decide) (by grind)
theorem compl_p {x1 y1 x2 y2 : Fin pF} (h1 : OnQ x1 y1) (h2 : OnQ x2 y2) : 1 + dQ * ((x1 * x2) * (y1 * y2)) ≠ 0 := fun h => compl_ne h1 h2 (-1) (by decide) (by grind)
/-- A point of the curve, in numbers modulo p. -/
structure PtQ (p : P4) : Prop where
 z : fq p.z ≠ 0
 r : fq p.x * fq p.y = fq p.z * fq p.t
 s : fq p.y * fq p.y - fq p.x * fq p.x = fq p.z * fq p.z + dQ * (fq p.t * fq p.t)
theorem rightP_of {p : P4} (hx : p.x < pF) (hy : p.y < pF) (hz : p.z < pF) (ht : p.t < pF) (h : PtQ p) : rightP p = true := by
 unfold rightP
 have e1 : fmul p.x p.y = fmul p.z p.t := fq_inj (fmul_ltp ..) (fmul_ltp ..) (by rw [fq_mul, fq_mul]; exact h.r)
 have e2 : fsub (fmul p.y p.y) (fmul p.x p.x) = fadd (fmul p.z p.z) (fmul dF (fmul p.t p.t)) := fq_inj (fsub_ltp ..) (fadd_ltp ..) (by rw [fq_sub, fq_add, fq_mul, fq_mul, fq_mul, fq_mul, fq_mul]; exact h.s)
 have e3 : p.z ≠ 0 := fun e => h.z (by rw [e]; rfl)
 rw [decide_eq_true (leastF_of_lt hx), decide_eq_true (leastF_of_lt hy), decide_eq_true (leastF_of_lt hz), decide_eq_true (leastF_of_lt ht), decide_eq_true e1, decide_eq_true e2, decide_eq_true e3]
 rfl
structure Canon (p : P4) : Prop where
 x : p.x < pF
 y : p.y < pF
 z : p.z < pF
 t : p.t < pF
theorem ofRightP {p : P4} (h : rightP p = true) : Canon p ∧ PtQ p := by
 unfold rightP at h
 simp only [Bool.and_eq_true, decide_eq_true_eq] at h
 obtain ⟨⟨⟨⟨⟨⟨h1, h2⟩, h3⟩, h4⟩, h5⟩, h6⟩, h7⟩ := h
 have c : Canon p := ⟨h1 ▸ leastF_ltp _, h2 ▸ leastF_ltp _, h3 ▸ leastF_ltp _, h4 ▸ leastF_ltp _⟩
 refine ⟨c, fun e => h5 (fq_inj c.z pF_pos e), ?_, ?_⟩
 ·
  rw [← fq_mul, ← fq_mul, h6]
 ·
  unfold dQ
  rw [← fq_mul, ← fq_mul, ← fq_mul, ← fq_mul, ← fq_mul, ← fq_sub, ← fq_add, h7]
theorem right_iff {p : P4} (c : Canon p) : rightP p = true ↔ PtQ p := ⟨fun h => (ofRightP h).2, rightP_of c.x c.y c.z c.t⟩
theorem PtQ.on {p : P4} (h : PtQ p) : OnQ (fq (affX p)) (fq (affY p)) := by
 unfold OnQ affX affY
 rw [fq_mul, fq_mul]
 exact aff_on h.r h.s (fq_inv h.z)
theorem addP_canon (p q : P4) : Canon (addP p q) := ⟨fmul_ltp .., fmul_ltp .., fmul_ltp .., fmul_ltp ..⟩
theorem addP_ptq {p q : P4} (hp : PtQ p) (hq : PtQ q) : PtQ (addP p q) := by
 have onp := hp.on
 have onq := hq.on
 unfold affX affY at onp onq
 rw [fq_mul, fq_mul] at onp onq
 have hA : fq (aA p q) = (fq p.y - fq p.x) * (fq q.y - fq q.x) := by unfold aA; rw [fq_mul, fq_sub, fq_sub]
 have hB : fq (aB p q) = (fq p.y + fq p.x) * (fq q.y + fq q.x) := by unfold aB; rw [fq_mul, fq_add, fq_add]
 have hC : fq (aC p q) = fq p.t * fq q.t * (dQ + dQ) := by unfold aC dQ; rw [fq_mul, fq_mul, fq_add]
 have hD : fq (aD p q) = fq p.z * (fq q.z + fq q.z) := by unfold aD; rw [fq_mul, fq_add]
 refine ⟨?_, ?_, ?_⟩
 ·
  show fq (fmul (fsub (aD p q) (aC p q)) (fadd (aD p q) (aC p q))) ≠ 0
  rw [fq_mul, fq_sub, fq_add, fac_f hp.r hq.r (fq_inv hp.z) (fq_inv hq.z) hC hD, fac_g hp.r hq.r (fq_inv hp.z) (fq_inv hq.z) hC hD]
  exact fz_ne (fz_ne f_two (fz_ne (fz_ne hp.z hq.z) (compl_m onp onq))) (fz_ne f_two (fz_ne (fz_ne hp.z hq.z) (compl_p onp onq)))
 ·
  show fq (fmul (fsub (aB p q) (aA p q)) (fsub (aD p q) (aC p q))) * fq (fmul (fadd (aD p q) (aC p q)) (fadd (aB p q) (aA p q))) = fq (fmul (fsub (aD p q) (aC p q)) (fadd (aD p q) (aC p q))) * fq (fmul (fsub (aB p q) (aA p q)) (fadd (aB p q) (aA p q)))
  simp only [fq_mul, fq_sub, fq_add]
  grind
 ·
  show fq (fmul (fadd (aD p q) (aC p q)) (fadd (aB p q) (aA p q))) * fq (fmul (fadd (aD p q) (aC p q)) (fadd (aB p q) (aA p q))) - fq (fmul (fsub (aB p q) (aA p q)) (fsub (aD p q) (aC p q))) * fq (fmul (fsub (aB p q) (aA p q)) (fsub (aD p q) (aC p q))) = fq (fmul (fsub (aD p q) (aC p q)) (fadd (aD p q) (aC p q))) * fq (fmul (fsub (aD p q) (aC p q)) (fadd (aD p q) (aC p q))) + dQ * (fq (fmul (fsub (aB p q) (aA p q)) (fadd (aB p q) (aA p q))) * fq (fmul (fsub (aB p q) (aA p q)) (fadd (aB p q) (aA p q))))
  simp only [fq_mul, fq_sub, fq_add]
  exact clos_p hp.r hp.s hq.r hq.s hA hB hC hD
theorem right_add {p q : P4} (hp : rightP p = true) (hq : rightP q = true) : rightP (addP p q) = true := (right_iff (addP_canon p q)).2 (addP_ptq (ofRightP hp).2 (ofRightP hq).2)
theorem right_zero : rightP zeroP = true := by decide +kernel
theorem right_mulR {n : Nat} {p : P4} (hp : rightP p = true) : ∀ k, rightP (mulR n p k) = true
 | 0 => right_zero
 | k + 1 => by
  rw [mulR]
  have ih := right_mulR (n := n) hp k
  split
  ·
   exact right_add (right_add ih ih) hp
  ·
   exact right_add ih ih
end Go.Proofs.Num

namespace Go.Proofs.Num
open Go Go.RowKit
section
variable {n : Nat} [NeZero n]
end
theorem affX_ltp (p : P4) : affX p < pF := fmul_ltp ..
theorem affY_ltp (p : P4) : affY p < pF := fmul_ltp ..
theorem fq_dR : fq dR = dQ := by rw [dR_dF]; rfl
theorem sumAll_q (a b c d : Nat) : fq (sumAll a b c d) = dQ * ((fq a * fq c) * (fq b * fq d)) := by
 unfold sumAll
 rw [fq_mul, fq_mul, fq_mul, fq_mul, fq_dR]
/-- THE LAW: the program's sum is the document's. -/
theorem aff_add {p q : P4} (hp : PtQ p) (hq : PtQ q) : affX (addP p q) = sumX (affX p) (affY p) (affX q) (affY q) ∧ affY (addP p q) = sumY (affX p) (affY p) (affX q) (affY q) := by
 have hr := addP_ptq hp hq
 have hA : fq (aA p q) = (fq p.y - fq p.x) * (fq q.y - fq q.x) := by unfold aA; rw [fq_mul, fq_sub, fq_sub]
 have hB : fq (aB p q) = (fq p.y + fq p.x) * (fq q.y + fq q.x) := by unfold aB; rw [fq_mul, fq_add, fq_add]
 have hC : fq (aC p q) = fq p.t * fq q.t * (dQ + dQ) := by unfold aC dQ; rw [fq_mul, fq_mul, fq_add]
 have hD : fq (aD p q) = fq p.z * (fq q.z + fq q.z) := by unfold aD; rw [fq_mul, fq_add]
 have hz3 := fq_inv hr.z
 have e3 : fq (addP p q).z = (fq (aD p q) - fq (aC p q)) * (fq (aD p q) + fq (aC p q)) := by
  show fq (fmul (fsub (aD p q) (aC p q)) (fadd (aD p q) (aC p q))) = _
  rw [fq_mul, fq_sub, fq_add]
 rw [e3] at hz3
 have onp := hp.on
 have onq := hq.on
 have ex : fq (affX p) = fq p.x * fq (finv p.z) := fq_mul ..
 have ey : fq (affY p) = fq p.y * fq (finv p.z) := fq_mul ..
 have fx : fq (affX q) = fq q.x * fq (finv q.z) := fq_mul ..
 have fy : fq (affY q) = fq q.y * fq (finv q.z) := fq_mul ..
 constructor
 ·
  refine fq_inj (fmul_ltp ..) (fmul_ltp ..) ?_
  have hw : fq (fadd 1 (sumAll (affX p) (affY p) (affX q) (affY q))) ≠ 0 := by
   rw [fq_add, fq_one, sumAll_q]
   exact compl_p onp onq
  have hw2 := fq_inv hw
  rw [fq_add, fq_one, sumAll_q, ex, ey, fx, fy] at hw2
  have key := sum_x hp.r hq.r (fq_inv hp.z) (fq_inv hq.z) hA hB hC hD hz3 hw2
  show fq (fmul (fmul (fsub (aB p q) (aA p q)) (fsub (aD p q) (aC p q))) (finv (addP p q).z)) = _
  unfold sumX
  rw [fq_mul, fq_mul, fq_sub, fq_sub, fq_mul, fq_add, fq_mul, fq_mul, ex, ey, fx, fy]
  exact key
 ·
  refine fq_inj (fmul_ltp ..) (fmul_ltp ..) ?_
  have hw : fq (fsub 1 (sumAll (affX p) (affY p) (affX q) (affY q))) ≠ 0 := by
   rw [fq_sub, fq_one, sumAll_q]
   exact compl_m onp onq
  have hw2 := fq_inv hw
  rw [fq_sub, fq_one, sumAll_q, ex, ey, fx, fy] at hw2
  have key := sum_y hp.r hq.r (fq_inv hp.z) (fq_inv hq.z) hA hB hC hD hz3 hw2
  show fq (fmul (fmul (fadd (aD p q) (aC p q)) (fadd (aB p q) (aA p q))) (finv (addP p q).z)) = _
  unfold sumY
  rw [fq_mul, fq_mul, fq_add, fq_add, fq_mul, fq_add, fq_mul, fq_mul, ex, ey, fx, fy]
  exact key
end Go.Proofs.Num

