/- Carrying, sums, products and differences of digits: what the loops keep. -/
import Derived.Test.YticcchgckljlnaaDoorNumH
set_option linter.unusedSimpArgs false
set_option linter.unusedVariables false
namespace Go.Proofs.Num
open Go
def cvf (f : Nat → Nat) (n : Nat) : Nat → Nat := fun j => if j < n then f j else 0
def cvV (f : Nat → Nat) (n i : Nat) : Nat := valN i (cvf f n)
theorem cvf_lt {f : Nat → Nat} {n i : Nat} (h : i < n) : cvf f n i = f i := if_pos h
theorem cvf_ge {f : Nat → Nat} {n i : Nat} (h : ¬ i < n) : cvf f n i = 0 := if_neg h
theorem cvf_le {f : Nat → Nat} {n : Nat} (hf : ∀ i, i < n → f i ≤ 2305843009213693952) (i : Nat) : cvf f n i ≤ 2305843009213693952 := by
  unfold cvf; split
  · exact hf _ ‹_›
  · omega
theorem cv_next (f : Nat → Nat) (n i : Nat) : (cvV f n i / 65536 ^ i + cvf f n i) / 65536 = cvV f n (i + 1) / 65536 ^ (i + 1) := by
  have h := carry_step (n := cvV f n i / 65536 ^ i + cvf f n i) (V := cvV f n i) (i := i) (d := cvf f n i) rfl rfl
  exact h.2.2.1.symm
theorem cv_put (f : Nat → Nat) (n m i : Nat) : (dl m (cvV f n i % 65536 ^ i)).set i (.int .i64 (((cvV f n i / 65536 ^ i + cvf f n i) % 65536 : Nat) : Int)) = dl m (cvV f n (i + 1) % 65536 ^ (i + 1)) := by
  have h := carry_step (n := cvV f n i / 65536 ^ i + cvf f n i) (V := cvV f n i) (i := i) (d := cvf f n i) rfl rfl
  have e : cvV f n (i + 1) = cvV f n i + cvf f n i * 65536 ^ i := rfl
  rw [e]
  refine dl_put (fun j hj _ => ?_) ?_
  · by_cases hji : j < i
    · rw [digN_mod_lt (by omega), ← digN_mod_lt (m := i) hji, h.2.1]
    · rw [digN_ge (by omega), digN_ge (by omega)]
  · rw [digN_mod_lt (by omega)]; exact h.2.2.2
theorem cv_bound {f : Nat → Nat} {n : Nat} (hf : ∀ i, i < n → f i ≤ 2305843009213693952) (i : Nat) : cvV f n i / 65536 ^ i ≤ 2305843009213693952 := by
  have h := valN_lt (n := i) (B := 2305843009213693952) (f := cvf f n) fun j _ => cvf_le hf j
  exact Nat.div_le_of_le_mul (by rw [Nat.mul_comm]; exact h)
theorem valN_more (f : Nat → Nat) (n d : Nat) : valN (n + d) (cvf f n) = valN n f := by
  induction d with
  | zero => exact valN_ext fun i hi => cvf_lt hi
  | succ d ih => rw [← Nat.add_assoc, valN, ih, cvf_ge (by omega), Nat.zero_mul, Nat.add_zero]
theorem cv_end (f : Nat → Nat) (n : Nat) : cvV f n (n + 4) = valN n f := valN_more f n 4
theorem valN_lt4 {f : Nat → Nat} {n : Nat} (hf : ∀ i, i < n → f i ≤ 2305843009213693952) : valN n f < 65536 ^ (n + 4) := by
  have h := valN_lt hf
  rw [Nat.pow_add]
  have hp := Nat.pow_pos (n := n) (show 0 < 65536 by decide)
  have : (65536 : Nat) ^ 4 = 18446744073709551616 := by decide
  rw [this]; omega

/-- Sums. -/
def plF (x y i : Nat) : Nat → Nat := fun j => digN x j + digN (y % 65536 ^ i) j
theorem plF_zero (x y m : Nat) : dl m x = nl m (plF x y 0) := nl_ext fun j _ => by unfold plF; rw [Nat.pow_zero, Nat.mod_one]; simp [digN]
theorem pl_put1 {m x i : Nat} : (dl m (x % 65536 ^ i)).set i (.int .i64 ((digN x i : Nat) : Int)) = dl m (x % 65536 ^ (i + 1)) := by
  refine dl_put (fun j hj _ => ?_) (digN_mod_lt (by omega))
  by_cases hji : j < i
  · rw [digN_mod_lt (by omega), digN_mod_lt hji]
  · rw [digN_ge (by omega), digN_ge (by omega)]
theorem plF_at (x y i : Nat) : plF x y i i = digN x i := by unfold plF; rw [digN_ge (Nat.le_refl _), Nat.add_zero]
theorem pl_put2 {m x y i : Nat} : (nl m (plF x y i)).set i (.int .i64 ((plF x y i i + digN y i : Nat) : Int)) = nl m (plF x y (i + 1)) := by
  rw [nl_set]
  refine nl_ext fun j _ => ?_
  by_cases hji : j = i
  · subst hji; rw [if_pos rfl, plF_at]; unfold plF; rw [digN_mod_lt (by omega)]
  · rw [if_neg hji]; unfold plF
    by_cases h : j < i
    · rw [digN_mod_lt h, digN_mod_lt (by omega)]
    · rw [digN_ge (by omega), digN_ge (by omega)]
theorem plF_le (x y i j : Nat) : plF x y i j ≤ 131070 := by
  have h1 := digN_lt x j
  have h2 := digN_lt (y % 65536 ^ i) j
  unfold plF; omega
theorem plF_val {n m x y : Nat} (hx : x < 65536 ^ n) (hy : y < 65536 ^ m) : valN (n + m) (plF x y m) = x + y := by
  unfold plF
  have h1 : x < 65536 ^ (n + m) := Nat.lt_of_lt_of_le hx (Nat.pow_le_pow_right (by decide) (by omega))
  have h2 : y < 65536 ^ (n + m) := Nat.lt_of_lt_of_le hy (Nat.pow_le_pow_right (by decide) (by omega))
  rw [valN_add, valN_dig, valN_dig, Nat.mod_eq_of_lt hy, Nat.mod_eq_of_lt h1, Nat.mod_eq_of_lt h2]

/-- Products: what stands after i whole rows and k places. -/
structure TmI (x y n m i k : Nat) (f : Nat → Nat) : Prop where
  val : valN (n + m) f = (x % 65536 ^ i) * y + digN x i * 65536 ^ i * (y % 65536 ^ k)
  le : ∀ j, f j ≤ i * 4294836225 + (if j < i + k then 4294836225 else 0)
def tmF (x y i k : Nat) (f : Nat → Nat) : Nat → Nat := fun j => if j = i + k then f j + digN x i * digN y k else f j
theorem dig_mul_le (x y i k : Nat) : digN x i * digN y k ≤ 4294836225 :=
  Nat.le_trans (Nat.mul_le_mul (Nat.le_of_lt_succ (digN_lt x i)) (Nat.le_of_lt_succ (digN_lt y k))) (by decide)
theorem tm_start (x y n m : Nat) : TmI x y n m 0 0 (fun _ => 0) := ⟨by rw [valN_zero]; simp [Nat.mod_one], fun j => by simp⟩
theorem tm_step {x y n m i k : Nat} {f : Nat → Nat} (hi : i < n) (hk : k < m) (h : TmI x y n m i k f) : TmI x y n m i (k + 1) (tmF x y i k f) := by
  have hm := dig_mul_le x y i k
  refine ⟨?_, fun j => ?_⟩
  · have e : valN (n + m) (tmF x y i k f) = valN (n + m) f + digN x i * digN y k * 65536 ^ (i + k) := by
      have := valN_set (n := n + m) (j := i + k) f (digN x i * digN y k) (by omega)
      rw [← this]; rfl
    rw [e, h.val, mod_dig y k, Nat.pow_add]
    generalize (x % 65536 ^ i) * y = A
    generalize digN x i = a
    generalize digN y k = b
    generalize 65536 ^ i = E
    generalize 65536 ^ k = G
    generalize y % G = z
    grind
  · have hj := h.le j
    unfold tmF
    by_cases hjk : j = i + k
    · rw [if_pos hjk, if_pos (by omega)]
      rw [if_neg (by omega)] at hj
      omega
    · rw [if_neg hjk]
      by_cases h2 : j < i + k
      · rw [if_pos h2] at hj; rw [if_pos (by omega)]; exact hj
      · rw [if_neg h2] at hj; rw [if_neg (by omega)]; exact hj
theorem tm_row {x y n m i : Nat} {f : Nat → Nat} (hy : y < 65536 ^ m) (h : TmI x y n m i m f) : TmI x y n m (i + 1) 0 f := by
  refine ⟨?_, fun j => ?_⟩
  · rw [h.val, mod_dig x i, Nat.pow_zero, Nat.mod_one, Nat.mod_eq_of_lt hy, Nat.add_mul, Nat.mul_zero, Nat.add_zero]
  · have := h.le j
    rw [Nat.add_mul, Nat.one_mul]
    generalize i * 4294836225 = Z at *
    split at this <;> split <;> omega
theorem tm_end {x y n m : Nat} {f : Nat → Nat} (hx : x < 65536 ^ n) (h : TmI x y n m n 0 f) : valN (n + m) f = x * y := by
  rw [h.val, Nat.pow_zero, Nat.mod_one, Nat.mod_eq_of_lt hx]; simp
theorem tm_small {x y n m i k : Nat} {f : Nat → Nat} (hi : i ≤ n) (hn : n ≤ 1000) (h : TmI x y n m i k f) (j : Nat) : f j ≤ 4299131061225 := by
  have := h.le j
  split at this <;> omega
theorem tm_put {x y m i k : Nat} {f : Nat → Nat} : (nl m f).set (i + k) (.int .i64 ((f (i + k) + digN x i * digN y k : Nat) : Int)) = nl m (tmF x y i k f) := by
  rw [nl_set]
  refine nl_ext fun j _ => ?_
  unfold tmF
  by_cases h : j = i + k
  · subst h; simp
  · simp [h]

/-- Differences. -/
structure MiI (x y i R low : Nat) : Prop where
  sum : R + y % 65536 ^ i = x % 65536 ^ i + low * 65536 ^ i
  low : low ≤ 1
  lt : R < 65536 ^ i
def miD (x y i low : Nat) : Nat := (digN x i + 65536 - low - digN y i) % 65536
def miL (x y i low : Nat) : Nat := if digN x i < low + digN y i then 1 else 0
def miR (x y i R low : Nat) : Nat := R + miD x y i low * 65536 ^ i
theorem mi_parts {x y i low : Nat} (hl : low ≤ 1) : miD x y i low + low + digN y i = digN x i + 65536 * miL x y i low := by
  have h1 := digN_lt x i
  have h2 := digN_lt y i
  unfold miD miL
  split <;> omega
theorem miD_lt (x y i low : Nat) : miD x y i low < 65536 := Nat.mod_lt _ (by decide)
theorem mi_start (x y : Nat) : MiI x y 0 0 0 := ⟨by simp [Nat.mod_one], by omega, by simp⟩
theorem mi_step {x y i R low : Nat} (h : MiI x y i R low) : MiI x y (i + 1) (miR x y i R low) (miL x y i low) := by
  have hp := mi_parts (x := x) (y := y) (i := i) h.low
  refine ⟨?_, by unfold miL; split <;> omega, ?_⟩
  · have hs := h.sum
    rw [mod_dig x i, mod_dig y i, Nat.pow_succ]
    unfold miR
    generalize miD x y i low = d at *
    generalize miL x y i low = l at *
    generalize digN x i = a at *
    generalize digN y i = b at *
    generalize 65536 ^ i = E at *
    have e : (d + low + b) * E = (a + 65536 * l) * E := by rw [hp]
    have e1 : (d + low + b) * E = d * E + low * E + b * E := by grind
    have e2 : (a + 65536 * l) * E = a * E + l * (E * 65536) := by grind
    omega
  · have := miD_lt x y i low
    have hl := h.lt
    unfold miR
    rw [Nat.pow_succ]
    have : miD x y i low * 65536 ^ i ≤ 65535 * 65536 ^ i := Nat.mul_le_mul_right _ (by omega)
    generalize 65536 ^ i = E at *
    omega
theorem mi_put {x y n i R low : Nat} (h : MiI x y i R low) : (dl n R).set i (.int .i64 ((miD x y i low : Nat) : Int)) = dl n (miR x y i R low) := by
  have hd := miD_lt x y i low
  have hp := Nat.pow_pos (n := i) (show 0 < 65536 by decide)
  have e1 : miR x y i R low % 65536 ^ i = R := by unfold miR; rw [Nat.add_mul_mod_self_right, Nat.mod_eq_of_lt h.lt]
  refine dl_put (fun j hj _ => ?_) ?_
  · by_cases hji : j < i
    · rw [← digN_mod_lt (m := i) hji, e1]
    · rw [digN_big (Nat.lt_of_lt_of_le (mi_step h).lt (Nat.pow_le_pow_right (by decide) (by omega))), digN_big (Nat.lt_of_lt_of_le h.lt (Nat.pow_le_pow_right (by decide) (by omega)))]
  · unfold miR digN
    rw [Nat.add_mul_div_right _ _ hp, Nat.div_eq_of_lt h.lt, Nat.zero_add, Nat.mod_eq_of_lt hd]
theorem mi_end {x y n R low : Nat} (hx : x < 65536 ^ n) (hyx : y ≤ x) (h : MiI x y n R low) : R = x - y := by
  have hs := h.sum
  rw [Nat.mod_eq_of_lt hx, Nat.mod_eq_of_lt (Nat.lt_of_le_of_lt hyx hx)] at hs
  have hl := h.lt
  have hlow := h.low
  rcases Nat.le_one_iff_eq_zero_or_eq_one.1 hlow with e | e
  · rw [e, Nat.zero_mul] at hs; omega
  · rw [e, Nat.one_mul] at hs; omega
end Go.Proofs.Num
