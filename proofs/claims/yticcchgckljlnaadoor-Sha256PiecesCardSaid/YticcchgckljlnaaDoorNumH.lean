/- Numbers as digits to the base 65536: cells of digits, how many there are, sums, products, differences. -/
import Derived.Test.YticcchgckljlnaaDoorNumG
set_option linter.unusedSimpArgs false
set_option linter.unusedVariables false
namespace Go.Proofs.Num
open Go
def digN (x i : Nat) : Nat := x / 65536 ^ i % 65536
theorem digN_lt (x i : Nat) : digN x i < 65536 := Nat.mod_lt _ (by decide)
def nl (n : Nat) (f : Nat → Nat) : List Value := (List.range n).map fun i => .int .i64 ((f i : Nat) : Int)
theorem nl_get (n : Nat) (f : Nat → Nat) {j : Nat} (h : j < n) : (nl n f)[j]? = some (.int .i64 ((f j : Nat) : Int)) := by simp [nl, h]
theorem nl_len (n : Nat) (f : Nat → Nat) : (nl n f).length = n := by simp [nl]
theorem nl_ext {n : Nat} {f g : Nat → Nat} (h : ∀ i, i < n → f i = g i) : nl n f = nl n g := by
  apply List.ext_getElem?
  intro i
  by_cases hi : i < n
  · rw [nl_get _ _ hi, nl_get _ _ hi, h i hi]
  · rw [List.getElem?_eq_none (by rw [nl_len]; omega), List.getElem?_eq_none (by rw [nl_len]; omega)]
theorem nl_set {n : Nat} (f : Nat → Nat) (j v : Nat) : (nl n f).set j (.int .i64 ((v : Nat) : Int)) = nl n (fun i => if i = j then v else f i) := by
  apply List.ext_getElem?
  intro i
  rw [List.getElem?_set, nl_len]
  by_cases hi : i < n
  · rw [nl_get _ _ hi, nl_get _ _ hi]
    by_cases hij : j = i
    · subst hij; simp [hi]
    · rw [if_neg hij, if_neg (fun e => hij e.symm)]
  · rw [List.getElem?_eq_none (by rw [nl_len]; omega), List.getElem?_eq_none (by rw [nl_len]; omega)]
    split
    · rw [if_neg (by omega)]
    · rfl
theorem nl_zero (n : Nat) : nl n (fun _ => 0) = List.replicate n (.int .i64 0) := by
  apply List.ext_getElem
  · simp [nl]
  · intro i h1 h2; simp [nl]
def dl (n x : Nat) : List Value := nl n (digN x)
theorem dl_get (n x : Nat) {j : Nat} (h : j < n) : (dl n x)[j]? = some (.int .i64 ((digN x j : Nat) : Int)) := nl_get _ _ h
theorem dl_len (n x : Nat) : (dl n x).length = n := nl_len _ _
theorem nl_one (n : Nat) (f : Nat → Nat) : ∀ v ∈ nl n f, v.oneCell' = true := by
  intro v hv; simp [nl] at hv; obtain ⟨i, _, rfl⟩ := hv; rfl
theorem dl_zero (n : Nat) : dl n 0 = List.replicate n (.int .i64 0) := by
  rw [← nl_zero]; exact nl_ext fun i _ => by simp [digN]
theorem dl_take {m n : Nat} (x : Nat) (h : m ≤ n) : (dl n x).take m = dl m x := by
  apply List.ext_getElem?
  intro i
  rw [List.getElem?_take]
  by_cases hi : i < m
  · rw [if_pos hi, dl_get n x (by omega), dl_get m x hi]
  · rw [if_neg hi, List.getElem?_eq_none (by rw [dl_len]; omega)]
theorem dl_drop {m n : Nat} (x : Nat) : (dl n x).drop m = dl (n - m) (x / 65536 ^ m) := by
  apply List.ext_getElem?
  intro i
  rw [List.getElem?_drop]
  by_cases hi : m + i < n
  · rw [dl_get n x hi, dl_get (n - m) _ (by omega)]
    unfold digN
    rw [Nat.pow_add, Nat.div_div_eq_div_mul]
  · rw [List.getElem?_eq_none (by rw [dl_len]; omega), List.getElem?_eq_none (by rw [dl_len]; omega)]
theorem dl_mod {n x m : Nat} (h : n ≤ m) : dl n (x % 65536 ^ m) = dl n x := nl_ext fun i hi => by
  unfold digN
  obtain ⟨d, hd⟩ : ∃ d, m = i + 1 + d := ⟨m - i - 1, by omega⟩
  have p : 65536 ^ m = 65536 ^ i * (65536 * 65536 ^ d) := by rw [hd, Nat.pow_add, Nat.pow_succ, Nat.mul_assoc]
  rw [p, Nat.mod_mul_right_div_self, Nat.mod_mod_of_dvd _ (Nat.dvd_mul_right _ _)]
theorem digN_mod_lt {x m i : Nat} (h : i < m) : digN (x % 65536 ^ m) i = digN x i := by
  unfold digN
  obtain ⟨d, hd⟩ : ∃ d, m = i + 1 + d := ⟨m - i - 1, by omega⟩
  have p : 65536 ^ m = 65536 ^ i * (65536 * 65536 ^ d) := by rw [hd, Nat.pow_add, Nat.pow_succ, Nat.mul_assoc]
  rw [p, Nat.mod_mul_right_div_self, Nat.mod_mod_of_dvd _ (Nat.dvd_mul_right _ _)]
theorem digN_big {x i : Nat} (h : x < 65536 ^ i) : digN x i = 0 := by unfold digN; rw [Nat.div_eq_of_lt h]
theorem digN_ge {x m i : Nat} (h : m ≤ i) : digN (x % 65536 ^ m) i = 0 :=
  digN_big (Nat.lt_of_lt_of_le (Nat.mod_lt _ (Nat.pow_pos (by decide))) (Nat.pow_le_pow_right (by decide) h))
theorem mod_dig (x i : Nat) : x % 65536 ^ (i + 1) = x % 65536 ^ i + digN x i * 65536 ^ i := by
  unfold digN
  rw [Nat.pow_succ, Nat.mod_mul, Nat.mul_comm (65536 ^ i) _]
/-- The value of cells. -/
def valN : Nat → (Nat → Nat) → Nat
  | 0, _ => 0
  | n + 1, f => valN n f + f n * 65536 ^ n
theorem valN_ext {n : Nat} {f g : Nat → Nat} (h : ∀ i, i < n → f i = g i) : valN n f = valN n g := by
  induction n with
  | zero => rfl
  | succ n ih => simp only [valN, ih fun i hi => h i (by omega), h n (by omega)]
theorem valN_dig (n x : Nat) : valN n (digN x) = x % 65536 ^ n := by
  induction n with
  | zero => simp [valN, Nat.mod_one]
  | succ n ih => rw [mod_dig, valN, ih]
theorem valN_add (n : Nat) (f g : Nat → Nat) : valN n (fun i => f i + g i) = valN n f + valN n g := by
  induction n with
  | zero => rfl
  | succ n ih => simp only [valN, ih, Nat.add_mul]; omega
theorem valN_set {n j : Nat} (f : Nat → Nat) (v : Nat) (h : j < n) : valN n (fun i => if i = j then f i + v else f i) = valN n f + v * 65536 ^ j := by
  induction n with
  | zero => omega
  | succ n ih =>
    by_cases hj : j = n
    · subst hj
      have : valN j (fun i => if i = j then f i + v else f i) = valN j f := valN_ext fun i hi => if_neg (by omega)
      simp only [valN, this, if_true, Nat.add_mul]; omega
    · simp only [valN, ih (by omega), if_neg (fun e : n = j => hj e.symm)]; omega
theorem valN_zero (n : Nat) : valN n (fun _ => 0) = 0 := by
  induction n with
  | zero => rfl
  | succ n ih => simp [valN, ih]
theorem valN_lt {n B : Nat} {f : Nat → Nat} (h : ∀ i, i < n → f i ≤ B) : valN n f ≤ B * 65536 ^ n := by
  induction n with
  | zero => simp [valN]
  | succ n ih =>
    have h1 := ih fun i hi => h i (by omega)
    have h2 : f n * 65536 ^ n ≤ B * 65536 ^ n := Nat.mul_le_mul_right _ (h n (by omega))
    simp only [valN, Nat.pow_succ]
    have : B * (65536 ^ n * 65536) = (B * 65536 ^ n) * 65536 := by rw [Nat.mul_assoc]
    omega

/-- How many digits. -/
def dlen (x : Nat) : Nat := if h : x = 0 then 0 else dlen (x / 65536) + 1
termination_by x
decreasing_by omega
theorem dlen_zero : dlen 0 = 0 := by unfold dlen; simp
theorem dlen_pos {x : Nat} (h : x ≠ 0) : dlen x = dlen (x / 65536) + 1 := by rw [dlen]; simp [h]
theorem dlen_le (n : Nat) : ∀ x, dlen x ≤ n ↔ x < 65536 ^ n := by
  induction n with
  | zero =>
    intro x
    by_cases h : x = 0
    · subst h; simp [dlen_zero]
    · rw [dlen_pos h]; simp; omega
  | succ n ih =>
    intro x
    by_cases h : x = 0
    · subst h; simp [dlen_zero]; exact Nat.pow_pos (by decide)
    · rw [dlen_pos h, Nat.add_le_add_iff_right, ih, Nat.pow_succ, Nat.div_lt_iff_lt_mul (by decide)]
theorem dlen_lt (x : Nat) : x < 65536 ^ dlen x := (dlen_le _ x).1 (Nat.le_refl _)
theorem trim_step {x k : Nat} (h : dlen x ≤ k + 1) (hd : digN x k = 0) : dlen x ≤ k := by
  rw [dlen_le] at h ⊢
  unfold digN at hd
  rw [Nat.pow_succ, Nat.mul_comm] at h
  have h1 : x / 65536 ^ k < 65536 := Nat.div_lt_of_lt_mul (by rwa [Nat.mul_comm] at h)
  rw [Nat.mod_eq_of_lt h1] at hd
  rcases Nat.div_eq_zero_iff.1 hd with h2 | h2
  · have := Nat.pow_pos (n := k) (show 0 < 65536 by decide); omega
  · exact h2
theorem trim_end {x k : Nat} (h : dlen x ≤ k + 1) (hd : digN x k ≠ 0) : dlen x = k + 1 := by
  by_cases hk : dlen x ≤ k
  · exact absurd (digN_big ((dlen_le _ _).1 hk)) hd
  · omega
theorem dlen_mono {x y : Nat} (h : x ≤ y) : dlen x ≤ dlen y := (dlen_le _ _).2 (Nat.lt_of_le_of_lt h (dlen_lt y))
theorem less_len {x y : Nat} (h : dlen x ≠ dlen y) : decide (dlen x < dlen y) = decide (x < y) := by
  by_cases hl : dlen x < dlen y
  · have : x < y := by
      by_cases hc : y ≤ x
      · have := dlen_mono hc; omega
      · omega
    simp [hl, this]
  · have : ¬ x < y := fun hc => by have := dlen_mono (Nat.le_of_lt hc); omega
    simp [hl, this]
theorem div_dig (x k : Nat) : x / 65536 ^ k = 65536 * (x / 65536 ^ (k + 1)) + digN x k := by
  unfold digN
  rw [Nat.pow_succ, ← Nat.div_div_eq_div_mul]; omega
theorem less_dig {x y k : Nat} (h : x / 65536 ^ (k + 1) = y / 65536 ^ (k + 1)) (hd : digN x k ≠ digN y k) : decide (digN x k < digN y k) = decide (x < y) := by
  have hx := div_dig x k
  have hy := div_dig y k
  rw [h] at hx
  have hp := Nat.pow_pos (n := k) (show 0 < 65536 by decide)
  have mx := Nat.div_add_mod x (65536 ^ k)
  have my := Nat.div_add_mod y (65536 ^ k)
  have lx := Nat.mod_lt x hp
  have ly := Nat.mod_lt y hp
  by_cases hl : digN x k < digN y k
  · have h1 : x / 65536 ^ k + 1 ≤ y / 65536 ^ k := by omega
    have h2 := Nat.mul_le_mul_left (65536 ^ k) h1
    rw [Nat.mul_add] at h2
    have : x < y := by omega
    simp [hl, this]
  · have h1 : y / 65536 ^ k + 1 ≤ x / 65536 ^ k := by omega
    have h2 := Nat.mul_le_mul_left (65536 ^ k) h1
    rw [Nat.mul_add] at h2
    have : ¬ x < y := by omega
    simp [hl, this]
theorem less_eq {x y k : Nat} (h : x / 65536 ^ (k + 1) = y / 65536 ^ (k + 1)) (hd : digN x k = digN y k) : x / 65536 ^ k = y / 65536 ^ k := by
  rw [div_dig x k, div_dig y k, h, hd]

/-- Carrying. -/
theorem carry_step {n V i d : Nat} {f : Nat → Nat} (hV : V = valN i f) (hd : n = V / 65536 ^ i + d) :
    V + d * 65536 ^ i = (V + d * 65536 ^ i) % 65536 ^ i + n * 65536 ^ i ∧ (V + d * 65536 ^ i) % 65536 ^ i = V % 65536 ^ i ∧ (V + d * 65536 ^ i) / 65536 ^ (i + 1) = n / 65536 ∧ digN (V + d * 65536 ^ i) i = n % 65536 := by
  have hp := Nat.pow_pos (n := i) (show 0 < 65536 by decide)
  have e1 : (V + d * 65536 ^ i) % 65536 ^ i = V % 65536 ^ i := Nat.add_mul_mod_self_right ..
  have e2 : (V + d * 65536 ^ i) / 65536 ^ i = n := by rw [Nat.add_mul_div_right _ _ hp, hd]
  refine ⟨?_, e1, ?_, ?_⟩
  · have := Nat.div_add_mod (V + d * 65536 ^ i) (65536 ^ i)
    rw [e2] at this
    rw [Nat.mul_comm] at this; omega
  · rw [Nat.pow_succ, ← Nat.div_div_eq_div_mul, e2]
  · unfold digN; rw [e2]
theorem dl_put {m X Y i v : Nat} (h1 : ∀ j, j ≠ i → j < m → digN Y j = digN X j) (h2 : digN Y i = v) : (dl m X).set i (.int .i64 ((v : Nat) : Int)) = dl m Y := by
  unfold dl
  rw [nl_set]
  refine nl_ext fun j hj => ?_
  by_cases hji : j = i
  · subst hji; rw [if_pos rfl, h2]
  · rw [if_neg hji, h1 j hji hj]
end Go.Proofs.Num
