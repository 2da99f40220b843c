/- Division bit by bit; words of digits. -/
import Derived.Test.YticcchgckljlnaaDoorNumI
set_option linter.unusedSimpArgs false
set_option linter.unusedVariables false
namespace Go.Proofs.Num
open Go
theorem gmod_step (A M e : Nat) : A / 2 ^ e % M = (2 * (A / 2 ^ (e + 1) % M) + A / 2 ^ e % 2) % M := by
  have h : A / 2 ^ e = 2 * (A / 2 ^ (e + 1)) + A / 2 ^ e % 2 := by
    rw [Nat.pow_succ, ← Nat.div_div_eq_div_mul]; omega
  conv => lhs; rw [h]
  rw [Nat.add_mod, Nat.mul_mod, Nat.add_mod (2 * (A / 2 ^ (e + 1) % M)), Nat.mul_mod 2 (A / 2 ^ (e + 1) % M), Nat.mod_mod]
theorem two16 (i : Nat) : (65536 : Nat) ^ i = 2 ^ (16 * i) := by rw [show (65536 : Nat) = 2 ^ 16 by decide, ← Nat.pow_mul]
theorem dig_bit (A i t : Nat) (ht : t < 16) : digN A i / 2 ^ t % 2 = A / 2 ^ (16 * i + t) % 2 := by
  unfold digN
  rw [two16, Nat.pow_add, ← Nat.div_div_eq_div_mul]
  generalize A / 2 ^ (16 * i) = a
  have hd : (65536 : Nat) = 2 ^ t * 2 ^ (16 - t) := by rw [← Nat.pow_add, show t + (16 - t) = 16 by omega]
  rw [hd, Nat.mod_mul_right_div_self, Nat.mod_mod_of_dvd]
  exact ⟨2 ^ (16 - t - 1), by rw [← Nat.pow_succ', show (16 - t - 1).succ = 16 - t by omega]⟩
theorem gmod_no {A M e r s : Nat} (hM : 0 < M) (hr : r = A / 2 ^ (e + 1) % M) (hs : s = 2 * r + A / 2 ^ e % 2) (h : s < M) : s = A / 2 ^ e % M := by
  rw [gmod_step, ← hr, ← hs, Nat.mod_eq_of_lt h]
theorem gmod_yes {A M e r s : Nat} (hM : 0 < M) (hr : r = A / 2 ^ (e + 1) % M) (hs : s = 2 * r + A / 2 ^ e % 2) (h : ¬ s < M) : s - M = A / 2 ^ e % M := by
  have hlt := Nat.mod_lt (A / 2 ^ (e + 1)) hM
  rw [← hr] at hlt
  rw [gmod_step, ← hr, ← hs, Nat.mod_eq_sub_mod (by omega), Nat.mod_eq_of_lt (by omega)]
theorem gmod_lt {A M e r s : Nat} (hM : 0 < M) (hr : r = A / 2 ^ (e + 1) % M) (hs : s = 2 * r + A / 2 ^ e % 2) : s < 2 * M := by
  have hlt := Nat.mod_lt (A / 2 ^ (e + 1)) hM
  omega
theorem dlen_dbl {s M : Nat} (h : s < 2 * M) : dlen s ≤ dlen M + 1 := by
  rw [dlen_le, Nat.pow_succ]
  have := dlen_lt M
  omega
theorem dlen_one {v : Nat} (h : 0 < v) (h2 : v < 65536) : dlen v = 1 := by
  have h1 := (dlen_le 1 v).2 (by simpa using h2)
  have h0 : ¬ dlen v ≤ 0 := by rw [dlen_le]; simp; omega
  omega

theorem dl_snoc (k x : Nat) : dl k x ++ [.int .i64 ((digN x k : Nat) : Int)] = dl (k + 1) x := by
  simp [dl, nl, List.range_succ]
theorem dig_limb (x i j : Nat) (hj : j < 4) : limbN x i / 65536 ^ j % 65536 = digN x (4 * i + j) := by
  unfold limbN digN
  have h1 : (65536 : Nat) ^ (4 * i + j) = 2 ^ (64 * i) * 65536 ^ j := by
    rw [Nat.pow_add, two16 (4 * i)]; congr 2; omega
  rw [h1, ← Nat.div_div_eq_div_mul]
  generalize x / 2 ^ (64 * i) = a
  have hd : (18446744073709551616 : Nat) = 65536 ^ j * 65536 ^ (4 - j) := by rw [← Nat.pow_add, show j + (4 - j) = 4 by omega]
  rw [hd, Nat.mod_mul_right_div_self, Nat.mod_mod_of_dvd]
  exact ⟨65536 ^ (4 - j - 1), by rw [← Nat.pow_succ', show (4 - j - 1).succ = 4 - j by omega]⟩
/-- Words of which the lower digits are still to come. -/
def ww (x k : Nat) : List Value := (List.range 4).map fun i => .int .u64 ((limbN x i / 65536 ^ (k - 4 * i) : Nat) : Int)
theorem ww_get (x k : Nat) {i : Nat} (h : i < 4) : (ww x k)[i]? = some (.int .u64 ((limbN x i / 65536 ^ (k - 4 * i) : Nat) : Int)) := by simp [ww, h]
theorem ww_end (x : Nat) : ww x 0 = fel x := by
  show (List.range 4).map _ = _
  simp [ww, fel, limb_eq]
  rfl
theorem ww_start {x k : Nat} (h : x < 65536 ^ k) (hk : k ≤ 16) : ww x k = fel 0 := by
  rw [← ww_end 0]
  unfold ww
  refine List.map_congr_left fun i hi => ?_
  have hi4 : i < 4 := by simpa using hi
  have e : limbN x i / 65536 ^ (k - 4 * i) = limbN 0 i / 65536 ^ (0 - 4 * i) := by
    have z : limbN 0 i = 0 := by simp [limbN]
    rw [z, Nat.zero_div]
    refine Nat.div_eq_of_lt (Nat.lt_of_le_of_lt (Nat.mod_le _ _) (Nat.div_lt_of_lt_mul ?_))
    have : 2 ^ (64 * i) = (65536 : Nat) ^ (4 * i) := by rw [two16]; congr 1; omega
    rw [this, ← Nat.pow_add]
    exact Nat.lt_of_lt_of_le h (Nat.pow_le_pow_right (by decide) (by omega))
  rw [e]
theorem ww_word (x j : Nat) : 65536 * (limbN x (j / 4) / 65536 ^ (j + 1 - 4 * (j / 4))) + digN x j = limbN x (j / 4) / 65536 ^ (j - 4 * (j / 4)) := by
  have h4 : j - 4 * (j / 4) < 4 := by omega
  have hj : 4 * (j / 4) + (j - 4 * (j / 4)) = j := by omega
  have hd := dig_limb x (j / 4) (j - 4 * (j / 4)) h4
  rw [hj] at hd
  rw [← hd, show j + 1 - 4 * (j / 4) = (j - 4 * (j / 4)) + 1 by omega, Nat.pow_succ, ← Nat.div_div_eq_div_mul]
  omega
theorem ww_lt (x i e : Nat) : limbN x i / 65536 ^ e < 18446744073709551616 := Nat.lt_of_le_of_lt (Nat.div_le_self _ _) (limbN_lt x i)
theorem ww_put {x j : Nat} (hj : j < 16) : (ww x (j + 1)).set (j / 4) (.int .u64 ((limbN x (j / 4) / 65536 ^ (j - 4 * (j / 4)) : Nat) : Int)) = ww x j := by
  apply List.ext_getElem?
  intro i
  rw [List.getElem?_set]
  by_cases hi : i < 4
  · rw [ww_get _ _ hi, ww_get _ _ hi]
    by_cases hij : j / 4 = i
    · subst hij; simp [ww]; omega
    · rw [if_neg hij]
      by_cases hlt : i < j / 4
      · have z : ∀ e, 4 ≤ e → limbN x i / 65536 ^ e = 0 := fun e he => Nat.div_eq_of_lt (Nat.lt_of_lt_of_le (limbN_lt x i) (by
          have := Nat.pow_le_pow_right (n := 65536) (by decide) he
          exact Nat.le_trans (by decide) this))
        rw [z _ (by omega), z _ (by omega)]
      · rw [show j + 1 - 4 * i = 0 by omega, show j - 4 * i = 0 by omega]
  · have h1 : (ww x (j + 1))[i]? = none := List.getElem?_eq_none (by simp [ww]; omega)
    have h2 : (ww x j)[i]? = none := List.getElem?_eq_none (by simp [ww]; omega)
    rw [h1, h2]
    split
    · rw [if_neg (by simp [ww]; omega)]
    · rfl
end Go.Proofs.Num
