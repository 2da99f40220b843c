/- A number of four words, one added: the carry, word by word; plainly. -/
import Derived.Test.YtdcmmnindlhghaaPtW
import Derived.Test.YtdcmmnindlhghaaJoin
set_option linter.unusedSimpArgs false
set_option linter.unusedVariables false
namespace Go.Proofs.Num
open Go Go.RowKit
theorem fel_4 {z a b c d : Nat} (ha : a < 18446744073709551616) (hb : b < 18446744073709551616) (hc : c < 18446744073709551616) (hd : d < 18446744073709551616) (h : z = a + 18446744073709551616 * (b + 18446744073709551616 * (c + 18446744073709551616 * d))) :
    fel z = [.int .u64 ((a : Nat) : Int), .int .u64 ((b : Nat) : Int), .int .u64 ((c : Nat) : Int), .int .u64 ((d : Nat) : Int)] := by
  have e0 : z % 18446744073709551616 = a := by omega
  have e1 : z / 18446744073709551616 = b + 18446744073709551616 * (c + 18446744073709551616 * d) := by omega
  have e2 : z / 18446744073709551616 / 18446744073709551616 = c + 18446744073709551616 * d := by omega
  have e3 : z / 18446744073709551616 / 18446744073709551616 / 18446744073709551616 = d := by omega
  have l0 : limb z 0 = (a : Nat) := by unfold limb; rw [show 64 * 0 = 0 from rfl, Nat.pow_zero, Nat.div_one, e0]
  have l1 : limb z 1 = (b : Nat) := by unfold limb; rw [show (2 : Nat) ^ (64 * 1) = 18446744073709551616 by decide, e1]; congr 1; omega
  have l2 : limb z 2 = (c : Nat) := by unfold limb; rw [show (2 : Nat) ^ (64 * 2) = 18446744073709551616 * 18446744073709551616 by decide, ← Nat.div_div_eq_div_mul, e2]; congr 1; omega
  have l3 : limb z 3 = (d : Nat) := by unfold limb; rw [show (2 : Nat) ^ (64 * 3) = 18446744073709551616 * 18446744073709551616 * 18446744073709551616 by decide, ← Nat.div_div_eq_div_mul, ← Nat.div_div_eq_div_mul, e3]; congr 1; omega
  unfold fel
  rw [l0, l1, l2, l3]
theorem split4 {n : Nat} (hn : n < 2 ^ 256) : ∃ a b c d : Nat, a < 18446744073709551616 ∧ b < 18446744073709551616 ∧ c < 18446744073709551616 ∧ d < 18446744073709551616 ∧ n = a + 18446744073709551616 * (b + 18446744073709551616 * (c + 18446744073709551616 * d)) := by
  refine ⟨n % 18446744073709551616, n / 18446744073709551616 % 18446744073709551616, n / 18446744073709551616 / 18446744073709551616 % 18446744073709551616, n / 18446744073709551616 / 18446744073709551616 / 18446744073709551616, by omega, by omega, by omega, ?_, by omega⟩
  rw [Nat.div_div_eq_div_mul, Nat.div_div_eq_div_mul]
  exact Nat.div_lt_of_lt_mul (Nat.lt_of_lt_of_eq hn (by decide))
/-- What is written at a carry: words below i are 0. -/
def incC (n i : Nat) : List Value := (fel (n / 2 ^ (64 * i) * 2 ^ (64 * i))).set i (.int .u64 (((limbN n i + 1) % 18446744073709551616 : Nat) : Int))
theorem inc_all {n i : Nat} (hi : i < 4) (hn : n < 2 ^ 256) (h : n % 2 ^ (64 * i) + 1 = 2 ^ (64 * i)) :
    ((limbN n i + 1) % 18446744073709551616 ≠ 0 → incC n i = fel (n + 1)) ∧ ((limbN n i + 1) % 18446744073709551616 = 0 → incC n i = fel (n / 2 ^ (64 * (i + 1)) * 2 ^ (64 * (i + 1))) ∧ n % 2 ^ (64 * (i + 1)) + 1 = 2 ^ (64 * (i + 1))) := by
  obtain ⟨a, b, c, d, ha, hb, hc, hd, e⟩ := split4 hn
  have p0 : (2 : Nat) ^ (64 * 0) = 1 := by decide
  have p1 : (2 : Nat) ^ (64 * 1) = 18446744073709551616 := by decide
  have p2 : (2 : Nat) ^ (64 * 2) = 18446744073709551616 * 18446744073709551616 := by decide
  have p3 : (2 : Nat) ^ (64 * 3) = 18446744073709551616 * 18446744073709551616 * 18446744073709551616 := by decide
  have p4 : (2 : Nat) ^ (64 * 4) = 18446744073709551616 * 18446744073709551616 * 18446744073709551616 * 18446744073709551616 := by decide
  have d1 : n / 18446744073709551616 = b + 18446744073709551616 * (c + 18446744073709551616 * d) := by omega
  have d2 : n / (18446744073709551616 * 18446744073709551616) = c + 18446744073709551616 * d := by rw [← Nat.div_div_eq_div_mul, d1]; omega
  have d3 : n / (18446744073709551616 * 18446744073709551616 * 18446744073709551616) = d := by rw [← Nat.div_div_eq_div_mul, d2]; omega
  have d4 : n / (18446744073709551616 * 18446744073709551616 * 18446744073709551616 * 18446744073709551616) = 0 := by rw [← Nat.div_div_eq_div_mul, d3]; omega
  have m1 : n % 18446744073709551616 = a := by omega
  unfold incC limbN
  obtain rfl | rfl | rfl | rfl : i = 0 ∨ i = 1 ∨ i = 2 ∨ i = 3 := by omega
  · skip
    rw [p0, show 0 + 1 = 1 from rfl, p1, Nat.div_one, Nat.mul_one, m1, fel_4 ha hb hc hd e]
    refine ⟨fun hv => ?_, fun hv => ⟨?_, by omega⟩⟩
    · rw [fel_4 (z := n + 1) (a := a + 1) (by omega) hb hc hd (by omega), Nat.mod_eq_of_lt (by omega)]
      rfl
    · rw [hv, d1, fel_4 (z := (b + 18446744073709551616 * (c + 18446744073709551616 * d)) * 18446744073709551616) (a := 0) (by decide) hb hc hd (by omega)]
      rfl
  · skip
    rw [p1, m1] at h
    rw [show 1 + 1 = 2 from rfl, p1, p2, d1, d2, show (b + 18446744073709551616 * (c + 18446744073709551616 * d)) % 18446744073709551616 = b by omega, fel_4 (z := (b + 18446744073709551616 * (c + 18446744073709551616 * d)) * 18446744073709551616) (a := 0) (by decide) hb hc hd (by omega)]
    refine ⟨fun hv => ?_, fun hv => ⟨?_, ?_⟩⟩
    · rw [fel_4 (z := n + 1) (a := 0) (b := b + 1) (by decide) (by omega) hc hd (by omega), Nat.mod_eq_of_lt (by omega)]
      rfl
    · rw [hv, fel_4 (z := (c + 18446744073709551616 * d) * (18446744073709551616 * 18446744073709551616)) (a := 0) (b := 0) (by decide) (by decide) hc hd (by omega)]
      rfl
    · omega
  · skip
    rw [p2] at h
    rw [show 2 + 1 = 3 from rfl, p2, p3, d2, d3, show (c + 18446744073709551616 * d) % 18446744073709551616 = c by omega, fel_4 (z := (c + 18446744073709551616 * d) * (18446744073709551616 * 18446744073709551616)) (a := 0) (b := 0) (by decide) (by decide) hc hd (by omega)]
    refine ⟨fun hv => ?_, fun hv => ⟨?_, ?_⟩⟩
    · rw [fel_4 (z := n + 1) (a := 0) (b := 0) (c := c + 1) (by decide) (by decide) (by omega) hd (by omega), Nat.mod_eq_of_lt (by omega)]
      rfl
    · rw [hv, fel_4 (z := d * (18446744073709551616 * 18446744073709551616 * 18446744073709551616)) (a := 0) (b := 0) (c := 0) (by decide) (by decide) (by decide) hd (by omega)]
      rfl
    · omega
  · skip
    rw [p3] at h
    rw [show 3 + 1 = 4 from rfl, p3, p4, d3, d4, Nat.mod_eq_of_lt hd, fel_4 (z := d * (18446744073709551616 * 18446744073709551616 * 18446744073709551616)) (a := 0) (b := 0) (c := 0) (by decide) (by decide) (by decide) hd (by omega)]
    refine ⟨fun hv => ?_, fun hv => ⟨?_, ?_⟩⟩
    · rw [fel_4 (z := n + 1) (a := 0) (b := 0) (c := 0) (d := d + 1) (by decide) (by decide) (by decide) (by omega) (by omega), Nat.mod_eq_of_lt (by omega)]
      rfl
    · rw [hv, Nat.zero_mul, fel_4 (z := 0) (a := 0) (b := 0) (c := 0) (d := 0) (by decide) (by decide) (by decide) (by decide) (by simp)]
      rfl
    · omega
theorem incC_get {n i : Nat} (hi : i < 4) : (incC n i)[i]? = some (.int .u64 (((limbN n i + 1) % 18446744073709551616 : Nat) : Int)) := by
  unfold incC
  rw [List.getElem?_set_self (by show i < 4; exact hi)]
theorem low_get {n i : Nat} (hi : i < 4) : (fel (n / 2 ^ (64 * i) * 2 ^ (64 * i)))[i]? = some (.int .u64 ((limbN n i : Nat) : Int)) := by
  rw [fel_get _ hi]
  unfold limb limbN
  rw [Nat.mul_div_cancel _ (Nat.pow_pos (by decide))]
theorem low_0 (n : Nat) : n / 2 ^ (64 * 0) * 2 ^ (64 * 0) = n := by rw [show (2 : Nat) ^ (64 * 0) = 1 by decide, Nat.div_one, Nat.mul_one]
theorem no_carry {n : Nat} (hn : n + 1 < 2 ^ 256) (h : n % 2 ^ (64 * 4) + 1 = 2 ^ (64 * 4)) : False := by
  have e : n % 2 ^ (64 * 4) = n := Nat.mod_eq_of_lt (by rw [show 64 * 4 = 256 from rfl]; omega)
  rw [e, show 64 * 4 = 256 from rfl] at h
  omega
theorem modZ (x : Int) {n : Nat} (h : 0 < n) : (-(n : Int) < x.tmod n ∧ x.tmod n < (n : Int)) ∧ ∃ i : Nat, (x.tmod n + n).tmod n = (i : Int) ∧ i < n := by
  have h1 : x.tmod n < (n : Int) := Int.tmod_lt_of_pos x (by omega)
  have h2 : -(n : Int) < x.tmod n := by
    have := Int.lt_tmod_of_pos x (show (0 : Int) < n by omega)
    omega
  refine ⟨⟨h2, h1⟩, ((x.tmod n + n).tmod n).toNat, ?_, ?_⟩
  · have h3 : 0 ≤ (x.tmod n + n).tmod n := Int.tmod_nonneg _ (by omega)
    omega
  · have h3 : 0 ≤ (x.tmod n + n).tmod n := Int.tmod_nonneg _ (by omega)
    have h4 := Int.tmod_lt_of_pos (x.tmod n + n) (show (0 : Int) < n by omega)
    omega
theorem times_ok (p : P4) : ∀ k, (timesP p k).Ok
  | 0 => zeroP_ok
  | _ + 1 => addP_ok ..
theorem times_right {p : P4} (hp : rightP p = true) : ∀ k, rightP (timesP p k) = true
  | 0 => right_zero
  | k + 1 => right_add (times_right hp k) hp
theorem few_eqv {f : Nat} (hf : f < 20) : Eqv (mulR f baseP 256) (timesP baseP f) := mul_times base_ptq (Nat.lt_trans hf (by decide))
theorem more_eqv {n : Nat} (hn : n + 1 < 2 ^ 256) : Eqv (mulR (n + 1) baseP 256) (addP (mulR n baseP 256) baseP) := by
  have hb := base_ptq
  have h1 := mul_times hb hn
  have h2 := mul_times hb (n := n) (by omega)
  refine h1.trans ?_
  show Eqv (addP (timesP baseP n) baseP) _
  exact add_congr (times_ptq hb n) hb (mulR_ptq hb 256) hb h2.symm Eqv.rfl
theorem ord_eqv : Eqv (mulR ordL baseP 256) zeroP := (mul_times base_ptq (by decide)).trans times_L
end Go.Proofs.Num

