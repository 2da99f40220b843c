/- The numbers that count modulo 2^255 - 19: what the program's functions come to. -/
import Derived.Test.YticcchgckljlnaaDoorNumA
set_option linter.unusedSimpArgs false
set_option linter.unusedVariables false
namespace Go.Proofs.Num
open Go

theorem add_chain (x y : Nat) (hx : x < 2 ^ 256) (hy : y < 2 ^ 256) :
    let c0 := ac (limb x 0) (limb y 0) 0
    let c1 := ac (limb x 1) (limb y 1) c0
    let c2 := ac (limb x 2) (limb y 2) c1
    (Value.agg #[.int .u64 (ad (limb x 0) (limb y 0) 0), .int .u64 (ad (limb x 1) (limb y 1) c0), .int .u64 (ad (limb x 2) (limb y 2) c1), .int .u64 (ad (limb x 3) (limb y 3) c2)]) = fe ((x + y) % 2 ^ 256) ∧ ac (limb x 3) (limb y 3) c2 = (((x + y) / 2 ^ 256 : Nat) : Int) := by
  intro c0 c1 c2
  have a := limbs_sum x hx
  have b := limbs_sum y hy
  have w0 := ad_wd (limb x 0) (limb y 0) 0
  have w1 := ad_wd (limb x 1) (limb y 1) c0
  have w2 := ad_wd (limb x 2) (limb y 2) c1
  have w3 := ad_wd (limb x 3) (limb y 3) c2
  have e : ∀ p q r : Int, p + q + r = ad p q r + 18446744073709551616 * ac p q r := by intro p q r; unfold ad ac; omega
  have h0 := e (limb x 0) (limb y 0) 0
  have h1 := e (limb x 1) (limb y 1) c0
  have h2 := e (limb x 2) (limb y 2) c1
  have h3 := e (limb x 3) (limb y 3) c2
  have g0 : ac (limb x 0) (limb y 0) 0 = c0 := rfl
  have g1 : ac (limb x 1) (limb y 1) c0 = c1 := rfl
  have g2 : ac (limb x 2) (limb y 2) c1 = c2 := rfl
  rw [g0] at h0; rw [g1] at h1; rw [g2] at h2
  have hk : (x : Int) + y = ad (limb x 0) (limb y 0) 0 + 2 ^ 64 * ad (limb x 1) (limb y 1) c0 + 2 ^ 128 * ad (limb x 2) (limb y 2) c1 + 2 ^ 192 * ad (limb x 3) (limb y 3) c2 + 2 ^ 256 * ac (limb x 3) (limb y 3) c2 := by
    simp only [Int.reducePow] at *
    generalize ac (limb x 3) (limb y 3) c2 = c3 at *
    clear_value c0 c1 c2
    omega
  generalize ad (limb x 0) (limb y 0) 0 = d0 at *
  generalize ad (limb x 1) (limb y 1) c0 = d1 at *
  generalize ad (limb x 2) (limb y 2) c1 = d2 at *
  generalize ad (limb x 3) (limb y 3) c2 = d3 at *
  generalize ac (limb x 3) (limb y 3) c2 = c3 at *
  clear h0 h1 h2 h3 g0 g1 g2 e a b
  clear_value c0 c1 c2
  constructor
  · refine fe_of w0 w1 w2 w3 ?_
    unfold Wd at *
    simp only [Nat.reducePow, Int.reducePow] at *
    omega
  · unfold Wd at *
    simp only [Nat.reducePow, Int.reducePow] at *
    omega

/-- p. -/
def pF : Nat := 57896044618658097711785492504343953926634992332820282019728792003956564819949
def addW (x y : Nat) : Nat := (x + y) % 2 ^ 256
def addC (x y : Nat) : Nat := (x + y) / 2 ^ 256
theorem addW_lt (x y : Nat) : addW x y < 2 ^ 256 := Nat.mod_lt _ (by decide)
theorem subW_lt (x y : Nat) : subW x y < 2 ^ 256 := Nat.mod_lt _ (by decide)
theorem addC_le {x y : Nat} (hx : x < 2 ^ 256) (hy : y < 2 ^ 256) : addC x y ≤ 1 := by unfold addC; simp only [Nat.reducePow] at *; omega

def leastF (x : Nat) : Nat := x % pF
def foldF (x a : Nat) : Nat := (x + 2 ^ 256 * a) % pF
def fadd (x y : Nat) : Nat := (x + y) % pF
def fsub (x y : Nat) : Nat := (x + (pF - y % pF)) % pF
def fmul (x y : Nat) : Nat := (x * y) % pF
theorem pF_lt : pF < 2 ^ 256 := by decide
theorem mod_pF_lt (x : Nat) : x % pF < 2 ^ 256 := Nat.lt_trans (Nat.mod_lt _ (by decide)) pF_lt
theorem leastF_lt (x : Nat) : leastF x < 2 ^ 256 := mod_pF_lt _
theorem foldF_lt (x a : Nat) : foldF x a < 2 ^ 256 := mod_pF_lt _
theorem fadd_lt (x y : Nat) : fadd x y < 2 ^ 256 := mod_pF_lt _
theorem fsub_lt (x y : Nat) : fsub x y < 2 ^ 256 := mod_pF_lt _
theorem fmul_lt (x y : Nat) : fmul x y < 2 ^ 256 := mod_pF_lt _

theorem fadd_eq {x y : Nat} : foldF (addW x y) (addC x y) = fadd x y := by
  unfold foldF addW addC fadd
  rw [Nat.mod_add_div]
theorem fsub_eq {x y : Nat} : fadd x (subW pF (leastF y)) = fsub x y := by
  unfold fadd fsub subW leastF
  have : y % pF < pF := Nat.mod_lt _ (by decide)
  congr 2
  unfold pF at *
  simp only [Nat.reducePow] at *
  omega
theorem subB_t {x y : Nat} (h : (subB x y == 0) = true) : y ≤ x := by
  unfold subB at h
  split at h
  · simp at h
  · omega
theorem subB_f {x y : Nat} (h : (subB x y == 0) = false) : x < y := by
  unfold subB at h
  split at h
  · assumption
  · simp at h
theorem least0 {x : Nat} (h : x < pF) : leastF x = x := Nat.mod_eq_of_lt h
theorem least1 {x : Nat} (hx : x < 2 ^ 256) (h : pF ≤ x) : leastF x = leastF (subW x pF) := by
  unfold leastF subW pF at *
  simp only [Nat.reducePow] at *
  omega
theorem least2 {x : Nat} (hx : x < 2 ^ 256) (h : pF ≤ x) (h2 : pF ≤ subW x pF) : leastF x = subW (subW x pF) pF := by
  unfold leastF subW pF at *
  simp only [Nat.reducePow] at *
  omega
/-- The first n words of a number. -/
def wl (n x : Nat) : List Value := (List.range n).map fun i => .int .u64 (limb x i)
theorem wl_get (n x : Nat) {j : Nat} (h : j < n) : (wl n x)[j]? = some (.int .u64 (limb x j)) := by simp [wl, h]
theorem wl_len (n x : Nat) : (wl n x).length = n := by simp [wl]
theorem wl_one (n x : Nat) : ∀ v ∈ wl n x, v.oneCell' = true := by
  intro v hv
  simp only [wl, List.mem_map] at hv
  obtain ⟨i, _, rfl⟩ := hv
  rfl
theorem fel_get (x : Nat) {j : Nat} (h : j < 4) : (fel x)[j]? = some (.int .u64 (limb x j)) := wl_get 4 x h
theorem wl_fel (x : Nat) : wl 4 x = fel x := rfl
theorem wl_zero (n : Nat) : wl n 0 = List.replicate n (.int .u64 0) := by
  apply List.ext_getElem?
  intro i
  simp only [wl, List.getElem?_map, List.getElem?_replicate]
  by_cases h : i < n
  · simp [h, limb]
  · simp [h]
theorem wl_ext {n : Nat} {l : List Value} {y : Nat} (hl : l.length = n) (h : ∀ i, i < n → l[i]? = some (.int .u64 (limb y i))) : l = wl n y := by
  apply List.ext_getElem?
  intro i
  by_cases hi : i < n
  · rw [h i hi, wl_get n y hi]
  · rw [List.getElem?_eq_none (by omega), List.getElem?_eq_none (by rw [wl_len]; omega)]
/-- A word of a number, as a natural one. -/
def limbN (x i : Nat) : Nat := x / 2 ^ (64 * i) % 18446744073709551616
theorem limb_eq (x i : Nat) : limb x i = (limbN x i : Nat) := rfl
/-- Another word put in its place. -/
theorem wl_set {n x y j : Nat} {v : Nat} (h : y + limbN x j * 2 ^ (64 * j) = x + v * 2 ^ (64 * j)) (hv : v < 18446744073709551616) : (wl n x).set j (.int .u64 (v : Nat)) = wl n y := by
  have hB : (18446744073709551616 : Nat) = 2 ^ 64 := by decide
  -- the words of y
  have e1 : ∀ i, i < j → limbN y i = limbN x i := by
    intro i hi
    unfold limbN
    have hd : 64 * j = 64 * i + 64 + 64 * (j - i - 1) := by omega
    have hp : 2 ^ (64 * j) = 2 ^ (64 * i) * (18446744073709551616 * 2 ^ (64 * (j - i - 1))) := by rw [hB, ← Nat.pow_add, ← Nat.pow_add, ← Nat.add_assoc, ← hd]
    have hpos : 0 < 2 ^ (64 * i) := Nat.two_pow_pos _
    have hx : (x + v * 2 ^ (64 * j)) / 2 ^ (64 * i) = x / 2 ^ (64 * i) + v * (18446744073709551616 * 2 ^ (64 * (j - i - 1))) := by
      rw [hp, Nat.mul_left_comm, Nat.add_mul_div_left _ _ hpos]
    have hy : (y + limbN x j * 2 ^ (64 * j)) / 2 ^ (64 * i) = y / 2 ^ (64 * i) + limbN x j * (18446744073709551616 * 2 ^ (64 * (j - i - 1))) := by
      rw [hp, Nat.mul_left_comm, Nat.add_mul_div_left _ _ hpos]
    rw [h] at hy
    have : y / 2 ^ (64 * i) + limbN x j * (18446744073709551616 * 2 ^ (64 * (j - i - 1))) = x / 2 ^ (64 * i) + v * (18446744073709551616 * 2 ^ (64 * (j - i - 1))) := by rw [← hy, hx]
    have a1 : ∀ z w : Nat, (z + w * (18446744073709551616 * 2 ^ (64 * (j - i - 1)))) % 18446744073709551616 = z % 18446744073709551616 := by
      intro z w
      rw [Nat.mul_left_comm, Nat.add_mul_mod_self_left]
    rw [← a1 (y / 2 ^ (64 * i)) (limbN x j), this, a1]
  have hj : y / 2 ^ (64 * j) + limbN x j = x / 2 ^ (64 * j) + v := by
    have hpos : 0 < 2 ^ (64 * j) := Nat.two_pow_pos _
    rw [← Nat.add_mul_div_right _ _ hpos, h, Nat.add_mul_div_right _ _ hpos]
  have e2 : limbN y j = v := by
    have : x / 2 ^ (64 * j) = limbN x j + 18446744073709551616 * (x / 2 ^ (64 * j) / 18446744073709551616) := by unfold limbN; omega
    unfold limbN at *
    omega
  have e3 : ∀ i, j < i → limbN y i = limbN x i := by
    intro i hi
    unfold limbN
    have hd : 64 * i = 64 * j + 64 + 64 * (i - j - 1) := by omega
    rw [hd, Nat.pow_add, Nat.pow_add, ← hB, ← Nat.div_div_eq_div_mul, ← Nat.div_div_eq_div_mul, ← Nat.div_div_eq_div_mul, ← Nat.div_div_eq_div_mul]
    have : y / 2 ^ (64 * j) / 18446744073709551616 = x / 2 ^ (64 * j) / 18446744073709551616 := by
      unfold limbN at *
      omega
    rw [this]
  refine wl_ext (by simp [wl_len]) fun i hi => ?_
  rcases Nat.lt_trichotomy i j with h1 | h1 | h1
  · rw [List.getElem?_set_ne (by omega), wl_get n x hi, limb_eq, limb_eq, e1 i h1]
  · subst h1
    rw [List.getElem?_set_self (by rw [wl_len]; exact hi), limb_eq, e2]
  · rw [List.getElem?_set_ne (by omega), wl_get n x hi, limb_eq, limb_eq, e3 i h1]
end Go.Proofs.Num
