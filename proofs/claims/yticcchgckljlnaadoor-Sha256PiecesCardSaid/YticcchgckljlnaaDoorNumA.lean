/- Plain arithmetic of words of 64 bits: limbs of a number, sums and differences word by word. -/
import Derived.Laws.BitsLemmas
import Derived.Laws.Sem
set_option linter.unusedSimpArgs false
set_option linter.unusedVariables false
namespace Go.Proofs.Num
open Go

/-- Word i of a number. -/
def limb (x i : Nat) : Int := ((x / 2 ^ (64 * i) % 18446744073709551616 : Nat) : Int)

/-- A number of four words, as Go's array. -/
def fel (x : Nat) : List Value := [.int .u64 (limb x 0), .int .u64 (limb x 1), .int .u64 (limb x 2), .int .u64 (limb x 3)]
abbrev fe (x : Nat) : Value := .agg (fel x).toArray
theorem fe_lit (x : Nat) : fe x = .agg #[.int .u64 (limb x 0), .int .u64 (limb x 1), .int .u64 (limb x 2), .int .u64 (limb x 3)] := rfl
theorem flen (x : Nat) : (fel x).length = 4 := rfl
theorem fel_one (x : Nat) : ∀ v ∈ fel x, v.oneCell' = true := by
  intro v hv
  simp only [fel, List.mem_cons, List.not_mem_nil, or_false] at hv
  rcases hv with rfl | rfl | rfl | rfl <;> rfl
theorem fone {x : Nat} {v : Value} (h : v ∈ fel x) : v.oneCell' = true := fel_one x v h

def Wd (x : Int) : Prop := 0 ≤ x ∧ x < 18446744073709551616

theorem limb_wd (x i : Nat) : Wd (limb x i) := by unfold Wd limb; omega
theorem limb_nn (x i : Nat) : 0 ≤ limb x i := (limb_wd x i).1

/-- bits.Sub64: the difference and the borrow; bits.Add64: the sum and the carry. -/
def sd (x y b : Int) : Int := (x - y - b) % 18446744073709551616
def sb (x y b : Int) : Int := if x < y + b then 1 else 0
def ad (x y c : Int) : Int := (x + y + c) % 18446744073709551616
def ac (x y c : Int) : Int := (x + y + c) / 18446744073709551616
def mh (x y : Int) : Int := (x * y) / 18446744073709551616
def ml (x y : Int) : Int := (x * y) % 18446744073709551616

theorem sd_wd (x y b : Int) : Wd (sd x y b) := by unfold Wd sd; omega
theorem ad_wd (x y b : Int) : Wd (ad x y b) := by unfold Wd ad; omega
theorem sb_01 (x y b : Int) : 0 ≤ sb x y b ∧ sb x y b ≤ 1 := by unfold sb; split <;> omega
theorem ac_01 {x y c : Int} (hx : Wd x) (hy : Wd y) (hc : 0 ≤ c ∧ c ≤ 1) : 0 ≤ ac x y c ∧ ac x y c ≤ 1 := by
  unfold Wd at hx hy; unfold ac; omega

theorem limbs_sum (x : Nat) (hx : x < 2 ^ 256) : (x : Int) = limb x 0 + 2 ^ 64 * limb x 1 + 2 ^ 128 * limb x 2 + 2 ^ 192 * limb x 3 := by
  unfold limb
  simp only [Nat.reduceMul, Nat.reducePow, Int.reducePow] at *
  omega

theorem limb_of {z : Nat} {z0 z1 z2 z3 : Int} (h0 : Wd z0) (h1 : Wd z1) (h2 : Wd z2) (h3 : Wd z3) (h : (z : Int) = z0 + 2 ^ 64 * z1 + 2 ^ 128 * z2 + 2 ^ 192 * z3) :
    limb z 0 = z0 ∧ limb z 1 = z1 ∧ limb z 2 = z2 ∧ limb z 3 = z3 := by
  unfold Wd at *; unfold limb
  simp only [Nat.reduceMul, Nat.reducePow, Int.reducePow] at *
  omega

theorem fe_of {z : Nat} {z0 z1 z2 z3 : Int} (h0 : Wd z0) (h1 : Wd z1) (h2 : Wd z2) (h3 : Wd z3) (h : (z : Int) = z0 + 2 ^ 64 * z1 + 2 ^ 128 * z2 + 2 ^ 192 * z3) :
    (Value.agg #[.int .u64 z0, .int .u64 z1, .int .u64 z2, .int .u64 z3]) = fe z := by
  obtain ⟨a, b, c, d⟩ := limb_of h0 h1 h2 h3 h
  rw [fe_lit, a, b, c, d]

theorem fe_inj {x y : Nat} (hx : x < 2 ^ 256) (hy : y < 2 ^ 256) (h0 : limb x 0 = limb y 0) (h1 : limb x 1 = limb y 1) (h2 : limb x 2 = limb y 2) (h3 : limb x 3 = limb y 3) : x = y := by
  have a := limbs_sum x hx
  have b := limbs_sum y hy
  rw [h0, h1, h2, h3] at a
  omega

/-- The difference of two numbers, and what is borrowed. -/
def subW (x y : Nat) : Nat := (x + 2 ^ 256 - y) % 2 ^ 256
def subB (x y : Nat) : Int := if x < y then 1 else 0

theorem sub_chain (x y : Nat) (hx : x < 2 ^ 256) (hy : y < 2 ^ 256) :
    let b0 := sb (limb x 0) (limb y 0) 0
    let b1 := sb (limb x 1) (limb y 1) b0
    let b2 := sb (limb x 2) (limb y 2) b1
    (Value.agg #[.int .u64 (sd (limb x 0) (limb y 0) 0), .int .u64 (sd (limb x 1) (limb y 1) b0), .int .u64 (sd (limb x 2) (limb y 2) b1), .int .u64 (sd (limb x 3) (limb y 3) b2)]) = fe (subW x y) ∧ sb (limb x 3) (limb y 3) b2 = subB x y := by
  intro b0 b1 b2
  have a := limbs_sum x hx
  have b := limbs_sum y hy
  obtain ⟨x0, x0'⟩ := limb_wd x 0
  obtain ⟨x1, x1'⟩ := limb_wd x 1
  obtain ⟨x2, x2'⟩ := limb_wd x 2
  obtain ⟨x3, x3'⟩ := limb_wd x 3
  obtain ⟨y0, y0'⟩ := limb_wd y 0
  obtain ⟨y1, y1'⟩ := limb_wd y 1
  obtain ⟨y2, y2'⟩ := limb_wd y 2
  obtain ⟨y3, y3'⟩ := limb_wd y 3
  have hk : (x : Int) + 2 ^ 256 * sb (limb x 3) (limb y 3) b2 - y = sd (limb x 0) (limb y 0) 0 + 2 ^ 64 * sd (limb x 1) (limb y 1) b0 + 2 ^ 128 * sd (limb x 2) (limb y 2) b1 + 2 ^ 192 * sd (limb x 3) (limb y 3) b2 := by
    have e : ∀ p q r : Int, 0 ≤ p → p < 18446744073709551616 → 0 ≤ q → q < 18446744073709551616 → 0 ≤ r → r ≤ 1 → p - q - r + 18446744073709551616 * sb p q r = sd p q r := by
      intro p q r; unfold sb sd; intros; split <;> omega
    have h0 := e _ _ 0 x0 x0' y0 y0' (by omega) (by omega)
    have h1 := e _ _ b0 x1 x1' y1 y1' (sb_01 _ _ _).1 (sb_01 _ _ _).2
    have h2 := e _ _ b1 x2 x2' y2 y2' (sb_01 _ _ _).1 (sb_01 _ _ _).2
    have h3 := e _ _ b2 x3 x3' y3 y3' (sb_01 _ _ _).1 (sb_01 _ _ _).2
    show (x : Int) + 2 ^ 256 * sb (limb x 3) (limb y 3) b2 - y = _
    have g0 : sb (limb x 0) (limb y 0) 0 = b0 := rfl
    have g1 : sb (limb x 1) (limb y 1) b0 = b1 := rfl
    have g2 : sb (limb x 2) (limb y 2) b1 = b2 := rfl
    rw [g0] at h0; rw [g1] at h1; rw [g2] at h2
    generalize sb (limb x 3) (limb y 3) b2 = b3 at *
    clear_value b0 b1 b2
    simp only [Int.reducePow] at *
    omega
  have w0 := sd_wd (limb x 0) (limb y 0) 0
  have w1 := sd_wd (limb x 1) (limb y 1) b0
  have w2 := sd_wd (limb x 2) (limb y 2) b1
  have w3 := sd_wd (limb x 3) (limb y 3) b2
  have hb := sb_01 (limb x 3) (limb y 3) b2
  generalize sd (limb x 0) (limb y 0) 0 = d0 at *
  generalize sd (limb x 1) (limb y 1) b0 = d1 at *
  generalize sd (limb x 2) (limb y 2) b1 = d2 at *
  generalize sd (limb x 3) (limb y 3) b2 = d3 at *
  generalize sb (limb x 3) (limb y 3) b2 = b3 at *
  have hb' : b3 = 0 ∨ b3 = 1 := by omega
  constructor
  · refine fe_of w0 w1 w2 w3 ?_
    rw [← hk]
    unfold subW
    unfold Wd at *
    simp only [Nat.reducePow, Int.reducePow] at *
    rcases hb' with rfl | rfl <;> omega
  · unfold subB Wd at *
    simp only [Nat.reducePow, Int.reducePow] at *
    rcases hb' with rfl | rfl <;> split <;> omega

/-- One bit of a number. -/
def bitN (N m : Nat) : Int := ((N / 2 ^ m % 2 : Nat) : Int)
theorem bitN_01 (N m : Nat) : 0 ≤ bitN N m ∧ bitN N m ≤ 1 := by unfold bitN; omega

theorem wrap_u64 (n : Int) : IntKind.u64.wrap n = n % 18446744073709551616 := by simp [IntKind.wrap, IntKind.bits, IntKind.signed]

theorem bits_nat64 (a b : Nat) (ha : a < 2 ^ 64) (hb : b < 2 ^ 64) :
    bits .and .u64 a b = (a &&& b : Nat) ∧ bits .or .u64 a b = (a ||| b : Nat) :=
  bits_nat .u64 64 (by decide) (fun n h0 h1 => by rw [wrap_u64]; omega) a b ha hb

theorem bit_of (N m : Nat) : bits .and .u64 (limb N (m / 64) / 2 ^ (m % 64)) 1 = bitN N m := by
  unfold limb bitN
  have e : (((N / 2 ^ (64 * (m / 64)) % 18446744073709551616 : Nat) : Int) / 2 ^ (m % 64)) = ((N / 2 ^ (64 * (m / 64)) % 18446744073709551616 / 2 ^ (m % 64) : Nat) : Int) := by
    rw [Int.natCast_ediv, Int.natCast_pow]; rfl
  rw [e, show (1 : Int) = ((1 : Nat) : Int) from rfl, (bits_nat64 _ 1 (by
    refine Nat.lt_of_le_of_lt (Nat.div_le_self _ _) ?_
    omega) (by decide)).1, Nat.and_one_is_mod]
  congr 1
  have h64 : m % 64 < 64 := Nat.mod_lt _ (by decide)
  have hm : m = 64 * (m / 64) + m % 64 := (Nat.div_add_mod m 64).symm
  conv => rhs; rw [hm, Nat.pow_add, ← Nat.div_div_eq_div_mul]
  generalize N / 2 ^ (64 * (m / 64)) = A
  generalize m % 64 = j at *
  have hd : (18446744073709551616 : Nat) = 2 ^ j * 2 ^ (64 - j) := by rw [← Nat.pow_add, show j + (64 - j) = 64 from by omega]
  rw [hd, Nat.mod_mul_right_div_self, Nat.mod_mod_of_dvd]
  exact ⟨2 ^ (64 - j - 1), by rw [← Nat.pow_succ', show (64 - j - 1).succ = 64 - j from by omega]⟩

/-- A word moved left by one, and a bit put in. -/
def shb (a b : Int) : Int := bits .or .u64 (IntKind.u64.wrap (a * 2)) b
def top (a : Int) : Int := a / 9223372036854775808
theorem shb_eq {a b : Int} (ha : Wd a) (hb : 0 ≤ b ∧ b ≤ 1) : shb a b = (a * 2) % 18446744073709551616 + b := by
  obtain ⟨a, rfl⟩ := Int.eq_ofNat_of_zero_le ha.1
  obtain ⟨b, rfl⟩ := Int.eq_ofNat_of_zero_le hb.1
  unfold shb
  unfold Wd at ha
  rw [wrap_u64]
  have e : ((a : Int) * 2 % 18446744073709551616) = ((2 * (a % 9223372036854775808) : Nat) : Int) := by omega
  rw [e, (bits_nat64 _ _ (by omega) (by omega)).2]
  have hb' : b = 0 ∨ b = 1 := by omega
  rcases hb' with rfl | rfl
  · simp
  · have : (2 * (a % 9223372036854775808)) ||| 1 = 2 * (a % 9223372036854775808) + 1 := by
      have := Nat.two_pow_add_eq_or_of_lt (i := 1) (b := 1) (by decide) (a % 9223372036854775808)
      rw [Nat.pow_one] at this
      exact this.symm
    rw [this]
    omega
theorem top_01 {a : Int} (ha : Wd a) : 0 ≤ top a ∧ top a ≤ 1 := by unfold Wd at ha; unfold top; omega

/-- Four words moved left by one, and a bit put in. -/
theorem shift_chain (r : Nat) (b : Int) (hr : r < 2 ^ 255) (hb : 0 ≤ b ∧ b ≤ 1) :
    (Value.agg #[.int .u64 (shb (limb r 0) b), .int .u64 (shb (limb r 1) (top (limb r 0))), .int .u64 (shb (limb r 2) (top (limb r 1))), .int .u64 (shb (limb r 3) (top (limb r 2)))]) = fe (2 * r + b.toNat) := by
  have a := limbs_sum r (by omega)
  have w0 := limb_wd r 0
  have w1 := limb_wd r 1
  have w2 := limb_wd r 2
  have w3 := limb_wd r 3
  rw [shb_eq w0 hb, shb_eq w1 (top_01 w0), shb_eq w2 (top_01 w1), shb_eq w3 (top_01 w2)]
  unfold Wd top at *
  refine fe_of ?_ ?_ ?_ ?_ ?_
  · unfold Wd; omega
  · unfold Wd; omega
  · unfold Wd; omega
  · unfold Wd; omega
  · simp only [Nat.reducePow, Int.reducePow] at *
    generalize limb r 0 = x0 at *
    generalize limb r 1 = x1 at *
    generalize limb r 2 = x2 at *
    generalize limb r 3 = x3 at *
    omega

/-- The base point's order. -/
def ordL : Nat := 7237005577332262213973186563042994240857116359379907606001950938285454250989

/-- One more bit of a number that is divided by L. -/
theorem rest_step (N m : Nat) : N / 2 ^ m % ordL = (2 * (N / 2 ^ (m + 1) % ordL) + N / 2 ^ m % 2) % ordL := by
  have : N / 2 ^ (m + 1) = N / 2 ^ m / 2 := by rw [Nat.pow_succ, ← Nat.div_div_eq_div_mul]
  rw [this]
  generalize N / 2 ^ m = A
  unfold ordL
  omega
theorem rest_lt (A : Nat) : A % ordL < ordL := Nat.mod_lt _ (by decide)
theorem rest_sub {s : Nat} (h : s < 2 * ordL) : s % ordL = if s < ordL then s else subW s ordL := by
  unfold subW ordL at *
  simp only [Nat.reducePow] at *
  split <;> omega
end Go.Proofs.Num
