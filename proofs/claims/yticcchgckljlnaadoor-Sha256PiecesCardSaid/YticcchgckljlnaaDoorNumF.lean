/- The numbers that count modulo the order; bytes of numbers, numbers of bytes. -/
import Derived.Test.YticcchgckljlnaaDoorNumD
set_option linter.unusedSimpArgs false
set_option linter.unusedVariables false
namespace Go.Proofs.Num
open Go

def restS (N : Nat) : Nat := N % ordL
theorem ordL_lt : ordL < 2 ^ 256 := by decide
theorem restS_lt (N : Nat) : restS N < 2 ^ 256 := Nat.lt_trans (Nat.mod_lt _ (by decide)) ordL_lt
def sadd (x y : Nat) : Nat := (x + y) % ordL
def smul (x y : Nat) : Nat := x * y % ordL
theorem sadd_lt (x y : Nat) : sadd x y < 2 ^ 256 := restS_lt _
theorem smul_lt (x y : Nat) : smul x y < 2 ^ 256 := restS_lt _
theorem restS_id {x : Nat} (h : x < ordL) : restS x = x := Nat.mod_eq_of_lt h

/-- One round of the division, bit by bit. -/
def restR (N j : Nat) : Nat := 2 * (N / 2 ^ (j + 1) % ordL) + N / 2 ^ j % 2
theorem restR_lt (N j : Nat) : restR N j < 2 * ordL := by
  have := rest_lt (N / 2 ^ (j + 1)); unfold restR; omega
theorem restR_256 (N j : Nat) : restR N j < 2 ^ 256 := Nat.lt_trans (restR_lt N j) (by decide)
theorem restR_t {N j : Nat} (h : (subB (restR N j) ordL == 0) = true) : subW (restR N j) ordL = N / 2 ^ j % ordL := by
  have h1 := subB_t h
  rw [rest_step N j]
  have := rest_sub (restR_lt N j)
  rw [if_neg (by omega)] at this
  exact this.symm
theorem restR_f {N j : Nat} (h : (subB (restR N j) ordL == 0) = false) : restR N j = N / 2 ^ j % ordL := by
  have h1 := subB_f h
  rw [rest_step N j]
  have := rest_sub (restR_lt N j)
  rw [if_pos (by omega)] at this
  exact this.symm
theorem restR_chain (N j : Nat) :
    ([.int .u64 (shb (limb (N / 2 ^ (j + 1) % ordL) 0) ((N / 2 ^ j % 2 : Nat) : Int)), .int .u64 (shb (limb (N / 2 ^ (j + 1) % ordL) 1) (top (limb (N / 2 ^ (j + 1) % ordL) 0))), .int .u64 (shb (limb (N / 2 ^ (j + 1) % ordL) 2) (top (limb (N / 2 ^ (j + 1) % ordL) 1))), .int .u64 (shb (limb (N / 2 ^ (j + 1) % ordL) 3) (top (limb (N / 2 ^ (j + 1) % ordL) 2)))] : List Value) = fel (restR N j) := by
  have h1 := rest_lt (N / 2 ^ (j + 1))
  generalize hr : N / 2 ^ (j + 1) % ordL = r at *
  have hs := shift_chain r (bitN N j) (by unfold ordL at h1; omega) (bitN_01 N j)
  have hb : (bitN N j).toNat = N / 2 ^ j % 2 := by unfold bitN; omega
  rw [hb] at hs
  have hR : restR N j = 2 * r + N / 2 ^ j % 2 := by unfold restR; rw [hr]
  rw [hR]
  have : fe (2 * r + N / 2 ^ j % 2) = .agg #[.int .u64 (shb (limb r 0) (bitN N j)), .int .u64 (shb (limb r 1) (top (limb r 0))), .int .u64 (shb (limb r 2) (top (limb r 1))), .int .u64 (shb (limb r 3) (top (limb r 2)))] := hs.symm
  unfold fe at this
  injection this with h2
  have h3 := congrArg Array.toList h2
  simp only [List.toList_toArray] at h3
  rw [h3]; rfl

/-- The sum of words, in five. -/
structure SumInv (x y i M : Nat) : Prop where
  sum : M = x % 2 ^ (64 * i) + y % 2 ^ (64 * i)
def sumT (x y i M : Nat) : Nat := ((limbN x i + limbN y i) % 18446744073709551616 + limbN M i) % 18446744073709551616
def sumC (x y i M : Nat) : Nat := (limbN x i + limbN y i) / 18446744073709551616 + ((limbN x i + limbN y i) % 18446744073709551616 + limbN M i) / 18446744073709551616
def sumM (x y i M : Nat) : Nat := M - limbN M i * 2 ^ (64 * i) + sumT x y i M * 2 ^ (64 * i)
def sumN (x y i M : Nat) : Nat := sumM x y i M + sumC x y i M * 2 ^ (64 * (i + 1))
theorem sumM_eq (x y i M : Nat) : sumM x y i M + limbN M i * 2 ^ (64 * i) = M + sumT x y i M * 2 ^ (64 * i) := by
  have := limb_mul_le M i
  unfold sumM; omega
theorem sumT_lt (x y i M : Nat) : sumT x y i M < 18446744073709551616 := Nat.mod_lt _ (by decide)
theorem sum_limb {x y i M : Nat} (h : SumInv x y i M) : limbN M i ≤ 1 ∧ M < 2 ^ (64 * i) * 2 := by
  have hx := Nat.mod_lt x (Nat.two_pow_pos (64 * i))
  have hy := Nat.mod_lt y (Nat.two_pow_pos (64 * i))
  have hM : M < 2 ^ (64 * i) * 2 := by rw [h.sum]; omega
  refine ⟨?_, hM⟩
  unfold limbN
  have : M / 2 ^ (64 * i) < 2 := Nat.div_lt_of_lt_mul hM
  generalize M / 2 ^ (64 * i) = q at *
  omega
theorem sumC_lt (x y i M : Nat) : sumC x y i M < 18446744073709551616 := by
  have h1 := limbN_lt x i
  have h2 := limbN_lt y i
  have h3 := limbN_lt M i
  unfold sumC; omega
theorem pow64_succ (i : Nat) : 2 ^ (64 * (i + 1)) = 18446744073709551616 * 2 ^ (64 * i) := by
  have e4 : (18446744073709551616 : Nat) = 2 ^ 64 := by decide
  rw [show 64 * (i + 1) = 64 + 64 * i by omega, Nat.pow_add, e4]
theorem sum_parts (x y i M : Nat) : limbN x i + limbN y i + limbN M i = sumT x y i M + 18446744073709551616 * sumC x y i M := by
  unfold sumT sumC; omega
theorem sum_step {x y i M : Nat} (h : SumInv x y i M) : SumInv x y (i + 1) (sumN x y i M) := by
  obtain ⟨hl, hM⟩ := sum_limb h
  have hp := sum_parts x y i M
  refine ⟨?_⟩
  have e := sumM_eq x y i M
  have hx := mod_step x i
  have hy := mod_step y i
  have hs := h.sum
  unfold sumN
  rw [hx, hy, pow64_succ]
  generalize 2 ^ (64 * i) = E at *
  generalize sumT x y i M = t at *
  generalize sumC x y i M = c at *
  generalize limbN x i = a at *
  generalize limbN y i = b at *
  generalize limbN M i = m at *
  have hmul : (a + b + m) * E = (t + 18446744073709551616 * c) * E := by rw [hp]
  have e1 : (t + 18446744073709551616 * c) * E = t * E + c * (18446744073709551616 * E) := by grind
  have e2 : (a + b + m) * E = a * E + b * E + m * E := by grind
  omega
theorem sum_gap {x y i M : Nat} (h : SumInv x y i M) : limbN (sumM x y i M) (i + 1) = 0 := by
  obtain ⟨hl, hM⟩ := sum_limb h
  have e := sumM_eq x y i M
  have ht := sumT_lt x y i M
  have hle := limb_mul_le M i
  have hm : M - limbN M i * 2 ^ (64 * i) < 2 ^ (64 * i) := by
    have hd := Nat.div_add_mod M (2 ^ (64 * i))
    have hq : limbN M i = M / 2 ^ (64 * i) := by
      unfold limbN
      have : M / 2 ^ (64 * i) < 2 := Nat.div_lt_of_lt_mul hM
      generalize M / 2 ^ (64 * i) = q at *
      omega
    rw [hq]
    have := Nat.mod_lt M (Nat.two_pow_pos (64 * i))
    have e3 : M / 2 ^ (64 * i) * 2 ^ (64 * i) = 2 ^ (64 * i) * (M / 2 ^ (64 * i)) := Nat.mul_comm _ _
    omega
  have hlt : sumM x y i M < 2 ^ (64 * (i + 1)) := by
    rw [pow64_succ]
    unfold sumM
    have : sumT x y i M * 2 ^ (64 * i) ≤ 18446744073709551615 * 2 ^ (64 * i) := Nat.mul_le_mul_right _ (by omega)
    generalize 2 ^ (64 * i) = E at *
    omega
  unfold limbN
  rw [Nat.div_eq_of_lt hlt]
theorem sumN_eq {x y i M : Nat} (h : SumInv x y i M) : sumN x y i M + limbN (sumM x y i M) (i + 1) * 2 ^ (64 * (i + 1)) = sumM x y i M + sumC x y i M * 2 ^ (64 * (i + 1)) := by
  rw [sum_gap h]; unfold sumN; omega
theorem sum_start (x y : Nat) : SumInv x y 0 0 := ⟨by simp [Nat.mod_one]⟩
theorem sum_end {x y M : Nat} (hx : x < 2 ^ 256) (hy : y < 2 ^ 256) (h : SumInv x y 4 M) : M = x + y := by
  rw [h.sum, Nat.mod_eq_of_lt (by simpa using hx), Nat.mod_eq_of_lt (by simpa using hy)]

/-- Bytes as a number, the lowest first. -/
def leN : List UInt8 → Nat
  | [] => 0
  | b :: l => b.toNat + 256 * leN l
theorem leN_append (l m : List UInt8) : leN (l ++ m) = leN l + 256 ^ l.length * leN m := by
  induction l with
  | nil => simp [leN]
  | cons b l ih => simp only [List.cons_append, leN, ih, List.length_cons, Nat.pow_succ]; grind
theorem leN_lt (l : List UInt8) : leN l < 256 ^ l.length := by
  induction l with
  | nil => simp [leN]
  | cons b l ih =>
    have := b.toNat_lt
    simp only [leN, List.length_cons, Nat.pow_succ]; omega
/-- The first so many bytes' number. -/
theorem leN_take (l : List UInt8) {i : Nat} (hi : i < l.length) : leN (l.take (i + 1)) = leN (l.take i) + l[i].toNat * 256 ^ i := by
  rw [List.take_add_one, leN_append, List.getElem?_eq_getElem hi, List.length_take, Nat.min_eq_left (by omega)]
  simp [leN, Nat.mul_comm]
theorem leN_take_lt (l : List UInt8) (i : Nat) : leN (l.take i) < 256 ^ i :=
  Nat.lt_of_lt_of_le (leN_lt _) (Nat.pow_le_pow_right (by decide) (by rw [List.length_take]; omega))
/-- A number's bytes. -/
def bytesN (n x : Nat) : List UInt8 := (List.range n).map fun i => UInt8.ofNat (x / 256 ^ i)
theorem bytesN_len (n x : Nat) : (bytesN n x).length = n := by simp [bytesN]
theorem leN_bytesN (n x : Nat) : leN (bytesN n x) = x % 256 ^ n := by
  induction n with
  | zero => simp [bytesN, leN, Nat.mod_one]
  | succ n ih =>
    have e : bytesN (n + 1) x = bytesN n x ++ [UInt8.ofNat (x / 256 ^ n)] := by simp [bytesN, List.range_succ]
    rw [e, leN_append, ih, bytesN_len, Nat.pow_succ, Nat.mod_mul]
    simp [leN]
theorem leN_get (l : List UInt8) (i : Nat) : leN l / 256 ^ i % 256 = (l[i]?.map (·.toNat)).getD 0 := by
  induction l generalizing i with
  | nil => simp [leN]
  | cons b l ih =>
    have hb := b.toNat_lt
    cases i with
    | zero => simp [leN]
    | succ i =>
      rw [List.getElem?_cons_succ, ← ih i, leN, Nat.pow_succ, Nat.mul_comm (256 ^ i) 256, ← Nat.div_div_eq_div_mul]
      congr 2; omega
theorem leN_inj {l m : List UInt8} (hl : l.length = m.length) (h : leN l = leN m) : l = m := by
  induction l generalizing m with
  | nil => cases m with
    | nil => rfl
    | cons => simp at hl
  | cons b l ih =>
    cases m with
    | nil => simp at hl
    | cons c m =>
      have hb := b.toNat_lt
      have hc := c.toNat_lt
      simp only [leN] at h
      have h1 : b.toNat = c.toNat := by omega
      have h2 : leN l = leN m := by omega
      rw [ih (by simpa using hl) h2, UInt8.toNat_inj.1 h1]
theorem bytesN_leN (l : List UInt8) : bytesN l.length (leN l) = l :=
  leN_inj (bytesN_len _ _) (by rw [leN_bytesN, Nat.mod_eq_of_lt (leN_lt l)])

/-- A byte of a word. -/
theorem byte_of (N i : Nat) : limbN N (i / 8) / 2 ^ (8 * (i % 8)) % 256 = N / 256 ^ i % 256 := by
  unfold limbN
  have h8 : i % 8 < 8 := Nat.mod_lt _ (by decide)
  have e256 : (256 : Nat) = 2 ^ 8 := by decide
  have hi : 256 ^ i = 2 ^ (64 * (i / 8)) * 2 ^ (8 * (i % 8)) := by rw [e256, ← Nat.pow_mul, ← Nat.pow_add]; congr 1; omega
  rw [hi, ← Nat.div_div_eq_div_mul]
  generalize N / 2 ^ (64 * (i / 8)) = A
  have hd : (18446744073709551616 : Nat) = 2 ^ (8 * (i % 8)) * 2 ^ (64 - 8 * (i % 8)) := by rw [← Nat.pow_add, show 8 * (i % 8) + (64 - 8 * (i % 8)) = 64 from by omega]
  rw [hd, Nat.mod_mul_right_div_self, Nat.mod_mod_of_dvd]
  exact ⟨2 ^ (64 - 8 * (i % 8) - 8), by rw [e256, ← Nat.pow_add, show 8 + (64 - 8 * (i % 8) - 8) = 64 - 8 * (i % 8) from by omega]⟩
/-- A byte put into a word, where nothing stands. -/
theorem put_byte {M i b : Nat} (hM : M < 256 ^ i) (hb : b < 256) :
    limbN M (i / 8) ||| (b * 2 ^ (8 * (i % 8))) = limbN M (i / 8) + b * 2 ^ (8 * (i % 8)) ∧ limbN M (i / 8) + b * 2 ^ (8 * (i % 8)) < 18446744073709551616 ∧
    (M + b * 256 ^ i) + limbN M (i / 8) * 2 ^ (64 * (i / 8)) = M + (limbN M (i / 8) + b * 2 ^ (8 * (i % 8))) * 2 ^ (64 * (i / 8)) := by
  have h8 : i % 8 < 8 := Nat.mod_lt _ (by decide)
  have e256 : (256 : Nat) = 2 ^ 8 := by decide
  have hi : 256 ^ i = 2 ^ (64 * (i / 8)) * 2 ^ (8 * (i % 8)) := by rw [e256, ← Nat.pow_mul, ← Nat.pow_add]; congr 1; omega
  have hlim : limbN M (i / 8) < 2 ^ (8 * (i % 8)) := by
    unfold limbN
    refine Nat.lt_of_le_of_lt (Nat.mod_le _ _) (Nat.div_lt_of_lt_mul ?_)
    rw [← hi]; exact hM
  refine ⟨?_, ?_, ?_⟩
  · have := Nat.shiftLeft_add_eq_or_of_lt hlim b
    rw [Nat.or_comm, ← Nat.shiftLeft_eq, ← this, Nat.add_comm]
  · have h1 : b * 2 ^ (8 * (i % 8)) ≤ 255 * 2 ^ (8 * (i % 8)) := Nat.mul_le_mul_right _ (by omega)
    have h2 : 2 ^ (8 * (i % 8)) ≤ 2 ^ 56 := Nat.pow_le_pow_right (by decide) (by omega)
    have h3 : (2 : Nat) ^ 56 = 72057594037927936 := by decide
    omega
  · rw [hi, Nat.add_mul]
    generalize 2 ^ (64 * (i / 8)) = E
    generalize 2 ^ (8 * (i % 8)) = F
    have : b * (E * F) = b * F * E := by rw [Nat.mul_assoc, Nat.mul_comm F E]
    omega

set_option exponentiation.threshold 600 in
theorem mul_512 {x y : Nat} (hx : x < 2 ^ 256) (hy : y < 2 ^ 256) : x * y < 2 ^ (64 * 8) := by
  have := Nat.mul_lt_mul'' hx hy
  rwa [← Nat.pow_add] at this
set_option exponentiation.threshold 600 in
theorem leN_512 {l : List UInt8} (h : l.length ≤ 64) : leN l < 2 ^ (64 * 8) := by
  refine Nat.lt_of_lt_of_le (leN_lt l) ?_
  rw [show (256 : Nat) = 2 ^ 8 by decide, ← Nat.pow_mul]
  exact Nat.pow_le_pow_right (by decide) (by omega)
theorem wrap_u8N (n : Nat) : IntKind.u8.wrap ((n : Nat) : Int) = ((n % 256 : Nat) : Int) := by simp [IntKind.wrap, IntKind.bits, IntKind.signed]
/-- Cells of bytes. -/
def bcells (l : List UInt8) : List Value := l.map fun b => .int .u8 (b.toNat : Int)
theorem bcells_get (n y j : Nat) : (bcells (bytesN n y))[j]? = if j < n then some (.int .u8 ((y / 256 ^ j % 256 : Nat) : Int)) else none := by
  unfold bcells bytesN
  by_cases hj : j < n
  · simp [hj]
  · simp [hj]
theorem bcells_len (l : List UInt8) : (bcells l).length = l.length := by simp [bcells]
theorem bytesN_set {n x i : Nat} (hi : i < n) : (bcells (bytesN n (x % 256 ^ i))).set i (.int .u8 ((x / 256 ^ i % 256 : Nat) : Int)) = bcells (bytesN n (x % 256 ^ (i + 1))) := by
  apply List.ext_getElem?
  intro j
  rw [List.getElem?_set, bcells_get, bcells_get, bcells_len, bytesN_len]
  by_cases hij : i = j
  · subst hij
    rw [if_pos rfl, if_pos hi, if_pos hi, Nat.pow_succ, Nat.mod_mul_right_div_self, Nat.mod_mod]
  · rw [if_neg hij]
    by_cases hj : j < n
    · rw [if_pos hj, if_pos hj]
      by_cases hlt : j < i
      · obtain ⟨d, hd⟩ : ∃ d, i = j + 1 + d := ⟨i - j - 1, by omega⟩
        have p1 : 256 ^ i = 256 ^ j * (256 * 256 ^ d) := by rw [hd, Nat.pow_add, Nat.pow_succ, Nat.mul_assoc]
        have p2 : 256 ^ (i + 1) = 256 ^ j * (256 * (256 ^ d * 256)) := by rw [Nat.pow_succ, p1]; simp only [Nat.mul_assoc]
        rw [p1, p2, Nat.mod_mul_right_div_self, Nat.mod_mul_right_div_self, Nat.mod_mod_of_dvd _ (Nat.dvd_mul_right _ _), Nat.mod_mod_of_dvd _ (Nat.dvd_mul_right _ _)]
      · have e2 : x % 256 ^ (i + 1) / 256 ^ j = 0 := Nat.div_eq_of_lt (Nat.lt_of_lt_of_le (Nat.mod_lt _ (Nat.pow_pos (by decide))) (Nat.pow_le_pow_right (by decide) (by omega)))
        have e3 : x % 256 ^ i / 256 ^ j = 0 := Nat.div_eq_of_lt (Nat.lt_of_lt_of_le (Nat.mod_lt _ (Nat.pow_pos (by decide))) (Nat.pow_le_pow_right (by decide) (by omega)))
        rw [e2, e3]
    · rw [if_neg hj, if_neg hj]
theorem bcells_zero (n : Nat) : bcells (bytesN n 0) = List.replicate n (.int .u8 0) := by
  apply List.ext_getElem
  · simp [bcells, bytesN]
  · intro i h1 h2; simp [bcells, bytesN]
end Go.Proofs.Num
