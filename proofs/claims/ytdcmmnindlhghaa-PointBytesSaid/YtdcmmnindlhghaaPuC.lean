/- Points: what is parsed is of the curve, and written again it is the text; plainly. -/
import Derived.Test.YtdcmmnindlhghaaPtW
set_option linter.unusedSimpArgs false
set_option linter.unusedVariables false
namespace Go.Proofs.Num
open Go Go.RowKit
theorem r_q {n : Nat} [NeZero n] {R Y d w : Fin n} (h : R * R = (Y * Y - 1) * w) (hi : (Y * Y * d + 1) * w = 1) : Y * Y - R * R = 1 + d * ((R * R) * (Y * Y)) := by grind
theorem neg_q {n : Nat} [NeZero n] {R Y d : Fin n} (h : Y * Y - R * R = 1 + d * ((R * R) * (Y * Y))) : Y * Y - (-R) * (-R) = 1 + d * (((-R) * (-R)) * (Y * Y)) := by grind
theorem root_on {x y : Nat} (hr : rootX y = (x, true)) : x < pF ∧ x % 2 = 0 ∧ OnQ (fq x) (fq y) := by
  unfold rootX at hr
  generalize hu : fmul (fsub (fmul y y) 1) (finv (fadd (fmul (fmul y y) dF) 1)) = u at hr
  have h1 := fsqrt_ltp u
  have h2 := fsqrt_even u
  have h3 := fsqrt_sq (y := u) (by rw [hr])
  rw [hr] at h1 h2 h3
  simp only at h1 h2 h3
  refine ⟨h1, h2, ?_⟩
  have hq : fq (fadd (fmul (fmul y y) dF) 1) = fq y * fq y * dQ + 1 := by rw [fq_add, fq_mul, fq_mul]; rfl
  have hi := fq_inv (z := fadd (fmul (fmul y y) dF) 1) (by rw [hq]; exact den_ne _)
  rw [hq] at hi
  have hul : leastF u = u := by rw [← hu]; exact leastF_of_lt (fmul_ltp ..)
  have h4 : fq x * fq x = (fq y * fq y - 1) * fq (finv (fadd (fmul (fmul y y) dF) 1)) := by
    rw [← fq_mul, h3, hul, ← hu, fq_mul, fq_sub, fq_mul, fq_one]
  exact r_q h4 hi
theorem root_on_neg {x y : Nat} (hr : rootX y = (x, true)) : OnQ (fq (fsub 0 x)) (fq y) := by
  rw [fq_neg0]
  exact neg_q (root_on hr).2.2
theorem text_back {m : List UInt8} (hl : m.length = 32) {x y : Nat} (hy : leN (m.take 31 ++ [UInt8.ofNat (byteN m 31 % 128)]) = y) (hp : y < pF) (hx : x % 2 = byteN m 31 / 128) : textQ x y = m := by
  have hb := byteN_lt m 31
  have ht : (m.take 31).length = 31 := by rw [List.length_take, hl]; rfl
  have hlen : (m.take 31 ++ [UInt8.ofNat (byteN m 31 % 128)]).length = 32 := by rw [List.length_append, ht]; rfl
  have e1 := bytesN_leN (m.take 31 ++ [UInt8.ofNat (byteN m 31 % 128)])
  rw [hlen, hy] at e1
  have e2 : byteN (bytesN 32 y) 31 = byteN m 31 % 128 := by rw [e1, byte_last ht (by omega)]
  have e3 : byteN (bytesN 32 y) 31 = y / 256 ^ 31 % 256 := by
    unfold byteN
    have h : (bytesN 32 y).getD 31 0 = UInt8.ofNat (y / 256 ^ 31) := by simp [bytesN, List.getD_eq_getElem?_getD]
    rw [h, UInt8.toNat_ofNat']
  rw [Nat.mod_eq_of_lt (Nat.lt_trans (high_lt hp) (by decide)), e2] at e3
  have e4 : (m[31]'(by omega)) = UInt8.ofNat (byteN m 31) := by
    unfold byteN
    rw [List.getD_eq_getElem?_getD, List.getElem?_eq_getElem (by omega), Option.getD_some, UInt8.ofNat_toNat]
  have e5 : m.take 31 ++ [UInt8.ofNat (byteN m 31)] = m := by rw [← e4, ← set_31 _ hl, List.set_getElem_self]
  rw [textQ_app hp, e1, List.take_left' ht, ← e3, hx, show byteN m 31 % 128 + byteN m 31 / 128 * 128 = byteN m 31 by omega, e5]
theorem high_bit {b : Nat} (h : b < 256) : (b / 128 * 128 ≠ 0) ↔ 128 ≤ b := by omega
end Go.Proofs.Num

