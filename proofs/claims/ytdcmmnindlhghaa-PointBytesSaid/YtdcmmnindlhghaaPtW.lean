/- What is read of texts, and written. -/
import Derived.Test.YtdcmmnindlhghaaPtN
import Derived.Test.YtdcmmnindlhghaaNumG
import Derived.Test.YtdcmmnindlhghaaPtR
set_option linter.unusedSimpArgs false
set_option linter.unusedVariables false
namespace Go.Proofs.Num
theorem fp_yes {l : List UInt8} (hl : l.length = 32) (h : leN l < pF) : fparseE l = 0 ∧ fparseN l = leN l ∧ bytesN 32 (leastF (fparseN l)) = l := by
  have h1 : fparseN l = leN l := if_pos ⟨hl, h⟩
  have h2 : leastF (leN l) = leN l := fp_iff.2 h
  refine ⟨?_, h1, ?_⟩
  · simp [fparseE, hl, h]
  · rw [h1, h2, bytesN_eq hl (by rw [e256_32]; exact leN_256 hl)]
theorem fp_no {l : List UInt8} (hl : l.length = 32) (h : ¬ leN l < pF) : fparseE l = 2 ∧ fparseN l = 0 := by
  have := fp1 hl (fun e => h (fp_iff.1 e))
  exact ⟨this.2, this.1⟩
end Go.Proofs.Num

namespace Go.Proofs.Num
open Go Go.RowKit
section
theorem den_q {n : Nat} [NeZero n] {Y v d : Fin n} (h : Y * Y * d + 1 = 0) (hv : Y * v = 1) : v * v = -d := by grind
theorem zero_den {n : Nat} [NeZero n] (d : Fin n) : 0 * 0 * d + 1 = 1 := by grind
theorem one_mulq {n : Nat} [NeZero n] (a : Fin n) : a = 1 * a := by grind
end
theorem den_ne (Y : Fin pF) : Y * Y * dQ + 1 ≠ 0 := fun h => by
  by_cases hy : Y = 0
  · subst hy
    rw [zero_den] at h
    exact f_one h
  · obtain ⟨v, hv⟩ := f_inv hy
    exact nd_ne v (den_q h hv)
theorem fsub_0 {x : Nat} (hx : x < pF) : fsub 0 x = if x = 0 then 0 else pF - x := by
  have h : fsub 0 x = (pF - x) % pF := by unfold fsub; rw [Nat.zero_add, Nat.mod_eq_of_lt hx]
  rw [h]
  split
  · rename_i h0
    rw [h0, Nat.sub_zero, Nat.mod_self]
  · exact Nat.mod_eq_of_lt (by omega)
theorem high_lt {y : Nat} (hy : y < pF) : y / 256 ^ 31 < 128 := by
  have : pF < 128 * 256 ^ 31 := by decide
  exact Nat.div_lt_of_lt_mul (by rw [Nat.mul_comm]; exact Nat.lt_trans hy this)
theorem or_128 : ∀ b : Fin 128, ∀ k : Fin 2, (b.val ||| (k.val * 128)) = b.val + k.val * 128 := by decide
theorem set_31 (l : List UInt8) (h : l.length = 32) (v : UInt8) : l.set 31 v = l.take 31 ++ [v] := by
  rw [List.set_eq_take_append_cons_drop, if_pos (by omega), List.drop_of_length_le (by omega)]
theorem textQ_app {x y : Nat} (hy : y < pF) : textQ x y = (bytesN 32 y).take 31 ++ [UInt8.ofNat (y / 256 ^ 31 + x % 2 * 128)] := by
  unfold textQ
  rw [set_31 _ (bytesN_len _ _), Nat.mod_eq_of_lt (show y / 256 ^ 31 < 256 from Nat.lt_trans (high_lt hy) (by decide))]
  have h9 := or_128 ⟨y / 256 ^ 31, high_lt hy⟩ ⟨x % 2, Nat.mod_lt _ (by decide)⟩
  simp only at h9
  rw [h9]
theorem byte_last {l : List UInt8} (h : l.length = 31) {v : Nat} (hv : v < 256) : byteN (l ++ [UInt8.ofNat v]) 31 = v := by
  unfold byteN
  rw [List.getD_eq_getElem?_getD, List.getElem?_append_right (by omega), h]
  simp only [Nat.sub_self, List.getElem?_cons_zero, Option.getD_some, UInt8.toNat_ofNat']
  exact Nat.mod_eq_of_lt hv
theorem fmul_1 {x : Nat} (hx : x < pF) : fmul x 1 = x := by unfold fmul; rw [Nat.mul_one, Nat.mod_eq_of_lt hx]
theorem affX_affP {x y : Nat} (hx : x < pF) : affX (affP x y) = x := by
  show fmul x (finv 1) = x
  rw [finv_one, fmul_1 hx]
theorem affY_affP {x y : Nat} (hy : y < pF) : affY (affP x y) = y := by
  show fmul y (finv 1) = y
  rw [finv_one, fmul_1 hy]
theorem aff_q {n : Nat} [NeZero n] {X Y d : Fin n} (h : Y * Y - X * X = 1 + d * ((X * X) * (Y * Y))) : Y * Y - X * X = 1 * 1 + d * ((X * Y) * (X * Y)) := by grind
theorem aff_right {x y : Nat} (hx : x < pF) (hy : y < pF) (h : OnQ (fq x) (fq y)) : rightP (affP x y) = true := by
  refine rightP_of hx hy (show 1 < pF by decide) (fmul_ltp ..) ⟨f_one, ?_, ?_⟩
  · show fq x * fq y = fq 1 * fq (fmul x y)
    rw [fq_mul, fq_one]
    exact one_mulq _
  · show fq y * fq y - fq x * fq x = fq 1 * fq 1 + dQ * (fq (fmul x y) * fq (fmul x y))
    rw [fq_mul, fq_one]
    exact aff_q h
/-- A point and its contrary: the same text but for the highest bit. -/
theorem neg_par {x : Nat} (hx : x < pF) : x ≠ 0 → (fsub 0 x) % 2 = 1 - x % 2 := by
  have hp : pF % 2 = 1 := by decide
  intro h
  rw [fsub_0 hx, if_neg h]
  generalize pF = P at *
  omega
end Go.Proofs.Num

