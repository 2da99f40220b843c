/- What is read of texts, and written. -/
import Derived.Test.YtdcmmnindlhghaaPtN
import Derived.Test.YtdcmmnindlhghaaJoin
import Derived.Test.YtdcmmnindlhghaaPtT
set_option linter.unusedSimpArgs false
set_option linter.unusedVariables false
namespace Go.Proofs.Num
theorem fp_bytes (x : Nat) : fparseN (bytesN 32 (leastF x)) = leastF x ∧ fparseE (bytesN 32 (leastF x)) = 0 := by
  have hl : (bytesN 32 (leastF x)).length = 32 := bytesN_len _ _
  have h1 : leN (bytesN 32 (leastF x)) = leastF x := by rw [leN_bytesN, e256_32]; exact Nat.mod_eq_of_lt (leastF_lt x)
  have h2 : leN (bytesN 32 (leastF x)) < pF := by rw [h1]; exact Nat.mod_lt _ (by decide)
  exact ⟨(if_pos ⟨hl, h2⟩).trans h1, (if_pos hl).trans (if_pos h2)⟩
end Go.Proofs.Num

namespace Go.Proofs.Num
open Go Go.RowKit
section
theorem den_q {n : Nat} [NeZero n] {Y v d : Fin n} (h : Y * Y * d + 1 = 0) (hv : Y * v = 1) : v * v = -d := by grind
theorem u_q {n : Nat} [NeZero n] {X Y d w : Fin n} (h : Y * Y - X * X = 1 + d * ((X * X) * (Y * Y))) (hi : (Y * Y * d + 1) * w = 1) : (Y * Y - 1) * w = X * X := by grind
theorem zero_den {n : Nat} [NeZero n] (d : Fin n) : 0 * 0 * d + 1 = 1 := by grind
theorem one_mulq {n : Nat} [NeZero n] (a : Fin n) : a = 1 * a := by grind
end
theorem den_ne (Y : Fin pF) : Y * Y * dQ + 1 ≠ 0 := fun h => by
  by_cases hy : Y = 0
  · subst hy
    rw [zero_den] at h
    exact f_one h
  · obtain ⟨v, hv⟩ := f_inv hy
    exact nd_ne v (den_q h hv)
theorem root_u {x y : Nat} (h : OnQ (fq x) (fq y)) : fmul (fsub (fmul y y) 1) (finv (fadd (fmul (fmul y y) dF) 1)) = fmul x x := by
  have hq : fq (fadd (fmul (fmul y y) dF) 1) = fq y * fq y * dQ + 1 := by rw [fq_add, fq_mul, fq_mul]; rfl
  have hi := fq_inv (z := fadd (fmul (fmul y y) dF) 1) (by rw [hq]; exact den_ne _)
  rw [hq] at hi
  refine fq_inj (fmul_ltp ..) (fmul_ltp ..) ?_
  rw [fq_mul, fq_sub, fq_mul, fq_mul, fq_one]
  exact u_q h hi
theorem par_cases {r x : Nat} (hr : r < pF) (hx : x < pF) (he : r % 2 = 0) (hn : ¬ r = x) (h0 : fadd r x = 0) : r = if x % 2 = 0 then x else fsub 0 x := by
  have hp : pF % 2 = 1 := by decide
  have hm : (r + x) % pF = 0 := h0
  have hs : r + x = 0 ∨ r + x = pF := by
    rcases Nat.lt_or_ge (r + x) pF with h | h
    · rw [Nat.mod_eq_of_lt h] at hm; exact .inl hm
    · rw [Nat.mod_eq_sub_mod h, Nat.mod_eq_of_lt (by omega)] at hm; exact .inr (by omega)
  have hv : fsub 0 x = (pF - x) % pF := by unfold fsub; rw [Nat.zero_add, Nat.mod_eq_of_lt hx]
  rw [hv]
  generalize pF = P at *
  split
  · omega
  · rw [Nat.mod_eq_of_lt (by omega)]; omega
theorem root_even {x : Nat} (hx : x < pF) : fsqrt (fmul x x) = (if x % 2 = 0 then x else fsub 0 x, true) := by
  have hl : leastF x = x := Nat.mod_eq_of_lt hx
  have h2 := root_sq x
  rw [hl] at h2
  have he := fsqrt_even (fmul x x)
  have hlt := fsqrt_ltp (fmul x x)
  have hc := root_contrary (x := x)
  rw [hl] at hc
  generalize fsqrt (fmul x x) = q at h2 he hlt hc
  obtain ⟨r, b⟩ := q
  simp only at h2 he hlt hc
  subst h2
  refine congrArg (fun a => (a, true)) ?_
  by_cases hr : r = x
  · subst hr
    rw [if_pos he]
  · have h0 := hc hr
    exact par_cases hlt hx he hr h0
theorem rootX_on {x y : Nat} (hx : x < pF) (h : OnQ (fq x) (fq y)) : rootX y = (if x % 2 = 0 then x else fsub 0 x, true) := by
  unfold rootX
  rw [root_u h]
  exact root_even hx
theorem fsub_0 {x : Nat} (hx : x < pF) : fsub 0 x = if x = 0 then 0 else pF - x := by
  have h : fsub 0 x = (pF - x) % pF := by unfold fsub; rw [Nat.zero_add, Nat.mod_eq_of_lt hx]
  rw [h]
  split
  · rename_i h0
    rw [h0, Nat.sub_zero, Nat.mod_self]
  · exact Nat.mod_eq_of_lt (by omega)
theorem fsub_twice {x : Nat} (hx : x < pF) : fsub 0 (fsub 0 x) = x := by
  by_cases h : x = 0
  · subst h
    decide
  · have h1 : fsub 0 x = pF - x := by rw [fsub_0 hx, if_neg h]
    rw [h1, fsub_0 (by omega), if_neg (by omega)]
    omega
theorem fsub_zero_iff {x : Nat} (hx : x < pF) : fsub 0 x = 0 ↔ x = 0 := by
  rw [fsub_0 hx]
  split <;> omega
theorem textQ_len (x y : Nat) : (textQ x y).length = 32 := by unfold textQ; rw [List.length_set, bytesN_len]
theorem high_lt {y : Nat} (hy : y < pF) : y / 256 ^ 31 < 128 := by
  have : pF < 128 * 256 ^ 31 := by decide
  exact Nat.div_lt_of_lt_mul (by rw [Nat.mul_comm]; exact Nat.lt_trans hy this)
theorem or_128 : ∀ b : Fin 128, ∀ k : Fin 2, (b.val ||| (k.val * 128)) = b.val + k.val * 128 := by decide
theorem set_31 (l : List UInt8) (h : l.length = 32) (v : UInt8) : l.set 31 v = l.take 31 ++ [v] := by
  rw [List.set_eq_take_append_cons_drop, if_pos (by omega), List.drop_of_length_le (by omega)]
theorem textQ_app {x y : Nat} (hy : y < pF) : textQ x y = (bytesN 32 y).take 31 ++ [UInt8.ofNat (y / 256 ^ 31 + x % 2 * 128)] := by
  unfold textQ
  rw [set_31 _ (bytesN_len _ _), Nat.mod_eq_of_lt (show y / 256 ^ 31 < 256 from Nat.lt_trans (high_lt hy) (by decide))]
  have h9 := or_128 ⟨y / 256 ^ 31, high_lt hy⟩ ⟨x % 2, Nat.mod_lt _ (by decide)⟩
  simp only at h9
  rw [h9]
theorem byte_last {l : List UInt8} (h : l.length = 31) {v : Nat} (hv : v < 256) : byteN (l ++ [UInt8.ofNat v]) 31 = v := by
  unfold byteN
  rw [List.getD_eq_getElem?_getD, List.getElem?_append_right (by omega), h]
  simp only [Nat.sub_self, List.getElem?_cons_zero, Option.getD_some, UInt8.toNat_ofNat']
  exact Nat.mod_eq_of_lt hv
theorem take_31 (y : Nat) : ((bytesN 32 y).take 31).length = 31 := by rw [List.length_take, bytesN_len]; rfl
theorem textQ_byte {x y : Nat} (hy : y < pF) : byteN (textQ x y) 31 = y / 256 ^ 31 + x % 2 * 128 := by
  have := high_lt hy
  rw [textQ_app hy, byte_last (take_31 y) (by omega)]
theorem textQ_y {x y : Nat} (hy : y < pF) : (textQ x y).take 31 ++ [UInt8.ofNat (byteN (textQ x y) 31 % 128)] = bytesN 32 y := by
  have hb := high_lt hy
  rw [textQ_byte hy, textQ_app hy, List.take_left' (take_31 y), show (y / 256 ^ 31 + x % 2 * 128) % 128 = y / 256 ^ 31 by omega, ← set_31 _ (bytesN_len _ _)]
  have : (bytesN 32 y)[31]'(by rw [bytesN_len]; decide) = UInt8.ofNat (y / 256 ^ 31) := by simp [bytesN]
  rw [← this, List.set_getElem_self]
theorem textQ_odd {x y : Nat} (hy : y < pF) : decide (byteN (textQ x y) 31 / 128 * 128 ≠ 0) = decide (x % 2 = 1) := by
  have hb := high_lt hy
  rw [textQ_byte hy]
  exact decide_eq_decide.2 (by omega)
theorem fp_text {x y : Nat} (hy : y < pF) : fparseN ((textQ x y).take 31 ++ [UInt8.ofNat (byteN (textQ x y) 31 % 128)]) = y ∧ fparseE ((textQ x y).take 31 ++ [UInt8.ofNat (byteN (textQ x y) 31 % 128)]) = 0 := by
  rw [textQ_y hy]
  have h := fp_bytes y
  rwa [leastF_of_lt hy] at h
theorem fmul_1 {x : Nat} (hx : x < pF) : fmul x 1 = x := by unfold fmul; rw [Nat.mul_one, Nat.mod_eq_of_lt hx]
theorem affX_affP {x y : Nat} (hx : x < pF) : affX (affP x y) = x := by
  show fmul x (finv 1) = x
  rw [finv_one, fmul_1 hx]
theorem affY_affP {x y : Nat} (hy : y < pF) : affY (affP x y) = y := by
  show fmul y (finv 1) = y
  rw [finv_one, fmul_1 hy]
theorem aff_eqv (p : P4) : Eqv (affP (affX p) (affY p)) p := ⟨affX_affP (affX_ltp p), affY_affP (affY_ltp p)⟩
theorem aff_q {n : Nat} [NeZero n] {X Y d : Fin n} (h : Y * Y - X * X = 1 + d * ((X * X) * (Y * Y))) : Y * Y - X * X = 1 * 1 + d * ((X * Y) * (X * Y)) := by grind
theorem aff_right {x y : Nat} (hx : x < pF) (hy : y < pF) (h : OnQ (fq x) (fq y)) : rightP (affP x y) = true := by
  refine rightP_of hx hy (show 1 < pF by decide) (fmul_ltp ..) ⟨f_one, ?_, ?_⟩
  · show fq x * fq y = fq 1 * fq (fmul x y)
    rw [fq_mul, fq_one]
    exact one_mulq _
  · show fq y * fq y - fq x * fq x = fq 1 * fq 1 + dQ * (fq (fmul x y) * fq (fmul x y))
    rw [fq_mul, fq_one]
    exact aff_q h
end Go.Proofs.Num

