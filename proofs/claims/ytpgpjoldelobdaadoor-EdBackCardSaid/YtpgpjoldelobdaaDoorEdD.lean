import Derived.WalkKit
import Derived.WalkSpells
import Derived.Laws.Pointers
import Derived.RowKit3
import Derived.Below
import Derived.Outline
import Derived.LoopN
import Derived.Lib.Hide
import Derived.Handy
import Derived.Laws.Bits64b
import Derived.Test.YtpgpjoldelobdaaDoorEdC
import Derived.Test.YtpgpjoldelobdaaDoorEdL
set_option linter.unusedSimpArgs false
set_option linter.unusedVariables false
namespace Go.Proofs.Yc
open Go Go.RowKit Go.Proofs.Num

attribute [local irreducible] wpV wpN wpList
open Go.Proofs.Ya
/-- The contrary of one point is that of the other. -/
theorem neg_congr {p q : P4} (h : Eqv p q) : Eqv (negP p) (negP q) := by
 obtain ⟨a, b⟩ := aff_neg p
 obtain ⟨c, d⟩ := aff_neg q
 exact ⟨by rw [a, c, h.x], by rw [b, d, h.y]⟩
theorem text_inj {p q : P4} (hp : rightP p = true) (hq : rightP q = true) (h : textQ (affX p) (affY p) = textQ (affX q) (affY q)) : Eqv p q := by
 have h1 := pPar_text hp
 have h2 := pPar_text hq
 rw [h, h2] at h1
 have h3 := congrArg Prod.fst h1
 simp only at h3
 have hx : affX q = affX p := congrArg P4.x h3
 have hy : affY q = affY p := congrArg P4.y h3
 exact ⟨hx.symm, hy.symm⟩
theorem key_ptq (n : Nat) : PtQ (mulR n baseP 256) := mulR_ptq base_ptq 256
theorem key_right (n : Nat) : rightP (mulR n baseP 256) = true := right_mulR rightP_base 256
/-- The key's point. -/
def keyP (n : Nat) : P4 := affP (affX (mulR n baseP 256)) (affY (mulR n baseP 256))
theorem keyP_par (n : Nat) : pPar (edT n) = (keyP n, 0) := pPar_text (key_right n)
theorem keyP_right (n : Nat) : rightP (keyP n) = true := aff_right (affX_ltp _) (affY_ltp _) (ofRightP (key_right n)).2.on
theorem keyP_ptq (n : Nat) : PtQ (keyP n) := (ofRightP (keyP_right n)).2
theorem keyP_times {n k : Nat} (hn : n < 2 ^ 256) (hk : k < 2 ^ 256) : Eqv (mulR k (keyP n) 256) (timesP baseP (n * k)) := by
 have h1 := mul_times (keyP_ptq n) hk
 have h2 := times_congr (keyP_ptq n) (key_ptq n) (aff_eqv _) k
 have h3 := times_congr (key_ptq n) (times_ptq base_ptq n) (mul_times base_ptq hn) k
 exact ((h1.trans h2).trans h3).trans (times_mul base_ptq n k).symm
/-- So many times the base point, less the key's point so many times. -/
theorem edQ_eqv {n k s r : Nat} (hn : n < 2 ^ 256) (hk : k < 2 ^ 256) (hs : s < 2 ^ 256) (h : Eqv (timesP baseP s) (timesP baseP (r + n * k))) : Eqv (edQ (keyP n) s k) (timesP baseP r) := by
 have hb := base_ptq
 have hq := times_ptq hb (n * k)
 have hr := times_ptq hb r
 unfold edQ
 have h1 := add_congr (mulR_ptq hb 256) (neg_ptq (mulR_ptq (keyP_ptq n) 256)) (times_ptq hb (r + n * k)) (neg_ptq hq) ((mul_times hb hs).trans h) (neg_congr (keyP_times hn hk))
 have h2 := add_congr (times_ptq hb (r + n * k)) (neg_ptq hq) (addP_ptq hr hq) (neg_ptq hq) (times_add hb r (n * k)) Eqv.rfl
 have h3 := add_assoc hr hq (neg_ptq hq)
 have h4 := add_congr hr (addP_ptq hq (neg_ptq hq)) hr zero_ptq Eqv.rfl (add_neg hq)
 exact ((h1.trans h2).trans (h3.trans h4)).trans (add_zero hr)
theorem sign_mod (r k n : Nat) : restS (sadd r (smul k n)) = (r + n * k) % ordL := by
 unfold restS sadd smul
 rw [Nat.mod_mod, Nat.add_mod_mod, Nat.mul_comm]
theorem edQ_right {kp : P4} (h : rightP kp = true) (s k : Nat) : rightP (edQ kp s k) = true := right_add (right_mulR rightP_base 256) (right_neg (right_mulR h 256))
theorem edS_take (seed m : List UInt8) : (edS seed m).take 32 = edT (edR [edP seed, m]) := List.take_left' (edT_len _)
theorem edS_drop (seed m : List UInt8) : (edS seed m).drop 32 = bytesN 32 (restS (sadd (edR [edP seed, m]) (smul (edR [edT (edR [edP seed, m]), edT (edN seed), m]) (edN seed)))) := List.drop_left' (edT_len _)
/-- What is signed is right. -/
theorem ed_right (seed m : List UInt8) : edV (pPar (edT (edN seed))).2 (sparseE ((edS seed m).drop 32)) (decide (textQ (affX (edQ (pPar (edT (edN seed))).1 (sparseN ((edS seed m).drop 32)) (edR [(edS seed m).take 32, edT (edN seed), m]))) (affY (edQ (pPar (edT (edN seed))).1 (sparseN ((edS seed m).drop 32)) (edR [(edS seed m).take 32, edT (edN seed), m]))) = (edS seed m).take 32)) = 0 := by
 rw [keyP_par, edS_drop, edS_take]
 obtain ⟨h1, h2⟩ := sp_bytes (sadd (edR [edP seed, m]) (smul (edR [edT (edR [edP seed, m]), edT (edN seed), m]) (edN seed)))
 rw [h1, h2]
 have hr := edR_lt [edP seed, m]
 have hk := edR_lt [edT (edR [edP seed, m]), edT (edN seed), m]
 generalize edR [edT (edR [edP seed, m]), edT (edN seed), m] = k at *
 generalize edR [edP seed, m] = r at *
 have hn := edN_lt seed
 generalize edN seed = n at *
 have h3 : Eqv (edQ (keyP n) (restS (sadd r (smul k n))) k) (timesP baseP r) := edQ_eqv hn hk (restS_lt _) (by rw [sign_mod]; exact times_mod _)
 have h4 := h3.trans (mul_times base_ptq hr).symm
 have h5 : textQ (affX (edQ (keyP n) (restS (sadd r (smul k n))) k)) (affY (edQ (keyP n) (restS (sadd r (smul k n))) k)) = edT r := text_eqv h4
 rw [decide_eq_true h5]
 rfl
/-- No power of 2, so many times the base point, is zero. -/
theorem two_inv (j : Nat) : (2 ^ j * ((ordL + 1) / 2) ^ j) % ordL = 1 := by
 rw [← Nat.mul_pow, Nat.pow_mod, show 2 * ((ordL + 1) / 2) % ordL = 1 by decide, Nat.one_pow]
 decide
theorem base_nz : ¬ Eqv baseP zeroP := fun h => by
 have h1 := h.x
 rw [zero_x] at h1
 have h2 : baseP.x = 0 := (x_zero rightP_base).2 h1
 exact absurd h2 (by decide)
theorem pow_nz (j : Nat) : ¬ Eqv (timesP baseP (2 ^ j)) zeroP := fun h => base_nz (by
 have hb := base_ptq
 have h1 := times_mul hb (2 ^ j) (((ordL + 1) / 2) ^ j)
 have h2 := h1.trans ((times_congr (times_ptq hb _) zero_ptq h _).trans (times_zero _))
 have h3 := times_mod (2 ^ j * ((ordL + 1) / 2) ^ j)
 rw [two_inv] at h3
 exact ((times_one hb).symm.trans h3).trans h2)
theorem pow_diff {a j : Nat} : ¬ Eqv (timesP baseP (a + 2 ^ j)) (timesP baseP a) := fun h => pow_nz j (by
 have hb := base_ptq
 have ha := times_ptq hb a
 have hj := times_ptq hb (2 ^ j)
 have h1 := (times_add hb a (2 ^ j)).symm.trans h
 -- a + 2^j = a, so 2^j = 0
 have h2 := add_congr (neg_ptq ha) (addP_ptq ha hj) (neg_ptq ha) ha Eqv.rfl h1
 have h3 := (add_assoc (neg_ptq ha) ha hj).symm
 have hn := (add_comm (neg_ptq ha) ha).trans (add_neg ha)
 have h4 := (h3.trans (add_congr (addP_ptq (neg_ptq ha) ha) hj zero_ptq hj hn Eqv.rfl)).trans (zero_add hj)
 exact h4.symm.trans (h2.trans hn))
end Go.Proofs.Yc

