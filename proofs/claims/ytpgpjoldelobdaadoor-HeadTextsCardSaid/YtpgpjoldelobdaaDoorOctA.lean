/- Bytes of numbers, packing: plainly. -/
import Derived.Test.YtpgpjoldelobdaaDoorSteps13
import Derived.Test.YtpgpjoldelobdaaDoorShq
set_option linter.unusedSimpArgs false
set_option linter.unusedVariables false
namespace Go.Proofs.Num
open Go Go.RowKit
/-- A number in w bytes, the highest one first. -/
def beL (w n : Nat) : List UInt8 := (List.range w).map fun i => UInt8.ofNat (n / 256 ^ (w - 1 - i))
theorem beL_len (w n : Nat) : (beL w n).length = w := by simp [beL]
/-- What is written when the last i bytes are. -/
def beF (w n i j : Nat) : Nat := if w ≤ j + i then n / 256 ^ (w - 1 - j) % 256 else 0
theorem beF_zero (w n : Nat) : List.replicate w (.int .u8 0) = bl w (beF w n 0) := by
 rw [bl_zero]
 exact bl_ext fun j hj => by unfold beF; rw [if_neg (by omega)]
theorem beF_step (w n : Nat) {i : Nat} (h : i < w) : (bl w (beF w n i)).set (w - 1 - i) (.int .u8 ((n / 2 ^ (8 * i) % 256 : Nat) : Int)) = bl w (beF w n (i + 1)) := by
 refine (bl_set _ _ _).trans (bl_ext fun j hj => ?_)
 unfold beF
 by_cases h0 : j = w - 1 - i
 ·
  rw [if_pos h0, if_pos (by omega), show w - 1 - j = i by omega, show (256 : Nat) = 2 ^ 8 by decide, ← Nat.pow_mul]
 ·
  rw [if_neg h0]
  by_cases h1 : w ≤ j + i
  ·
   rw [if_pos h1, if_pos (by omega)]
  ·
   rw [if_neg h1, if_neg (by omega)]
theorem beF_end (w n : Nat) : bl w (beF w n w) = bcells (beL w n) := by
 unfold bl beL bcells
 rw [List.map_map]
 refine List.map_congr_left fun j hj => ?_
 have := List.mem_range.1 hj
 simp only [Function.comp, UInt8.toNat_ofNat']
 unfold beF
 rw [if_pos (by omega)]
/-- The number of bytes, the highest one first. -/
def numN : List UInt8 → Nat
 | l => l.foldl (fun n b => 256 * n + b.toNat) 0
theorem numN_take (l : List UInt8) {i : Nat} (h : i < l.length) : numN (l.take (i + 1)) = 256 * numN (l.take i) + byteN l i := by
 have e : l.take (i + 1) = l.take i ++ [l[i]] := by rw [List.take_add_one, List.getElem?_eq_getElem h]; rfl
 have e2 : byteN l i = l[i].toNat := by unfold byteN; rw [List.getD_eq_getElem?_getD, List.getElem?_eq_getElem h]; rfl
 unfold numN
 rw [e, List.foldl_append, e2]
 rfl
theorem numN_lt (l : List UInt8) : numN l < 256 ^ l.length := by
 have h : ∀ i, i ≤ l.length → numN (l.take i) < 256 ^ i := by
  intro i
  induction i with
  | zero => intro _; exact (by decide : (0 : Nat) < 256 ^ 0)
  | succ i ih =>
   intro hi
   have h1 := ih (by omega)
   have h2 := byteN_lt l i
   rw [numN_take l (by omega), Nat.pow_succ]
   omega
 have h2 := h l.length (Nat.le_refl _)
 rwa [List.take_length] at h2
theorem numN_beL (w n : Nat) (h : n < 256 ^ w) : numN (beL w n) = n := by
 have hk : ∀ i, i ≤ w → numN ((beL w n).take i) = n / 256 ^ (w - i) := by
  intro i
  induction i with
  | zero =>
   intro _
   rw [Nat.sub_zero, Nat.div_eq_of_lt h]
   rfl
  | succ i ih =>
   intro hi
   have hb : byteN (beL w n) i = n / 256 ^ (w - 1 - i) % 256 := by
    unfold byteN beL
    simp [List.getD_eq_getElem?_getD, show i < w by omega]
   rw [numN_take _ (by rw [beL_len]; omega), ih (by omega), hb, show w - i = (w - (i + 1)) + 1 by omega, show w - 1 - i = w - (i + 1) by omega, Nat.pow_succ, ← Nat.div_div_eq_div_mul]
   omega
 have := hk w (Nat.le_refl _)
 rw [Nat.sub_self, Nat.pow_zero, Nat.div_one, List.take_of_length_le (by rw [beL_len]; exact Nat.le_refl _)] at this
 exact this
/-- Parts put together: ahead of each its length in 4 bytes. -/
def packL : List (List UInt8) → List UInt8
 | [] => []
 | s :: ps => beL 4 s.length ++ s ++ packL ps
theorem packL_app : ∀ a b : List (List UInt8), packL (a ++ b) = packL a ++ packL b
 | [], _ => rfl
 | s :: a, b => by simp [packL, packL_app a b]
def packN : List (List UInt8) → Nat
 | [] => 0
 | s :: ps => 4 + s.length + packN ps
theorem packL_len : ∀ ps : List (List UInt8), (packL ps).length = packN ps
 | [] => rfl
 | s :: ps => by simp [packL, packN, packL_len ps, beL_len]; omega
theorem packL_take {ps : List (List UInt8)} {k : Nat} (h : k < ps.length) : packL (ps.take (k + 1)) = packL (ps.take k) ++ beL 4 (ps.getD k []).length ++ ps.getD k [] := by
 have e : ps.take (k + 1) = ps.take k ++ [ps.getD k []] := by rw [List.take_add_one, List.getD_eq_getElem?_getD, List.getElem?_eq_getElem h]; rfl
 rw [e, packL_app]
 simp [packL]
/-- What is put together, taken apart: at most k parts. -/
def unpL : Nat → List UInt8 → Option (List (List UInt8))
 | k, l =>
  if l = [] then some [] else
  match k with
  | 0 => none
  | k + 1 => if l.length < 4 then none else if (l.drop 4).length < numN (l.take 4) then none else
   match unpL k ((l.drop 4).drop (numN (l.take 4))) with
   | none => none
   | some ps => some ((l.drop 4).take (numN (l.take 4)) :: ps)
theorem unp_pack : ∀ (k : Nat) (ps : List (List UInt8)), ps.length ≤ k → (∀ s ∈ ps, s.length < 256 ^ 4) → unpL k (packL ps) = some ps
 | k, [], _, _ => by
  unfold unpL
  exact if_pos rfl
 | k + 1, s :: ps, hk, hs => by
  have hl : s.length < 256 ^ 4 := hs s (List.mem_cons_self ..)
  have h4 : (beL 4 s.length).length = 4 := beL_len _ _
  have e0 : packL (s :: ps) = beL 4 s.length ++ (s ++ packL ps) := by
   show beL 4 s.length ++ s ++ packL ps = _
   rw [List.append_assoc]
  have e1 : (packL (s :: ps)).take 4 = beL 4 s.length := by rw [e0, List.take_left' h4]
  have e2 : (packL (s :: ps)).drop 4 = s ++ packL ps := by rw [e0, List.drop_left' h4]
  have hne : ¬ packL (s :: ps) = [] := fun e => by
   have := congrArg List.length e
   rw [packL_len] at this
   simp [packN] at this
  unfold unpL
  rw [if_neg hne]
  simp only
  rw [if_neg (by rw [packL_len]; simp [packN]; omega), e1, e2, numN_beL 4 s.length hl, if_neg (by rw [List.length_append]; omega), List.drop_left, List.take_left, unp_pack k ps (by simpa using hk) fun x hx => hs x (List.mem_cons_of_mem _ hx)]
end Go.Proofs.Num

