/- Trees of sums, plainly. -/
import Derived.Test.YticcchgckljlnaaDoorSha
import Derived.Lib.ItoaNum
set_option linter.unusedSimpArgs false
set_option linter.unusedVariables false
namespace Go.Proofs.Num
open Go
def leafS (d : List UInt8) : List UInt8 := sha ([0] ++ d)
def nodeS (l r : List UInt8) : List UInt8 := sha ([1] ++ l ++ r)
theorem leafS_len (d : List UInt8) : (leafS d).length = 32 := sha_len _
theorem nodeS_len (l r : List UInt8) : (nodeS l r).length = 32 := sha_len _
theorem flat2 (a b : List UInt8) : [a, b].flatten = a ++ b := by simp
theorem flat3 (a b c : List UInt8) : [a, b, c].flatten = a ++ b ++ c := by simp
theorem getD_le2 {a b : List UInt8} {B : Nat} (ha : a.length ≤ B) (hb : b.length ≤ B) (k : Nat) : (([a, b] : List (List UInt8)).getD k []).length ≤ B := by
  match k with
  | 0 => exact ha
  | 1 => exact hb
  | k + 2 => exact Nat.zero_le _
theorem getD_le3 {a b c : List UInt8} {B : Nat} (ha : a.length ≤ B) (hb : b.length ≤ B) (hc : c.length ≤ B) (k : Nat) : (([a, b, c] : List (List UInt8)).getD k []).length ≤ B := by
  match k with
  | 0 => exact ha
  | 1 => exact hb
  | 2 => exact hc
  | k + 3 => exact Nat.zero_le _
/-- Have all 32 bytes? -/
def all32 (ps : List (List UInt8)) : Bool := ps.all fun s => s.length == 32
def badI (ps : List (List UInt8)) : Int := if all32 ps then -1 else ((ps.findIdx fun s => s.length != 32 : Nat) : Int)
theorem badI_none {ps : List (List UInt8)} (h : ∀ j, j < ps.length → (ps.getD j []).length = 32) : badI ps = -1 := by
  have : all32 ps = true := by
    simp only [all32, List.all_eq_true, beq_iff_eq]
    intro s hs
    obtain ⟨j, hj, rfl⟩ := List.getElem_of_mem hs
    have := h j hj
    rwa [List.getD_eq_getElem?_getD, List.getElem?_eq_getElem hj] at this
  simp [badI, this]
theorem badI_some {ps : List (List UInt8)} {k : Nat} (hk : k < ps.length) (h : ∀ j, j < k → (ps.getD j []).length = 32) (hb : (ps.getD k []).length ≠ 32) : badI ps = (k : Int) := by
  have hg : ps[k].length ≠ 32 := by rwa [List.getD_eq_getElem?_getD, List.getElem?_eq_getElem hk] at hb
  have h1 : all32 ps = false := by
    simp only [all32, List.all_eq_false]
    exact ⟨ps[k], List.getElem_mem hk, by simpa using hg⟩
  have h2 : ps.findIdx (fun s => s.length != 32) = k := by
    rw [List.findIdx_eq hk]
    refine ⟨by simpa using hg, fun j hj => ?_⟩
    have := h j hj
    rw [List.getD_eq_getElem?_getD, List.getElem?_eq_getElem (by omega)] at this
    simpa using this
  simp [badI, h1, h2]
theorem badI_ge (ps : List (List UInt8)) : decide (0 ≤ badI ps) = !all32 ps := by
  unfold badI
  cases h : all32 ps <;> simp
def rightB (ps : List (List UInt8)) : Bool := decide (ps.length ≤ 4096) && all32 ps
theorem all32_of {ps : List (List UInt8)} (h : ∀ j, j < ps.length → (ps.getD j []).length = 32) : all32 ps = true := by
  simp only [all32, List.all_eq_true, beq_iff_eq]
  intro s hs
  obtain ⟨j, hj, rfl⟩ := List.getElem_of_mem hs
  have := h j hj
  rwa [List.getD_eq_getElem?_getD, List.getElem?_eq_getElem hj] at this
theorem right_all {ps : List (List UInt8)} (h : ∀ j, j < ps.length → (ps.getD j []).length = 32) : decide (ps.length ≤ 4096) = rightB ps := by
  unfold rightB
  rw [all32_of h, Bool.and_true]
theorem right_bad {ps : List (List UInt8)} {k : Nat} (hk : k < ps.length) (hb : (ps.getD k []).length ≠ 32) : rightB ps = false := by
  have hg : ps[k].length ≠ 32 := by rwa [List.getD_eq_getElem?_getD, List.getElem?_eq_getElem hk] at hb
  have h1 : all32 ps = false := by
    simp only [all32, List.all_eq_false]
    exact ⟨ps[k], List.getElem_mem hk, by simpa using hg⟩
  unfold rightB
  rw [h1, Bool.and_false]
/-- The greatest power of 2 below a number above 1. -/
def splitN (n : Nat) : Nat := 2 ^ Nat.log2 (n - 1)
theorem splitN_lt {n : Nat} (h : 2 ≤ n) : splitN n < n := by
  have := Nat.log2_self_le (n := n - 1) (by omega)
  unfold splitN; omega
theorem splitN_pos (n : Nat) : 0 < splitN n := Nat.two_pow_pos _
theorem splitN_of {n j : Nat} (h1 : 2 ^ j < n) (h2 : n ≤ 2 * 2 ^ j) : splitN n = 2 ^ j := by
  have h3 : n - 1 ≠ 0 := by have := Nat.two_pow_pos j; omega
  have : Nat.log2 (n - 1) = j := by
    rw [Nat.log2_eq_iff h3]
    rw [Nat.pow_succ]
    omega
  unfold splitN
  rw [this]
theorem split_bits {n : Nat} (h : n < 4097) (h2 : 2 ≤ n) : 1 ≤ Lib.bitLen (n - 1) ∧ Lib.bitLen (n - 1) ≤ 12 ∧ 2 ^ (Lib.bitLen (n - 1) - 1) = splitN n := by
  obtain ⟨b1, b2, b3⟩ := Lib.bitLenAux_bounds 64 (n - 1) (Nat.lt_trans (by omega : n - 1 < 4096) (by decide)) (by omega)
  have b1 : 1 ≤ Lib.bitLen (n - 1) := b1
  have b2 : 2 ^ (Lib.bitLen (n - 1) - 1) ≤ n - 1 := b2
  have b3 : n - 1 < 2 ^ Lib.bitLen (n - 1) := b3
  generalize Lib.bitLen (n - 1) = m at *
  refine ⟨b1, ?_, ?_⟩
  · refine Classical.byContradiction fun hc => ?_
    have : 2 ^ 12 ≤ 2 ^ (m - 1) := Nat.pow_le_pow_right (by decide) (by omega)
    have e : (2 : Nat) ^ 12 = 4096 := by decide
    omega
  · refine (splitN_of (j := m - 1) (by omega) ?_).symm
    rw [← Nat.pow_succ', show (m - 1).succ = m by omega]
    omega
def rootS (l : List (List UInt8)) : List UInt8 :=
  if l.length = 0 then sha [] else if _h1 : l.length ≤ 1 then l.getD 0 [] else nodeS (rootS (l.take (splitN l.length))) (rootS (l.drop (splitN l.length)))
termination_by l.length
decreasing_by
  · have := splitN_lt (n := l.length) (by omega)
    simp; omega
  · have := splitN_pos l.length
    simp; omega
theorem rootS_0 {l : List (List UInt8)} (h : l.length = 0) : rootS l = sha [] := by rw [rootS, if_pos h]
theorem rootS_1 {l : List (List UInt8)} (h : l.length = 1) : rootS l = l.getD 0 [] := by rw [rootS, if_neg (by omega), dif_pos (by omega)]
theorem rootS_2 {l : List (List UInt8)} (h : 2 ≤ l.length) : rootS l = nodeS (rootS (l.take (splitN l.length))) (rootS (l.drop (splitN l.length))) := by
  rw [rootS, if_neg (by omega), dif_neg (by omega)]
theorem all32_mem {ps : List (List UInt8)} (h : all32 ps = true) : ∀ s ∈ ps, s.length = 32 := by
  simpa [all32] using h
theorem rootS_len {ps : List (List UInt8)} (h : ∀ s ∈ ps, s.length = 32) : (rootS ps).length = 32 := by
  by_cases h0 : ps.length = 0
  · rw [rootS_0 h0]; exact sha_len _
  · by_cases h1 : ps.length = 1
    · rw [rootS_1 h1]
      match ps, h1 with
      | [a], _ => exact h a (by simp)
    · rw [rootS_2 (by omega)]; exact nodeS_len _ _
theorem scells_take {ps : List (List UInt8)} {k : Nat} : scells (ps.take k) = (scells ps).take k := by simp [scells]
theorem scells_drop {ps : List (List UInt8)} {k : Nat} : scells (ps.drop k) = (scells ps).drop k := by simp [scells]
theorem range_stake {w : World} {g o : Nat} {ps : List (List UInt8)} (k : Nat) (h : w.rangeAt g o (scells ps)) : w.rangeAt g o (scells (ps.take k)) := by
  rw [← List.take_append_drop k ps] at h
  have e : scells (ps.take k ++ ps.drop k) = scells (ps.take k) ++ scells (ps.drop k) := by simp [scells]
  rw [e] at h
  exact (range_append h).1
theorem range_sdrop {w : World} {g o : Nat} {ps : List (List UInt8)} {k : Nat} (hk : k ≤ ps.length) (h : w.rangeAt g o (scells ps)) : w.rangeAt g (o + k) (scells (ps.drop k)) := by
  rw [← List.take_append_drop k ps] at h
  have e : scells (ps.take k ++ ps.drop k) = scells (ps.take k) ++ scells (ps.drop k) := by simp [scells]
  rw [e] at h
  have := (range_append h).2
  rwa [scells_len, List.length_take, Nat.min_eq_left hk] at this
end Go.Proofs.Num
