/- The reference's Add, plainly: the sizes of a tree's parts. -/
import Derived.Test.YticcchgckljlnaaDoorTrS
set_option linter.unusedSimpArgs false
set_option linter.unusedVariables false
namespace Go.Proofs.Num
open Go Go.RowKit
def zI (l : List Nat) : List Int := l.map fun (n : Nat) => (n : Int)
theorem zI_len (l : List Nat) : (zI l).length = l.length := List.length_map ..
theorem zI_get (l : List Nat) (i : Nat) : (zI l).getD i 0 = ((l.getD i 0 : Nat) : Int) := by
  unfold zI
  rw [List.getD_eq_getElem?_getD, List.getD_eq_getElem?_getD, List.getElem?_map]
  cases l[i]? <;> rfl
theorem zI_app (a b : List Nat) : zI (a ++ b) = zI a ++ zI b := List.map_append ..
theorem zI_take (l : List Nat) (k : Nat) : (zI l).take k = zI (l.take k) := by
  unfold zI
  rw [List.map_take]
theorem szL_pos {r : Nat} {Sz : List Nat} {m i : Nat} (h : Sz ++ szL r = szL m) (hi : Sz.length = i) (hlt : i < ones m) : r ≠ 0 := fun e => by
  subst e
  have := congrArg List.length h
  rw [List.length_append, szL_0, szL_len, hi] at this
  simp at this
  omega
theorem szL_step {r k : Nat} {Sz : List Nat} {m : Nat} (h : Sz ++ szL r = szL m) (hr : r ≠ 0) (hk : k = bigN r) : (Sz ++ [k]) ++ szL (r - k) = szL m := by
  rw [← h, szL_1 hr, ← hk, List.append_assoc]
  rfl
theorem szL_end {r : Nat} {Sz : List Nat} {m i : Nat} (h : Sz ++ szL r = szL m) (hi : Sz.length = i) (he : i = ones m) : Sz = szL m := by
  have h2 := congrArg List.length h
  rw [List.length_append, szL_len m, hi, he] at h2
  have h0 : szL r = [] := List.length_eq_zero_iff.1 (by omega)
  rw [h0, List.append_nil] at h
  exact h
theorem szL_even {M : Nat} (h : M % 2 = 0) : szL M = (szL (M / 2)).map (2 * ·) := by
  have := szL_two (M / 2) 0 (by decide)
  rw [show 2 * (M / 2) + 0 = M by omega] at this
  simpa using this
theorem szL_odd {M : Nat} (h : M % 2 = 1) : szL M = (szL (M / 2)).map (2 * ·) ++ [1] := by
  have := szL_two (M / 2) 1 (by decide)
  rw [show 2 * (M / 2) + 1 = M by omega] at this
  simpa using this
/-- The sizes as the merging loop has them. -/
def szW (w M : Nat) : List Nat := (szL M).map (w * ·) ++ [w]
theorem szW_one (m : Nat) : szL m ++ [1] = szW 1 m := by
  unfold szW
  congr 1
  simp
theorem szW_len (w M : Nat) : (szW w M).length = ones M + 1 := by
  unfold szW
  rw [List.length_append, List.length_map, szL_len]; rfl
theorem szW_last (w M : Nat) {q : Nat} (hq : ones M = q) : (szW w M).getD q 0 = w := by
  unfold szW
  rw [List.getD_eq_getElem?_getD, List.getElem?_append_right (by rw [List.length_map, szL_len]; omega), List.length_map, szL_len, hq, Nat.sub_self]
  rfl
theorem szW_pre {w M q : Nat} (hw : 0 < w) (hq : ones M = q) (h1 : 1 ≤ q) : (szW w M).getD (q - 1) 0 = w ↔ M % 2 = 1 := by
  have hl : (szL M).length = q := by rw [szL_len, hq]
  have e : (szW w M).getD (q - 1) 0 = w * (szL M).getD (q - 1) 0 := by
    unfold szW
    rw [List.getD_eq_getElem?_getD, List.getElem?_append_left (by rw [List.length_map]; omega), List.getElem?_map, List.getD_eq_getElem?_getD, List.getElem?_eq_getElem (by omega)]
    rfl
  rw [e]
  constructor
  · intro h
    have h2 : (szL M).getD (q - 1) 0 = 1 := by
      have : w * (szL M).getD (q - 1) 0 = w * 1 := by omega
      exact Nat.eq_of_mul_eq_mul_left hw this
    rcases Nat.mod_two_eq_zero_or_one M with h0 | h0
    · rw [szL_even h0, List.getD_eq_getElem?_getD, List.getElem?_map] at h2
      cases hg : (szL (M / 2))[q - 1]? with
      | none => rw [hg] at h2; simp at h2
      | some v =>
        rw [hg] at h2
        simp at h2
        omega
    · exact h0
  · intro h
    have ho := ones_odd h
    have hl2 : ((szL (M / 2)).map (2 * ·)).length = q - 1 := by rw [List.length_map, szL_len]; omega
    rw [szL_odd h, List.getD_eq_getElem?_getD, List.getElem?_append_right (by omega), hl2, Nat.sub_self]
    simp
theorem szW_take {w M q : Nat} (hq : ones M = q) (hM : M % 2 = 1) : (szW w M).take (q - 1) ++ [2 * w] = szW (2 * w) (M / 2) := by
  have ho := ones_odd hM
  unfold szW
  rw [szL_odd hM, List.map_append, List.append_assoc, List.take_append_of_le_length (by rw [List.length_map, List.length_map, szL_len]; omega)]
  rw [List.take_of_length_le (by rw [List.length_map, List.length_map, szL_len]; omega), List.map_map]
  congr 1
  refine List.map_congr_left fun x _ => ?_
  simp only [Function.comp]
  rw [← Nat.mul_assoc, Nat.mul_comm w 2]
theorem addP_end {M q : Nat} {ps : List (List UInt8)} {u : List UInt8} (h : q = 0 ∨ ¬ M % 2 = 1) (hq : ones M = q) : addP M (ps.take q) u = ps.take q ++ [u] := by
  refine addP_even ?_
  rcases h with h | h
  · intro ho
    rw [ones_odd ho] at hq
    omega
  · exact h
end Go.Proofs.Num

