/- Paths and steps, plainly. -/
import Derived.Test.YticcchgckljlnaaDoorTrP
set_option linter.unusedSimpArgs false
set_option linter.unusedVariables false
namespace Go.Proofs.Num
open Go Go.RowKit
/-- The path of a place in a row. -/
def pathS (l : List (List UInt8)) (i : Nat) : List (List UInt8) :=
  if _h : l.length ≤ 1 then [] else if i < splitN l.length then pathS (l.take (splitN l.length)) i ++ [rootS (l.drop (splitN l.length))] else pathS (l.drop (splitN l.length)) (i - splitN l.length) ++ [rootS (l.take (splitN l.length))]
termination_by l.length
decreasing_by
  · have := splitN_lt (n := l.length) (by omega)
    rw [List.length_take]; omega
  · have := splitN_pos l.length
    rw [List.length_drop]; omega
theorem pathS_one {l : List (List UInt8)} {i : Nat} (h : l.length ≤ 1) : pathS l i = [] := by rw [pathS, dif_pos h]
theorem pathS_left {l : List (List UInt8)} {i : Nat} (h : 2 ≤ l.length) (hi : i < splitN l.length) : pathS l i = pathS (l.take (splitN l.length)) i ++ [rootS (l.drop (splitN l.length))] := by rw [pathS, dif_neg (by omega), if_pos hi]
theorem pathS_right {l : List (List UInt8)} {i : Nat} (h : 2 ≤ l.length) (hi : ¬ i < splitN l.length) : pathS l i = pathS (l.drop (splitN l.length)) (i - splitN l.length) ++ [rootS (l.take (splitN l.length))] := by rw [pathS, dif_neg (by omega), if_neg hi]
theorem path_go_left {l cur Ps : List (List UInt8)} {i j : Nat} (h : 2 ≤ cur.length) (hi : j < splitN cur.length) (hP : pathS l i = pathS cur j ++ Ps.reverse) : pathS l i = pathS (cur.take (splitN cur.length)) j ++ (Ps ++ [rootS (cur.drop (splitN cur.length))]).reverse := by
  rw [hP, pathS_left h hi, List.reverse_append, List.append_assoc]; rfl
theorem path_go_right {l cur Ps : List (List UInt8)} {i j : Nat} (h : 2 ≤ cur.length) (hi : ¬ j < splitN cur.length) (hP : pathS l i = pathS cur j ++ Ps.reverse) : pathS l i = pathS (cur.drop (splitN cur.length)) (j - splitN cur.length) ++ (Ps ++ [rootS (cur.take (splitN cur.length))]).reverse := by
  rw [hP, pathS_right h hi, List.reverse_append, List.append_assoc]; rfl
/-- How deep a place is. -/
def depthN (i n : Nat) : Nat := if _h : n ≤ 1 then 0 else if i < splitN n then depthN i (splitN n) + 1 else depthN (i - splitN n) (n - splitN n) + 1
termination_by n
decreasing_by
  · exact splitN_lt (by omega)
  · have := splitN_pos n
    omega
theorem depthN_one {i n : Nat} (h : n ≤ 1) : depthN i n = 0 := by rw [depthN, dif_pos h]
theorem depthN_left {i n : Nat} (h : 1 < n) (hi : i < splitN n) : depthN i n = depthN i (splitN n) + 1 := by rw [depthN, dif_neg (by omega), if_pos hi]
theorem depthN_right {i n : Nat} (h : 1 < n) (hi : ¬ i < splitN n) : depthN i n = depthN (i - splitN n) (n - splitN n) + 1 := by rw [depthN, dif_neg (by omega), if_neg hi]
theorem pathS_len : ∀ (l : List (List UInt8)) (i : Nat), (pathS l i).length = depthN i l.length := by
  intro l
  generalize hn : l.length = n
  induction n using Nat.strongRecOn generalizing l with
  | ind n ih =>
    intro i
    by_cases h : n ≤ 1
    · rw [pathS_one (by omega), depthN_one h]; rfl
    · have h1 := splitN_lt (n := n) (by omega)
      have h2 := splitN_pos n
      by_cases hi : i < splitN n
      · rw [pathS_left (by omega) (by rw [hn]; exact hi), depthN_left (by omega) hi, List.length_append, hn, ih (splitN n) h1 _ (by rw [List.length_take]; omega)]; rfl
      · rw [pathS_right (by omega) (by rw [hn]; exact hi), depthN_right (by omega) hi, List.length_append, hn, ih (n - splitN n) (by omega) _ (by rw [List.length_drop]; omega)]; rfl
end Go.Proofs.Num

