/- Paths and steps, plainly. -/
import Derived.Test.YticcchgckljlnaaDoorTrP
set_option linter.unusedSimpArgs false
set_option linter.unusedVariables false
namespace Go.Proofs.Num
open Go Go.RowKit
/-- The path of a place in a row. -/
def pathS (l : List (List UInt8)) (i : Nat) : List (List UInt8) :=
  if _h : l.length ≤ 1 then [] else if i < splitN l.length then pathS (l.take (splitN l.length)) i ++ [rootS (l.drop (splitN l.length))] else pathS (l.drop (splitN l.length)) (i - splitN l.length) ++ [rootS (l.take (splitN l.length))]
termination_by l.length
decreasing_by
  · have := splitN_lt (n := l.length) (by omega)
    rw [List.length_take]; omega
  · have := splitN_pos l.length
    rw [List.length_drop]; omega
theorem pathS_one {l : List (List UInt8)} {i : Nat} (h : l.length ≤ 1) : pathS l i = [] := by rw [pathS, dif_pos h]
theorem pathS_left {l : List (List UInt8)} {i : Nat} (h : 2 ≤ l.length) (hi : i < splitN l.length) : pathS l i = pathS (l.take (splitN l.length)) i ++ [rootS (l.drop (splitN l.length))] := by rw [pathS, dif_neg (by omega), if_pos hi]
theorem pathS_right {l : List (List UInt8)} {i : Nat} (h : 2 ≤ l.length) (hi : ¬ i < splitN l.length) : pathS l i = pathS (l.drop (splitN l.length)) (i - splitN l.length) ++ [rootS (l.take (splitN l.length))] := by rw [pathS, dif_neg (by omega), if_neg hi]
theorem path_go_left {l cur Ps : List (List UInt8)} {i j : Nat} (h : 2 ≤ cur.length) (hi : j < splitN cur.length) (hP : pathS l i = pathS cur j ++ Ps.reverse) : pathS l i = pathS (cur.take (splitN cur.length)) j ++ (Ps ++ [rootS (cur.drop (splitN cur.length))]).reverse := by
  rw [hP, pathS_left h hi, List.reverse_append, List.append_assoc]; rfl
theorem path_go_right {l cur Ps : List (List UInt8)} {i j : Nat} (h : 2 ≤ cur.length) (hi : ¬ j < splitN cur.length) (hP : pathS l i = pathS cur j ++ Ps.reverse) : pathS l i = pathS (cur.drop (splitN cur.length)) (j - splitN cur.length) ++ (Ps ++ [rootS (cur.take (splitN cur.length))]).reverse := by
  rw [hP, pathS_right h hi, List.reverse_append, List.append_assoc]; rfl
end Go.Proofs.Num

