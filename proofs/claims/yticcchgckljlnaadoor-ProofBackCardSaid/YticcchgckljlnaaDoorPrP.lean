/- Paths and steps, plainly. -/
import Derived.Test.YticcchgckljlnaaDoorTrP
set_option linter.unusedSimpArgs false
set_option linter.unusedVariables false
namespace Go.Proofs.Num
open Go Go.RowKit
/-- The path of a place in a row. -/
def pathS (l : List (List UInt8)) (i : Nat) : List (List UInt8) :=
  if _h : l.length ≤ 1 then [] else if i < splitN l.length then pathS (l.take (splitN l.length)) i ++ [rootS (l.drop (splitN l.length))] else pathS (l.drop (splitN l.length)) (i - splitN l.length) ++ [rootS (l.take (splitN l.length))]
termination_by l.length
decreasing_by
  · have := splitN_lt (n := l.length) (by omega)
    rw [List.length_take]; omega
  · have := splitN_pos l.length
    rw [List.length_drop]; omega
theorem pathS_one {l : List (List UInt8)} {i : Nat} (h : l.length ≤ 1) : pathS l i = [] := by rw [pathS, dif_pos h]
theorem pathS_left {l : List (List UInt8)} {i : Nat} (h : 2 ≤ l.length) (hi : i < splitN l.length) : pathS l i = pathS (l.take (splitN l.length)) i ++ [rootS (l.drop (splitN l.length))] := by rw [pathS, dif_neg (by omega), if_pos hi]
theorem pathS_right {l : List (List UInt8)} {i : Nat} (h : 2 ≤ l.length) (hi : ¬ i < splitN l.length) : pathS l i = pathS (l.drop (splitN l.length)) (i - splitN l.length) ++ [rootS (l.take (splitN l.length))] := by rw [pathS, dif_neg (by omega), if_neg hi]
/-- The step from the first m. -/
def stepS (l : List (List UInt8)) (m : Nat) (wh : Bool) : List (List UInt8) :=
  if _h : l.length ≤ m ∨ l.length ≤ 1 then (if wh then [] else [rootS l]) else if m ≤ splitN l.length then stepS (l.take (splitN l.length)) m wh ++ [rootS (l.drop (splitN l.length))] else stepS (l.drop (splitN l.length)) (m - splitN l.length) false ++ [rootS (l.take (splitN l.length))]
termination_by l.length
decreasing_by
  · have := splitN_lt (n := l.length) (by omega)
    rw [List.length_take]; omega
  · have := splitN_pos l.length
    rw [List.length_drop]; omega
theorem stepS_all {l : List (List UInt8)} {m : Nat} {wh : Bool} (h : l.length ≤ m) : stepS l m wh = if wh then [] else [rootS l] := by rw [stepS, dif_pos (.inl h)]
theorem stepS_left {l : List (List UInt8)} {m : Nat} {wh : Bool} (h : 2 ≤ l.length) (hm : m < l.length) (hi : m ≤ splitN l.length) : stepS l m wh = stepS (l.take (splitN l.length)) m wh ++ [rootS (l.drop (splitN l.length))] := by rw [stepS, dif_neg (by omega), if_pos hi]
theorem stepS_right {l : List (List UInt8)} {m : Nat} {wh : Bool} (h : 2 ≤ l.length) (hm : m < l.length) (hi : ¬ m ≤ splitN l.length) : stepS l m wh = stepS (l.drop (splitN l.length)) (m - splitN l.length) false ++ [rootS (l.take (splitN l.length))] := by rw [stepS, dif_neg (by omega), if_neg hi]
theorem path_go_left {l cur Ps : List (List UInt8)} {i j : Nat} (h : 2 ≤ cur.length) (hi : j < splitN cur.length) (hP : pathS l i = pathS cur j ++ Ps.reverse) : pathS l i = pathS (cur.take (splitN cur.length)) j ++ (Ps ++ [rootS (cur.drop (splitN cur.length))]).reverse := by
  rw [hP, pathS_left h hi, List.reverse_append, List.append_assoc]; rfl
theorem path_go_right {l cur Ps : List (List UInt8)} {i j : Nat} (h : 2 ≤ cur.length) (hi : ¬ j < splitN cur.length) (hP : pathS l i = pathS cur j ++ Ps.reverse) : pathS l i = pathS (cur.drop (splitN cur.length)) (j - splitN cur.length) ++ (Ps ++ [rootS (cur.take (splitN cur.length))]).reverse := by
  rw [hP, pathS_right h hi, List.reverse_append, List.append_assoc]; rfl
theorem step_go_left {l cur Ps : List (List UInt8)} {m j : Nat} {wh : Bool} (h : 2 ≤ cur.length) (hm : j < cur.length) (hi : j ≤ splitN cur.length) (hP : stepS l m true = stepS cur j wh ++ Ps.reverse) : stepS l m true = stepS (cur.take (splitN cur.length)) j wh ++ (Ps ++ [rootS (cur.drop (splitN cur.length))]).reverse := by
  rw [hP, stepS_left h hm hi, List.reverse_append, List.append_assoc]; rfl
theorem step_go_right {l cur Ps : List (List UInt8)} {m j : Nat} {wh : Bool} (h : 2 ≤ cur.length) (hm : j < cur.length) (hi : ¬ j ≤ splitN cur.length) (hP : stepS l m true = stepS cur j wh ++ Ps.reverse) : stepS l m true = stepS (cur.drop (splitN cur.length)) (j - splitN cur.length) false ++ (Ps ++ [rootS (cur.take (splitN cur.length))]).reverse := by
  rw [hP, stepS_right h hm hi, List.reverse_append, List.append_assoc]; rfl
theorem stepS_end {l cur Ps : List (List UInt8)} {m j : Nat} {wh : Bool} (hm : cur.length ≤ j) (hP : stepS l m true = stepS cur j wh ++ Ps.reverse) : (wh = true → stepS l m true = Ps.reverse) ∧ (wh = false → stepS l m true = (Ps ++ [rootS cur]).reverse) := by
  rw [stepS_all hm] at hP
  refine ⟨fun e => ?_, fun e => ?_⟩
  · subst e
    exact hP
  · subst e
    rw [hP, List.reverse_append]; rfl
/-- How deep a place is. -/
def depthN (i n : Nat) : Nat := if _h : n ≤ 1 then 0 else if i < splitN n then depthN i (splitN n) + 1 else depthN (i - splitN n) (n - splitN n) + 1
termination_by n
decreasing_by
  · exact splitN_lt (by omega)
  · have := splitN_pos n
    omega
theorem depthN_one {i n : Nat} (h : n ≤ 1) : depthN i n = 0 := by rw [depthN, dif_pos h]
theorem depthN_left {i n : Nat} (h : 1 < n) (hi : i < splitN n) : depthN i n = depthN i (splitN n) + 1 := by rw [depthN, dif_neg (by omega), if_pos hi]
theorem depthN_right {i n : Nat} (h : 1 < n) (hi : ¬ i < splitN n) : depthN i n = depthN (i - splitN n) (n - splitN n) + 1 := by rw [depthN, dif_neg (by omega), if_neg hi]
theorem pathS_len : ∀ (l : List (List UInt8)) (i : Nat), (pathS l i).length = depthN i l.length := by
  intro l
  generalize hn : l.length = n
  induction n using Nat.strongRecOn generalizing l with
  | ind n ih =>
    intro i
    by_cases h : n ≤ 1
    · rw [pathS_one (by omega), depthN_one h]; rfl
    · have h1 := splitN_lt (n := n) (by omega)
      have h2 := splitN_pos n
      by_cases hi : i < splitN n
      · rw [pathS_left (by omega) (by rw [hn]; exact hi), depthN_left (by omega) hi, List.length_append, hn, ih (splitN n) h1 _ (by rw [List.length_take]; omega)]; rfl
      · rw [pathS_right (by omega) (by rw [hn]; exact hi), depthN_right (by omega) hi, List.length_append, hn, ih (n - splitN n) (by omega) _ (by rw [List.length_drop]; omega)]; rfl
theorem depthN_lt {i n : Nat} : 1 ≤ n → depthN i n ≤ n - 1 := by
  induction n using Nat.strongRecOn generalizing i with
  | ind n ih =>
    intro h
    by_cases h1 : n ≤ 1
    · rw [depthN_one h1]; omega
    · have h3 := splitN_lt (n := n) (by omega)
      have h4 := splitN_pos n
      by_cases hi : i < splitN n
      · rw [depthN_left (by omega) hi]
        have := ih _ h3 (i := i) (by omega)
        omega
      · rw [depthN_right (by omega) hi]
        have := ih (n - splitN n) (by omega) (i := i - splitN n) (by omega)
        omega
end Go.Proofs.Num

