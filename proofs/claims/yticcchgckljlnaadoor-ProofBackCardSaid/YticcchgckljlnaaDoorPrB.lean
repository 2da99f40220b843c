/- Paths and steps of leaves make the roots; shorter and longer ones make nothing. -/
import Derived.Test.YticcchgckljlnaaDoorSteps11
set_option linter.unusedSimpArgs false
set_option linter.unusedVariables false
namespace Go.Proofs.Num
open Go Go.RowKit
theorem sideT_len : ∀ (n a : Nat), (sideT a n).length = depthN a n := by
  intro n
  induction n using Nat.strongRecOn with
  | ind n ih =>
    intro a
    by_cases h : n ≤ 1
    · rw [sideT_1 h, depthN_one h]; rfl
    · have h1 := splitN_lt (n := n) (by omega)
      have h2 := splitN_pos n
      by_cases hi : a < splitN n
      · rw [sideT_left (by omega) hi, depthN_left (by omega) hi, List.length_append, ih _ h1]; rfl
      · rw [sideT_right (by omega) hi, depthN_right (by omega) hi, List.length_append, ih _ (by omega)]; rfl
theorem rootS_ne {l : List (List UInt8)} (h : ∀ s ∈ l, s.length = 32) : rootS l ≠ [] := fun e => by
  have := rootS_len h
  rw [e] at this
  cases this
/-- THE LAW: the path of a leaf makes the root. -/
theorem path_back : ∀ (n : Nat) (l : List (List UInt8)) (i : Nat), l.length = n → i < n → (∀ s ∈ l, s.length = 32) → makesT (l.getD i []) i n (pathS l i) = rootS l := by
  intro n
  induction n using Nat.strongRecOn with
  | ind n ih =>
    intro l i hl hi h32
    have hne : l.getD i [] ≠ [] := fun e => by
      have := h32 (l.getD i []) (by rw [List.getD_eq_getElem?_getD, List.getElem?_eq_getElem (by omega)]; exact List.getElem_mem _)
      rw [e] at this
      cases this
    by_cases h : n ≤ 1
    · obtain rfl : i = 0 := by omega
      rw [pathS_one (by omega), makesT_1 h, rootS_1 (by omega)]
      rfl
    · have h1 := splitN_lt (n := n) (by omega)
      have h2 := splitN_pos n
      rw [rootS_2 (by omega), hl]
      by_cases hik : i < splitN n
      · have e := ih (splitN n) h1 (l.take (splitN n)) i (by rw [List.length_take]; omega) hik (fun s hs => h32 s (List.mem_of_mem_take hs))
        have eg : (l.take (splitN n)).getD i [] = l.getD i [] := by rw [List.getD_eq_getElem?_getD, List.getElem?_take_of_lt hik, List.getD_eq_getElem?_getD]
        rw [eg] at e
        rw [pathS_left (by omega) (by rw [hl]; exact hik), hl, makesT_left (by omega) hik hne, e, if_neg (rootS_ne fun s hs => h32 s (List.mem_of_mem_take hs))]
      · have e := ih (n - splitN n) (by omega) (l.drop (splitN n)) (i - splitN n) (by rw [List.length_drop]; omega) (by omega) (fun s hs => h32 s (List.mem_of_mem_drop hs))
        have eg : (l.drop (splitN n)).getD (i - splitN n) [] = l.getD i [] := by rw [List.getD_eq_getElem?_getD, List.getElem?_drop, List.getD_eq_getElem?_getD, show splitN n + (i - splitN n) = i by omega]
        rw [eg] at e
        rw [pathS_right (by omega) (by rw [hl]; exact hik), hl, makesT_right (by omega) hik hne, e, if_neg (rootS_ne fun s hs => h32 s (List.mem_of_mem_drop hs))]
theorem makesT_no {leaf : List UInt8} {a n : Nat} {ps : List (List UInt8)} (h : ps.length ≠ depthN a n) : makesT leaf a n ps = [] := by
  unfold makesT
  rw [if_neg (by rw [sideT_len]; exact h)]
theorem pathS_32 : ∀ (n : Nat) (l : List (List UInt8)) (i : Nat), l.length = n → (∀ s ∈ l, s.length = 32) → ∀ s ∈ pathS l i, s.length = 32 := by
  intro n
  induction n using Nat.strongRecOn with
  | ind n ih =>
    intro l i hl h32
    by_cases h : n ≤ 1
    · rw [pathS_one (by omega)]; intro s hs; cases hs
    · have h1 := splitN_lt (n := n) (by omega)
      have h2 := splitN_pos n
      by_cases hik : i < splitN n
      · rw [pathS_left (by omega) (by rw [hl]; exact hik), hl]
        intro s hs
        rcases List.mem_append.1 hs with e | e
        · exact ih (splitN n) h1 (l.take (splitN n)) i (by rw [List.length_take]; omega) (fun s hs => h32 s (List.mem_of_mem_take hs)) s e
        · rw [List.mem_singleton.1 e]; exact rootS_len fun s hs => h32 s (List.mem_of_mem_drop hs)
      · rw [pathS_right (by omega) (by rw [hl]; exact hik), hl]
        intro s hs
        rcases List.mem_append.1 hs with e | e
        · exact ih (n - splitN n) (by omega) (l.drop (splitN n)) _ (by rw [List.length_drop]; omega) (fun s hs => h32 s (List.mem_of_mem_drop hs)) s e
        · rw [List.mem_singleton.1 e]; exact rootS_len fun s hs => h32 s (List.mem_of_mem_take hs)
theorem stepS_32 : ∀ (n : Nat) (l : List (List UInt8)) (m : Nat) (wh : Bool), l.length = n → (∀ s ∈ l, s.length = 32) → ∀ s ∈ stepS l m wh, s.length = 32 := by
  intro n
  induction n using Nat.strongRecOn with
  | ind n ih =>
    intro l m wh hl h32
    by_cases h : l.length ≤ m ∨ l.length ≤ 1
    · rw [stepS, dif_pos h]
      cases wh
      · intro s hs; rw [List.mem_singleton.1 hs]; exact rootS_len h32
      · intro s hs; cases hs
    · have h1 := splitN_lt (n := n) (by omega)
      have h2 := splitN_pos n
      by_cases hik : m ≤ splitN n
      · rw [stepS_left (by omega) (by omega) (by rw [hl]; exact hik), hl]
        intro s hs
        rcases List.mem_append.1 hs with e | e
        · exact ih (splitN n) h1 (l.take (splitN n)) m wh (by rw [List.length_take]; omega) (fun s hs => h32 s (List.mem_of_mem_take hs)) s e
        · rw [List.mem_singleton.1 e]; exact rootS_len fun s hs => h32 s (List.mem_of_mem_drop hs)
      · rw [stepS_right (by omega) (by omega) (by rw [hl]; exact hik), hl]
        intro s hs
        rcases List.mem_append.1 hs with e | e
        · exact ih (n - splitN n) (by omega) (l.drop (splitN n)) _ _ (by rw [List.length_drop]; omega) (fun s hs => h32 s (List.mem_of_mem_drop hs)) s e
        · rw [List.mem_singleton.1 e]; exact rootS_len fun s hs => h32 s (List.mem_of_mem_take hs)
theorem ne_of32 {l : List (List UInt8)} (h : ∀ s ∈ l, s.length = 32) : ∀ s ∈ l, s ≠ [] := fun s hs e => by
  have := h s hs
  rw [e] at this
  cases this
theorem root_more_split {l : List (List UInt8)} {n m : Nat} (hl : l.length = n) (h2 : 2 ≤ n) (hm : m ≤ n) (hk : ¬ m ≤ splitN n) : rootS (l.take m) = nodeS (rootS (l.take (splitN n))) (rootS ((l.drop (splitN n)).take (m - splitN n))) := by
  obtain ⟨j, hs, hj1, hj2⟩ := split_pow h2
  have hp := Nat.two_pow_pos j
  rw [hs] at hk ⊢
  have hlm : (l.take m).length = m := by rw [List.length_take]; omega
  have esm : splitN m = 2 ^ j := splitN_of (by omega) (by omega)
  rw [rootS_2 (by omega), hlm, esm]
  rw [List.take_take, Nat.min_eq_left (by omega), List.drop_take]
/-- THE LAW: the step from the first leaves makes both roots. -/
theorem step_back : ∀ (n : Nat) (l : List (List UInt8)) (m : Nat) (wh : Bool) (old : List UInt8), l.length = n → 1 ≤ m → m ≤ n → (∀ s ∈ l, s.length = 32) → old ≠ [] → (wh = true → old = rootS (l.take m)) →
    followT oldF m n old (stepS l m wh) wh = rootS (l.take m) ∧ followT nodeF m n old (stepS l m wh) wh = rootS l := by
  intro n
  induction n using Nat.strongRecOn with
  | ind n ih =>
    intro l m wh old hl h1 hm h32 ho hw
    by_cases h : n ≤ m
    · have et : l.take m = l := List.take_of_length_le (by omega)
      rw [stepS_all (by omega), followT_all h, followT_all h, et]
      rw [et] at hw
      cases wh
      · simp
      · simp [hw rfl]
    · have h2 : 2 ≤ n := by omega
      have hs1 := splitN_lt h2
      have hs2 := splitN_pos n
      by_cases hik : m ≤ splitN n
      · have hlt : (l.take (splitN n)).length = splitN n := by rw [List.length_take]; omega
        have h32t : ∀ s ∈ l.take (splitN n), s.length = 32 := fun s hs => h32 s (List.mem_of_mem_take hs)
        have ett : (l.take (splitN n)).take m = l.take m := by rw [List.take_take, Nat.min_eq_left hik]
        have IH := ih (splitN n) hs1 (l.take (splitN n)) m wh old hlt h1 hik h32t ho (by rw [ett]; exact hw)
        rw [ett] at IH
        have hst := ne_of32 (stepS_32 _ (l.take (splitN n)) m wh rfl h32t)
        have hrm : rootS (l.take m) ≠ [] := rootS_ne fun s hs => h32 s (List.mem_of_mem_take hs)
        rw [stepS_left (by omega) (by omega) (by rw [hl]; exact hik), hl]
        rw [followT_left oldF_ne h1 (by omega) hik ho hst, followT_left nodeF_ne h1 (by omega) hik ho hst, IH.1, IH.2, if_neg hrm, if_neg (rootS_ne h32t)]
        refine ⟨rfl, ?_⟩
        rw [rootS_2 (l := l) (by omega), hl]; rfl
      · have hlt : (l.drop (splitN n)).length = n - splitN n := by rw [List.length_drop]; omega
        have h32t : ∀ s ∈ l.drop (splitN n), s.length = 32 := fun s hs => h32 s (List.mem_of_mem_drop hs)
        have IH := ih (n - splitN n) (by omega) (l.drop (splitN n)) (m - splitN n) false old hlt (by omega) (by omega) h32t ho (fun e => by cases e)
        have hst := ne_of32 (stepS_32 _ (l.drop (splitN n)) (m - splitN n) false rfl h32t)
        have hrm : rootS ((l.drop (splitN n)).take (m - splitN n)) ≠ [] := rootS_ne fun s hs => h32t s (List.mem_of_mem_take hs)
        rw [stepS_right (by omega) (by omega) (by rw [hl]; exact hik), hl]
        rw [followT_right oldF_ne h1 (by omega) hik ho hst, followT_right nodeF_ne h1 (by omega) hik ho hst, IH.1, IH.2, if_neg hrm, if_neg (rootS_ne h32t), root_more_split hl h2 hm hik]
        refine ⟨rfl, ?_⟩
        rw [rootS_2 (l := l) (by omega), hl]; rfl
theorem stepS_count : ∀ (n : Nat) (l : List (List UInt8)) (m : Nat) (wh : Bool), l.length = n → 1 ≤ m → m ≤ n → (stepS l m wh).length = (sideF m n).length + (if (wh && (sideF m n).all (fun b => !b)) = true then 0 else 1) := by
  intro n
  induction n using Nat.strongRecOn with
  | ind n ih =>
    intro l m wh hl h1 hm
    by_cases h : n ≤ m
    · rw [stepS_all (by omega), sideF_all h]
      cases wh <;> rfl
    · have h2 : 2 ≤ n := by omega
      have hs1 := splitN_lt h2
      have hs2 := splitN_pos n
      by_cases hik : m ≤ splitN n
      · have IH := ih (splitN n) hs1 (l.take (splitN n)) m wh (by rw [List.length_take]; omega) h1 hik
        rw [stepS_left (by omega) (by omega) (by rw [hl]; exact hik), hl, List.length_append, IH, sideF_left h1 (by omega) hik, List.length_append]
        simp only [List.all_append, List.all_cons, List.all_nil, Bool.not_false, Bool.and_true, List.length_cons, List.length_nil]
        omega
      · have IH := ih (n - splitN n) (by omega) (l.drop (splitN n)) (m - splitN n) false (by rw [List.length_drop]; omega) (by omega) (by omega)
        rw [stepS_right (by omega) (by omega) (by rw [hl]; exact hik), hl, List.length_append, IH, sideF_right h1 (by omega) hik, List.length_append]
        simp only [List.all_append, List.all_cons, List.all_nil, Bool.not_true, Bool.and_false, Bool.false_and, List.length_cons, List.length_nil, Bool.false_eq_true, if_false]
theorem followT_no {f : Bool → List UInt8 → List UInt8 → List UInt8} {l : List (List UInt8)} {m n : Nat} {old : List UInt8} {st : List (List UInt8)} (hl : l.length = n) (h1 : 1 ≤ m) (hm : m ≤ n) (h : st.length ≠ (stepS l m true).length) : followT f m n old st true = [] := by
  rw [stepS_count n l m true hl h1 hm] at h
  unfold followT foldS
  cases ha : (true && (sideF m n).all fun b => !b) with
  | true =>
    rw [ha] at h
    simp only [if_true, Nat.add_zero] at h ⊢
    rw [if_neg h]
  | false =>
    rw [ha] at h
    simp only [Bool.false_eq_true, if_false] at h ⊢
    cases st with
    | nil => rfl
    | cons s0 rest =>
      simp only [List.length_cons] at h ⊢
      rw [if_neg (by omega)]
end Go.Proofs.Num

