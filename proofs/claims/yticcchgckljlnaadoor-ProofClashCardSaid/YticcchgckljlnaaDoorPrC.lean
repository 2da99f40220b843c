/- Texts that a path goes through, and the first unlike ones, plainly. -/
import Derived.Test.YticcchgckljlnaaDoorSteps10
set_option linter.unusedSimpArgs false
set_option linter.unusedVariables false
namespace Go.Proofs.Num
open Go Go.RowKit
/-- The text whose sum one step makes. -/
def textF (b : Bool) (x s : List UInt8) : List UInt8 := if b then [1] ++ x ++ s else [1] ++ s ++ x
theorem textF_sum (b : Bool) (x s : List UInt8) : nodeF b x s = sha (textF b x s) := by
  unfold nodeF textF nodeS
  cases b <;> rfl
theorem textF_len {b : Bool} {x s : List UInt8} (hx : x.length = 32) (hs : s.length = 32) : (textF b x s).length = 65 := by
  unfold textF
  cases b <;> simp [hx, hs]
theorem textF_inj {b : Bool} {x y s t : List UInt8} (hx : x.length = 32) (hy : y.length = 32) (hs : s.length = 32) (ht : t.length = 32) (h : textF b x s = textF b y t) : s = t := by
  unfold textF at h
  cases b
  · simp only [Bool.false_eq_true, if_false, List.append_assoc, List.singleton_append, List.cons.injEq, true_and] at h
    have := (List.append_inj h (by simp [hs, ht])).1
    simpa using this
  · simp only [if_true, List.append_assoc, List.singleton_append, List.cons.injEq, true_and] at h
    exact (List.append_inj h (by simp [hx, hy])).2
/-- The state: the texts so far, and the sum. -/
def clashF (b : Bool) (x : List UInt8) (st : List (List UInt8) × List UInt8) : List (List UInt8) × List UInt8 := (st.1 ++ [textF b x st.2], nodeF b x st.2)
/-- The texts, from the leaf up. -/
def upT : List Bool → List (List UInt8) → List UInt8 → List (List UInt8)
  | b :: bs, x :: xs, s => textF b x s :: upT bs xs (nodeF b x s)
  | _, _, _ => []
theorem fold_clash : ∀ (bs : List Bool) (ps : List (List UInt8)) (o : List (List UInt8)) (s : List UInt8), foldZ clashF bs ps (o, s) = (o ++ upT bs ps s, foldZ nodeF bs ps s)
  | [], ps, o, s => by cases ps <;> simp [foldZ, upT]
  | b :: bs, [], o, s => by simp [foldZ, upT]
  | b :: bs, x :: ps, o, s => by
    simp only [foldZ, upT]
    rw [show clashF b x (o, s) = (o ++ [textF b x s], nodeF b x s) from rfl, fold_clash bs ps]
    simp
theorem upT_snoc : ∀ (bs : List Bool) (ps : List (List UInt8)) (b : Bool) (x s : List UInt8), bs.length = ps.length → upT (bs ++ [b]) (ps ++ [x]) s = upT bs ps s ++ [textF b x (foldZ nodeF bs ps s)]
  | [], [], _, _, _, _ => rfl
  | c :: bs, y :: ps, b, x, s, h => by
    simp only [List.cons_append, upT, foldZ]
    rw [upT_snoc bs ps b x _ (by simpa using h)]
  | [], _ :: _, _, _, _, h => by simp at h
  | _ :: _, [], _, _, _, h => by simp at h
theorem upT_len : ∀ (bs : List Bool) (ps : List (List UInt8)) (s : List UInt8), bs.length = ps.length → (upT bs ps s).length = ps.length
  | [], [], _, _ => rfl
  | c :: bs, y :: ps, s, h => by
    simp only [upT, List.length_cons]
    rw [upT_len bs ps _ (by simpa using h)]
  | [], _ :: _, _, h => by simp at h
  | _ :: _, [], _, h => by simp at h
theorem fold_32 : ∀ (bs : List Bool) (ps : List (List UInt8)) (s : List UInt8), s.length = 32 → (foldZ nodeF bs ps s).length = 32
  | [], ps, s, h => by cases ps <;> exact h
  | b :: bs, [], s, h => h
  | b :: bs, x :: ps, s, h => fold_32 bs ps _ (by unfold nodeF; split <;> exact nodeS_len _ _)
theorem upT_65 : ∀ (bs : List Bool) (ps : List (List UInt8)) (s : List UInt8), (∀ x ∈ ps, x.length = 32) → s.length = 32 → ∀ t ∈ upT bs ps s, t.length = 65
  | [], ps, s, _, _, t, ht => by cases ps <;> cases ht
  | b :: bs, [], s, _, _, t, ht => by cases ht
  | b :: bs, x :: ps, s, h, hs, t, ht => by
    rcases List.mem_cons.1 ht with e | e
    · rw [e]; exact textF_len (h x (List.mem_cons_self ..)) hs
    · exact upT_65 bs ps _ (fun y hy => h y (List.mem_cons_of_mem _ hy)) (by unfold nodeF; split <;> exact nodeS_len _ _) t e
/-- The first unlike two. -/
def clashT : List (List UInt8) → List (List UInt8) → Option (List UInt8 × List UInt8)
  | a :: p, b :: q => if a ≠ b then some (a, b) else clashT p q
  | _, _ => none
theorem clashT_go {p q : List (List UInt8)} {i : Nat} (h : i < p.length) (h' : i < q.length) (he : p.getD i [] = q.getD i []) : clashT (p.drop i) (q.drop i) = clashT (p.drop (i + 1)) (q.drop (i + 1)) := by
  rw [List.drop_eq_getElem_cons h, List.drop_eq_getElem_cons h']
  have e1 : p.getD i [] = p[i] := by rw [List.getD_eq_getElem?_getD, List.getElem?_eq_getElem h]; rfl
  have e2 : q.getD i [] = q[i] := by rw [List.getD_eq_getElem?_getD, List.getElem?_eq_getElem h']; rfl
  rw [e1, e2] at he
  rw [clashT, if_neg (not_not_intro he)]
theorem clashT_yes {p q : List (List UInt8)} {i : Nat} (h : i < p.length) (h' : i < q.length) (he : p.getD i [] ≠ q.getD i []) : clashT (p.drop i) (q.drop i) = some (p.getD i [], q.getD i []) := by
  rw [List.drop_eq_getElem_cons h, List.drop_eq_getElem_cons h']
  have e1 : p.getD i [] = p[i] := by rw [List.getD_eq_getElem?_getD, List.getElem?_eq_getElem h]; rfl
  have e2 : q.getD i [] = q[i] := by rw [List.getD_eq_getElem?_getD, List.getElem?_eq_getElem h']; rfl
  rw [e1, e2] at he ⊢
  rw [clashT, if_pos he]
theorem clashT_end {p q : List (List UInt8)} {i : Nat} (h : p.length ≤ i) : clashT (p.drop i) (q.drop i) = none := by
  rw [List.drop_of_length_le h]; rfl
theorem snoc_of {α : Type} : ∀ {l : List α} {n : Nat}, l.length = n + 1 → ∃ l' x, l = l' ++ [x] ∧ l'.length = n := fun {l n} h => by
  refine ⟨l.dropLast, l.getLast (fun e => by rw [e] at h; cases h), (List.dropLast_concat_getLast _).symm, by rw [List.length_dropLast, h]; rfl⟩
/-- THE LAW: paths of unlike leaves that make one root go through unlike texts of one sum. -/
theorem clash_found : ∀ (n : Nat) (bs : List Bool) (ps qs : List (List UInt8)) (a b : List UInt8), bs.length = n → ps.length = n → qs.length = n → (∀ x ∈ ps, x.length = 32) → (∀ x ∈ qs, x.length = 32) → a.length = 32 → b.length = 32 → a ≠ b →
    foldZ nodeF bs ps a = foldZ nodeF bs qs b → ∃ x y, clashT (upT bs ps a).reverse (upT bs qs b).reverse = some (x, y) ∧ sha x = sha y
  | 0, bs, ps, qs, a, b, h1, h2, h3, _, _, _, _, hne, he => by
    rw [List.length_eq_zero_iff.1 h1] at he
    cases ps <;> cases qs <;> exact absurd he hne
  | n + 1, bs, ps, qs, a, b, h1, h2, h3, hp, hq, ha, hb, hne, he => by
    obtain ⟨bs, c, rfl, g1⟩ := snoc_of h1
    obtain ⟨ps, x, rfl, g2⟩ := snoc_of h2
    obtain ⟨qs, y, rfl, g3⟩ := snoc_of h3
    have hx := hp x (by simp)
    have hy := hq y (by simp)
    rw [foldZ_snoc _ _ _ _ _ _ (by omega), foldZ_snoc _ _ _ _ _ _ (by omega), textF_sum, textF_sum] at he
    rw [upT_snoc _ _ _ _ _ (by omega), upT_snoc _ _ _ _ _ (by omega), List.reverse_append, List.reverse_append]
    simp only [List.reverse_cons, List.reverse_nil, List.nil_append, List.singleton_append, clashT]
    by_cases h : textF c x (foldZ nodeF bs ps a) = textF c y (foldZ nodeF bs qs b)
    · rw [if_neg (not_not_intro h)]
      exact clash_found n bs ps qs a b g1 g2 g3 (fun z hz => hp z (List.mem_append_left _ hz)) (fun z hz => hq z (List.mem_append_left _ hz)) ha hb hne (textF_inj hx hy (fold_32 _ _ _ ha) (fold_32 _ _ _ hb) h)
    · rw [if_pos h]
      exact ⟨_, _, rfl, he⟩
/-- The texts from the root down. -/
def downT (leaf : List UInt8) (a n : Nat) (ps : List (List UInt8)) : List (List UInt8) := (upT (sideT a n) ps leaf).reverse
theorem downT_1 {leaf : List UInt8} {a n : Nat} {ps : List (List UInt8)} (h : n ≤ 1) : downT leaf a n ps = [] := by
  unfold downT
  rw [sideT_1 h]
  cases ps <;> rfl
theorem makes_len {leaf : List UInt8} {a n : Nat} {ps : List (List UInt8)} (h : makesT leaf a n ps ≠ []) : ps.length = (sideT a n).length := by
  unfold makesT at h
  by_cases he : ps.length = (sideT a n).length
  · exact he
  · rw [if_neg he] at h; exact absurd rfl h
theorem makes_fold {leaf : List UInt8} {a n : Nat} {ps : List (List UInt8)} (h : ps.length = (sideT a n).length) : makesT leaf a n ps = foldZ nodeF (sideT a n) ps leaf := by
  unfold makesT
  rw [if_pos h]
theorem side_left {x : List UInt8} {a n : Nat} {ps : List (List UInt8)} (h : 2 ≤ n) (hi : a < splitN n) (hl : (ps ++ [x]).length = (sideT a n).length) : ps.length = (sideT a (splitN n)).length := by
  rw [sideT_left h hi, List.length_append, List.length_append] at hl
  simpa using hl
theorem side_right {x : List UInt8} {a n : Nat} {ps : List (List UInt8)} (h : 2 ≤ n) (hi : ¬ a < splitN n) (hl : (ps ++ [x]).length = (sideT a n).length) : ps.length = (sideT (a - splitN n) (n - splitN n)).length := by
  rw [sideT_right h hi, List.length_append, List.length_append] at hl
  simpa using hl
theorem downT_left {leaf x : List UInt8} {a n : Nat} {ps : List (List UInt8)} (h : 2 ≤ n) (hi : a < splitN n) (hl : (ps ++ [x]).length = (sideT a n).length) : downT leaf a n (ps ++ [x]) = ([1] ++ makesT leaf a (splitN n) ps ++ x) :: downT leaf a (splitN n) ps := by
  have h2 := side_left h hi hl
  unfold downT
  rw [sideT_left h hi, upT_snoc _ _ _ _ _ h2.symm, List.reverse_append, makes_fold h2]
  rfl
theorem downT_right {leaf x : List UInt8} {a n : Nat} {ps : List (List UInt8)} (h : 2 ≤ n) (hi : ¬ a < splitN n) (hl : (ps ++ [x]).length = (sideT a n).length) : downT leaf a n (ps ++ [x]) = ([1] ++ x ++ makesT leaf (a - splitN n) (n - splitN n) ps) :: downT leaf (a - splitN n) (n - splitN n) ps := by
  have h2 := side_right h hi hl
  unfold downT
  rw [sideT_right h hi, upT_snoc _ _ _ _ _ h2.symm, List.reverse_append, makes_fold h2]
  rfl
theorem side_pos {a n : Nat} (h : 2 ≤ n) : 1 ≤ (sideT a n).length := by
  by_cases hi : a < splitN n
  · rw [sideT_left h hi, List.length_append]; simp
  · rw [sideT_right h hi, List.length_append]; simp
theorem downT_len {leaf : List UInt8} {a n : Nat} {ps : List (List UInt8)} (h : ps.length = (sideT a n).length) : (downT leaf a n ps).length = ps.length := by
  unfold downT
  rw [List.length_reverse, upT_len _ _ _ h.symm]
theorem downT_65 {leaf : List UInt8} {a n : Nat} {ps : List (List UInt8)} (hp : ∀ x ∈ ps, x.length = 32) (hl : leaf.length = 32) : ∀ t ∈ downT leaf a n ps, t.length = 65 := fun t ht => upT_65 _ _ _ hp hl t (List.mem_reverse.1 ht)
/-- What the walk of Clash gives. -/
theorem walk_clash {leaf : List UInt8} {a n : Nat} {ps : List (List UInt8)} (h1 : 1 ≤ n) (ha : a < n) : walkF clashF ps a (n - 1) ([], leaf) = (decide (ps.length = (sideT a n).length), upT (sideT a n) ps leaf, foldZ nodeF (sideT a n) ps leaf) := by
  rw [walkF_side, side_same n a h1 ha, fold_clash, List.nil_append]
end Go.Proofs.Num

