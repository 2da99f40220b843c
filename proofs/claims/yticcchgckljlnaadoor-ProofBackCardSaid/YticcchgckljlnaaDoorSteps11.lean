/- Steps gone up, and the same from the root down, plainly. -/
import Derived.Test.YticcchgckljlnaaDoorSteps10
set_option linter.unusedSimpArgs false
set_option linter.unusedVariables false
namespace Go.Proofs.Num
open Go Go.RowKit
/-- Behind the bits that are 1. -/
def stripA (a l : Nat) : Nat × Nat := if _h : a % 2 = 1 then stripA (a / 2) (l / 2) else (a, l)
termination_by a
decreasing_by omega
theorem stripA_odd {a l : Nat} (h : a % 2 = 1) : stripA a l = stripA (a / 2) (l / 2) := by rw [stripA, dif_pos h]
theorem stripA_even {a l : Nat} (h : ¬ a % 2 = 1) : stripA a l = (a, l) := by rw [stripA, dif_neg h]
/-- The sides above the greatest tree that a leaf ends. -/
def sideS (a l : Nat) : List Bool := sideC (stripA a l).1 (stripA a l).2
theorem sideS_odd {a l : Nat} (h : a % 2 = 1) : sideS a l = sideS (a / 2) (l / 2) := by unfold sideS; rw [stripA_odd h]
theorem sideS_even {a l : Nat} (h : ¬ a % 2 = 1) : sideS a l = sideC a l := by unfold sideS; rw [stripA_even h]
theorem sideS_end : ∀ (j l : Nat), 2 ^ j ≤ l → l < 2 * 2 ^ j → sideS (2 ^ j - 1) l = [false]
  | 0, l, h1, h2 => by
    obtain rfl : l = 1 := by omega
    rw [sideS_even (by decide), sideC_ne (by decide) (by decide) (by decide), sideC_0]
  | j + 1, l, h1, h2 => by
    have hp : 2 ^ (j + 1) = 2 * 2 ^ j := by rw [Nat.pow_succ]; omega
    have := Nat.two_pow_pos j
    rw [sideS_odd (by omega), show (2 ^ (j + 1) - 1) / 2 = 2 ^ j - 1 by omega]
    exact sideS_end j (l / 2) (by omega) (by omega)
theorem sideS_left : ∀ (j a l : Nat), a + 1 < 2 ^ j → 2 ^ j ≤ l → l < 2 * 2 ^ j → sideS a l = sideS a (2 ^ j - 1) ++ [false]
  | 0, a, l, ha, _, _ => by omega
  | j + 1, a, l, ha, h1, h2 => by
    have hp : 2 ^ (j + 1) = 2 * 2 ^ j := by rw [Nat.pow_succ]; omega
    by_cases ho : a % 2 = 1
    · rw [sideS_odd ho, sideS_odd (l := 2 ^ (j + 1) - 1) ho, show (2 ^ (j + 1) - 1) / 2 = 2 ^ j - 1 by omega]
      exact sideS_left j (a / 2) (l / 2) (by omega) (by omega) (by omega)
    · rw [sideS_even ho, sideS_even ho]
      exact sideC_left (j + 1) a l (by omega) h1 h2
theorem sideS_right : ∀ (j a l : Nat), a < l → l < 2 ^ j → sideS (2 ^ j + a) (2 ^ j + l) = sideS a l ++ [true]
  | 0, a, l, h1, h2 => by omega
  | j + 1, a, l, h1, h2 => by
    have hp : 2 ^ (j + 1) = 2 * 2 ^ j := by rw [Nat.pow_succ]; omega
    by_cases ho : a % 2 = 1
    · rw [sideS_odd (by omega), sideS_odd ho, show (2 ^ (j + 1) + a) / 2 = 2 ^ j + a / 2 by omega, show (2 ^ (j + 1) + l) / 2 = 2 ^ j + l / 2 by omega]
      exact sideS_right j (a / 2) (l / 2) (by omega) (by omega)
    · rw [sideS_even (by omega), sideS_even ho]
      exact sideC_right (j + 1) a l (by omega) h2
/-- The sides above the old tree's last whole part, from the root down. -/
def sideF (m n : Nat) : List Bool := if _h : n ≤ m ∨ n ≤ 1 then [] else if m ≤ splitN n then sideF m (splitN n) ++ [false] else sideF (m - splitN n) (n - splitN n) ++ [true]
termination_by n
decreasing_by
  · exact splitN_lt (by omega)
  · have := splitN_pos n
    omega
theorem sideF_all {m n : Nat} (h : n ≤ m) : sideF m n = [] := by rw [sideF, dif_pos (.inl h)]
theorem sideF_left {m n : Nat} (h1 : 1 ≤ m) (h : m < n) (hi : m ≤ splitN n) : sideF m n = sideF m (splitN n) ++ [false] := by rw [sideF, dif_neg (by omega), if_pos hi]
theorem sideF_right {m n : Nat} (h1 : 1 ≤ m) (h : m < n) (hi : ¬ m ≤ splitN n) : sideF m n = sideF (m - splitN n) (n - splitN n) ++ [true] := by rw [sideF, dif_neg (by omega), if_neg hi]
/-- THE LAW: from the last old leaf up, and from the root down, the sides are the same. -/
theorem sideF_same : ∀ (n m : Nat), 1 ≤ m → m < n → sideS (m - 1) (n - 1) = sideF m n := by
  intro n
  induction n using Nat.strongRecOn with
  | ind n ih =>
    intro m h1 hm
    obtain ⟨j, hs, hj1, hj2⟩ := split_pow (n := n) (by omega)
    have hp := Nat.two_pow_pos j
    by_cases hi : m ≤ splitN n
    · rw [sideF_left h1 hm hi, hs]
      rw [hs] at hi
      by_cases he : m = 2 ^ j
      · subst he
        rw [sideF_all (Nat.le_refl _), sideS_end j (n - 1) (by omega) (by omega)]; rfl
      · rw [← ih (2 ^ j) hj1 m h1 (by omega)]
        exact sideS_left j (m - 1) (n - 1) (by omega) (by omega) (by omega)
    · rw [sideF_right h1 hm hi, hs]
      rw [hs] at hi
      rw [← ih (n - 2 ^ j) (by omega) (m - 2 ^ j) (by omega) (by omega)]
      have := sideS_right j (m - 2 ^ j - 1) (n - 2 ^ j - 1) (by omega) (by omega)
      rwa [show 2 ^ j + (m - 2 ^ j - 1) = m - 1 by omega, show 2 ^ j + (n - 2 ^ j - 1) = n - 1 by omega] at this
/-- The old root's part of a sum. -/
def oldF (b : Bool) (x s : List UInt8) : List UInt8 := if b then nodeS x s else s
/-- What a step makes from what it starts with: of f's folding. -/
def foldS (f : Bool → List UInt8 → List UInt8 → List UInt8) (S : List Bool) (old : List UInt8) (st : List (List UInt8)) (wh : Bool) : List UInt8 :=
  if wh && S.all (fun b => !b) then (if st.length = S.length then foldZ f S st old else [])
  else match st with
    | [] => []
    | s0 :: rest => if rest.length = S.length then foldZ f S rest s0 else []
section
variable {f : Bool → List UInt8 → List UInt8 → List UInt8}
theorem foldZ_nonempty (hf : ∀ b x s, s ≠ [] → f b x s ≠ []) : ∀ {bs : List Bool} {ps : List (List UInt8)} {s : List UInt8}, s ≠ [] → foldZ f bs ps s ≠ []
  | [], ps, s, h => by cases ps <;> exact h
  | b :: bs, [], s, h => h
  | b :: bs, x :: ps, s, h => foldZ_nonempty hf (bs := bs) (ps := ps) (hf b x s h)
theorem nodeF_ne (b : Bool) (x s : List UInt8) : s ≠ [] → nodeF b x s ≠ [] := fun _ => by
  have h1 : ∀ a b : List UInt8, nodeS a b ≠ [] := fun a b e => by
    have := nodeS_len a b
    rw [e] at this
    cases this
  unfold nodeF
  split
  · exact h1 _ _
  · exact h1 _ _
theorem oldF_ne (b : Bool) (x s : List UInt8) : s ≠ [] → oldF b x s ≠ [] := fun h => by
  unfold oldF
  split
  · intro e
    have := nodeS_len x s
    rw [e] at this
    cases this
  · exact h
theorem foldS_snoc (hf : ∀ b x s, s ≠ [] → f b x s ≠ []) {S : List Bool} {old x : List UInt8} {st : List (List UInt8)} {wh wh' b : Bool} (ho : old ≠ []) (hst : ∀ s ∈ st, s ≠ []) (hw : (wh && (S ++ [b]).all (fun b => !b)) = (wh' && S.all (fun b => !b))) :
    foldS f (S ++ [b]) old (st ++ [x]) wh = if foldS f S old st wh' = [] then [] else f b x (foldS f S old st wh') := by
  unfold foldS
  rw [hw]
  cases wh' && S.all (fun b => !b) with
  | true =>
    simp only [if_true, List.length_append, List.length_singleton, Nat.add_right_cancel_iff]
    by_cases he : st.length = S.length
    · rw [if_pos he, if_pos he, foldZ_snoc _ _ _ _ _ _ he.symm, if_neg (foldZ_nonempty hf ho)]
    · rw [if_neg he, if_neg he, if_pos rfl]
  | false =>
    simp only [Bool.false_eq_true, if_false]
    cases st with
    | nil => simp
    | cons s0 rest =>
      simp only [List.cons_append, List.length_append, List.length_singleton, Nat.add_right_cancel_iff]
      have h0 := hst s0 (List.mem_cons_self ..)
      by_cases he : rest.length = S.length
      · rw [if_pos he, if_pos he, foldZ_snoc _ _ _ _ _ _ he.symm, if_neg (foldZ_nonempty hf h0)]
      · rw [if_neg he, if_neg he, if_pos rfl]
theorem foldS_nil {S : List Bool} {old : List UInt8} {wh : Bool} (h : S ≠ []) : foldS f S old [] wh = [] := by
  unfold foldS
  cases S with
  | nil => exact absurd rfl h
  | cons b S => split <;> simp
theorem foldS_base {old : List UInt8} {st : List (List UInt8)} {wh : Bool} : foldS f [] old st wh = if wh && decide (st.length = 0) then old else if !wh && decide (st.length = 1) then st.getD 0 [] else [] := by
  unfold foldS
  cases wh with
  | true =>
    cases st with
    | nil => rfl
    | cons x st => simp
  | false =>
    cases st with
    | nil => rfl
    | cons x st =>
      cases st with
      | nil => rfl
      | cons y st => simp
end
/-- What a step makes, by the document: of the old root, and of the new one. -/
def followT (f : Bool → List UInt8 → List UInt8 → List UInt8) (m n : Nat) (old : List UInt8) (st : List (List UInt8)) (wh : Bool) : List UInt8 := foldS f (sideF m n) old st wh
theorem followT_all {f : Bool → List UInt8 → List UInt8 → List UInt8} {m n : Nat} {old : List UInt8} {st : List (List UInt8)} {wh : Bool} (h : n ≤ m) : followT f m n old st wh = if wh && decide (st.length = 0) then old else if !wh && decide (st.length = 1) then st.getD 0 [] else [] := by
  unfold followT
  rw [sideF_all h]
  exact foldS_base
theorem followT_nil {f : Bool → List UInt8 → List UInt8 → List UInt8} {m n : Nat} {old : List UInt8} {wh : Bool} (h1 : 1 ≤ m) (h : m < n) : followT f m n old [] wh = [] := by
  unfold followT
  refine foldS_nil ?_
  by_cases hi : m ≤ splitN n
  · rw [sideF_left h1 h hi]; simp
  · rw [sideF_right h1 h hi]; simp
theorem followT_left {f : Bool → List UInt8 → List UInt8 → List UInt8} (hf : ∀ b x s, s ≠ [] → f b x s ≠ []) {m n : Nat} {old x : List UInt8} {st : List (List UInt8)} {wh : Bool} (h1 : 1 ≤ m) (h : m < n) (hi : m ≤ splitN n) (ho : old ≠ []) (hst : ∀ s ∈ st, s ≠ []) :
    followT f m n old (st ++ [x]) wh = if followT f m (splitN n) old st wh = [] then [] else f false x (followT f m (splitN n) old st wh) := by
  unfold followT
  rw [sideF_left h1 h hi]
  exact foldS_snoc hf ho hst (by simp)
theorem followT_right {f : Bool → List UInt8 → List UInt8 → List UInt8} (hf : ∀ b x s, s ≠ [] → f b x s ≠ []) {m n : Nat} {old x : List UInt8} {st : List (List UInt8)} {wh : Bool} (h1 : 1 ≤ m) (h : m < n) (hi : ¬ m ≤ splitN n) (ho : old ≠ []) (hst : ∀ s ∈ st, s ≠ []) :
    followT f m n old (st ++ [x]) wh = if followT f (m - splitN n) (n - splitN n) old st false = [] then [] else f true x (followT f (m - splitN n) (n - splitN n) old st false) := by
  unfold followT
  rw [sideF_right h1 h hi]
  exact foldS_snoc hf ho hst (by simp)
theorem sideC_zero_all : ∀ (l : Nat), (sideC 0 l).all (fun b => !b) = true := by
  intro l
  induction l using Nat.strongRecOn with
  | ind l ih =>
    by_cases h : l = 0
    · rw [h, sideC_0]; rfl
    · rw [sideC_ne h (by decide) (by omega), List.all_cons, show 0 / 2 = 0 from rfl, ih (l / 2) (by omega)]; rfl
theorem sideC_some : ∀ (l a : Nat), a ≠ 0 → a ≤ l → (sideC a l).all (fun b => !b) = false := by
  intro l
  induction l using Nat.strongRecOn with
  | ind l ih =>
    intro a h0 hal
    by_cases ho : a % 2 = 1
    · rw [sideC_odd (by omega) ho]; rfl
    · by_cases he : a = l
      · rw [sideC_eq (by omega) ho he]
        exact ih (l / 2) (by omega) (a / 2) (by omega) (by omega)
      · rw [sideC_ne (by omega) ho he, List.all_cons, ih (l / 2) (by omega) (a / 2) (by omega) (by omega), Bool.and_false]
theorem stripA_le : ∀ (a l : Nat), a ≤ l → (stripA a l).1 ≤ (stripA a l).2 := by
  intro a
  induction a using Nat.strongRecOn with
  | ind a ih =>
    intro l h
    by_cases ho : a % 2 = 1
    · rw [stripA_odd ho]
      exact ih (a / 2) (by omega) (l / 2) (by omega)
    · rw [stripA_even ho]; exact h
theorem foldZ_old : ∀ {S : List Bool} {st : List (List UInt8)} {s : List UInt8}, S.all (fun b => !b) = true → foldZ oldF S st s = s
  | [], st, s, _ => by cases st <;> rfl
  | b :: S, [], s, _ => rfl
  | b :: S, x :: st, s, h => by
    rw [List.all_cons, Bool.and_eq_true] at h
    have hb : b = false := by simpa using h.1
    subst hb
    exact foldZ_old (S := S) (st := st) (s := s) h.2
/-- Both at once. -/
def bothF (b : Bool) (x : List UInt8) (s : List UInt8 × List UInt8) : List UInt8 × List UInt8 := (oldF b x s.1, nodeF b x s.2)
theorem foldZ_both : ∀ (S : List Bool) (st : List (List UInt8)) (s : List UInt8 × List UInt8), foldZ bothF S st s = (foldZ oldF S st s.1, foldZ nodeF S st s.2)
  | [], st, s => by cases st <;> rfl
  | b :: S, [], s => rfl
  | b :: S, x :: st, s => foldZ_both S st (bothF b x s)
/-- THE LAW, where the first leaves are one whole part. -/
theorem follows_whole {m n : Nat} {old root : List UInt8} {st : List (List UInt8)} (h1 : 1 ≤ m) (hm : m < n) (h0 : (stripA (m - 1) (n - 1)).1 = 0) (ho : old ≠ []) (hr : root ≠ []) :
    ((walkF nodeF st 0 (stripA (m - 1) (n - 1)).2 old).1 = true ∧ (walkF nodeF st 0 (stripA (m - 1) (n - 1)).2 old).2 = root) ↔ (followT oldF m n old st true = old ∧ followT nodeF m n old st true = root) := by
  have hS : sideC 0 (stripA (m - 1) (n - 1)).2 = sideF m n := by rw [← sideF_same n m h1 hm]; unfold sideS; rw [h0]
  have hall : (sideF m n).all (fun b => !b) = true := hS ▸ sideC_zero_all _
  rw [walkF_side, hS]
  unfold followT foldS
  rw [hall]
  simp only [Bool.and_self, if_true]
  by_cases he : st.length = (sideF m n).length
  · rw [if_pos he, if_pos he, foldZ_old hall]
    simp [he]
  · rw [if_neg he, if_neg he]
    simp [he, Ne.symm ho]
/-- THE LAW, where they are more. -/
theorem follows_more {m n : Nat} {old root s0 : List UInt8} {st : List (List UInt8)} (h1 : 1 ≤ m) (hm : m < n) (h0 : (stripA (m - 1) (n - 1)).1 ≠ 0) (ho : old ≠ []) (hr : root ≠ []) :
    ((walkF bothF st (stripA (m - 1) (n - 1)).1 (stripA (m - 1) (n - 1)).2 (s0, s0)).1 = true ∧ (walkF bothF st (stripA (m - 1) (n - 1)).1 (stripA (m - 1) (n - 1)).2 (s0, s0)).2.1 = old ∧ (walkF bothF st (stripA (m - 1) (n - 1)).1 (stripA (m - 1) (n - 1)).2 (s0, s0)).2.2 = root) ↔
      (followT oldF m n old (s0 :: st) true = old ∧ followT nodeF m n old (s0 :: st) true = root) := by
  have hS : sideC (stripA (m - 1) (n - 1)).1 (stripA (m - 1) (n - 1)).2 = sideF m n := sideF_same n m h1 hm
  have hall : (sideF m n).all (fun b => !b) = false := hS ▸ sideC_some _ _ h0 (stripA_le _ _ (by omega))
  rw [walkF_side, hS, foldZ_both]
  unfold followT foldS
  rw [hall]
  simp only [Bool.and_false, Bool.false_eq_true, if_false]
  by_cases he : st.length = (sideF m n).length
  · rw [if_pos he, if_pos he]
    simp [he]
  · rw [if_neg he, if_neg he]
    simp [he, Ne.symm ho]
end Go.Proofs.Num

namespace Go.Proofs.Num
open Go Go.RowKit
section
variable {G : List Nat} {w w0 W : World} {l1 l2 l' : List Bk}
theorem Mem.frame (h : Mem G w0 w (l1 ++ l2)) (h' : Mem (l1.map (·.g)) w W l') : Mem G w0 W (l' ++ l2) := by
  have hp := List.pairwise_append.1 h.far
  have hown : ∀ x ∈ l1.map (·.g), w0.heap.size ≤ x ∨ x ∈ G := fun x hx => by
    obtain ⟨b, hb, rfl⟩ := List.mem_map.1 hx
    exact (h.ok b (List.mem_append_left _ hb)).own
  have hn2 : ∀ c ∈ l2, c.g ∉ l1.map (·.g) := fun c hc hm => by
    obtain ⟨b, hb, hbg⟩ := List.mem_map.1 hm
    exact hp.2.2 b hb c hc hbg
  refine ⟨h'.os.trans h.os, h'.tape.trans h.tape, h'.output.trans h.output, Nat.le_trans h.size h'.size, fun k hk hG => ?_, fun b hb => ?_, ?_⟩
  · refine (h'.old k (Nat.lt_of_lt_of_le hk h.size) fun e => ?_).trans (h.old k hk hG)
    rcases hown k e with ho | ho
    · omega
    · exact hG ho
  · rcases List.mem_append.1 hb with e | e
    · have := h'.ok b e
      refine ⟨this.there, this.range, this.lt, ?_⟩
      rcases this.own with ho | ho
      · exact .inl (Nat.le_trans h.size ho)
      · exact hown _ ho
    · have hc := h.ok b (List.mem_append_right _ e)
      have hh := h'.old b.g hc.lt (hn2 b e)
      exact ⟨fun j hj => by rw [World.cell?_of_block (w := w) hh, World.frozen?_of_block (w := w) hh]; exact hc.there j hj, fun s hs j v hv => by rw [World.cell?_of_block (w := w) hh]; exact hc.range s hs j v hv, Nat.lt_of_lt_of_le hc.lt h'.size, hc.own⟩
  · refine List.pairwise_append.2 ⟨h'.far, hp.2.1, fun a ha b hb => ?_⟩
    have hbl := (h.ok b (List.mem_append_right _ hb)).lt
    rcases (h'.ok a ha).own with ho | ho
    · omega
    · intro e
      exact hn2 b hb (e ▸ ho)
/-- Some blocks alone. -/
theorem Mem.some {G : List Nat} {l : List Bk} (h : Mem G w0 w l) (ks : List Nat) (hn : ks.Nodup) (hl : ks.map (fun k => l[k]?) = l'.map Option.some) : Mem (l'.map (·.g)) w w l' := (h.pick ks hn hl).again
end
end Go.Proofs.Num

