/- A path gone up, and the same from the root down, plainly. -/
import Derived.Test.YtpgpjoldelobdaaDoorTrQ
import Derived.Test.YtpgpjoldelobdaaDoorAdds2
import Derived.Scope
set_option linter.unusedSimpArgs false
set_option linter.unusedVariables false
namespace Go.Proofs.Num
open Go Go.RowKit
/-- On which side each sum of a path stands, from the leaf up: bit by bit. -/
def sideC (a l : Nat) : List Bool := if _h : l = 0 then [] else if a % 2 = 1 then true :: sideC (a / 2) (l / 2) else if a = l then sideC (a / 2) (l / 2) else false :: sideC (a / 2) (l / 2)
termination_by l
decreasing_by all_goals omega
theorem sideC_0 (a : Nat) : sideC a 0 = [] := by rw [sideC, dif_pos rfl]
theorem sideC_odd {a l : Nat} (h : l ≠ 0) (ho : a % 2 = 1) : sideC a l = true :: sideC (a / 2) (l / 2) := by rw [sideC, dif_neg h, if_pos ho]
theorem sideC_eq {a l : Nat} (h : l ≠ 0) (ho : ¬ a % 2 = 1) (he : a = l) : sideC a l = sideC (a / 2) (l / 2) := by rw [sideC, dif_neg h, if_neg ho, if_pos he]
theorem sideC_ne {a l : Nat} (h : l ≠ 0) (ho : ¬ a % 2 = 1) (he : ¬ a = l) : sideC a l = false :: sideC (a / 2) (l / 2) := by rw [sideC, dif_neg h, if_neg ho, if_neg he]
theorem sideC_left : ∀ (j a l : Nat), a < 2 ^ j → 2 ^ j ≤ l → l < 2 * 2 ^ j → sideC a l = sideC a (2 ^ j - 1) ++ [false]
 | 0, a, l, ha, h1, h2 => by
  obtain rfl : a = 0 := by omega
  obtain rfl : l = 1 := by omega
  rw [sideC_ne (by decide) (by decide) (by decide), sideC_0]
  rfl
 | j + 1, a, l, ha, h1, h2 => by
  have hp : 2 ^ (j + 1) = 2 * 2 ^ j := by rw [Nat.pow_succ]; omega
  have := Nat.two_pow_pos j
  have ih := sideC_left j (a / 2) (l / 2) (by omega) (by omega) (by omega)
  have e : (2 ^ (j + 1) - 1) / 2 = 2 ^ j - 1 := by omega
  by_cases ho : a % 2 = 1
  ·
   rw [sideC_odd (by omega) ho, sideC_odd (l := 2 ^ (j + 1) - 1) (by omega) ho, ih, e]; rfl
  ·
   rw [sideC_ne (by omega) ho (by omega), sideC_ne (l := 2 ^ (j + 1) - 1) (by omega) ho (by omega), ih, e]; rfl
theorem sideC_right : ∀ (j a l : Nat), a ≤ l → l < 2 ^ j → sideC (2 ^ j + a) (2 ^ j + l) = sideC a l ++ [true]
 | 0, a, l, ha, hl => by
  obtain rfl : l = 0 := by omega
  obtain rfl : a = 0 := by omega
  rw [sideC_odd (by decide) (by decide), sideC_0]
  rfl
 | j + 1, a, l, ha, hl => by
  have hp : 2 ^ (j + 1) = 2 * 2 ^ j := by rw [Nat.pow_succ]; omega
  have := Nat.two_pow_pos j
  have ih := sideC_right j (a / 2) (l / 2) (by omega) (by omega)
  have e1 : (2 ^ (j + 1) + a) / 2 = 2 ^ j + a / 2 := by omega
  have e2 : (2 ^ (j + 1) + l) / 2 = 2 ^ j + l / 2 := by omega
  by_cases hl0 : l = 0
  ·
   subst hl0
   obtain rfl : a = 0 := by omega
   rw [sideC_eq (by omega) (by omega) rfl, e1, ih, sideC_0]
  ·
   by_cases ho : a % 2 = 1
   ·
    rw [sideC_odd (by omega) (by omega), sideC_odd hl0 ho, e1, e2, ih]; rfl
   ·
    by_cases he : a = l
    ·
     rw [sideC_eq (by omega) (by omega) (by omega), sideC_eq hl0 ho he, e1, e2, ih]
    ·
     rw [sideC_ne (by omega) (by omega) (by omega), sideC_ne hl0 ho he, e1, e2, ih]; rfl
theorem split_pow {n : Nat} (h : 2 ≤ n) : ∃ j, splitN n = 2 ^ j ∧ 2 ^ j < n ∧ n ≤ 2 * 2 ^ j := by
 refine ⟨Nat.log2 (n - 1), rfl, ?_, ?_⟩
 ·
  have := Nat.log2_self_le (n := n - 1) (by omega)
  omega
 ·
  have := Nat.lt_log2_self (n := n - 1)
  rw [Nat.pow_succ] at this
  omega
/-- What stands after the zeros. -/
def skipZ (a l : Nat) : Nat × Nat := if _h : a ≠ 0 ∧ a % 2 = 0 then skipZ (a / 2) (l / 2) else (a, l)
termination_by a
decreasing_by omega
theorem skipZ_no {a l : Nat} (h : a % 2 = 1) : skipZ a l = (a, l) := by rw [skipZ, dif_neg (by omega)]
theorem skipZ_go {a l : Nat} (h0 : a ≠ 0) (h : a % 2 = 0) : skipZ a l = skipZ (a / 2) (l / 2) := by rw [skipZ, dif_pos ⟨h0, h⟩]
/-- A leaf's path gone up: each sum is done, by its side. -/
def walkF {σ : Type} (f : Bool → List UInt8 → σ → σ) : List (List UInt8) → Nat → Nat → σ → Bool × σ
 | [], _, l, s => (decide (l = 0), s)
 | x :: xs, a, l, s => if l = 0 then (false, s) else if a % 2 = 1 ∨ a = l then walkF f xs ((skipZ a l).1 / 2) ((skipZ a l).2 / 2) (f true x s) else walkF f xs (a / 2) (l / 2) (f false x s)
def foldZ {σ : Type} (f : Bool → List UInt8 → σ → σ) : List Bool → List (List UInt8) → σ → σ
 | b :: bs, x :: xs, s => foldZ f bs xs (f b x s)
 | _, _, s => s
theorem side_skip : ∀ (a : Nat), a ≠ 0 → sideC a a = true :: sideC ((skipZ a a).1 / 2) ((skipZ a a).2 / 2) := by
 intro a
 induction a using Nat.strongRecOn with
 | ind a ih =>
  intro h
  by_cases ho : a % 2 = 1
  ·
   rw [skipZ_no ho, sideC_odd h ho]
  ·
   rw [skipZ_go h (by omega), sideC_eq h ho rfl, ih (a / 2) (by omega) (by omega)]
theorem walkF_side {σ : Type} (f : Bool → List UInt8 → σ → σ) : ∀ (ps : List (List UInt8)) (a l : Nat) (s : σ), walkF f ps a l s = (decide (ps.length = (sideC a l).length), foldZ f (sideC a l) ps s)
 | [], a, l, s => by
  unfold walkF
  by_cases h : l = 0
  ·
   subst h
   rw [sideC_0]; rfl
  ·
   have : (sideC a l).length ≠ 0 := by
    by_cases ho : a % 2 = 1
    ·
     rw [sideC_odd h ho]; simp
    ·
     by_cases he : a = l
     ·
      subst he
      rw [side_skip a h]; simp
     ·
      rw [sideC_ne h ho he]; simp
   rw [decide_eq_false h, decide_eq_false (by simpa using Ne.symm this)]
   cases hs : sideC a l <;> rfl
 | x :: xs, a, l, s => by
  unfold walkF
  by_cases h : l = 0
  ·
   subst h
   rw [if_pos rfl, sideC_0]; rfl
  ·
   rw [if_neg h]
   by_cases ho : a % 2 = 1
   ·
    rw [if_pos (.inl ho), skipZ_no ho, walkF_side f xs, sideC_odd h ho]
    simp [foldZ]
   ·
    by_cases he : a = l
    ·
     subst he
     rw [if_pos (.inr rfl), walkF_side f xs, side_skip a h]
     simp [foldZ]
    ·
     rw [if_neg (fun q => q.elim ho he), walkF_side f xs, sideC_ne h ho he]
     simp [foldZ]
/-- One sum more of a path. -/
def nodeF (b : Bool) (x s : List UInt8) : List UInt8 := if b then nodeS x s else nodeS s x
end Go.Proofs.Num

namespace Go.Proofs.Num
open Go Go.RowKit
/-- Behind the bits that are 1. -/
def stripA (a l : Nat) : Nat × Nat := if _h : a % 2 = 1 then stripA (a / 2) (l / 2) else (a, l)
termination_by a
decreasing_by omega
theorem stripA_odd {a l : Nat} (h : a % 2 = 1) : stripA a l = stripA (a / 2) (l / 2) := by rw [stripA, dif_pos h]
theorem stripA_even {a l : Nat} (h : ¬ a % 2 = 1) : stripA a l = (a, l) := by rw [stripA, dif_neg h]
/-- The sides above the greatest tree that a leaf ends. -/
def sideS (a l : Nat) : List Bool := sideC (stripA a l).1 (stripA a l).2
theorem sideS_odd {a l : Nat} (h : a % 2 = 1) : sideS a l = sideS (a / 2) (l / 2) := by unfold sideS; rw [stripA_odd h]
theorem sideS_even {a l : Nat} (h : ¬ a % 2 = 1) : sideS a l = sideC a l := by unfold sideS; rw [stripA_even h]
theorem sideS_end : ∀ (j l : Nat), 2 ^ j ≤ l → l < 2 * 2 ^ j → sideS (2 ^ j - 1) l = [false]
 | 0, l, h1, h2 => by
  obtain rfl : l = 1 := by omega
  rw [sideS_even (by decide), sideC_ne (by decide) (by decide) (by decide), sideC_0]
 | j + 1, l, h1, h2 => by
  have hp : 2 ^ (j + 1) = 2 * 2 ^ j := by rw [Nat.pow_succ]; omega
  have := Nat.two_pow_pos j
  rw [sideS_odd (by omega), show (2 ^ (j + 1) - 1) / 2 = 2 ^ j - 1 by omega]
  exact sideS_end j (l / 2) (by omega) (by omega)
theorem sideS_left : ∀ (j a l : Nat), a + 1 < 2 ^ j → 2 ^ j ≤ l → l < 2 * 2 ^ j → sideS a l = sideS a (2 ^ j - 1) ++ [false]
 | 0, a, l, ha, _, _ => by omega
 | j + 1, a, l, ha, h1, h2 => by
  have hp : 2 ^ (j + 1) = 2 * 2 ^ j := by rw [Nat.pow_succ]; omega
  by_cases ho : a % 2 = 1
  ·
   rw [sideS_odd ho, sideS_odd (l := 2 ^ (j + 1) - 1) ho, show (2 ^ (j + 1) - 1) / 2 = 2 ^ j - 1 by omega]
   exact sideS_left j (a / 2) (l / 2) (by omega) (by omega) (by omega)
  ·
   rw [sideS_even ho, sideS_even ho]
   exact sideC_left (j + 1) a l (by omega) h1 h2
theorem sideS_right : ∀ (j a l : Nat), a < l → l < 2 ^ j → sideS (2 ^ j + a) (2 ^ j + l) = sideS a l ++ [true]
 | 0, a, l, h1, h2 => by omega
 | j + 1, a, l, h1, h2 => by
  have hp : 2 ^ (j + 1) = 2 * 2 ^ j := by rw [Nat.pow_succ]; omega
  by_cases ho : a % 2 = 1
  ·
   rw [sideS_odd (by omega), sideS_odd ho, show (2 ^ (j + 1) + a) / 2 = 2 ^ j + a / 2 by omega, show (2 ^ (j + 1) + l) / 2 = 2 ^ j + l / 2 by omega]
   exact sideS_right j (a / 2) (l / 2) (by omega) (by omega)
  ·
   rw [sideS_even (by omega), sideS_even ho]
   exact sideC_right (j + 1) a l (by omega) h2
/-- The sides above the old tree's last whole part, from the root down. -/
def sideF (m n : Nat) : List Bool := if _h : n ≤ m ∨ n ≤ 1 then [] else if m ≤ splitN n then sideF m (splitN n) ++ [false] else sideF (m - splitN n) (n - splitN n) ++ [true]
termination_by n
decreasing_by
 ·
  exact splitN_lt (by omega)
 ·
  have := splitN_pos n
  omega
theorem sideF_all {m n : Nat} (h : n ≤ m) : sideF m n = [] := by rw [sideF, dif_pos (.inl h)]
theorem sideF_left {m n : Nat} (h1 : 1 ≤ m) (h : m < n) (hi : m ≤ splitN n) : sideF m n = sideF m (splitN n) ++ [false] := by rw [sideF, dif_neg (by omega), if_pos hi]
theorem sideF_right {m n : Nat} (h1 : 1 ≤ m) (h : m < n) (hi : ¬ m ≤ splitN n) : sideF m n = sideF (m - splitN n) (n - splitN n) ++ [true] := by rw [sideF, dif_neg (by omega), if_neg hi]
/-- THE LAW: from the last old leaf up, and from the root down, the sides are the same. -/
theorem sideF_same : ∀ (n m : Nat), 1 ≤ m → m < n → sideS (m - 1) (n - 1) = sideF m n := by
 intro n
 induction n using Nat.strongRecOn with
 | ind n ih =>
  intro m h1 hm
  obtain ⟨j, hs, hj1, hj2⟩ := split_pow (n := n) (by omega)
  have hp := Nat.two_pow_pos j
  by_cases hi : m ≤ splitN n
  ·
   rw [sideF_left h1 hm hi, hs]
   rw [hs] at hi
   by_cases he : m = 2 ^ j
   ·
    subst he
    rw [sideF_all (Nat.le_refl _), sideS_end j (n - 1) (by omega) (by omega)]; rfl
   ·
    rw [← ih (2 ^ j) hj1 m h1 (by omega)]
    exact sideS_left j (m - 1) (n - 1) (by omega) (by omega) (by omega)
  ·
   rw [sideF_right h1 hm hi, hs]
   rw [hs] at hi
   rw [← ih (n - 2 ^ j) (by omega) (m - 2 ^ j) (by omega) (by omega)]
   have := sideS_right j (m - 2 ^ j - 1) (n - 2 ^ j - 1) (by omega) (by omega)
   rwa [show 2 ^ j + (m - 2 ^ j - 1) = m - 1 by omega, show 2 ^ j + (n - 2 ^ j - 1) = n - 1 by omega] at this
/-- The old root's part of a sum. -/
def oldF (b : Bool) (x s : List UInt8) : List UInt8 := if b then nodeS x s else s
/-- What a step makes from what it starts with: of f's folding. -/
def foldS (f : Bool → List UInt8 → List UInt8 → List UInt8) (S : List Bool) (old : List UInt8) (st : List (List UInt8)) (wh : Bool) : List UInt8 :=
 if wh && S.all (fun b => !b) then (if st.length = S.length then foldZ f S st old else [])
 else match st with
  | [] => []
  | s0 :: rest => if rest.length = S.length then foldZ f S rest s0 else []
section
variable {f : Bool → List UInt8 → List UInt8 → List UInt8}
theorem foldS_nil {S : List Bool} {old : List UInt8} {wh : Bool} (h : S ≠ []) : foldS f S old [] wh = [] := by
 unfold foldS
 cases S with
 | nil => exact absurd rfl h
 | cons b S => split <;> simp
theorem foldS_base {old : List UInt8} {st : List (List UInt8)} {wh : Bool} : foldS f [] old st wh = if wh && decide (st.length = 0) then old else if !wh && decide (st.length = 1) then st.getD 0 [] else [] := by
 unfold foldS
 cases wh with
 | true =>
  cases st with
  | nil => rfl
  | cons x st => simp
 | false =>
  cases st with
  | nil => rfl
  | cons x st =>
   cases st with
   | nil => rfl
   | cons y st => simp
end
/-- What a step makes, by the document: of the old root, and of the new one. -/
def followT (f : Bool → List UInt8 → List UInt8 → List UInt8) (m n : Nat) (old : List UInt8) (st : List (List UInt8)) (wh : Bool) : List UInt8 := foldS f (sideF m n) old st wh
theorem followT_all {f : Bool → List UInt8 → List UInt8 → List UInt8} {m n : Nat} {old : List UInt8} {st : List (List UInt8)} {wh : Bool} (h : n ≤ m) : followT f m n old st wh = if wh && decide (st.length = 0) then old else if !wh && decide (st.length = 1) then st.getD 0 [] else [] := by
 unfold followT
 rw [sideF_all h]
 exact foldS_base
theorem followT_nil {f : Bool → List UInt8 → List UInt8 → List UInt8} {m n : Nat} {old : List UInt8} {wh : Bool} (h1 : 1 ≤ m) (h : m < n) : followT f m n old [] wh = [] := by
 unfold followT
 refine foldS_nil ?_
 by_cases hi : m ≤ splitN n
 ·
  rw [sideF_left h1 h hi]; simp
 ·
  rw [sideF_right h1 h hi]; simp
theorem sideC_zero_all : ∀ (l : Nat), (sideC 0 l).all (fun b => !b) = true := by
 intro l
 induction l using Nat.strongRecOn with
 | ind l ih =>
  by_cases h : l = 0
  ·
   rw [h, sideC_0]; rfl
  ·
   rw [sideC_ne h (by decide) (by omega), List.all_cons, show 0 / 2 = 0 from rfl, ih (l / 2) (by omega)]; rfl
theorem sideC_some : ∀ (l a : Nat), a ≠ 0 → a ≤ l → (sideC a l).all (fun b => !b) = false := by
 intro l
 induction l using Nat.strongRecOn with
 | ind l ih =>
  intro a h0 hal
  by_cases ho : a % 2 = 1
  ·
   rw [sideC_odd (by omega) ho]; rfl
  ·
   by_cases he : a = l
   ·
    rw [sideC_eq (by omega) ho he]
    exact ih (l / 2) (by omega) (a / 2) (by omega) (by omega)
   ·
    rw [sideC_ne (by omega) ho he, List.all_cons, ih (l / 2) (by omega) (a / 2) (by omega) (by omega), Bool.and_false]
theorem stripA_le : ∀ (a l : Nat), a ≤ l → (stripA a l).1 ≤ (stripA a l).2 := by
 intro a
 induction a using Nat.strongRecOn with
 | ind a ih =>
  intro l h
  by_cases ho : a % 2 = 1
  ·
   rw [stripA_odd ho]
   exact ih (a / 2) (by omega) (l / 2) (by omega)
  ·
   rw [stripA_even ho]; exact h
theorem foldZ_old : ∀ {S : List Bool} {st : List (List UInt8)} {s : List UInt8}, S.all (fun b => !b) = true → foldZ oldF S st s = s
 | [], st, s, _ => by cases st <;> rfl
 | b :: S, [], s, _ => rfl
 | b :: S, x :: st, s, h => by
  rw [List.all_cons, Bool.and_eq_true] at h
  have hb : b = false := by simpa using h.1
  subst hb
  exact foldZ_old (S := S) (st := st) (s := s) h.2
/-- Both at once. -/
def bothF (b : Bool) (x : List UInt8) (s : List UInt8 × List UInt8) : List UInt8 × List UInt8 := (oldF b x s.1, nodeF b x s.2)
theorem foldZ_both : ∀ (S : List Bool) (st : List (List UInt8)) (s : List UInt8 × List UInt8), foldZ bothF S st s = (foldZ oldF S st s.1, foldZ nodeF S st s.2)
 | [], st, s => by cases st <;> rfl
 | b :: S, [], s => rfl
 | b :: S, x :: st, s => foldZ_both S st (bothF b x s)
/-- THE LAW, where the first leaves are one whole part. -/
theorem follows_whole {m n : Nat} {old root : List UInt8} {st : List (List UInt8)} (h1 : 1 ≤ m) (hm : m < n) (h0 : (stripA (m - 1) (n - 1)).1 = 0) (ho : old ≠ []) (hr : root ≠ []) :
  ((walkF nodeF st 0 (stripA (m - 1) (n - 1)).2 old).1 = true ∧ (walkF nodeF st 0 (stripA (m - 1) (n - 1)).2 old).2 = root) ↔ (followT oldF m n old st true = old ∧ followT nodeF m n old st true = root) := by
 have hS : sideC 0 (stripA (m - 1) (n - 1)).2 = sideF m n := by rw [← sideF_same n m h1 hm]; unfold sideS; rw [h0]
 have hall : (sideF m n).all (fun b => !b) = true := hS ▸ sideC_zero_all _
 rw [walkF_side, hS]
 unfold followT foldS
 rw [hall]
 simp only [Bool.and_self, if_true]
 by_cases he : st.length = (sideF m n).length
 ·
  rw [if_pos he, if_pos he, foldZ_old hall]
  simp [he]
 ·
  rw [if_neg he, if_neg he]
  simp [he, Ne.symm ho]
/-- THE LAW, where they are more. -/
theorem follows_more {m n : Nat} {old root s0 : List UInt8} {st : List (List UInt8)} (h1 : 1 ≤ m) (hm : m < n) (h0 : (stripA (m - 1) (n - 1)).1 ≠ 0) (ho : old ≠ []) (hr : root ≠ []) :
  ((walkF bothF st (stripA (m - 1) (n - 1)).1 (stripA (m - 1) (n - 1)).2 (s0, s0)).1 = true ∧ (walkF bothF st (stripA (m - 1) (n - 1)).1 (stripA (m - 1) (n - 1)).2 (s0, s0)).2.1 = old ∧ (walkF bothF st (stripA (m - 1) (n - 1)).1 (stripA (m - 1) (n - 1)).2 (s0, s0)).2.2 = root) ↔
   (followT oldF m n old (s0 :: st) true = old ∧ followT nodeF m n old (s0 :: st) true = root) := by
 have hS : sideC (stripA (m - 1) (n - 1)).1 (stripA (m - 1) (n - 1)).2 = sideF m n := sideF_same n m h1 hm
 have hall : (sideF m n).all (fun b => !b) = false := hS ▸ sideC_some _ _ h0 (stripA_le _ _ (by omega))
 rw [walkF_side, hS, foldZ_both]
 unfold followT foldS
 rw [hall]
 simp only [Bool.and_false, Bool.false_eq_true, if_false]
 by_cases he : st.length = (sideF m n).length
 ·
  rw [if_pos he, if_pos he]
  simp [he]
 ·
  rw [if_neg he, if_neg he]
  simp [he, Ne.symm ho]
end Go.Proofs.Num

namespace Go.Proofs.Num
open Go Go.RowKit
section
variable {G : List Nat} {w w0 W : World} {a : Option Addr} {n c : Nat} {cs : List Value} {l l' : List Bk}
theorem Mem.again (M : Mem G w0 w l) : Mem (l.map (·.g)) w w l :=
 ⟨rfl, rfl, rfl, Nat.le_refl _, fun _ _ _ => rfl, fun b hb => ⟨(M.ok b hb).there, (M.ok b hb).range, (M.ok b hb).lt, .inr (List.mem_map.2 ⟨b, hb, rfl⟩)⟩, M.far⟩
theorem Mem.comp (h : Mem G w0 w l) (h' : Mem (l.map (·.g)) w W l') : Mem G w0 W l' := by
 have hown : ∀ x ∈ l.map (·.g), w0.heap.size ≤ x ∨ x ∈ G := fun x hx => by
  obtain ⟨b, hb, rfl⟩ := List.mem_map.1 hx
  exact (h.ok b hb).own
 refine ⟨h'.os.trans h.os, h'.tape.trans h.tape, h'.output.trans h.output, Nat.le_trans h.size h'.size, fun k hk hn => ?_, fun b hb => ?_, h'.far⟩
 ·
  have hk' : k ∉ l.map (·.g) := fun hm => by
   rcases hown k hm with e | e
   ·
    omega
   ·
    exact hn e
  exact (h'.old k (Nat.lt_of_lt_of_le hk h.size) hk').trans (h.old k hk hn)
 ·
  refine ⟨(h'.ok b hb).there, (h'.ok b hb).range, (h'.ok b hb).lt, ?_⟩
  rcases (h'.ok b hb).own with e | e
  ·
   exact .inl (Nat.le_trans h.size e)
  ·
   exact hown _ e
theorem Mem.oldN (M : Mem G w0 w l) (h : RowN G w0 a n c cs) : RowA w a n c cs := (h.mem M).row
theorem RowA.n0 (h : RowA w a n c cs) : RowN [] w a n c cs := ⟨h, .inr fun _ _ _ => (by simp)⟩
theorem RowN.nil : RowN G w none 0 0 [] := ⟨RowA.nil, .inl rfl⟩
theorem RowN.sub {G' : List Nat} (h : RowN G w a n c cs) (hs : ∀ x ∈ G', x ∈ G) : RowN G' w a n c cs := ⟨h.row, h.far.imp id fun hf g o e hg => hf g o e (hs _ hg)⟩
theorem RowN.sees (h : RowN G w a n c cs) (hS : Sees w W) : RowN G W a n c cs := ⟨h.row.sees hS, h.far⟩
/-- A row that was there lies apart from all that may be written. -/
theorem Mem.notinsG (M : Mem G w0 w l) (h : RowN G w0 a n c cs) : RowN (l.map (·.g)) w a n c cs :=
 ⟨M.oldN h, by
  rcases h.row.mem with e | ⟨g, o, h1, h2, _⟩
  ·
   exact .inl e
  ·
   rcases h.far with e | hf
   ·
    exact .inl e
   ·
    refine .inr fun g' o' e hg => ?_
    rw [h1] at e
    obtain rfl : g = g' := by simpa using congrArg (fun q => q.map (·.block)) e
    obtain ⟨b, hb, hbg⟩ := List.mem_map.1 hg
    subst hbg
    rcases (M.ok b hb).own with ho | ho
    ·
     omega
    ·
     exact hf _ o h1 ho⟩
theorem Mem.notins (M : Mem [] w0 w l) (h : RowA w0 a n c cs) : RowN (l.map (·.g)) w a n c cs := M.notinsG h.n0
end
end Go.Proofs.Num

namespace Go.Proofs.Num
open Go Go.RowKit
section
variable {G : List Nat} {w w0 W : World} {a : Option Addr} {n c : Nat} {cs : List Value}
theorem RowN.cap (h : RowN G w a n c cs) : n ≤ c := h.row.cap
theorem slA_block {a : Option Addr} {lo c g o : Nat} (h : slA a lo c = some ⟨g, o, none⟩) : ∃ o', a = some ⟨g, o', none⟩ ∨ ∃ p, a = some p ∧ p.block = g := by
 unfold slA at h
 split at h
 ·
  exact ⟨o, .inl h⟩
 ·
  cases a with
  | none => cases h
  | some p =>
   refine ⟨0, .inr ⟨p, rfl, ?_⟩⟩
   have h1 : p.add lo = ⟨g, o, none⟩ := Option.some.inj h
   have h2 := congrArg Addr.block h1
   cases lo <;> exact h2
theorem RowN.of_row {a' : Option Addr} {n' c' : Nat} {cs' : List Value} (h : RowN G w a n c cs) (h' : RowA w a' n' c' cs') (h0 : cs = [] → cs' = []) (hb : ∀ g o, a' = some ⟨g, o, none⟩ → ∃ p, a = some p ∧ p.block = g) : RowN G w a' n' c' cs' :=
 ⟨h', by
  rcases h.far with e | hf
  ·
   exact .inl (h0 e)
  ·
   rcases h.row.mem with e | ⟨g1, o1, e1, _, _⟩
   ·
    exact .inl (h0 e)
   ·
    refine .inr fun g o e hg => ?_
    obtain ⟨p, hp, hpg⟩ := hb g o e
    rw [e1] at hp
    obtain rfl := Option.some.inj hp
    exact hf g1 o1 e1 (by
     have e9 : g1 = g := hpg
     rw [e9]; exact hg)⟩
theorem slA_src {a : Option Addr} {lo c : Nat} : ∀ g o, slA a lo c = some ⟨g, o, none⟩ → ∃ p, a = some p ∧ p.block = g := fun g o h => by
 obtain ⟨o', h1 | h1⟩ := slA_block h
 ·
  exact ⟨_, h1, rfl⟩
 ·
  exact h1
theorem RowN.drop (h : RowN G w a n c cs) {lo : Nat} (h1 : lo ≤ n) : RowN G w (slA a lo c) (n - lo) (c - lo) (cs.drop lo) :=
 h.of_row (h.row.drop h1) (fun e => by rw [e]; simp) slA_src
theorem RowN.take (h : RowN G w a n c cs) {hi : Nat} (h2 : hi ≤ n) : RowN G w a hi c (cs.take hi) :=
 h.of_row (h.row.take h2) (fun e => by rw [e]; simp) (fun g o e => ⟨_, e, rfl⟩)
end
end Go.Proofs.Num

namespace Go.Proofs.Num
open Go Go.RowKit
section
variable {P : Program} {ops : Array Oper} {o : Oper} {a : Act} {W : World}
theorem run_call_clo {ρ : Operand → Value} {f : FuncId} {fn : Func} {y : Operand} {xs : Array Operand} {ts : Array TypeId} {caps : Array Value} (ho : o.op = .call { callee := .value y, args := xs, argTypes := ts }) (hρ : ρ y = .func (.func f) #[] caps) (hf : P.funcs[f]? = some fn)
  (hn : (fn.name == "runtime.NumGoroutine") = false) (hb : fn.body.isNone = false) : (execOp ρ o).run P W = .ok (.enter f (xs.map ρ ++ caps)) W := by
 have h1 : fn.name ≠ "runtime.NumGoroutine" := by simpa using hn
 have h2 : ¬ fn.body = none := by intro e; simp [e] at hb
 simp [execOp, ho, resolve, hρ, Deferred.ofValue, invoke, callFunc, hf, h1, h2]
end
section tails
variable {P : Program} {ops : Array Oper} {Q : Exit → Act → World → Prop} {o : Oper} {rest : List Oper} {a : Act} {W : World}
theorem wpL_callMc {f : FuncId} {fn : Func} {y : Operand} {xs : Array Operand} {ts : Array TypeId} {args caps all : Array Value} {R : Value → World → Prop} (hall : args ++ caps = all) (hg : o.guard = none) (ho : o.op = .call { callee := .value y, args := xs, argTypes := ts }) (hy : a.eval y = .func (.func f) #[] caps) (hargs0 : xs.toList.map a.eval = args.toList) (hf : P.funcs[f]? = some fn)
  (hn : (fn.name == "runtime.NumGoroutine") = false) (hbd : fn.body.isNone = false)
  (hc : Calls P f all W (fun e W' => ∃ v, e = .returned v ∧ R v W')) (h : ∀ v W', R v W' → wpList P ops Q rest (a.put o.dst v) W') : wpList P ops Q (o :: rest) a W :=
 wpList_plain hg fun K hK => by
  subst hall
  unfold Oper.wp
  rw [show (execOp a.eval o).run P W = .ok (.enter f (args ++ caps)) W by rw [run_call_clo ho hy hf hn hbd, (Array.toList_inj.1 (by rw [Array.toList_map]; exact hargs0) : xs.map a.eval = args)]]
  exact hc.mono fun e W' ⟨v, he, hr⟩ => by subst he; exact hK _ _ (h v W' hr)
end tails
theorem nogoto_ret {Q : Exit → Act → World → Prop} {a : Act} {w : World} (h : Q .ret a w) : Exit.noGoto Q .ret a w := h
end Go.Proofs.Num

namespace Go.Proofs.Num
open Go Go.RowKit
section
variable {G : List Nat} {w w0 W : World} {l1 l2 l' : List Bk}
theorem Mem.frame (h : Mem G w0 w (l1 ++ l2)) (h' : Mem (l1.map (·.g)) w W l') : Mem G w0 W (l' ++ l2) := by
 have hp := List.pairwise_append.1 h.far
 have hown : ∀ x ∈ l1.map (·.g), w0.heap.size ≤ x ∨ x ∈ G := fun x hx => by
  obtain ⟨b, hb, rfl⟩ := List.mem_map.1 hx
  exact (h.ok b (List.mem_append_left _ hb)).own
 have hn2 : ∀ c ∈ l2, c.g ∉ l1.map (·.g) := fun c hc hm => by
  obtain ⟨b, hb, hbg⟩ := List.mem_map.1 hm
  exact hp.2.2 b hb c hc hbg
 refine ⟨h'.os.trans h.os, h'.tape.trans h.tape, h'.output.trans h.output, Nat.le_trans h.size h'.size, fun k hk hG => ?_, fun b hb => ?_, ?_⟩
 ·
  refine (h'.old k (Nat.lt_of_lt_of_le hk h.size) fun e => ?_).trans (h.old k hk hG)
  rcases hown k e with ho | ho
  ·
   omega
  ·
   exact hG ho
 ·
  rcases List.mem_append.1 hb with e | e
  ·
   have := h'.ok b e
   refine ⟨this.there, this.range, this.lt, ?_⟩
   rcases this.own with ho | ho
   ·
    exact .inl (Nat.le_trans h.size ho)
   ·
    exact hown _ ho
  ·
   have hc := h.ok b (List.mem_append_right _ e)
   have hh := h'.old b.g hc.lt (hn2 b e)
   exact ⟨fun j hj => by rw [World.cell?_of_block (w := w) hh, World.frozen?_of_block (w := w) hh]; exact hc.there j hj, fun s hs j v hv => by rw [World.cell?_of_block (w := w) hh]; exact hc.range s hs j v hv, Nat.lt_of_lt_of_le hc.lt h'.size, hc.own⟩
 ·
  refine List.pairwise_append.2 ⟨h'.far, hp.2.1, fun a ha b hb => ?_⟩
  have hbl := (h.ok b (List.mem_append_right _ hb)).lt
  rcases (h'.ok a ha).own with ho | ho
  ·
   omega
  ·
   intro e
   exact hn2 b hb (e ▸ ho)
/-- Some blocks alone. -/
theorem Mem.some {G : List Nat} {l : List Bk} (h : Mem G w0 w l) (ks : List Nat) (hn : ks.Nodup) (hl : ks.map (fun k => l[k]?) = l'.map Option.some) : Mem (l'.map (·.g)) w w l' := (h.pick ks hn hl).again
end
end Go.Proofs.Num

