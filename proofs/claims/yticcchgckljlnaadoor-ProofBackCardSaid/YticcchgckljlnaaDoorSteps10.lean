/- A path gone up, and the same from the root down, plainly. -/
import Derived.Test.YticcchgckljlnaaDoorPrP
import Derived.Test.YticcchgckljlnaaDoorTrS
import Derived.Scope
set_option linter.unusedSimpArgs false
set_option linter.unusedVariables false
namespace Go.Proofs.Num
open Go Go.RowKit
/-- On which side each sum of a path stands, from the leaf up: bit by bit. -/
def sideC (a l : Nat) : List Bool := if _h : l = 0 then [] else if a % 2 = 1 then true :: sideC (a / 2) (l / 2) else if a = l then sideC (a / 2) (l / 2) else false :: sideC (a / 2) (l / 2)
termination_by l
decreasing_by all_goals omega
theorem sideC_0 (a : Nat) : sideC a 0 = [] := by rw [sideC, dif_pos rfl]
theorem sideC_odd {a l : Nat} (h : l ≠ 0) (ho : a % 2 = 1) : sideC a l = true :: sideC (a / 2) (l / 2) := by rw [sideC, dif_neg h, if_pos ho]
theorem sideC_eq {a l : Nat} (h : l ≠ 0) (ho : ¬ a % 2 = 1) (he : a = l) : sideC a l = sideC (a / 2) (l / 2) := by rw [sideC, dif_neg h, if_neg ho, if_pos he]
theorem sideC_ne {a l : Nat} (h : l ≠ 0) (ho : ¬ a % 2 = 1) (he : ¬ a = l) : sideC a l = false :: sideC (a / 2) (l / 2) := by rw [sideC, dif_neg h, if_neg ho, if_neg he]
theorem sideC_left : ∀ (j a l : Nat), a < 2 ^ j → 2 ^ j ≤ l → l < 2 * 2 ^ j → sideC a l = sideC a (2 ^ j - 1) ++ [false]
  | 0, a, l, ha, h1, h2 => by
    obtain rfl : a = 0 := by omega
    obtain rfl : l = 1 := by omega
    rw [sideC_ne (by decide) (by decide) (by decide), sideC_0]
    rfl
  | j + 1, a, l, ha, h1, h2 => by
    have hp : 2 ^ (j + 1) = 2 * 2 ^ j := by rw [Nat.pow_succ]; omega
    have := Nat.two_pow_pos j
    have ih := sideC_left j (a / 2) (l / 2) (by omega) (by omega) (by omega)
    have e : (2 ^ (j + 1) - 1) / 2 = 2 ^ j - 1 := by omega
    by_cases ho : a % 2 = 1
    · rw [sideC_odd (by omega) ho, sideC_odd (l := 2 ^ (j + 1) - 1) (by omega) ho, ih, e]; rfl
    · rw [sideC_ne (by omega) ho (by omega), sideC_ne (l := 2 ^ (j + 1) - 1) (by omega) ho (by omega), ih, e]; rfl
theorem sideC_right : ∀ (j a l : Nat), a ≤ l → l < 2 ^ j → sideC (2 ^ j + a) (2 ^ j + l) = sideC a l ++ [true]
  | 0, a, l, ha, hl => by
    obtain rfl : l = 0 := by omega
    obtain rfl : a = 0 := by omega
    rw [sideC_odd (by decide) (by decide), sideC_0]
    rfl
  | j + 1, a, l, ha, hl => by
    have hp : 2 ^ (j + 1) = 2 * 2 ^ j := by rw [Nat.pow_succ]; omega
    have := Nat.two_pow_pos j
    have ih := sideC_right j (a / 2) (l / 2) (by omega) (by omega)
    have e1 : (2 ^ (j + 1) + a) / 2 = 2 ^ j + a / 2 := by omega
    have e2 : (2 ^ (j + 1) + l) / 2 = 2 ^ j + l / 2 := by omega
    by_cases hl0 : l = 0
    · subst hl0
      obtain rfl : a = 0 := by omega
      rw [sideC_eq (by omega) (by omega) rfl, e1, ih, sideC_0]
    · by_cases ho : a % 2 = 1
      · rw [sideC_odd (by omega) (by omega), sideC_odd hl0 ho, e1, e2, ih]; rfl
      · by_cases he : a = l
        · rw [sideC_eq (by omega) (by omega) (by omega), sideC_eq hl0 ho he, e1, e2, ih]
        · rw [sideC_ne (by omega) (by omega) (by omega), sideC_ne hl0 ho he, e1, e2, ih]; rfl
/-- The sides, from the root down. -/
def sideT (a n : Nat) : List Bool := if _h : n ≤ 1 then [] else if a < splitN n then sideT a (splitN n) ++ [false] else sideT (a - splitN n) (n - splitN n) ++ [true]
termination_by n
decreasing_by
  · exact splitN_lt (by omega)
  · have := splitN_pos n
    omega
theorem sideT_1 {a n : Nat} (h : n ≤ 1) : sideT a n = [] := by rw [sideT, dif_pos h]
theorem sideT_left {a n : Nat} (h : 2 ≤ n) (hi : a < splitN n) : sideT a n = sideT a (splitN n) ++ [false] := by rw [sideT, dif_neg (by omega), if_pos hi]
theorem sideT_right {a n : Nat} (h : 2 ≤ n) (hi : ¬ a < splitN n) : sideT a n = sideT (a - splitN n) (n - splitN n) ++ [true] := by rw [sideT, dif_neg (by omega), if_neg hi]
theorem split_pow {n : Nat} (h : 2 ≤ n) : ∃ j, splitN n = 2 ^ j ∧ 2 ^ j < n ∧ n ≤ 2 * 2 ^ j := by
  refine ⟨Nat.log2 (n - 1), rfl, ?_, ?_⟩
  · have := Nat.log2_self_le (n := n - 1) (by omega)
    omega
  · have := Nat.lt_log2_self (n := n - 1)
    rw [Nat.pow_succ] at this
    omega
/-- THE LAW: from the leaf up, and from the root down, the sides are the same. -/
theorem side_same : ∀ (n a : Nat), 1 ≤ n → a < n → sideC a (n - 1) = sideT a n := by
  intro n
  induction n using Nat.strongRecOn with
  | ind n ih =>
    intro a h1 ha
    by_cases h : n ≤ 1
    · obtain rfl : n = 1 := by omega
      rw [sideT_1 (by decide), show 1 - 1 = 0 from rfl, sideC_0]
    · obtain ⟨j, hs, hj1, hj2⟩ := split_pow (n := n) (by omega)
      have hp := Nat.two_pow_pos j
      by_cases hi : a < splitN n
      · rw [sideT_left (by omega) hi, hs, ← ih (2 ^ j) (by omega) a (by omega) (by omega)]
        exact sideC_left j a (n - 1) (by omega) (by omega) (by omega)
      · rw [sideT_right (by omega) hi, hs, ← ih (n - 2 ^ j) (by omega) (a - 2 ^ j) (by omega) (by omega)]
        have := sideC_right j (a - 2 ^ j) (n - 2 ^ j - 1) (by omega) (by omega)
        rwa [show 2 ^ j + (a - 2 ^ j) = a by omega, show 2 ^ j + (n - 2 ^ j - 1) = n - 1 by omega] at this
/-- What stands after the zeros. -/
def skipZ (a l : Nat) : Nat × Nat := if _h : a ≠ 0 ∧ a % 2 = 0 then skipZ (a / 2) (l / 2) else (a, l)
termination_by a
decreasing_by omega
theorem skipZ_no {a l : Nat} (h : a % 2 = 1) : skipZ a l = (a, l) := by rw [skipZ, dif_neg (by omega)]
theorem skipZ_go {a l : Nat} (h0 : a ≠ 0) (h : a % 2 = 0) : skipZ a l = skipZ (a / 2) (l / 2) := by rw [skipZ, dif_pos ⟨h0, h⟩]
/-- A leaf's path gone up: each sum is done, by its side. -/
def walkF {σ : Type} (f : Bool → List UInt8 → σ → σ) : List (List UInt8) → Nat → Nat → σ → Bool × σ
  | [], _, l, s => (decide (l = 0), s)
  | x :: xs, a, l, s => if l = 0 then (false, s) else if a % 2 = 1 ∨ a = l then walkF f xs ((skipZ a l).1 / 2) ((skipZ a l).2 / 2) (f true x s) else walkF f xs (a / 2) (l / 2) (f false x s)
def foldZ {σ : Type} (f : Bool → List UInt8 → σ → σ) : List Bool → List (List UInt8) → σ → σ
  | b :: bs, x :: xs, s => foldZ f bs xs (f b x s)
  | _, _, s => s
theorem side_skip : ∀ (a : Nat), a ≠ 0 → sideC a a = true :: sideC ((skipZ a a).1 / 2) ((skipZ a a).2 / 2) := by
  intro a
  induction a using Nat.strongRecOn with
  | ind a ih =>
    intro h
    by_cases ho : a % 2 = 1
    · rw [skipZ_no ho, sideC_odd h ho]
    · rw [skipZ_go h (by omega), sideC_eq h ho rfl, ih (a / 2) (by omega) (by omega)]
theorem walkF_side {σ : Type} (f : Bool → List UInt8 → σ → σ) : ∀ (ps : List (List UInt8)) (a l : Nat) (s : σ), walkF f ps a l s = (decide (ps.length = (sideC a l).length), foldZ f (sideC a l) ps s)
  | [], a, l, s => by
    unfold walkF
    by_cases h : l = 0
    · subst h
      rw [sideC_0]; rfl
    · have : (sideC a l).length ≠ 0 := by
        by_cases ho : a % 2 = 1
        · rw [sideC_odd h ho]; simp
        · by_cases he : a = l
          · subst he
            rw [side_skip a h]; simp
          · rw [sideC_ne h ho he]; simp
      rw [decide_eq_false h, decide_eq_false (by simpa using Ne.symm this)]
      cases hs : sideC a l <;> rfl
  | x :: xs, a, l, s => by
    unfold walkF
    by_cases h : l = 0
    · subst h
      rw [if_pos rfl, sideC_0]; rfl
    · rw [if_neg h]
      by_cases ho : a % 2 = 1
      · rw [if_pos (.inl ho), skipZ_no ho, walkF_side f xs, sideC_odd h ho]
        simp [foldZ]
      · by_cases he : a = l
        · subst he
          rw [if_pos (.inr rfl), walkF_side f xs, side_skip a h]
          simp [foldZ]
        · rw [if_neg (fun q => q.elim ho he), walkF_side f xs, sideC_ne h ho he]
          simp [foldZ]
/-- One sum more of a path. -/
def nodeF (b : Bool) (x s : List UInt8) : List UInt8 := if b then nodeS x s else nodeS s x
theorem foldZ_snoc {σ : Type} (f : Bool → List UInt8 → σ → σ) : ∀ (bs : List Bool) (ps : List (List UInt8)) (b : Bool) (x : List UInt8) (s : σ), bs.length = ps.length → foldZ f (bs ++ [b]) (ps ++ [x]) s = f b x (foldZ f bs ps s)
  | [], [], _, _, _, _ => rfl
  | c :: bs, y :: ps, b, x, s, h => foldZ_snoc f bs ps b x (f c y s) (by simpa using h)
  | [], _ :: _, _, _, _, h => by simp at h
  | _ :: _, [], _, _, _, h => by simp at h
/-- What a path makes of a leaf's sum; nothing: empty. -/
def makesT (leaf : List UInt8) (a n : Nat) (ps : List (List UInt8)) : List UInt8 := if ps.length = (sideT a n).length then foldZ nodeF (sideT a n) ps leaf else []
theorem foldZ_ne {bs : List Bool} : ∀ {ps : List (List UInt8)} {s : List UInt8}, s ≠ [] → foldZ nodeF bs ps s ≠ [] := by
  induction bs with
  | nil => intro ps s h; cases ps <;> exact h
  | cons b bs ih =>
    intro ps s h
    cases ps with
    | nil => exact h
    | cons x ps =>
      refine ih (ps := ps) ?_
      unfold nodeF
      have h1 : ∀ a b : List UInt8, nodeS a b ≠ [] := fun a b e => by
        have := nodeS_len a b
        rw [e] at this
        cases this
      split
      · exact h1 _ _
      · exact h1 _ _
theorem makesT_1 {leaf : List UInt8} {a n : Nat} {ps : List (List UInt8)} (h : n ≤ 1) : makesT leaf a n ps = if ps.length = 0 then leaf else [] := by
  unfold makesT
  rw [sideT_1 h]
  cases ps <;> rfl
theorem makesT_left {leaf x : List UInt8} {a n : Nat} {ps : List (List UInt8)} (h : 2 ≤ n) (hi : a < splitN n) (hl : leaf ≠ []) : makesT leaf a n (ps ++ [x]) = if makesT leaf a (splitN n) ps = [] then [] else nodeS (makesT leaf a (splitN n) ps) x := by
  unfold makesT
  rw [sideT_left h hi, List.length_append, List.length_append]
  by_cases he : ps.length = (sideT a (splitN n)).length
  · rw [if_pos (by simpa using he), if_pos he, foldZ_snoc _ _ _ _ _ _ he.symm, if_neg (foldZ_ne hl)]; rfl
  · rw [if_neg (by simpa using he), if_neg he, if_pos rfl]
theorem makesT_right {leaf x : List UInt8} {a n : Nat} {ps : List (List UInt8)} (h : 2 ≤ n) (hi : ¬ a < splitN n) (hl : leaf ≠ []) : makesT leaf a n (ps ++ [x]) = if makesT leaf (a - splitN n) (n - splitN n) ps = [] then [] else nodeS x (makesT leaf (a - splitN n) (n - splitN n) ps) := by
  unfold makesT
  rw [sideT_right h hi, List.length_append, List.length_append]
  by_cases he : ps.length = (sideT (a - splitN n) (n - splitN n)).length
  · rw [if_pos (by simpa using he), if_pos he, foldZ_snoc _ _ _ _ _ _ he.symm, if_neg (foldZ_ne hl)]; rfl
  · rw [if_neg (by simpa using he), if_neg he, if_pos rfl]
/-- THE LAW: the walk up makes what the document says, or ends wrongly. -/
theorem walk_makes {leaf : List UInt8} {a n : Nat} {ps : List (List UInt8)} (h1 : 1 ≤ n) (ha : a < n) (hl : leaf ≠ []) (root : List UInt8) (hr : root ≠ []) :
    ((walkF nodeF ps a (n - 1) leaf).1 = true ∧ (walkF nodeF ps a (n - 1) leaf).2 = root) ↔ makesT leaf a n ps = root := by
  rw [walkF_side, side_same n a h1 ha]
  unfold makesT
  by_cases he : ps.length = (sideT a n).length
  · rw [if_pos he]; simp [he]
  · rw [if_neg he]; simp [he, Ne.symm hr]
end Go.Proofs.Num

namespace Go.Proofs.Num
open Go Go.RowKit
section
variable {P : Program} {ops : Array Oper} {o : Oper} {a : Act} {W : World}
theorem run_call_clo {ρ : Operand → Value} {f : FuncId} {fn : Func} {y : Operand} {xs : Array Operand} {ts : Array TypeId} {caps : Array Value} (ho : o.op = .call { callee := .value y, args := xs, argTypes := ts }) (hρ : ρ y = .func (.func f) #[] caps) (hf : P.funcs[f]? = some fn)
    (hn : (fn.name == "runtime.NumGoroutine") = false) (hb : fn.body.isNone = false) : (execOp ρ o).run P W = .ok (.enter f (xs.map ρ ++ caps)) W := by
  have h1 : fn.name ≠ "runtime.NumGoroutine" := by simpa using hn
  have h2 : ¬ fn.body = none := by intro e; simp [e] at hb
  simp [execOp, ho, resolve, hρ, Deferred.ofValue, invoke, callFunc, hf, h1, h2]
end
section tails
variable {P : Program} {ops : Array Oper} {Q : Exit → Act → World → Prop} {o : Oper} {rest : List Oper} {a : Act} {W : World}
theorem wpL_callMc {f : FuncId} {fn : Func} {y : Operand} {xs : Array Operand} {ts : Array TypeId} {args caps all : Array Value} {R : Value → World → Prop} (hall : args ++ caps = all) (hg : o.guard = none) (ho : o.op = .call { callee := .value y, args := xs, argTypes := ts }) (hy : a.eval y = .func (.func f) #[] caps) (hargs0 : xs.toList.map a.eval = args.toList) (hf : P.funcs[f]? = some fn)
    (hn : (fn.name == "runtime.NumGoroutine") = false) (hbd : fn.body.isNone = false)
    (hc : Calls P f all W (fun e W' => ∃ v, e = .returned v ∧ R v W')) (h : ∀ v W', R v W' → wpList P ops Q rest (a.put o.dst v) W') : wpList P ops Q (o :: rest) a W :=
  wpList_plain hg fun K hK => by
    subst hall
    unfold Oper.wp
    rw [show (execOp a.eval o).run P W = .ok (.enter f (args ++ caps)) W by rw [run_call_clo ho hy hf hn hbd, (Array.toList_inj.1 (by rw [Array.toList_map]; exact hargs0) : xs.map a.eval = args)]]
    exact hc.mono fun e W' ⟨v, he, hr⟩ => by subst he; exact hK _ _ (h v W' hr)
end tails
theorem nogoto_ret {Q : Exit → Act → World → Prop} {a : Act} {w : World} (h : Q .ret a w) : Exit.noGoto Q .ret a w := h
end Go.Proofs.Num

