/- Arrays of whole numbers, compared. -/
import Derived.Test.YtpgpjoldelobdaaDoorSteps8
import Derived.Laws.StructEq
set_option linter.unusedSimpArgs false
set_option linter.unusedVariables false
namespace Go.Proofs.Num
open Go Go.RowKit
variable {P : Program}
theorem run_part_int {e : TypeId} {k : IntKind} {cs : List Value} {j : Nat} {v : Value} (he : P.underlying e = some (.int k)) (hv : cs[j]? = some v) (W : World) : (part e cs.toArray j).run P W = .ok v W := by
 have hagg : (isAgg e).run P W = .ok false W := by
  unfold isAgg
  rw [Sem.run_bind, run_underlying he W]
  simp
 simp [part, Sem.run_bind, hagg, hv]
def sameTo (xs ys : List Int) : Nat → Nat → Bool
 | _, 0 => true
 | i, n + 1 => (xs[i]?.getD 0 == ys[i]?.getD 0) && sameTo xs ys (i + 1) n
theorem sameTo_spec (xs ys : List Int) : ∀ n i, sameTo xs ys i n = true ↔ ∀ j, i ≤ j → j < i + n → xs[j]?.getD 0 = ys[j]?.getD 0
 | 0, i => by simp [sameTo]; intro j h1 h2; omega
 | n + 1, i => by
  simp only [sameTo, Bool.and_eq_true, beq_iff_eq, sameTo_spec xs ys n (i + 1)]
  constructor
  ·
   rintro ⟨h0, h⟩ j h1 h2
   by_cases hj : j = i
   ·
    subst hj; exact h0
   ·
    exact h j (by omega) (by omega)
  ·
   intro h
   exact ⟨h i (Nat.le_refl _) (by omega), fun j h1 h2 => h j (by omega) (by omega)⟩
theorem run_equal_arr {T e : TypeId} {k : IntKind} {n : Nat} (hT : P.underlying T = some (.array n e)) (he : P.underlying e = some (.int k)) (hs : (P.info? e).map (·.size) = some 1) (xs ys : List Int) (hx : xs.length = n) (hy : ys.length = n) (W : World) :
  (Op.equal T (.agg (xs.map (Value.int k)).toArray) (.agg (ys.map (Value.int k)).toArray)).run P W = .ok (sameTo xs ys 0 n) W := by
 show (Op.equalIn (9999 + 1) T _ _).run P W = _
 have q : ∀ (zs : List Int) (j : Nat) (h : j < zs.length) (W : World), (part e (zs.map (Value.int k)).toArray j).run P W = .ok (.int k (zs[j]?.getD 0)) W := fun zs j h W => run_part_int he (by simp [h]) W
 have q2 : ∀ (a b : Int) (W : World), (Op.equalIn 9999 e (.int k a) (.int k b)).run P W = .ok (a == b) W := fun a b W => run_equalIn_int W 9998 e k k a b he
 unfold Op.equalIn
 simp only [Sem.run_bind, run_underlying hT, Result.andThen_ok, run_sizeOf hs, Std.Legacy.Range.forIn_eq_forIn_range', Std.Legacy.Range.size, Nat.mul_one, Nat.sub_zero, Nat.add_sub_cancel, Nat.div_one]
 have key : ∀ (m i : Nat), i + m = n → (forIn (List.range' i m) ((none, ()) : Option Bool × Unit) (fun j _ => do
   let a ← part e (xs.map (Value.int k)).toArray j
   let b ← part e (ys.map (Value.int k)).toArray j
   let c ← Op.equalIn 9999 e a b
   if (!c) = true then pure (ForInStep.done (some false, ())) else pure (ForInStep.yield (none, ()))) : Sem (Option Bool × Unit)).run P W = .ok (if sameTo xs ys i m then none else some false, ()) W := by
  intro m
  induction m with
  | zero => intro i _; simp [sameTo]
  | succ m ih =>
   intro i hi
   rw [List.range'_succ, List.forIn_cons]
   simp only [Sem.run_bind, q xs i (by omega), q ys i (by omega), q2, Result.andThen_ok, sameTo]
   by_cases h : (xs[i]?.getD 0 == ys[i]?.getD 0) = true
   ·
    simp only [h, Bool.not_true, Bool.false_eq_true, if_false, Sem.run_pure, Result.andThen_ok, Bool.true_and]
    exact ih (i + 1) (by omega)
   ·
    simp only [Bool.not_eq_true] at h
    simp only [h, Bool.not_false, if_true, Sem.run_pure, Result.andThen_ok, Bool.false_and, Bool.false_eq_true, if_false]
 rw [key n 0 (by omega)]
 simp only [Result.andThen_ok]
 cases sameTo xs ys 0 n <;> simp
theorem sameTo_fel {A B : Nat} (hA : A < 2 ^ 256) (hB : B < 2 ^ 256) : sameTo [limb A 0, limb A 1, limb A 2, limb A 3] [limb B 0, limb B 1, limb B 2, limb B 3] 0 4 = decide (A = B) := by
 rw [Bool.eq_iff_iff, sameTo_spec, decide_eq_true_eq]
 constructor
 ·
  intro h
  have h0 := h 0 (by omega) (by omega)
  have h1 := h 1 (by omega) (by omega)
  have h2 := h 2 (by omega) (by omega)
  have h3 := h 3 (by omega) (by omega)
  exact fe_inj hA hB h0 h1 h2 h3
 ·
  rintro rfl _ _ _; rfl
theorem run_eqGuard {T e : TypeId} {n : Nat} {k : IntKind} (hT : P.underlying T = some (.array n e)) (hg : P.eqGuardType P.depth T = false) (op : BinOp) (x y : Operand) (u v : Array Value) (W : World) :
  (eqGuard op T x y (.agg u) (.agg v)).run P W = .ok () W := by
 unfold eqGuard
 cases op <;> simp [hg]
section
variable {o : Oper} {a : Act} {x y : Operand} {T T' e : TypeId} {A B : Nat}
theorem run_eql_fe (hA : A < 2 ^ 256) (hB : B < 2 ^ 256) (hT : P.underlying T = some (.array 4 e)) (he : P.underlying e = some (.int .u64)) (hs : (P.info? e).map (·.size) = some 1) (hg : P.eqGuardType P.depth T = false)
  (ho : o.op = .binOp .eql T x y T') (hx : a.eval x = fe A) (hy : a.eval y = fe B) (W : World) : RunsVal ((execOp a.eval o).run P W) (.bool (decide (A = B))) W := by
 unfold RunsVal
 have h := run_equal_arr hT he hs [limb A 0, limb A 1, limb A 2, limb A 3] [limb B 0, limb B 1, limb B 2, limb B 3] rfl rfl W
 rw [sameTo_fel hA hB] at h
 simp only [execOp, ho, hx, hy, Sem.run_bind, run_eqGuard (k := .u64) hT hg, Result.andThen_ok]
 have h2 : (binOp .eql T (fe A) (fe B)).run P W = .ok (.bool (decide (A = B))) W := by
  simp only [binOp]
  rw [Sem.run_bind]
  erw [h]
  rfl
 rw [h2]
 rfl
theorem run_neq_fe (hA : A < 2 ^ 256) (hB : B < 2 ^ 256) (hT : P.underlying T = some (.array 4 e)) (he : P.underlying e = some (.int .u64)) (hs : (P.info? e).map (·.size) = some 1) (hg : P.eqGuardType P.depth T = false)
  (ho : o.op = .binOp .neq T x y T') (hx : a.eval x = fe A) (hy : a.eval y = fe B) (W : World) : RunsVal ((execOp a.eval o).run P W) (.bool (decide (A ≠ B))) W := by
 unfold RunsVal
 have h := run_equal_arr hT he hs [limb A 0, limb A 1, limb A 2, limb A 3] [limb B 0, limb B 1, limb B 2, limb B 3] rfl rfl W
 rw [sameTo_fel hA hB] at h
 simp only [execOp, ho, hx, hy, Sem.run_bind, run_eqGuard (k := .u64) hT hg, Result.andThen_ok]
 have h2 : (binOp .neq T (fe A) (fe B)).run P W = .ok (.bool (decide (A ≠ B))) W := by
  simp only [binOp]
  rw [Sem.run_bind]
  erw [h]
  simp
 rw [h2]
 rfl
end
end Go.Proofs.Num

