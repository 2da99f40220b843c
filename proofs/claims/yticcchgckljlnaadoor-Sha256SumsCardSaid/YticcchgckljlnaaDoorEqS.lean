/- Sums that go on, plainly. -/
import Derived.Test.YticcchgckljlnaaDoorSha
import Derived.Laws.StructEq
import Derived.Test.YticcchgckljlnaaDoorJoinB
set_option linter.unusedSimpArgs false
set_option linter.unusedVariables false
namespace Go.Proofs.Num
open Go
structure SX where
  h : S8
  b : List UInt8
  n : Nat
structure SX.Ok (x : SX) : Prop where
  h : x.h.Ok
  b : x.b.length ≤ 9223372036854775807
  n : x.n < 18446744073709551616
instance : DecidableEq S8 := fun v u => decidable_of_iff (v.a = u.a ∧ v.b = u.b ∧ v.c = u.c ∧ v.d = u.d ∧ v.e = u.e ∧ v.f = u.f ∧ v.g = u.g ∧ v.h = u.h) (by
  constructor
  · intro h
    cases v; cases u
    simp_all
  · rintro rfl
    simp)
theorem abc_sum : (sha [97, 98, 99]).take 4 = [186, 120, 22, 191] := by
  have h1 : takeH H0 [97, 98, 99] = H0 := takeH_done (by decide)
  have h2 : takeR [97, 98, 99] = [97, 98, 99] := takeR_done (by decide)
  have h3 : takeH H0 ([97, 98, 99] ++ tailL 3 3) = mixS H0 ([97, 98, 99] ++ tailL 3 3) := by rw [takeH_more (by decide), takeH_done (by decide)]
  have h4 : sha [97, 98, 99] = outS (takeH H0 ([97, 98, 99] ++ tailL 3 3)) := by
    unfold sha endL
    rw [h1, h2]
    rfl
  rw [h4, h3]
  decide +kernel
theorem s8_dec (v u : S8) : decide ([((v.a : Nat) : Int), ((v.b : Nat) : Int), ((v.c : Nat) : Int), ((v.d : Nat) : Int), ((v.e : Nat) : Int), ((v.f : Nat) : Int), ((v.g : Nat) : Int), ((v.h : Nat) : Int)] = [((u.a : Nat) : Int), ((u.b : Nat) : Int), ((u.c : Nat) : Int), ((u.d : Nat) : Int), ((u.e : Nat) : Int), ((u.f : Nat) : Int), ((u.g : Nat) : Int), ((u.h : Nat) : Int)]) = decide (v = u) := by
  rw [Bool.eq_iff_iff, decide_eq_true_eq, decide_eq_true_eq]
  constructor
  · intro h
    cases v; cases u
    simp only [List.cons.injEq, and_true] at h
    obtain ⟨h1, h2, h3, h4, h5, h6, h7, h8⟩ := h
    simp only [S8.mk.injEq]
    exact ⟨by omega, by omega, by omega, by omega, by omega, by omega, by omega, by omega⟩
  · rintro rfl; rfl
end Go.Proofs.Num

namespace Go.Proofs.Num
open Go Go.RowKit
variable {P : Program}
theorem run_part_int {e : TypeId} {k : IntKind} {cs : List Value} {j : Nat} {v : Value} (he : P.underlying e = some (.int k)) (hv : cs[j]? = some v) (W : World) : (part e cs.toArray j).run P W = .ok v W := by
  have hagg : (isAgg e).run P W = .ok false W := by
    unfold isAgg
    rw [Sem.run_bind, run_underlying he W]
    simp
  simp [part, Sem.run_bind, hagg, hv]
def sameTo (xs ys : List Int) : Nat → Nat → Bool
  | _, 0 => true
  | i, n + 1 => (xs[i]?.getD 0 == ys[i]?.getD 0) && sameTo xs ys (i + 1) n
theorem sameTo_spec (xs ys : List Int) : ∀ n i, sameTo xs ys i n = true ↔ ∀ j, i ≤ j → j < i + n → xs[j]?.getD 0 = ys[j]?.getD 0
  | 0, i => by simp [sameTo]; intro j h1 h2; omega
  | n + 1, i => by
    simp only [sameTo, Bool.and_eq_true, beq_iff_eq, sameTo_spec xs ys n (i + 1)]
    constructor
    · rintro ⟨h0, h⟩ j h1 h2
      by_cases hj : j = i
      · subst hj; exact h0
      · exact h j (by omega) (by omega)
    · intro h
      exact ⟨h i (Nat.le_refl _) (by omega), fun j h1 h2 => h j (by omega) (by omega)⟩
section
variable {o : Oper} {a : Act} {x y : Operand} {T T' e : TypeId} {A B : Nat}
end
end Go.Proofs.Num

namespace Go.Proofs.Num
open Go Go.RowKit
variable {P : Program}
def EqD (P : Program) (k : Nat) (T : TypeId) (u v : Value) (b : Bool) : Prop := ∀ (d : Nat) (W : World), (Op.equalIn (d + k) T u v).run P W = .ok b W
theorem EqD.up {k m : Nat} {T : TypeId} {u v : Value} {b : Bool} (h : EqD P k T u v b) (hm : k ≤ m) : EqD P m T u v b := fun d W => by
  have := h (d + (m - k)) W
  rwa [show d + (m - k) + k = d + m by omega] at this
theorem EqD.bool {k : Nat} {T : TypeId} {u v : Value} {b c : Bool} (h : EqD P k T u v b) (e : b = c) : EqD P k T u v c := e ▸ h
theorem eq_int {T : TypeId} {k : IntKind} (hT : P.underlying T = some (.int k)) (m n : Nat) : EqD P 1 T (.int k (m : Nat)) (.int k (n : Nat)) (decide (m = n)) := fun d W => by
  rw [run_equalIn_int W d T k k _ _ hT]
  congr 1
  rw [Bool.eq_iff_iff]
  simp
  omega
theorem eq_str {T : TypeId} (hT : P.underlying T = some .string) (l m : List UInt8) : EqD P 1 T (.string (bs l)) (.string (bs m)) (decide (l = m)) := fun d W => by
  rw [run_equalIn_string W d T _ _ hT]
  congr 1
  rw [Bool.eq_iff_iff]
  simp [ByteArray.toList_eq, bs]
theorem eq_arr {T e : TypeId} {k : IntKind} {n : Nat} (hT : P.underlying T = some (.array n e)) (he : P.underlying e = some (.int k)) (hs : (P.info? e).map (·.size) = some 1) (xs ys : List Int) (hx : xs.length = n) (hy : ys.length = n) :
    EqD P 2 T (.agg (xs.map (Value.int k)).toArray) (.agg (ys.map (Value.int k)).toArray) (decide (xs = ys)) := fun d W => by
  have q : ∀ (zs : List Int) (j : Nat) (h : j < zs.length) (W : World), (part e (zs.map (Value.int k)).toArray j).run P W = .ok (.int k (zs[j]?.getD 0)) W := fun zs j h W => run_part_int he (by simp [h]) W
  have q2 : ∀ (a b : Int) (W : World), (Op.equalIn (d + 1) e (.int k a) (.int k b)).run P W = .ok (a == b) W := fun a b W => run_equalIn_int W d e k k a b he
  have hb : sameTo xs ys 0 n = decide (xs = ys) := by
    rw [Bool.eq_iff_iff, sameTo_spec, decide_eq_true_eq]
    constructor
    · intro h
      refine List.ext_getElem (hx.trans hy.symm) fun i h1 h2 => ?_
      have := h i (Nat.zero_le _) (by omega)
      simpa [h1, h2] using this
    · rintro rfl _ _ _; rfl
  unfold Op.equalIn
  simp only [Sem.run_bind, run_underlying hT, Result.andThen_ok, run_sizeOf hs, Std.Legacy.Range.forIn_eq_forIn_range', Std.Legacy.Range.size, Nat.mul_one, Nat.sub_zero, Nat.add_sub_cancel, Nat.div_one]
  have key : ∀ (m i : Nat), i + m = n → (forIn (List.range' i m) ((none, ()) : Option Bool × Unit) (fun j _ => do
      let a ← part e (xs.map (Value.int k)).toArray j
      let b ← part e (ys.map (Value.int k)).toArray j
      let c ← Op.equalIn (d + 1) e a b
      if (!c) = true then pure (ForInStep.done (some false, ())) else pure (ForInStep.yield (none, ()))) : Sem (Option Bool × Unit)).run P W = .ok (if sameTo xs ys i m then none else some false, ()) W := by
    intro m
    induction m with
    | zero => intro i _; simp [sameTo]
    | succ m ih =>
      intro i hi
      rw [List.range'_succ, List.forIn_cons]
      simp only [Sem.run_bind, q xs i (by omega), q ys i (by omega), q2, Result.andThen_ok, sameTo]
      by_cases h : (xs[i]?.getD 0 == ys[i]?.getD 0) = true
      · simp only [h, Bool.not_true, Bool.false_eq_true, if_false, Sem.run_pure, Result.andThen_ok, Bool.true_and]
        exact ih (i + 1) (by omega)
      · simp only [Bool.not_eq_true] at h
        simp only [h, Bool.not_false, if_true, Sem.run_pure, Result.andThen_ok, Bool.false_and, Bool.false_eq_true, if_false]
  rw [key n 0 (by omega), ← hb]
  simp only [Result.andThen_ok]
  cases sameTo xs ys 0 n <;> simp
theorem run_part_one {e : TypeId} {d : TypeDesc} {cs : List Value} {j : Nat} {v : Value} (he : P.underlying e = some d) (hd : d.isRow = false) (hv : cs[j]? = some v) (W : World) : (part e cs.toArray j).run P W = .ok v W := by
  have hagg : (isAgg e).run P W = .ok false W := by
    unfold isAgg
    rw [Sem.run_bind, run_underlying he W]
    cases d <;> simp_all [TypeDesc.isRow]
  simp [part, Sem.run_bind, hagg, hv]
theorem run_part_row {e : TypeId} {d : TypeDesc} {cs xs : List Value} {j n : Nat} (he : P.underlying e = some d) (hd : d.isRow = true) (hs : (P.info? e).map (·.size) = some n) (hx : (cs.drop j).take n = xs) (W : World) : (part e cs.toArray j).run P W = .ok (.agg xs.toArray) W := by
  have hagg : (isAgg e).run P W = .ok true W := by
    unfold isAgg
    rw [Sem.run_bind, run_underlying he W]
    cases d <;> simp_all [TypeDesc.isRow]
  simp only [part, Sem.run_bind, hagg, Result.andThen_ok, if_true, run_sizeOf hs, Sem.run_pure]
  congr 2
  subst hx
  apply Array.ext'
  simp [List.take_drop]
/-- The fields, one by one: name looks, type, place; each is compared. -/
def FieldsEq (P : Program) (k : Nat) (xs ys : Array Value) : List (Bool × TypeId × Nat) → List Bool → Prop
  | [], [] => True
  | (l, t, o) :: fs, b :: bs => l = false ∧ (∃ u v, (∀ W, (part t xs o).run P W = .ok u W) ∧ (∀ W, (part t ys o).run P W = .ok v W) ∧ EqD P k t u v b) ∧ FieldsEq P k xs ys fs bs
  | _, _ => False
theorem run_eqFields {k d : Nat} {xs ys : Array Value} (hk : ∀ t u v b, EqD P k t u v b → ∀ W, (Op.equalIn d t u v).run P W = .ok b W) : ∀ (fs : List Field) (bs : List Bool), FieldsEq P k xs ys (fs.map fun f => (f.name == "_", f.type, f.offset)) bs → ∀ W, (Op.eqFields d xs ys fs).run P W = .ok (bs.all id) W
  | [], [], _, W => by simp [Op.eqFields]
  | [], _ :: _, h, _ => h.elim
  | _ :: _, [], h, _ => h.elim
  | f :: fs, b :: bs, h, W => by
    obtain ⟨hn, ⟨u, v, h1, h2, h3⟩, h4⟩ := h
    have hne : f.name ≠ "_" := by simpa using hn
    unfold Op.eqFields
    rw [if_pos hne]
    simp only [Sem.run_bind, h1 W, h2 W, hk _ _ _ _ h3 W, Result.andThen_ok]
    cases b
    · simp
    · simp only [Bool.not_true, Bool.false_eq_true, if_false, List.all_cons, id, Bool.true_and]
      exact run_eqFields hk fs bs h4 W
theorem eq_struct {T : TypeId} {k : Nat} {xs ys : List Value} {fa : Array Field} {fs : List (Bool × TypeId × Nat)} {bs : List Bool} (hT : P.underlying T = some (.struct fa)) (hp : P.stoodInHeld T = false) (hf : (fa.toList.map fun f => (f.name == "_", f.type, f.offset)) = fs) (h : FieldsEq P k xs.toArray ys.toArray fs bs) :
    EqD P (k + 1) T (.agg xs.toArray) (.agg ys.toArray) (bs.all id) := fun d W => by
  have e : P.fieldsOf T = fa := by
    unfold Program.fieldsOf
    rw [hT]
  rw [show d + (k + 1) = (d + k) + 1 from rfl, run_equalIn_struct W (d + k) T xs.toArray ys.toArray (by rw [e]; exact hT) hp]
  subst hf
  rw [e]
  exact run_eqFields (fun t u v b hb W => hb d W) _ _ h W
section
variable {ops : Array Oper} {w0 : World} {L : Act → Prop} {o : Oper} {rest : List Oper} {a : Act} {x y : Operand} {T T' : TypeId} {k : Nat} {u v : List Value} {b : Bool}
theorem run_guardT (hg : P.eqGuardType P.depth T = false) (op : BinOp) (x y : Operand) (u v : Array Value) (W : World) : (eqGuard op T x y (.agg u) (.agg v)).run P W = .ok () W := by
  unfold eqGuard
  cases op <;> simp [hg]
theorem wpV_eqlT (hw : Region.wanted o (yielded ops a.tmps) = true) (ho : o.op = .binOp .eql T x y T') (hx : a.eval x = .agg u.toArray) (hy : a.eval y = .agg v.toArray) (hg : P.eqGuardType P.depth T = false) (he : EqD P k T (.agg u.toArray) (.agg v.toArray) b) (hk : k ≤ 10000)
    (h : wpV P ops w0 L rest (a.put o.dst (.bool b))) : wpV P ops w0 L (o :: rest) a :=
  wpV_val (by simp [isAlloc, ho]) hw (fun W _ => by
    unfold RunsVal
    have h2 : (Op.equal T (.agg u.toArray) (.agg v.toArray)).run P W = .ok b W := by
      have := he (10000 - k) W
      rwa [show 10000 - k + k = 10000 by omega] at this
    have h3 : (binOp .eql T (.agg u.toArray) (.agg v.toArray)).run P W = .ok (.bool b) W := by
      simp only [binOp, Sem.run_bind, h2, Result.andThen_ok, Sem.run_pure]
    simp only [execOp, ho, hx, hy, Sem.run_bind, run_guardT hg, Result.andThen_ok, h3, Sem.run_pure]) h
end
end Go.Proofs.Num

