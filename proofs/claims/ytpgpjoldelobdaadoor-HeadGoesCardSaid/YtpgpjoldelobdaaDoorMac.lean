/- Rows of a walk that find by themselves what they can. -/
import Derived.Test.YtpgpjoldelobdaaDoorShq
import Derived.KernelRfl
set_option linter.unusedSimpArgs false
set_option linter.unusedVariables false
namespace Go.Proofs.Num
open Go Go.RowKit
/-- What is still to be shown, shut away from 'assumption'. -/
structure Shut (p : Prop) : Prop where
 out : p
/-- Where a block's part stands in what a walk knows of memory. -/
class LookS (l : List (Nat × List Value)) (o : Nat) (cs : outParam (List Value)) : Prop where
 mem : (o, cs) ∈ l
class Look (l : List Bk) (g o : Nat) (cs : outParam (List Value)) : Prop where
 mem : ∃ b ∈ l, b.g = g ∧ (o, cs) ∈ b.segs
instance {o : Nat} {cs : List Value} {r : List (Nat × List Value)} : LookS ((o, cs) :: r) o cs := ⟨.head _⟩
instance {s : Nat × List Value} {o : Nat} {cs : List Value} {r : List (Nat × List Value)} [h : LookS r o cs] : LookS (s :: r) o cs := ⟨.tail _ h.mem⟩
instance {g N o : Nat} {segs : List (Nat × List Value)} {cs : List Value} {r : List Bk} [h : LookS segs o cs] : Look (⟨g, N, segs⟩ :: r) g o cs := ⟨_, .head _, rfl, h.mem⟩
instance {b : Bk} {r : List Bk} {g o : Nat} {cs : List Value} [h : Look r g o cs] : Look (b :: r) g o cs := let ⟨c, hc, e⟩ := h.mem; ⟨c, .tail _ hc, e⟩
theorem Mem.look {G : List Nat} {w0 w : World} {l : List Bk} {g o : Nat} {cs : List Value} (M : Mem G w0 w l) [h : Look l g o cs] : w.rangeAt g o cs ∧ g < w.heap.size := by
 obtain ⟨b, hb, rfl, hs⟩ := h.mem
 exact ⟨(M.ok b hb).range _ hs, (M.ok b hb).lt⟩
/-- What an operation answers in any world that shows what w0 does. -/
def Pv (P : Program) (w0 : World) (o : Oper) (a : Act) (v : Value) : Prop := isAlloc o = false ∧ ∀ W, Sees w0 W → RunsVal ((execOp a.eval o).run P W) v W
def putL : List Value → Option Tmp → Value → List Value
 | l, some i, v => l.set i v
 | l, none, _ => l
theorem put_putL (l : List Value) (ds : List Deferred) (d : Option Tmp) (v : Value) : Act.put ⟨l.toArray, ds⟩ d v = ⟨(putL l d v).toArray, ds⟩ := by
 cases d with
 | none => rfl
 | some i => exact putT l ds i v
def rowB (P : Program) (ty : TypeId) (n : Nat) : Bool := match P.underlying ty, P.info? ty with
 | some d, some i => d.isRow && i.size == n
 | _, _ => false
def cellB (P : Program) (ty : TypeId) : Bool := match P.underlying ty with
 | some d => !d.isRow
 | none => false
class RowT (P : Program) (ty : TypeId) (n : outParam Nat) : Prop where
 is : rowB P ty n = true
class CellT (P : Program) (ty : TypeId) : Prop where
 is : cellB P ty = true
def isAddr (o : Oper) : Bool := match o.op with
 | .fieldAddr .. | .indexAddr .. => true
 | _ => false
section pv
variable {P : Program} {w0 : World} {o : Oper} {a : Act} {v : Value}
theorem pvMove {x : Operand} (ho : o.op = .move x := by rfl) (hx : lookA a x = some v := by rfl) : Pv P w0 o a v :=
 ⟨by simp [isAlloc, ho], fun W _ => by unfold RunsVal; simp [execOp, ho, lookA_eval hx]⟩
theorem pvAssign {x : Operand} (ho : o.op = .assign x := by rfl) (hx : lookA a x = some v := by rfl) : Pv P w0 o a v :=
 ⟨by simp [isAlloc, ho], fun W _ => by unfold RunsVal; simp [execOp, ho, lookA_eval hx]⟩
theorem pvNil {x : Operand} {p : Addr} (ho : o.op = .nilCheck x := by rfl) (hx : lookA a x = some (.pointer (some p)) := by rfl) : Pv P w0 o a (.pointer (some p)) :=
 ⟨by simp [isAlloc, ho], fun W _ => by unfold RunsVal; simp [execOp, ho, lookA_eval hx]⟩
theorem pvPick {c x y : Operand} {b : Bool} (ho : o.op = .pick c x y := by rfl) (hc : lookA a c = some (.bool b) := by rfl) (hv : (if b then lookA a x else lookA a y) = some v := by rfl) : Pv P w0 o a v :=
 ⟨by simp [isAlloc, ho], fun W _ => by unfold RunsVal; cases b <;> simp_all [execOp, asBool, lookA_eval hc] <;> exact lookA_eval hv⟩
def nthA (vs : Array Value) (i : Nat) : Option Value := lookL vs.toList i
theorem pvExt {x : Operand} {i : Nat} {vs : Array Value} (ho : o.op = .extract x i := by rfl) (hx : lookA a x = some (.tuple vs) := by rfl) (hv : nthA vs i = some v := by rfl) : Pv P w0 o a v :=
 ⟨by simp [isAlloc, ho], fun W _ => by
  have h : vs[i]? = some v := by rw [← Array.getElem?_toList, ← lookL_get]; exact hv
  unfold RunsVal; simp [execOp, ho, lookA_eval hx, Instr.extract, h]⟩
theorem pvGo (hi : isAddr o = true := by rfl) (hr : ∀ W, Sees w0 W → RunsVal ((execOp a.eval o).run P W) v W := by (intro W hW; unfold RunsVal; go_simp <;> exact rfl)) : Pv P w0 o a v :=
 ⟨by unfold isAddr at hi; unfold isAlloc; split at hi <;> simp_all, hr⟩
theorem pvLd {ty : TypeId} {x : Operand} {b off n : Nat} {cs : List Value} (ho : o.op = .load ty x := by rfl) (hi : RowT P ty n := by infer_instance) (hx : lookA a x = some (.pointer (some ⟨b, off, none⟩)) := by rfl)
  (hc : w0.rangeAt b off cs ∧ b < w0.heap.size := by first | exact Mem.look M | exact ⟨by assumption, by assumption⟩) (hn : cs.length = n := by rfl) : Pv P w0 o a (.agg cs.toArray) :=
 ⟨by simp [isAlloc, ho], fun W hW => by
  have hi := hi.is
  subst hn
  unfold rowB at hi
  unfold RunsVal
  cases hu : P.underlying ty with
  | none => simp [hu] at hi
  | some d =>
   cases hf : P.info? ty with
   | none => simp [hu, hf] at hi
   | some i =>
    simp only [hu, hf, Bool.and_eq_true, beq_iff_eq] at hi
    simp only [execOp, ho, lookA_eval hx, run_loadAt_mid W b off ty cs d (range_sees hc.1 hc.2 hW) hu hi.1 (by rw [hf]; exact congrArg some hi.2), Sem.run_bind, Result.andThen_ok, Sem.run_pure]⟩
theorem pvLd1 {ty : TypeId} {x : Operand} {b off : Nat} (ho : o.op = .load ty x := by rfl) (hi : CellT P ty := by infer_instance) (hx : lookA a x = some (.pointer (some ⟨b, off, none⟩)) := by rfl)
  (hc : w0.rangeAt b off [v] ∧ b < w0.heap.size := by first | exact Mem.look M | exact ⟨by assumption, by assumption⟩) : Pv P w0 o a v :=
 ⟨by simp [isAlloc, ho], fun W hW => by
  have hi := hi.is
  unfold cellB at hi
  unfold RunsVal
  cases hu : P.underlying ty with
  | none => simp [hu] at hi
  | some d =>
   simp only [hu, Bool.not_eq_true'] at hi
   simp only [execOp, ho, lookA_eval hx, run_loadAt_one W b off ty v d (cell_sees (range_one hc.1) hc.2 hW) hu hi, Sem.run_bind, Result.andThen_ok, Sem.run_pure]⟩
theorem pvNotT {x : Operand} {T : TypeId} {u : Value} (ho : o.op = .unOp .not T x := by rfl) (hx : lookA a x = some u := by rfl) (hu : u = .bool true := by with_reducible rfl) : Pv P w0 o a (.bool false) :=
 ⟨by simp [isAlloc, ho], fun W _ => by subst hu; unfold RunsVal; simp [execOp, ho, lookA_eval hx, Op.unary, Sem.run_bind]⟩
theorem pvNotF {x : Operand} {T : TypeId} {u : Value} (ho : o.op = .unOp .not T x := by rfl) (hx : lookA a x = some u := by rfl) (hu : u = .bool false := by with_reducible rfl) : Pv P w0 o a (.bool true) :=
 ⟨by simp [isAlloc, ho], fun W _ => by subst hu; unfold RunsVal; simp [execOp, ho, lookA_eval hx, Op.unary, Sem.run_bind]⟩
end pv
section rows
variable {P : Program} {ops : Array Oper} {w0 : World} {L : Act → Prop} {o : Oper} {rest : List Oper} {l l' : List Value} {ds : List Deferred} {v : Value}
theorem vP (hv : Pv P w0 o ⟨l.toArray, ds⟩ v) (h : wpV P ops w0 L rest ⟨l'.toArray, ds⟩) (hw : Region.wanted o (yielded ops l.toArray) = true := by rfl) (hp : putL l o.dst v = l' := by (simp only [putL, List.set]; try exact rfl)) : wpV P ops w0 L (o :: rest) ⟨l.toArray, ds⟩ := by
 subst hp
 refine wpV_val hv.1 hw hv.2 ?_
 rw [put_putL]; exact h
theorem vM {x : Operand} (h : wpV P ops w0 L rest ⟨l'.toArray, ds⟩) (ho : o.op = .move x := by rfl) (hx : lookA ⟨l.toArray, ds⟩ x = some v := by rfl) (hw : Region.wanted o (yielded ops l.toArray) = true := by rfl) (hp : putL l o.dst v = l' := by (simp only [putL, List.set]; try exact rfl)) : wpV P ops w0 L (o :: rest) ⟨l.toArray, ds⟩ := vP (pvMove ho hx) h hw hp
theorem vg {x : Operand} (h : wpV P ops w0 L rest ⟨l'.toArray, ds⟩) (ho : o.op = .assign x := by rfl) (hx : lookA ⟨l.toArray, ds⟩ x = some v := by rfl) (hw : Region.wanted o (yielded ops l.toArray) = true := by rfl) (hp : putL l o.dst v = l' := by (simp only [putL, List.set]; try exact rfl)) : wpV P ops w0 L (o :: rest) ⟨l.toArray, ds⟩ := vP (pvAssign ho hx) h hw hp
theorem vN {x : Operand} {p : Addr} (h : wpV P ops w0 L rest ⟨l'.toArray, ds⟩) (ho : o.op = .nilCheck x := by rfl) (hx : lookA ⟨l.toArray, ds⟩ x = some (.pointer (some p)) := by rfl) (hw : Region.wanted o (yielded ops l.toArray) = true := by rfl) (hp : putL l o.dst (.pointer (some p)) = l' := by (simp only [putL, List.set]; try exact rfl)) : wpV P ops w0 L (o :: rest) ⟨l.toArray, ds⟩ := vP (pvNil ho hx) h hw hp
theorem vK {c x y : Operand} {b : Bool} (h : wpV P ops w0 L rest ⟨l'.toArray, ds⟩) (ho : o.op = .pick c x y := by rfl) (hc : lookA ⟨l.toArray, ds⟩ c = some (.bool b) := by rfl) (hv : (if b then lookA ⟨l.toArray, ds⟩ x else lookA ⟨l.toArray, ds⟩ y) = some v := by rfl) (hw : Region.wanted o (yielded ops l.toArray) = true := by rfl) (hp : putL l o.dst v = l' := by (simp only [putL, List.set]; try exact rfl)) : wpV P ops w0 L (o :: rest) ⟨l.toArray, ds⟩ := vP (pvPick ho hc hv) h hw hp
theorem vE {x : Operand} {i : Nat} {vs : Array Value} (h : wpV P ops w0 L rest ⟨l'.toArray, ds⟩) (ho : o.op = .extract x i := by rfl) (hx : lookA ⟨l.toArray, ds⟩ x = some (.tuple vs) := by rfl) (hv : nthA vs i = some v := by rfl) (hw : Region.wanted o (yielded ops l.toArray) = true := by rfl) (hp : putL l o.dst v = l' := by (simp only [putL, List.set]; try exact rfl)) : wpV P ops w0 L (o :: rest) ⟨l.toArray, ds⟩ := vP (pvExt ho hx hv) h hw hp
theorem vF (h : wpV P ops w0 L rest ⟨l'.toArray, ds⟩)  (hi : isAddr o = true := by rfl) (hr : ∀ W, Sees w0 W → RunsVal ((execOp (Act.eval ⟨l.toArray, ds⟩) o).run P W) v W := by (intro W hW; unfold RunsVal; go_simp <;> exact rfl)) (hw : Region.wanted o (yielded ops l.toArray) = true := by rfl) (hp : putL l o.dst v = l' := by (simp only [putL, List.set]; try exact rfl)) : wpV P ops w0 L (o :: rest) ⟨l.toArray, ds⟩ := vP (pvGo hi hr) h hw hp
theorem vL {ty : TypeId} {x : Operand} {b off n : Nat} {cs : List Value} (h : wpV P ops w0 L rest ⟨l'.toArray, ds⟩) (ho : o.op = .load ty x := by rfl) (hi : RowT P ty n := by infer_instance) (hx : lookA ⟨l.toArray, ds⟩ x = some (.pointer (some ⟨b, off, none⟩)) := by rfl) (hc : w0.rangeAt b off cs ∧ b < w0.heap.size := by first | exact Mem.look M | exact ⟨by assumption, by assumption⟩) (hn : cs.length = n := by rfl) (hw : Region.wanted o (yielded ops l.toArray) = true := by rfl) (hp : putL l o.dst (.agg cs.toArray) = l' := by (simp only [putL, List.set]; try exact rfl)) : wpV P ops w0 L (o :: rest) ⟨l.toArray, ds⟩ := vP (pvLd ho hi hx hc hn) h hw hp
theorem vc {ty : TypeId} {x : Operand} {b off : Nat} (h : wpV P ops w0 L rest ⟨l'.toArray, ds⟩) (ho : o.op = .load ty x := by rfl) (hi : CellT P ty := by infer_instance) (hx : lookA ⟨l.toArray, ds⟩ x = some (.pointer (some ⟨b, off, none⟩)) := by rfl) (hc : w0.rangeAt b off [v] ∧ b < w0.heap.size := by first | exact Mem.look M | exact ⟨by assumption, by assumption⟩) (hw : Region.wanted o (yielded ops l.toArray) = true := by rfl) (hp : putL l o.dst v = l' := by (simp only [putL, List.set]; try exact rfl)) : wpV P ops w0 L (o :: rest) ⟨l.toArray, ds⟩ := vP (pvLd1 ho hi hx hc) h hw hp
theorem vt {x : Operand} {T : TypeId} {u : Value} (h : wpV P ops w0 L rest ⟨l'.toArray, ds⟩) (ho : o.op = .unOp .not T x := by rfl) (hx : lookA ⟨l.toArray, ds⟩ x = some u := by rfl) (hu : u = .bool true := by with_reducible rfl) (hw : Region.wanted o (yielded ops l.toArray) = true := by rfl) (hp : putL l o.dst (.bool false) = l' := by (simp only [putL, List.set]; try exact rfl)) : wpV P ops w0 L (o :: rest) ⟨l.toArray, ds⟩ := vP (pvNotT ho hx hu) h hw hp
theorem vu {x : Operand} {T : TypeId} {u : Value} (h : wpV P ops w0 L rest ⟨l'.toArray, ds⟩) (ho : o.op = .unOp .not T x := by rfl) (hx : lookA ⟨l.toArray, ds⟩ x = some u := by rfl) (hu : u = .bool false := by with_reducible rfl) (hw : Region.wanted o (yielded ops l.toArray) = true := by rfl) (hp : putL l o.dst (.bool true) = l' := by (simp only [putL, List.set]; try exact rfl)) : wpV P ops w0 L (o :: rest) ⟨l.toArray, ds⟩ := vP (pvNotF ho hx hu) h hw hp
theorem vS (h : wpV P ops w0 L rest ⟨l'.toArray, ds⟩) (ha : isAlloc o = false := by rfl) (hw : Region.wanted o (yielded ops l.toArray) = false := by rfl) (hp : putL l o.dst undef = l' := by (simp only [putL, List.set]; try exact rfl)) : wpV P ops w0 L (o :: rest) ⟨l.toArray, ds⟩ := by
 subst hp
 refine wpV_skip ha hw ?_
 rw [put_putL]; exact h
theorem vW {a : Act} (h : wpV P ops w0 L rest a) (ha : isAlloc o = true := by rfl) : wpV P ops w0 L (o :: rest) a := wpV_alloc ha h
end rows
end Go.Proofs.Num
namespace Go.Proofs.Num
open Go Go.RowKit
/-- A function that may be called. -/
def goodB (P : Program) (f : FuncId) : Bool := match P.funcs[f]? with
 | some fn => !(fn.name == "runtime.NumGoroutine") && !fn.body.isNone
 | none => false
theorem goodB_out {P : Program} {f : FuncId} (h : goodB P f = true) : ∃ fn, P.funcs[f]? = some fn ∧ (fn.name == "runtime.NumGoroutine") = false ∧ fn.body.isNone = false := by
 unfold goodB at h
 cases hf : P.funcs[f]? with
 | none => simp [hf] at h
 | some fn =>
  rw [hf] at h
  refine ⟨fn, rfl, ?_, ?_⟩
  ·
   cases hb : (fn.name == "runtime.NumGoroutine") <;> simp_all
  ·
   cases hb : fn.body.isNone <;> simp_all
theorem looks_args {a : Act} {xs : List Operand} {vs : List Value} (h : xs.map (lookA a) = vs.map some) : xs.map a.eval = vs := by
 induction xs generalizing vs with
 | nil => cases vs <;> simp_all
 | cons x xs ih =>
  cases vs with
  | nil => simp at h
  | cons v vs =>
   simp only [List.map_cons, List.cons.injEq] at h ⊢
   exact ⟨lookA_eval h.1, ih h.2⟩
section rows
variable {P : Program} {ops : Array Oper} {w0 : World} {L : Act → Prop} {o : Oper} {rest : List Oper} {l l' : List Value} {ds : List Deferred} {v : Value}
theorem vCh {f : FuncId} {y : Operand} {xs : Array Operand} {ts : Array TypeId} {args : Array Value} (hc : ∀ W, Sees w0 W → Calls P f args W (fun e W' => e = .returned v ∧ Below W.heap.size W W')) (h : wpV P ops w0 L rest ⟨l'.toArray, ds⟩) (hw : Region.wanted o (yielded ops l.toArray) = true := by rfl) (ho : o.op = .call { callee := .value y, args := xs, argTypes := ts } := by rfl) (hy : lookA ⟨l.toArray, ds⟩ y = some (.func (.func f) #[] #[]) := by rfl) (hargs : xs.toList.map (lookA ⟨l.toArray, ds⟩) = args.toList.map some := by rfl) (hf : goodB P f = true := by kernel_rfl) (hp : putL l o.dst v = l' := by (simp only [putL, List.set]; try exact rfl)) : wpV P ops w0 L (o :: rest) ⟨l.toArray, ds⟩ := by
 subst hp
 obtain ⟨fn, h1, h2, h3⟩ := goodB_out hf
 refine wpV_callv hw ho (lookA_eval hy) h1 h2 h3 (looks_args hargs) hc ?_
 rw [put_putL]; exact h
theorem vC {f : FuncId} {y : Operand} {xs : Array Operand} {ts : Array TypeId} {args : Array Value} (hc : ∀ W, Calls P f args W (fun e W' => e = .returned v ∧ Below W.heap.size W W')) (h : wpV P ops w0 L rest ⟨l'.toArray, ds⟩) (hw : Region.wanted o (yielded ops l.toArray) = true := by rfl) (ho : o.op = .call { callee := .value y, args := xs, argTypes := ts } := by rfl) (hy : lookA ⟨l.toArray, ds⟩ y = some (.func (.func f) #[] #[]) := by rfl) (hargs : xs.toList.map (lookA ⟨l.toArray, ds⟩) = args.toList.map some := by rfl) (hf : goodB P f = true := by kernel_rfl) (hp : putL l o.dst v = l' := by (simp only [putL, List.set]; try exact rfl)) : wpV P ops w0 L (o :: rest) ⟨l.toArray, ds⟩ := vCh (fun W _ => hc W) h hw ho hy hargs hf hp
theorem vB {op : BinOp} {T T' : TypeId} {x y : Operand} {k k' : IntKind} {m n : Int} (h : wpV P ops w0 L rest ⟨l'.toArray, ds⟩) (hw : Region.wanted o (yielded ops l.toArray) = true := by rfl) (ho : o.op = .binOp op T x y T' := by rfl)
  (hx : lookA ⟨l.toArray, ds⟩ x = some (.int k m) := by rfl) (hy : lookA ⟨l.toArray, ds⟩ y = some (.int k' n) := by rfl) (hr : ∀ W, (binOp op T (.int k m) (.int k' n)).run P W = .ok v W) (hp : putL l o.dst v = l' := by (simp only [putL, List.set]; try exact rfl)) : wpV P ops w0 L (o :: rest) ⟨l.toArray, ds⟩ := by
 subst hp
 refine wpV_bin hw ho (lookA_eval hx) (lookA_eval hy) hr ?_
 rw [put_putL]; exact h
end rows
section tails
variable {P : Program} {ops : Array Oper} {Q : Exit → Act → World → Prop} {o : Oper} {rest : List Oper} {l l' : List Value} {ds : List Deferred} {W : World} {v : Value}
theorem lP (hv : Pv P W o ⟨l.toArray, ds⟩ v) (h : wpList P ops Q rest ⟨l'.toArray, ds⟩ W) (hw : Region.wanted o (yielded ops l.toArray) = true := by rfl) (hp : putL l o.dst v = l' := by (simp only [putL, List.set]; try exact rfl)) : wpList P ops Q (o :: rest) ⟨l.toArray, ds⟩ W := by
 subst hp
 refine wpList_step fun K hK => ?_
 rw [if_pos hw]
 unfold Oper.wp
 have hr := hv.2 W (sees_refl W)
 unfold RunsVal at hr
 rw [hr, Oper.upon_value]
 refine hK _ _ ?_
 rw [put_putL]; exact h
theorem lM {x : Operand} (h : wpList P ops Q rest ⟨l'.toArray, ds⟩ W) (ho : o.op = .move x := by rfl) (hx : lookA ⟨l.toArray, ds⟩ x = some v := by rfl) (hw : Region.wanted o (yielded ops l.toArray) = true := by rfl) (hp : putL l o.dst v = l' := by (simp only [putL, List.set]; try exact rfl)) : wpList P ops Q (o :: rest) ⟨l.toArray, ds⟩ W := lP (pvMove ho hx) h hw hp
theorem lg {x : Operand} (h : wpList P ops Q rest ⟨l'.toArray, ds⟩ W) (ho : o.op = .assign x := by rfl) (hx : lookA ⟨l.toArray, ds⟩ x = some v := by rfl) (hw : Region.wanted o (yielded ops l.toArray) = true := by rfl) (hp : putL l o.dst v = l' := by (simp only [putL, List.set]; try exact rfl)) : wpList P ops Q (o :: rest) ⟨l.toArray, ds⟩ W := lP (pvAssign ho hx) h hw hp
theorem lN {x : Operand} {p : Addr} (h : wpList P ops Q rest ⟨l'.toArray, ds⟩ W) (ho : o.op = .nilCheck x := by rfl) (hx : lookA ⟨l.toArray, ds⟩ x = some (.pointer (some p)) := by rfl) (hw : Region.wanted o (yielded ops l.toArray) = true := by rfl) (hp : putL l o.dst (.pointer (some p)) = l' := by (simp only [putL, List.set]; try exact rfl)) : wpList P ops Q (o :: rest) ⟨l.toArray, ds⟩ W := lP (pvNil ho hx) h hw hp
theorem lK {c x y : Operand} {b : Bool} (h : wpList P ops Q rest ⟨l'.toArray, ds⟩ W) (ho : o.op = .pick c x y := by rfl) (hc : lookA ⟨l.toArray, ds⟩ c = some (.bool b) := by rfl) (hv : (if b then lookA ⟨l.toArray, ds⟩ x else lookA ⟨l.toArray, ds⟩ y) = some v := by rfl) (hw : Region.wanted o (yielded ops l.toArray) = true := by rfl) (hp : putL l o.dst v = l' := by (simp only [putL, List.set]; try exact rfl)) : wpList P ops Q (o :: rest) ⟨l.toArray, ds⟩ W := lP (pvPick ho hc hv) h hw hp
theorem lE {x : Operand} {i : Nat} {vs : Array Value} (h : wpList P ops Q rest ⟨l'.toArray, ds⟩ W) (ho : o.op = .extract x i := by rfl) (hx : lookA ⟨l.toArray, ds⟩ x = some (.tuple vs) := by rfl) (hv : nthA vs i = some v := by rfl) (hw : Region.wanted o (yielded ops l.toArray) = true := by rfl) (hp : putL l o.dst v = l' := by (simp only [putL, List.set]; try exact rfl)) : wpList P ops Q (o :: rest) ⟨l.toArray, ds⟩ W := lP (pvExt ho hx hv) h hw hp
theorem lF (h : wpList P ops Q rest ⟨l'.toArray, ds⟩ W)  (hi : isAddr o = true := by rfl) (hr : ∀ W', Sees W W' → RunsVal ((execOp (Act.eval ⟨l.toArray, ds⟩) o).run P W') v W' := by (intro W hW; unfold RunsVal; go_simp <;> exact rfl)) (hw : Region.wanted o (yielded ops l.toArray) = true := by rfl) (hp : putL l o.dst v = l' := by (simp only [putL, List.set]; try exact rfl)) : wpList P ops Q (o :: rest) ⟨l.toArray, ds⟩ W := lP (pvGo hi hr) h hw hp
theorem lL {ty : TypeId} {x : Operand} {b off n : Nat} {cs : List Value} (h : wpList P ops Q rest ⟨l'.toArray, ds⟩ W) (ho : o.op = .load ty x := by rfl) (hi : RowT P ty n := by infer_instance) (hx : lookA ⟨l.toArray, ds⟩ x = some (.pointer (some ⟨b, off, none⟩)) := by rfl) (hc : W.rangeAt b off cs ∧ b < W.heap.size := by first | exact Mem.look M | exact ⟨by assumption, by assumption⟩) (hn : cs.length = n := by rfl) (hw : Region.wanted o (yielded ops l.toArray) = true := by rfl) (hp : putL l o.dst (.agg cs.toArray) = l' := by (simp only [putL, List.set]; try exact rfl)) : wpList P ops Q (o :: rest) ⟨l.toArray, ds⟩ W := lP (pvLd ho hi hx hc hn) h hw hp
theorem lc {ty : TypeId} {x : Operand} {b off : Nat} (h : wpList P ops Q rest ⟨l'.toArray, ds⟩ W) (ho : o.op = .load ty x := by rfl) (hi : CellT P ty := by infer_instance) (hx : lookA ⟨l.toArray, ds⟩ x = some (.pointer (some ⟨b, off, none⟩)) := by rfl) (hc : W.rangeAt b off [v] ∧ b < W.heap.size := by first | exact Mem.look M | exact ⟨by assumption, by assumption⟩) (hw : Region.wanted o (yielded ops l.toArray) = true := by rfl) (hp : putL l o.dst v = l' := by (simp only [putL, List.set]; try exact rfl)) : wpList P ops Q (o :: rest) ⟨l.toArray, ds⟩ W := lP (pvLd1 ho hi hx hc) h hw hp
theorem lt {x : Operand} {T : TypeId} {u : Value} (h : wpList P ops Q rest ⟨l'.toArray, ds⟩ W) (ho : o.op = .unOp .not T x := by rfl) (hx : lookA ⟨l.toArray, ds⟩ x = some u := by rfl) (hu : u = .bool true := by with_reducible rfl) (hw : Region.wanted o (yielded ops l.toArray) = true := by rfl) (hp : putL l o.dst (.bool false) = l' := by (simp only [putL, List.set]; try exact rfl)) : wpList P ops Q (o :: rest) ⟨l.toArray, ds⟩ W := lP (pvNotT ho hx hu) h hw hp
theorem lu {x : Operand} {T : TypeId} {u : Value} (h : wpList P ops Q rest ⟨l'.toArray, ds⟩ W) (ho : o.op = .unOp .not T x := by rfl) (hx : lookA ⟨l.toArray, ds⟩ x = some u := by rfl) (hu : u = .bool false := by with_reducible rfl) (hw : Region.wanted o (yielded ops l.toArray) = true := by rfl) (hp : putL l o.dst (.bool true) = l' := by (simp only [putL, List.set]; try exact rfl)) : wpList P ops Q (o :: rest) ⟨l.toArray, ds⟩ W := lP (pvNotF ho hx hu) h hw hp
theorem lS (h : wpList P ops Q rest ⟨l'.toArray, ds⟩ W) (hw : Region.wanted o (yielded ops l.toArray) = false := by rfl) (hp : putL l o.dst undef = l' := by (simp only [putL, List.set]; try exact rfl)) : wpList P ops Q (o :: rest) ⟨l.toArray, ds⟩ W := by
 subst hp
 refine wpList_step fun K hK => ?_
 rw [if_neg (by rw [hw]; decide)]
 refine hK _ _ ?_
 rw [put_putL]; exact h
theorem lZ {K T : Act → World → Prop} {a : Act} (hK : ∀ a w, T a w → K a w) (h : T a W) (he : K a W → Q .normal a W := by exact id) : wpList P ops (NoPanic Q) [] a W := wpL_nil (no_panic (he (hK _ _ h)))
theorem eZ {K T : Act → World → Prop} {a : Act} {c : Nat} (hK : ∀ a w, T a w → K a w) (h : T a W) (he : K a W → Q (.exit c) a W := by exact id) : (Code.exit c).wp P Q a W := wp_exit (he (hK _ _ h))
theorem sZ {K T : Act → World → Prop} {a : Act} (hK : ∀ a w, T a w → K a w) (h : T a W) (he : K a W → Q .normal a W := by exact id) : Code.skip.wp P Q a W := wp_skip (he (hK _ _ h))
theorem cT {c : Operand} {x y : Code} {a : Act} {u : Value} (h : x.wp P Q a W) (hc : lookA a c = some u := by rfl) (hu : u = .bool true := by with_reducible rfl) : (Code.cond c x y).wp P Q a W := wp_cond_true (by subst hu; exact lookA_eval hc) h
theorem cF {c : Operand} {x y : Code} {a : Act} {u : Value} (h : y.wp P Q a W) (hc : lookA a c = some u := by rfl) (hu : u = .bool false := by with_reducible rfl) : (Code.cond c x y).wp P Q a W := wp_cond_false (by subst hu; exact lookA_eval hc) h
theorem qS {y : Code} {a : Act} {id : Nat} {l : List Oper} (h : ∀ K : Act → World → Prop, (∀ a w, y.wp P Q a w → K a w) → wpList P l.toArray (NoPanic (Exit.then K Q)) l a W) : (Code.seq (.region id l.toArray false) y).wp P Q a W := wp_seq_k fun K hK => wp_region_seq (h K hK)
theorem sk {x y : Code} {a : Act} (h : ∀ K : Act → World → Prop, (∀ a w, y.wp P Q a w → K a w) → x.wp P (Exit.then K Q) a W) : (Code.seq x y).wp P Q a W := wp_seq_k h
theorem cM {a : Act} {G : List Nat} {w1 : World} {m : List Bk} {ol l1 l2 : List Oper} (k : Nat) (h : ∀ L : Act → Prop, (∀ a', (∀ W', Mem G w1 W' m → wpList P ops Q l2 a' W') → wpV P ops W L [] a') → wpV P ops W L l1 a) (M : Mem G w1 W m := by exact M)
  (ha : ((ol.take k).all fun o => !isAlloc o) = true := by rfl) (h1 : ol.take k = l1 := by (simp only [List.take]; try exact rfl)) (h2 : ol.drop k = l2 := by (simp only [List.drop]; try exact rfl)) : wpList P ops Q ol a W := by
 subst h1 h2
 exact wpL_chunk k ha fun L hL => h L fun a' h' => wpV_nil (hL _ fun W' hS => h' W' (M.sees hS))
end tails
end Go.Proofs.Num
namespace Go.Proofs.Num
open Go Go.RowKit
section pv2
variable {P : Program} {w0 : World} {o : Oper} {a : Act} {v : Value}
theorem pvLf {b off n : Nat} {cs : List Value} (hc : w0.rangeAt b off cs) (hb : b < w0.heap.size) {ty : TypeId} {x : Operand} (ho : o.op = .load ty x := by rfl) (hi : RowT P ty n := by infer_instance) (hx : lookA a x = some (.pointer (some ⟨b, off, none⟩)) := by rfl) (hn : cs.length = n := by first | rfl | simp [flen]) : Pv P w0 o a (.agg cs.toArray) := pvLd ho hi hx ⟨hc, hb⟩ hn
theorem pvLc {b off : Nat} (hc : w0.cell? ⟨b, off, none⟩ = some v) (hb : b < w0.heap.size) {ty : TypeId} {x : Operand} (ho : o.op = .load ty x := by rfl) (hi : CellT P ty := by infer_instance) (hx : lookA a x = some (.pointer (some ⟨b, off, none⟩)) := by rfl) : Pv P w0 o a v := pvLd1 ho hi hx ⟨cell_range hc, hb⟩
end pv2
theorem vQ {P : Program} {ops : Array Oper} {w0 : World} {L : Act → Prop} {o : Oper} {rest : List Oper} {l l' : List Value} {ds : List Deferred} {v : Value} {ty : TypeId} {x : Operand} {b off : Nat} (h : wpV P ops w0 L rest ⟨l'.toArray, ds⟩) (ho : o.op = .load ty x := by rfl) (hx : lookA ⟨l.toArray, ds⟩ x = some (.pointer (some ⟨b, off, none⟩)) := by rfl) (hc : w0.cell? ⟨b, off, none⟩ = some v) (hb : b < w0.heap.size) (hi : CellT P ty := by infer_instance) (hw : Region.wanted o (yielded ops l.toArray) = true := by rfl) (hp : putL l o.dst v = l' := by (simp only [putL, List.set]; try exact rfl)) : wpV P ops w0 L (o :: rest) ⟨l.toArray, ds⟩ := vP (pvLc hc hb ho hi hx) h hw hp
def szB (P : Program) (ty : TypeId) (n : Nat) : Bool := match P.info? ty with
 | some i => i.size == n
 | none => false
theorem szB_out {P : Program} {ty : TypeId} {n : Nat} (h : szB P ty n = true) : (P.info? ty).map (·.size) = some n := by
 unfold szB at h
 cases hi : P.info? ty with
 | none => simp [hi] at h
 | some i => simpa [hi] using h
theorem mkBox {P : Program} {o : Oper} {a : Act} {e : TypeId} {x : Operand} {v : Value} {cs : List Value} (ho : o.op = .box e x := by rfl) (hx : lookA a x = some v := by rfl) (hv : v.cells = cs.toArray := by rfl) : ∀ W : World, (execOp a.eval o).run P W = .ok (.value (.pointer (some ⟨W.heap.size, 0, none⟩))) (W.alloc (.cells cs.toArray e)) := fun W => by
 simp only [execOp, ho, lookA_eval hx, Instr.box, newVar, hv]
 rfl
section tails
variable {P : Program} {ops : Array Oper} {Q : Exit → Act → World → Prop} {o : Oper} {rest : List Oper} {a : Act} {W w1 : World} {G : List Nat} {m m' : List Bk}
theorem sT {ty : TypeId} {x y : Operand} {g off N : Nat} {segs : List (Nat × List Value)} {cs old : List Value} (k j : Nat) (h : ∀ W', Mem G w1 W' m' → wpList P ops Q rest a W') (M : Mem G w1 W m := by exact M) (hg : o.guard = none := by rfl) (ho : o.op = .store ty x y := by rfl) (hd : o.dst = none := by rfl)
  (hx : lookA a x = some (.pointer (some ⟨g, off, none⟩)) := by rfl) (hy : lookA a y = some (.agg cs.toArray) := by rfl) (hk : m[k]? = some ⟨g, N, segs⟩ := by rfl) (hj : segs[j]? = some (off, old) := by rfl) (hb : off + cs.length ≤ N := by simp [flen]) (hi : szB P ty cs.length = true := by kernel_rfl)
  (h1 : ∀ v ∈ cs, v.oneCell' = true := by first | exact fel_one _ | exact one4 _ _ _ _ | exact two4 _ _ | simp [fone, Value.oneCell']) (ha : SepS off cs.length j 0 segs := by first | exact ⟨.inl rfl, trivial⟩ | simp [SepS, flen]) (hm : m.set k ⟨g, N, segs.set j (off, cs)⟩ = m' := by (simp only [List.set]; try exact rfl)) : wpList P ops Q (o :: rest) a W := by
 subst hm
 exact wpL_store hg ho hd (lookA_eval hx) (lookA_eval hy) (M.t k hk) hb (szB_out hi) h1 fun W' hp hr ht => h W' (M.putS k j hk hp hr ht hj ha)
theorem sTs {ty : TypeId} {x y : Operand} {g N : Nat} {segs : List (Nat × List Value)} {cs : List Value} (segs' : List (Nat × List Value)) (k : Nat) (h : ∀ W', Mem G w1 W' m' → wpList P ops Q rest a W') (M : Mem G w1 W m := by exact M) (hg : o.guard = none := by rfl) (ho : o.op = .store ty x y := by rfl) (hd : o.dst = none := by rfl)
  (hx : lookA a x = some (.pointer (some ⟨g, 0, none⟩)) := by rfl) (hy : lookA a y = some (.agg cs.toArray) := by rfl) (hk : m[k]? = some ⟨g, N, segs⟩ := by rfl) (hs : SegsOf cs segs' := by repeat (first | exact trivial | refine ⟨rfl, ?_⟩)) (hb : 0 + cs.length ≤ N := by simp [flen]) (hi : szB P ty cs.length = true := by kernel_rfl)
  (h1 : ∀ v ∈ cs, v.oneCell' = true := by first | exact fel_one _ | exact one4 _ _ _ _ | exact two4 _ _ | simp [fone, Value.oneCell']) (hm : m.set k ⟨g, N, segs'⟩ = m' := by (simp only [List.set]; try exact rfl)) : wpList P ops Q (o :: rest) a W := by
 subst hm
 exact wpL_store hg ho hd (lookA_eval hx) (lookA_eval hy) (M.t k hk) hb (szB_out hi) h1 fun W' hp hr ht => h W' (M.put (segs' := segs') k hk hp ht (SegsOf.at hr hs))
theorem sT1 {ty : TypeId} {x y : Operand} {g off N : Nat} {segs : List (Nat × List Value)} {v : Value} {old : List Value} (k j : Nat) (h : ∀ W', Mem G w1 W' m' → wpList P ops Q rest a W') (M : Mem G w1 W m := by exact M) (hg : o.guard = none := by rfl) (ho : o.op = .store ty x y := by rfl) (hd : o.dst = none := by rfl)
  (hx : lookA a x = some (.pointer (some ⟨g, off, none⟩)) := by rfl) (hy : lookA a y = some v := by rfl) (hk : m[k]? = some ⟨g, N, segs⟩ := by rfl) (hj : segs[j]? = some (off, old) := by rfl) (hb : off < N := by first | decide | omega) (hi : szB P ty 1 = true := by kernel_rfl)
  (h1 : v.oneCell' = true := by rfl) (ha : SepS off 1 j 0 segs := by first | exact ⟨.inl rfl, trivial⟩ | simp [SepS, flen]) (hm : m.set k ⟨g, N, segs.set j (off, [v])⟩ = m' := by (simp only [List.set]; try exact rfl)) : wpList P ops Q (o :: rest) a W := by
 subst hm
 exact wpL_store1 hg ho hd (lookA_eval hx) (lookA_eval hy) (M.t k hk) hb (szB_out hi) h1 fun W' hp hr ht => h W' (M.putS (new := [v]) k j hk hp hr ht hj ha)
end tails
section news
variable {P : Program} {ops : Array Oper} {Q : Exit → Act → World → Prop} {o : Oper} {rest : List Oper} {l : List Value} {l' : Nat → List Value} {ds : List Deferred} {W w1 : World} {G : List Nat} {m : List Bk} {t : TypeId} {cs : List Value}
theorem nVs (segs : List (Nat × List Value)) (N : Nat) (h : ∀ g W', Mem G w1 W' (⟨g, N, segs⟩ :: m) → wpList P ops Q rest ⟨(l' g).toArray, ds⟩ W') (M : Mem G w1 W m := by exact M) (hg : o.guard = none := by rfl)
  (hrun : ∀ W : World, (execOp (Act.eval ⟨l.toArray, ds⟩) o).run P W = .ok (.value (.pointer (some ⟨W.heap.size, 0, none⟩))) (W.alloc (.cells cs.toArray t)) := by first | exact mkBox | (intro W; go_simp; try exact rfl)) (hN : N = cs.length := by first | rfl | simp [flen]) (hs : SegsOf cs segs := by repeat (first | exact trivial | refine ⟨rfl, ?_⟩))
  (hp : ∀ g, putL l o.dst (.pointer (some ⟨g, 0, none⟩)) = l' g := by (intro g; simp only [putL, List.set]; try exact rfl)) : wpList P ops Q (o :: rest) ⟨l.toArray, ds⟩ W :=
 wpL_var hg hrun fun g W' hS hge hB => by
  rw [put_putL, hp]
  exact h g W' ((M.sees hS).addS (M.ge hge) (M.fresh hge) hB hN hs)
theorem nV (N : Nat) (h : ∀ g W', Mem G w1 W' (⟨g, N, [(0, cs)]⟩ :: m) → wpList P ops Q rest ⟨(l' g).toArray, ds⟩ W') (M : Mem G w1 W m := by exact M) (hg : o.guard = none := by rfl)
  (hrun : ∀ W : World, (execOp (Act.eval ⟨l.toArray, ds⟩) o).run P W = .ok (.value (.pointer (some ⟨W.heap.size, 0, none⟩))) (W.alloc (.cells cs.toArray t)) := by first | exact mkBox | (intro W; go_simp; try exact rfl)) (hN : N = cs.length := by first | rfl | simp [flen])
  (hp : ∀ g, putL l o.dst (.pointer (some ⟨g, 0, none⟩)) = l' g := by (intro g; simp only [putL, List.set]; try exact rfl)) : wpList P ops Q (o :: rest) ⟨l.toArray, ds⟩ W :=
 nVs [(0, cs)] N h M hg hrun hN ⟨by simp, trivial⟩ hp
/-- A drawn region's head that makes nothing. -/
theorem rG {id : Nat} {a : Act} {ol l1 l2 : List Oper} (n : Nat) (fl : List Nat) (h : ∀ L : Act → Prop, (∀ a', (∀ W', Mem G w1 W' m → wpList P ol.toArray (NoPanic Q) l2 a' W') → wpV P ol.toArray W L [] a') → wpV P ol.toArray W L l1 a) (M : Mem G w1 W m := by exact M)
  (hm : P.follows .mixedOrders = true := by kernel_rfl) (hB : growP ol.toArray n = true := by kernel_rfl) (hD : growD ol.toArray n fl = true := by kernel_rfl) (ha : (ol.take n).all (fun o => !isAlloc o) = true := by kernel_rfl) (h1 : ol.take n = l1 := by (simp only [List.take]; try exact rfl)) (h2 : ol.drop n = l2 := by (simp only [List.drop]; try exact rfl)) : (Code.region id ol.toArray true).wp P Q a W := by
 subst h1 h2
 have key : ∀ (ll : List Oper), ll.all (fun o => !isAlloc o) = true → ∀ a1, (∀ W', Mem G w1 W' m → wpList P ol.toArray (NoPanic Q) (ol.drop n) a1 W') → wpN P a W (fun a2 bs => ∀ W', Sees W W' → (∀ b ∈ bs, Blk W' b.1 b.2.1 b.2.2) → wpList P ol.toArray (NoPanic Q) (ol.drop n) a2 W') ll a1 [] := by
  intro ll
  induction ll with
  | nil => intro _ a1 h1; exact wpN_nil fun W' hS _ => h1 W' (M.sees hS)
  | cons o ll ih =>
   intro hl a1 h1
   simp only [List.all_cons, Bool.and_eq_true, Bool.not_eq_true'] at hl
   exact wpN_skip hl.1 (ih hl.2 a1 h1)
 exact wp_region_grow n fl hm hB hD fun L hL => h L fun a1 h1 => wpV_nil (hL.out _ (key _ ha a1 h1))
/-- One that makes new variables. -/
theorem rH {id : Nat} {a : Act} {ol l1 l2 : List Oper} (n : Nat) (fl : List Nat) (h : ∀ L : Act → Prop, (∀ a', wpN P a W (fun a2 bs => ∀ W', Sees W W' → (∀ b ∈ bs, Blk W' b.1 b.2.1 b.2.2) → wpList P ol.toArray (NoPanic Q) l2 a2 W') l1 a' [] → wpV P ol.toArray W L [] a') → wpV P ol.toArray W L l1 a)
  (hm : P.follows .mixedOrders = true := by kernel_rfl) (hB : growP ol.toArray n = true := by kernel_rfl) (hD : growD ol.toArray n fl = true := by kernel_rfl) (h1 : ol.take n = l1 := by (simp only [List.take]; try exact rfl)) (h2 : ol.drop n = l2 := by (simp only [List.drop]; try exact rfl)) : (Code.region id ol.toArray true).wp P Q a W := by
 subst h1 h2
 exact wp_region_grow n fl hm hB hD fun L hL => h L fun a1 h1 => wpV_nil (hL.out _ h1)
variable {a0 : Act} {bs bs' : List (Nat × TypeId × Array Value)} {L2 : Act → List (Nat × TypeId × Array Value) → Prop} {l1 l2 : List Oper} {a : Act}
theorem nA {p q : Prop} (h : q) (t : Shut q → p := by (intro h9; (repeat (refine wpN_skip (by rfl) ?_)); exact h9.out)) : p := t ⟨h⟩
theorem n1s (segs : List (Nat × List Value)) (N : Nat) (h : ∀ g W', Mem G w1 W' (⟨g, N, segs⟩ :: m) → wpList P ops Q l2 ⟨(l' g).toArray, ds⟩ W') (M : Mem G w1 W m := by exact M) (ha : isAlloc o = true := by rfl) (hn : rest.all (fun o => !isAlloc o) = true := by rfl)
  (hm : ∀ W : World, (execOp a0.eval o).run P W = .ok (.value (.pointer (some ⟨W.heap.size, 0, none⟩))) (W.alloc (.cells cs.toArray t)) := by first | exact mkBox | (intro W; go_simp; try exact rfl)) (hN : N = cs.length := by first | rfl | simp [flen]) (hs : SegsOf cs segs := by repeat (first | exact trivial | refine ⟨rfl, ?_⟩))
  (hp : ∀ g, putL l o.dst (.pointer (some ⟨g, 0, none⟩)) = l' g := by (intro g; simp only [putL, List.set]; try exact rfl)) : wpN P a0 W (fun a2 bs => ∀ W', Sees W W' → (∀ b ∈ bs, Blk W' b.1 b.2.1 b.2.2) → wpList P ops Q l2 a2 W') (o :: rest) ⟨l.toArray, ds⟩ [] := by
 refine wpN_new ha hm fun g hge _ => ?_
 rw [put_putL, hp]
 have key : ∀ ll : List Oper, ll.all (fun o => !isAlloc o) = true → wpN P a0 W (fun a2 bs => ∀ W', Sees W W' → (∀ b ∈ bs, Blk W' b.1 b.2.1 b.2.2) → wpList P ops Q l2 a2 W') ll ⟨(l' g).toArray, ds⟩ [(g, t, cs.toArray)] := by
  intro ll
  induction ll with
  | nil => intro _; exact wpN_nil fun W' hS hb => h g W' ((M.sees hS).addS (M.ge hge) (M.fresh hge) (hb _ (.head _)) hN hs)
  | cons o ll ih =>
   intro hl
   simp only [List.all_cons, Bool.and_eq_true, Bool.not_eq_true'] at hl
   exact wpN_skip hl.1 (ih hl.2)
 exact key rest hn
theorem n1 (N : Nat) (h : ∀ g W', Mem G w1 W' (⟨g, N, [(0, cs)]⟩ :: m) → wpList P ops Q l2 ⟨(l' g).toArray, ds⟩ W') (M : Mem G w1 W m := by exact M) (ha : isAlloc o = true := by rfl) (hn : rest.all (fun o => !isAlloc o) = true := by rfl)
  (hm : ∀ W : World, (execOp a0.eval o).run P W = .ok (.value (.pointer (some ⟨W.heap.size, 0, none⟩))) (W.alloc (.cells cs.toArray t)) := by first | exact mkBox | (intro W; go_simp; try exact rfl)) (hN : N = cs.length := by first | rfl | simp [flen])
  (hp : ∀ g, putL l o.dst (.pointer (some ⟨g, 0, none⟩)) = l' g := by (intro g; simp only [putL, List.set]; try exact rfl)) : wpN P a0 W (fun a2 bs => ∀ W', Sees W W' → (∀ b ∈ bs, Blk W' b.1 b.2.1 b.2.2) → wpList P ops Q l2 a2 W') (o :: rest) ⟨l.toArray, ds⟩ [] :=
 n1s [(0, cs)] N h M ha hn hm hN ⟨by simp, trivial⟩ hp
end news
section ends
variable {P : Program} {fn : Func} {R : Ending → World → Prop} {Q : Exit → Act → World → Prop} {a : Act} {w : World} {v u : Value}
theorem rt {p q : Prop} (h : q) (t : Shut q → p := by (intro h9; refine wp_ret ?_; (repeat (first | with_reducible refine then_ret ?_ | with_reducible refine inblock_ret ?_)); exact h9.out)) : p := t ⟨h⟩
theorem res_t {t : Tmp} (hv : lookL a.tmps.toList t = some v) : a.tmps.getD t undef = v := lookA_eval (x := .tmp t) hv
theorem rt1 {t : Tmp} (h : R (.returned v) w) (hq : bodyPost P fn R .ret a w → Code.ret.wp P Q a w := by (intro h9; refine wp_ret ?_; (repeat (first | with_reducible refine then_ret ?_ | with_reducible refine inblock_ret ?_)); exact h9)) (hr : fn.results = #[.tmp t] := by rfl) (hv : lookL a.tmps.toList t = some v := by rfl) (hd : a.defers = [] := by rfl) : Code.ret.wp P Q a w :=
 hq (bodyPost_ret (res1 hr (.tmp (res_t hv))) hd h)
theorem rt2 {t s : Tmp} (h : R (.returned (.tuple #[v, u])) w) (hq : bodyPost P fn R .ret a w → Code.ret.wp P Q a w := by (intro h9; refine wp_ret ?_; (repeat (first | with_reducible refine then_ret ?_ | with_reducible refine inblock_ret ?_)); exact h9)) (hr : fn.results = #[.tmp t, .tmp s] := by rfl) (hv : lookL a.tmps.toList t = some v := by rfl) (hu : lookL a.tmps.toList s = some u := by rfl) (hd : a.defers = [] := by rfl) : Code.ret.wp P Q a w :=
 hq (bodyPost_ret (res2 hr (.tmp (res_t hv)) (.tmp (res_t hu))) hd h)
end ends
end Go.Proofs.Num

