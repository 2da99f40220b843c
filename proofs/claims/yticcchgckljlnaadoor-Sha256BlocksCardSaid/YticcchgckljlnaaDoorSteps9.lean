/- The greatest and the least of two whole numbers; rows of whole numbers. -/
import Derived.Test.YticcchgckljlnaaDoorRowa
set_option linter.unusedSimpArgs false
set_option linter.unusedVariables false
namespace Go.Proofs.Num
open Go Go.RowKit
section vals
variable {P : Program} {ops : Array Oper} {w0 : World} {L : Act → Prop} {o : Oper} {rest : List Oper} {a : Act}
theorem wpV_maxZ {x y : Operand} {ts : Array TypeId} {m n e : Int} {k k2 : IntKind} (hw : Region.wanted o (yielded ops a.tmps) = true) (ho : o.op = .call { callee := .builtin .max, args := #[x, y], argTypes := ts }) (hx : a.eval x = .int k m) (hy : a.eval y = .int k2 n) (he : max m n = e)
    (h : wpV P ops w0 L rest (a.put o.dst (.int k e))) : wpV P ops w0 L (o :: rest) a :=
  wpV_val (by simp [isAlloc, ho]) hw (fun W _ => by
    unfold RunsVal
    subst he
    simp only [execOp, ho, resolve, invoke, builtin, Builtin.max_, Builtin.max2]
    simp [hx, hy, Builtin.max2]
    first | omega | (split <;> omega)) h
theorem wpV_minZ {x y : Operand} {ts : Array TypeId} {m n e : Int} {k k2 : IntKind} (hw : Region.wanted o (yielded ops a.tmps) = true) (ho : o.op = .call { callee := .builtin .min, args := #[x, y], argTypes := ts }) (hx : a.eval x = .int k m) (hy : a.eval y = .int k2 n) (he : min m n = e)
    (h : wpV P ops w0 L rest (a.put o.dst (.int k e))) : wpV P ops w0 L (o :: rest) a :=
  wpV_val (by simp [isAlloc, ho]) hw (fun W _ => by
    unfold RunsVal
    subst he
    simp only [execOp, ho, resolve, invoke, builtin, Builtin.min_, Builtin.min2]
    simp [hx, hy, Builtin.min2]
    first | omega | (split <;> omega)) h
end vals
theorem scells_take2 (ps : List (List UInt8)) (k : Nat) : (scells ps).take k = scells (ps.take k) := by simp [scells]
theorem scells_drop2 (ps : List (List UInt8)) (k : Nat) : (scells ps).drop k = scells (ps.drop k) := by simp [scells]
theorem scells_part (ps : List (List UInt8)) (lo hi : Nat) : ((scells ps).take hi).drop lo = scells ((ps.take hi).drop lo) := by simp [scells]
def icells (l : List Int) : List Value := l.map fun n => .int .i64 n
theorem icells_len (l : List Int) : (icells l).length = l.length := by simp [icells]
theorem icells_get {l : List Int} {k : Nat} (h : k < l.length) : (icells l)[k]? = some (.int .i64 (l.getD k 0)) := by
  simp [icells, List.getD_eq_getElem?_getD, h]
theorem icells_take2 (l : List Int) (k : Nat) : (icells l).take k = icells (l.take k) := by simp [icells]
theorem icells_drop2 (l : List Int) (k : Nat) : (icells l).drop k = icells (l.drop k) := by simp [icells]
theorem icells_part (l : List Int) (lo hi : Nat) : ((icells l).take hi).drop lo = icells ((l.take hi).drop lo) := by simp [icells]
theorem icells_one (l : List Int) : ∀ v ∈ icells l, v.oneCell' = true := by
  intro v hv
  simp only [icells, List.mem_map] at hv
  obtain ⟨_, _, rfl⟩ := hv
  rfl
end Go.Proofs.Num
