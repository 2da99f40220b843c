/- Single steps: slices of arrays, calls of function values, values behind stores, new rows, bytes as text. -/
import Derived.Test.YticcchgckljlnaaDoorSteps2
import Derived.Laws.Slices
import Derived.Laws.Strings
import Derived.Laws.OwnMore
import Derived.Laws.IdiomStrings
import Derived.Test.YticcchgckljlnaaDoorNumF
set_option linter.unusedSimpArgs false
set_option linter.unusedVariables false
namespace Go.Proofs.Num
open Go Go.RowKit
variable {P : Program}
theorem inblock_ret {Q : Exit → Act → World → Prop} {id : Nat} {a : Act} {w : World} (h : Q .ret a w) : Exit.inBlock id Q .ret a w := h
theorem then_ret {Q : Exit → Act → World → Prop} {K : Act → World → Prop} {a : Act} {w : World} (h : Q .ret a w) : Exit.then K Q .ret a w := h
section
variable {ops : Array Oper} {w0 : World} {L : Act → Prop} {o : Oper} {rest : List Oper} {a : Act} {v : Value}
theorem run_slice_all {T e : TypeId} {n : Nat} (g off : Nat) (hT : P.underlying T = some (.array n e)) {s : Nat} (hs : (P.info? e).map (·.size) = some s) (W : World) :
    (Instr.sliceAt T (.pointer (some ⟨g, off, none⟩)) none none none).run P W = .ok (.slice (some ⟨g, off, none⟩) n n) W := by
  have he : P.elem T = e := by simp [Program.elem, hT]
  have hl : P.arrayLen T = n := by simp [Program.arrayLen, hT]
  rw [run_sliceAt_array_all W T ⟨g, off, none⟩ (by rw [hl, he]; exact hT), he, run_sizeOf hs, hl]
  simp [slicedAt, Result.andThen, Addr.add]
theorem wpV_sliceA {T e : TypeId} {x : Operand} {n g off s : Nat} (hw : Region.wanted o (yielded ops a.tmps) = true) (ho : o.op = .slice T x none none none) (hx : a.eval x = .pointer (some ⟨g, off, none⟩))
    (hT : P.underlying T = some (.array n e)) (hs : (P.info? e).map (·.size) = some s) (h : wpV P ops w0 L rest (a.put o.dst (.slice (some ⟨g, off, none⟩) n n))) : wpV P ops w0 L (o :: rest) a :=
  wpV_val (by simp [isAlloc, ho]) hw (fun W _ => by
    unfold RunsVal
    simp only [execOp, ho, hx, Option.map_none, Sem.run_bind, run_slice_all g off hT hs, Result.andThen_ok, Sem.run_pure]) h
theorem run_call_value {ρ : Operand → Value} {f : FuncId} {fn : Func} {y : Operand} {xs : Array Operand} {ts : Array TypeId} {W : World} (ho : o.op = .call { callee := .value y, args := xs, argTypes := ts }) (hρ : ρ y = .func (.func f) #[] #[]) (hf : P.funcs[f]? = some fn)
    (hn : (fn.name == "runtime.NumGoroutine") = false) (hb : fn.body.isNone = false) : (execOp ρ o).run P W = .ok (.enter f (xs.map ρ)) W := by
  have h1 : fn.name ≠ "runtime.NumGoroutine" := by simpa using hn
  have h2 : ¬ fn.body = none := by intro e; simp [e] at hb
  simp [execOp, ho, resolve, hρ, Deferred.ofValue, invoke, callFunc, hf, h1, h2]
theorem wpV_callv {f : FuncId} {fn : Func} {y : Operand} {xs : Array Operand} {ts : Array TypeId} {args : Array Value} (hw : Region.wanted o (yielded ops a.tmps) = true) (ho : o.op = .call { callee := .value y, args := xs, argTypes := ts }) (hy : a.eval y = .func (.func f) #[] #[]) (hf : P.funcs[f]? = some fn)
    (hn : (fn.name == "runtime.NumGoroutine") = false) (hbd : fn.body.isNone = false) (hargs0 : xs.toList.map a.eval = args.toList)
    (hc : ∀ W, Sees w0 W → Calls P f args W (fun e W' => e = .returned v ∧ Below W.heap.size W W')) (h : wpV P ops w0 L rest (a.put o.dst v)) : wpV P ops w0 L (o :: rest) a :=
  wpV_call f args (by simp [isAlloc, ho]) hw hc (fun W _ => by unfold RunsInto; rw [run_call_value ho hy hf hn hbd, (Array.toList_inj.1 (by rw [Array.toList_map]; exact hargs0) : xs.map a.eval = args)]) h
theorem range_sub {w : World} {b o : Nat} {cs : List Value} (h : w.rangeAt b o cs) (j m o' : Nat) {xs : List Value} (hx : (cs.drop j).take m = xs) (ho : o' = o + j) : w.rangeAt b o' xs := fun i v hv => by
  subst hx ho
  have : cs[j + i]? = some v := by
    rw [List.getElem?_take] at hv
    split at hv
    · simpa [List.getElem?_drop] using hv
    · simp at hv
  rw [Nat.add_assoc]
  exact h _ _ this
/-- Bytes as text. -/
theorem wpV_b2s {S T e : TypeId} {x : Operand} {g cap : Nat} {l : List UInt8} (hw : Region.wanted o (yielded ops a.tmps) = true) (ho : o.op = .convert S T x) {n : Nat} (hx : a.eval x = .slice (some ⟨g, 0, none⟩) n cap) (hn : n = l.length)
    (hS : P.underlying S = some (.slice e)) (he : P.underlying e = some (.int .u8)) (hT : P.underlying T = some .string) (hr : w0.rangeAt g 0 (l.map fun b => .int .u8 (b.toNat : Int))) (hg : g < w0.heap.size)
    (h : wpV P ops w0 L rest (a.put o.dst (.string ⟨l.toArray⟩))) : wpV P ops w0 L (o :: rest) a :=
  wpV_val (by simp [isAlloc, ho]) hw (fun W hW => by
    unfold RunsVal
    subst hn
    have hr' := range_sees hr hg hW
    have := run_convert_bytes_back (P := P) W S T e ⟨g, 0, none⟩ cap l hS he hT (fun j hj => by
      have := hr' j (.int .u8 (l[j].toNat : Int)) (by simp [hj])
      rw [Nat.zero_add] at this
      rcases j with _ | j
      · simpa [Addr.add] using this
      · simpa [Addr.add] using this)
    simp only [execOp, ho, hx, Sem.run_bind, this, Result.andThen_ok, Sem.run_pure]) h
end
section
variable {ops : Array Oper} {w0 : World} {L : Act → Prop} {o : Oper} {rest : List Oper} {a : Act} {v : Value}
/-- Text by its bytes. -/
def bs (l : List UInt8) : ByteArray := ⟨l.toArray⟩
theorem bs_data (s : ByteArray) : bs s.data.toList = s := rfl
theorem bs_size (l : List UInt8) : (bs l).size = l.length := rfl
theorem bs_inj {l m : List UInt8} : bs l = bs m ↔ l = m := ⟨fun h => by injection h with h; exact List.toArray_inj h, fun h => by rw [h]⟩
def byteN (l : List UInt8) (i : Nat) : Nat := (l.getD i 0).toNat
theorem byteN_lt (l : List UInt8) (i : Nat) : byteN l i < 256 := (l.getD i 0).toNat_lt
theorem byteN_get {l : List UInt8} {i : Nat} (hi : i < l.length) : byteN l i = l[i].toNat := by unfold byteN; rw [List.getD_eq_getElem?_getD, List.getElem?_eq_getElem hi]; rfl
theorem leN_take_succ (l : List UInt8) {i : Nat} (hi : i < l.length) : leN (l.take (i + 1)) = leN (l.take i) + byteN l i * 256 ^ i := by rw [byteN_get hi]; exact leN_take l hi
theorem wpV_indexb {T : TypeId} {x y : Operand} {n : Nat} {k : IntKind} {l : List UInt8} (hn : n < l.length) (hw : Region.wanted o (yielded ops a.tmps) = true) (ho : o.op = .index T x y) (hx : a.eval x = .string (bs l)) (hy : a.eval y = .int k (n : Nat))
    (hu : P.underlying T = some .string) (h : wpV P ops w0 L rest (a.put o.dst (.int .u8 ((byteN l n : Nat) : Int)))) : wpV P ops w0 L (o :: rest) a :=
  wpV_val (by simp [isAlloc, ho]) hw (fun W _ => by
    unfold RunsVal
    have := run_index_str (P := P) (s := bs l) (k := k) hu hn W
    rw [show ((bs l)[n]'hn) = l[n]'hn from rfl, ← byteN_get hn] at this
    simp only [execOp, ho, hx, hy, this, Sem.run_bind, Result.andThen_ok, Sem.run_pure]) h
theorem bs_beq (l m : List UInt8) : ((bs l).toList == (bs m).toList) = decide (l = m) := by
  rw [show (bs l).toList = l from ByteArray.toList_mk l, show (bs m).toList = m from ByteArray.toList_mk m]
  by_cases h : l = m <;> simp [h]
theorem run_eql_bs (T : TypeId) (l m : List UInt8) (W : World) : (binOp .eql T (.string (bs l)) (.string (bs m))).run P W = .ok (.bool (decide (l = m))) W := by
  simp [binOp, go_sem, Op.stringOp, bs_beq]
theorem run_neq_bs (T : TypeId) (l m : List UInt8) (W : World) : (binOp .neq T (.string (bs l)) (.string (bs m))).run P W = .ok (.bool (decide (l ≠ m))) W := by
  simp [binOp, go_sem, Op.stringOp, bs_beq]
theorem wpV_binS {op : BinOp} {T T' : TypeId} {x y : Operand} {s t : ByteArray} {v : Value} (hw : Region.wanted o (yielded ops a.tmps) = true) (ho : o.op = .binOp op T x y T') (hx : a.eval x = .string s) (hy : a.eval y = .string t)
    (hr : ∀ W, (binOp op T (.string s) (.string t)).run P W = .ok v W) (h : wpV P ops w0 L rest (a.put o.dst v)) : wpV P ops w0 L (o :: rest) a :=
  wpV_val (by simp [isAlloc, ho]) hw (fun W _ => by
    unfold RunsVal
    simp only [execOp, ho, hx, hy, Sem.run_bind, Sem.run_pure]
    have := hr W
    have e : (eqGuard op T x y (.string s) (.string t)).run P W = .ok () W := by
      unfold eqGuard
      cases op <;> simp
    simp only [e, Result.andThen_ok, this]) h
theorem wpV_lenS {x : Operand} {ts : Array TypeId} {l : List UInt8} (hw : Region.wanted o (yielded ops a.tmps) = true) (ho : o.op = .call { callee := .builtin .len, args := #[x], argTypes := ts }) (hx : a.eval x = .string (bs l)) {T : TypeId} (ht : ts[0]? = some T) (hu : P.underlying T = some .string)
    (h : wpV P ops w0 L rest (a.put o.dst (.int .i64 ((l.length : Nat) : Int)))) : wpV P ops w0 L (o :: rest) a :=
  wpV_val (by simp [isAlloc, ho]) hw (fun W _ => by
    unfold RunsVal
    rw [← bs_size]
    simp [execOp, ho, hx, resolve, invoke, builtin, Builtin.len_, goInt, ht, run_underlying hu]) h
theorem wpV_lenA {x : Operand} {ts : Array TypeId} {p : Option Addr} {n cap : Nat} (hw : Region.wanted o (yielded ops a.tmps) = true) (ho : o.op = .call { callee := .builtin .len, args := #[x], argTypes := ts }) (hx : a.eval x = .slice p n cap) {T e : TypeId} (ht : ts[0]? = some T) (hu : P.underlying T = some (.slice e))
    (h : wpV P ops w0 L rest (a.put o.dst (.int .i64 ((n : Nat) : Int)))) : wpV P ops w0 L (o :: rest) a :=
  wpV_val (by simp [isAlloc, ho]) hw (fun W _ => by
    unfold RunsVal
    simp [execOp, ho, hx, resolve, invoke, builtin, Builtin.len_, goInt, ht, run_underlying hu]) h
theorem run_top {T : TypeId} {m : Int} {k' : IntKind} (hm : 0 ≤ m) (W : World) : (binOp .shr T (.int .u64 m) (.int k' 63)).run P W = .ok (.int .u64 (top m)) W := by
  obtain ⟨m, rfl⟩ := Int.eq_ofNat_of_zero_le hm
  refine run_shr (m := m) (n := 63) (by decide) ?_ W
  unfold top; omega
theorem run_shl1 {T : TypeId} {m : Int} {k' : IntKind} (hm : 0 ≤ m) (W : World) : (binOp .shl T (.int .u64 m) (.int k' 1)).run P W = .ok (.int .u64 (IntKind.u64.wrap (m * 2))) W := by
  obtain ⟨m, rfl⟩ := Int.eq_ofNat_of_zero_le hm
  exact run_shl (m := m) (n := 1) (by decide) rfl W
theorem run_conv_int {S T : TypeId} {k k' : IntKind} {m e : Int} {d : TypeDesc} (hS : P.underlying S = some d) (hT : P.underlying T = some (.int k)) (h : k.wrap m = e) (W : World) : (convert S T (.int k' m)).run P W = .ok (.int k e) W := by
  subst h
  cases d <;> simp [convert, run_underlying hS, run_underlying hT, Conv.intToInt]
end
section tails
variable {ops : Array Oper} {Q : Exit → Act → World → Prop} {o : Oper} {rest : List Oper} {a : Act} {W : World} {v : Value}
theorem wpL_val (hg : o.guard = none) (hr : RunsVal ((execOp a.eval o).run P W) v W) (h : wpList P ops Q rest (a.put o.dst v) W) : wpList P ops Q (o :: rest) a W :=
  wpList_plain hg fun K hK => by
    unfold RunsVal at hr
    unfold Oper.wp
    simp only [hr, Oper.upon_value]
    exact hK _ _ h
theorem wpL_idx {T : TypeId} {x y : Operand} {e : TypeId} {len g off n : Nat} {k : IntKind} (hg : o.guard = none) (ho : o.op = .indexAddr T x y) (hx : a.eval x = .pointer (some ⟨g, off, none⟩)) (hy : a.eval y = .int k (n : Nat))
    (hu : P.underlying T = some (.array len e)) (hs : (P.info? e).map (·.size) = some 1) (hn : n < len) (h : wpList P ops Q rest (a.put o.dst (.pointer (some ⟨g, off + n, none⟩))) W) : wpList P ops Q (o :: rest) a W :=
  wpL_val hg (by
    unfold RunsVal
    simp only [execOp, ho, hx, hy, Sem.run_bind, run_indexAt_arr hu hs hn, Result.andThen_ok, Sem.run_pure]) h
/-- A new row. -/
theorem wpL_make {T e : TypeId} {x y : Operand} {n bytes : Nat} {k k' : IntKind} {z : Value} (hg : o.guard = none) (ho : o.op = .makeSlice T x y) (hx : a.eval x = .int k (n : Nat)) (hy : a.eval y = .int k' (n : Nat))
    (hT : P.underlying T = some (.slice e)) (hinfo : (P.info? e).map (fun i => (i.zero, i.size, i.bytes)) = some (some z, 1, bytes)) (hzc : z.cells = #[z]) (hb : bytes * n ≤ 281474976710656) (h63 : n ≤ 9223372036854775807)
    (h : ∀ g W', Sees W W' → W.heap.size ≤ g → Blk W' g e (List.replicate n z).toArray → wpList P ops Q rest (a.put o.dst (.slice (some ⟨g, 0, none⟩) n n)) W') : wpList P ops Q (o :: rest) a W := by
  obtain ⟨i, hi, he⟩ := Option.map_eq_some_iff.1 hinfo
  simp only [Prod.mk.injEq] at he
  obtain ⟨hz, h1, h2⟩ := he
  subst h2
  have hmc : madeCells z.cells (((n : Nat) : Int).toNat * i.size) = (List.replicate n z).toArray := by
    rw [h1, hzc, madeCells]
    apply Array.ext
    · simp
    · intro j hj1 hj2; simp [Nat.mod_one]
  have hrun := run_make (P := P) W T e i z hT hi hz k k' (n : Nat) (n : Nat) (by omega) (by omega) (by rw [← Int.natCast_mul]; exact Int.ofNat_le.2 hb) (by omega)
  rw [hmc] at hrun
  refine wpList_plain hg fun K hK => ?_
  unfold Oper.wp
  simp only [execOp, ho, hx, hy, Sem.run_bind, hrun, Result.andThen_ok, Sem.run_pure, Oper.upon_value, Int.toNat_natCast]
  exact hK _ _ (h _ _ (sees_alloc (sees_refl W) _) (Nat.le_refl _) (Blk.new _ _ _))
end tails
end Go.Proofs.Num
