/- Texts cut and joined; the least of two; a row of two bytes. -/
import Derived.Test.YticcchgckljlnaaDoorSteps7
set_option linter.unusedSimpArgs false
set_option linter.unusedVariables false
namespace Go.Proofs.Num
open Go Go.RowKit
variable {P : Program}
section vals
variable {ops : Array Oper} {w0 : World} {L : Act → Prop} {o : Oper} {rest : List Oper} {a : Act}
def cut (l : List UInt8) (k : Nat) : List UInt8 := l.take (min l.length k)
theorem cut_len (l : List UInt8) (k : Nat) : (cut l k).length ≤ k := by unfold cut; rw [List.length_take]; omega
theorem wpV_min {x : Operand} {ts : Array TypeId} {n m : Nat} {k k2 : IntKind} (hw : Region.wanted o (yielded ops a.tmps) = true) {y : Operand} (ho : o.op = .call { callee := .builtin .min, args := #[x, y], argTypes := ts }) (hx : a.eval x = .int k (n : Nat)) (hy : a.eval y = .int k2 (m : Nat))
    (h : wpV P ops w0 L rest (a.put o.dst (.int k ((min n m : Nat) : Int)))) : wpV P ops w0 L (o :: rest) a :=
  wpV_val (by simp [isAlloc, ho]) hw (fun W _ => by
    unfold RunsVal
    simp only [execOp, ho, resolve, invoke, builtin, Builtin.min_, Builtin.min2]
    simp [hx, hy, Builtin.min2]
    split <;> omega) h
theorem run_sliceS {T : TypeId} (hT : P.underlying T = some .string) {l : List UInt8} {hi : Nat} {k : IntKind} (hh : hi ≤ l.length) (W : World) : (Instr.sliceAt T (.string (bs l)) none (some (.int k ((hi : Nat) : Int))) none).run P W = .ok (.string (bs (l.take hi))) W := by
  have e : (bs l).extract 0 hi = bs (l.take hi) := by
    apply ByteArray.ext
    simp [bs, ByteArray.extract, ByteArray.copySlice]
  simp [Instr.sliceAt, Instr.slice, Instr.sliceBounds, Instr.sliceBound, asIntOf, run_underlying hT, Sem.run_bind, hh, bs_size, e]
theorem wpV_cut {T : TypeId} {x y : Operand} {l : List UInt8} {m : Nat} {k : IntKind} (hw : Region.wanted o (yielded ops a.tmps) = true) (ho : o.op = .slice T x none (some y) none) (hx : a.eval x = .string (bs l)) (hy : a.eval y = .int k ((min l.length m : Nat) : Int))
    (hT : P.underlying T = some .string) (h : wpV P ops w0 L rest (a.put o.dst (.string (bs (cut l m))))) : wpV P ops w0 L (o :: rest) a :=
  wpV_val (by simp [isAlloc, ho]) hw (fun W _ => by
    unfold RunsVal
    have h1 : min l.length m ≤ l.length := Nat.min_le_left ..
    have := run_sliceS (P := P) hT (k := k) h1 W
    simp only [execOp, ho, hx, hy, Option.map_none, Option.map_some, Sem.run_bind, this, Result.andThen_ok, Sem.run_pure]
    rfl) h
theorem run_add_bs (T : TypeId) (l m : List UInt8) (h : l.length + m.length ≤ 9223372036854775807) (W : World) : (binOp .add T (.string (bs l)) (.string (bs m))).run P W = .ok (.string (bs (l ++ m))) W := by
  have e : bs l ++ bs m = bs (l ++ m) := by
    apply ByteArray.ext
    simp [bs]
  have h2 : ¬ IntKind.i64.max < ((bs l).size : Int) + ((bs m).size : Int) := by
    simp [bs_size, IntKind.max, IntKind.signed, IntKind.bits]
    omega
  simp [binOp, go_sem, Op.stringOp, e, h2]
  simp [bs_size]
  omega
end vals
section tails
variable {ops : Array Oper} {Q : Exit → Act → World → Prop} {o : Oper} {rest : List Oper} {a : Act} {W : World} {v : Value}
theorem wpL_row2 {T e : TypeId} {x y : Operand} {k : IntKind} {n m : Int} {z : Value} {bytes : Nat} (hg : o.guard = none) (ho : o.op = .buildSlice T 2 #[(0, x), (1, y)]) (hx : a.eval x = .int k n) (hy : a.eval y = .int k m) (hT : P.underlying T = some (.slice e)) (hinfo : (P.info? e).map (fun i => (i.zero, i.size, i.bytes)) = some (some z, 1, bytes)) (hzc : z.cells = #[z])
    (h : ∀ g W', Sees W W' → W.heap.size ≤ g → Blk W' g e #[.int k n, .int k m] → wpList P ops Q rest (a.put o.dst (.slice (some ⟨g, 0, none⟩) 2 2)) W') : wpList P ops Q (o :: rest) a W := by
  obtain ⟨i, hi, he⟩ := Option.map_eq_some_iff.1 hinfo
  simp only [Prod.mk.injEq] at he
  obtain ⟨hz, h1, h2⟩ := he
  refine wpL_new (T := T) (e := e) (len := 2) (cs := [.int k n, .int k m]) hg ?_ h
  have := run_buildSlice (P := P) W T e 2 #[(0, .int k n), (1, .int k m)] #[.int k n, .int k m] i z hT hi hz (by rw [h1]; decide) (by rw [h1]; decide) (by
    rw [h1, hzc]
    have : ∀ f : Nat → Value, (Array.range 2).map f = #[f 0, f 1] := fun f => by apply Array.ext' ; simp [Array.toList_range, List.range_succ]
    simp [Instr.fill, Value.cells, this])
  simp [execOp, ho, hx, hy, this]
end tails
theorem raw_app (i x : Nat) : bcells (bytesN (2 * i) x) ++ [.int .u8 ((digN x i % 256 % 256 : Nat) : Int), .int .u8 ((digN x i / 256 % 256 : Nat) : Int)] = bcells (bytesN (2 * (i + 1)) x) := by
  have e : bytesN (2 * (i + 1)) x = bytesN (2 * i) x ++ [UInt8.ofNat (x / 256 ^ (2 * i)), UInt8.ofNat (x / 256 ^ (2 * i + 1))] := by
    simp [bytesN, Nat.mul_add, List.range_succ]
  have h1 : digN x i % 256 % 256 = x / 256 ^ (2 * i) % 256 := by
    unfold digN
    rw [show (65536 : Nat) ^ i = 256 ^ (2 * i) by rw [show (65536 : Nat) = 256 ^ 2 by decide, ← Nat.pow_mul]]
    omega
  have h2 : digN x i / 256 % 256 = x / 256 ^ (2 * i + 1) % 256 := by
    unfold digN
    rw [Nat.pow_succ, ← Nat.div_div_eq_div_mul, show (65536 : Nat) ^ i = 256 ^ (2 * i) by rw [show (65536 : Nat) = 256 ^ 2 by decide, ← Nat.pow_mul]]
    omega
  rw [e, h1, h2]
  simp [bcells, UInt8.toNat_ofNat']
theorem bs_of (s : ByteArray) : ∃ l, s = bs l := ⟨s.data.toList, rfl⟩
theorem byteN_eq (l : List UInt8) (i : Nat) : byteN l i = leN l / 256 ^ i % 256 := by
  rw [leN_get]
  unfold byteN
  cases h : l[i]? <;> simp [List.getD, h]
theorem byteN_over {l : List UInt8} {i : Nat} (h : l.length ≤ i) : byteN l i = 0 := by
  unfold byteN
  simp [List.getD, List.getElem?_eq_none h]
theorem read_dig (l : List UInt8) (k : Nat) : byteN l (2 * k) + 256 * byteN l (2 * k + 1) = digN (leN l) k := by
  rw [byteN_eq, byteN_eq]
  unfold digN
  rw [Nat.pow_succ, ← Nat.div_div_eq_div_mul, show (65536 : Nat) ^ k = 256 ^ (2 * k) by rw [show (65536 : Nat) = 256 ^ 2 by decide, ← Nat.pow_mul]]
  omega
theorem read_lt {l : List UInt8} {n : Nat} (h : l.length ≤ 2 * n) : leN l < 65536 ^ n := by
  refine Nat.lt_of_lt_of_le (leN_lt l) ?_
  rw [show (65536 : Nat) = 256 ^ 2 by decide, ← Nat.pow_mul]
  exact Nat.pow_le_pow_right (by decide) h
end Go.Proofs.Num
