/- A walk over text, byte by byte. -/
import Derived.Test.YticcchgckljlnaaDoorSteps6
import Derived.Lib.OthersKept
set_option linter.unusedSimpArgs false
set_option linter.unusedVariables false
namespace Go.Proofs.Num
open Go Go.RowKit
variable {P : Program}
section tails
variable {ops : Array Oper} {Q : Exit → Act → World → Prop} {o : Oper} {rest : List Oper} {a : Act} {W : World} {v : Value}
def Iter (w : World) (g : Nat) (l : List UInt8) (pos : Nat) : Prop := w.heap[g]? = some (.stringIter (bs l) pos)
theorem Iter.sees {w W : World} {g pos : Nat} {l : List UInt8} (h : Iter w g l pos) (hg : g < w.heap.size) (hS : Sees w W) : Iter W g l pos := (hS.2.2.block g hg).trans h
theorem Iter.puts {w W : World} {g b off n pos : Nat} {l : List UInt8} (h : Iter w g l pos) (hp : Puts b off n w W) (hne : g ≠ b) : Iter W g l pos := (hp.other g hne).trans h
theorem Iter.grew {w W : World} {g b pos : Nat} {l : List UInt8} (h : Iter w g l pos) (hp : Grew b w W) (hne : g ≠ b) (hg : g < w.heap.size) : Iter W g l pos := (hp.block g hg hne).trans h
theorem wpL_range {T : TypeId} {x : Operand} {l : List UInt8} (hg : o.guard = none) (ho : o.op = .range T x) (hx : a.eval x = .string (bs l)) (hT : P.underlying T = some .string)
    (h : ∀ g W', Sees W W' → W.heap.size ≤ g → g < W'.heap.size → Iter W' g l 0 → wpList P ops Q rest (a.put o.dst (.pointer (some ⟨g, 0, none⟩))) W') : wpList P ops Q (o :: rest) a W :=
  wpList_plain hg fun K hK => by
    unfold Oper.wp
    have hr := run_range_string (P := P) W T (bs l) hT
    simp only [execOp, ho, hx, Sem.run_bind, hr, Result.andThen_ok, Sem.run_pure, Oper.upon_value]
    have hi : W.iter (bs l) 0 = W.alloc (.stringIter (bs l) 0) := rfl
    rw [hi]
    exact hK _ _ (h _ _ (sees_alloc (sees_refl W) _) (Nat.le_refl _) (by simp) (heap_alloc_new W _))
theorem wpL_next {x : Operand} {g pos : Nat} {l : List UInt8} (hg : o.guard = none) (ho : o.op = .next x true) (hx : a.eval x = .pointer (some ⟨g, 0, none⟩)) (hI : Iter W g l pos) (hp : pos < l.length) (hb : byteN l pos < 128)
    (h : ∀ W', Grew g W W' → Iter W' g l (pos + 1) → wpList P ops Q rest (a.put o.dst (.tuple #[.bool true, .int .i64 ((pos : Nat) : Int), .int .i32 ((byteN l pos : Nat) : Int)])) W') : wpList P ops Q (o :: rest) a W :=
  wpList_plain hg fun K hK => by
    unfold Oper.wp
    have hr := Go.Lib.run_next_ascii_at (P := P) W g (bs l) pos o.type hI hp (by rw [byteN_get hp] at hb; exact hb)
    rw [show ((bs l)[pos]'hp) = l[pos]'hp from rfl, ← byteN_get hp] at hr
    simp only [execOp, ho, hx, Sem.run_bind, hr, Result.andThen_ok, Sem.run_pure, Oper.upon_value]
    refine hK _ _ (h _ ⟨rfl, rfl, rfl, by simp [World.iterAt], fun k _ hne => ?_⟩ (Go.Lib.iterAt_heap W g (bs l) pos _ hI))
    simp [World.iterAt, Array.getElem?_setIfInBounds_ne (Ne.symm hne)]
theorem wpL_over {x : Operand} {g pos : Nat} {l : List UInt8} (hg : o.guard = none) (ho : o.op = .next x true) (hx : a.eval x = .pointer (some ⟨g, 0, none⟩)) (hI : Iter W g l pos) (hp : ¬ pos < l.length)
    (h : wpList P ops Q rest (a.put o.dst (.tuple #[.bool false])) W) : wpList P ops Q (o :: rest) a W :=
  wpL_val hg (by
    unfold RunsVal
    have hr := Go.Lib.run_next_end_at (P := P) W g (bs l) pos o.type hI hp
    simp only [execOp, ho, hx, Sem.run_bind, hr, Result.andThen_ok, Sem.run_pure]) h
end tails
/-- The order's decimal digits. -/
def ordS : List UInt8 := [50, 55, 55, 52, 50, 51, 49, 55, 55, 55, 55, 51, 55, 50, 51, 53, 51, 53, 51, 53, 56, 53, 49, 57, 51, 55, 55, 57, 48, 56, 56, 51, 54, 52, 56, 52, 57, 51]
def decN (i : Nat) : Nat := (ordS.take i).foldl (fun a c => a * 10 + (c.toNat - 48)) 0
theorem dec_step : ∀ i, i < 38 → 48 ≤ byteN ordS i ∧ byteN ordS i ≤ 57 ∧ decN i * 10 + (byteN ordS i - 48) = decN (i + 1) := by decide
theorem dec_lt : ∀ i, i < 39 → decN i < 65536 ^ 8 := by decide
theorem dec_len {i : Nat} (h : i ≤ 38) : dlen (decN i) ≤ 8 := (dlen_le _ _).2 (dec_lt i (Nat.lt_succ_of_le h))
theorem dec_end : decN 38 + 7237005577332262213973186563042994240829374041602535252466099000494570602496 = ordL := by decide
end Go.Proofs.Num
