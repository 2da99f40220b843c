/- Drawn regions: what hangs on no world goes first, guarded or not. -/
import Derived.Test.YtpgpjoldelobdaaDoorMac
import Derived.Test.YtpgpjoldelobdaaDoorShq
set_option linter.unusedSimpArgs false
set_option linter.unusedVariables false
namespace Go.Proofs.Num
open Go Go.RowKit
section
variable {P : Program} {Q : Exit → Act → World → Prop}
theorem any_firstW {l : List Oper} {fuel : Nat} {listed : Array Bool} {a : Act} {w : World} (i : Nat) {o : Oper} {v : Value} (h : wpAny P .any l.toArray (NoPanic Q) fuel (listed.setIfInBounds i true) (a.put o.dst v) w) (hi : l[i]? = some o := by rfl) (hv : ∀ W, RunsVal ((execOp a.eval o).run P W) v W) (hw : Region.wanted o (yielded l.toArray a.tmps) = true := by rfl) (hB : firstB l.toArray listed i = true := by kernel_rfl) : wpAny P .any l.toArray (NoPanic Q) (fuel + 1) listed a w := by
 simp only [firstB, Bool.and_eq_true] at hB
 obtain ⟨⟨hs, hr⟩, hall⟩ := hB
 have hoi : l.toArray[i]? = some o := by simpa using hi
 refine wpAny_first (i := i) (oi := o) (v := v) hoi (fun j oj cs b hj => Region.noSelect_spec hs j oj cs b hj) (fun c a w hp => absurd hp (nopanic_not _ _ _)) fuel listed a w (fun j oj hj hne hl hw => ?_) (by simpa using hr) (.inl ⟨hw, hv⟩) h
 have := List.all_eq_true.1 hall j (List.mem_range.2 (Array.getElem?_eq_some_iff.1 hj).1)
 simp only [hoi, hj, Bool.or_eq_true, beq_iff_eq] at this
 rcases this with ((h1 | h1) | h1) | h1
 ·
  exact absurd h1 hne
 ·
  rw [hl] at h1; cases h1
 ·
  rw [Array.any_eq_true] at h1
  obtain ⟨q, hq, h2⟩ := h1
  simp only [Bool.and_eq_true, beq_iff_eq] at h2
  exact absurd h2.2 (hw _ (Array.getElem_mem hq) h2.1)
 ·
  exact h1
variable {o : Oper} {a : Act} {v : Value}
theorem yl_binS {op : BinOp} {T T' : TypeId} {x y : Operand} {s t : ByteArray} (ho : o.op = .binOp op T x y T') (hx : a.eval x = .string s) (hy : a.eval y = .string t) (hr : ∀ W, (binOp op T (.string s) (.string t)).run P W = .ok v W) (W : World) : RunsVal ((execOp a.eval o).run P W) v W := by
 unfold RunsVal
 have e : (eqGuard op T x y (.string s) (.string t)).run P W = .ok () W := by
  unfold eqGuard
  cases op <;> simp
 simp only [execOp, ho, hx, hy, Sem.run_bind, e, Result.andThen_ok, hr W, Sem.run_pure]
theorem yl_pick {c x y : Operand} {b : Bool} (ho : o.op = .pick c x y) (hc : a.eval c = .bool b) (hv : (if b then a.eval x else a.eval y) = v) (W : World) : RunsVal ((execOp a.eval o).run P W) v W := by
 unfold RunsVal
 cases b <;> simp_all [execOp, asBool]
end
end Go.Proofs.Num
namespace Go.Proofs.Num
open Go Go.RowKit
end Go.Proofs.Num

