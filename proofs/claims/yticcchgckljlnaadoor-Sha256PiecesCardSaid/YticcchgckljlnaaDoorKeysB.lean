/- The table of keys as it is laid: what the walks read. -/
import Derived.Test.YticcchgckljlnaaDoorRows
import Derived.Test.YticcchgckljlnaaDoorJoinB
import Derived.Test.YticcchgckljlnaaDoorSha
set_option linter.unusedSimpArgs false
set_option linter.unusedVariables false
namespace Go.Proofs.Yb
open Go Go.RowKit Go.ChangeShapes Go.WideShapes Go.ChangeAt Go.Proofs.Num Go.Proofs.YticcchgckljlnaaDoor
def laidB : List (String × DataW Unit) := [("imprimatur/sha256.keys", Rows.laid_imprimatur_sha256_keys)]
theorem ownB : ownKnob Tryd.prog.godebug = none := by kernel_rfl
theorem laidOutB' : laidOutB Tryd.prog = true := by kernel_rfl
theorem gKeys : Tryd.prog.globalNamed "imprimatur/sha256.keys" = some 0 := by kernel_rfl
theorem tKeys : (Tryd.prog.globals[0]?).map (·.type) = some 119 := by kernel_rfl
theorem door_met (os : Os) (args : Array Value) : laidMetH Tryd.prog laidB ((World.doorLaid Tryd.prog 400 os).forCall (fun _ _ => 0) ⟨#[], args, []⟩).memory :=
  laidMetH_of_parts3 (fuel := 8) (laidMet_of_run' 8 (by kernel_rfl) (by kernel_rfl)) (by kernel_rfl) (by kernel_rfl)
theorem keysD : Rows.laid_imprimatur_sha256_keys (H := Unit) = .agg (keyL.map fun n => .lit (.int .u32 ((n : Nat) : Int))) := by kernel_rfl
theorem of_laid {W : World} (h : laidMetH Tryd.prog laidB W) : 0 < W.heap.size ∧ W.rangeAt 0 0 kcells := by
  rw [MakeChecks.laidMetH_plain _ _ _ (by kernel_rfl)] at h
  obtain ⟨ps, ⟨g0, t0, cs0, f0, p0, q0, hg0, ht0, hv0, hd0, _, _⟩, _, _⟩ := h
  obtain rfl := Option.some.inj (gKeys.symm.trans hg0)
  obtain rfl := Option.some.inj (tKeys.symm.trans ht0)
  obtain ⟨xs, m1, rfl, hx1, hlen, hn3, hel⟩ := DataW.trod_array Tryd.underlying119 hd0
  have c1 : Tryd.prog.cellsOf 25 = 1 := by kernel_rfl
  rw [c1] at hel
  simp only [Prod.mk.injEq] at hx1
  have hx2 : xs.map (·.1) = keyL.map fun n => .lit (.int .u32 ((n : Nat) : Int)) := by
    have := hx1.1.symm.trans keysD
    injection this
  have hk : keyL.length = 64 := by decide
  have hcell : W.rangeAt 0 0 kcells := fun j v hv => by
    have := World.var?_cell hg0 hv0 j
    rw [Nat.zero_add, this]
    have h2 := cells_of_ints (P := Tryd.prog) (cs := cs0.toList) Tryd.underlying25 (hn3.trans hk.symm) hx2 (fun i hi => hel i (by omega)) j v hv
    simpa using h2
  refine ⟨?_, hcell⟩
  have h0 := hcell 0 _ (kcells_get (t := 0) (by decide))
  unfold World.cell? at h0
  split at h0
  · rename_i hh
    exact (Array.getElem?_eq_some_iff.1 hh).1
  · cases h0
end Go.Proofs.Yb
