/- The tables of keys as they are laid: what the walks read. -/
import Derived.Test.YtpgpjoldelobdaaDoorRows
import Derived.Test.YtpgpjoldelobdaaDoorShq
set_option linter.unusedSimpArgs false
set_option linter.unusedVariables false
namespace Go.Proofs.Yc
open Go Go.RowKit Go.ChangeShapes Go.WideShapes Go.ChangeAt Go.Proofs.Num Go.Proofs.YtpgpjoldelobdaaDoor
open Nat renaming zero_add → Z2
def laidB : List (String × DataW Unit) := [("imprimatur/sha256.keys", Rows.laid_imprimatur_sha256_keys), ("imprimatur/sha512.keys", Rows.laid_imprimatur_sha512_keys)]
theorem ownB : ownKnob Tryd.prog.godebug = none := by kernel_rfl
theorem laidOutB' : laidOutB Tryd.prog = true := by kernel_rfl
theorem door_met (os : Os) (args : Array Value) : laidMetH Tryd.prog laidB ((World.doorLaid Tryd.prog 400 os).forCall (fun _ _ => 0) ⟨#[], args, []⟩).memory :=
 laidMetH_of_parts3 (fuel := 8) (laidMet_of_run' 8 (by kernel_rfl) (by kernel_rfl)) (by kernel_rfl) (by kernel_rfl)
theorem gKeys0 : Tryd.prog.globalNamed "imprimatur/sha256.keys" = some 1 := by kernel_rfl
theorem tKeys0 : (Tryd.prog.globals[1]?).map (·.type) = some 196 := by kernel_rfl
theorem keysD0 : Rows.laid_imprimatur_sha256_keys (H := Unit) = .agg (keyL.map fun n => .lit (.int .u32 ((n : Nat) : Int))) := by kernel_rfl
theorem of_laid0 {H : Type} {enc : TypeId × Value → H} {W : World} {b : Nat} {sp : Nat → Bool} {hd : Bool} {g0 : Nat} {t0 : TypeId} {cs0 : Array Value} {ps : List MemPlace} {n0 : Nat} (hg0 : Tryd.prog.globalNamed "imprimatur/sha256.keys" = some g0) (ht0 : (Tryd.prog.globals[g0]?).map (·.type) = some t0) (hv0 : W.var? Tryd.prog "imprimatur/sha256.keys" = some cs0)
  (hd0 : DataW.trod enc Tryd.prog W b sp hd n0 t0 cs0.toList = some (.agg (keyL.map fun n => .lit (.int .u32 ((n : Nat) : Int))), ps)) : 1 < W.heap.size ∧ W.rangeAt 1 0 kcells := by
 obtain rfl := Option.some.inj (gKeys0.symm.trans hg0)
 obtain rfl := Option.some.inj (tKeys0.symm.trans ht0)
 obtain ⟨xs, m1, hx0, hx1, hlen, hn3, hel⟩ := DataW.trod_array Tryd.underlying196 hd0
 have c1 : Tryd.prog.cellsOf 147 = 1 := by kernel_rfl
 rw [c1] at hel
 simp only [Prod.mk.injEq] at hx1
 have hx2 : xs.map (·.1) = keyL.map fun n => .lit (.int .u32 ((n : Nat) : Int)) := by
  have := hx1.1.symm
  injection this
 have hk : keyL.length = 64 := by decide
 have hcell : W.rangeAt 1 0 kcells := fun j v hv => by
  have := World.var?_cell hg0 hv0 j
  rw [Z2, this]
  have h2 := cells_of_ints (P := Tryd.prog) (cs := cs0.toList) Tryd.underlying147 (hn3.trans hk.symm) hx2 (fun i hi => hel i (by omega)) j v hv
  simpa using h2
 refine ⟨?_, hcell⟩
 have h0 := hcell 0 _ (kcells_get (t := 0) (by decide))
 unfold World.cell? at h0
 split at h0
 ·
  rename_i hh
  exact (Array.getElem?_eq_some_iff.1 hh).1
 cases h0
theorem gKeys1 : Tryd.prog.globalNamed "imprimatur/sha512.keys" = some 2 := by kernel_rfl
theorem tKeys1 : (Tryd.prog.globals[2]?).map (·.type) = some 201 := by kernel_rfl
theorem keysD1 : Rows.laid_imprimatur_sha512_keys (H := Unit) = .agg (keyLq.map fun n => .lit (.int .u64 ((n : Nat) : Int))) := by kernel_rfl
theorem of_laid1 {H : Type} {enc : TypeId × Value → H} {W : World} {b : Nat} {sp : Nat → Bool} {hd : Bool} {g0 : Nat} {t0 : TypeId} {cs0 : Array Value} {ps : List MemPlace} {n0 : Nat} (hg0 : Tryd.prog.globalNamed "imprimatur/sha512.keys" = some g0) (ht0 : (Tryd.prog.globals[g0]?).map (·.type) = some t0) (hv0 : W.var? Tryd.prog "imprimatur/sha512.keys" = some cs0)
  (hd0 : DataW.trod enc Tryd.prog W b sp hd n0 t0 cs0.toList = some (.agg (keyLq.map fun n => .lit (.int .u64 ((n : Nat) : Int))), ps)) : 2 < W.heap.size ∧ W.rangeAt 2 0 kcellsq := by
 obtain rfl := Option.some.inj (gKeys1.symm.trans hg0)
 obtain rfl := Option.some.inj (tKeys1.symm.trans ht0)
 obtain ⟨xs, m1, hx0, hx1, hlen, hn3, hel⟩ := DataW.trod_array Tryd.underlying201 hd0
 have c1 : Tryd.prog.cellsOf 40 = 1 := by kernel_rfl
 rw [c1] at hel
 simp only [Prod.mk.injEq] at hx1
 have hx2 : xs.map (·.1) = keyLq.map fun n => .lit (.int .u64 ((n : Nat) : Int)) := by
  have := hx1.1.symm
  injection this
 have hk : keyLq.length = 80 := by decide
 have hcell : W.rangeAt 2 0 kcellsq := fun j v hv => by
  have := World.var?_cell hg0 hv0 j
  rw [Z2, this]
  have h2 := cells_of_ints (P := Tryd.prog) (cs := cs0.toList) Tryd.underlying40 (hn3.trans hk.symm) hx2 (fun i hi => hel i (by omega)) j v hv
  simpa using h2
 refine ⟨?_, hcell⟩
 have h0 := hcell 0 _ (kcells_getq (t := 0) (by decide))
 unfold World.cell? at h0
 split at h0
 ·
  rename_i hh
  exact (Array.getElem?_eq_some_iff.1 hh).1
 cases h0
theorem of_laid {W : World} (h : laidMetH Tryd.prog laidB W) : (1 < W.heap.size ∧ W.rangeAt 1 0 kcells) ∧ (2 < W.heap.size ∧ W.rangeAt 2 0 kcellsq) := by
 rw [MakeChecks.laidMetH_plain _ _ _ (by kernel_rfl)] at h
 obtain ⟨ps0, ⟨g0, t0, cs0, f0, p0, q0, hg0, ht0, hv0, hd0, ⟨g1, t1, cs1, f1, p1, q1, hg1, ht1, hv1, hd1, _, _⟩, _⟩, _, _⟩ := h
 rw [keysD0] at hd0
 rw [keysD1] at hd1
 exact ⟨of_laid0 hg0 ht0 hv0 hd0, of_laid1 hg1 ht1 hv1 hd1⟩
end Go.Proofs.Yc

