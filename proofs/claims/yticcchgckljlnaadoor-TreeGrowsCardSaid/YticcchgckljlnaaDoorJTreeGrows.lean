/-
  The law TreeGrows: a tree that goes on from none, by any leaves in any pieces, has the parts of these, and their root: it returns true.
  For every input, without any condition but that the package's table of keys stands as the program lays it, which is tied to the program's text.
-/
import Derived.Test.YticcchgckljlnaaDoorCards
import Derived.Test.YticcchgckljlnaaDoorTie
import Derived.Test.YticcchgckljlnaaDoorBld
import Derived.SevenTiedAt
import Derived.Test.YticcchgckljlnaaDoorTr15
import Derived.Test.YticcchgckljlnaaDoorJoinI
set_option linter.unusedSimpArgs false
set_option linter.unusedVariables false
namespace Go.Proofs.YticcchgckljlnaaDoor
open Go Go.RowKit Go.ChangeShapes Go.WideShapes Go.ChangeAt Go.Proofs.Num Go.Proofs.Yb
open Go.ChangeMaps (open_string shut_string)
set_option maxRecDepth 100000 in
set_option maxHeartbeats 1000000 in
theorem treeGrows_lifted (os : Os) (started : os.Started) (H : Type) (enc : TypeId × Value → H) :
    ReturnsInHanded {} Tryd.checked os 14 .any (fun w args => (Rows.treeGrowsSpec.pre enc Tryd.prog Tryd.f14 [] false w args ∧ laidMetH Tryd.prog laidB w) ∧ sizedMet enc Tryd.prog Tryd.f14 (OpenSpec.ofChange Rows.treeGrowsSpec) false w args)
      (Rows.treeGrowsSpec.post enc Tryd.prog Tryd.f14 false true false false) := by
  refine returnsInHanded_of_change_and (C := Tryd.checked) (X := fun w _ => laidMetH Tryd.prog laidB w) (fun _ _ _ hh h => h.of_heap hh) ownB started (by kernel_rfl) Tryd.func14
    (ChangeSpec.witness_shaped (enc := enc) (C := Tryd.checked) (os := os) (X := fun w _ => laidMetH Tryd.prog laidB w) false (World.doorLaid Tryd.prog 400 os) #[.slice none 0 0, .slice none 0 0] 8 rfl (World.shaped_of_RefB (by kernel_rfl) (by kernel_rfl)) (by kernel_rfl) (by kernel_rfl) (by kernel_rfl) (door_met os _)) ?_
  intro W base args ds gs before hval0 hW _ hsz hL _
  have hval : ∀ (j : Nat) t v, Tryd.f14.params[j]? = some t → args[j]? = some v → Value.okWide Tryd.prog W .any base t v := hval0
  have hW' := hW
  obtain ⟨p, q, hA0, hV, rfl, hfz, hnd⟩ := hW
  have hA : DataW.TrodAll enc Tryd.prog W 0 (fun _ => true) true Tryd.f14.params.toList args.toList ds p := hA0
  have hP : DataW.TrodAll enc Tryd.prog W 0 (fun _ => true) true Tryd.f14.params.toList args.toList ds p := hA0
  rw [Tryd.params14] at hA hval
  obtain ⟨v0, v1, d0, d1, p0, p1, rfl, rfl, rfl, h0, h1⟩ := trodAll_two hA
  obtain ⟨rfl, rfl⟩ := trodVars_none hV
  obtain ⟨L0, R0⟩ := of_laid hL
  obtain ⟨l0, q0⟩ := open_rowS Tryd.underlying48 Tryd.underlying9 (by kernel_rfl) (hval 0 48 v0 rfl rfl) h0
  have z0 := row_bound Tryd.underlying48 Tryd.underlying9 (by kernel_rfl) (hval 0 48 v0 rfl rfl) h0 q0
  obtain ⟨a0, c0, rfl, r0⟩ := q0.open
  obtain ⟨l1, a1, n1, c1, rfl, r1⟩ := open_rowI Tryd.underlying47 Tryd.underlying3 (by kernel_rfl) (hval 1 47 v1 rfl rfl) h1
  clear hA0 hval0
  refine (grows_c (by exact z0) r0 L0 R0 r1 (w := W)).mono fun e W' ⟨he, hb⟩ => ?_
  subst he
  exact ⟨_, rfl, post_below laidOutB' (by kernel_rfl) hW' hP (fun _ _ _ => trodAll_mk1 (shut_bool Tryd.underlying4 _)) rfl (fun _ => rfl) hb⟩
theorem treeGrows_row : Rows.TreeGrowsSaid :=
  OpenClaim.holds_of_wide 14 Tryd.f14 rfl rfl rfl rfl rfl rfl rfl ⟨rfl, rfl, rfl, rfl, rfl⟩ rfl rfl rfl rfl rfl (by kernel_rfl) Tryd.func14 (by kernel_rfl)
    (of_decide_eq_true (by kernel_rfl)) (by unfold Func.isWrapper; first | (rw [if_pos (by decide +kernel)]; kernel_rfl) | (rw [if_neg (by decide +kernel)]; exact ⟨rfl, rfl⟩))
    (fun os started H enc _ => treeGrows_lifted os started H enc)
theorem treeGrows_holds : Rows.TreeGrowsCardSaid :=
  Claim7.holds_tied_plain_at .later [] [.data] true (true, "47274f0b3ce2b699eae74ec9eac7a5ead40ec7e9946ac84f6e4d644eaa80d414") false
    treeGrows_row (fun _ h => by cases h) (by kernel_rfl) (fun _ h => by cases h) treeGrows_row_tie rfl ⟨rfl, rfl⟩ (by kernel_rfl) rfl
    (fun f fn hf hfn => by
      obtain rfl : f = 14 := Option.some.inj ((show Tryd.prog.funcNamed "imprimatur/imprimaturlaw08.TreeGrows" = some 14 by kernel_rfl).symm.trans hf) |>.symm
      obtain rfl : fn = Tryd.f14 := (Option.some.inj (Tryd.func14.symm.trans hfn)).symm
      exact ⟨by kernel_rfl, fun j t ht => by
        rw [Tryd.params14] at ht
        have hm : t ∈ [48, 47] := by simpa using Array.mem_of_getElem? ht
        have hall : ([48, 47].all fun u => !Tryd.prog.wantsStandIn u) = true := by kernel_rfl
        exact (show Tryd.prog.wantsStandIn t = false by simpa using List.all_eq_true.1 hall t hm)⟩)
    (by kernel_rfl)
#print axioms treeGrows_holds
end Go.Proofs.YticcchgckljlnaaDoor

