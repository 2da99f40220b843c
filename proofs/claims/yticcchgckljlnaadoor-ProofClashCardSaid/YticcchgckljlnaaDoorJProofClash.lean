/-
  The law ProofClash: where paths of unlike leaves' sums, at one place, make one root, just the first two unlike texts from the top down are found, and they have one sum; else nothing is, as the document says: it returns true.
  For every input, without any condition but that the package's table of keys stands as the program lays it, which is tied to the program's text.
-/
import Derived.Test.YticcchgckljlnaaDoorCards
import Derived.Test.YticcchgckljlnaaDoorTie
import Derived.Test.YticcchgckljlnaaDoorBld
import Derived.SevenTiedAt
import Derived.Test.YticcchgckljlnaaDoorPr25
import Derived.Test.YticcchgckljlnaaDoorJoinF
set_option linter.unusedSimpArgs false
set_option linter.unusedVariables false
namespace Go.Proofs.YticcchgckljlnaaDoor
open Go Go.RowKit Go.ChangeShapes Go.WideShapes Go.ChangeAt Go.Proofs.Num Go.Proofs.Yb
open Go.ChangeMaps (open_string shut_string)
set_option maxRecDepth 100000 in
set_option maxHeartbeats 1000000 in
theorem proofClash_lifted (os : Os) (started : os.Started) (H : Type) (enc : TypeId × Value → H) :
    ReturnsInHanded {} Tryd.checked os 16 .any (fun w args => (Rows.proofClashSpec.pre enc Tryd.prog Tryd.f16 [] false w args ∧ laidMetH Tryd.prog laidB w) ∧ sizedMet enc Tryd.prog Tryd.f16 (OpenSpec.ofChange Rows.proofClashSpec) false w args)
      (Rows.proofClashSpec.post enc Tryd.prog Tryd.f16 false true false false) := by
  refine returnsInHanded_of_change_and (C := Tryd.checked) (X := fun w _ => laidMetH Tryd.prog laidB w) (fun _ _ _ hh h => h.of_heap hh) ownB started (by kernel_rfl) Tryd.func16
    (ChangeSpec.witness_shaped (enc := enc) (C := Tryd.checked) (os := os) (X := fun w _ => laidMetH Tryd.prog laidB w) false (World.doorLaid Tryd.prog 400 os) #[.string ⟨#[]⟩, .string ⟨#[]⟩, .int .i64 0, .int .i64 0, .slice none 0 0, .slice none 0 0] 8 rfl (World.shaped_of_RefB (by kernel_rfl) (by kernel_rfl)) (by kernel_rfl) (by kernel_rfl) (by kernel_rfl) (door_met os _)) ?_
  intro W base args ds gs before hval0 hW _ hsz hL _
  have hval : ∀ (j : Nat) t v, Tryd.f16.params[j]? = some t → args[j]? = some v → Value.okWide Tryd.prog W .any base t v := hval0
  have hW' := hW
  obtain ⟨p, q, hA0, hV, rfl, hfz, hnd⟩ := hW
  have hA : DataW.TrodAll enc Tryd.prog W 0 (fun _ => true) true Tryd.f16.params.toList args.toList ds p := hA0
  have hP : DataW.TrodAll enc Tryd.prog W 0 (fun _ => true) true Tryd.f16.params.toList args.toList ds p := hA0
  rw [Tryd.params16] at hA hval
  obtain ⟨v0, v1, v2, v3, v4, v5, d0, d1, d2, d3, d4, d5, p0, p1, p2, p3, p4, p5, rfl, rfl, rfl, h0, h1, h2, h3, h4, h5⟩ := trodAll_six hA
  obtain ⟨rfl, rfl⟩ := trodVars_none hV
  obtain ⟨L0, R0⟩ := of_laid hL
  obtain ⟨t0, rfl, _, _, w0⟩ := open_string Tryd.underlying9 (hval 0 9 v0 rfl rfl) h0
  obtain ⟨l0, rfl⟩ := bs_of t0
  obtain ⟨t1, rfl, _, _, w1⟩ := open_string Tryd.underlying9 (hval 1 9 v1 rfl rfl) h1
  obtain ⟨l1, rfl⟩ := bs_of t1
  obtain ⟨x2, rfl, _, _, w2⟩ := open_int Tryd.underlying3 (hval 2 3 v2 rfl rfl) h2
  obtain ⟨x3, rfl, _, _, w3⟩ := open_int Tryd.underlying3 (hval 3 3 v3 rfl rfl) h3
  obtain ⟨l4, r4⟩ := open_rowS Tryd.underlying48 Tryd.underlying9 (by kernel_rfl) (hval 4 48 v4 rfl rfl) h4
  obtain ⟨l5, r5⟩ := open_rowS Tryd.underlying48 Tryd.underlying9 (by kernel_rfl) (hval 5 48 v5 rfl rfl) h5
  clear hA0 hval0
  refine (lclash_c L0 R0 r4 r5 (w := W)).mono fun e W' ⟨he, hb⟩ => ?_
  subst he
  exact ⟨_, rfl, post_below laidOutB' (by kernel_rfl) hW' hP (fun _ _ _ => trodAll_mk1 (shut_bool Tryd.underlying4 _)) rfl (fun _ => rfl) hb⟩
theorem proofClash_row : Rows.ProofClashSaid :=
  OpenClaim.holds_of_wide 16 Tryd.f16 rfl rfl rfl rfl rfl rfl rfl ⟨rfl, rfl, rfl, rfl, rfl⟩ rfl rfl rfl rfl rfl (by kernel_rfl) Tryd.func16 (by kernel_rfl)
    (of_decide_eq_true (by kernel_rfl)) (by unfold Func.isWrapper; first | (rw [if_pos (by decide +kernel)]; kernel_rfl) | (rw [if_neg (by decide +kernel)]; exact ⟨rfl, rfl⟩))
    (fun os started H enc _ => proofClash_lifted os started H enc)
theorem proofClash_holds : Rows.ProofClashCardSaid :=
  Claim7.holds_tied_plain_at .later [] [.data] true (true, "47274f0b3ce2b699eae74ec9eac7a5ead40ec7e9946ac84f6e4d644eaa80d414") false
    proofClash_row (fun _ h => by cases h) (by kernel_rfl) (fun _ h => by cases h) proofClash_row_tie rfl ⟨rfl, rfl⟩ (by kernel_rfl) rfl
    (fun f fn hf hfn => by
      obtain rfl : f = 16 := Option.some.inj ((show Tryd.prog.funcNamed "imprimatur/imprimaturlaw09.ProofClash" = some 16 by kernel_rfl).symm.trans hf) |>.symm
      obtain rfl : fn = Tryd.f16 := (Option.some.inj (Tryd.func16.symm.trans hfn)).symm
      exact ⟨by kernel_rfl, fun j t ht => by
        rw [Tryd.params16] at ht
        have hm : t ∈ [9, 9, 3, 3, 48, 48] := by simpa using Array.mem_of_getElem? ht
        have hall : ([9, 9, 3, 3, 48, 48].all fun u => !Tryd.prog.wantsStandIn u) = true := by kernel_rfl
        exact (show Tryd.prog.wantsStandIn t = false by simpa using List.all_eq_true.1 hall t hm)⟩)
    (by kernel_rfl)
#print axioms proofClash_holds
end Go.Proofs.YticcchgckljlnaaDoor

