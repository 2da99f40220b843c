/-
  The law HeadGoes: why any head may not follow another one is as the document says: it returns true.
  For every input, without any condition but that the package's table of keys stands as the program lays it, which is tied to the program's text.
-/
import Derived.Test.YtpgpjoldelobdaaDoorCards
import Derived.Test.YtpgpjoldelobdaaDoorTie
import Derived.Test.YtpgpjoldelobdaaDoorKeysW
import Derived.SevenTiedAt
import Derived.Test.YtpgpjoldelobdaaDoorHdI
import Derived.Test.YtpgpjoldelobdaaDoorJoinH
set_option linter.unusedSimpArgs false
set_option linter.unusedVariables false
namespace Go.Proofs.YtpgpjoldelobdaaDoor
open Go Go.RowKit Go.ChangeShapes Go.WideShapes Go.ChangeAt Go.Proofs.Num Go.Proofs.Yc
open Go.ChangeMaps (open_string shut_string)
set_option maxRecDepth 100000 in
set_option maxHeartbeats 1000000 in
theorem headGoes_lifted (os : Os) (started : os.Started) (H : Type) (enc : TypeId × Value → H) :
    ReturnsInHanded {} Tryd.checked os 12 .any (fun w args => (Rows.headGoesSpec.pre enc Tryd.prog Tryd.f12 [] false w args ∧ laidMetH Tryd.prog laidB w) ∧ sizedMet enc Tryd.prog Tryd.f12 (OpenSpec.ofChange Rows.headGoesSpec) false w args)
      (Rows.headGoesSpec.post enc Tryd.prog Tryd.f12 false true false false) := by
  refine returnsInHanded_of_change_and (C := Tryd.checked) (X := fun w _ => laidMetH Tryd.prog laidB w) (fun _ _ _ hh h => h.of_heap hh) ownB started (by kernel_rfl) Tryd.func12
    (ChangeSpec.witness_shaped (enc := enc) (C := Tryd.checked) (os := os) (X := fun w _ => laidMetH Tryd.prog laidB w) false (World.doorLaid Tryd.prog 400 os) #[.agg #[.int .i64 0, .string ⟨#[]⟩, .int .i64 0, .string ⟨#[]⟩], .agg #[.int .i64 0, .string ⟨#[]⟩, .int .i64 0, .string ⟨#[]⟩], .slice none 0 0] 8 rfl (World.shaped_of_RefB (by kernel_rfl) (by kernel_rfl)) (by kernel_rfl) (by kernel_rfl) (by kernel_rfl) (door_met os _)) ?_
  intro W base args ds gs before hval0 hW _ hsz hL _
  have hval : ∀ (j : Nat) t v, Tryd.f12.params[j]? = some t → args[j]? = some v → Value.okWide Tryd.prog W .any base t v := hval0
  have hW' := hW
  obtain ⟨p, q, hA0, hV, rfl, hfz, hnd⟩ := hW
  have hA : DataW.TrodAll enc Tryd.prog W 0 (fun _ => true) true Tryd.f12.params.toList args.toList ds p := hA0
  have hP : DataW.TrodAll enc Tryd.prog W 0 (fun _ => true) true Tryd.f12.params.toList args.toList ds p := hA0
  rw [Tryd.params12] at hA hval
  obtain ⟨v0, v1, v2, d0, d1, d2, p0, p1, p2, rfl, rfl, rfl, h0, h1, h2⟩ := trodAll_three hA
  obtain ⟨rfl, rfl⟩ := trodVars_none hV
  obtain ⟨⟨L0, R0⟩, ⟨L5, R5⟩⟩ := of_laid hL
  obtain ⟨z0, r0, t0, g0, rfl, u0, x0, p0, q0⟩ := open_head Tryd.underlying33 Tryd.underlying3 Tryd.underlying9 Tryd.underlying3 Tryd.underlying9 ⟨rfl, rfl, rfl, rfl⟩ ⟨by kernel_rfl, by kernel_rfl, by kernel_rfl, by kernel_rfl⟩ (by kernel_rfl) (hval 0 33 v0 rfl rfl) h0
  obtain ⟨z1, r1, t1, g1, rfl, u1, x1, p1, q1⟩ := open_head Tryd.underlying33 Tryd.underlying3 Tryd.underlying9 Tryd.underlying3 Tryd.underlying9 ⟨rfl, rfl, rfl, rfl⟩ ⟨by kernel_rfl, by kernel_rfl, by kernel_rfl, by kernel_rfl⟩ (by kernel_rfl) (hval 1 33 v1 rfl rfl) h1
  obtain ⟨l2, r2⟩ := open_rowS Tryd.underlying37 Tryd.underlying9 (by kernel_rfl) (hval 2 37 v2 rfl rfl) h2
  clear hA0 hval0
  refine (hgoes_c L0 R0 L5 R5 r2 (w := W)).mono fun e W' ⟨he, hb⟩ => ?_
  subst he
  exact ⟨_, rfl, post_below laidOutB' (by kernel_rfl) hW' hP (fun _ _ _ => trodAll_mk1 (shut_bool Tryd.underlying4 _)) rfl (fun _ => rfl) hb⟩
theorem headGoes_row : Rows.HeadGoesSaid :=
  OpenClaim.holds_of_wide 12 Tryd.f12 rfl rfl rfl rfl rfl rfl rfl ⟨rfl, rfl, rfl, rfl, rfl⟩ rfl rfl rfl rfl rfl (by kernel_rfl) Tryd.func12 (by kernel_rfl)
    (of_decide_eq_true (by kernel_rfl)) (by unfold Func.isWrapper; first | (rw [if_pos (by decide +kernel)]; kernel_rfl) | (rw [if_neg (by decide +kernel)]; exact ⟨rfl, rfl⟩))
    (fun os started H enc _ => headGoes_lifted os started H enc)
theorem headGoes_holds : Rows.HeadGoesCardSaid :=
  Claim7.holds_tied_plain_at .later [] [.data, .data] true (true, "f4ce16c8beb8765f3f3c9461930b1e59ba934cdf509a5b07a6993f6f24582b5f") false
    headGoes_row (fun _ h => by cases h) (by kernel_rfl) (fun _ h => by cases h) headGoes_row_tie rfl ⟨rfl, rfl⟩ (by kernel_rfl) rfl
    (fun f fn hf hfn => by
      obtain rfl : f = 12 := Option.some.inj ((show Tryd.prog.funcNamed "imprimatur/imprimaturlaw10.HeadGoes" = some 12 by kernel_rfl).symm.trans hf) |>.symm
      obtain rfl : fn = Tryd.f12 := (Option.some.inj (Tryd.func12.symm.trans hfn)).symm
      exact ⟨by kernel_rfl, fun j t ht => by
        rw [Tryd.params12] at ht
        have hm : t ∈ [33, 33, 37] := by simpa using Array.mem_of_getElem? ht
        have hall : ([33, 33, 37].all fun u => !Tryd.prog.wantsStandIn u) = true := by kernel_rfl
        exact (show Tryd.prog.wantsStandIn t = false by simpa using List.all_eq_true.1 hall t hm)⟩)
    (by kernel_rfl)
#print axioms headGoes_holds
end Go.Proofs.YtpgpjoldelobdaaDoor

