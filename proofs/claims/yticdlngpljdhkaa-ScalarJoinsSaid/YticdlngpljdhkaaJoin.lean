/- Arguments opened and shut: arrays of four words, numbers, texts; the row of a law that keeps to new memory. -/
import Derived.Test.YticdlngpljdhkaaSteps7
import Derived.ProofKit
import Derived.ChangeSame
import Derived.JoinedOf
import Derived.JoinedAt
import Derived.Laws.IdiomArrays
import Derived.WideShapes
set_option linter.unusedSimpArgs false
set_option linter.unusedVariables false
namespace Go.Proofs.Num
open Go Go.RowKit Go.ChangeShapes Go.WideShapes Go.ChangeAt
section
variable {H : Type} {enc : TypeId × Value → H} {P : Program}
theorem list_four {α : Type} (l : List α) (h : (⟨l⟩ : Array α).size = 4) : ∃ a b c d, l = [a, b, c, d] := by
  match l, h with
  | [a, b, c, d], _ => exact ⟨a, b, c, d, rfl⟩
theorem wd_of_wf {x : Int} (h : (Lit.int .u64 x).wf = true) : Wd x := by
  simp [Lit.wf, IntKind.min, IntKind.max, IntKind.signed, IntKind.bits] at h
  exact ⟨by omega, by omega⟩
theorem nat_of_wf {x : Int} (h : (Lit.int .u64 x).wf = true) : ∃ n : Nat, n < 18446744073709551616 ∧ x = (n : Int) := by
  have hw := wd_of_wf h
  unfold Wd at hw
  exact ⟨x.toNat, by omega, by omega⟩
theorem four_words {x0 x1 x2 x3 : Int} (h0 : Wd x0) (h1 : Wd x1) (h2 : Wd x2) (h3 : Wd x3) : ∃ x : Nat, x < 2 ^ 256 ∧ limb x 0 = x0 ∧ limb x 1 = x1 ∧ limb x 2 = x2 ∧ limb x 3 = x3 := by
  have hz : ((x0 + 2 ^ 64 * x1 + 2 ^ 128 * x2 + 2 ^ 192 * x3).toNat : Int) = x0 + 2 ^ 64 * x1 + 2 ^ 128 * x2 + 2 ^ 192 * x3 := by
    unfold Wd at *; omega
  have hl := limb_of h0 h1 h2 h3 hz
  refine ⟨(x0 + 2 ^ 64 * x1 + 2 ^ 128 * x2 + 2 ^ 192 * x3).toNat, ?_, hl⟩
  have h256 : (2 : Nat) ^ 256 = 115792089237316195423570985008687907853269984665640564039457584007913129639936 := by decide
  rw [h256]
  unfold Wd at *; omega
theorem open_fe {t e : TypeId} {r : Reach} {b0 base : Nat} {spare : Nat → Bool} {held : Bool} {W : World} {v : Value} {d : DataW H} {ps : List MemPlace} (ht : P.underlying t = some (.array 4 e)) (he : P.underlying e = some (.int .u64)) (hce : P.cellsOf e = 1) (hct : P.cellsOf t = 4)
    (hval : Value.okWide P W r b0 t v) (hd : DataW.Trod enc P W base spare held t v d ps) :
    ∃ x : Nat, x < 2 ^ 256 ∧ v = fe x ∧ ps = [] ∧ ∀ (W' : World) (b' : Nat) (sp : Nat → Bool) (hl : Bool), DataW.Trod enc P W' b' sp hl t (fe x) d [] := by
  obtain ⟨cs, rfl, hsz, _⟩ : ∃ cs, v = .agg cs ∧ cs.size = P.cellsOf t ∧ Row.okWide P W r b0 t cs := by
    simpa [Value.okWide, ht] using hval
  rw [hct] at hsz
  obtain ⟨l⟩ := cs
  obtain ⟨c0, c1, c2, c3, rfl⟩ := list_four l hsz
  obtain ⟨fuel, hf⟩ := hd
  obtain ⟨y0, y1, y2, y3, m, hx, hy0, hy1, hy2, hy3⟩ := trod_array4 ht hce hf
  obtain ⟨x0, e0, rfl, w0⟩ := DataW.trod_int he hy0
  obtain ⟨x1, e1, rfl, w1⟩ := DataW.trod_int he hy1
  obtain ⟨x2, e2, rfl, w2⟩ := DataW.trod_int he hy2
  obtain ⟨x3, e3, rfl, w3⟩ := DataW.trod_int he hy3
  simp at e0 e1 e2 e3
  subst e0 e1 e2 e3
  simp only [Prod.mk.injEq] at hx
  obtain ⟨rfl, rfl⟩ := hx
  obtain ⟨x, hx, l0, l1, l2, l3⟩ := four_words (wd_of_wf w0) (wd_of_wf w1) (wd_of_wf w2) (wd_of_wf w3)
  have hfe : fe x = .agg #[.int .u64 x0, .int .u64 x1, .int .u64 x2, .int .u64 x3] := by rw [fe_lit, l0, l1, l2, l3]
  refine ⟨x, hx, hfe.symm, rfl, fun W' b' sp hl => ?_⟩
  rw [hfe]
  exact ⟨2, by simp [DataW.trod, Value.cells, ht, he, hct, hce, w0, w1, w2, w3, show List.range 4 = [0, 1, 2, 3] from rfl]⟩
theorem post_plain {f : Func} {s : ChangeSpec} {apart fresh handsOn again : Bool} {W W' : World} {args : Array Value} {v : Value} {ds gs : List (DataW H)} {before : List MemPlace}
    (hW : DataW.Whole enc P f.params.toList s.vars apart W args.toList ds gs before) (h0 : before = [])
    (hres : ∀ (b : Nat) (sp : Nat → Bool) (hd : Bool), DataW.TrodAll enc P W' b sp hd f.resultTypes.toList (v.resultList f.resultTypes.size) (s.fn H (ds ++ gs)).results [])
    (hargs : ∀ sp : Nat → Bool, DataW.TrodAll enc P W' 0 sp true f.params.toList args.toList (s.fn H (ds ++ gs)).args [])
    (hvars : ∀ sp : Nat → Bool, DataW.TrodVars enc P W' sp s.vars (s.fn H (ds ++ gs)).vars [])
    (hb : Below W.heap.size W W')
    (hok : ∀ (j : Nat) (t : TypeId) (r : Value), f.resultTypes[j]? = some t → (v.resultList f.resultTypes.size)[j]? = some r → Value.okWide P W' .any 0 t r) :
    s.post enc P f apart fresh handsOn again W args v W' := by
  subst h0
  refine ⟨ds, gs, [], [], [], [], hW, hres _ _ _, hargs _, hvars _, World.keptBut_mono (fun p hp => ⟨hp, ?_⟩) (hb.frame (· ∈ [])), fun _ => ?_⟩
  · cases hp
  · refine ⟨hok, _, _, ([] ++ []) ++ [], ⟨[] ++ [], [], trodAll_append (hargs _) (hres _ _ _), hvars _, rfl, ?_, ?_⟩, ?_⟩
    · intro b off hp
      simp at hp
    · intro ha
      obtain ⟨_, _, _, _, _, hz, hn⟩ := hW
      simp
    · intro p hp _
      simp at hp
end
end Go.Proofs.Num
