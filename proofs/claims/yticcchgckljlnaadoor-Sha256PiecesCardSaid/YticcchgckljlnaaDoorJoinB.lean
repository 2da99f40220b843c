/- Arguments opened: rows of texts; a law that keeps to new memory hands all back; the table of keys as it is laid. -/
import Derived.Test.YticcchgckljlnaaDoorTrB
import Derived.ProofKit
import Derived.LaidMore
import Derived.OpenShut
import Derived.SliceStrings
import Derived.Carry
import Derived.ChangeSame
import Derived.JoinedOf
import Derived.JoinedAt
import Derived.WideShapes
import Derived.Stop.Joined
set_option linter.unusedSimpArgs false
set_option linter.unusedVariables false
namespace Go.Proofs.Num
open Go Go.RowKit Go.ChangeShapes Go.WideShapes Go.ChangeAt
section
variable {H : Type} {enc : TypeId × Value → H} {P : Program}
theorem nat_of_wf64 {x : Int} (h : (Lit.int .u64 x).wf = true) : ∃ n : Nat, n < 18446744073709551616 ∧ x = (n : Int) := by
  simp [Lit.wf, IntKind.min, IntKind.max, IntKind.signed, IntKind.bits] at h
  exact ⟨x.toNat, by omega, by omega⟩
theorem trodAll_below {W W' : World} (hl : laidOutB P = true) (hb : Below W.heap.size W W') : ∀ {ts : List TypeId} {vs : List Value} {ds : List (DataW H)} {ps : List MemPlace}, (ts.all fun t => P.readableRec t && decide (t < P.types.size)) = true →
    DataW.TrodAll enc P W 0 (fun _ => true) true ts vs ds ps → (∀ x ∈ ps, x.block < W.heap.size) → DataW.TrodAll enc P W' 0 (fun b => decide (b < W.heap.size)) true ts vs ds ps
  | [], [], [], _, _, h, _ => h
  | t :: ts, v :: vs, d :: ds, ps, hr, h, hlt => by
    obtain ⟨p, q, h1, h2, rfl⟩ := h
    simp only [List.all_cons, Bool.and_eq_true, decide_eq_true_eq] at hr
    exact ⟨p, q, Below.trod hl hr.1.1 hr.1.2 h1 hb fun x hx => hlt x (List.mem_append_left _ hx), trodAll_below hl hb (by simpa using hr.2) h2 fun x hx => hlt x (List.mem_append_right _ hx), rfl⟩
theorem post_below {f : Func} {s : ChangeSpec} {W W' : World} {args : Array Value} {v : Value} {ds gs : List (DataW H)} {pa : List MemPlace} (hl : laidOutB P = true) (hr : (f.params.toList.all fun t => P.readableRec t && decide (t < P.types.size)) = true)
    (hW : DataW.Whole enc P f.params.toList s.vars false W args.toList ds gs (pa ++ [])) (hA : DataW.TrodAll enc P W 0 (fun _ => true) true f.params.toList args.toList ds pa)
    (hres : ∀ (b : Nat) (sp : Nat → Bool) (hd : Bool), DataW.TrodAll enc P W' b sp hd f.resultTypes.toList (v.resultList f.resultTypes.size) (s.fn H (ds ++ gs)).results [])
    (hargs : (s.fn H (ds ++ gs)).args = ds) (hvars : ∀ sp : Nat → Bool, DataW.TrodVars enc P W' sp s.vars (s.fn H (ds ++ gs)).vars []) (hb : Below W.heap.size W W') :
    s.post enc P f false true false false W args v W' := by
  refine ⟨ds, gs, _, [], pa, [], hW, hres _ _ _, ?_, hvars _, hb.frame _, fun h => by cases h⟩
  rw [hargs]
  exact trodAll_below hl hb hr hA fun x hx => hW.lt x (List.mem_append_left _ hx)
/-- A row of texts among the arguments. -/
theorem open_rowS {t e : TypeId} {r : Reach} {b0 : Nat} {W : World} {v : Value} {d : DataW H} {ps : List MemPlace} (ht : P.underlying t = some (.slice e)) (he : P.underlying e = some .string) (hc : P.cellsOf e = 1)
    (hval : Value.okWide P W r b0 t v) (hd : DataW.Trod enc P W 0 (fun _ => true) true t v d ps) : ∃ l, RowS W v l := by
  obtain ⟨a0, len, cap, rfl⟩ := okWide_slice ht hval
  obtain ⟨fuel, hf⟩ := hd
  rcases open_strings ht he hc hf with ⟨hcs, _⟩ | ⟨a, len', cap', ss, hcs, _, hl, _, hz, _, hcell, _⟩
  · simp [Value.cells] at hcs
    obtain ⟨rfl, rfl, rfl⟩ := hcs
    exact ⟨[], .inl ⟨rfl, rfl⟩⟩
  · simp [Value.cells] at hcs
    obtain ⟨rfl, rfl, rfl⟩ := hcs
    simp only [if_true] at hz
    by_cases h0 : cap = 0
    · subst h0
      obtain rfl : len = 0 := by omega
      exact ⟨[], .inr (.inl ⟨a, rfl, rfl⟩)⟩
    · have h1 := hcell 0 (by omega)
      rw [show a.add 0 = a from rfl] at h1
      obtain ⟨g, o, sp⟩ := a
      have hsp : sp = none := by
        unfold World.cell? at h1
        split at h1
        · split at h1
          · cases h1
          · rename_i hn
            simpa using hn
        · cases h1
      subst hsp
      have hg : g < W.heap.size := by
        unfold World.cell? at h1
        split at h1
        · rename_i hh
          exact (Array.getElem?_eq_some_iff.1 hh).1
        · cases h1
      refine ⟨(ss.take len).map fun s => s.data.toList, .inr (.inr ⟨g, o, len, cap, rfl, by simp; omega, hl, hg, fun j u hu => ?_⟩)⟩
      have hj : j < len := by
        have := (List.getElem?_eq_some_iff.1 hu).1
        simp [scells] at this
        omega
      have h2 := hcell j (by omega)
      have e1 : (⟨g, o, none⟩ : Addr).add j = ⟨g, o + j, none⟩ := by cases j <;> simp [Addr.add]
      rw [e1] at h2
      rw [h2, ← hu]
      have hjs : j < ss.length := by omega
      simp [scells, List.getElem?_take_of_lt hj, List.getElem?_eq_getElem hjs, bs]
theorem cells_of_ints {k : IntKind} {e : TypeId} {W : World} {base m : Nat} {spare : Nat → Bool} {held : Bool} {cs : List Value} {xs : List (DataW H × List MemPlace)} {ns : List Nat} (he : P.underlying e = some (.int k)) (hn : xs.length = ns.length)
    (hx : xs.map (·.1) = ns.map fun n => .lit (.int k ((n : Nat) : Int))) (hel : ∀ i, i < ns.length → DataW.trod enc P W base spare held m e ((cs.drop (i * 1)).take 1) = xs[i]?) (j : Nat) (v : Value) (hv : (ns.map fun n => Value.int k ((n : Nat) : Int))[j]? = some v) : cs[j]? = some v := by
  have hj : j < ns.length := by have := (List.getElem?_eq_some_iff.1 hv).1; simpa using this
  have h1 := hel j hj
  rw [List.getElem?_eq_getElem (by omega)] at h1
  obtain ⟨n, e1, e2, _⟩ := DataW.trod_int he h1
  have h3 : (xs.map (·.1))[j]? = (ns.map fun n => DataW.lit (H := H) (.int k ((n : Nat) : Int)))[j]? := by rw [hx]
  rw [List.getElem?_map, List.getElem?_eq_getElem (by omega), List.getElem?_map, List.getElem?_eq_getElem hj, Option.map_some, Option.map_some, e2] at h3
  have h4 : n = ((ns[j] : Nat) : Int) := by simpa using h3
  rw [List.getElem?_map, List.getElem?_eq_getElem hj] at hv
  have h5 : v = .int k ((ns[j] : Nat) : Int) := by simpa using hv.symm
  rw [h5, ← h4]
  have := congrArg (fun q => q[0]?) e1
  simpa [List.getElem?_take_of_lt, List.getElem?_drop] using this
end
end Go.Proofs.Num
