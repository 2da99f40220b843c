/- Regions in the order of their text: chunks of values, calls that hand out memory of their own, literal rows, rows that grow, parts of rows. -/
import Derived.Test.YticcchgckljlnaaDoorSteps3
import Derived.ArgAppend
import Derived.Great.BuildSlice
set_option linter.unusedSimpArgs false
set_option linter.unusedVariables false
namespace Go.Proofs.Num
open Go Go.RowKit
variable {P : Program}
section
variable {ops : Array Oper} {Q : Exit → Act → World → Prop}
theorem wpL_vals {w0 : World} {L : Act → Prop} (chunk rest : List Oper) : ∀ (a : Act) (W : World), Sees w0 W → (∀ o ∈ chunk, isAlloc o = false) → wpV P ops w0 L chunk a → (∀ a', L a' → ∀ W', Sees w0 W' → wpList P ops Q rest a' W') → wpList P ops Q (chunk ++ rest) a W := by
  induction chunk with
  | nil => intro a W hW _ h hL; exact hL a h W hW
  | cons o l ih =>
    intro a W hW ha h hL
    have hao := ha o (List.mem_cons_self ..)
    have hal := fun q hq => ha q (List.mem_cons_of_mem _ hq)
    simp only [wpV, hao, Bool.false_eq_true, if_false] at h
    rw [List.cons_append, wpList]
    by_cases hw : Region.wanted o (yielded ops a.tmps) = true
    · rw [if_pos hw] at h ⊢
      obtain ⟨v, hg, h⟩ := h
      exact .inl ((hg W hW).wp fun W' hb => ih _ _ (sees_call hW hb) hal h hL)
    · rw [if_neg hw] at h ⊢
      exact ih _ _ hW hal h hL
theorem wpL_chunk (k : Nat) {l : List Oper} {a : Act} {W : World} (ha : ((l.take k).all fun o => !isAlloc o) = true) (h : ∀ L : Act → Prop, (∀ a', (∀ W', Sees W W' → wpList P ops Q (l.drop k) a' W') → L a') → wpV P ops W L (l.take k) a) : wpList P ops Q l a W := by
  have := wpL_vals (P := P) (ops := ops) (Q := Q) (L := fun a' => ∀ W', Sees W W' → wpList P ops Q (l.drop k) a' W') (l.take k) (l.drop k) a W (sees_refl W) (fun o ho => by simpa using List.all_eq_true.1 ha o ho) (h _ fun a' h => h) (fun a' h => h)
  rwa [List.take_append_drop] at this
end
section tails
variable {ops : Array Oper} {Q : Exit → Act → World → Prop} {o : Oper} {rest : List Oper} {a : Act} {W : World} {v : Value}
theorem wpL_callE {f : FuncId} {fn : Func} {xs : Array Operand} {ts : Array TypeId} {args : Array Value} {R : Value → World → Prop} (hg : o.guard = none) (ho : o.op = .call { callee := .value (.func f), args := xs, argTypes := ts }) (hargs0 : xs.toList.map a.eval = args.toList) (hf : P.funcs[f]? = some fn)
    (hn : (fn.name == "runtime.NumGoroutine") = false) (hbd : fn.body.isNone = false)
    (hc : Calls P f args W (fun e W' => ∃ v, e = .returned v ∧ R v W' ∧ Below W.heap.size W W')) (h : ∀ v W', R v W' → Sees W W' → wpList P ops Q rest (a.put o.dst v) W') : wpList P ops Q (o :: rest) a W :=
  wpList_plain hg fun K hK => by
    unfold Oper.wp
    rw [show (execOp a.eval o).run P W = .ok (.enter f args) W by rw [run_call_body ho rfl hf hn hbd, (Array.toList_inj.1 (by rw [Array.toList_map]; exact hargs0) : xs.map a.eval = args)]]
    exact hc.mono fun e W' ⟨v, he, hr, hb⟩ => by subst he; exact hK _ _ (h v W' hr (sees_of hb))
theorem wpL_new {T e : TypeId} {len : Nat} {cs : List Value} (hg : o.guard = none)
    (hrun : (execOp a.eval o).run P W = .ok (.value (.slice (some ⟨W.heap.size, 0, none⟩) len len)) (W.alloc (.cells cs.toArray e)))
    (h : ∀ g W', Sees W W' → W.heap.size ≤ g → Blk W' g e cs.toArray → wpList P ops Q rest (a.put o.dst (.slice (some ⟨g, 0, none⟩) len len)) W') : wpList P ops Q (o :: rest) a W :=
  wpList_plain hg fun K hK => by
    unfold Oper.wp
    simp only [hrun, Oper.upon_value]
    exact hK _ _ (h _ _ (sees_alloc (sees_refl W) _) (Nat.le_refl _) (Blk.new _ _ _))
theorem wpL_row0 {T e : TypeId} (hg : o.guard = none) (ho : o.op = .buildSlice T 0 #[]) (hT : P.underlying T = some (.slice e)) (hs : (P.info? e).map (·.size) = some 1)
    (h : ∀ g W', Sees W W' → W.heap.size ≤ g → Blk W' g e #[] → wpList P ops Q rest (a.put o.dst (.slice (some ⟨g, 0, none⟩) 0 0)) W') : wpList P ops Q (o :: rest) a W :=
  wpL_new (T := T) (e := e) (len := 0) (cs := []) hg (by
    simp [execOp, ho, Instr.buildSlice, run_underlying hT, run_sizeOf hs, Instr.fill, newRow, Array.range_zero']) h
theorem wpL_row1 {T e : TypeId} {x : Operand} {k : IntKind} {n : Int} {z : Value} {bytes : Nat} (hg : o.guard = none) (ho : o.op = .buildSlice T 1 #[(0, x)]) (hx : a.eval x = .int k n) (hT : P.underlying T = some (.slice e)) (hinfo : (P.info? e).map (fun i => (i.zero, i.size, i.bytes)) = some (some z, 1, bytes)) (hzc : z.cells = #[z])
    (h : ∀ g W', Sees W W' → W.heap.size ≤ g → Blk W' g e #[.int k n] → wpList P ops Q rest (a.put o.dst (.slice (some ⟨g, 0, none⟩) 1 1)) W') : wpList P ops Q (o :: rest) a W := by
  obtain ⟨i, hi, he⟩ := Option.map_eq_some_iff.1 hinfo
  simp only [Prod.mk.injEq] at he
  obtain ⟨hz, h1, h2⟩ := he
  refine wpL_new (T := T) (e := e) (len := 1) (cs := [.int k n]) hg ?_ h
  have := run_buildSlice (P := P) W T e 1 #[(0, .int k n)] #[.int k n] i z hT hi hz (by rw [h1]; decide) (by rw [h1]; decide) (by
    rw [h1, hzc]
    have : ∀ f : Nat → Value, (Array.range 1).map f = #[f 0] := fun f => by apply Array.ext' ; simp
    simp [Instr.fill, Value.cells, this])
  simp [execOp, ho, hx, this]
end tails
/-- Block g, or new ones, and nothing else. -/
structure Grew (g : Nat) (W W' : World) : Prop where
  os : W'.os = W.os
  tape : W'.tape = W.tape
  output : W'.output = W.output
  size : W.heap.size ≤ W'.heap.size
  block : ∀ k, k < W.heap.size → k ≠ g → W'.heap[k]? = W.heap[k]?
theorem Grew.below {g B : Nat} {w0 W W' : World} (h : Grew g W W') (hb : Below B w0 W) (hs : B ≤ w0.heap.size) (hg : B ≤ g) : Below B w0 W' :=
  hb.trans ⟨h.os, h.tape, h.output, h.size, fun k hk => h.block k (Nat.lt_of_lt_of_le (Nat.lt_of_lt_of_le hk hs) hb.size) (by omega)⟩
theorem Grew.range {g b o : Nat} {W W' : World} {cs : List Value} (h : Grew g W W') (hr : W.rangeAt b o cs) (hne : b ≠ g) (hb : b < W.heap.size) : W'.rangeAt b o cs := fun j v hv => by
  rw [World.cell?_of_block (h.block b hb hne)]; exact hr j v hv
theorem Grew.there {g b o n : Nat} {W W' : World} (h : Grew g W W') (ht : W.there b o n) (hne : b ≠ g) (hb : b < W.heap.size) : W'.there b o n := fun j hj => by
  rw [World.cell?_of_block (a := ⟨b, o + j, none⟩) (h.block b hb hne), World.frozen?_of_block (a := ⟨b, o + j, none⟩) (h.block b hb hne)]; exact ht j hj
theorem Grew.lt {g b : Nat} {W W' : World} (h : Grew g W W') (hb : b < W.heap.size) : b < W'.heap.size := Nat.lt_of_lt_of_le hb h.size
section tails
variable {ops : Array Oper} {Q : Exit → Act → World → Prop} {o : Oper} {rest : List Oper} {a : Act} {W : World} {v : Value}
/-- More behind a row of one's own. -/
theorem wpL_append {T e : TypeId} {s x : Operand} {g n cap h : Nat} {c : Nat} {olds news : List Value} {bytes m : Nat} {z : Value} (hg : o.guard = none) (ho : o.op = .call { callee := .builtin .append, args := #[s, x], argTypes := #[T, T] })
    (hs : a.eval s = .slice (some ⟨g, 0, none⟩) n cap) (hx : a.eval x = .slice (some ⟨h, 0, none⟩) m c) (hT : P.underlying T = some (.slice e)) (hinfo : (P.info? e).map (fun i => (i.zero, i.size, i.bytes)) = some (some z, 1, bytes)) (hzc : z.cells = #[z]) (hz1 : z.oneCell' = true)
    (hn : olds.length = n) (hm : news.length = m) (hr : W.rangeAt g 0 olds) (ht : W.there g 0 cap) (hL : g < W.heap.size) (hr2 : W.rangeAt h 0 news) (h1 : ∀ u ∈ news, u.oneCell' = true) (hb : (n + m) * bytes ≤ 140737488355328) (h63 : n + m ≤ maxLen) 
    (hk : ∀ g' cap' W', Grew g W W' → (g' = g ∨ W.heap.size ≤ g') → n + m ≤ cap' → W'.rangeAt g' 0 (olds ++ news) → W'.there g' 0 cap' → g' < W'.heap.size →
      wpList P ops Q rest (a.put o.dst (.slice (some ⟨g', 0, none⟩) (n + m) cap')) W') : wpList P ops Q (o :: rest) a W := by
  obtain ⟨i, hi, he⟩ := Option.map_eq_some_iff.1 hinfo
  simp only [Prod.mk.injEq] at he
  obtain ⟨hz, hsz, hby⟩ := he
  have had : ∀ (q j : Nat), (⟨q, 0, none⟩ : Addr).add j = ⟨q, j, none⟩ := fun q j => by cases j <;> simp [Addr.add]
  have hnews : ∀ j u, news[j]? = some u → W.cell? ((⟨h, 0, none⟩ : Addr).add j) = some u := fun j u hu => by have := hr2 j u hu; rw [Nat.zero_add] at this; rw [had]; exact this
  refine wpList_plain hg fun K hK => ?_
  by_cases hroom : n + m ≤ cap
  · have htt : ∀ j, j < news.length → (W.cell? ⟨g, 0 + n * i.size + j, none⟩).isSome = true ∧ W.frozen? ⟨g, 0 + n * i.size + j, none⟩ = false := fun j hj => by
      rw [hsz, Nat.mul_one, Nat.zero_add]
      have := ht (n + j) (by omega)
      rwa [Nat.zero_add] at this
    have hrun := run_append_room_cells (P := P) W T o.type e i hT hi g 0 n cap ⟨h, 0, none⟩ m c news (by rw [hsz, Nat.mul_one, hm]) hnews h1 hroom (fun j hj => (htt j hj).1) (fun j hj => (htt j hj).2)
    have hp := puts_cells g news (0 + n * i.size) W
    rw [hsz, Nat.mul_one, Nat.zero_add] at hp htt
    unfold Oper.wp execOp
    simp only [ho, resolve, invoke, builtin, Sem.run_bind, Sem.run_pure, Result.andThen_ok, List.map_toArray, List.map_cons, List.map_nil, hs, hx, hrun]
    rw [hsz, Nat.mul_one, Nat.zero_add]
    have hcells := World.rangeAt_setCells_same W g n news (fun j hj => htt j hj)
    refine hK _ _ (hk g cap _ ⟨hp.os, hp.tape, hp.output, by rw [hp.size]; exact Nat.le_refl _, fun k _ hne => hp.other k hne⟩ (.inl rfl) hroom ?_ ?_ (hp.lt hL))
    · exact range_join (hp.range hr (.inr (.inl (by rw [Nat.zero_add, hn]; exact Nat.le_refl _)))) hcells (by rw [Nat.zero_add, hn])
    · refine hp.there ht fun _ j hj => ?_
      rw [hcells j news[j] (by simp [hj])]; rfl
  · have hzs : z.cells.size = 1 := by rw [hzc]; rfl
    have hge := grownCap_ge W (n + m) cap e
    have hrun := run_append_grow (P := P) W T o.type e i z hT hi hz ⟨g, 0, none⟩ n cap olds (by rw [hsz, Nat.mul_one, hn]) (fun j u hu => by have := hr j u hu; rw [Nat.zero_add] at this; rw [had]; exact this) ⟨h, 0, none⟩ m c news (by rw [hsz, Nat.mul_one, hm]) hnews (by omega) (by simp only [maxLen] at h63; omega) (growslice_fits (by omega) (by rw [hby]; exact hb))
    unfold Oper.wp execOp
    simp only [ho, resolve, invoke, builtin, Sem.run_bind, Sem.run_pure, Result.andThen_ok, List.map_toArray, List.map_cons, List.map_nil, hs, hx, hrun]
    have hB : Blk (W.drew.alloc (.cells (olds.toArray ++ news.toArray ++ Builtin.zeroCells z.cells (grownCap W (n + m) cap e - (n + m))) e)) W.heap.size e (olds.toArray ++ news.toArray ++ Builtin.zeroCells z.cells (grownCap W (n + m) cap e - (n + m))) := Blk.new W.drew e _
    refine hK _ _ (hk W.heap.size (grownCap W (n + m) cap e) _ ⟨rfl, rfl, rfl, by simp, fun k hk _ => heap_alloc_old W.drew _ k hk⟩ (.inr (Nat.le_refl _)) hge ?_ (blk_there hB ?_) hB.lt)
    · have := blk_range hB (l := (olds ++ news) ++ (Builtin.zeroCells z.cells (grownCap W (n + m) cap e - (n + m))).toList) (by apply Array.ext'; simp)
      exact (range_append this).1
    · simp only [Array.size_append, List.size_toArray, size_zeroCells, hzs, hn, hm]; omega
/-- A new variable. -/
theorem wpL_var {t : TypeId} {cs : List Value} (hg : o.guard = none) (hrun : ∀ W : World, (execOp a.eval o).run P W = .ok (.value (.pointer (some ⟨W.heap.size, 0, none⟩))) (W.alloc (.cells cs.toArray t)))
    (h : ∀ g W', Sees W W' → W.heap.size ≤ g → Blk W' g t cs.toArray → wpList P ops Q rest (a.put o.dst (.pointer (some ⟨g, 0, none⟩))) W') : wpList P ops Q (o :: rest) a W :=
  wpList_plain hg fun K hK => by
    unfold Oper.wp
    simp only [hrun, Oper.upon_value]
    exact hK _ _ (h _ _ (sees_alloc (sees_refl W) _) (Nat.le_refl _) (Blk.new _ _ _))
/-- A row of a call's own. -/
def NewRow (W : World) (n : Nat) (cs : List Value) (v : Value) (W' : World) : Prop := ∃ g cap, v = .slice (some ⟨g, 0, none⟩) n cap ∧ n ≤ cap ∧ W.heap.size ≤ g ∧ g < W'.heap.size ∧ W'.rangeAt g 0 cs
/-- Parts of rows. -/
theorem run_sliceH {T e : TypeId} {g off n cap hi : Nat} {k : IntKind} (hT : P.underlying T = some (.slice e)) {s : Nat} (hs : (P.info? e).map (·.size) = some s) (hh : hi ≤ cap) (W : World) :
    (Instr.sliceAt T (.slice (some ⟨g, off, none⟩) n cap) none (some (.int k (hi : Nat))) none).run P W = .ok (.slice (some ⟨g, off, none⟩) hi cap) W := by
  have he : P.elem T = e := by simp [Program.elem, hT]
  rw [run_sliceAt_slice _ _ _ _ _ _ (by rw [he]; exact hT), run_slice_h _ _ _ _ _ (by rw [he]; exact hT) _ _ (by omega) (by omega), he, run_sizeOf hs]
  simp [sliced, Result.andThen, Addr.add]
theorem run_sliceL {T e : TypeId} {g off n cap lo : Nat} {k : IntKind} (hT : P.underlying T = some (.slice e)) (hs : (P.info? e).map (·.size) = some 1) (hl : lo ≤ n) (hc : n ≤ cap) (hlt : lo < cap) (W : World) :
    (Instr.sliceAt T (.slice (some ⟨g, off, none⟩) n cap) (some (.int k (lo : Nat))) none none).run P W = .ok (.slice (some ⟨g, off + lo, none⟩) (n - lo) (cap - lo)) W := by
  have he : P.elem T = e := by simp [Program.elem, hT]
  rw [run_sliceAt_slice _ _ _ _ _ _ (by rw [he]; exact hT)]
  rw [run_slice_l _ _ _ _ _ (by rw [he]; exact hT) _ _ (by omega) (by omega), he, run_sizeOf hs]
  have h0 : ¬ cap = lo := by omega
  simp [Result.andThen, sliced, Addr.add, h0]
end tails
end Go.Proofs.Num
