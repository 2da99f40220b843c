/- Single steps of a walk in abstract worlds: what is read, called, made and stored, each by one law. -/
import Derived.Test.YticcchgckljlnaaDoorGrow
set_option linter.unusedSimpArgs false
set_option linter.unusedVariables false
namespace Go.Proofs.Num
open Go Go.RowKit
variable {P : Program}

theorem range_sees {w W : World} {b o : Nat} {cs : List Value} (h : w.rangeAt b o cs) (hb : b < w.heap.size) (hW : Sees w W) : W.rangeAt b o cs :=
  fun j v hv => (hW.1 b _ hb).trans (h j v hv)
theorem there_sees {w W : World} {b o n : Nat} (h : w.there b o n) (hb : b < w.heap.size) (hW : Sees w W) : W.there b o n :=
  fun j hj => by rw [hW.1 b _ hb, hW.2.1 b _ hb]; exact h j hj
theorem cell_sees {w W : World} {b o : Nat} {v : Value} (h : w.cell? ⟨b, o, none⟩ = some v) (hb : b < w.heap.size) (hW : Sees w W) : W.cell? ⟨b, o, none⟩ = some v :=
  (hW.1 b _ hb).trans h
theorem blk_there {w : World} {g : Nat} {t : TypeId} {cs : Array Value} (h : Blk w g t cs) {n : Nat} (hn : n = cs.size) : w.there g 0 n := fun j hj => by
  subst hn
  rw [h.cell, h.frozen]
  simp [hj]
theorem blk_range {w : World} {g : Nat} {t : TypeId} {cs : Array Value} (h : Blk w g t cs) {l : List Value} (hl : cs = l.toArray) : w.rangeAt g 0 l := fun j v hv => by
  subst hl
  rw [Nat.zero_add, h.cell]
  simpa using hv
theorem range_append {w : World} {b o : Nat} {xs ys : List Value} (h : w.rangeAt b o (xs ++ ys)) : w.rangeAt b o xs ∧ w.rangeAt b (o + xs.length) ys :=
  ⟨fun j v hv => h j v (by rw [List.getElem?_append_left (List.getElem?_eq_some_iff.1 hv).1]; exact hv),
   fun j v hv => by rw [Nat.add_assoc]; exact h _ v (by rw [List.getElem?_append_right (by omega)]; simpa using hv)⟩
theorem range_join {w : World} {b o o' : Nat} {xs ys : List Value} (h : w.rangeAt b o xs) (h' : w.rangeAt b o' ys) (ho : o' = o + xs.length) : w.rangeAt b o (xs ++ ys) := fun j v hv => by
  subst ho
  by_cases hj : j < xs.length
  · exact h j v (by rw [List.getElem?_append_left hj] at hv; exact hv)
  · rw [List.getElem?_append_right (by omega)] at hv
    have := h' _ v hv
    rwa [show o + xs.length + (j - xs.length) = o + j by omega] at this
theorem range_cell {w : World} {b o : Nat} {cs : List Value} (h : w.rangeAt b o cs) {j : Nat} {v : Value} (hv : cs[j]? = some v) : w.cell? ⟨b, o + j, none⟩ = some v := h j v hv
theorem range_one {w : World} {b o : Nat} {v : Value} (h : w.rangeAt b o [v]) : w.cell? ⟨b, o, none⟩ = some v := h 0 v rfl
theorem cell_range {w : World} {b o : Nat} {v : Value} (h : w.cell? ⟨b, o, none⟩ = some v) : w.rangeAt b o [v] := fun j u hu => by
  cases j with
  | zero => simp only [List.getElem?_cons_zero, Option.some.injEq] at hu; subst hu; exact h
  | succ j => simp at hu

/-- w' is w but for cells of block g, from off on, so many. -/
structure Puts (g off n : Nat) (w w' : World) : Prop where
  os : w'.os = w.os
  tape : w'.tape = w.tape
  output : w'.output = w.output
  size : w'.heap.size = w.heap.size
  other : ∀ k, k ≠ g → w'.heap[k]? = w.heap[k]?
  cells : ∀ o, o < off ∨ off + n ≤ o → w'.cell? ⟨g, o, none⟩ = w.cell? ⟨g, o, none⟩
  frozen : ∀ o, w'.frozen? ⟨g, o, none⟩ = w.frozen? ⟨g, o, none⟩

theorem Puts.below {g off n B : Nat} {w0 w w' : World} (h : Puts g off n w w') (hb : Below B w0 w) (hg : B ≤ g) : Below B w0 w' :=
  hb.trans ⟨h.os, h.tape, h.output, Nat.le_of_eq h.size.symm, fun k hk => h.other k (by omega)⟩
theorem Puts.lt {g off n b : Nat} {w w' : World} (h : Puts g off n w w') (hb : b < w.heap.size) : b < w'.heap.size := by rw [h.size]; exact hb
theorem Puts.range {g off n b o : Nat} {w w' : World} {cs : List Value} (h : Puts g off n w w') (hr : w.rangeAt b o cs) (ha : b ≠ g ∨ o + cs.length ≤ off ∨ off + n ≤ o) : w'.rangeAt b o cs := fun j v hv => by
  by_cases hb : b = g
  · subst hb
    have hj := (List.getElem?_eq_some_iff.1 hv).1
    rw [h.cells _ (by rcases ha with ha | ha | ha; exact absurd rfl ha; left; omega; right; omega)]
    exact hr j v hv
  · rw [World.cell?_of_block (w := w) (h.other b hb)]
    exact hr j v hv
theorem Puts.there {g off n b o m : Nat} {w w' : World} (h : Puts g off n w w') (ht : w.there b o m) (hs : b = g → ∀ j, j < n → (w'.cell? ⟨g, off + j, none⟩).isSome = true) : w'.there b o m := fun j hj => by
  by_cases hb : b = g
  · subst hb
    rw [h.frozen]
    refine ⟨?_, (ht j hj).2⟩
    by_cases hin : o + j < off ∨ off + n ≤ o + j
    · rw [h.cells _ hin]; exact (ht j hj).1
    · have := hs rfl (o + j - off) (by omega)
      rwa [show off + (o + j - off) = o + j by omega] at this
  · rw [World.cell?_of_block (w := w) (h.other b hb), World.frozen?_of_block (w := w) (h.other b hb)]
    exact ht j hj
theorem Puts.other_there {g off n b o m : Nat} {w w' : World} (h : Puts g off n w w') (ht : w.there b o m) (hb : b ≠ g) : w'.there b o m := h.there ht fun e => absurd e hb

theorem puts_one (w : World) (g o : Nat) (v : Value) : Puts g o 1 w (w.setCell ⟨g, o, none⟩ v) := by
  refine ⟨rfl, rfl, rfl, by simp [World.setCell], fun k hk => Below.heap_setCell _ _ _ _ hk, fun x hx => ?_, fun x => ?_⟩
  · exact World.cell?_setCell_other w ⟨g, o, none⟩ ⟨g, x, none⟩ v (by simp; omega)
  · simp
theorem puts_trans {g off n m : Nat} {w w' w'' : World} (h : Puts g off n w w') (h' : Puts g (off + n) m w' w'') : Puts g off (n + m) w w'' :=
  ⟨h'.os.trans h.os, h'.tape.trans h.tape, h'.output.trans h.output, h'.size.trans h.size, fun k hk => (h'.other k hk).trans (h.other k hk),
   fun o ho => (h'.cells o (by omega)).trans (h.cells o (by omega)), fun o => (h'.frozen o).trans (h.frozen o)⟩
theorem puts_cells (g : Nat) : ∀ (vs : List Value) (o : Nat) (w : World), Puts g o vs.length w (w.setCells g o vs)
  | [], o, w => ⟨rfl, rfl, rfl, rfl, fun _ _ => rfl, fun _ _ => rfl, fun _ => rfl⟩
  | v :: vs, o, w => by
    have := puts_trans (puts_one w g o v) (puts_cells g vs (o + 1) (w.setCell ⟨g, o, none⟩ v))
    rw [List.length_cons, Nat.add_comm vs.length 1]
    exact this

section values
variable {ops : Array Oper} {w0 : World} {L : Act → Prop} {o : Oper} {rest : List Oper} {a : Act} {v : Value}
theorem wpV_move {x : Operand} (hw : Region.wanted o (yielded ops a.tmps) = true) (ho : o.op = .move x) (hx : a.eval x = v) (h : wpV P ops w0 L rest (a.put o.dst v)) : wpV P ops w0 L (o :: rest) a :=
  wpV_val (by simp [isAlloc, ho]) hw (fun W _ => by unfold RunsVal; simp [execOp, ho, hx]) h
theorem wpV_assign {x : Operand} (hw : Region.wanted o (yielded ops a.tmps) = true) (ho : o.op = .assign x) (hx : a.eval x = v) (h : wpV P ops w0 L rest (a.put o.dst v)) : wpV P ops w0 L (o :: rest) a :=
  wpV_val (by simp [isAlloc, ho]) hw (fun W _ => by unfold RunsVal; simp [execOp, ho, hx]) h
theorem wpV_extract {x : Operand} {i : Nat} {vs : Array Value} (hw : Region.wanted o (yielded ops a.tmps) = true) (ho : o.op = .extract x i) (hx : a.eval x = .tuple vs) (hv : vs[i]? = some v) (h : wpV P ops w0 L rest (a.put o.dst v)) : wpV P ops w0 L (o :: rest) a :=
  wpV_val (by simp [isAlloc, ho]) hw (fun W _ => by unfold RunsVal; simp [execOp, ho, hx, Instr.extract, hv]) h
theorem wpV_load {ty : TypeId} {x : Operand} {b off : Nat} {cs : List Value} {d : TypeDesc} (hw : Region.wanted o (yielded ops a.tmps) = true) (ho : o.op = .load ty x) (hx : a.eval x = .pointer (some ⟨b, off, none⟩)) (hc : w0.rangeAt b off cs)
    (hb : b < w0.heap.size) (hu : P.underlying ty = some d) (hd : d.isRow = true) (hi : (P.info? ty).map (·.size) = some cs.length) (h : wpV P ops w0 L rest (a.put o.dst (.agg cs.toArray))) : wpV P ops w0 L (o :: rest) a :=
  wpV_val (by simp [isAlloc, ho]) hw (fun W hW => by
    unfold RunsVal
    simp only [execOp, ho, hx, run_loadAt_mid W b off ty cs d (range_sees hc hb hW) hu hd hi, Sem.run_bind, Result.andThen_ok, Sem.run_pure]) h
theorem run_loadAt_one (w : World) (b o : Nat) (ty : TypeId) (v : Value) (d : TypeDesc) (hc : w.cell? ⟨b, o, none⟩ = some v) (hu : P.underlying ty = some d) (hd : d.isRow = false) :
    (Instr.loadAt ty (.pointer (some ⟨b, o, none⟩))).run P w = .ok v w := by
  have hagg : (isAgg ty).run P w = .ok false w := by
    unfold isAgg
    rw [Sem.run_bind, run_underlying hu w]
    cases d <;> simp_all
  simp only [Instr.loadAt, Instr.sureAddr, Sem.run_bind, Sem.run_pure, Result.andThen_ok, loadVar, hagg, Bool.false_eq_true, if_false]
  simp [hc, go_sem]
theorem wpV_load1 {ty : TypeId} {x : Operand} {b off : Nat} {d : TypeDesc} (hw : Region.wanted o (yielded ops a.tmps) = true) (ho : o.op = .load ty x) (hx : a.eval x = .pointer (some ⟨b, off, none⟩)) (hc : w0.cell? ⟨b, off, none⟩ = some v)
    (hb : b < w0.heap.size) (hu : P.underlying ty = some d) (hd : d.isRow = false) (h : wpV P ops w0 L rest (a.put o.dst v)) : wpV P ops w0 L (o :: rest) a :=
  wpV_val (by simp [isAlloc, ho]) hw (fun W hW => by
    unfold RunsVal
    simp only [execOp, ho, hx, run_loadAt_one W b off ty v d (cell_sees hc hb hW) hu hd, Sem.run_bind, Result.andThen_ok, Sem.run_pure]) h
theorem run_call_body {ρ : Operand → Value} {f : FuncId} {fn : Func} {xs : Array Operand} {ts : Array TypeId} {W : World} (ho : o.op = .call { callee := .value (.func f), args := xs, argTypes := ts }) (hρ : ρ (.func f) = .func (.func f) #[] #[]) (hf : P.funcs[f]? = some fn)
    (hn : (fn.name == "runtime.NumGoroutine") = false) (hb : fn.body.isNone = false) : (execOp ρ o).run P W = .ok (.enter f (xs.map ρ)) W := by
  have h1 : fn.name ≠ "runtime.NumGoroutine" := by simpa using hn
  have h2 : ¬ fn.body = none := by intro e; simp [e] at hb
  simp [execOp, ho, resolve, hρ, Deferred.ofValue, invoke, callFunc, hf, h1, h2]
theorem wpV_callf {f : FuncId} {fn : Func} {xs : Array Operand} {ts : Array TypeId} {args : Array Value} (hw : Region.wanted o (yielded ops a.tmps) = true) (ho : o.op = .call { callee := .value (.func f), args := xs, argTypes := ts }) (hf : P.funcs[f]? = some fn)
    (hn : (fn.name == "runtime.NumGoroutine") = false) (hbd : fn.body.isNone = false) (hargs0 : xs.toList.map a.eval = args.toList)
    (hc : ∀ W, Sees w0 W → Calls P f args W (fun e W' => e = .returned v ∧ Below W.heap.size W W')) (h : wpV P ops w0 L rest (a.put o.dst v)) : wpV P ops w0 L (o :: rest) a :=
  wpV_call f args (by simp [isAlloc, ho]) hw hc (fun W _ => by unfold RunsInto; rw [run_call_body ho rfl hf hn hbd, (Array.toList_inj.1 (by rw [Array.toList_map]; exact hargs0) : xs.map a.eval = args)]) h
end values

theorem wpV_ext {ops : Array Oper} {w0 : World} {L : Act → Prop} {o : Oper} {rest : List Oper} {a : Act} {v : Value} {f : FuncId} {xs : Array Operand} {ts : Array TypeId} {args : Array Value} (hw : Region.wanted o (yielded ops a.tmps) = true) (ho : o.op = .call { callee := .value (.func f), args := xs, argTypes := ts })
    (hargs0 : xs.toList.map a.eval = args.toList) (hr : ∀ W, (callFunc f args).run P W = .ok (.value v) W) (h : wpV P ops w0 L rest (a.put o.dst v)) : wpV P ops w0 L (o :: rest) a :=
  wpV_val (by simp [isAlloc, ho]) hw (fun W hW => by
    unfold RunsVal
    have hargs : xs.map a.eval = args := Array.toList_inj.1 (by rw [Array.toList_map]; exact hargs0)
    have hρ : a.eval (.func f) = .func (.func f) #[] #[] := rfl
    simp [execOp, ho, resolve, hρ, Deferred.ofValue, invoke, hargs, hr W]) h

section tails
variable {ops : Array Oper} {Q : Exit → Act → World → Prop} {o : Oper} {rest : List Oper} {a : Act} {W : World}
theorem wpL_assign {x : Operand} {v : Value} (hg : o.guard = none) (ho : o.op = .assign x) (hx : a.eval x = v) (h : wpList P ops Q rest (a.put o.dst v) W) : wpList P ops Q (o :: rest) a W :=
  wpList_plain hg fun K hK => by
    unfold Oper.wp
    simp only [execOp, ho, hx, Sem.run_pure, Oper.upon_value]
    exact hK _ _ h
theorem wpL_move {x : Operand} {v : Value} (hg : o.guard = none) (ho : o.op = .move x) (hx : a.eval x = v) (h : wpList P ops Q rest (a.put o.dst v) W) : wpList P ops Q (o :: rest) a W :=
  wpList_plain hg fun K hK => by
    unfold Oper.wp
    simp only [execOp, ho, hx, Sem.run_pure, Oper.upon_value]
    exact hK _ _ h
theorem wpL_nil (h : Q .normal a W) : wpList P ops Q [] a W := h
theorem wpL_store {ty : TypeId} {x y : Operand} {g off n : Nat} {cs : List Value} (hg : o.guard = none) (ho : o.op = .store ty x y) (hd : o.dst = none) (hx : a.eval x = .pointer (some ⟨g, off, none⟩)) (hy : a.eval y = .agg cs.toArray)
    (ht : W.there g 0 n) (hn : off + cs.length ≤ n) (hi : (P.info? ty).map (·.size) = some cs.length) (h1 : ∀ v ∈ cs, v.oneCell' = true)
    (h : ∀ W', Puts g off cs.length W W' → W'.rangeAt g off cs → W'.there g 0 n → wpList P ops Q rest a W') : wpList P ops Q (o :: rest) a W := by
  have ht' : W.there g off cs.length := fun j hj => by have := ht (off + j) (by omega); simpa using this
  have hr := World.rangeAt_setCells_same W g off cs ht'
  have hp := puts_cells g cs off W
  refine wpList_store_mid hg ty x y ho g off cs.toArray hx hy (by simpa using ht') (by simpa using hi) (all_oneCell_toArray h1) ?_
  rw [hd]
  refine h _ hp hr (hp.there ht fun _ j hj => ?_)
  rw [hr j cs[j] (by simp [hj])]; rfl
theorem wpL_store1 {ty : TypeId} {x y : Operand} {g off n : Nat} {v : Value} (hg : o.guard = none) (ho : o.op = .store ty x y) (hd : o.dst = none) (hx : a.eval x = .pointer (some ⟨g, off, none⟩)) (hy : a.eval y = v)
    (ht : W.there g 0 n) (hn : off < n) (hi : (P.info? ty).map (·.size) = some 1) (h1 : v.oneCell' = true)
    (h : ∀ W', Puts g off 1 W W' → W'.rangeAt g off [v] → W'.there g 0 n → wpList P ops Q rest a W') : wpList P ops Q (o :: rest) a W := by
  have ht' := ht off hn
  rw [Nat.zero_add] at ht'
  have hcs : v.cells = #[v] := by cases v <;> simp_all [Value.oneCell', Value.cells]
  refine wpList_plain hg fun K hK => ?_
  have hj0 : ∀ j, j < [v].length → j = 0 := fun j hj => by simpa using hj
  have hrun : (Instr.storeAt ty (.pointer (some ⟨g, off, none⟩)) v).run P W = .ok () (W.setCells g off [v]) := by
    have := run_storeCells_cells (P := P) g off [v] 0 W (fun j hj => by rw [hj0 j hj]; simpa using ht'.1) (fun j hj => by rw [hj0 j hj]; simpa using ht'.2) (fun u hu => by rw [List.mem_singleton.1 hu]; exact h1)
    simp only [Nat.add_zero] at this
    cases hq : P.info? ty with
    | none => simp [hq] at hi
    | some i =>
      have hs : i.size = 1 := by simpa [hq] using hi
      simp [Instr.storeAt, Instr.sureAddr, storeVar, sizeOf, typeInfo, hq, hcs, hs, this]
  have hp := puts_cells g [v] off W
  have hr := World.rangeAt_setCells_same W g off [v] (fun j hj => by rw [hj0 j hj]; simpa using ht')
  unfold Oper.wp
  simp only [execOp, ho, hx, hy, Sem.run_bind, hrun, Result.andThen_ok, Sem.run_pure, Oper.upon_skip, hd]
  refine hK _ _ (h _ hp hr (hp.there ht fun _ j hj => ?_))
  rw [hj0 j hj, Nat.add_zero, range_one hr]; rfl
end tails

/-- What one result is. -/
inductive ResOne (P : Program) (tmps : Array Value) (w : World) : ResultVar → Value → Prop
  | tmp {t : Tmp} {v : Value} (h : tmps.getD t undef = v) : ResOne P tmps w (.tmp t) v
  | cell {t : Tmp} {ty : TypeId} {p : Addr} {v : Value} (hp : tmps.getD t undef = .pointer (some p)) (hl : (loadVar ty p).run P w = .ok v w) : ResOne P tmps w (.cell t ty) v
theorem res1 {fn : Func} {tmps : Array Value} {w : World} {r : ResultVar} {v : Value} (h : fn.results = #[r]) (h1 : ResOne P tmps w r v) : (results fn tmps).run P w = .ok v w := by
  cases h1
  all_goals (simp [results, h, asAddr] at *; simp_all)
theorem res2 {fn : Func} {tmps : Array Value} {w : World} {r s : ResultVar} {v u : Value} (h : fn.results = #[r, s]) (h1 : ResOne P tmps w r v) (h2 : ResOne P tmps w s u) : (results fn tmps).run P w = .ok (.tuple #[v, u]) w := by
  cases h1 <;> cases h2
  all_goals (simp [results, h, asAddr] at *; simp_all)
theorem res3 {fn : Func} {tmps : Array Value} {w : World} {r s t : ResultVar} {v u x : Value} (h : fn.results = #[r, s, t]) (h1 : ResOne P tmps w r v) (h2 : ResOne P tmps w s u) (h3 : ResOne P tmps w t x) : (results fn tmps).run P w = .ok (.tuple #[v, u, x]) w := by
  cases h1 <;> cases h2 <;> cases h3
  all_goals (simp [results, h, asAddr] at *; simp_all)
theorem run_loadVar_one (w : World) (b o : Nat) (ty : TypeId) (v : Value) (d : TypeDesc) (hc : w.cell? ⟨b, o, none⟩ = some v) (hu : P.underlying ty = some d) (hd : d.isRow = false) :
    (loadVar ty ⟨b, o, none⟩).run P w = .ok v w := by
  have hagg : (isAgg ty).run P w = .ok false w := by
    unfold isAgg
    rw [Sem.run_bind, run_underlying hu w]
    cases d <;> simp_all
  simp only [loadVar, Sem.run_bind, hagg, Result.andThen_ok, Bool.false_eq_true, if_false]
  simp [hc, go_sem]

theorem then_normal {Q : Exit → Act → World → Prop} {K : Act → World → Prop} {a : Act} {w : World} (h : K a w) : Exit.then K Q .normal a w := h

/-- A loop, by what holds at each round's head, with a number that goes down. -/
theorem wp_loop_ghost {Q : Exit → Act → World → Prop} {c : Code} {a : Act} {w : World} (I : Nat → Act → World → Prop) (n : Nat) (h₀ : I n a w)
    (round : ∀ n a w, I n a w → c.wp P (Exit.then (fun a' w' => ∃ m, m < n ∧ I m a' w') Q) a w) : (Code.loop c).wp P Q a w := by
  intro b k cs
  have key : ∀ n a w, I n a w →
      ∃ e a' w', Q e a' w' ∧ Arrives P (lone (b.at a (.code c :: .inLoop c :: k)) cs w) b k cs e a' w' := by
    intro n
    induction n using Nat.strongRecOn with
    | _ n ih =>
      intro a w hI
      obtain ⟨e, a₁, w₁, hq, harr⟩ := round n a w hI b (.inLoop c :: k) cs
      cases e with
      | normal =>
        obtain ⟨m, hlt, hI₁⟩ := hq
        obtain ⟨e₂, a₂, w₂, hq₂, harr₂⟩ := ih m hlt a₁ w₁ hI₁
        exact ⟨e₂, a₂, w₂, hq₂, .of_steps (Steps.trans harr (.one step_inLoop)) harr₂⟩
      | exit id => exact ⟨_, a₁, w₁, hq, .pass (x := .inLoop c) rfl (fun _ _ => .inl (by simp)) harr⟩
      | goto l => exact ⟨_, a₁, w₁, hq, .pass (x := .inLoop c) rfl (fun _ _ => .inl (by simp)) harr⟩
      | ret => exact ⟨_, a₁, w₁, hq, .pass (x := .inLoop c) rfl (fun _ _ => .inl (by simp)) harr⟩
      | panic ch => exact ⟨_, a₁, w₁, hq, .pass (x := .inLoop c) rfl (fun _ _ => .inl (by simp)) harr⟩
      | outgrown => exact ⟨_, a₁, w₁, hq, .pass (x := .inLoop c) rfl (fun _ _ => .inl (by simp)) harr⟩
  obtain ⟨e, a', w', hq, harr⟩ := key n a w h₀
  exact ⟨e, a', w', hq, .of_steps (.one step_loop) harr⟩

section arith
variable {ops : Array Oper} {w0 : World} {L : Act → Prop} {o : Oper} {rest : List Oper} {a : Act}
/-- Sums and comparisons of whole numbers. -/
theorem wpV_bin {op : BinOp} {T T' : TypeId} {x y : Operand} {k k' : IntKind} {m n : Int} {v : Value} (hw : Region.wanted o (yielded ops a.tmps) = true) (ho : o.op = .binOp op T x y T') (hx : a.eval x = .int k m) (hy : a.eval y = .int k' n)
    (hr : ∀ W, (binOp op T (.int k m) (.int k' n)).run P W = .ok v W) (h : wpV P ops w0 L rest (a.put o.dst v)) : wpV P ops w0 L (o :: rest) a :=
  wpV_val (by simp [isAlloc, ho]) hw (fun W _ => by
    unfold RunsVal
    have hg : ∀ u : Unit → Sem Value, (eqGuard op T x y (.int k m) (.int k' n) >>= u).run P W = (u ()).run P W := fun u => by
      unfold eqGuard
      cases op <;> simp
    simp only [execOp, ho, hx, hy, Sem.run_bind, Sem.run_pure]
    have := hr W
    have e : (eqGuard op T x y (.int k m) (.int k' n)).run P W = .ok () W := by
      unfold eqGuard
      cases op <;> simp
    simp only [e, Result.andThen_ok, this]) h
theorem run_lss (T : TypeId) (k : IntKind) (m n : Int) (W : World) : (binOp .lss T (.int k m) (.int k n)).run P W = .ok (.bool (decide (m < n))) W := by simp [binOp, go_sem]
theorem run_leq (T : TypeId) (k : IntKind) (m n : Int) (W : World) : (binOp .leq T (.int k m) (.int k n)).run P W = .ok (.bool (decide (m ≤ n))) W := by simp [binOp, go_sem]
theorem run_gtr (T : TypeId) (k : IntKind) (m n : Int) (W : World) : (binOp .gtr T (.int k m) (.int k n)).run P W = .ok (.bool (decide (n < m))) W := by simp [binOp, go_sem]
theorem run_geq (T : TypeId) (k : IntKind) (m n : Int) (W : World) : (binOp .geq T (.int k m) (.int k n)).run P W = .ok (.bool (decide (n ≤ m))) W := by simp [binOp, go_sem]
theorem run_eql (T : TypeId) (k : IntKind) (m n : Int) (W : World) : (binOp .eql T (.int k m) (.int k n)).run P W = .ok (.bool (m == n)) W := by simp [binOp, go_sem]
theorem run_neq (T : TypeId) (k : IntKind) (m n : Int) (W : World) : (binOp .neq T (.int k m) (.int k n)).run P W = .ok (.bool (m != n)) W := by simp [binOp, go_sem]
theorem run_add {T : TypeId} {k : IntKind} {m n e : Int} (h : k.wrap (m + n) = e) (W : World) : (binOp .add T (.int k m) (.int k n)).run P W = .ok (.int k e) W := by subst h; simp [binOp, go_sem]
theorem run_sub {T : TypeId} {k : IntKind} {m n e : Int} (h : k.wrap (m - n) = e) (W : World) : (binOp .sub T (.int k m) (.int k n)).run P W = .ok (.int k e) W := by subst h; simp [binOp, go_sem]
theorem run_mul {T : TypeId} {k : IntKind} {m n e : Int} (h : k.wrap (m * n) = e) (W : World) : (binOp .mul T (.int k m) (.int k n)).run P W = .ok (.int k e) W := by subst h; simp [binOp, go_sem]
theorem run_and {T : TypeId} {k : IntKind} {m n e : Int} (h : bits .and k m n = e) (W : World) : (binOp .and T (.int k m) (.int k n)).run P W = .ok (.int k e) W := by subst h; simp [binOp, go_sem]
theorem run_or {T : TypeId} {k : IntKind} {m n e : Int} (h : bits .or k m n = e) (W : World) : (binOp .or T (.int k m) (.int k n)).run P W = .ok (.int k e) W := by subst h; simp [binOp, go_sem]
theorem run_quo {T : TypeId} {k : IntKind} {m n e : Int} (hn : n ≠ 0) (h : k.wrap (m.tdiv n) = e) (W : World) : (binOp .quo T (.int k m) (.int k n)).run P W = .ok (.int k e) W := by subst h; simp [binOp, go_sem, hn]
theorem run_rem {T : TypeId} {k : IntKind} {m n e : Int} (hn : n ≠ 0) (h : m.tmod n = e) (W : World) : (binOp .rem T (.int k m) (.int k n)).run P W = .ok (.int k e) W := by subst h; simp [binOp, go_sem, hn]
end arith

/-- The end of a region: on into the rest. -/
theorem no_panic {Q : Exit → Act → World → Prop} {a : Act} {w : World} (h : Q .normal a w) : NoPanic Q .normal a w := h
end Go.Proofs.Num
