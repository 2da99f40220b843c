/- A drawn region: an operation that hangs on no world goes first. Appending nothing; appending what stands further on in its block. -/
import Derived.Test.YticcchgckljlnaaDoorMemA
import Derived.Test.YticcchgckljlnaaDoorSha
import Derived.Orders
set_option linter.unusedSimpArgs false
set_option linter.unusedVariables false
namespace Go.Proofs.Num
open Go Go.RowKit
section
variable {P : Program} {Q : Exit → Act → World → Prop}
def firstB (ops : Array Oper) (listed : Array Bool) (i : Nat) : Bool :=
  Region.noSelect ops && (Region.ready .any ops listed).contains i && (List.range ops.size).all fun j => match ops[i]?, ops[j]? with
    | some oi, some oj => j == i || listed.getD j true || (oj.after.any fun e => Region.binds .any e && e.on == i) || oi.apart ops oj
    | _, _ => true
theorem any_first {l : List Oper} {fuel : Nat} {listed : Array Bool} {a : Act} {w : World} (i : Nat) {o : Oper} {v : Value} (hi : l[i]? = some o) (hB : firstB l.toArray listed i = true) (hQ : ∀ c a w, ¬ Q (.panic c) a w) (hg : o.guard = none)
    (hv : ∀ W, RunsVal ((execOp a.eval o).run P W) v W) (h : wpAny P .any l.toArray Q fuel (listed.setIfInBounds i true) (a.put o.dst v) w) : wpAny P .any l.toArray Q (fuel + 1) listed a w := by
  simp only [firstB, Bool.and_eq_true] at hB
  obtain ⟨⟨hs, hr⟩, hall⟩ := hB
  have hoi : l.toArray[i]? = some o := by simpa using hi
  refine wpAny_first (i := i) (oi := o) (v := v) hoi (fun j oj cs b hj => Region.noSelect_spec hs j oj cs b hj) (fun c a w hp => absurd hp (hQ _ _ _)) fuel listed a w (fun j oj hj hne hl hw => ?_) (by simpa using hr) (.inl ⟨by simp [Region.wanted, hg], hv⟩) h
  have := List.all_eq_true.1 hall j (List.mem_range.2 (Array.getElem?_eq_some_iff.1 hj).1)
  simp only [hoi, hj, Bool.or_eq_true, beq_iff_eq] at this
  rcases this with ((h1 | h1) | h1) | h1
  · exact absurd h1 hne
  · rw [hl] at h1; cases h1
  · rw [Array.any_eq_true] at h1
    obtain ⟨q, hq, h2⟩ := h1
    simp only [Bool.and_eq_true, beq_iff_eq] at h2
    exact absurd h2.2 (hw _ (Array.getElem_mem hq) h2.1)
  · exact h1
theorem wp_region_treeN {id : Nat} {a : Act} {w : World} {l : List Oper} (hm : P.follows .mixedOrders = true) (h : ∀ W, Sees w W → wpAny P .any l.toArray (NoPanic Q) l.length (Array.replicate l.length false) a W) : (Code.region id l.toArray true).wp P Q a w :=
  Code.wp_mono NoPanic.imp (wp_region_tree hm h)
theorem nopanic_not : ∀ c a w, ¬ NoPanic Q (.panic c) a w := fun c a w h => h
variable {o : Oper} {a : Act} {v : Value}
theorem yl_move {x : Operand} (ho : o.op = .move x) (hx : a.eval x = v) (W : World) : RunsVal ((execOp a.eval o).run P W) v W := by unfold RunsVal; simp [execOp, ho, hx]
theorem yl_assign {x : Operand} (ho : o.op = .assign x) (hx : a.eval x = v) (W : World) : RunsVal ((execOp a.eval o).run P W) v W := by unfold RunsVal; simp [execOp, ho, hx]
theorem yl_lenS {x : Operand} {ts : Array TypeId} {l : List UInt8} (ho : o.op = .call { callee := .builtin .len, args := #[x], argTypes := ts }) (hx : a.eval x = .string (bs l)) {T : TypeId} (ht : ts[0]? = some T) (hu : P.underlying T = some .string) (W : World) : RunsVal ((execOp a.eval o).run P W) (.int .i64 ((l.length : Nat) : Int)) W := by
  unfold RunsVal
  rw [← bs_size]
  simp [execOp, ho, hx, resolve, invoke, builtin, Builtin.len_, goInt, ht, run_underlying hu]
theorem yl_lenA {x : Operand} {ts : Array TypeId} {p : Option Addr} {n cap : Nat} (ho : o.op = .call { callee := .builtin .len, args := #[x], argTypes := ts }) (hx : a.eval x = .slice p n cap) {T e : TypeId} (ht : ts[0]? = some T) (hu : P.underlying T = some (.slice e)) (W : World) : RunsVal ((execOp a.eval o).run P W) (.int .i64 ((n : Nat) : Int)) W := by
  unfold RunsVal
  simp [execOp, ho, hx, resolve, invoke, builtin, Builtin.len_, goInt, ht, run_underlying hu]
theorem yl_min {x y : Operand} {ts : Array TypeId} {n m : Nat} {k k2 : IntKind} (ho : o.op = .call { callee := .builtin .min, args := #[x, y], argTypes := ts }) (hx : a.eval x = .int k (n : Nat)) (hy : a.eval y = .int k2 (m : Nat)) (W : World) : RunsVal ((execOp a.eval o).run P W) (.int k ((min n m : Nat) : Int)) W := by
  unfold RunsVal
  simp only [execOp, ho, resolve, invoke, builtin, Builtin.min_, Builtin.min2]
  simp [hx, hy, Builtin.min2]
  split <;> omega
theorem yl_cut {T : TypeId} {x y : Operand} {l : List UInt8} {m : Nat} {k : IntKind} (ho : o.op = .slice T x none (some y) none) (hx : a.eval x = .string (bs l)) (hy : a.eval y = .int k ((min l.length m : Nat) : Int)) (hT : P.underlying T = some .string) (W : World) : RunsVal ((execOp a.eval o).run P W) (.string (bs (cut l m))) W := by
  unfold RunsVal
  have := run_sliceS (P := P) hT (k := k) (Nat.min_le_left l.length m) W
  simp only [execOp, ho, hx, hy, Option.map_none, Option.map_some, Sem.run_bind, this, Result.andThen_ok, Sem.run_pure]
  rfl
end
section tails
variable {P : Program} {ops : Array Oper} {Q : Exit → Act → World → Prop} {o : Oper} {rest : List Oper} {a : Act} {W : World}
theorem wpL_append2 {T e : TypeId} {s x : Operand} {g n cap h ho2 : Nat} {c : Nat} {olds news : List Value} {bytes m : Nat} {z : Value} (hg : o.guard = none) (ho : o.op = .call { callee := .builtin .append, args := #[s, x], argTypes := #[T, T] })
    (hs : a.eval s = .slice (some ⟨g, 0, none⟩) n cap) (hx : a.eval x = .slice (some ⟨h, ho2, none⟩) m c) (hT : P.underlying T = some (.slice e)) (hinfo : (P.info? e).map (fun i => (i.zero, i.size, i.bytes)) = some (some z, 1, bytes)) (hzc : z.cells = #[z]) (hz1 : z.oneCell' = true)
    (hn : olds.length = n) (hm : news.length = m) (hr : W.rangeAt g 0 olds) (ht : W.there g 0 cap) (hL : g < W.heap.size) (hr2 : W.rangeAt h ho2 news) (h1 : ∀ u ∈ news, u.oneCell' = true) (hb : (n + m) * bytes ≤ 140737488355328) (h63 : n + m ≤ maxLen) 
    (hk : ∀ g' cap' W', Grew g W W' → (g' = g ∨ W.heap.size ≤ g') → n + m ≤ cap' → W'.rangeAt g' 0 (olds ++ news) → W'.there g' 0 cap' → g' < W'.heap.size →
      wpList P ops Q rest (a.put o.dst (.slice (some ⟨g', 0, none⟩) (n + m) cap')) W') : wpList P ops Q (o :: rest) a W := by
  obtain ⟨i, hi, he⟩ := Option.map_eq_some_iff.1 hinfo
  simp only [Prod.mk.injEq] at he
  obtain ⟨hz, hsz, hby⟩ := he
  have had : ∀ (q j : Nat), (⟨q, 0, none⟩ : Addr).add j = ⟨q, j, none⟩ := fun q j => by cases j <;> simp [Addr.add]
  have hado : ∀ (q o j : Nat), (⟨q, o, none⟩ : Addr).add j = ⟨q, o + j, none⟩ := fun q o j => by cases j <;> simp [Addr.add]
  have hnews : ∀ j u, news[j]? = some u → W.cell? ((⟨h, ho2, none⟩ : Addr).add j) = some u := fun j u hu => by have := hr2 j u hu; rw [hado]; exact this
  refine wpList_plain hg fun K hK => ?_
  by_cases hroom : n + m ≤ cap
  · have htt : ∀ j, j < news.length → (W.cell? ⟨g, 0 + n * i.size + j, none⟩).isSome = true ∧ W.frozen? ⟨g, 0 + n * i.size + j, none⟩ = false := fun j hj => by
      rw [hsz, Nat.mul_one, Nat.zero_add]
      have := ht (n + j) (by omega)
      rwa [Nat.zero_add] at this
    have hrun := run_append_room_cells (P := P) W T o.type e i hT hi g 0 n cap ⟨h, ho2, none⟩ m c news (by rw [hsz, Nat.mul_one, hm]) hnews h1 hroom (fun j hj => (htt j hj).1) (fun j hj => (htt j hj).2)
    have hp := puts_cells g news (0 + n * i.size) W
    rw [hsz, Nat.mul_one, Nat.zero_add] at hp htt
    unfold Oper.wp execOp
    simp only [ho, resolve, invoke, builtin, Sem.run_bind, Sem.run_pure, Result.andThen_ok, List.map_toArray, List.map_cons, List.map_nil, hs, hx, hrun]
    rw [hsz, Nat.mul_one, Nat.zero_add]
    have hcells := World.rangeAt_setCells_same W g n news (fun j hj => htt j hj)
    refine hK _ _ (hk g cap _ ⟨hp.os, hp.tape, hp.output, by rw [hp.size]; exact Nat.le_refl _, fun k _ hne => hp.other k hne⟩ (.inl rfl) hroom ?_ ?_ (hp.lt hL))
    · exact range_join (hp.range hr (.inr (.inl (by rw [Nat.zero_add, hn]; exact Nat.le_refl _)))) hcells (by rw [Nat.zero_add, hn])
    · refine hp.there ht fun _ j hj => ?_
      rw [hcells j news[j] (by simp [hj])]; rfl
  · have hzs : z.cells.size = 1 := by rw [hzc]; rfl
    have hge := grownCap_ge W (n + m) cap e
    have hrun := run_append_grow (P := P) W T o.type e i z hT hi hz ⟨g, 0, none⟩ n cap olds (by rw [hsz, Nat.mul_one, hn]) (fun j u hu => by have := hr j u hu; rw [Nat.zero_add] at this; rw [had]; exact this) ⟨h, ho2, none⟩ m c news (by rw [hsz, Nat.mul_one, hm]) hnews (by omega) (by simp only [maxLen] at h63; omega) (growslice_fits (by omega) (by rw [hby]; exact hb))
    unfold Oper.wp execOp
    simp only [ho, resolve, invoke, builtin, Sem.run_bind, Sem.run_pure, Result.andThen_ok, List.map_toArray, List.map_cons, List.map_nil, hs, hx, hrun]
    have hB : Blk (W.drew.alloc (.cells (olds.toArray ++ news.toArray ++ Builtin.zeroCells z.cells (grownCap W (n + m) cap e - (n + m))) e)) W.heap.size e (olds.toArray ++ news.toArray ++ Builtin.zeroCells z.cells (grownCap W (n + m) cap e - (n + m))) := Blk.new W.drew e _
    refine hK _ _ (hk W.heap.size (grownCap W (n + m) cap e) _ ⟨rfl, rfl, rfl, by simp, fun k hk _ => heap_alloc_old W.drew _ k hk⟩ (.inr (Nat.le_refl _)) hge ?_ (blk_there hB ?_) hB.lt)
    · have := blk_range hB (l := (olds ++ news) ++ (Builtin.zeroCells z.cells (grownCap W (n + m) cap e - (n + m))).toList) (by apply Array.ext'; simp)
      exact (range_append this).1
    · simp only [Array.size_append, List.size_toArray, size_zeroCells, hzs, hn, hm]; omega
theorem wpL_appendN {T e : TypeId} {s x : Operand} {g n cap : Nat} (hg : o.guard = none) (ho : o.op = .call { callee := .builtin .append, args := #[s, x], argTypes := #[T, T] })
    (hs : a.eval s = .slice (some ⟨g, 0, none⟩) n cap) (hx : a.eval x = .slice none 0 0) (hT : P.underlying T = some (.slice e)) {k : Nat} (hinfo : (P.info? e).map (·.size) = some k) (hc : n ≤ cap)
    (hk : wpList P ops Q rest (a.put o.dst (.slice (some ⟨g, 0, none⟩) n cap)) W) : wpList P ops Q (o :: rest) a W :=
  wpL_val hg (by
    unfold RunsVal
    simp [execOp, ho, hs, hx, resolve, invoke, builtin, Builtin.append_, run_underlying hT, run_sizeOf hinfo, Builtin.lenOf, hc, Builtin.firstCells, storeCells]) hk
theorem wpL_appendE {T e : TypeId} {s x : Operand} {g n cap : Nat} {b : Addr} (hg : o.guard = none) (ho : o.op = .call { callee := .builtin .append, args := #[s, x], argTypes := #[T, T] })
    (hs : a.eval s = .slice (some ⟨g, 0, none⟩) n cap) (hx : a.eval x = .slice (some b) 0 0) (hT : P.underlying T = some (.slice e)) {k : Nat} (hinfo : (P.info? e).map (·.size) = some k) (hc : n ≤ cap)
    (hk : wpList P ops Q rest (a.put o.dst (.slice (some ⟨g, 0, none⟩) n cap)) W) : wpList P ops Q (o :: rest) a W :=
  wpL_val hg (by
    unfold RunsVal
    simp [execOp, ho, hs, hx, resolve, invoke, builtin, Builtin.append_, run_underlying hT, run_sizeOf hinfo, Builtin.lenOf, hc, Builtin.firstCells, storeCells, loadCells, loadCellsFrom]) hk
end tails
/-- Some of a row of texts, each cut. -/
def cutsS (k m : Nat) (ps : List (List UInt8)) : List (List UInt8) := (ps.take (min ps.length k)).map fun s => cut s m
theorem cutsS_len (k m : Nat) (ps : List (List UInt8)) : (cutsS k m ps).length ≤ k := by simp [cutsS]; omega
def partS (m : Nat) (qs : List (List UInt8)) (k : Nat) : List (List UInt8) := (qs.take k).map (fun s => cut s m) ++ qs.drop k
theorem partS_len (m : Nat) (qs : List (List UInt8)) (k : Nat) : (partS m qs k).length = qs.length := by simp [partS]; omega
theorem partS_zero (m : Nat) (qs : List (List UInt8)) : partS m qs 0 = qs := by simp [partS]
theorem partS_end (m : Nat) (qs : List (List UInt8)) : partS m qs qs.length = qs.map fun s => cut s m := by simp [partS]
theorem partS_get (m : Nat) {qs : List (List UInt8)} {k : Nat} (h : k < qs.length) : (scells (partS m qs k))[k]? = some (.string (bs (qs.getD k []))) := by
  rw [scells_get (by rw [partS_len]; exact h)]
  congr 3
  unfold partS
  rw [List.getD_eq_getElem?_getD, List.getElem?_append_right (by simp; omega), List.getD_eq_getElem?_getD]
  simp [Nat.min_eq_left (Nat.le_of_lt h)]
theorem partS_set (m : Nat) {qs : List (List UInt8)} {k : Nat} (h : k < qs.length) : (scells (partS m qs k)).set k (.string (bs (cut (qs.getD k []) m))) = scells (partS m qs (k + 1)) := by
  have e : (partS m qs k).set k (cut (qs.getD k []) m) = partS m qs (k + 1) := by
    unfold partS
    have e1 : qs.drop k = qs[k] :: qs.drop (k + 1) := List.drop_eq_getElem_cons h
    have e2 : (qs.take (k + 1)).map (fun s => cut s m) = (qs.take k).map (fun s => cut s m) ++ [cut qs[k] m] := by
      rw [List.take_add_one, List.map_append, List.getElem?_eq_getElem h]
      rfl
    have e3 : k - ((qs.take k).map (fun s => cut s m)).length = 0 := by simp; omega
    have e4 : qs.getD k [] = qs[k] := by rw [List.getD_eq_getElem?_getD, List.getElem?_eq_getElem h]; rfl
    rw [List.set_append, if_neg (by simp; omega), e1, e2, e3, e4]
    simp only [List.set, List.append_assoc, List.cons_append, List.nil_append]
  rw [← e]
  simp [scells, List.map_set]
theorem scells_app (a b : List (List UInt8)) : scells a ++ scells b = scells (a ++ b) := by simp [scells]
theorem scells_one (ps : List (List UInt8)) : ∀ v ∈ scells ps, v.oneCell' = true := by
  intro v hv
  simp only [scells, List.mem_map] at hv
  obtain ⟨_, _, rfl⟩ := hv
  rfl
end Go.Proofs.Num
