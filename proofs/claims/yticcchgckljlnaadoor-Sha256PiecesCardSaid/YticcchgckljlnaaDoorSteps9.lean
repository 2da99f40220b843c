/- The greatest and the least of two whole numbers; rows of whole numbers. -/
import Derived.Test.YticcchgckljlnaaDoorRowa
set_option linter.unusedSimpArgs false
set_option linter.unusedVariables false
namespace Go.Proofs.Num
open Go Go.RowKit
section vals
variable {P : Program} {ops : Array Oper} {w0 : World} {L : Act → Prop} {o : Oper} {rest : List Oper} {a : Act}
theorem wpV_maxZ {x y : Operand} {ts : Array TypeId} {m n e : Int} {k k2 : IntKind} (hw : Region.wanted o (yielded ops a.tmps) = true) (ho : o.op = .call { callee := .builtin .max, args := #[x, y], argTypes := ts }) (hx : a.eval x = .int k m) (hy : a.eval y = .int k2 n) (he : max m n = e)
    (h : wpV P ops w0 L rest (a.put o.dst (.int k e))) : wpV P ops w0 L (o :: rest) a :=
  wpV_val (by simp [isAlloc, ho]) hw (fun W _ => by
    unfold RunsVal
    subst he
    simp only [execOp, ho, resolve, invoke, builtin, Builtin.max_, Builtin.max2]
    simp [hx, hy, Builtin.max2]
    first | omega | (split <;> omega)) h
theorem wpV_minZ {x y : Operand} {ts : Array TypeId} {m n e : Int} {k k2 : IntKind} (hw : Region.wanted o (yielded ops a.tmps) = true) (ho : o.op = .call { callee := .builtin .min, args := #[x, y], argTypes := ts }) (hx : a.eval x = .int k m) (hy : a.eval y = .int k2 n) (he : min m n = e)
    (h : wpV P ops w0 L rest (a.put o.dst (.int k e))) : wpV P ops w0 L (o :: rest) a :=
  wpV_val (by simp [isAlloc, ho]) hw (fun W _ => by
    unfold RunsVal
    subst he
    simp only [execOp, ho, resolve, invoke, builtin, Builtin.min_, Builtin.min2]
    simp [hx, hy, Builtin.min2]
    first | omega | (split <;> omega)) h
theorem yl_nilCheck {x : Operand} {p : Addr} (ho : o.op = .nilCheck x) (hx : a.eval x = .pointer (some p)) (W : World) : RunsVal ((execOp a.eval o).run P W) (.pointer (some p)) W := by
  unfold RunsVal
  simp [execOp, ho, hx, Instr.sureAddr, asAddr, Sem.run_bind, Sem.run_pure]
theorem yl_idxA {T e : TypeId} {x y : Operand} {i n c : Nat} {k : IntKind} {p : Option Addr} {cs : List Value} {W0 : World} (ho : o.op = .indexAddr T x y) (hx : a.eval x = .slice p n c) (hy : a.eval y = .int k (i : Nat))
    (hu : P.underlying T = some (.slice e)) (hs : (P.info? e).map (·.size) = some 1) (hR : RowA W0 p n c cs) (hn : i < n) (W : World) : RunsVal ((execOp a.eval o).run P W) (.pointer (p.map (·.add i))) W := by
  obtain ⟨g, q, rfl, _, _⟩ := hR.real hn
  unfold RunsVal
  simp only [execOp, ho, hx, hy, run_indexAt_slice hu hs hn W, Sem.run_bind, Result.andThen_ok, Sem.run_pure]
  simp [add_at]
theorem yl_slcHM {T e : TypeId} {x y z : Operand} {hi m n c : Nat} {k k2 : IntKind} {p : Option Addr} (ho : o.op = .slice T x none (some y) (some z)) (hx : a.eval x = .slice p n c) (hy : a.eval y = .int k (hi : Nat)) (hz : a.eval z = .int k2 (m : Nat))
    (hT : P.underlying T = some (.slice e)) (hs : (P.info? e).map (·.size) = some 1) (h1 : hi ≤ m) (h2 : m ≤ c) (W : World) : RunsVal ((execOp a.eval o).run P W) (.slice p hi m) W := by
  unfold RunsVal
  have he : P.elem T = e := by simp [Program.elem, hT]
  have : (Instr.sliceAt T (.slice p n c) none (some (.int k (hi : Nat))) (some (.int k2 (m : Nat)))).run P W = .ok (.slice p hi m) W := by
    rw [run_sliceAt_slice _ _ _ _ _ _ (by rw [he]; exact hT), run_slice_hm _ _ _ _ _ (by rw [he]; exact hT) _ _ _ _ (by omega) (by omega) (by omega), he, run_sizeOf hs]
    simp only [Result.andThen, sliced, Nat.zero_mul, Int.toNat_natCast, Nat.sub_zero]
    rw [show (if m = 0 then p else p.map (·.add 0)) = slA p 0 m from rfl, slA_zero]
  simp only [execOp, ho, hx, hy, hz, Option.map_none, Option.map_some, Sem.run_bind, this, Result.andThen_ok, Sem.run_pure]
theorem yl_slcH {T e : TypeId} {x y : Operand} {hi n c : Nat} {k : IntKind} {p : Option Addr} (ho : o.op = .slice T x none (some y) none) (hx : a.eval x = .slice p n c) (hy : a.eval y = .int k (hi : Nat))
    (hT : P.underlying T = some (.slice e)) (hs : (P.info? e).map (·.size) = some 1) (h1 : hi ≤ c) (W : World) : RunsVal ((execOp a.eval o).run P W) (.slice p hi c) W := by
  unfold RunsVal
  have he : P.elem T = e := by simp [Program.elem, hT]
  have : (Instr.sliceAt T (.slice p n c) none (some (.int k (hi : Nat))) none).run P W = .ok (.slice p hi c) W := by
    rw [run_sliceAt_slice _ _ _ _ _ _ (by rw [he]; exact hT), run_slice_h _ _ _ _ _ (by rw [he]; exact hT) _ _ (by omega) (by omega), he, run_sizeOf hs]
    simp only [Result.andThen, sliced, Nat.zero_mul, Int.toNat_natCast, Nat.sub_zero]
    rw [show (if c = 0 then p else p.map (·.add 0)) = slA p 0 c from rfl, slA_zero]
  simp only [execOp, ho, hx, hy, Option.map_none, Option.map_some, Sem.run_bind, this, Result.andThen_ok, Sem.run_pure]
theorem yl_slcA {T e : TypeId} {x y z : Operand} {lo hi n c : Nat} {k k2 : IntKind} {p : Option Addr} (ho : o.op = .slice T x (some y) (some z) none) (hx : a.eval x = .slice p n c) (hy : a.eval y = .int k (lo : Nat)) (hz : a.eval z = .int k2 (hi : Nat))
    (hT : P.underlying T = some (.slice e)) (hs : (P.info? e).map (·.size) = some 1) (h1 : lo ≤ hi) (h2 : hi ≤ c) (W : World) : RunsVal ((execOp a.eval o).run P W) (.slice (slA p lo c) (hi - lo) (c - lo)) W := by
  unfold RunsVal
  simp only [execOp, ho, hx, hy, hz, Option.map_none, Option.map_some, Sem.run_bind, run_slcA hT hs h1 h2 (Nat.le_refl c), Result.andThen_ok, Sem.run_pure]
theorem yl_slcL {T e : TypeId} {x y : Operand} {lo n c : Nat} {k : IntKind} {p : Option Addr} (ho : o.op = .slice T x (some y) none none) (hx : a.eval x = .slice p n c) (hy : a.eval y = .int k (lo : Nat))
    (hT : P.underlying T = some (.slice e)) (hs : (P.info? e).map (·.size) = some 1) (h1 : lo ≤ n) (W : World) : RunsVal ((execOp a.eval o).run P W) (.slice (slA p lo c) (n - lo) (c - lo)) W := by
  unfold RunsVal
  have he : P.elem T = e := by simp [Program.elem, hT]
  have : (Instr.sliceAt T (.slice p n c) (some (.int k (lo : Nat))) none none).run P W = .ok (.slice (slA p lo c) (n - lo) (c - lo)) W := by
    rw [run_sliceAt_slice _ _ _ _ _ _ (by rw [he]; exact hT), run_slice_l _ _ _ _ _ (by rw [he]; exact hT) _ _ (by omega) (by omega), he, run_sizeOf hs]
    simp [Result.andThen, sliced, slA]
  simp only [execOp, ho, hx, hy, Option.map_none, Option.map_some, Sem.run_bind, this, Result.andThen_ok, Sem.run_pure]
theorem yl_bin {op : BinOp} {T T' : TypeId} {x y : Operand} {k k2 : IntKind} {m n : Int} {v : Value} (ho : o.op = .binOp op T x y T') (hx : a.eval x = .int k m) (hy : a.eval y = .int k2 n) (hr : ∀ W, (binOp op T (.int k m) (.int k2 n)).run P W = .ok v W) (W : World) : RunsVal ((execOp a.eval o).run P W) v W := by
  unfold RunsVal
  have e : (eqGuard op T x y (.int k m) (.int k2 n)).run P W = .ok () W := by
    unfold eqGuard
    cases op <;> simp
  simp only [execOp, ho, hx, hy, Sem.run_bind, Sem.run_pure, e, Result.andThen_ok, hr W]
end vals
theorem run_subS {P : Program} {T : TypeId} (hT : P.underlying T = some .string) {l : List UInt8} {lo hi : Nat} {k k2 : IntKind} (h1 : lo ≤ hi) (h2 : hi ≤ l.length) (W : World) : (Instr.sliceAt T (.string (bs l)) (some (.int k ((lo : Nat) : Int))) (some (.int k2 ((hi : Nat) : Int))) none).run P W = .ok (.string (bs ((l.take hi).drop lo))) W := by
  have e : (bs l).extract lo hi = bs ((l.take hi).drop lo) := by
    apply ByteArray.ext
    simp [bs, ByteArray.extract, ByteArray.copySlice, List.drop_take]
  simp [Instr.sliceAt, Instr.slice, Instr.sliceBounds, Instr.sliceBound, asIntOf, run_underlying hT, Sem.run_bind, h1, h2, bs_size, e]
section vals3
variable {P : Program} {ops : Array Oper} {w0 : World} {L : Act → Prop} {o : Oper} {rest : List Oper} {a : Act}
theorem wpV_subS {T : TypeId} {x y z : Operand} {l : List UInt8} {lo hi : Nat} {k k2 : IntKind} (hw : Region.wanted o (yielded ops a.tmps) = true) (ho : o.op = .slice T x (some y) (some z) none) (hx : a.eval x = .string (bs l)) (hy : a.eval y = .int k (lo : Nat)) (hz : a.eval z = .int k2 (hi : Nat))
    (hT : P.underlying T = some .string) (h1 : lo ≤ hi) (h2 : hi ≤ l.length) (h : wpV P ops w0 L rest (a.put o.dst (.string (bs ((l.take hi).drop lo))))) : wpV P ops w0 L (o :: rest) a :=
  wpV_val (by simp [isAlloc, ho]) hw (fun W _ => by
    unfold RunsVal
    simp only [execOp, ho, hx, hy, hz, Option.map_none, Option.map_some, Sem.run_bind, run_subS hT h1 h2, Result.andThen_ok, Sem.run_pure]) h
end vals3
section tails2
variable {P : Program} {ops : Array Oper} {Q : Exit → Act → World → Prop} {o : Oper} {rest : List Oper} {a : Act} {W : World}
theorem wpL_guard (hw : Region.wanted o (yielded ops a.tmps) = true) (h : wpList P ops Q ({ o with guard := none } :: rest) a W) : wpList P ops Q (o :: rest) a W := by
  unfold wpList at h ⊢
  rw [if_pos hw]
  rw [if_pos (by rfl)] at h
  exact h
theorem wpL_appendE2 {T e : TypeId} {s x : Operand} {g n cap c : Nat} {b : Addr} (hg : o.guard = none) (ho : o.op = .call { callee := .builtin .append, args := #[s, x], argTypes := #[T, T] })
    (hs : a.eval s = .slice (some ⟨g, 0, none⟩) n cap) (hx : a.eval x = .slice (some b) 0 c) (hT : P.underlying T = some (.slice e)) {k : Nat} (hinfo : (P.info? e).map (·.size) = some k) (hc : n ≤ cap)
    (hk : wpList P ops Q rest (a.put o.dst (.slice (some ⟨g, 0, none⟩) n cap)) W) : wpList P ops Q (o :: rest) a W :=
  wpL_val hg (by
    unfold RunsVal
    simp [execOp, ho, hs, hx, resolve, invoke, builtin, Builtin.append_, run_underlying hT, run_sizeOf hinfo, Builtin.lenOf, hc, Builtin.firstCells, storeCells, loadCells, loadCellsFrom]) hk
/-- Appending a row that is read, or none. -/
theorem wpL_appendA {T e : TypeId} {s x : Operand} {p : Option Addr} {g n cap : Nat} {c : Nat} {olds news : List Value} {bytes m : Nat} {z : Value} (hg : o.guard = none) (ho : o.op = .call { callee := .builtin .append, args := #[s, x], argTypes := #[T, T] })
    (hs : a.eval s = .slice (some ⟨g, 0, none⟩) n cap) (hx : a.eval x = .slice p m c) (hT : P.underlying T = some (.slice e)) (hinfo : (P.info? e).map (fun i => (i.zero, i.size, i.bytes)) = some (some z, 1, bytes)) (hzc : z.cells = #[z]) (hz1 : z.oneCell' = true)
    (hn : olds.length = n) (hnc : n ≤ cap) (hr : W.rangeAt g 0 olds) (ht : W.there g 0 cap) (hL : g < W.heap.size) (hR : RowA W p m c news) (h1 : ∀ u ∈ news, u.oneCell' = true) (hb : (n + m) * bytes ≤ 140737488355328) (h63 : n + m ≤ maxLen)
    (hk : ∀ g' cap' W', Grew g W W' → (g' = g ∨ W.heap.size ≤ g') → n + m ≤ cap' → W'.rangeAt g' 0 (olds ++ news) → W'.there g' 0 cap' → g' < W'.heap.size →
      wpList P ops Q rest (a.put o.dst (.slice (some ⟨g', 0, none⟩) (n + m) cap')) W') : wpList P ops Q (o :: rest) a W := by
  have hsz : (P.info? e).map (·.size) = some 1 := by
    obtain ⟨i, hi, he⟩ := Option.map_eq_some_iff.1 hinfo
    simp only [Prod.mk.injEq] at he
    rw [hi, Option.map_some, he.2.1]
  have same : news = [] → wpList P ops Q rest (a.put o.dst (.slice (some ⟨g, 0, none⟩) n cap)) W := fun e0 => by
    have hm0 : m = 0 := by rw [hR.len, e0]; rfl
    have := hk g cap W ⟨rfl, rfl, rfl, Nat.le_refl _, fun k _ _ => rfl⟩ (.inl rfl) (by omega) (by rw [e0, List.append_nil]; exact hr) ht hL
    rwa [hm0, Nat.add_zero] at this
  cases p with
  | none =>
    have hc0 := hR.no rfl
    have hm0 : m = 0 := by have := hR.cap; omega
    have e0 : news = [] := List.length_eq_zero_iff.1 (by rw [← hR.len, hm0])
    subst hc0 hm0
    exact wpL_appendN hg ho hs hx hT hsz hnc (same e0)
  | some q =>
    rcases hR.mem with e0 | ⟨h, o2, e1, h2, h3⟩
    · have hm0 : m = 0 := by rw [hR.len, e0]; rfl
      subst hm0
      exact wpL_appendE2 hg ho hs hx hT hsz hnc (same e0)
    · obtain rfl := Option.some.inj e1
      exact wpL_append2 hg ho hs hx hT hinfo hzc hz1 hn hR.len.symm hr ht hL h3 h1 hb h63 hk
theorem wpL_appendFq {T e : TypeId} {s x : Operand} {q : Addr} {n cap h ho2 : Nat} {c : Nat} {olds news : List Value} {bytes m : Nat} {z : Value} (hg : o.guard = none) (ho : o.op = .call { callee := .builtin .append, args := #[s, x], argTypes := #[T, T] })
    (hs : a.eval s = .slice (some q) n cap) (hx : a.eval x = .slice (some ⟨h, ho2, none⟩) m c) (hT : P.underlying T = some (.slice e)) (hinfo : (P.info? e).map (fun i => (i.zero, i.size, i.bytes)) = some (some z, 1, bytes)) (hzc : z.cells = #[z])
    (hn : olds.length = n) (hm : news.length = m) (hfull : cap < n + m) (holds : ∀ j u, olds[j]? = some u → W.cell? (q.add j) = some u) (hr2 : W.rangeAt h ho2 news) (hb : (n + m) * bytes ≤ 140737488355328) (h63 : n + m ≤ maxLen)
    (hk : ∀ g' cap' W', Sees W W' → W.heap.size ≤ g' → n + m ≤ cap' → W'.rangeAt g' 0 (olds ++ news) → W'.there g' 0 cap' → g' < W'.heap.size → wpList P ops Q rest (a.put o.dst (.slice (some ⟨g', 0, none⟩) (n + m) cap')) W') : wpList P ops Q (o :: rest) a W := by
  obtain ⟨i, hi, he⟩ := Option.map_eq_some_iff.1 hinfo
  simp only [Prod.mk.injEq] at he
  obtain ⟨hz, hsz, hby⟩ := he
  have hado : ∀ (q o j : Nat), (⟨q, o, none⟩ : Addr).add j = ⟨q, o + j, none⟩ := fun q o j => by cases j <;> simp [Addr.add]
  have hnews : ∀ j u, news[j]? = some u → W.cell? ((⟨h, ho2, none⟩ : Addr).add j) = some u := fun j u hu => by have := hr2 j u hu; rw [hado]; exact this
  have hmax : maxLen ≤ 9223372036854775807 := by decide
  refine wpList_plain hg fun K hK => ?_
  have hzs : z.cells.size = 1 := by rw [hzc]; rfl
  have hge := grownCap_ge W (n + m) cap e
  have hrun := run_append_grow (P := P) W T o.type e i z hT hi hz q n cap olds (by rw [hsz, Nat.mul_one, hn]) holds ⟨h, ho2, none⟩ m c news (by rw [hsz, Nat.mul_one, hm]) hnews hfull (by omega) (growslice_fits hfull (by rw [hby]; exact hb))
  unfold Oper.wp execOp
  simp only [ho, resolve, invoke, builtin, Sem.run_bind, Sem.run_pure, Result.andThen_ok, List.map_toArray, List.map_cons, List.map_nil, hs, hx, hrun]
  have hB : Blk (W.drew.alloc (.cells (olds.toArray ++ news.toArray ++ Builtin.zeroCells z.cells (grownCap W (n + m) cap e - (n + m))) e)) W.heap.size e (olds.toArray ++ news.toArray ++ Builtin.zeroCells z.cells (grownCap W (n + m) cap e - (n + m))) := Blk.new W.drew e _
  refine hK _ _ (hk W.heap.size (grownCap W (n + m) cap e) _ (sees_of ⟨rfl, rfl, rfl, by simp, fun k hk => heap_alloc_old W.drew _ k hk⟩) (Nat.le_refl _) hge ?_ (blk_there hB ?_) hB.lt)
  · have := blk_range hB (l := (olds ++ news) ++ (Builtin.zeroCells z.cells (grownCap W (n + m) cap e - (n + m))).toList) (by apply Array.ext'; simp)
    exact (range_append this).1
  · simp only [Array.size_append, List.size_toArray, size_zeroCells, hzs, hn, hm]; omega
/-- Appending to a row that is full, or none. -/
theorem wpL_appendFA {T e : TypeId} {s x : Operand} {p : Option Addr} {n cap h ho2 : Nat} {c : Nat} {olds news : List Value} {bytes m : Nat} {z : Value} (hg : o.guard = none) (ho : o.op = .call { callee := .builtin .append, args := #[s, x], argTypes := #[T, T] })
    (hs : a.eval s = .slice p n cap) (hx : a.eval x = .slice (some ⟨h, ho2, none⟩) m c) (hT : P.underlying T = some (.slice e)) (hinfo : (P.info? e).map (fun i => (i.zero, i.size, i.bytes)) = some (some z, 1, bytes)) (hzc : z.cells = #[z])
    (hR : RowA W p n cap olds) (hm : news.length = m) (h0 : 0 < m) (hfull : cap < n + m) (hr2 : W.rangeAt h ho2 news) (hb : (n + m) * bytes ≤ 140737488355328) (h63 : n + m ≤ maxLen)
    (hk : ∀ g' cap' W', Sees W W' → W.heap.size ≤ g' → n + m ≤ cap' → W'.rangeAt g' 0 (olds ++ news) → W'.there g' 0 cap' → g' < W'.heap.size → wpList P ops Q rest (a.put o.dst (.slice (some ⟨g', 0, none⟩) (n + m) cap')) W') : wpList P ops Q (o :: rest) a W := by
  cases p with
  | none =>
    obtain rfl := hR.no rfl
    obtain rfl : n = 0 := by have := hR.cap; omega
    have e : olds = [] := List.length_eq_zero_iff.1 hR.len.symm
    subst e
    refine wpL_append0 hg ho hs hx hT hinfo hzc hm h0 hr2 (by rwa [Nat.zero_add] at hb) (by rwa [Nat.zero_add] at h63) fun g' cap' W' h1 h2 h3 h4 h5 h6 => ?_
    have := hk g' cap' W' h1 h2 (by omega) h4 h5 h6
    rwa [Nat.zero_add] at this
  | some q =>
    refine wpL_appendFq hg ho hs hx hT hinfo hzc hR.len.symm hm hfull (fun j u hu => ?_) hr2 hb h63 hk
    rcases hR.mem with e | ⟨g, o1, e1, _, e3⟩
    · subst e; simp at hu
    · obtain rfl := Option.some.inj e1
      rw [add_at]
      exact e3 j u hu
end tails2
theorem scells_take2 (ps : List (List UInt8)) (k : Nat) : (scells ps).take k = scells (ps.take k) := by simp [scells]
theorem scells_drop2 (ps : List (List UInt8)) (k : Nat) : (scells ps).drop k = scells (ps.drop k) := by simp [scells]
theorem scells_part (ps : List (List UInt8)) (lo hi : Nat) : ((scells ps).take hi).drop lo = scells ((ps.take hi).drop lo) := by simp [scells]
def icells (l : List Int) : List Value := l.map fun n => .int .i64 n
theorem icells_len (l : List Int) : (icells l).length = l.length := by simp [icells]
theorem icells_get {l : List Int} {k : Nat} (h : k < l.length) : (icells l)[k]? = some (.int .i64 (l.getD k 0)) := by
  simp [icells, List.getD_eq_getElem?_getD, h]
theorem icells_take2 (l : List Int) (k : Nat) : (icells l).take k = icells (l.take k) := by simp [icells]
theorem icells_drop2 (l : List Int) (k : Nat) : (icells l).drop k = icells (l.drop k) := by simp [icells]
theorem icells_part (l : List Int) (lo hi : Nat) : ((icells l).take hi).drop lo = icells ((l.take hi).drop lo) := by simp [icells]
theorem icells_one (l : List Int) : ∀ v ∈ icells l, v.oneCell' = true := by
  intro v hv
  simp only [icells, List.mem_map] at hv
  obtain ⟨_, _, rfl⟩ := hv
  rfl
end Go.Proofs.Num
