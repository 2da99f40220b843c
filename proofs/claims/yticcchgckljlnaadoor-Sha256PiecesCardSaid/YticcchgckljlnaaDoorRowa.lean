/- Rows that are read: none, empty or real, in one word. -/
import Derived.Test.YticcchgckljlnaaDoorTrC
set_option linter.unusedSimpArgs false
set_option linter.unusedVariables false
namespace Go.Proofs.Num
open Go Go.RowKit
/-- A slice that reads as these cells. -/
structure RowA (w : World) (a : Option Addr) (n c : Nat) (cs : List Value) : Prop where
  len : n = cs.length
  cap : n ≤ c
  no : a = none → c = 0
  mem : cs = [] ∨ ∃ g o, a = some ⟨g, o, none⟩ ∧ g < w.heap.size ∧ w.rangeAt g o cs
def slA (a : Option Addr) (l m : Nat) : Option Addr := if m = l then a else a.map (·.add l)
theorem add_at (g o j : Nat) : (⟨g, o, none⟩ : Addr).add j = ⟨g, o + j, none⟩ := by cases j <;> simp [Addr.add]
theorem map_add0 (a : Option Addr) : a.map (·.add 0) = a := by cases a <;> simp [Addr.add]
theorem slA_zero (a : Option Addr) (m : Nat) : slA a 0 m = a := by
  unfold slA
  split
  · rfl
  · exact map_add0 a
section
variable {w W : World} {a : Option Addr} {n c : Nat} {cs : List Value}
theorem RowA.nil : RowA w none 0 0 [] := ⟨rfl, Nat.le_refl _, fun _ => rfl, .inl rfl⟩
theorem RowA.of {g o : Nat} (hr : w.rangeAt g o cs) (hl : g < w.heap.size) (hn : n = cs.length) (hc : n ≤ c) : RowA w (some ⟨g, o, none⟩) n c cs := ⟨hn, hc, fun h => (by cases h), .inr ⟨g, o, rfl, hl, hr⟩⟩
theorem RowA.sees (h : RowA w a n c cs) (hS : Sees w W) : RowA W a n c cs :=
  ⟨h.len, h.cap, h.no, h.mem.imp id fun ⟨g, o, h1, h2, h3⟩ => ⟨g, o, h1, Nat.lt_of_lt_of_le h2 hS.2.2.size, range_sees h3 h2 hS⟩⟩
theorem RowA.below (h : RowA w a n c cs) (hb : Below w.heap.size w W) : RowA W a n c cs := h.sees (sees_of hb)
theorem RowA.eq {cs' : List Value} (h : RowA w a n c cs) (e : cs = cs') : RowA w a n c cs' := e ▸ h
theorem RowA.part (h : RowA w a n c cs) {lo hi m : Nat} (h1 : lo ≤ hi) (h2 : hi ≤ n) (h3 : hi ≤ m) (h4 : m ≤ c) : RowA w (slA a lo m) (hi - lo) (m - lo) ((cs.take hi).drop lo) := by
  have hl := h.len
  have hlen : ((cs.take hi).drop lo).length = hi - lo := by rw [List.length_drop, List.length_take]; omega
  refine ⟨hlen.symm, by omega, fun e => ?_, ?_⟩
  · have hn : a = none := by
      unfold slA at e
      split at e
      · exact e
      · simpa using e
    have := h.no hn
    omega
  · by_cases he : lo = hi
    · refine .inl ?_
      exact List.length_eq_zero_iff.1 (by rw [hlen]; omega)
    · rcases h.mem with e | ⟨g, o, e1, e2, e3⟩
      · subst e
        exact absurd hl (by simp; omega)
      · refine .inr ⟨g, o + lo, ?_, e2, ?_⟩
        · subst e1
          unfold slA
          rw [if_neg (by omega)]
          simp only [Option.map_some, add_at]
        · intro j v hv
          have hj := (List.getElem?_eq_some_iff.1 hv).1
          rw [hlen] at hj
          rw [List.getElem?_drop, List.getElem?_take_of_lt (by omega)] at hv
          have := e3 (lo + j) v hv
          rwa [← Nat.add_assoc] at this
theorem RowA.take (h : RowA w a n c cs) {hi : Nat} (h2 : hi ≤ n) : RowA w a hi c (cs.take hi) := by
  have := h.part (lo := 0) (Nat.zero_le hi) h2 (Nat.le_trans h2 h.cap) (Nat.le_refl c)
  simpa [slA_zero] using this
theorem RowA.takeM (h : RowA w a n c cs) {hi m : Nat} (h2 : hi ≤ n) (h3 : hi ≤ m) (h4 : m ≤ c) : RowA w a hi m (cs.take hi) := by
  have := h.part (lo := 0) (Nat.zero_le hi) h2 h3 h4
  simpa [slA_zero] using this
theorem RowA.drop (h : RowA w a n c cs) {lo : Nat} (h1 : lo ≤ n) : RowA w (slA a lo c) (n - lo) (c - lo) (cs.drop lo) := by
  have := h.part h1 (Nat.le_refl n) h.cap (Nat.le_refl c)
  rwa [List.take_of_length_le (Nat.le_of_eq h.len.symm)] at this
theorem RowA.real (h : RowA w a n c cs) {i : Nat} (hi : i < n) : ∃ g o, a = some ⟨g, o, none⟩ ∧ g < w.heap.size ∧ w.rangeAt g o cs := by
  rcases h.mem with e | e
  · subst e
    exact absurd h.len (by simp; omega)
  · exact e
theorem Mem.oldA {w0 : World} {l : List Bk} (M : Mem [] w0 w l) (h : RowA w0 a n c cs) : RowA w a n c cs := h.sees M.seesAll
theorem Mem.rowA {G : List Nat} {w0 : World} {l : List Bk} {b : Bk} {s : Nat × List Value} (M : Mem G w0 w l) (k j : Nat) (hk : l[k]? = some b) (hj : b.segs[j]? = some s) (hn : n = s.2.length) (hc : n ≤ c) : RowA w (some ⟨b.g, s.1, none⟩) n c s.2 :=
  RowA.of (M.r k j hk hj) (M.lt k hk) hn hc
/-- A row of texts that came in. -/
theorem RowS.open {v : Value} {ps : List (List UInt8)} (h : RowS w v ps) : ∃ a c, v = .slice a ps.length c ∧ RowA w a ps.length c (scells ps) := by
  rcases h with ⟨rfl, rfl⟩ | ⟨b, rfl, rfl⟩ | ⟨g, o, n, c, rfl, rfl, h3, h4, h5⟩
  · exact ⟨none, 0, rfl, RowA.nil⟩
  · exact ⟨some b, 0, rfl, ⟨rfl, Nat.le_refl _, fun h => (by cases h), .inl rfl⟩⟩
  · exact ⟨_, c, rfl, RowA.of h5 h4 (scells_len _).symm h3⟩
end
section vals
variable {P : Program} {ops : Array Oper} {w0 : World} {L : Act → Prop} {o : Oper} {rest : List Oper} {a : Act} {W : World} {p : Option Addr} {n c : Nat} {cs : List Value}
theorem wpV_idxA {T e : TypeId} {x y : Operand} {i : Nat} {k : IntKind} (hw : Region.wanted o (yielded ops a.tmps) = true) (ho : o.op = .indexAddr T x y) (hx : a.eval x = .slice p n c) (hy : a.eval y = .int k (i : Nat))
    (hu : P.underlying T = some (.slice e)) (hs : (P.info? e).map (·.size) = some 1) (hR : RowA W p n c cs) (hn : i < n) (h : wpV P ops w0 L rest (a.put o.dst (.pointer (p.map (·.add i))))) : wpV P ops w0 L (o :: rest) a := by
  obtain ⟨g, q, rfl, _, _⟩ := hR.real hn
  refine wpV_idxs hw ho hx hy hu hs hn ?_
  simpa [add_at] using h
theorem wpV_loadA {ty : TypeId} {x : Operand} {i : Nat} {d : TypeDesc} {v : Value} (hw : Region.wanted o (yielded ops a.tmps) = true) (ho : o.op = .load ty x) (hx : a.eval x = .pointer (p.map (·.add i))) (hR : RowA w0 p n c cs) (hv : cs[i]? = some v)
    (hu : P.underlying ty = some d) (hd : d.isRow = false) (h : wpV P ops w0 L rest (a.put o.dst v)) : wpV P ops w0 L (o :: rest) a := by
  have hi := (List.getElem?_eq_some_iff.1 hv).1
  have hl := hR.len
  obtain ⟨g, q, rfl, h1, h2⟩ := hR.real (i := i) (by omega)
  refine wpV_load1 hw ho (b := g) (off := q + i) ?_ (h2 i v hv) h1 hu hd h
  rw [hx]
  simp [add_at]
variable {T e : TypeId} {x y z : Operand} {lo hi m : Nat} {k k2 : IntKind}
theorem run_slcA (hT : P.underlying T = some (.slice e)) (hs : (P.info? e).map (·.size) = some 1) (h1 : lo ≤ hi) (h2 : hi ≤ m) (h3 : m ≤ c) (W : World) :
    (Instr.sliceAt T (.slice p n c) (some (.int k (lo : Nat))) (some (.int k2 (hi : Nat))) none).run P W = .ok (.slice (slA p lo c) (hi - lo) (c - lo)) W := by
  have he : P.elem T = e := by simp [Program.elem, hT]
  rw [run_sliceAt_slice _ _ _ _ _ _ (by rw [he]; exact hT), run_slice_lh _ _ _ _ _ (by rw [he]; exact hT) _ _ _ _ (by omega) (by omega) (by omega), he, run_sizeOf hs]
  simp [Result.andThen, sliced, slA]
theorem wpV_slcA (hw : Region.wanted o (yielded ops a.tmps) = true) (ho : o.op = .slice T x (some y) (some z) none) (hx : a.eval x = .slice p n c) (hy : a.eval y = .int k (lo : Nat)) (hz : a.eval z = .int k2 (hi : Nat))
    (hT : P.underlying T = some (.slice e)) (hs : (P.info? e).map (·.size) = some 1) (h1 : lo ≤ hi) (h2 : hi ≤ c) (h : wpV P ops w0 L rest (a.put o.dst (.slice (slA p lo c) (hi - lo) (c - lo)))) : wpV P ops w0 L (o :: rest) a :=
  wpV_val (by simp [isAlloc, ho]) hw (fun W _ => by
    unfold RunsVal
    simp only [execOp, ho, hx, hy, hz, Option.map_none, Option.map_some, Sem.run_bind, run_slcA hT hs h1 h2 (Nat.le_refl c), Result.andThen_ok, Sem.run_pure]) h
theorem wpV_slcL (hw : Region.wanted o (yielded ops a.tmps) = true) (ho : o.op = .slice T x (some y) none none) (hx : a.eval x = .slice p n c) (hy : a.eval y = .int k (lo : Nat))
    (hT : P.underlying T = some (.slice e)) (hs : (P.info? e).map (·.size) = some 1) (h1 : lo ≤ n) (h : wpV P ops w0 L rest (a.put o.dst (.slice (slA p lo c) (n - lo) (c - lo)))) : wpV P ops w0 L (o :: rest) a :=
  wpV_val (by simp [isAlloc, ho]) hw (fun W _ => by
    unfold RunsVal
    have he : P.elem T = e := by simp [Program.elem, hT]
    have : (Instr.sliceAt T (.slice p n c) (some (.int k (lo : Nat))) none none).run P W = .ok (.slice (slA p lo c) (n - lo) (c - lo)) W := by
      rw [run_sliceAt_slice _ _ _ _ _ _ (by rw [he]; exact hT), run_slice_l _ _ _ _ _ (by rw [he]; exact hT) _ _ (by omega) (by omega), he, run_sizeOf hs]
      simp [Result.andThen, sliced, slA]
    simp only [execOp, ho, hx, hy, Option.map_none, Option.map_some, Sem.run_bind, this, Result.andThen_ok, Sem.run_pure]) h
theorem wpV_slcH (hw : Region.wanted o (yielded ops a.tmps) = true) (ho : o.op = .slice T x none (some y) none) (hx : a.eval x = .slice p n c) (hy : a.eval y = .int k (hi : Nat))
    (hT : P.underlying T = some (.slice e)) (hs : (P.info? e).map (·.size) = some 1) (h1 : hi ≤ c) (h : wpV P ops w0 L rest (a.put o.dst (.slice p hi c))) : wpV P ops w0 L (o :: rest) a :=
  wpV_val (by simp [isAlloc, ho]) hw (fun W _ => by
    unfold RunsVal
    have he : P.elem T = e := by simp [Program.elem, hT]
    have : (Instr.sliceAt T (.slice p n c) none (some (.int k (hi : Nat))) none).run P W = .ok (.slice p hi c) W := by
      rw [run_sliceAt_slice _ _ _ _ _ _ (by rw [he]; exact hT), run_slice_h _ _ _ _ _ (by rw [he]; exact hT) _ _ (by omega) (by omega), he, run_sizeOf hs]
      have e2 : slA p 0 c = p := slA_zero p c
      simp only [Result.andThen, sliced, Nat.zero_mul, Int.toNat_natCast, Nat.sub_zero]
      rw [show (if c = 0 then p else p.map (·.add 0)) = slA p 0 c from rfl, e2]
    simp only [execOp, ho, hx, hy, Option.map_none, Option.map_some, Sem.run_bind, this, Result.andThen_ok, Sem.run_pure]) h
theorem wpV_slcHM (hw : Region.wanted o (yielded ops a.tmps) = true) (ho : o.op = .slice T x none (some y) (some z)) (hx : a.eval x = .slice p n c) (hy : a.eval y = .int k (hi : Nat)) (hz : a.eval z = .int k2 (m : Nat))
    (hT : P.underlying T = some (.slice e)) (hs : (P.info? e).map (·.size) = some 1) (h1 : hi ≤ m) (h2 : m ≤ c) (h : wpV P ops w0 L rest (a.put o.dst (.slice p hi m))) : wpV P ops w0 L (o :: rest) a :=
  wpV_val (by simp [isAlloc, ho]) hw (fun W _ => by
    unfold RunsVal
    have he : P.elem T = e := by simp [Program.elem, hT]
    have : (Instr.sliceAt T (.slice p n c) none (some (.int k (hi : Nat))) (some (.int k2 (m : Nat)))).run P W = .ok (.slice p hi m) W := by
      rw [run_sliceAt_slice _ _ _ _ _ _ (by rw [he]; exact hT), run_slice_hm _ _ _ _ _ (by rw [he]; exact hT) _ _ _ _ (by omega) (by omega) (by omega), he, run_sizeOf hs]
      simp only [Result.andThen, sliced, Nat.zero_mul, Int.toNat_natCast, Nat.sub_zero]
      rw [show (if m = 0 then p else p.map (·.add 0)) = slA p 0 m from rfl, slA_zero]
    simp only [execOp, ho, hx, hy, hz, Option.map_none, Option.map_some, Sem.run_bind, this, Result.andThen_ok, Sem.run_pure]) h
end vals
end Go.Proofs.Num
