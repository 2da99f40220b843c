/- Points, as the program reckons them: plainly. -/
import Derived.Test.YtpgpjoldelobdaaDoorSteps8
import Derived.RowKit3
import Derived.Test.YtpgpjoldelobdaaDoorShq
import Derived.Test.YtpgpjoldelobdaaDoorEq
set_option linter.unusedSimpArgs false
set_option linter.unusedVariables false
namespace Go.Proofs.Num
open Go Go.RowKit
structure P4 where
 x : Nat
 y : Nat
 z : Nat
 t : Nat
structure P4.Ok (p : P4) : Prop where
 x : p.x < 2 ^ 256
 y : p.y < 2 ^ 256
 z : p.z < 2 ^ 256
 t : p.t < 2 ^ 256
def dF : Nat := 37095705934669439343138083508754565189542113879843219016388785533085940283555
theorem dF_lt : dF < 2 ^ 256 := by decide
def rightP (p : P4) : Bool := decide (leastF p.x = p.x) && decide (leastF p.y = p.y) && decide (leastF p.z = p.z) && decide (leastF p.t = p.t) && decide (p.z ≠ 0) && decide (fmul p.x p.y = fmul p.z p.t) &&
 decide (fsub (fmul p.y p.y) (fmul p.x p.x) = fadd (fmul p.z p.z) (fmul dF (fmul p.t p.t)))
def aA (p q : P4) : Nat := fmul (fsub p.y p.x) (fsub q.y q.x)
def aB (p q : P4) : Nat := fmul (fadd p.y p.x) (fadd q.y q.x)
def aC (p q : P4) : Nat := fmul (fmul p.t q.t) (fadd dF dF)
def aD (p q : P4) : Nat := fmul p.z (fadd q.z q.z)
def addP (p q : P4) : P4 :=
 ⟨fmul (fsub (aB p q) (aA p q)) (fsub (aD p q) (aC p q)), fmul (fadd (aD p q) (aC p q)) (fadd (aB p q) (aA p q)), fmul (fsub (aD p q) (aC p q)) (fadd (aD p q) (aC p q)), fmul (fsub (aB p q) (aA p q)) (fadd (aB p q) (aA p q))⟩
def affP (x y : Nat) : P4 := ⟨x, y, 1, fmul x y⟩
def zeroP : P4 := affP 0 1
/-- What a point is so many times, by the highest bits first: after so many of 256 rounds. -/
def mulR (n : Nat) (p : P4) : Nat → P4
 | 0 => zeroP
 | k + 1 => if n / 2 ^ (255 - k) % 2 = 1 then addP (addP (mulR n p k) (mulR n p k)) p else addP (mulR n p k) (mulR n p k)
theorem addP_ok (p q : P4) : (addP p q).Ok := ⟨fmul_lt .., fmul_lt .., fmul_lt .., fmul_lt ..⟩
theorem affP_ok {x y : Nat} (hx : x < 2 ^ 256) (hy : y < 2 ^ 256) : (affP x y).Ok := ⟨hx, hy, by show (1 : Nat) < 2 ^ 256; decide, fmul_lt ..⟩
theorem zeroP_ok : zeroP.Ok := affP_ok (by decide) (by decide)
theorem mulR_ok (n : Nat) (p : P4) : ∀ k, (mulR n p k).Ok
 | 0 => zeroP_ok
 | k + 1 => by
  rw [mulR]
  split
  ·
   exact addP_ok ..
  ·
   exact addP_ok ..
theorem mulR_yes {n : Nat} {p : P4} {k : Nat} (h : n / 2 ^ (255 - k) % 2 = 1) : mulR n p (k + 1) = addP (addP (mulR n p k) (mulR n p k)) p := by rw [mulR, if_pos h]
theorem mulR_no {n : Nat} {p : P4} {k : Nat} (h : ¬ n / 2 ^ (255 - k) % 2 = 1) : mulR n p (k + 1) = addP (mulR n p k) (mulR n p k) := by rw [mulR, if_neg h]
/-- The root of a y. -/
def rootX (y : Nat) : Nat × Bool := fsqrt (fmul (fsub (fmul y y) 1) (finv (fadd (fmul (fmul y y) dF) 1)))
end Go.Proofs.Num

namespace Go.Proofs.Num
open Go Go.RowKit
section vals
variable {P : Program} {ops : Array Oper} {w0 : World} {L : Act → Prop} {o : Oper} {rest : List Oper} {a : Act}
end vals
section tails
variable {P : Program} {ops : Array Oper} {Q : Exit → Act → World → Prop} {o : Oper} {rest : List Oper} {a : Act} {W : World}
end tails
theorem Mem.addR {G : List Nat} {w0 w : World} {l : List Bk} {g N : Nat} {cs : List Value} (h : Mem G w0 w l) (hg : w0.heap.size ≤ g) (hf : ∀ b ∈ l, b.g ≠ g) (ht : w.there g 0 N) (hr : w.rangeAt g 0 cs) (hl : g < w.heap.size) : Mem G w0 w (⟨g, N, [(0, cs)]⟩ :: l) :=
 ⟨h.os, h.tape, h.output, h.size, h.old, fun b hb => by
  rcases List.mem_cons.1 hb with e | e
  ·
   rw [e]
   exact ⟨ht, fun s hs' => by rw [List.mem_singleton.1 hs']; exact hr, hl, .inl hg⟩
  ·
   exact h.ok b e, List.pairwise_cons.2 ⟨fun b hb => Ne.symm (hf b hb), h.far⟩⟩
theorem getD_32 {L : List (List UInt8)} (h : ∀ s ∈ L, s.length = 32) {k : Nat} (hk : k < L.length) : (L.getD k []).length = 32 := by
 rw [List.getD_eq_getElem?_getD, List.getElem?_eq_getElem hk]
 exact h _ (List.getElem_mem hk)
end Go.Proofs.Num

namespace Go.Proofs.Num
open Go Go.RowKit
/-- A slice that reads as these cells. -/
structure RowA (w : World) (a : Option Addr) (n c : Nat) (cs : List Value) : Prop where
 len : n = cs.length
 cap : n ≤ c
 no : a = none → c = 0
 mem : cs = [] ∨ ∃ g o, a = some ⟨g, o, none⟩ ∧ g < w.heap.size ∧ w.rangeAt g o cs
def slA (a : Option Addr) (l m : Nat) : Option Addr := if m = l then a else a.map (·.add l)
theorem add_at (g o j : Nat) : (⟨g, o, none⟩ : Addr).add j = ⟨g, o + j, none⟩ := by cases j <;> simp [Addr.add]
theorem map_add0 (a : Option Addr) : a.map (·.add 0) = a := by cases a <;> simp [Addr.add]
theorem slA_zero (a : Option Addr) (m : Nat) : slA a 0 m = a := by
 unfold slA
 split
 ·
  rfl
 ·
  exact map_add0 a
section
variable {w W : World} {a : Option Addr} {n c : Nat} {cs : List Value}
theorem RowA.nil : RowA w none 0 0 [] := ⟨rfl, Nat.le_refl _, fun _ => rfl, .inl rfl⟩
theorem RowA.of {g o : Nat} (hr : w.rangeAt g o cs) (hl : g < w.heap.size) (hn : n = cs.length) (hc : n ≤ c) : RowA w (some ⟨g, o, none⟩) n c cs := ⟨hn, hc, fun h => (by cases h), .inr ⟨g, o, rfl, hl, hr⟩⟩
theorem RowA.sees (h : RowA w a n c cs) (hS : Sees w W) : RowA W a n c cs :=
 ⟨h.len, h.cap, h.no, h.mem.imp id fun ⟨g, o, h1, h2, h3⟩ => ⟨g, o, h1, Nat.lt_of_lt_of_le h2 hS.2.2.size, range_sees h3 h2 hS⟩⟩
theorem RowA.below (h : RowA w a n c cs) (hb : Below w.heap.size w W) : RowA W a n c cs := h.sees (sees_of hb)
theorem RowA.eq {cs' : List Value} (h : RowA w a n c cs) (e : cs = cs') : RowA w a n c cs' := e ▸ h
theorem RowA.part (h : RowA w a n c cs) {lo hi m : Nat} (h1 : lo ≤ hi) (h2 : hi ≤ n) (h3 : hi ≤ m) (h4 : m ≤ c) : RowA w (slA a lo m) (hi - lo) (m - lo) ((cs.take hi).drop lo) := by
 have hl := h.len
 have hlen : ((cs.take hi).drop lo).length = hi - lo := by rw [List.length_drop, List.length_take]; omega
 refine ⟨hlen.symm, by omega, fun e => ?_, ?_⟩
 ·
  have hn : a = none := by
   unfold slA at e
   split at e
   ·
    exact e
   ·
    simpa using e
  have := h.no hn
  omega
 ·
  by_cases he : lo = hi
  ·
   refine .inl ?_
   exact List.length_eq_zero_iff.1 (by rw [hlen]; omega)
  ·
   rcases h.mem with e | ⟨g, o, e1, e2, e3⟩
   ·
    subst e
    exact absurd hl (by simp; omega)
   ·
    refine .inr ⟨g, o + lo, ?_, e2, ?_⟩
    ·
     subst e1
     unfold slA
     rw [if_neg (by omega)]
     simp only [Option.map_some, add_at]
    ·
     intro j v hv
     have hj := (List.getElem?_eq_some_iff.1 hv).1
     rw [hlen] at hj
     rw [List.getElem?_drop, List.getElem?_take_of_lt (by omega)] at hv
     have := e3 (lo + j) v hv
     rwa [← Nat.add_assoc] at this
theorem RowA.take (h : RowA w a n c cs) {hi : Nat} (h2 : hi ≤ n) : RowA w a hi c (cs.take hi) := by
 have := h.part (lo := 0) (Nat.zero_le hi) h2 (Nat.le_trans h2 h.cap) (Nat.le_refl c)
 simpa [slA_zero] using this
theorem RowA.drop (h : RowA w a n c cs) {lo : Nat} (h1 : lo ≤ n) : RowA w (slA a lo c) (n - lo) (c - lo) (cs.drop lo) := by
 have := h.part h1 (Nat.le_refl n) h.cap (Nat.le_refl c)
 rwa [List.take_of_length_le (Nat.le_of_eq h.len.symm)] at this
theorem RowA.real (h : RowA w a n c cs) {i : Nat} (hi : i < n) : ∃ g o, a = some ⟨g, o, none⟩ ∧ g < w.heap.size ∧ w.rangeAt g o cs := by
 rcases h.mem with e | e
 ·
  subst e
  exact absurd h.len (by simp; omega)
 ·
  exact e
theorem Mem.oldA {w0 : World} {l : List Bk} (M : Mem [] w0 w l) (h : RowA w0 a n c cs) : RowA w a n c cs := h.sees M.seesAll
/-- A row of texts that came in. -/
theorem RowS.open {v : Value} {ps : List (List UInt8)} (h : RowS w v ps) : ∃ a c, v = .slice a ps.length c ∧ RowA w a ps.length c (scells ps) := by
 rcases h with ⟨rfl, rfl⟩ | ⟨b, rfl, rfl⟩ | ⟨g, o, n, c, rfl, rfl, h3, h4, h5⟩
 ·
  exact ⟨none, 0, rfl, RowA.nil⟩
 ·
  exact ⟨some b, 0, rfl, ⟨rfl, Nat.le_refl _, fun h => (by cases h), .inl rfl⟩⟩
 ·
  exact ⟨_, c, rfl, RowA.of h5 h4 (scells_len _).symm h3⟩
end
section vals
variable {P : Program} {ops : Array Oper} {w0 : World} {L : Act → Prop} {o : Oper} {rest : List Oper} {a : Act} {W : World} {p : Option Addr} {n c : Nat} {cs : List Value}
theorem wpV_idxA {T e : TypeId} {x y : Operand} {i : Nat} {k : IntKind} (hw : Region.wanted o (yielded ops a.tmps) = true) (ho : o.op = .indexAddr T x y) (hx : a.eval x = .slice p n c) (hy : a.eval y = .int k (i : Nat))
  (hu : P.underlying T = some (.slice e)) (hs : (P.info? e).map (·.size) = some 1) (hR : RowA W p n c cs) (hn : i < n) (h : wpV P ops w0 L rest (a.put o.dst (.pointer (p.map (·.add i))))) : wpV P ops w0 L (o :: rest) a := by
 obtain ⟨g, q, rfl, _, _⟩ := hR.real hn
 refine wpV_idxs hw ho hx hy hu hs hn ?_
 simpa [add_at] using h
theorem wpV_loadA {ty : TypeId} {x : Operand} {i : Nat} {d : TypeDesc} {v : Value} (hw : Region.wanted o (yielded ops a.tmps) = true) (ho : o.op = .load ty x) (hx : a.eval x = .pointer (p.map (·.add i))) (hR : RowA w0 p n c cs) (hv : cs[i]? = some v)
  (hu : P.underlying ty = some d) (hd : d.isRow = false) (h : wpV P ops w0 L rest (a.put o.dst v)) : wpV P ops w0 L (o :: rest) a := by
 have hi := (List.getElem?_eq_some_iff.1 hv).1
 have hl := hR.len
 obtain ⟨g, q, rfl, h1, h2⟩ := hR.real (i := i) (by omega)
 refine wpV_load1 hw ho (b := g) (off := q + i) ?_ (h2 i v hv) h1 hu hd h
 rw [hx]
 simp [add_at]
variable {T e : TypeId} {x y z : Operand} {lo hi m : Nat} {k k2 : IntKind}
theorem wpV_slcL (hw : Region.wanted o (yielded ops a.tmps) = true) (ho : o.op = .slice T x (some y) none none) (hx : a.eval x = .slice p n c) (hy : a.eval y = .int k (lo : Nat))
  (hT : P.underlying T = some (.slice e)) (hs : (P.info? e).map (·.size) = some 1) (h1 : lo ≤ n) (h : wpV P ops w0 L rest (a.put o.dst (.slice (slA p lo c) (n - lo) (c - lo)))) : wpV P ops w0 L (o :: rest) a :=
 wpV_val (by simp [isAlloc, ho]) hw (fun W _ => by
  unfold RunsVal
  have he : P.elem T = e := by simp [Program.elem, hT]
  have : (Instr.sliceAt T (.slice p n c) (some (.int k (lo : Nat))) none none).run P W = .ok (.slice (slA p lo c) (n - lo) (c - lo)) W := by
   rw [run_sliceAt_slice _ _ _ _ _ _ (by rw [he]; exact hT), run_slice_l _ _ _ _ _ (by rw [he]; exact hT) _ _ (by omega) (by omega), he, run_sizeOf hs]
   simp [Result.andThen, sliced, slA]
  simp only [execOp, ho, hx, hy, Option.map_none, Option.map_some, Sem.run_bind, this, Result.andThen_ok, Sem.run_pure]) h
theorem wpV_slcH (hw : Region.wanted o (yielded ops a.tmps) = true) (ho : o.op = .slice T x none (some y) none) (hx : a.eval x = .slice p n c) (hy : a.eval y = .int k (hi : Nat))
  (hT : P.underlying T = some (.slice e)) (hs : (P.info? e).map (·.size) = some 1) (h1 : hi ≤ c) (h : wpV P ops w0 L rest (a.put o.dst (.slice p hi c))) : wpV P ops w0 L (o :: rest) a :=
 wpV_val (by simp [isAlloc, ho]) hw (fun W _ => by
  unfold RunsVal
  have he : P.elem T = e := by simp [Program.elem, hT]
  have : (Instr.sliceAt T (.slice p n c) none (some (.int k (hi : Nat))) none).run P W = .ok (.slice p hi c) W := by
   rw [run_sliceAt_slice _ _ _ _ _ _ (by rw [he]; exact hT), run_slice_h _ _ _ _ _ (by rw [he]; exact hT) _ _ (by omega) (by omega), he, run_sizeOf hs]
   have e2 : slA p 0 c = p := slA_zero p c
   simp only [Result.andThen, sliced, Nat.zero_mul, Int.toNat_natCast, Nat.sub_zero]
   rw [show (if c = 0 then p else p.map (·.add 0)) = slA p 0 c from rfl, e2]
  simp only [execOp, ho, hx, hy, Option.map_none, Option.map_some, Sem.run_bind, this, Result.andThen_ok, Sem.run_pure]) h
end vals
end Go.Proofs.Num

namespace Go.Proofs.Num
open Go Go.RowKit
section vals
variable {P : Program} {ops : Array Oper} {w0 : World} {L : Act → Prop} {o : Oper} {rest : List Oper} {a : Act}
theorem yl_idxA {T e : TypeId} {x y : Operand} {i n c : Nat} {k : IntKind} {p : Option Addr} {cs : List Value} {W0 : World} (ho : o.op = .indexAddr T x y) (hx : a.eval x = .slice p n c) (hy : a.eval y = .int k (i : Nat))
  (hu : P.underlying T = some (.slice e)) (hs : (P.info? e).map (·.size) = some 1) (hR : RowA W0 p n c cs) (hn : i < n) (W : World) : RunsVal ((execOp a.eval o).run P W) (.pointer (p.map (·.add i))) W := by
 obtain ⟨g, q, rfl, _, _⟩ := hR.real hn
 unfold RunsVal
 simp only [execOp, ho, hx, hy, run_indexAt_slice hu hs hn W, Sem.run_bind, Result.andThen_ok, Sem.run_pure]
 simp [add_at]
end vals
section vals3
variable {P : Program} {ops : Array Oper} {w0 : World} {L : Act → Prop} {o : Oper} {rest : List Oper} {a : Act}
end vals3
section tails2
variable {P : Program} {ops : Array Oper} {Q : Exit → Act → World → Prop} {o : Oper} {rest : List Oper} {a : Act} {W : World}
theorem wpL_guard (hw : Region.wanted o (yielded ops a.tmps) = true) (h : wpList P ops Q ({ o with guard := none } :: rest) a W) : wpList P ops Q (o :: rest) a W := by
 unfold wpList at h ⊢
 rw [if_pos hw]
 rw [if_pos (by rfl)] at h
 exact h
theorem wpL_appendE2 {T e : TypeId} {s x : Operand} {g n cap c : Nat} {b : Addr} (hg : o.guard = none) (ho : o.op = .call { callee := .builtin .append, args := #[s, x], argTypes := #[T, T] })
  (hs : a.eval s = .slice (some ⟨g, 0, none⟩) n cap) (hx : a.eval x = .slice (some b) 0 c) (hT : P.underlying T = some (.slice e)) {k : Nat} (hinfo : (P.info? e).map (·.size) = some k) (hc : n ≤ cap)
  (hk : wpList P ops Q rest (a.put o.dst (.slice (some ⟨g, 0, none⟩) n cap)) W) : wpList P ops Q (o :: rest) a W :=
 wpL_val hg (by
  unfold RunsVal
  simp [execOp, ho, hs, hx, resolve, invoke, builtin, Builtin.append_, run_underlying hT, run_sizeOf hinfo, Builtin.lenOf, hc, Builtin.firstCells, storeCells, loadCells, loadCellsFrom]) hk
/-- Appending a row that is read, or none. -/
theorem wpL_appendA {T e : TypeId} {s x : Operand} {p : Option Addr} {g n cap : Nat} {c : Nat} {olds news : List Value} {bytes m : Nat} {z : Value} (hg : o.guard = none) (ho : o.op = .call { callee := .builtin .append, args := #[s, x], argTypes := #[T, T] })
  (hs : a.eval s = .slice (some ⟨g, 0, none⟩) n cap) (hx : a.eval x = .slice p m c) (hT : P.underlying T = some (.slice e)) (hinfo : (P.info? e).map (fun i => (i.zero, i.size, i.bytes)) = some (some z, 1, bytes)) (hzc : z.cells = #[z]) (hz1 : z.oneCell' = true)
  (hn : olds.length = n) (hnc : n ≤ cap) (hr : W.rangeAt g 0 olds) (ht : W.there g 0 cap) (hL : g < W.heap.size) (hR : RowA W p m c news) (h1 : ∀ u ∈ news, u.oneCell' = true) (hb : (n + m) * bytes ≤ 140737488355328) (h63 : n + m ≤ maxLen)
  (hk : ∀ g' cap' W', Grew g W W' → (g' = g ∨ W.heap.size ≤ g') → n + m ≤ cap' → W'.rangeAt g' 0 (olds ++ news) → W'.there g' 0 cap' → g' < W'.heap.size →
   wpList P ops Q rest (a.put o.dst (.slice (some ⟨g', 0, none⟩) (n + m) cap')) W') : wpList P ops Q (o :: rest) a W := by
 have hsz : (P.info? e).map (·.size) = some 1 := by
  obtain ⟨i, hi, he⟩ := Option.map_eq_some_iff.1 hinfo
  simp only [Prod.mk.injEq] at he
  rw [hi, Option.map_some, he.2.1]
 have same : news = [] → wpList P ops Q rest (a.put o.dst (.slice (some ⟨g, 0, none⟩) n cap)) W := fun e0 => by
  have hm0 : m = 0 := by rw [hR.len, e0]; rfl
  have := hk g cap W ⟨rfl, rfl, rfl, Nat.le_refl _, fun k _ _ => rfl⟩ (.inl rfl) (by omega) (by rw [e0, List.append_nil]; exact hr) ht hL
  rwa [hm0, Nat.add_zero] at this
 cases p with
 | none =>
  have hc0 := hR.no rfl
  have hm0 : m = 0 := by have := hR.cap; omega
  have e0 : news = [] := List.length_eq_zero_iff.1 (by rw [← hR.len, hm0])
  subst hc0 hm0
  exact wpL_appendN hg ho hs hx hT hsz hnc (same e0)
 | some q =>
  rcases hR.mem with e0 | ⟨h, o2, e1, h2, h3⟩
  ·
   have hm0 : m = 0 := by rw [hR.len, e0]; rfl
   subst hm0
   exact wpL_appendE2 hg ho hs hx hT hsz hnc (same e0)
  ·
   obtain rfl := Option.some.inj e1
   exact wpL_append2 hg ho hs hx hT hinfo hzc hz1 hn hR.len.symm hr ht hL h3 h1 hb h63 hk
end tails2
theorem scells_take2 (ps : List (List UInt8)) (k : Nat) : (scells ps).take k = scells (ps.take k) := by simp [scells]
theorem scells_drop2 (ps : List (List UInt8)) (k : Nat) : (scells ps).drop k = scells (ps.drop k) := by simp [scells]
end Go.Proofs.Num

namespace Go.Proofs.Num
open Go Go.RowKit
variable {P : Program}
def EqD (P : Program) (k : Nat) (T : TypeId) (u v : Value) (b : Bool) : Prop := ∀ (d : Nat) (W : World), (Op.equalIn (d + k) T u v).run P W = .ok b W
theorem EqD.up {k m : Nat} {T : TypeId} {u v : Value} {b : Bool} (h : EqD P k T u v b) (hm : k ≤ m) : EqD P m T u v b := fun d W => by
 have := h (d + (m - k)) W
 rwa [show d + (m - k) + k = d + m by omega] at this
theorem EqD.bool {k : Nat} {T : TypeId} {u v : Value} {b c : Bool} (h : EqD P k T u v b) (e : b = c) : EqD P k T u v c := e ▸ h
section
variable {ops : Array Oper} {w0 : World} {L : Act → Prop} {o : Oper} {rest : List Oper} {a : Act} {x y : Operand} {T T' : TypeId} {k : Nat} {u v : List Value} {b : Bool}
end
end Go.Proofs.Num

