/- Points, as the program reckons them: plainly. -/
import Derived.Test.YtpgpjoldelobdaaDoorSteps7
import Derived.RowKit3
import Derived.Test.YtpgpjoldelobdaaDoorShq
import Derived.Test.YtpgpjoldelobdaaDoorEq
set_option linter.unusedSimpArgs false
set_option linter.unusedVariables false
namespace Go.Proofs.Num
open Go Go.RowKit
structure P4 where
 x : Nat
 y : Nat
 z : Nat
 t : Nat
structure P4.Ok (p : P4) : Prop where
 x : p.x < 2 ^ 256
 y : p.y < 2 ^ 256
 z : p.z < 2 ^ 256
 t : p.t < 2 ^ 256
def dF : Nat := 37095705934669439343138083508754565189542113879843219016388785533085940283555
theorem dF_lt : dF < 2 ^ 256 := by decide
def rightP (p : P4) : Bool := decide (leastF p.x = p.x) && decide (leastF p.y = p.y) && decide (leastF p.z = p.z) && decide (leastF p.t = p.t) && decide (p.z ≠ 0) && decide (fmul p.x p.y = fmul p.z p.t) &&
 decide (fsub (fmul p.y p.y) (fmul p.x p.x) = fadd (fmul p.z p.z) (fmul dF (fmul p.t p.t)))
def aA (p q : P4) : Nat := fmul (fsub p.y p.x) (fsub q.y q.x)
def aB (p q : P4) : Nat := fmul (fadd p.y p.x) (fadd q.y q.x)
def aC (p q : P4) : Nat := fmul (fmul p.t q.t) (fadd dF dF)
def aD (p q : P4) : Nat := fmul p.z (fadd q.z q.z)
def addP (p q : P4) : P4 :=
 ⟨fmul (fsub (aB p q) (aA p q)) (fsub (aD p q) (aC p q)), fmul (fadd (aD p q) (aC p q)) (fadd (aB p q) (aA p q)), fmul (fsub (aD p q) (aC p q)) (fadd (aD p q) (aC p q)), fmul (fsub (aB p q) (aA p q)) (fadd (aB p q) (aA p q))⟩
def affP (x y : Nat) : P4 := ⟨x, y, 1, fmul x y⟩
def zeroP : P4 := affP 0 1
/-- What a point is so many times, by the highest bits first: after so many of 256 rounds. -/
def mulR (n : Nat) (p : P4) : Nat → P4
 | 0 => zeroP
 | k + 1 => if n / 2 ^ (255 - k) % 2 = 1 then addP (addP (mulR n p k) (mulR n p k)) p else addP (mulR n p k) (mulR n p k)
theorem addP_ok (p q : P4) : (addP p q).Ok := ⟨fmul_lt .., fmul_lt .., fmul_lt .., fmul_lt ..⟩
theorem affP_ok {x y : Nat} (hx : x < 2 ^ 256) (hy : y < 2 ^ 256) : (affP x y).Ok := ⟨hx, hy, by show (1 : Nat) < 2 ^ 256; decide, fmul_lt ..⟩
theorem zeroP_ok : zeroP.Ok := affP_ok (by decide) (by decide)
theorem mulR_ok (n : Nat) (p : P4) : ∀ k, (mulR n p k).Ok
 | 0 => zeroP_ok
 | k + 1 => by
  rw [mulR]
  split
  ·
   exact addP_ok ..
  ·
   exact addP_ok ..
theorem mulR_yes {n : Nat} {p : P4} {k : Nat} (h : n / 2 ^ (255 - k) % 2 = 1) : mulR n p (k + 1) = addP (addP (mulR n p k) (mulR n p k)) p := by rw [mulR, if_pos h]
theorem mulR_no {n : Nat} {p : P4} {k : Nat} (h : ¬ n / 2 ^ (255 - k) % 2 = 1) : mulR n p (k + 1) = addP (mulR n p k) (mulR n p k) := by rw [mulR, if_neg h]
/-- The root of a y. -/
def rootX (y : Nat) : Nat × Bool := fsqrt (fmul (fsub (fmul y y) 1) (finv (fadd (fmul (fmul y y) dF) 1)))
end Go.Proofs.Num

namespace Go.Proofs.Num
open Go Go.RowKit
theorem wp_loop_peel {P : Program} {Q : Exit → Act → World → Prop} {c : Code} {a : Act} {w : World} (I : Nat → Act → World → Prop) (n : Nat) (first : c.wp P (Exit.then (fun a' w' => ∃ m, m < n ∧ I m a' w') Q) a w)
  (round : ∀ n a w, I n a w → c.wp P (Exit.then (fun a' w' => ∃ m, m < n ∧ I m a' w') Q) a w) : (Code.loop c).wp P Q a w := by
 refine wp_loop_ghost (fun m a' w' => (m = n ∧ a' = a ∧ w' = w) ∨ I m a' w') n (.inl ⟨rfl, rfl, rfl⟩) fun m a' w' h => ?_
 have up : ∀ {k : Nat} {e : Exit} {b : Act} {v : World}, Exit.then (fun a' w' => ∃ m, m < k ∧ I m a' w') Q e b v → Exit.then (fun a' w' => ∃ m, m < k ∧ ((m = n ∧ a' = a ∧ w' = w) ∨ I m a' w')) Q e b v := fun {k e b v} hq => by
  cases e with
  | normal => obtain ⟨m, h1, h2⟩ := hq; exact ⟨m, h1, .inr h2⟩
  | _ => exact hq
 rcases h with ⟨rfl, rfl, rfl⟩ | h
 ·
  exact wp_mono first fun e b v => up
 ·
  exact wp_mono (round m a' w' h) fun e b v => up
section vals
variable {P : Program} {ops : Array Oper} {w0 : World} {L : Act → Prop} {o : Oper} {rest : List Oper} {a : Act}
end vals
section tails
variable {P : Program} {ops : Array Oper} {Q : Exit → Act → World → Prop} {o : Oper} {rest : List Oper} {a : Act} {W : World}
/-- Appending to nothing. -/
theorem wpL_append0 {T e : TypeId} {s x : Operand} {h ho2 : Nat} {c : Nat} {news : List Value} {bytes m : Nat} {z : Value} (hg : o.guard = none) (ho : o.op = .call { callee := .builtin .append, args := #[s, x], argTypes := #[T, T] })
  (hs : a.eval s = .slice none 0 0) (hx : a.eval x = .slice (some ⟨h, ho2, none⟩) m c) (hT : P.underlying T = some (.slice e)) (hinfo : (P.info? e).map (fun i => (i.zero, i.size, i.bytes)) = some (some z, 1, bytes)) (hzc : z.cells = #[z])
  (hm : news.length = m) (h0 : 0 < m) (hr2 : W.rangeAt h ho2 news) (hb : m * bytes ≤ 140737488355328) (h63 : m ≤ maxLen)
  (hk : ∀ g' cap' W', Sees W W' → W.heap.size ≤ g' → m ≤ cap' → W'.rangeAt g' 0 news → W'.there g' 0 cap' → g' < W'.heap.size → wpList P ops Q rest (a.put o.dst (.slice (some ⟨g', 0, none⟩) m cap')) W') : wpList P ops Q (o :: rest) a W := by
 obtain ⟨i, hi, he⟩ := Option.map_eq_some_iff.1 hinfo
 simp only [Prod.mk.injEq] at he
 obtain ⟨hz, hsz, hby⟩ := he
 have hado : ∀ (q o j : Nat), (⟨q, o, none⟩ : Addr).add j = ⟨q, o + j, none⟩ := fun q o j => by cases j <;> simp [Addr.add]
 have hnews : ∀ j u, news[j]? = some u → W.cell? ((⟨h, ho2, none⟩ : Addr).add j) = some u := fun j u hu => by have := hr2 j u hu; rw [hado]; exact this
 have hmax : maxLen ≤ 9223372036854775807 := by decide
 refine wpList_plain hg fun K hK => ?_
 have hzs : z.cells.size = 1 := by rw [hzc]; rfl
 have hge : m ≤ grownCap W m 0 e := by have := grownCap_ge W m 0 e; simpa using this
 have hrun := run_append_nil (P := P) W T o.type e i z hT hi hz ⟨h, ho2, none⟩ m c news (by rw [hsz, Nat.mul_one, hm]) hnews h0 (by omega) (by rw [hby]; omega)
 unfold Oper.wp execOp
 simp only [ho, resolve, invoke, builtin, Sem.run_bind, Sem.run_pure, Result.andThen_ok, List.map_toArray, List.map_cons, List.map_nil, hs, hx, hrun]
 have hB : Blk (W.drew.alloc (.cells (news.toArray ++ Builtin.zeroCells z.cells (grownCap W m 0 e - m)) e)) W.heap.size e (news.toArray ++ Builtin.zeroCells z.cells (grownCap W m 0 e - m)) := Blk.new W.drew e _
 refine hK _ _ (hk W.heap.size (grownCap W m 0 e) _ (sees_of ⟨rfl, rfl, rfl, by simp, fun k hk => heap_alloc_old W.drew _ k hk⟩) (Nat.le_refl _) hge ?_ (blk_there hB ?_) hB.lt)
 ·
  have := blk_range hB (l := news ++ (Builtin.zeroCells z.cells (grownCap W m 0 e - m)).toList) (by apply Array.ext'; simp)
  exact (range_append this).1
 ·
  simp only [Array.size_append, List.size_toArray, size_zeroCells, hzs, hm]; omega
end tails
theorem Mem.addR {G : List Nat} {w0 w : World} {l : List Bk} {g N : Nat} {cs : List Value} (h : Mem G w0 w l) (hg : w0.heap.size ≤ g) (hf : ∀ b ∈ l, b.g ≠ g) (ht : w.there g 0 N) (hr : w.rangeAt g 0 cs) (hl : g < w.heap.size) : Mem G w0 w (⟨g, N, [(0, cs)]⟩ :: l) :=
 ⟨h.os, h.tape, h.output, h.size, h.old, fun b hb => by
  rcases List.mem_cons.1 hb with e | e
  ·
   rw [e]
   exact ⟨ht, fun s hs' => by rw [List.mem_singleton.1 hs']; exact hr, hl, .inl hg⟩
  ·
   exact h.ok b e, List.pairwise_cons.2 ⟨fun b hb => Ne.symm (hf b hb), h.far⟩⟩
end Go.Proofs.Num

namespace Go.Proofs.Num
open Go Go.RowKit
/-- A slice that reads as these cells. -/
structure RowA (w : World) (a : Option Addr) (n c : Nat) (cs : List Value) : Prop where
 len : n = cs.length
 cap : n ≤ c
 no : a = none → c = 0
 mem : cs = [] ∨ ∃ g o, a = some ⟨g, o, none⟩ ∧ g < w.heap.size ∧ w.rangeAt g o cs
def slA (a : Option Addr) (l m : Nat) : Option Addr := if m = l then a else a.map (·.add l)
theorem add_at (g o j : Nat) : (⟨g, o, none⟩ : Addr).add j = ⟨g, o + j, none⟩ := by cases j <;> simp [Addr.add]
theorem map_add0 (a : Option Addr) : a.map (·.add 0) = a := by cases a <;> simp [Addr.add]
theorem slA_zero (a : Option Addr) (m : Nat) : slA a 0 m = a := by
 unfold slA
 split
 ·
  rfl
 ·
  exact map_add0 a
section
variable {w W : World} {a : Option Addr} {n c : Nat} {cs : List Value}
theorem RowA.nil : RowA w none 0 0 [] := ⟨rfl, Nat.le_refl _, fun _ => rfl, .inl rfl⟩
theorem RowA.of {g o : Nat} (hr : w.rangeAt g o cs) (hl : g < w.heap.size) (hn : n = cs.length) (hc : n ≤ c) : RowA w (some ⟨g, o, none⟩) n c cs := ⟨hn, hc, fun h => (by cases h), .inr ⟨g, o, rfl, hl, hr⟩⟩
theorem RowA.sees (h : RowA w a n c cs) (hS : Sees w W) : RowA W a n c cs :=
 ⟨h.len, h.cap, h.no, h.mem.imp id fun ⟨g, o, h1, h2, h3⟩ => ⟨g, o, h1, Nat.lt_of_lt_of_le h2 hS.2.2.size, range_sees h3 h2 hS⟩⟩
theorem RowA.below (h : RowA w a n c cs) (hb : Below w.heap.size w W) : RowA W a n c cs := h.sees (sees_of hb)
theorem RowA.eq {cs' : List Value} (h : RowA w a n c cs) (e : cs = cs') : RowA w a n c cs' := e ▸ h
theorem RowA.part (h : RowA w a n c cs) {lo hi m : Nat} (h1 : lo ≤ hi) (h2 : hi ≤ n) (h3 : hi ≤ m) (h4 : m ≤ c) : RowA w (slA a lo m) (hi - lo) (m - lo) ((cs.take hi).drop lo) := by
 have hl := h.len
 have hlen : ((cs.take hi).drop lo).length = hi - lo := by rw [List.length_drop, List.length_take]; omega
 refine ⟨hlen.symm, by omega, fun e => ?_, ?_⟩
 ·
  have hn : a = none := by
   unfold slA at e
   split at e
   ·
    exact e
   ·
    simpa using e
  have := h.no hn
  omega
 ·
  by_cases he : lo = hi
  ·
   refine .inl ?_
   exact List.length_eq_zero_iff.1 (by rw [hlen]; omega)
  ·
   rcases h.mem with e | ⟨g, o, e1, e2, e3⟩
   ·
    subst e
    exact absurd hl (by simp; omega)
   ·
    refine .inr ⟨g, o + lo, ?_, e2, ?_⟩
    ·
     subst e1
     unfold slA
     rw [if_neg (by omega)]
     simp only [Option.map_some, add_at]
    ·
     intro j v hv
     have hj := (List.getElem?_eq_some_iff.1 hv).1
     rw [hlen] at hj
     rw [List.getElem?_drop, List.getElem?_take_of_lt (by omega)] at hv
     have := e3 (lo + j) v hv
     rwa [← Nat.add_assoc] at this
theorem RowA.take (h : RowA w a n c cs) {hi : Nat} (h2 : hi ≤ n) : RowA w a hi c (cs.take hi) := by
 have := h.part (lo := 0) (Nat.zero_le hi) h2 (Nat.le_trans h2 h.cap) (Nat.le_refl c)
 simpa [slA_zero] using this
theorem RowA.drop (h : RowA w a n c cs) {lo : Nat} (h1 : lo ≤ n) : RowA w (slA a lo c) (n - lo) (c - lo) (cs.drop lo) := by
 have := h.part h1 (Nat.le_refl n) h.cap (Nat.le_refl c)
 rwa [List.take_of_length_le (Nat.le_of_eq h.len.symm)] at this
theorem RowA.real (h : RowA w a n c cs) {i : Nat} (hi : i < n) : ∃ g o, a = some ⟨g, o, none⟩ ∧ g < w.heap.size ∧ w.rangeAt g o cs := by
 rcases h.mem with e | e
 ·
  subst e
  exact absurd h.len (by simp; omega)
 ·
  exact e
theorem Mem.oldA {w0 : World} {l : List Bk} (M : Mem [] w0 w l) (h : RowA w0 a n c cs) : RowA w a n c cs := h.sees M.seesAll
/-- A row of texts that came in. -/
theorem RowS.open {v : Value} {ps : List (List UInt8)} (h : RowS w v ps) : ∃ a c, v = .slice a ps.length c ∧ RowA w a ps.length c (scells ps) := by
 rcases h with ⟨rfl, rfl⟩ | ⟨b, rfl, rfl⟩ | ⟨g, o, n, c, rfl, rfl, h3, h4, h5⟩
 ·
  exact ⟨none, 0, rfl, RowA.nil⟩
 ·
  exact ⟨some b, 0, rfl, ⟨rfl, Nat.le_refl _, fun h => (by cases h), .inl rfl⟩⟩
 ·
  exact ⟨_, c, rfl, RowA.of h5 h4 (scells_len _).symm h3⟩
end
section vals
variable {P : Program} {ops : Array Oper} {w0 : World} {L : Act → Prop} {o : Oper} {rest : List Oper} {a : Act} {W : World} {p : Option Addr} {n c : Nat} {cs : List Value}
theorem wpV_idxA {T e : TypeId} {x y : Operand} {i : Nat} {k : IntKind} (hw : Region.wanted o (yielded ops a.tmps) = true) (ho : o.op = .indexAddr T x y) (hx : a.eval x = .slice p n c) (hy : a.eval y = .int k (i : Nat))
  (hu : P.underlying T = some (.slice e)) (hs : (P.info? e).map (·.size) = some 1) (hR : RowA W p n c cs) (hn : i < n) (h : wpV P ops w0 L rest (a.put o.dst (.pointer (p.map (·.add i))))) : wpV P ops w0 L (o :: rest) a := by
 obtain ⟨g, q, rfl, _, _⟩ := hR.real hn
 refine wpV_idxs hw ho hx hy hu hs hn ?_
 simpa [add_at] using h
theorem wpV_loadA {ty : TypeId} {x : Operand} {i : Nat} {d : TypeDesc} {v : Value} (hw : Region.wanted o (yielded ops a.tmps) = true) (ho : o.op = .load ty x) (hx : a.eval x = .pointer (p.map (·.add i))) (hR : RowA w0 p n c cs) (hv : cs[i]? = some v)
  (hu : P.underlying ty = some d) (hd : d.isRow = false) (h : wpV P ops w0 L rest (a.put o.dst v)) : wpV P ops w0 L (o :: rest) a := by
 have hi := (List.getElem?_eq_some_iff.1 hv).1
 have hl := hR.len
 obtain ⟨g, q, rfl, h1, h2⟩ := hR.real (i := i) (by omega)
 refine wpV_load1 hw ho (b := g) (off := q + i) ?_ (h2 i v hv) h1 hu hd h
 rw [hx]
 simp [add_at]
variable {T e : TypeId} {x y z : Operand} {lo hi m : Nat} {k k2 : IntKind}
end vals
end Go.Proofs.Num

namespace Go.Proofs.Num
open Go Go.RowKit
section vals
variable {P : Program} {ops : Array Oper} {w0 : World} {L : Act → Prop} {o : Oper} {rest : List Oper} {a : Act}
end vals
theorem run_subS {P : Program} {T : TypeId} (hT : P.underlying T = some .string) {l : List UInt8} {lo hi : Nat} {k k2 : IntKind} (h1 : lo ≤ hi) (h2 : hi ≤ l.length) (W : World) : (Instr.sliceAt T (.string (bs l)) (some (.int k ((lo : Nat) : Int))) (some (.int k2 ((hi : Nat) : Int))) none).run P W = .ok (.string (bs ((l.take hi).drop lo))) W := by
 have e : (bs l).extract lo hi = bs ((l.take hi).drop lo) := by
  apply ByteArray.ext
  simp [bs, ByteArray.extract, ByteArray.copySlice, List.drop_take]
 simp [Instr.sliceAt, Instr.slice, Instr.sliceBounds, Instr.sliceBound, asIntOf, run_underlying hT, Sem.run_bind, h1, h2, bs_size, e]
section vals3
variable {P : Program} {ops : Array Oper} {w0 : World} {L : Act → Prop} {o : Oper} {rest : List Oper} {a : Act}
theorem wpV_subS {T : TypeId} {x y z : Operand} {l : List UInt8} {lo hi : Nat} {k k2 : IntKind} (hw : Region.wanted o (yielded ops a.tmps) = true) (ho : o.op = .slice T x (some y) (some z) none) (hx : a.eval x = .string (bs l)) (hy : a.eval y = .int k (lo : Nat)) (hz : a.eval z = .int k2 (hi : Nat))
  (hT : P.underlying T = some .string) (h1 : lo ≤ hi) (h2 : hi ≤ l.length) (h : wpV P ops w0 L rest (a.put o.dst (.string (bs ((l.take hi).drop lo))))) : wpV P ops w0 L (o :: rest) a :=
 wpV_val (by simp [isAlloc, ho]) hw (fun W _ => by
  unfold RunsVal
  simp only [execOp, ho, hx, hy, hz, Option.map_none, Option.map_some, Sem.run_bind, run_subS hT h1 h2, Result.andThen_ok, Sem.run_pure]) h
end vals3
section tails2
variable {P : Program} {ops : Array Oper} {Q : Exit → Act → World → Prop} {o : Oper} {rest : List Oper} {a : Act} {W : World}
theorem wpL_guard (hw : Region.wanted o (yielded ops a.tmps) = true) (h : wpList P ops Q ({ o with guard := none } :: rest) a W) : wpList P ops Q (o :: rest) a W := by
 unfold wpList at h ⊢
 rw [if_pos hw]
 rw [if_pos (by rfl)] at h
 exact h
end tails2
end Go.Proofs.Num

namespace Go.Proofs.Num
open Go Go.RowKit
variable {P : Program}
def EqD (P : Program) (k : Nat) (T : TypeId) (u v : Value) (b : Bool) : Prop := ∀ (d : Nat) (W : World), (Op.equalIn (d + k) T u v).run P W = .ok b W
theorem EqD.up {k m : Nat} {T : TypeId} {u v : Value} {b : Bool} (h : EqD P k T u v b) (hm : k ≤ m) : EqD P m T u v b := fun d W => by
 have := h (d + (m - k)) W
 rwa [show d + (m - k) + k = d + m by omega] at this
theorem EqD.bool {k : Nat} {T : TypeId} {u v : Value} {b c : Bool} (h : EqD P k T u v b) (e : b = c) : EqD P k T u v c := e ▸ h
theorem eq_int {T : TypeId} {k : IntKind} (hT : P.underlying T = some (.int k)) (m n : Nat) : EqD P 1 T (.int k (m : Nat)) (.int k (n : Nat)) (decide (m = n)) := fun d W => by
 rw [run_equalIn_int W d T k k _ _ hT]
 congr 1
 rw [Bool.eq_iff_iff]
 simp
 omega
theorem eq_str {T : TypeId} (hT : P.underlying T = some .string) (l m : List UInt8) : EqD P 1 T (.string (bs l)) (.string (bs m)) (decide (l = m)) := fun d W => by
 rw [run_equalIn_string W d T _ _ hT]
 congr 1
 rw [Bool.eq_iff_iff]
 simp [ByteArray.toList_eq, bs]
theorem run_part_one {e : TypeId} {d : TypeDesc} {cs : List Value} {j : Nat} {v : Value} (he : P.underlying e = some d) (hd : d.isRow = false) (hv : cs[j]? = some v) (W : World) : (part e cs.toArray j).run P W = .ok v W := by
 have hagg : (isAgg e).run P W = .ok false W := by
  unfold isAgg
  rw [Sem.run_bind, run_underlying he W]
  cases d <;> simp_all [TypeDesc.isRow]
 simp [part, Sem.run_bind, hagg, hv]
/-- The fields, one by one: name looks, type, place; each is compared. -/
def FieldsEq (P : Program) (k : Nat) (xs ys : Array Value) : List (Bool × TypeId × Nat) → List Bool → Prop
 | [], [] => True
 | (l, t, o) :: fs, b :: bs => l = false ∧ (∃ u v, (∀ W, (part t xs o).run P W = .ok u W) ∧ (∀ W, (part t ys o).run P W = .ok v W) ∧ EqD P k t u v b) ∧ FieldsEq P k xs ys fs bs
 | _, _ => False
theorem run_eqFields {k d : Nat} {xs ys : Array Value} (hk : ∀ t u v b, EqD P k t u v b → ∀ W, (Op.equalIn d t u v).run P W = .ok b W) : ∀ (fs : List Field) (bs : List Bool), FieldsEq P k xs ys (fs.map fun f => (f.name == "_", f.type, f.offset)) bs → ∀ W, (Op.eqFields d xs ys fs).run P W = .ok (bs.all id) W
 | [], [], _, W => by simp [Op.eqFields]
 | [], _ :: _, h, _ => h.elim
 | _ :: _, [], h, _ => h.elim
 | f :: fs, b :: bs, h, W => by
  obtain ⟨hn, ⟨u, v, h1, h2, h3⟩, h4⟩ := h
  have hne : f.name ≠ "_" := by simpa using hn
  unfold Op.eqFields
  rw [if_pos hne]
  simp only [Sem.run_bind, h1 W, h2 W, hk _ _ _ _ h3 W, Result.andThen_ok]
  cases b
  ·
   simp
  ·
   simp only [Bool.not_true, Bool.false_eq_true, if_false, List.all_cons, id, Bool.true_and]
   exact run_eqFields hk fs bs h4 W
theorem eq_struct {T : TypeId} {k : Nat} {xs ys : List Value} {fa : Array Field} {fs : List (Bool × TypeId × Nat)} {bs : List Bool} (hT : P.underlying T = some (.struct fa)) (hp : P.stoodInHeld T = false) (hf : (fa.toList.map fun f => (f.name == "_", f.type, f.offset)) = fs) (h : FieldsEq P k xs.toArray ys.toArray fs bs) :
  EqD P (k + 1) T (.agg xs.toArray) (.agg ys.toArray) (bs.all id) := fun d W => by
 have e : P.fieldsOf T = fa := by
  unfold Program.fieldsOf
  rw [hT]
 rw [show d + (k + 1) = (d + k) + 1 from rfl, run_equalIn_struct W (d + k) T xs.toArray ys.toArray (by rw [e]; exact hT) hp]
 subst hf
 rw [e]
 exact run_eqFields (fun t u v b hb W => hb d W) _ _ h W
section
variable {ops : Array Oper} {w0 : World} {L : Act → Prop} {o : Oper} {rest : List Oper} {a : Act} {x y : Operand} {T T' : TypeId} {k : Nat} {u v : List Value} {b : Bool}
theorem run_guardT (hg : P.eqGuardType P.depth T = false) (op : BinOp) (x y : Operand) (u v : Array Value) (W : World) : (eqGuard op T x y (.agg u) (.agg v)).run P W = .ok () W := by
 unfold eqGuard
 cases op <;> simp [hg]
theorem wpV_eqlT (hw : Region.wanted o (yielded ops a.tmps) = true) (ho : o.op = .binOp .eql T x y T') (hx : a.eval x = .agg u.toArray) (hy : a.eval y = .agg v.toArray) (hg : P.eqGuardType P.depth T = false) (he : EqD P k T (.agg u.toArray) (.agg v.toArray) b) (hk : k ≤ 10000)
  (h : wpV P ops w0 L rest (a.put o.dst (.bool b))) : wpV P ops w0 L (o :: rest) a :=
 wpV_val (by simp [isAlloc, ho]) hw (fun W _ => by
  unfold RunsVal
  have h2 : (Op.equal T (.agg u.toArray) (.agg v.toArray)).run P W = .ok b W := by
   have := he (10000 - k) W
   rwa [show 10000 - k + k = 10000 by omega] at this
  have h3 : (binOp .eql T (.agg u.toArray) (.agg v.toArray)).run P W = .ok (.bool b) W := by
   simp only [binOp, Sem.run_bind, h2, Result.andThen_ok, Sem.run_pure]
  simp only [execOp, ho, hx, hy, Sem.run_bind, run_guardT hg, Result.andThen_ok, h3, Sem.run_pure]) h
theorem wpV_neqT (hw : Region.wanted o (yielded ops a.tmps) = true) (ho : o.op = .binOp .neq T x y T') (hx : a.eval x = .agg u.toArray) (hy : a.eval y = .agg v.toArray) (hg : P.eqGuardType P.depth T = false) (he : EqD P k T (.agg u.toArray) (.agg v.toArray) b) (hk : k ≤ 10000)
  (h : wpV P ops w0 L rest (a.put o.dst (.bool !b))) : wpV P ops w0 L (o :: rest) a :=
 wpV_val (by simp [isAlloc, ho]) hw (fun W _ => by
  unfold RunsVal
  have h2 : (Op.equal T (.agg u.toArray) (.agg v.toArray)).run P W = .ok b W := by
   have := he (10000 - k) W
   rwa [show 10000 - k + k = 10000 by omega] at this
  have h3 : (binOp .neq T (.agg u.toArray) (.agg v.toArray)).run P W = .ok (.bool !b) W := by
   simp only [binOp, Sem.run_bind, h2, Result.andThen_ok, Sem.run_pure]
  simp only [execOp, ho, hx, hy, Sem.run_bind, run_guardT hg, Result.andThen_ok, h3, Sem.run_pure]) h
end
end Go.Proofs.Num

