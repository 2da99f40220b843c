/- Rows that are read: none, empty or real, in one word. -/
import Derived.Test.YticcchgckljlnaaDoorJoinB
import Derived.Test.YticcchgckljlnaaDoorSha
set_option linter.unusedSimpArgs false
set_option linter.unusedVariables false
namespace Go.Proofs.Num
open Go Go.RowKit
/-- A slice that reads as these cells. -/
structure RowA (w : World) (a : Option Addr) (n c : Nat) (cs : List Value) : Prop where
  len : n = cs.length
  cap : n ≤ c
  no : a = none → c = 0
  mem : cs = [] ∨ ∃ g o, a = some ⟨g, o, none⟩ ∧ g < w.heap.size ∧ w.rangeAt g o cs
def slA (a : Option Addr) (l m : Nat) : Option Addr := if m = l then a else a.map (·.add l)
theorem add_at (g o j : Nat) : (⟨g, o, none⟩ : Addr).add j = ⟨g, o + j, none⟩ := by cases j <;> simp [Addr.add]
theorem map_add0 (a : Option Addr) : a.map (·.add 0) = a := by cases a <;> simp [Addr.add]
theorem slA_zero (a : Option Addr) (m : Nat) : slA a 0 m = a := by
  unfold slA
  split
  · rfl
  · exact map_add0 a
section
variable {w W : World} {a : Option Addr} {n c : Nat} {cs : List Value}
theorem RowA.nil : RowA w none 0 0 [] := ⟨rfl, Nat.le_refl _, fun _ => rfl, .inl rfl⟩
theorem RowA.of {g o : Nat} (hr : w.rangeAt g o cs) (hl : g < w.heap.size) (hn : n = cs.length) (hc : n ≤ c) : RowA w (some ⟨g, o, none⟩) n c cs := ⟨hn, hc, fun h => (by cases h), .inr ⟨g, o, rfl, hl, hr⟩⟩
theorem RowA.sees (h : RowA w a n c cs) (hS : Sees w W) : RowA W a n c cs :=
  ⟨h.len, h.cap, h.no, h.mem.imp id fun ⟨g, o, h1, h2, h3⟩ => ⟨g, o, h1, Nat.lt_of_lt_of_le h2 hS.2.2.size, range_sees h3 h2 hS⟩⟩
theorem RowA.below (h : RowA w a n c cs) (hb : Below w.heap.size w W) : RowA W a n c cs := h.sees (sees_of hb)
theorem RowA.eq {cs' : List Value} (h : RowA w a n c cs) (e : cs = cs') : RowA w a n c cs' := e ▸ h
theorem RowA.part (h : RowA w a n c cs) {lo hi m : Nat} (h1 : lo ≤ hi) (h2 : hi ≤ n) (h3 : hi ≤ m) (h4 : m ≤ c) : RowA w (slA a lo m) (hi - lo) (m - lo) ((cs.take hi).drop lo) := by
  have hl := h.len
  have hlen : ((cs.take hi).drop lo).length = hi - lo := by rw [List.length_drop, List.length_take]; omega
  refine ⟨hlen.symm, by omega, fun e => ?_, ?_⟩
  · have hn : a = none := by
      unfold slA at e
      split at e
      · exact e
      · simpa using e
    have := h.no hn
    omega
  · by_cases he : lo = hi
    · refine .inl ?_
      exact List.length_eq_zero_iff.1 (by rw [hlen]; omega)
    · rcases h.mem with e | ⟨g, o, e1, e2, e3⟩
      · subst e
        exact absurd hl (by simp; omega)
      · refine .inr ⟨g, o + lo, ?_, e2, ?_⟩
        · subst e1
          unfold slA
          rw [if_neg (by omega)]
          simp only [Option.map_some, add_at]
        · intro j v hv
          have hj := (List.getElem?_eq_some_iff.1 hv).1
          rw [hlen] at hj
          rw [List.getElem?_drop, List.getElem?_take_of_lt (by omega)] at hv
          have := e3 (lo + j) v hv
          rwa [← Nat.add_assoc] at this
theorem RowA.take (h : RowA w a n c cs) {hi : Nat} (h2 : hi ≤ n) : RowA w a hi c (cs.take hi) := by
  have := h.part (lo := 0) (Nat.zero_le hi) h2 (Nat.le_trans h2 h.cap) (Nat.le_refl c)
  simpa [slA_zero] using this
theorem RowA.drop (h : RowA w a n c cs) {lo : Nat} (h1 : lo ≤ n) : RowA w (slA a lo c) (n - lo) (c - lo) (cs.drop lo) := by
  have := h.part h1 (Nat.le_refl n) h.cap (Nat.le_refl c)
  rwa [List.take_of_length_le (Nat.le_of_eq h.len.symm)] at this
theorem RowA.real (h : RowA w a n c cs) {i : Nat} (hi : i < n) : ∃ g o, a = some ⟨g, o, none⟩ ∧ g < w.heap.size ∧ w.rangeAt g o cs := by
  rcases h.mem with e | e
  · subst e
    exact absurd h.len (by simp; omega)
  · exact e
theorem Mem.oldA {w0 : World} {l : List Bk} (M : Mem [] w0 w l) (h : RowA w0 a n c cs) : RowA w a n c cs := h.sees M.seesAll
/-- A row of texts that came in. -/
theorem RowS.open {v : Value} {ps : List (List UInt8)} (h : RowS w v ps) : ∃ a c, v = .slice a ps.length c ∧ RowA w a ps.length c (scells ps) := by
  rcases h with ⟨rfl, rfl⟩ | ⟨b, rfl, rfl⟩ | ⟨g, o, n, c, rfl, rfl, h3, h4, h5⟩
  · exact ⟨none, 0, rfl, RowA.nil⟩
  · exact ⟨some b, 0, rfl, ⟨rfl, Nat.le_refl _, fun h => (by cases h), .inl rfl⟩⟩
  · exact ⟨_, c, rfl, RowA.of h5 h4 (scells_len _).symm h3⟩
end
section vals
variable {P : Program} {ops : Array Oper} {w0 : World} {L : Act → Prop} {o : Oper} {rest : List Oper} {a : Act} {W : World} {p : Option Addr} {n c : Nat} {cs : List Value}
theorem wpV_idxA {T e : TypeId} {x y : Operand} {i : Nat} {k : IntKind} (hw : Region.wanted o (yielded ops a.tmps) = true) (ho : o.op = .indexAddr T x y) (hx : a.eval x = .slice p n c) (hy : a.eval y = .int k (i : Nat))
    (hu : P.underlying T = some (.slice e)) (hs : (P.info? e).map (·.size) = some 1) (hR : RowA W p n c cs) (hn : i < n) (h : wpV P ops w0 L rest (a.put o.dst (.pointer (p.map (·.add i))))) : wpV P ops w0 L (o :: rest) a := by
  obtain ⟨g, q, rfl, _, _⟩ := hR.real hn
  refine wpV_idxs hw ho hx hy hu hs hn ?_
  simpa [add_at] using h
theorem wpV_loadA {ty : TypeId} {x : Operand} {i : Nat} {d : TypeDesc} {v : Value} (hw : Region.wanted o (yielded ops a.tmps) = true) (ho : o.op = .load ty x) (hx : a.eval x = .pointer (p.map (·.add i))) (hR : RowA w0 p n c cs) (hv : cs[i]? = some v)
    (hu : P.underlying ty = some d) (hd : d.isRow = false) (h : wpV P ops w0 L rest (a.put o.dst v)) : wpV P ops w0 L (o :: rest) a := by
  have hi := (List.getElem?_eq_some_iff.1 hv).1
  have hl := hR.len
  obtain ⟨g, q, rfl, h1, h2⟩ := hR.real (i := i) (by omega)
  refine wpV_load1 hw ho (b := g) (off := q + i) ?_ (h2 i v hv) h1 hu hd h
  rw [hx]
  simp [add_at]
variable {T e : TypeId} {x y z : Operand} {lo hi m : Nat} {k k2 : IntKind}
end vals
end Go.Proofs.Num

namespace Go.Proofs.Num
open Go Go.RowKit
section vals
variable {P : Program} {ops : Array Oper} {w0 : World} {L : Act → Prop} {o : Oper} {rest : List Oper} {a : Act}
end vals
section vals3
variable {P : Program} {ops : Array Oper} {w0 : World} {L : Act → Prop} {o : Oper} {rest : List Oper} {a : Act}
end vals3
section tails2
variable {P : Program} {ops : Array Oper} {Q : Exit → Act → World → Prop} {o : Oper} {rest : List Oper} {a : Act} {W : World}
theorem wpL_guard (hw : Region.wanted o (yielded ops a.tmps) = true) (h : wpList P ops Q ({ o with guard := none } :: rest) a W) : wpList P ops Q (o :: rest) a W := by
  unfold wpList at h ⊢
  rw [if_pos hw]
  rw [if_pos (by rfl)] at h
  exact h
end tails2
end Go.Proofs.Num

namespace Go.Proofs.Num
open Go Go.RowKit
def ucells (l : List Nat) : List Value := l.map fun n => .int .u32 ((n : Nat) : Int)
def qcells (l : List Nat) : List Value := l.map fun n => .int .u64 ((n : Nat) : Int)
theorem ucells_len (l : List Nat) : (ucells l).length = l.length := by simp [ucells]
theorem qcells_len (l : List Nat) : (qcells l).length = l.length := by simp [qcells]
theorem ucells_get {l : List Nat} {k : Nat} (h : k < l.length) : (ucells l)[k]? = some (.int .u32 ((l.getD k 0 : Nat) : Int)) := by
  simp [ucells, List.getElem?_map, List.getD_eq_getElem?_getD, List.getElem?_eq_getElem h]
theorem qcells_get {l : List Nat} {k : Nat} (h : k < l.length) : (qcells l)[k]? = some (.int .u64 ((l.getD k 0 : Nat) : Int)) := by
  simp [qcells, List.getElem?_map, List.getD_eq_getElem?_getD, List.getElem?_eq_getElem h]
theorem qcells_set (l : List Nat) (k n : Nat) : (qcells l).set k (.int .u64 ((n : Nat) : Int)) = qcells (l.set k n) := by simp [qcells, List.map_set]
theorem ucells_snoc (l : List Nat) (n : Nat) : ucells l ++ [.int .u32 ((n : Nat) : Int)] = ucells (l ++ [n]) := by simp [ucells]
theorem qcells_snoc (l : List Nat) (n : Nat) : qcells l ++ [.int .u64 ((n : Nat) : Int)] = qcells (l ++ [n]) := by simp [qcells]
theorem qcells_zeros (n : Nat) : List.replicate n (.int .u64 0) = qcells (List.replicate n 0) := by simp [qcells]
/-- What is carried on at one place of a product. -/
def cN (a b : List Nat) (i k : Nat) (s : List Nat × Nat) : Nat := ((s.2 + s.1.getD (i + k) 0) % 18446744073709551616 + a.getD i 0 * b.getD k 0 % 18446744073709551616) % 18446744073709551616
def tIn (a b : List Nat) (i : Nat) (o : List Nat) : Nat → List Nat × Nat
  | 0 => (o, 0)
  | k + 1 => ((tIn a b i o k).1.set (i + k) (cN a b i k (tIn a b i o k) % 65536), cN a b i k (tIn a b i o k) / 65536)
def tRow (a b : List Nat) (i : Nat) (o : List Nat) : List Nat := (tIn a b i o b.length).1.set (i + b.length) (tIn a b i o b.length).2
def tAll (a b : List Nat) : Nat → List Nat
  | 0 => List.replicate (a.length + b.length) 0
  | i + 1 => tRow a b i (tAll a b i)
def timesL (a b : List Nat) : List Nat := tAll a b a.length
theorem tIn_len {a b : List Nat} {i : Nat} {o : List Nat} : ∀ k, (tIn a b i o k).1.length = o.length
  | 0 => rfl
  | k + 1 => by rw [tIn, List.length_set, tIn_len k]
theorem tRow_len {a b : List Nat} {i : Nat} {o : List Nat} : (tRow a b i o).length = o.length := by rw [tRow, List.length_set, tIn_len]
theorem tAll_len {a b : List Nat} : ∀ i, (tAll a b i).length = a.length + b.length
  | 0 => List.length_replicate ..
  | i + 1 => by rw [tAll, tRow_len, tAll_len i]
theorem timesL_len {a b : List Nat} : (timesL a b).length = a.length + b.length := tAll_len _
/-- Is a number above another one? -/
def abvL (a b : List Nat) : Nat → Bool
  | 0 => false
  | i + 1 => if a.getD i 0 ≠ b.getD i 0 then decide (b.getD i 0 < a.getD i 0) else abvL a b i
def aboveL (a b : List Nat) : Bool := abvL a b (a.length + b.length)
def powL (r : List Nat) : Nat → List Nat
  | 0 => r
  | i + 1 => timesL (powL r i) r
def wholeL (p d : Nat) : List Nat := (List.replicate (2 * d + 1) 0).set (2 * d) p
def addBit (r : List Nat) (t : Nat) : List Nat := r.set (t / 16) ((r.getD (t / 16) 0 + 2 ^ (t % 16)) % 18446744073709551616)
def subBit (r : List Nat) (t : Nat) : List Nat := r.set (t / 16) ((r.getD (t / 16) 0 + 18446744073709551616 - 2 ^ (t % 16)) % 18446744073709551616)
def rStep (p d t : Nat) (r : List Nat) : List Nat := if aboveL (powL (addBit r t) (d - 1)) (wholeL p d) then subBit (addBit r t) t else addBit r t
def rSt (p d : Nat) : Nat → List Nat
  | 0 => [0, 0, 0]
  | j + 1 => rStep p d (36 - j) (rSt p d j)
def rootL (p d : Nat) : Nat := (((rSt p d 37).getD 1 0 % 4294967296 % 4294967296) * 65536 % 4294967296 + (rSt p d 37).getD 0 0 % 4294967296) % 4294967296
theorem wholeL_len {p d : Nat} : (wholeL p d).length = 2 * d + 1 := by rw [wholeL, List.length_set, List.length_replicate]
theorem addBit_len {r : List Nat} {t : Nat} : (addBit r t).length = r.length := List.length_set ..
theorem subBit_len {r : List Nat} {t : Nat} : (subBit r t).length = r.length := List.length_set ..
theorem rSt_len {p d : Nat} : ∀ j, (rSt p d j).length = 3
  | 0 => rfl
  | j + 1 => by
    rw [rSt, rStep]
    split
    · rw [subBit_len, addBit_len, rSt_len j]
    · rw [addBit_len, rSt_len j]
theorem rSt_down {p d j : Nat} (h : j ≤ 36) : rSt p d (37 - j) = rStep p d j (rSt p d (37 - (j + 1))) := by
  rw [show 37 - j = (37 - (j + 1)) + 1 by omega, rSt, show 36 - (37 - (j + 1)) = j by omega]
theorem rStep_yes {p d t : Nat} {r : List Nat} (h : aboveL (powL (addBit r t) (d - 1)) (wholeL p d) = true) : rStep p d t r = subBit (addBit r t) t := by
  rw [rStep, if_pos h]
theorem rStep_no {p d t : Nat} {r : List Nat} (h : aboveL (powL (addBit r t) (d - 1)) (wholeL p d) = false) : rStep p d t r = addBit r t := by
  rw [rStep, if_neg (by rw [h]; decide)]
theorem getD_over {l : List Nat} {k : Nat} (h : ¬ k < l.length) : l.getD k 0 = 0 := by
  rw [List.getD_eq_getElem?_getD, List.getElem?_eq_none (by omega)]
  rfl
theorem abvL_ne {a b : List Nat} {i : Nat} (h : a.getD i 0 ≠ b.getD i 0) : abvL a b (i + 1) = decide (b.getD i 0 < a.getD i 0) := by rw [abvL, if_pos h]
theorem abvL_eq {a b : List Nat} {i : Nat} (h : a.getD i 0 = b.getD i 0) : abvL a b (i + 1) = abvL a b i := by rw [abvL, if_neg (fun q => q h)]
/-- The first primes: after so many steps, from 2 on. -/
def pRow : Nat → List Nat
  | 0 => []
  | j + 1 => if (pRow j).all (fun p => (j + 2) % p != 0) then pRow j ++ [j + 2] else pRow j
theorem pRow_yes {j : Nat} (h : (pRow j).all (fun p => (j + 2) % p != 0) = true) : pRow (j + 1) = pRow j ++ [j + 2] := by rw [pRow, if_pos h]
theorem pRow_no {j : Nat} (h : (pRow j).all (fun p => (j + 2) % p != 0) = false) : pRow (j + 1) = pRow j := by rw [pRow, if_neg (by rw [h]; decide)]
theorem pRow_len : ∀ j, (pRow j).length ≤ j
  | 0 => Nat.le_refl _
  | j + 1 => by
    have := pRow_len j
    rw [pRow]
    split
    · rw [List.length_append, List.length_singleton]; omega
    · omega
theorem pRow_pos : ∀ j, ∀ p ∈ pRow j, p ≠ 0
  | 0, p, h => by cases h
  | j + 1, p, h => by
    rw [pRow] at h
    split at h
    · rcases List.mem_append.1 h with e | e
      · exact pRow_pos j p e
      · rw [List.mem_singleton.1 e]; omega
    · exact pRow_pos j p h
theorem getD_in9 {l : List Nat} {i : Nat} (h : i < l.length) : l.getD i 0 ∈ l := by
  rw [List.getD_eq_getElem?_getD, List.getElem?_eq_getElem h]
  exact List.getElem_mem h
theorem all_next {l : List Nat} {i : Nat} {f : Nat → Bool} (h : i < l.length) : (l.take (i + 1)).all f = ((l.take i).all f && f (l.getD i 0)) := by
  rw [List.take_add_one, List.all_append, List.getElem?_eq_getElem h, List.getD_eq_getElem?_getD, List.getElem?_eq_getElem h]
  simp
theorem map_snoc {l : List Nat} {i : Nat} {f : Nat → Nat} (h : i < l.length) : (l.map f).take i ++ [f (l.getD i 0)] = (l.map f).take (i + 1) := by
  rw [List.take_add_one, List.getElem?_map, List.getElem?_eq_getElem h, List.getD_eq_getElem?_getD, List.getElem?_eq_getElem h]
  rfl
theorem nr_subW64 {P : Program} {T : TypeId} {x y : Nat} (hy : y ≤ 18446744073709551616) (W : World) : (binOp .sub T (.int .u64 (x : Int)) (.int .u64 (y : Int))).run P W = .ok (.int .u64 (((x + 18446744073709551616 - y) % 18446744073709551616 : Nat) : Int)) W :=
  run_sub (by
    simp [IntKind.wrap, IntKind.bits, IntKind.signed]
    omega) W
theorem two_pow_small {i j : Nat} (h : i ≤ j % 16) : 2 ^ i ≤ 32768 := Nat.le_trans (Nat.pow_le_pow_right (by decide) (show i ≤ 15 by omega)) (by decide)
theorem two_pow_next {i j : Nat} (h : i < j % 16) : 2 * 2 ^ i % 18446744073709551616 = 2 ^ (i + 1) := by
  have := two_pow_small (i := i) (j := j) (by omega)
  rw [Nat.pow_succ]
  omega
end Go.Proofs.Num

