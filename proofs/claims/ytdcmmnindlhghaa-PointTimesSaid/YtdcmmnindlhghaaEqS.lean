/- Points, as the program reckons them: plainly. -/
import Derived.Test.YtdcmmnindlhghaaJoin
import Derived.RowKit3
import Derived.Lib.ItoaNum
import Derived.Orders
import Derived.Test.YtdcmmnindlhghaaEq
set_option linter.unusedSimpArgs false
set_option linter.unusedVariables false
namespace Go.Proofs.Num
open Go Go.RowKit
structure P4 where
  x : Nat
  y : Nat
  z : Nat
  t : Nat
structure P4.Ok (p : P4) : Prop where
  x : p.x < 2 ^ 256
  y : p.y < 2 ^ 256
  z : p.z < 2 ^ 256
  t : p.t < 2 ^ 256
def dF : Nat := 37095705934669439343138083508754565189542113879843219016388785533085940283555
theorem dF_lt : dF < 2 ^ 256 := by decide
def rightP (p : P4) : Bool := decide (leastF p.x = p.x) && decide (leastF p.y = p.y) && decide (leastF p.z = p.z) && decide (leastF p.t = p.t) && decide (p.z ≠ 0) && decide (fmul p.x p.y = fmul p.z p.t) &&
  decide (fsub (fmul p.y p.y) (fmul p.x p.x) = fadd (fmul p.z p.z) (fmul dF (fmul p.t p.t)))
def sameP (p q : P4) : Bool := rightP p && rightP q && decide (fmul p.x q.z = fmul q.x p.z) && decide (fmul p.y q.z = fmul q.y p.z)
def aA (p q : P4) : Nat := fmul (fsub p.y p.x) (fsub q.y q.x)
def aB (p q : P4) : Nat := fmul (fadd p.y p.x) (fadd q.y q.x)
def aC (p q : P4) : Nat := fmul (fmul p.t q.t) (fadd dF dF)
def aD (p q : P4) : Nat := fmul p.z (fadd q.z q.z)
def addP (p q : P4) : P4 :=
  ⟨fmul (fsub (aB p q) (aA p q)) (fsub (aD p q) (aC p q)), fmul (fadd (aD p q) (aC p q)) (fadd (aB p q) (aA p q)), fmul (fsub (aD p q) (aC p q)) (fadd (aD p q) (aC p q)), fmul (fsub (aB p q) (aA p q)) (fadd (aB p q) (aA p q))⟩
def affP (x y : Nat) : P4 := ⟨x, y, 1, fmul x y⟩
def zeroP : P4 := affP 0 1
/-- What a point is so many times, by the highest bits first: after so many of 256 rounds. -/
def mulR (n : Nat) (p : P4) : Nat → P4
  | 0 => zeroP
  | k + 1 => if n / 2 ^ (255 - k) % 2 = 1 then addP (addP (mulR n p k) (mulR n p k)) p else addP (mulR n p k) (mulR n p k)
theorem addP_ok (p q : P4) : (addP p q).Ok := ⟨fmul_lt .., fmul_lt .., fmul_lt .., fmul_lt ..⟩
theorem affP_ok {x y : Nat} (hx : x < 2 ^ 256) (hy : y < 2 ^ 256) : (affP x y).Ok := ⟨hx, hy, by show (1 : Nat) < 2 ^ 256; decide, fmul_lt ..⟩
theorem zeroP_ok : zeroP.Ok := affP_ok (by decide) (by decide)
theorem mulR_ok (n : Nat) (p : P4) : ∀ k, (mulR n p k).Ok
  | 0 => zeroP_ok
  | k + 1 => by
    rw [mulR]
    split
    · exact addP_ok ..
    · exact addP_ok ..
theorem mulR_yes {n : Nat} {p : P4} {k : Nat} (h : n / 2 ^ (255 - k) % 2 = 1) : mulR n p (k + 1) = addP (addP (mulR n p k) (mulR n p k)) p := by rw [mulR, if_pos h]
theorem mulR_no {n : Nat} {p : P4} {k : Nat} (h : ¬ n / 2 ^ (255 - k) % 2 = 1) : mulR n p (k + 1) = addP (mulR n p k) (mulR n p k) := by rw [mulR, if_neg h]
/-- The root of a y. -/
def rootX (y : Nat) : Nat × Bool := fsqrt (fmul (fsub (fmul y y) 1) (finv (fadd (fmul (fmul y y) dF) 1)))
end Go.Proofs.Num

namespace Go.Proofs.Num
open Go Go.RowKit
variable {P : Program}
section vals
variable {ops : Array Oper} {w0 : World} {L : Act → Prop} {o : Oper} {rest : List Oper} {a : Act}
theorem run_sliceS {T : TypeId} (hT : P.underlying T = some .string) {l : List UInt8} {hi : Nat} {k : IntKind} (hh : hi ≤ l.length) (W : World) : (Instr.sliceAt T (.string (bs l)) none (some (.int k ((hi : Nat) : Int))) none).run P W = .ok (.string (bs (l.take hi))) W := by
  have e : (bs l).extract 0 hi = bs (l.take hi) := by
    apply ByteArray.ext
    simp [bs, ByteArray.extract, ByteArray.copySlice]
  simp [Instr.sliceAt, Instr.slice, Instr.sliceBounds, Instr.sliceBound, asIntOf, run_underlying hT, Sem.run_bind, hh, bs_size, e]
theorem run_add_bs (T : TypeId) (l m : List UInt8) (h : l.length + m.length ≤ 9223372036854775807) (W : World) : (binOp .add T (.string (bs l)) (.string (bs m))).run P W = .ok (.string (bs (l ++ m))) W := by
  have e : bs l ++ bs m = bs (l ++ m) := by
    apply ByteArray.ext
    simp [bs]
  have h2 : ¬ IntKind.i64.max < ((bs l).size : Int) + ((bs m).size : Int) := by
    simp [bs_size, IntKind.max, IntKind.signed, IntKind.bits]
    omega
  simp [binOp, go_sem, Op.stringOp, e, h2]
  simp [bs_size]
  omega
end vals
section tails
variable {ops : Array Oper} {Q : Exit → Act → World → Prop} {o : Oper} {rest : List Oper} {a : Act} {W : World} {v : Value}
end tails
end Go.Proofs.Num

namespace Go.Proofs.Num
open Go Go.RowKit
structure Bk where
  g : Nat
  N : Nat
  segs : List (Nat × List Value)
structure Bk.Ok (G : List Nat) (w0 w : World) (b : Bk) : Prop where
  there : w.there b.g 0 b.N
  range : ∀ s ∈ b.segs, w.rangeAt b.g s.1 s.2
  lt : b.g < w.heap.size
  own : w0.heap.size ≤ b.g ∨ b.g ∈ G
structure Mem (G : List Nat) (w0 w : World) (l : List Bk) : Prop where
  os : w.os = w0.os
  tape : w.tape = w0.tape
  output : w.output = w0.output
  size : w0.heap.size ≤ w.heap.size
  old : ∀ k, k < w0.heap.size → k ∉ G → w.heap[k]? = w0.heap[k]?
  ok : ∀ b ∈ l, b.Ok G w0 w
  far : l.Pairwise (fun a b => a.g ≠ b.g)
variable {G : List Nat} {w0 w W : World} {l : List Bk}
theorem Mem.start (w : World) : Mem [] w w [] := ⟨rfl, rfl, rfl, Nat.le_refl _, fun _ _ _ => rfl, fun _ h => (by cases h), .nil⟩
theorem Mem.start1 {w : World} {g N : Nat} {segs : List (Nat × List Value)} (ht : w.there g 0 N) (hr : ∀ s ∈ segs, w.rangeAt g s.1 s.2) (hl : g < w.heap.size) : Mem [g] w w [⟨g, N, segs⟩] :=
  ⟨rfl, rfl, rfl, Nat.le_refl _, fun _ _ _ => rfl, fun b h => by rw [List.mem_singleton.1 h]; exact ⟨ht, hr, hl, .inr (List.mem_singleton.2 rfl)⟩, by simp⟩
theorem Mem.below (h : Mem [] w0 w l) : Below w0.heap.size w0 w := ⟨h.os, h.tape, h.output, h.size, fun k hk => h.old k hk (by simp)⟩
theorem Mem.seesAll (h : Mem [] w0 w l) : Sees w0 w := sees_of h.below
theorem Mem.sees (h : Mem G w0 w l) (hS : Sees w W) : Mem G w0 W l :=
  ⟨hS.2.2.os.trans h.os, hS.2.2.tape.trans h.tape, hS.2.2.output.trans h.output, Nat.le_trans h.size hS.2.2.size, fun k hk hG => (hS.2.2.block k (Nat.lt_of_lt_of_le hk h.size)).trans (h.old k hk hG),
   fun b hb => ⟨there_sees (h.ok b hb).there (h.ok b hb).lt hS, fun s hs => range_sees ((h.ok b hb).range s hs) (h.ok b hb).lt hS, Nat.lt_of_lt_of_le (h.ok b hb).lt hS.2.2.size, (h.ok b hb).own⟩, h.far⟩
theorem Mem.fresh {g : Nat} (h : Mem G w0 w l) (hg : w.heap.size ≤ g) : ∀ b ∈ l, b.g ≠ g := fun b hb => Nat.ne_of_lt (Nat.lt_of_lt_of_le (h.ok b hb).lt hg)
theorem Mem.ge {g : Nat} (h : Mem G w0 w l) (hg : w.heap.size ≤ g) : w0.heap.size ≤ g := Nat.le_trans h.size hg
theorem fcons {g g1 N : Nat} {s : List (Nat × List Value)} (h1 : g1 ≠ g) (h : ∀ b ∈ l, b.g ≠ g) : ∀ b ∈ (⟨g1, N, s⟩ :: l : List Bk), b.g ≠ g := fun b hb => by
  rcases List.mem_cons.1 hb with e | e
  · rw [e]; exact h1
  · exact h b e
/-- Parts of a list of cells. -/
def SegsOf (cs : List Value) : List (Nat × List Value) → Prop
  | [] => True
  | s :: r => (cs.drop s.1).take s.2.length = s.2 ∧ SegsOf cs r
theorem SegsOf.mem {cs : List Value} : ∀ {segs : List (Nat × List Value)}, SegsOf cs segs → ∀ s ∈ segs, (cs.drop s.1).take s.2.length = s.2
  | [], _, _, h => by cases h
  | t :: r, h, s, hs => by
    rcases List.mem_cons.1 hs with e | e
    · subst e; exact h.1
    · exact SegsOf.mem h.2 s e
theorem range_part {g : Nat} {cs : List Value} {s : Nat × List Value} (h : w.rangeAt g 0 cs) (hs : (cs.drop s.1).take s.2.length = s.2) : w.rangeAt g s.1 s.2 := fun j v hv => by
  have hv2 : ((cs.drop s.1).take s.2.length)[j]? = some v := by rw [hs]; exact hv
  have hj := (List.getElem?_eq_some_iff.1 hv).1
  rw [List.getElem?_take_of_lt hj, List.getElem?_drop] at hv2
  have := h (s.1 + j) v hv2
  rwa [Nat.zero_add] at this
theorem Mem.addS {g N : Nat} {t : TypeId} {cs : List Value} {segs : List (Nat × List Value)} (h : Mem G w0 w l) (hg : w0.heap.size ≤ g) (hf : ∀ b ∈ l, b.g ≠ g) (hB : Blk w g t cs.toArray) (hN : N = cs.length) (hs : SegsOf cs segs) : Mem G w0 w (⟨g, N, segs⟩ :: l) :=
  ⟨h.os, h.tape, h.output, h.size, h.old, fun b hb => by
    rcases List.mem_cons.1 hb with e | e
    · rw [e]
      exact ⟨blk_there hB (by simpa using hN), fun s hs' => range_part (blk_range hB rfl) (hs.mem s hs'), hB.lt, .inl hg⟩
    · exact h.ok b e, List.pairwise_cons.2 ⟨fun b hb => Ne.symm (hf b hb), h.far⟩⟩
theorem Mem.add {g N : Nat} {t : TypeId} {cs : List Value} (h : Mem G w0 w l) (hg : w0.heap.size ≤ g) (hf : ∀ b ∈ l, b.g ≠ g) (hB : Blk w g t cs.toArray) (hN : N = cs.length) : Mem G w0 w (⟨g, N, [(0, cs)]⟩ :: l) :=
  h.addS hg hf hB hN ⟨by simp, trivial⟩
theorem mem_of {k : Nat} {b : Bk} (hk : l[k]? = some b) : b ∈ l := List.mem_of_getElem? hk
theorem Mem.r {b : Bk} {s : Nat × List Value} (h : Mem G w0 w l) (k j : Nat) (hk : l[k]? = some b) (hj : b.segs[j]? = some s) : w.rangeAt b.g s.1 s.2 := (h.ok b (mem_of hk)).range s (List.mem_of_getElem? hj)
theorem Mem.lt {b : Bk} (h : Mem G w0 w l) (k : Nat) (hk : l[k]? = some b) : b.g < w.heap.size := (h.ok b (mem_of hk)).lt
theorem Mem.t {b : Bk} (h : Mem G w0 w l) (k : Nat) (hk : l[k]? = some b) : w.there b.g 0 b.N := (h.ok b (mem_of hk)).there
theorem Mem.oldR {g o : Nat} {cs : List Value} (h : Mem [] w0 w l) (hr : w0.rangeAt g o cs) (hl : g < w0.heap.size) : w.rangeAt g o cs := range_sees hr hl h.seesAll
theorem Mem.oldL {g : Nat} (h : Mem G w0 w l) (hl : g < w0.heap.size) : g < w.heap.size := Nat.lt_of_lt_of_le hl h.size
theorem far_of {k : Nat} {b : Bk} (hf : l.Pairwise (fun a b => a.g ≠ b.g)) (hk : l[k]? = some b) {j : Nat} {c : Bk} (hj : l[j]? = some c) (hne : j ≠ k) : c.g ≠ b.g := by
  obtain ⟨hkl, rfl⟩ := List.getElem?_eq_some_iff.1 hk
  obtain ⟨hjl, rfl⟩ := List.getElem?_eq_some_iff.1 hj
  rw [List.pairwise_iff_getElem] at hf
  rcases Nat.lt_or_gt_of_ne hne with h | h
  · exact hf j k hjl hkl h
  · exact Ne.symm (hf k j hkl hjl h)
theorem far_set {k : Nat} {b b' : Bk} (hf : l.Pairwise (fun a b => a.g ≠ b.g)) (hk : l[k]? = some b) (hne : ∀ j c, l[j]? = some c → j ≠ k → c.g ≠ b'.g) : (l.set k b').Pairwise (fun a b => a.g ≠ b.g) := by
  have hkl := (List.getElem?_eq_some_iff.1 hk).1
  rw [List.pairwise_iff_getElem] at hf ⊢
  intro i j hi hj hij
  have hi' : i < l.length := by simpa using hi
  have hj' : j < l.length := by simpa using hj
  simp only [List.getElem_set]
  split
  · split
    · omega
    · exact Ne.symm (hne j _ (List.getElem?_eq_getElem hj') (by omega))
  · split
    · exact hne i _ (List.getElem?_eq_getElem hi') (by omega)
    · exact hf i j hi' hj' hij
theorem mem_set_cases {k : Nat} {b c : Bk} (hc : c ∈ l.set k b) : c = b ∨ ∃ j, l[j]? = some c ∧ j ≠ k := by
  obtain ⟨j, hj⟩ := List.getElem?_of_mem hc
  rw [List.getElem?_set] at hj
  split at hj
  · split at hj
    · exact .inl (Option.some.inj hj).symm
    · cases hj
  · exact .inr ⟨j, hj, by omega⟩
theorem Mem.put {g N off n : Nat} {segs segs' : List (Nat × List Value)} (h : Mem G w0 w l) (k : Nat) (hk : l[k]? = some ⟨g, N, segs⟩) (hP : Puts g off n w W) (hT : W.there g 0 N) (hR : ∀ s ∈ segs', W.rangeAt g s.1 s.2) : Mem G w0 W (l.set k ⟨g, N, segs'⟩) := by
  have hb := h.ok _ (mem_of hk)
  refine ⟨hP.os.trans h.os, hP.tape.trans h.tape, hP.output.trans h.output, by rw [hP.size]; exact h.size, fun j hj hG => ?_, fun c hc => ?_, far_set h.far hk fun j c hj hne => far_of h.far hk hj hne⟩
  · refine (hP.other j fun e => ?_).trans (h.old j hj hG)
    subst e
    rcases hb.own with ho | ho
    · exact absurd hj (Nat.not_lt.2 ho)
    · exact hG ho
  · rcases mem_set_cases hc with e | ⟨j, hj, hne⟩
    · rw [e]
      exact ⟨hT, hR, hP.lt hb.lt, hb.own⟩
    · have hc' := h.ok c (mem_of hj)
      have hd : c.g ≠ g := far_of h.far hk hj hne
      exact ⟨hP.other_there hc'.there hd, fun s hs => hP.range (hc'.range s hs) (.inl hd), hP.lt hc'.lt, hc'.own⟩
/-- One cell of a block that reads as one list. -/
theorem Mem.put1 {g N o j off : Nat} {cs : List Value} {v : Value} (h : Mem G w0 w l) (k : Nat) (hk : l[k]? = some ⟨g, N, [(o, cs)]⟩) (hP : Puts g off 1 w W) (hR : W.rangeAt g off [v]) (hT : W.there g 0 N) (hj : off = o + j) : Mem G w0 W (l.set k ⟨g, N, [(o, cs.set j v)]⟩) :=
  h.put k hk hP hT fun s hs => by
    rw [List.mem_singleton.1 hs]
    subst hj
    have hr := (h.ok _ (mem_of hk)).range (o, cs) (List.mem_singleton.2 rfl)
    intro i u hu
    rw [List.getElem?_set] at hu
    split at hu
    · rename_i e
      subst e
      split at hu
      · rw [← Option.some.inj hu]
        exact hR 0 v rfl
      · cases hu
    · rename_i hne
      show W.cell? ⟨g, o + i, none⟩ = some u
      rw [hP.cells (o + i) (by omega)]
      exact hr i u hu
/-- All parts but j stand apart from these cells. -/
def SepS (off n j : Nat) : Nat → List (Nat × List Value) → Prop
  | _, [] => True
  | i, s :: r => (i = j ∨ s.1 + s.2.length ≤ off ∨ off + n ≤ s.1) ∧ SepS off n j (i + 1) r
theorem SepS.at {off n j : Nat} : ∀ {segs : List (Nat × List Value)} {i0 : Nat}, SepS off n j i0 segs → ∀ i s, segs[i]? = some s → i0 + i ≠ j → s.1 + s.2.length ≤ off ∨ off + n ≤ s.1
  | [], _, _, i, s, h, _ => by simp at h
  | t :: r, i0, h, i, s, hs, hne => by
    cases i with
    | zero =>
      have e : t = s := by simpa using hs
      subst e
      rcases h.1 with h1 | h1
      · exact absurd h1 hne
      · exact h1
    | succ i => exact SepS.at h.2 i s (by simpa using hs) (by omega)
/-- A part of a block that is stored whole. -/
theorem Mem.putS {g N off : Nat} {segs : List (Nat × List Value)} {old new : List Value} (h : Mem G w0 w l) (k j : Nat) (hk : l[k]? = some ⟨g, N, segs⟩) (hP : Puts g off new.length w W) (hR : W.rangeAt g off new) (hT : W.there g 0 N)
    (hj : segs[j]? = some (off, old)) (ha : SepS off new.length j 0 segs) : Mem G w0 W (l.set k ⟨g, N, segs.set j (off, new)⟩) :=
  h.put k hk hP hT fun s hs => by
    obtain ⟨i, hi⟩ := List.getElem?_of_mem hs
    rw [List.getElem?_set] at hi
    split at hi
    · split at hi
      · rw [← Option.some.inj hi]; exact hR
      · cases hi
    · rename_i hne
      exact hP.range ((h.ok _ (mem_of hk)).range s (List.mem_of_getElem? hi)) (.inr (ha.at i s hi (by omega)))
/-- A block that reads otherwise, too. -/
theorem Mem.read {g N : Nat} {segs segs' : List (Nat × List Value)} (h : Mem G w0 w l) (k : Nat) (hk : l[k]? = some ⟨g, N, segs⟩) (hR : ∀ s ∈ segs', w.rangeAt g s.1 s.2) : Mem G w0 w (l.set k ⟨g, N, segs'⟩) := by
  have hb := h.ok _ (mem_of hk)
  refine ⟨h.os, h.tape, h.output, h.size, h.old, fun c hc => ?_, far_set h.far hk fun j c hj hne => far_of h.far hk hj hne⟩
  rcases mem_set_cases hc with e | ⟨j, hj, hne⟩
  · rw [e]; exact ⟨hb.there, hR, hb.lt, hb.own⟩
  · exact h.ok c (mem_of hj)
theorem Mem.read1 {g N : Nat} {segs : List (Nat × List Value)} {cs : List Value} {o : Nat} (h : Mem G w0 w l) (k : Nat) (hk : l[k]? = some ⟨g, N, segs⟩) (hR : w.rangeAt g o cs) : Mem G w0 w (l.set k ⟨g, N, [(o, cs)]⟩) :=
  h.read k hk fun s hs => by rw [List.mem_singleton.1 hs]; exact hR
/-- Some of the blocks, in any order. -/
theorem Mem.pick {l' : List Bk} (h : Mem G w0 w l) (ks : List Nat) (hn : ks.Nodup) (hl : ks.map (fun k => l[k]?) = l'.map some) : Mem G w0 w l' := by
  have hlen : ks.length = l'.length := by simpa using congrArg List.length hl
  have hat : ∀ i (hi : i < l'.length), l[ks[i]'(by omega)]? = some l'[i] := fun i hi => by
    have := congrArg (fun q => q[i]?) hl
    simpa [List.getElem?_eq_getElem hi, List.getElem?_eq_getElem (show i < ks.length by omega)] using this
  refine ⟨h.os, h.tape, h.output, h.size, h.old, fun b hb => ?_, ?_⟩
  · obtain ⟨i, hi, rfl⟩ := List.getElem_of_mem hb
    exact h.ok _ (mem_of (hat i hi))
  · rw [List.pairwise_iff_getElem]
    intro i j hi hj hij
    refine far_of h.far (hat j hj) (hat i hi) fun e => ?_
    have := List.pairwise_iff_getElem.1 hn i j (by omega) (by omega) hij
    exact this e
/-- A call that makes new blocks alone. -/
theorem Mem.call {l' : List Bk} (h : Mem G w0 w l) (h' : Mem [] w W l') : Mem G w0 W (l' ++ l) := by
  have hs := h.sees h'.seesAll
  refine ⟨hs.os, hs.tape, hs.output, hs.size, hs.old, fun b hb => ?_, ?_⟩
  · rcases List.mem_append.1 hb with e | e
    · have := h'.ok b e
      refine ⟨this.there, this.range, this.lt, .inl ?_⟩
      rcases this.own with ho | ho
      · exact Nat.le_trans h.size ho
      · cases ho
    · exact hs.ok b e
  · refine List.pairwise_append.2 ⟨h'.far, h.far, fun a ha b hb => ?_⟩
    have h1 := h.ok b hb
    rcases (h'.ok a ha).own with ho | ho
    · have := h1.lt
      omega
    · cases ho
/-- A call that changes one block, and makes new ones. -/
theorem Mem.callM {g N : Nat} {segs segs' : List (Nat × List Value)} {l' : List Bk} (h : Mem G w0 w l) (k : Nat) (hk : l[k]? = some ⟨g, N, segs⟩) (h' : Mem [g] w W (⟨g, N, segs'⟩ :: l')) : Mem G w0 W (l' ++ l.set k ⟨g, N, segs'⟩) := by
  have hb := h.ok _ (mem_of hk)
  have hg := h'.ok _ (List.mem_cons_self ..)
  have hother : ∀ c : Bk, c.g ≠ g → c.g < w.heap.size → W.heap[c.g]? = w.heap[c.g]? := fun c hc hl => h'.old c.g hl (by simpa using hc)
  have hset : ∀ c ∈ l.set k ⟨g, N, segs'⟩, c.Ok G w0 W := fun c hc => by
    rcases mem_set_cases hc with e | ⟨j, hj, hne⟩
    · rw [e]
      exact ⟨hg.there, hg.range, hg.lt, hb.own⟩
    · have hc' := h.ok c (mem_of hj)
      have hd : c.g ≠ g := far_of h.far hk hj hne
      have hh := hother c hd hc'.lt
      exact ⟨fun j hj => by rw [World.cell?_of_block (w := w) hh, World.frozen?_of_block (w := w) hh]; exact hc'.there j hj, fun s hs j v hv => by rw [World.cell?_of_block (w := w) hh]; exact hc'.range s hs j v hv, Nat.lt_of_lt_of_le hc'.lt h'.size, hc'.own⟩
  refine ⟨h'.os.trans h.os, h'.tape.trans h.tape, h'.output.trans h.output, Nat.le_trans h.size h'.size, fun j hj hG => ?_, fun b hb' => ?_, ?_⟩
  · refine (h'.old j (Nat.lt_of_lt_of_le hj h.size) fun e => ?_).trans (h.old j hj hG)
    rw [List.mem_singleton.1 e] at hj hG
    rcases hb.own with ho | ho
    · exact absurd hj (Nat.not_lt.2 ho)
    · exact hG ho
  · rcases List.mem_append.1 hb' with e | e
    · have := h'.ok b (List.mem_cons_of_mem _ e)
      refine ⟨this.there, this.range, this.lt, ?_⟩
      have hne : b.g ≠ g := Ne.symm ((List.pairwise_cons.1 h'.far).1 b e)
      rcases this.own with ho | ho
      · exact .inl (Nat.le_trans h.size ho)
      · exact absurd (List.mem_singleton.1 ho) hne
    · exact hset b e
  · refine List.pairwise_append.2 ⟨(List.pairwise_cons.1 h'.far).2, far_set h.far hk fun j c hj hne => far_of h.far hk hj hne, fun a ha b hb' => ?_⟩
    have hne : a.g ≠ g := Ne.symm ((List.pairwise_cons.1 h'.far).1 a ha)
    have hag : w.heap.size ≤ a.g := by
      rcases (h'.ok a (List.mem_cons_of_mem _ ha)).own with ho | ho
      · exact ho
      · exact absurd (List.mem_singleton.1 ho) hne
    rcases mem_set_cases hb' with e | ⟨j, hj, _⟩
    · rw [e]; exact hne
    · have := (h.ok b (mem_of hj)).lt
      omega
/-- A row that has grown. -/
theorem Mem.grow {g N g' N' : Nat} {segs : List (Nat × List Value)} {cs : List Value} (h : Mem G w0 w l) (k : Nat) (hk : l[k]? = some ⟨g, N, segs⟩) (hS : Grew g w W) (hQ : g' = g ∨ w.heap.size ≤ g') (hR : W.rangeAt g' 0 cs) (hT : W.there g' 0 N') (hL : g' < W.heap.size) : Mem G w0 W (l.set k ⟨g', N', [(0, cs)]⟩) := by
  have hb := h.ok _ (mem_of hk)
  have hne' : ∀ j c, l[j]? = some c → j ≠ k → c.g ≠ g' := fun j c hj hne => by
    rcases hQ with e | e
    · rw [e]; exact far_of h.far hk hj hne
    · have := (h.ok c (mem_of hj)).lt
      omega
  refine ⟨hS.os.trans h.os, hS.tape.trans h.tape, hS.output.trans h.output, Nat.le_trans h.size hS.size, fun j hj hG => ?_, fun c hc => ?_, far_set h.far hk hne'⟩
  · refine (hS.block j (Nat.lt_of_lt_of_le hj h.size) fun e => ?_).trans (h.old j hj hG)
    subst e
    rcases hb.own with ho | ho
    · exact absurd hj (Nat.not_lt.2 ho)
    · exact hG ho
  · rcases mem_set_cases hc with e | ⟨j, hj, hne⟩
    · rw [e]
      refine ⟨hT, fun s hs => by rw [List.mem_singleton.1 hs]; exact hR, hL, ?_⟩
      rcases hQ with e | e
      · rw [e]; exact hb.own
      · exact .inl (Nat.le_trans h.size e)
    · have hc' := h.ok c (mem_of hj)
      have hd : c.g ≠ g := far_of h.far hk hj hne
      exact ⟨hS.there hc'.there hd hc'.lt, fun s hs => hS.range (hc'.range s hs) hd hc'.lt, Nat.lt_of_lt_of_le hc'.lt hS.size, hc'.own⟩
/-- A row of a call's own, that may be written. -/
def MemRow (w : World) (n : Nat) (cs : List Value) (v : Value) (W : World) : Prop := ∃ g cap, v = .slice (some ⟨g, 0, none⟩) n cap ∧ n ≤ cap ∧ Mem [] w W [⟨g, cap, [(0, cs)]⟩]
theorem MemRow.below {n : Nat} {cs : List Value} {v : Value} (h : MemRow w n cs v W) : Below w.heap.size w W := by
  obtain ⟨_, _, _, _, h⟩ := h
  exact h.below
theorem Mem.conv {l' : List Bk} (h : Mem G w0 w l) (e : l = l') : Mem G w0 w l' := e ▸ h
theorem Mem.callM1 {g N : Nat} {segs segs' : List (Nat × List Value)} (h : Mem G w0 w l) (k : Nat) (hk : l[k]? = some ⟨g, N, segs⟩) (h' : Mem [g] w W [⟨g, N, segs'⟩]) : Mem G w0 W (l.set k ⟨g, N, segs'⟩) := h.callM k hk h'
theorem Mem.one {g N : Nat} {segs : List (Nat × List Value)} (h : Mem G w0 w l) (k : Nat) (hk : l[k]? = some ⟨g, N, segs⟩) : Mem [g] w w [⟨g, N, segs⟩] :=
  Mem.start1 (h.ok _ (mem_of hk)).there (h.ok _ (mem_of hk)).range (h.ok _ (mem_of hk)).lt
theorem SegsOf.at {g : Nat} {cs : List Value} {segs : List (Nat × List Value)} (h : w.rangeAt g 0 cs) (hs : SegsOf cs segs) : ∀ s ∈ segs, w.rangeAt g s.1 s.2 := fun s hm => range_part h (hs.mem s hm)
theorem zadd {g i : Nat} {v : Value} (h : w.cell? ⟨g, 0 + i, none⟩ = some v) : w.cell? ⟨g, i, none⟩ = some v := by rwa [Nat.zero_add] at h
theorem Mem.nil (h : Mem G w0 w l) : Mem G w0 w [] := ⟨h.os, h.tape, h.output, h.size, h.old, fun _ hb => (by cases hb), .nil⟩
theorem then_exit {Q : Exit → Act → World → Prop} {K : Act → World → Prop} {i : Nat} {a : Act} {w : World} (h : Q (.exit i) a w) : Exit.then K Q (.exit i) a w := h
theorem inblock_exit {Q : Exit → Act → World → Prop} {i : Nat} {a : Act} {w : World} (h : Q .normal a w) : Exit.inBlock i Q (.exit i) a w := by simpa [Exit.inBlock] using h
section vals
variable {P : Program} {ops : Array Oper} {L : Act → Prop} {o : Oper} {rest : List Oper} {a : Act}
theorem wpV_nilCheck {x : Operand} {p : Addr} (hw : Region.wanted o (yielded ops a.tmps) = true) (ho : o.op = .nilCheck x) (hx : a.eval x = .pointer (some p)) (h : wpV P ops w0 L rest (a.put o.dst (.pointer (some p)))) : wpV P ops w0 L (o :: rest) a :=
  wpV_val (by simp [isAlloc, ho]) hw (fun W _ => by
    unfold RunsVal
    simp [execOp, ho, hx, Instr.sureAddr, asAddr, Sem.run_bind, Sem.run_pure]) h
theorem wpV_takeS {T : TypeId} {x y : Operand} {l : List UInt8} {hi : Nat} {k : IntKind} (hw : Region.wanted o (yielded ops a.tmps) = true) (ho : o.op = .slice T x none (some y) none) (hx : a.eval x = .string (bs l)) (hy : a.eval y = .int k ((hi : Nat) : Int))
    (hT : P.underlying T = some .string) (hh : hi ≤ l.length) (h : wpV P ops w0 L rest (a.put o.dst (.string (bs (l.take hi))))) : wpV P ops w0 L (o :: rest) a :=
  wpV_val (by simp [isAlloc, ho]) hw (fun W _ => by
    unfold RunsVal
    have := run_sliceS (P := P) hT (k := k) hh W
    simp only [execOp, ho, hx, hy, Option.map_none, Option.map_some, Sem.run_bind, this, Result.andThen_ok, Sem.run_pure]) h
theorem run_eqlN (m n : Nat) (T : TypeId) (k : IntKind) (W : World) : (binOp .eql T (.int k (m : Nat)) (.int k (n : Nat))).run P W = .ok (.bool (decide (m = n))) W := by
  rw [run_eql]
  congr 2
  rw [Bool.eq_iff_iff]
  simp
  omega
theorem run_neqN (m n : Nat) (T : TypeId) (k : IntKind) (W : World) : (binOp .neq T (.int k (m : Nat)) (.int k (n : Nat))).run P W = .ok (.bool (decide (m ≠ n))) W := by
  rw [run_neq]
  congr 2
  rw [Bool.eq_iff_iff]
  simp
  omega
end vals
section tails
variable {P : Program} {ops : Array Oper} {Q : Exit → Act → World → Prop} {o : Oper} {rest : List Oper} {a : Act}
theorem wpL_rowN {T e : TypeId} {n : Nat} {parts : Array (Nat × Operand)} {z : Value} {bytes : Nat} {vs : List Value} (hg : o.guard = none) (ho : o.op = .buildSlice T n parts) (hT : P.underlying T = some (.slice e)) (hinfo : (P.info? e).map (fun i => (i.zero, i.size, i.bytes)) = some (some z, 1, bytes)) (hn : 0 < n ∧ n ≤ 16777216)
    (hf : Instr.fill (fun i => some (i * 1, 1)) ((Array.range (n * 1)).map (z.cells[· % z.cells.size]!)) (parts.map fun (i, x) => (i, a.eval x)).toList = some vs.toArray)
    (h : ∀ g W', Sees W W' → W.heap.size ≤ g → Blk W' g e vs.toArray → wpList P ops Q rest (a.put o.dst (.slice (some ⟨g, 0, none⟩) n n)) W') : wpList P ops Q (o :: rest) a W := by
  obtain ⟨i, hi, he⟩ := Option.map_eq_some_iff.1 hinfo
  simp only [Prod.mk.injEq] at he
  obtain ⟨hz, h1, h2⟩ := he
  refine wpL_new (T := T) (e := e) (len := n) (cs := vs) hg ?_ h
  have := run_buildSlice (P := P) W T e n (parts.map fun (i, x) => (i, a.eval x)) vs.toArray i z hT hi hz (by rw [h1]; omega) (by rw [h1]; omega) (by rw [h1]; exact hf)
  simp [execOp, ho, this]
/-- A call of whatever effect. -/
theorem wpL_callM {f : FuncId} {fn : Func} {xs : Array Operand} {ts : Array TypeId} {args : Array Value} {R : Value → World → Prop} (hg : o.guard = none) (ho : o.op = .call { callee := .value (.func f), args := xs, argTypes := ts }) (hargs0 : xs.toList.map a.eval = args.toList) (hf : P.funcs[f]? = some fn)
    (hn : (fn.name == "runtime.NumGoroutine") = false) (hbd : fn.body.isNone = false)
    (hc : Calls P f args W (fun e W' => ∃ v, e = .returned v ∧ R v W')) (h : ∀ v W', R v W' → wpList P ops Q rest (a.put o.dst v) W') : wpList P ops Q (o :: rest) a W :=
  wpList_plain hg fun K hK => by
    unfold Oper.wp
    rw [show (execOp a.eval o).run P W = .ok (.enter f args) W by rw [run_call_body ho rfl hf hn hbd, (Array.toList_inj.1 (by rw [Array.toList_map]; exact hargs0) : xs.map a.eval = args)]]
    exact hc.mono fun e W' ⟨v, he, hr⟩ => by subst he; exact hK _ _ (h v W' hr)
end tails
end Go.Proofs.Num

namespace Go.Proofs.Num
open Go Go.RowKit
variable {P : Program}
theorem toNat_of {n a : Nat} (h : a < 2 ^ n) : (BitVec.ofInt n (a : Int)).toNat = a := by
  rw [BitVec.ofInt_natCast, BitVec.toNat_ofNat]
  exact Nat.mod_eq_of_lt h
section
variable {T : TypeId} {x y : Nat} (hx : x < 4294967296) (hy : y < 4294967296)
include hx hy
end
theorem wrap64N (n : Nat) : IntKind.wrap .u64 (n : Int) = ((n % 18446744073709551616 : Nat) : Int) := by simp [IntKind.wrap, IntKind.bits, IntKind.signed]
section
variable {T : TypeId} {x y : Nat} (hx : x < 18446744073709551616) (hy : y < 18446744073709551616)
include hx hy
end
theorem nr_add64 (T : TypeId) (x y : Nat) (W : World) : (binOp .add T (.int .u64 (x : Int)) (.int .u64 (y : Int))).run P W = .ok (.int .u64 (((x + y) % 18446744073709551616 : Nat) : Int)) W :=
  run_add (by rw [← wrap64N]; rfl) W
end Go.Proofs.Num

namespace Go.Proofs.Num
open Go
def rotr (x n : Nat) : Nat := x / 2 ^ n + x % 2 ^ n * 2 ^ (32 - n)
def bg1 (a : Nat) : Nat := (rotr a 6 ^^^ rotr a 11) ^^^ rotr a 25
def bg0 (a : Nat) : Nat := (rotr a 2 ^^^ rotr a 13) ^^^ rotr a 22
def chs (e f g : Nat) : Nat := (e &&& f) ^^^ ((4294967295 ^^^ e) &&& g)
def maj (a b c : Nat) : Nat := ((a &&& b) ^^^ (a &&& c)) ^^^ (b &&& c)
section
variable {a b c : Nat} (ha : a < 4294967296)
include ha
end
structure S8 where
  a : Nat
  b : Nat
  c : Nat
  d : Nat
  e : Nat
  f : Nat
  g : Nat
  h : Nat
structure S8.Ok (v : S8) : Prop where
  a : v.a < 4294967296
  b : v.b < 4294967296
  c : v.c < 4294967296
  d : v.d < 4294967296
  e : v.e < 4294967296
  f : v.f < 4294967296
  g : v.g < 4294967296
  h : v.h < 4294967296
def one (k w : Nat) (v : S8) : Nat := ((((v.h + bg1 v.e) % 4294967296 + chs v.e v.f v.g) % 4294967296 + k) % 4294967296 + w) % 4294967296
def two (v : S8) : Nat := (bg0 v.a + maj v.a v.b v.c) % 4294967296
def S8.get (v : S8) (i : Nat) : Nat := [v.a, v.b, v.c, v.d, v.e, v.f, v.g, v.h].getD i 0
/-- Cells of texts. -/
def scells (ps : List (List UInt8)) : List Value := ps.map fun s => .string (bs s)
theorem scells_len (ps : List (List UInt8)) : (scells ps).length = ps.length := by simp [scells]
end Go.Proofs.Num

namespace Go.Proofs.Num
open Go Go.RowKit
/-- A row of texts, or none. -/
def RowS (w : World) (v : Value) (ps : List (List UInt8)) : Prop := (v = .slice none 0 0 ∧ ps = []) ∨ (∃ a, v = .slice (some a) 0 0 ∧ ps = []) ∨ ∃ g o n c, v = .slice (some ⟨g, o, none⟩) n c ∧ n = ps.length ∧ n ≤ c ∧ g < w.heap.size ∧ w.rangeAt g o (scells ps)
theorem RowS.sees {w W : World} {v : Value} {ps : List (List UInt8)} (h : RowS w v ps) (hS : Sees w W) : RowS W v ps := by
  rcases h with h | h | ⟨g, o, n, c, h1, h2, h3, h4, h5⟩
  · exact .inl h
  · exact .inr (.inl h)
  · exact .inr <| .inr ⟨g, o, n, c, h1, h2, h3, Nat.lt_of_lt_of_le h4 hS.2.2.size, range_sees h5 h4 hS⟩
theorem RowS.mem {w W : World} {l : List Bk} {v : Value} {ps : List (List UInt8)} (h : RowS w v ps) (M : Mem [] w W l) : RowS W v ps := h.sees M.seesAll
end Go.Proofs.Num

namespace Go.Proofs.Num
open Go Go.RowKit
section vals
variable {P : Program} {ops : Array Oper} {w0 : World} {L : Act → Prop} {o : Oper} {rest : List Oper} {a : Act}
end vals
section tails
variable {P : Program} {ops : Array Oper} {Q : Exit → Act → World → Prop} {o : Oper} {rest : List Oper} {a : Act} {W : World}
end tails
theorem Mem.addR {G : List Nat} {w0 w : World} {l : List Bk} {g N : Nat} {cs : List Value} (h : Mem G w0 w l) (hg : w0.heap.size ≤ g) (hf : ∀ b ∈ l, b.g ≠ g) (ht : w.there g 0 N) (hr : w.rangeAt g 0 cs) (hl : g < w.heap.size) : Mem G w0 w (⟨g, N, [(0, cs)]⟩ :: l) :=
  ⟨h.os, h.tape, h.output, h.size, h.old, fun b hb => by
    rcases List.mem_cons.1 hb with e | e
    · rw [e]
      exact ⟨ht, fun s hs' => by rw [List.mem_singleton.1 hs']; exact hr, hl, .inl hg⟩
    · exact h.ok b e, List.pairwise_cons.2 ⟨fun b hb => Ne.symm (hf b hb), h.far⟩⟩
end Go.Proofs.Num

namespace Go.Proofs.Num
open Go Go.RowKit
/-- A slice that reads as these cells. -/
structure RowA (w : World) (a : Option Addr) (n c : Nat) (cs : List Value) : Prop where
  len : n = cs.length
  cap : n ≤ c
  no : a = none → c = 0
  mem : cs = [] ∨ ∃ g o, a = some ⟨g, o, none⟩ ∧ g < w.heap.size ∧ w.rangeAt g o cs
def slA (a : Option Addr) (l m : Nat) : Option Addr := if m = l then a else a.map (·.add l)
theorem add_at (g o j : Nat) : (⟨g, o, none⟩ : Addr).add j = ⟨g, o + j, none⟩ := by cases j <;> simp [Addr.add]
theorem map_add0 (a : Option Addr) : a.map (·.add 0) = a := by cases a <;> simp [Addr.add]
theorem slA_zero (a : Option Addr) (m : Nat) : slA a 0 m = a := by
  unfold slA
  split
  · rfl
  · exact map_add0 a
section
variable {w W : World} {a : Option Addr} {n c : Nat} {cs : List Value}
theorem RowA.nil : RowA w none 0 0 [] := ⟨rfl, Nat.le_refl _, fun _ => rfl, .inl rfl⟩
theorem RowA.of {g o : Nat} (hr : w.rangeAt g o cs) (hl : g < w.heap.size) (hn : n = cs.length) (hc : n ≤ c) : RowA w (some ⟨g, o, none⟩) n c cs := ⟨hn, hc, fun h => (by cases h), .inr ⟨g, o, rfl, hl, hr⟩⟩
theorem RowA.sees (h : RowA w a n c cs) (hS : Sees w W) : RowA W a n c cs :=
  ⟨h.len, h.cap, h.no, h.mem.imp id fun ⟨g, o, h1, h2, h3⟩ => ⟨g, o, h1, Nat.lt_of_lt_of_le h2 hS.2.2.size, range_sees h3 h2 hS⟩⟩
theorem RowA.below (h : RowA w a n c cs) (hb : Below w.heap.size w W) : RowA W a n c cs := h.sees (sees_of hb)
theorem RowA.part (h : RowA w a n c cs) {lo hi m : Nat} (h1 : lo ≤ hi) (h2 : hi ≤ n) (h3 : hi ≤ m) (h4 : m ≤ c) : RowA w (slA a lo m) (hi - lo) (m - lo) ((cs.take hi).drop lo) := by
  have hl := h.len
  have hlen : ((cs.take hi).drop lo).length = hi - lo := by rw [List.length_drop, List.length_take]; omega
  refine ⟨hlen.symm, by omega, fun e => ?_, ?_⟩
  · have hn : a = none := by
      unfold slA at e
      split at e
      · exact e
      · simpa using e
    have := h.no hn
    omega
  · by_cases he : lo = hi
    · refine .inl ?_
      exact List.length_eq_zero_iff.1 (by rw [hlen]; omega)
    · rcases h.mem with e | ⟨g, o, e1, e2, e3⟩
      · subst e
        exact absurd hl (by simp; omega)
      · refine .inr ⟨g, o + lo, ?_, e2, ?_⟩
        · subst e1
          unfold slA
          rw [if_neg (by omega)]
          simp only [Option.map_some, add_at]
        · intro j v hv
          have hj := (List.getElem?_eq_some_iff.1 hv).1
          rw [hlen] at hj
          rw [List.getElem?_drop, List.getElem?_take_of_lt (by omega)] at hv
          have := e3 (lo + j) v hv
          rwa [← Nat.add_assoc] at this
theorem RowA.take (h : RowA w a n c cs) {hi : Nat} (h2 : hi ≤ n) : RowA w a hi c (cs.take hi) := by
  have := h.part (lo := 0) (Nat.zero_le hi) h2 (Nat.le_trans h2 h.cap) (Nat.le_refl c)
  simpa [slA_zero] using this
theorem RowA.drop (h : RowA w a n c cs) {lo : Nat} (h1 : lo ≤ n) : RowA w (slA a lo c) (n - lo) (c - lo) (cs.drop lo) := by
  have := h.part h1 (Nat.le_refl n) h.cap (Nat.le_refl c)
  rwa [List.take_of_length_le (Nat.le_of_eq h.len.symm)] at this
/-- A row of texts that came in. -/
theorem RowS.open {v : Value} {ps : List (List UInt8)} (h : RowS w v ps) : ∃ a c, v = .slice a ps.length c ∧ RowA w a ps.length c (scells ps) := by
  rcases h with ⟨rfl, rfl⟩ | ⟨b, rfl, rfl⟩ | ⟨g, o, n, c, rfl, rfl, h3, h4, h5⟩
  · exact ⟨none, 0, rfl, RowA.nil⟩
  · exact ⟨some b, 0, rfl, ⟨rfl, Nat.le_refl _, fun h => (by cases h), .inl rfl⟩⟩
  · exact ⟨_, c, rfl, RowA.of h5 h4 (scells_len _).symm h3⟩
end
section vals
variable {P : Program} {ops : Array Oper} {w0 : World} {L : Act → Prop} {o : Oper} {rest : List Oper} {a : Act} {W : World} {p : Option Addr} {n c : Nat} {cs : List Value}
variable {T e : TypeId} {x y z : Operand} {lo hi m : Nat} {k k2 : IntKind}
end vals
end Go.Proofs.Num

namespace Go.Proofs.Num
open Go Go.RowKit
variable {P : Program}
def EqD (P : Program) (k : Nat) (T : TypeId) (u v : Value) (b : Bool) : Prop := ∀ (d : Nat) (W : World), (Op.equalIn (d + k) T u v).run P W = .ok b W
theorem EqD.up {k m : Nat} {T : TypeId} {u v : Value} {b : Bool} (h : EqD P k T u v b) (hm : k ≤ m) : EqD P m T u v b := fun d W => by
  have := h (d + (m - k)) W
  rwa [show d + (m - k) + k = d + m by omega] at this
theorem EqD.bool {k : Nat} {T : TypeId} {u v : Value} {b c : Bool} (h : EqD P k T u v b) (e : b = c) : EqD P k T u v c := e ▸ h
section
variable {ops : Array Oper} {w0 : World} {L : Act → Prop} {o : Oper} {rest : List Oper} {a : Act} {x y : Operand} {T T' : TypeId} {k : Nat} {u v : List Value} {b : Bool}
end
end Go.Proofs.Num

