/- Texts cut and joined; the least of two; a row of two bytes. -/
import Derived.Test.YtdcmmnindlhghaaJoinP
import Derived.Test.YtdcmmnindlhghaaNumH
import Derived.Orders
import Derived.Lib.ItoaNum
import Derived.Test.YtdcmmnindlhghaaEq
set_option linter.unusedSimpArgs false
set_option linter.unusedVariables false
namespace Go.Proofs.Num
open Go Go.RowKit
variable {P : Program}
section vals
variable {ops : Array Oper} {w0 : World} {L : Act → Prop} {o : Oper} {rest : List Oper} {a : Act}
theorem run_add_bs (T : TypeId) (l m : List UInt8) (h : l.length + m.length ≤ 9223372036854775807) (W : World) : (binOp .add T (.string (bs l)) (.string (bs m))).run P W = .ok (.string (bs (l ++ m))) W := by
  have e : bs l ++ bs m = bs (l ++ m) := by
    apply ByteArray.ext
    simp [bs]
  have h2 : ¬ IntKind.i64.max < ((bs l).size : Int) + ((bs m).size : Int) := by
    simp [bs_size, IntKind.max, IntKind.signed, IntKind.bits]
    omega
  simp [binOp, go_sem, Op.stringOp, e, h2]
  simp [bs_size]
  omega
end vals
section tails
variable {ops : Array Oper} {Q : Exit → Act → World → Prop} {o : Oper} {rest : List Oper} {a : Act} {W : World} {v : Value}
end tails
end Go.Proofs.Num

namespace Go.Proofs.Num
open Go Go.RowKit
structure Bk where
  g : Nat
  N : Nat
  segs : List (Nat × List Value)
structure Bk.Ok (G : List Nat) (w0 w : World) (b : Bk) : Prop where
  there : w.there b.g 0 b.N
  range : ∀ s ∈ b.segs, w.rangeAt b.g s.1 s.2
  lt : b.g < w.heap.size
  own : w0.heap.size ≤ b.g ∨ b.g ∈ G
structure Mem (G : List Nat) (w0 w : World) (l : List Bk) : Prop where
  os : w.os = w0.os
  tape : w.tape = w0.tape
  output : w.output = w0.output
  size : w0.heap.size ≤ w.heap.size
  old : ∀ k, k < w0.heap.size → k ∉ G → w.heap[k]? = w0.heap[k]?
  ok : ∀ b ∈ l, b.Ok G w0 w
  far : l.Pairwise (fun a b => a.g ≠ b.g)
variable {G : List Nat} {w0 w W : World} {l : List Bk}
theorem Mem.start (w : World) : Mem [] w w [] := ⟨rfl, rfl, rfl, Nat.le_refl _, fun _ _ _ => rfl, fun _ h => (by cases h), .nil⟩
theorem Mem.start1 {w : World} {g N : Nat} {segs : List (Nat × List Value)} (ht : w.there g 0 N) (hr : ∀ s ∈ segs, w.rangeAt g s.1 s.2) (hl : g < w.heap.size) : Mem [g] w w [⟨g, N, segs⟩] :=
  ⟨rfl, rfl, rfl, Nat.le_refl _, fun _ _ _ => rfl, fun b h => by rw [List.mem_singleton.1 h]; exact ⟨ht, hr, hl, .inr (List.mem_singleton.2 rfl)⟩, by simp⟩
theorem Mem.below (h : Mem [] w0 w l) : Below w0.heap.size w0 w := ⟨h.os, h.tape, h.output, h.size, fun k hk => h.old k hk (by simp)⟩
theorem Mem.seesAll (h : Mem [] w0 w l) : Sees w0 w := sees_of h.below
theorem Mem.sees (h : Mem G w0 w l) (hS : Sees w W) : Mem G w0 W l :=
  ⟨hS.2.2.os.trans h.os, hS.2.2.tape.trans h.tape, hS.2.2.output.trans h.output, Nat.le_trans h.size hS.2.2.size, fun k hk hG => (hS.2.2.block k (Nat.lt_of_lt_of_le hk h.size)).trans (h.old k hk hG),
   fun b hb => ⟨there_sees (h.ok b hb).there (h.ok b hb).lt hS, fun s hs => range_sees ((h.ok b hb).range s hs) (h.ok b hb).lt hS, Nat.lt_of_lt_of_le (h.ok b hb).lt hS.2.2.size, (h.ok b hb).own⟩, h.far⟩
theorem Mem.fresh {g : Nat} (h : Mem G w0 w l) (hg : w.heap.size ≤ g) : ∀ b ∈ l, b.g ≠ g := fun b hb => Nat.ne_of_lt (Nat.lt_of_lt_of_le (h.ok b hb).lt hg)
theorem Mem.ge {g : Nat} (h : Mem G w0 w l) (hg : w.heap.size ≤ g) : w0.heap.size ≤ g := Nat.le_trans h.size hg
theorem fcons {g g1 N : Nat} {s : List (Nat × List Value)} (h1 : g1 ≠ g) (h : ∀ b ∈ l, b.g ≠ g) : ∀ b ∈ (⟨g1, N, s⟩ :: l : List Bk), b.g ≠ g := fun b hb => by
  rcases List.mem_cons.1 hb with e | e
  · rw [e]; exact h1
  · exact h b e
/-- Parts of a list of cells. -/
def SegsOf (cs : List Value) : List (Nat × List Value) → Prop
  | [] => True
  | s :: r => (cs.drop s.1).take s.2.length = s.2 ∧ SegsOf cs r
theorem SegsOf.mem {cs : List Value} : ∀ {segs : List (Nat × List Value)}, SegsOf cs segs → ∀ s ∈ segs, (cs.drop s.1).take s.2.length = s.2
  | [], _, _, h => by cases h
  | t :: r, h, s, hs => by
    rcases List.mem_cons.1 hs with e | e
    · subst e; exact h.1
    · exact SegsOf.mem h.2 s e
theorem range_part {g : Nat} {cs : List Value} {s : Nat × List Value} (h : w.rangeAt g 0 cs) (hs : (cs.drop s.1).take s.2.length = s.2) : w.rangeAt g s.1 s.2 := fun j v hv => by
  have hv2 : ((cs.drop s.1).take s.2.length)[j]? = some v := by rw [hs]; exact hv
  have hj := (List.getElem?_eq_some_iff.1 hv).1
  rw [List.getElem?_take_of_lt hj, List.getElem?_drop] at hv2
  have := h (s.1 + j) v hv2
  rwa [Nat.zero_add] at this
theorem Mem.addS {g N : Nat} {t : TypeId} {cs : List Value} {segs : List (Nat × List Value)} (h : Mem G w0 w l) (hg : w0.heap.size ≤ g) (hf : ∀ b ∈ l, b.g ≠ g) (hB : Blk w g t cs.toArray) (hN : N = cs.length) (hs : SegsOf cs segs) : Mem G w0 w (⟨g, N, segs⟩ :: l) :=
  ⟨h.os, h.tape, h.output, h.size, h.old, fun b hb => by
    rcases List.mem_cons.1 hb with e | e
    · rw [e]
      exact ⟨blk_there hB (by simpa using hN), fun s hs' => range_part (blk_range hB rfl) (hs.mem s hs'), hB.lt, .inl hg⟩
    · exact h.ok b e, List.pairwise_cons.2 ⟨fun b hb => Ne.symm (hf b hb), h.far⟩⟩
theorem Mem.add {g N : Nat} {t : TypeId} {cs : List Value} (h : Mem G w0 w l) (hg : w0.heap.size ≤ g) (hf : ∀ b ∈ l, b.g ≠ g) (hB : Blk w g t cs.toArray) (hN : N = cs.length) : Mem G w0 w (⟨g, N, [(0, cs)]⟩ :: l) :=
  h.addS hg hf hB hN ⟨by simp, trivial⟩
theorem mem_of {k : Nat} {b : Bk} (hk : l[k]? = some b) : b ∈ l := List.mem_of_getElem? hk
theorem Mem.r {b : Bk} {s : Nat × List Value} (h : Mem G w0 w l) (k j : Nat) (hk : l[k]? = some b) (hj : b.segs[j]? = some s) : w.rangeAt b.g s.1 s.2 := (h.ok b (mem_of hk)).range s (List.mem_of_getElem? hj)
theorem Mem.lt {b : Bk} (h : Mem G w0 w l) (k : Nat) (hk : l[k]? = some b) : b.g < w.heap.size := (h.ok b (mem_of hk)).lt
theorem Mem.t {b : Bk} (h : Mem G w0 w l) (k : Nat) (hk : l[k]? = some b) : w.there b.g 0 b.N := (h.ok b (mem_of hk)).there
theorem Mem.oldR {g o : Nat} {cs : List Value} (h : Mem [] w0 w l) (hr : w0.rangeAt g o cs) (hl : g < w0.heap.size) : w.rangeAt g o cs := range_sees hr hl h.seesAll
theorem Mem.oldL {g : Nat} (h : Mem G w0 w l) (hl : g < w0.heap.size) : g < w.heap.size := Nat.lt_of_lt_of_le hl h.size
theorem far_of {k : Nat} {b : Bk} (hf : l.Pairwise (fun a b => a.g ≠ b.g)) (hk : l[k]? = some b) {j : Nat} {c : Bk} (hj : l[j]? = some c) (hne : j ≠ k) : c.g ≠ b.g := by
  obtain ⟨hkl, rfl⟩ := List.getElem?_eq_some_iff.1 hk
  obtain ⟨hjl, rfl⟩ := List.getElem?_eq_some_iff.1 hj
  rw [List.pairwise_iff_getElem] at hf
  rcases Nat.lt_or_gt_of_ne hne with h | h
  · exact hf j k hjl hkl h
  · exact Ne.symm (hf k j hkl hjl h)
theorem far_set {k : Nat} {b b' : Bk} (hf : l.Pairwise (fun a b => a.g ≠ b.g)) (hk : l[k]? = some b) (hne : ∀ j c, l[j]? = some c → j ≠ k → c.g ≠ b'.g) : (l.set k b').Pairwise (fun a b => a.g ≠ b.g) := by
  have hkl := (List.getElem?_eq_some_iff.1 hk).1
  rw [List.pairwise_iff_getElem] at hf ⊢
  intro i j hi hj hij
  have hi' : i < l.length := by simpa using hi
  have hj' : j < l.length := by simpa using hj
  simp only [List.getElem_set]
  split
  · split
    · omega
    · exact Ne.symm (hne j _ (List.getElem?_eq_getElem hj') (by omega))
  · split
    · exact hne i _ (List.getElem?_eq_getElem hi') (by omega)
    · exact hf i j hi' hj' hij
theorem mem_set_cases {k : Nat} {b c : Bk} (hc : c ∈ l.set k b) : c = b ∨ ∃ j, l[j]? = some c ∧ j ≠ k := by
  obtain ⟨j, hj⟩ := List.getElem?_of_mem hc
  rw [List.getElem?_set] at hj
  split at hj
  · split at hj
    · exact .inl (Option.some.inj hj).symm
    · cases hj
  · exact .inr ⟨j, hj, by omega⟩
theorem Mem.put {g N off n : Nat} {segs segs' : List (Nat × List Value)} (h : Mem G w0 w l) (k : Nat) (hk : l[k]? = some ⟨g, N, segs⟩) (hP : Puts g off n w W) (hT : W.there g 0 N) (hR : ∀ s ∈ segs', W.rangeAt g s.1 s.2) : Mem G w0 W (l.set k ⟨g, N, segs'⟩) := by
  have hb := h.ok _ (mem_of hk)
  refine ⟨hP.os.trans h.os, hP.tape.trans h.tape, hP.output.trans h.output, by rw [hP.size]; exact h.size, fun j hj hG => ?_, fun c hc => ?_, far_set h.far hk fun j c hj hne => far_of h.far hk hj hne⟩
  · refine (hP.other j fun e => ?_).trans (h.old j hj hG)
    subst e
    rcases hb.own with ho | ho
    · exact absurd hj (Nat.not_lt.2 ho)
    · exact hG ho
  · rcases mem_set_cases hc with e | ⟨j, hj, hne⟩
    · rw [e]
      exact ⟨hT, hR, hP.lt hb.lt, hb.own⟩
    · have hc' := h.ok c (mem_of hj)
      have hd : c.g ≠ g := far_of h.far hk hj hne
      exact ⟨hP.other_there hc'.there hd, fun s hs => hP.range (hc'.range s hs) (.inl hd), hP.lt hc'.lt, hc'.own⟩
/-- One cell of a block that reads as one list. -/
theorem Mem.put1 {g N o j off : Nat} {cs : List Value} {v : Value} (h : Mem G w0 w l) (k : Nat) (hk : l[k]? = some ⟨g, N, [(o, cs)]⟩) (hP : Puts g off 1 w W) (hR : W.rangeAt g off [v]) (hT : W.there g 0 N) (hj : off = o + j) : Mem G w0 W (l.set k ⟨g, N, [(o, cs.set j v)]⟩) :=
  h.put k hk hP hT fun s hs => by
    rw [List.mem_singleton.1 hs]
    subst hj
    have hr := (h.ok _ (mem_of hk)).range (o, cs) (List.mem_singleton.2 rfl)
    intro i u hu
    rw [List.getElem?_set] at hu
    split at hu
    · rename_i e
      subst e
      split at hu
      · rw [← Option.some.inj hu]
        exact hR 0 v rfl
      · cases hu
    · rename_i hne
      show W.cell? ⟨g, o + i, none⟩ = some u
      rw [hP.cells (o + i) (by omega)]
      exact hr i u hu
/-- All parts but j stand apart from these cells. -/
def SepS (off n j : Nat) : Nat → List (Nat × List Value) → Prop
  | _, [] => True
  | i, s :: r => (i = j ∨ s.1 + s.2.length ≤ off ∨ off + n ≤ s.1) ∧ SepS off n j (i + 1) r
theorem SepS.at {off n j : Nat} : ∀ {segs : List (Nat × List Value)} {i0 : Nat}, SepS off n j i0 segs → ∀ i s, segs[i]? = some s → i0 + i ≠ j → s.1 + s.2.length ≤ off ∨ off + n ≤ s.1
  | [], _, _, i, s, h, _ => by simp at h
  | t :: r, i0, h, i, s, hs, hne => by
    cases i with
    | zero =>
      have e : t = s := by simpa using hs
      subst e
      rcases h.1 with h1 | h1
      · exact absurd h1 hne
      · exact h1
    | succ i => exact SepS.at h.2 i s (by simpa using hs) (by omega)
/-- A part of a block that is stored whole. -/
theorem Mem.putS {g N off : Nat} {segs : List (Nat × List Value)} {old new : List Value} (h : Mem G w0 w l) (k j : Nat) (hk : l[k]? = some ⟨g, N, segs⟩) (hP : Puts g off new.length w W) (hR : W.rangeAt g off new) (hT : W.there g 0 N)
    (hj : segs[j]? = some (off, old)) (ha : SepS off new.length j 0 segs) : Mem G w0 W (l.set k ⟨g, N, segs.set j (off, new)⟩) :=
  h.put k hk hP hT fun s hs => by
    obtain ⟨i, hi⟩ := List.getElem?_of_mem hs
    rw [List.getElem?_set] at hi
    split at hi
    · split at hi
      · rw [← Option.some.inj hi]; exact hR
      · cases hi
    · rename_i hne
      exact hP.range ((h.ok _ (mem_of hk)).range s (List.mem_of_getElem? hi)) (.inr (ha.at i s hi (by omega)))
/-- A block that reads otherwise, too. -/
theorem Mem.read {g N : Nat} {segs segs' : List (Nat × List Value)} (h : Mem G w0 w l) (k : Nat) (hk : l[k]? = some ⟨g, N, segs⟩) (hR : ∀ s ∈ segs', w.rangeAt g s.1 s.2) : Mem G w0 w (l.set k ⟨g, N, segs'⟩) := by
  have hb := h.ok _ (mem_of hk)
  refine ⟨h.os, h.tape, h.output, h.size, h.old, fun c hc => ?_, far_set h.far hk fun j c hj hne => far_of h.far hk hj hne⟩
  rcases mem_set_cases hc with e | ⟨j, hj, hne⟩
  · rw [e]; exact ⟨hb.there, hR, hb.lt, hb.own⟩
  · exact h.ok c (mem_of hj)
theorem Mem.read1 {g N : Nat} {segs : List (Nat × List Value)} {cs : List Value} {o : Nat} (h : Mem G w0 w l) (k : Nat) (hk : l[k]? = some ⟨g, N, segs⟩) (hR : w.rangeAt g o cs) : Mem G w0 w (l.set k ⟨g, N, [(o, cs)]⟩) :=
  h.read k hk fun s hs => by rw [List.mem_singleton.1 hs]; exact hR
/-- Some of the blocks, in any order. -/
theorem Mem.pick {l' : List Bk} (h : Mem G w0 w l) (ks : List Nat) (hn : ks.Nodup) (hl : ks.map (fun k => l[k]?) = l'.map some) : Mem G w0 w l' := by
  have hlen : ks.length = l'.length := by simpa using congrArg List.length hl
  have hat : ∀ i (hi : i < l'.length), l[ks[i]'(by omega)]? = some l'[i] := fun i hi => by
    have := congrArg (fun q => q[i]?) hl
    simpa [List.getElem?_eq_getElem hi, List.getElem?_eq_getElem (show i < ks.length by omega)] using this
  refine ⟨h.os, h.tape, h.output, h.size, h.old, fun b hb => ?_, ?_⟩
  · obtain ⟨i, hi, rfl⟩ := List.getElem_of_mem hb
    exact h.ok _ (mem_of (hat i hi))
  · rw [List.pairwise_iff_getElem]
    intro i j hi hj hij
    refine far_of h.far (hat j hj) (hat i hi) fun e => ?_
    have := List.pairwise_iff_getElem.1 hn i j (by omega) (by omega) hij
    exact this e
/-- A call that makes new blocks alone. -/
theorem Mem.call {l' : List Bk} (h : Mem G w0 w l) (h' : Mem [] w W l') : Mem G w0 W (l' ++ l) := by
  have hs := h.sees h'.seesAll
  refine ⟨hs.os, hs.tape, hs.output, hs.size, hs.old, fun b hb => ?_, ?_⟩
  · rcases List.mem_append.1 hb with e | e
    · have := h'.ok b e
      refine ⟨this.there, this.range, this.lt, .inl ?_⟩
      rcases this.own with ho | ho
      · exact Nat.le_trans h.size ho
      · cases ho
    · exact hs.ok b e
  · refine List.pairwise_append.2 ⟨h'.far, h.far, fun a ha b hb => ?_⟩
    have h1 := h.ok b hb
    rcases (h'.ok a ha).own with ho | ho
    · have := h1.lt
      omega
    · cases ho
/-- A row that has grown. -/
theorem Mem.grow {g N g' N' : Nat} {segs : List (Nat × List Value)} {cs : List Value} (h : Mem G w0 w l) (k : Nat) (hk : l[k]? = some ⟨g, N, segs⟩) (hS : Grew g w W) (hQ : g' = g ∨ w.heap.size ≤ g') (hR : W.rangeAt g' 0 cs) (hT : W.there g' 0 N') (hL : g' < W.heap.size) : Mem G w0 W (l.set k ⟨g', N', [(0, cs)]⟩) := by
  have hb := h.ok _ (mem_of hk)
  have hne' : ∀ j c, l[j]? = some c → j ≠ k → c.g ≠ g' := fun j c hj hne => by
    rcases hQ with e | e
    · rw [e]; exact far_of h.far hk hj hne
    · have := (h.ok c (mem_of hj)).lt
      omega
  refine ⟨hS.os.trans h.os, hS.tape.trans h.tape, hS.output.trans h.output, Nat.le_trans h.size hS.size, fun j hj hG => ?_, fun c hc => ?_, far_set h.far hk hne'⟩
  · refine (hS.block j (Nat.lt_of_lt_of_le hj h.size) fun e => ?_).trans (h.old j hj hG)
    subst e
    rcases hb.own with ho | ho
    · exact absurd hj (Nat.not_lt.2 ho)
    · exact hG ho
  · rcases mem_set_cases hc with e | ⟨j, hj, hne⟩
    · rw [e]
      refine ⟨hT, fun s hs => by rw [List.mem_singleton.1 hs]; exact hR, hL, ?_⟩
      rcases hQ with e | e
      · rw [e]; exact hb.own
      · exact .inl (Nat.le_trans h.size e)
    · have hc' := h.ok c (mem_of hj)
      have hd : c.g ≠ g := far_of h.far hk hj hne
      exact ⟨hS.there hc'.there hd hc'.lt, fun s hs => hS.range (hc'.range s hs) hd hc'.lt, Nat.lt_of_lt_of_le hc'.lt hS.size, hc'.own⟩
/-- A row of a call's own, that may be written. -/
def MemRow (w : World) (n : Nat) (cs : List Value) (v : Value) (W : World) : Prop := ∃ g cap, v = .slice (some ⟨g, 0, none⟩) n cap ∧ n ≤ cap ∧ Mem [] w W [⟨g, cap, [(0, cs)]⟩]
theorem MemRow.below {n : Nat} {cs : List Value} {v : Value} (h : MemRow w n cs v W) : Below w.heap.size w W := by
  obtain ⟨_, _, _, _, h⟩ := h
  exact h.below
theorem Mem.conv {l' : List Bk} (h : Mem G w0 w l) (e : l = l') : Mem G w0 w l' := e ▸ h
theorem Mem.call1 {b : Bk} (h : Mem G w0 w l) (h' : Mem [] w W [b]) : Mem G w0 W (b :: l) := h.call h'
theorem Mem.one {g N : Nat} {segs : List (Nat × List Value)} (h : Mem G w0 w l) (k : Nat) (hk : l[k]? = some ⟨g, N, segs⟩) : Mem [g] w w [⟨g, N, segs⟩] :=
  Mem.start1 (h.ok _ (mem_of hk)).there (h.ok _ (mem_of hk)).range (h.ok _ (mem_of hk)).lt
theorem SegsOf.at {g : Nat} {cs : List Value} {segs : List (Nat × List Value)} (h : w.rangeAt g 0 cs) (hs : SegsOf cs segs) : ∀ s ∈ segs, w.rangeAt g s.1 s.2 := fun s hm => range_part h (hs.mem s hm)
theorem zadd {g i : Nat} {v : Value} (h : w.cell? ⟨g, 0 + i, none⟩ = some v) : w.cell? ⟨g, i, none⟩ = some v := by rwa [Nat.zero_add] at h
theorem Mem.nil (h : Mem G w0 w l) : Mem G w0 w [] := ⟨h.os, h.tape, h.output, h.size, h.old, fun _ hb => (by cases hb), .nil⟩
section vals
variable {P : Program} {ops : Array Oper} {L : Act → Prop} {o : Oper} {rest : List Oper} {a : Act}
theorem run_eqlN (m n : Nat) (T : TypeId) (k : IntKind) (W : World) : (binOp .eql T (.int k (m : Nat)) (.int k (n : Nat))).run P W = .ok (.bool (decide (m = n))) W := by
  rw [run_eql]
  congr 2
  rw [Bool.eq_iff_iff]
  simp
  omega
end vals
section tails
variable {P : Program} {ops : Array Oper} {Q : Exit → Act → World → Prop} {o : Oper} {rest : List Oper} {a : Act}
theorem wpL_rowN {T e : TypeId} {n : Nat} {parts : Array (Nat × Operand)} {z : Value} {bytes : Nat} {vs : List Value} (hg : o.guard = none) (ho : o.op = .buildSlice T n parts) (hT : P.underlying T = some (.slice e)) (hinfo : (P.info? e).map (fun i => (i.zero, i.size, i.bytes)) = some (some z, 1, bytes)) (hn : 0 < n ∧ n ≤ 16777216)
    (hf : Instr.fill (fun i => some (i * 1, 1)) ((Array.range (n * 1)).map (z.cells[· % z.cells.size]!)) (parts.map fun (i, x) => (i, a.eval x)).toList = some vs.toArray)
    (h : ∀ g W', Sees W W' → W.heap.size ≤ g → Blk W' g e vs.toArray → wpList P ops Q rest (a.put o.dst (.slice (some ⟨g, 0, none⟩) n n)) W') : wpList P ops Q (o :: rest) a W := by
  obtain ⟨i, hi, he⟩ := Option.map_eq_some_iff.1 hinfo
  simp only [Prod.mk.injEq] at he
  obtain ⟨hz, h1, h2⟩ := he
  refine wpL_new (T := T) (e := e) (len := n) (cs := vs) hg ?_ h
  have := run_buildSlice (P := P) W T e n (parts.map fun (i, x) => (i, a.eval x)) vs.toArray i z hT hi hz (by rw [h1]; omega) (by rw [h1]; omega) (by rw [h1]; exact hf)
  simp [execOp, ho, this]
end tails
end Go.Proofs.Num

namespace Go.Proofs.Num
open Go Go.RowKit
variable {P : Program}
theorem toNat_of {n a : Nat} (h : a < 2 ^ n) : (BitVec.ofInt n (a : Int)).toNat = a := by
  rw [BitVec.ofInt_natCast, BitVec.toNat_ofNat]
  exact Nat.mod_eq_of_lt h
section
variable {T : TypeId} {x y : Nat} (hx : x < 4294967296) (hy : y < 4294967296)
include hx hy
end
section
variable {T : TypeId} {x y : Nat} (hx : x < 18446744073709551616) (hy : y < 18446744073709551616)
include hx hy
end
theorem nr_rem64 {T : TypeId} {x y : Nat} (h : y ≠ 0) (W : World) : (binOp .rem T (.int .u64 (x : Int)) (.int .u64 (y : Int))).run P W = .ok (.int .u64 ((x % y : Nat) : Int)) W :=
  run_rem (by omega) (tmod_nat x y) W
end Go.Proofs.Num

namespace Go.Proofs.Num
open Go
def rotr (x n : Nat) : Nat := x / 2 ^ n + x % 2 ^ n * 2 ^ (32 - n)
def bg1 (a : Nat) : Nat := (rotr a 6 ^^^ rotr a 11) ^^^ rotr a 25
def bg0 (a : Nat) : Nat := (rotr a 2 ^^^ rotr a 13) ^^^ rotr a 22
def chs (e f g : Nat) : Nat := (e &&& f) ^^^ ((4294967295 ^^^ e) &&& g)
def maj (a b c : Nat) : Nat := ((a &&& b) ^^^ (a &&& c)) ^^^ (b &&& c)
section
variable {a b c : Nat} (ha : a < 4294967296)
include ha
end
structure S8 where
  a : Nat
  b : Nat
  c : Nat
  d : Nat
  e : Nat
  f : Nat
  g : Nat
  h : Nat
structure S8.Ok (v : S8) : Prop where
  a : v.a < 4294967296
  b : v.b < 4294967296
  c : v.c < 4294967296
  d : v.d < 4294967296
  e : v.e < 4294967296
  f : v.f < 4294967296
  g : v.g < 4294967296
  h : v.h < 4294967296
def one (k w : Nat) (v : S8) : Nat := ((((v.h + bg1 v.e) % 4294967296 + chs v.e v.f v.g) % 4294967296 + k) % 4294967296 + w) % 4294967296
def two (v : S8) : Nat := (bg0 v.a + maj v.a v.b v.c) % 4294967296
def S8.get (v : S8) (i : Nat) : Nat := [v.a, v.b, v.c, v.d, v.e, v.f, v.g, v.h].getD i 0
/-- Cells of texts. -/
def scells (ps : List (List UInt8)) : List Value := ps.map fun s => .string (bs s)
theorem scells_len (ps : List (List UInt8)) : (scells ps).length = ps.length := by simp [scells]
end Go.Proofs.Num

namespace Go.Proofs.Num
open Go Go.RowKit
section
variable {P : Program} {Q : Exit → Act → World → Prop}
theorem wp_region_treeN {id : Nat} {a : Act} {w : World} {l : List Oper} (hm : P.follows .mixedOrders = true) (h : ∀ W, Sees w W → wpAny P .any l.toArray (NoPanic Q) l.length (Array.replicate l.length false) a W) : (Code.region id l.toArray true).wp P Q a w :=
  Code.wp_mono NoPanic.imp (wp_region_tree hm h)
variable {o : Oper} {a : Act} {v : Value}
end
section tails
variable {P : Program} {ops : Array Oper} {Q : Exit → Act → World → Prop} {o : Oper} {rest : List Oper} {a : Act} {W : World}
end tails
end Go.Proofs.Num

namespace Go.Proofs.Num
open Go Go.RowKit
/-- A row of texts, or none. -/
def RowS (w : World) (v : Value) (ps : List (List UInt8)) : Prop := (v = .slice none 0 0 ∧ ps = []) ∨ (∃ a, v = .slice (some a) 0 0 ∧ ps = []) ∨ ∃ g o n c, v = .slice (some ⟨g, o, none⟩) n c ∧ n = ps.length ∧ n ≤ c ∧ g < w.heap.size ∧ w.rangeAt g o (scells ps)
theorem RowS.sees {w W : World} {v : Value} {ps : List (List UInt8)} (h : RowS w v ps) (hS : Sees w W) : RowS W v ps := by
  rcases h with h | h | ⟨g, o, n, c, h1, h2, h3, h4, h5⟩
  · exact .inl h
  · exact .inr (.inl h)
  · exact .inr <| .inr ⟨g, o, n, c, h1, h2, h3, Nat.lt_of_lt_of_le h4 hS.2.2.size, range_sees h5 h4 hS⟩
theorem RowS.mem {w W : World} {l : List Bk} {v : Value} {ps : List (List UInt8)} (h : RowS w v ps) (M : Mem [] w W l) : RowS W v ps := h.sees M.seesAll
end Go.Proofs.Num

namespace Go.Proofs.Num
open Go Go.RowKit
section vals
variable {P : Program} {ops : Array Oper} {w0 : World} {L : Act → Prop} {o : Oper} {rest : List Oper} {a : Act}
end vals
section tails
variable {P : Program} {ops : Array Oper} {Q : Exit → Act → World → Prop} {o : Oper} {rest : List Oper} {a : Act} {W : World}
end tails
theorem Mem.addR {G : List Nat} {w0 w : World} {l : List Bk} {g N : Nat} {cs : List Value} (h : Mem G w0 w l) (hg : w0.heap.size ≤ g) (hf : ∀ b ∈ l, b.g ≠ g) (ht : w.there g 0 N) (hr : w.rangeAt g 0 cs) (hl : g < w.heap.size) : Mem G w0 w (⟨g, N, [(0, cs)]⟩ :: l) :=
  ⟨h.os, h.tape, h.output, h.size, h.old, fun b hb => by
    rcases List.mem_cons.1 hb with e | e
    · rw [e]
      exact ⟨ht, fun s hs' => by rw [List.mem_singleton.1 hs']; exact hr, hl, .inl hg⟩
    · exact h.ok b e, List.pairwise_cons.2 ⟨fun b hb => Ne.symm (hf b hb), h.far⟩⟩
end Go.Proofs.Num

namespace Go.Proofs.Num
open Go Go.RowKit
/-- A slice that reads as these cells. -/
structure RowA (w : World) (a : Option Addr) (n c : Nat) (cs : List Value) : Prop where
  len : n = cs.length
  cap : n ≤ c
  no : a = none → c = 0
  mem : cs = [] ∨ ∃ g o, a = some ⟨g, o, none⟩ ∧ g < w.heap.size ∧ w.rangeAt g o cs
def slA (a : Option Addr) (l m : Nat) : Option Addr := if m = l then a else a.map (·.add l)
theorem add_at (g o j : Nat) : (⟨g, o, none⟩ : Addr).add j = ⟨g, o + j, none⟩ := by cases j <;> simp [Addr.add]
theorem map_add0 (a : Option Addr) : a.map (·.add 0) = a := by cases a <;> simp [Addr.add]
theorem slA_zero (a : Option Addr) (m : Nat) : slA a 0 m = a := by
  unfold slA
  split
  · rfl
  · exact map_add0 a
section
variable {w W : World} {a : Option Addr} {n c : Nat} {cs : List Value}
theorem RowA.nil : RowA w none 0 0 [] := ⟨rfl, Nat.le_refl _, fun _ => rfl, .inl rfl⟩
theorem RowA.of {g o : Nat} (hr : w.rangeAt g o cs) (hl : g < w.heap.size) (hn : n = cs.length) (hc : n ≤ c) : RowA w (some ⟨g, o, none⟩) n c cs := ⟨hn, hc, fun h => (by cases h), .inr ⟨g, o, rfl, hl, hr⟩⟩
theorem RowA.sees (h : RowA w a n c cs) (hS : Sees w W) : RowA W a n c cs :=
  ⟨h.len, h.cap, h.no, h.mem.imp id fun ⟨g, o, h1, h2, h3⟩ => ⟨g, o, h1, Nat.lt_of_lt_of_le h2 hS.2.2.size, range_sees h3 h2 hS⟩⟩
theorem RowA.below (h : RowA w a n c cs) (hb : Below w.heap.size w W) : RowA W a n c cs := h.sees (sees_of hb)
theorem RowA.part (h : RowA w a n c cs) {lo hi m : Nat} (h1 : lo ≤ hi) (h2 : hi ≤ n) (h3 : hi ≤ m) (h4 : m ≤ c) : RowA w (slA a lo m) (hi - lo) (m - lo) ((cs.take hi).drop lo) := by
  have hl := h.len
  have hlen : ((cs.take hi).drop lo).length = hi - lo := by rw [List.length_drop, List.length_take]; omega
  refine ⟨hlen.symm, by omega, fun e => ?_, ?_⟩
  · have hn : a = none := by
      unfold slA at e
      split at e
      · exact e
      · simpa using e
    have := h.no hn
    omega
  · by_cases he : lo = hi
    · refine .inl ?_
      exact List.length_eq_zero_iff.1 (by rw [hlen]; omega)
    · rcases h.mem with e | ⟨g, o, e1, e2, e3⟩
      · subst e
        exact absurd hl (by simp; omega)
      · refine .inr ⟨g, o + lo, ?_, e2, ?_⟩
        · subst e1
          unfold slA
          rw [if_neg (by omega)]
          simp only [Option.map_some, add_at]
        · intro j v hv
          have hj := (List.getElem?_eq_some_iff.1 hv).1
          rw [hlen] at hj
          rw [List.getElem?_drop, List.getElem?_take_of_lt (by omega)] at hv
          have := e3 (lo + j) v hv
          rwa [← Nat.add_assoc] at this
theorem RowA.take (h : RowA w a n c cs) {hi : Nat} (h2 : hi ≤ n) : RowA w a hi c (cs.take hi) := by
  have := h.part (lo := 0) (Nat.zero_le hi) h2 (Nat.le_trans h2 h.cap) (Nat.le_refl c)
  simpa [slA_zero] using this
theorem RowA.drop (h : RowA w a n c cs) {lo : Nat} (h1 : lo ≤ n) : RowA w (slA a lo c) (n - lo) (c - lo) (cs.drop lo) := by
  have := h.part h1 (Nat.le_refl n) h.cap (Nat.le_refl c)
  rwa [List.take_of_length_le (Nat.le_of_eq h.len.symm)] at this
theorem RowA.real (h : RowA w a n c cs) {i : Nat} (hi : i < n) : ∃ g o, a = some ⟨g, o, none⟩ ∧ g < w.heap.size ∧ w.rangeAt g o cs := by
  rcases h.mem with e | e
  · subst e
    exact absurd h.len (by simp; omega)
  · exact e
theorem Mem.oldA {w0 : World} {l : List Bk} (M : Mem [] w0 w l) (h : RowA w0 a n c cs) : RowA w a n c cs := h.sees M.seesAll
/-- A row of texts that came in. -/
theorem RowS.open {v : Value} {ps : List (List UInt8)} (h : RowS w v ps) : ∃ a c, v = .slice a ps.length c ∧ RowA w a ps.length c (scells ps) := by
  rcases h with ⟨rfl, rfl⟩ | ⟨b, rfl, rfl⟩ | ⟨g, o, n, c, rfl, rfl, h3, h4, h5⟩
  · exact ⟨none, 0, rfl, RowA.nil⟩
  · exact ⟨some b, 0, rfl, ⟨rfl, Nat.le_refl _, fun h => (by cases h), .inl rfl⟩⟩
  · exact ⟨_, c, rfl, RowA.of h5 h4 (scells_len _).symm h3⟩
end
section vals
variable {P : Program} {ops : Array Oper} {w0 : World} {L : Act → Prop} {o : Oper} {rest : List Oper} {a : Act} {W : World} {p : Option Addr} {n c : Nat} {cs : List Value}
theorem wpV_idxA {T e : TypeId} {x y : Operand} {i : Nat} {k : IntKind} (hw : Region.wanted o (yielded ops a.tmps) = true) (ho : o.op = .indexAddr T x y) (hx : a.eval x = .slice p n c) (hy : a.eval y = .int k (i : Nat))
    (hu : P.underlying T = some (.slice e)) (hs : (P.info? e).map (·.size) = some 1) (hR : RowA W p n c cs) (hn : i < n) (h : wpV P ops w0 L rest (a.put o.dst (.pointer (p.map (·.add i))))) : wpV P ops w0 L (o :: rest) a := by
  obtain ⟨g, q, rfl, _, _⟩ := hR.real hn
  refine wpV_idxs hw ho hx hy hu hs hn ?_
  simpa [add_at] using h
theorem wpV_loadA {ty : TypeId} {x : Operand} {i : Nat} {d : TypeDesc} {v : Value} (hw : Region.wanted o (yielded ops a.tmps) = true) (ho : o.op = .load ty x) (hx : a.eval x = .pointer (p.map (·.add i))) (hR : RowA w0 p n c cs) (hv : cs[i]? = some v)
    (hu : P.underlying ty = some d) (hd : d.isRow = false) (h : wpV P ops w0 L rest (a.put o.dst v)) : wpV P ops w0 L (o :: rest) a := by
  have hi := (List.getElem?_eq_some_iff.1 hv).1
  have hl := hR.len
  obtain ⟨g, q, rfl, h1, h2⟩ := hR.real (i := i) (by omega)
  refine wpV_load1 hw ho (b := g) (off := q + i) ?_ (h2 i v hv) h1 hu hd h
  rw [hx]
  simp [add_at]
variable {T e : TypeId} {x y z : Operand} {lo hi m : Nat} {k k2 : IntKind}
end vals
end Go.Proofs.Num

namespace Go.Proofs.Num
open Go Go.RowKit
variable {P : Program}
def EqD (P : Program) (k : Nat) (T : TypeId) (u v : Value) (b : Bool) : Prop := ∀ (d : Nat) (W : World), (Op.equalIn (d + k) T u v).run P W = .ok b W
theorem EqD.up {k m : Nat} {T : TypeId} {u v : Value} {b : Bool} (h : EqD P k T u v b) (hm : k ≤ m) : EqD P m T u v b := fun d W => by
  have := h (d + (m - k)) W
  rwa [show d + (m - k) + k = d + m by omega] at this
theorem EqD.bool {k : Nat} {T : TypeId} {u v : Value} {b c : Bool} (h : EqD P k T u v b) (e : b = c) : EqD P k T u v c := e ▸ h
theorem eq_arr {T e : TypeId} {k : IntKind} {n : Nat} (hT : P.underlying T = some (.array n e)) (he : P.underlying e = some (.int k)) (hs : (P.info? e).map (·.size) = some 1) (xs ys : List Int) (hx : xs.length = n) (hy : ys.length = n) :
    EqD P 2 T (.agg (xs.map (Value.int k)).toArray) (.agg (ys.map (Value.int k)).toArray) (decide (xs = ys)) := fun d W => by
  have q : ∀ (zs : List Int) (j : Nat) (h : j < zs.length) (W : World), (part e (zs.map (Value.int k)).toArray j).run P W = .ok (.int k (zs[j]?.getD 0)) W := fun zs j h W => run_part_int he (by simp [h]) W
  have q2 : ∀ (a b : Int) (W : World), (Op.equalIn (d + 1) e (.int k a) (.int k b)).run P W = .ok (a == b) W := fun a b W => run_equalIn_int W d e k k a b he
  have hb : sameTo xs ys 0 n = decide (xs = ys) := by
    rw [Bool.eq_iff_iff, sameTo_spec, decide_eq_true_eq]
    constructor
    · intro h
      refine List.ext_getElem (hx.trans hy.symm) fun i h1 h2 => ?_
      have := h i (Nat.zero_le _) (by omega)
      simpa [h1, h2] using this
    · rintro rfl _ _ _; rfl
  unfold Op.equalIn
  simp only [Sem.run_bind, run_underlying hT, Result.andThen_ok, run_sizeOf hs, Std.Legacy.Range.forIn_eq_forIn_range', Std.Legacy.Range.size, Nat.mul_one, Nat.sub_zero, Nat.add_sub_cancel, Nat.div_one]
  have key : ∀ (m i : Nat), i + m = n → (forIn (List.range' i m) ((none, ()) : Option Bool × Unit) (fun j _ => do
      let a ← part e (xs.map (Value.int k)).toArray j
      let b ← part e (ys.map (Value.int k)).toArray j
      let c ← Op.equalIn (d + 1) e a b
      if (!c) = true then pure (ForInStep.done (some false, ())) else pure (ForInStep.yield (none, ()))) : Sem (Option Bool × Unit)).run P W = .ok (if sameTo xs ys i m then none else some false, ()) W := by
    intro m
    induction m with
    | zero => intro i _; simp [sameTo]
    | succ m ih =>
      intro i hi
      rw [List.range'_succ, List.forIn_cons]
      simp only [Sem.run_bind, q xs i (by omega), q ys i (by omega), q2, Result.andThen_ok, sameTo]
      by_cases h : (xs[i]?.getD 0 == ys[i]?.getD 0) = true
      · simp only [h, Bool.not_true, Bool.false_eq_true, if_false, Sem.run_pure, Result.andThen_ok, Bool.true_and]
        exact ih (i + 1) (by omega)
      · simp only [Bool.not_eq_true] at h
        simp only [h, Bool.not_false, if_true, Sem.run_pure, Result.andThen_ok, Bool.false_and, Bool.false_eq_true, if_false]
  rw [key n 0 (by omega), ← hb]
  simp only [Result.andThen_ok]
  cases sameTo xs ys 0 n <;> simp
theorem run_part_row {e : TypeId} {d : TypeDesc} {cs xs : List Value} {j n : Nat} (he : P.underlying e = some d) (hd : d.isRow = true) (hs : (P.info? e).map (·.size) = some n) (hx : (cs.drop j).take n = xs) (W : World) : (part e cs.toArray j).run P W = .ok (.agg xs.toArray) W := by
  have hagg : (isAgg e).run P W = .ok true W := by
    unfold isAgg
    rw [Sem.run_bind, run_underlying he W]
    cases d <;> simp_all [TypeDesc.isRow]
  simp only [part, Sem.run_bind, hagg, Result.andThen_ok, if_true, run_sizeOf hs, Sem.run_pure]
  congr 2
  subst hx
  apply Array.ext'
  simp [List.take_drop]
/-- The fields, one by one: name looks, type, place; each is compared. -/
def FieldsEq (P : Program) (k : Nat) (xs ys : Array Value) : List (Bool × TypeId × Nat) → List Bool → Prop
  | [], [] => True
  | (l, t, o) :: fs, b :: bs => l = false ∧ (∃ u v, (∀ W, (part t xs o).run P W = .ok u W) ∧ (∀ W, (part t ys o).run P W = .ok v W) ∧ EqD P k t u v b) ∧ FieldsEq P k xs ys fs bs
  | _, _ => False
theorem run_eqFields {k d : Nat} {xs ys : Array Value} (hk : ∀ t u v b, EqD P k t u v b → ∀ W, (Op.equalIn d t u v).run P W = .ok b W) : ∀ (fs : List Field) (bs : List Bool), FieldsEq P k xs ys (fs.map fun f => (f.name == "_", f.type, f.offset)) bs → ∀ W, (Op.eqFields d xs ys fs).run P W = .ok (bs.all id) W
  | [], [], _, W => by simp [Op.eqFields]
  | [], _ :: _, h, _ => h.elim
  | _ :: _, [], h, _ => h.elim
  | f :: fs, b :: bs, h, W => by
    obtain ⟨hn, ⟨u, v, h1, h2, h3⟩, h4⟩ := h
    have hne : f.name ≠ "_" := by simpa using hn
    unfold Op.eqFields
    rw [if_pos hne]
    simp only [Sem.run_bind, h1 W, h2 W, hk _ _ _ _ h3 W, Result.andThen_ok]
    cases b
    · simp
    · simp only [Bool.not_true, Bool.false_eq_true, if_false, List.all_cons, id, Bool.true_and]
      exact run_eqFields hk fs bs h4 W
theorem eq_struct {T : TypeId} {k : Nat} {xs ys : List Value} {fa : Array Field} {fs : List (Bool × TypeId × Nat)} {bs : List Bool} (hT : P.underlying T = some (.struct fa)) (hp : P.stoodInHeld T = false) (hf : (fa.toList.map fun f => (f.name == "_", f.type, f.offset)) = fs) (h : FieldsEq P k xs.toArray ys.toArray fs bs) :
    EqD P (k + 1) T (.agg xs.toArray) (.agg ys.toArray) (bs.all id) := fun d W => by
  have e : P.fieldsOf T = fa := by
    unfold Program.fieldsOf
    rw [hT]
  rw [show d + (k + 1) = (d + k) + 1 from rfl, run_equalIn_struct W (d + k) T xs.toArray ys.toArray (by rw [e]; exact hT) hp]
  subst hf
  rw [e]
  exact run_eqFields (fun t u v b hb W => hb d W) _ _ h W
section
variable {ops : Array Oper} {w0 : World} {L : Act → Prop} {o : Oper} {rest : List Oper} {a : Act} {x y : Operand} {T T' : TypeId} {k : Nat} {u v : List Value} {b : Bool}
theorem run_guardT (hg : P.eqGuardType P.depth T = false) (op : BinOp) (x y : Operand) (u v : Array Value) (W : World) : (eqGuard op T x y (.agg u) (.agg v)).run P W = .ok () W := by
  unfold eqGuard
  cases op <;> simp [hg]
theorem wpV_eqlT (hw : Region.wanted o (yielded ops a.tmps) = true) (ho : o.op = .binOp .eql T x y T') (hx : a.eval x = .agg u.toArray) (hy : a.eval y = .agg v.toArray) (hg : P.eqGuardType P.depth T = false) (he : EqD P k T (.agg u.toArray) (.agg v.toArray) b) (hk : k ≤ 10000)
    (h : wpV P ops w0 L rest (a.put o.dst (.bool b))) : wpV P ops w0 L (o :: rest) a :=
  wpV_val (by simp [isAlloc, ho]) hw (fun W _ => by
    unfold RunsVal
    have h2 : (Op.equal T (.agg u.toArray) (.agg v.toArray)).run P W = .ok b W := by
      have := he (10000 - k) W
      rwa [show 10000 - k + k = 10000 by omega] at this
    have h3 : (binOp .eql T (.agg u.toArray) (.agg v.toArray)).run P W = .ok (.bool b) W := by
      simp only [binOp, Sem.run_bind, h2, Result.andThen_ok, Sem.run_pure]
    simp only [execOp, ho, hx, hy, Sem.run_bind, run_guardT hg, Result.andThen_ok, h3, Sem.run_pure]) h
theorem wpV_neqT (hw : Region.wanted o (yielded ops a.tmps) = true) (ho : o.op = .binOp .neq T x y T') (hx : a.eval x = .agg u.toArray) (hy : a.eval y = .agg v.toArray) (hg : P.eqGuardType P.depth T = false) (he : EqD P k T (.agg u.toArray) (.agg v.toArray) b) (hk : k ≤ 10000)
    (h : wpV P ops w0 L rest (a.put o.dst (.bool !b))) : wpV P ops w0 L (o :: rest) a :=
  wpV_val (by simp [isAlloc, ho]) hw (fun W _ => by
    unfold RunsVal
    have h2 : (Op.equal T (.agg u.toArray) (.agg v.toArray)).run P W = .ok b W := by
      have := he (10000 - k) W
      rwa [show 10000 - k + k = 10000 by omega] at this
    have h3 : (binOp .neq T (.agg u.toArray) (.agg v.toArray)).run P W = .ok (.bool !b) W := by
      simp only [binOp, Sem.run_bind, h2, Result.andThen_ok, Sem.run_pure]
    simp only [execOp, ho, hx, hy, Sem.run_bind, run_guardT hg, Result.andThen_ok, h3, Sem.run_pure]) h
end
end Go.Proofs.Num

