/- The memory that a walk knows, in one fact: blocks with what stands in them; all else is as it was. -/
import Derived.Test.YticcchgckljlnaaDoorTr
import Derived.Orders
import Derived.ProofKit
import Derived.LaidMore
import Derived.OpenShut
import Derived.SliceStrings
import Derived.Carry
import Derived.ChangeSame
import Derived.JoinedOf
import Derived.JoinedAt
import Derived.WideShapes
import Derived.Stop.Joined
set_option linter.unusedSimpArgs false
set_option linter.unusedVariables false
namespace Go.Proofs.Num
open Go Go.RowKit
structure Bk where
  g : Nat
  N : Nat
  segs : List (Nat × List Value)
structure Bk.Ok (G : List Nat) (w0 w : World) (b : Bk) : Prop where
  there : w.there b.g 0 b.N
  range : ∀ s ∈ b.segs, w.rangeAt b.g s.1 s.2
  lt : b.g < w.heap.size
  own : w0.heap.size ≤ b.g ∨ b.g ∈ G
structure Mem (G : List Nat) (w0 w : World) (l : List Bk) : Prop where
  os : w.os = w0.os
  tape : w.tape = w0.tape
  output : w.output = w0.output
  size : w0.heap.size ≤ w.heap.size
  old : ∀ k, k < w0.heap.size → k ∉ G → w.heap[k]? = w0.heap[k]?
  ok : ∀ b ∈ l, b.Ok G w0 w
  far : l.Pairwise (fun a b => a.g ≠ b.g)
variable {G : List Nat} {w0 w W : World} {l : List Bk}
theorem Mem.start (w : World) : Mem [] w w [] := ⟨rfl, rfl, rfl, Nat.le_refl _, fun _ _ _ => rfl, fun _ h => (by cases h), .nil⟩
theorem Mem.start1 {w : World} {g N : Nat} {segs : List (Nat × List Value)} (ht : w.there g 0 N) (hr : ∀ s ∈ segs, w.rangeAt g s.1 s.2) (hl : g < w.heap.size) : Mem [g] w w [⟨g, N, segs⟩] :=
  ⟨rfl, rfl, rfl, Nat.le_refl _, fun _ _ _ => rfl, fun b h => by rw [List.mem_singleton.1 h]; exact ⟨ht, hr, hl, .inr (List.mem_singleton.2 rfl)⟩, by simp⟩
theorem Mem.below (h : Mem [] w0 w l) : Below w0.heap.size w0 w := ⟨h.os, h.tape, h.output, h.size, fun k hk => h.old k hk (by simp)⟩
theorem Mem.seesAll (h : Mem [] w0 w l) : Sees w0 w := sees_of h.below
theorem Mem.sees (h : Mem G w0 w l) (hS : Sees w W) : Mem G w0 W l :=
  ⟨hS.2.2.os.trans h.os, hS.2.2.tape.trans h.tape, hS.2.2.output.trans h.output, Nat.le_trans h.size hS.2.2.size, fun k hk hG => (hS.2.2.block k (Nat.lt_of_lt_of_le hk h.size)).trans (h.old k hk hG),
   fun b hb => ⟨there_sees (h.ok b hb).there (h.ok b hb).lt hS, fun s hs => range_sees ((h.ok b hb).range s hs) (h.ok b hb).lt hS, Nat.lt_of_lt_of_le (h.ok b hb).lt hS.2.2.size, (h.ok b hb).own⟩, h.far⟩
theorem Mem.fresh {g : Nat} (h : Mem G w0 w l) (hg : w.heap.size ≤ g) : ∀ b ∈ l, b.g ≠ g := fun b hb => Nat.ne_of_lt (Nat.lt_of_lt_of_le (h.ok b hb).lt hg)
theorem Mem.ge {g : Nat} (h : Mem G w0 w l) (hg : w.heap.size ≤ g) : w0.heap.size ≤ g := Nat.le_trans h.size hg
/-- Parts of a list of cells. -/
def SegsOf (cs : List Value) : List (Nat × List Value) → Prop
  | [] => True
  | s :: r => (cs.drop s.1).take s.2.length = s.2 ∧ SegsOf cs r
theorem SegsOf.mem {cs : List Value} : ∀ {segs : List (Nat × List Value)}, SegsOf cs segs → ∀ s ∈ segs, (cs.drop s.1).take s.2.length = s.2
  | [], _, _, h => by cases h
  | t :: r, h, s, hs => by
    rcases List.mem_cons.1 hs with e | e
    · subst e; exact h.1
    · exact SegsOf.mem h.2 s e
theorem range_part {g : Nat} {cs : List Value} {s : Nat × List Value} (h : w.rangeAt g 0 cs) (hs : (cs.drop s.1).take s.2.length = s.2) : w.rangeAt g s.1 s.2 := fun j v hv => by
  have hv2 : ((cs.drop s.1).take s.2.length)[j]? = some v := by rw [hs]; exact hv
  have hj := (List.getElem?_eq_some_iff.1 hv).1
  rw [List.getElem?_take_of_lt hj, List.getElem?_drop] at hv2
  have := h (s.1 + j) v hv2
  rwa [Nat.zero_add] at this
theorem Mem.addS {g N : Nat} {t : TypeId} {cs : List Value} {segs : List (Nat × List Value)} (h : Mem G w0 w l) (hg : w0.heap.size ≤ g) (hf : ∀ b ∈ l, b.g ≠ g) (hB : Blk w g t cs.toArray) (hN : N = cs.length) (hs : SegsOf cs segs) : Mem G w0 w (⟨g, N, segs⟩ :: l) :=
  ⟨h.os, h.tape, h.output, h.size, h.old, fun b hb => by
    rcases List.mem_cons.1 hb with e | e
    · rw [e]
      exact ⟨blk_there hB (by simpa using hN), fun s hs' => range_part (blk_range hB rfl) (hs.mem s hs'), hB.lt, .inl hg⟩
    · exact h.ok b e, List.pairwise_cons.2 ⟨fun b hb => Ne.symm (hf b hb), h.far⟩⟩
theorem Mem.add {g N : Nat} {t : TypeId} {cs : List Value} (h : Mem G w0 w l) (hg : w0.heap.size ≤ g) (hf : ∀ b ∈ l, b.g ≠ g) (hB : Blk w g t cs.toArray) (hN : N = cs.length) : Mem G w0 w (⟨g, N, [(0, cs)]⟩ :: l) :=
  h.addS hg hf hB hN ⟨by simp, trivial⟩
theorem mem_of {k : Nat} {b : Bk} (hk : l[k]? = some b) : b ∈ l := List.mem_of_getElem? hk
theorem Mem.r {b : Bk} {s : Nat × List Value} (h : Mem G w0 w l) (k j : Nat) (hk : l[k]? = some b) (hj : b.segs[j]? = some s) : w.rangeAt b.g s.1 s.2 := (h.ok b (mem_of hk)).range s (List.mem_of_getElem? hj)
theorem Mem.lt {b : Bk} (h : Mem G w0 w l) (k : Nat) (hk : l[k]? = some b) : b.g < w.heap.size := (h.ok b (mem_of hk)).lt
theorem Mem.t {b : Bk} (h : Mem G w0 w l) (k : Nat) (hk : l[k]? = some b) : w.there b.g 0 b.N := (h.ok b (mem_of hk)).there
theorem Mem.oldR {g o : Nat} {cs : List Value} (h : Mem [] w0 w l) (hr : w0.rangeAt g o cs) (hl : g < w0.heap.size) : w.rangeAt g o cs := range_sees hr hl h.seesAll
theorem Mem.oldL {g : Nat} (h : Mem G w0 w l) (hl : g < w0.heap.size) : g < w.heap.size := Nat.lt_of_lt_of_le hl h.size
theorem Mem.oldG {g o : Nat} {cs : List Value} (h : Mem G w0 w l) (hr : w0.rangeAt g o cs) (hl : g < w0.heap.size) (hG : g ∉ G) : w.rangeAt g o cs := fun j v hv => by
  rw [World.cell?_of_block (w := w0) (h.old g hl hG)]
  exact hr j v hv
theorem far_of {k : Nat} {b : Bk} (hf : l.Pairwise (fun a b => a.g ≠ b.g)) (hk : l[k]? = some b) {j : Nat} {c : Bk} (hj : l[j]? = some c) (hne : j ≠ k) : c.g ≠ b.g := by
  obtain ⟨hkl, rfl⟩ := List.getElem?_eq_some_iff.1 hk
  obtain ⟨hjl, rfl⟩ := List.getElem?_eq_some_iff.1 hj
  rw [List.pairwise_iff_getElem] at hf
  rcases Nat.lt_or_gt_of_ne hne with h | h
  · exact hf j k hjl hkl h
  · exact Ne.symm (hf k j hkl hjl h)
theorem far_set {k : Nat} {b b' : Bk} (hf : l.Pairwise (fun a b => a.g ≠ b.g)) (hk : l[k]? = some b) (hne : ∀ j c, l[j]? = some c → j ≠ k → c.g ≠ b'.g) : (l.set k b').Pairwise (fun a b => a.g ≠ b.g) := by
  have hkl := (List.getElem?_eq_some_iff.1 hk).1
  rw [List.pairwise_iff_getElem] at hf ⊢
  intro i j hi hj hij
  have hi' : i < l.length := by simpa using hi
  have hj' : j < l.length := by simpa using hj
  simp only [List.getElem_set]
  split
  · split
    · omega
    · exact Ne.symm (hne j _ (List.getElem?_eq_getElem hj') (by omega))
  · split
    · exact hne i _ (List.getElem?_eq_getElem hi') (by omega)
    · exact hf i j hi' hj' hij
theorem mem_set_cases {k : Nat} {b c : Bk} (hc : c ∈ l.set k b) : c = b ∨ ∃ j, l[j]? = some c ∧ j ≠ k := by
  obtain ⟨j, hj⟩ := List.getElem?_of_mem hc
  rw [List.getElem?_set] at hj
  split at hj
  · split at hj
    · exact .inl (Option.some.inj hj).symm
    · cases hj
  · exact .inr ⟨j, hj, by omega⟩
theorem Mem.put {g N off n : Nat} {segs segs' : List (Nat × List Value)} (h : Mem G w0 w l) (k : Nat) (hk : l[k]? = some ⟨g, N, segs⟩) (hP : Puts g off n w W) (hT : W.there g 0 N) (hR : ∀ s ∈ segs', W.rangeAt g s.1 s.2) : Mem G w0 W (l.set k ⟨g, N, segs'⟩) := by
  have hb := h.ok _ (mem_of hk)
  refine ⟨hP.os.trans h.os, hP.tape.trans h.tape, hP.output.trans h.output, by rw [hP.size]; exact h.size, fun j hj hG => ?_, fun c hc => ?_, far_set h.far hk fun j c hj hne => far_of h.far hk hj hne⟩
  · refine (hP.other j fun e => ?_).trans (h.old j hj hG)
    subst e
    rcases hb.own with ho | ho
    · exact absurd hj (Nat.not_lt.2 ho)
    · exact hG ho
  · rcases mem_set_cases hc with e | ⟨j, hj, hne⟩
    · rw [e]
      exact ⟨hT, hR, hP.lt hb.lt, hb.own⟩
    · have hc' := h.ok c (mem_of hj)
      have hd : c.g ≠ g := far_of h.far hk hj hne
      exact ⟨hP.other_there hc'.there hd, fun s hs => hP.range (hc'.range s hs) (.inl hd), hP.lt hc'.lt, hc'.own⟩
/-- One cell of a block that reads as one list. -/
theorem Mem.put1 {g N o j off : Nat} {cs : List Value} {v : Value} (h : Mem G w0 w l) (k : Nat) (hk : l[k]? = some ⟨g, N, [(o, cs)]⟩) (hP : Puts g off 1 w W) (hR : W.rangeAt g off [v]) (hT : W.there g 0 N) (hj : off = o + j) : Mem G w0 W (l.set k ⟨g, N, [(o, cs.set j v)]⟩) :=
  h.put k hk hP hT fun s hs => by
    rw [List.mem_singleton.1 hs]
    subst hj
    have hr := (h.ok _ (mem_of hk)).range (o, cs) (List.mem_singleton.2 rfl)
    intro i u hu
    rw [List.getElem?_set] at hu
    split at hu
    · rename_i e
      subst e
      split at hu
      · rw [← Option.some.inj hu]
        exact hR 0 v rfl
      · cases hu
    · rename_i hne
      show W.cell? ⟨g, o + i, none⟩ = some u
      rw [hP.cells (o + i) (by omega)]
      exact hr i u hu
/-- All parts but j stand apart from these cells. -/
def SepS (off n j : Nat) : Nat → List (Nat × List Value) → Prop
  | _, [] => True
  | i, s :: r => (i = j ∨ s.1 + s.2.length ≤ off ∨ off + n ≤ s.1) ∧ SepS off n j (i + 1) r
theorem SepS.at {off n j : Nat} : ∀ {segs : List (Nat × List Value)} {i0 : Nat}, SepS off n j i0 segs → ∀ i s, segs[i]? = some s → i0 + i ≠ j → s.1 + s.2.length ≤ off ∨ off + n ≤ s.1
  | [], _, _, i, s, h, _ => by simp at h
  | t :: r, i0, h, i, s, hs, hne => by
    cases i with
    | zero =>
      have e : t = s := by simpa using hs
      subst e
      rcases h.1 with h1 | h1
      · exact absurd h1 hne
      · exact h1
    | succ i => exact SepS.at h.2 i s (by simpa using hs) (by omega)
/-- A part of a block that is stored whole. -/
theorem Mem.putS {g N off : Nat} {segs : List (Nat × List Value)} {old new : List Value} (h : Mem G w0 w l) (k j : Nat) (hk : l[k]? = some ⟨g, N, segs⟩) (hP : Puts g off new.length w W) (hR : W.rangeAt g off new) (hT : W.there g 0 N)
    (hj : segs[j]? = some (off, old)) (ha : SepS off new.length j 0 segs) : Mem G w0 W (l.set k ⟨g, N, segs.set j (off, new)⟩) :=
  h.put k hk hP hT fun s hs => by
    obtain ⟨i, hi⟩ := List.getElem?_of_mem hs
    rw [List.getElem?_set] at hi
    split at hi
    · split at hi
      · rw [← Option.some.inj hi]; exact hR
      · cases hi
    · rename_i hne
      exact hP.range ((h.ok _ (mem_of hk)).range s (List.mem_of_getElem? hi)) (.inr (ha.at i s hi (by omega)))
/-- One cell of a part. -/
theorem Mem.putI {g N o i off : Nat} {segs : List (Nat × List Value)} {cs : List Value} {v : Value} (h : Mem G w0 w l) (k j : Nat) (hk : l[k]? = some ⟨g, N, segs⟩) (hP : Puts g off 1 w W) (hR : W.rangeAt g off [v]) (hT : W.there g 0 N) (hj : segs[j]? = some (o, cs)) (ho : off = o + i) (hi : i < cs.length) (ha : SepS o cs.length j 0 segs) :
    Mem G w0 W (l.set k ⟨g, N, segs.set j (o, cs.set i v)⟩) :=
  h.put k hk hP hT fun s hs => by
    subst ho
    obtain ⟨q, hq⟩ := List.getElem?_of_mem hs
    rw [List.getElem?_set] at hq
    split at hq
    · split at hq
      · rw [← Option.some.inj hq]
        have hr := (h.ok _ (mem_of hk)).range (o, cs) (List.mem_of_getElem? hj)
        intro x u hu
        rw [List.getElem?_set] at hu
        split at hu
        · rename_i e
          subst e
          rw [← Option.some.inj hu]
          exact hR 0 v rfl
        · rename_i hne
          show W.cell? ⟨g, o + x, none⟩ = some u
          rw [hP.cells (o + x) (by omega)]
          exact hr x u hu
      · cases hq
    · rename_i hne
      refine hP.range ((h.ok _ (mem_of hk)).range s (List.mem_of_getElem? hq)) (.inr ?_)
      have := ha.at q s hq (by omega)
      omega
/-- A block that reads otherwise, too. -/
theorem Mem.read {g N : Nat} {segs segs' : List (Nat × List Value)} (h : Mem G w0 w l) (k : Nat) (hk : l[k]? = some ⟨g, N, segs⟩) (hR : ∀ s ∈ segs', w.rangeAt g s.1 s.2) : Mem G w0 w (l.set k ⟨g, N, segs'⟩) := by
  have hb := h.ok _ (mem_of hk)
  refine ⟨h.os, h.tape, h.output, h.size, h.old, fun c hc => ?_, far_set h.far hk fun j c hj hne => far_of h.far hk hj hne⟩
  rcases mem_set_cases hc with e | ⟨j, hj, hne⟩
  · rw [e]; exact ⟨hb.there, hR, hb.lt, hb.own⟩
  · exact h.ok c (mem_of hj)
theorem Mem.read1 {g N : Nat} {segs : List (Nat × List Value)} {cs : List Value} {o : Nat} (h : Mem G w0 w l) (k : Nat) (hk : l[k]? = some ⟨g, N, segs⟩) (hR : w.rangeAt g o cs) : Mem G w0 w (l.set k ⟨g, N, [(o, cs)]⟩) :=
  h.read k hk fun s hs => by rw [List.mem_singleton.1 hs]; exact hR
/-- Some of the blocks, in any order. -/
theorem Mem.pick {l' : List Bk} (h : Mem G w0 w l) (ks : List Nat) (hn : ks.Nodup) (hl : ks.map (fun k => l[k]?) = l'.map some) : Mem G w0 w l' := by
  have hlen : ks.length = l'.length := by simpa using congrArg List.length hl
  have hat : ∀ i (hi : i < l'.length), l[ks[i]'(by omega)]? = some l'[i] := fun i hi => by
    have := congrArg (fun q => q[i]?) hl
    simpa [List.getElem?_eq_getElem hi, List.getElem?_eq_getElem (show i < ks.length by omega)] using this
  refine ⟨h.os, h.tape, h.output, h.size, h.old, fun b hb => ?_, ?_⟩
  · obtain ⟨i, hi, rfl⟩ := List.getElem_of_mem hb
    exact h.ok _ (mem_of (hat i hi))
  · rw [List.pairwise_iff_getElem]
    intro i j hi hj hij
    refine far_of h.far (hat j hj) (hat i hi) fun e => ?_
    have := List.pairwise_iff_getElem.1 hn i j (by omega) (by omega) hij
    exact this e
/-- A call that makes new blocks alone. -/
theorem Mem.call {l' : List Bk} (h : Mem G w0 w l) (h' : Mem [] w W l') : Mem G w0 W (l' ++ l) := by
  have hs := h.sees h'.seesAll
  refine ⟨hs.os, hs.tape, hs.output, hs.size, hs.old, fun b hb => ?_, ?_⟩
  · rcases List.mem_append.1 hb with e | e
    · have := h'.ok b e
      refine ⟨this.there, this.range, this.lt, .inl ?_⟩
      rcases this.own with ho | ho
      · exact Nat.le_trans h.size ho
      · cases ho
    · exact hs.ok b e
  · refine List.pairwise_append.2 ⟨h'.far, h.far, fun a ha b hb => ?_⟩
    have h1 := h.ok b hb
    rcases (h'.ok a ha).own with ho | ho
    · have := h1.lt
      omega
    · cases ho
/-- A call that changes one block, and makes new ones. -/
theorem Mem.callM {g N : Nat} {segs segs' : List (Nat × List Value)} {l' : List Bk} (h : Mem G w0 w l) (k : Nat) (hk : l[k]? = some ⟨g, N, segs⟩) (h' : Mem [g] w W (⟨g, N, segs'⟩ :: l')) : Mem G w0 W (l' ++ l.set k ⟨g, N, segs'⟩) := by
  have hb := h.ok _ (mem_of hk)
  have hg := h'.ok _ (List.mem_cons_self ..)
  have hother : ∀ c : Bk, c.g ≠ g → c.g < w.heap.size → W.heap[c.g]? = w.heap[c.g]? := fun c hc hl => h'.old c.g hl (by simpa using hc)
  have hset : ∀ c ∈ l.set k ⟨g, N, segs'⟩, c.Ok G w0 W := fun c hc => by
    rcases mem_set_cases hc with e | ⟨j, hj, hne⟩
    · rw [e]
      exact ⟨hg.there, hg.range, hg.lt, hb.own⟩
    · have hc' := h.ok c (mem_of hj)
      have hd : c.g ≠ g := far_of h.far hk hj hne
      have hh := hother c hd hc'.lt
      exact ⟨fun j hj => by rw [World.cell?_of_block (w := w) hh, World.frozen?_of_block (w := w) hh]; exact hc'.there j hj, fun s hs j v hv => by rw [World.cell?_of_block (w := w) hh]; exact hc'.range s hs j v hv, Nat.lt_of_lt_of_le hc'.lt h'.size, hc'.own⟩
  refine ⟨h'.os.trans h.os, h'.tape.trans h.tape, h'.output.trans h.output, Nat.le_trans h.size h'.size, fun j hj hG => ?_, fun b hb' => ?_, ?_⟩
  · refine (h'.old j (Nat.lt_of_lt_of_le hj h.size) fun e => ?_).trans (h.old j hj hG)
    rw [List.mem_singleton.1 e] at hj hG
    rcases hb.own with ho | ho
    · exact absurd hj (Nat.not_lt.2 ho)
    · exact hG ho
  · rcases List.mem_append.1 hb' with e | e
    · have := h'.ok b (List.mem_cons_of_mem _ e)
      refine ⟨this.there, this.range, this.lt, ?_⟩
      have hne : b.g ≠ g := Ne.symm ((List.pairwise_cons.1 h'.far).1 b e)
      rcases this.own with ho | ho
      · exact .inl (Nat.le_trans h.size ho)
      · exact absurd (List.mem_singleton.1 ho) hne
    · exact hset b e
  · refine List.pairwise_append.2 ⟨(List.pairwise_cons.1 h'.far).2, far_set h.far hk fun j c hj hne => far_of h.far hk hj hne, fun a ha b hb' => ?_⟩
    have hne : a.g ≠ g := Ne.symm ((List.pairwise_cons.1 h'.far).1 a ha)
    have hag : w.heap.size ≤ a.g := by
      rcases (h'.ok a (List.mem_cons_of_mem _ ha)).own with ho | ho
      · exact ho
      · exact absurd (List.mem_singleton.1 ho) hne
    rcases mem_set_cases hb' with e | ⟨j, hj, _⟩
    · rw [e]; exact hne
    · have := (h.ok b (mem_of hj)).lt
      omega
/-- A row that has grown. -/
theorem Mem.grow {g N g' N' : Nat} {segs : List (Nat × List Value)} {cs : List Value} (h : Mem G w0 w l) (k : Nat) (hk : l[k]? = some ⟨g, N, segs⟩) (hS : Grew g w W) (hQ : g' = g ∨ w.heap.size ≤ g') (hR : W.rangeAt g' 0 cs) (hT : W.there g' 0 N') (hL : g' < W.heap.size) : Mem G w0 W (l.set k ⟨g', N', [(0, cs)]⟩) := by
  have hb := h.ok _ (mem_of hk)
  have hne' : ∀ j c, l[j]? = some c → j ≠ k → c.g ≠ g' := fun j c hj hne => by
    rcases hQ with e | e
    · rw [e]; exact far_of h.far hk hj hne
    · have := (h.ok c (mem_of hj)).lt
      omega
  refine ⟨hS.os.trans h.os, hS.tape.trans h.tape, hS.output.trans h.output, Nat.le_trans h.size hS.size, fun j hj hG => ?_, fun c hc => ?_, far_set h.far hk hne'⟩
  · refine (hS.block j (Nat.lt_of_lt_of_le hj h.size) fun e => ?_).trans (h.old j hj hG)
    subst e
    rcases hb.own with ho | ho
    · exact absurd hj (Nat.not_lt.2 ho)
    · exact hG ho
  · rcases mem_set_cases hc with e | ⟨j, hj, hne⟩
    · rw [e]
      refine ⟨hT, fun s hs => by rw [List.mem_singleton.1 hs]; exact hR, hL, ?_⟩
      rcases hQ with e | e
      · rw [e]; exact hb.own
      · exact .inl (Nat.le_trans h.size e)
    · have hc' := h.ok c (mem_of hj)
      have hd : c.g ≠ g := far_of h.far hk hj hne
      exact ⟨hS.there hc'.there hd hc'.lt, fun s hs => hS.range (hc'.range s hs) hd hc'.lt, Nat.lt_of_lt_of_le hc'.lt hS.size, hc'.own⟩
/-- A row of a call's own, that may be written. -/
def MemRow (w : World) (n : Nat) (cs : List Value) (v : Value) (W : World) : Prop := ∃ g cap, v = .slice (some ⟨g, 0, none⟩) n cap ∧ n ≤ cap ∧ Mem [] w W [⟨g, cap, [(0, cs)]⟩]
theorem MemRow.below {n : Nat} {cs : List Value} {v : Value} (h : MemRow w n cs v W) : Below w.heap.size w W := by
  obtain ⟨_, _, _, _, h⟩ := h
  exact h.below
theorem Mem.call1 {b : Bk} (h : Mem G w0 w l) (h' : Mem [] w W [b]) : Mem G w0 W (b :: l) := h.call h'
theorem Mem.callM1 {g N : Nat} {segs segs' : List (Nat × List Value)} (h : Mem G w0 w l) (k : Nat) (hk : l[k]? = some ⟨g, N, segs⟩) (h' : Mem [g] w W [⟨g, N, segs'⟩]) : Mem G w0 W (l.set k ⟨g, N, segs'⟩) := h.callM k hk h'
theorem Mem.one {g N : Nat} {segs : List (Nat × List Value)} (h : Mem G w0 w l) (k : Nat) (hk : l[k]? = some ⟨g, N, segs⟩) : Mem [g] w w [⟨g, N, segs⟩] :=
  Mem.start1 (h.ok _ (mem_of hk)).there (h.ok _ (mem_of hk)).range (h.ok _ (mem_of hk)).lt
theorem SegsOf.at {g : Nat} {cs : List Value} {segs : List (Nat × List Value)} (h : w.rangeAt g 0 cs) (hs : SegsOf cs segs) : ∀ s ∈ segs, w.rangeAt g s.1 s.2 := fun s hm => range_part h (hs.mem s hm)
theorem zadd {g i : Nat} {v : Value} (h : w.cell? ⟨g, 0 + i, none⟩ = some v) : w.cell? ⟨g, i, none⟩ = some v := by rwa [Nat.zero_add] at h
theorem segs3 {g o1 o2 o3 : Nat} {c1 c2 c3 : List Value} (h1 : w.rangeAt g o1 c1) (h2 : w.rangeAt g o2 c2) (h3 : w.rangeAt g o3 c3) : ∀ s ∈ [(o1, c1), (o2, c2), (o3, c3)], w.rangeAt g s.1 s.2 := fun s hs => by
  simp at hs
  rcases hs with rfl | rfl | rfl
  · exact h1
  · exact h2
  · exact h3
theorem Mem.belowB {B : Nat} (h : Mem G w0 w l) (hb : Below B w W) (h0 : w0.heap.size ≤ B) (hl : ∀ b ∈ l, b.g < B) : Mem G w0 W l :=
  ⟨hb.os.trans h.os, hb.tape.trans h.tape, hb.output.trans h.output, Nat.le_trans h.size hb.size, fun k hk hG => (hb.block k (Nat.lt_of_lt_of_le hk h0)).trans (h.old k hk hG),
   fun b hm => by
    have hh := hb.block b.g (hl b hm)
    have hk := h.ok b hm
    exact ⟨fun j hj => by rw [World.cell?_of_block (w := w) hh, World.frozen?_of_block (w := w) hh]; exact hk.there j hj, fun s hs j v hv => by rw [World.cell?_of_block (w := w) hh]; exact hk.range s hs j v hv, Nat.lt_of_lt_of_le hk.lt hb.size, hk.own⟩, h.far⟩
theorem Mem.ne0 {b : Bk} (h : Mem [] w0 w l) (k : Nat) (hk : l[k]? = some b) (h0 : 0 < w0.heap.size) : b.g ≠ 0 := fun e => by
  rcases (h.ok b (mem_of hk)).own with ho | ho
  · omega
  · cases ho
theorem Mem.nil (h : Mem G w0 w l) : Mem G w0 w [] := ⟨h.os, h.tape, h.output, h.size, h.old, fun _ hb => (by cases hb), .nil⟩
theorem then_exit {Q : Exit → Act → World → Prop} {K : Act → World → Prop} {i : Nat} {a : Act} {w : World} (h : Q (.exit i) a w) : Exit.then K Q (.exit i) a w := h
theorem inblock_exit {Q : Exit → Act → World → Prop} {i : Nat} {a : Act} {w : World} (h : Q .normal a w) : Exit.inBlock i Q (.exit i) a w := by simpa [Exit.inBlock] using h
section vals
variable {P : Program} {ops : Array Oper} {L : Act → Prop} {o : Oper} {rest : List Oper} {a : Act}
theorem wpV_nilCheck {x : Operand} {p : Addr} (hw : Region.wanted o (yielded ops a.tmps) = true) (ho : o.op = .nilCheck x) (hx : a.eval x = .pointer (some p)) (h : wpV P ops w0 L rest (a.put o.dst (.pointer (some p)))) : wpV P ops w0 L (o :: rest) a :=
  wpV_val (by simp [isAlloc, ho]) hw (fun W _ => by
    unfold RunsVal
    simp [execOp, ho, hx, Instr.sureAddr, asAddr, Sem.run_bind, Sem.run_pure]) h
theorem wpV_un {op : UnOp} {T : TypeId} {x : Operand} {u v : Value} (hw : Region.wanted o (yielded ops a.tmps) = true) (ho : o.op = .unOp op T x) (hx : a.eval x = u) (hr : ∀ W, (Op.unary op u).run P W = .ok v W) (h : wpV P ops w0 L rest (a.put o.dst v)) : wpV P ops w0 L (o :: rest) a :=
  wpV_val (by simp [isAlloc, ho]) hw (fun W _ => by
    unfold RunsVal
    simp [execOp, ho, hx, Sem.run_bind, hr W]) h
theorem wpV_takeS {T : TypeId} {x y : Operand} {l : List UInt8} {hi : Nat} {k : IntKind} (hw : Region.wanted o (yielded ops a.tmps) = true) (ho : o.op = .slice T x none (some y) none) (hx : a.eval x = .string (bs l)) (hy : a.eval y = .int k ((hi : Nat) : Int))
    (hT : P.underlying T = some .string) (hh : hi ≤ l.length) (h : wpV P ops w0 L rest (a.put o.dst (.string (bs (l.take hi))))) : wpV P ops w0 L (o :: rest) a :=
  wpV_val (by simp [isAlloc, ho]) hw (fun W _ => by
    unfold RunsVal
    have := run_sliceS (P := P) hT (k := k) hh W
    simp only [execOp, ho, hx, hy, Option.map_none, Option.map_some, Sem.run_bind, this, Result.andThen_ok, Sem.run_pure]) h
theorem run_dropS {T : TypeId} (hT : P.underlying T = some .string) {l : List UInt8} {lo : Nat} {k : IntKind} (hh : lo ≤ l.length) (W : World) : (Instr.sliceAt T (.string (bs l)) (some (.int k ((lo : Nat) : Int))) none none).run P W = .ok (.string (bs (l.drop lo))) W := by
  have e : (bs l).extract lo (bs l).size = bs (l.drop lo) := by
    apply ByteArray.ext
    simp [bs, ByteArray.extract, ByteArray.copySlice, bs_size]
    exact List.take_of_length_le (by rw [List.length_drop]; exact Nat.le_refl _)
  simp [Instr.sliceAt, Instr.slice, Instr.sliceBounds, Instr.sliceBound, asIntOf, run_underlying hT, Sem.run_bind, hh, bs_size] at e ⊢
  exact e
theorem wpV_drop {T : TypeId} {x y : Operand} {l : List UInt8} {lo : Nat} {k : IntKind} (hw : Region.wanted o (yielded ops a.tmps) = true) (ho : o.op = .slice T x (some y) none none) (hx : a.eval x = .string (bs l)) (hy : a.eval y = .int k ((lo : Nat) : Int))
    (hT : P.underlying T = some .string) (hh : lo ≤ l.length) (h : wpV P ops w0 L rest (a.put o.dst (.string (bs (l.drop lo))))) : wpV P ops w0 L (o :: rest) a :=
  wpV_val (by simp [isAlloc, ho]) hw (fun W _ => by
    unfold RunsVal
    have := run_dropS (P := P) hT (k := k) hh W
    simp only [execOp, ho, hx, hy, Option.map_none, Option.map_some, Sem.run_bind, this, Result.andThen_ok, Sem.run_pure]) h
theorem run_eqlN (m n : Nat) (T : TypeId) (k : IntKind) (W : World) : (binOp .eql T (.int k (m : Nat)) (.int k (n : Nat))).run P W = .ok (.bool (decide (m = n))) W := by
  rw [run_eql]
  congr 2
  rw [Bool.eq_iff_iff]
  simp
  omega
theorem run_neqN (m n : Nat) (T : TypeId) (k : IntKind) (W : World) : (binOp .neq T (.int k (m : Nat)) (.int k (n : Nat))).run P W = .ok (.bool (decide (m ≠ n))) W := by
  rw [run_neq]
  congr 2
  rw [Bool.eq_iff_iff]
  simp
  omega
end vals
section tails
variable {P : Program} {ops : Array Oper} {Q : Exit → Act → World → Prop} {o : Oper} {rest : List Oper} {a : Act}
theorem wpL_rowN {T e : TypeId} {n : Nat} {parts : Array (Nat × Operand)} {z : Value} {bytes : Nat} {vs : List Value} (hg : o.guard = none) (ho : o.op = .buildSlice T n parts) (hT : P.underlying T = some (.slice e)) (hinfo : (P.info? e).map (fun i => (i.zero, i.size, i.bytes)) = some (some z, 1, bytes)) (hn : 0 < n ∧ n ≤ 16777216)
    (hf : Instr.fill (fun i => some (i * 1, 1)) ((Array.range (n * 1)).map (z.cells[· % z.cells.size]!)) (parts.map fun (i, x) => (i, a.eval x)).toList = some vs.toArray)
    (h : ∀ g W', Sees W W' → W.heap.size ≤ g → Blk W' g e vs.toArray → wpList P ops Q rest (a.put o.dst (.slice (some ⟨g, 0, none⟩) n n)) W') : wpList P ops Q (o :: rest) a W := by
  obtain ⟨i, hi, he⟩ := Option.map_eq_some_iff.1 hinfo
  simp only [Prod.mk.injEq] at he
  obtain ⟨hz, h1, h2⟩ := he
  refine wpL_new (T := T) (e := e) (len := n) (cs := vs) hg ?_ h
  have := run_buildSlice (P := P) W T e n (parts.map fun (i, x) => (i, a.eval x)) vs.toArray i z hT hi hz (by rw [h1]; omega) (by rw [h1]; omega) (by rw [h1]; exact hf)
  simp [execOp, ho, this]
/-- A call of whatever effect. -/
theorem wpL_callM {f : FuncId} {fn : Func} {xs : Array Operand} {ts : Array TypeId} {args : Array Value} {R : Value → World → Prop} (hg : o.guard = none) (ho : o.op = .call { callee := .value (.func f), args := xs, argTypes := ts }) (hargs0 : xs.toList.map a.eval = args.toList) (hf : P.funcs[f]? = some fn)
    (hn : (fn.name == "runtime.NumGoroutine") = false) (hbd : fn.body.isNone = false)
    (hc : Calls P f args W (fun e W' => ∃ v, e = .returned v ∧ R v W')) (h : ∀ v W', R v W' → wpList P ops Q rest (a.put o.dst v) W') : wpList P ops Q (o :: rest) a W :=
  wpList_plain hg fun K hK => by
    unfold Oper.wp
    rw [show (execOp a.eval o).run P W = .ok (.enter f args) W by rw [run_call_body ho rfl hf hn hbd, (Array.toList_inj.1 (by rw [Array.toList_map]; exact hargs0) : xs.map a.eval = args)]]
    exact hc.mono fun e W' ⟨v, he, hr⟩ => by subst he; exact hK _ _ (h v W' hr)
end tails
end Go.Proofs.Num

namespace Go.Proofs.Num
open Go Go.RowKit
section
variable {P : Program} {Q : Exit → Act → World → Prop}
def firstB (ops : Array Oper) (listed : Array Bool) (i : Nat) : Bool :=
  Region.noSelect ops && (Region.ready .any ops listed).contains i && (List.range ops.size).all fun j => match ops[i]?, ops[j]? with
    | some oi, some oj => j == i || listed.getD j true || (oj.after.any fun e => Region.binds .any e && e.on == i) || oi.apart ops oj
    | _, _ => true
theorem any_first {l : List Oper} {fuel : Nat} {listed : Array Bool} {a : Act} {w : World} (i : Nat) {o : Oper} {v : Value} (hi : l[i]? = some o) (hB : firstB l.toArray listed i = true) (hQ : ∀ c a w, ¬ Q (.panic c) a w) (hg : o.guard = none)
    (hv : ∀ W, RunsVal ((execOp a.eval o).run P W) v W) (h : wpAny P .any l.toArray Q fuel (listed.setIfInBounds i true) (a.put o.dst v) w) : wpAny P .any l.toArray Q (fuel + 1) listed a w := by
  simp only [firstB, Bool.and_eq_true] at hB
  obtain ⟨⟨hs, hr⟩, hall⟩ := hB
  have hoi : l.toArray[i]? = some o := by simpa using hi
  refine wpAny_first (i := i) (oi := o) (v := v) hoi (fun j oj cs b hj => Region.noSelect_spec hs j oj cs b hj) (fun c a w hp => absurd hp (hQ _ _ _)) fuel listed a w (fun j oj hj hne hl hw => ?_) (by simpa using hr) (.inl ⟨by simp [Region.wanted, hg], hv⟩) h
  have := List.all_eq_true.1 hall j (List.mem_range.2 (Array.getElem?_eq_some_iff.1 hj).1)
  simp only [hoi, hj, Bool.or_eq_true, beq_iff_eq] at this
  rcases this with ((h1 | h1) | h1) | h1
  · exact absurd h1 hne
  · rw [hl] at h1; cases h1
  · rw [Array.any_eq_true] at h1
    obtain ⟨q, hq, h2⟩ := h1
    simp only [Bool.and_eq_true, beq_iff_eq] at h2
    exact absurd h2.2 (hw _ (Array.getElem_mem hq) h2.1)
  · exact h1
theorem wp_region_treeN {id : Nat} {a : Act} {w : World} {l : List Oper} (hm : P.follows .mixedOrders = true) (h : ∀ W, Sees w W → wpAny P .any l.toArray (NoPanic Q) l.length (Array.replicate l.length false) a W) : (Code.region id l.toArray true).wp P Q a w :=
  Code.wp_mono NoPanic.imp (wp_region_tree hm h)
theorem nopanic_not : ∀ c a w, ¬ NoPanic Q (.panic c) a w := fun c a w h => h
variable {o : Oper} {a : Act} {v : Value}
theorem yl_move {x : Operand} (ho : o.op = .move x) (hx : a.eval x = v) (W : World) : RunsVal ((execOp a.eval o).run P W) v W := by unfold RunsVal; simp [execOp, ho, hx]
theorem yl_assign {x : Operand} (ho : o.op = .assign x) (hx : a.eval x = v) (W : World) : RunsVal ((execOp a.eval o).run P W) v W := by unfold RunsVal; simp [execOp, ho, hx]
end
section tails
variable {P : Program} {ops : Array Oper} {Q : Exit → Act → World → Prop} {o : Oper} {rest : List Oper} {a : Act} {W : World}
theorem wpL_append2 {T e : TypeId} {s x : Operand} {g n cap h ho2 : Nat} {c : Nat} {olds news : List Value} {bytes m : Nat} {z : Value} (hg : o.guard = none) (ho : o.op = .call { callee := .builtin .append, args := #[s, x], argTypes := #[T, T] })
    (hs : a.eval s = .slice (some ⟨g, 0, none⟩) n cap) (hx : a.eval x = .slice (some ⟨h, ho2, none⟩) m c) (hT : P.underlying T = some (.slice e)) (hinfo : (P.info? e).map (fun i => (i.zero, i.size, i.bytes)) = some (some z, 1, bytes)) (hzc : z.cells = #[z]) (hz1 : z.oneCell' = true)
    (hn : olds.length = n) (hm : news.length = m) (hr : W.rangeAt g 0 olds) (ht : W.there g 0 cap) (hL : g < W.heap.size) (hr2 : W.rangeAt h ho2 news) (h1 : ∀ u ∈ news, u.oneCell' = true) (hb : (n + m) * bytes ≤ 140737488355328) (h63 : n + m ≤ maxLen) 
    (hk : ∀ g' cap' W', Grew g W W' → (g' = g ∨ W.heap.size ≤ g') → n + m ≤ cap' → W'.rangeAt g' 0 (olds ++ news) → W'.there g' 0 cap' → g' < W'.heap.size →
      wpList P ops Q rest (a.put o.dst (.slice (some ⟨g', 0, none⟩) (n + m) cap')) W') : wpList P ops Q (o :: rest) a W := by
  obtain ⟨i, hi, he⟩ := Option.map_eq_some_iff.1 hinfo
  simp only [Prod.mk.injEq] at he
  obtain ⟨hz, hsz, hby⟩ := he
  have had : ∀ (q j : Nat), (⟨q, 0, none⟩ : Addr).add j = ⟨q, j, none⟩ := fun q j => by cases j <;> simp [Addr.add]
  have hado : ∀ (q o j : Nat), (⟨q, o, none⟩ : Addr).add j = ⟨q, o + j, none⟩ := fun q o j => by cases j <;> simp [Addr.add]
  have hnews : ∀ j u, news[j]? = some u → W.cell? ((⟨h, ho2, none⟩ : Addr).add j) = some u := fun j u hu => by have := hr2 j u hu; rw [hado]; exact this
  refine wpList_plain hg fun K hK => ?_
  by_cases hroom : n + m ≤ cap
  · have htt : ∀ j, j < news.length → (W.cell? ⟨g, 0 + n * i.size + j, none⟩).isSome = true ∧ W.frozen? ⟨g, 0 + n * i.size + j, none⟩ = false := fun j hj => by
      rw [hsz, Nat.mul_one, Nat.zero_add]
      have := ht (n + j) (by omega)
      rwa [Nat.zero_add] at this
    have hrun := run_append_room_cells (P := P) W T o.type e i hT hi g 0 n cap ⟨h, ho2, none⟩ m c news (by rw [hsz, Nat.mul_one, hm]) hnews h1 hroom (fun j hj => (htt j hj).1) (fun j hj => (htt j hj).2)
    have hp := puts_cells g news (0 + n * i.size) W
    rw [hsz, Nat.mul_one, Nat.zero_add] at hp htt
    unfold Oper.wp execOp
    simp only [ho, resolve, invoke, builtin, Sem.run_bind, Sem.run_pure, Result.andThen_ok, List.map_toArray, List.map_cons, List.map_nil, hs, hx, hrun]
    rw [hsz, Nat.mul_one, Nat.zero_add]
    have hcells := World.rangeAt_setCells_same W g n news (fun j hj => htt j hj)
    refine hK _ _ (hk g cap _ ⟨hp.os, hp.tape, hp.output, by rw [hp.size]; exact Nat.le_refl _, fun k _ hne => hp.other k hne⟩ (.inl rfl) hroom ?_ ?_ (hp.lt hL))
    · exact range_join (hp.range hr (.inr (.inl (by rw [Nat.zero_add, hn]; exact Nat.le_refl _)))) hcells (by rw [Nat.zero_add, hn])
    · refine hp.there ht fun _ j hj => ?_
      rw [hcells j news[j] (by simp [hj])]; rfl
  · have hzs : z.cells.size = 1 := by rw [hzc]; rfl
    have hge := grownCap_ge W (n + m) cap e
    have hrun := run_append_grow (P := P) W T o.type e i z hT hi hz ⟨g, 0, none⟩ n cap olds (by rw [hsz, Nat.mul_one, hn]) (fun j u hu => by have := hr j u hu; rw [Nat.zero_add] at this; rw [had]; exact this) ⟨h, ho2, none⟩ m c news (by rw [hsz, Nat.mul_one, hm]) hnews (by omega) (by simp only [maxLen] at h63; omega) (growslice_fits (by omega) (by rw [hby]; exact hb))
    unfold Oper.wp execOp
    simp only [ho, resolve, invoke, builtin, Sem.run_bind, Sem.run_pure, Result.andThen_ok, List.map_toArray, List.map_cons, List.map_nil, hs, hx, hrun]
    have hB : Blk (W.drew.alloc (.cells (olds.toArray ++ news.toArray ++ Builtin.zeroCells z.cells (grownCap W (n + m) cap e - (n + m))) e)) W.heap.size e (olds.toArray ++ news.toArray ++ Builtin.zeroCells z.cells (grownCap W (n + m) cap e - (n + m))) := Blk.new W.drew e _
    refine hK _ _ (hk W.heap.size (grownCap W (n + m) cap e) _ ⟨rfl, rfl, rfl, by simp, fun k hk _ => heap_alloc_old W.drew _ k hk⟩ (.inr (Nat.le_refl _)) hge ?_ (blk_there hB ?_) hB.lt)
    · have := blk_range hB (l := (olds ++ news) ++ (Builtin.zeroCells z.cells (grownCap W (n + m) cap e - (n + m))).toList) (by apply Array.ext'; simp)
      exact (range_append this).1
    · simp only [Array.size_append, List.size_toArray, size_zeroCells, hzs, hn, hm]; omega
theorem wpL_appendN {T e : TypeId} {s x : Operand} {g n cap : Nat} (hg : o.guard = none) (ho : o.op = .call { callee := .builtin .append, args := #[s, x], argTypes := #[T, T] })
    (hs : a.eval s = .slice (some ⟨g, 0, none⟩) n cap) (hx : a.eval x = .slice none 0 0) (hT : P.underlying T = some (.slice e)) {k : Nat} (hinfo : (P.info? e).map (·.size) = some k) (hc : n ≤ cap)
    (hk : wpList P ops Q rest (a.put o.dst (.slice (some ⟨g, 0, none⟩) n cap)) W) : wpList P ops Q (o :: rest) a W :=
  wpL_val hg (by
    unfold RunsVal
    simp [execOp, ho, hs, hx, resolve, invoke, builtin, Builtin.append_, run_underlying hT, run_sizeOf hinfo, Builtin.lenOf, hc, Builtin.firstCells, storeCells]) hk
end tails
theorem scells_app (a b : List (List UInt8)) : scells a ++ scells b = scells (a ++ b) := by simp [scells]
theorem scells_one (ps : List (List UInt8)) : ∀ v ∈ scells ps, v.oneCell' = true := by
  intro v hv
  simp only [scells, List.mem_map] at hv
  obtain ⟨_, _, rfl⟩ := hv
  rfl
end Go.Proofs.Num

namespace Go.Proofs.Num
open Go Go.RowKit
/-- A row of texts, or none. -/
def RowS (w : World) (v : Value) (ps : List (List UInt8)) : Prop := (v = .slice none 0 0 ∧ ps = []) ∨ (∃ a, v = .slice (some a) 0 0 ∧ ps = []) ∨ ∃ g o n c, v = .slice (some ⟨g, o, none⟩) n c ∧ n = ps.length ∧ n ≤ c ∧ g < w.heap.size ∧ w.rangeAt g o (scells ps)
theorem RowS.sees {w W : World} {v : Value} {ps : List (List UInt8)} (h : RowS w v ps) (hS : Sees w W) : RowS W v ps := by
  rcases h with h | h | ⟨g, o, n, c, h1, h2, h3, h4, h5⟩
  · exact .inl h
  · exact .inr (.inl h)
  · exact .inr <| .inr ⟨g, o, n, c, h1, h2, h3, Nat.lt_of_lt_of_le h4 hS.2.2.size, range_sees h5 h4 hS⟩
theorem RowS.mem {w W : World} {l : List Bk} {v : Value} {ps : List (List UInt8)} (h : RowS w v ps) (M : Mem [] w W l) : RowS W v ps := h.sees M.seesAll
end Go.Proofs.Num

namespace Go.Proofs.Num
open Go Go.RowKit Go.ChangeShapes Go.WideShapes Go.ChangeAt
section
variable {H : Type} {enc : TypeId × Value → H} {P : Program}
theorem trodAll_below {W W' : World} (hl : laidOutB P = true) (hb : Below W.heap.size W W') : ∀ {ts : List TypeId} {vs : List Value} {ds : List (DataW H)} {ps : List MemPlace}, (ts.all fun t => P.readableRec t && decide (t < P.types.size)) = true →
    DataW.TrodAll enc P W 0 (fun _ => true) true ts vs ds ps → (∀ x ∈ ps, x.block < W.heap.size) → DataW.TrodAll enc P W' 0 (fun b => decide (b < W.heap.size)) true ts vs ds ps
  | [], [], [], _, _, h, _ => h
  | t :: ts, v :: vs, d :: ds, ps, hr, h, hlt => by
    obtain ⟨p, q, h1, h2, rfl⟩ := h
    simp only [List.all_cons, Bool.and_eq_true, decide_eq_true_eq] at hr
    exact ⟨p, q, Below.trod hl hr.1.1 hr.1.2 h1 hb fun x hx => hlt x (List.mem_append_left _ hx), trodAll_below hl hb (by simpa using hr.2) h2 fun x hx => hlt x (List.mem_append_right _ hx), rfl⟩
theorem post_below {f : Func} {s : ChangeSpec} {W W' : World} {args : Array Value} {v : Value} {ds gs : List (DataW H)} {pa : List MemPlace} (hl : laidOutB P = true) (hr : (f.params.toList.all fun t => P.readableRec t && decide (t < P.types.size)) = true)
    (hW : DataW.Whole enc P f.params.toList s.vars false W args.toList ds gs (pa ++ [])) (hA : DataW.TrodAll enc P W 0 (fun _ => true) true f.params.toList args.toList ds pa)
    (hres : ∀ (b : Nat) (sp : Nat → Bool) (hd : Bool), DataW.TrodAll enc P W' b sp hd f.resultTypes.toList (v.resultList f.resultTypes.size) (s.fn H (ds ++ gs)).results [])
    (hargs : (s.fn H (ds ++ gs)).args = ds) (hvars : ∀ sp : Nat → Bool, DataW.TrodVars enc P W' sp s.vars (s.fn H (ds ++ gs)).vars []) (hb : Below W.heap.size W W') :
    s.post enc P f false true false false W args v W' := by
  refine ⟨ds, gs, _, [], pa, [], hW, hres _ _ _, ?_, hvars _, hb.frame _, fun h => by cases h⟩
  rw [hargs]
  exact trodAll_below hl hb hr hA fun x hx => hW.lt x (List.mem_append_left _ hx)
/-- A row of texts among the arguments. -/
theorem open_rowS {t e : TypeId} {r : Reach} {b0 : Nat} {W : World} {v : Value} {d : DataW H} {ps : List MemPlace} (ht : P.underlying t = some (.slice e)) (he : P.underlying e = some .string) (hc : P.cellsOf e = 1)
    (hval : Value.okWide P W r b0 t v) (hd : DataW.Trod enc P W 0 (fun _ => true) true t v d ps) : ∃ l, RowS W v l := by
  obtain ⟨a0, len, cap, rfl⟩ := okWide_slice ht hval
  obtain ⟨fuel, hf⟩ := hd
  rcases open_strings ht he hc hf with ⟨hcs, _⟩ | ⟨a, len', cap', ss, hcs, _, hl, _, hz, _, hcell, _⟩
  · simp [Value.cells] at hcs
    obtain ⟨rfl, rfl, rfl⟩ := hcs
    exact ⟨[], .inl ⟨rfl, rfl⟩⟩
  · simp [Value.cells] at hcs
    obtain ⟨rfl, rfl, rfl⟩ := hcs
    simp only [if_true] at hz
    by_cases h0 : cap = 0
    · subst h0
      obtain rfl : len = 0 := by omega
      exact ⟨[], .inr (.inl ⟨a, rfl, rfl⟩)⟩
    · have h1 := hcell 0 (by omega)
      rw [show a.add 0 = a from rfl] at h1
      obtain ⟨g, o, sp⟩ := a
      have hsp : sp = none := by
        unfold World.cell? at h1
        split at h1
        · split at h1
          · cases h1
          · rename_i hn
            simpa using hn
        · cases h1
      subst hsp
      have hg : g < W.heap.size := by
        unfold World.cell? at h1
        split at h1
        · rename_i hh
          exact (Array.getElem?_eq_some_iff.1 hh).1
        · cases h1
      refine ⟨(ss.take len).map fun s => s.data.toList, .inr (.inr ⟨g, o, len, cap, rfl, by simp; omega, hl, hg, fun j u hu => ?_⟩)⟩
      have hj : j < len := by
        have := (List.getElem?_eq_some_iff.1 hu).1
        simp [scells] at this
        omega
      have h2 := hcell j (by omega)
      have e1 : (⟨g, o, none⟩ : Addr).add j = ⟨g, o + j, none⟩ := by cases j <;> simp [Addr.add]
      rw [e1] at h2
      rw [h2, ← hu]
      have hjs : j < ss.length := by omega
      simp [scells, List.getElem?_take_of_lt hj, List.getElem?_eq_getElem hjs, bs]
theorem cells_of_ints {k : IntKind} {e : TypeId} {W : World} {base m : Nat} {spare : Nat → Bool} {held : Bool} {cs : List Value} {xs : List (DataW H × List MemPlace)} {ns : List Nat} (he : P.underlying e = some (.int k)) (hn : xs.length = ns.length)
    (hx : xs.map (·.1) = ns.map fun n => .lit (.int k ((n : Nat) : Int))) (hel : ∀ i, i < ns.length → DataW.trod enc P W base spare held m e ((cs.drop (i * 1)).take 1) = xs[i]?) (j : Nat) (v : Value) (hv : (ns.map fun n => Value.int k ((n : Nat) : Int))[j]? = some v) : cs[j]? = some v := by
  have hj : j < ns.length := by have := (List.getElem?_eq_some_iff.1 hv).1; simpa using this
  have h1 := hel j hj
  rw [List.getElem?_eq_getElem (by omega)] at h1
  obtain ⟨n, e1, e2, _⟩ := DataW.trod_int he h1
  have h3 : (xs.map (·.1))[j]? = (ns.map fun n => DataW.lit (H := H) (.int k ((n : Nat) : Int)))[j]? := by rw [hx]
  rw [List.getElem?_map, List.getElem?_eq_getElem (by omega), List.getElem?_map, List.getElem?_eq_getElem hj, Option.map_some, Option.map_some, e2] at h3
  have h4 : n = ((ns[j] : Nat) : Int) := by simpa using h3
  rw [List.getElem?_map, List.getElem?_eq_getElem hj] at hv
  have h5 : v = .int k ((ns[j] : Nat) : Int) := by simpa using hv.symm
  rw [h5, ← h4]
  have := congrArg (fun q => q[0]?) e1
  simpa [List.getElem?_take_of_lt, List.getElem?_drop] using this
end
end Go.Proofs.Num

