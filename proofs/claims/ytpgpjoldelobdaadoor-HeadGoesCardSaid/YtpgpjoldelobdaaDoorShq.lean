/- The memory that a walk knows, in one fact: blocks with what stands in them; all else is as it was. -/
import Derived.Test.YtpgpjoldelobdaaDoorSteps8
import Derived.Lib.ItoaNum
import Derived.Orders
import Derived.ProofKit
import Derived.LaidMore
import Derived.OpenShut
import Derived.SliceStrings
import Derived.Carry
import Derived.ChangeSame
import Derived.JoinedOf
import Derived.JoinedAt
import Derived.WideShapes
import Derived.Stop.Joined
set_option linter.unusedSimpArgs false
set_option linter.unusedVariables false
namespace Go.Proofs.Num
open Go Go.RowKit
structure Bk where
  g : Nat
  N : Nat
  segs : List (Nat × List Value)
structure Bk.Ok (G : List Nat) (w0 w : World) (b : Bk) : Prop where
  there : w.there b.g 0 b.N
  range : ∀ s ∈ b.segs, w.rangeAt b.g s.1 s.2
  lt : b.g < w.heap.size
  own : w0.heap.size ≤ b.g ∨ b.g ∈ G
structure Mem (G : List Nat) (w0 w : World) (l : List Bk) : Prop where
  os : w.os = w0.os
  tape : w.tape = w0.tape
  output : w.output = w0.output
  size : w0.heap.size ≤ w.heap.size
  old : ∀ k, k < w0.heap.size → k ∉ G → w.heap[k]? = w0.heap[k]?
  ok : ∀ b ∈ l, b.Ok G w0 w
  far : l.Pairwise (fun a b => a.g ≠ b.g)
variable {G : List Nat} {w0 w W : World} {l : List Bk}
theorem Mem.start (w : World) : Mem [] w w [] := ⟨rfl, rfl, rfl, Nat.le_refl _, fun _ _ _ => rfl, fun _ h => (by cases h), .nil⟩
theorem Mem.start1 {w : World} {g N : Nat} {segs : List (Nat × List Value)} (ht : w.there g 0 N) (hr : ∀ s ∈ segs, w.rangeAt g s.1 s.2) (hl : g < w.heap.size) : Mem [g] w w [⟨g, N, segs⟩] :=
  ⟨rfl, rfl, rfl, Nat.le_refl _, fun _ _ _ => rfl, fun b h => by rw [List.mem_singleton.1 h]; exact ⟨ht, hr, hl, .inr (List.mem_singleton.2 rfl)⟩, by simp⟩
theorem Mem.below (h : Mem [] w0 w l) : Below w0.heap.size w0 w := ⟨h.os, h.tape, h.output, h.size, fun k hk => h.old k hk (by simp)⟩
theorem Mem.seesAll (h : Mem [] w0 w l) : Sees w0 w := sees_of h.below
theorem Mem.sees (h : Mem G w0 w l) (hS : Sees w W) : Mem G w0 W l :=
  ⟨hS.2.2.os.trans h.os, hS.2.2.tape.trans h.tape, hS.2.2.output.trans h.output, Nat.le_trans h.size hS.2.2.size, fun k hk hG => (hS.2.2.block k (Nat.lt_of_lt_of_le hk h.size)).trans (h.old k hk hG),
   fun b hb => ⟨there_sees (h.ok b hb).there (h.ok b hb).lt hS, fun s hs => range_sees ((h.ok b hb).range s hs) (h.ok b hb).lt hS, Nat.lt_of_lt_of_le (h.ok b hb).lt hS.2.2.size, (h.ok b hb).own⟩, h.far⟩
theorem Mem.fresh {g : Nat} (h : Mem G w0 w l) (hg : w.heap.size ≤ g) : ∀ b ∈ l, b.g ≠ g := fun b hb => Nat.ne_of_lt (Nat.lt_of_lt_of_le (h.ok b hb).lt hg)
theorem Mem.ge {g : Nat} (h : Mem G w0 w l) (hg : w.heap.size ≤ g) : w0.heap.size ≤ g := Nat.le_trans h.size hg
theorem fcons {g g1 N : Nat} {s : List (Nat × List Value)} (h1 : g1 ≠ g) (h : ∀ b ∈ l, b.g ≠ g) : ∀ b ∈ (⟨g1, N, s⟩ :: l : List Bk), b.g ≠ g := fun b hb => by
  rcases List.mem_cons.1 hb with e | e
  · rw [e]; exact h1
  · exact h b e
/-- Parts of a list of cells. -/
def SegsOf (cs : List Value) : List (Nat × List Value) → Prop
  | [] => True
  | s :: r => (cs.drop s.1).take s.2.length = s.2 ∧ SegsOf cs r
theorem SegsOf.mem {cs : List Value} : ∀ {segs : List (Nat × List Value)}, SegsOf cs segs → ∀ s ∈ segs, (cs.drop s.1).take s.2.length = s.2
  | [], _, _, h => by cases h
  | t :: r, h, s, hs => by
    rcases List.mem_cons.1 hs with e | e
    · subst e; exact h.1
    · exact SegsOf.mem h.2 s e
theorem range_part {g : Nat} {cs : List Value} {s : Nat × List Value} (h : w.rangeAt g 0 cs) (hs : (cs.drop s.1).take s.2.length = s.2) : w.rangeAt g s.1 s.2 := fun j v hv => by
  have hv2 : ((cs.drop s.1).take s.2.length)[j]? = some v := by rw [hs]; exact hv
  have hj := (List.getElem?_eq_some_iff.1 hv).1
  rw [List.getElem?_take_of_lt hj, List.getElem?_drop] at hv2
  have := h (s.1 + j) v hv2
  rwa [Nat.zero_add] at this
theorem Mem.addS {g N : Nat} {t : TypeId} {cs : List Value} {segs : List (Nat × List Value)} (h : Mem G w0 w l) (hg : w0.heap.size ≤ g) (hf : ∀ b ∈ l, b.g ≠ g) (hB : Blk w g t cs.toArray) (hN : N = cs.length) (hs : SegsOf cs segs) : Mem G w0 w (⟨g, N, segs⟩ :: l) :=
  ⟨h.os, h.tape, h.output, h.size, h.old, fun b hb => by
    rcases List.mem_cons.1 hb with e | e
    · rw [e]
      exact ⟨blk_there hB (by simpa using hN), fun s hs' => range_part (blk_range hB rfl) (hs.mem s hs'), hB.lt, .inl hg⟩
    · exact h.ok b e, List.pairwise_cons.2 ⟨fun b hb => Ne.symm (hf b hb), h.far⟩⟩
theorem Mem.add {g N : Nat} {t : TypeId} {cs : List Value} (h : Mem G w0 w l) (hg : w0.heap.size ≤ g) (hf : ∀ b ∈ l, b.g ≠ g) (hB : Blk w g t cs.toArray) (hN : N = cs.length) : Mem G w0 w (⟨g, N, [(0, cs)]⟩ :: l) :=
  h.addS hg hf hB hN ⟨by simp, trivial⟩
theorem mem_of {k : Nat} {b : Bk} (hk : l[k]? = some b) : b ∈ l := List.mem_of_getElem? hk
theorem Mem.r {b : Bk} {s : Nat × List Value} (h : Mem G w0 w l) (k j : Nat) (hk : l[k]? = some b) (hj : b.segs[j]? = some s) : w.rangeAt b.g s.1 s.2 := (h.ok b (mem_of hk)).range s (List.mem_of_getElem? hj)
theorem Mem.lt {b : Bk} (h : Mem G w0 w l) (k : Nat) (hk : l[k]? = some b) : b.g < w.heap.size := (h.ok b (mem_of hk)).lt
theorem Mem.t {b : Bk} (h : Mem G w0 w l) (k : Nat) (hk : l[k]? = some b) : w.there b.g 0 b.N := (h.ok b (mem_of hk)).there
theorem Mem.oldR {g o : Nat} {cs : List Value} (h : Mem [] w0 w l) (hr : w0.rangeAt g o cs) (hl : g < w0.heap.size) : w.rangeAt g o cs := range_sees hr hl h.seesAll
theorem Mem.oldL {g : Nat} (h : Mem G w0 w l) (hl : g < w0.heap.size) : g < w.heap.size := Nat.lt_of_lt_of_le hl h.size
theorem Mem.oldG {g o : Nat} {cs : List Value} (h : Mem G w0 w l) (hr : w0.rangeAt g o cs) (hl : g < w0.heap.size) (hG : g ∉ G) : w.rangeAt g o cs := fun j v hv => by
  rw [World.cell?_of_block (w := w0) (h.old g hl hG)]
  exact hr j v hv
theorem far_of {k : Nat} {b : Bk} (hf : l.Pairwise (fun a b => a.g ≠ b.g)) (hk : l[k]? = some b) {j : Nat} {c : Bk} (hj : l[j]? = some c) (hne : j ≠ k) : c.g ≠ b.g := by
  obtain ⟨hkl, rfl⟩ := List.getElem?_eq_some_iff.1 hk
  obtain ⟨hjl, rfl⟩ := List.getElem?_eq_some_iff.1 hj
  rw [List.pairwise_iff_getElem] at hf
  rcases Nat.lt_or_gt_of_ne hne with h | h
  · exact hf j k hjl hkl h
  · exact Ne.symm (hf k j hkl hjl h)
theorem far_set {k : Nat} {b b' : Bk} (hf : l.Pairwise (fun a b => a.g ≠ b.g)) (hk : l[k]? = some b) (hne : ∀ j c, l[j]? = some c → j ≠ k → c.g ≠ b'.g) : (l.set k b').Pairwise (fun a b => a.g ≠ b.g) := by
  have hkl := (List.getElem?_eq_some_iff.1 hk).1
  rw [List.pairwise_iff_getElem] at hf ⊢
  intro i j hi hj hij
  have hi' : i < l.length := by simpa using hi
  have hj' : j < l.length := by simpa using hj
  simp only [List.getElem_set]
  split
  · split
    · omega
    · exact Ne.symm (hne j _ (List.getElem?_eq_getElem hj') (by omega))
  · split
    · exact hne i _ (List.getElem?_eq_getElem hi') (by omega)
    · exact hf i j hi' hj' hij
theorem mem_set_cases {k : Nat} {b c : Bk} (hc : c ∈ l.set k b) : c = b ∨ ∃ j, l[j]? = some c ∧ j ≠ k := by
  obtain ⟨j, hj⟩ := List.getElem?_of_mem hc
  rw [List.getElem?_set] at hj
  split at hj
  · split at hj
    · exact .inl (Option.some.inj hj).symm
    · cases hj
  · exact .inr ⟨j, hj, by omega⟩
theorem Mem.put {g N off n : Nat} {segs segs' : List (Nat × List Value)} (h : Mem G w0 w l) (k : Nat) (hk : l[k]? = some ⟨g, N, segs⟩) (hP : Puts g off n w W) (hT : W.there g 0 N) (hR : ∀ s ∈ segs', W.rangeAt g s.1 s.2) : Mem G w0 W (l.set k ⟨g, N, segs'⟩) := by
  have hb := h.ok _ (mem_of hk)
  refine ⟨hP.os.trans h.os, hP.tape.trans h.tape, hP.output.trans h.output, by rw [hP.size]; exact h.size, fun j hj hG => ?_, fun c hc => ?_, far_set h.far hk fun j c hj hne => far_of h.far hk hj hne⟩
  · refine (hP.other j fun e => ?_).trans (h.old j hj hG)
    subst e
    rcases hb.own with ho | ho
    · exact absurd hj (Nat.not_lt.2 ho)
    · exact hG ho
  · rcases mem_set_cases hc with e | ⟨j, hj, hne⟩
    · rw [e]
      exact ⟨hT, hR, hP.lt hb.lt, hb.own⟩
    · have hc' := h.ok c (mem_of hj)
      have hd : c.g ≠ g := far_of h.far hk hj hne
      exact ⟨hP.other_there hc'.there hd, fun s hs => hP.range (hc'.range s hs) (.inl hd), hP.lt hc'.lt, hc'.own⟩
/-- One cell of a block that reads as one list. -/
theorem Mem.put1 {g N o j off : Nat} {cs : List Value} {v : Value} (h : Mem G w0 w l) (k : Nat) (hk : l[k]? = some ⟨g, N, [(o, cs)]⟩) (hP : Puts g off 1 w W) (hR : W.rangeAt g off [v]) (hT : W.there g 0 N) (hj : off = o + j) : Mem G w0 W (l.set k ⟨g, N, [(o, cs.set j v)]⟩) :=
  h.put k hk hP hT fun s hs => by
    rw [List.mem_singleton.1 hs]
    subst hj
    have hr := (h.ok _ (mem_of hk)).range (o, cs) (List.mem_singleton.2 rfl)
    intro i u hu
    rw [List.getElem?_set] at hu
    split at hu
    · rename_i e
      subst e
      split at hu
      · rw [← Option.some.inj hu]
        exact hR 0 v rfl
      · cases hu
    · rename_i hne
      show W.cell? ⟨g, o + i, none⟩ = some u
      rw [hP.cells (o + i) (by omega)]
      exact hr i u hu
/-- All parts but j stand apart from these cells. -/
def SepS (off n j : Nat) : Nat → List (Nat × List Value) → Prop
  | _, [] => True
  | i, s :: r => (i = j ∨ s.1 + s.2.length ≤ off ∨ off + n ≤ s.1) ∧ SepS off n j (i + 1) r
theorem SepS.at {off n j : Nat} : ∀ {segs : List (Nat × List Value)} {i0 : Nat}, SepS off n j i0 segs → ∀ i s, segs[i]? = some s → i0 + i ≠ j → s.1 + s.2.length ≤ off ∨ off + n ≤ s.1
  | [], _, _, i, s, h, _ => by simp at h
  | t :: r, i0, h, i, s, hs, hne => by
    cases i with
    | zero =>
      have e : t = s := by simpa using hs
      subst e
      rcases h.1 with h1 | h1
      · exact absurd h1 hne
      · exact h1
    | succ i => exact SepS.at h.2 i s (by simpa using hs) (by omega)
/-- A part of a block that is stored whole. -/
theorem Mem.putS {g N off : Nat} {segs : List (Nat × List Value)} {old new : List Value} (h : Mem G w0 w l) (k j : Nat) (hk : l[k]? = some ⟨g, N, segs⟩) (hP : Puts g off new.length w W) (hR : W.rangeAt g off new) (hT : W.there g 0 N)
    (hj : segs[j]? = some (off, old)) (ha : SepS off new.length j 0 segs) : Mem G w0 W (l.set k ⟨g, N, segs.set j (off, new)⟩) :=
  h.put k hk hP hT fun s hs => by
    obtain ⟨i, hi⟩ := List.getElem?_of_mem hs
    rw [List.getElem?_set] at hi
    split at hi
    · split at hi
      · rw [← Option.some.inj hi]; exact hR
      · cases hi
    · rename_i hne
      exact hP.range ((h.ok _ (mem_of hk)).range s (List.mem_of_getElem? hi)) (.inr (ha.at i s hi (by omega)))
/-- One cell of a part. -/
theorem Mem.putI {g N o i off : Nat} {segs : List (Nat × List Value)} {cs : List Value} {v : Value} (h : Mem G w0 w l) (k j : Nat) (hk : l[k]? = some ⟨g, N, segs⟩) (hP : Puts g off 1 w W) (hR : W.rangeAt g off [v]) (hT : W.there g 0 N) (hj : segs[j]? = some (o, cs)) (ho : off = o + i) (hi : i < cs.length) (ha : SepS o cs.length j 0 segs) :
    Mem G w0 W (l.set k ⟨g, N, segs.set j (o, cs.set i v)⟩) :=
  h.put k hk hP hT fun s hs => by
    subst ho
    obtain ⟨q, hq⟩ := List.getElem?_of_mem hs
    rw [List.getElem?_set] at hq
    split at hq
    · split at hq
      · rw [← Option.some.inj hq]
        have hr := (h.ok _ (mem_of hk)).range (o, cs) (List.mem_of_getElem? hj)
        intro x u hu
        rw [List.getElem?_set] at hu
        split at hu
        · rename_i e
          subst e
          rw [← Option.some.inj hu]
          exact hR 0 v rfl
        · rename_i hne
          show W.cell? ⟨g, o + x, none⟩ = some u
          rw [hP.cells (o + x) (by omega)]
          exact hr x u hu
      · cases hq
    · rename_i hne
      refine hP.range ((h.ok _ (mem_of hk)).range s (List.mem_of_getElem? hq)) (.inr ?_)
      have := ha.at q s hq (by omega)
      omega
/-- A block that reads otherwise, too. -/
theorem Mem.read {g N : Nat} {segs segs' : List (Nat × List Value)} (h : Mem G w0 w l) (k : Nat) (hk : l[k]? = some ⟨g, N, segs⟩) (hR : ∀ s ∈ segs', w.rangeAt g s.1 s.2) : Mem G w0 w (l.set k ⟨g, N, segs'⟩) := by
  have hb := h.ok _ (mem_of hk)
  refine ⟨h.os, h.tape, h.output, h.size, h.old, fun c hc => ?_, far_set h.far hk fun j c hj hne => far_of h.far hk hj hne⟩
  rcases mem_set_cases hc with e | ⟨j, hj, hne⟩
  · rw [e]; exact ⟨hb.there, hR, hb.lt, hb.own⟩
  · exact h.ok c (mem_of hj)
theorem Mem.read1 {g N : Nat} {segs : List (Nat × List Value)} {cs : List Value} {o : Nat} (h : Mem G w0 w l) (k : Nat) (hk : l[k]? = some ⟨g, N, segs⟩) (hR : w.rangeAt g o cs) : Mem G w0 w (l.set k ⟨g, N, [(o, cs)]⟩) :=
  h.read k hk fun s hs => by rw [List.mem_singleton.1 hs]; exact hR
/-- Some of the blocks, in any order. -/
theorem Mem.pick {l' : List Bk} (h : Mem G w0 w l) (ks : List Nat) (hn : ks.Nodup) (hl : ks.map (fun k => l[k]?) = l'.map some) : Mem G w0 w l' := by
  have hlen : ks.length = l'.length := by simpa using congrArg List.length hl
  have hat : ∀ i (hi : i < l'.length), l[ks[i]'(by omega)]? = some l'[i] := fun i hi => by
    have := congrArg (fun q => q[i]?) hl
    simpa [List.getElem?_eq_getElem hi, List.getElem?_eq_getElem (show i < ks.length by omega)] using this
  refine ⟨h.os, h.tape, h.output, h.size, h.old, fun b hb => ?_, ?_⟩
  · obtain ⟨i, hi, rfl⟩ := List.getElem_of_mem hb
    exact h.ok _ (mem_of (hat i hi))
  · rw [List.pairwise_iff_getElem]
    intro i j hi hj hij
    refine far_of h.far (hat j hj) (hat i hi) fun e => ?_
    have := List.pairwise_iff_getElem.1 hn i j (by omega) (by omega) hij
    exact this e
/-- A call that makes new blocks alone. -/
theorem Mem.call {l' : List Bk} (h : Mem G w0 w l) (h' : Mem [] w W l') : Mem G w0 W (l' ++ l) := by
  have hs := h.sees h'.seesAll
  refine ⟨hs.os, hs.tape, hs.output, hs.size, hs.old, fun b hb => ?_, ?_⟩
  · rcases List.mem_append.1 hb with e | e
    · have := h'.ok b e
      refine ⟨this.there, this.range, this.lt, .inl ?_⟩
      rcases this.own with ho | ho
      · exact Nat.le_trans h.size ho
      · cases ho
    · exact hs.ok b e
  · refine List.pairwise_append.2 ⟨h'.far, h.far, fun a ha b hb => ?_⟩
    have h1 := h.ok b hb
    rcases (h'.ok a ha).own with ho | ho
    · have := h1.lt
      omega
    · cases ho
/-- A call that changes one block, and makes new ones. -/
theorem Mem.callM {g N : Nat} {segs segs' : List (Nat × List Value)} {l' : List Bk} (h : Mem G w0 w l) (k : Nat) (hk : l[k]? = some ⟨g, N, segs⟩) (h' : Mem [g] w W (⟨g, N, segs'⟩ :: l')) : Mem G w0 W (l' ++ l.set k ⟨g, N, segs'⟩) := by
  have hb := h.ok _ (mem_of hk)
  have hg := h'.ok _ (List.mem_cons_self ..)
  have hother : ∀ c : Bk, c.g ≠ g → c.g < w.heap.size → W.heap[c.g]? = w.heap[c.g]? := fun c hc hl => h'.old c.g hl (by simpa using hc)
  have hset : ∀ c ∈ l.set k ⟨g, N, segs'⟩, c.Ok G w0 W := fun c hc => by
    rcases mem_set_cases hc with e | ⟨j, hj, hne⟩
    · rw [e]
      exact ⟨hg.there, hg.range, hg.lt, hb.own⟩
    · have hc' := h.ok c (mem_of hj)
      have hd : c.g ≠ g := far_of h.far hk hj hne
      have hh := hother c hd hc'.lt
      exact ⟨fun j hj => by rw [World.cell?_of_block (w := w) hh, World.frozen?_of_block (w := w) hh]; exact hc'.there j hj, fun s hs j v hv => by rw [World.cell?_of_block (w := w) hh]; exact hc'.range s hs j v hv, Nat.lt_of_lt_of_le hc'.lt h'.size, hc'.own⟩
  refine ⟨h'.os.trans h.os, h'.tape.trans h.tape, h'.output.trans h.output, Nat.le_trans h.size h'.size, fun j hj hG => ?_, fun b hb' => ?_, ?_⟩
  · refine (h'.old j (Nat.lt_of_lt_of_le hj h.size) fun e => ?_).trans (h.old j hj hG)
    rw [List.mem_singleton.1 e] at hj hG
    rcases hb.own with ho | ho
    · exact absurd hj (Nat.not_lt.2 ho)
    · exact hG ho
  · rcases List.mem_append.1 hb' with e | e
    · have := h'.ok b (List.mem_cons_of_mem _ e)
      refine ⟨this.there, this.range, this.lt, ?_⟩
      have hne : b.g ≠ g := Ne.symm ((List.pairwise_cons.1 h'.far).1 b e)
      rcases this.own with ho | ho
      · exact .inl (Nat.le_trans h.size ho)
      · exact absurd (List.mem_singleton.1 ho) hne
    · exact hset b e
  · refine List.pairwise_append.2 ⟨(List.pairwise_cons.1 h'.far).2, far_set h.far hk fun j c hj hne => far_of h.far hk hj hne, fun a ha b hb' => ?_⟩
    have hne : a.g ≠ g := Ne.symm ((List.pairwise_cons.1 h'.far).1 a ha)
    have hag : w.heap.size ≤ a.g := by
      rcases (h'.ok a (List.mem_cons_of_mem _ ha)).own with ho | ho
      · exact ho
      · exact absurd (List.mem_singleton.1 ho) hne
    rcases mem_set_cases hb' with e | ⟨j, hj, _⟩
    · rw [e]; exact hne
    · have := (h.ok b (mem_of hj)).lt
      omega
/-- A row that has grown. -/
theorem Mem.grow {g N g' N' : Nat} {segs : List (Nat × List Value)} {cs : List Value} (h : Mem G w0 w l) (k : Nat) (hk : l[k]? = some ⟨g, N, segs⟩) (hS : Grew g w W) (hQ : g' = g ∨ w.heap.size ≤ g') (hR : W.rangeAt g' 0 cs) (hT : W.there g' 0 N') (hL : g' < W.heap.size) : Mem G w0 W (l.set k ⟨g', N', [(0, cs)]⟩) := by
  have hb := h.ok _ (mem_of hk)
  have hne' : ∀ j c, l[j]? = some c → j ≠ k → c.g ≠ g' := fun j c hj hne => by
    rcases hQ with e | e
    · rw [e]; exact far_of h.far hk hj hne
    · have := (h.ok c (mem_of hj)).lt
      omega
  refine ⟨hS.os.trans h.os, hS.tape.trans h.tape, hS.output.trans h.output, Nat.le_trans h.size hS.size, fun j hj hG => ?_, fun c hc => ?_, far_set h.far hk hne'⟩
  · refine (hS.block j (Nat.lt_of_lt_of_le hj h.size) fun e => ?_).trans (h.old j hj hG)
    subst e
    rcases hb.own with ho | ho
    · exact absurd hj (Nat.not_lt.2 ho)
    · exact hG ho
  · rcases mem_set_cases hc with e | ⟨j, hj, hne⟩
    · rw [e]
      refine ⟨hT, fun s hs => by rw [List.mem_singleton.1 hs]; exact hR, hL, ?_⟩
      rcases hQ with e | e
      · rw [e]; exact hb.own
      · exact .inl (Nat.le_trans h.size e)
    · have hc' := h.ok c (mem_of hj)
      have hd : c.g ≠ g := far_of h.far hk hj hne
      exact ⟨hS.there hc'.there hd hc'.lt, fun s hs => hS.range (hc'.range s hs) hd hc'.lt, Nat.lt_of_lt_of_le hc'.lt hS.size, hc'.own⟩
/-- A row of a call's own, that may be written. -/
def MemRow (w : World) (n : Nat) (cs : List Value) (v : Value) (W : World) : Prop := ∃ g cap, v = .slice (some ⟨g, 0, none⟩) n cap ∧ n ≤ cap ∧ Mem [] w W [⟨g, cap, [(0, cs)]⟩]
theorem MemRow.below {n : Nat} {cs : List Value} {v : Value} (h : MemRow w n cs v W) : Below w.heap.size w W := by
  obtain ⟨_, _, _, _, h⟩ := h
  exact h.below
theorem Mem.conv {l' : List Bk} (h : Mem G w0 w l) (e : l = l') : Mem G w0 w l' := e ▸ h
theorem Mem.callM1 {g N : Nat} {segs segs' : List (Nat × List Value)} (h : Mem G w0 w l) (k : Nat) (hk : l[k]? = some ⟨g, N, segs⟩) (h' : Mem [g] w W [⟨g, N, segs'⟩]) : Mem G w0 W (l.set k ⟨g, N, segs'⟩) := h.callM k hk h'
theorem Mem.one {g N : Nat} {segs : List (Nat × List Value)} (h : Mem G w0 w l) (k : Nat) (hk : l[k]? = some ⟨g, N, segs⟩) : Mem [g] w w [⟨g, N, segs⟩] :=
  Mem.start1 (h.ok _ (mem_of hk)).there (h.ok _ (mem_of hk)).range (h.ok _ (mem_of hk)).lt
theorem SegsOf.at {g : Nat} {cs : List Value} {segs : List (Nat × List Value)} (h : w.rangeAt g 0 cs) (hs : SegsOf cs segs) : ∀ s ∈ segs, w.rangeAt g s.1 s.2 := fun s hm => range_part h (hs.mem s hm)
theorem zadd {g i : Nat} {v : Value} (h : w.cell? ⟨g, 0 + i, none⟩ = some v) : w.cell? ⟨g, i, none⟩ = some v := by rwa [Nat.zero_add] at h
theorem segs3 {g o1 o2 o3 : Nat} {c1 c2 c3 : List Value} (h1 : w.rangeAt g o1 c1) (h2 : w.rangeAt g o2 c2) (h3 : w.rangeAt g o3 c3) : ∀ s ∈ [(o1, c1), (o2, c2), (o3, c3)], w.rangeAt g s.1 s.2 := fun s hs => by
  simp at hs
  rcases hs with rfl | rfl | rfl
  · exact h1
  · exact h2
  · exact h3
theorem Mem.belowB {B : Nat} (h : Mem G w0 w l) (hb : Below B w W) (h0 : w0.heap.size ≤ B) (hl : ∀ b ∈ l, b.g < B) : Mem G w0 W l :=
  ⟨hb.os.trans h.os, hb.tape.trans h.tape, hb.output.trans h.output, Nat.le_trans h.size hb.size, fun k hk hG => (hb.block k (Nat.lt_of_lt_of_le hk h0)).trans (h.old k hk hG),
   fun b hm => by
    have hh := hb.block b.g (hl b hm)
    have hk := h.ok b hm
    exact ⟨fun j hj => by rw [World.cell?_of_block (w := w) hh, World.frozen?_of_block (w := w) hh]; exact hk.there j hj, fun s hs j v hv => by rw [World.cell?_of_block (w := w) hh]; exact hk.range s hs j v hv, Nat.lt_of_lt_of_le hk.lt hb.size, hk.own⟩, h.far⟩
theorem Mem.nil (h : Mem G w0 w l) : Mem G w0 w [] := ⟨h.os, h.tape, h.output, h.size, h.old, fun _ hb => (by cases hb), .nil⟩
theorem then_exit {Q : Exit → Act → World → Prop} {K : Act → World → Prop} {i : Nat} {a : Act} {w : World} (h : Q (.exit i) a w) : Exit.then K Q (.exit i) a w := h
theorem inblock_exit {Q : Exit → Act → World → Prop} {i : Nat} {a : Act} {w : World} (h : Q .normal a w) : Exit.inBlock i Q (.exit i) a w := by simpa [Exit.inBlock] using h
section vals
variable {P : Program} {ops : Array Oper} {L : Act → Prop} {o : Oper} {rest : List Oper} {a : Act}
theorem wpV_nilCheck {x : Operand} {p : Addr} (hw : Region.wanted o (yielded ops a.tmps) = true) (ho : o.op = .nilCheck x) (hx : a.eval x = .pointer (some p)) (h : wpV P ops w0 L rest (a.put o.dst (.pointer (some p)))) : wpV P ops w0 L (o :: rest) a :=
  wpV_val (by simp [isAlloc, ho]) hw (fun W _ => by
    unfold RunsVal
    simp [execOp, ho, hx, Instr.sureAddr, asAddr, Sem.run_bind, Sem.run_pure]) h
theorem wpV_un {op : UnOp} {T : TypeId} {x : Operand} {u v : Value} (hw : Region.wanted o (yielded ops a.tmps) = true) (ho : o.op = .unOp op T x) (hx : a.eval x = u) (hr : ∀ W, (Op.unary op u).run P W = .ok v W) (h : wpV P ops w0 L rest (a.put o.dst v)) : wpV P ops w0 L (o :: rest) a :=
  wpV_val (by simp [isAlloc, ho]) hw (fun W _ => by
    unfold RunsVal
    simp [execOp, ho, hx, Sem.run_bind, hr W]) h
theorem run_dropS {T : TypeId} (hT : P.underlying T = some .string) {l : List UInt8} {lo : Nat} {k : IntKind} (hh : lo ≤ l.length) (W : World) : (Instr.sliceAt T (.string (bs l)) (some (.int k ((lo : Nat) : Int))) none none).run P W = .ok (.string (bs (l.drop lo))) W := by
  have e : (bs l).extract lo (bs l).size = bs (l.drop lo) := by
    apply ByteArray.ext
    simp [bs, ByteArray.extract, ByteArray.copySlice, bs_size]
    exact List.take_of_length_le (by rw [List.length_drop]; exact Nat.le_refl _)
  simp [Instr.sliceAt, Instr.slice, Instr.sliceBounds, Instr.sliceBound, asIntOf, run_underlying hT, Sem.run_bind, hh, bs_size] at e ⊢
  exact e
theorem wpV_drop {T : TypeId} {x y : Operand} {l : List UInt8} {lo : Nat} {k : IntKind} (hw : Region.wanted o (yielded ops a.tmps) = true) (ho : o.op = .slice T x (some y) none none) (hx : a.eval x = .string (bs l)) (hy : a.eval y = .int k ((lo : Nat) : Int))
    (hT : P.underlying T = some .string) (hh : lo ≤ l.length) (h : wpV P ops w0 L rest (a.put o.dst (.string (bs (l.drop lo))))) : wpV P ops w0 L (o :: rest) a :=
  wpV_val (by simp [isAlloc, ho]) hw (fun W _ => by
    unfold RunsVal
    have := run_dropS (P := P) hT (k := k) hh W
    simp only [execOp, ho, hx, hy, Option.map_none, Option.map_some, Sem.run_bind, this, Result.andThen_ok, Sem.run_pure]) h
theorem run_eqlN (m n : Nat) (T : TypeId) (k : IntKind) (W : World) : (binOp .eql T (.int k (m : Nat)) (.int k (n : Nat))).run P W = .ok (.bool (decide (m = n))) W := by
  rw [run_eql]
  congr 2
  rw [Bool.eq_iff_iff]
  simp
  omega
theorem run_neqN (m n : Nat) (T : TypeId) (k : IntKind) (W : World) : (binOp .neq T (.int k (m : Nat)) (.int k (n : Nat))).run P W = .ok (.bool (decide (m ≠ n))) W := by
  rw [run_neq]
  congr 2
  rw [Bool.eq_iff_iff]
  simp
  omega
end vals
section tails
variable {P : Program} {ops : Array Oper} {Q : Exit → Act → World → Prop} {o : Oper} {rest : List Oper} {a : Act}
theorem wpL_rowN {T e : TypeId} {n : Nat} {parts : Array (Nat × Operand)} {z : Value} {bytes : Nat} {vs : List Value} (hg : o.guard = none) (ho : o.op = .buildSlice T n parts) (hT : P.underlying T = some (.slice e)) (hinfo : (P.info? e).map (fun i => (i.zero, i.size, i.bytes)) = some (some z, 1, bytes)) (hn : 0 < n ∧ n ≤ 16777216)
    (hf : Instr.fill (fun i => some (i * 1, 1)) ((Array.range (n * 1)).map (z.cells[· % z.cells.size]!)) (parts.map fun (i, x) => (i, a.eval x)).toList = some vs.toArray)
    (h : ∀ g W', Sees W W' → W.heap.size ≤ g → Blk W' g e vs.toArray → wpList P ops Q rest (a.put o.dst (.slice (some ⟨g, 0, none⟩) n n)) W') : wpList P ops Q (o :: rest) a W := by
  obtain ⟨i, hi, he⟩ := Option.map_eq_some_iff.1 hinfo
  simp only [Prod.mk.injEq] at he
  obtain ⟨hz, h1, h2⟩ := he
  refine wpL_new (T := T) (e := e) (len := n) (cs := vs) hg ?_ h
  have := run_buildSlice (P := P) W T e n (parts.map fun (i, x) => (i, a.eval x)) vs.toArray i z hT hi hz (by rw [h1]; omega) (by rw [h1]; omega) (by rw [h1]; exact hf)
  simp [execOp, ho, this]
/-- A call of whatever effect. -/
theorem wpL_callM {f : FuncId} {fn : Func} {xs : Array Operand} {ts : Array TypeId} {args : Array Value} {R : Value → World → Prop} (hg : o.guard = none) (ho : o.op = .call { callee := .value (.func f), args := xs, argTypes := ts }) (hargs0 : xs.toList.map a.eval = args.toList) (hf : P.funcs[f]? = some fn)
    (hn : (fn.name == "runtime.NumGoroutine") = false) (hbd : fn.body.isNone = false)
    (hc : Calls P f args W (fun e W' => ∃ v, e = .returned v ∧ R v W')) (h : ∀ v W', R v W' → wpList P ops Q rest (a.put o.dst v) W') : wpList P ops Q (o :: rest) a W :=
  wpList_plain hg fun K hK => by
    unfold Oper.wp
    rw [show (execOp a.eval o).run P W = .ok (.enter f args) W by rw [run_call_body ho rfl hf hn hbd, (Array.toList_inj.1 (by rw [Array.toList_map]; exact hargs0) : xs.map a.eval = args)]]
    exact hc.mono fun e W' ⟨v, he, hr⟩ => by subst he; exact hK _ _ (h v W' hr)
end tails
end Go.Proofs.Num

namespace Go.Proofs.Num
open Go Go.RowKit
def lookL : List Value → Nat → Option Value
 | [], _ => none
 | v :: _, 0 => some v
 | _ :: l, i + 1 => lookL l i
theorem lookL_get : ∀ (l : List Value) (i : Nat), lookL l i = l[i]?
 | [], _ => rfl
 | _ :: _, 0 => rfl
 | _ :: l, i + 1 => by simp [lookL, lookL_get l i]
/-- What an operand is, read off the frame. -/
def lookA (a : Act) : Operand → Option Value
 | .tmp t => lookL a.tmps.toList t
 | .const v => some v
 | .global g => some (.pointer (some ⟨g, 0, none⟩))
 | .func f => some (.func (.func f) #[] #[])
theorem lookA_eval {a : Act} {x : Operand} {v : Value} (h : lookA a x = some v) : a.eval x = v := by
 cases x with
 | tmp t =>
  have h2 : a.tmps.toList[t]? = some v := by rw [← lookL_get]; exact h
  show a.tmps.getD t undef = v
  rw [Array.getElem?_toList] at h2
  simp [Array.getD_eq_getD_getElem?, h2]
 | const u => exact Option.some.inj h
 | global g => exact Option.some.inj h
 | func f => exact Option.some.inj h
section
variable {P : Program} {ops : Array Oper} {w0 : World} {L : Act → Prop} {o : Oper} {rest : List Oper} {a : Act} {v : Value}
theorem vMv {x : Operand} (h : wpV P ops w0 L rest (a.put o.dst v)) (hw : Region.wanted o (yielded ops a.tmps) = true := by rfl) (ho : o.op = .move x := by rfl) (hx : a.eval x = v := by rfl) : wpV P ops w0 L (o :: rest) a := wpV_move hw ho hx h
theorem vMt {x : Operand} (h : wpV P ops w0 L rest (a.put o.dst v)) (hw : Region.wanted o (yielded ops a.tmps) = true := by rfl) (ho : o.op = .move x := by rfl) (hx : lookA a x = some v := by rfl) : wpV P ops w0 L (o :: rest) a := wpV_move hw ho (lookA_eval hx) h
theorem vNc {x : Operand} {p : Addr} (h : wpV P ops w0 L rest (a.put o.dst (.pointer (some p)))) (hw : Region.wanted o (yielded ops a.tmps) = true := by rfl) (ho : o.op = .nilCheck x := by rfl) (hx : a.eval x = .pointer (some p) := by rfl) : wpV P ops w0 L (o :: rest) a := wpV_nilCheck hw ho hx h
theorem vGo (h : wpV P ops w0 L rest (a.put o.dst v)) (ha : isAlloc o = false := by rfl) (hw : Region.wanted o (yielded ops a.tmps) = true := by rfl) (hr : ∀ W, Sees w0 W → RunsVal ((execOp a.eval o).run P W) v W := by (intro W hW; (try simp only [putT, List.set]); go_simp; exact rfl)) : wpV P ops w0 L (o :: rest) a := wpV_val ha hw hr h
theorem vGk (h : wpV P ops w0 L rest (a.put o.dst v)) (ha : isAlloc o = false := by rfl) (hw : Region.wanted o (yielded ops a.tmps) = true := by rfl) (hr : ∀ W, Sees w0 W → RunsVal ((execOp a.eval o).run P W) v W := by (intro W hW; unfold RunsVal; kernel_rfl)) : wpV P ops w0 L (o :: rest) a := wpV_val ha hw hr h
theorem vL1 {ty : TypeId} {x : Operand} {b off : Nat} {d : TypeDesc} (hc : w0.cell? ⟨b, off, none⟩ = some v) (hb : b < w0.heap.size) (hu : P.underlying ty = some d) (h : wpV P ops w0 L rest (a.put o.dst v)) (hw : Region.wanted o (yielded ops a.tmps) = true := by rfl) (ho : o.op = .load ty x := by rfl) (hx : a.eval x = .pointer (some ⟨b, off, none⟩) := by rfl) (hd : d.isRow = false := by rfl) : wpV P ops w0 L (o :: rest) a := wpV_load1 hw ho hx hc hb hu hd h
theorem vLd {ty : TypeId} {x : Operand} {b off : Nat} {cs : List Value} {d : TypeDesc} (hc : w0.rangeAt b off cs) (hb : b < w0.heap.size) (hu : P.underlying ty = some d) (hi : (P.info? ty).map (·.size) = some cs.length) (h : wpV P ops w0 L rest (a.put o.dst (.agg cs.toArray))) (hw : Region.wanted o (yielded ops a.tmps) = true := by rfl) (ho : o.op = .load ty x := by rfl) (hx : a.eval x = .pointer (some ⟨b, off, none⟩) := by rfl) (hd : d.isRow = true := by rfl) : wpV P ops w0 L (o :: rest) a := wpV_load hw ho hx hc hb hu hd hi h
theorem vSk (h : wpV P ops w0 L rest (a.put o.dst undef)) (ha : isAlloc o = false := by rfl) (hw : Region.wanted o (yielded ops a.tmps) = false := by rfl) : wpV P ops w0 L (o :: rest) a := wpV_skip ha hw h
theorem vAl (h : wpV P ops w0 L rest a) (ha : isAlloc o = true := by rfl) : wpV P ops w0 L (o :: rest) a := wpV_alloc ha h
theorem vPk {c x y : Operand} {b : Bool} (h : wpV P ops w0 L rest (a.put o.dst v)) (hw : Region.wanted o (yielded ops a.tmps) = true := by rfl) (ho : o.op = .pick c x y := by rfl) (hc : a.eval c = .bool b := by rfl) (hv : (if b then a.eval x else a.eval y) = v := by rfl) : wpV P ops w0 L (o :: rest) a := wpV_pick hw ho hc hv h
theorem vBn {op : BinOp} {T T' : TypeId} {x y : Operand} {k k' : IntKind} {m n : Int} (h : wpV P ops w0 L rest (a.put o.dst v)) (hw : Region.wanted o (yielded ops a.tmps) = true := by rfl) (ho : o.op = .binOp op T x y T' := by rfl) (hx : a.eval x = .int k m := by rfl) (hy : a.eval y = .int k' n := by rfl) (hr : ∀ W, (binOp op T (.int k m) (.int k' n)).run P W = .ok v W) : wpV P ops w0 L (o :: rest) a := wpV_bin hw ho hx hy hr h
end
section
variable {P : Program} {ops : Array Oper} {Q : Exit → Act → World → Prop} {o : Oper} {rest : List Oper} {a : Act} {W : World} {v : Value}
theorem lMv {x : Operand} (h : wpList P ops Q rest (a.put o.dst v) W) (hg : o.guard = none := by rfl) (ho : o.op = .move x := by rfl) (hx : a.eval x = v := by rfl) : wpList P ops Q (o :: rest) a W := wpL_move hg ho hx h
theorem lMt {x : Operand} (h : wpList P ops Q rest (a.put o.dst v) W) (hg : o.guard = none := by rfl) (ho : o.op = .move x := by rfl) (hx : lookA a x = some v := by rfl) : wpList P ops Q (o :: rest) a W := wpL_move hg ho (lookA_eval hx) h
theorem lAt {x : Operand} (h : wpList P ops Q rest (a.put o.dst v) W) (hg : o.guard = none := by rfl) (ho : o.op = .assign x := by rfl) (hx : lookA a x = some v := by rfl) : wpList P ops Q (o :: rest) a W := wpL_assign hg ho (lookA_eval hx) h
theorem lCh (k : Nat) {l : List Oper} (h : ∀ L : Act → Prop, (∀ a', (∀ W', Sees W W' → wpList P ops Q (l.drop k) a' W') → L a') → wpV P ops W L (l.take k) a) (ha : ((l.take k).all fun o => !isAlloc o) = true := by rfl) : wpList P ops Q l a W := wpL_chunk k ha h
theorem lNp (h : Q .normal a W) : wpList P ops (NoPanic Q) [] a W := wpL_nil (no_panic h)
theorem lS1 {ty : TypeId} {x y : Operand} {g off n : Nat} (ht : W.there g 0 n) (hn : off < n) (hi : (P.info? ty).map (·.size) = some 1) (h1 : v.oneCell' = true) (h : ∀ W', Puts g off 1 W W' → W'.rangeAt g off [v] → W'.there g 0 n → wpList P ops Q rest a W') (hg : o.guard = none := by rfl) (ho : o.op = .store ty x y := by rfl) (hd : o.dst = none := by rfl) (hx : a.eval x = .pointer (some ⟨g, off, none⟩) := by rfl) (hy : a.eval y = v := by rfl) : wpList P ops Q (o :: rest) a W := wpL_store1 hg ho hd hx hy ht hn hi h1 h
theorem lSt {ty : TypeId} {x y : Operand} {g off n : Nat} {cs : List Value} (ht : W.there g 0 n) (hn : off + cs.length ≤ n) (hi : (P.info? ty).map (·.size) = some cs.length) (h1 : ∀ v ∈ cs, v.oneCell' = true) (h : ∀ W', Puts g off cs.length W W' → W'.rangeAt g off cs → W'.there g 0 n → wpList P ops Q rest a W') (hg : o.guard = none := by rfl) (ho : o.op = .store ty x y := by rfl) (hd : o.dst = none := by rfl) (hx : a.eval x = .pointer (some ⟨g, off, none⟩) := by rfl) (hy : a.eval y = .agg cs.toArray := by rfl) : wpList P ops Q (o :: rest) a W := wpL_store hg ho hd hx hy ht hn hi h1 h
theorem lAs {x : Operand} (h : wpList P ops Q rest (a.put o.dst v) W) (hg : o.guard = none := by rfl) (ho : o.op = .assign x := by rfl) (hx : a.eval x = v := by rfl) : wpList P ops Q (o :: rest) a W := wpL_assign hg ho hx h
end
section
variable {P : Program} {Q : Exit → Act → World → Prop} {l : List Oper}
/-- A load among operations that may come in any order. -/
theorem any_load {fuel : Nat} {listed : Array Bool} {a : Act} {w : World} {o : Oper} {ty : TypeId} {x : Operand} {b off : Nat} {v : Value} {d : TypeDesc} (i : Nat) (hc : w.cell? ⟨b, off, none⟩ = some v) (hu : P.underlying ty = some d)
  (h : wpAny P .any l.toArray Q fuel listed (a.put o.dst v) w) (hi : l[i]? = some o := by rfl) (hg : o.guard = none := by rfl) (ho : o.op = .load ty x := by rfl) (hx : a.eval x = .pointer (some ⟨b, off, none⟩) := by rfl) (hd : d.isRow = false := by rfl) : wpOp P l.toArray Q i (wpAny P .any l.toArray Q fuel listed) a w := by
 refine any_op i (o := o) (by simpa using hi) (wpList_plain hg fun K hK => ?_)
 unfold Oper.wp
 simp only [execOp, ho, hx, run_loadAt_one w b off ty v d hc hu hd, Sem.run_bind, Result.andThen_ok, Sem.run_pure, Oper.upon_value]
 exact hK _ _ (wpL_nil (then_normal h))
/-- What comes behind the loads is shown once. -/
theorem any_hub {fuel : Nat} {listed : Array Bool} {a : Act} {w : World} (n : Nat) (l2 : Array Bool) (a2 : Act) (h : wpAny P .any l.toArray Q n l2 a2 w → wpAny P .any l.toArray Q fuel listed a w) (h2 : wpAny P .any l.toArray Q n l2 a2 w) : wpAny P .any l.toArray Q fuel listed a w := h h2
theorem any_listed {fuel : Nat} {l1 l2 : Array Bool} {a : Act} {w : World} (e : l1 = l2) (h : wpAny P .any l.toArray Q fuel l2 a w) : wpAny P .any l.toArray Q fuel l1 a w := e ▸ h
end
end Go.Proofs.Num

namespace Go.Proofs.Num
open Go Go.RowKit
variable {P : Program}
theorem toNat_of {n a : Nat} (h : a < 2 ^ n) : (BitVec.ofInt n (a : Int)).toNat = a := by
 rw [BitVec.ofInt_natCast, BitVec.toNat_ofNat]
 exact Nat.mod_eq_of_lt h
theorem wrap32N (n : Nat) : IntKind.wrap .u32 (n : Int) = ((n % 4294967296 : Nat) : Int) := by simp [IntKind.wrap, IntKind.bits, IntKind.signed]
theorem run_xor' {T : TypeId} {k : IntKind} {m n e : Int} (h : bits .xor k m n = e) (W : World) : (binOp .xor T (.int k m) (.int k n)).run P W = .ok (.int k e) W := by subst h; simp [binOp, go_sem]
section
variable {T : TypeId} {x y : Nat} (hx : x < 4294967296) (hy : y < 4294967296)
include hx hy
theorem nr_xor32 (W : World) : (binOp .xor T (.int .u32 (x : Int)) (.int .u32 (y : Int))).run P W = .ok (.int .u32 ((x ^^^ y : Nat) : Int)) W := by
 have h : x ^^^ y < 2 ^ 32 := Nat.xor_lt_two_pow hx hy
 refine run_xor' (e := ((x ^^^ y : Nat) : Int)) ?_ W
 show IntKind.wrap .u32 ((BitVec.ofInt 32 (x : Int) ^^^ BitVec.ofInt 32 (y : Int)).toNat : Int) = _
 rw [BitVec.toNat_xor, toNat_of hx, toNat_of hy, wrap32N, Nat.mod_eq_of_lt h]
theorem nr_and32 (W : World) : (binOp .and T (.int .u32 (x : Int)) (.int .u32 (y : Int))).run P W = .ok (.int .u32 ((x &&& y : Nat) : Int)) W := by
 have h : x &&& y < 2 ^ 32 := Nat.and_lt_two_pow _ hy
 refine run_and (e := ((x &&& y : Nat) : Int)) ?_ W
 show IntKind.wrap .u32 ((BitVec.ofInt 32 (x : Int) &&& BitVec.ofInt 32 (y : Int)).toNat : Int) = _
 rw [BitVec.toNat_and, toNat_of hx, toNat_of hy, wrap32N, Nat.mod_eq_of_lt h]
theorem nr_or32 (W : World) : (binOp .or T (.int .u32 (x : Int)) (.int .u32 (y : Int))).run P W = .ok (.int .u32 ((x ||| y : Nat) : Int)) W := by
 have h : x ||| y < 2 ^ 32 := Nat.or_lt_two_pow hx hy
 refine run_or (e := ((x ||| y : Nat) : Int)) ?_ W
 show IntKind.wrap .u32 ((BitVec.ofInt 32 (x : Int) ||| BitVec.ofInt 32 (y : Int)).toNat : Int) = _
 rw [BitVec.toNat_or, toNat_of hx, toNat_of hy, wrap32N, Nat.mod_eq_of_lt h]
end
theorem nr_add32 (T : TypeId) (x y : Nat) (W : World) : (binOp .add T (.int .u32 (x : Int)) (.int .u32 (y : Int))).run P W = .ok (.int .u32 (((x + y) % 4294967296 : Nat) : Int)) W :=
 run_add (by rw [← wrap32N]; rfl) W
theorem nr_shl32 {T : TypeId} {k' : IntKind} {x n : Nat} (h : n ≤ 32) (W : World) : (binOp .shl T (.int .u32 (x : Nat)) (.int k' (n : Nat))).run P W = .ok (.int .u32 ((x * 2 ^ n % 4294967296 : Nat) : Int)) W :=
 run_shl h (wrap32N _) W
theorem nr_shr32 {T : TypeId} {k' : IntKind} {x n : Nat} (h : n ≤ 32) (W : World) : (binOp .shr T (.int .u32 (x : Nat)) (.int k' (n : Nat))).run P W = .ok (.int .u32 ((x / 2 ^ n : Nat) : Int)) W :=
 run_shr h rfl W
theorem nr_not32 {x : Nat} (hx : x < 4294967296) (W : World) : (Op.unary .xor (.int .u32 (x : Int))).run P W = .ok (.int .u32 ((4294967295 ^^^ x : Nat) : Int)) W := by
 have h : 4294967295 ^^^ x < 2 ^ 32 := Nat.xor_lt_two_pow (by decide) hx
 have e : bits .xor .u32 4294967295 (x : Int) = ((4294967295 ^^^ x : Nat) : Int) := by
  show IntKind.wrap .u32 ((BitVec.ofInt 32 ((4294967295 : Nat) : Int) ^^^ BitVec.ofInt 32 (x : Int)).toNat : Int) = _
  rw [BitVec.toNat_xor, toNat_of (by decide), toNat_of hx, wrap32N, Nat.mod_eq_of_lt h]
 rw [← e]
 rfl
theorem xor_lt32 {x y : Nat} (hx : x < 4294967296) (hy : y < 4294967296) : x ^^^ y < 4294967296 := Nat.xor_lt_two_pow (n := 32) hx hy
theorem and_lt32 {x y : Nat} (hy : y < 4294967296) : x &&& y < 4294967296 := Nat.and_lt_two_pow (n := 32) _ hy
theorem or_lt32 {x y : Nat} (hx : x < 4294967296) (hy : y < 4294967296) : x ||| y < 4294967296 := Nat.or_lt_two_pow (n := 32) hx hy
theorem mod_lt32 (x : Nat) : x % 4294967296 < 4294967296 := Nat.mod_lt _ (by decide)
theorem div_lt32 {x : Nat} (n : Nat) (h : x < 4294967296) : x / n < 4294967296 := Nat.lt_of_le_of_lt (Nat.div_le_self ..) h
theorem wrap64N (n : Nat) : IntKind.wrap .u64 (n : Int) = ((n % 18446744073709551616 : Nat) : Int) := by simp [IntKind.wrap, IntKind.bits, IntKind.signed]
section
variable {T : TypeId} {x y : Nat} (hx : x < 18446744073709551616) (hy : y < 18446744073709551616)
include hx hy
theorem nr_xor64 (W : World) : (binOp .xor T (.int .u64 (x : Int)) (.int .u64 (y : Int))).run P W = .ok (.int .u64 ((x ^^^ y : Nat) : Int)) W := by
 have h : x ^^^ y < 2 ^ 64 := Nat.xor_lt_two_pow hx hy
 refine run_xor' (e := ((x ^^^ y : Nat) : Int)) ?_ W
 show IntKind.wrap .u64 ((BitVec.ofInt 64 (x : Int) ^^^ BitVec.ofInt 64 (y : Int)).toNat : Int) = _
 rw [BitVec.toNat_xor, toNat_of hx, toNat_of hy, wrap64N, Nat.mod_eq_of_lt h]
theorem nr_and64 (W : World) : (binOp .and T (.int .u64 (x : Int)) (.int .u64 (y : Int))).run P W = .ok (.int .u64 ((x &&& y : Nat) : Int)) W := by
 have h : x &&& y < 2 ^ 64 := Nat.and_lt_two_pow _ hy
 refine run_and (e := ((x &&& y : Nat) : Int)) ?_ W
 show IntKind.wrap .u64 ((BitVec.ofInt 64 (x : Int) &&& BitVec.ofInt 64 (y : Int)).toNat : Int) = _
 rw [BitVec.toNat_and, toNat_of hx, toNat_of hy, wrap64N, Nat.mod_eq_of_lt h]
theorem nr_or64 (W : World) : (binOp .or T (.int .u64 (x : Int)) (.int .u64 (y : Int))).run P W = .ok (.int .u64 ((x ||| y : Nat) : Int)) W := by
 have h : x ||| y < 2 ^ 64 := Nat.or_lt_two_pow hx hy
 refine run_or (e := ((x ||| y : Nat) : Int)) ?_ W
 show IntKind.wrap .u64 ((BitVec.ofInt 64 (x : Int) ||| BitVec.ofInt 64 (y : Int)).toNat : Int) = _
 rw [BitVec.toNat_or, toNat_of hx, toNat_of hy, wrap64N, Nat.mod_eq_of_lt h]
end
theorem nr_add64 (T : TypeId) (x y : Nat) (W : World) : (binOp .add T (.int .u64 (x : Int)) (.int .u64 (y : Int))).run P W = .ok (.int .u64 (((x + y) % 18446744073709551616 : Nat) : Int)) W :=
 run_add (by rw [← wrap64N]; rfl) W
theorem nr_mul64 (T : TypeId) (x y : Nat) (W : World) : (binOp .mul T (.int .u64 (x : Int)) (.int .u64 (y : Int))).run P W = .ok (.int .u64 (((x * y) % 18446744073709551616 : Nat) : Int)) W :=
 run_mul (by rw [← wrap64N, Int.natCast_mul]) W
theorem nr_sub64 {T : TypeId} {x y : Nat} (h : y ≤ x) (hx : x < 18446744073709551616) (W : World) : (binOp .sub T (.int .u64 (x : Int)) (.int .u64 (y : Int))).run P W = .ok (.int .u64 ((x - y : Nat) : Int)) W :=
 run_sub (by rw [show ((x : Int) - (y : Int)) = ((x - y : Nat) : Int) by omega, wrap64N, Nat.mod_eq_of_lt (by omega)]) W
theorem nr_shl64 {T : TypeId} {k' : IntKind} {x n : Nat} (h : n ≤ 64) (W : World) : (binOp .shl T (.int .u64 (x : Nat)) (.int k' (n : Nat))).run P W = .ok (.int .u64 ((x * 2 ^ n % 18446744073709551616 : Nat) : Int)) W :=
 run_shl h (wrap64N _) W
theorem nr_shr64 {T : TypeId} {k' : IntKind} {x n : Nat} (h : n ≤ 64) (W : World) : (binOp .shr T (.int .u64 (x : Nat)) (.int k' (n : Nat))).run P W = .ok (.int .u64 ((x / 2 ^ n : Nat) : Int)) W :=
 run_shr h rfl W
theorem nr_not64 {x : Nat} (hx : x < 18446744073709551616) (W : World) : (Op.unary .xor (.int .u64 (x : Int))).run P W = .ok (.int .u64 ((18446744073709551615 ^^^ x : Nat) : Int)) W := by
 have h : 18446744073709551615 ^^^ x < 2 ^ 64 := Nat.xor_lt_two_pow (by decide) hx
 have e : bits .xor .u64 18446744073709551615 (x : Int) = ((18446744073709551615 ^^^ x : Nat) : Int) := by
  show IntKind.wrap .u64 ((BitVec.ofInt 64 ((18446744073709551615 : Nat) : Int) ^^^ BitVec.ofInt 64 (x : Int)).toNat : Int) = _
  rw [BitVec.toNat_xor, toNat_of (by decide), toNat_of hx, wrap64N, Nat.mod_eq_of_lt h]
 rw [← e]
 rfl
theorem xor_lt64 {x y : Nat} (hx : x < 18446744073709551616) (hy : y < 18446744073709551616) : x ^^^ y < 18446744073709551616 := Nat.xor_lt_two_pow (n := 64) hx hy
theorem and_lt64 {x y : Nat} (hy : y < 18446744073709551616) : x &&& y < 18446744073709551616 := Nat.and_lt_two_pow (n := 64) _ hy
theorem or_lt64 {x y : Nat} (hx : x < 18446744073709551616) (hy : y < 18446744073709551616) : x ||| y < 18446744073709551616 := Nat.or_lt_two_pow (n := 64) hx hy
theorem mod_lt64 (x : Nat) : x % 18446744073709551616 < 18446744073709551616 := Nat.mod_lt _ (by decide)
theorem div_lt64 {x : Nat} (n : Nat) (h : x < 18446744073709551616) : x / n < 18446744073709551616 := Nat.lt_of_le_of_lt (Nat.div_le_self ..) h
end Go.Proofs.Num

namespace Go.Proofs.Num
open Go
def rotr (x n : Nat) : Nat := x / 2 ^ n + x % 2 ^ n * 2 ^ (32 - n)
theorem rotr_or {x n : Nat} (hx : x < 4294967296) (hn : n ≤ 32) : (x * 2 ^ (32 - n) % 4294967296) ||| (x / 2 ^ n) = rotr x n := by
 have hp : (4294967296 : Nat) = 2 ^ (32 - n) * 2 ^ n := by rw [← Nat.pow_add, show 32 - n + n = 32 by omega]
 have h1 : x * 2 ^ (32 - n) % 4294967296 = 2 ^ (32 - n) * (x % 2 ^ n) := by
  rw [hp, Nat.mul_comm x, Nat.mul_mod_mul_left]
 have h2 : x / 2 ^ n < 2 ^ (32 - n) := by
  refine Nat.div_lt_of_lt_mul ?_
  rw [Nat.mul_comm, ← hp]; exact hx
 rw [h1, Nat.mul_comm, ← Nat.shiftLeft_eq, ← Nat.shiftLeft_add_eq_or_of_lt h2, Nat.shiftLeft_eq]
 unfold rotr
 omega
theorem rotr_lt {x n : Nat} (hx : x < 4294967296) (hn : n ≤ 32) : rotr x n < 4294967296 := by
 rw [← rotr_or hx hn]
 exact or_lt32 (mod_lt32 _) (div_lt32 _ hx)
def sg0 (a : Nat) : Nat := (rotr a 7 ^^^ rotr a 18) ^^^ (a / 2 ^ 3)
def sg1 (a : Nat) : Nat := (rotr a 17 ^^^ rotr a 19) ^^^ (a / 2 ^ 10)
def bg1 (a : Nat) : Nat := (rotr a 6 ^^^ rotr a 11) ^^^ rotr a 25
def bg0 (a : Nat) : Nat := (rotr a 2 ^^^ rotr a 13) ^^^ rotr a 22
def chs (e f g : Nat) : Nat := (e &&& f) ^^^ ((4294967295 ^^^ e) &&& g)
def maj (a b c : Nat) : Nat := ((a &&& b) ^^^ (a &&& c)) ^^^ (b &&& c)
section
variable {a b c : Nat} (ha : a < 4294967296)
include ha
end
/-- Four bytes, the highest one first. -/
def be4 (l : List UInt8) (i : Nat) : Nat := ((byteN l i * 256 + byteN l (i + 1)) * 256 + byteN l (i + 2)) * 256 + byteN l (i + 3)
theorem be4_lt (l : List UInt8) (i : Nat) : be4 l i < 4294967296 := by
 have := byteN_lt l i; have := byteN_lt l (i + 1); have := byteN_lt l (i + 2); have := byteN_lt l (i + 3)
 unfold be4; omega
def nextW (l : List UInt8) (p : List Nat) (t : Nat) : Nat :=
 if t < 16 then be4 l (4 * t) else (((p.getD (t - 16) 0 + sg0 (p.getD (t - 15) 0)) % 4294967296 + p.getD (t - 7) 0) % 4294967296 + sg1 (p.getD (t - 2) 0)) % 4294967296
def wlist (l : List UInt8) : Nat → List Nat
 | 0 => []
 | t + 1 => wlist l t ++ [nextW l (wlist l t) t]
theorem wlist_len (l : List UInt8) : ∀ t, (wlist l t).length = t
 | 0 => rfl
 | t + 1 => by simp [wlist, wlist_len l t]
theorem wlist_get (l : List UInt8) : ∀ {t j : Nat}, j < t → (wlist l t).getD j 0 = nextW l (wlist l j) j
 | t + 1, j, h => by
  by_cases hj : j < t
  ·
   rw [← wlist_get l hj]
   simp only [wlist, List.getD_eq_getElem?_getD]
   rw [List.getElem?_append_left (by rw [wlist_len]; exact hj)]
  ·
   have e : j = t := by omega
   subst e
   simp only [wlist, List.getD_eq_getElem?_getD]
   rw [List.getElem?_append_right (by rw [wlist_len]; exact Nat.le_refl _), wlist_len, Nat.sub_self]
   rfl
/-- The words that are made of a block. -/
def shW (l : List UInt8) (t : Nat) : Nat := nextW l (wlist l t) t
theorem shW_lo {l : List UInt8} {t : Nat} (h : t < 16) : shW l t = be4 l (4 * t) := if_pos h
theorem shW_hi {l : List UInt8} {t : Nat} (h : ¬ t < 16) : shW l t = (((shW l (t - 16) + sg0 (shW l (t - 15))) % 4294967296 + shW l (t - 7)) % 4294967296 + sg1 (shW l (t - 2))) % 4294967296 := by
 have h1 := wlist_get l (t := t) (j := t - 16) (by omega)
 have h2 := wlist_get l (t := t) (j := t - 15) (by omega)
 have h3 := wlist_get l (t := t) (j := t - 7) (by omega)
 have h4 := wlist_get l (t := t) (j := t - 2) (by omega)
 show nextW l (wlist l t) t = _
 unfold nextW
 rw [if_neg h, h1, h2, h3, h4]
 rfl
theorem shW_lt (l : List UInt8) (t : Nat) : shW l t < 4294967296 := by
 by_cases h : t < 16
 ·
  rw [shW_lo h]; exact be4_lt ..
 ·
  rw [shW_hi h]; exact mod_lt32 _
/-- The first t of the words, and zeros. -/
def wcells (l : List UInt8) (t : Nat) : List Value := (List.range 64).map fun i => .int .u32 ((if i < t then shW l i else 0 : Nat) : Int)
theorem wcells_get (l : List UInt8) (t : Nat) {j : Nat} (h : j < 64) : (wcells l t)[j]? = some (.int .u32 ((if j < t then shW l j else 0 : Nat) : Int)) := by simp [wcells, h]
theorem wcells_at (l : List UInt8) {t j : Nat} (h : j < 64) (ht : j < t) : (wcells l t)[j]? = some (.int .u32 ((shW l j : Nat) : Int)) := by rw [wcells_get l t h, if_pos ht]
theorem wcells_len (l : List UInt8) (t : Nat) : (wcells l t).length = 64 := by simp [wcells]
theorem wcells_set (l : List UInt8) {t : Nat} (h : t < 64) : (wcells l t).set t (.int .u32 ((shW l t : Nat) : Int)) = wcells l (t + 1) := by
 refine List.ext_getElem? fun i => ?_
 rw [List.getElem?_set]
 by_cases hi : i < 64
 ·
  rw [wcells_get l (t + 1) hi]
  split
  ·
   rename_i e
   subst e
   rw [if_pos (by rw [wcells_len]; exact hi), if_pos (Nat.lt_succ_self _)]
  ·
   rw [wcells_get l t hi]
   congr 4
   simp only [eq_iff_iff]
   omega
 ·
  rw [if_neg (by omega), List.getElem?_eq_none (by rw [wcells_len]; omega), List.getElem?_eq_none (by rw [wcells_len]; omega)]
theorem wcells_one (l : List UInt8) (t : Nat) : ∀ v ∈ wcells l t, v.oneCell' = true := by
 intro v hv
 simp only [wcells, List.mem_map] at hv
 obtain ⟨_, _, rfl⟩ := hv
 rfl
theorem wcells_zero (l : List UInt8) : wcells l 0 = List.replicate 64 (.int .u32 0) := by simp [wcells, List.replicate]; rfl
structure S8 where
 a : Nat
 b : Nat
 c : Nat
 d : Nat
 e : Nat
 f : Nat
 g : Nat
 h : Nat
structure S8.Ok (v : S8) : Prop where
 a : v.a < 4294967296
 b : v.b < 4294967296
 c : v.c < 4294967296
 d : v.d < 4294967296
 e : v.e < 4294967296
 f : v.f < 4294967296
 g : v.g < 4294967296
 h : v.h < 4294967296
def one (k w : Nat) (v : S8) : Nat := ((((v.h + bg1 v.e) % 4294967296 + chs v.e v.f v.g) % 4294967296 + k) % 4294967296 + w) % 4294967296
def two (v : S8) : Nat := (bg0 v.a + maj v.a v.b v.c) % 4294967296
def rnd (k w : Nat) (v : S8) : S8 := ⟨(one k w v + two v) % 4294967296, v.a, v.b, v.c, (v.d + one k w v) % 4294967296, v.e, v.f, v.g⟩
theorem rnd_ok {k w : Nat} {v : S8} (h : v.Ok) : (rnd k w v).Ok := ⟨mod_lt32 _, h.a, h.b, h.c, mod_lt32 _, h.e, h.f, h.g⟩
def keyL : List Nat := [1116352408, 1899447441, 3049323471, 3921009573, 961987163, 1508970993, 2453635748, 2870763221, 3624381080, 310598401, 607225278, 1426881987, 1925078388, 2162078206, 2614888103, 3248222580, 3835390401, 4022224774, 264347078, 604807628, 770255983, 1249150122, 1555081692, 1996064986, 2554220882, 2821834349, 2952996808, 3210313671, 3336571891, 3584528711, 113926993, 338241895, 666307205, 773529912, 1294757372, 1396182291, 1695183700, 1986661051, 2177026350, 2456956037, 2730485921, 2820302411, 3259730800, 3345764771, 3516065817, 3600352804, 4094571909, 275423344, 430227734, 506948616, 659060556, 883997877, 958139571, 1322822218, 1537002063, 1747873779, 1955562222, 2024104815, 2227730452, 2361852424, 2428436474, 2756734187, 3204031479, 3329325298]
def keyN (t : Nat) : Nat := keyL.getD t 0
def kcells : List Value := keyL.map fun k => .int .u32 ((k : Nat) : Int)
theorem kcells_get {t : Nat} (h : t < 64) : kcells[t]? = some (.int .u32 ((keyN t : Nat) : Int)) := by
 have hl : t < keyL.length := h
 simp [kcells, keyN, List.getD_eq_getElem?_getD, hl]
def rnds (l : List UInt8) (h : S8) : Nat → S8
 | 0 => h
 | t + 1 => rnd (keyN t) (shW l t) (rnds l h t)
theorem rnds_ok {l : List UInt8} {h : S8} (hh : h.Ok) : ∀ t, (rnds l h t).Ok
 | 0 => hh
 | t + 1 => rnd_ok (rnds_ok hh t)
def plus8 (h v : S8) : S8 := ⟨(h.a + v.a) % 4294967296, (h.b + v.b) % 4294967296, (h.c + v.c) % 4294967296, (h.d + v.d) % 4294967296, (h.e + v.e) % 4294967296, (h.f + v.f) % 4294967296, (h.g + v.g) % 4294967296, (h.h + v.h) % 4294967296⟩
/-- A state behind a block: of the first 64 bytes. -/
def mixS (h : S8) (l : List UInt8) : S8 := plus8 h (rnds l h 64)
theorem plus8_ok (h v : S8) : (plus8 h v).Ok := ⟨mod_lt32 _, mod_lt32 _, mod_lt32 _, mod_lt32 _, mod_lt32 _, mod_lt32 _, mod_lt32 _, mod_lt32 _⟩
/-- Whole blocks are taken, the rest waits. -/
def takeH (h : S8) (l : List UInt8) : S8 := if _hl : 64 ≤ l.length then takeH (mixS h l) (l.drop 64) else h
termination_by l.length
decreasing_by simp; omega
def takeR (l : List UInt8) : List UInt8 := if _hl : 64 ≤ l.length then takeR (l.drop 64) else l
termination_by l.length
decreasing_by simp; omega
theorem takeH_more {h : S8} {l : List UInt8} (hl : 64 ≤ l.length) : takeH h l = takeH (mixS h l) (l.drop 64) := by rw [takeH]; simp [hl]
theorem takeH_done {h : S8} {l : List UInt8} (hl : ¬ 64 ≤ l.length) : takeH h l = h := by rw [takeH]; simp [hl]
theorem takeR_more {l : List UInt8} (hl : 64 ≤ l.length) : takeR l = takeR (l.drop 64) := by rw [takeR]; simp [hl]
theorem takeR_done {l : List UInt8} (hl : ¬ 64 ≤ l.length) : takeR l = l := by rw [takeR]; simp [hl]
theorem takeH_ok : ∀ (n : Nat) (h : S8) (l : List UInt8), l.length ≤ n → h.Ok → (takeH h l).Ok := by
 intro n
 induction n using Nat.strongRecOn with
 | ind n ih =>
  intro h l hn hh
  by_cases hl : 64 ≤ l.length
  ·
   rw [takeH_more hl]
   exact ih (n - 64) (by omega) _ _ (by rw [List.length_drop]; omega) (plus8_ok _ _)
  ·
   rw [takeH_done hl]; exact hh
theorem takeR_len (l : List UInt8) : (takeR l).length < 64 := by
 generalize hn : l.length = n
 induction n using Nat.strongRecOn generalizing l with
 | ind n ih =>
  by_cases hl : 64 ≤ l.length
  ·
   rw [takeR_more hl]
   exact ih (n - 64) (by omega) _ (by rw [List.length_drop]; omega)
  ·
   rw [takeR_done hl]; omega
theorem byteN_app {l m : List UInt8} {i : Nat} (h : i < l.length) : byteN (l ++ m) i = byteN l i := by
 unfold byteN
 rw [List.getD_eq_getElem?_getD, List.getD_eq_getElem?_getD, List.getElem?_append_left h]
theorem byteN_drop (l : List UInt8) (k i : Nat) : byteN (l.drop k) i = byteN l (k + i) := by
 unfold byteN
 rw [List.getD_eq_getElem?_getD, List.getD_eq_getElem?_getD, List.getElem?_drop]
/-- Two texts with the same first 64 bytes. -/
theorem nextW_same {l m : List UInt8} (h : ∀ i, i < 64 → byteN l i = byteN m i) (p : List Nat) (t : Nat) : nextW l p t = nextW m p t := by
 unfold nextW
 by_cases ht : t < 16
 ·
  rw [if_pos ht, if_pos ht]
  unfold be4
  rw [h _ (by omega), h _ (by omega), h _ (by omega), h _ (by omega)]
 ·
  rw [if_neg ht, if_neg ht]
theorem wlist_same {l m : List UInt8} (h : ∀ i, i < 64 → byteN l i = byteN m i) : ∀ t, wlist l t = wlist m t
 | 0 => rfl
 | t + 1 => by
  simp only [wlist, wlist_same h t, nextW_same h]
theorem mixS_same {s : S8} {l m : List UInt8} (h : ∀ i, i < 64 → byteN l i = byteN m i) : mixS s l = mixS s m := by
 have e : ∀ t, rnds l s t = rnds m s t := by
  intro t
  induction t with
  | zero => rfl
  | succ t ih =>
   simp only [rnds, ih, shW, wlist_same h, nextW_same h]
 unfold mixS
 rw [e]
theorem take_both (n : Nat) : ∀ (s : S8) (l m : List UInt8), l.length ≤ n → takeH s (l ++ m) = takeH (takeH s l) (takeR l ++ m) ∧ takeR (l ++ m) = takeR (takeR l ++ m) := by
 induction n using Nat.strongRecOn with
 | ind n ih =>
  intro s l m hn
  by_cases hl : 64 ≤ l.length
  ·
   have h2 : 64 ≤ (l ++ m).length := by rw [List.length_append]; omega
   have hd : (l ++ m).drop 64 = l.drop 64 ++ m := List.drop_append_of_le_length hl
   have hm : mixS s (l ++ m) = mixS s l := mixS_same fun i hi => byteN_app (by omega)
   rw [takeH_more h2, takeR_more h2, takeH_more hl, takeR_more hl, hd, hm]
   exact ih (n - 64) (by omega) _ _ _ (by rw [List.length_drop]; omega)
  ·
   rw [takeH_done hl, takeR_done hl]
   exact ⟨rfl, rfl⟩
theorem takeH_append (s : S8) (l m : List UInt8) : takeH s (l ++ m) = takeH (takeH s l) (takeR l ++ m) := (take_both _ s l m (Nat.le_refl _)).1
theorem takeR_append (l m : List UInt8) : takeR (l ++ m) = takeR (takeR l ++ m) := (take_both _ ⟨0, 0, 0, 0, 0, 0, 0, 0⟩ l m (Nat.le_refl _)).2
def H0 : S8 := ⟨1779033703, 3144134277, 1013904242, 2773480762, 1359893119, 2600822924, 528734635, 1541459225⟩
theorem H0_ok : H0.Ok := ⟨by decide, by decide, by decide, by decide, by decide, by decide, by decide, by decide⟩
def S8.get (v : S8) (i : Nat) : Nat := [v.a, v.b, v.c, v.d, v.e, v.f, v.g, v.h].getD i 0
def c8 (v : S8) : List Value := [.int .u32 ((v.a : Nat) : Int), .int .u32 ((v.b : Nat) : Int), .int .u32 ((v.c : Nat) : Int), .int .u32 ((v.d : Nat) : Int), .int .u32 ((v.e : Nat) : Int), .int .u32 ((v.f : Nat) : Int), .int .u32 ((v.g : Nat) : Int), .int .u32 ((v.h : Nat) : Int)]
theorem c8_get (v : S8) {i : Nat} (h : i < 8) : (c8 v)[i]? = some (.int .u32 ((v.get i : Nat) : Int)) := by
 match i, h with
 | 0, _ | 1, _ | 2, _ | 3, _ | 4, _ | 5, _ | 6, _ | 7, _ => rfl
/-- A number's last bytes, the highest first. -/
def be8 (n : Nat) : List UInt8 := (List.range 8).map fun i => UInt8.ofNat (n / 256 ^ (7 - i))
/-- What stands behind the bytes at the end: r wait, there were n. -/
def tailL (r n : Nat) : List UInt8 := 128 :: (List.replicate ((119 - r) % 64) 0 ++ be8 (n * 8 % 18446744073709551616))
theorem tailL_len (r n : Nat) : (tailL r n).length = 1 + (119 - r) % 64 + 8 := by simp [tailL, be8]; omega
def tailF (z n i j : Nat) : Nat := if j = 0 then 128 else if 9 + z ≤ j + i then n / 256 ^ (8 + z - j) % 256 else 0
def bl (n : Nat) (f : Nat → Nat) : List Value := (List.range n).map fun j => .int .u8 ((f j : Nat) : Int)
theorem bl_len (n : Nat) (f : Nat → Nat) : (bl n f).length = n := by simp [bl]
theorem bl_get (n : Nat) (f : Nat → Nat) {j : Nat} (h : j < n) : (bl n f)[j]? = some (.int .u8 ((f j : Nat) : Int)) := by simp [bl, h]
theorem bl_ext {n : Nat} {f g : Nat → Nat} (h : ∀ j, j < n → f j = g j) : bl n f = bl n g := by
 unfold bl
 refine List.map_congr_left fun j hj => ?_
 rw [h j (List.mem_range.1 hj)]
theorem bl_set {n : Nat} (f : Nat → Nat) (k v : Nat) : (bl n f).set k (.int .u8 ((v : Nat) : Int)) = bl n (fun j => if j = k then v else f j) := by
 refine List.ext_getElem? fun i => ?_
 rw [List.getElem?_set]
 by_cases hi : i < n
 ·
  rw [bl_get n (fun j => if j = k then v else f j) hi, bl_get _ _ hi]
  by_cases e : k = i
  ·
   subst e
   rw [if_pos rfl, if_pos (by rw [bl_len]; exact hi), if_pos rfl]
  ·
   rw [if_neg e, if_neg (fun h => e h.symm)]
 ·
  rw [List.getElem?_eq_none (l := bl n fun j => if j = k then v else f j) (by rw [bl_len]; omega)]
  split
  ·
   rw [if_neg (by rw [bl_len]; omega)]
  ·
   rw [List.getElem?_eq_none (by rw [bl_len]; omega)]
theorem bl_zero (n : Nat) : List.replicate n (.int .u8 0) = bl n (fun _ => 0) := by
 refine List.ext_getElem? fun i => ?_
 by_cases hi : i < n
 ·
  rw [bl_get _ _ hi]; simp [hi]
 ·
  rw [List.getElem?_eq_none (by simp; omega), List.getElem?_eq_none (by rw [bl_len]; omega)]
theorem tail_first (z n : Nat) : (List.replicate (1 + z + 8) (.int .u8 0)).set 0 (.int .u8 128) = bl (1 + z + 8) (tailF z n 0) := by
 rw [bl_zero]
 refine (bl_set _ 0 128).trans (bl_ext fun j hj => ?_)
 unfold tailF
 by_cases h : j = 0
 ·
  rw [if_pos h, if_pos h]
 ·
  rw [if_neg h, if_neg h, if_neg (by omega)]
theorem tail_step (z n : Nat) {i : Nat} (h : i < 8) : (bl (1 + z + 8) (tailF z n i)).set (1 + z + 8 - 1 - i) (.int .u8 ((n / 2 ^ (8 * i) % 256 : Nat) : Int)) = bl (1 + z + 8) (tailF z n (i + 1)) := by
 refine (bl_set _ _ _).trans (bl_ext fun j hj => ?_)
 unfold tailF
 by_cases h0 : j = 1 + z + 8 - 1 - i
 ·
  rw [if_pos h0, if_neg (by omega), if_pos (by omega), show 8 + z - j = i by omega, show (256 : Nat) = 2 ^ 8 by decide, ← Nat.pow_mul]
 ·
  rw [if_neg h0]
  by_cases h1 : j = 0
  ·
   rw [if_pos h1, if_pos h1]
  ·
   rw [if_neg h1, if_neg h1]
   by_cases h2 : 9 + z ≤ j + i
   ·
    rw [if_pos h2, if_pos (by omega)]
   ·
    rw [if_neg h2, if_neg (by omega)]
theorem tail_end (r n : Nat) : bl (1 + (119 - r) % 64 + 8) (tailF ((119 - r) % 64) (n * 8 % 18446744073709551616) 8) = bcells (tailL r n) := by
 generalize hz : (119 - r) % 64 = z
 generalize hm : n * 8 % 18446744073709551616 = m
 refine List.ext_getElem? fun i => ?_
 by_cases hi : i < 1 + z + 8
 ·
  rw [bl_get _ _ hi]
  have hl : tailL r n = 128 :: (List.replicate z 0 ++ be8 m) := by unfold tailL; rw [hz, hm]
  rw [hl]
  unfold bcells tailF
  rw [List.getElem?_map]
  cases i with
  | zero => rfl
  | succ i =>
   rw [if_neg (by omega), List.getElem?_cons_succ]
   by_cases h : i < z
   ·
    rw [if_neg (by omega), List.getElem?_append_left (by simpa using h)]
    simp [h]
   ·
    rw [if_pos (by omega), List.getElem?_append_right (by simp; omega)]
    have h8 : i - z < 8 := by omega
    simp only [List.length_replicate, be8, List.getElem?_map]
    rw [List.getElem?_range h8]
    simp only [Option.map_some, UInt8.toNat_ofNat']
    rw [show 8 + z - (i + 1) = 7 - (i - z) by omega]
 ·
  rw [List.getElem?_eq_none (by rw [bl_len]; omega), List.getElem?_eq_none (by rw [bcells_len, tailL_len, hz]; omega)]
/-- A sum's bytes. -/
def outS (v : S8) : List UInt8 := (List.range 32).map fun k => UInt8.ofNat (v.get (k / 4) / 2 ^ (8 * (3 - k % 4)))
theorem outS_len (v : S8) : (outS v).length = 32 := by simp [outS]
theorem out_step (v : S8) {i j : Nat} (hi : i < 8) (hj : j < 4) : bcells ((outS v).take (4 * i + j)) ++ [.int .u8 ((v.get i / 2 ^ (8 * (3 - j)) % 256 : Nat) : Int)] = bcells ((outS v).take (4 * i + (j + 1))) := by
 have hk : 4 * i + j < 32 := by omega
 have e : (outS v).take (4 * i + (j + 1)) = (outS v).take (4 * i + j) ++ [UInt8.ofNat (v.get i / 2 ^ (8 * (3 - j)))] := by
  rw [show 4 * i + (j + 1) = 4 * i + j + 1 by omega, List.take_add_one]
  congr 1
  simp only [outS, List.getElem?_map]
  rw [List.getElem?_range hk]
  simp only [Option.map_some, Option.toList_some]
  rw [show (4 * i + j) / 4 = i by omega, show (4 * i + j) % 4 = j by omega]
 rw [e]
 simp [bcells]
def endL (h : S8) (b : List UInt8) (n : Nat) : List UInt8 := outS (takeH h (b ++ tailL b.length n))
/-- The sum of bytes. -/
def sha (l : List UInt8) : List UInt8 := endL (takeH H0 l) (takeR l) (l.length % 18446744073709551616)
theorem sha_len (l : List UInt8) : (sha l).length = 32 := outS_len _
/-- Cells of texts. -/
def scells (ps : List (List UInt8)) : List Value := ps.map fun s => .string (bs s)
theorem scells_len (ps : List (List UInt8)) : (scells ps).length = ps.length := by simp [scells]
theorem scells_get {ps : List (List UInt8)} {k : Nat} (h : k < ps.length) : (scells ps)[k]? = some (.string (bs (ps.getD k []))) := by
 simp [scells, List.getD_eq_getElem?_getD, h]
theorem flat_step {ps : List (List UInt8)} {k : Nat} (h : k < ps.length) : (ps.take k).flatten ++ ps.getD k [] = (ps.take (k + 1)).flatten := by
 rw [List.take_add_one, List.flatten_append, List.getD_eq_getElem?_getD, List.getElem?_eq_getElem h]
 simp
theorem sha_flat {ps : List (List UInt8)} : endL (takeH H0 (ps.take ps.length).flatten) (takeR (ps.take ps.length).flatten) ((ps.take ps.length).flatten.length % 18446744073709551616) = sha ps.flatten := by
 rw [List.take_length]
 rfl
theorem len_step (c s : List UInt8) : (c.length % 18446744073709551616 + s.length) % 18446744073709551616 = (c ++ s).length % 18446744073709551616 := by
 rw [Nat.mod_add_mod, List.length_append]
theorem take_zero : takeH H0 [] = H0 ∧ takeR [] = [] := ⟨takeH_done (by decide), takeR_done (by decide)⟩
end Go.Proofs.Num

namespace Go.Proofs.Num
open Go
def leafS (d : List UInt8) : List UInt8 := sha ([0] ++ d)
def nodeS (l r : List UInt8) : List UInt8 := sha ([1] ++ l ++ r)
theorem leafS_len (d : List UInt8) : (leafS d).length = 32 := sha_len _
theorem nodeS_len (l r : List UInt8) : (nodeS l r).length = 32 := sha_len _
theorem flat2 (a b : List UInt8) : [a, b].flatten = a ++ b := by simp
theorem flat3 (a b c : List UInt8) : [a, b, c].flatten = a ++ b ++ c := by simp
theorem getD_le2 {a b : List UInt8} {B : Nat} (ha : a.length ≤ B) (hb : b.length ≤ B) (k : Nat) : (([a, b] : List (List UInt8)).getD k []).length ≤ B := by
 match k with
 | 0 => exact ha
 | 1 => exact hb
 | k + 2 => exact Nat.zero_le _
theorem getD_le3 {a b c : List UInt8} {B : Nat} (ha : a.length ≤ B) (hb : b.length ≤ B) (hc : c.length ≤ B) (k : Nat) : (([a, b, c] : List (List UInt8)).getD k []).length ≤ B := by
 match k with
 | 0 => exact ha
 | 1 => exact hb
 | 2 => exact hc
 | k + 3 => exact Nat.zero_le _
/-- Have all 32 bytes? -/
def all32 (ps : List (List UInt8)) : Bool := ps.all fun s => s.length == 32
def badI (ps : List (List UInt8)) : Int := if all32 ps then -1 else ((ps.findIdx fun s => s.length != 32 : Nat) : Int)
theorem badI_none {ps : List (List UInt8)} (h : ∀ j, j < ps.length → (ps.getD j []).length = 32) : badI ps = -1 := by
 have : all32 ps = true := by
  simp only [all32, List.all_eq_true, beq_iff_eq]
  intro s hs
  obtain ⟨j, hj, rfl⟩ := List.getElem_of_mem hs
  have := h j hj
  rwa [List.getD_eq_getElem?_getD, List.getElem?_eq_getElem hj] at this
 simp [badI, this]
theorem badI_some {ps : List (List UInt8)} {k : Nat} (hk : k < ps.length) (h : ∀ j, j < k → (ps.getD j []).length = 32) (hb : (ps.getD k []).length ≠ 32) : badI ps = (k : Int) := by
 have hg : ps[k].length ≠ 32 := by rwa [List.getD_eq_getElem?_getD, List.getElem?_eq_getElem hk] at hb
 have h1 : all32 ps = false := by
  simp only [all32, List.all_eq_false]
  exact ⟨ps[k], List.getElem_mem hk, by simpa using hg⟩
 have h2 : ps.findIdx (fun s => s.length != 32) = k := by
  rw [List.findIdx_eq hk]
  refine ⟨by simpa using hg, fun j hj => ?_⟩
  have := h j hj
  rw [List.getD_eq_getElem?_getD, List.getElem?_eq_getElem (by omega)] at this
  simpa using this
 simp [badI, h1, h2]
theorem badI_ge (ps : List (List UInt8)) : decide (0 ≤ badI ps) = !all32 ps := by
 unfold badI
 cases h : all32 ps <;> simp
/-- The greatest power of 2 below a number above 1. -/
def splitN (n : Nat) : Nat := 2 ^ Nat.log2 (n - 1)
theorem splitN_lt {n : Nat} (h : 2 ≤ n) : splitN n < n := by
 have := Nat.log2_self_le (n := n - 1) (by omega)
 unfold splitN; omega
theorem splitN_pos (n : Nat) : 0 < splitN n := Nat.two_pow_pos _
def rootS (l : List (List UInt8)) : List UInt8 :=
 if l.length = 0 then sha [] else if _h1 : l.length ≤ 1 then l.getD 0 [] else nodeS (rootS (l.take (splitN l.length))) (rootS (l.drop (splitN l.length)))
termination_by l.length
decreasing_by
 ·
  have := splitN_lt (n := l.length) (by omega)
  simp; omega
 ·
  have := splitN_pos l.length
  simp; omega
theorem rootS_0 {l : List (List UInt8)} (h : l.length = 0) : rootS l = sha [] := by rw [rootS, if_pos h]
theorem all32_mem {ps : List (List UInt8)} (h : all32 ps = true) : ∀ s ∈ ps, s.length = 32 := by
 simpa [all32] using h
end Go.Proofs.Num

namespace Go.Proofs.Num
open Go Go.RowKit
section
variable {P : Program} {Q : Exit → Act → World → Prop}
def firstB (ops : Array Oper) (listed : Array Bool) (i : Nat) : Bool :=
 Region.noSelect ops && (Region.ready .any ops listed).contains i && (List.range ops.size).all fun j => match ops[i]?, ops[j]? with
  | some oi, some oj => j == i || listed.getD j true || (oj.after.any fun e => Region.binds .any e && e.on == i) || oi.apart ops oj
  | _, _ => true
theorem any_first {l : List Oper} {fuel : Nat} {listed : Array Bool} {a : Act} {w : World} (i : Nat) {o : Oper} {v : Value} (hi : l[i]? = some o) (hB : firstB l.toArray listed i = true) (hQ : ∀ c a w, ¬ Q (.panic c) a w) (hg : o.guard = none)
  (hv : ∀ W, RunsVal ((execOp a.eval o).run P W) v W) (h : wpAny P .any l.toArray Q fuel (listed.setIfInBounds i true) (a.put o.dst v) w) : wpAny P .any l.toArray Q (fuel + 1) listed a w := by
 simp only [firstB, Bool.and_eq_true] at hB
 obtain ⟨⟨hs, hr⟩, hall⟩ := hB
 have hoi : l.toArray[i]? = some o := by simpa using hi
 refine wpAny_first (i := i) (oi := o) (v := v) hoi (fun j oj cs b hj => Region.noSelect_spec hs j oj cs b hj) (fun c a w hp => absurd hp (hQ _ _ _)) fuel listed a w (fun j oj hj hne hl hw => ?_) (by simpa using hr) (.inl ⟨by simp [Region.wanted, hg], hv⟩) h
 have := List.all_eq_true.1 hall j (List.mem_range.2 (Array.getElem?_eq_some_iff.1 hj).1)
 simp only [hoi, hj, Bool.or_eq_true, beq_iff_eq] at this
 rcases this with ((h1 | h1) | h1) | h1
 ·
  exact absurd h1 hne
 ·
  rw [hl] at h1; cases h1
 ·
  rw [Array.any_eq_true] at h1
  obtain ⟨q, hq, h2⟩ := h1
  simp only [Bool.and_eq_true, beq_iff_eq] at h2
  exact absurd h2.2 (hw _ (Array.getElem_mem hq) h2.1)
 ·
  exact h1
theorem wp_region_treeN {id : Nat} {a : Act} {w : World} {l : List Oper} (hm : P.follows .mixedOrders = true) (h : ∀ W, Sees w W → wpAny P .any l.toArray (NoPanic Q) l.length (Array.replicate l.length false) a W) : (Code.region id l.toArray true).wp P Q a w :=
 Code.wp_mono NoPanic.imp (wp_region_tree hm h)
theorem nopanic_not : ∀ c a w, ¬ NoPanic Q (.panic c) a w := fun c a w h => h
variable {o : Oper} {a : Act} {v : Value}
theorem yl_move {x : Operand} (ho : o.op = .move x) (hx : a.eval x = v) (W : World) : RunsVal ((execOp a.eval o).run P W) v W := by unfold RunsVal; simp [execOp, ho, hx]
theorem yl_assign {x : Operand} (ho : o.op = .assign x) (hx : a.eval x = v) (W : World) : RunsVal ((execOp a.eval o).run P W) v W := by unfold RunsVal; simp [execOp, ho, hx]
theorem yl_lenS {x : Operand} {ts : Array TypeId} {l : List UInt8} (ho : o.op = .call { callee := .builtin .len, args := #[x], argTypes := ts }) (hx : a.eval x = .string (bs l)) {T : TypeId} (ht : ts[0]? = some T) (hu : P.underlying T = some .string) (W : World) : RunsVal ((execOp a.eval o).run P W) (.int .i64 ((l.length : Nat) : Int)) W := by
 unfold RunsVal
 rw [← bs_size]
 simp [execOp, ho, hx, resolve, invoke, builtin, Builtin.len_, goInt, ht, run_underlying hu]
theorem yl_min {x y : Operand} {ts : Array TypeId} {n m : Nat} {k k2 : IntKind} (ho : o.op = .call { callee := .builtin .min, args := #[x, y], argTypes := ts }) (hx : a.eval x = .int k (n : Nat)) (hy : a.eval y = .int k2 (m : Nat)) (W : World) : RunsVal ((execOp a.eval o).run P W) (.int k ((min n m : Nat) : Int)) W := by
 unfold RunsVal
 simp only [execOp, ho, resolve, invoke, builtin, Builtin.min_, Builtin.min2]
 simp [hx, hy, Builtin.min2]
 split <;> omega
theorem yl_cut {T : TypeId} {x y : Operand} {l : List UInt8} {m : Nat} {k : IntKind} (ho : o.op = .slice T x none (some y) none) (hx : a.eval x = .string (bs l)) (hy : a.eval y = .int k ((min l.length m : Nat) : Int)) (hT : P.underlying T = some .string) (W : World) : RunsVal ((execOp a.eval o).run P W) (.string (bs (cut l m))) W := by
 unfold RunsVal
 have := run_sliceS (P := P) hT (k := k) (Nat.min_le_left l.length m) W
 simp only [execOp, ho, hx, hy, Option.map_none, Option.map_some, Sem.run_bind, this, Result.andThen_ok, Sem.run_pure]
 rfl
end
section tails
variable {P : Program} {ops : Array Oper} {Q : Exit → Act → World → Prop} {o : Oper} {rest : List Oper} {a : Act} {W : World}
theorem wpL_append2 {T e : TypeId} {s x : Operand} {g n cap h ho2 : Nat} {c : Nat} {olds news : List Value} {bytes m : Nat} {z : Value} (hg : o.guard = none) (ho : o.op = .call { callee := .builtin .append, args := #[s, x], argTypes := #[T, T] })
  (hs : a.eval s = .slice (some ⟨g, 0, none⟩) n cap) (hx : a.eval x = .slice (some ⟨h, ho2, none⟩) m c) (hT : P.underlying T = some (.slice e)) (hinfo : (P.info? e).map (fun i => (i.zero, i.size, i.bytes)) = some (some z, 1, bytes)) (hzc : z.cells = #[z]) (hz1 : z.oneCell' = true)
  (hn : olds.length = n) (hm : news.length = m) (hr : W.rangeAt g 0 olds) (ht : W.there g 0 cap) (hL : g < W.heap.size) (hr2 : W.rangeAt h ho2 news) (h1 : ∀ u ∈ news, u.oneCell' = true) (hb : (n + m) * bytes ≤ 140737488355328) (h63 : n + m ≤ maxLen) 
  (hk : ∀ g' cap' W', Grew g W W' → (g' = g ∨ W.heap.size ≤ g') → n + m ≤ cap' → W'.rangeAt g' 0 (olds ++ news) → W'.there g' 0 cap' → g' < W'.heap.size →
   wpList P ops Q rest (a.put o.dst (.slice (some ⟨g', 0, none⟩) (n + m) cap')) W') : wpList P ops Q (o :: rest) a W := by
 obtain ⟨i, hi, he⟩ := Option.map_eq_some_iff.1 hinfo
 simp only [Prod.mk.injEq] at he
 obtain ⟨hz, hsz, hby⟩ := he
 have had : ∀ (q j : Nat), (⟨q, 0, none⟩ : Addr).add j = ⟨q, j, none⟩ := fun q j => by cases j <;> simp [Addr.add]
 have hado : ∀ (q o j : Nat), (⟨q, o, none⟩ : Addr).add j = ⟨q, o + j, none⟩ := fun q o j => by cases j <;> simp [Addr.add]
 have hnews : ∀ j u, news[j]? = some u → W.cell? ((⟨h, ho2, none⟩ : Addr).add j) = some u := fun j u hu => by have := hr2 j u hu; rw [hado]; exact this
 refine wpList_plain hg fun K hK => ?_
 by_cases hroom : n + m ≤ cap
 ·
  have htt : ∀ j, j < news.length → (W.cell? ⟨g, 0 + n * i.size + j, none⟩).isSome = true ∧ W.frozen? ⟨g, 0 + n * i.size + j, none⟩ = false := fun j hj => by
   rw [hsz, Nat.mul_one, Nat.zero_add]
   have := ht (n + j) (by omega)
   rwa [Nat.zero_add] at this
  have hrun := run_append_room_cells (P := P) W T o.type e i hT hi g 0 n cap ⟨h, ho2, none⟩ m c news (by rw [hsz, Nat.mul_one, hm]) hnews h1 hroom (fun j hj => (htt j hj).1) (fun j hj => (htt j hj).2)
  have hp := puts_cells g news (0 + n * i.size) W
  rw [hsz, Nat.mul_one, Nat.zero_add] at hp htt
  unfold Oper.wp execOp
  simp only [ho, resolve, invoke, builtin, Sem.run_bind, Sem.run_pure, Result.andThen_ok, List.map_toArray, List.map_cons, List.map_nil, hs, hx, hrun]
  rw [hsz, Nat.mul_one, Nat.zero_add]
  have hcells := World.rangeAt_setCells_same W g n news (fun j hj => htt j hj)
  refine hK _ _ (hk g cap _ ⟨hp.os, hp.tape, hp.output, by rw [hp.size]; exact Nat.le_refl _, fun k _ hne => hp.other k hne⟩ (.inl rfl) hroom ?_ ?_ (hp.lt hL))
  ·
   exact range_join (hp.range hr (.inr (.inl (by rw [Nat.zero_add, hn]; exact Nat.le_refl _)))) hcells (by rw [Nat.zero_add, hn])
  ·
   refine hp.there ht fun _ j hj => ?_
   rw [hcells j news[j] (by simp [hj])]; rfl
 ·
  have hzs : z.cells.size = 1 := by rw [hzc]; rfl
  have hge := grownCap_ge W (n + m) cap e
  have hrun := run_append_grow (P := P) W T o.type e i z hT hi hz ⟨g, 0, none⟩ n cap olds (by rw [hsz, Nat.mul_one, hn]) (fun j u hu => by have := hr j u hu; rw [Nat.zero_add] at this; rw [had]; exact this) ⟨h, ho2, none⟩ m c news (by rw [hsz, Nat.mul_one, hm]) hnews (by omega) (by simp only [maxLen] at h63; omega) (growslice_fits (by omega) (by rw [hby]; exact hb))
  unfold Oper.wp execOp
  simp only [ho, resolve, invoke, builtin, Sem.run_bind, Sem.run_pure, Result.andThen_ok, List.map_toArray, List.map_cons, List.map_nil, hs, hx, hrun]
  have hB : Blk (W.drew.alloc (.cells (olds.toArray ++ news.toArray ++ Builtin.zeroCells z.cells (grownCap W (n + m) cap e - (n + m))) e)) W.heap.size e (olds.toArray ++ news.toArray ++ Builtin.zeroCells z.cells (grownCap W (n + m) cap e - (n + m))) := Blk.new W.drew e _
  refine hK _ _ (hk W.heap.size (grownCap W (n + m) cap e) _ ⟨rfl, rfl, rfl, by simp, fun k hk _ => heap_alloc_old W.drew _ k hk⟩ (.inr (Nat.le_refl _)) hge ?_ (blk_there hB ?_) hB.lt)
  ·
   have := blk_range hB (l := (olds ++ news) ++ (Builtin.zeroCells z.cells (grownCap W (n + m) cap e - (n + m))).toList) (by apply Array.ext'; simp)
   exact (range_append this).1
  ·
   simp only [Array.size_append, List.size_toArray, size_zeroCells, hzs, hn, hm]; omega
theorem wpL_appendN {T e : TypeId} {s x : Operand} {g n cap : Nat} (hg : o.guard = none) (ho : o.op = .call { callee := .builtin .append, args := #[s, x], argTypes := #[T, T] })
  (hs : a.eval s = .slice (some ⟨g, 0, none⟩) n cap) (hx : a.eval x = .slice none 0 0) (hT : P.underlying T = some (.slice e)) {k : Nat} (hinfo : (P.info? e).map (·.size) = some k) (hc : n ≤ cap)
  (hk : wpList P ops Q rest (a.put o.dst (.slice (some ⟨g, 0, none⟩) n cap)) W) : wpList P ops Q (o :: rest) a W :=
 wpL_val hg (by
  unfold RunsVal
  simp [execOp, ho, hs, hx, resolve, invoke, builtin, Builtin.append_, run_underlying hT, run_sizeOf hinfo, Builtin.lenOf, hc, Builtin.firstCells, storeCells]) hk
end tails
theorem scells_one (ps : List (List UInt8)) : ∀ v ∈ scells ps, v.oneCell' = true := by
 intro v hv
 simp only [scells, List.mem_map] at hv
 obtain ⟨_, _, rfl⟩ := hv
 rfl
end Go.Proofs.Num

namespace Go.Proofs.Num
open Go Go.RowKit
/-- A row of texts, or none. -/
def RowS (w : World) (v : Value) (ps : List (List UInt8)) : Prop := (v = .slice none 0 0 ∧ ps = []) ∨ (∃ a, v = .slice (some a) 0 0 ∧ ps = []) ∨ ∃ g o n c, v = .slice (some ⟨g, o, none⟩) n c ∧ n = ps.length ∧ n ≤ c ∧ g < w.heap.size ∧ w.rangeAt g o (scells ps)
theorem RowS.sees {w W : World} {v : Value} {ps : List (List UInt8)} (h : RowS w v ps) (hS : Sees w W) : RowS W v ps := by
 rcases h with h | h | ⟨g, o, n, c, h1, h2, h3, h4, h5⟩
 ·
  exact .inl h
 ·
  exact .inr (.inl h)
 ·
  exact .inr <| .inr ⟨g, o, n, c, h1, h2, h3, Nat.lt_of_lt_of_le h4 hS.2.2.size, range_sees h5 h4 hS⟩
theorem RowS.mem {w W : World} {l : List Bk} {v : Value} {ps : List (List UInt8)} (h : RowS w v ps) (M : Mem [] w W l) : RowS W v ps := h.sees M.seesAll
end Go.Proofs.Num

namespace Go.Proofs.Num
open Go Go.RowKit Go.ChangeShapes Go.WideShapes Go.ChangeAt
section
variable {H : Type} {enc : TypeId × Value → H} {P : Program}
theorem trodAll_below {W W' : World} (hl : laidOutB P = true) (hb : Below W.heap.size W W') : ∀ {ts : List TypeId} {vs : List Value} {ds : List (DataW H)} {ps : List MemPlace}, (ts.all fun t => P.readableRec t && decide (t < P.types.size)) = true →
  DataW.TrodAll enc P W 0 (fun _ => true) true ts vs ds ps → (∀ x ∈ ps, x.block < W.heap.size) → DataW.TrodAll enc P W' 0 (fun b => decide (b < W.heap.size)) true ts vs ds ps
 | [], [], [], _, _, h, _ => h
 | t :: ts, v :: vs, d :: ds, ps, hr, h, hlt => by
  obtain ⟨p, q, h1, h2, rfl⟩ := h
  simp only [List.all_cons, Bool.and_eq_true, decide_eq_true_eq] at hr
  exact ⟨p, q, Below.trod hl hr.1.1 hr.1.2 h1 hb fun x hx => hlt x (List.mem_append_left _ hx), trodAll_below hl hb (by simpa using hr.2) h2 fun x hx => hlt x (List.mem_append_right _ hx), rfl⟩
theorem post_below {f : Func} {s : ChangeSpec} {W W' : World} {args : Array Value} {v : Value} {ds gs : List (DataW H)} {pa : List MemPlace} (hl : laidOutB P = true) (hr : (f.params.toList.all fun t => P.readableRec t && decide (t < P.types.size)) = true)
  (hW : DataW.Whole enc P f.params.toList s.vars false W args.toList ds gs (pa ++ [])) (hA : DataW.TrodAll enc P W 0 (fun _ => true) true f.params.toList args.toList ds pa)
  (hres : ∀ (b : Nat) (sp : Nat → Bool) (hd : Bool), DataW.TrodAll enc P W' b sp hd f.resultTypes.toList (v.resultList f.resultTypes.size) (s.fn H (ds ++ gs)).results [])
  (hargs : (s.fn H (ds ++ gs)).args = ds) (hvars : ∀ sp : Nat → Bool, DataW.TrodVars enc P W' sp s.vars (s.fn H (ds ++ gs)).vars []) (hb : Below W.heap.size W W') :
  s.post enc P f false true false false W args v W' := by
 refine ⟨ds, gs, _, [], pa, [], hW, hres _ _ _, ?_, hvars _, hb.frame _, fun h => by cases h⟩
 rw [hargs]
 exact trodAll_below hl hb hr hA fun x hx => hW.lt x (List.mem_append_left _ hx)
/-- A row of texts among the arguments. -/
theorem open_rowS {t e : TypeId} {r : Reach} {b0 : Nat} {W : World} {v : Value} {d : DataW H} {ps : List MemPlace} (ht : P.underlying t = some (.slice e)) (he : P.underlying e = some .string) (hc : P.cellsOf e = 1)
  (hval : Value.okWide P W r b0 t v) (hd : DataW.Trod enc P W 0 (fun _ => true) true t v d ps) : ∃ l, RowS W v l := by
 obtain ⟨a0, len, cap, rfl⟩ := okWide_slice ht hval
 obtain ⟨fuel, hf⟩ := hd
 rcases open_strings ht he hc hf with ⟨hcs, _⟩ | ⟨a, len', cap', ss, hcs, _, hl, _, hz, _, hcell, _⟩
 ·
  simp [Value.cells] at hcs
  obtain ⟨rfl, rfl, rfl⟩ := hcs
  exact ⟨[], .inl ⟨rfl, rfl⟩⟩
 ·
  simp [Value.cells] at hcs
  obtain ⟨rfl, rfl, rfl⟩ := hcs
  simp only [if_true] at hz
  by_cases h0 : cap = 0
  ·
   subst h0
   obtain rfl : len = 0 := by omega
   exact ⟨[], .inr (.inl ⟨a, rfl, rfl⟩)⟩
  ·
   have h1 := hcell 0 (by omega)
   rw [show a.add 0 = a from rfl] at h1
   obtain ⟨g, o, sp⟩ := a
   have hsp : sp = none := by
    unfold World.cell? at h1
    split at h1
    ·
     split at h1
     ·
      cases h1
     ·
      rename_i hn
      simpa using hn
    ·
     cases h1
   subst hsp
   have hg : g < W.heap.size := by
    unfold World.cell? at h1
    split at h1
    ·
     rename_i hh
     exact (Array.getElem?_eq_some_iff.1 hh).1
    ·
     cases h1
   refine ⟨(ss.take len).map fun s => s.data.toList, .inr (.inr ⟨g, o, len, cap, rfl, by simp; omega, hl, hg, fun j u hu => ?_⟩)⟩
   have hj : j < len := by
    have := (List.getElem?_eq_some_iff.1 hu).1
    simp [scells] at this
    omega
   have h2 := hcell j (by omega)
   have e1 : (⟨g, o, none⟩ : Addr).add j = ⟨g, o + j, none⟩ := by cases j <;> simp [Addr.add]
   rw [e1] at h2
   rw [h2, ← hu]
   have hjs : j < ss.length := by omega
   simp [scells, List.getElem?_take_of_lt hj, List.getElem?_eq_getElem hjs, bs]
theorem cells_of_ints {k : IntKind} {e : TypeId} {W : World} {base m : Nat} {spare : Nat → Bool} {held : Bool} {cs : List Value} {xs : List (DataW H × List MemPlace)} {ns : List Nat} (he : P.underlying e = some (.int k)) (hn : xs.length = ns.length)
  (hx : xs.map (·.1) = ns.map fun n => .lit (.int k ((n : Nat) : Int))) (hel : ∀ i, i < ns.length → DataW.trod enc P W base spare held m e ((cs.drop (i * 1)).take 1) = xs[i]?) (j : Nat) (v : Value) (hv : (ns.map fun n => Value.int k ((n : Nat) : Int))[j]? = some v) : cs[j]? = some v := by
 have hj : j < ns.length := by have := (List.getElem?_eq_some_iff.1 hv).1; simpa using this
 have h1 := hel j hj
 rw [List.getElem?_eq_getElem (by omega)] at h1
 obtain ⟨n, e1, e2, _⟩ := DataW.trod_int he h1
 have h3 : (xs.map (·.1))[j]? = (ns.map fun n => DataW.lit (H := H) (.int k ((n : Nat) : Int)))[j]? := by rw [hx]
 rw [List.getElem?_map, List.getElem?_eq_getElem (by omega), List.getElem?_map, List.getElem?_eq_getElem hj, Option.map_some, Option.map_some, e2] at h3
 have h4 : n = ((ns[j] : Nat) : Int) := by simpa using h3
 rw [List.getElem?_map, List.getElem?_eq_getElem hj] at hv
 have h5 : v = .int k ((ns[j] : Nat) : Int) := by simpa using hv.symm
 rw [h5, ← h4]
 have := congrArg (fun q => q[0]?) e1
 simpa [List.getElem?_take_of_lt, List.getElem?_drop] using this
end
end Go.Proofs.Num

namespace Go.Proofs.Num
open Go
def rotrq (x n : Nat) : Nat := x / 2 ^ n + x % 2 ^ n * 2 ^ (64 - n)
theorem rotr_orq {x n : Nat} (hx : x < 18446744073709551616) (hn : n ≤ 64) : (x * 2 ^ (64 - n) % 18446744073709551616) ||| (x / 2 ^ n) = rotrq x n := by
 have hp : (18446744073709551616 : Nat) = 2 ^ (64 - n) * 2 ^ n := by rw [← Nat.pow_add, show 64 - n + n = 64 by omega]
 have h1 : x * 2 ^ (64 - n) % 18446744073709551616 = 2 ^ (64 - n) * (x % 2 ^ n) := by
  rw [hp, Nat.mul_comm x, Nat.mul_mod_mul_left]
 have h2 : x / 2 ^ n < 2 ^ (64 - n) := by
  refine Nat.div_lt_of_lt_mul ?_
  rw [Nat.mul_comm, ← hp]; exact hx
 rw [h1, Nat.mul_comm, ← Nat.shiftLeft_eq, ← Nat.shiftLeft_add_eq_or_of_lt h2, Nat.shiftLeft_eq]
 unfold rotrq
 omega
theorem rotr_ltq {x n : Nat} (hx : x < 18446744073709551616) (hn : n ≤ 64) : rotrq x n < 18446744073709551616 := by
 rw [← rotr_orq hx hn]
 exact or_lt64 (mod_lt64 _) (div_lt64 _ hx)
def sg0q (a : Nat) : Nat := (rotrq a 1 ^^^ rotrq a 8) ^^^ (a / 2 ^ 7)
def sg1q (a : Nat) : Nat := (rotrq a 19 ^^^ rotrq a 61) ^^^ (a / 2 ^ 6)
def bg1q (a : Nat) : Nat := (rotrq a 14 ^^^ rotrq a 18) ^^^ rotrq a 41
def bg0q (a : Nat) : Nat := (rotrq a 28 ^^^ rotrq a 34) ^^^ rotrq a 39
def chsq (e f g : Nat) : Nat := (e &&& f) ^^^ ((18446744073709551615 ^^^ e) &&& g)
def majq (a b c : Nat) : Nat := ((a &&& b) ^^^ (a &&& c)) ^^^ (b &&& c)
section
variable {a b c : Nat} (ha : a < 18446744073709551616)
include ha
end
def be4q (l : List UInt8) (i : Nat) : Nat := ((((((byteN l i * 256 + byteN l (i + 1)) * 256 + byteN l (i + 2)) * 256 + byteN l (i + 3)) * 256 + byteN l (i + 4)) * 256 + byteN l (i + 5)) * 256 + byteN l (i + 6)) * 256 + byteN l (i + 7)
theorem be4_ltq (l : List UInt8) (i : Nat) : be4q l i < 18446744073709551616 := by
 have := byteN_lt l i; have := byteN_lt l (i + 1); have := byteN_lt l (i + 2); have := byteN_lt l (i + 3); have := byteN_lt l (i + 4); have := byteN_lt l (i + 5); have := byteN_lt l (i + 6); have := byteN_lt l (i + 7)
 unfold be4q; omega
def nextWq (l : List UInt8) (p : List Nat) (t : Nat) : Nat :=
 if t < 16 then be4q l (8 * t) else (((p.getD (t - 16) 0 + sg0q (p.getD (t - 15) 0)) % 18446744073709551616 + p.getD (t - 7) 0) % 18446744073709551616 + sg1q (p.getD (t - 2) 0)) % 18446744073709551616
def wlistq (l : List UInt8) : Nat → List Nat
 | 0 => []
 | t + 1 => wlistq l t ++ [nextWq l (wlistq l t) t]
theorem wlist_lenq (l : List UInt8) : ∀ t, (wlistq l t).length = t
 | 0 => rfl
 | t + 1 => by simp [wlistq, wlist_lenq l t]
theorem wlist_getq (l : List UInt8) : ∀ {t j : Nat}, j < t → (wlistq l t).getD j 0 = nextWq l (wlistq l j) j
 | t + 1, j, h => by
  by_cases hj : j < t
  ·
   rw [← wlist_getq l hj]
   simp only [wlistq, List.getD_eq_getElem?_getD]
   rw [List.getElem?_append_left (by rw [wlist_lenq]; exact hj)]
  ·
   have e : j = t := by omega
   subst e
   simp only [wlistq, List.getD_eq_getElem?_getD]
   rw [List.getElem?_append_right (by rw [wlist_lenq]; exact Nat.le_refl _), wlist_lenq, Nat.sub_self]
   rfl
def shWq (l : List UInt8) (t : Nat) : Nat := nextWq l (wlistq l t) t
theorem shW_loq {l : List UInt8} {t : Nat} (h : t < 16) : shWq l t = be4q l (8 * t) := if_pos h
theorem shW_hiq {l : List UInt8} {t : Nat} (h : ¬ t < 16) : shWq l t = (((shWq l (t - 16) + sg0q (shWq l (t - 15))) % 18446744073709551616 + shWq l (t - 7)) % 18446744073709551616 + sg1q (shWq l (t - 2))) % 18446744073709551616 := by
 have h1 := wlist_getq l (t := t) (j := t - 16) (by omega)
 have h2 := wlist_getq l (t := t) (j := t - 15) (by omega)
 have h3 := wlist_getq l (t := t) (j := t - 7) (by omega)
 have h4 := wlist_getq l (t := t) (j := t - 2) (by omega)
 show nextWq l (wlistq l t) t = _
 unfold nextWq
 rw [if_neg h, h1, h2, h3, h4]
 rfl
theorem shW_ltq (l : List UInt8) (t : Nat) : shWq l t < 18446744073709551616 := by
 by_cases h : t < 16
 ·
  rw [shW_loq h]; exact be4_ltq ..
 ·
  rw [shW_hiq h]; exact mod_lt64 _
def wcellsq (l : List UInt8) (t : Nat) : List Value := (List.range 80).map fun i => .int .u64 ((if i < t then shWq l i else 0 : Nat) : Int)
theorem wcells_getq (l : List UInt8) (t : Nat) {j : Nat} (h : j < 80) : (wcellsq l t)[j]? = some (.int .u64 ((if j < t then shWq l j else 0 : Nat) : Int)) := by simp [wcellsq, h]
theorem wcells_atq (l : List UInt8) {t j : Nat} (h : j < 80) (ht : j < t) : (wcellsq l t)[j]? = some (.int .u64 ((shWq l j : Nat) : Int)) := by rw [wcells_getq l t h, if_pos ht]
theorem wcells_lenq (l : List UInt8) (t : Nat) : (wcellsq l t).length = 80 := by simp [wcellsq]
theorem wcells_setq (l : List UInt8) {t : Nat} (h : t < 80) : (wcellsq l t).set t (.int .u64 ((shWq l t : Nat) : Int)) = wcellsq l (t + 1) := by
 refine List.ext_getElem? fun i => ?_
 rw [List.getElem?_set]
 by_cases hi : i < 80
 ·
  rw [wcells_getq l (t + 1) hi]
  split
  ·
   rename_i e
   subst e
   rw [if_pos (by rw [wcells_lenq]; exact hi), if_pos (Nat.lt_succ_self _)]
  ·
   rw [wcells_getq l t hi]
   congr 4
   simp only [eq_iff_iff]
   omega
 ·
  rw [if_neg (by omega), List.getElem?_eq_none (by rw [wcells_lenq]; omega), List.getElem?_eq_none (by rw [wcells_lenq]; omega)]
theorem wcells_oneq (l : List UInt8) (t : Nat) : ∀ v ∈ wcellsq l t, v.oneCell' = true := by
 intro v hv
 simp only [wcellsq, List.mem_map] at hv
 obtain ⟨_, _, rfl⟩ := hv
 rfl
theorem wcells_zeroq (l : List UInt8) : wcellsq l 0 = List.replicate 80 (.int .u64 0) := by simp [wcellsq, List.replicate]; rfl
structure S8q where
 a : Nat
 b : Nat
 c : Nat
 d : Nat
 e : Nat
 f : Nat
 g : Nat
 h : Nat
structure S8q.Ok (v : S8q) : Prop where
 a : v.a < 18446744073709551616
 b : v.b < 18446744073709551616
 c : v.c < 18446744073709551616
 d : v.d < 18446744073709551616
 e : v.e < 18446744073709551616
 f : v.f < 18446744073709551616
 g : v.g < 18446744073709551616
 h : v.h < 18446744073709551616
def oneq (k w : Nat) (v : S8q) : Nat := ((((v.h + bg1q v.e) % 18446744073709551616 + chsq v.e v.f v.g) % 18446744073709551616 + k) % 18446744073709551616 + w) % 18446744073709551616
def twoq (v : S8q) : Nat := (bg0q v.a + majq v.a v.b v.c) % 18446744073709551616
def rndq (k w : Nat) (v : S8q) : S8q := ⟨(oneq k w v + twoq v) % 18446744073709551616, v.a, v.b, v.c, (v.d + oneq k w v) % 18446744073709551616, v.e, v.f, v.g⟩
theorem rnd_okq {k w : Nat} {v : S8q} (h : v.Ok) : (rndq k w v).Ok := ⟨mod_lt64 _, h.a, h.b, h.c, mod_lt64 _, h.e, h.f, h.g⟩
def keyLq : List Nat := [4794697086780616226, 8158064640168781261, 13096744586834688815, 16840607885511220156, 4131703408338449720, 6480981068601479193, 10538285296894168987, 12329834152419229976, 15566598209576043074, 1334009975649890238, 2608012711638119052, 6128411473006802146, 8268148722764581231, 9286055187155687089, 11230858885718282805, 13951009754708518548, 16472876342353939154, 17275323862435702243, 1135362057144423861, 2597628984639134821, 3308224258029322869, 5365058923640841347, 6679025012923562964, 8573033837759648693, 10970295158949994411, 12119686244451234320, 12683024718118986047, 13788192230050041572, 14330467153632333762, 15395433587784984357, 489312712824947311, 1452737877330783856, 2861767655752347644, 3322285676063803686, 5560940570517711597, 5996557281743188959, 7280758554555802590, 8532644243296465576, 9350256976987008742, 10552545826968843579, 11727347734174303076, 12113106623233404929, 14000437183269869457, 14369950271660146224, 15101387698204529176, 15463397548674623760, 17586052441742319658, 1182934255886127544, 1847814050463011016, 2177327727835720531, 2830643537854262169, 3796741975233480872, 4115178125766777443, 5681478168544905931, 6601373596472566643, 7507060721942968483, 8399075790359081724, 8693463985226723168, 9568029438360202098, 10144078919501101548, 10430055236837252648, 11840083180663258601, 13761210420658862357, 14299343276471374635, 14566680578165727644, 15097957966210449927, 16922976911328602910, 17689382322260857208, 500013540394364858, 748580250866718886, 1242879168328830382, 1977374033974150939, 2944078676154940804, 3659926193048069267, 4368137639120453308, 4836135668995329356, 5532061633213252278, 6448918945643986474, 6902733635092675308, 7801388544844847127]
def keyNq (t : Nat) : Nat := keyLq.getD t 0
def kcellsq : List Value := keyLq.map fun k => .int .u64 ((k : Nat) : Int)
theorem kcells_getq {t : Nat} (h : t < 80) : kcellsq[t]? = some (.int .u64 ((keyNq t : Nat) : Int)) := by
 have hl : t < keyLq.length := h
 simp [kcellsq, keyNq, List.getD_eq_getElem?_getD, hl]
def rndsq (l : List UInt8) (h : S8q) : Nat → S8q
 | 0 => h
 | t + 1 => rndq (keyNq t) (shWq l t) (rndsq l h t)
theorem rnds_okq {l : List UInt8} {h : S8q} (hh : h.Ok) : ∀ t, (rndsq l h t).Ok
 | 0 => hh
 | t + 1 => rnd_okq (rnds_okq hh t)
def plus8q (h v : S8q) : S8q := ⟨(h.a + v.a) % 18446744073709551616, (h.b + v.b) % 18446744073709551616, (h.c + v.c) % 18446744073709551616, (h.d + v.d) % 18446744073709551616, (h.e + v.e) % 18446744073709551616, (h.f + v.f) % 18446744073709551616, (h.g + v.g) % 18446744073709551616, (h.h + v.h) % 18446744073709551616⟩
def mixSq (h : S8q) (l : List UInt8) : S8q := plus8q h (rndsq l h 80)
theorem plus8_okq (h v : S8q) : (plus8q h v).Ok := ⟨mod_lt64 _, mod_lt64 _, mod_lt64 _, mod_lt64 _, mod_lt64 _, mod_lt64 _, mod_lt64 _, mod_lt64 _⟩
def takeHq (h : S8q) (l : List UInt8) : S8q := if _hl : 128 ≤ l.length then takeHq (mixSq h l) (l.drop 128) else h
termination_by l.length
decreasing_by simp; omega
def takeRq (l : List UInt8) : List UInt8 := if _hl : 128 ≤ l.length then takeRq (l.drop 128) else l
termination_by l.length
decreasing_by simp; omega
theorem takeH_moreq {h : S8q} {l : List UInt8} (hl : 128 ≤ l.length) : takeHq h l = takeHq (mixSq h l) (l.drop 128) := by rw [takeHq]; simp [hl]
theorem takeH_doneq {h : S8q} {l : List UInt8} (hl : ¬ 128 ≤ l.length) : takeHq h l = h := by rw [takeHq]; simp [hl]
theorem takeR_moreq {l : List UInt8} (hl : 128 ≤ l.length) : takeRq l = takeRq (l.drop 128) := by rw [takeRq]; simp [hl]
theorem takeR_doneq {l : List UInt8} (hl : ¬ 128 ≤ l.length) : takeRq l = l := by rw [takeRq]; simp [hl]
theorem takeH_okq : ∀ (n : Nat) (h : S8q) (l : List UInt8), l.length ≤ n → h.Ok → (takeHq h l).Ok := by
 intro n
 induction n using Nat.strongRecOn with
 | ind n ih =>
  intro h l hn hh
  by_cases hl : 128 ≤ l.length
  ·
   rw [takeH_moreq hl]
   exact ih (n - 128) (by omega) _ _ (by rw [List.length_drop]; omega) (plus8_okq _ _)
  ·
   rw [takeH_doneq hl]; exact hh
theorem takeR_lenq (l : List UInt8) : (takeRq l).length < 128 := by
 generalize hn : l.length = n
 induction n using Nat.strongRecOn generalizing l with
 | ind n ih =>
  by_cases hl : 128 ≤ l.length
  ·
   rw [takeR_moreq hl]
   exact ih (n - 128) (by omega) _ (by rw [List.length_drop]; omega)
  ·
   rw [takeR_doneq hl]; omega
theorem nextW_sameq {l m : List UInt8} (h : ∀ i, i < 128 → byteN l i = byteN m i) (p : List Nat) (t : Nat) : nextWq l p t = nextWq m p t := by
 unfold nextWq
 by_cases ht : t < 16
 ·
  rw [if_pos ht, if_pos ht]
  unfold be4q
  rw [h _ (by omega), h _ (by omega), h _ (by omega), h _ (by omega), h _ (by omega), h _ (by omega), h _ (by omega), h _ (by omega)]
 ·
  rw [if_neg ht, if_neg ht]
theorem wlist_sameq {l m : List UInt8} (h : ∀ i, i < 128 → byteN l i = byteN m i) : ∀ t, wlistq l t = wlistq m t
 | 0 => rfl
 | t + 1 => by
  simp only [wlistq, wlist_sameq h t, nextW_sameq h]
theorem mixS_sameq {s : S8q} {l m : List UInt8} (h : ∀ i, i < 128 → byteN l i = byteN m i) : mixSq s l = mixSq s m := by
 have e : ∀ t, rndsq l s t = rndsq m s t := by
  intro t
  induction t with
  | zero => rfl
  | succ t ih =>
   simp only [rndsq, ih, shWq, wlist_sameq h, nextW_sameq h]
 unfold mixSq
 rw [e]
theorem take_bothq (n : Nat) : ∀ (s : S8q) (l m : List UInt8), l.length ≤ n → takeHq s (l ++ m) = takeHq (takeHq s l) (takeRq l ++ m) ∧ takeRq (l ++ m) = takeRq (takeRq l ++ m) := by
 induction n using Nat.strongRecOn with
 | ind n ih =>
  intro s l m hn
  by_cases hl : 128 ≤ l.length
  ·
   have h2 : 128 ≤ (l ++ m).length := by rw [List.length_append]; omega
   have hd : (l ++ m).drop 128 = l.drop 128 ++ m := List.drop_append_of_le_length hl
   have hm : mixSq s (l ++ m) = mixSq s l := mixS_sameq fun i hi => byteN_app (by omega)
   rw [takeH_moreq h2, takeR_moreq h2, takeH_moreq hl, takeR_moreq hl, hd, hm]
   exact ih (n - 128) (by omega) _ _ _ (by rw [List.length_drop]; omega)
  ·
   rw [takeH_doneq hl, takeR_doneq hl]
   exact ⟨rfl, rfl⟩
theorem takeH_appendq (s : S8q) (l m : List UInt8) : takeHq s (l ++ m) = takeHq (takeHq s l) (takeRq l ++ m) := (take_bothq _ s l m (Nat.le_refl _)).1
theorem takeR_appendq (l m : List UInt8) : takeRq (l ++ m) = takeRq (takeRq l ++ m) := (take_bothq _ ⟨0, 0, 0, 0, 0, 0, 0, 0⟩ l m (Nat.le_refl _)).2
def H0q : S8q := ⟨7640891576956012808, 13503953896175478587, 4354685564936845355, 11912009170470909681, 5840696475078001361, 11170449401992604703, 2270897969802886507, 6620516959819538809⟩
theorem H0_okq : H0q.Ok := ⟨by decide, by decide, by decide, by decide, by decide, by decide, by decide, by decide⟩
def S8q.get (v : S8q) (i : Nat) : Nat := [v.a, v.b, v.c, v.d, v.e, v.f, v.g, v.h].getD i 0
def c8q (v : S8q) : List Value := [.int .u64 ((v.a : Nat) : Int), .int .u64 ((v.b : Nat) : Int), .int .u64 ((v.c : Nat) : Int), .int .u64 ((v.d : Nat) : Int), .int .u64 ((v.e : Nat) : Int), .int .u64 ((v.f : Nat) : Int), .int .u64 ((v.g : Nat) : Int), .int .u64 ((v.h : Nat) : Int)]
theorem c8_getq (v : S8q) {i : Nat} (h : i < 8) : (c8q v)[i]? = some (.int .u64 ((v.get i : Nat) : Int)) := by
 match i, h with
 | 0, _ | 1, _ | 2, _ | 3, _ | 4, _ | 5, _ | 6, _ | 7, _ => rfl
def tailLq (r n : Nat) : List UInt8 := 128 :: (List.replicate (((239 - r) % 128 + 8)) 0 ++ be8 (n * 8 % 18446744073709551616))
theorem tailL_lenq (r n : Nat) : (tailLq r n).length = 1 + (239 - r) % 128 + 16 := by simp [tailLq, be8]; omega
def tailFq (z n i j : Nat) : Nat := if j = 0 then 128 else if 17 + z ≤ j + i then n / 256 ^ (16 + z - j) % 256 else 0
theorem tail_firstq (z n : Nat) : (List.replicate (1 + z + 16) (.int .u8 0)).set 0 (.int .u8 128) = bl (1 + z + 16) (tailFq z n 0) := by
 rw [bl_zero]
 refine (bl_set _ 0 128).trans (bl_ext fun j hj => ?_)
 unfold tailFq
 by_cases h : j = 0
 ·
  rw [if_pos h, if_pos h]
 ·
  rw [if_neg h, if_neg h, if_neg (by omega)]
theorem tail_stepq (z n : Nat) {i : Nat} (h : i < 8) : (bl (1 + z + 16) (tailFq z n i)).set (1 + z + 16 - 1 - i) (.int .u8 ((n / 2 ^ (8 * i) % 256 : Nat) : Int)) = bl (1 + z + 16) (tailFq z n (i + 1)) := by
 refine (bl_set _ _ _).trans (bl_ext fun j hj => ?_)
 unfold tailFq
 by_cases h0 : j = 1 + z + 16 - 1 - i
 ·
  rw [if_pos h0, if_neg (by omega), if_pos (by omega), show 16 + z - j = i by omega, show (256 : Nat) = 2 ^ 8 by decide, ← Nat.pow_mul]
 ·
  rw [if_neg h0]
  by_cases h1 : j = 0
  ·
   rw [if_pos h1, if_pos h1]
  ·
   rw [if_neg h1, if_neg h1]
   by_cases h2 : 17 + z ≤ j + i
   ·
    rw [if_pos h2, if_pos (by omega)]
   ·
    rw [if_neg h2, if_neg (by omega)]
theorem tail_endq (r n : Nat) : bl (1 + (239 - r) % 128 + 16) (tailFq ((239 - r) % 128) (n * 8 % 18446744073709551616) 8) = bcells (tailLq r n) := by
 generalize hz : (239 - r) % 128 = z
 generalize hm : n * 8 % 18446744073709551616 = m
 refine List.ext_getElem? fun i => ?_
 by_cases hi : i < 1 + z + 16
 ·
  rw [bl_get _ _ hi]
  have hl : tailLq r n = 128 :: (List.replicate (z + 8) 0 ++ be8 m) := by unfold tailLq; rw [hz, hm]
  rw [hl]
  unfold bcells tailFq
  rw [List.getElem?_map]
  cases i with
  | zero => rfl
  | succ i =>
   rw [if_neg (by omega), List.getElem?_cons_succ]
   by_cases h : i < z + 8
   ·
    rw [if_neg (by omega), List.getElem?_append_left (by simpa using h)]
    simp [h]
   ·
    rw [if_pos (by omega), List.getElem?_append_right (by simp; omega)]
    have h8 : i - (z + 8) < 8 := by omega
    simp only [List.length_replicate, be8, List.getElem?_map]
    rw [List.getElem?_range h8]
    simp only [Option.map_some, UInt8.toNat_ofNat']
    rw [show 16 + z - (i + 1) = 7 - (i - (z + 8)) by omega]
 ·
  rw [List.getElem?_eq_none (by rw [bl_len]; omega), List.getElem?_eq_none (by rw [bcells_len, tailL_lenq, hz]; omega)]
def outSq (v : S8q) : List UInt8 := (List.range 64).map fun k => UInt8.ofNat (v.get (k / 8) / 2 ^ (8 * (7 - k % 8)))
theorem outS_lenq (v : S8q) : (outSq v).length = 64 := by simp [outSq]
theorem out_stepq (v : S8q) {i j : Nat} (hi : i < 8) (hj : j < 8) : bcells ((outSq v).take (8 * i + j)) ++ [.int .u8 ((v.get i / 2 ^ (8 * (7 - j)) % 256 : Nat) : Int)] = bcells ((outSq v).take (8 * i + (j + 1))) := by
 have hk : 8 * i + j < 64 := by omega
 have e : (outSq v).take (8 * i + (j + 1)) = (outSq v).take (8 * i + j) ++ [UInt8.ofNat (v.get i / 2 ^ (8 * (7 - j)))] := by
  rw [show 8 * i + (j + 1) = 8 * i + j + 1 by omega, List.take_add_one]
  congr 1
  simp only [outSq, List.getElem?_map]
  rw [List.getElem?_range hk]
  simp only [Option.map_some, Option.toList_some]
  rw [show (8 * i + j) / 8 = i by omega, show (8 * i + j) % 8 = j by omega]
 rw [e]
 simp [bcells]
def endLq (h : S8q) (b : List UInt8) (n : Nat) : List UInt8 := outSq (takeHq h (b ++ tailLq b.length n))
def shaq (l : List UInt8) : List UInt8 := endLq (takeHq H0q l) (takeRq l) (l.length % 18446744073709551616)
theorem sha_lenq (l : List UInt8) : (shaq l).length = 64 := outS_lenq _
theorem sha_flatq {ps : List (List UInt8)} : endLq (takeHq H0q (ps.take ps.length).flatten) (takeRq (ps.take ps.length).flatten) ((ps.take ps.length).flatten.length % 18446744073709551616) = shaq ps.flatten := by
 rw [List.take_length]
 rfl
theorem take_zeroq : takeHq H0q [] = H0q ∧ takeRq [] = [] := ⟨takeH_doneq (by decide), takeR_doneq (by decide)⟩
end Go.Proofs.Num

