/- As Adds; but one operation (k0) may write the block that another one (j0) has made, at which no other one looks. Printed by gen/adds3.py. -/
import Derived.Test.YtdcmmnindlhghaaAdds2
set_option linter.unusedSimpArgs false
set_option linter.unusedVariables false
namespace Go.Proofs.Num
open Go Go.RowKit
/-- As Sees, but for one block. -/
structure SeesB (o : Option Nat) (w W : World) : Prop where
  os : W.os = w.os
  tape : W.tape = w.tape
  output : W.output = w.output
  size : w.heap.size ≤ W.heap.size
  old : ∀ k, k < w.heap.size → o ≠ some k → W.heap[k]? = w.heap[k]?
theorem SeesB.of {o : Option Nat} {w W : World} (h : Sees w W) : SeesB o w W := ⟨h.2.2.os, h.2.2.tape, h.2.2.output, h.2.2.size, fun k hk _ => h.2.2.block k hk⟩
theorem SeesB.sees {w W : World} (h : SeesB none w W) : Sees w W := sees_of ⟨h.os, h.tape, h.output, h.size, fun k hk => h.old k hk (fun e => nomatch e)⟩
theorem SeesB.up {o : Option Nat} {w0 w W : World} (h : SeesB o w W) (hS : Sees w0 w) (hg : ∀ g, o = some g → w0.heap.size ≤ g) : Sees w0 W :=
  sees_of ⟨h.os.trans hS.2.2.os, h.tape.trans hS.2.2.tape, h.output.trans hS.2.2.output, Nat.le_trans hS.2.2.size h.size, fun k hk => (h.old k (Nat.lt_of_lt_of_le hk hS.2.2.size) (fun e => absurd (hg k e) (Nat.not_le.2 hk))).trans (hS.2.2.block k hk)⟩
def KeepsB (R : Rel) : Prop := ∀ vs v g W W' o, R vs v g W → o ≠ some g → SeesB o W W' → R vs v g W'
def Still (R : Rel) : Prop := ∀ vs v g W W', R vs v g W → R vs v g W'
def tgt (ks : List (Nat × Nat)) (gs : Nat → Nat) (i : Nat) : Option Nat := (ks.lookup i).map gs
/-- No one that writes its block is listed. -/
def AliveK (ks : List (Nat × Nat)) (listed : Array Bool) (i : Nat) : Prop := ∀ k, (k, i) ∈ ks → listed.getD k false = false
/-- The rule of one operation. -/
def RuleOfK (P : Program) (ops : Array Oper) (Q : Exit → Act → World → Prop) (n : Nat) (cr : List Nat) (Rs : List Rel) (a0 : Act) (w0 : World) (ks : List (Nat × Nat)) (i : Nat) (o : Oper) : Prop :=
  ∀ (vs : Nat → Value) (gs : Nat → Nat) (W : World), Sees w0 W → (∀ j ∈ depsOf ops n i, relAt Rs j vs (vs j) (gs j) W) →
    ∀ K : Act → World → Prop, (∀ v g W', SeesB (tgt ks gs i) W W' → relAt Rs i vs v g W' → (i ∈ cr → W.heap.size ≤ g ∨ tgt ks gs i = some g) → K ((frameOf ops a0 vs (depsOf ops n i)).put o.dst v) W') →
      wpList P ops (Exit.then K Q) [o] (frameOf ops a0 vs (depsOf ops n i)) W
section
variable {P : Program} {ops : Array Oper} {w0 : World} {n : Nat} {cr : List Nat} {Rs : List Rel} {a0 : Act} {Q : Exit → Act → World → Prop} {ks : List (Nat × Nat)}
structure MidK (ops : Array Oper) (n : Nat) (cr : List Nat) (Rs : List Rel) (a0 : Act) (w0 : World) (ks : List (Nat × Nat)) (vs : Nat → Value) (gs : Nat → Nat) (listed : Array Bool) (a : Act) (w : World) : Prop where
  inv : HeadInv .any ops n listed
  sees : Sees w0 w
  slots : Slots ops n a0 (fun i => listed.getD i false) vs a
  rel : ∀ i, i < n → listed.getD i false = true → AliveK ks listed i → relAt Rs i vs (vs i) (gs i) w
  ne : ∀ i j, i < n → j < n → i ≠ j → i ∈ cr → j ∈ cr → listed.getD i false = true → listed.getD j false = true → AliveK ks listed i → AliveK ks listed j → gs i ≠ gs j
structure GivenK (P : Program) (ops : Array Oper) (Q : Exit → Act → World → Prop) (n : Nat) (cr : List Nat) (Rs : List Rel) (a0 : Act) (w0 : World) (ks : List (Nat × Nat)) : Prop where
  sel : Region.noSelect ops = true
  nlt : n ≤ ops.size
  look : ∀ i o, i < n → ops[i]? = some o → ∀ t ∈ o.looksAt ops, ∀ j, j < n → dstOf ops j = some t → (j < i ∧ Region.waitsFor .any ops i j = true) ∨ (i < j ∧ Region.waitsFor .any ops j i = true)
  low : ∀ i o, i < n → ops[i]? = some o → ∀ e ∈ o.after, Region.binds .any e = true → e.on < i
  dist : ∀ i j, i < n → j < n → i ≠ j → dstOf ops i ≠ none → dstOf ops i ≠ dstOf ops j
  keeps : ∀ i, i ∈ cr → KeepsB (relAt Rs i)
  still : ∀ i, i < n → i ∉ cr → Still (relAt Rs i)
  owns : ∀ i, i ∈ cr → Owns (relAt Rs i)
  local_ : ∀ i, i < n → Local (relAt Rs i) (depsOf ops n i)
  new0 : ∀ k j, (k, j) ∈ ks → ∀ vs v g W, relAt Rs j vs v g W → w0.heap.size ≤ g
  pair : ∀ k j, (k, j) ∈ ks → k < n ∧ j < n ∧ j ∈ cr ∧ j ∈ depsOf ops n k ∧ ∀ i, i < n → i ≠ k → j ∉ depsOf ops n i
  rule : ∀ i o, i < n → ops[i]? = some o → RuleOfK P ops Q n cr Rs a0 w0 ks i o
theorem MidK.agree (G : GivenK P ops Q n cr Rs a0 w0 ks) {vs : Nat → Value} {gs : Nat → Nat} {listed : Array Bool} {a : Act} {w : World} (M : MidK ops n cr Rs a0 w0 ks vs gs listed a w) {i : Nat} {o : Oper} (hi : i < n) (ho : ops[i]? = some o)
    (hr : i ∈ Region.ready .any ops listed) : (∀ j ∈ depsOf ops n i, listed.getD j false = true) ∧ execOp a.eval o = execOp (frameOf ops a0 vs (depsOf ops n i)).eval o ∧
      Region.wanted o (yielded ops a.tmps) = Region.wanted o (yielded ops (frameOf ops a0 vs (depsOf ops n i)).tmps) := by
  obtain ⟨_, o', ho', hall⟩ := mem_ready.1 hr
  have : o' = o := Option.some.inj (ho'.symm.trans ho)
  subst this
  have hw : ∀ j, Region.waitsFor .any ops i j = true → listed.getD j false = true := fun j h3 => by
    obtain ⟨oi, hoi, e, he, hb, hon⟩ := Region.waitsFor_spec h3
    have : oi = o' := Option.some.inj (hoi.symm.trans ho)
    subst this
    have hl := hall e he hb
    rwa [hon] at hl
  have hno : ∀ j, Region.waitsFor .any ops j i = true → listed.getD j false = false := fun j h3 => by
    obtain ⟨oj, hoj, e, he, hb, hon⟩ := Region.waitsFor_spec h3
    cases hl : listed.getD j false with
    | false => rfl
    | true =>
      have := M.inv.closed j oj hoj hl e he hb
      rw [hon, getD_both (mem_ready.1 hr).1] at this
      cases this
  have hdep : ∀ j ∈ depsOf ops n i, listed.getD j false = true := fun j hj => by
    have h1 := List.mem_filter.1 hj
    simp only [ho, Bool.and_eq_true, decide_eq_true_eq] at h1
    obtain ⟨h2, h3, h4⟩ := h1
    have hjn := List.mem_range.1 h2
    cases hd : dstOf ops j with
    | none => simp [hd] at h4
    | some t =>
      simp only [hd] at h4
      rcases G.look i o' hi ho t (by simpa using h4) j hjn hd with ⟨_, h5⟩ | ⟨h5, _⟩
      · exact hw j h5
      · omega
  refine ⟨hdep, same_look (Region.noSelect_spec G.sel i o' · · ho) fun t ht => ?_⟩
  refine M.slots.look (frameOf_slots G.dist vs _ (fun j hj => (depsOf_lt hj).1) (depsOf_nodup i)) fun j hj hd => ?_
  rcases G.look i o' hi ho t ht j hj hd with ⟨h1, h3⟩ | ⟨h1, h3⟩
  · exact .inl ⟨hw j h3, by simpa using depsOf_mem hj h1 ho hd ht, rfl⟩
  · refine .inr ⟨hno j h3, ?_⟩
    simp only [decide_eq_false_iff_not]
    intro hm
    have := (depsOf_lt hm).2
    omega
theorem lookup_mem {ks : List (Nat × Nat)} {i j : Nat} (h : ks.lookup i = some j) : (i, j) ∈ ks := by
  induction ks with
  | nil => cases h
  | cons p ks ih =>
    obtain ⟨k, q⟩ := p
    simp only [List.lookup] at h
    by_cases e : i = k
    · subst e
      simp only [BEq.rfl] at h
      cases h
      exact List.mem_cons_self ..
    · have : (i == k) = false := by simpa using e
      rw [this] at h
      exact List.mem_cons_of_mem _ (ih h)
theorem GivenK.waits (G : GivenK P ops Q n cr Rs a0 w0 ks) {k0 j0 : Nat} (hp : (k0, j0) ∈ ks) : Region.waitsFor .any ops k0 j0 = true ∧ j0 < k0 := by
  obtain ⟨hkn, hjn, _, hjk, _⟩ := G.pair _ _ hp
  have hlt : k0 < ops.size := Nat.lt_of_lt_of_le hkn G.nlt
  have ho : ops[k0]? = some ops[k0] := by simp [hlt]
  have hm := List.mem_filter.1 hjk
  simp only [ho, Bool.and_eq_true, decide_eq_true_eq] at hm
  obtain ⟨_, h3, h4⟩ := hm
  cases hd : dstOf ops j0 with
  | none => simp [hd] at h4
  | some t =>
    simp only [hd] at h4
    rcases G.look k0 _ hkn ho t (by simpa using h4) j0 hjn hd with ⟨_, h5⟩ | ⟨h5, _⟩
    · exact ⟨h5, h3⟩
    · omega
theorem MidK.jl (G : GivenK P ops Q n cr Rs a0 w0 ks) {k0 j0 : Nat} (hp : (k0, j0) ∈ ks) {vs : Nat → Value} {gs : Nat → Nat} {listed : Array Bool} {a : Act} {w : World} (M : MidK ops n cr Rs a0 w0 ks vs gs listed a w) (hr : k0 ∈ Region.ready .any ops listed) : listed.getD j0 false = true := by
  obtain ⟨_, o', ho', hall⟩ := mem_ready.1 hr
  obtain ⟨oi, hoi, e, he, hb, hon⟩ := Region.waitsFor_spec (G.waits hp).1
  have : oi = o' := Option.some.inj (hoi.symm.trans ho')
  subst this
  have hl := hall e he hb
  rwa [hon] at hl
theorem MidK.depj (G : GivenK P ops Q n cr Rs a0 w0 ks) {vs : Nat → Value} {gs : Nat → Nat} {listed : Array Bool} {a : Act} {w : World} (M : MidK ops n cr Rs a0 w0 ks vs gs listed a w) {i j : Nat} (hi : i < n) (hr : i ∈ Region.ready .any ops listed) (hj : j ∈ depsOf ops n i) : AliveK ks listed j := fun k hp => by
  by_cases h : i = k
  · subst h
    exact getD_both (mem_ready.1 hr).1
  · exact absurd hj ((G.pair _ _ hp).2.2.2.2 i hi h)
theorem MidK.step (G : GivenK P ops Q n cr Rs a0 w0 ks) {vs : Nat → Value} {gs : Nat → Nat} {listed : Array Bool} {a : Act} {w : World} (M : MidK ops n cr Rs a0 w0 ks vs gs listed a w) {i : Nat} (hi : i < n) {o : Oper} (ho : ops[i]? = some o)
    (hr : i ∈ Region.ready .any ops listed) {v : Value} {w' : World} (h : ∃ g, SeesB (tgt ks gs i) w w' ∧ relAt Rs i vs v g w' ∧ (i ∈ cr → w.heap.size ≤ g ∨ tgt ks gs i = some g)) : ∃ vs' gs', MidK ops n cr Rs a0 w0 ks vs' gs' (listed.setIfInBounds i true) (a.put o.dst v) w' := by
  have hlt : i < ops.size := Nat.lt_of_lt_of_le hi G.nlt
  have hdst : dstOf ops i = o.dst := by simp [dstOf, ho]
  have hsz : i < listed.size := by rw [M.inv.size]; exact hlt
  have hli : listed.getD i false = false := getD_both (mem_ready.1 hr).1
  have hk0 : ∀ j, ks.lookup i = some j → listed.getD j false = true ∧ AliveK ks listed j ∧ j < n ∧ j ∈ cr ∧ (i, j) ∈ ks := fun j e => by
    have hp := lookup_mem e
    obtain ⟨_, hjn, hjc, hjk, _⟩ := G.pair _ _ hp
    exact ⟨M.jl G hp hr, M.depj G hi hr hjk, hjn, hjc, hp⟩
  have hge : ∀ q, tgt ks gs i = some q → w0.heap.size ≤ q := fun q hq => by
    unfold tgt at hq
    cases e : ks.lookup i with
    | none => rw [e] at hq; cases hq
    | some j =>
      rw [e] at hq
      cases hq
      obtain ⟨h1, h2, h3, _, h5⟩ := hk0 j e
      exact G.new0 _ _ h5 _ _ _ _ (M.rel j h3 h1 h2)
  obtain ⟨g, h1, h2, h3⟩ := h
  -- the old condition out of the new one
  have hold : ∀ j, AliveK ks (listed.setIfInBounds i true) j → AliveK ks listed j ∧ ks.lookup i ≠ some j := fun j hj => by
    refine ⟨fun k hp => ?_, fun e => ?_⟩
    · have := hj k hp
      rw [getD_set hsz, Bool.or_eq_false_iff] at this
      exact this.1
    · have := hj i (lookup_mem e)
      rw [getD_set hsz, Bool.or_eq_false_iff] at this
      simp at this
  have hne : ∀ j, j < n → j ∈ cr → listed.getD j false = true → AliveK ks (listed.setIfInBounds i true) j → tgt ks gs i ≠ some (gs j) := fun j hj hjc hlj hc => by
    obtain ⟨q1, q2⟩ := hold j hc
    unfold tgt
    cases e : ks.lookup i with
    | none => exact fun e => nomatch e
    | some j1 =>
      obtain ⟨p1, p2, p3, p4, _⟩ := hk0 j1 e
      intro e9
      have e8 : gs j1 = gs j := by simpa using e9
      exact M.ne j1 j p3 hj (fun e7 => q2 (by rw [e, e7])) p4 hjc p1 hlj p2 q1 e8
  refine ⟨fun j => if j = i then v else vs j, fun j => if j = i then g else gs j, M.inv.set hr hi, h1.up M.sees hge, ?_, ?_, ?_⟩
  · rw [← hdst]
    exact M.slots.put hi (fun j hj hji hn => G.dist i j hi hj (Ne.symm hji) hn) (fun j => getD_set hsz j) (fun j hj _ => by simp [hj]) (by simp)
  · intro j hj hl hc
    rw [getD_set hsz, Bool.or_eq_true] at hl
    by_cases hji : j = i
    · subst hji
      simp only [if_true]
      exact G.local_ j hj _ _ _ _ _ (fun k hk => by rw [if_neg (Nat.ne_of_lt (depsOf_lt hk).2)]) h2
    · simp only [hji, if_false]
      have hlj := hl.resolve_right (by simpa using hji)
      refine G.local_ j hj _ _ _ _ _ (fun k hk => ?_) (?_ : relAt Rs j vs (vs j) (gs j) w')
      · have hki : k ≠ i := fun e => by
          subst e
          have hjl : j < ops.size := Nat.lt_of_lt_of_le hj G.nlt
          have hoj : ops[j]? = some ops[j] := by simp [hjl]
          have hm := List.mem_filter.1 hk
          simp only [hoj, Bool.and_eq_true, decide_eq_true_eq] at hm
          obtain ⟨_, hlt2, h4⟩ := hm
          cases hd : dstOf ops k with
          | none => simp [hd] at h4
          | some t =>
            simp only [hd] at h4
            rcases G.look j _ hj hoj t (by simpa using h4) k hi hd with ⟨_, h5⟩ | ⟨h5, _⟩
            · obtain ⟨oj, hoj', e, he, hb, hon⟩ := Region.waitsFor_spec h5
              have := M.inv.closed j oj hoj' hlj e he hb
              rw [hon, hli] at this
              cases this
            · omega
        rw [if_neg hki]
      · have hR := M.rel j hj hlj (hold j hc).1
        by_cases hjc : j ∈ cr
        · exact G.keeps j hjc _ _ _ _ _ _ hR (hne j hj hjc hlj hc) h1
        · exact G.still j hj hjc _ _ _ _ _ hR
  · intro j k hj hk hjk9 hjc hkc hjl hkl cj ck
    rw [getD_set hsz, Bool.or_eq_true] at hjl hkl
    have hdif : ∀ k, k < n → k ∈ cr → listed.getD k false = true → AliveK ks (listed.setIfInBounds i true) k → i ∈ cr → g ≠ gs k := fun k hk hkc hlk hc hic => by
      rcases h3 hic with h | h
      · have := G.owns k hkc _ _ _ _ (M.rel k hk hlk (hold k hc).1)
        omega
      · intro e
        exact hne k hk hkc hlk hc (by rw [h, e])
    by_cases hji : j = i
    · subst hji
      have hkj : k ≠ j := Ne.symm hjk9
      simp only [if_true, hkj, if_false]
      exact hdif k hk hkc (hkl.resolve_right (by simpa using hkj)) ck hjc
    · by_cases hki : k = i
      · subst hki
        simp only [if_true, hji, if_false]
        exact Ne.symm (hdif j hj hjc (hjl.resolve_right (by simpa using hji)) cj hkc)
      · simp only [hji, hki, if_false]
        exact M.ne j k hj hk hjk9 hjc hkc (hjl.resolve_right (by simpa using hji)) (hkl.resolve_right (by simpa using hki)) (hold j cj).1 (hold k ck).1
theorem MidK.op (G : GivenK P ops Q n cr Rs a0 w0 ks) (hQ : ∀ c a w, ¬ Q (.panic c) a w) {vs : Nat → Value} {gs : Nat → Nat} {listed : Array Bool} {a : Act} {w : World} (M : MidK ops n cr Rs a0 w0 ks vs gs listed a w) {i : Nat} (hi : i < n)
    (hr : i ∈ Region.ready .any ops listed) : wpOp P ops Q i (fun a' w' => ∃ vs' gs', MidK ops n cr Rs a0 w0 ks vs' gs' (listed.setIfInBounds i true) a' w') a w := by
  have hlt : i < ops.size := Nat.lt_of_lt_of_le hi G.nlt
  have ho : ops[i]? = some ops[i] := by simp [hlt]
  have hdst : dstOf ops i = ops[i].dst := by simp [dstOf, hlt]
  obtain ⟨hdep, he, hw⟩ := M.agree G hi ho hr
  have hsz : i < listed.size := by rw [M.inv.size]; exact hlt
  have hli : listed.getD i false = false := getD_both (mem_ready.1 hr).1
  have R0 := G.rule i _ hi ho vs gs w M.sees (fun j hj => M.rel j (depsOf_lt hj).1 (hdep j hj) (M.depj G hi hr hj))
    (fun a' w' => ∃ v, a' = (frameOf ops a0 vs (depsOf ops n i)).put ops[i].dst v ∧ ∃ g, SeesB (tgt ks gs i) w w' ∧ relAt Rs i vs v g w' ∧ (i ∈ cr → w.heap.size ≤ g ∨ tgt ks gs i = some g))
    (fun v g W' h1 h2 h3 => ⟨v, rfl, g, h1, h2, h3⟩)
  have hstep : ∀ v w', (∃ g, SeesB (tgt ks gs i) w w' ∧ relAt Rs i vs v g w' ∧ (i ∈ cr → w.heap.size ≤ g ∨ tgt ks gs i = some g)) → ∃ vs' gs', MidK ops n cr Rs a0 w0 ks vs' gs' (listed.setIfInBounds i true) (a.put ops[i].dst v) w' := fun v w' h => M.step G hi ho hr h
  have hss : a.tmps.size = (frameOf ops a0 vs (depsOf ops n i)).tmps.size := by
    rw [M.slots.size, (frameOf_slots G.dist vs _ (fun j hj => (depsOf_lt hj).1) (depsOf_nodup i)).size]
  unfold wpOp
  simp only [ho]
  unfold wpList at R0
  cases hwt : Region.wanted ops[i] (yielded ops a.tmps) with
  | true =>
    rw [if_pos rfl]
    rw [if_pos (hw ▸ hwt)] at R0
    rcases R0 with h | ⟨h1, h2⟩
    · left
      unfold Oper.wp
      rw [he]
      refine upon_move (S := fun v w' => ∃ g, SeesB (tgt ks gs i) w w' ∧ relAt Rs i vs v g w' ∧ (i ∈ cr → w.heap.size ≤ g ∨ tgt ks gs i = some g)) hQ hss ?_ hstep
      exact h
    · right
      refine ⟨?_, letsOut_then h2⟩
      unfold Oper.asks at h1 ⊢
      rw [he]
      exact h1
  | false =>
    rw [if_neg (by simp)]
    rw [if_neg (by rw [← hw, hwt]; simp)] at R0
    obtain ⟨v, h1, h2⟩ := R0
    have := hstep v w h2
    rwa [← getD_put_eq hss h1] at this
theorem GivenK.least (G : GivenK P ops Q n cr Rs a0 w0 ks) {listed : Array Bool} (inv : HeadInv .any ops n listed) {i : Nat} (hi : i < n) (hl : listed.getD i false = false) (hlow : ∀ j, j < i → listed.getD j false = true) :
    i ∈ Region.ready .any ops listed := by
  have hlt : i < ops.size := Nat.lt_of_lt_of_le hi G.nlt
  have ho : ops[i]? = some ops[i] := by simp [hlt]
  exact mem_ready.2 ⟨getD_in (by rw [inv.size]; exact hlt) hl, _, ho, fun e he hb => hlow _ (G.low i _ hi ho e he hb)⟩
theorem GivenK.any {fl : List Nat} (G : GivenK P ops Q n cr Rs a0 w0 ks) (D : Drawn ops n fl) (hQ : ∀ c a w, ¬ Q (.panic c) a w)
    (hT : ∀ vs gs listed a w, MidK ops n cr Rs a0 w0 ks vs gs listed a w → (∀ i, i < n → listed.getD i false = true) → wpAny P .any ops Q (ops.size - n) listed a w) :
    ∀ (d : Nat) (vs : Nat → Value) (gs : Nat → Nat) (listed : Array Bool) (a : Act) (w : World), left n listed = d → MidK ops n cr Rs a0 w0 ks vs gs listed a w → wpAny P .any ops Q (d + (ops.size - n)) listed a w := by
  intro d
  induction d with
  | zero =>
    intro vs gs listed a w hd M
    rw [Nat.zero_add]
    refine hT vs gs listed a w M fun i hi => ?_
    cases hl : listed.getD i false with
    | true => rfl
    | false =>
      have : i ∈ (List.range n).filter fun i => !listed.getD i false := List.mem_filter.2 ⟨List.mem_range.2 hi, by rw [hl]; rfl⟩
      rw [List.length_eq_zero_iff.1 hd] at this
      cases this
  | succ d ih =>
    intro vs gs listed a w hd M
    have hex : ∃ i, i < n ∧ listed.getD i false = false := by
      obtain ⟨i, hi⟩ := List.exists_mem_of_length_pos (l := (List.range n).filter fun i => !listed.getD i false) (by unfold left at hd; omega)
      have := List.mem_filter.1 hi
      exact ⟨i, List.mem_range.1 this.1, by simpa using this.2⟩
    obtain ⟨k, hk⟩ := hex
    obtain ⟨i, ⟨hin, hil⟩, hmin⟩ := exists_least (p := fun i => i < n ∧ listed.getD i false = false) k hk
    have hlow : ∀ j, j < i → listed.getD j false = true := fun j hj => by
      cases hl : listed.getD j false with
      | true => rfl
      | false => exact absurd ⟨by omega, hl⟩ (hmin j hj)
    have hri := G.least M.inv hin hil hlow
    rw [show d + 1 + (ops.size - n) = (d + (ops.size - n)) + 1 by omega]
    by_cases hnf : ∃ j, j < n ∧ j ∉ fl ∧ listed.getD j false = false
    · obtain ⟨j, hj, hjf, hjl⟩ := hnf
      refine ⟨fun h0 => (by rw [h0] at hri; cases hri), fun k hk => ?_⟩
      have hkn : k < n := by
        rcases Nat.lt_or_ge k n with h | h
        · exact h
        · exact absurd hk (D.tail_waits M.inv _ j rfl hj hjf (getD_in (by rw [M.inv.size]; exact Nat.lt_of_lt_of_le hj G.nlt) hjl) k h)
      have hsz : k < listed.size := by rw [M.inv.size]; exact Nat.lt_of_lt_of_le hkn G.nlt
      have hkl : listed.getD k false = false := getD_both (mem_ready.1 hk).1
      refine wpOp_mono (fun a' w' ⟨vs', gs', M'⟩ => ih vs' gs' _ a' w' ?_ M') (M.op G hQ hkn hk)
      have := left_set hkn hsz hkl
      omega
    · have hif : i ∈ fl := Classical.byContradiction fun h => hnf ⟨i, hin, h, hil⟩
      obtain ⟨_, o, ho, hp, hg, hap⟩ := D.float i hif
      obtain ⟨hdep, he, hw⟩ := M.agree G hin ho hri
      have hwt : Region.wanted o (yielded ops a.tmps) = true := by simp [Region.wanted, hg]
      have R0 := G.rule i o hin ho vs gs w M.sees (fun j hj => M.rel j (depsOf_lt hj).1 (hdep j hj) (M.depj G hin hri hj))
        (fun a' w' => ∃ v, a' = (frameOf ops a0 vs (depsOf ops n i)).put o.dst v ∧ ∃ g, SeesB (tgt ks gs i) w w' ∧ relAt Rs i vs v g w' ∧ (i ∈ cr → w.heap.size ≤ g ∨ tgt ks gs i = some g))
        (fun v g W' h1 h2 h3 => ⟨v, rfl, g, h1, h2, h3⟩)
      unfold wpList at R0
      rw [if_pos (hw ▸ hwt)] at R0
      have hss : a.tmps.size = (frameOf ops a0 vs (depsOf ops n i)).tmps.size := by
        rw [M.slots.size, (frameOf_slots G.dist vs _ (fun j hj => (depsOf_lt hj).1) (depsOf_nodup i)).size]
      have hsz : i < listed.size := by rw [M.inv.size]; exact Nat.lt_of_lt_of_le hin G.nlt
      rcases R0 with h | ⟨hask, hlo⟩
      · unfold Oper.wp at h
        obtain ⟨u, hrun0, v, h1, h2⟩ := pure_upon hp hQ h
        have hrun : ∀ W, (execOp a.eval o).run P W = .ok (.value u) W := fun W => by rw [he]; exact hrun0 W
        refine wpAny_first ho (Region.noSelect_spec G.sel) (fun c a w h => absurd h (hQ c _ w)) _ listed a w ?_ hri (.inl ⟨hwt, hrun⟩) ?_
        · intro j oj hoj hji hun hno
          have hjf : n ≤ j ∨ j ∈ fl := by
            rcases Nat.lt_or_ge j n with h | h
            · right
              exact Classical.byContradiction fun hf => hnf ⟨j, h, hf, getD_both hun⟩
            · exact .inl h
          have hij : i < j := by
            rcases Nat.lt_or_ge j i with h | h
            · have h9 := hlow j h
              rw [getD_both hun] at h9
              cases h9
            · omega
          rcases hap j oj hoj hij hjf with h | h
          · obtain ⟨oj', hoj', e, he, hb, hon⟩ := Region.waitsFor_spec h
            have : oj' = oj := Option.some.inj (hoj'.symm.trans hoj)
            subst this
            exact absurd hon (hno e he hb)
          · exact h
        · obtain ⟨vs', gs', M'⟩ := M.step G hin ho hri h2
          rw [← getD_put_eq hss h1] at M'
          refine ih vs' gs' _ _ w ?_ M'
          have := left_set hin hsz hil
          omega
      · exact absurd hask (pure_asks hp)
end
/-- The rule of one operation, its dependencies named. -/
def RuleDK (P : Program) (ops : Array Oper) (Q : Exit → Act → World → Prop) (cr : List Nat) (Rs : List Rel) (a0 : Act) (w0 : World) (ks : List (Nat × Nat)) (i : Nat) (ds : List Nat) (o : Oper) : Prop :=
  ∀ (vs : Nat → Value) (gs : Nat → Nat) (W : World), Sees w0 W → DepRel Rs vs gs W ds →
    ∀ K : Act → World → Prop, (∀ v g W', SeesB (tgt ks gs i) W W' → relAt Rs i vs v g W' → (i ∈ cr → W.heap.size ≤ g ∨ tgt ks gs i = some g) → K ((frameOf ops a0 vs ds).put o.dst v) W') →
      wpList P ops (Exit.then K Q) [o] (frameOf ops a0 vs ds) W
def RulesK (P : Program) (ops : Array Oper) (Q : Exit → Act → World → Prop) (cr : List Nat) (Rs : List Rel) (a0 : Act) (w0 : World) (ks : List (Nat × Nat)) : Nat → List (List Nat) → List Oper → Prop
  | _, _, [] => True
  | _, [], _ :: _ => False
  | i, ds :: dss, o :: rest => RuleDK P ops Q cr Rs a0 w0 ks i ds o ∧ RulesK P ops Q cr Rs a0 w0 ks (i + 1) dss rest
theorem RulesK.get {P : Program} {ops : Array Oper} {Q : Exit → Act → World → Prop} {cr : List Nat} {Rs : List Rel} {a0 : Act} {w0 : World} {ks : List (Nat × Nat)} : ∀ {l : List Oper} {i0 : Nat} {dss : List (List Nat)}, RulesK P ops Q cr Rs a0 w0 ks i0 dss l → ∀ i o, l[i]? = some o → ∃ ds, dss[i]? = some ds ∧ RuleDK P ops Q cr Rs a0 w0 ks (i0 + i) ds o
  | [], _, _, _, i, o, h => by simp at h
  | _ :: _, _, [], h, _, _, _ => h.elim
  | x :: l, i0, ds :: dss, h, i, o, ho => by
    cases i with
    | zero =>
      have e : x = o := by simpa using ho
      subst e
      exact ⟨ds, rfl, h.1⟩
    | succ i =>
      obtain ⟨d, h1, h2⟩ := RulesK.get h.2 i o (by simpa using ho)
      exact ⟨d, by simpa using h1, by rwa [show i0 + (i + 1) = i0 + 1 + i by omega]⟩
theorem RulesK.nil {P : Program} {ops : Array Oper} {Q : Exit → Act → World → Prop} {cr : List Nat} {Rs : List Rel} {a0 : Act} {w0 : World} {ks : List (Nat × Nat)} {i : Nat} {dss : List (List Nat)} : RulesK P ops Q cr Rs a0 w0 ks i dss [] := by cases dss <;> exact trivial
/-- The rule of an operation that is no writer. -/
theorem RulesK.cons {P : Program} {ops : Array Oper} {Q : Exit → Act → World → Prop} {cr : List Nat} {Rs : List Rel} {a0 : Act} {w0 : World} {ks : List (Nat × Nat)} {i : Nat} {ds : List Nat} {dss : List (List Nat)} {o : Oper} {rest : List Oper} (b : (Nat → Value) → Act) (hik : ks.lookup i = none) (hb : (fun vs => frameOf ops a0 vs ds) = b)
    (h : ∀ (vs : Nat → Value) (gs : Nat → Nat) (W : World), Sees w0 W → DepRel Rs vs gs W ds → ∀ K : Act → World → Prop, (∀ v g W', Sees W W' → relAt Rs i vs v g W' → (i ∈ cr → W.heap.size ≤ g) → K ((b vs).put o.dst v) W') → wpList P ops (Exit.then K Q) [o] (b vs) W)
    (h' : RulesK P ops Q cr Rs a0 w0 ks (i + 1) dss rest) : RulesK P ops Q cr Rs a0 w0 ks i (ds :: dss) (o :: rest) := by
  refine ⟨fun vs gs W hS hD K hK => ?_, h'⟩
  subst hb
  exact h vs gs W hS hD K fun v g W' h1 h2 h3 => hK v g W' (.of h1) h2 fun hc => .inl (h3 hc)
/-- The blocks that are written are the region's own. -/
def AllNew (w0 : World) (Rs : List Rel) : List (Nat × Nat) → Prop
  | [] => True
  | p :: ks => (∀ vs v g W, relAt Rs p.2 vs v g W → w0.heap.size ≤ g) ∧ AllNew w0 Rs ks
theorem AllNew.get {w0 : World} {Rs : List Rel} : ∀ {ks : List (Nat × Nat)}, AllNew w0 Rs ks → ∀ k j, (k, j) ∈ ks → ∀ vs v g W, relAt Rs j vs v g W → w0.heap.size ≤ g
  | p :: ks, h, k, j, hm => by
    rcases List.mem_cons.1 hm with e | e
    · subst e; exact h.1
    · exact AllNew.get h.2 k j e
def AllStill (cr : List Nat) : Nat → List Rel → Prop
  | _, [] => True
  | i, R :: Rs => (i ∈ cr ∧ KeepsB R ∨ i ∉ cr ∧ Still R) ∧ AllStill cr (i + 1) Rs
theorem AllStill.get {cr : List Nat} : ∀ {Rs : List Rel} {i0 : Nat}, AllStill cr i0 Rs → ∀ i, i < Rs.length → (i0 + i ∈ cr ∧ KeepsB (relAt Rs i) ∨ i0 + i ∉ cr ∧ Still (relAt Rs i))
  | R :: Rs, i0, h, 0, _ => h.1
  | R :: Rs, i0, h, i + 1, hi => by
    have := AllStill.get h.2 i (by simpa using hi)
    rwa [show i0 + 1 + i = i0 + (i + 1) by omega] at this
theorem AllStill.nil {cr : List Nat} {i : Nat} : AllStill cr i [] := trivial
theorem AllStill.block {cr : List Nat} {i : Nat} {R : Rel} {Rs : List Rel} (hc : cr.elem i = true) (h : KeepsB R) (h' : AllStill cr (i + 1) Rs) : AllStill cr i (R :: Rs) := ⟨.inl ⟨by simpa using hc, h⟩, h'⟩
theorem AllStill.val {cr : List Nat} {i : Nat} {R : Rel} {Rs : List Rel} (hc : cr.elem i = false) (h : Still R) (h' : AllStill cr (i + 1) Rs) : AllStill cr i (R :: Rs) := ⟨.inr ⟨by simpa using hc, h⟩, h'⟩
theorem SeesB.range {o : Option Nat} {w W : World} {g q : Nat} {cs : List Value} (h : SeesB o w W) (ho : o ≠ some g) (hl : g < w.heap.size) (hr : w.rangeAt g q cs) : W.rangeAt g q cs := fun j v hv => by
  rw [World.cell?_of_block (w := w) (h.old g hl ho)]
  exact hr j v hv
end Go.Proofs.Num

