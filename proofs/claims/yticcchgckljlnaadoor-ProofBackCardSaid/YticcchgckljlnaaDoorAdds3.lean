/- As Adds; but one operation (k0) may write the block that another one (j0) has made, at which no other one looks. Printed by gen/adds3.py. -/
import Derived.Test.YticcchgckljlnaaDoorTrS
set_option linter.unusedSimpArgs false
set_option linter.unusedVariables false
namespace Go.Proofs.Num
open Go Go.RowKit
/-- As Sees, but for one block. -/
structure SeesB (o : Option Nat) (w W : World) : Prop where
  os : W.os = w.os
  tape : W.tape = w.tape
  output : W.output = w.output
  size : w.heap.size ≤ W.heap.size
  old : ∀ k, k < w.heap.size → o ≠ some k → W.heap[k]? = w.heap[k]?
theorem SeesB.of {o : Option Nat} {w W : World} (h : Sees w W) : SeesB o w W := ⟨h.2.2.os, h.2.2.tape, h.2.2.output, h.2.2.size, fun k hk _ => h.2.2.block k hk⟩
theorem SeesB.sees {w W : World} (h : SeesB none w W) : Sees w W := sees_of ⟨h.os, h.tape, h.output, h.size, fun k hk => h.old k hk (fun e => nomatch e)⟩
theorem SeesB.up {o : Option Nat} {w0 w W : World} (h : SeesB o w W) (hS : Sees w0 w) (hg : ∀ g, o = some g → w0.heap.size ≤ g) : Sees w0 W :=
  sees_of ⟨h.os.trans hS.2.2.os, h.tape.trans hS.2.2.tape, h.output.trans hS.2.2.output, Nat.le_trans hS.2.2.size h.size, fun k hk => (h.old k (Nat.lt_of_lt_of_le hk hS.2.2.size) (fun e => absurd (hg k e) (Nat.not_le.2 hk))).trans (hS.2.2.block k hk)⟩
def KeepsB (R : Rel) : Prop := ∀ vs v g W W' o, R vs v g W → o ≠ some g → SeesB o W W' → R vs v g W'
def Still (R : Rel) : Prop := ∀ vs v g W W', R vs v g W → R vs v g W'
def tgt (ks : List (Nat × Nat)) (gs : Nat → Nat) (i : Nat) : Option Nat := (ks.lookup i).map gs
/-- No one that writes its block is listed. -/
def AliveK (ks : List (Nat × Nat)) (listed : Array Bool) (i : Nat) : Prop := ∀ k, (k, i) ∈ ks → listed.getD k false = false
/-- The rule of one operation. -/
def RuleOfK (P : Program) (ops : Array Oper) (Q : Exit → Act → World → Prop) (n : Nat) (cr : List Nat) (Rs : List Rel) (a0 : Act) (w0 : World) (ks : List (Nat × Nat)) (i : Nat) (o : Oper) : Prop :=
  ∀ (vs : Nat → Value) (gs : Nat → Nat) (W : World), Sees w0 W → (∀ j ∈ depsOf ops n i, relAt Rs j vs (vs j) (gs j) W) →
    ∀ K : Act → World → Prop, (∀ v g W', SeesB (tgt ks gs i) W W' → relAt Rs i vs v g W' → (i ∈ cr → W.heap.size ≤ g ∨ tgt ks gs i = some g) → K ((frameOf ops a0 vs (depsOf ops n i)).put o.dst v) W') →
      wpList P ops (Exit.then K Q) [o] (frameOf ops a0 vs (depsOf ops n i)) W
section
variable {P : Program} {ops : Array Oper} {w0 : World} {n : Nat} {cr : List Nat} {Rs : List Rel} {a0 : Act} {Q : Exit → Act → World → Prop} {ks : List (Nat × Nat)}
structure MidK (ops : Array Oper) (n : Nat) (cr : List Nat) (Rs : List Rel) (a0 : Act) (w0 : World) (ks : List (Nat × Nat)) (vs : Nat → Value) (gs : Nat → Nat) (listed : Array Bool) (a : Act) (w : World) : Prop where
  inv : HeadInv .any ops n listed
  sees : Sees w0 w
  slots : Slots ops n a0 (fun i => listed.getD i false) vs a
  rel : ∀ i, i < n → listed.getD i false = true → AliveK ks listed i → relAt Rs i vs (vs i) (gs i) w
  ne : ∀ i j, i < n → j < n → i ≠ j → i ∈ cr → j ∈ cr → listed.getD i false = true → listed.getD j false = true → AliveK ks listed i → AliveK ks listed j → gs i ≠ gs j
structure GivenK (P : Program) (ops : Array Oper) (Q : Exit → Act → World → Prop) (n : Nat) (cr : List Nat) (Rs : List Rel) (a0 : Act) (w0 : World) (ks : List (Nat × Nat)) : Prop where
  sel : Region.noSelect ops = true
  nlt : n ≤ ops.size
  look : ∀ i o, i < n → ops[i]? = some o → ∀ t ∈ o.looksAt ops, ∀ j, j < n → dstOf ops j = some t → (j < i ∧ Region.waitsFor .any ops i j = true) ∨ (i < j ∧ Region.waitsFor .any ops j i = true)
  low : ∀ i o, i < n → ops[i]? = some o → ∀ e ∈ o.after, Region.binds .any e = true → e.on < i
  dist : ∀ i j, i < n → j < n → i ≠ j → dstOf ops i ≠ none → dstOf ops i ≠ dstOf ops j
  keeps : ∀ i, i ∈ cr → KeepsB (relAt Rs i)
  still : ∀ i, i < n → i ∉ cr → Still (relAt Rs i)
  owns : ∀ i, i ∈ cr → Owns (relAt Rs i)
  local_ : ∀ i, i < n → Local (relAt Rs i) (depsOf ops n i)
  new0 : ∀ k j, (k, j) ∈ ks → ∀ vs v g W, relAt Rs j vs v g W → w0.heap.size ≤ g
  pair : ∀ k j, (k, j) ∈ ks → k < n ∧ j < n ∧ j ∈ cr ∧ j ∈ depsOf ops n k ∧ ∀ i, i < n → i ≠ k → j ∉ depsOf ops n i
  rule : ∀ i o, i < n → ops[i]? = some o → RuleOfK P ops Q n cr Rs a0 w0 ks i o
theorem MidK.agree (G : GivenK P ops Q n cr Rs a0 w0 ks) {vs : Nat → Value} {gs : Nat → Nat} {listed : Array Bool} {a : Act} {w : World} (M : MidK ops n cr Rs a0 w0 ks vs gs listed a w) {i : Nat} {o : Oper} (hi : i < n) (ho : ops[i]? = some o)
    (hr : i ∈ Region.ready .any ops listed) : (∀ j ∈ depsOf ops n i, listed.getD j false = true) ∧ execOp a.eval o = execOp (frameOf ops a0 vs (depsOf ops n i)).eval o ∧
      Region.wanted o (yielded ops a.tmps) = Region.wanted o (yielded ops (frameOf ops a0 vs (depsOf ops n i)).tmps) := by
  obtain ⟨_, o', ho', hall⟩ := mem_ready.1 hr
  have : o' = o := Option.some.inj (ho'.symm.trans ho)
  subst this
  have hw : ∀ j, Region.waitsFor .any ops i j = true → listed.getD j false = true := fun j h3 => by
    obtain ⟨oi, hoi, e, he, hb, hon⟩ := Region.waitsFor_spec h3
    have : oi = o' := Option.some.inj (hoi.symm.trans ho)
    subst this
    have hl := hall e he hb
    rwa [hon] at hl
  have hno : ∀ j, Region.waitsFor .any ops j i = true → listed.getD j false = false := fun j h3 => by
    obtain ⟨oj, hoj, e, he, hb, hon⟩ := Region.waitsFor_spec h3
    cases hl : listed.getD j false with
    | false => rfl
    | true =>
      have := M.inv.closed j oj hoj hl e he hb
      rw [hon, getD_both (mem_ready.1 hr).1] at this
      cases this
  have hdep : ∀ j ∈ depsOf ops n i, listed.getD j false = true := fun j hj => by
    have h1 := List.mem_filter.1 hj
    simp only [ho, Bool.and_eq_true, decide_eq_true_eq] at h1
    obtain ⟨h2, h3, h4⟩ := h1
    have hjn := List.mem_range.1 h2
    cases hd : dstOf ops j with
    | none => simp [hd] at h4
    | some t =>
      simp only [hd] at h4
      rcases G.look i o' hi ho t (by simpa using h4) j hjn hd with ⟨_, h5⟩ | ⟨h5, _⟩
      · exact hw j h5
      · omega
  refine ⟨hdep, same_look (Region.noSelect_spec G.sel i o' · · ho) fun t ht => ?_⟩
  refine M.slots.look (frameOf_slots G.dist vs _ (fun j hj => (depsOf_lt hj).1) (depsOf_nodup i)) fun j hj hd => ?_
  rcases G.look i o' hi ho t ht j hj hd with ⟨h1, h3⟩ | ⟨h1, h3⟩
  · exact .inl ⟨hw j h3, by simpa using depsOf_mem hj h1 ho hd ht, rfl⟩
  · refine .inr ⟨hno j h3, ?_⟩
    simp only [decide_eq_false_iff_not]
    intro hm
    have := (depsOf_lt hm).2
    omega
theorem lookup_mem {ks : List (Nat × Nat)} {i j : Nat} (h : ks.lookup i = some j) : (i, j) ∈ ks := by
  induction ks with
  | nil => cases h
  | cons p ks ih =>
    obtain ⟨k, q⟩ := p
    simp only [List.lookup] at h
    by_cases e : i = k
    · subst e
      simp only [BEq.rfl] at h
      cases h
      exact List.mem_cons_self ..
    · have : (i == k) = false := by simpa using e
      rw [this] at h
      exact List.mem_cons_of_mem _ (ih h)
theorem GivenK.waits (G : GivenK P ops Q n cr Rs a0 w0 ks) {k0 j0 : Nat} (hp : (k0, j0) ∈ ks) : Region.waitsFor .any ops k0 j0 = true ∧ j0 < k0 := by
  obtain ⟨hkn, hjn, _, hjk, _⟩ := G.pair _ _ hp
  have hlt : k0 < ops.size := Nat.lt_of_lt_of_le hkn G.nlt
  have ho : ops[k0]? = some ops[k0] := by simp [hlt]
  have hm := List.mem_filter.1 hjk
  simp only [ho, Bool.and_eq_true, decide_eq_true_eq] at hm
  obtain ⟨_, h3, h4⟩ := hm
  cases hd : dstOf ops j0 with
  | none => simp [hd] at h4
  | some t =>
    simp only [hd] at h4
    rcases G.look k0 _ hkn ho t (by simpa using h4) j0 hjn hd with ⟨_, h5⟩ | ⟨h5, _⟩
    · exact ⟨h5, h3⟩
    · omega
theorem MidK.jl (G : GivenK P ops Q n cr Rs a0 w0 ks) {k0 j0 : Nat} (hp : (k0, j0) ∈ ks) {vs : Nat → Value} {gs : Nat → Nat} {listed : Array Bool} {a : Act} {w : World} (M : MidK ops n cr Rs a0 w0 ks vs gs listed a w) (hr : k0 ∈ Region.ready .any ops listed) : listed.getD j0 false = true := by
  obtain ⟨_, o', ho', hall⟩ := mem_ready.1 hr
  obtain ⟨oi, hoi, e, he, hb, hon⟩ := Region.waitsFor_spec (G.waits hp).1
  have : oi = o' := Option.some.inj (hoi.symm.trans ho')
  subst this
  have hl := hall e he hb
  rwa [hon] at hl
theorem MidK.depj (G : GivenK P ops Q n cr Rs a0 w0 ks) {vs : Nat → Value} {gs : Nat → Nat} {listed : Array Bool} {a : Act} {w : World} (M : MidK ops n cr Rs a0 w0 ks vs gs listed a w) {i j : Nat} (hi : i < n) (hr : i ∈ Region.ready .any ops listed) (hj : j ∈ depsOf ops n i) : AliveK ks listed j := fun k hp => by
  by_cases h : i = k
  · subst h
    exact getD_both (mem_ready.1 hr).1
  · exact absurd hj ((G.pair _ _ hp).2.2.2.2 i hi h)
theorem MidK.step (G : GivenK P ops Q n cr Rs a0 w0 ks) {vs : Nat → Value} {gs : Nat → Nat} {listed : Array Bool} {a : Act} {w : World} (M : MidK ops n cr Rs a0 w0 ks vs gs listed a w) {i : Nat} (hi : i < n) {o : Oper} (ho : ops[i]? = some o)
    (hr : i ∈ Region.ready .any ops listed) {v : Value} {w' : World} (h : ∃ g, SeesB (tgt ks gs i) w w' ∧ relAt Rs i vs v g w' ∧ (i ∈ cr → w.heap.size ≤ g ∨ tgt ks gs i = some g)) : ∃ vs' gs', MidK ops n cr Rs a0 w0 ks vs' gs' (listed.setIfInBounds i true) (a.put o.dst v) w' := by
  have hlt : i < ops.size := Nat.lt_of_lt_of_le hi G.nlt
  have hdst : dstOf ops i = o.dst := by simp [dstOf, ho]
  have hsz : i < listed.size := by rw [M.inv.size]; exact hlt
  have hli : listed.getD i false = false := getD_both (mem_ready.1 hr).1
  have hk0 : ∀ j, ks.lookup i = some j → listed.getD j false = true ∧ AliveK ks listed j ∧ j < n ∧ j ∈ cr ∧ (i, j) ∈ ks := fun j e => by
    have hp := lookup_mem e
    obtain ⟨_, hjn, hjc, hjk, _⟩ := G.pair _ _ hp
    exact ⟨M.jl G hp hr, M.depj G hi hr hjk, hjn, hjc, hp⟩
  have hge : ∀ q, tgt ks gs i = some q → w0.heap.size ≤ q := fun q hq => by
    unfold tgt at hq
    cases e : ks.lookup i with
    | none => rw [e] at hq; cases hq
    | some j =>
      rw [e] at hq
      cases hq
      obtain ⟨h1, h2, h3, _, h5⟩ := hk0 j e
      exact G.new0 _ _ h5 _ _ _ _ (M.rel j h3 h1 h2)
  obtain ⟨g, h1, h2, h3⟩ := h
  -- the old condition out of the new one
  have hold : ∀ j, AliveK ks (listed.setIfInBounds i true) j → AliveK ks listed j ∧ ks.lookup i ≠ some j := fun j hj => by
    refine ⟨fun k hp => ?_, fun e => ?_⟩
    · have := hj k hp
      rw [getD_set hsz, Bool.or_eq_false_iff] at this
      exact this.1
    · have := hj i (lookup_mem e)
      rw [getD_set hsz, Bool.or_eq_false_iff] at this
      simp at this
  have hne : ∀ j, j < n → j ∈ cr → listed.getD j false = true → AliveK ks (listed.setIfInBounds i true) j → tgt ks gs i ≠ some (gs j) := fun j hj hjc hlj hc => by
    obtain ⟨q1, q2⟩ := hold j hc
    unfold tgt
    cases e : ks.lookup i with
    | none => exact fun e => nomatch e
    | some j1 =>
      obtain ⟨p1, p2, p3, p4, _⟩ := hk0 j1 e
      intro e9
      have e8 : gs j1 = gs j := by simpa using e9
      exact M.ne j1 j p3 hj (fun e7 => q2 (by rw [e, e7])) p4 hjc p1 hlj p2 q1 e8
  refine ⟨fun j => if j = i then v else vs j, fun j => if j = i then g else gs j, M.inv.set hr hi, h1.up M.sees hge, ?_, ?_, ?_⟩
  · rw [← hdst]
    exact M.slots.put hi (fun j hj hji hn => G.dist i j hi hj (Ne.symm hji) hn) (fun j => getD_set hsz j) (fun j hj _ => by simp [hj]) (by simp)
  · intro j hj hl hc
    rw [getD_set hsz, Bool.or_eq_true] at hl
    by_cases hji : j = i
    · subst hji
      simp only [if_true]
      exact G.local_ j hj _ _ _ _ _ (fun k hk => by rw [if_neg (Nat.ne_of_lt (depsOf_lt hk).2)]) h2
    · simp only [hji, if_false]
      have hlj := hl.resolve_right (by simpa using hji)
      refine G.local_ j hj _ _ _ _ _ (fun k hk => ?_) (?_ : relAt Rs j vs (vs j) (gs j) w')
      · have hki : k ≠ i := fun e => by
          subst e
          have hjl : j < ops.size := Nat.lt_of_lt_of_le hj G.nlt
          have hoj : ops[j]? = some ops[j] := by simp [hjl]
          have hm := List.mem_filter.1 hk
          simp only [hoj, Bool.and_eq_true, decide_eq_true_eq] at hm
          obtain ⟨_, hlt2, h4⟩ := hm
          cases hd : dstOf ops k with
          | none => simp [hd] at h4
          | some t =>
            simp only [hd] at h4
            rcases G.look j _ hj hoj t (by simpa using h4) k hi hd with ⟨_, h5⟩ | ⟨h5, _⟩
            · obtain ⟨oj, hoj', e, he, hb, hon⟩ := Region.waitsFor_spec h5
              have := M.inv.closed j oj hoj' hlj e he hb
              rw [hon, hli] at this
              cases this
            · omega
        rw [if_neg hki]
      · have hR := M.rel j hj hlj (hold j hc).1
        by_cases hjc : j ∈ cr
        · exact G.keeps j hjc _ _ _ _ _ _ hR (hne j hj hjc hlj hc) h1
        · exact G.still j hj hjc _ _ _ _ _ hR
  · intro j k hj hk hjk9 hjc hkc hjl hkl cj ck
    rw [getD_set hsz, Bool.or_eq_true] at hjl hkl
    have hdif : ∀ k, k < n → k ∈ cr → listed.getD k false = true → AliveK ks (listed.setIfInBounds i true) k → i ∈ cr → g ≠ gs k := fun k hk hkc hlk hc hic => by
      rcases h3 hic with h | h
      · have := G.owns k hkc _ _ _ _ (M.rel k hk hlk (hold k hc).1)
        omega
      · intro e
        exact hne k hk hkc hlk hc (by rw [h, e])
    by_cases hji : j = i
    · subst hji
      have hkj : k ≠ j := Ne.symm hjk9
      simp only [if_true, hkj, if_false]
      exact hdif k hk hkc (hkl.resolve_right (by simpa using hkj)) ck hjc
    · by_cases hki : k = i
      · subst hki
        simp only [if_true, hji, if_false]
        exact Ne.symm (hdif j hj hjc (hjl.resolve_right (by simpa using hji)) cj hkc)
      · simp only [hji, hki, if_false]
        exact M.ne j k hj hk hjk9 hjc hkc (hjl.resolve_right (by simpa using hji)) (hkl.resolve_right (by simpa using hki)) (hold j cj).1 (hold k ck).1
theorem MidK.op (G : GivenK P ops Q n cr Rs a0 w0 ks) (hQ : ∀ c a w, ¬ Q (.panic c) a w) {vs : Nat → Value} {gs : Nat → Nat} {listed : Array Bool} {a : Act} {w : World} (M : MidK ops n cr Rs a0 w0 ks vs gs listed a w) {i : Nat} (hi : i < n)
    (hr : i ∈ Region.ready .any ops listed) : wpOp P ops Q i (fun a' w' => ∃ vs' gs', MidK ops n cr Rs a0 w0 ks vs' gs' (listed.setIfInBounds i true) a' w') a w := by
  have hlt : i < ops.size := Nat.lt_of_lt_of_le hi G.nlt
  have ho : ops[i]? = some ops[i] := by simp [hlt]
  have hdst : dstOf ops i = ops[i].dst := by simp [dstOf, hlt]
  obtain ⟨hdep, he, hw⟩ := M.agree G hi ho hr
  have hsz : i < listed.size := by rw [M.inv.size]; exact hlt
  have hli : listed.getD i false = false := getD_both (mem_ready.1 hr).1
  have R0 := G.rule i _ hi ho vs gs w M.sees (fun j hj => M.rel j (depsOf_lt hj).1 (hdep j hj) (M.depj G hi hr hj))
    (fun a' w' => ∃ v, a' = (frameOf ops a0 vs (depsOf ops n i)).put ops[i].dst v ∧ ∃ g, SeesB (tgt ks gs i) w w' ∧ relAt Rs i vs v g w' ∧ (i ∈ cr → w.heap.size ≤ g ∨ tgt ks gs i = some g))
    (fun v g W' h1 h2 h3 => ⟨v, rfl, g, h1, h2, h3⟩)
  have hstep : ∀ v w', (∃ g, SeesB (tgt ks gs i) w w' ∧ relAt Rs i vs v g w' ∧ (i ∈ cr → w.heap.size ≤ g ∨ tgt ks gs i = some g)) → ∃ vs' gs', MidK ops n cr Rs a0 w0 ks vs' gs' (listed.setIfInBounds i true) (a.put ops[i].dst v) w' := fun v w' h => M.step G hi ho hr h
  have hss : a.tmps.size = (frameOf ops a0 vs (depsOf ops n i)).tmps.size := by
    rw [M.slots.size, (frameOf_slots G.dist vs _ (fun j hj => (depsOf_lt hj).1) (depsOf_nodup i)).size]
  unfold wpOp
  simp only [ho]
  unfold wpList at R0
  cases hwt : Region.wanted ops[i] (yielded ops a.tmps) with
  | true =>
    rw [if_pos rfl]
    rw [if_pos (hw ▸ hwt)] at R0
    rcases R0 with h | ⟨h1, h2⟩
    · left
      unfold Oper.wp
      rw [he]
      refine upon_move (S := fun v w' => ∃ g, SeesB (tgt ks gs i) w w' ∧ relAt Rs i vs v g w' ∧ (i ∈ cr → w.heap.size ≤ g ∨ tgt ks gs i = some g)) hQ hss ?_ hstep
      exact h
    · right
      refine ⟨?_, letsOut_then h2⟩
      unfold Oper.asks at h1 ⊢
      rw [he]
      exact h1
  | false =>
    rw [if_neg (by simp)]
    rw [if_neg (by rw [← hw, hwt]; simp)] at R0
    obtain ⟨v, h1, h2⟩ := R0
    have := hstep v w h2
    rwa [← getD_put_eq hss h1] at this
theorem GivenK.least (G : GivenK P ops Q n cr Rs a0 w0 ks) {listed : Array Bool} (inv : HeadInv .any ops n listed) {i : Nat} (hi : i < n) (hl : listed.getD i false = false) (hlow : ∀ j, j < i → listed.getD j false = true) :
    i ∈ Region.ready .any ops listed := by
  have hlt : i < ops.size := Nat.lt_of_lt_of_le hi G.nlt
  have ho : ops[i]? = some ops[i] := by simp [hlt]
  exact mem_ready.2 ⟨getD_in (by rw [inv.size]; exact hlt) hl, _, ho, fun e he hb => hlow _ (G.low i _ hi ho e he hb)⟩
theorem GivenK.any {fl : List Nat} (G : GivenK P ops Q n cr Rs a0 w0 ks) (D : Drawn ops n fl) (hQ : ∀ c a w, ¬ Q (.panic c) a w)
    (hT : ∀ vs gs listed a w, MidK ops n cr Rs a0 w0 ks vs gs listed a w → (∀ i, i < n → listed.getD i false = true) → wpAny P .any ops Q (ops.size - n) listed a w) :
    ∀ (d : Nat) (vs : Nat → Value) (gs : Nat → Nat) (listed : Array Bool) (a : Act) (w : World), left n listed = d → MidK ops n cr Rs a0 w0 ks vs gs listed a w → wpAny P .any ops Q (d + (ops.size - n)) listed a w := by
  intro d
  induction d with
  | zero =>
    intro vs gs listed a w hd M
    rw [Nat.zero_add]
    refine hT vs gs listed a w M fun i hi => ?_
    cases hl : listed.getD i false with
    | true => rfl
    | false =>
      have : i ∈ (List.range n).filter fun i => !listed.getD i false := List.mem_filter.2 ⟨List.mem_range.2 hi, by rw [hl]; rfl⟩
      rw [List.length_eq_zero_iff.1 hd] at this
      cases this
  | succ d ih =>
    intro vs gs listed a w hd M
    have hex : ∃ i, i < n ∧ listed.getD i false = false := by
      obtain ⟨i, hi⟩ := List.exists_mem_of_length_pos (l := (List.range n).filter fun i => !listed.getD i false) (by unfold left at hd; omega)
      have := List.mem_filter.1 hi
      exact ⟨i, List.mem_range.1 this.1, by simpa using this.2⟩
    obtain ⟨k, hk⟩ := hex
    obtain ⟨i, ⟨hin, hil⟩, hmin⟩ := exists_least (p := fun i => i < n ∧ listed.getD i false = false) k hk
    have hlow : ∀ j, j < i → listed.getD j false = true := fun j hj => by
      cases hl : listed.getD j false with
      | true => rfl
      | false => exact absurd ⟨by omega, hl⟩ (hmin j hj)
    have hri := G.least M.inv hin hil hlow
    rw [show d + 1 + (ops.size - n) = (d + (ops.size - n)) + 1 by omega]
    by_cases hnf : ∃ j, j < n ∧ j ∉ fl ∧ listed.getD j false = false
    · obtain ⟨j, hj, hjf, hjl⟩ := hnf
      refine ⟨fun h0 => (by rw [h0] at hri; cases hri), fun k hk => ?_⟩
      have hkn : k < n := by
        rcases Nat.lt_or_ge k n with h | h
        · exact h
        · exact absurd hk (D.tail_waits M.inv _ j rfl hj hjf (getD_in (by rw [M.inv.size]; exact Nat.lt_of_lt_of_le hj G.nlt) hjl) k h)
      have hsz : k < listed.size := by rw [M.inv.size]; exact Nat.lt_of_lt_of_le hkn G.nlt
      have hkl : listed.getD k false = false := getD_both (mem_ready.1 hk).1
      refine wpOp_mono (fun a' w' ⟨vs', gs', M'⟩ => ih vs' gs' _ a' w' ?_ M') (M.op G hQ hkn hk)
      have := left_set hkn hsz hkl
      omega
    · have hif : i ∈ fl := Classical.byContradiction fun h => hnf ⟨i, hin, h, hil⟩
      obtain ⟨_, o, ho, hp, hg, hap⟩ := D.float i hif
      obtain ⟨hdep, he, hw⟩ := M.agree G hin ho hri
      have hwt : Region.wanted o (yielded ops a.tmps) = true := by simp [Region.wanted, hg]
      have R0 := G.rule i o hin ho vs gs w M.sees (fun j hj => M.rel j (depsOf_lt hj).1 (hdep j hj) (M.depj G hin hri hj))
        (fun a' w' => ∃ v, a' = (frameOf ops a0 vs (depsOf ops n i)).put o.dst v ∧ ∃ g, SeesB (tgt ks gs i) w w' ∧ relAt Rs i vs v g w' ∧ (i ∈ cr → w.heap.size ≤ g ∨ tgt ks gs i = some g))
        (fun v g W' h1 h2 h3 => ⟨v, rfl, g, h1, h2, h3⟩)
      unfold wpList at R0
      rw [if_pos (hw ▸ hwt)] at R0
      have hss : a.tmps.size = (frameOf ops a0 vs (depsOf ops n i)).tmps.size := by
        rw [M.slots.size, (frameOf_slots G.dist vs _ (fun j hj => (depsOf_lt hj).1) (depsOf_nodup i)).size]
      have hsz : i < listed.size := by rw [M.inv.size]; exact Nat.lt_of_lt_of_le hin G.nlt
      rcases R0 with h | ⟨hask, hlo⟩
      · unfold Oper.wp at h
        obtain ⟨u, hrun0, v, h1, h2⟩ := pure_upon hp hQ h
        have hrun : ∀ W, (execOp a.eval o).run P W = .ok (.value u) W := fun W => by rw [he]; exact hrun0 W
        refine wpAny_first ho (Region.noSelect_spec G.sel) (fun c a w h => absurd h (hQ c _ w)) _ listed a w ?_ hri (.inl ⟨hwt, hrun⟩) ?_
        · intro j oj hoj hji hun hno
          have hjf : n ≤ j ∨ j ∈ fl := by
            rcases Nat.lt_or_ge j n with h | h
            · right
              exact Classical.byContradiction fun hf => hnf ⟨j, h, hf, getD_both hun⟩
            · exact .inl h
          have hij : i < j := by
            rcases Nat.lt_or_ge j i with h | h
            · have h9 := hlow j h
              rw [getD_both hun] at h9
              cases h9
            · omega
          rcases hap j oj hoj hij hjf with h | h
          · obtain ⟨oj', hoj', e, he, hb, hon⟩ := Region.waitsFor_spec h
            have : oj' = oj := Option.some.inj (hoj'.symm.trans hoj)
            subst this
            exact absurd hon (hno e he hb)
          · exact h
        · obtain ⟨vs', gs', M'⟩ := M.step G hin ho hri h2
          rw [← getD_put_eq hss h1] at M'
          refine ih vs' gs' _ _ w ?_ M'
          have := left_set hin hsz hil
          omega
      · exact absurd hask (pure_asks hp)
theorem midK_start {w1 : World} (hs : Sees w0 w1) (vs : Nat → Value) (gs : Nat → Nat) : MidK ops n cr Rs a0 w0 ks vs gs (Array.replicate ops.size false) a0 w1 := by
  refine ⟨⟨by simp, fun j oj _ hl => (by rw [getD_replicate_false] at hl; cases hl), fun t _ ht => getD_in (by simpa using ht) (getD_replicate_false _ _)⟩, hs, ?_, ?_, ?_⟩
  · have e : (fun i => (Array.replicate ops.size false).getD i false) = fun _ => false := by funext i; exact getD_replicate_false _ _
    rw [e]
    exact Slots.start n a0 _
  · intro i _ hl _
    rw [getD_replicate_false] at hl; cases hl
  · intro i j _ _ _ _ _ hl
    rw [getD_replicate_false] at hl; cases hl
end
/-- The rule of one operation, its dependencies named. -/
def RuleDK (P : Program) (ops : Array Oper) (Q : Exit → Act → World → Prop) (cr : List Nat) (Rs : List Rel) (a0 : Act) (w0 : World) (ks : List (Nat × Nat)) (i : Nat) (ds : List Nat) (o : Oper) : Prop :=
  ∀ (vs : Nat → Value) (gs : Nat → Nat) (W : World), Sees w0 W → DepRel Rs vs gs W ds →
    ∀ K : Act → World → Prop, (∀ v g W', SeesB (tgt ks gs i) W W' → relAt Rs i vs v g W' → (i ∈ cr → W.heap.size ≤ g ∨ tgt ks gs i = some g) → K ((frameOf ops a0 vs ds).put o.dst v) W') →
      wpList P ops (Exit.then K Q) [o] (frameOf ops a0 vs ds) W
def RulesK (P : Program) (ops : Array Oper) (Q : Exit → Act → World → Prop) (cr : List Nat) (Rs : List Rel) (a0 : Act) (w0 : World) (ks : List (Nat × Nat)) : Nat → List (List Nat) → List Oper → Prop
  | _, _, [] => True
  | _, [], _ :: _ => False
  | i, ds :: dss, o :: rest => RuleDK P ops Q cr Rs a0 w0 ks i ds o ∧ RulesK P ops Q cr Rs a0 w0 ks (i + 1) dss rest
theorem RulesK.get {P : Program} {ops : Array Oper} {Q : Exit → Act → World → Prop} {cr : List Nat} {Rs : List Rel} {a0 : Act} {w0 : World} {ks : List (Nat × Nat)} : ∀ {l : List Oper} {i0 : Nat} {dss : List (List Nat)}, RulesK P ops Q cr Rs a0 w0 ks i0 dss l → ∀ i o, l[i]? = some o → ∃ ds, dss[i]? = some ds ∧ RuleDK P ops Q cr Rs a0 w0 ks (i0 + i) ds o
  | [], _, _, _, i, o, h => by simp at h
  | _ :: _, _, [], h, _, _, _ => h.elim
  | x :: l, i0, ds :: dss, h, i, o, ho => by
    cases i with
    | zero =>
      have e : x = o := by simpa using ho
      subst e
      exact ⟨ds, rfl, h.1⟩
    | succ i =>
      obtain ⟨d, h1, h2⟩ := RulesK.get h.2 i o (by simpa using ho)
      exact ⟨d, by simpa using h1, by rwa [show i0 + (i + 1) = i0 + 1 + i by omega]⟩
theorem RulesK.nil {P : Program} {ops : Array Oper} {Q : Exit → Act → World → Prop} {cr : List Nat} {Rs : List Rel} {a0 : Act} {w0 : World} {ks : List (Nat × Nat)} {i : Nat} {dss : List (List Nat)} : RulesK P ops Q cr Rs a0 w0 ks i dss [] := by cases dss <;> exact trivial
/-- The rule of an operation that is no writer. -/
theorem RulesK.cons {P : Program} {ops : Array Oper} {Q : Exit → Act → World → Prop} {cr : List Nat} {Rs : List Rel} {a0 : Act} {w0 : World} {ks : List (Nat × Nat)} {i : Nat} {ds : List Nat} {dss : List (List Nat)} {o : Oper} {rest : List Oper} (b : (Nat → Value) → Act) (hik : ks.lookup i = none) (hb : (fun vs => frameOf ops a0 vs ds) = b)
    (h : ∀ (vs : Nat → Value) (gs : Nat → Nat) (W : World), Sees w0 W → DepRel Rs vs gs W ds → ∀ K : Act → World → Prop, (∀ v g W', Sees W W' → relAt Rs i vs v g W' → (i ∈ cr → W.heap.size ≤ g) → K ((b vs).put o.dst v) W') → wpList P ops (Exit.then K Q) [o] (b vs) W)
    (h' : RulesK P ops Q cr Rs a0 w0 ks (i + 1) dss rest) : RulesK P ops Q cr Rs a0 w0 ks i (ds :: dss) (o :: rest) := by
  refine ⟨fun vs gs W hS hD K hK => ?_, h'⟩
  subst hb
  exact h vs gs W hS hD K fun v g W' h1 h2 h3 => hK v g W' (.of h1) h2 fun hc => .inl (h3 hc)
/-- The rule of the one that writes. -/
theorem RulesK.consK {P : Program} {ops : Array Oper} {Q : Exit → Act → World → Prop} {cr : List Nat} {Rs : List Rel} {a0 : Act} {w0 : World} {ks : List (Nat × Nat)} {i : Nat} {ds : List Nat} {dss : List (List Nat)} {o : Oper} {rest : List Oper} (b : (Nat → Value) → Act) (j0 : Nat) (hik : ks.lookup i = some j0) (hb : (fun vs => frameOf ops a0 vs ds) = b)
    (h : ∀ (vs : Nat → Value) (gs : Nat → Nat) (W : World), Sees w0 W → DepRel Rs vs gs W ds → ∀ K : Act → World → Prop, (∀ v g W', SeesB (some (gs j0)) W W' → relAt Rs i vs v g W' → (W.heap.size ≤ g ∨ gs j0 = g) → K ((b vs).put o.dst v) W') → wpList P ops (Exit.then K Q) [o] (b vs) W)
    (h' : RulesK P ops Q cr Rs a0 w0 ks (i + 1) dss rest) : RulesK P ops Q cr Rs a0 w0 ks i (ds :: dss) (o :: rest) := by
  refine ⟨fun vs gs W hS hD K hK => ?_, h'⟩
  subst hb
  have e : tgt ks gs i = some (gs j0) := by unfold tgt; rw [hik]; rfl
  rw [e] at hK
  exact h vs gs W hS hD K fun v g W' h1 h2 h3 => hK v g W' h1 h2 fun _ => h3.imp id (congrArg some)
/-- The blocks that are written are the region's own. -/
def AllNew (w0 : World) (Rs : List Rel) : List (Nat × Nat) → Prop
  | [] => True
  | p :: ks => (∀ vs v g W, relAt Rs p.2 vs v g W → w0.heap.size ≤ g) ∧ AllNew w0 Rs ks
theorem AllNew.get {w0 : World} {Rs : List Rel} : ∀ {ks : List (Nat × Nat)}, AllNew w0 Rs ks → ∀ k j, (k, j) ∈ ks → ∀ vs v g W, relAt Rs j vs v g W → w0.heap.size ≤ g
  | p :: ks, h, k, j, hm => by
    rcases List.mem_cons.1 hm with e | e
    · subst e; exact h.1
    · exact AllNew.get h.2 k j e
/-- The check of what is written. -/
def pairsOk (n : Nat) (cr : List Nat) (dss : List (List Nat)) (ks : List (Nat × Nat)) : Bool :=
  ks.all fun p => decide (p.1 < n) && decide (p.2 < n) && cr.elem p.2 && (dss.getD p.1 []).elem p.2 && (List.range n).all fun i => i == p.1 || !(dss.getD i []).elem p.2
def AllStill (cr : List Nat) : Nat → List Rel → Prop
  | _, [] => True
  | i, R :: Rs => (i ∈ cr ∧ KeepsB R ∨ i ∉ cr ∧ Still R) ∧ AllStill cr (i + 1) Rs
theorem AllStill.get {cr : List Nat} : ∀ {Rs : List Rel} {i0 : Nat}, AllStill cr i0 Rs → ∀ i, i < Rs.length → (i0 + i ∈ cr ∧ KeepsB (relAt Rs i) ∨ i0 + i ∉ cr ∧ Still (relAt Rs i))
  | R :: Rs, i0, h, 0, _ => h.1
  | R :: Rs, i0, h, i + 1, hi => by
    have := AllStill.get h.2 i (by simpa using hi)
    rwa [show i0 + 1 + i = i0 + (i + 1) by omega] at this
theorem AllStill.nil {cr : List Nat} {i : Nat} : AllStill cr i [] := trivial
theorem AllStill.block {cr : List Nat} {i : Nat} {R : Rel} {Rs : List Rel} (hc : cr.elem i = true) (h : KeepsB R) (h' : AllStill cr (i + 1) Rs) : AllStill cr i (R :: Rs) := ⟨.inl ⟨by simpa using hc, h⟩, h'⟩
theorem AllStill.val {cr : List Nat} {i : Nat} {R : Rel} {Rs : List Rel} (hc : cr.elem i = false) (h : Still R) (h' : AllStill cr (i + 1) Rs) : AllStill cr i (R :: Rs) := ⟨.inr ⟨by simpa using hc, h⟩, h'⟩
theorem still_val {x : Value} : Still (ValRel x) := fun _ _ _ _ _ h => h
theorem SeesB.range {o : Option Nat} {w W : World} {g q : Nat} {cs : List Value} (h : SeesB o w W) (ho : o ≠ some g) (hl : g < w.heap.size) (hr : w.rangeAt g q cs) : W.rangeAt g q cs := fun j v hv => by
  rw [World.cell?_of_block (w := w) (h.old g hl ho)]
  exact hr j v hv
theorem Bk.Ok.monoB {w0 w W : World} {b : Bk} {o : Option Nat} (h : b.Ok [] w0 w) (ho : o ≠ some b.g) (hS : SeesB o w W) : b.Ok [] w0 W := by
  refine ⟨?_, fun s hs => hS.range ho h.lt (h.range s hs), Nat.lt_of_lt_of_le h.lt hS.size, h.own⟩
  intro k hk
  have h1 := h.there k hk
  obtain ⟨h2, h3⟩ := h1
  have e1 : W.heap[b.g]? = w.heap[b.g]? := hS.old b.g h.lt ho
  constructor
  · rw [World.cell?_of_block (w := w) e1]; exact h2
  · rw [World.frozen?_of_block (w := w) e1]; exact h3
theorem keepB_new {w0 : World} {f : Nat → Nat → Value} {n : Nat} {segs : List (Nat × List Value)} : KeepsB (NewRel w0 f n segs) := fun _ _ _ _ _ _ ⟨c, h1, h2, h3⟩ ho hS => ⟨c, h1, h2, h3.monoB ho hS⟩
theorem keepB_box {w0 : World} {f : Nat → Value} {N : Nat} {segs : List (Nat × List Value)} : KeepsB (BoxRel w0 f N segs) := fun _ _ _ _ _ _ ⟨h1, h3⟩ ho hS => ⟨h1, h3.monoB ho hS⟩
theorem ge_new {w0 : World} {f : Nat → Nat → Value} {n : Nat} {segs : List (Nat × List Value)} : ∀ vs v g W, NewRel w0 f n segs vs v g W → w0.heap.size ≤ g := fun _ _ _ _ ⟨_, _, _, h⟩ => h.ge
theorem ge_box {w0 : World} {f : Nat → Value} {N : Nat} {segs : List (Nat × List Value)} : ∀ vs v g W, BoxRel w0 f N segs vs v g W → w0.heap.size ≤ g := fun _ _ _ _ ⟨_, h⟩ => h.ge
theorem Mem.seesB {g : Nat} {w W : World} {l : List Bk} (h : Mem [g] w W l) : SeesB (some g) w W := ⟨h.os, h.tape, h.output, h.size, fun k hk hg => h.old k hk (fun hm => hg (by rw [List.mem_singleton.1 hm]))⟩
theorem Bk.Ok.startB {w0 w : World} {g N : Nat} {segs : List (Nat × List Value)} (h : Bk.Ok [] w0 w ⟨g, N, segs⟩) : Mem [g] w w [⟨g, N, segs⟩] := Mem.start1 h.there h.range h.lt
theorem Bk.Ok.upB {g : Nat} {w0 w W : World} {b : Bk} (h : b.Ok [g] w W) (hS : Sees w0 w) (hg : w0.heap.size ≤ g) : b.Ok [] w0 W := ⟨h.there, h.range, h.lt, .inl (by
  rcases h.own with e | e
  · exact Nat.le_trans hS.2.2.size e
  · rw [List.mem_singleton.1 e]; exact hg)⟩
theorem Bk.Ok.orB {g : Nat} {w W : World} {b : Bk} (h : b.Ok [g] w W) : w.heap.size ≤ b.g ∨ g = b.g := h.own.imp id fun e => (List.mem_singleton.1 e).symm
/-- THE RULE: each operation by its own; what they have left, in whatever order, is there for the tail. -/
theorem wp_region_addsK {P : Program} {id : Nat} {Q : Exit → Act → World → Prop} {a : Act} {w : World} {l : List Oper} (n : Nat) (fl cr : List Nat) (Rs : List Rel) (dss : List (List Nat)) (hm : P.follows .mixedOrders = true) (hB : addsOk l.toArray n = true) (hD : growD l.toArray n fl = true)
    (hd : (List.range n).map (depsOf l.toArray n) = dss) (ks : List (Nat × Nat)) (al : List Nat) (hpair : pairsOk n cr dss ks = true) (hal : (List.range n).filter (fun i => !ks.any fun p => p.2 == i) = al) (hlen : Rs.length = n) (hg0 : AllNew w Rs ks) (hk : AllStill cr 0 Rs) (hloc : AllLoc dss Rs) (ho : AllOwn Rs cr) (hr : RulesK P l.toArray (NoPanic Q) cr Rs a w ks 0 dss (l.take n))
    (ht : ∀ vs gs W, Sees w W → DepRel Rs vs gs W al → (∀ i j, i ∈ al → j ∈ al → i ∈ cr → j ∈ cr → i ≠ j → gs i ≠ gs j) → wpList P l.toArray (NoPanic Q) (l.drop n) (frameOf l.toArray a vs (List.range n)) W) :
    (Code.region id l.toArray true).wp P Q a w := by
  have hQ : ∀ c a w, ¬ NoPanic Q (.panic c) a w := fun c a w h => h
  simp only [addsOk, Bool.and_eq_true, decide_eq_true_eq] at hB
  obtain ⟨⟨⟨⟨hsel, hnlt⟩, hlook⟩, hlow⟩, hdist⟩ := hB
  have hdq : ∀ i, i < n → dss.getD i [] = depsOf l.toArray n i := fun i hi => by
    rw [← hd]; simp [List.getD, List.getElem?_range hi]
  have hPair : ∀ k j, (k, j) ∈ ks → k < n ∧ j < n ∧ j ∈ cr ∧ j ∈ depsOf l.toArray n k ∧ ∀ i, i < n → i ≠ k → j ∉ depsOf l.toArray n i := fun k j hp => by
    have h1 := List.all_eq_true.1 hpair _ hp
    simp only [Bool.and_eq_true, decide_eq_true_eq] at h1
    obtain ⟨⟨⟨⟨h1, h2⟩, h3⟩, h4⟩, h5⟩ := h1
    refine ⟨h1, h2, by simpa using h3, by rw [hdq k h1] at h4; simpa using h4, fun i hi hik => ?_⟩
    have h6 := List.all_eq_true.1 h5 i (List.mem_range.2 hi)
    rw [hdq i hi] at h6
    simpa [hik] using h6
  have hKeep : ∀ i, i ∈ cr → KeepsB (relAt Rs i) := fun i hi => by
    rcases Nat.lt_or_ge i Rs.length with h | h
    · rcases hk.get i h with h9 | h9
      · exact h9.2
      · rw [Nat.zero_add] at h9; exact absurd hi h9.1
    · rw [show relAt Rs i = fun _ _ _ _ => True by unfold relAt; rw [List.getD_eq_getElem?_getD, List.getElem?_eq_none h]; rfl]
      exact fun _ _ _ _ _ _ _ _ _ => trivial
  have hStill : ∀ i, i < n → i ∉ cr → Still (relAt Rs i) := fun i hin hi => by
    rcases hk.get i (by omega) with h9 | h9
    · rw [Nat.zero_add] at h9; exact absurd h9.1 hi
    · exact h9.2
  have hAl : ∀ i, i ∈ al → i < n ∧ ∀ k, (k, i) ∉ ks := fun i hi => by
    rw [← hal] at hi
    have h1 := List.mem_filter.1 hi
    refine ⟨List.mem_range.1 h1.1, fun k hk9 => ?_⟩
    have h2 := h1.2
    simp only [Bool.not_eq_true'] at h2
    have h3 := List.any_eq_false.1 h2 _ hk9
    simp at h3
  have G : GivenK P l.toArray (NoPanic Q) n cr Rs a w ks := by
    refine ⟨hsel, hnlt, ?_, ?_, ?_, hKeep, hStill, fun i hi => ho.get i hi, fun i hi => hloc.get i _ (by rw [← hd, List.getElem?_map, List.getElem?_range hi]; rfl), hg0.get, hPair, ?_⟩
    · intro i o hi hoi t htl j hj hdj
      have h1 := List.all_eq_true.1 hlook i (List.mem_range.2 hi)
      simp only [hoi] at h1
      have h2 := List.all_eq_true.1 (List.all_eq_true.1 h1 t htl) j (List.mem_range.2 hj)
      simp only [Bool.or_eq_true, Bool.and_eq_true, decide_eq_true_eq, bne_iff_ne, ne_eq] at h2
      rcases h2 with (h2 | h2) | h2
      · exact absurd hdj h2
      · exact .inl h2
      · exact .inr h2
    · intro i o hi hoi e he hb
      have h1 := List.all_eq_true.1 hlow i (List.mem_range.2 hi)
      simp only [hoi] at h1
      have h2 := Array.all_eq_true_iff_forall_mem.1 h1 e he
      simpa [hb] using h2
    · intro i j hi hj hij hno
      have h1 := List.all_eq_true.1 (List.all_eq_true.1 hdist i (List.mem_range.2 hi)) j (List.mem_range.2 hj)
      simp only [Bool.or_eq_true, beq_iff_eq, bne_iff_ne, ne_eq] at h1
      rcases h1 with (h1 | h1) | h1
      · exact absurd h1 hij
      · exact absurd h1 hno
      · exact h1
    · intro i o hi hoi vs gs W hS hdep K hK
      have hoi' : (l.take n)[i]? = some o := by rw [List.getElem?_take_of_lt hi]; simpa using hoi
      obtain ⟨ds, h1, h2⟩ := hr.get i o hoi'
      have e : depsOf l.toArray n i = ds := by
        rw [← hd, List.getElem?_map, List.getElem?_range hi] at h1
        simpa using h1
      rw [Nat.zero_add] at h2
      rw [e] at hdep hK ⊢
      exact h2 vs gs W hS (DepRel.of hdep) K hK
  refine wp_region_noPanic (wp_region_any hm ?_)
  have hleft : left n (Array.replicate l.toArray.size false) = n := by
    unfold left
    rw [List.filter_eq_self.2 (fun i _ => by rw [getD_replicate_false]; rfl), List.length_range]
  have hseq : Region.seqB .any l.toArray (l.toArray.size - n) n (Array.ofFn (n := l.toArray.size) fun i => decide (i.1 < n)) = true := by
    simp only [growD, Bool.and_eq_true] at hD
    exact hD.2
  have H := G.any (drawn_of hD) hQ (fun vs gs listed a' w' M hall => ?_) n (fun _ => undef) (fun _ => 0) _ a w.drew hleft (midK_start (sees_drew (sees_refl w)) _ _)
  · rw [show n + (l.toArray.size - n) = l.toArray.size by omega] at H
    exact H
  · have hdl : (l.drop n).length = l.toArray.size - n := by simp
    have hli : listed = Array.ofFn (n := l.toArray.size) fun i => decide (i.1 < n) := by
      apply Array.ext (by simp [M.inv.size])
      intro i h1 h2
      have h3 : i < l.toArray.size := by rw [M.inv.size] at h1; exact h1
      rw [Array.getElem_ofFn]
      have e : listed.getD i false = listed[i] := by simp [h1]
      rw [← e]
      by_cases hi : i < n
      · simp only [hi, decide_true]; exact hall i hi
      · simp only [hi, decide_false]; exact getD_both (M.inv.tail i (by omega) h3)
    have hfr : a' = frameOf l.toArray a vs (List.range n) := by
      have h1 := frameOf_slots (n := n) (a0 := a) G.dist vs (List.range n) (fun j hj => List.mem_range.1 hj) List.nodup_range
      refine Slots.same (S := fun i => decide (i < n)) (sv := vs) (n := n) (a0 := a) (ops := l.toArray) ?_ ?_
      · refine ⟨M.slots.defers, M.slots.size, fun t ht i hi hdi _ => M.slots.done t ht i hi hdi (hall i hi), fun t ht h => M.slots.old t ht fun i hi hdi => ?_⟩
        have := h i hi hdi
        simp [hi] at this
      · simpa [List.mem_range] using h1
    have hw := ht vs gs w' M.sees (DepRel.of fun j hj => M.rel j (hAl j hj).1 (hall j (hAl j hj).1) (fun k hp => absurd hp ((hAl j hj).2 k))) (fun i j hi hj hic hjc hij => M.ne i j (hAl i hi).1 (hAl j hj).1 hij hic hjc (hall i (hAl i hi).1) (hall j (hAl j hj).1) (fun k hp => absurd hp ((hAl i hi).2 k)) (fun k hp => absurd hp ((hAl j hj).2 k)))
    rw [← hfr] at hw
    have := wpAny_of_seq (md := .any) (Q' := NoPanic Q) (P := P) (ops := l.toArray) (l.drop n) n listed a' w' (fun j => by simp [List.getElem?_drop]) (by rw [hdl, hli]; exact hseq) hw
    rwa [hdl] at this
/-- The rule, the frames named. -/
theorem wp_region_addsFK {P : Program} {id : Nat} {Q : Exit → Act → World → Prop} {a : Act} {w : World} {l : List Oper} (n : Nat) (fl cr : List Nat) (Rs : List Rel) (dss : List (List Nat)) (ks : List (Nat × Nat)) (al : List Nat) (hpair : pairsOk n cr dss ks = true) (hal : (List.range n).filter (fun i => !ks.any fun p => p.2 == i) = al) (hlen : Rs.length = n) (hg0 : AllNew w Rs ks) (hk : AllStill cr 0 Rs) (b : (Nat → Value) → Act) (hm : P.follows .mixedOrders = true) (hB : addsOk l.toArray n = true) (hD : growD l.toArray n fl = true)
    (hd : (List.range n).map (depsOf l.toArray n) = dss) (hloc : AllLoc dss Rs) (ho : AllOwn Rs cr) (hb : (fun vs => frameOf l.toArray a vs (List.range n)) = b) (hr : RulesK P l.toArray (NoPanic Q) cr Rs a w ks 0 dss (l.take n))
    (ht : ∀ vs gs W, Sees w W → DepRel Rs vs gs W al → (∀ i j, i ∈ al → j ∈ al → i ∈ cr → j ∈ cr → i ≠ j → gs i ≠ gs j) → wpList P l.toArray (NoPanic Q) (l.drop n) (b vs) W) :
    (Code.region id l.toArray true).wp P Q a w :=
  wp_region_addsK n fl cr Rs dss hm hB hD hd ks al hpair hal hlen hg0 hk hloc ho hr fun vs gs W h1 h2 h3 => by subst hb; exact ht vs gs W h1 h2 h3
end Go.Proofs.Num

