/- A drawn region, order by order. -/
import Derived.Test.YticcchgckljlnaaDoorSteps4
import Derived.Test.YticcchgckljlnaaDoorNumH
set_option linter.unusedSimpArgs false
set_option linter.unusedVariables false
namespace Go.Proofs.Num
open Go Go.RowKit
variable {P : Program}
theorem letsOut_then {K : Act → World → Prop} {Q : Exit → Act → World → Prop} (h : LetsOut (Exit.then K Q)) : LetsOut Q := by
  first
  | exact h
  | (unfold LetsOut at *; exact fun e a w => h e a w)
  | (unfold LetsOut at *; exact h)
theorem wp_then {o : Oper} {a : Act} {w : World} {K K' : Act → World → Prop} {Q : Exit → Act → World → Prop} (h : ∀ a w, K' a w → K a w) (hh : o.wp P a w K' (Exit.then K Q)) : o.wp P a w K Q := by
  unfold Oper.wp at *
  generalize (execOp a.eval o).run P w = r at *
  cases r with
  | ok n w' =>
    cases n <;> simp only [Oper.upon] at hh ⊢ <;>
      first
        | exact h _ _ hh
        | exact Calls.mono hh (fun e w'' he => by
            cases e
            · exact h _ _ he
            · exact he
            · exact letsOut_then he)
        | exact Rows.mono hh (fun _ _ he => h _ _ he)
  | halt x w' => cases x <;> simp only [Oper.upon] at hh ⊢ <;> exact hh
variable {ops : Array Oper} {Q : Exit → Act → World → Prop} {a : Act} {w : World}
theorem any_op {K : Act → World → Prop} (i : Nat) {o : Oper} (hi : ops[i]? = some o) (h : wpList P ops (Exit.then K Q) [o] a w) : wpOp P ops Q i K a w := by
  unfold wpOp
  simp only [hi]
  simp only [wpList] at h
  split at h
  · next hw =>
    rw [if_pos hw]
    exact h.imp (wp_then fun a w h => h) fun ⟨h1, h2⟩ => ⟨h1, letsOut_then h2⟩
  · next hw =>
    rw [if_neg hw]
    exact h
theorem any_opL {l : List Oper} {K : Act → World → Prop} (i : Nat) (hi : ((l.drop i).take 1).isEmpty = false) (h : wpList P l.toArray (Exit.then K Q) ((l.drop i).take 1) a w) : wpOp P l.toArray Q i K a w := by
  by_cases hl : i < l.length
  · refine any_op i (o := l[i]) (by simp [hl]) ?_
    rw [List.drop_eq_getElem_cons hl] at h
    exact h
  · rw [List.drop_eq_nil_of_le (by omega)] at hi
    simp at hi
theorem any_step {md : Region.Mode} {fuel : Nat} {listed : Array Bool} (rs : List Nat) (hr : Region.ready md ops listed = rs) (hne : rs.isEmpty = false) (h : ∀ i ∈ rs, wpOp P ops Q i (wpAny P md ops Q fuel (listed.setIfInBounds i true)) a w) : wpAny P md ops Q (fuel + 1) listed a w :=
  ⟨fun e => by rw [hr] at e; simp [e] at hne, fun i hi => h i (by rwa [hr] at hi)⟩
theorem any_one {i : Nat} {K : Nat → Prop} (h : K i) : ∀ j ∈ [i], K j := fun j hj => by simp at hj; subst hj; exact h
theorem any_two {i : Nat} {l : List Nat} {K : Nat → Prop} (h : K i) (h2 : ∀ j ∈ l, K j) : ∀ j ∈ i :: l, K j := fun j hj => by
  rcases List.mem_cons.1 hj with rfl | hj
  · exact h
  · exact h2 j hj
theorem any_end {md : Region.Mode} {listed : Array Bool} (hr : Region.ready md ops listed = []) (h : Q .normal a w) : wpAny P md ops Q 0 listed a w := ⟨hr, h⟩
theorem any_rest {md : Region.Mode} {l : List Oper} (k : Nat) {listed : Array Bool} {fuel : Nat} (hf : fuel = (l.drop k).length) (hB : Region.seqB md l.toArray (l.drop k).length k listed = true) (h : wpList P l.toArray Q (l.drop k) a w) : wpAny P md l.toArray Q fuel listed a w := by
  subst hf
  exact wpAny_of_seq (l.drop k) k listed a w (fun j => by simp [List.getElem?_drop]) hB h
theorem wp_region_tree {id : Nat} {l : List Oper} (hm : P.follows .mixedOrders = true) (h : ∀ W, Sees w W → wpAny P .any l.toArray Q l.length (Array.replicate l.length false) a W) : (Code.region id l.toArray true).wp P Q a w :=
  wp_region_any hm (by
    have := h _ (sees_drew (sees_refl w))
    rwa [show l.length = l.toArray.size by simp] at this)
theorem wp_region_seq {id : Nat} {l : List Oper} (h : wpList P l.toArray (NoPanic Q) l a w) : (Code.region id l.toArray false).wp P Q a w :=
  Code.wp_mono NoPanic.imp (wp_region_list h)
theorem wpV_sliceH {ops : Array Oper} {w0 : World} {L : Act → Prop} {o : Oper} {rest : List Oper} {a : Act} {T e : TypeId} {x y : Operand} {g off n cap hi s : Nat} {k : IntKind} (hw : Region.wanted o (yielded ops a.tmps) = true) (ho : o.op = .slice T x none (some y) none) (hx : a.eval x = .slice (some ⟨g, off, none⟩) n cap) (hy : a.eval y = .int k (hi : Nat))
    (hT : P.underlying T = some (.slice e)) (hs : (P.info? e).map (·.size) = some s) (hh : hi ≤ cap) (h : wpV P ops w0 L rest (a.put o.dst (.slice (some ⟨g, off, none⟩) hi cap))) : wpV P ops w0 L (o :: rest) a :=
  wpV_val (by simp [isAlloc, ho]) hw (fun W _ => by
    unfold RunsVal
    simp only [execOp, ho, hx, hy, Option.map_none, Option.map_some, Sem.run_bind, run_sliceH hT hs hh, Result.andThen_ok, Sem.run_pure]) h
theorem wpV_sliceL {ops : Array Oper} {w0 : World} {L : Act → Prop} {o : Oper} {rest : List Oper} {a : Act} {T e : TypeId} {x y : Operand} {g off n cap lo : Nat} {k : IntKind} (hw : Region.wanted o (yielded ops a.tmps) = true) (ho : o.op = .slice T x (some y) none none) (hx : a.eval x = .slice (some ⟨g, off, none⟩) n cap) (hy : a.eval y = .int k (lo : Nat))
    (hT : P.underlying T = some (.slice e)) (hs : (P.info? e).map (·.size) = some 1) (hl : lo ≤ n) (hc : n ≤ cap) (hlt : lo < cap) (h : wpV P ops w0 L rest (a.put o.dst (.slice (some ⟨g, off + lo, none⟩) (n - lo) (cap - lo)))) : wpV P ops w0 L (o :: rest) a :=
  wpV_val (by simp [isAlloc, ho]) hw (fun W _ => by
    unfold RunsVal
    simp only [execOp, ho, hx, hy, Option.map_none, Option.map_some, Sem.run_bind, run_sliceL hT hs hl hc hlt, Result.andThen_ok, Sem.run_pure]) h
theorem wpV_not {ops : Array Oper} {w0 : World} {L : Act → Prop} {o : Oper} {rest : List Oper} {a : Act} {x : Operand} {T : TypeId} {b : Bool} (hw : Region.wanted o (yielded ops a.tmps) = true) (ho : o.op = .unOp .not T x) (hx : a.eval x = .bool b) (h : wpV P ops w0 L rest (a.put o.dst (.bool !b))) : wpV P ops w0 L (o :: rest) a :=
  wpV_val (by simp [isAlloc, ho]) hw (fun W _ => by
    unfold RunsVal
    simp [execOp, ho, hx, Op.unary, Sem.run_bind]) h
theorem range_dl_take {b o n m x : Nat} {w : World} (h : w.rangeAt b o (dl n x)) (hm : m ≤ n) : w.rangeAt b o (dl m x) := by
  have := range_sub h 0 m o (xs := dl m x) (by rw [List.drop_zero, dl_take x hm]) rfl
  exact this
theorem range_dl_drop {b o n x : Nat} {w : World} (m : Nat) (h : w.rangeAt b o (dl n x)) : w.rangeAt b (o + m) (dl (n - m) (x / 65536 ^ m)) :=
  range_sub h m (n - m) (o + m) (by rw [dl_drop, List.take_of_length_le (by rw [dl_len]; exact Nat.le_refl _)]) rfl
theorem dl_one {v : Nat} (hv : v < 65536) : dl 1 v = [.int .i64 ((v : Nat) : Int)] := by
  have : digN v 0 = v := by unfold digN; omega
  simp [dl, nl, this]
theorem dl_none : dl 0 0 = [] := rfl
end Go.Proofs.Num
