/- A drawn region, order by order. -/
import Derived.Test.YtdcmmnindlhghaaNumH
import Derived.Lib.OthersKept
import Derived.ProofKit
import Derived.ChangeSame
import Derived.JoinedOf
import Derived.JoinedAt
import Derived.Laws.IdiomArrays
import Derived.WideShapes
import Derived.RowKit3
import Derived.Lib.SmallJoins
set_option linter.unusedSimpArgs false
set_option linter.unusedVariables false
namespace Go.Proofs.Num
open Go Go.RowKit
variable {P : Program}
theorem letsOut_then {K : Act → World → Prop} {Q : Exit → Act → World → Prop} (h : LetsOut (Exit.then K Q)) : LetsOut Q := by
  first
  | exact h
  | (unfold LetsOut at *; exact fun e a w => h e a w)
  | (unfold LetsOut at *; exact h)
theorem wp_then {o : Oper} {a : Act} {w : World} {K K' : Act → World → Prop} {Q : Exit → Act → World → Prop} (h : ∀ a w, K' a w → K a w) (hh : o.wp P a w K' (Exit.then K Q)) : o.wp P a w K Q := by
  unfold Oper.wp at *
  generalize (execOp a.eval o).run P w = r at *
  cases r with
  | ok n w' =>
    cases n <;> simp only [Oper.upon] at hh ⊢ <;>
      first
        | exact h _ _ hh
        | exact Calls.mono hh (fun e w'' he => by
            cases e
            · exact h _ _ he
            · exact he
            · exact letsOut_then he)
        | exact Rows.mono hh (fun _ _ he => h _ _ he)
  | halt x w' => cases x <;> simp only [Oper.upon] at hh ⊢ <;> exact hh
variable {ops : Array Oper} {Q : Exit → Act → World → Prop} {a : Act} {w : World}
theorem any_op {K : Act → World → Prop} (i : Nat) {o : Oper} (hi : ops[i]? = some o) (h : wpList P ops (Exit.then K Q) [o] a w) : wpOp P ops Q i K a w := by
  unfold wpOp
  simp only [hi]
  simp only [wpList] at h
  split at h
  · next hw =>
    rw [if_pos hw]
    exact h.imp (wp_then fun a w h => h) fun ⟨h1, h2⟩ => ⟨h1, letsOut_then h2⟩
  · next hw =>
    rw [if_neg hw]
    exact h
theorem any_opL {l : List Oper} {K : Act → World → Prop} (i : Nat) (hi : ((l.drop i).take 1).isEmpty = false) (h : wpList P l.toArray (Exit.then K Q) ((l.drop i).take 1) a w) : wpOp P l.toArray Q i K a w := by
  by_cases hl : i < l.length
  · refine any_op i (o := l[i]) (by simp [hl]) ?_
    rw [List.drop_eq_getElem_cons hl] at h
    exact h
  · rw [List.drop_eq_nil_of_le (by omega)] at hi
    simp at hi
theorem any_step {md : Region.Mode} {fuel : Nat} {listed : Array Bool} (rs : List Nat) (hr : Region.ready md ops listed = rs) (hne : rs.isEmpty = false) (h : ∀ i ∈ rs, wpOp P ops Q i (wpAny P md ops Q fuel (listed.setIfInBounds i true)) a w) : wpAny P md ops Q (fuel + 1) listed a w :=
  ⟨fun e => by rw [hr] at e; simp [e] at hne, fun i hi => h i (by rwa [hr] at hi)⟩
theorem any_one {i : Nat} {K : Nat → Prop} (h : K i) : ∀ j ∈ [i], K j := fun j hj => by simp at hj; subst hj; exact h
theorem any_two {i : Nat} {l : List Nat} {K : Nat → Prop} (h : K i) (h2 : ∀ j ∈ l, K j) : ∀ j ∈ i :: l, K j := fun j hj => by
  rcases List.mem_cons.1 hj with rfl | hj
  · exact h
  · exact h2 j hj
theorem any_end {md : Region.Mode} {listed : Array Bool} (hr : Region.ready md ops listed = []) (h : Q .normal a w) : wpAny P md ops Q 0 listed a w := ⟨hr, h⟩
theorem any_rest {md : Region.Mode} {l : List Oper} (k : Nat) {listed : Array Bool} {fuel : Nat} (hf : fuel = (l.drop k).length) (hB : Region.seqB md l.toArray (l.drop k).length k listed = true) (h : wpList P l.toArray Q (l.drop k) a w) : wpAny P md l.toArray Q fuel listed a w := by
  subst hf
  exact wpAny_of_seq (l.drop k) k listed a w (fun j => by simp [List.getElem?_drop]) hB h
theorem wp_region_tree {id : Nat} {l : List Oper} (hm : P.follows .mixedOrders = true) (h : ∀ W, Sees w W → wpAny P .any l.toArray Q l.length (Array.replicate l.length false) a W) : (Code.region id l.toArray true).wp P Q a w :=
  wp_region_any hm (by
    have := h _ (sees_drew (sees_refl w))
    rwa [show l.length = l.toArray.size by simp] at this)
theorem wp_region_seq {id : Nat} {l : List Oper} (h : wpList P l.toArray (NoPanic Q) l a w) : (Code.region id l.toArray false).wp P Q a w :=
  Code.wp_mono NoPanic.imp (wp_region_list h)
theorem wpV_sliceH {ops : Array Oper} {w0 : World} {L : Act → Prop} {o : Oper} {rest : List Oper} {a : Act} {T e : TypeId} {x y : Operand} {g off n cap hi s : Nat} {k : IntKind} (hw : Region.wanted o (yielded ops a.tmps) = true) (ho : o.op = .slice T x none (some y) none) (hx : a.eval x = .slice (some ⟨g, off, none⟩) n cap) (hy : a.eval y = .int k (hi : Nat))
    (hT : P.underlying T = some (.slice e)) (hs : (P.info? e).map (·.size) = some s) (hh : hi ≤ cap) (h : wpV P ops w0 L rest (a.put o.dst (.slice (some ⟨g, off, none⟩) hi cap))) : wpV P ops w0 L (o :: rest) a :=
  wpV_val (by simp [isAlloc, ho]) hw (fun W _ => by
    unfold RunsVal
    simp only [execOp, ho, hx, hy, Option.map_none, Option.map_some, Sem.run_bind, run_sliceH hT hs hh, Result.andThen_ok, Sem.run_pure]) h
theorem wpV_sliceL {ops : Array Oper} {w0 : World} {L : Act → Prop} {o : Oper} {rest : List Oper} {a : Act} {T e : TypeId} {x y : Operand} {g off n cap lo : Nat} {k : IntKind} (hw : Region.wanted o (yielded ops a.tmps) = true) (ho : o.op = .slice T x (some y) none none) (hx : a.eval x = .slice (some ⟨g, off, none⟩) n cap) (hy : a.eval y = .int k (lo : Nat))
    (hT : P.underlying T = some (.slice e)) (hs : (P.info? e).map (·.size) = some 1) (hl : lo ≤ n) (hc : n ≤ cap) (hlt : lo < cap) (h : wpV P ops w0 L rest (a.put o.dst (.slice (some ⟨g, off + lo, none⟩) (n - lo) (cap - lo)))) : wpV P ops w0 L (o :: rest) a :=
  wpV_val (by simp [isAlloc, ho]) hw (fun W _ => by
    unfold RunsVal
    simp only [execOp, ho, hx, hy, Option.map_none, Option.map_some, Sem.run_bind, run_sliceL hT hs hl hc hlt, Result.andThen_ok, Sem.run_pure]) h
theorem wpV_not {ops : Array Oper} {w0 : World} {L : Act → Prop} {o : Oper} {rest : List Oper} {a : Act} {x : Operand} {T : TypeId} {b : Bool} (hw : Region.wanted o (yielded ops a.tmps) = true) (ho : o.op = .unOp .not T x) (hx : a.eval x = .bool b) (h : wpV P ops w0 L rest (a.put o.dst (.bool !b))) : wpV P ops w0 L (o :: rest) a :=
  wpV_val (by simp [isAlloc, ho]) hw (fun W _ => by
    unfold RunsVal
    simp [execOp, ho, hx, Op.unary, Sem.run_bind]) h
theorem range_dl_take {b o n m x : Nat} {w : World} (h : w.rangeAt b o (dl n x)) (hm : m ≤ n) : w.rangeAt b o (dl m x) := by
  have := range_sub h 0 m o (xs := dl m x) (by rw [List.drop_zero, dl_take x hm]) rfl
  exact this
theorem range_dl_drop {b o n x : Nat} {w : World} (m : Nat) (h : w.rangeAt b o (dl n x)) : w.rangeAt b (o + m) (dl (n - m) (x / 65536 ^ m)) :=
  range_sub h m (n - m) (o + m) (by rw [dl_drop, List.take_of_length_le (by rw [dl_len]; exact Nat.le_refl _)]) rfl
theorem dl_one {v : Nat} (hv : v < 65536) : dl 1 v = [.int .i64 ((v : Nat) : Int)] := by
  have : digN v 0 = v := by unfold digN; omega
  simp [dl, nl, this]
theorem dl_none : dl 0 0 = [] := rfl
end Go.Proofs.Num

namespace Go.Proofs.Num
open Go
def cvf (f : Nat → Nat) (n : Nat) : Nat → Nat := fun j => if j < n then f j else 0
def cvV (f : Nat → Nat) (n i : Nat) : Nat := valN i (cvf f n)
theorem cvf_lt {f : Nat → Nat} {n i : Nat} (h : i < n) : cvf f n i = f i := if_pos h
theorem cvf_ge {f : Nat → Nat} {n i : Nat} (h : ¬ i < n) : cvf f n i = 0 := if_neg h
theorem cvf_le {f : Nat → Nat} {n : Nat} (hf : ∀ i, i < n → f i ≤ 2305843009213693952) (i : Nat) : cvf f n i ≤ 2305843009213693952 := by
  unfold cvf; split
  · exact hf _ ‹_›
  · omega
theorem cv_next (f : Nat → Nat) (n i : Nat) : (cvV f n i / 65536 ^ i + cvf f n i) / 65536 = cvV f n (i + 1) / 65536 ^ (i + 1) := by
  have h := carry_step (n := cvV f n i / 65536 ^ i + cvf f n i) (V := cvV f n i) (i := i) (d := cvf f n i) rfl rfl
  exact h.2.2.1.symm
theorem cv_put (f : Nat → Nat) (n m i : Nat) : (dl m (cvV f n i % 65536 ^ i)).set i (.int .i64 (((cvV f n i / 65536 ^ i + cvf f n i) % 65536 : Nat) : Int)) = dl m (cvV f n (i + 1) % 65536 ^ (i + 1)) := by
  have h := carry_step (n := cvV f n i / 65536 ^ i + cvf f n i) (V := cvV f n i) (i := i) (d := cvf f n i) rfl rfl
  have e : cvV f n (i + 1) = cvV f n i + cvf f n i * 65536 ^ i := rfl
  rw [e]
  refine dl_put (fun j hj _ => ?_) ?_
  · by_cases hji : j < i
    · rw [digN_mod_lt (by omega), ← digN_mod_lt (m := i) hji, h.2.1]
    · rw [digN_ge (by omega), digN_ge (by omega)]
  · rw [digN_mod_lt (by omega)]; exact h.2.2.2
theorem cv_bound {f : Nat → Nat} {n : Nat} (hf : ∀ i, i < n → f i ≤ 2305843009213693952) (i : Nat) : cvV f n i / 65536 ^ i ≤ 2305843009213693952 := by
  have h := valN_lt (n := i) (B := 2305843009213693952) (f := cvf f n) fun j _ => cvf_le hf j
  exact Nat.div_le_of_le_mul (by rw [Nat.mul_comm]; exact h)
theorem valN_more (f : Nat → Nat) (n d : Nat) : valN (n + d) (cvf f n) = valN n f := by
  induction d with
  | zero => exact valN_ext fun i hi => cvf_lt hi
  | succ d ih => rw [← Nat.add_assoc, valN, ih, cvf_ge (by omega), Nat.zero_mul, Nat.add_zero]
theorem cv_end (f : Nat → Nat) (n : Nat) : cvV f n (n + 4) = valN n f := valN_more f n 4
theorem valN_lt4 {f : Nat → Nat} {n : Nat} (hf : ∀ i, i < n → f i ≤ 2305843009213693952) : valN n f < 65536 ^ (n + 4) := by
  have h := valN_lt hf
  rw [Nat.pow_add]
  have hp := Nat.pow_pos (n := n) (show 0 < 65536 by decide)
  have : (65536 : Nat) ^ 4 = 18446744073709551616 := by decide
  rw [this]; omega
/-- Sums. -/
def plF (x y i : Nat) : Nat → Nat := fun j => digN x j + digN (y % 65536 ^ i) j
theorem plF_zero (x y m : Nat) : dl m x = nl m (plF x y 0) := nl_ext fun j _ => by unfold plF; rw [Nat.pow_zero, Nat.mod_one]; simp [digN]
theorem pl_put1 {m x i : Nat} : (dl m (x % 65536 ^ i)).set i (.int .i64 ((digN x i : Nat) : Int)) = dl m (x % 65536 ^ (i + 1)) := by
  refine dl_put (fun j hj _ => ?_) (digN_mod_lt (by omega))
  by_cases hji : j < i
  · rw [digN_mod_lt (by omega), digN_mod_lt hji]
  · rw [digN_ge (by omega), digN_ge (by omega)]
theorem plF_at (x y i : Nat) : plF x y i i = digN x i := by unfold plF; rw [digN_ge (Nat.le_refl _), Nat.add_zero]
theorem pl_put2 {m x y i : Nat} : (nl m (plF x y i)).set i (.int .i64 ((plF x y i i + digN y i : Nat) : Int)) = nl m (plF x y (i + 1)) := by
  rw [nl_set]
  refine nl_ext fun j _ => ?_
  by_cases hji : j = i
  · subst hji; rw [if_pos rfl, plF_at]; unfold plF; rw [digN_mod_lt (by omega)]
  · rw [if_neg hji]; unfold plF
    by_cases h : j < i
    · rw [digN_mod_lt h, digN_mod_lt (by omega)]
    · rw [digN_ge (by omega), digN_ge (by omega)]
theorem plF_le (x y i j : Nat) : plF x y i j ≤ 131070 := by
  have h1 := digN_lt x j
  have h2 := digN_lt (y % 65536 ^ i) j
  unfold plF; omega
theorem plF_val {n m x y : Nat} (hx : x < 65536 ^ n) (hy : y < 65536 ^ m) : valN (n + m) (plF x y m) = x + y := by
  unfold plF
  have h1 : x < 65536 ^ (n + m) := Nat.lt_of_lt_of_le hx (Nat.pow_le_pow_right (by decide) (by omega))
  have h2 : y < 65536 ^ (n + m) := Nat.lt_of_lt_of_le hy (Nat.pow_le_pow_right (by decide) (by omega))
  rw [valN_add, valN_dig, valN_dig, Nat.mod_eq_of_lt hy, Nat.mod_eq_of_lt h1, Nat.mod_eq_of_lt h2]
/-- Products: what stands after i whole rows and k places. -/
structure TmI (x y n m i k : Nat) (f : Nat → Nat) : Prop where
  val : valN (n + m) f = (x % 65536 ^ i) * y + digN x i * 65536 ^ i * (y % 65536 ^ k)
  le : ∀ j, f j ≤ i * 4294836225 + (if j < i + k then 4294836225 else 0)
def tmF (x y i k : Nat) (f : Nat → Nat) : Nat → Nat := fun j => if j = i + k then f j + digN x i * digN y k else f j
theorem dig_mul_le (x y i k : Nat) : digN x i * digN y k ≤ 4294836225 :=
  Nat.le_trans (Nat.mul_le_mul (Nat.le_of_lt_succ (digN_lt x i)) (Nat.le_of_lt_succ (digN_lt y k))) (by decide)
theorem tm_start (x y n m : Nat) : TmI x y n m 0 0 (fun _ => 0) := ⟨by rw [valN_zero]; simp [Nat.mod_one], fun j => by simp⟩
theorem tm_step {x y n m i k : Nat} {f : Nat → Nat} (hi : i < n) (hk : k < m) (h : TmI x y n m i k f) : TmI x y n m i (k + 1) (tmF x y i k f) := by
  have hm := dig_mul_le x y i k
  refine ⟨?_, fun j => ?_⟩
  · have e : valN (n + m) (tmF x y i k f) = valN (n + m) f + digN x i * digN y k * 65536 ^ (i + k) := by
      have := valN_set (n := n + m) (j := i + k) f (digN x i * digN y k) (by omega)
      rw [← this]; rfl
    rw [e, h.val, mod_dig y k, Nat.pow_add]
    generalize (x % 65536 ^ i) * y = A
    generalize digN x i = a
    generalize digN y k = b
    generalize 65536 ^ i = E
    generalize 65536 ^ k = G
    generalize y % G = z
    grind
  · have hj := h.le j
    unfold tmF
    by_cases hjk : j = i + k
    · rw [if_pos hjk, if_pos (by omega)]
      rw [if_neg (by omega)] at hj
      omega
    · rw [if_neg hjk]
      by_cases h2 : j < i + k
      · rw [if_pos h2] at hj; rw [if_pos (by omega)]; exact hj
      · rw [if_neg h2] at hj; rw [if_neg (by omega)]; exact hj
theorem tm_row {x y n m i : Nat} {f : Nat → Nat} (hy : y < 65536 ^ m) (h : TmI x y n m i m f) : TmI x y n m (i + 1) 0 f := by
  refine ⟨?_, fun j => ?_⟩
  · rw [h.val, mod_dig x i, Nat.pow_zero, Nat.mod_one, Nat.mod_eq_of_lt hy, Nat.add_mul, Nat.mul_zero, Nat.add_zero]
  · have := h.le j
    rw [Nat.add_mul, Nat.one_mul]
    generalize i * 4294836225 = Z at *
    split at this <;> split <;> omega
theorem tm_end {x y n m : Nat} {f : Nat → Nat} (hx : x < 65536 ^ n) (h : TmI x y n m n 0 f) : valN (n + m) f = x * y := by
  rw [h.val, Nat.pow_zero, Nat.mod_one, Nat.mod_eq_of_lt hx]; simp
theorem tm_small {x y n m i k : Nat} {f : Nat → Nat} (hi : i ≤ n) (hn : n ≤ 1000) (h : TmI x y n m i k f) (j : Nat) : f j ≤ 4299131061225 := by
  have := h.le j
  split at this <;> omega
theorem tm_put {x y m i k : Nat} {f : Nat → Nat} : (nl m f).set (i + k) (.int .i64 ((f (i + k) + digN x i * digN y k : Nat) : Int)) = nl m (tmF x y i k f) := by
  rw [nl_set]
  refine nl_ext fun j _ => ?_
  unfold tmF
  by_cases h : j = i + k
  · subst h; simp
  · simp [h]
/-- Differences. -/
structure MiI (x y i R low : Nat) : Prop where
  sum : R + y % 65536 ^ i = x % 65536 ^ i + low * 65536 ^ i
  low : low ≤ 1
  lt : R < 65536 ^ i
def miD (x y i low : Nat) : Nat := (digN x i + 65536 - low - digN y i) % 65536
def miL (x y i low : Nat) : Nat := if digN x i < low + digN y i then 1 else 0
def miR (x y i R low : Nat) : Nat := R + miD x y i low * 65536 ^ i
theorem mi_parts {x y i low : Nat} (hl : low ≤ 1) : miD x y i low + low + digN y i = digN x i + 65536 * miL x y i low := by
  have h1 := digN_lt x i
  have h2 := digN_lt y i
  unfold miD miL
  split <;> omega
theorem miD_lt (x y i low : Nat) : miD x y i low < 65536 := Nat.mod_lt _ (by decide)
theorem mi_start (x y : Nat) : MiI x y 0 0 0 := ⟨by simp [Nat.mod_one], by omega, by simp⟩
theorem mi_step {x y i R low : Nat} (h : MiI x y i R low) : MiI x y (i + 1) (miR x y i R low) (miL x y i low) := by
  have hp := mi_parts (x := x) (y := y) (i := i) h.low
  refine ⟨?_, by unfold miL; split <;> omega, ?_⟩
  · have hs := h.sum
    rw [mod_dig x i, mod_dig y i, Nat.pow_succ]
    unfold miR
    generalize miD x y i low = d at *
    generalize miL x y i low = l at *
    generalize digN x i = a at *
    generalize digN y i = b at *
    generalize 65536 ^ i = E at *
    have e : (d + low + b) * E = (a + 65536 * l) * E := by rw [hp]
    have e1 : (d + low + b) * E = d * E + low * E + b * E := by grind
    have e2 : (a + 65536 * l) * E = a * E + l * (E * 65536) := by grind
    omega
  · have := miD_lt x y i low
    have hl := h.lt
    unfold miR
    rw [Nat.pow_succ]
    have : miD x y i low * 65536 ^ i ≤ 65535 * 65536 ^ i := Nat.mul_le_mul_right _ (by omega)
    generalize 65536 ^ i = E at *
    omega
theorem mi_put {x y n i R low : Nat} (h : MiI x y i R low) : (dl n R).set i (.int .i64 ((miD x y i low : Nat) : Int)) = dl n (miR x y i R low) := by
  have hd := miD_lt x y i low
  have hp := Nat.pow_pos (n := i) (show 0 < 65536 by decide)
  have e1 : miR x y i R low % 65536 ^ i = R := by unfold miR; rw [Nat.add_mul_mod_self_right, Nat.mod_eq_of_lt h.lt]
  refine dl_put (fun j hj _ => ?_) ?_
  · by_cases hji : j < i
    · rw [← digN_mod_lt (m := i) hji, e1]
    · rw [digN_big (Nat.lt_of_lt_of_le (mi_step h).lt (Nat.pow_le_pow_right (by decide) (by omega))), digN_big (Nat.lt_of_lt_of_le h.lt (Nat.pow_le_pow_right (by decide) (by omega)))]
  · unfold miR digN
    rw [Nat.add_mul_div_right _ _ hp, Nat.div_eq_of_lt h.lt, Nat.zero_add, Nat.mod_eq_of_lt hd]
theorem mi_end {x y n R low : Nat} (hx : x < 65536 ^ n) (hyx : y ≤ x) (h : MiI x y n R low) : R = x - y := by
  have hs := h.sum
  rw [Nat.mod_eq_of_lt hx, Nat.mod_eq_of_lt (Nat.lt_of_le_of_lt hyx hx)] at hs
  have hl := h.lt
  have hlow := h.low
  rcases Nat.le_one_iff_eq_zero_or_eq_one.1 hlow with e | e
  · rw [e, Nat.zero_mul] at hs; omega
  · rw [e, Nat.one_mul] at hs; omega
end Go.Proofs.Num

namespace Go.Proofs.Num
open Go
theorem two16 (i : Nat) : (65536 : Nat) ^ i = 2 ^ (16 * i) := by rw [show (65536 : Nat) = 2 ^ 16 by decide, ← Nat.pow_mul]
theorem dig_bit (A i t : Nat) (ht : t < 16) : digN A i / 2 ^ t % 2 = A / 2 ^ (16 * i + t) % 2 := by
  unfold digN
  rw [two16, Nat.pow_add, ← Nat.div_div_eq_div_mul]
  generalize A / 2 ^ (16 * i) = a
  have hd : (65536 : Nat) = 2 ^ t * 2 ^ (16 - t) := by rw [← Nat.pow_add, show t + (16 - t) = 16 by omega]
  rw [hd, Nat.mod_mul_right_div_self, Nat.mod_mod_of_dvd]
  exact ⟨2 ^ (16 - t - 1), by rw [← Nat.pow_succ', show (16 - t - 1).succ = 16 - t by omega]⟩
theorem dl_snoc (k x : Nat) : dl k x ++ [.int .i64 ((digN x k : Nat) : Int)] = dl (k + 1) x := by
  simp [dl, nl, List.range_succ]
theorem dig_limb (x i j : Nat) (hj : j < 4) : limbN x i / 65536 ^ j % 65536 = digN x (4 * i + j) := by
  unfold limbN digN
  have h1 : (65536 : Nat) ^ (4 * i + j) = 2 ^ (64 * i) * 65536 ^ j := by
    rw [Nat.pow_add, two16 (4 * i)]; congr 2; omega
  rw [h1, ← Nat.div_div_eq_div_mul]
  generalize x / 2 ^ (64 * i) = a
  have hd : (18446744073709551616 : Nat) = 65536 ^ j * 65536 ^ (4 - j) := by rw [← Nat.pow_add, show j + (4 - j) = 4 by omega]
  rw [hd, Nat.mod_mul_right_div_self, Nat.mod_mod_of_dvd]
  exact ⟨65536 ^ (4 - j - 1), by rw [← Nat.pow_succ', show (4 - j - 1).succ = 4 - j by omega]⟩
/-- Words of which the lower digits are still to come. -/
def ww (x k : Nat) : List Value := (List.range 4).map fun i => .int .u64 ((limbN x i / 65536 ^ (k - 4 * i) : Nat) : Int)
theorem ww_get (x k : Nat) {i : Nat} (h : i < 4) : (ww x k)[i]? = some (.int .u64 ((limbN x i / 65536 ^ (k - 4 * i) : Nat) : Int)) := by simp [ww, h]
theorem ww_end (x : Nat) : ww x 0 = fel x := by
  show (List.range 4).map _ = _
  simp [ww, fel, limb_eq]
  rfl
theorem ww_start {x k : Nat} (h : x < 65536 ^ k) (hk : k ≤ 16) : ww x k = fel 0 := by
  rw [← ww_end 0]
  unfold ww
  refine List.map_congr_left fun i hi => ?_
  have hi4 : i < 4 := by simpa using hi
  have e : limbN x i / 65536 ^ (k - 4 * i) = limbN 0 i / 65536 ^ (0 - 4 * i) := by
    have z : limbN 0 i = 0 := by simp [limbN]
    rw [z, Nat.zero_div]
    refine Nat.div_eq_of_lt (Nat.lt_of_le_of_lt (Nat.mod_le _ _) (Nat.div_lt_of_lt_mul ?_))
    have : 2 ^ (64 * i) = (65536 : Nat) ^ (4 * i) := by rw [two16]; congr 1; omega
    rw [this, ← Nat.pow_add]
    exact Nat.lt_of_lt_of_le h (Nat.pow_le_pow_right (by decide) (by omega))
  rw [e]
theorem ww_word (x j : Nat) : 65536 * (limbN x (j / 4) / 65536 ^ (j + 1 - 4 * (j / 4))) + digN x j = limbN x (j / 4) / 65536 ^ (j - 4 * (j / 4)) := by
  have h4 : j - 4 * (j / 4) < 4 := by omega
  have hj : 4 * (j / 4) + (j - 4 * (j / 4)) = j := by omega
  have hd := dig_limb x (j / 4) (j - 4 * (j / 4)) h4
  rw [hj] at hd
  rw [← hd, show j + 1 - 4 * (j / 4) = (j - 4 * (j / 4)) + 1 by omega, Nat.pow_succ, ← Nat.div_div_eq_div_mul]
  omega
theorem ww_lt (x i e : Nat) : limbN x i / 65536 ^ e < 18446744073709551616 := Nat.lt_of_le_of_lt (Nat.div_le_self _ _) (limbN_lt x i)
theorem ww_put {x j : Nat} (hj : j < 16) : (ww x (j + 1)).set (j / 4) (.int .u64 ((limbN x (j / 4) / 65536 ^ (j - 4 * (j / 4)) : Nat) : Int)) = ww x j := by
  apply List.ext_getElem?
  intro i
  rw [List.getElem?_set]
  by_cases hi : i < 4
  · rw [ww_get _ _ hi, ww_get _ _ hi]
    by_cases hij : j / 4 = i
    · subst hij; simp [ww]; omega
    · rw [if_neg hij]
      by_cases hlt : i < j / 4
      · have z : ∀ e, 4 ≤ e → limbN x i / 65536 ^ e = 0 := fun e he => Nat.div_eq_of_lt (Nat.lt_of_lt_of_le (limbN_lt x i) (by
          have := Nat.pow_le_pow_right (n := 65536) (by decide) he
          exact Nat.le_trans (by decide) this))
        rw [z _ (by omega), z _ (by omega)]
      · rw [show j + 1 - 4 * i = 0 by omega, show j - 4 * i = 0 by omega]
  · have h1 : (ww x (j + 1))[i]? = none := List.getElem?_eq_none (by simp [ww]; omega)
    have h2 : (ww x j)[i]? = none := List.getElem?_eq_none (by simp [ww]; omega)
    rw [h1, h2]
    split
    · rw [if_neg (by simp [ww]; omega)]
    · rfl
end Go.Proofs.Num

namespace Go.Proofs.Num
open Go Go.RowKit
theorem dl_app1 (k x : Nat) : dl k x ++ dl 1 (digN x k) = dl (k + 1) x := by rw [dl_one (digN_lt x k), dl_snoc]
theorem range_dl_mod {b o n m x : Nat} {w : World} (h : w.rangeAt b o (dl n x)) (hm : m ≤ n) : w.rangeAt b o (dl m (x % 65536 ^ m)) := by
  rw [dl_mod (Nat.le_refl m)]; exact range_dl_take h hm
theorem drop_lt {x n : Nat} (m : Nat) (h : x < 65536 ^ n) (hm : m ≤ n) : x / 65536 ^ m < 65536 ^ (n - m) := by
  refine Nat.div_lt_of_lt_mul ?_
  rwa [← Nat.pow_add, Nat.add_sub_cancel' hm]
theorem B16_mod : (65536 : Nat) ^ 16 % pF = 38 := by decide
theorem fold_mod (d : Nat) : (d % 65536 ^ 16 + d / 65536 ^ 16 * 38) % pF = d % pF := by
  have h := Nat.div_add_mod d (65536 ^ 16)
  conv => rhs; rw [← h]
  rw [Nat.add_mod, Nat.add_mod (65536 ^ 16 * (d / 65536 ^ 16)), Nat.mul_mod (65536 ^ 16), B16_mod, Nat.add_comm, Nat.mul_comm (d / 65536 ^ 16) 38, Nat.mul_mod 38]
  rfl
theorem fold_lt {d : Nat} (h : 16 < dlen d) : d % 65536 ^ 16 + d / 65536 ^ 16 * 38 < d := by
  have h1 : ¬ d < 65536 ^ 16 := by rw [← dlen_le]; omega
  have e := Nat.div_add_mod d (65536 ^ 16)
  have hB : (65536 : Nat) ^ 16 = 115792089237316195423570985008687907853269984665640564039457584007913129639936 := by decide
  rw [hB] at *
  omega
theorem dlen_pF : dlen pF = 16 := by
  have h1 := (dlen_le 16 pF).2 (by decide)
  have h2 : ¬ dlen pF ≤ 15 := by rw [dlen_le]; decide
  omega
end Go.Proofs.Num

namespace Go.Proofs.Num
open Go Go.RowKit
variable {P : Program}
section tails
variable {ops : Array Oper} {Q : Exit → Act → World → Prop} {o : Oper} {rest : List Oper} {a : Act} {W : World} {v : Value}
def Iter (w : World) (g : Nat) (l : List UInt8) (pos : Nat) : Prop := w.heap[g]? = some (.stringIter (bs l) pos)
theorem Iter.sees {w W : World} {g pos : Nat} {l : List UInt8} (h : Iter w g l pos) (hg : g < w.heap.size) (hS : Sees w W) : Iter W g l pos := (hS.2.2.block g hg).trans h
end tails
end Go.Proofs.Num

namespace Go.Proofs.Num
open Go Go.RowKit Go.ChangeShapes Go.WideShapes Go.ChangeAt
section
variable {H : Type} {enc : TypeId × Value → H} {P : Program}
theorem list_four {α : Type} (l : List α) (h : (⟨l⟩ : Array α).size = 4) : ∃ a b c d, l = [a, b, c, d] := by
  match l, h with
  | [a, b, c, d], _ => exact ⟨a, b, c, d, rfl⟩
theorem wd_of_wf {x : Int} (h : (Lit.int .u64 x).wf = true) : Wd x := by
  simp [Lit.wf, IntKind.min, IntKind.max, IntKind.signed, IntKind.bits] at h
  exact ⟨by omega, by omega⟩
theorem four_words {x0 x1 x2 x3 : Int} (h0 : Wd x0) (h1 : Wd x1) (h2 : Wd x2) (h3 : Wd x3) : ∃ x : Nat, x < 2 ^ 256 ∧ limb x 0 = x0 ∧ limb x 1 = x1 ∧ limb x 2 = x2 ∧ limb x 3 = x3 := by
  have hz : ((x0 + 2 ^ 64 * x1 + 2 ^ 128 * x2 + 2 ^ 192 * x3).toNat : Int) = x0 + 2 ^ 64 * x1 + 2 ^ 128 * x2 + 2 ^ 192 * x3 := by
    unfold Wd at *; omega
  have hl := limb_of h0 h1 h2 h3 hz
  refine ⟨(x0 + 2 ^ 64 * x1 + 2 ^ 128 * x2 + 2 ^ 192 * x3).toNat, ?_, hl⟩
  have h256 : (2 : Nat) ^ 256 = 115792089237316195423570985008687907853269984665640564039457584007913129639936 := by decide
  rw [h256]
  unfold Wd at *; omega
theorem open_fe {t e : TypeId} {r : Reach} {b0 base : Nat} {spare : Nat → Bool} {held : Bool} {W : World} {v : Value} {d : DataW H} {ps : List MemPlace} (ht : P.underlying t = some (.array 4 e)) (he : P.underlying e = some (.int .u64)) (hce : P.cellsOf e = 1) (hct : P.cellsOf t = 4)
    (hval : Value.okWide P W r b0 t v) (hd : DataW.Trod enc P W base spare held t v d ps) :
    ∃ x : Nat, x < 2 ^ 256 ∧ v = fe x ∧ ps = [] ∧ ∀ (W' : World) (b' : Nat) (sp : Nat → Bool) (hl : Bool), DataW.Trod enc P W' b' sp hl t (fe x) d [] := by
  obtain ⟨cs, rfl, hsz, _⟩ : ∃ cs, v = .agg cs ∧ cs.size = P.cellsOf t ∧ Row.okWide P W r b0 t cs := by
    simpa [Value.okWide, ht] using hval
  rw [hct] at hsz
  obtain ⟨l⟩ := cs
  obtain ⟨c0, c1, c2, c3, rfl⟩ := list_four l hsz
  obtain ⟨fuel, hf⟩ := hd
  obtain ⟨y0, y1, y2, y3, m, hx, hy0, hy1, hy2, hy3⟩ := trod_array4 ht hce hf
  obtain ⟨x0, e0, rfl, w0⟩ := DataW.trod_int he hy0
  obtain ⟨x1, e1, rfl, w1⟩ := DataW.trod_int he hy1
  obtain ⟨x2, e2, rfl, w2⟩ := DataW.trod_int he hy2
  obtain ⟨x3, e3, rfl, w3⟩ := DataW.trod_int he hy3
  simp at e0 e1 e2 e3
  subst e0 e1 e2 e3
  simp only [Prod.mk.injEq] at hx
  obtain ⟨rfl, rfl⟩ := hx
  obtain ⟨x, hx, l0, l1, l2, l3⟩ := four_words (wd_of_wf w0) (wd_of_wf w1) (wd_of_wf w2) (wd_of_wf w3)
  have hfe : fe x = .agg #[.int .u64 x0, .int .u64 x1, .int .u64 x2, .int .u64 x3] := by rw [fe_lit, l0, l1, l2, l3]
  refine ⟨x, hx, hfe.symm, rfl, fun W' b' sp hl => ?_⟩
  rw [hfe]
  exact ⟨2, by simp [DataW.trod, Value.cells, ht, he, hct, hce, w0, w1, w2, w3, show List.range 4 = [0, 1, 2, 3] from rfl]⟩
theorem post_plain {f : Func} {s : ChangeSpec} {apart fresh handsOn again : Bool} {W W' : World} {args : Array Value} {v : Value} {ds gs : List (DataW H)} {before : List MemPlace}
    (hW : DataW.Whole enc P f.params.toList s.vars apart W args.toList ds gs before) (h0 : before = [])
    (hres : ∀ (b : Nat) (sp : Nat → Bool) (hd : Bool), DataW.TrodAll enc P W' b sp hd f.resultTypes.toList (v.resultList f.resultTypes.size) (s.fn H (ds ++ gs)).results [])
    (hargs : ∀ sp : Nat → Bool, DataW.TrodAll enc P W' 0 sp true f.params.toList args.toList (s.fn H (ds ++ gs)).args [])
    (hvars : ∀ sp : Nat → Bool, DataW.TrodVars enc P W' sp s.vars (s.fn H (ds ++ gs)).vars [])
    (hb : Below W.heap.size W W')
    (hok : ∀ (j : Nat) (t : TypeId) (r : Value), f.resultTypes[j]? = some t → (v.resultList f.resultTypes.size)[j]? = some r → Value.okWide P W' .any 0 t r) :
    s.post enc P f apart fresh handsOn again W args v W' := by
  subst h0
  refine ⟨ds, gs, [], [], [], [], hW, hres _ _ _, hargs _, hvars _, World.keptBut_mono (fun p hp => ⟨hp, ?_⟩) (hb.frame (· ∈ [])), fun _ => ?_⟩
  · cases hp
  · refine ⟨hok, _, _, ([] ++ []) ++ [], ⟨[] ++ [], [], trodAll_append (hargs _) (hres _ _ _), hvars _, rfl, ?_, ?_⟩, ?_⟩
    · intro b off hp
      simp at hp
    · intro ha
      obtain ⟨_, _, _, _, _, hz, hn⟩ := hW
      simp
    · intro p hp _
      simp at hp
end
end Go.Proofs.Num

namespace Go.Proofs.Num
open Go Go.RowKit
structure P4 where
  x : Nat
  y : Nat
  z : Nat
  t : Nat
structure P4.Ok (p : P4) : Prop where
  x : p.x < 2 ^ 256
  y : p.y < 2 ^ 256
  z : p.z < 2 ^ 256
  t : p.t < 2 ^ 256
def dF : Nat := 37095705934669439343138083508754565189542113879843219016388785533085940283555
theorem dF_lt : dF < 2 ^ 256 := by decide
def rightP (p : P4) : Bool := decide (leastF p.x = p.x) && decide (leastF p.y = p.y) && decide (leastF p.z = p.z) && decide (leastF p.t = p.t) && decide (p.z ≠ 0) && decide (fmul p.x p.y = fmul p.z p.t) &&
  decide (fsub (fmul p.y p.y) (fmul p.x p.x) = fadd (fmul p.z p.z) (fmul dF (fmul p.t p.t)))
def sameP (p q : P4) : Bool := rightP p && rightP q && decide (fmul p.x q.z = fmul q.x p.z) && decide (fmul p.y q.z = fmul q.y p.z)
def aA (p q : P4) : Nat := fmul (fsub p.y p.x) (fsub q.y q.x)
def aB (p q : P4) : Nat := fmul (fadd p.y p.x) (fadd q.y q.x)
def aC (p q : P4) : Nat := fmul (fmul p.t q.t) (fadd dF dF)
def aD (p q : P4) : Nat := fmul p.z (fadd q.z q.z)
def addP (p q : P4) : P4 :=
  ⟨fmul (fsub (aB p q) (aA p q)) (fsub (aD p q) (aC p q)), fmul (fadd (aD p q) (aC p q)) (fadd (aB p q) (aA p q)), fmul (fsub (aD p q) (aC p q)) (fadd (aD p q) (aC p q)), fmul (fsub (aB p q) (aA p q)) (fadd (aB p q) (aA p q))⟩
def affP (x y : Nat) : P4 := ⟨x, y, 1, fmul x y⟩
def zeroP : P4 := affP 0 1
def noneP : P4 := ⟨0, 0, 0, 0⟩
theorem affP_ok {x y : Nat} (hx : x < 2 ^ 256) (hy : y < 2 ^ 256) : (affP x y).Ok := ⟨hx, hy, by show (1 : Nat) < 2 ^ 256; decide, fmul_lt ..⟩
theorem zeroP_ok : zeroP.Ok := affP_ok (by decide) (by decide)
/-- The root of a y. -/
def rootX (y : Nat) : Nat × Bool := fsqrt (fmul (fsub (fmul y y) 1) (finv (fadd (fmul (fmul y y) dF) 1)))
end Go.Proofs.Num

namespace Go.Proofs.Num
open Go Go.RowKit Go.ChangeShapes Go.WideShapes Go.ChangeAt Go.Joins
section
variable {H : Type} {enc : TypeId × Value → H} {P : Program}
theorem fe_cells {t e : TypeId} {W : World} {base n : Nat} {spare : Nat → Bool} {held : Bool} {cs : List Value} {y : DataW H × List MemPlace} (ht : P.underlying t = some (.array 4 e)) (he : P.underlying e = some (.int .u64)) (hce : P.cellsOf e = 1) (hct : P.cellsOf t = 4)
    (hl : cs.length = 4) (hf : DataW.trod enc P W base spare held n t cs = some y) :
    ∃ x : Nat, x < 2 ^ 256 ∧ cs = fel x ∧ y.2 = [] ∧ ∀ (W' : World) (b' : Nat) (sp : Nat → Bool) (hd : Bool), DataW.trod enc P W' b' sp hd 2 t (fel x) = some (y.1, []) := by
  obtain ⟨c0, c1, c2, c3, rfl⟩ := list_four cs hl
  obtain ⟨y0, y1, y2, y3, m, hx, hy0, hy1, hy2, hy3⟩ := trod_array4 ht hce hf
  obtain ⟨x0, e0, rfl, w0⟩ := DataW.trod_int he hy0
  obtain ⟨x1, e1, rfl, w1⟩ := DataW.trod_int he hy1
  obtain ⟨x2, e2, rfl, w2⟩ := DataW.trod_int he hy2
  obtain ⟨x3, e3, rfl, w3⟩ := DataW.trod_int he hy3
  simp at e0 e1 e2 e3
  subst e0 e1 e2 e3
  obtain ⟨x, hx9, l0, l1, l2, l3⟩ := four_words (wd_of_wf w0) (wd_of_wf w1) (wd_of_wf w2) (wd_of_wf w3)
  have hfe : fel x = [.int .u64 x0, .int .u64 x1, .int .u64 x2, .int .u64 x3] := by unfold fel; rw [l0, l1, l2, l3]
  refine ⟨x, hx9, hfe.symm, by rw [hx]; rfl, fun W' b' sp hd => ?_⟩
  rw [hfe, hx]
  simp [DataW.trod, Value.cells, ht, he, hct, hce, w0, w1, w2, w3, show List.range 4 = [0, 1, 2, 3] from rfl]
theorem open_pt {t e a : TypeId} {f0 f1 f2 f3 : Field} {r : Reach} {b0 base : Nat} {spare : Nat → Bool} {held : Bool} {W : World} {v : Value} {d : DataW H} {ps : List MemPlace} (ht : P.underlying t = some (.struct #[f0, f1, f2, f3])) (hty : f0.type = a ∧ f1.type = a ∧ f2.type = a ∧ f3.type = a)
    (ho : f0.offset = 0 ∧ f1.offset = 4 ∧ f2.offset = 8 ∧ f3.offset = 12) (ha : P.underlying a = some (.array 4 e)) (he : P.underlying e = some (.int .u64)) (hce : P.cellsOf e = 1) (hca : P.cellsOf a = 4) (hct : P.cellsOf t = 16)
    (hval : Value.okWide P W r b0 t v) (hd : DataW.Trod enc P W base spare held t v d ps) :
    ∃ p : P4, p.Ok ∧ v = .agg (fel p.x ++ fel p.y ++ fel p.z ++ fel p.t).toArray ∧ ps = [] ∧ ∀ (W' : World) (b' : Nat) (sp : Nat → Bool) (hl : Bool), DataW.Trod enc P W' b' sp hl t (.agg (fel p.x ++ fel p.y ++ fel p.z ++ fel p.t).toArray) d [] := by
  obtain ⟨cs, rfl, hsz⟩ := okWide_struct ht hval
  obtain ⟨l⟩ := cs
  have hlen : l.length = 16 := hsz.trans hct
  obtain ⟨fuel, hf⟩ := hd
  obtain ⟨y0, y1, y2, y3, n, hx, _, h0, h1, h2, h3⟩ := trod_struct4 ht hf
  simp only [Prod.mk.injEq] at hx
  rw [hty.1, ho.1, hca] at h0
  rw [hty.2.1, ho.2.1, hca] at h1
  rw [hty.2.2.1, ho.2.2.1, hca] at h2
  rw [hty.2.2.2, ho.2.2.2, hca] at h3
  change DataW.trod enc P W base spare held n a ((l.drop 0).take 4) = some y0 at h0
  change DataW.trod enc P W base spare held n a ((l.drop 4).take 4) = some y1 at h1
  change DataW.trod enc P W base spare held n a ((l.drop 8).take 4) = some y2 at h2
  change DataW.trod enc P W base spare held n a ((l.drop 12).take 4) = some y3 at h3
  obtain ⟨x0, g0, e0, p0, s0⟩ := fe_cells ha he hce hca (by simp [hlen]) h0
  obtain ⟨x1, g1, e1, p1, s1⟩ := fe_cells ha he hce hca (by simp [hlen]) h1
  obtain ⟨x2, g2, e2, p2, s2⟩ := fe_cells ha he hce hca (by simp [hlen]) h2
  obtain ⟨x3, g3, e3, p3, s3⟩ := fe_cells ha he hce hca (by simp [hlen]) h3
  have hall : l = fel x0 ++ fel x1 ++ fel x2 ++ fel x3 := by
    rw [← e0, ← e1, ← e2, ← e3, List.drop_zero]
    have t1 : l.take 4 ++ (l.drop 4).take 4 = l.take 8 := by rw [← List.take_add]
    have t2 : l.take 8 ++ (l.drop 8).take 4 = l.take 12 := by rw [← List.take_add]
    have t3 : l.take 12 ++ (l.drop 12).take 4 = l.take 16 := by rw [← List.take_add]
    rw [t1, t2, t3, List.take_of_length_le (by omega)]
  refine ⟨⟨x0, x1, x2, x3⟩, ⟨g0, g1, g2, g3⟩, by rw [hall], ?_, fun W' b' sp hl => ?_⟩
  · rw [hx.2, p0, p1, p2, p3]; rfl
  · refine ⟨3, ?_⟩
    rw [hx.1]
    have hk := trod_struct4_mk (enc := enc) (w := W') (base := b') (spare := sp) (held := hl) (n := 2) (cs := fel x0 ++ fel x1 ++ fel x2 ++ fel x3) (y0 := (y0.1, [])) (y1 := (y1.1, [])) (y2 := (y2.1, [])) (y3 := (y3.1, [])) ht (by rw [hct]; rfl)
      (by rw [hty.1, ho.1, hca]; exact s0 W' b' sp hl) (by rw [hty.2.1, ho.2.1, hca]; exact s1 W' b' sp hl) (by rw [hty.2.2.1, ho.2.2.1, hca]; exact s2 W' b' sp hl) (by rw [hty.2.2.2, ho.2.2.2, hca]; exact s3 W' b' sp hl)
    exact hk
end
end Go.Proofs.Num

