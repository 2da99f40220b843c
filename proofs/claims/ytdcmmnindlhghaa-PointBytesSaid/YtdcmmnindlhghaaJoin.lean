/- Numbers as digits to the base 65536: cells of digits, how many there are, sums, products, differences. -/
import Derived.Test.YtdcmmnindlhghaaNumG
import Derived.Lib.OthersKept
import Derived.ProofKit
import Derived.ChangeSame
import Derived.JoinedOf
import Derived.JoinedAt
import Derived.Laws.IdiomArrays
import Derived.WideShapes
set_option linter.unusedSimpArgs false
set_option linter.unusedVariables false
namespace Go.Proofs.Num
open Go
def digN (x i : Nat) : Nat := x / 65536 ^ i % 65536
theorem digN_lt (x i : Nat) : digN x i < 65536 := Nat.mod_lt _ (by decide)
def nl (n : Nat) (f : Nat → Nat) : List Value := (List.range n).map fun i => .int .i64 ((f i : Nat) : Int)
theorem nl_get (n : Nat) (f : Nat → Nat) {j : Nat} (h : j < n) : (nl n f)[j]? = some (.int .i64 ((f j : Nat) : Int)) := by simp [nl, h]
theorem nl_len (n : Nat) (f : Nat → Nat) : (nl n f).length = n := by simp [nl]
theorem nl_ext {n : Nat} {f g : Nat → Nat} (h : ∀ i, i < n → f i = g i) : nl n f = nl n g := by
  apply List.ext_getElem?
  intro i
  by_cases hi : i < n
  · rw [nl_get _ _ hi, nl_get _ _ hi, h i hi]
  · rw [List.getElem?_eq_none (by rw [nl_len]; omega), List.getElem?_eq_none (by rw [nl_len]; omega)]
theorem nl_set {n : Nat} (f : Nat → Nat) (j v : Nat) : (nl n f).set j (.int .i64 ((v : Nat) : Int)) = nl n (fun i => if i = j then v else f i) := by
  apply List.ext_getElem?
  intro i
  rw [List.getElem?_set, nl_len]
  by_cases hi : i < n
  · rw [nl_get _ _ hi, nl_get _ _ hi]
    by_cases hij : j = i
    · subst hij; simp [hi]
    · rw [if_neg hij, if_neg (fun e => hij e.symm)]
  · rw [List.getElem?_eq_none (by rw [nl_len]; omega), List.getElem?_eq_none (by rw [nl_len]; omega)]
    split
    · rw [if_neg (by omega)]
    · rfl
theorem nl_zero (n : Nat) : nl n (fun _ => 0) = List.replicate n (.int .i64 0) := by
  apply List.ext_getElem
  · simp [nl]
  · intro i h1 h2; simp [nl]
def dl (n x : Nat) : List Value := nl n (digN x)
theorem dl_get (n x : Nat) {j : Nat} (h : j < n) : (dl n x)[j]? = some (.int .i64 ((digN x j : Nat) : Int)) := nl_get _ _ h
theorem dl_len (n x : Nat) : (dl n x).length = n := nl_len _ _
theorem nl_one (n : Nat) (f : Nat → Nat) : ∀ v ∈ nl n f, v.oneCell' = true := by
  intro v hv; simp [nl] at hv; obtain ⟨i, _, rfl⟩ := hv; rfl
theorem dl_zero (n : Nat) : dl n 0 = List.replicate n (.int .i64 0) := by
  rw [← nl_zero]; exact nl_ext fun i _ => by simp [digN]
theorem dl_take {m n : Nat} (x : Nat) (h : m ≤ n) : (dl n x).take m = dl m x := by
  apply List.ext_getElem?
  intro i
  rw [List.getElem?_take]
  by_cases hi : i < m
  · rw [if_pos hi, dl_get n x (by omega), dl_get m x hi]
  · rw [if_neg hi, List.getElem?_eq_none (by rw [dl_len]; omega)]
theorem dl_drop {m n : Nat} (x : Nat) : (dl n x).drop m = dl (n - m) (x / 65536 ^ m) := by
  apply List.ext_getElem?
  intro i
  rw [List.getElem?_drop]
  by_cases hi : m + i < n
  · rw [dl_get n x hi, dl_get (n - m) _ (by omega)]
    unfold digN
    rw [Nat.pow_add, Nat.div_div_eq_div_mul]
  · rw [List.getElem?_eq_none (by rw [dl_len]; omega), List.getElem?_eq_none (by rw [dl_len]; omega)]
theorem dl_mod {n x m : Nat} (h : n ≤ m) : dl n (x % 65536 ^ m) = dl n x := nl_ext fun i hi => by
  unfold digN
  obtain ⟨d, hd⟩ : ∃ d, m = i + 1 + d := ⟨m - i - 1, by omega⟩
  have p : 65536 ^ m = 65536 ^ i * (65536 * 65536 ^ d) := by rw [hd, Nat.pow_add, Nat.pow_succ, Nat.mul_assoc]
  rw [p, Nat.mod_mul_right_div_self, Nat.mod_mod_of_dvd _ (Nat.dvd_mul_right _ _)]
theorem digN_mod_lt {x m i : Nat} (h : i < m) : digN (x % 65536 ^ m) i = digN x i := by
  unfold digN
  obtain ⟨d, hd⟩ : ∃ d, m = i + 1 + d := ⟨m - i - 1, by omega⟩
  have p : 65536 ^ m = 65536 ^ i * (65536 * 65536 ^ d) := by rw [hd, Nat.pow_add, Nat.pow_succ, Nat.mul_assoc]
  rw [p, Nat.mod_mul_right_div_self, Nat.mod_mod_of_dvd _ (Nat.dvd_mul_right _ _)]
theorem digN_big {x i : Nat} (h : x < 65536 ^ i) : digN x i = 0 := by unfold digN; rw [Nat.div_eq_of_lt h]
theorem digN_ge {x m i : Nat} (h : m ≤ i) : digN (x % 65536 ^ m) i = 0 :=
  digN_big (Nat.lt_of_lt_of_le (Nat.mod_lt _ (Nat.pow_pos (by decide))) (Nat.pow_le_pow_right (by decide) h))
theorem mod_dig (x i : Nat) : x % 65536 ^ (i + 1) = x % 65536 ^ i + digN x i * 65536 ^ i := by
  unfold digN
  rw [Nat.pow_succ, Nat.mod_mul, Nat.mul_comm (65536 ^ i) _]
/-- The value of cells. -/
def valN : Nat → (Nat → Nat) → Nat
  | 0, _ => 0
  | n + 1, f => valN n f + f n * 65536 ^ n
theorem valN_ext {n : Nat} {f g : Nat → Nat} (h : ∀ i, i < n → f i = g i) : valN n f = valN n g := by
  induction n with
  | zero => rfl
  | succ n ih => simp only [valN, ih fun i hi => h i (by omega), h n (by omega)]
theorem valN_dig (n x : Nat) : valN n (digN x) = x % 65536 ^ n := by
  induction n with
  | zero => simp [valN, Nat.mod_one]
  | succ n ih => rw [mod_dig, valN, ih]
theorem valN_add (n : Nat) (f g : Nat → Nat) : valN n (fun i => f i + g i) = valN n f + valN n g := by
  induction n with
  | zero => rfl
  | succ n ih => simp only [valN, ih, Nat.add_mul]; omega
theorem valN_set {n j : Nat} (f : Nat → Nat) (v : Nat) (h : j < n) : valN n (fun i => if i = j then f i + v else f i) = valN n f + v * 65536 ^ j := by
  induction n with
  | zero => omega
  | succ n ih =>
    by_cases hj : j = n
    · subst hj
      have : valN j (fun i => if i = j then f i + v else f i) = valN j f := valN_ext fun i hi => if_neg (by omega)
      simp only [valN, this, if_true, Nat.add_mul]; omega
    · simp only [valN, ih (by omega), if_neg (fun e : n = j => hj e.symm)]; omega
theorem valN_zero (n : Nat) : valN n (fun _ => 0) = 0 := by
  induction n with
  | zero => rfl
  | succ n ih => simp [valN, ih]
theorem valN_lt {n B : Nat} {f : Nat → Nat} (h : ∀ i, i < n → f i ≤ B) : valN n f ≤ B * 65536 ^ n := by
  induction n with
  | zero => simp [valN]
  | succ n ih =>
    have h1 := ih fun i hi => h i (by omega)
    have h2 : f n * 65536 ^ n ≤ B * 65536 ^ n := Nat.mul_le_mul_right _ (h n (by omega))
    simp only [valN, Nat.pow_succ]
    have : B * (65536 ^ n * 65536) = (B * 65536 ^ n) * 65536 := by rw [Nat.mul_assoc]
    omega
/-- How many digits. -/
def dlen (x : Nat) : Nat := if h : x = 0 then 0 else dlen (x / 65536) + 1
termination_by x
decreasing_by omega
theorem dlen_zero : dlen 0 = 0 := by unfold dlen; simp
theorem dlen_pos {x : Nat} (h : x ≠ 0) : dlen x = dlen (x / 65536) + 1 := by rw [dlen]; simp [h]
theorem dlen_le (n : Nat) : ∀ x, dlen x ≤ n ↔ x < 65536 ^ n := by
  induction n with
  | zero =>
    intro x
    by_cases h : x = 0
    · subst h; simp [dlen_zero]
    · rw [dlen_pos h]; simp; omega
  | succ n ih =>
    intro x
    by_cases h : x = 0
    · subst h; simp [dlen_zero]; exact Nat.pow_pos (by decide)
    · rw [dlen_pos h, Nat.add_le_add_iff_right, ih, Nat.pow_succ, Nat.div_lt_iff_lt_mul (by decide)]
theorem dlen_lt (x : Nat) : x < 65536 ^ dlen x := (dlen_le _ x).1 (Nat.le_refl _)
theorem trim_step {x k : Nat} (h : dlen x ≤ k + 1) (hd : digN x k = 0) : dlen x ≤ k := by
  rw [dlen_le] at h ⊢
  unfold digN at hd
  rw [Nat.pow_succ, Nat.mul_comm] at h
  have h1 : x / 65536 ^ k < 65536 := Nat.div_lt_of_lt_mul (by rwa [Nat.mul_comm] at h)
  rw [Nat.mod_eq_of_lt h1] at hd
  rcases Nat.div_eq_zero_iff.1 hd with h2 | h2
  · have := Nat.pow_pos (n := k) (show 0 < 65536 by decide); omega
  · exact h2
theorem trim_end {x k : Nat} (h : dlen x ≤ k + 1) (hd : digN x k ≠ 0) : dlen x = k + 1 := by
  by_cases hk : dlen x ≤ k
  · exact absurd (digN_big ((dlen_le _ _).1 hk)) hd
  · omega
theorem dlen_mono {x y : Nat} (h : x ≤ y) : dlen x ≤ dlen y := (dlen_le _ _).2 (Nat.lt_of_le_of_lt h (dlen_lt y))
theorem less_len {x y : Nat} (h : dlen x ≠ dlen y) : decide (dlen x < dlen y) = decide (x < y) := by
  by_cases hl : dlen x < dlen y
  · have : x < y := by
      by_cases hc : y ≤ x
      · have := dlen_mono hc; omega
      · omega
    simp [hl, this]
  · have : ¬ x < y := fun hc => by have := dlen_mono (Nat.le_of_lt hc); omega
    simp [hl, this]
theorem div_dig (x k : Nat) : x / 65536 ^ k = 65536 * (x / 65536 ^ (k + 1)) + digN x k := by
  unfold digN
  rw [Nat.pow_succ, ← Nat.div_div_eq_div_mul]; omega
theorem less_dig {x y k : Nat} (h : x / 65536 ^ (k + 1) = y / 65536 ^ (k + 1)) (hd : digN x k ≠ digN y k) : decide (digN x k < digN y k) = decide (x < y) := by
  have hx := div_dig x k
  have hy := div_dig y k
  rw [h] at hx
  have hp := Nat.pow_pos (n := k) (show 0 < 65536 by decide)
  have mx := Nat.div_add_mod x (65536 ^ k)
  have my := Nat.div_add_mod y (65536 ^ k)
  have lx := Nat.mod_lt x hp
  have ly := Nat.mod_lt y hp
  by_cases hl : digN x k < digN y k
  · have h1 : x / 65536 ^ k + 1 ≤ y / 65536 ^ k := by omega
    have h2 := Nat.mul_le_mul_left (65536 ^ k) h1
    rw [Nat.mul_add] at h2
    have : x < y := by omega
    simp [hl, this]
  · have h1 : y / 65536 ^ k + 1 ≤ x / 65536 ^ k := by omega
    have h2 := Nat.mul_le_mul_left (65536 ^ k) h1
    rw [Nat.mul_add] at h2
    have : ¬ x < y := by omega
    simp [hl, this]
theorem less_eq {x y k : Nat} (h : x / 65536 ^ (k + 1) = y / 65536 ^ (k + 1)) (hd : digN x k = digN y k) : x / 65536 ^ k = y / 65536 ^ k := by
  rw [div_dig x k, div_dig y k, h, hd]
/-- Carrying. -/
theorem carry_step {n V i d : Nat} {f : Nat → Nat} (hV : V = valN i f) (hd : n = V / 65536 ^ i + d) :
    V + d * 65536 ^ i = (V + d * 65536 ^ i) % 65536 ^ i + n * 65536 ^ i ∧ (V + d * 65536 ^ i) % 65536 ^ i = V % 65536 ^ i ∧ (V + d * 65536 ^ i) / 65536 ^ (i + 1) = n / 65536 ∧ digN (V + d * 65536 ^ i) i = n % 65536 := by
  have hp := Nat.pow_pos (n := i) (show 0 < 65536 by decide)
  have e1 : (V + d * 65536 ^ i) % 65536 ^ i = V % 65536 ^ i := Nat.add_mul_mod_self_right ..
  have e2 : (V + d * 65536 ^ i) / 65536 ^ i = n := by rw [Nat.add_mul_div_right _ _ hp, hd]
  refine ⟨?_, e1, ?_, ?_⟩
  · have := Nat.div_add_mod (V + d * 65536 ^ i) (65536 ^ i)
    rw [e2] at this
    rw [Nat.mul_comm] at this; omega
  · rw [Nat.pow_succ, ← Nat.div_div_eq_div_mul, e2]
  · unfold digN; rw [e2]
theorem dl_put {m X Y i v : Nat} (h1 : ∀ j, j ≠ i → j < m → digN Y j = digN X j) (h2 : digN Y i = v) : (dl m X).set i (.int .i64 ((v : Nat) : Int)) = dl m Y := by
  unfold dl
  rw [nl_set]
  refine nl_ext fun j hj => ?_
  by_cases hji : j = i
  · subst hji; rw [if_pos rfl, h2]
  · rw [if_neg hji, h1 j hji hj]
end Go.Proofs.Num

namespace Go.Proofs.Num
open Go Go.RowKit
variable {P : Program}
theorem letsOut_then {K : Act → World → Prop} {Q : Exit → Act → World → Prop} (h : LetsOut (Exit.then K Q)) : LetsOut Q := by
  first
  | exact h
  | (unfold LetsOut at *; exact fun e a w => h e a w)
  | (unfold LetsOut at *; exact h)
theorem wp_then {o : Oper} {a : Act} {w : World} {K K' : Act → World → Prop} {Q : Exit → Act → World → Prop} (h : ∀ a w, K' a w → K a w) (hh : o.wp P a w K' (Exit.then K Q)) : o.wp P a w K Q := by
  unfold Oper.wp at *
  generalize (execOp a.eval o).run P w = r at *
  cases r with
  | ok n w' =>
    cases n <;> simp only [Oper.upon] at hh ⊢ <;>
      first
        | exact h _ _ hh
        | exact Calls.mono hh (fun e w'' he => by
            cases e
            · exact h _ _ he
            · exact he
            · exact letsOut_then he)
        | exact Rows.mono hh (fun _ _ he => h _ _ he)
  | halt x w' => cases x <;> simp only [Oper.upon] at hh ⊢ <;> exact hh
variable {ops : Array Oper} {Q : Exit → Act → World → Prop} {a : Act} {w : World}
theorem any_op {K : Act → World → Prop} (i : Nat) {o : Oper} (hi : ops[i]? = some o) (h : wpList P ops (Exit.then K Q) [o] a w) : wpOp P ops Q i K a w := by
  unfold wpOp
  simp only [hi]
  simp only [wpList] at h
  split at h
  · next hw =>
    rw [if_pos hw]
    exact h.imp (wp_then fun a w h => h) fun ⟨h1, h2⟩ => ⟨h1, letsOut_then h2⟩
  · next hw =>
    rw [if_neg hw]
    exact h
theorem any_opL {l : List Oper} {K : Act → World → Prop} (i : Nat) (hi : ((l.drop i).take 1).isEmpty = false) (h : wpList P l.toArray (Exit.then K Q) ((l.drop i).take 1) a w) : wpOp P l.toArray Q i K a w := by
  by_cases hl : i < l.length
  · refine any_op i (o := l[i]) (by simp [hl]) ?_
    rw [List.drop_eq_getElem_cons hl] at h
    exact h
  · rw [List.drop_eq_nil_of_le (by omega)] at hi
    simp at hi
theorem any_step {md : Region.Mode} {fuel : Nat} {listed : Array Bool} (rs : List Nat) (hr : Region.ready md ops listed = rs) (hne : rs.isEmpty = false) (h : ∀ i ∈ rs, wpOp P ops Q i (wpAny P md ops Q fuel (listed.setIfInBounds i true)) a w) : wpAny P md ops Q (fuel + 1) listed a w :=
  ⟨fun e => by rw [hr] at e; simp [e] at hne, fun i hi => h i (by rwa [hr] at hi)⟩
theorem any_one {i : Nat} {K : Nat → Prop} (h : K i) : ∀ j ∈ [i], K j := fun j hj => by simp at hj; subst hj; exact h
theorem any_two {i : Nat} {l : List Nat} {K : Nat → Prop} (h : K i) (h2 : ∀ j ∈ l, K j) : ∀ j ∈ i :: l, K j := fun j hj => by
  rcases List.mem_cons.1 hj with rfl | hj
  · exact h
  · exact h2 j hj
theorem any_end {md : Region.Mode} {listed : Array Bool} (hr : Region.ready md ops listed = []) (h : Q .normal a w) : wpAny P md ops Q 0 listed a w := ⟨hr, h⟩
theorem any_rest {md : Region.Mode} {l : List Oper} (k : Nat) {listed : Array Bool} {fuel : Nat} (hf : fuel = (l.drop k).length) (hB : Region.seqB md l.toArray (l.drop k).length k listed = true) (h : wpList P l.toArray Q (l.drop k) a w) : wpAny P md l.toArray Q fuel listed a w := by
  subst hf
  exact wpAny_of_seq (l.drop k) k listed a w (fun j => by simp [List.getElem?_drop]) hB h
theorem wp_region_tree {id : Nat} {l : List Oper} (hm : P.follows .mixedOrders = true) (h : ∀ W, Sees w W → wpAny P .any l.toArray Q l.length (Array.replicate l.length false) a W) : (Code.region id l.toArray true).wp P Q a w :=
  wp_region_any hm (by
    have := h _ (sees_drew (sees_refl w))
    rwa [show l.length = l.toArray.size by simp] at this)
theorem wp_region_seq {id : Nat} {l : List Oper} (h : wpList P l.toArray (NoPanic Q) l a w) : (Code.region id l.toArray false).wp P Q a w :=
  Code.wp_mono NoPanic.imp (wp_region_list h)
theorem wpV_sliceH {ops : Array Oper} {w0 : World} {L : Act → Prop} {o : Oper} {rest : List Oper} {a : Act} {T e : TypeId} {x y : Operand} {g off n cap hi s : Nat} {k : IntKind} (hw : Region.wanted o (yielded ops a.tmps) = true) (ho : o.op = .slice T x none (some y) none) (hx : a.eval x = .slice (some ⟨g, off, none⟩) n cap) (hy : a.eval y = .int k (hi : Nat))
    (hT : P.underlying T = some (.slice e)) (hs : (P.info? e).map (·.size) = some s) (hh : hi ≤ cap) (h : wpV P ops w0 L rest (a.put o.dst (.slice (some ⟨g, off, none⟩) hi cap))) : wpV P ops w0 L (o :: rest) a :=
  wpV_val (by simp [isAlloc, ho]) hw (fun W _ => by
    unfold RunsVal
    simp only [execOp, ho, hx, hy, Option.map_none, Option.map_some, Sem.run_bind, run_sliceH hT hs hh, Result.andThen_ok, Sem.run_pure]) h
theorem wpV_sliceL {ops : Array Oper} {w0 : World} {L : Act → Prop} {o : Oper} {rest : List Oper} {a : Act} {T e : TypeId} {x y : Operand} {g off n cap lo : Nat} {k : IntKind} (hw : Region.wanted o (yielded ops a.tmps) = true) (ho : o.op = .slice T x (some y) none none) (hx : a.eval x = .slice (some ⟨g, off, none⟩) n cap) (hy : a.eval y = .int k (lo : Nat))
    (hT : P.underlying T = some (.slice e)) (hs : (P.info? e).map (·.size) = some 1) (hl : lo ≤ n) (hc : n ≤ cap) (hlt : lo < cap) (h : wpV P ops w0 L rest (a.put o.dst (.slice (some ⟨g, off + lo, none⟩) (n - lo) (cap - lo)))) : wpV P ops w0 L (o :: rest) a :=
  wpV_val (by simp [isAlloc, ho]) hw (fun W _ => by
    unfold RunsVal
    simp only [execOp, ho, hx, hy, Option.map_none, Option.map_some, Sem.run_bind, run_sliceL hT hs hl hc hlt, Result.andThen_ok, Sem.run_pure]) h
theorem wpV_not {ops : Array Oper} {w0 : World} {L : Act → Prop} {o : Oper} {rest : List Oper} {a : Act} {x : Operand} {T : TypeId} {b : Bool} (hw : Region.wanted o (yielded ops a.tmps) = true) (ho : o.op = .unOp .not T x) (hx : a.eval x = .bool b) (h : wpV P ops w0 L rest (a.put o.dst (.bool !b))) : wpV P ops w0 L (o :: rest) a :=
  wpV_val (by simp [isAlloc, ho]) hw (fun W _ => by
    unfold RunsVal
    simp [execOp, ho, hx, Op.unary, Sem.run_bind]) h
theorem range_dl_take {b o n m x : Nat} {w : World} (h : w.rangeAt b o (dl n x)) (hm : m ≤ n) : w.rangeAt b o (dl m x) := by
  have := range_sub h 0 m o (xs := dl m x) (by rw [List.drop_zero, dl_take x hm]) rfl
  exact this
theorem range_dl_drop {b o n x : Nat} {w : World} (m : Nat) (h : w.rangeAt b o (dl n x)) : w.rangeAt b (o + m) (dl (n - m) (x / 65536 ^ m)) :=
  range_sub h m (n - m) (o + m) (by rw [dl_drop, List.take_of_length_le (by rw [dl_len]; exact Nat.le_refl _)]) rfl
theorem dl_one {v : Nat} (hv : v < 65536) : dl 1 v = [.int .i64 ((v : Nat) : Int)] := by
  have : digN v 0 = v := by unfold digN; omega
  simp [dl, nl, this]
theorem dl_none : dl 0 0 = [] := rfl
end Go.Proofs.Num

namespace Go.Proofs.Num
open Go
def cvf (f : Nat → Nat) (n : Nat) : Nat → Nat := fun j => if j < n then f j else 0
def cvV (f : Nat → Nat) (n i : Nat) : Nat := valN i (cvf f n)
theorem cvf_lt {f : Nat → Nat} {n i : Nat} (h : i < n) : cvf f n i = f i := if_pos h
theorem cvf_ge {f : Nat → Nat} {n i : Nat} (h : ¬ i < n) : cvf f n i = 0 := if_neg h
theorem cvf_le {f : Nat → Nat} {n : Nat} (hf : ∀ i, i < n → f i ≤ 2305843009213693952) (i : Nat) : cvf f n i ≤ 2305843009213693952 := by
  unfold cvf; split
  · exact hf _ ‹_›
  · omega
theorem cv_next (f : Nat → Nat) (n i : Nat) : (cvV f n i / 65536 ^ i + cvf f n i) / 65536 = cvV f n (i + 1) / 65536 ^ (i + 1) := by
  have h := carry_step (n := cvV f n i / 65536 ^ i + cvf f n i) (V := cvV f n i) (i := i) (d := cvf f n i) rfl rfl
  exact h.2.2.1.symm
theorem cv_put (f : Nat → Nat) (n m i : Nat) : (dl m (cvV f n i % 65536 ^ i)).set i (.int .i64 (((cvV f n i / 65536 ^ i + cvf f n i) % 65536 : Nat) : Int)) = dl m (cvV f n (i + 1) % 65536 ^ (i + 1)) := by
  have h := carry_step (n := cvV f n i / 65536 ^ i + cvf f n i) (V := cvV f n i) (i := i) (d := cvf f n i) rfl rfl
  have e : cvV f n (i + 1) = cvV f n i + cvf f n i * 65536 ^ i := rfl
  rw [e]
  refine dl_put (fun j hj _ => ?_) ?_
  · by_cases hji : j < i
    · rw [digN_mod_lt (by omega), ← digN_mod_lt (m := i) hji, h.2.1]
    · rw [digN_ge (by omega), digN_ge (by omega)]
  · rw [digN_mod_lt (by omega)]; exact h.2.2.2
theorem cv_bound {f : Nat → Nat} {n : Nat} (hf : ∀ i, i < n → f i ≤ 2305843009213693952) (i : Nat) : cvV f n i / 65536 ^ i ≤ 2305843009213693952 := by
  have h := valN_lt (n := i) (B := 2305843009213693952) (f := cvf f n) fun j _ => cvf_le hf j
  exact Nat.div_le_of_le_mul (by rw [Nat.mul_comm]; exact h)
theorem valN_more (f : Nat → Nat) (n d : Nat) : valN (n + d) (cvf f n) = valN n f := by
  induction d with
  | zero => exact valN_ext fun i hi => cvf_lt hi
  | succ d ih => rw [← Nat.add_assoc, valN, ih, cvf_ge (by omega), Nat.zero_mul, Nat.add_zero]
theorem cv_end (f : Nat → Nat) (n : Nat) : cvV f n (n + 4) = valN n f := valN_more f n 4
theorem valN_lt4 {f : Nat → Nat} {n : Nat} (hf : ∀ i, i < n → f i ≤ 2305843009213693952) : valN n f < 65536 ^ (n + 4) := by
  have h := valN_lt hf
  rw [Nat.pow_add]
  have hp := Nat.pow_pos (n := n) (show 0 < 65536 by decide)
  have : (65536 : Nat) ^ 4 = 18446744073709551616 := by decide
  rw [this]; omega
/-- Sums. -/
def plF (x y i : Nat) : Nat → Nat := fun j => digN x j + digN (y % 65536 ^ i) j
theorem plF_zero (x y m : Nat) : dl m x = nl m (plF x y 0) := nl_ext fun j _ => by unfold plF; rw [Nat.pow_zero, Nat.mod_one]; simp [digN]
theorem pl_put1 {m x i : Nat} : (dl m (x % 65536 ^ i)).set i (.int .i64 ((digN x i : Nat) : Int)) = dl m (x % 65536 ^ (i + 1)) := by
  refine dl_put (fun j hj _ => ?_) (digN_mod_lt (by omega))
  by_cases hji : j < i
  · rw [digN_mod_lt (by omega), digN_mod_lt hji]
  · rw [digN_ge (by omega), digN_ge (by omega)]
theorem plF_at (x y i : Nat) : plF x y i i = digN x i := by unfold plF; rw [digN_ge (Nat.le_refl _), Nat.add_zero]
theorem pl_put2 {m x y i : Nat} : (nl m (plF x y i)).set i (.int .i64 ((plF x y i i + digN y i : Nat) : Int)) = nl m (plF x y (i + 1)) := by
  rw [nl_set]
  refine nl_ext fun j _ => ?_
  by_cases hji : j = i
  · subst hji; rw [if_pos rfl, plF_at]; unfold plF; rw [digN_mod_lt (by omega)]
  · rw [if_neg hji]; unfold plF
    by_cases h : j < i
    · rw [digN_mod_lt h, digN_mod_lt (by omega)]
    · rw [digN_ge (by omega), digN_ge (by omega)]
theorem plF_le (x y i j : Nat) : plF x y i j ≤ 131070 := by
  have h1 := digN_lt x j
  have h2 := digN_lt (y % 65536 ^ i) j
  unfold plF; omega
theorem plF_val {n m x y : Nat} (hx : x < 65536 ^ n) (hy : y < 65536 ^ m) : valN (n + m) (plF x y m) = x + y := by
  unfold plF
  have h1 : x < 65536 ^ (n + m) := Nat.lt_of_lt_of_le hx (Nat.pow_le_pow_right (by decide) (by omega))
  have h2 : y < 65536 ^ (n + m) := Nat.lt_of_lt_of_le hy (Nat.pow_le_pow_right (by decide) (by omega))
  rw [valN_add, valN_dig, valN_dig, Nat.mod_eq_of_lt hy, Nat.mod_eq_of_lt h1, Nat.mod_eq_of_lt h2]
/-- Products: what stands after i whole rows and k places. -/
structure TmI (x y n m i k : Nat) (f : Nat → Nat) : Prop where
  val : valN (n + m) f = (x % 65536 ^ i) * y + digN x i * 65536 ^ i * (y % 65536 ^ k)
  le : ∀ j, f j ≤ i * 4294836225 + (if j < i + k then 4294836225 else 0)
def tmF (x y i k : Nat) (f : Nat → Nat) : Nat → Nat := fun j => if j = i + k then f j + digN x i * digN y k else f j
theorem dig_mul_le (x y i k : Nat) : digN x i * digN y k ≤ 4294836225 :=
  Nat.le_trans (Nat.mul_le_mul (Nat.le_of_lt_succ (digN_lt x i)) (Nat.le_of_lt_succ (digN_lt y k))) (by decide)
theorem tm_start (x y n m : Nat) : TmI x y n m 0 0 (fun _ => 0) := ⟨by rw [valN_zero]; simp [Nat.mod_one], fun j => by simp⟩
theorem tm_step {x y n m i k : Nat} {f : Nat → Nat} (hi : i < n) (hk : k < m) (h : TmI x y n m i k f) : TmI x y n m i (k + 1) (tmF x y i k f) := by
  have hm := dig_mul_le x y i k
  refine ⟨?_, fun j => ?_⟩
  · have e : valN (n + m) (tmF x y i k f) = valN (n + m) f + digN x i * digN y k * 65536 ^ (i + k) := by
      have := valN_set (n := n + m) (j := i + k) f (digN x i * digN y k) (by omega)
      rw [← this]; rfl
    rw [e, h.val, mod_dig y k, Nat.pow_add]
    generalize (x % 65536 ^ i) * y = A
    generalize digN x i = a
    generalize digN y k = b
    generalize 65536 ^ i = E
    generalize 65536 ^ k = G
    generalize y % G = z
    grind
  · have hj := h.le j
    unfold tmF
    by_cases hjk : j = i + k
    · rw [if_pos hjk, if_pos (by omega)]
      rw [if_neg (by omega)] at hj
      omega
    · rw [if_neg hjk]
      by_cases h2 : j < i + k
      · rw [if_pos h2] at hj; rw [if_pos (by omega)]; exact hj
      · rw [if_neg h2] at hj; rw [if_neg (by omega)]; exact hj
theorem tm_row {x y n m i : Nat} {f : Nat → Nat} (hy : y < 65536 ^ m) (h : TmI x y n m i m f) : TmI x y n m (i + 1) 0 f := by
  refine ⟨?_, fun j => ?_⟩
  · rw [h.val, mod_dig x i, Nat.pow_zero, Nat.mod_one, Nat.mod_eq_of_lt hy, Nat.add_mul, Nat.mul_zero, Nat.add_zero]
  · have := h.le j
    rw [Nat.add_mul, Nat.one_mul]
    generalize i * 4294836225 = Z at *
    split at this <;> split <;> omega
theorem tm_end {x y n m : Nat} {f : Nat → Nat} (hx : x < 65536 ^ n) (h : TmI x y n m n 0 f) : valN (n + m) f = x * y := by
  rw [h.val, Nat.pow_zero, Nat.mod_one, Nat.mod_eq_of_lt hx]; simp
theorem tm_small {x y n m i k : Nat} {f : Nat → Nat} (hi : i ≤ n) (hn : n ≤ 1000) (h : TmI x y n m i k f) (j : Nat) : f j ≤ 4299131061225 := by
  have := h.le j
  split at this <;> omega
theorem tm_put {x y m i k : Nat} {f : Nat → Nat} : (nl m f).set (i + k) (.int .i64 ((f (i + k) + digN x i * digN y k : Nat) : Int)) = nl m (tmF x y i k f) := by
  rw [nl_set]
  refine nl_ext fun j _ => ?_
  unfold tmF
  by_cases h : j = i + k
  · subst h; simp
  · simp [h]
/-- Differences. -/
structure MiI (x y i R low : Nat) : Prop where
  sum : R + y % 65536 ^ i = x % 65536 ^ i + low * 65536 ^ i
  low : low ≤ 1
  lt : R < 65536 ^ i
def miD (x y i low : Nat) : Nat := (digN x i + 65536 - low - digN y i) % 65536
def miL (x y i low : Nat) : Nat := if digN x i < low + digN y i then 1 else 0
def miR (x y i R low : Nat) : Nat := R + miD x y i low * 65536 ^ i
theorem mi_parts {x y i low : Nat} (hl : low ≤ 1) : miD x y i low + low + digN y i = digN x i + 65536 * miL x y i low := by
  have h1 := digN_lt x i
  have h2 := digN_lt y i
  unfold miD miL
  split <;> omega
theorem miD_lt (x y i low : Nat) : miD x y i low < 65536 := Nat.mod_lt _ (by decide)
theorem mi_start (x y : Nat) : MiI x y 0 0 0 := ⟨by simp [Nat.mod_one], by omega, by simp⟩
theorem mi_step {x y i R low : Nat} (h : MiI x y i R low) : MiI x y (i + 1) (miR x y i R low) (miL x y i low) := by
  have hp := mi_parts (x := x) (y := y) (i := i) h.low
  refine ⟨?_, by unfold miL; split <;> omega, ?_⟩
  · have hs := h.sum
    rw [mod_dig x i, mod_dig y i, Nat.pow_succ]
    unfold miR
    generalize miD x y i low = d at *
    generalize miL x y i low = l at *
    generalize digN x i = a at *
    generalize digN y i = b at *
    generalize 65536 ^ i = E at *
    have e : (d + low + b) * E = (a + 65536 * l) * E := by rw [hp]
    have e1 : (d + low + b) * E = d * E + low * E + b * E := by grind
    have e2 : (a + 65536 * l) * E = a * E + l * (E * 65536) := by grind
    omega
  · have := miD_lt x y i low
    have hl := h.lt
    unfold miR
    rw [Nat.pow_succ]
    have : miD x y i low * 65536 ^ i ≤ 65535 * 65536 ^ i := Nat.mul_le_mul_right _ (by omega)
    generalize 65536 ^ i = E at *
    omega
theorem mi_put {x y n i R low : Nat} (h : MiI x y i R low) : (dl n R).set i (.int .i64 ((miD x y i low : Nat) : Int)) = dl n (miR x y i R low) := by
  have hd := miD_lt x y i low
  have hp := Nat.pow_pos (n := i) (show 0 < 65536 by decide)
  have e1 : miR x y i R low % 65536 ^ i = R := by unfold miR; rw [Nat.add_mul_mod_self_right, Nat.mod_eq_of_lt h.lt]
  refine dl_put (fun j hj _ => ?_) ?_
  · by_cases hji : j < i
    · rw [← digN_mod_lt (m := i) hji, e1]
    · rw [digN_big (Nat.lt_of_lt_of_le (mi_step h).lt (Nat.pow_le_pow_right (by decide) (by omega))), digN_big (Nat.lt_of_lt_of_le h.lt (Nat.pow_le_pow_right (by decide) (by omega)))]
  · unfold miR digN
    rw [Nat.add_mul_div_right _ _ hp, Nat.div_eq_of_lt h.lt, Nat.zero_add, Nat.mod_eq_of_lt hd]
theorem mi_end {x y n R low : Nat} (hx : x < 65536 ^ n) (hyx : y ≤ x) (h : MiI x y n R low) : R = x - y := by
  have hs := h.sum
  rw [Nat.mod_eq_of_lt hx, Nat.mod_eq_of_lt (Nat.lt_of_le_of_lt hyx hx)] at hs
  have hl := h.lt
  have hlow := h.low
  rcases Nat.le_one_iff_eq_zero_or_eq_one.1 hlow with e | e
  · rw [e, Nat.zero_mul] at hs; omega
  · rw [e, Nat.one_mul] at hs; omega
end Go.Proofs.Num

namespace Go.Proofs.Num
open Go
theorem two16 (i : Nat) : (65536 : Nat) ^ i = 2 ^ (16 * i) := by rw [show (65536 : Nat) = 2 ^ 16 by decide, ← Nat.pow_mul]
theorem dig_bit (A i t : Nat) (ht : t < 16) : digN A i / 2 ^ t % 2 = A / 2 ^ (16 * i + t) % 2 := by
  unfold digN
  rw [two16, Nat.pow_add, ← Nat.div_div_eq_div_mul]
  generalize A / 2 ^ (16 * i) = a
  have hd : (65536 : Nat) = 2 ^ t * 2 ^ (16 - t) := by rw [← Nat.pow_add, show t + (16 - t) = 16 by omega]
  rw [hd, Nat.mod_mul_right_div_self, Nat.mod_mod_of_dvd]
  exact ⟨2 ^ (16 - t - 1), by rw [← Nat.pow_succ', show (16 - t - 1).succ = 16 - t by omega]⟩
theorem dl_snoc (k x : Nat) : dl k x ++ [.int .i64 ((digN x k : Nat) : Int)] = dl (k + 1) x := by
  simp [dl, nl, List.range_succ]
theorem dig_limb (x i j : Nat) (hj : j < 4) : limbN x i / 65536 ^ j % 65536 = digN x (4 * i + j) := by
  unfold limbN digN
  have h1 : (65536 : Nat) ^ (4 * i + j) = 2 ^ (64 * i) * 65536 ^ j := by
    rw [Nat.pow_add, two16 (4 * i)]; congr 2; omega
  rw [h1, ← Nat.div_div_eq_div_mul]
  generalize x / 2 ^ (64 * i) = a
  have hd : (18446744073709551616 : Nat) = 65536 ^ j * 65536 ^ (4 - j) := by rw [← Nat.pow_add, show j + (4 - j) = 4 by omega]
  rw [hd, Nat.mod_mul_right_div_self, Nat.mod_mod_of_dvd]
  exact ⟨65536 ^ (4 - j - 1), by rw [← Nat.pow_succ', show (4 - j - 1).succ = 4 - j by omega]⟩
/-- Words of which the lower digits are still to come. -/
def ww (x k : Nat) : List Value := (List.range 4).map fun i => .int .u64 ((limbN x i / 65536 ^ (k - 4 * i) : Nat) : Int)
theorem ww_get (x k : Nat) {i : Nat} (h : i < 4) : (ww x k)[i]? = some (.int .u64 ((limbN x i / 65536 ^ (k - 4 * i) : Nat) : Int)) := by simp [ww, h]
theorem ww_end (x : Nat) : ww x 0 = fel x := by
  show (List.range 4).map _ = _
  simp [ww, fel, limb_eq]
  rfl
theorem ww_start {x k : Nat} (h : x < 65536 ^ k) (hk : k ≤ 16) : ww x k = fel 0 := by
  rw [← ww_end 0]
  unfold ww
  refine List.map_congr_left fun i hi => ?_
  have hi4 : i < 4 := by simpa using hi
  have e : limbN x i / 65536 ^ (k - 4 * i) = limbN 0 i / 65536 ^ (0 - 4 * i) := by
    have z : limbN 0 i = 0 := by simp [limbN]
    rw [z, Nat.zero_div]
    refine Nat.div_eq_of_lt (Nat.lt_of_le_of_lt (Nat.mod_le _ _) (Nat.div_lt_of_lt_mul ?_))
    have : 2 ^ (64 * i) = (65536 : Nat) ^ (4 * i) := by rw [two16]; congr 1; omega
    rw [this, ← Nat.pow_add]
    exact Nat.lt_of_lt_of_le h (Nat.pow_le_pow_right (by decide) (by omega))
  rw [e]
theorem ww_word (x j : Nat) : 65536 * (limbN x (j / 4) / 65536 ^ (j + 1 - 4 * (j / 4))) + digN x j = limbN x (j / 4) / 65536 ^ (j - 4 * (j / 4)) := by
  have h4 : j - 4 * (j / 4) < 4 := by omega
  have hj : 4 * (j / 4) + (j - 4 * (j / 4)) = j := by omega
  have hd := dig_limb x (j / 4) (j - 4 * (j / 4)) h4
  rw [hj] at hd
  rw [← hd, show j + 1 - 4 * (j / 4) = (j - 4 * (j / 4)) + 1 by omega, Nat.pow_succ, ← Nat.div_div_eq_div_mul]
  omega
theorem ww_lt (x i e : Nat) : limbN x i / 65536 ^ e < 18446744073709551616 := Nat.lt_of_le_of_lt (Nat.div_le_self _ _) (limbN_lt x i)
theorem ww_put {x j : Nat} (hj : j < 16) : (ww x (j + 1)).set (j / 4) (.int .u64 ((limbN x (j / 4) / 65536 ^ (j - 4 * (j / 4)) : Nat) : Int)) = ww x j := by
  apply List.ext_getElem?
  intro i
  rw [List.getElem?_set]
  by_cases hi : i < 4
  · rw [ww_get _ _ hi, ww_get _ _ hi]
    by_cases hij : j / 4 = i
    · subst hij; simp [ww]; omega
    · rw [if_neg hij]
      by_cases hlt : i < j / 4
      · have z : ∀ e, 4 ≤ e → limbN x i / 65536 ^ e = 0 := fun e he => Nat.div_eq_of_lt (Nat.lt_of_lt_of_le (limbN_lt x i) (by
          have := Nat.pow_le_pow_right (n := 65536) (by decide) he
          exact Nat.le_trans (by decide) this))
        rw [z _ (by omega), z _ (by omega)]
      · rw [show j + 1 - 4 * i = 0 by omega, show j - 4 * i = 0 by omega]
  · have h1 : (ww x (j + 1))[i]? = none := List.getElem?_eq_none (by simp [ww]; omega)
    have h2 : (ww x j)[i]? = none := List.getElem?_eq_none (by simp [ww]; omega)
    rw [h1, h2]
    split
    · rw [if_neg (by simp [ww]; omega)]
    · rfl
end Go.Proofs.Num

namespace Go.Proofs.Num
open Go Go.RowKit
theorem dl_app1 (k x : Nat) : dl k x ++ dl 1 (digN x k) = dl (k + 1) x := by rw [dl_one (digN_lt x k), dl_snoc]
theorem range_dl_mod {b o n m x : Nat} {w : World} (h : w.rangeAt b o (dl n x)) (hm : m ≤ n) : w.rangeAt b o (dl m (x % 65536 ^ m)) := by
  rw [dl_mod (Nat.le_refl m)]; exact range_dl_take h hm
theorem drop_lt {x n : Nat} (m : Nat) (h : x < 65536 ^ n) (hm : m ≤ n) : x / 65536 ^ m < 65536 ^ (n - m) := by
  refine Nat.div_lt_of_lt_mul ?_
  rwa [← Nat.pow_add, Nat.add_sub_cancel' hm]
theorem B16_mod : (65536 : Nat) ^ 16 % pF = 38 := by decide
theorem fold_mod (d : Nat) : (d % 65536 ^ 16 + d / 65536 ^ 16 * 38) % pF = d % pF := by
  have h := Nat.div_add_mod d (65536 ^ 16)
  conv => rhs; rw [← h]
  rw [Nat.add_mod, Nat.add_mod (65536 ^ 16 * (d / 65536 ^ 16)), Nat.mul_mod (65536 ^ 16), B16_mod, Nat.add_comm, Nat.mul_comm (d / 65536 ^ 16) 38, Nat.mul_mod 38]
  rfl
theorem fold_lt {d : Nat} (h : 16 < dlen d) : d % 65536 ^ 16 + d / 65536 ^ 16 * 38 < d := by
  have h1 : ¬ d < 65536 ^ 16 := by rw [← dlen_le]; omega
  have e := Nat.div_add_mod d (65536 ^ 16)
  have hB : (65536 : Nat) ^ 16 = 115792089237316195423570985008687907853269984665640564039457584007913129639936 := by decide
  rw [hB] at *
  omega
theorem dlen_pF : dlen pF = 16 := by
  have h1 := (dlen_le 16 pF).2 (by decide)
  have h2 : ¬ dlen pF ≤ 15 := by rw [dlen_le]; decide
  omega
end Go.Proofs.Num

namespace Go.Proofs.Num
open Go Go.RowKit
variable {P : Program}
section tails
variable {ops : Array Oper} {Q : Exit → Act → World → Prop} {o : Oper} {rest : List Oper} {a : Act} {W : World} {v : Value}
def Iter (w : World) (g : Nat) (l : List UInt8) (pos : Nat) : Prop := w.heap[g]? = some (.stringIter (bs l) pos)
theorem Iter.sees {w W : World} {g pos : Nat} {l : List UInt8} (h : Iter w g l pos) (hg : g < w.heap.size) (hS : Sees w W) : Iter W g l pos := (hS.2.2.block g hg).trans h
end tails
end Go.Proofs.Num

namespace Go.Proofs.Num
open Go Go.RowKit Go.ChangeShapes Go.WideShapes Go.ChangeAt
section
variable {H : Type} {enc : TypeId × Value → H} {P : Program}
theorem post_plain {f : Func} {s : ChangeSpec} {apart fresh handsOn again : Bool} {W W' : World} {args : Array Value} {v : Value} {ds gs : List (DataW H)} {before : List MemPlace}
    (hW : DataW.Whole enc P f.params.toList s.vars apart W args.toList ds gs before) (h0 : before = [])
    (hres : ∀ (b : Nat) (sp : Nat → Bool) (hd : Bool), DataW.TrodAll enc P W' b sp hd f.resultTypes.toList (v.resultList f.resultTypes.size) (s.fn H (ds ++ gs)).results [])
    (hargs : ∀ sp : Nat → Bool, DataW.TrodAll enc P W' 0 sp true f.params.toList args.toList (s.fn H (ds ++ gs)).args [])
    (hvars : ∀ sp : Nat → Bool, DataW.TrodVars enc P W' sp s.vars (s.fn H (ds ++ gs)).vars [])
    (hb : Below W.heap.size W W')
    (hok : ∀ (j : Nat) (t : TypeId) (r : Value), f.resultTypes[j]? = some t → (v.resultList f.resultTypes.size)[j]? = some r → Value.okWide P W' .any 0 t r) :
    s.post enc P f apart fresh handsOn again W args v W' := by
  subst h0
  refine ⟨ds, gs, [], [], [], [], hW, hres _ _ _, hargs _, hvars _, World.keptBut_mono (fun p hp => ⟨hp, ?_⟩) (hb.frame (· ∈ [])), fun _ => ?_⟩
  · cases hp
  · refine ⟨hok, _, _, ([] ++ []) ++ [], ⟨[] ++ [], [], trodAll_append (hargs _) (hres _ _ _), hvars _, rfl, ?_, ?_⟩, ?_⟩
    · intro b off hp
      simp at hp
    · intro ha
      obtain ⟨_, _, _, _, _, hz, hn⟩ := hW
      simp
    · intro p hp _
      simp at hp
end
end Go.Proofs.Num

