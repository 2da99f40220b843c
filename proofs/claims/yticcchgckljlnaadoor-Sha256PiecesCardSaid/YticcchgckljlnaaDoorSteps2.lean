/- Single steps: indices, shifts, conversions, slices of arrays. -/
import Derived.Test.YticcchgckljlnaaDoorSteps
set_option linter.unusedSimpArgs false
set_option linter.unusedVariables false
namespace Go.Proofs.Num
open Go Go.RowKit
variable {P : Program}
section
variable {ops : Array Oper} {w0 : World} {L : Act → Prop} {o : Oper} {rest : List Oper} {a : Act} {v : Value}

theorem run_sizeOf {T : TypeId} {n : Nat} (h : (P.info? T).map (·.size) = some n) (W : World) : (sizeOf T).run P W = .ok n W := by
  cases hq : P.info? T with
  | none => simp [hq] at h
  | some i => simp [hq] at h; simp [sizeOf, typeInfo, hq, h]

theorem run_indexAt_arr {T e : TypeId} {len g off n : Nat} {k : IntKind} (hu : P.underlying T = some (.array len e)) (hs : (P.info? e).map (·.size) = some 1) (hn : n < len) (W : World) :
    (Instr.indexAt T (.pointer (some ⟨g, off, none⟩)) (.int k (n : Nat))).run P W = .ok (.pointer (some ⟨g, off + n, none⟩)) W := by
  simp [Instr.indexAt, asIntOf, run_underlying hu, Instr.sureAddr, run_sizeOf hs, hn, Sem.run_bind, Addr.add_mid]
theorem wpV_idx {T : TypeId} {x y : Operand} {e : TypeId} {len g off n : Nat} {k : IntKind} (hw : Region.wanted o (yielded ops a.tmps) = true) (ho : o.op = .indexAddr T x y) (hx : a.eval x = .pointer (some ⟨g, off, none⟩)) (hy : a.eval y = .int k (n : Nat))
    (hu : P.underlying T = some (.array len e)) (hs : (P.info? e).map (·.size) = some 1) (hn : n < len) (h : wpV P ops w0 L rest (a.put o.dst (.pointer (some ⟨g, off + n, none⟩)))) : wpV P ops w0 L (o :: rest) a :=
  wpV_val (by simp [isAlloc, ho]) hw (fun W _ => by
    unfold RunsVal
    simp only [execOp, ho, hx, hy, run_indexAt_arr hu hs hn W, Sem.run_bind, Result.andThen_ok, Sem.run_pure]) h
theorem run_indexAt_slice {T e : TypeId} {len cap g off n : Nat} {k : IntKind} (hu : P.underlying T = some (.slice e)) (hs : (P.info? e).map (·.size) = some 1) (hn : n < len) (W : World) :
    (Instr.indexAt T (.slice (some ⟨g, off, none⟩) len cap) (.int k (n : Nat))).run P W = .ok (.pointer (some ⟨g, off + n, none⟩)) W := by
  simp [Instr.indexAt, asIntOf, run_underlying hu, run_sizeOf hs, hn, Sem.run_bind, Addr.add_mid]
theorem wpV_idxs {T : TypeId} {x y : Operand} {e : TypeId} {len cap g off n : Nat} {k : IntKind} (hw : Region.wanted o (yielded ops a.tmps) = true) (ho : o.op = .indexAddr T x y) (hx : a.eval x = .slice (some ⟨g, off, none⟩) len cap) (hy : a.eval y = .int k (n : Nat))
    (hu : P.underlying T = some (.slice e)) (hs : (P.info? e).map (·.size) = some 1) (hn : n < len) (h : wpV P ops w0 L rest (a.put o.dst (.pointer (some ⟨g, off + n, none⟩)))) : wpV P ops w0 L (o :: rest) a :=
  wpV_val (by simp [isAlloc, ho]) hw (fun W _ => by
    unfold RunsVal
    simp only [execOp, ho, hx, hy, run_indexAt_slice hu hs hn W, Sem.run_bind, Result.andThen_ok, Sem.run_pure]) h
theorem run_index_arr {T e : TypeId} {len n : Nat} {k : IntKind} {cs : List Value} {v : Value} {d : TypeDesc} (hu : P.underlying T = some (.array len e)) (hs : (P.info? e).map (·.size) = some 1) (he : P.underlying e = some d) (hd : d.isRow = false) (hn : n < len) (hv : cs[n]? = some v) (W : World) :
    (Instr.index T (.agg cs.toArray) (.int k (n : Nat))).run P W = .ok v W := by
  have hagg : (isAgg e).run P W = .ok false W := by
    unfold isAgg
    rw [Sem.run_bind, run_underlying he W]
    cases d <;> simp_all
  simp [Instr.index, asIntOf, run_underlying hu, run_sizeOf hs, hn, Sem.run_bind, part, hagg, hv]
theorem wpV_index {T : TypeId} {x y : Operand} {e : TypeId} {len n : Nat} {k : IntKind} {cs : List Value} {d : TypeDesc} (hw : Region.wanted o (yielded ops a.tmps) = true) (ho : o.op = .index T x y) (hx : a.eval x = .agg cs.toArray) (hy : a.eval y = .int k (n : Nat))
    (hu : P.underlying T = some (.array len e)) (hs : (P.info? e).map (·.size) = some 1) (he : P.underlying e = some d) (hd : d.isRow = false) (hn : n < len) (hv : cs[n]? = some v) (h : wpV P ops w0 L rest (a.put o.dst v)) : wpV P ops w0 L (o :: rest) a :=
  wpV_val (by simp [isAlloc, ho]) hw (fun W _ => by
    unfold RunsVal
    simp only [execOp, ho, hx, hy, run_index_arr hu hs he hd hn hv W, Sem.run_bind, Result.andThen_ok, Sem.run_pure]) h
theorem run_index_str {T : TypeId} {n : Nat} {k : IntKind} {s : ByteArray} (hu : P.underlying T = some .string) (hn : n < s.size) (W : World) :
    (Instr.index T (.string s) (.int k (n : Nat))).run P W = .ok (.int .u8 (s[n].toNat : Nat)) W := by
  simp [Instr.index, asIntOf, run_underlying hu, hn, Sem.run_bind]
theorem wpV_indexs {T : TypeId} {x y : Operand} {n : Nat} {k : IntKind} {s : ByteArray} (hn : n < s.size) (hw : Region.wanted o (yielded ops a.tmps) = true) (ho : o.op = .index T x y) (hx : a.eval x = .string s) (hy : a.eval y = .int k (n : Nat))
    (hu : P.underlying T = some .string) (h : wpV P ops w0 L rest (a.put o.dst (.int .u8 (s[n].toNat : Nat)))) : wpV P ops w0 L (o :: rest) a :=
  wpV_val (by simp [isAlloc, ho]) hw (fun W _ => by
    unfold RunsVal
    simp only [execOp, ho, hx, hy, run_index_str hu hn W, Sem.run_bind, Result.andThen_ok, Sem.run_pure]) h

/-- Shifts, by a number that is not negative. -/
theorem run_shr {T : TypeId} {k k' : IntKind} {m n : Nat} {e : Int} (hk : n ≤ k.bits) (he : ((m / 2 ^ n : Nat) : Int) = e) (W : World) : (binOp .shr T (.int k (m : Nat)) (.int k' (n : Nat))).run P W = .ok (.int k e) W := by
  subst he
  have h : ¬ ((n : Int) < 0) := by omega
  have h2 : min n k.bits = n := Nat.min_eq_left hk
  have h3 : ((m : Int)).fdiv ((2 : Int) ^ n) = ((m / 2 ^ n : Nat) : Int) := by
    rw [show ((2 : Int) ^ n) = ((2 ^ n : Nat) : Int) by rw [Int.natCast_pow]; rfl, Int.fdiv_eq_ediv_of_nonneg _ (Int.natCast_nonneg _)]
    rfl
  simp [binOp, Op.shift, h, h2, h3]
theorem run_shl {T : TypeId} {k k' : IntKind} {m n : Nat} {e : Int} (hk : n ≤ k.bits) (he : k.wrap ((m * 2 ^ n : Nat) : Int) = e) (W : World) : (binOp .shl T (.int k (m : Nat)) (.int k' (n : Nat))).run P W = .ok (.int k e) W := by
  subst he
  have h : ¬ ((n : Int) < 0) := by omega
  have h2 : min n k.bits = n := Nat.min_eq_left hk
  have h3 : (m : Int) * (2 : Int) ^ n = ((m * 2 ^ n : Nat) : Int) := by
    rw [Int.natCast_mul, Int.natCast_pow]; rfl
  simp only [binOp, Op.shift, h, if_false, Int.toNat_natCast, h2, h3, Sem.run_pure]
theorem tdiv_nat (a b : Nat) : ((a : Nat) : Int).tdiv (b : Nat) = ((a / b : Nat) : Int) := by
  rw [Int.tdiv_eq_ediv_of_nonneg (by omega)]; rfl
theorem tmod_nat (a b : Nat) : ((a : Nat) : Int).tmod (b : Nat) = ((a % b : Nat) : Int) := by
  rw [Int.tmod_eq_emod_of_nonneg (by omega)]; rfl
theorem wrap_nat (a : Nat) (h : a < 9223372036854775808) : IntKind.i64.wrap (a : Nat) = (a : Nat) := by
  rw [IntKind.wrap_i64]; omega

theorem run_lssN (m n : Nat) (T : TypeId) (k : IntKind) (W : World) : (binOp .lss T (.int k (m : Nat)) (.int k (n : Nat))).run P W = .ok (.bool (decide (m < n))) W := by
  rw [run_lss, decide_eq_decide.2 (show ((m : Nat) : Int) < (n : Nat) ↔ m < n by omega)]
theorem run_leqN (m n : Nat) (T : TypeId) (k : IntKind) (W : World) : (binOp .leq T (.int k (m : Nat)) (.int k (n : Nat))).run P W = .ok (.bool (decide (m ≤ n))) W := by
  rw [run_leq, decide_eq_decide.2 (show ((m : Nat) : Int) ≤ (n : Nat) ↔ m ≤ n by omega)]
theorem run_gtrN (m n : Nat) (T : TypeId) (k : IntKind) (W : World) : (binOp .gtr T (.int k (m : Nat)) (.int k (n : Nat))).run P W = .ok (.bool (decide (n < m))) W := by
  rw [run_gtr, decide_eq_decide.2 (show ((n : Nat) : Int) < (m : Nat) ↔ n < m by omega)]
theorem run_geqN (m n : Nat) (T : TypeId) (k : IntKind) (W : World) : (binOp .geq T (.int k (m : Nat)) (.int k (n : Nat))).run P W = .ok (.bool (decide (n ≤ m))) W := by
  rw [run_geq, decide_eq_decide.2 (show ((n : Nat) : Int) ≤ (m : Nat) ↔ n ≤ m by omega)]

theorem run_arrayAt {T e : TypeId} {n len cap : Nat} {p : Option Addr} (hu : P.underlying T = some (.array n e)) (hn : n ≤ len) (W : World) : (Instr.arrayAt T (.slice p len cap)).run P W = .ok (.pointer p) W := by
  simp [Instr.arrayAt, run_underlying hu, Sem.run_bind, Nat.not_lt.2 hn]

theorem wpV_conv {S T : TypeId} {x : Operand} {k k' : IntKind} {m e : Int} (hw : Region.wanted o (yielded ops a.tmps) = true) (ho : o.op = .convert S T x) (hx : a.eval x = .int k' m) {d : TypeDesc}
    (hr : ∀ W, (convert S T (.int k' m)).run P W = .ok (.int k e) W) (h : wpV P ops w0 L rest (a.put o.dst (.int k e))) : wpV P ops w0 L (o :: rest) a :=
  wpV_val (by simp [isAlloc, ho]) hw (fun W _ => by
    unfold RunsVal
    simp only [execOp, ho, hx, hr W, Sem.run_bind, Result.andThen_ok, Sem.run_pure]) h
theorem wpV_pick {c x y : Operand} {b : Bool} (hw : Region.wanted o (yielded ops a.tmps) = true) (ho : o.op = .pick c x y) (hc : a.eval c = .bool b) (hv : (if b then a.eval x else a.eval y) = v) (h : wpV P ops w0 L rest (a.put o.dst v)) : wpV P ops w0 L (o :: rest) a :=
  wpV_val (by simp [isAlloc, ho]) hw (fun W _ => by
    unfold RunsVal
    simp only [execOp, ho, hc, asBool, Sem.run_bind, Result.andThen_ok, Sem.run_pure, hv]) h
theorem range_set {W W' : World} {g j : Nat} {cs : List Value} {v : Value} (h : W.rangeAt g 0 cs) (hp : Puts g j 1 W W') (hr : W'.rangeAt g j [v]) : W'.rangeAt g 0 (cs.set j v) := fun i u hu => by
  rw [Nat.zero_add]
  by_cases hij : i = j
  · subst hij
    rw [List.getElem?_set_self'] at hu
    cases hc : cs[i]? with
    | none => simp [hc] at hu
    | some z =>
      simp [hc] at hu
      subst hu
      exact range_one hr
  · rw [List.getElem?_set_ne (Ne.symm hij)] at hu
    rw [hp.cells i (by omega)]
    have := h i u hu
    rwa [Nat.zero_add] at this
theorem two_rows {w w0 : World} {g h B0 : Nat} {A C : List Value} (ha : w.there g 0 A.length) (hc : w.there h 0 C.length) (hne : g ≠ h) (hb : Below B0 w0 w) (hg : B0 ≤ g) (hh : B0 ≤ h) :
    ((w.setCells g 0 A).setCells h 0 C).drew.rangeAt g 0 A ∧ ((w.setCells g 0 A).setCells h 0 C).drew.rangeAt h 0 C ∧ Below B0 w0 ((w.setCells g 0 A).setCells h 0 C).drew := by
  have p1 := puts_cells g A 0 w
  have p2 := puts_cells h C 0 (w.setCells g 0 A)
  have r1 := World.rangeAt_setCells_same w g 0 A ha
  have t2 := p1.other_there hc (Ne.symm hne)
  have r2 := World.rangeAt_setCells_same (w.setCells g 0 A) h 0 C t2
  exact ⟨p2.range r1 (.inl hne), r2, (p2.below (p1.below hb hg) hh).drew⟩
end
end Go.Proofs.Num
