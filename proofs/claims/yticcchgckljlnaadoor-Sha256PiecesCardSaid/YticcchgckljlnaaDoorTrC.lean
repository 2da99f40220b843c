/- A loop whose first round is walked alone; slices by both ends; rows of leaves that are made. -/
import Derived.Test.YticcchgckljlnaaDoorTrB
set_option linter.unusedSimpArgs false
set_option linter.unusedVariables false
namespace Go.Proofs.Num
open Go Go.RowKit
theorem wp_loop_peel {P : Program} {Q : Exit → Act → World → Prop} {c : Code} {a : Act} {w : World} (I : Nat → Act → World → Prop) (n : Nat) (first : c.wp P (Exit.then (fun a' w' => ∃ m, m < n ∧ I m a' w') Q) a w)
    (round : ∀ n a w, I n a w → c.wp P (Exit.then (fun a' w' => ∃ m, m < n ∧ I m a' w') Q) a w) : (Code.loop c).wp P Q a w := by
  refine wp_loop_ghost (fun m a' w' => (m = n ∧ a' = a ∧ w' = w) ∨ I m a' w') n (.inl ⟨rfl, rfl, rfl⟩) fun m a' w' h => ?_
  have up : ∀ {k : Nat} {e : Exit} {b : Act} {v : World}, Exit.then (fun a' w' => ∃ m, m < k ∧ I m a' w') Q e b v → Exit.then (fun a' w' => ∃ m, m < k ∧ ((m = n ∧ a' = a ∧ w' = w) ∨ I m a' w')) Q e b v := fun {k e b v} hq => by
    cases e with
    | normal => obtain ⟨m, h1, h2⟩ := hq; exact ⟨m, h1, .inr h2⟩
    | _ => exact hq
  rcases h with ⟨rfl, rfl, rfl⟩ | h
  · exact wp_mono first fun e b v => up
  · exact wp_mono (round m a' w' h) fun e b v => up
section vals
variable {P : Program} {ops : Array Oper} {w0 : World} {L : Act → Prop} {o : Oper} {rest : List Oper} {a : Act}
theorem wpV_sliceB {T e : TypeId} {x y z : Operand} {g off n cap lo hi : Nat} {k k2 : IntKind} (hw : Region.wanted o (yielded ops a.tmps) = true) (ho : o.op = .slice T x (some y) (some z) none) (hx : a.eval x = .slice (some ⟨g, off, none⟩) n cap) (hy : a.eval y = .int k (lo : Nat)) (hz : a.eval z = .int k2 (hi : Nat))
    (hT : P.underlying T = some (.slice e)) (hs : (P.info? e).map (·.size) = some 1) (hl : lo ≤ hi) (hc : hi ≤ cap) (hlt : lo < cap) (h : wpV P ops w0 L rest (a.put o.dst (.slice (some ⟨g, off + lo, none⟩) (hi - lo) (cap - lo)))) : wpV P ops w0 L (o :: rest) a :=
  wpV_val (by simp [isAlloc, ho]) hw (fun W _ => by
    unfold RunsVal
    have he : P.elem T = e := by simp [Program.elem, hT]
    have : (Instr.sliceAt T (.slice (some ⟨g, off, none⟩) n cap) (some (.int k (lo : Nat))) (some (.int k2 (hi : Nat))) none).run P W = .ok (.slice (some ⟨g, off + lo, none⟩) (hi - lo) (cap - lo)) W := by
      rw [run_sliceAt_slice _ _ _ _ _ _ (by rw [he]; exact hT), run_slice_lh _ _ _ _ _ (by rw [he]; exact hT) _ _ _ _ (by omega) (by omega) (by omega), he, run_sizeOf hs]
      have h0 : ¬ cap = lo := by omega
      simp [Result.andThen, sliced, Addr.add, h0]
    simp only [execOp, ho, hx, hy, hz, Option.map_none, Option.map_some, Sem.run_bind, this, Result.andThen_ok, Sem.run_pure]) h
theorem wpV_sliceHM {T e : TypeId} {x y z : Operand} {g off n cap hi m : Nat} {k k2 : IntKind} (hw : Region.wanted o (yielded ops a.tmps) = true) (ho : o.op = .slice T x none (some y) (some z)) (hx : a.eval x = .slice (some ⟨g, off, none⟩) n cap) (hy : a.eval y = .int k (hi : Nat)) (hz : a.eval z = .int k2 (m : Nat))
    (hT : P.underlying T = some (.slice e)) (hs : (P.info? e).map (·.size) = some 1) (hl : hi ≤ m) (hc : m ≤ cap) (h : wpV P ops w0 L rest (a.put o.dst (.slice (some ⟨g, off, none⟩) hi m))) : wpV P ops w0 L (o :: rest) a :=
  wpV_val (by simp [isAlloc, ho]) hw (fun W _ => by
    unfold RunsVal
    have he : P.elem T = e := by simp [Program.elem, hT]
    have : (Instr.sliceAt T (.slice (some ⟨g, off, none⟩) n cap) none (some (.int k (hi : Nat))) (some (.int k2 (m : Nat)))).run P W = .ok (.slice (some ⟨g, off, none⟩) hi m) W := by
      rw [run_sliceAt_slice _ _ _ _ _ _ (by rw [he]; exact hT), run_slice_hm _ _ _ _ _ (by rw [he]; exact hT) _ _ _ _ (by omega) (by omega) (by omega), he, run_sizeOf hs]
      simp [Result.andThen, sliced, Addr.add]
    simp only [execOp, ho, hx, hy, hz, Option.map_none, Option.map_some, Sem.run_bind, this, Result.andThen_ok, Sem.run_pure]) h
theorem wpV_sliceHMnil {T e : TypeId} {x y z : Operand} {k k2 : IntKind} (hw : Region.wanted o (yielded ops a.tmps) = true) (ho : o.op = .slice T x none (some y) (some z)) (hx : a.eval x = .slice none 0 0) (hy : a.eval y = .int k 0) (hz : a.eval z = .int k2 0)
    (hT : P.underlying T = some (.slice e)) (hs : (P.info? e).map (·.size) = some 1) (h : wpV P ops w0 L rest (a.put o.dst (.slice none 0 0))) : wpV P ops w0 L (o :: rest) a :=
  wpV_val (by simp [isAlloc, ho]) hw (fun W _ => by
    unfold RunsVal
    have he : P.elem T = e := by simp [Program.elem, hT]
    have : (Instr.sliceAt T (.slice none 0 0) none (some (.int k 0)) (some (.int k2 0))).run P W = .ok (.slice none 0 0) W := by
      rw [run_sliceAt_slice _ _ _ _ _ _ (by rw [he]; exact hT), run_slice_hm _ _ _ _ _ (by rw [he]; exact hT) _ _ _ _ (by omega) (by omega) (by omega), he, run_sizeOf hs]
      simp [Result.andThen, sliced]
    simp only [execOp, ho, hx, hy, hz, Option.map_none, Option.map_some, Sem.run_bind, this, Result.andThen_ok, Sem.run_pure]) h
end vals
section tails
variable {P : Program} {ops : Array Oper} {Q : Exit → Act → World → Prop} {o : Oper} {rest : List Oper} {a : Act} {W : World}
/-- Appending to nothing. -/
theorem wpL_append0 {T e : TypeId} {s x : Operand} {h ho2 : Nat} {c : Nat} {news : List Value} {bytes m : Nat} {z : Value} (hg : o.guard = none) (ho : o.op = .call { callee := .builtin .append, args := #[s, x], argTypes := #[T, T] })
    (hs : a.eval s = .slice none 0 0) (hx : a.eval x = .slice (some ⟨h, ho2, none⟩) m c) (hT : P.underlying T = some (.slice e)) (hinfo : (P.info? e).map (fun i => (i.zero, i.size, i.bytes)) = some (some z, 1, bytes)) (hzc : z.cells = #[z])
    (hm : news.length = m) (h0 : 0 < m) (hr2 : W.rangeAt h ho2 news) (hb : m * bytes ≤ 140737488355328) (h63 : m ≤ maxLen)
    (hk : ∀ g' cap' W', Sees W W' → W.heap.size ≤ g' → m ≤ cap' → W'.rangeAt g' 0 news → W'.there g' 0 cap' → g' < W'.heap.size → wpList P ops Q rest (a.put o.dst (.slice (some ⟨g', 0, none⟩) m cap')) W') : wpList P ops Q (o :: rest) a W := by
  obtain ⟨i, hi, he⟩ := Option.map_eq_some_iff.1 hinfo
  simp only [Prod.mk.injEq] at he
  obtain ⟨hz, hsz, hby⟩ := he
  have hado : ∀ (q o j : Nat), (⟨q, o, none⟩ : Addr).add j = ⟨q, o + j, none⟩ := fun q o j => by cases j <;> simp [Addr.add]
  have hnews : ∀ j u, news[j]? = some u → W.cell? ((⟨h, ho2, none⟩ : Addr).add j) = some u := fun j u hu => by have := hr2 j u hu; rw [hado]; exact this
  have hmax : maxLen ≤ 9223372036854775807 := by decide
  refine wpList_plain hg fun K hK => ?_
  have hzs : z.cells.size = 1 := by rw [hzc]; rfl
  have hge : m ≤ grownCap W m 0 e := by have := grownCap_ge W m 0 e; simpa using this
  have hrun := run_append_nil (P := P) W T o.type e i z hT hi hz ⟨h, ho2, none⟩ m c news (by rw [hsz, Nat.mul_one, hm]) hnews h0 (by omega) (by rw [hby]; omega)
  unfold Oper.wp execOp
  simp only [ho, resolve, invoke, builtin, Sem.run_bind, Sem.run_pure, Result.andThen_ok, List.map_toArray, List.map_cons, List.map_nil, hs, hx, hrun]
  have hB : Blk (W.drew.alloc (.cells (news.toArray ++ Builtin.zeroCells z.cells (grownCap W m 0 e - m)) e)) W.heap.size e (news.toArray ++ Builtin.zeroCells z.cells (grownCap W m 0 e - m)) := Blk.new W.drew e _
  refine hK _ _ (hk W.heap.size (grownCap W m 0 e) _ (sees_of ⟨rfl, rfl, rfl, by simp, fun k hk => heap_alloc_old W.drew _ k hk⟩) (Nat.le_refl _) hge ?_ (blk_there hB ?_) hB.lt)
  · have := blk_range hB (l := news ++ (Builtin.zeroCells z.cells (grownCap W m 0 e - m)).toList) (by apply Array.ext'; simp)
    exact (range_append this).1
  · simp only [Array.size_append, List.size_toArray, size_zeroCells, hzs, hm]; omega
/-- Appending to a row that is full. -/
theorem wpL_appendF {T e : TypeId} {s x : Operand} {g o1 n cap h ho2 : Nat} {c : Nat} {olds news : List Value} {bytes m : Nat} {z : Value} (hg : o.guard = none) (ho : o.op = .call { callee := .builtin .append, args := #[s, x], argTypes := #[T, T] })
    (hs : a.eval s = .slice (some ⟨g, o1, none⟩) n cap) (hx : a.eval x = .slice (some ⟨h, ho2, none⟩) m c) (hT : P.underlying T = some (.slice e)) (hinfo : (P.info? e).map (fun i => (i.zero, i.size, i.bytes)) = some (some z, 1, bytes)) (hzc : z.cells = #[z])
    (hn : olds.length = n) (hm : news.length = m) (hfull : cap < n + m) (hr : W.rangeAt g o1 olds) (hr2 : W.rangeAt h ho2 news) (hb : (n + m) * bytes ≤ 140737488355328) (h63 : n + m ≤ maxLen)
    (hk : ∀ g' cap' W', Sees W W' → W.heap.size ≤ g' → n + m ≤ cap' → W'.rangeAt g' 0 (olds ++ news) → W'.there g' 0 cap' → g' < W'.heap.size → wpList P ops Q rest (a.put o.dst (.slice (some ⟨g', 0, none⟩) (n + m) cap')) W') : wpList P ops Q (o :: rest) a W := by
  obtain ⟨i, hi, he⟩ := Option.map_eq_some_iff.1 hinfo
  simp only [Prod.mk.injEq] at he
  obtain ⟨hz, hsz, hby⟩ := he
  have hado : ∀ (q o j : Nat), (⟨q, o, none⟩ : Addr).add j = ⟨q, o + j, none⟩ := fun q o j => by cases j <;> simp [Addr.add]
  have hnews : ∀ j u, news[j]? = some u → W.cell? ((⟨h, ho2, none⟩ : Addr).add j) = some u := fun j u hu => by have := hr2 j u hu; rw [hado]; exact this
  have holds : ∀ j u, olds[j]? = some u → W.cell? ((⟨g, o1, none⟩ : Addr).add j) = some u := fun j u hu => by have := hr j u hu; rw [hado]; exact this
  have hmax : maxLen ≤ 9223372036854775807 := by decide
  refine wpList_plain hg fun K hK => ?_
  have hzs : z.cells.size = 1 := by rw [hzc]; rfl
  have hge := grownCap_ge W (n + m) cap e
  have hrun := run_append_grow (P := P) W T o.type e i z hT hi hz ⟨g, o1, none⟩ n cap olds (by rw [hsz, Nat.mul_one, hn]) holds ⟨h, ho2, none⟩ m c news (by rw [hsz, Nat.mul_one, hm]) hnews hfull (by omega) (growslice_fits hfull (by rw [hby]; exact hb))
  unfold Oper.wp execOp
  simp only [ho, resolve, invoke, builtin, Sem.run_bind, Sem.run_pure, Result.andThen_ok, List.map_toArray, List.map_cons, List.map_nil, hs, hx, hrun]
  have hB : Blk (W.drew.alloc (.cells (olds.toArray ++ news.toArray ++ Builtin.zeroCells z.cells (grownCap W (n + m) cap e - (n + m))) e)) W.heap.size e (olds.toArray ++ news.toArray ++ Builtin.zeroCells z.cells (grownCap W (n + m) cap e - (n + m))) := Blk.new W.drew e _
  refine hK _ _ (hk W.heap.size (grownCap W (n + m) cap e) _ (sees_of ⟨rfl, rfl, rfl, by simp, fun k hk => heap_alloc_old W.drew _ k hk⟩) (Nat.le_refl _) hge ?_ (blk_there hB ?_) hB.lt)
  · have := blk_range hB (l := (olds ++ news) ++ (Builtin.zeroCells z.cells (grownCap W (n + m) cap e - (n + m))).toList) (by apply Array.ext'; simp)
    exact (range_append this).1
  · simp only [Array.size_append, List.size_toArray, size_zeroCells, hzs, hn, hm]; omega
end tails
theorem Mem.addR {G : List Nat} {w0 w : World} {l : List Bk} {g N : Nat} {cs : List Value} (h : Mem G w0 w l) (hg : w0.heap.size ≤ g) (hf : ∀ b ∈ l, b.g ≠ g) (ht : w.there g 0 N) (hr : w.rangeAt g 0 cs) (hl : g < w.heap.size) : Mem G w0 w (⟨g, N, [(0, cs)]⟩ :: l) :=
  ⟨h.os, h.tape, h.output, h.size, h.old, fun b hb => by
    rcases List.mem_cons.1 hb with e | e
    · rw [e]
      exact ⟨ht, fun s hs' => by rw [List.mem_singleton.1 hs']; exact hr, hl, .inl hg⟩
    · exact h.ok b e, List.pairwise_cons.2 ⟨fun b hb => Ne.symm (hf b hb), h.far⟩⟩
theorem zrange {w : World} {g k : Nat} {cs : List Value} (h : w.rangeAt g (0 + k) cs) : w.rangeAt g k cs := by rwa [Nat.zero_add] at h
theorem bcells_byte {n : Nat} (h : n < 256) : bcells [UInt8.ofNat n] = [.int .u8 ((n : Nat) : Int)] := by
  have : (UInt8.ofNat n).toNat = n := by simp [UInt8.toNat_ofNat']; omega
  simp [bcells, this]
/-- Leaves' sums, each of the data and a number's lowest byte. -/
def leafK (d : List UInt8) (k : Nat) : List UInt8 := leafS (d ++ [UInt8.ofNat (k % 256)])
def lsK (d : List UInt8) (n : Nat) : List (List UInt8) := (List.range n).map (leafK d)
theorem lsK_len (d : List UInt8) (n : Nat) : (lsK d n).length = n := by simp [lsK]
theorem lsK_succ (d : List UInt8) (n : Nat) : lsK d n ++ [leafK d n] = lsK d (n + 1) := by simp [lsK, List.range_succ]
theorem lsK_32 (d : List UInt8) (n : Nat) : ∀ s ∈ lsK d n, s.length = 32 := fun s h => by
  simp only [lsK, List.mem_map] at h
  obtain ⟨_, _, rfl⟩ := h
  exact leafS_len _
theorem right_of {ps : List (List UInt8)} (h : ∀ s ∈ ps, s.length = 32) (hl : ps.length ≤ 4096) : rightB ps = true := by
  simp only [rightB, all32, Bool.and_eq_true, decide_eq_true_eq, List.all_eq_true, beq_iff_eq]
  exact ⟨hl, h⟩
theorem of_right {ps : List (List UInt8)} (h : rightB ps = true) : all32 ps = true := by
  simp only [rightB, Bool.and_eq_true] at h
  exact h.2
theorem getD_32 {L : List (List UInt8)} (h : ∀ s ∈ L, s.length = 32) {k : Nat} (hk : k < L.length) : (L.getD k []).length = 32 := by
  rw [List.getD_eq_getElem?_getD, List.getElem?_eq_getElem hk]
  exact h _ (List.getElem_mem hk)
theorem mod5 (x : Int) : ∃ p : Nat, 1 + ((x.tmod 5 + 5).tmod 5) = (p : Int) ∧ 1 ≤ p ∧ p ≤ 5 := by
  have h1 := Int.tmod_lt_of_pos x (show (0 : Int) < 5 by decide)
  have h2 : -5 < x.tmod 5 := by
    have := Int.lt_tmod_of_pos x (show (0 : Int) < 5 by decide)
    omega
  have h3 := Int.tmod_lt_of_pos (x.tmod 5 + 5) (show (0 : Int) < 5 by decide)
  have h4 : 0 ≤ (x.tmod 5 + 5).tmod 5 := Int.tmod_nonneg 5 (by omega)
  exact ⟨(1 + ((x.tmod 5 + 5).tmod 5)).toNat, by omega, by omega, by omega⟩
theorem tmod5 (x : Int) : -5 < x.tmod 5 ∧ x.tmod 5 < 5 := by
  have h1 := Int.tmod_lt_of_pos x (show (0 : Int) < 5 by decide)
  have := Int.lt_tmod_of_pos x (show (0 : Int) < 5 by decide)
  omega
/-- A row of 2 ^ p leaves, and of one more. -/
theorem root_halves {L : List (List UInt8)} {p : Nat} (hp : 1 ≤ p) (hl : 2 ^ p ≤ L.length) : rootS (L.take (2 ^ p)) = nodeS (rootS (L.take (2 ^ p / 2))) (rootS ((L.take (2 ^ p)).drop (2 ^ p / 2))) := by
  have e : 2 ^ p = 2 * 2 ^ (p - 1) := by rw [← Nat.pow_succ', show (p - 1).succ = p by omega]
  have hpos := Nat.two_pow_pos (p - 1)
  have hlen : (L.take (2 ^ p)).length = 2 ^ p := by rw [List.length_take]; omega
  have hs : splitN (2 ^ p) = 2 ^ p / 2 := by
    rw [splitN_of (j := p - 1) (by omega) (by omega)]
    omega
  rw [rootS_2 (by omega), hlen, hs, List.take_take, Nat.min_eq_left (by omega)]
theorem root_more {L : List (List UInt8)} {p : Nat} (hp : 1 ≤ p) (hl : L.length = 2 ^ p + 1) : rootS L = nodeS (rootS (L.take (2 ^ p))) (L.getD (2 ^ p) []) := by
  have hpos := Nat.two_pow_pos p
  have hs : splitN (2 ^ p + 1) = 2 ^ p := splitN_of (j := p) (by omega) (by omega)
  rw [rootS_2 (by omega), hl, hs]
  have h1 : (L.drop (2 ^ p)).length = 1 := by rw [List.length_drop]; omega
  rw [rootS_1 h1]
  congr 1
  simp [List.getD_eq_getElem?_getD, List.getElem?_drop]
end Go.Proofs.Num
