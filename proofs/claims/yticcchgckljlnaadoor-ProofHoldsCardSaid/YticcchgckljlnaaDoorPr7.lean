import Derived.WalkKit
import Derived.WalkSpells
import Derived.Laws.Pointers
import Derived.RowKit3
import Derived.Below
import Derived.Outline
import Derived.LoopN
import Derived.Lib.Hide
import Derived.Handy
import Derived.Laws.Bits64b
import Derived.Test.YticcchgckljlnaaDoorPr4
import Derived.Test.YticcchgckljlnaaDoorSteps10
import Derived.Test.YticcchgckljlnaaDoorTr7
import Derived.Test.YticcchgckljlnaaDoorJoinB
import Derived.Test.YticcchgckljlnaaDoorTr3
set_option linter.unusedSimpArgs false
set_option linter.unusedVariables false
namespace Go.Proofs.Yb
open Go Go.RowKit Go.Proofs.Num
attribute [local irreducible] wpV wpN wpList
theorem drop_get {ps : List (List UInt8)} {k : Nat} (hk : k < ps.length) : ps.drop k = ps.getD k [] :: ps.drop (k + 1) := by
  rw [List.drop_eq_getElem_cons hk, List.getD_eq_getElem?_getD, List.getElem?_eq_getElem hk]; rfl
theorem walk_stop {ps : List (List UInt8)} {k a l : Nat} {s : List UInt8} (hk : k < ps.length) (hl : l = 0) : walkF nodeF (ps.drop k) a l s = (false, s) := by
  rw [drop_get hk, walkF, if_pos hl]
theorem walk_no {ps : List (List UInt8)} {k a l : Nat} {s : List UInt8} {r : Bool × List UInt8} (hk : k < ps.length) (hl : ¬ l = 0) (h : ¬ (a % 2 = 1 ∨ a = l)) (hW : r = walkF nodeF (ps.drop k) a l s) : r = walkF nodeF (ps.drop (k + 1)) (a / 2 ^ 1) (l / 2 ^ 1) (nodeS s (ps.getD k [])) := by
  rw [hW, drop_get hk, walkF, if_neg hl, if_neg h]; rfl
theorem walk_yes {ps : List (List UInt8)} {k a l a2 l2 : Nat} {s : List UInt8} {r : Bool × List UInt8} (hk : k < ps.length) (hl : ¬ l = 0) (h : a % 2 = 1 ∨ a = l) (hz : skipZ a2 l2 = skipZ a l) (hzz : skipZ a2 l2 = (a2, l2)) (hW : r = walkF nodeF (ps.drop k) a l s) : r = walkF nodeF (ps.drop (k + 1)) (a2 / 2 ^ 1) (l2 / 2 ^ 1) (nodeS (ps.getD k []) s) := by
  rw [hW, drop_get hk, walkF, if_neg hl, if_pos h, ← hz, hzz]; rfl
set_option maxHeartbeats 1000000 in
theorem holds1_t {g : Nat} {x s0 : List UInt8} {w : World} (hx : x.length = 32) (hs : s0.length = 32) (hg0 : g ≠ 0) (L0 : 0 < w.heap.size) (R0_0 : w.rangeAt 0 0 kcells) (hM : Mem [g] w w [⟨g, 1, [(0, [.string (bs s0)])]⟩]) :
    Calls Tryd.prog 84 #[.bool true, .string (bs x), .pointer (some ⟨g, 0, none⟩)] w fun e w' => ∃ v, e = .returned v ∧ v = .tuple #[] ∧ Mem [g] w w' [⟨g, 1, [(0, [.string (bs (nodeS x s0))])]⟩] := by
  go_enter Tryd.func84, Tryd.ntmps84
  have M := hM
  refine wp_seq_k (fun K1 hK1 => ?_)
  refine wp_region_seq ?_
  refine wpL_move (v := .bool true) (by rfl) (by rfl) (by rfl) ?_
  simp only [putT, List.set]
  refine wpL_nil (no_panic ?_)
  refine hK1 _ _ ?_
  refine wp_cond_true rfl ?_
  refine wp_region_seq ?_
  refine wpL_move (v := .string (bs x)) (by rfl) (by rfl) (by rfl) ?_
  simp only [putT, List.set]
  refine wpL_chunk 2 (by rfl) (fun Lk hLk => ?_)
  simp only [List.take, List.drop]
  refine wpV_load1 (v := .string (bs s0)) (by rfl) rfl rfl (range_one (M.r 0 0 rfl rfl)) (M.lt 0 rfl) Tryd.underlying9 rfl ?_
  simp only [putT, List.set]
  refine wpV_callf (v := .string (bs (nodeS x s0))) (args := #[.string (bs x), .string (bs s0)]) (by rfl) rfl Tryd.func40 (by kernel_rfl) (by kernel_rfl) rfl (fun W hW => node_c (a := x) (b := s0) (by omega) (by omega) ((M.sees hW).oldL L0) ((M.sees hW).oldG R0_0 L0 (by simpa using Ne.symm hg0))) ?_
  simp only [putT, List.set]
  refine wpV_nil (hLk _ (fun w4 Sw4 => ?_))
  clear hLk Lk
  simp only [List.take, List.drop]
  replace M := M.sees Sw4
  refine wpL_store1 (g := g) (off := 0) (n := 1) (v := .string (bs (nodeS x s0))) (by rfl) (by rfl) (by rfl) (by rfl) (by rfl) (M.t 0 rfl) (by decide) info9 rfl (fun w5 P R T => ?_)
  replace M := M.putS (new := [.string (bs (nodeS x s0))]) 0 0 rfl P R T rfl ⟨.inl rfl, trivial⟩
  simp only [List.set] at M
  refine wpL_nil (no_panic ?_)
  repeat (first | with_reducible refine then_exit ?_ | with_reducible refine inblock_exit ?_)
  refine bodyPost_end (v := .tuple #[]) (results_none rfl _ _ _) rfl ?_
  exact ⟨_, rfl, rfl, M⟩
set_option maxHeartbeats 1000000 in
theorem holds1_f {g : Nat} {x s0 : List UInt8} {w : World} (hx : x.length = 32) (hs : s0.length = 32) (hg0 : g ≠ 0) (L0 : 0 < w.heap.size) (R0_0 : w.rangeAt 0 0 kcells) (hM : Mem [g] w w [⟨g, 1, [(0, [.string (bs s0)])]⟩]) :
    Calls Tryd.prog 84 #[.bool false, .string (bs x), .pointer (some ⟨g, 0, none⟩)] w fun e w' => ∃ v, e = .returned v ∧ v = .tuple #[] ∧ Mem [g] w w' [⟨g, 1, [(0, [.string (bs (nodeS s0 x))])]⟩] := by
  go_enter Tryd.func84, Tryd.ntmps84
  have M := hM
  refine wp_seq_k (fun K1 hK1 => ?_)
  refine wp_region_seq ?_
  refine wpL_move (v := .bool false) (by rfl) (by rfl) (by rfl) ?_
  simp only [putT, List.set]
  refine wpL_nil (no_panic ?_)
  refine hK1 _ _ ?_
  refine wp_cond_false rfl ?_
  refine wp_region_seq ?_
  refine wpL_chunk 3 (by rfl) (fun Lk hLk => ?_)
  simp only [List.take, List.drop]
  refine wpV_load1 (v := .string (bs s0)) (by rfl) rfl rfl (range_one (M.r 0 0 rfl rfl)) (M.lt 0 rfl) Tryd.underlying9 rfl ?_
  simp only [putT, List.set]
  refine wpV_move (v := .string (bs x)) (by rfl) rfl rfl ?_
  simp only [putT, List.set]
  refine wpV_callf (v := .string (bs (nodeS s0 x))) (args := #[.string (bs s0), .string (bs x)]) (by rfl) rfl Tryd.func40 (by kernel_rfl) (by kernel_rfl) rfl (fun W hW => node_c (a := s0) (b := x) (by omega) (by omega) ((M.sees hW).oldL L0) ((M.sees hW).oldG R0_0 L0 (by simpa using Ne.symm hg0))) ?_
  simp only [putT, List.set]
  refine wpV_nil (hLk _ (fun w4 Sw4 => ?_))
  clear hLk Lk
  simp only [List.take, List.drop]
  replace M := M.sees Sw4
  refine wpL_store1 (g := g) (off := 0) (n := 1) (v := .string (bs (nodeS s0 x))) (by rfl) (by rfl) (by rfl) (by rfl) (by rfl) (M.t 0 rfl) (by decide) info9 rfl (fun w5 P R T => ?_)
  replace M := M.putS (new := [.string (bs (nodeS s0 x))]) 0 0 rfl P R T rfl ⟨.inl rfl, trivial⟩
  simp only [List.set] at M
  refine wpL_nil (no_panic ?_)
  repeat (first | with_reducible refine then_exit ?_ | with_reducible refine inblock_exit ?_)
  refine bodyPost_end (v := .tuple #[]) (results_none rfl _ _ _) rfl ?_
  exact ⟨_, rfl, rfl, M⟩
set_option maxHeartbeats 4000000 in
theorem walkH_c {ps : List (List UInt8)} {ap : Option Addr} {np cp : Nat} {g a0 l0 : Nat} {s0 : List UInt8} {w : World} (hps : ps.length ≤ 4611686018427387904) (ha0 : a0 ≤ 4611686018427387904) (hl0b : l0 ≤ 4611686018427387904) (h32k : ∀ {k : Nat}, k < ps.length → (ps.getD k []).length = 32) (hs0 : s0.length = 32) (hg0 : g ≠ 0) (L0 : 0 < w.heap.size) (R0_0 : w.rangeAt 0 0 kcells) (Hp : RowN [g] w ap np cp (scells ps)) (hM : Mem [g] w w [⟨g, 1, [(0, [.string (bs s0)])]⟩]) :
    Calls Tryd.prog 83 #[.int .i64 ((a0 : Nat) : Int), .int .i64 ((l0 : Nat) : Int), .slice ap np cp, .func (.func 84) #[] #[.pointer (some ⟨g, 0, none⟩)]] w fun e w' => ∃ v, e = .returned v ∧ v = .bool (walkF nodeF ps a0 l0 s0).1 ∧ Mem [g] w w' [⟨g, 1, [(0, [.string (bs (walkF nodeF ps a0 l0 s0).2)])]⟩] := by
  obtain rfl : np = ps.length := by have := Hp.row.len; rwa [scells_len] at this
  go_enter Tryd.func83, Tryd.ntmps83
  have M := hM
  refine wp_seq_k (fun K1 hK1 => ?_)
  refine wp_region_seq ?_
  refine wpL_assign (v := .bool false) (by rfl) (by rfl) (by rfl) ?_
  simp only [putT, List.set]
  refine wpL_nil (no_panic ?_)
  refine hK1 _ _ ?_
  refine wp_scope_straight ?_
  refine wp_seq_k (fun K3 hK3 => ?_)
  refine wp_region_seq ?_
  refine wpL_assign (v := .bool true) (by rfl) (by rfl) (by rfl) ?_
  simp only [putT, List.set]
  refine wpL_nil (no_panic ?_)
  refine hK3 _ _ ?_
  refine wp_seq_k (fun K5 hK5 => ?_)
  refine wp_label ?_
  refine hK5 _ _ ?_
  refine wp_seq_k (fun K6 hK6 => ?_)
  refine wp_seq_k (fun K7 hK7 => ?_)
  refine wp_region_seq ?_
  refine wpL_move (v := .slice ap ps.length cp) (by rfl) (by rfl) (by rfl) ?_
  simp only [putT, List.set]
  refine wpL_chunk 1 (by rfl) (fun Lk hLk => ?_)
  simp only [List.take, List.drop]
  refine wpV_lenA (n := ps.length) (by rfl) rfl rfl rfl Tryd.underlying48 ?_
  simp only [putT, List.set]
  refine wpV_nil (hLk _ (fun w9 Sw9 => ?_))
  clear hLk Lk
  simp only [List.take, List.drop]
  replace M := M.sees Sw9
  refine wpL_move (v := .int .i64 0) (by rfl) (by rfl) (by rfl) ?_
  simp only [putT, List.set]
  refine wpL_nil (no_panic ?_)
  refine hK7 _ _ ?_
  refine wp_block ?_
  refine wp_loop_ghost (fun n9 a9 W9 => ∃ (k : Nat) (a : Nat) (l : Nat) (s1 : List UInt8) (u10 : Nat → Value), n9 = 2 * (ps.length - k) ∧ a9 = { tmps := #[.int .i64 ((a : Nat) : Int), .int .i64 ((l : Nat) : Int), .slice ap ps.length cp, .func (.func 84) #[] #[.pointer (some ⟨g, 0, none⟩)], undef, undef, undef, undef, .bool false, .bool true, undef, u10 11, .slice ap ps.length cp, .int .i64 ((ps.length : Nat) : Int), .int .i64 ((k : Nat) : Int), u10 15, u10 16, u10 17, u10 18, u10 19, u10 20, u10 21, u10 22, u10 23, u10 24, u10 25, u10 26, u10 27, u10 28, u10 29, u10 30, u10 31, u10 32, u10 33, u10 34, u10 35, u10 36, u10 37, u10 38, u10 39, u10 40, u10 41, u10 42, u10 43, u10 44, u10 45, u10 46, u10 47, u10 48, u10 49, u10 50, u10 51, undef, undef, undef, undef, undef], defers := [] } ∧ Mem [g] w W9 [⟨g, 1, [(0, [.string (bs s1)])]⟩] ∧ (k ≤ ps.length) ∧ (a ≤ 4611686018427387904) ∧ (l ≤ 4611686018427387904) ∧ (s1.length = 32) ∧ (walkF nodeF ps a0 l0 s0 = walkF nodeF (ps.drop k) a l s1)) (2 * (ps.length - (0))) ?_ (fun n9 a9 W9 hI => ?_)
  · exact ⟨0, a0, l0, s0, (fun q9 => (#[undef, undef, undef, undef, undef, undef, undef, undef, undef, undef, undef, undef, undef, undef, undef, undef, undef, undef, undef, undef, undef, undef, undef, undef, undef, undef, undef, undef, undef, undef, undef, undef, undef, undef, undef, undef, undef, undef, undef, undef, undef, undef, undef, undef, undef, undef, undef, undef, undef, undef, undef, undef] : Array Value).getD q9 undef), rfl, rfl, M, (Nat.zero_le _), ha0, hl0b, hs0, rfl⟩
  clear M
  obtain ⟨k, a, l, s1, u10, rfl, rfl, M, hk4, ha, hlb, hs1, hW⟩ := hI
  obtain ⟨w11, rfl⟩ : ∃ W8, W8 = W9 := ⟨_, rfl⟩
  refine wp_seq_k (fun K12 hK12 => ?_)
  refine wp_region_seq ?_
  refine wpL_chunk 1 (by rfl) (fun Lk hLk => ?_)
  simp only [List.take, List.drop]
  refine wpV_bin (v := .bool (decide (k < ps.length))) (by rfl) rfl rfl rfl (fun W => run_lssN k ps.length _ _ W) ?_
  simp only [putT, List.set]
  refine wpV_nil (hLk _ (fun w14 Sw14 => ?_))
  clear hLk Lk
  simp only [List.take, List.drop]
  replace M := M.sees Sw14
  refine wpL_nil (no_panic ?_)
  refine hK12 _ _ ?_
  refine wp_seq_k (fun K15 hK15 => ?_)
  cases hc16 : (decide (k < ps.length))
  · skip
    have hk : ¬ k < ps.length := of_decide_eq_false hc16
    refine wp_cond_false rfl ?_
    refine wp_exit ?_
    refine hK6 _ _ ?_
    refine wp_seq_k (fun K17 hK17 => ?_)
    refine wp_region_seq ?_
    refine wpL_move (v := .bool true) (by rfl) (by rfl) (by rfl) ?_
    simp only [putT, List.set]
    refine wpL_move (v := .bool true) (by rfl) (by rfl) (by rfl) ?_
    simp only [putT, List.set]
    refine wpL_chunk 3 (by rfl) (fun Lk hLk => ?_)
    simp only [List.take, List.drop]
    refine wpV_move (v := .int .i64 ((l : Nat) : Int)) (by rfl) rfl rfl ?_
    simp only [putT, List.set]
    refine wpV_bin (v := .bool (decide (l = 0))) (by rfl) rfl rfl rfl (fun W => run_eqlN l 0 _ _ W) ?_
    simp only [putT, List.set]
    refine wpV_pick (v := .bool (decide (l = 0))) (by rfl) rfl rfl rfl ?_
    simp only [putT, List.set]
    refine wpV_nil (hLk _ (fun w19 Sw19 => ?_))
    clear hLk Lk
    simp only [List.take, List.drop]
    replace M := M.sees Sw19
    refine wpL_assign (v := .bool (decide (l = 0))) (by rfl) (by rfl) (by rfl) ?_
    simp only [putT, List.set]
    refine wpL_nil (no_panic ?_)
    refine hK17 _ _ ?_
    refine wp_ret ?_
    repeat (first | with_reducible refine then_ret ?_ | with_reducible refine inblock_ret ?_ | with_reducible refine nogoto_ret ?_)
    refine bodyPost_ret (v := .bool (decide (l = 0))) (res1 rfl (.tmp (by rfl))) rfl ?_
    exact ⟨_, rfl, by rw [hW, List.drop_of_length_le (by omega)]; rfl, by rw [hW, List.drop_of_length_le (by omega)]; exact M⟩
  · skip
    have hk : k < ps.length := of_decide_eq_true hc16
    refine wp_cond_true rfl ?_
    refine wp_skip ?_
    refine hK15 _ _ ?_
    refine wp_seq_k (fun K20 hK20 => ?_)
    refine wp_block ?_
    refine wp_seq_k (fun K21 hK21 => ?_)
    refine wp_region_seq ?_
    refine wpL_chunk 2 (by rfl) (fun Lk hLk => ?_)
    simp only [List.take, List.drop]
    refine wpV_idxA (i := k) (by rfl) rfl rfl rfl Tryd.underlying48 info9 (Hp.mem M).row (by omega) ?_
    simp only [putT, List.set]
    refine wpV_loadA (i := k) (v := .string (bs (ps.getD k []))) (by rfl) rfl rfl (Hp.mem M).row (scells_get (ps := ps) (by omega)) Tryd.underlying9 rfl ?_
    simp only [putT, List.set]
    refine wpV_nil (hLk _ (fun w23 Sw23 => ?_))
    clear hLk Lk
    simp only [List.take, List.drop]
    replace M := M.sees Sw23
    refine wpL_assign (v := .string (bs (ps.getD k []))) (by rfl) (by rfl) (by rfl) ?_
    simp only [putT, List.set]
    refine wpL_nil (no_panic ?_)
    refine hK21 _ _ ?_
    refine wp_seq_k (fun K24 hK24 => ?_)
    refine wp_block ?_
    refine wp_seq_k (fun K25 hK25 => ?_)
    refine wp_region_seq ?_
    refine wpL_move (v := .int .i64 ((l : Nat) : Int)) (by rfl) (by rfl) (by rfl) ?_
    simp only [putT, List.set]
    refine wpL_chunk 1 (by rfl) (fun Lk hLk => ?_)
    simp only [List.take, List.drop]
    refine wpV_bin (v := .bool (decide (l = 0))) (by rfl) rfl rfl rfl (fun W => run_eqlN l 0 _ _ W) ?_
    simp only [putT, List.set]
    refine wpV_nil (hLk _ (fun w27 Sw27 => ?_))
    clear hLk Lk
    simp only [List.take, List.drop]
    replace M := M.sees Sw27
    refine wpL_assign (v := .bool (decide (l = 0))) (by rfl) (by rfl) (by rfl) ?_
    simp only [putT, List.set]
    refine wpL_nil (no_panic ?_)
    refine hK25 _ _ ?_
    cases hc28 : (decide (l = 0))
    · skip
      have hl0 : ¬ l = 0 := of_decide_eq_false hc28
      refine wp_cond_false rfl ?_
      refine wp_seq_k (fun K29 hK29 => ?_)
      cases hg30 : (decide (a % 2 = 1))
      · skip
        have ho : ¬ a % 2 = 1 := of_decide_eq_false hg30
        refine wp_region_seq ?_
        refine wpL_move (v := .int .i64 ((a : Nat) : Int)) (by rfl) (by rfl) (by rfl) ?_
        simp only [putT, List.set]
        refine wpL_chunk 7 (by rfl) (fun Lk hLk => ?_)
        simp only [List.take, List.drop]
        refine wpV_bin (v := .int .i64 ((a % 2 : Nat) : Int)) (by rfl) rfl rfl rfl (fun W => run_and ((and_i64 (m := a) (n := 1) (by omega) (by decide)).trans (by rw [and_oneN])) W) ?_
        simp only [putT, List.set]
        refine wpV_bin (v := .bool false) (by rfl) rfl rfl rfl (fun W => (run_eqlN (a % 2) 1 _ _ W).trans (by rw [hg30])) ?_
        simp only [putT, List.set]
        refine wpV_move (v := .bool false) (by rfl) rfl rfl ?_
        simp only [putT, List.set]
        refine wpV_move (v := .int .i64 ((a : Nat) : Int)) (by rfl) rfl rfl ?_
        simp only [putT, List.set]
        refine wpV_move (v := .int .i64 ((l : Nat) : Int)) (by rfl) rfl rfl ?_
        simp only [putT, List.set]
        refine wpV_bin (v := .bool (decide (a = l))) (by rfl) rfl rfl rfl (fun W => run_eqlN a l _ _ W) ?_
        simp only [putT, List.set]
        refine wpV_pick (v := .bool (decide (a = l))) (by rfl) rfl rfl rfl ?_
        simp only [putT, List.set]
        refine wpV_nil (hLk _ (fun w32 Sw32 => ?_))
        clear hLk Lk
        simp only [List.take, List.drop]
        replace M := M.sees Sw32
        refine wpL_assign (v := .bool (decide (a = l))) (by rfl) (by rfl) (by rfl) ?_
        simp only [putT, List.set]
        refine wpL_nil (no_panic ?_)
        refine hK29 _ _ ?_
        cases hc33 : (decide (a = l))
        · skip
          have hal : ¬ a = l := of_decide_eq_false hc33
          have hno : ¬ (a % 2 = 1 ∨ a = l) := fun q9 => q9.elim ho hal
          refine wp_cond_false rfl ?_
          refine wp_region_seq ?_
          refine wpL_move (v := .func (.func 84) #[] #[.pointer (some ⟨g, 0, none⟩)]) (by rfl) (by rfl) (by rfl) ?_
          simp only [putT, List.set]
          refine wpL_move (v := .string (bs (ps.getD k []))) (by rfl) (by rfl) (by rfl) ?_
          simp only [putT, List.set]
          refine wpL_callMc (f := 84) (args := #[.bool false, .string (bs (ps.getD k []))]) (caps := #[.pointer (some ⟨g, 0, none⟩)]) (all := #[.bool false, .string (bs (ps.getD k [])), .pointer (some ⟨g, 0, none⟩)]) (R := fun v9 W9 => v9 = .tuple #[] ∧ Mem [g] w32 W9 [⟨g, 1, [(0, [.string (bs (nodeS s1 (ps.getD k [])))])]⟩]) (by simp) (by rfl) (by rfl) (by rfl) rfl Tryd.func84 (by kernel_rfl) (by kernel_rfl) (holds1_f (x := ps.getD k []) (s0 := s1) (h32k hk) hs1 hg0 (M.oldL L0) (M.oldG R0_0 L0 (by simpa using Ne.symm hg0)) (M.one 0 rfl)) (fun v9 w35 h9 => ?_)
          obtain ⟨rfl, M9⟩ := h9
          replace M := M.callM1 0 rfl M9
          simp only [List.set] at M
          simp only [putT, List.set]
          refine wpL_nil (no_panic ?_)
          refine hK24 _ _ ?_
          refine wp_region_seq ?_
          refine wpL_move (v := .int .i64 ((a : Nat) : Int)) (by rfl) (by rfl) (by rfl) ?_
          simp only [putT, List.set]
          refine wpL_chunk 3 (by rfl) (fun Lk hLk => ?_)
          simp only [List.take, List.drop]
          refine wpV_bin (v := .int .i64 ((a / 2 ^ 1 : Nat) : Int)) (by rfl) rfl rfl rfl (fun W => run_shr (n := 1) (by decide) rfl W) ?_
          simp only [putT, List.set]
          refine wpV_move (v := .int .i64 ((l : Nat) : Int)) (by rfl) rfl rfl ?_
          simp only [putT, List.set]
          refine wpV_bin (v := .int .i64 ((l / 2 ^ 1 : Nat) : Int)) (by rfl) rfl rfl rfl (fun W => run_shr (n := 1) (by decide) rfl W) ?_
          simp only [putT, List.set]
          refine wpV_nil (hLk _ (fun w37 Sw37 => ?_))
          clear hLk Lk
          simp only [List.take, List.drop]
          replace M := M.sees Sw37
          refine wpL_assign (v := .int .i64 ((a / 2 ^ 1 : Nat) : Int)) (by rfl) (by rfl) (by rfl) ?_
          simp only [putT, List.set]
          refine wpL_assign (v := .int .i64 ((l / 2 ^ 1 : Nat) : Int)) (by rfl) (by rfl) (by rfl) ?_
          simp only [putT, List.set]
          refine wpL_nil (no_panic ?_)
          refine hK20 _ _ ?_
          refine wp_region_seq ?_
          refine wpL_chunk 1 (by rfl) (fun Lk hLk => ?_)
          simp only [List.take, List.drop]
          refine wpV_bin (v := .int .i64 ((k + 1 : Nat) : Int)) (by rfl) rfl rfl rfl (fun W => run_add (by simp only [IntKind.wrap_i64]; omega) W) ?_
          simp only [putT, List.set]
          refine wpV_nil (hLk _ (fun w39 Sw39 => ?_))
          clear hLk Lk
          simp only [List.take, List.drop]
          replace M := M.sees Sw39
          refine wpL_move (v := .int .i64 ((k + 1 : Nat) : Int)) (by rfl) (by rfl) (by rfl) ?_
          simp only [putT, List.set]
          refine wpL_nil (no_panic ?_)
          refine Exists.intro _ ⟨?_, (k + 1), (a / 2 ^ 1), (l / 2 ^ 1), (nodeS s1 (ps.getD k [])), (fun q9 => (#[undef, undef, undef, undef, undef, undef, undef, undef, undef, undef, undef, .string (bs (ps.getD k [])), undef, undef, undef, .bool true, .pointer (ap.map (·.add k)), .string (bs (ps.getD k [])), .func (.func 84) #[] #[.pointer (some ⟨g, 0, none⟩)], .string (bs (ps.getD k [])), .tuple #[], .bool false, .int .i64 ((l : Nat) : Int), .bool false, .bool false, .int .i64 ((a : Nat) : Int), .int .i64 ((a % 2 : Nat) : Int), .bool false, .bool false, .int .i64 ((a : Nat) : Int), .int .i64 ((l : Nat) : Int), .bool false, .bool false, u10 33, u10 34, u10 35, u10 36, u10 37, u10 38, u10 39, u10 40, u10 41, u10 42, u10 43, u10 44, u10 45, u10 46, .int .i64 ((a : Nat) : Int), .int .i64 ((a / 2 ^ 1 : Nat) : Int), .int .i64 ((l : Nat) : Int), .int .i64 ((l / 2 ^ 1 : Nat) : Int), .int .i64 ((k + 1 : Nat) : Int)] : Array Value).getD q9 undef), rfl, rfl, M, (by omega), (by omega), (by omega), (nodeS_len _ _), (walk_no hk hl0 hno hW)⟩
          omega
        · skip
          have hal : a = l := of_decide_eq_true hc33
          have hys : a % 2 = 1 ∨ a = l := .inr hal
          refine wp_cond_true rfl ?_
          refine wp_seq_k (fun K40 hK40 => ?_)
          refine wp_region_seq ?_
          refine wpL_move (v := .func (.func 84) #[] #[.pointer (some ⟨g, 0, none⟩)]) (by rfl) (by rfl) (by rfl) ?_
          simp only [putT, List.set]
          refine wpL_move (v := .string (bs (ps.getD k []))) (by rfl) (by rfl) (by rfl) ?_
          simp only [putT, List.set]
          refine wpL_callMc (f := 84) (args := #[.bool true, .string (bs (ps.getD k []))]) (caps := #[.pointer (some ⟨g, 0, none⟩)]) (all := #[.bool true, .string (bs (ps.getD k [])), .pointer (some ⟨g, 0, none⟩)]) (R := fun v9 W9 => v9 = .tuple #[] ∧ Mem [g] w32 W9 [⟨g, 1, [(0, [.string (bs (nodeS (ps.getD k []) s1))])]⟩]) (by simp) (by rfl) (by rfl) (by rfl) rfl Tryd.func84 (by kernel_rfl) (by kernel_rfl) (holds1_t (x := ps.getD k []) (s0 := s1) (h32k hk) hs1 hg0 (M.oldL L0) (M.oldG R0_0 L0 (by simpa using Ne.symm hg0)) (M.one 0 rfl)) (fun v9 w42 h9 => ?_)
          obtain ⟨rfl, M9⟩ := h9
          replace M := M.callM1 0 rfl M9
          simp only [List.set] at M
          simp only [putT, List.set]
          refine wpL_nil (no_panic ?_)
          refine hK40 _ _ ?_
          refine wp_block ?_
          refine wp_loop_ghost (fun n9 a9 W9 => ∃ (a2 : Nat) (l2 : Nat) (u43 : Nat → Value), n9 = 2 * a2 ∧ a9 = { tmps := #[.int .i64 ((a2 : Nat) : Int), .int .i64 ((l2 : Nat) : Int), .slice ap ps.length cp, .func (.func 84) #[] #[.pointer (some ⟨g, 0, none⟩)], undef, undef, undef, undef, .bool false, .bool true, undef, .string (bs (ps.getD k [])), .slice ap ps.length cp, .int .i64 ((ps.length : Nat) : Int), .int .i64 ((k : Nat) : Int), .bool true, .pointer (ap.map (·.add k)), .string (bs (ps.getD k [])), u10 18, u10 19, u10 20, .bool false, .int .i64 ((l : Nat) : Int), .bool false, .bool true, .int .i64 ((a : Nat) : Int), .int .i64 ((a % 2 : Nat) : Int), .bool false, .bool false, .int .i64 ((a : Nat) : Int), .int .i64 ((l : Nat) : Int), .bool true, .bool true, .func (.func 84) #[] #[.pointer (some ⟨g, 0, none⟩)], .string (bs (ps.getD k [])), .tuple #[], u43 36, u43 37, u43 38, u43 39, u43 40, u43 41, u43 42, u43 43, u43 44, u43 45, u43 46, u10 47, u10 48, u10 49, u10 50, u10 51, undef, undef, undef, undef, undef], defers := [] } ∧ Mem [g] w W9 [⟨g, 1, [(0, [.string (bs (nodeS (ps.getD k []) s1))])]⟩] ∧ (a2 ≤ a) ∧ (l2 ≤ l) ∧ (skipZ a2 l2 = skipZ a l)) (2 * (a)) ?_ (fun n9 a9 W9 hI => ?_)
          · exact ⟨a, l, (fun q9 => (#[undef, undef, undef, undef, undef, undef, undef, undef, undef, undef, undef, undef, undef, undef, undef, undef, undef, undef, undef, undef, undef, undef, undef, undef, undef, undef, undef, undef, undef, undef, undef, undef, undef, undef, undef, undef, u10 36, u10 37, u10 38, u10 39, u10 40, u10 41, u10 42, u10 43, u10 44, u10 45, u10 46] : Array Value).getD q9 undef), rfl, rfl, M, (Nat.le_refl _), (Nat.le_refl _), rfl⟩
          clear M
          obtain ⟨a2, l2, u43, rfl, rfl, M, ha2, hl2, hz⟩ := hI
          obtain ⟨w44, rfl⟩ : ∃ W8, W8 = W9 := ⟨_, rfl⟩
          refine wp_seq_k (fun K45 hK45 => ?_)
          refine wp_seq_k (fun K46 hK46 => ?_)
          cases hg47 : (decide (a2 ≠ 0))
          · skip
            have hnz : ¬ a2 ≠ 0 := of_decide_eq_false hg47
            have hzz : skipZ a2 l2 = (a2, l2) := by rw [skipZ, dif_neg (fun q9 => hnz q9.1)]
            refine wp_region_seq ?_
            refine wpL_move (v := .int .i64 ((a2 : Nat) : Int)) (by rfl) (by rfl) (by rfl) ?_
            simp only [putT, List.set]
            refine wpL_chunk 6 (by rfl) (fun Lk hLk => ?_)
            simp only [List.take, List.drop]
            refine wpV_bin (v := .bool false) (by rfl) rfl rfl rfl (fun W => (run_neqN a2 0 _ _ W).trans (by rw [hg47])) ?_
            simp only [putT, List.set]
            refine wpV_move (v := .bool false) (by rfl) rfl rfl ?_
            simp only [putT, List.set]
            refine wpV_skip (by rfl) (by rfl) ?_
            simp only [putT, List.set]
            refine wpV_skip (by rfl) (by rfl) ?_
            simp only [putT, List.set]
            refine wpV_skip (by rfl) (by rfl) ?_
            simp only [putT, List.set]
            refine wpV_pick (v := .bool false) (by rfl) rfl rfl rfl ?_
            simp only [putT, List.set]
            refine wpV_nil (hLk _ (fun w49 Sw49 => ?_))
            clear hLk Lk
            simp only [List.take, List.drop]
            replace M := M.sees Sw49
            refine wpL_nil (no_panic ?_)
            refine hK46 _ _ ?_
            refine wp_cond_false rfl ?_
            refine wp_exit ?_
            refine hK24 _ _ ?_
            refine wp_region_seq ?_
            refine wpL_move (v := .int .i64 ((a2 : Nat) : Int)) (by rfl) (by rfl) (by rfl) ?_
            simp only [putT, List.set]
            refine wpL_chunk 3 (by rfl) (fun Lk hLk => ?_)
            simp only [List.take, List.drop]
            refine wpV_bin (v := .int .i64 ((a2 / 2 ^ 1 : Nat) : Int)) (by rfl) rfl rfl rfl (fun W => run_shr (n := 1) (by decide) rfl W) ?_
            simp only [putT, List.set]
            refine wpV_move (v := .int .i64 ((l2 : Nat) : Int)) (by rfl) rfl rfl ?_
            simp only [putT, List.set]
            refine wpV_bin (v := .int .i64 ((l2 / 2 ^ 1 : Nat) : Int)) (by rfl) rfl rfl rfl (fun W => run_shr (n := 1) (by decide) rfl W) ?_
            simp only [putT, List.set]
            refine wpV_nil (hLk _ (fun w51 Sw51 => ?_))
            clear hLk Lk
            simp only [List.take, List.drop]
            replace M := M.sees Sw51
            refine wpL_assign (v := .int .i64 ((a2 / 2 ^ 1 : Nat) : Int)) (by rfl) (by rfl) (by rfl) ?_
            simp only [putT, List.set]
            refine wpL_assign (v := .int .i64 ((l2 / 2 ^ 1 : Nat) : Int)) (by rfl) (by rfl) (by rfl) ?_
            simp only [putT, List.set]
            refine wpL_nil (no_panic ?_)
            refine hK20 _ _ ?_
            refine wp_region_seq ?_
            refine wpL_chunk 1 (by rfl) (fun Lk hLk => ?_)
            simp only [List.take, List.drop]
            refine wpV_bin (v := .int .i64 ((k + 1 : Nat) : Int)) (by rfl) rfl rfl rfl (fun W => run_add (by simp only [IntKind.wrap_i64]; omega) W) ?_
            simp only [putT, List.set]
            refine wpV_nil (hLk _ (fun w53 Sw53 => ?_))
            clear hLk Lk
            simp only [List.take, List.drop]
            replace M := M.sees Sw53
            refine wpL_move (v := .int .i64 ((k + 1 : Nat) : Int)) (by rfl) (by rfl) (by rfl) ?_
            simp only [putT, List.set]
            refine wpL_nil (no_panic ?_)
            refine Exists.intro _ ⟨?_, (k + 1), (a2 / 2 ^ 1), (l2 / 2 ^ 1), (nodeS (ps.getD k []) s1), (fun q9 => (#[undef, undef, undef, undef, undef, undef, undef, undef, undef, undef, undef, .string (bs (ps.getD k [])), undef, undef, undef, .bool true, .pointer (ap.map (·.add k)), .string (bs (ps.getD k [])), u10 18, u10 19, u10 20, .bool false, .int .i64 ((l : Nat) : Int), .bool false, .bool true, .int .i64 ((a : Nat) : Int), .int .i64 ((a % 2 : Nat) : Int), .bool false, .bool false, .int .i64 ((a : Nat) : Int), .int .i64 ((l : Nat) : Int), .bool true, .bool true, .func (.func 84) #[] #[.pointer (some ⟨g, 0, none⟩)], .string (bs (ps.getD k [])), .tuple #[], .int .i64 ((a2 : Nat) : Int), .bool false, .bool false, undef, undef, undef, .bool false, u43 43, u43 44, u43 45, u43 46, .int .i64 ((a2 : Nat) : Int), .int .i64 ((a2 / 2 ^ 1 : Nat) : Int), .int .i64 ((l2 : Nat) : Int), .int .i64 ((l2 / 2 ^ 1 : Nat) : Int), .int .i64 ((k + 1 : Nat) : Int)] : Array Value).getD q9 undef), rfl, rfl, M, (by omega), (by omega), (by omega), (nodeS_len _ _), (walk_yes hk hl0 hys hz hzz hW)⟩
            omega
          · skip
            have hnz : a2 ≠ 0 := of_decide_eq_true hg47
            refine wp_region_seq ?_
            refine wpL_move (v := .int .i64 ((a2 : Nat) : Int)) (by rfl) (by rfl) (by rfl) ?_
            simp only [putT, List.set]
            refine wpL_chunk 6 (by rfl) (fun Lk hLk => ?_)
            simp only [List.take, List.drop]
            refine wpV_bin (v := .bool true) (by rfl) rfl rfl rfl (fun W => (run_neqN a2 0 _ _ W).trans (by rw [hg47])) ?_
            simp only [putT, List.set]
            refine wpV_move (v := .bool true) (by rfl) rfl rfl ?_
            simp only [putT, List.set]
            refine wpV_move (v := .int .i64 ((a2 : Nat) : Int)) (by rfl) rfl rfl ?_
            simp only [putT, List.set]
            refine wpV_bin (v := .int .i64 ((a2 % 2 : Nat) : Int)) (by rfl) rfl rfl rfl (fun W => run_and ((and_i64 (m := a2) (n := 1) (by omega) (by decide)).trans (by rw [and_oneN])) W) ?_
            simp only [putT, List.set]
            refine wpV_bin (v := .bool (decide (a2 % 2 = 0))) (by rfl) rfl rfl rfl (fun W => run_eqlN (a2 % 2) 0 _ _ W) ?_
            simp only [putT, List.set]
            refine wpV_pick (v := .bool (decide (a2 % 2 = 0))) (by rfl) rfl rfl rfl ?_
            simp only [putT, List.set]
            refine wpV_nil (hLk _ (fun w55 Sw55 => ?_))
            clear hLk Lk
            simp only [List.take, List.drop]
            replace M := M.sees Sw55
            refine wpL_nil (no_panic ?_)
            refine hK46 _ _ ?_
            cases hc56 : (decide (a2 % 2 = 0))
            · skip
              have hev : ¬ a2 % 2 = 0 := of_decide_eq_false hc56
              have hzz : skipZ a2 l2 = (a2, l2) := by rw [skipZ, dif_neg (fun q9 => hev q9.2)]
              refine wp_cond_false rfl ?_
              refine wp_exit ?_
              refine hK24 _ _ ?_
              refine wp_region_seq ?_
              refine wpL_move (v := .int .i64 ((a2 : Nat) : Int)) (by rfl) (by rfl) (by rfl) ?_
              simp only [putT, List.set]
              refine wpL_chunk 3 (by rfl) (fun Lk hLk => ?_)
              simp only [List.take, List.drop]
              refine wpV_bin (v := .int .i64 ((a2 / 2 ^ 1 : Nat) : Int)) (by rfl) rfl rfl rfl (fun W => run_shr (n := 1) (by decide) rfl W) ?_
              simp only [putT, List.set]
              refine wpV_move (v := .int .i64 ((l2 : Nat) : Int)) (by rfl) rfl rfl ?_
              simp only [putT, List.set]
              refine wpV_bin (v := .int .i64 ((l2 / 2 ^ 1 : Nat) : Int)) (by rfl) rfl rfl rfl (fun W => run_shr (n := 1) (by decide) rfl W) ?_
              simp only [putT, List.set]
              refine wpV_nil (hLk _ (fun w58 Sw58 => ?_))
              clear hLk Lk
              simp only [List.take, List.drop]
              replace M := M.sees Sw58
              refine wpL_assign (v := .int .i64 ((a2 / 2 ^ 1 : Nat) : Int)) (by rfl) (by rfl) (by rfl) ?_
              simp only [putT, List.set]
              refine wpL_assign (v := .int .i64 ((l2 / 2 ^ 1 : Nat) : Int)) (by rfl) (by rfl) (by rfl) ?_
              simp only [putT, List.set]
              refine wpL_nil (no_panic ?_)
              refine hK20 _ _ ?_
              refine wp_region_seq ?_
              refine wpL_chunk 1 (by rfl) (fun Lk hLk => ?_)
              simp only [List.take, List.drop]
              refine wpV_bin (v := .int .i64 ((k + 1 : Nat) : Int)) (by rfl) rfl rfl rfl (fun W => run_add (by simp only [IntKind.wrap_i64]; omega) W) ?_
              simp only [putT, List.set]
              refine wpV_nil (hLk _ (fun w60 Sw60 => ?_))
              clear hLk Lk
              simp only [List.take, List.drop]
              replace M := M.sees Sw60
              refine wpL_move (v := .int .i64 ((k + 1 : Nat) : Int)) (by rfl) (by rfl) (by rfl) ?_
              simp only [putT, List.set]
              refine wpL_nil (no_panic ?_)
              refine Exists.intro _ ⟨?_, (k + 1), (a2 / 2 ^ 1), (l2 / 2 ^ 1), (nodeS (ps.getD k []) s1), (fun q9 => (#[undef, undef, undef, undef, undef, undef, undef, undef, undef, undef, undef, .string (bs (ps.getD k [])), undef, undef, undef, .bool true, .pointer (ap.map (·.add k)), .string (bs (ps.getD k [])), u10 18, u10 19, u10 20, .bool false, .int .i64 ((l : Nat) : Int), .bool false, .bool true, .int .i64 ((a : Nat) : Int), .int .i64 ((a % 2 : Nat) : Int), .bool false, .bool false, .int .i64 ((a : Nat) : Int), .int .i64 ((l : Nat) : Int), .bool true, .bool true, .func (.func 84) #[] #[.pointer (some ⟨g, 0, none⟩)], .string (bs (ps.getD k [])), .tuple #[], .int .i64 ((a2 : Nat) : Int), .bool true, .bool true, .int .i64 ((a2 : Nat) : Int), .int .i64 ((a2 % 2 : Nat) : Int), .bool false, .bool false, u43 43, u43 44, u43 45, u43 46, .int .i64 ((a2 : Nat) : Int), .int .i64 ((a2 / 2 ^ 1 : Nat) : Int), .int .i64 ((l2 : Nat) : Int), .int .i64 ((l2 / 2 ^ 1 : Nat) : Int), .int .i64 ((k + 1 : Nat) : Int)] : Array Value).getD q9 undef), rfl, rfl, M, (by omega), (by omega), (by omega), (nodeS_len _ _), (walk_yes hk hl0 hys hz hzz hW)⟩
              omega
            · skip
              have hev : a2 % 2 = 0 := of_decide_eq_true hc56
              refine wp_cond_true rfl ?_
              refine wp_skip ?_
              refine hK45 _ _ ?_
              refine wp_block ?_
              refine wp_region_seq ?_
              refine wpL_move (v := .int .i64 ((a2 : Nat) : Int)) (by rfl) (by rfl) (by rfl) ?_
              simp only [putT, List.set]
              refine wpL_chunk 3 (by rfl) (fun Lk hLk => ?_)
              simp only [List.take, List.drop]
              refine wpV_bin (v := .int .i64 ((a2 / 2 ^ 1 : Nat) : Int)) (by rfl) rfl rfl rfl (fun W => run_shr (n := 1) (by decide) rfl W) ?_
              simp only [putT, List.set]
              refine wpV_move (v := .int .i64 ((l2 : Nat) : Int)) (by rfl) rfl rfl ?_
              simp only [putT, List.set]
              refine wpV_bin (v := .int .i64 ((l2 / 2 ^ 1 : Nat) : Int)) (by rfl) rfl rfl rfl (fun W => run_shr (n := 1) (by decide) rfl W) ?_
              simp only [putT, List.set]
              refine wpV_nil (hLk _ (fun w62 Sw62 => ?_))
              clear hLk Lk
              simp only [List.take, List.drop]
              replace M := M.sees Sw62
              refine wpL_assign (v := .int .i64 ((a2 / 2 ^ 1 : Nat) : Int)) (by rfl) (by rfl) (by rfl) ?_
              simp only [putT, List.set]
              refine wpL_assign (v := .int .i64 ((l2 / 2 ^ 1 : Nat) : Int)) (by rfl) (by rfl) (by rfl) ?_
              simp only [putT, List.set]
              refine wpL_nil (no_panic ?_)
              refine Exists.intro _ ⟨?_, (a2 / 2 ^ 1), (l2 / 2 ^ 1), (fun q9 => (#[undef, undef, undef, undef, undef, undef, undef, undef, undef, undef, undef, undef, undef, undef, undef, undef, undef, undef, undef, undef, undef, undef, undef, undef, undef, undef, undef, undef, undef, undef, undef, undef, undef, undef, undef, undef, .int .i64 ((a2 : Nat) : Int), .bool true, .bool true, .int .i64 ((a2 : Nat) : Int), .int .i64 ((a2 % 2 : Nat) : Int), .bool true, .bool true, .int .i64 ((a2 : Nat) : Int), .int .i64 ((a2 / 2 ^ 1 : Nat) : Int), .int .i64 ((l2 : Nat) : Int), .int .i64 ((l2 / 2 ^ 1 : Nat) : Int)] : Array Value).getD q9 undef), rfl, rfl, M, (by omega), (by omega), ((skipZ_go hnz hev).symm.trans hz)⟩
              omega
      · skip
        have ho : a % 2 = 1 := of_decide_eq_true hg30
        have hys : a % 2 = 1 ∨ a = l := .inl ho
        refine wp_region_seq ?_
        refine wpL_move (v := .int .i64 ((a : Nat) : Int)) (by rfl) (by rfl) (by rfl) ?_
        simp only [putT, List.set]
        refine wpL_chunk 7 (by rfl) (fun Lk hLk => ?_)
        simp only [List.take, List.drop]
        refine wpV_bin (v := .int .i64 ((a % 2 : Nat) : Int)) (by rfl) rfl rfl rfl (fun W => run_and ((and_i64 (m := a) (n := 1) (by omega) (by decide)).trans (by rw [and_oneN])) W) ?_
        simp only [putT, List.set]
        refine wpV_bin (v := .bool true) (by rfl) rfl rfl rfl (fun W => (run_eqlN (a % 2) 1 _ _ W).trans (by rw [hg30])) ?_
        simp only [putT, List.set]
        refine wpV_move (v := .bool true) (by rfl) rfl rfl ?_
        simp only [putT, List.set]
        refine wpV_skip (by rfl) (by rfl) ?_
        simp only [putT, List.set]
        refine wpV_skip (by rfl) (by rfl) ?_
        simp only [putT, List.set]
        refine wpV_skip (by rfl) (by rfl) ?_
        simp only [putT, List.set]
        refine wpV_pick (v := .bool true) (by rfl) rfl rfl rfl ?_
        simp only [putT, List.set]
        refine wpV_nil (hLk _ (fun w64 Sw64 => ?_))
        clear hLk Lk
        simp only [List.take, List.drop]
        replace M := M.sees Sw64
        refine wpL_assign (v := .bool true) (by rfl) (by rfl) (by rfl) ?_
        simp only [putT, List.set]
        refine wpL_nil (no_panic ?_)
        refine hK29 _ _ ?_
        refine wp_cond_true rfl ?_
        refine wp_seq_k (fun K65 hK65 => ?_)
        refine wp_region_seq ?_
        refine wpL_move (v := .func (.func 84) #[] #[.pointer (some ⟨g, 0, none⟩)]) (by rfl) (by rfl) (by rfl) ?_
        simp only [putT, List.set]
        refine wpL_move (v := .string (bs (ps.getD k []))) (by rfl) (by rfl) (by rfl) ?_
        simp only [putT, List.set]
        refine wpL_callMc (f := 84) (args := #[.bool true, .string (bs (ps.getD k []))]) (caps := #[.pointer (some ⟨g, 0, none⟩)]) (all := #[.bool true, .string (bs (ps.getD k [])), .pointer (some ⟨g, 0, none⟩)]) (R := fun v9 W9 => v9 = .tuple #[] ∧ Mem [g] w64 W9 [⟨g, 1, [(0, [.string (bs (nodeS (ps.getD k []) s1))])]⟩]) (by simp) (by rfl) (by rfl) (by rfl) rfl Tryd.func84 (by kernel_rfl) (by kernel_rfl) (holds1_t (x := ps.getD k []) (s0 := s1) (h32k hk) hs1 hg0 (M.oldL L0) (M.oldG R0_0 L0 (by simpa using Ne.symm hg0)) (M.one 0 rfl)) (fun v9 w67 h9 => ?_)
        obtain ⟨rfl, M9⟩ := h9
        replace M := M.callM1 0 rfl M9
        simp only [List.set] at M
        simp only [putT, List.set]
        refine wpL_nil (no_panic ?_)
        refine hK65 _ _ ?_
        refine wp_block ?_
        refine wp_loop_ghost (fun n9 a9 W9 => ∃ (a2 : Nat) (l2 : Nat) (u68 : Nat → Value), n9 = 2 * a2 ∧ a9 = { tmps := #[.int .i64 ((a2 : Nat) : Int), .int .i64 ((l2 : Nat) : Int), .slice ap ps.length cp, .func (.func 84) #[] #[.pointer (some ⟨g, 0, none⟩)], undef, undef, undef, undef, .bool false, .bool true, undef, .string (bs (ps.getD k [])), .slice ap ps.length cp, .int .i64 ((ps.length : Nat) : Int), .int .i64 ((k : Nat) : Int), .bool true, .pointer (ap.map (·.add k)), .string (bs (ps.getD k [])), u10 18, u10 19, u10 20, .bool false, .int .i64 ((l : Nat) : Int), .bool false, .bool true, .int .i64 ((a : Nat) : Int), .int .i64 ((a % 2 : Nat) : Int), .bool true, .bool true, undef, undef, undef, .bool true, .func (.func 84) #[] #[.pointer (some ⟨g, 0, none⟩)], .string (bs (ps.getD k [])), .tuple #[], u68 36, u68 37, u68 38, u68 39, u68 40, u68 41, u68 42, u68 43, u68 44, u68 45, u68 46, u10 47, u10 48, u10 49, u10 50, u10 51, undef, undef, undef, undef, undef], defers := [] } ∧ Mem [g] w W9 [⟨g, 1, [(0, [.string (bs (nodeS (ps.getD k []) s1))])]⟩] ∧ (a2 ≤ a) ∧ (l2 ≤ l) ∧ (skipZ a2 l2 = skipZ a l)) (2 * (a)) ?_ (fun n9 a9 W9 hI => ?_)
        · exact ⟨a, l, (fun q9 => (#[undef, undef, undef, undef, undef, undef, undef, undef, undef, undef, undef, undef, undef, undef, undef, undef, undef, undef, undef, undef, undef, undef, undef, undef, undef, undef, undef, undef, undef, undef, undef, undef, undef, undef, undef, undef, u10 36, u10 37, u10 38, u10 39, u10 40, u10 41, u10 42, u10 43, u10 44, u10 45, u10 46] : Array Value).getD q9 undef), rfl, rfl, M, (Nat.le_refl _), (Nat.le_refl _), rfl⟩
        clear M
        obtain ⟨a2, l2, u68, rfl, rfl, M, ha2, hl2, hz⟩ := hI
        obtain ⟨w69, rfl⟩ : ∃ W8, W8 = W9 := ⟨_, rfl⟩
        refine wp_seq_k (fun K70 hK70 => ?_)
        refine wp_seq_k (fun K71 hK71 => ?_)
        cases hg72 : (decide (a2 ≠ 0))
        · skip
          have hnz : ¬ a2 ≠ 0 := of_decide_eq_false hg72
          have hzz : skipZ a2 l2 = (a2, l2) := by rw [skipZ, dif_neg (fun q9 => hnz q9.1)]
          refine wp_region_seq ?_
          refine wpL_move (v := .int .i64 ((a2 : Nat) : Int)) (by rfl) (by rfl) (by rfl) ?_
          simp only [putT, List.set]
          refine wpL_chunk 6 (by rfl) (fun Lk hLk => ?_)
          simp only [List.take, List.drop]
          refine wpV_bin (v := .bool false) (by rfl) rfl rfl rfl (fun W => (run_neqN a2 0 _ _ W).trans (by rw [hg72])) ?_
          simp only [putT, List.set]
          refine wpV_move (v := .bool false) (by rfl) rfl rfl ?_
          simp only [putT, List.set]
          refine wpV_skip (by rfl) (by rfl) ?_
          simp only [putT, List.set]
          refine wpV_skip (by rfl) (by rfl) ?_
          simp only [putT, List.set]
          refine wpV_skip (by rfl) (by rfl) ?_
          simp only [putT, List.set]
          refine wpV_pick (v := .bool false) (by rfl) rfl rfl rfl ?_
          simp only [putT, List.set]
          refine wpV_nil (hLk _ (fun w74 Sw74 => ?_))
          clear hLk Lk
          simp only [List.take, List.drop]
          replace M := M.sees Sw74
          refine wpL_nil (no_panic ?_)
          refine hK71 _ _ ?_
          refine wp_cond_false rfl ?_
          refine wp_exit ?_
          refine hK24 _ _ ?_
          refine wp_region_seq ?_
          refine wpL_move (v := .int .i64 ((a2 : Nat) : Int)) (by rfl) (by rfl) (by rfl) ?_
          simp only [putT, List.set]
          refine wpL_chunk 3 (by rfl) (fun Lk hLk => ?_)
          simp only [List.take, List.drop]
          refine wpV_bin (v := .int .i64 ((a2 / 2 ^ 1 : Nat) : Int)) (by rfl) rfl rfl rfl (fun W => run_shr (n := 1) (by decide) rfl W) ?_
          simp only [putT, List.set]
          refine wpV_move (v := .int .i64 ((l2 : Nat) : Int)) (by rfl) rfl rfl ?_
          simp only [putT, List.set]
          refine wpV_bin (v := .int .i64 ((l2 / 2 ^ 1 : Nat) : Int)) (by rfl) rfl rfl rfl (fun W => run_shr (n := 1) (by decide) rfl W) ?_
          simp only [putT, List.set]
          refine wpV_nil (hLk _ (fun w76 Sw76 => ?_))
          clear hLk Lk
          simp only [List.take, List.drop]
          replace M := M.sees Sw76
          refine wpL_assign (v := .int .i64 ((a2 / 2 ^ 1 : Nat) : Int)) (by rfl) (by rfl) (by rfl) ?_
          simp only [putT, List.set]
          refine wpL_assign (v := .int .i64 ((l2 / 2 ^ 1 : Nat) : Int)) (by rfl) (by rfl) (by rfl) ?_
          simp only [putT, List.set]
          refine wpL_nil (no_panic ?_)
          refine hK20 _ _ ?_
          refine wp_region_seq ?_
          refine wpL_chunk 1 (by rfl) (fun Lk hLk => ?_)
          simp only [List.take, List.drop]
          refine wpV_bin (v := .int .i64 ((k + 1 : Nat) : Int)) (by rfl) rfl rfl rfl (fun W => run_add (by simp only [IntKind.wrap_i64]; omega) W) ?_
          simp only [putT, List.set]
          refine wpV_nil (hLk _ (fun w78 Sw78 => ?_))
          clear hLk Lk
          simp only [List.take, List.drop]
          replace M := M.sees Sw78
          refine wpL_move (v := .int .i64 ((k + 1 : Nat) : Int)) (by rfl) (by rfl) (by rfl) ?_
          simp only [putT, List.set]
          refine wpL_nil (no_panic ?_)
          refine Exists.intro _ ⟨?_, (k + 1), (a2 / 2 ^ 1), (l2 / 2 ^ 1), (nodeS (ps.getD k []) s1), (fun q9 => (#[undef, undef, undef, undef, undef, undef, undef, undef, undef, undef, undef, .string (bs (ps.getD k [])), undef, undef, undef, .bool true, .pointer (ap.map (·.add k)), .string (bs (ps.getD k [])), u10 18, u10 19, u10 20, .bool false, .int .i64 ((l : Nat) : Int), .bool false, .bool true, .int .i64 ((a : Nat) : Int), .int .i64 ((a % 2 : Nat) : Int), .bool true, .bool true, undef, undef, undef, .bool true, .func (.func 84) #[] #[.pointer (some ⟨g, 0, none⟩)], .string (bs (ps.getD k [])), .tuple #[], .int .i64 ((a2 : Nat) : Int), .bool false, .bool false, undef, undef, undef, .bool false, u68 43, u68 44, u68 45, u68 46, .int .i64 ((a2 : Nat) : Int), .int .i64 ((a2 / 2 ^ 1 : Nat) : Int), .int .i64 ((l2 : Nat) : Int), .int .i64 ((l2 / 2 ^ 1 : Nat) : Int), .int .i64 ((k + 1 : Nat) : Int)] : Array Value).getD q9 undef), rfl, rfl, M, (by omega), (by omega), (by omega), (nodeS_len _ _), (walk_yes hk hl0 hys hz hzz hW)⟩
          omega
        · skip
          have hnz : a2 ≠ 0 := of_decide_eq_true hg72
          refine wp_region_seq ?_
          refine wpL_move (v := .int .i64 ((a2 : Nat) : Int)) (by rfl) (by rfl) (by rfl) ?_
          simp only [putT, List.set]
          refine wpL_chunk 6 (by rfl) (fun Lk hLk => ?_)
          simp only [List.take, List.drop]
          refine wpV_bin (v := .bool true) (by rfl) rfl rfl rfl (fun W => (run_neqN a2 0 _ _ W).trans (by rw [hg72])) ?_
          simp only [putT, List.set]
          refine wpV_move (v := .bool true) (by rfl) rfl rfl ?_
          simp only [putT, List.set]
          refine wpV_move (v := .int .i64 ((a2 : Nat) : Int)) (by rfl) rfl rfl ?_
          simp only [putT, List.set]
          refine wpV_bin (v := .int .i64 ((a2 % 2 : Nat) : Int)) (by rfl) rfl rfl rfl (fun W => run_and ((and_i64 (m := a2) (n := 1) (by omega) (by decide)).trans (by rw [and_oneN])) W) ?_
          simp only [putT, List.set]
          refine wpV_bin (v := .bool (decide (a2 % 2 = 0))) (by rfl) rfl rfl rfl (fun W => run_eqlN (a2 % 2) 0 _ _ W) ?_
          simp only [putT, List.set]
          refine wpV_pick (v := .bool (decide (a2 % 2 = 0))) (by rfl) rfl rfl rfl ?_
          simp only [putT, List.set]
          refine wpV_nil (hLk _ (fun w80 Sw80 => ?_))
          clear hLk Lk
          simp only [List.take, List.drop]
          replace M := M.sees Sw80
          refine wpL_nil (no_panic ?_)
          refine hK71 _ _ ?_
          cases hc81 : (decide (a2 % 2 = 0))
          · skip
            have hev : ¬ a2 % 2 = 0 := of_decide_eq_false hc81
            have hzz : skipZ a2 l2 = (a2, l2) := by rw [skipZ, dif_neg (fun q9 => hev q9.2)]
            refine wp_cond_false rfl ?_
            refine wp_exit ?_
            refine hK24 _ _ ?_
            refine wp_region_seq ?_
            refine wpL_move (v := .int .i64 ((a2 : Nat) : Int)) (by rfl) (by rfl) (by rfl) ?_
            simp only [putT, List.set]
            refine wpL_chunk 3 (by rfl) (fun Lk hLk => ?_)
            simp only [List.take, List.drop]
            refine wpV_bin (v := .int .i64 ((a2 / 2 ^ 1 : Nat) : Int)) (by rfl) rfl rfl rfl (fun W => run_shr (n := 1) (by decide) rfl W) ?_
            simp only [putT, List.set]
            refine wpV_move (v := .int .i64 ((l2 : Nat) : Int)) (by rfl) rfl rfl ?_
            simp only [putT, List.set]
            refine wpV_bin (v := .int .i64 ((l2 / 2 ^ 1 : Nat) : Int)) (by rfl) rfl rfl rfl (fun W => run_shr (n := 1) (by decide) rfl W) ?_
            simp only [putT, List.set]
            refine wpV_nil (hLk _ (fun w83 Sw83 => ?_))
            clear hLk Lk
            simp only [List.take, List.drop]
            replace M := M.sees Sw83
            refine wpL_assign (v := .int .i64 ((a2 / 2 ^ 1 : Nat) : Int)) (by rfl) (by rfl) (by rfl) ?_
            simp only [putT, List.set]
            refine wpL_assign (v := .int .i64 ((l2 / 2 ^ 1 : Nat) : Int)) (by rfl) (by rfl) (by rfl) ?_
            simp only [putT, List.set]
            refine wpL_nil (no_panic ?_)
            refine hK20 _ _ ?_
            refine wp_region_seq ?_
            refine wpL_chunk 1 (by rfl) (fun Lk hLk => ?_)
            simp only [List.take, List.drop]
            refine wpV_bin (v := .int .i64 ((k + 1 : Nat) : Int)) (by rfl) rfl rfl rfl (fun W => run_add (by simp only [IntKind.wrap_i64]; omega) W) ?_
            simp only [putT, List.set]
            refine wpV_nil (hLk _ (fun w85 Sw85 => ?_))
            clear hLk Lk
            simp only [List.take, List.drop]
            replace M := M.sees Sw85
            refine wpL_move (v := .int .i64 ((k + 1 : Nat) : Int)) (by rfl) (by rfl) (by rfl) ?_
            simp only [putT, List.set]
            refine wpL_nil (no_panic ?_)
            refine Exists.intro _ ⟨?_, (k + 1), (a2 / 2 ^ 1), (l2 / 2 ^ 1), (nodeS (ps.getD k []) s1), (fun q9 => (#[undef, undef, undef, undef, undef, undef, undef, undef, undef, undef, undef, .string (bs (ps.getD k [])), undef, undef, undef, .bool true, .pointer (ap.map (·.add k)), .string (bs (ps.getD k [])), u10 18, u10 19, u10 20, .bool false, .int .i64 ((l : Nat) : Int), .bool false, .bool true, .int .i64 ((a : Nat) : Int), .int .i64 ((a % 2 : Nat) : Int), .bool true, .bool true, undef, undef, undef, .bool true, .func (.func 84) #[] #[.pointer (some ⟨g, 0, none⟩)], .string (bs (ps.getD k [])), .tuple #[], .int .i64 ((a2 : Nat) : Int), .bool true, .bool true, .int .i64 ((a2 : Nat) : Int), .int .i64 ((a2 % 2 : Nat) : Int), .bool false, .bool false, u68 43, u68 44, u68 45, u68 46, .int .i64 ((a2 : Nat) : Int), .int .i64 ((a2 / 2 ^ 1 : Nat) : Int), .int .i64 ((l2 : Nat) : Int), .int .i64 ((l2 / 2 ^ 1 : Nat) : Int), .int .i64 ((k + 1 : Nat) : Int)] : Array Value).getD q9 undef), rfl, rfl, M, (by omega), (by omega), (by omega), (nodeS_len _ _), (walk_yes hk hl0 hys hz hzz hW)⟩
            omega
          · skip
            have hev : a2 % 2 = 0 := of_decide_eq_true hc81
            refine wp_cond_true rfl ?_
            refine wp_skip ?_
            refine hK70 _ _ ?_
            refine wp_block ?_
            refine wp_region_seq ?_
            refine wpL_move (v := .int .i64 ((a2 : Nat) : Int)) (by rfl) (by rfl) (by rfl) ?_
            simp only [putT, List.set]
            refine wpL_chunk 3 (by rfl) (fun Lk hLk => ?_)
            simp only [List.take, List.drop]
            refine wpV_bin (v := .int .i64 ((a2 / 2 ^ 1 : Nat) : Int)) (by rfl) rfl rfl rfl (fun W => run_shr (n := 1) (by decide) rfl W) ?_
            simp only [putT, List.set]
            refine wpV_move (v := .int .i64 ((l2 : Nat) : Int)) (by rfl) rfl rfl ?_
            simp only [putT, List.set]
            refine wpV_bin (v := .int .i64 ((l2 / 2 ^ 1 : Nat) : Int)) (by rfl) rfl rfl rfl (fun W => run_shr (n := 1) (by decide) rfl W) ?_
            simp only [putT, List.set]
            refine wpV_nil (hLk _ (fun w87 Sw87 => ?_))
            clear hLk Lk
            simp only [List.take, List.drop]
            replace M := M.sees Sw87
            refine wpL_assign (v := .int .i64 ((a2 / 2 ^ 1 : Nat) : Int)) (by rfl) (by rfl) (by rfl) ?_
            simp only [putT, List.set]
            refine wpL_assign (v := .int .i64 ((l2 / 2 ^ 1 : Nat) : Int)) (by rfl) (by rfl) (by rfl) ?_
            simp only [putT, List.set]
            refine wpL_nil (no_panic ?_)
            refine Exists.intro _ ⟨?_, (a2 / 2 ^ 1), (l2 / 2 ^ 1), (fun q9 => (#[undef, undef, undef, undef, undef, undef, undef, undef, undef, undef, undef, undef, undef, undef, undef, undef, undef, undef, undef, undef, undef, undef, undef, undef, undef, undef, undef, undef, undef, undef, undef, undef, undef, undef, undef, undef, .int .i64 ((a2 : Nat) : Int), .bool true, .bool true, .int .i64 ((a2 : Nat) : Int), .int .i64 ((a2 % 2 : Nat) : Int), .bool true, .bool true, .int .i64 ((a2 : Nat) : Int), .int .i64 ((a2 / 2 ^ 1 : Nat) : Int), .int .i64 ((l2 : Nat) : Int), .int .i64 ((l2 / 2 ^ 1 : Nat) : Int)] : Array Value).getD q9 undef), rfl, rfl, M, (by omega), (by omega), ((skipZ_go hnz hev).symm.trans hz)⟩
            omega
    · skip
      have hl0 : l = 0 := of_decide_eq_true hc28
      refine wp_cond_true rfl ?_
      refine wp_seq_k (fun K88 hK88 => ?_)
      refine wp_region_seq ?_
      refine wpL_assign (v := .bool false) (by rfl) (by rfl) (by rfl) ?_
      simp only [putT, List.set]
      refine wpL_nil (no_panic ?_)
      refine hK88 _ _ ?_
      refine wp_exit ?_
      refine hK6 _ _ ?_
      refine wp_seq_k (fun K90 hK90 => ?_)
      refine wp_region_seq ?_
      refine wpL_move (v := .bool false) (by rfl) (by rfl) (by rfl) ?_
      simp only [putT, List.set]
      refine wpL_move (v := .bool false) (by rfl) (by rfl) (by rfl) ?_
      simp only [putT, List.set]
      refine wpL_chunk 3 (by rfl) (fun Lk hLk => ?_)
      simp only [List.take, List.drop]
      refine wpV_skip (by rfl) (by rfl) ?_
      simp only [putT, List.set]
      refine wpV_skip (by rfl) (by rfl) ?_
      simp only [putT, List.set]
      refine wpV_pick (v := .bool false) (by rfl) rfl rfl rfl ?_
      simp only [putT, List.set]
      refine wpV_nil (hLk _ (fun w92 Sw92 => ?_))
      clear hLk Lk
      simp only [List.take, List.drop]
      replace M := M.sees Sw92
      refine wpL_assign (v := .bool false) (by rfl) (by rfl) (by rfl) ?_
      simp only [putT, List.set]
      refine wpL_nil (no_panic ?_)
      refine hK90 _ _ ?_
      refine wp_ret ?_
      repeat (first | with_reducible refine then_ret ?_ | with_reducible refine inblock_ret ?_ | with_reducible refine nogoto_ret ?_)
      refine bodyPost_ret (v := .bool false) (res1 rfl (.tmp (by rfl))) rfl ?_
      exact ⟨_, rfl, by rw [hW, walk_stop hk hl0], by rw [hW, walk_stop hk hl0]; exact M⟩
end Go.Proofs.Yb

namespace Go.Proofs.Yb
open Go Go.RowKit Go.Proofs.Num
attribute [local irreducible] wpV wpN wpList
theorem all32_yes {ps : List (List UInt8)} (h : ∀ j, j < ps.length → (ps.getD j []).length = 32) : all32 ps = true := by
  unfold all32
  rw [List.all_eq_true]
  intro s hs
  obtain ⟨j, hj, e⟩ := List.getElem_of_mem hs
  have := h j hj
  rw [List.getD_eq_getElem?_getD, List.getElem?_eq_getElem hj, Option.getD_some, e] at this
  simpa using this
theorem all32_no {ps : List (List UInt8)} {k : Nat} (hk : k < ps.length) (h : (ps.getD k []).length ≠ 32) : all32 ps = false := by
  cases ha : all32 ps with
  | false => rfl
  | true => exact absurd (getD_32 (all32_mem ha) hk) h
theorem last_split {ps : List (List UInt8)} (h : 1 ≤ ps.length) : ps = ps.take (ps.length - 1) ++ [ps.getD (ps.length - 1) []] := by
  have e := List.take_length (l := ps)
  have h2 : ps.length = ps.length - 1 + 1 := by omega
  conv => lhs; rw [← e, h2, List.take_add_one]
  rw [List.getD_eq_getElem?_getD, List.getElem?_eq_getElem (by omega)]
  rfl
theorem foldZ_le : ∀ (bs : List Bool) (ps : List (List UInt8)) (s : List UInt8), s.length = 32 → (foldZ nodeF bs ps s).length = 32
  | [], ps, s, h => by cases ps <;> exact h
  | b :: bs, [], s, h => h
  | b :: bs, x :: ps, s, h => foldZ_le bs ps _ (by unfold nodeF; split <;> exact nodeS_len _ _)
theorem makesT_le {leaf : List UInt8} {a n : Nat} {ps : List (List UInt8)} (h : leaf.length = 32) : (makesT leaf a n ps).length ≤ 32 := by
  unfold makesT
  split
  · exact Nat.le_of_eq (foldZ_le _ _ _ h)
  · exact Nat.zero_le _
set_option maxHeartbeats 1000000 in
theorem rall_r {ps : List (List UInt8)} {ap : Option Addr} {np cp : Nat} {w : World} (hq : ps.length ≤ 4611686018427387904) (Hp : RowA w ap np cp (scells ps)) :
    Calls Tryd.prog 57 #[.slice ap np cp] w fun e w' => e = .returned (.bool (all32 ps)) ∧ Below w.heap.size w w' := by
  obtain rfl : np = ps.length := by have := Hp.len; rwa [scells_len] at this
  go_enter Tryd.func57, Tryd.ntmps57
  have M := Mem.start w
  refine wp_seq_k (fun K1 hK1 => ?_)
  refine wp_region_seq ?_
  refine wpL_assign (v := .bool false) (by rfl) (by rfl) (by rfl) ?_
  simp only [putT, List.set]
  refine wpL_nil (no_panic ?_)
  refine hK1 _ _ ?_
  refine wp_seq_k (fun K3 hK3 => ?_)
  refine wp_seq_k (fun K4 hK4 => ?_)
  refine wp_region_seq ?_
  refine wpL_move (v := .slice ap ps.length cp) (by rfl) (by rfl) (by rfl) ?_
  simp only [putT, List.set]
  refine wpL_chunk 1 (by rfl) (fun Lk hLk => ?_)
  simp only [List.take, List.drop]
  refine wpV_lenA (n := ps.length) (by rfl) rfl rfl rfl Tryd.underlying48 ?_
  simp only [putT, List.set]
  refine wpV_nil (hLk _ (fun w6 Sw6 => ?_))
  clear hLk Lk
  simp only [List.take, List.drop]
  replace M := M.sees Sw6
  refine wpL_move (v := .int .i64 0) (by rfl) (by rfl) (by rfl) ?_
  simp only [putT, List.set]
  refine wpL_nil (no_panic ?_)
  refine hK4 _ _ ?_
  refine wp_block ?_
  refine wp_loop_ghost (fun n9 a9 W9 => ∃ (k : Nat) (u7 : Nat → Value), n9 = 2 * (ps.length - k) ∧ a9 = { tmps := #[.slice ap ps.length cp, undef, u7 2, undef, u7 4, .slice ap ps.length cp, .int .i64 ((ps.length : Nat) : Int), .int .i64 ((k : Nat) : Int), u7 8, u7 9, u7 10, u7 11, u7 12, u7 13, u7 14], defers := [] } ∧ Mem [] w W9 [] ∧ (k ≤ ps.length) ∧ (∀ j, j < k → (ps.getD j []).length = 32)) (2 * (ps.length - (0))) ?_ (fun n9 a9 W9 hI => ?_)
  · exact ⟨0, (fun q9 => (#[undef, undef, .bool false, undef, undef, undef, undef, undef, undef, undef, undef, undef, undef, undef, undef] : Array Value).getD q9 undef), rfl, rfl, M, (by omega), (fun j hj => absurd hj (Nat.not_lt_zero _))⟩
  clear M
  obtain ⟨k, u7, rfl, rfl, M, hk4, hall⟩ := hI
  obtain ⟨w8, rfl⟩ : ∃ W8, W8 = W9 := ⟨_, rfl⟩
  refine wp_seq_k (fun K9 hK9 => ?_)
  refine wp_region_seq ?_
  refine wpL_chunk 1 (by rfl) (fun Lk hLk => ?_)
  simp only [List.take, List.drop]
  refine wpV_bin (v := .bool (decide (k < ps.length))) (by rfl) rfl rfl rfl (fun W => run_lssN k ps.length _ _ W) ?_
  simp only [putT, List.set]
  refine wpV_nil (hLk _ (fun w11 Sw11 => ?_))
  clear hLk Lk
  simp only [List.take, List.drop]
  replace M := M.sees Sw11
  refine wpL_nil (no_panic ?_)
  refine hK9 _ _ ?_
  refine wp_seq_k (fun K12 hK12 => ?_)
  cases hc13 : (decide (k < ps.length))
  · skip
    have ek : k = ps.length := by have := of_decide_eq_false hc13; omega
    subst ek
    refine wp_cond_false rfl ?_
    refine wp_exit ?_
    refine hK3 _ _ ?_
    refine wp_seq_k (fun K14 hK14 => ?_)
    refine wp_region_seq ?_
    refine wpL_assign (v := .bool true) (by rfl) (by rfl) (by rfl) ?_
    simp only [putT, List.set]
    refine wpL_nil (no_panic ?_)
    refine hK14 _ _ ?_
    refine wp_ret ?_
    repeat (first | with_reducible refine then_ret ?_ | with_reducible refine inblock_ret ?_)
    refine bodyPost_ret (v := .bool true) (res1 rfl (.tmp (by rfl))) rfl ?_
    have BE := M.below
    exact ⟨by rw [all32_yes hall], BE⟩
  · skip
    have hk : k < ps.length := of_decide_eq_true hc13
    refine wp_cond_true rfl ?_
    refine wp_skip ?_
    refine hK12 _ _ ?_
    refine wp_seq_k (fun K16 hK16 => ?_)
    refine wp_block ?_
    refine wp_seq_k (fun K17 hK17 => ?_)
    refine wp_region_seq ?_
    refine wpL_chunk 2 (by rfl) (fun Lk hLk => ?_)
    simp only [List.take, List.drop]
    refine wpV_idxA (i := k) (by rfl) rfl rfl rfl Tryd.underlying48 info9 (M.oldA Hp) (by omega) ?_
    simp only [putT, List.set]
    refine wpV_loadA (i := k) (v := .string (bs (ps.getD k []))) (by rfl) rfl rfl (M.oldA Hp) (scells_get (ps := ps) (by omega)) Tryd.underlying9 rfl ?_
    simp only [putT, List.set]
    refine wpV_nil (hLk _ (fun w19 Sw19 => ?_))
    clear hLk Lk
    simp only [List.take, List.drop]
    replace M := M.sees Sw19
    refine wpL_assign (v := .string (bs (ps.getD k []))) (by rfl) (by rfl) (by rfl) ?_
    simp only [putT, List.set]
    refine wpL_nil (no_panic ?_)
    refine hK17 _ _ ?_
    refine wp_seq_k (fun K20 hK20 => ?_)
    refine wp_region_seq ?_
    refine wpL_move (v := .string (bs (ps.getD k []))) (by rfl) (by rfl) (by rfl) ?_
    simp only [putT, List.set]
    refine wpL_chunk 2 (by rfl) (fun Lk hLk => ?_)
    simp only [List.take, List.drop]
    refine wpV_lenS (by rfl) rfl rfl rfl Tryd.underlying9 ?_
    simp only [putT, List.set]
    refine wpV_bin (v := .bool (decide ((ps.getD k []).length ≠ 32))) (by rfl) rfl rfl rfl (fun W => run_neqN ((ps.getD k []).length) 32 _ _ W) ?_
    simp only [putT, List.set]
    refine wpV_nil (hLk _ (fun w22 Sw22 => ?_))
    clear hLk Lk
    simp only [List.take, List.drop]
    replace M := M.sees Sw22
    refine wpL_nil (no_panic ?_)
    refine hK20 _ _ ?_
    cases hc23 : (decide ((ps.getD k []).length ≠ 32))
    · skip
      have hgood : (ps.getD k []).length = 32 := Decidable.not_not.1 (of_decide_eq_false hc23)
      refine wp_cond_false rfl ?_
      refine wp_skip ?_
      refine hK16 _ _ ?_
      refine wp_region_seq ?_
      refine wpL_chunk 1 (by rfl) (fun Lk hLk => ?_)
      simp only [List.take, List.drop]
      refine wpV_bin (v := .int .i64 ((k + 1 : Nat) : Int)) (by rfl) rfl rfl rfl (fun W => run_add (by simp only [IntKind.wrap_i64]; omega) W) ?_
      simp only [putT, List.set]
      refine wpV_nil (hLk _ (fun w25 Sw25 => ?_))
      clear hLk Lk
      simp only [List.take, List.drop]
      replace M := M.sees Sw25
      refine wpL_move (v := .int .i64 ((k + 1 : Nat) : Int)) (by rfl) (by rfl) (by rfl) ?_
      simp only [putT, List.set]
      refine wpL_nil (no_panic ?_)
      refine Exists.intro _ ⟨?_, (k + 1), (fun q9 => (#[undef, undef, u7 2, undef, .string (bs (ps.getD k [])), undef, undef, undef, .bool true, .pointer (ap.map (·.add k)), .string (bs (ps.getD k [])), .string (bs (ps.getD k [])), .int .i64 (((ps.getD k []).length : Nat) : Int), .bool false, .int .i64 ((k + 1 : Nat) : Int)] : Array Value).getD q9 undef), rfl, rfl, M, (by omega), (fun j hj => (Nat.lt_succ_iff_lt_or_eq.1 hj).elim (hall j) (fun e => e ▸ hgood))⟩
      omega
    · skip
      have hgood : (ps.getD k []).length ≠ 32 := of_decide_eq_true hc23
      refine wp_cond_true rfl ?_
      refine wp_seq_k (fun K26 hK26 => ?_)
      refine wp_region_seq ?_
      refine wpL_assign (v := .bool false) (by rfl) (by rfl) (by rfl) ?_
      simp only [putT, List.set]
      refine wpL_nil (no_panic ?_)
      refine hK26 _ _ ?_
      refine wp_ret ?_
      repeat (first | with_reducible refine then_ret ?_ | with_reducible refine inblock_ret ?_)
      refine bodyPost_ret (v := .bool false) (res1 rfl (.tmp (by rfl))) rfl ?_
      have BE := M.below
      exact ⟨by rw [all32_no hk hgood], BE⟩
set_option maxHeartbeats 4000000 in
theorem rmakes_c : ∀ (N : Nat) {ps : List (List UInt8)} {ap : Option Addr} {np cp : Nat} {leaf : List UInt8} {i n : Nat} {w : World} (hN : n = N) (h1 : 1 ≤ n) (hn : n ≤ 4096) (hi : i < n) (hlf : leaf.length = 32) (hq : ps.length ≤ 4611686018427387904) (h32 : ∀ s ∈ ps, s.length = 32) (Hp : RowA w ap np cp (scells ps)),
    Calls Tryd.prog 58 #[.string (bs leaf), .int .i64 ((i : Nat) : Int), .int .i64 ((n : Nat) : Int), .slice ap np cp] w fun e w' => e = .returned (.string (bs (makesT leaf i n ps))) ∧ Below w.heap.size w w' := by
  intro N
  induction N using Nat.strongRecOn with
  | _ N ih =>
    intro ps ap np cp leaf i n w hN h1 hn hi hlf hq h32 Hp
    subst hN
    obtain rfl : np = ps.length := by have := Hp.len; rwa [scells_len] at this
    have hlne : leaf ≠ [] := fun e9 => by rw [e9] at hlf; cases hlf
    go_enter Tryd.func58, Tryd.ntmps58
    have M := Mem.start w
    refine wp_seq_k (fun K1 hK1 => ?_)
    refine wp_region_seq ?_
    refine wpL_assign (v := .string (bs ([]))) (by rfl) (by rfl) (by rfl) ?_
    simp only [putT, List.set]
    refine wpL_nil (no_panic ?_)
    refine hK1 _ _ ?_
    refine wp_seq_k (fun K3 hK3 => ?_)
    refine wp_seq_k (fun K4 hK4 => ?_)
    refine wp_region_seq ?_
    refine wpL_move (v := .int .i64 ((n : Nat) : Int)) (by rfl) (by rfl) (by rfl) ?_
    simp only [putT, List.set]
    refine wpL_chunk 1 (by rfl) (fun Lk hLk => ?_)
    simp only [List.take, List.drop]
    refine wpV_bin (v := .bool (decide (n = 1))) (by rfl) rfl rfl rfl (fun W => run_eqlN n 1 _ _ W) ?_
    simp only [putT, List.set]
    refine wpV_nil (hLk _ (fun w6 Sw6 => ?_))
    clear hLk Lk
    simp only [List.take, List.drop]
    replace M := M.sees Sw6
    refine wpL_nil (no_panic ?_)
    refine hK4 _ _ ?_
    cases hc7 : (decide (n = 1))
    · skip
      have hn1 : ¬ n = 1 := of_decide_eq_false hc7
      have h2 : 2 ≤ n := by omega
      have hsl := splitN_lt h2
      have hsp := splitN_pos n
      refine wp_cond_false rfl ?_
      refine wp_skip ?_
      refine hK3 _ _ ?_
      refine wp_seq_k (fun K8 hK8 => ?_)
      refine wp_seq_k (fun K9 hK9 => ?_)
      refine wp_region_seq ?_
      refine wpL_move (v := .slice ap ps.length cp) (by rfl) (by rfl) (by rfl) ?_
      simp only [putT, List.set]
      refine wpL_chunk 2 (by rfl) (fun Lk hLk => ?_)
      simp only [List.take, List.drop]
      refine wpV_lenA (n := ps.length) (by rfl) rfl rfl rfl Tryd.underlying48 ?_
      simp only [putT, List.set]
      refine wpV_bin (v := .bool (decide (ps.length = 0))) (by rfl) rfl rfl rfl (fun W => run_eqlN ps.length 0 _ _ W) ?_
      simp only [putT, List.set]
      refine wpV_nil (hLk _ (fun w11 Sw11 => ?_))
      clear hLk Lk
      simp only [List.take, List.drop]
      replace M := M.sees Sw11
      refine wpL_nil (no_panic ?_)
      refine hK9 _ _ ?_
      cases hc12 : (decide (ps.length = 0))
      · skip
        have hp0 : ¬ ps.length = 0 := of_decide_eq_false hc12
        have eps := last_split (by omega : 1 ≤ ps.length)
        refine wp_cond_false rfl ?_
        refine wp_skip ?_
        refine hK8 _ _ ?_
        refine wp_seq_k (fun K13 hK13 => ?_)
        refine wp_region_seq ?_
        refine wpL_move (v := .slice ap ps.length cp) (by rfl) (by rfl) (by rfl) ?_
        simp only [putT, List.set]
        refine wpL_move (v := .slice ap ps.length cp) (by rfl) (by rfl) (by rfl) ?_
        simp only [putT, List.set]
        refine wpL_chunk 4 (by rfl) (fun Lk hLk => ?_)
        simp only [List.take, List.drop]
        refine wpV_lenA (n := ps.length) (by rfl) rfl rfl rfl Tryd.underlying48 ?_
        simp only [putT, List.set]
        refine wpV_bin (v := .int .i64 ((ps.length - 1 : Nat) : Int)) (by rfl) rfl rfl rfl (fun W => run_sub (by simp only [IntKind.wrap_i64]; omega) W) ?_
        simp only [putT, List.set]
        refine wpV_idxA (i := ps.length - 1) (by rfl) rfl rfl rfl Tryd.underlying48 info9 (M.oldA Hp) (by omega) ?_
        simp only [putT, List.set]
        refine wpV_loadA (i := ps.length - 1) (v := .string (bs (ps.getD (ps.length - 1) []))) (by rfl) rfl rfl (M.oldA Hp) (scells_get (ps := ps) (by omega)) Tryd.underlying9 rfl ?_
        simp only [putT, List.set]
        refine wpV_nil (hLk _ (fun w15 Sw15 => ?_))
        clear hLk Lk
        simp only [List.take, List.drop]
        replace M := M.sees Sw15
        refine wpL_assign (v := .string (bs (ps.getD (ps.length - 1) []))) (by rfl) (by rfl) (by rfl) ?_
        simp only [putT, List.set]
        refine wpL_nil (no_panic ?_)
        refine hK13 _ _ ?_
        refine wp_seq_k (fun K16 hK16 => ?_)
        refine wp_region_seq ?_
        refine wpL_move (v := .slice ap ps.length cp) (by rfl) (by rfl) (by rfl) ?_
        simp only [putT, List.set]
        refine wpL_move (v := .slice ap ps.length cp) (by rfl) (by rfl) (by rfl) ?_
        simp only [putT, List.set]
        refine wpL_chunk 3 (by rfl) (fun Lk hLk => ?_)
        simp only [List.take, List.drop]
        refine wpV_lenA (n := ps.length) (by rfl) rfl rfl rfl Tryd.underlying48 ?_
        simp only [putT, List.set]
        refine wpV_bin (v := .int .i64 ((ps.length - 1 : Nat) : Int)) (by rfl) rfl rfl rfl (fun W => run_sub (by simp only [IntKind.wrap_i64]; omega) W) ?_
        simp only [putT, List.set]
        refine wpV_slcH (hi := ps.length - 1) (by rfl) rfl rfl rfl Tryd.underlying48 info9 (Nat.le_trans (Nat.sub_le _ _) (M.oldA Hp).cap) ?_
        simp only [putT, List.set]
        refine wpV_nil (hLk _ (fun w18 Sw18 => ?_))
        clear hLk Lk
        simp only [List.take, List.drop]
        replace M := M.sees Sw18
        refine wpL_assign (v := .slice ap (ps.length - 1) cp) (by rfl) (by rfl) (by rfl) ?_
        simp only [putT, List.set]
        refine wpL_nil (no_panic ?_)
        refine hK16 _ _ ?_
        refine wp_seq_k (fun K19 hK19 => ?_)
        refine wp_region_seq ?_
        refine wpL_move (v := .int .i64 ((n : Nat) : Int)) (by rfl) (by rfl) (by rfl) ?_
        simp only [putT, List.set]
        refine wpL_chunk 1 (by rfl) (fun Lk hLk => ?_)
        simp only [List.take, List.drop]
        refine wpV_callf (v := .int .i64 ((splitN n : Nat) : Int)) (args := #[.int .i64 ((n : Nat) : Int)]) (by rfl) rfl Tryd.func54 (by kernel_rfl) (by kernel_rfl) rfl (fun W hW => rsplit_c (n := n) h2 (by omega)) ?_
        simp only [putT, List.set]
        refine wpV_nil (hLk _ (fun w21 Sw21 => ?_))
        clear hLk Lk
        simp only [List.take, List.drop]
        replace M := M.sees Sw21
        refine wpL_assign (v := .int .i64 ((splitN n : Nat) : Int)) (by rfl) (by rfl) (by rfl) ?_
        simp only [putT, List.set]
        refine wpL_nil (no_panic ?_)
        refine hK19 _ _ ?_
        refine wp_seq_k (fun K22 hK22 => ?_)
        refine wp_seq_k (fun K23 hK23 => ?_)
        refine wp_region_seq ?_
        refine wpL_move (v := .int .i64 ((i : Nat) : Int)) (by rfl) (by rfl) (by rfl) ?_
        simp only [putT, List.set]
        refine wpL_move (v := .int .i64 ((splitN n : Nat) : Int)) (by rfl) (by rfl) (by rfl) ?_
        simp only [putT, List.set]
        refine wpL_chunk 1 (by rfl) (fun Lk hLk => ?_)
        simp only [List.take, List.drop]
        refine wpV_bin (v := .bool (decide (i < splitN n))) (by rfl) rfl rfl rfl (fun W => run_lssN i (splitN n) _ _ W) ?_
        simp only [putT, List.set]
        refine wpV_nil (hLk _ (fun w25 Sw25 => ?_))
        clear hLk Lk
        simp only [List.take, List.drop]
        replace M := M.sees Sw25
        refine wpL_nil (no_panic ?_)
        refine hK23 _ _ ?_
        cases hc26 : (decide (i < splitN n))
        · skip
          have hik : ¬ i < splitN n := of_decide_eq_false hc26
          refine wp_cond_false rfl ?_
          refine wp_skip ?_
          refine hK22 _ _ ?_
          refine wp_seq_k (fun K27 hK27 => ?_)
          refine wp_region_seq ?_
          refine wpL_move (v := .string (bs leaf)) (by rfl) (by rfl) (by rfl) ?_
          simp only [putT, List.set]
          refine wpL_move (v := .int .i64 ((i : Nat) : Int)) (by rfl) (by rfl) (by rfl) ?_
          simp only [putT, List.set]
          refine wpL_move (v := .int .i64 ((splitN n : Nat) : Int)) (by rfl) (by rfl) (by rfl) ?_
          simp only [putT, List.set]
          refine wpL_chunk 6 (by rfl) (fun Lk hLk => ?_)
          simp only [List.take, List.drop]
          refine wpV_bin (v := .int .i64 ((i - (splitN n) : Nat) : Int)) (by rfl) rfl rfl rfl (fun W => run_sub (by simp only [IntKind.wrap_i64]; omega) W) ?_
          simp only [putT, List.set]
          refine wpV_move (v := .int .i64 ((n : Nat) : Int)) (by rfl) rfl rfl ?_
          simp only [putT, List.set]
          refine wpV_move (v := .int .i64 ((splitN n : Nat) : Int)) (by rfl) rfl rfl ?_
          simp only [putT, List.set]
          refine wpV_bin (v := .int .i64 ((n - (splitN n) : Nat) : Int)) (by rfl) rfl rfl rfl (fun W => run_sub (by simp only [IntKind.wrap_i64]; omega) W) ?_
          simp only [putT, List.set]
          refine wpV_move (v := .slice ap (ps.length - 1) cp) (by rfl) rfl rfl ?_
          simp only [putT, List.set]
          refine wpV_callf (v := .string (bs (makesT leaf (i - (splitN n)) (n - (splitN n)) (ps.take (ps.length - 1))))) (args := #[.string (bs leaf), .int .i64 ((i - (splitN n) : Nat) : Int), .int .i64 ((n - (splitN n) : Nat) : Int), .slice ap (ps.length - 1) cp]) (by rfl) rfl Tryd.func58 (by kernel_rfl) (by kernel_rfl) rfl (fun W hW => ih (n - (splitN n)) (by omega) (ps := ps.take (ps.length - 1)) (leaf := leaf) (i := i - (splitN n)) rfl (by omega) (by omega) (by omega) hlf (by rw [List.length_take]; omega) (fun s9 h9 => h32 s9 (List.mem_of_mem_take h9)) ((((M.sees hW).oldA Hp).take (Nat.sub_le _ _)).eq (scells_take2 _ _))) ?_
          simp only [putT, List.set]
          refine wpV_nil (hLk _ (fun w29 Sw29 => ?_))
          clear hLk Lk
          simp only [List.take, List.drop]
          replace M := M.sees Sw29
          refine wpL_assign (v := .string (bs (makesT leaf (i - (splitN n)) (n - (splitN n)) (ps.take (ps.length - 1))))) (by rfl) (by rfl) (by rfl) ?_
          simp only [putT, List.set]
          refine wpL_nil (no_panic ?_)
          refine hK27 _ _ ?_
          refine wp_seq_k (fun K30 hK30 => ?_)
          refine wp_seq_k (fun K31 hK31 => ?_)
          refine wp_region_seq ?_
          refine wpL_move (v := .string (bs (makesT leaf (i - (splitN n)) (n - (splitN n)) (ps.take (ps.length - 1))))) (by rfl) (by rfl) (by rfl) ?_
          simp only [putT, List.set]
          refine wpL_chunk 1 (by rfl) (fun Lk hLk => ?_)
          simp only [List.take, List.drop]
          refine wpV_binS (v := .bool (decide (makesT leaf (i - (splitN n)) (n - (splitN n)) (ps.take (ps.length - 1)) = []))) (by rfl) rfl rfl rfl (run_eql_bs _ _ _) ?_
          simp only [putT, List.set]
          refine wpV_nil (hLk _ (fun w33 Sw33 => ?_))
          clear hLk Lk
          simp only [List.take, List.drop]
          replace M := M.sees Sw33
          refine wpL_nil (no_panic ?_)
          refine hK31 _ _ ?_
          cases hc34 : (decide (makesT leaf (i - (splitN n)) (n - (splitN n)) (ps.take (ps.length - 1)) = []))
          · skip
            have hem : ¬ makesT leaf (i - (splitN n)) (n - (splitN n)) (ps.take (ps.length - 1)) = [] := of_decide_eq_false hc34
            refine wp_cond_false rfl ?_
            refine wp_skip ?_
            refine hK30 _ _ ?_
            refine wp_seq_k (fun K35 hK35 => ?_)
            refine wp_region_seq ?_
            refine wpL_move (v := .string (bs (ps.getD (ps.length - 1) []))) (by rfl) (by rfl) (by rfl) ?_
            simp only [putT, List.set]
            refine wpL_move (v := .string (bs (makesT leaf (i - (splitN n)) (n - (splitN n)) (ps.take (ps.length - 1))))) (by rfl) (by rfl) (by rfl) ?_
            simp only [putT, List.set]
            refine wpL_chunk 1 (by rfl) (fun Lk hLk => ?_)
            simp only [List.take, List.drop]
            refine wpV_callf (v := .string (bs (nodeS (ps.getD (ps.length - 1) []) (makesT leaf (i - (splitN n)) (n - (splitN n)) (ps.take (ps.length - 1)))))) (args := #[.string (bs (ps.getD (ps.length - 1) [])), .string (bs (makesT leaf (i - (splitN n)) (n - (splitN n)) (ps.take (ps.length - 1))))]) (by rfl) rfl Tryd.func41 (by kernel_rfl) (by kernel_rfl) rfl (fun W hW => rnode_c (a := ps.getD (ps.length - 1) []) (b := makesT leaf (i - (splitN n)) (n - (splitN n)) (ps.take (ps.length - 1))) (by rw [getD_32 h32 (by omega)]; decide) (Nat.le_trans (makesT_le hlf) (by decide))) ?_
            simp only [putT, List.set]
            refine wpV_nil (hLk _ (fun w37 Sw37 => ?_))
            clear hLk Lk
            simp only [List.take, List.drop]
            replace M := M.sees Sw37
            refine wpL_assign (v := .string (bs (nodeS (ps.getD (ps.length - 1) []) (makesT leaf (i - (splitN n)) (n - (splitN n)) (ps.take (ps.length - 1)))))) (by rfl) (by rfl) (by rfl) ?_
            simp only [putT, List.set]
            refine wpL_nil (no_panic ?_)
            refine hK35 _ _ ?_
            refine wp_ret ?_
            repeat (first | with_reducible refine then_ret ?_ | with_reducible refine inblock_ret ?_)
            refine bodyPost_ret (v := .string (bs (nodeS (ps.getD (ps.length - 1) []) (makesT leaf (i - (splitN n)) (n - (splitN n)) (ps.take (ps.length - 1)))))) (res1 rfl (.tmp (by rfl))) rfl ?_
            have BE := M.below
            have e9 : makesT leaf i n ps = _ := (congrArg (makesT leaf i n) eps).trans ((makesT_right h2 hik hlne).trans (if_neg hem))
            exact ⟨by rw [e9], BE⟩
          · skip
            have hem : makesT leaf (i - (splitN n)) (n - (splitN n)) (ps.take (ps.length - 1)) = [] := of_decide_eq_true hc34
            refine wp_cond_true rfl ?_
            refine wp_seq_k (fun K38 hK38 => ?_)
            refine wp_region_seq ?_
            refine wpL_assign (v := .string (bs ([]))) (by rfl) (by rfl) (by rfl) ?_
            simp only [putT, List.set]
            refine wpL_nil (no_panic ?_)
            refine hK38 _ _ ?_
            refine wp_ret ?_
            repeat (first | with_reducible refine then_ret ?_ | with_reducible refine inblock_ret ?_)
            refine bodyPost_ret (v := .string (bs ([]))) (res1 rfl (.tmp (by rfl))) rfl ?_
            have BE := M.below
            have e9 : makesT leaf i n ps = [] := (congrArg (makesT leaf i n) eps).trans ((makesT_right h2 hik hlne).trans (if_pos hem))
            exact ⟨by rw [e9], BE⟩
        · skip
          have hik : i < splitN n := of_decide_eq_true hc26
          refine wp_cond_true rfl ?_
          refine wp_seq_k (fun K40 hK40 => ?_)
          refine wp_region_seq ?_
          refine wpL_move (v := .string (bs leaf)) (by rfl) (by rfl) (by rfl) ?_
          simp only [putT, List.set]
          refine wpL_move (v := .int .i64 ((i : Nat) : Int)) (by rfl) (by rfl) (by rfl) ?_
          simp only [putT, List.set]
          refine wpL_move (v := .int .i64 ((splitN n : Nat) : Int)) (by rfl) (by rfl) (by rfl) ?_
          simp only [putT, List.set]
          refine wpL_move (v := .slice ap (ps.length - 1) cp) (by rfl) (by rfl) (by rfl) ?_
          simp only [putT, List.set]
          refine wpL_chunk 1 (by rfl) (fun Lk hLk => ?_)
          simp only [List.take, List.drop]
          refine wpV_callf (v := .string (bs (makesT leaf i (splitN n) (ps.take (ps.length - 1))))) (args := #[.string (bs leaf), .int .i64 ((i : Nat) : Int), .int .i64 ((splitN n : Nat) : Int), .slice ap (ps.length - 1) cp]) (by rfl) rfl Tryd.func58 (by kernel_rfl) (by kernel_rfl) rfl (fun W hW => ih (splitN n) (by omega) (ps := ps.take (ps.length - 1)) (leaf := leaf) (i := i) rfl (by omega) (by omega) (by omega) hlf (by rw [List.length_take]; omega) (fun s9 h9 => h32 s9 (List.mem_of_mem_take h9)) ((((M.sees hW).oldA Hp).take (Nat.sub_le _ _)).eq (scells_take2 _ _))) ?_
          simp only [putT, List.set]
          refine wpV_nil (hLk _ (fun w42 Sw42 => ?_))
          clear hLk Lk
          simp only [List.take, List.drop]
          replace M := M.sees Sw42
          refine wpL_assign (v := .string (bs (makesT leaf i (splitN n) (ps.take (ps.length - 1))))) (by rfl) (by rfl) (by rfl) ?_
          simp only [putT, List.set]
          refine wpL_nil (no_panic ?_)
          refine hK40 _ _ ?_
          refine wp_seq_k (fun K43 hK43 => ?_)
          refine wp_seq_k (fun K44 hK44 => ?_)
          refine wp_region_seq ?_
          refine wpL_move (v := .string (bs (makesT leaf i (splitN n) (ps.take (ps.length - 1))))) (by rfl) (by rfl) (by rfl) ?_
          simp only [putT, List.set]
          refine wpL_chunk 1 (by rfl) (fun Lk hLk => ?_)
          simp only [List.take, List.drop]
          refine wpV_binS (v := .bool (decide (makesT leaf i (splitN n) (ps.take (ps.length - 1)) = []))) (by rfl) rfl rfl rfl (run_eql_bs _ _ _) ?_
          simp only [putT, List.set]
          refine wpV_nil (hLk _ (fun w46 Sw46 => ?_))
          clear hLk Lk
          simp only [List.take, List.drop]
          replace M := M.sees Sw46
          refine wpL_nil (no_panic ?_)
          refine hK44 _ _ ?_
          cases hc47 : (decide (makesT leaf i (splitN n) (ps.take (ps.length - 1)) = []))
          · skip
            have hem : ¬ makesT leaf i (splitN n) (ps.take (ps.length - 1)) = [] := of_decide_eq_false hc47
            refine wp_cond_false rfl ?_
            refine wp_skip ?_
            refine hK43 _ _ ?_
            refine wp_seq_k (fun K48 hK48 => ?_)
            refine wp_region_seq ?_
            refine wpL_move (v := .string (bs (makesT leaf i (splitN n) (ps.take (ps.length - 1))))) (by rfl) (by rfl) (by rfl) ?_
            simp only [putT, List.set]
            refine wpL_move (v := .string (bs (ps.getD (ps.length - 1) []))) (by rfl) (by rfl) (by rfl) ?_
            simp only [putT, List.set]
            refine wpL_chunk 1 (by rfl) (fun Lk hLk => ?_)
            simp only [List.take, List.drop]
            refine wpV_callf (v := .string (bs (nodeS (makesT leaf i (splitN n) (ps.take (ps.length - 1))) (ps.getD (ps.length - 1) [])))) (args := #[.string (bs (makesT leaf i (splitN n) (ps.take (ps.length - 1)))), .string (bs (ps.getD (ps.length - 1) []))]) (by rfl) rfl Tryd.func41 (by kernel_rfl) (by kernel_rfl) rfl (fun W hW => rnode_c (a := makesT leaf i (splitN n) (ps.take (ps.length - 1))) (b := ps.getD (ps.length - 1) []) (Nat.le_trans (makesT_le hlf) (by decide)) (by rw [getD_32 h32 (by omega)]; decide)) ?_
            simp only [putT, List.set]
            refine wpV_nil (hLk _ (fun w50 Sw50 => ?_))
            clear hLk Lk
            simp only [List.take, List.drop]
            replace M := M.sees Sw50
            refine wpL_assign (v := .string (bs (nodeS (makesT leaf i (splitN n) (ps.take (ps.length - 1))) (ps.getD (ps.length - 1) [])))) (by rfl) (by rfl) (by rfl) ?_
            simp only [putT, List.set]
            refine wpL_nil (no_panic ?_)
            refine hK48 _ _ ?_
            refine wp_ret ?_
            repeat (first | with_reducible refine then_ret ?_ | with_reducible refine inblock_ret ?_)
            refine bodyPost_ret (v := .string (bs (nodeS (makesT leaf i (splitN n) (ps.take (ps.length - 1))) (ps.getD (ps.length - 1) [])))) (res1 rfl (.tmp (by rfl))) rfl ?_
            have BE := M.below
            have e9 : makesT leaf i n ps = _ := (congrArg (makesT leaf i n) eps).trans ((makesT_left h2 hik hlne).trans (if_neg hem))
            exact ⟨by rw [e9], BE⟩
          · skip
            have hem : makesT leaf i (splitN n) (ps.take (ps.length - 1)) = [] := of_decide_eq_true hc47
            refine wp_cond_true rfl ?_
            refine wp_seq_k (fun K51 hK51 => ?_)
            refine wp_region_seq ?_
            refine wpL_assign (v := .string (bs ([]))) (by rfl) (by rfl) (by rfl) ?_
            simp only [putT, List.set]
            refine wpL_nil (no_panic ?_)
            refine hK51 _ _ ?_
            refine wp_ret ?_
            repeat (first | with_reducible refine then_ret ?_ | with_reducible refine inblock_ret ?_)
            refine bodyPost_ret (v := .string (bs ([]))) (res1 rfl (.tmp (by rfl))) rfl ?_
            have BE := M.below
            have e9 : makesT leaf i n ps = [] := (congrArg (makesT leaf i n) eps).trans ((makesT_left h2 hik hlne).trans (if_pos hem))
            exact ⟨by rw [e9], BE⟩
      · skip
        have hp0 : ps.length = 0 := of_decide_eq_true hc12
        refine wp_cond_true rfl ?_
        refine wp_seq_k (fun K53 hK53 => ?_)
        refine wp_region_seq ?_
        refine wpL_assign (v := .string (bs ([]))) (by rfl) (by rfl) (by rfl) ?_
        simp only [putT, List.set]
        refine wpL_nil (no_panic ?_)
        refine hK53 _ _ ?_
        refine wp_ret ?_
        repeat (first | with_reducible refine then_ret ?_ | with_reducible refine inblock_ret ?_)
        refine bodyPost_ret (v := .string (bs ([]))) (res1 rfl (.tmp (by rfl))) rfl ?_
        have BE := M.below
        exact ⟨by rw [List.length_eq_zero_iff.1 hp0, makesT_0 h2], BE⟩
    · skip
      have hn1 : n = 1 := of_decide_eq_true hc7
      refine wp_cond_true rfl ?_
      refine wp_seq_k (fun K55 hK55 => ?_)
      refine wp_seq_k (fun K56 hK56 => ?_)
      refine wp_region_seq ?_
      refine wpL_move (v := .slice ap ps.length cp) (by rfl) (by rfl) (by rfl) ?_
      simp only [putT, List.set]
      refine wpL_chunk 2 (by rfl) (fun Lk hLk => ?_)
      simp only [List.take, List.drop]
      refine wpV_lenA (n := ps.length) (by rfl) rfl rfl rfl Tryd.underlying48 ?_
      simp only [putT, List.set]
      refine wpV_bin (v := .bool (decide (0 < ps.length))) (by rfl) rfl rfl rfl (fun W => run_gtrN ps.length 0 _ _ W) ?_
      simp only [putT, List.set]
      refine wpV_nil (hLk _ (fun w58 Sw58 => ?_))
      clear hLk Lk
      simp only [List.take, List.drop]
      replace M := M.sees Sw58
      refine wpL_nil (no_panic ?_)
      refine hK56 _ _ ?_
      cases hc59 : (decide (0 < ps.length))
      · skip
        have hp0 : ¬ 0 < ps.length := of_decide_eq_false hc59
        refine wp_cond_false rfl ?_
        refine wp_skip ?_
        refine hK55 _ _ ?_
        refine wp_seq_k (fun K60 hK60 => ?_)
        refine wp_region_seq ?_
        refine wpL_move (v := .string (bs leaf)) (by rfl) (by rfl) (by rfl) ?_
        simp only [putT, List.set]
        refine wpL_assign (v := .string (bs leaf)) (by rfl) (by rfl) (by rfl) ?_
        simp only [putT, List.set]
        refine wpL_nil (no_panic ?_)
        refine hK60 _ _ ?_
        refine wp_ret ?_
        repeat (first | with_reducible refine then_ret ?_ | with_reducible refine inblock_ret ?_)
        refine bodyPost_ret (v := .string (bs leaf)) (res1 rfl (.tmp (by rfl))) rfl ?_
        have BE := M.below
        exact ⟨by rw [makesT_1 (by omega), if_pos (by omega)], BE⟩
      · skip
        have hp0 : 0 < ps.length := of_decide_eq_true hc59
        refine wp_cond_true rfl ?_
        refine wp_seq_k (fun K62 hK62 => ?_)
        refine wp_region_seq ?_
        refine wpL_assign (v := .string (bs ([]))) (by rfl) (by rfl) (by rfl) ?_
        simp only [putT, List.set]
        refine wpL_nil (no_panic ?_)
        refine hK62 _ _ ?_
        refine wp_ret ?_
        repeat (first | with_reducible refine then_ret ?_ | with_reducible refine inblock_ret ?_)
        refine bodyPost_ret (v := .string (bs ([]))) (res1 rfl (.tmp (by rfl))) rfl ?_
        have BE := M.below
        exact ⟨by rw [makesT_1 (by omega), if_neg (by omega)], BE⟩
set_option maxHeartbeats 1000000 in
theorem wellPF_c {l : List UInt8} {w : World}  :
    Calls Tryd.prog 99 #[.string (bs l)] w fun e w' => e = .returned (.bool (decide (l.length ≠ 32))) ∧ Below w.heap.size w w' := by
  go_enter Tryd.func99, Tryd.ntmps99
  have M := Mem.start w
  refine wp_seq_k (fun K1 hK1 => ?_)
  refine wp_region_seq ?_
  refine wpL_assign (v := .bool false) (by rfl) (by rfl) (by rfl) ?_
  simp only [putT, List.set]
  refine wpL_nil (no_panic ?_)
  refine hK1 _ _ ?_
  refine wp_seq_k (fun K3 hK3 => ?_)
  refine wp_region_seq ?_
  refine wpL_move (v := .string (bs l)) (by rfl) (by rfl) (by rfl) ?_
  simp only [putT, List.set]
  refine wpL_chunk 2 (by rfl) (fun Lk hLk => ?_)
  simp only [List.take, List.drop]
  refine wpV_lenS (by rfl) rfl rfl rfl Tryd.underlying9 ?_
  simp only [putT, List.set]
  refine wpV_bin (v := .bool (decide (l.length ≠ 32))) (by rfl) rfl rfl rfl (fun W => run_neqN l.length 32 _ _ W) ?_
  simp only [putT, List.set]
  refine wpV_nil (hLk _ (fun w5 Sw5 => ?_))
  clear hLk Lk
  simp only [List.take, List.drop]
  replace M := M.sees Sw5
  refine wpL_assign (v := .bool (decide (l.length ≠ 32))) (by rfl) (by rfl) (by rfl) ?_
  simp only [putT, List.set]
  refine wpL_nil (no_panic ?_)
  refine hK3 _ _ ?_
  refine wp_ret ?_
  repeat (first | with_reducible refine then_ret ?_ | with_reducible refine inblock_ret ?_)
  refine bodyPost_ret (v := .bool (decide (l.length ≠ 32))) (res1 rfl (.tmp (by rfl))) rfl ?_
  have BE := M.below
  exact ⟨rfl, BE⟩
set_option maxHeartbeats 2000000 in
theorem idxp_r {ps : List (List UInt8)} {ap : Option Addr} {np cp : Nat} {w : World} (hq : ps.length ≤ 4611686018427387904) (Hp : RowA w ap np cp (scells ps)) :
    Calls Tryd.prog 109 #[.slice ap np cp, .func (.func 99) #[] #[]] w fun e w' => e = .returned (.int .i64 (badI ps)) ∧ Below w.heap.size w w' := by
  obtain rfl : np = ps.length := by have := Hp.len; rwa [scells_len] at this
  go_enter Tryd.func109, Tryd.ntmps109
  have M := Mem.start w
  refine wp_seq_k (fun K1 hK1 => ?_)
  refine wp_region_seq ?_
  refine wpL_assign (v := .int .i64 0) (by rfl) (by rfl) (by rfl) ?_
  simp only [putT, List.set]
  refine wpL_nil (no_panic ?_)
  refine hK1 _ _ ?_
  refine wp_seq_k (fun K3 hK3 => ?_)
  refine wp_seq_k (fun K4 hK4 => ?_)
  refine wp_region_seq ?_
  refine wpL_move (v := .slice ap ps.length cp) (by rfl) (by rfl) (by rfl) ?_
  simp only [putT, List.set]
  refine wpL_chunk 1 (by rfl) (fun Lk hLk => ?_)
  simp only [List.take, List.drop]
  refine wpV_lenA (n := ps.length) (by rfl) rfl rfl rfl Tryd.underlying48 ?_
  simp only [putT, List.set]
  refine wpV_nil (hLk _ (fun w6 Sw6 => ?_))
  clear hLk Lk
  simp only [List.take, List.drop]
  replace M := M.sees Sw6
  refine wpL_move (v := .int .i64 0) (by rfl) (by rfl) (by rfl) ?_
  simp only [putT, List.set]
  refine wpL_nil (no_panic ?_)
  refine hK4 _ _ ?_
  refine wp_block ?_
  refine wp_loop_ghost (fun n9 a9 W9 => ∃ (k : Nat) (u7 : Nat → Value), n9 = ps.length - k ∧ a9 = { tmps := #[.slice ap ps.length cp, .func (.func 99) #[] #[], undef, undef, u7 4, u7 5, .slice ap ps.length cp, .int .i64 ((ps.length : Nat) : Int), .int .i64 ((k : Nat) : Int), u7 9, u7 10, u7 11, u7 12, u7 13, u7 14, u7 15, u7 16, u7 17, u7 18], defers := [] } ∧ Mem [] w W9 [] ∧ (k ≤ ps.length) ∧ (∀ j, j < k → (ps.getD j []).length = 32)) (ps.length - (0)) ?_ (fun n9 a9 W9 hI => ?_)
  · exact ⟨0, (fun q9 => (#[undef, undef, undef, undef, .int .i64 0, undef, undef, undef, undef, undef, undef, undef, undef, undef, undef, undef, undef, undef, undef] : Array Value).getD q9 undef), rfl, rfl, M, (by omega), (fun j hj => absurd hj (Nat.not_lt_zero _))⟩
  clear M
  obtain ⟨k, u7, rfl, rfl, M, hk4, hall⟩ := hI
  obtain ⟨w8, rfl⟩ : ∃ W8, W8 = W9 := ⟨_, rfl⟩
  refine wp_seq_k (fun K9 hK9 => ?_)
  refine wp_region_seq ?_
  refine wpL_chunk 1 (by rfl) (fun Lk hLk => ?_)
  simp only [List.take, List.drop]
  refine wpV_bin (v := .bool (decide (k < ps.length))) (by rfl) rfl rfl rfl (fun W => run_lssN k ps.length _ _ W) ?_
  simp only [putT, List.set]
  refine wpV_nil (hLk _ (fun w11 Sw11 => ?_))
  clear hLk Lk
  simp only [List.take, List.drop]
  replace M := M.sees Sw11
  refine wpL_nil (no_panic ?_)
  refine hK9 _ _ ?_
  refine wp_seq_k (fun K12 hK12 => ?_)
  cases hc13 : (decide (k < ps.length))
  · skip
    have ek : k = ps.length := by have := of_decide_eq_false hc13; omega
    subst ek
    refine wp_cond_false rfl ?_
    refine wp_exit ?_
    refine hK3 _ _ ?_
    refine wp_seq_k (fun K14 hK14 => ?_)
    refine wp_region_seq ?_
    refine wpL_assign (v := .int .i64 (-1)) (by rfl) (by rfl) (by rfl) ?_
    simp only [putT, List.set]
    refine wpL_nil (no_panic ?_)
    refine hK14 _ _ ?_
    refine wp_ret ?_
    repeat (first | with_reducible refine then_ret ?_ | with_reducible refine inblock_ret ?_)
    refine bodyPost_ret (v := .int .i64 (-1)) (res1 rfl (.tmp (by rfl))) rfl ?_
    have BE := M.below
    exact ⟨by rw [badI_none hall], BE⟩
  · skip
    have hk : k < ps.length := of_decide_eq_true hc13
    refine wp_cond_true rfl ?_
    refine wp_skip ?_
    refine hK12 _ _ ?_
    refine wp_seq_k (fun K16 hK16 => ?_)
    refine wp_block ?_
    refine wp_seq_k (fun K17 hK17 => ?_)
    refine wp_region_seq ?_
    refine wpL_move (v := .int .i64 ((k : Nat) : Int)) (by rfl) (by rfl) (by rfl) ?_
    simp only [putT, List.set]
    refine wpL_assign (v := .int .i64 ((k : Nat) : Int)) (by rfl) (by rfl) (by rfl) ?_
    simp only [putT, List.set]
    refine wpL_nil (no_panic ?_)
    refine hK17 _ _ ?_
    refine wp_seq_k (fun K19 hK19 => ?_)
    refine wp_region_seq ?_
    refine wpL_move (v := .func (.func 99) #[] #[]) (by rfl) (by rfl) (by rfl) ?_
    simp only [putT, List.set]
    refine wpL_move (v := .slice ap ps.length cp) (by rfl) (by rfl) (by rfl) ?_
    simp only [putT, List.set]
    refine wpL_move (v := .int .i64 ((k : Nat) : Int)) (by rfl) (by rfl) (by rfl) ?_
    simp only [putT, List.set]
    refine wpL_chunk 3 (by rfl) (fun Lk hLk => ?_)
    simp only [List.take, List.drop]
    refine wpV_idxA (i := k) (by rfl) rfl rfl rfl Tryd.underlying48 info9 (M.oldA Hp) (by omega) ?_
    simp only [putT, List.set]
    refine wpV_loadA (i := k) (v := .string (bs (ps.getD k []))) (by rfl) rfl rfl (M.oldA Hp) (scells_get (ps := ps) (by omega)) Tryd.underlying9 rfl ?_
    simp only [putT, List.set]
    refine wpV_callv (v := .bool (decide ((ps.getD k []).length ≠ 32))) (args := #[.string (bs (ps.getD k []))]) (by rfl) rfl rfl Tryd.func99 (by kernel_rfl) (by kernel_rfl) rfl (fun W hW => wellPF_c) ?_
    simp only [putT, List.set]
    refine wpV_nil (hLk _ (fun w21 Sw21 => ?_))
    clear hLk Lk
    simp only [List.take, List.drop]
    replace M := M.sees Sw21
    refine wpL_nil (no_panic ?_)
    refine hK19 _ _ ?_
    cases hc22 : (decide ((ps.getD k []).length ≠ 32))
    · skip
      have hgood : (ps.getD k []).length = 32 := Decidable.not_not.1 (of_decide_eq_false hc22)
      refine wp_cond_false rfl ?_
      refine wp_skip ?_
      refine hK16 _ _ ?_
      refine wp_region_seq ?_
      refine wpL_chunk 1 (by rfl) (fun Lk hLk => ?_)
      simp only [List.take, List.drop]
      refine wpV_bin (v := .int .i64 ((k + 1 : Nat) : Int)) (by rfl) rfl rfl rfl (fun W => run_add (by simp only [IntKind.wrap_i64]; omega) W) ?_
      simp only [putT, List.set]
      refine wpV_nil (hLk _ (fun w24 Sw24 => ?_))
      clear hLk Lk
      simp only [List.take, List.drop]
      replace M := M.sees Sw24
      refine wpL_move (v := .int .i64 ((k + 1 : Nat) : Int)) (by rfl) (by rfl) (by rfl) ?_
      simp only [putT, List.set]
      refine wpL_nil (no_panic ?_)
      refine Exists.intro _ ⟨?_, (k + 1), (fun q9 => (#[undef, undef, undef, undef, u7 4, .int .i64 ((k : Nat) : Int), undef, undef, undef, .bool true, .int .i64 ((k : Nat) : Int), .func (.func 99) #[] #[], .slice ap ps.length cp, .int .i64 ((k : Nat) : Int), .pointer (ap.map (·.add k)), .string (bs (ps.getD k [])), .bool false, u7 17, .int .i64 ((k + 1 : Nat) : Int)] : Array Value).getD q9 undef), rfl, rfl, M, (by omega), (fun j hj => (Nat.lt_succ_iff_lt_or_eq.1 hj).elim (hall j) (fun e => e ▸ hgood))⟩
      omega
    · skip
      have hgood : (ps.getD k []).length ≠ 32 := of_decide_eq_true hc22
      refine wp_cond_true rfl ?_
      refine wp_seq_k (fun K25 hK25 => ?_)
      refine wp_region_seq ?_
      refine wpL_move (v := .int .i64 ((k : Nat) : Int)) (by rfl) (by rfl) (by rfl) ?_
      simp only [putT, List.set]
      refine wpL_assign (v := .int .i64 ((k : Nat) : Int)) (by rfl) (by rfl) (by rfl) ?_
      simp only [putT, List.set]
      refine wpL_nil (no_panic ?_)
      refine hK25 _ _ ?_
      refine wp_ret ?_
      repeat (first | with_reducible refine then_ret ?_ | with_reducible refine inblock_ret ?_)
      refine bodyPost_ret (v := .int .i64 ((k : Nat) : Int)) (res1 rfl (.tmp (by rfl))) rfl ?_
      have BE := M.below
      exact ⟨by rw [badI_some hk hall hgood], BE⟩
set_option maxHeartbeats 1000000 in
theorem contp_r {ps : List (List UInt8)} {ap : Option Addr} {np cp : Nat} {w : World} (hq : ps.length ≤ 4611686018427387904) (Hp : RowA w ap np cp (scells ps)) :
    Calls Tryd.prog 96 #[.slice ap np cp, .func (.func 99) #[] #[]] w fun e w' => e = .returned (.bool (!all32 ps)) ∧ Below w.heap.size w w' := by
  obtain rfl : np = ps.length := by have := Hp.len; rwa [scells_len] at this
  go_enter Tryd.func96, Tryd.ntmps96
  have M := Mem.start w
  refine wp_seq_k (fun K1 hK1 => ?_)
  refine wp_region_seq ?_
  refine wpL_assign (v := .bool false) (by rfl) (by rfl) (by rfl) ?_
  simp only [putT, List.set]
  refine wpL_nil (no_panic ?_)
  refine hK1 _ _ ?_
  refine wp_seq_k (fun K3 hK3 => ?_)
  refine wp_region_seq ?_
  refine wpL_move (v := .slice ap ps.length cp) (by rfl) (by rfl) (by rfl) ?_
  simp only [putT, List.set]
  refine wpL_move (v := .func (.func 99) #[] #[]) (by rfl) (by rfl) (by rfl) ?_
  simp only [putT, List.set]
  refine wpL_chunk 2 (by rfl) (fun Lk hLk => ?_)
  simp only [List.take, List.drop]
  refine wpV_callf (v := .int .i64 (badI ps)) (args := #[.slice ap ps.length cp, .func (.func 99) #[] #[]]) (by rfl) rfl Tryd.func109 (by kernel_rfl) (by kernel_rfl) rfl (fun W hW => by with_reducible exact idxp_r (ps := ps) hq ((M.sees hW).oldA Hp)) ?_
  simp only [putT, List.set]
  refine wpV_bin (v := .bool (decide (0 ≤ badI ps))) (by rfl) rfl rfl rfl (fun W => run_geq _ _ _ _ W) ?_
  simp only [putT, List.set]
  refine wpV_nil (hLk _ (fun w5 Sw5 => ?_))
  clear hLk Lk
  simp only [List.take, List.drop]
  replace M := M.sees Sw5
  refine wpL_assign (v := .bool (decide (0 ≤ badI ps))) (by rfl) (by rfl) (by rfl) ?_
  simp only [putT, List.set]
  refine wpL_nil (no_panic ?_)
  refine hK3 _ _ ?_
  refine wp_ret ?_
  repeat (first | with_reducible refine then_ret ?_ | with_reducible refine inblock_ret ?_)
  refine bodyPost_ret (v := .bool (decide (0 ≤ badI ps))) (res1 rfl (.tmp (by rfl))) rfl ?_
  have BE := M.below
  exact ⟨by rw [badI_ge], BE⟩
set_option maxHeartbeats 1000000 in
theorem wellp_r {ps : List (List UInt8)} {ap : Option Addr} {np cp : Nat} {w : World} (hq : ps.length ≤ 4611686018427387904) (Hp : RowA w ap np cp (scells ps)) :
    Calls Tryd.prog 82 #[.slice ap np cp] w fun e w' => e = .returned (.bool (all32 ps)) ∧ Below w.heap.size w w' := by
  obtain rfl : np = ps.length := by have := Hp.len; rwa [scells_len] at this
  go_enter Tryd.func82, Tryd.ntmps82
  have M := Mem.start w
  refine wp_seq_k (fun K1 hK1 => ?_)
  refine wp_region_seq ?_
  refine wpL_assign (v := .bool false) (by rfl) (by rfl) (by rfl) ?_
  simp only [putT, List.set]
  refine wpL_nil (no_panic ?_)
  refine hK1 _ _ ?_
  refine wp_seq_k (fun K3 hK3 => ?_)
  refine wp_region_seq ?_
  refine wpL_move (v := .slice ap ps.length cp) (by rfl) (by rfl) (by rfl) ?_
  simp only [putT, List.set]
  refine wpL_chunk 2 (by rfl) (fun Lk hLk => ?_)
  simp only [List.take, List.drop]
  refine wpV_callf (v := .bool (!all32 ps)) (args := #[.slice ap ps.length cp, .func (.func 99) #[] #[]]) (by rfl) rfl Tryd.func96 (by kernel_rfl) (by kernel_rfl) rfl (fun W hW => by with_reducible exact contp_r (ps := ps) hq ((M.sees hW).oldA Hp)) ?_
  simp only [putT, List.set]
  refine wpV_not (b := !all32 ps) (by rfl) rfl rfl ?_
  simp only [putT, List.set]
  refine wpV_nil (hLk _ (fun w5 Sw5 => ?_))
  clear hLk Lk
  simp only [List.take, List.drop]
  replace M := M.sees Sw5
  refine wpL_assign (v := .bool (!(!all32 ps))) (by rfl) (by rfl) (by rfl) ?_
  simp only [putT, List.set]
  refine wpL_nil (no_panic ?_)
  refine hK3 _ _ ?_
  refine wp_ret ?_
  repeat (first | with_reducible refine then_ret ?_ | with_reducible refine inblock_ret ?_)
  refine bodyPost_ret (v := .bool (!(!all32 ps))) (res1 rfl (.tmp (by rfl))) rfl ?_
  have BE := M.below
  exact ⟨by rw [Bool.not_not], BE⟩
set_option maxHeartbeats 1000000 in
theorem Holds_neg {ps : List (List UInt8)} {ap : Option Addr} {np cp : Nat} {leaf root : List UInt8} {x y : Int} {w : World} (hq : ps.length ≤ 4611686018427387904) (hx : x < 0) (Hp : RowA w ap np cp (scells ps)) :
    Calls Tryd.prog 56 #[.string (bs leaf), .int .i64 x, .int .i64 y, .slice ap np cp, .string (bs root)] w fun e w' => e = .returned (.int .i64 1) ∧ Below w.heap.size w w' := by
  obtain rfl : np = ps.length := by have := Hp.len; rwa [scells_len] at this
  go_enter Tryd.func56, Tryd.ntmps56
  have M := Mem.start w
  refine wp_seq_k (fun K1 hK1 => ?_)
  refine wp_region_seq ?_
  refine wpL_assign (v := .int .i64 0) (by rfl) (by rfl) (by rfl) ?_
  simp only [putT, List.set]
  refine wpL_nil (no_panic ?_)
  refine hK1 _ _ ?_
  refine wp_seq_k (fun K3 hK3 => ?_)
  refine wp_seq_k (fun K4 hK4 => ?_)
  refine wp_region_seq ?_
  refine wpL_move (v := .int .i64 x) (by rfl) (by rfl) (by rfl) ?_
  simp only [putT, List.set]
  refine wpL_chunk 13 (by rfl) (fun Lk hLk => ?_)
  simp only [List.take, List.drop]
  refine wpV_bin (v := .bool true) (by rfl) rfl rfl rfl (fun W => (run_lss _ _ _ _ W).trans (by rw [(decide_eq_true hx)])) ?_
  simp only [putT, List.set]
  refine wpV_move (v := .bool true) (by rfl) rfl rfl ?_
  simp only [putT, List.set]
  refine wpV_skip (by rfl) (by rfl) ?_
  simp only [putT, List.set]
  refine wpV_skip (by rfl) (by rfl) ?_
  simp only [putT, List.set]
  refine wpV_skip (by rfl) (by rfl) ?_
  simp only [putT, List.set]
  refine wpV_pick (v := .bool true) (by rfl) rfl rfl rfl ?_
  simp only [putT, List.set]
  refine wpV_move (v := .bool true) (by rfl) rfl rfl ?_
  simp only [putT, List.set]
  refine wpV_skip (by rfl) (by rfl) ?_
  simp only [putT, List.set]
  refine wpV_skip (by rfl) (by rfl) ?_
  simp only [putT, List.set]
  refine wpV_pick (v := .bool true) (by rfl) rfl rfl rfl ?_
  simp only [putT, List.set]
  refine wpV_move (v := .bool true) (by rfl) rfl rfl ?_
  simp only [putT, List.set]
  refine wpV_skip (by rfl) (by rfl) ?_
  simp only [putT, List.set]
  refine wpV_skip (by rfl) (by rfl) ?_
  simp only [putT, List.set]
  refine wpV_nil (hLk _ (fun w6 Sw6 => ?_))
  clear hLk Lk
  simp only [List.take, List.drop]
  replace M := M.sees Sw6
  refine wpL_chunk 1 (by rfl) (fun Lk hLk => ?_)
  simp only [List.take, List.drop]
  refine wpV_skip (by rfl) (by rfl) ?_
  simp only [putT, List.set]
  refine wpV_nil (hLk _ (fun w7 Sw7 => ?_))
  clear hLk Lk
  simp only [List.take, List.drop]
  replace M := M.sees Sw7
  refine wpL_chunk 8 (by rfl) (fun Lk hLk => ?_)
  simp only [List.take, List.drop]
  refine wpV_skip (by rfl) (by rfl) ?_
  simp only [putT, List.set]
  refine wpV_skip (by rfl) (by rfl) ?_
  simp only [putT, List.set]
  refine wpV_pick (v := .bool true) (by rfl) rfl rfl rfl ?_
  simp only [putT, List.set]
  refine wpV_move (v := .bool true) (by rfl) rfl rfl ?_
  simp only [putT, List.set]
  refine wpV_skip (by rfl) (by rfl) ?_
  simp only [putT, List.set]
  refine wpV_skip (by rfl) (by rfl) ?_
  simp only [putT, List.set]
  refine wpV_skip (by rfl) (by rfl) ?_
  simp only [putT, List.set]
  refine wpV_pick (v := .bool true) (by rfl) rfl rfl rfl ?_
  simp only [putT, List.set]
  refine wpV_nil (hLk _ (fun w8 Sw8 => ?_))
  clear hLk Lk
  simp only [List.take, List.drop]
  replace M := M.sees Sw8
  refine wpL_nil (no_panic ?_)
  refine hK4 _ _ ?_
  refine wp_cond_true rfl ?_
  refine wp_seq_k (fun K9 hK9 => ?_)
  refine wp_region_seq ?_
  refine wpL_assign (v := .int .i64 1) (by rfl) (by rfl) (by rfl) ?_
  simp only [putT, List.set]
  refine wpL_nil (no_panic ?_)
  refine hK9 _ _ ?_
  refine wp_ret ?_
  repeat (first | with_reducible refine then_ret ?_ | with_reducible refine inblock_ret ?_)
  refine bodyPost_ret (v := .int .i64 1) (res1 rfl (.tmp (by rfl))) rfl ?_
  have BE := M.below
  exact ⟨rfl, BE⟩
set_option maxHeartbeats 1000000 in
theorem Holds_far {ps : List (List UInt8)} {ap : Option Addr} {np cp : Nat} {leaf root : List UInt8} {x y : Int} {w : World} (hq : ps.length ≤ 4611686018427387904) (hx : ¬ x < 0) (hy : y ≤ x) (Hp : RowA w ap np cp (scells ps)) :
    Calls Tryd.prog 56 #[.string (bs leaf), .int .i64 x, .int .i64 y, .slice ap np cp, .string (bs root)] w fun e w' => e = .returned (.int .i64 1) ∧ Below w.heap.size w w' := by
  obtain rfl : np = ps.length := by have := Hp.len; rwa [scells_len] at this
  go_enter Tryd.func56, Tryd.ntmps56
  have M := Mem.start w
  refine wp_seq_k (fun K1 hK1 => ?_)
  refine wp_region_seq ?_
  refine wpL_assign (v := .int .i64 0) (by rfl) (by rfl) (by rfl) ?_
  simp only [putT, List.set]
  refine wpL_nil (no_panic ?_)
  refine hK1 _ _ ?_
  refine wp_seq_k (fun K3 hK3 => ?_)
  refine wp_seq_k (fun K4 hK4 => ?_)
  refine wp_region_seq ?_
  refine wpL_move (v := .int .i64 x) (by rfl) (by rfl) (by rfl) ?_
  simp only [putT, List.set]
  refine wpL_chunk 13 (by rfl) (fun Lk hLk => ?_)
  simp only [List.take, List.drop]
  refine wpV_bin (v := .bool false) (by rfl) rfl rfl rfl (fun W => (run_lss _ _ _ _ W).trans (by rw [(decide_eq_false hx)])) ?_
  simp only [putT, List.set]
  refine wpV_move (v := .bool false) (by rfl) rfl rfl ?_
  simp only [putT, List.set]
  refine wpV_move (v := .int .i64 x) (by rfl) rfl rfl ?_
  simp only [putT, List.set]
  refine wpV_move (v := .int .i64 y) (by rfl) rfl rfl ?_
  simp only [putT, List.set]
  refine wpV_bin (v := .bool true) (by rfl) rfl rfl rfl (fun W => (run_geq _ _ _ _ W).trans (by rw [(decide_eq_true hy)])) ?_
  simp only [putT, List.set]
  refine wpV_pick (v := .bool true) (by rfl) rfl rfl rfl ?_
  simp only [putT, List.set]
  refine wpV_move (v := .bool true) (by rfl) rfl rfl ?_
  simp only [putT, List.set]
  refine wpV_skip (by rfl) (by rfl) ?_
  simp only [putT, List.set]
  refine wpV_skip (by rfl) (by rfl) ?_
  simp only [putT, List.set]
  refine wpV_pick (v := .bool true) (by rfl) rfl rfl rfl ?_
  simp only [putT, List.set]
  refine wpV_move (v := .bool true) (by rfl) rfl rfl ?_
  simp only [putT, List.set]
  refine wpV_skip (by rfl) (by rfl) ?_
  simp only [putT, List.set]
  refine wpV_skip (by rfl) (by rfl) ?_
  simp only [putT, List.set]
  refine wpV_nil (hLk _ (fun w6 Sw6 => ?_))
  clear hLk Lk
  simp only [List.take, List.drop]
  replace M := M.sees Sw6
  refine wpL_chunk 1 (by rfl) (fun Lk hLk => ?_)
  simp only [List.take, List.drop]
  refine wpV_skip (by rfl) (by rfl) ?_
  simp only [putT, List.set]
  refine wpV_nil (hLk _ (fun w7 Sw7 => ?_))
  clear hLk Lk
  simp only [List.take, List.drop]
  replace M := M.sees Sw7
  refine wpL_chunk 8 (by rfl) (fun Lk hLk => ?_)
  simp only [List.take, List.drop]
  refine wpV_skip (by rfl) (by rfl) ?_
  simp only [putT, List.set]
  refine wpV_skip (by rfl) (by rfl) ?_
  simp only [putT, List.set]
  refine wpV_pick (v := .bool true) (by rfl) rfl rfl rfl ?_
  simp only [putT, List.set]
  refine wpV_move (v := .bool true) (by rfl) rfl rfl ?_
  simp only [putT, List.set]
  refine wpV_skip (by rfl) (by rfl) ?_
  simp only [putT, List.set]
  refine wpV_skip (by rfl) (by rfl) ?_
  simp only [putT, List.set]
  refine wpV_skip (by rfl) (by rfl) ?_
  simp only [putT, List.set]
  refine wpV_pick (v := .bool true) (by rfl) rfl rfl rfl ?_
  simp only [putT, List.set]
  refine wpV_nil (hLk _ (fun w8 Sw8 => ?_))
  clear hLk Lk
  simp only [List.take, List.drop]
  replace M := M.sees Sw8
  refine wpL_nil (no_panic ?_)
  refine hK4 _ _ ?_
  refine wp_cond_true rfl ?_
  refine wp_seq_k (fun K9 hK9 => ?_)
  refine wp_region_seq ?_
  refine wpL_assign (v := .int .i64 1) (by rfl) (by rfl) (by rfl) ?_
  simp only [putT, List.set]
  refine wpL_nil (no_panic ?_)
  refine hK9 _ _ ?_
  refine wp_ret ?_
  repeat (first | with_reducible refine then_ret ?_ | with_reducible refine inblock_ret ?_)
  refine bodyPost_ret (v := .int .i64 1) (res1 rfl (.tmp (by rfl))) rfl ?_
  have BE := M.below
  exact ⟨rfl, BE⟩
set_option maxHeartbeats 1000000 in
theorem Holds_many {ps : List (List UInt8)} {ap : Option Addr} {np cp : Nat} {leaf root : List UInt8} {x y : Int} {w : World} (hq : ps.length ≤ 4611686018427387904) (hx : ¬ x < 0) (hy : ¬ y ≤ x) (hm : 4096 < y) (Hp : RowA w ap np cp (scells ps)) :
    Calls Tryd.prog 56 #[.string (bs leaf), .int .i64 x, .int .i64 y, .slice ap np cp, .string (bs root)] w fun e w' => e = .returned (.int .i64 1) ∧ Below w.heap.size w w' := by
  obtain rfl : np = ps.length := by have := Hp.len; rwa [scells_len] at this
  go_enter Tryd.func56, Tryd.ntmps56
  have M := Mem.start w
  refine wp_seq_k (fun K1 hK1 => ?_)
  refine wp_region_seq ?_
  refine wpL_assign (v := .int .i64 0) (by rfl) (by rfl) (by rfl) ?_
  simp only [putT, List.set]
  refine wpL_nil (no_panic ?_)
  refine hK1 _ _ ?_
  refine wp_seq_k (fun K3 hK3 => ?_)
  refine wp_seq_k (fun K4 hK4 => ?_)
  refine wp_region_seq ?_
  refine wpL_move (v := .int .i64 x) (by rfl) (by rfl) (by rfl) ?_
  simp only [putT, List.set]
  refine wpL_chunk 13 (by rfl) (fun Lk hLk => ?_)
  simp only [List.take, List.drop]
  refine wpV_bin (v := .bool false) (by rfl) rfl rfl rfl (fun W => (run_lss _ _ _ _ W).trans (by rw [(decide_eq_false hx)])) ?_
  simp only [putT, List.set]
  refine wpV_move (v := .bool false) (by rfl) rfl rfl ?_
  simp only [putT, List.set]
  refine wpV_move (v := .int .i64 x) (by rfl) rfl rfl ?_
  simp only [putT, List.set]
  refine wpV_move (v := .int .i64 y) (by rfl) rfl rfl ?_
  simp only [putT, List.set]
  refine wpV_bin (v := .bool false) (by rfl) rfl rfl rfl (fun W => (run_geq _ _ _ _ W).trans (by rw [(decide_eq_false hy)])) ?_
  simp only [putT, List.set]
  refine wpV_pick (v := .bool false) (by rfl) rfl rfl rfl ?_
  simp only [putT, List.set]
  refine wpV_move (v := .bool false) (by rfl) rfl rfl ?_
  simp only [putT, List.set]
  refine wpV_move (v := .int .i64 y) (by rfl) rfl rfl ?_
  simp only [putT, List.set]
  refine wpV_bin (v := .bool true) (by rfl) rfl rfl rfl (fun W => (run_gtr _ _ _ _ W).trans (by rw [(decide_eq_true hm)])) ?_
  simp only [putT, List.set]
  refine wpV_pick (v := .bool true) (by rfl) rfl rfl rfl ?_
  simp only [putT, List.set]
  refine wpV_move (v := .bool true) (by rfl) rfl rfl ?_
  simp only [putT, List.set]
  refine wpV_skip (by rfl) (by rfl) ?_
  simp only [putT, List.set]
  refine wpV_skip (by rfl) (by rfl) ?_
  simp only [putT, List.set]
  refine wpV_nil (hLk _ (fun w6 Sw6 => ?_))
  clear hLk Lk
  simp only [List.take, List.drop]
  replace M := M.sees Sw6
  refine wpL_chunk 1 (by rfl) (fun Lk hLk => ?_)
  simp only [List.take, List.drop]
  refine wpV_skip (by rfl) (by rfl) ?_
  simp only [putT, List.set]
  refine wpV_nil (hLk _ (fun w7 Sw7 => ?_))
  clear hLk Lk
  simp only [List.take, List.drop]
  replace M := M.sees Sw7
  refine wpL_chunk 8 (by rfl) (fun Lk hLk => ?_)
  simp only [List.take, List.drop]
  refine wpV_skip (by rfl) (by rfl) ?_
  simp only [putT, List.set]
  refine wpV_skip (by rfl) (by rfl) ?_
  simp only [putT, List.set]
  refine wpV_pick (v := .bool true) (by rfl) rfl rfl rfl ?_
  simp only [putT, List.set]
  refine wpV_move (v := .bool true) (by rfl) rfl rfl ?_
  simp only [putT, List.set]
  refine wpV_skip (by rfl) (by rfl) ?_
  simp only [putT, List.set]
  refine wpV_skip (by rfl) (by rfl) ?_
  simp only [putT, List.set]
  refine wpV_skip (by rfl) (by rfl) ?_
  simp only [putT, List.set]
  refine wpV_pick (v := .bool true) (by rfl) rfl rfl rfl ?_
  simp only [putT, List.set]
  refine wpV_nil (hLk _ (fun w8 Sw8 => ?_))
  clear hLk Lk
  simp only [List.take, List.drop]
  replace M := M.sees Sw8
  refine wpL_nil (no_panic ?_)
  refine hK4 _ _ ?_
  refine wp_cond_true rfl ?_
  refine wp_seq_k (fun K9 hK9 => ?_)
  refine wp_region_seq ?_
  refine wpL_assign (v := .int .i64 1) (by rfl) (by rfl) (by rfl) ?_
  simp only [putT, List.set]
  refine wpL_nil (no_panic ?_)
  refine hK9 _ _ ?_
  refine wp_ret ?_
  repeat (first | with_reducible refine then_ret ?_ | with_reducible refine inblock_ret ?_)
  refine bodyPost_ret (v := .int .i64 1) (res1 rfl (.tmp (by rfl))) rfl ?_
  have BE := M.below
  exact ⟨rfl, BE⟩
set_option maxHeartbeats 1000000 in
theorem Holds_two {ps : List (List UInt8)} {ap : Option Addr} {np cp : Nat} {leaf root : List UInt8} {x y : Int} {w : World} (hq : ps.length ≤ 4611686018427387904) (hx : ¬ x < 0) (hy : ¬ y ≤ x) (hm : ¬ 4096 < y) (ht : all32 [leaf, root] = false) (Hp : RowA w ap np cp (scells ps)) :
    Calls Tryd.prog 56 #[.string (bs leaf), .int .i64 x, .int .i64 y, .slice ap np cp, .string (bs root)] w fun e w' => e = .returned (.int .i64 1) ∧ Below w.heap.size w w' := by
  obtain rfl : np = ps.length := by have := Hp.len; rwa [scells_len] at this
  go_enter Tryd.func56, Tryd.ntmps56
  have M := Mem.start w
  refine wp_seq_k (fun K1 hK1 => ?_)
  refine wp_region_seq ?_
  refine wpL_assign (v := .int .i64 0) (by rfl) (by rfl) (by rfl) ?_
  simp only [putT, List.set]
  refine wpL_nil (no_panic ?_)
  refine hK1 _ _ ?_
  refine wp_seq_k (fun K3 hK3 => ?_)
  refine wp_seq_k (fun K4 hK4 => ?_)
  refine wp_region_seq ?_
  refine wpL_move (v := .int .i64 x) (by rfl) (by rfl) (by rfl) ?_
  simp only [putT, List.set]
  refine wpL_chunk 13 (by rfl) (fun Lk hLk => ?_)
  simp only [List.take, List.drop]
  refine wpV_bin (v := .bool false) (by rfl) rfl rfl rfl (fun W => (run_lss _ _ _ _ W).trans (by rw [(decide_eq_false hx)])) ?_
  simp only [putT, List.set]
  refine wpV_move (v := .bool false) (by rfl) rfl rfl ?_
  simp only [putT, List.set]
  refine wpV_move (v := .int .i64 x) (by rfl) rfl rfl ?_
  simp only [putT, List.set]
  refine wpV_move (v := .int .i64 y) (by rfl) rfl rfl ?_
  simp only [putT, List.set]
  refine wpV_bin (v := .bool false) (by rfl) rfl rfl rfl (fun W => (run_geq _ _ _ _ W).trans (by rw [(decide_eq_false hy)])) ?_
  simp only [putT, List.set]
  refine wpV_pick (v := .bool false) (by rfl) rfl rfl rfl ?_
  simp only [putT, List.set]
  refine wpV_move (v := .bool false) (by rfl) rfl rfl ?_
  simp only [putT, List.set]
  refine wpV_move (v := .int .i64 y) (by rfl) rfl rfl ?_
  simp only [putT, List.set]
  refine wpV_bin (v := .bool false) (by rfl) rfl rfl rfl (fun W => (run_gtr _ _ _ _ W).trans (by rw [(decide_eq_false hm)])) ?_
  simp only [putT, List.set]
  refine wpV_pick (v := .bool false) (by rfl) rfl rfl rfl ?_
  simp only [putT, List.set]
  refine wpV_move (v := .bool false) (by rfl) rfl rfl ?_
  simp only [putT, List.set]
  refine wpV_move (v := .string (bs leaf)) (by rfl) rfl rfl ?_
  simp only [putT, List.set]
  refine wpV_move (v := .string (bs root)) (by rfl) rfl rfl ?_
  simp only [putT, List.set]
  refine wpV_nil (hLk _ (fun w6 Sw6 => ?_))
  clear hLk Lk
  simp only [List.take, List.drop]
  replace M := M.sees Sw6
  refine wpL_guard (by rfl) ?_
  refine wpL_rowN (vs := [.string (bs leaf), .string (bs root)]) (z := .string { data := #[] }) (bytes := 16) (by rfl) (by rfl) Tryd.underlying48 (by kernel_rfl) (by decide) (by kernel_rfl) (fun g7 w8 Sw8 Hg7 Bg7 => ?_)
  replace M := ((M.sees Sw8).add (N := 2) (cs := [.string (bs leaf), .string (bs root)]) (M.ge Hg7) (M.fresh Hg7) Bg7 rfl)
  clear Bg7
  simp only [putT, List.set]
  refine wpL_chunk 8 (by rfl) (fun Lk hLk => ?_)
  simp only [List.take, List.drop]
  refine wpV_callf (v := .bool false) (args := #[.slice (some ⟨g7, 0, none⟩) 2 2]) (by rfl) rfl Tryd.func82 (by kernel_rfl) (by kernel_rfl) rfl (fun W hW => by have h9 : Calls Tryd.prog _ _ W _ := wellp_r (ps := [leaf, root]) (show 2 ≤ 4611686018427387904 by decide) (RowA.of ((M.sees hW).r 0 0 rfl rfl) ((M.sees hW).lt 0 rfl) rfl (Nat.le_refl _)); rw [ht] at h9; exact h9) ?_
  simp only [putT, List.set]
  refine wpV_not (b := false) (by rfl) rfl rfl ?_
  simp only [Bool.not_true, Bool.not_false]
  simp only [putT, List.set]
  refine wpV_pick (v := .bool true) (by rfl) rfl rfl rfl ?_
  simp only [putT, List.set]
  refine wpV_move (v := .bool true) (by rfl) rfl rfl ?_
  simp only [putT, List.set]
  refine wpV_skip (by rfl) (by rfl) ?_
  simp only [putT, List.set]
  refine wpV_skip (by rfl) (by rfl) ?_
  simp only [putT, List.set]
  refine wpV_skip (by rfl) (by rfl) ?_
  simp only [putT, List.set]
  refine wpV_pick (v := .bool true) (by rfl) rfl rfl rfl ?_
  simp only [putT, List.set]
  refine wpV_nil (hLk _ (fun w9 Sw9 => ?_))
  clear hLk Lk
  simp only [List.take, List.drop]
  replace M := M.sees Sw9
  refine wpL_nil (no_panic ?_)
  refine hK4 _ _ ?_
  refine wp_cond_true rfl ?_
  refine wp_seq_k (fun K10 hK10 => ?_)
  refine wp_region_seq ?_
  refine wpL_assign (v := .int .i64 1) (by rfl) (by rfl) (by rfl) ?_
  simp only [putT, List.set]
  refine wpL_nil (no_panic ?_)
  refine hK10 _ _ ?_
  refine wp_ret ?_
  repeat (first | with_reducible refine then_ret ?_ | with_reducible refine inblock_ret ?_)
  refine bodyPost_ret (v := .int .i64 1) (res1 rfl (.tmp (by rfl))) rfl ?_
  have BE := M.below
  exact ⟨rfl, BE⟩
set_option maxHeartbeats 1000000 in
theorem Holds_path {ps : List (List UInt8)} {ap : Option Addr} {np cp : Nat} {leaf root : List UInt8} {x y : Int} {w : World} (hq : ps.length ≤ 4611686018427387904) (hx : ¬ x < 0) (hy : ¬ y ≤ x) (hm : ¬ 4096 < y) (ht : all32 [leaf, root] = true) (hp : all32 ps = false) (Hp : RowA w ap np cp (scells ps)) :
    Calls Tryd.prog 56 #[.string (bs leaf), .int .i64 x, .int .i64 y, .slice ap np cp, .string (bs root)] w fun e w' => e = .returned (.int .i64 1) ∧ Below w.heap.size w w' := by
  obtain rfl : np = ps.length := by have := Hp.len; rwa [scells_len] at this
  go_enter Tryd.func56, Tryd.ntmps56
  have M := Mem.start w
  refine wp_seq_k (fun K1 hK1 => ?_)
  refine wp_region_seq ?_
  refine wpL_assign (v := .int .i64 0) (by rfl) (by rfl) (by rfl) ?_
  simp only [putT, List.set]
  refine wpL_nil (no_panic ?_)
  refine hK1 _ _ ?_
  refine wp_seq_k (fun K3 hK3 => ?_)
  refine wp_seq_k (fun K4 hK4 => ?_)
  refine wp_region_seq ?_
  refine wpL_move (v := .int .i64 x) (by rfl) (by rfl) (by rfl) ?_
  simp only [putT, List.set]
  refine wpL_chunk 13 (by rfl) (fun Lk hLk => ?_)
  simp only [List.take, List.drop]
  refine wpV_bin (v := .bool false) (by rfl) rfl rfl rfl (fun W => (run_lss _ _ _ _ W).trans (by rw [(decide_eq_false hx)])) ?_
  simp only [putT, List.set]
  refine wpV_move (v := .bool false) (by rfl) rfl rfl ?_
  simp only [putT, List.set]
  refine wpV_move (v := .int .i64 x) (by rfl) rfl rfl ?_
  simp only [putT, List.set]
  refine wpV_move (v := .int .i64 y) (by rfl) rfl rfl ?_
  simp only [putT, List.set]
  refine wpV_bin (v := .bool false) (by rfl) rfl rfl rfl (fun W => (run_geq _ _ _ _ W).trans (by rw [(decide_eq_false hy)])) ?_
  simp only [putT, List.set]
  refine wpV_pick (v := .bool false) (by rfl) rfl rfl rfl ?_
  simp only [putT, List.set]
  refine wpV_move (v := .bool false) (by rfl) rfl rfl ?_
  simp only [putT, List.set]
  refine wpV_move (v := .int .i64 y) (by rfl) rfl rfl ?_
  simp only [putT, List.set]
  refine wpV_bin (v := .bool false) (by rfl) rfl rfl rfl (fun W => (run_gtr _ _ _ _ W).trans (by rw [(decide_eq_false hm)])) ?_
  simp only [putT, List.set]
  refine wpV_pick (v := .bool false) (by rfl) rfl rfl rfl ?_
  simp only [putT, List.set]
  refine wpV_move (v := .bool false) (by rfl) rfl rfl ?_
  simp only [putT, List.set]
  refine wpV_move (v := .string (bs leaf)) (by rfl) rfl rfl ?_
  simp only [putT, List.set]
  refine wpV_move (v := .string (bs root)) (by rfl) rfl rfl ?_
  simp only [putT, List.set]
  refine wpV_nil (hLk _ (fun w6 Sw6 => ?_))
  clear hLk Lk
  simp only [List.take, List.drop]
  replace M := M.sees Sw6
  refine wpL_guard (by rfl) ?_
  refine wpL_rowN (vs := [.string (bs leaf), .string (bs root)]) (z := .string { data := #[] }) (bytes := 16) (by rfl) (by rfl) Tryd.underlying48 (by kernel_rfl) (by decide) (by kernel_rfl) (fun g7 w8 Sw8 Hg7 Bg7 => ?_)
  replace M := ((M.sees Sw8).add (N := 2) (cs := [.string (bs leaf), .string (bs root)]) (M.ge Hg7) (M.fresh Hg7) Bg7 rfl)
  clear Bg7
  simp only [putT, List.set]
  refine wpL_chunk 8 (by rfl) (fun Lk hLk => ?_)
  simp only [List.take, List.drop]
  refine wpV_callf (v := .bool true) (args := #[.slice (some ⟨g7, 0, none⟩) 2 2]) (by rfl) rfl Tryd.func82 (by kernel_rfl) (by kernel_rfl) rfl (fun W hW => by have h9 : Calls Tryd.prog _ _ W _ := wellp_r (ps := [leaf, root]) (show 2 ≤ 4611686018427387904 by decide) (RowA.of ((M.sees hW).r 0 0 rfl rfl) ((M.sees hW).lt 0 rfl) rfl (Nat.le_refl _)); rw [ht] at h9; exact h9) ?_
  simp only [putT, List.set]
  refine wpV_not (b := true) (by rfl) rfl rfl ?_
  simp only [Bool.not_true, Bool.not_false]
  simp only [putT, List.set]
  refine wpV_pick (v := .bool false) (by rfl) rfl rfl rfl ?_
  simp only [putT, List.set]
  refine wpV_move (v := .bool false) (by rfl) rfl rfl ?_
  simp only [putT, List.set]
  refine wpV_move (v := .slice ap ps.length cp) (by rfl) rfl rfl ?_
  simp only [putT, List.set]
  refine wpV_callf (v := .bool false) (args := #[.slice ap ps.length cp]) (by rfl) rfl Tryd.func82 (by kernel_rfl) (by kernel_rfl) rfl (fun W hW => by have h9 : Calls Tryd.prog _ _ W _ := wellp_r (ps := ps) hq ((M.sees hW).oldA Hp); rw [hp] at h9; exact h9) ?_
  simp only [putT, List.set]
  refine wpV_not (b := false) (by rfl) rfl rfl ?_
  simp only [Bool.not_true, Bool.not_false]
  simp only [putT, List.set]
  refine wpV_pick (v := .bool true) (by rfl) rfl rfl rfl ?_
  simp only [putT, List.set]
  refine wpV_nil (hLk _ (fun w9 Sw9 => ?_))
  clear hLk Lk
  simp only [List.take, List.drop]
  replace M := M.sees Sw9
  refine wpL_nil (no_panic ?_)
  refine hK4 _ _ ?_
  refine wp_cond_true rfl ?_
  refine wp_seq_k (fun K10 hK10 => ?_)
  refine wp_region_seq ?_
  refine wpL_assign (v := .int .i64 1) (by rfl) (by rfl) (by rfl) ?_
  simp only [putT, List.set]
  refine wpL_nil (no_panic ?_)
  refine hK10 _ _ ?_
  refine wp_ret ?_
  repeat (first | with_reducible refine then_ret ?_ | with_reducible refine inblock_ret ?_)
  refine bodyPost_ret (v := .int .i64 1) (res1 rfl (.tmp (by rfl))) rfl ?_
  have BE := M.below
  exact ⟨rfl, BE⟩
set_option maxHeartbeats 1000000 in
theorem Holds_go {ps : List (List UInt8)} {ap : Option Addr} {np cp : Nat} {leaf root : List UInt8} {i n : Nat} {w : World} (hq : ps.length ≤ 4611686018427387904) (hi : i < n) (hn : n ≤ 4096) (ht : all32 [leaf, root] = true) (hp : all32 ps = true) (L0 : 0 < w.heap.size) (R0_0 : w.rangeAt 0 0 kcells) (Hp : RowA w ap np cp (scells ps)) :
    Calls Tryd.prog 56 #[.string (bs leaf), .int .i64 ((i : Nat) : Int), .int .i64 ((n : Nat) : Int), .slice ap np cp, .string (bs root)] w fun e w' => e = .returned (.int .i64 (if makesT leaf i n ps = root then 0 else 13)) ∧ Below w.heap.size w w' := by
  obtain rfl : np = ps.length := by have := Hp.len; rwa [scells_len] at this
  have h32 := all32_mem hp
  have hl2 := all32_mem ht
  have hlf : leaf.length = 32 := hl2 leaf (.head _)
  have hrt : root.length = 32 := hl2 root (.tail _ (.head _))
  have hlne : leaf ≠ [] := fun e9 => by rw [e9] at hlf; cases hlf
  have hrne : root ≠ [] := fun e9 => by rw [e9] at hrt; cases hrt
  have hwm := walk_makes (ps := ps) (by omega : 1 ≤ n) hi hlne root hrne
  go_enter Tryd.func56, Tryd.ntmps56
  have M := Mem.start w
  refine wp_seq_k (fun K1 hK1 => ?_)
  refine wp_region_seq ?_
  refine wpL_assign (v := .int .i64 0) (by rfl) (by rfl) (by rfl) ?_
  simp only [putT, List.set]
  refine wpL_nil (no_panic ?_)
  refine hK1 _ _ ?_
  refine wp_seq_k (fun K3 hK3 => ?_)
  refine wp_seq_k (fun K4 hK4 => ?_)
  refine wp_region_seq ?_
  refine wpL_move (v := .int .i64 ((i : Nat) : Int)) (by rfl) (by rfl) (by rfl) ?_
  simp only [putT, List.set]
  refine wpL_chunk 13 (by rfl) (fun Lk hLk => ?_)
  simp only [List.take, List.drop]
  refine wpV_bin (v := .bool false) (by rfl) rfl rfl rfl (fun W => (run_lssN i 0 _ _ W).trans (by rw [(decide_eq_false (Nat.not_lt_zero i))])) ?_
  simp only [putT, List.set]
  refine wpV_move (v := .bool false) (by rfl) rfl rfl ?_
  simp only [putT, List.set]
  refine wpV_move (v := .int .i64 ((i : Nat) : Int)) (by rfl) rfl rfl ?_
  simp only [putT, List.set]
  refine wpV_move (v := .int .i64 ((n : Nat) : Int)) (by rfl) rfl rfl ?_
  simp only [putT, List.set]
  refine wpV_bin (v := .bool false) (by rfl) rfl rfl rfl (fun W => (run_geqN i n _ _ W).trans (by rw [(decide_eq_false (Nat.not_le.2 hi))])) ?_
  simp only [putT, List.set]
  refine wpV_pick (v := .bool false) (by rfl) rfl rfl rfl ?_
  simp only [putT, List.set]
  refine wpV_move (v := .bool false) (by rfl) rfl rfl ?_
  simp only [putT, List.set]
  refine wpV_move (v := .int .i64 ((n : Nat) : Int)) (by rfl) rfl rfl ?_
  simp only [putT, List.set]
  refine wpV_bin (v := .bool false) (by rfl) rfl rfl rfl (fun W => (run_gtrN n 4096 _ _ W).trans (by rw [(decide_eq_false (Nat.not_lt.2 hn))])) ?_
  simp only [putT, List.set]
  refine wpV_pick (v := .bool false) (by rfl) rfl rfl rfl ?_
  simp only [putT, List.set]
  refine wpV_move (v := .bool false) (by rfl) rfl rfl ?_
  simp only [putT, List.set]
  refine wpV_move (v := .string (bs leaf)) (by rfl) rfl rfl ?_
  simp only [putT, List.set]
  refine wpV_move (v := .string (bs root)) (by rfl) rfl rfl ?_
  simp only [putT, List.set]
  refine wpV_nil (hLk _ (fun w6 Sw6 => ?_))
  clear hLk Lk
  simp only [List.take, List.drop]
  replace M := M.sees Sw6
  refine wpL_guard (by rfl) ?_
  refine wpL_rowN (vs := [.string (bs leaf), .string (bs root)]) (z := .string { data := #[] }) (bytes := 16) (by rfl) (by rfl) Tryd.underlying48 (by kernel_rfl) (by decide) (by kernel_rfl) (fun g7 w8 Sw8 Hg7 Bg7 => ?_)
  replace M := ((M.sees Sw8).add (N := 2) (cs := [.string (bs leaf), .string (bs root)]) (M.ge Hg7) (M.fresh Hg7) Bg7 rfl)
  clear Bg7
  simp only [putT, List.set]
  refine wpL_chunk 8 (by rfl) (fun Lk hLk => ?_)
  simp only [List.take, List.drop]
  refine wpV_callf (v := .bool true) (args := #[.slice (some ⟨g7, 0, none⟩) 2 2]) (by rfl) rfl Tryd.func82 (by kernel_rfl) (by kernel_rfl) rfl (fun W hW => by have h9 : Calls Tryd.prog _ _ W _ := wellp_r (ps := [leaf, root]) (show 2 ≤ 4611686018427387904 by decide) (RowA.of ((M.sees hW).r 0 0 rfl rfl) ((M.sees hW).lt 0 rfl) rfl (Nat.le_refl _)); rw [ht] at h9; exact h9) ?_
  simp only [putT, List.set]
  refine wpV_not (b := true) (by rfl) rfl rfl ?_
  simp only [Bool.not_true, Bool.not_false]
  simp only [putT, List.set]
  refine wpV_pick (v := .bool false) (by rfl) rfl rfl rfl ?_
  simp only [putT, List.set]
  refine wpV_move (v := .bool false) (by rfl) rfl rfl ?_
  simp only [putT, List.set]
  refine wpV_move (v := .slice ap ps.length cp) (by rfl) rfl rfl ?_
  simp only [putT, List.set]
  refine wpV_callf (v := .bool true) (args := #[.slice ap ps.length cp]) (by rfl) rfl Tryd.func82 (by kernel_rfl) (by kernel_rfl) rfl (fun W hW => by have h9 : Calls Tryd.prog _ _ W _ := wellp_r (ps := ps) hq ((M.sees hW).oldA Hp); rw [hp] at h9; exact h9) ?_
  simp only [putT, List.set]
  refine wpV_not (b := true) (by rfl) rfl rfl ?_
  simp only [Bool.not_true, Bool.not_false]
  simp only [putT, List.set]
  refine wpV_pick (v := .bool false) (by rfl) rfl rfl rfl ?_
  simp only [putT, List.set]
  refine wpV_nil (hLk _ (fun w9 Sw9 => ?_))
  clear hLk Lk
  simp only [List.take, List.drop]
  replace M := M.sees Sw9
  refine wpL_nil (no_panic ?_)
  refine hK4 _ _ ?_
  refine wp_cond_false rfl ?_
  refine wp_skip ?_
  refine hK3 _ _ ?_
  refine wp_seq_k (fun K10 hK10 => ?_)
  refine wp_region_seq ?_
  refine wpL_move (v := .string (bs leaf)) (by rfl) (by rfl) (by rfl) ?_
  simp only [putT, List.set]
  refine wpL_var (t := 9) (cs := [.string { data := #[] }]) (by rfl) (fun W => ?_) (fun g12 w13 Sw13 Hg12 Bg12 => ?_)
  · go_simp
  replace M := ((M.sees Sw13).add (N := 1) (cs := [.string { data := #[] }]) (M.ge Hg12) (M.fresh Hg12) Bg12 rfl)
  clear Bg12
  simp only [putT, List.set]
  refine wpL_store1 (g := g12) (off := 0) (n := 1) (v := .string (bs leaf)) (by rfl) (by rfl) (by rfl) (by rfl) (by rfl) (M.t 0 rfl) (by decide) info9 rfl (fun w14 P R T => ?_)
  replace M := M.putS (new := [.string (bs leaf)]) 0 0 rfl P R T rfl ⟨.inl rfl, trivial⟩
  simp only [List.set] at M
  refine wpL_nil (no_panic ?_)
  refine hK10 _ _ ?_
  refine wp_seq_k (fun K15 hK15 => ?_)
  refine wp_region_seq ?_
  refine wpL_move (v := .int .i64 ((i : Nat) : Int)) (by rfl) (by rfl) (by rfl) ?_
  simp only [putT, List.set]
  refine wpL_move (v := .int .i64 ((n : Nat) : Int)) (by rfl) (by rfl) (by rfl) ?_
  simp only [putT, List.set]
  refine wpL_chunk 3 (by rfl) (fun Lk hLk => ?_)
  simp only [List.take, List.drop]
  refine wpV_bin (v := .int .i64 ((n - 1 : Nat) : Int)) (by rfl) rfl rfl rfl (fun W => run_sub (by simp only [IntKind.wrap_i64]; omega) W) ?_
  simp only [putT, List.set]
  refine wpV_move (v := .slice ap ps.length cp) (by rfl) rfl rfl ?_
  simp only [putT, List.set]
  refine wpV_val (v := .func (.func 84) #[] #[.pointer (some ⟨g12, 0, none⟩)]) (by rfl) (by rfl) (fun W hW => ?_) ?_
  · (unfold RunsVal; kernel_rfl)
  simp only [putT, List.set]
  refine wpV_nil (hLk _ (fun w17 Sw17 => ?_))
  clear hLk Lk
  simp only [List.take, List.drop]
  replace M := M.sees Sw17
  refine wpL_callM (f := 83) (args := #[.int .i64 ((i : Nat) : Int), .int .i64 ((n - 1 : Nat) : Int), .slice ap ps.length cp, .func (.func 84) #[] #[.pointer (some ⟨g12, 0, none⟩)]]) (R := fun v9 W9 => v9 = .bool ((walkF nodeF ps i (n - 1) leaf).1) ∧ Mem [g12] w17 W9 [⟨g12, 1, [(0, [.string (bs (walkF nodeF ps i (n - 1) leaf).2)])]⟩]) (by rfl) (by rfl) rfl Tryd.func83 (by kernel_rfl) (by kernel_rfl) (walkH_c (ps := ps) (a0 := i) (l0 := n - 1) (s0 := leaf) hq (by omega) (by omega) (fun hk => getD_32 h32 hk) hlf (M.ne0 0 rfl L0) (M.oldL L0) (M.oldR R0_0 L0) (M.notin 0 rfl Hp) (M.one 0 rfl)) (fun v9 w18 h9 => ?_)
  obtain ⟨rfl, M9⟩ := h9
  replace M := M.callM1 0 rfl M9
  simp only [List.set] at M
  simp only [putT, List.set]
  refine wpL_assign (v := .bool ((walkF nodeF ps i (n - 1) leaf).1)) (by rfl) (by rfl) (by rfl) ?_
  simp only [putT, List.set]
  refine wpL_nil (no_panic ?_)
  refine hK15 _ _ ?_
  refine wp_seq_k (fun K19 hK19 => ?_)
  refine wp_seq_k (fun K20 hK20 => ?_)
  cases hw1 : (walkF nodeF ps i (n - 1) leaf).1
  · skip
    refine wp_region_seq ?_
    refine wpL_move (v := .bool false) (by rfl) (by rfl) (by rfl) ?_
    simp only [putT, List.set]
    refine wpL_chunk 6 (by rfl) (fun Lk hLk => ?_)
    simp only [List.take, List.drop]
    refine wpV_not (b := false) (by rfl) rfl rfl ?_
    simp only [Bool.not_true, Bool.not_false]
    simp only [putT, List.set]
    refine wpV_move (v := .bool true) (by rfl) rfl rfl ?_
    simp only [putT, List.set]
    refine wpV_skip (by rfl) (by rfl) ?_
    simp only [putT, List.set]
    refine wpV_skip (by rfl) (by rfl) ?_
    simp only [putT, List.set]
    refine wpV_skip (by rfl) (by rfl) ?_
    simp only [putT, List.set]
    refine wpV_pick (v := .bool true) (by rfl) rfl rfl rfl ?_
    simp only [putT, List.set]
    refine wpV_nil (hLk _ (fun w22 Sw22 => ?_))
    clear hLk Lk
    simp only [List.take, List.drop]
    replace M := M.sees Sw22
    refine wpL_nil (no_panic ?_)
    refine hK20 _ _ ?_
    refine wp_cond_true rfl ?_
    refine wp_seq_k (fun K23 hK23 => ?_)
    refine wp_region_seq ?_
    refine wpL_assign (v := .int .i64 13) (by rfl) (by rfl) (by rfl) ?_
    simp only [putT, List.set]
    refine wpL_nil (no_panic ?_)
    refine hK23 _ _ ?_
    refine wp_ret ?_
    repeat (first | with_reducible refine then_ret ?_ | with_reducible refine inblock_ret ?_)
    refine bodyPost_ret (v := .int .i64 13) (res1 rfl (.tmp (by rfl))) rfl ?_
    have BE := M.below
    exact ⟨by rw [if_neg (fun e9 => by have := (hwm.2 e9).1; rw [hw1] at this; cases this)], BE⟩
  · skip
    refine wp_region_seq ?_
    refine wpL_move (v := .bool true) (by rfl) (by rfl) (by rfl) ?_
    simp only [putT, List.set]
    refine wpL_chunk 6 (by rfl) (fun Lk hLk => ?_)
    simp only [List.take, List.drop]
    refine wpV_not (b := true) (by rfl) rfl rfl ?_
    simp only [Bool.not_true, Bool.not_false]
    simp only [putT, List.set]
    refine wpV_move (v := .bool false) (by rfl) rfl rfl ?_
    simp only [putT, List.set]
    refine wpV_load1 (v := .string (bs ((walkF nodeF ps i (n - 1) leaf).2))) (by rfl) rfl rfl (range_one (M.r 0 0 rfl rfl)) (M.lt 0 rfl) Tryd.underlying9 rfl ?_
    simp only [putT, List.set]
    refine wpV_move (v := .string (bs root)) (by rfl) rfl rfl ?_
    simp only [putT, List.set]
    refine wpV_binS (v := .bool (decide ((walkF nodeF ps i (n - 1) leaf).2 ≠ root))) (by rfl) rfl rfl rfl (run_neq_bs _ _ _) ?_
    simp only [putT, List.set]
    refine wpV_pick (v := .bool (decide ((walkF nodeF ps i (n - 1) leaf).2 ≠ root))) (by rfl) rfl rfl rfl ?_
    simp only [putT, List.set]
    refine wpV_nil (hLk _ (fun w26 Sw26 => ?_))
    clear hLk Lk
    simp only [List.take, List.drop]
    replace M := M.sees Sw26
    refine wpL_nil (no_panic ?_)
    refine hK20 _ _ ?_
    cases hc27 : (decide ((walkF nodeF ps i (n - 1) leaf).2 ≠ root))
    · skip
      have hw2 : ¬ (walkF nodeF ps i (n - 1) leaf).2 ≠ root := of_decide_eq_false hc27
      refine wp_cond_false rfl ?_
      refine wp_skip ?_
      refine hK19 _ _ ?_
      refine wp_seq_k (fun K28 hK28 => ?_)
      refine wp_region_seq ?_
      refine wpL_assign (v := .int .i64 0) (by rfl) (by rfl) (by rfl) ?_
      simp only [putT, List.set]
      refine wpL_nil (no_panic ?_)
      refine hK28 _ _ ?_
      refine wp_ret ?_
      repeat (first | with_reducible refine then_ret ?_ | with_reducible refine inblock_ret ?_)
      refine bodyPost_ret (v := .int .i64 0) (res1 rfl (.tmp (by rfl))) rfl ?_
      have BE := M.below
      exact ⟨by rw [if_pos (hwm.1 ⟨hw1, Decidable.not_not.1 hw2⟩)], BE⟩
    · skip
      have hw2 : (walkF nodeF ps i (n - 1) leaf).2 ≠ root := of_decide_eq_true hc27
      refine wp_cond_true rfl ?_
      refine wp_seq_k (fun K30 hK30 => ?_)
      refine wp_region_seq ?_
      refine wpL_assign (v := .int .i64 13) (by rfl) (by rfl) (by rfl) ?_
      simp only [putT, List.set]
      refine wpL_nil (no_panic ?_)
      refine hK30 _ _ ?_
      refine wp_ret ?_
      repeat (first | with_reducible refine then_ret ?_ | with_reducible refine inblock_ret ?_)
      refine bodyPost_ret (v := .int .i64 13) (res1 rfl (.tmp (by rfl))) rfl ?_
      have BE := M.below
      exact ⟨by rw [if_neg (fun e9 => hw2 (hwm.2 e9).2)], BE⟩
end Go.Proofs.Yb

namespace Go.Proofs.Yb
open Go Go.RowKit Go.Proofs.Num
attribute [local irreducible] wpV wpN wpList
set_option maxHeartbeats 1000000 in
theorem few9_c1 {ps : List (List UInt8)} {g0 o cg0 ng0 : Nat} {w : World} (hng0 : ng0 = ps.length) (hcg0 : ng0 ≤ cg0) (Lg0 : g0 < w.heap.size) (Rg0_o : w.rangeAt g0 o (scells ps)) :
    Calls Tryd.prog 46 #[.slice (some ⟨g0, o, none⟩) ng0 cg0] w fun e w' => ∃ v, e = .returned v ∧ MemRow w ((cutsS 50 40 ps).length) (scells (cutsS 50 40 ps)) v w' ∧ Below w.heap.size w w' := by
  subst hng0
  go_enter Tryd.func46, Tryd.ntmps46
  have M := Mem.start w
  refine wp_seq_k (fun K1 hK1 => ?_)
  refine wp_region_seq ?_
  refine wpL_assign (v := (.slice none 0 0)) (by rfl) (by rfl) (by rfl) ?_
  simp only [putT, List.set]
  refine wpL_nil (no_panic ?_)
  refine hK1 _ _ ?_
  refine wp_seq_k (fun K3 hK3 => ?_)
  refine wp_region_seq ?_
  refine wpL_row0 (by rfl) (by rfl) Tryd.underlying48 info9 (fun g5 w6 Sw6 Hg5 Bg5 => ?_)
  replace M := ((M.sees Sw6).add (N := 0) (cs := scells []) (M.ge Hg5) (M.fresh Hg5) Bg5 rfl)
  clear Bg5
  simp only [putT, List.set]
  refine wpL_move (v := .slice (some ⟨g0, o, none⟩) ps.length cg0) (by rfl) (by rfl) (by rfl) ?_
  simp only [putT, List.set]
  refine wpL_move (v := .slice (some ⟨g0, o, none⟩) ps.length cg0) (by rfl) (by rfl) (by rfl) ?_
  simp only [putT, List.set]
  refine wpL_chunk 3 (by rfl) (fun Lk hLk => ?_)
  simp only [List.take, List.drop]
  refine wpV_lenA (n := ps.length) (by rfl) rfl rfl rfl Tryd.underlying48 ?_
  simp only [putT, List.set]
  refine wpV_min (n := ps.length) (m := 50) (by rfl) rfl rfl rfl ?_
  simp only [putT, List.set]
  refine wpV_sliceH (hi := min ps.length 50) (by rfl) rfl rfl rfl Tryd.underlying48 info9 (Nat.le_trans (Nat.min_le_left _ _) hcg0) ?_
  simp only [putT, List.set]
  refine wpV_nil (hLk _ (fun w7 Sw7 => ?_))
  clear hLk Lk
  simp only [List.take, List.drop]
  replace M := M.sees Sw7
  refine wpL_append2 (n := 0) (m := min ps.length 50) (olds := scells []) (news := scells (ps.take (min ps.length 50))) (z := .string { data := #[] }) (bytes := 16) (by rfl) (by rfl) (by rfl) (by rfl) Tryd.underlying48 (by kernel_rfl) rfl rfl (by rfl) (by rw [scells_len, List.length_take]; omega) (M.r 0 0 rfl rfl) (M.t 0 rfl) (M.lt 0 rfl) (range_stake (min ps.length 50) (M.oldR Rg0_o Lg0)) (scells_one _) (by omega) (by simp only [maxLen]; omega) (fun g8 g8c w9 Sw9 Q Cg8 R T L => ?_)
  replace M := M.grow 0 rfl Sw9 Q R T L
  simp only [List.set] at M
  clear Q R T L
  rw [show scells [] ++ scells (ps.take (min ps.length 50)) = scells (ps.take (min ps.length 50)) from rfl] at M
  rw [Nat.zero_add] at Cg8
  rw [Nat.zero_add]
  simp only [putT, List.set]
  refine wpL_assign (v := .slice (some ⟨g8, 0, none⟩) (min ps.length 50) g8c) (by rfl) (by rfl) (by rfl) ?_
  simp only [putT, List.set]
  refine wpL_nil (no_panic ?_)
  obtain ⟨qs, hqs⟩ : ∃ qs, qs = List.take (min ps.length 50) ps := ⟨_, rfl⟩
  have hql : qs.length = min ps.length 50 := by rw [hqs, List.length_take]; omega
  rw [← hqs] at M
  rw [← hql] at Cg8
  rw [← hql]
  refine hK3 _ _ ?_
  refine wp_seq_k (fun K10 hK10 => ?_)
  refine wp_seq_k (fun K11 hK11 => ?_)
  refine wp_region_seq ?_
  refine wpL_move (v := .slice (some ⟨g8, 0, none⟩) qs.length g8c) (by rfl) (by rfl) (by rfl) ?_
  simp only [putT, List.set]
  refine wpL_chunk 1 (by rfl) (fun Lk hLk => ?_)
  simp only [List.take, List.drop]
  refine wpV_lenA (n := qs.length) (by rfl) rfl rfl rfl Tryd.underlying48 ?_
  simp only [putT, List.set]
  refine wpV_nil (hLk _ (fun w13 Sw13 => ?_))
  clear hLk Lk
  simp only [List.take, List.drop]
  replace M := M.sees Sw13
  refine wpL_move (v := .int .i64 0) (by rfl) (by rfl) (by rfl) ?_
  simp only [putT, List.set]
  refine wpL_nil (no_panic ?_)
  refine hK11 _ _ ?_
  refine wp_block ?_
  replace M := M.read1 (cs := scells (partS 40 qs 0)) (o := 0) 0 rfl (by rw [partS_zero]; exact (M.r 0 0 rfl rfl))
  simp only [List.set] at M
  refine wp_loop_ghost (fun n9 a9 W9 => ∃ (k : Nat) (u14 : Nat → Value), n9 = qs.length - k ∧ a9 = { tmps := #[.slice (some ⟨g8, 0, none⟩) qs.length g8c, undef, (.slice none 0 0), u14 3, u14 4, .slice (some ⟨g5, 0, none⟩) 0 0, .slice (some ⟨g0, o, none⟩) ps.length cg0, .slice (some ⟨g0, o, none⟩) ps.length cg0, .int .i64 ((ps.length : Nat) : Int), .int .i64 ((qs.length : Nat) : Int), .slice (some ⟨g0, o, none⟩) qs.length cg0, .slice (some ⟨g8, 0, none⟩) qs.length g8c, .slice (some ⟨g8, 0, none⟩) qs.length g8c, .int .i64 ((qs.length : Nat) : Int), .int .i64 ((k : Nat) : Int), u14 15, u14 16, u14 17, u14 18, u14 19, u14 20, u14 21, u14 22, u14 23, u14 24, u14 25, u14 26, u14 27, undef], defers := [] } ∧ Mem [] w W9 [⟨g8, g8c, [(0, scells (partS 40 qs k))]⟩] ∧ (k ≤ qs.length)) (qs.length - (0)) ?_ (fun n9 a9 W9 hI => ?_)
  · exact ⟨0, (fun q9 => (#[undef, undef, undef, undef, undef, undef, undef, undef, undef, undef, undef, undef, undef, undef, undef, undef, undef, undef, undef, undef, undef, undef, undef, undef, undef, undef, undef, undef] : Array Value).getD q9 undef), rfl, rfl, M, (by omega)⟩
  clear M
  obtain ⟨k, u14, rfl, rfl, M, hk4⟩ := hI
  obtain ⟨w15, rfl⟩ : ∃ W8, W8 = W9 := ⟨_, rfl⟩
  refine wp_seq_k (fun K16 hK16 => ?_)
  refine wp_region_seq ?_
  refine wpL_chunk 1 (by rfl) (fun Lk hLk => ?_)
  simp only [List.take, List.drop]
  refine wpV_bin (v := .bool (decide (k < qs.length))) (by rfl) rfl rfl rfl (fun W => run_lssN k qs.length _ _ W) ?_
  simp only [putT, List.set]
  refine wpV_nil (hLk _ (fun w18 Sw18 => ?_))
  clear hLk Lk
  simp only [List.take, List.drop]
  replace M := M.sees Sw18
  refine wpL_nil (no_panic ?_)
  refine hK16 _ _ ?_
  refine wp_seq_k (fun K19 hK19 => ?_)
  cases hc20 : (decide (k < qs.length))
  · skip
    have ek : k = qs.length := by have := of_decide_eq_false hc20; omega
    subst ek
    refine wp_cond_false rfl ?_
    refine wp_exit ?_
    refine hK10 _ _ ?_
    refine wp_seq_k (fun K21 hK21 => ?_)
    refine wp_region_seq ?_
    refine wpL_move (v := .slice (some ⟨g8, 0, none⟩) qs.length g8c) (by rfl) (by rfl) (by rfl) ?_
    simp only [putT, List.set]
    refine wpL_assign (v := .slice (some ⟨g8, 0, none⟩) qs.length g8c) (by rfl) (by rfl) (by rfl) ?_
    simp only [putT, List.set]
    refine wpL_nil (no_panic ?_)
    refine hK21 _ _ ?_
    refine wp_ret ?_
    repeat (first | with_reducible refine then_ret ?_ | with_reducible refine inblock_ret ?_)
    refine bodyPost_ret (v := .slice (some ⟨g8, 0, none⟩) qs.length g8c) (res1 rfl (.tmp (by rfl))) rfl ?_
    have BE := M.below
    rw [partS_end] at M
    rw [cutsS_of hqs, List.length_map]; exact ⟨_, rfl, ⟨g8, g8c, rfl, Cg8, M.pick [0] (by decide) rfl⟩, BE⟩
  · skip
    have hk : k < qs.length := of_decide_eq_true hc20
    refine wp_cond_true rfl ?_
    refine wp_skip ?_
    refine hK19 _ _ ?_
    refine wp_seq_k (fun K23 hK23 => ?_)
    refine wp_block ?_
    refine wp_seq_k (fun K24 hK24 => ?_)
    refine wp_region_seq ?_
    refine wpL_move (v := .int .i64 ((k : Nat) : Int)) (by rfl) (by rfl) (by rfl) ?_
    simp only [putT, List.set]
    refine wpL_chunk 2 (by rfl) (fun Lk hLk => ?_)
    simp only [List.take, List.drop]
    refine wpV_idxs (n := k) (by rfl) rfl rfl rfl Tryd.underlying48 info9 (by omega) ?_
    simp only [Nat.zero_add]
    simp only [putT, List.set]
    refine wpV_load1 (v := .string (bs (qs.getD k []))) (by rfl) rfl rfl (zadd ((M.r 0 0 rfl rfl) _ _ (partS_get 40 hk))) (M.lt 0 rfl) Tryd.underlying9 rfl ?_
    simp only [putT, List.set]
    refine wpV_nil (hLk _ (fun w26 Sw26 => ?_))
    clear hLk Lk
    simp only [List.take, List.drop]
    replace M := M.sees Sw26
    refine wpL_assign (v := .int .i64 ((k : Nat) : Int)) (by rfl) (by rfl) (by rfl) ?_
    simp only [putT, List.set]
    refine wpL_assign (v := .string (bs (qs.getD k []))) (by rfl) (by rfl) (by rfl) ?_
    simp only [putT, List.set]
    refine wpL_nil (no_panic ?_)
    refine hK24 _ _ ?_
    refine wp_region_seq ?_
    refine wpL_move (v := .slice (some ⟨g8, 0, none⟩) qs.length g8c) (by rfl) (by rfl) (by rfl) ?_
    simp only [putT, List.set]
    refine wpL_move (v := .int .i64 ((k : Nat) : Int)) (by rfl) (by rfl) (by rfl) ?_
    simp only [putT, List.set]
    refine wpL_move (v := .string (bs (qs.getD k []))) (by rfl) (by rfl) (by rfl) ?_
    simp only [putT, List.set]
    refine wpL_move (v := .string (bs (qs.getD k []))) (by rfl) (by rfl) (by rfl) ?_
    simp only [putT, List.set]
    refine wpL_chunk 4 (by rfl) (fun Lk hLk => ?_)
    simp only [List.take, List.drop]
    refine wpV_lenS (by rfl) rfl rfl rfl Tryd.underlying9 ?_
    simp only [putT, List.set]
    refine wpV_min (n := (qs.getD k []).length) (m := 40) (by rfl) rfl rfl rfl ?_
    simp only [putT, List.set]
    refine wpV_cut (l := qs.getD k []) (m := 40) (by rfl) rfl rfl rfl Tryd.underlying9 ?_
    simp only [putT, List.set]
    refine wpV_idxs (n := k) (by rfl) rfl rfl rfl Tryd.underlying48 info9 (by omega) ?_
    simp only [Nat.zero_add]
    simp only [putT, List.set]
    refine wpV_nil (hLk _ (fun w28 Sw28 => ?_))
    clear hLk Lk
    simp only [List.take, List.drop]
    replace M := M.sees Sw28
    refine wpL_store1 (g := g8) (off := k) (n := g8c) (v := .string (bs (cut (qs.getD k []) 40))) (by rfl) (by rfl) (by rfl) (by rfl) (by rfl) (M.t 0 rfl) (by omega) info9 rfl (fun w29 P R T => ?_)
    replace M := M.put1 (j := k) 0 rfl P R T (Nat.zero_add _).symm
    simp only [List.set] at M
    rw [partS_set 40 hk] at M
    refine wpL_nil (no_panic ?_)
    refine hK23 _ _ ?_
    refine wp_region_seq ?_
    refine wpL_chunk 1 (by rfl) (fun Lk hLk => ?_)
    simp only [List.take, List.drop]
    refine wpV_bin (v := .int .i64 ((k + 1 : Nat) : Int)) (by rfl) rfl rfl rfl (fun W => run_add (by simp only [IntKind.wrap_i64]; omega) W) ?_
    simp only [putT, List.set]
    refine wpV_nil (hLk _ (fun w31 Sw31 => ?_))
    clear hLk Lk
    simp only [List.take, List.drop]
    replace M := M.sees Sw31
    refine wpL_move (v := .int .i64 ((k + 1 : Nat) : Int)) (by rfl) (by rfl) (by rfl) ?_
    simp only [putT, List.set]
    refine wpL_nil (no_panic ?_)
    refine Exists.intro _ ⟨?_, (k + 1), (fun q9 => (#[undef, undef, undef, .int .i64 ((k : Nat) : Int), .string (bs (qs.getD k [])), undef, undef, undef, undef, undef, undef, undef, undef, undef, undef, .bool true, .int .i64 ((k : Nat) : Int), .pointer (some ⟨g8, k, none⟩), .string (bs (qs.getD k [])), .slice (some ⟨g8, 0, none⟩) qs.length g8c, .int .i64 ((k : Nat) : Int), .string (bs (qs.getD k [])), .string (bs (qs.getD k [])), .int .i64 (((qs.getD k []).length : Nat) : Int), .int .i64 ((min ((qs.getD k []).length) 40 : Nat) : Int), .string (bs (cut (qs.getD k []) 40)), .pointer (some ⟨g8, k, none⟩), .int .i64 ((k + 1 : Nat) : Int)] : Array Value).getD q9 undef), rfl, rfl, M, (by omega)⟩
    omega
set_option maxHeartbeats 1000000 in
theorem few9_c0  {w : World}  :
    Calls Tryd.prog 46 #[.slice none 0 0] w fun e w' => ∃ v, e = .returned v ∧ MemRow w ((cutsS 50 40 []).length) (scells (cutsS 50 40 [])) v w' ∧ Below w.heap.size w w' := by
  go_enter Tryd.func46, Tryd.ntmps46
  have M := Mem.start w
  refine wp_seq_k (fun K1 hK1 => ?_)
  refine wp_region_seq ?_
  refine wpL_assign (v := (.slice none 0 0)) (by rfl) (by rfl) (by rfl) ?_
  simp only [putT, List.set]
  refine wpL_nil (no_panic ?_)
  refine hK1 _ _ ?_
  refine wp_seq_k (fun K3 hK3 => ?_)
  refine wp_region_seq ?_
  refine wpL_row0 (by rfl) (by rfl) Tryd.underlying48 info9 (fun g5 w6 Sw6 Hg5 Bg5 => ?_)
  replace M := ((M.sees Sw6).add (N := 0) (cs := scells []) (M.ge Hg5) (M.fresh Hg5) Bg5 rfl)
  clear Bg5
  simp only [putT, List.set]
  refine wpL_move (v := .slice none 0 0) (by rfl) (by rfl) (by rfl) ?_
  simp only [putT, List.set]
  refine wpL_move (v := .slice none 0 0) (by rfl) (by rfl) (by rfl) ?_
  simp only [putT, List.set]
  refine wpL_chunk 3 (by rfl) (fun Lk hLk => ?_)
  simp only [List.take, List.drop]
  refine wpV_lenA (n := 0) (by rfl) rfl rfl rfl Tryd.underlying48 ?_
  simp only [putT, List.set]
  refine wpV_min (n := 0) (m := 50) (by rfl) rfl rfl rfl ?_
  simp only [putT, List.set]
  refine wpV_val (v := .slice none 0 0) (by rfl) (by rfl) (fun W hW => ?_) ?_
  · (unfold RunsVal; kernel_rfl)
  simp only [putT, List.set]
  refine wpV_nil (hLk _ (fun w7 Sw7 => ?_))
  clear hLk Lk
  simp only [List.take, List.drop]
  replace M := M.sees Sw7
  refine wpL_appendN (by rfl) (by rfl) (by rfl) (by rfl) Tryd.underlying48 info9 (Nat.le_refl _) ?_
  simp only [putT, List.set]
  refine wpL_assign (v := .slice (some ⟨g5, 0, none⟩) 0 0) (by rfl) (by rfl) (by rfl) ?_
  simp only [putT, List.set]
  refine wpL_nil (no_panic ?_)
  refine hK3 _ _ ?_
  refine wp_seq_k (fun K8 hK8 => ?_)
  refine wp_seq_k (fun K9 hK9 => ?_)
  refine wp_region_seq ?_
  refine wpL_move (v := .slice (some ⟨g5, 0, none⟩) 0 0) (by rfl) (by rfl) (by rfl) ?_
  simp only [putT, List.set]
  refine wpL_chunk 1 (by rfl) (fun Lk hLk => ?_)
  simp only [List.take, List.drop]
  refine wpV_lenA (n := 0) (by rfl) rfl rfl rfl Tryd.underlying48 ?_
  simp only [putT, List.set]
  refine wpV_nil (hLk _ (fun w11 Sw11 => ?_))
  clear hLk Lk
  simp only [List.take, List.drop]
  replace M := M.sees Sw11
  refine wpL_move (v := .int .i64 0) (by rfl) (by rfl) (by rfl) ?_
  simp only [putT, List.set]
  refine wpL_nil (no_panic ?_)
  refine hK9 _ _ ?_
  refine wp_block ?_
  refine wp_loop_rounds 2 ?_
  rw [rounds_succ]
  refine wp_seq_k (fun K12 hK12 => ?_)
  refine wp_region_seq ?_
  refine wpL_chunk 1 (by rfl) (fun Lk hLk => ?_)
  simp only [List.take, List.drop]
  refine wpV_bin (v := .bool false) (by rfl) rfl rfl rfl (fun W => run_lss _ _ _ _ W) ?_
  simp only [putT, List.set]
  refine wpV_nil (hLk _ (fun w14 Sw14 => ?_))
  clear hLk Lk
  simp only [List.take, List.drop]
  replace M := M.sees Sw14
  refine wpL_nil (no_panic ?_)
  refine hK12 _ _ ?_
  refine wp_seq_k (fun K15 hK15 => ?_)
  refine wp_cond_false rfl ?_
  refine wp_exit ?_
  refine hK8 _ _ ?_
  refine wp_seq_k (fun K16 hK16 => ?_)
  refine wp_region_seq ?_
  refine wpL_move (v := .slice (some ⟨g5, 0, none⟩) 0 0) (by rfl) (by rfl) (by rfl) ?_
  simp only [putT, List.set]
  refine wpL_assign (v := .slice (some ⟨g5, 0, none⟩) 0 0) (by rfl) (by rfl) (by rfl) ?_
  simp only [putT, List.set]
  refine wpL_nil (no_panic ?_)
  refine hK16 _ _ ?_
  refine wp_ret ?_
  repeat (first | with_reducible refine then_ret ?_ | with_reducible refine inblock_ret ?_)
  refine bodyPost_ret (v := .slice (some ⟨g5, 0, none⟩) 0 0) (res1 rfl (.tmp (by rfl))) rfl ?_
  have BE := M.below
  exact ⟨_, rfl, ⟨g5, 0, rfl, (Nat.le_refl _), M.pick [0] (by decide) rfl⟩, BE⟩
set_option maxHeartbeats 1000000 in
theorem few9_cE {a : Addr} {w : World}  :
    Calls Tryd.prog 46 #[.slice (some a) 0 0] w fun e w' => ∃ v, e = .returned v ∧ MemRow w ((cutsS 50 40 []).length) (scells (cutsS 50 40 [])) v w' ∧ Below w.heap.size w w' := by
  go_enter Tryd.func46, Tryd.ntmps46
  have M := Mem.start w
  refine wp_seq_k (fun K1 hK1 => ?_)
  refine wp_region_seq ?_
  refine wpL_assign (v := (.slice none 0 0)) (by rfl) (by rfl) (by rfl) ?_
  simp only [putT, List.set]
  refine wpL_nil (no_panic ?_)
  refine hK1 _ _ ?_
  refine wp_seq_k (fun K3 hK3 => ?_)
  refine wp_region_seq ?_
  refine wpL_row0 (by rfl) (by rfl) Tryd.underlying48 info9 (fun g5 w6 Sw6 Hg5 Bg5 => ?_)
  replace M := ((M.sees Sw6).add (N := 0) (cs := scells []) (M.ge Hg5) (M.fresh Hg5) Bg5 rfl)
  clear Bg5
  simp only [putT, List.set]
  refine wpL_move (v := .slice (some a) 0 0) (by rfl) (by rfl) (by rfl) ?_
  simp only [putT, List.set]
  refine wpL_move (v := .slice (some a) 0 0) (by rfl) (by rfl) (by rfl) ?_
  simp only [putT, List.set]
  refine wpL_chunk 3 (by rfl) (fun Lk hLk => ?_)
  simp only [List.take, List.drop]
  refine wpV_lenA (n := 0) (by rfl) rfl rfl rfl Tryd.underlying48 ?_
  simp only [putT, List.set]
  refine wpV_min (n := 0) (m := 50) (by rfl) rfl rfl rfl ?_
  simp only [putT, List.set]
  refine wpV_val (v := .slice (some a) 0 0) (by rfl) (by rfl) (fun W hW => ?_) ?_
  · (unfold RunsVal; kernel_rfl)
  simp only [putT, List.set]
  refine wpV_nil (hLk _ (fun w7 Sw7 => ?_))
  clear hLk Lk
  simp only [List.take, List.drop]
  replace M := M.sees Sw7
  refine wpL_appendE (by rfl) (by rfl) (by rfl) (by rfl) Tryd.underlying48 info9 (Nat.le_refl _) ?_
  simp only [putT, List.set]
  refine wpL_assign (v := .slice (some ⟨g5, 0, none⟩) 0 0) (by rfl) (by rfl) (by rfl) ?_
  simp only [putT, List.set]
  refine wpL_nil (no_panic ?_)
  refine hK3 _ _ ?_
  refine wp_seq_k (fun K8 hK8 => ?_)
  refine wp_seq_k (fun K9 hK9 => ?_)
  refine wp_region_seq ?_
  refine wpL_move (v := .slice (some ⟨g5, 0, none⟩) 0 0) (by rfl) (by rfl) (by rfl) ?_
  simp only [putT, List.set]
  refine wpL_chunk 1 (by rfl) (fun Lk hLk => ?_)
  simp only [List.take, List.drop]
  refine wpV_lenA (n := 0) (by rfl) rfl rfl rfl Tryd.underlying48 ?_
  simp only [putT, List.set]
  refine wpV_nil (hLk _ (fun w11 Sw11 => ?_))
  clear hLk Lk
  simp only [List.take, List.drop]
  replace M := M.sees Sw11
  refine wpL_move (v := .int .i64 0) (by rfl) (by rfl) (by rfl) ?_
  simp only [putT, List.set]
  refine wpL_nil (no_panic ?_)
  refine hK9 _ _ ?_
  refine wp_block ?_
  refine wp_loop_rounds 2 ?_
  rw [rounds_succ]
  refine wp_seq_k (fun K12 hK12 => ?_)
  refine wp_region_seq ?_
  refine wpL_chunk 1 (by rfl) (fun Lk hLk => ?_)
  simp only [List.take, List.drop]
  refine wpV_bin (v := .bool false) (by rfl) rfl rfl rfl (fun W => run_lss _ _ _ _ W) ?_
  simp only [putT, List.set]
  refine wpV_nil (hLk _ (fun w14 Sw14 => ?_))
  clear hLk Lk
  simp only [List.take, List.drop]
  replace M := M.sees Sw14
  refine wpL_nil (no_panic ?_)
  refine hK12 _ _ ?_
  refine wp_seq_k (fun K15 hK15 => ?_)
  refine wp_cond_false rfl ?_
  refine wp_exit ?_
  refine hK8 _ _ ?_
  refine wp_seq_k (fun K16 hK16 => ?_)
  refine wp_region_seq ?_
  refine wpL_move (v := .slice (some ⟨g5, 0, none⟩) 0 0) (by rfl) (by rfl) (by rfl) ?_
  simp only [putT, List.set]
  refine wpL_assign (v := .slice (some ⟨g5, 0, none⟩) 0 0) (by rfl) (by rfl) (by rfl) ?_
  simp only [putT, List.set]
  refine wpL_nil (no_panic ?_)
  refine hK16 _ _ ?_
  refine wp_ret ?_
  repeat (first | with_reducible refine then_ret ?_ | with_reducible refine inblock_ret ?_)
  refine bodyPost_ret (v := .slice (some ⟨g5, 0, none⟩) 0 0) (res1 rfl (.tmp (by rfl))) rfl ?_
  have BE := M.below
  exact ⟨_, rfl, ⟨g5, 0, rfl, (Nat.le_refl _), M.pick [0] (by decide) rfl⟩, BE⟩
theorem few9_c {v : Value} {ps : List (List UInt8)} {w : World} (hv : RowS w v ps) :
    Calls Tryd.prog 46 #[v] w fun e w' => ∃ v, e = .returned v ∧ MemRow w ((cutsS 50 40 ps).length) (scells (cutsS 50 40 ps)) v w' ∧ Below w.heap.size w w' := by
  rcases hv with ⟨rfl, rfl⟩ | ⟨a, rfl, rfl⟩ | ⟨g, o, n, c, rfl, h2, h3, h4, h5⟩
  · exact few9_c0
  · exact few9_cE
  · exact few9_c1 h2 h3 h4 h5
end Go.Proofs.Yb

