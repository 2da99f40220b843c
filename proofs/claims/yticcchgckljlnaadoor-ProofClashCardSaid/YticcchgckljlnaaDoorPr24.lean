import Derived.WalkKit
import Derived.WalkSpells
import Derived.Laws.Pointers
import Derived.RowKit3
import Derived.Below
import Derived.Outline
import Derived.LoopN
import Derived.Lib.Hide
import Derived.Handy
import Derived.Laws.Bits64b
import Derived.Test.YticcchgckljlnaaDoorPr20
import Derived.Test.YticcchgckljlnaaDoorPr10
set_option linter.unusedSimpArgs false
set_option linter.unusedVariables false
namespace Go.Proofs.Yb
open Go Go.RowKit Go.Proofs.Num
attribute [local irreducible] wpV wpN wpList
set_option maxHeartbeats 4000000 in
theorem walkC_c {ps : List (List UInt8)} {ap : Option Addr} {np cp : Nat} {g h a0 l0 : Nat} {s0 : List UInt8} {w : World} (hps : ps.length ≤ 4096) (ha0 : a0 ≤ 4611686018427387904) (hl0b : l0 ≤ 4611686018427387904) (h32k : ∀ {k : Nat}, k < ps.length → (ps.getD k []).length = 32) (hs0 : s0.length = 32) (hg0 : g ≠ 0) (hh0 : h ≠ 0) (L0 : 0 < w.heap.size) (R0_0 : w.rangeAt 0 0 kcells) (Hp : RowN [g, h] w ap np cp (scells ps)) (hM : Mem [g, h] w w [⟨g, 1, [(0, [.string (bs s0)])]⟩, ⟨h, 1, [(0, [.slice none 0 0])]⟩]) :
  Calls Tryd.prog 83 #[.int .i64 ((a0 : Nat) : Int), .int .i64 ((l0 : Nat) : Int), .slice ap np cp, .func (.func 100) #[] #[.pointer (some ⟨g, 0, none⟩), .pointer (some ⟨h, 0, none⟩)]] w fun e w' => ∃ v, e = .returned v ∧ ∃ a c, v = .bool (walkF clashF ps a0 l0 ([], s0)).1 ∧ Mem [g, h] w w' [⟨g, 1, [(0, [.string (bs (walkF clashF ps a0 l0 ([], s0)).2.2)])]⟩, ⟨h, 1, [(0, [.slice a (walkF clashF ps a0 l0 ([], s0)).2.1.length c])]⟩] ∧ RowA w' a (walkF clashF ps a0 l0 ([], s0)).2.1.length c (scells (walkF clashF ps a0 l0 ([], s0)).2.1) := by
 obtain rfl : np = ps.length := by have := Hp.row.len; rwa [scells_len] at this
 go_enter Tryd.func83, Tryd.ntmps83
 have M := hM
 refine wp_seq_k (fun K1 hK1 => ?_)
 refine wp_region_seq ?_
 refine wpL_assign (v := .bool false) (by rfl) (by rfl) (by rfl) ?_
 simp only [putT, List.set]
 refine wpL_nil (no_panic ?_)
 refine hK1 _ _ ?_
 refine wp_scope_straight ?_
 refine wp_seq_k (fun K3 hK3 => ?_)
 refine wp_region_seq ?_
 refine wpL_assign (v := .bool true) (by rfl) (by rfl) (by rfl) ?_
 simp only [putT, List.set]
 refine wpL_nil (no_panic ?_)
 refine hK3 _ _ ?_
 refine wp_seq_k (fun K5 hK5 => ?_)
 refine wp_label ?_
 refine hK5 _ _ ?_
 refine wp_seq_k (fun K6 hK6 => ?_)
 refine wp_seq_k (fun K7 hK7 => ?_)
 refine wp_region_seq ?_
 refine wpL_move (v := .slice ap ps.length cp) (by rfl) (by rfl) (by rfl) ?_
 simp only [putT, List.set]
 refine wpL_chunk 1 (by rfl) (fun Lk hLk => ?_)
 simp only [List.take, List.drop]
 refine wpV_lenA (n := ps.length) (by rfl) rfl rfl rfl Tryd.underlying48 ?_
 simp only [putT, List.set]
 refine wpV_nil (hLk _ (fun w9 Sw9 => ?_))
 clear hLk Lk
 simp only [List.take, List.drop]
 replace M := M.sees Sw9
 refine wpL_move (v := .int .i64 0) (by rfl) (by rfl) (by rfl) ?_
 simp only [putT, List.set]
 refine wpL_nil (no_panic ?_)
 refine hK7 _ _ ?_
 refine wp_block ?_
 refine wp_loop_peel (fun n9 a9 W9 => ∃ (k : Nat) (a : Nat) (l : Nat) (s1 : List UInt8) (o1 : List (List UInt8)) (r : Nat) (rc : Nat) (u10 : Nat → Value), n9 = 2 * (ps.length - k) ∧ a9 = { tmps := #[.int .i64 ((a : Nat) : Int), .int .i64 ((l : Nat) : Int), .slice ap ps.length cp, .func (.func 100) #[] #[.pointer (some ⟨g, 0, none⟩), .pointer (some ⟨h, 0, none⟩)], undef, undef, undef, undef, .bool false, .bool true, undef, u10 11, .slice ap ps.length cp, .int .i64 ((ps.length : Nat) : Int), .int .i64 ((k : Nat) : Int), u10 15, u10 16, u10 17, u10 18, u10 19, u10 20, u10 21, u10 22, u10 23, u10 24, u10 25, u10 26, u10 27, u10 28, u10 29, u10 30, u10 31, u10 32, u10 33, u10 34, u10 35, u10 36, u10 37, u10 38, u10 39, u10 40, u10 41, u10 42, u10 43, u10 44, u10 45, u10 46, u10 47, u10 48, u10 49, u10 50, u10 51, undef, undef, undef, undef, undef], defers := [] } ∧ Mem [g, h] w W9 [⟨g, 1, [(0, [.string (bs s1)])]⟩, ⟨h, 1, [(0, [.slice (some ⟨r, 0, none⟩) o1.length rc])]⟩, ⟨r, rc, [(0, scells o1)]⟩] ∧ o1.length ≤ rc ∧ (1 ≤ k) ∧ (k ≤ ps.length) ∧ (a ≤ 4611686018427387904) ∧ (l ≤ 4611686018427387904) ∧ (s1.length = 32) ∧ (o1.length = k) ∧ (walkF clashF ps a0 l0 ([], s0) = walkF clashF (ps.drop k) a l (o1, s1))) (2 * (ps.length - (1)) + 1) ?_ (fun n9 a9 W9 hI => ?_)
 ·
  refine wp_seq_k (fun K11 hK11 => ?_)
  refine wp_region_seq ?_
  refine wpL_chunk 1 (by rfl) (fun Lk hLk => ?_)
  simp only [List.take, List.drop]
  refine wpV_bin (v := .bool (decide (0 < ps.length))) (by rfl) rfl rfl rfl (fun W => run_lssN 0 ps.length _ _ W) ?_
  simp only [putT, List.set]
  refine wpV_nil (hLk _ (fun w13 Sw13 => ?_))
  clear hLk Lk
  simp only [List.take, List.drop]
  replace M := M.sees Sw13
  refine wpL_nil (no_panic ?_)
  refine hK11 _ _ ?_
  refine wp_seq_k (fun K14 hK14 => ?_)
  cases hc15 : (decide (0 < ps.length))
  ·
   have hk : ¬ 0 < ps.length := of_decide_eq_false hc15
   refine wp_cond_false rfl ?_
   refine wp_exit ?_
   refine hK6 _ _ ?_
   refine wp_seq_k (fun K16 hK16 => ?_)
   refine wp_region_seq ?_
   refine wpL_move (v := .bool true) (by rfl) (by rfl) (by rfl) ?_
   simp only [putT, List.set]
   refine wpL_move (v := .bool true) (by rfl) (by rfl) (by rfl) ?_
   simp only [putT, List.set]
   refine wpL_chunk 3 (by rfl) (fun Lk hLk => ?_)
   simp only [List.take, List.drop]
   refine wpV_move (v := .int .i64 ((l0 : Nat) : Int)) (by rfl) rfl rfl ?_
   simp only [putT, List.set]
   refine wpV_bin (v := .bool (decide (l0 = 0))) (by rfl) rfl rfl rfl (fun W => run_eqlN l0 0 _ _ W) ?_
   simp only [putT, List.set]
   refine wpV_pick (v := .bool (decide (l0 = 0))) (by rfl) rfl rfl rfl ?_
   simp only [putT, List.set]
   refine wpV_nil (hLk _ (fun w18 Sw18 => ?_))
   clear hLk Lk
   simp only [List.take, List.drop]
   replace M := M.sees Sw18
   refine wpL_assign (v := .bool (decide (l0 = 0))) (by rfl) (by rfl) (by rfl) ?_
   simp only [putT, List.set]
   refine wpL_nil (no_panic ?_)
   refine hK16 _ _ ?_
   refine wp_ret ?_
   repeat (first | with_reducible refine then_ret ?_ | with_reducible refine inblock_ret ?_ | with_reducible refine nogoto_ret ?_)
   refine bodyPost_ret (v := .bool (decide (l0 = 0))) (res1 rfl (.tmp (by rfl))) rfl ?_
   have hE : walkF clashF ps a0 l0 ([], s0) = (decide (l0 = 0), [], s0) := by rw [show ps = [] from List.length_eq_zero_iff.1 (by omega)]; rfl
   rw [hE]
   exact ⟨_, rfl, none, 0, rfl, M, RowA.nil⟩
  ·
   have hk : 0 < ps.length := of_decide_eq_true hc15
   refine wp_cond_true rfl ?_
   refine wp_skip ?_
   refine hK14 _ _ ?_
   refine wp_seq_k (fun K19 hK19 => ?_)
   refine wp_block ?_
   refine wp_seq_k (fun K20 hK20 => ?_)
   refine wp_region_seq ?_
   refine wpL_chunk 2 (by rfl) (fun Lk hLk => ?_)
   simp only [List.take, List.drop]
   refine wpV_idxA (i := 0) (by rfl) rfl rfl rfl Tryd.underlying48 info9 (Hp.mem M).row (by omega) ?_
   simp only [putT, List.set]
   refine wpV_loadA (i := 0) (v := .string (bs (ps.getD 0 []))) (by rfl) rfl rfl (Hp.mem M).row (scells_get (ps := ps) (by omega)) Tryd.underlying9 rfl ?_
   simp only [putT, List.set]
   refine wpV_nil (hLk _ (fun w22 Sw22 => ?_))
   clear hLk Lk
   simp only [List.take, List.drop]
   replace M := M.sees Sw22
   refine wpL_assign (v := .string (bs (ps.getD 0 []))) (by rfl) (by rfl) (by rfl) ?_
   simp only [putT, List.set]
   refine wpL_nil (no_panic ?_)
   refine hK20 _ _ ?_
   refine wp_seq_k (fun K23 hK23 => ?_)
   refine wp_block ?_
   refine wp_seq_k (fun K24 hK24 => ?_)
   refine wp_region_seq ?_
   refine wpL_move (v := .int .i64 ((l0 : Nat) : Int)) (by rfl) (by rfl) (by rfl) ?_
   simp only [putT, List.set]
   refine wpL_chunk 1 (by rfl) (fun Lk hLk => ?_)
   simp only [List.take, List.drop]
   refine wpV_bin (v := .bool (decide (l0 = 0))) (by rfl) rfl rfl rfl (fun W => run_eqlN l0 0 _ _ W) ?_
   simp only [putT, List.set]
   refine wpV_nil (hLk _ (fun w26 Sw26 => ?_))
   clear hLk Lk
   simp only [List.take, List.drop]
   replace M := M.sees Sw26
   refine wpL_assign (v := .bool (decide (l0 = 0))) (by rfl) (by rfl) (by rfl) ?_
   simp only [putT, List.set]
   refine wpL_nil (no_panic ?_)
   refine hK24 _ _ ?_
   cases hc27 : (decide (l0 = 0))
   ·
    have hl0 : ¬ l0 = 0 := of_decide_eq_false hc27
    refine wp_cond_false rfl ?_
    refine wp_seq_k (fun K28 hK28 => ?_)
    cases hg29 : (decide (a0 % 2 = 1))
    ·
     have hod : ¬ a0 % 2 = 1 := of_decide_eq_false hg29
     refine wp_region_seq ?_
     refine wpL_move (v := .int .i64 ((a0 : Nat) : Int)) (by rfl) (by rfl) (by rfl) ?_
     simp only [putT, List.set]
     refine wpL_chunk 7 (by rfl) (fun Lk hLk => ?_)
     simp only [List.take, List.drop]
     refine wpV_bin (v := .int .i64 ((a0 % 2 : Nat) : Int)) (by rfl) rfl rfl rfl (fun W => run_and ((and_i64 (m := a0) (n := 1) (by omega) (by decide)).trans (by rw [and_oneN])) W) ?_
     simp only [putT, List.set]
     refine wpV_bin (v := .bool false) (by rfl) rfl rfl rfl (fun W => (run_eqlN (a0 % 2) 1 _ _ W).trans (by rw [hg29])) ?_
     simp only [putT, List.set]
     refine wpV_move (v := .bool false) (by rfl) rfl rfl ?_
     simp only [putT, List.set]
     refine wpV_move (v := .int .i64 ((a0 : Nat) : Int)) (by rfl) rfl rfl ?_
     simp only [putT, List.set]
     refine wpV_move (v := .int .i64 ((l0 : Nat) : Int)) (by rfl) rfl rfl ?_
     simp only [putT, List.set]
     refine wpV_bin (v := .bool (decide (a0 = l0))) (by rfl) rfl rfl rfl (fun W => run_eqlN a0 l0 _ _ W) ?_
     simp only [putT, List.set]
     refine wpV_pick (v := .bool (decide (a0 = l0))) (by rfl) rfl rfl rfl ?_
     simp only [putT, List.set]
     refine wpV_nil (hLk _ (fun w31 Sw31 => ?_))
     clear hLk Lk
     simp only [List.take, List.drop]
     replace M := M.sees Sw31
     refine wpL_assign (v := .bool (decide (a0 = l0))) (by rfl) (by rfl) (by rfl) ?_
     simp only [putT, List.set]
     refine wpL_nil (no_panic ?_)
     refine hK28 _ _ ?_
     cases hc32 : (decide (a0 = l0))
     ·
      have hal : ¬ a0 = l0 := of_decide_eq_false hc32
      have hno : ¬ (a0 % 2 = 1 ∨ a0 = l0) := fun q9 => q9.elim hod hal
      refine wp_cond_false rfl ?_
      refine wp_region_seq ?_
      refine wpL_move (v := .func (.func 100) #[] #[.pointer (some ⟨g, 0, none⟩), .pointer (some ⟨h, 0, none⟩)]) (by rfl) (by rfl) (by rfl) ?_
      simp only [putT, List.set]
      refine wpL_move (v := .string (bs (ps.getD 0 []))) (by rfl) (by rfl) (by rfl) ?_
      simp only [putT, List.set]
      refine wpL_callMc (f := 100) (args := #[.bool false, .string (bs (ps.getD 0 []))]) (caps := #[.pointer (some ⟨g, 0, none⟩), .pointer (some ⟨h, 0, none⟩)]) (all := #[.bool false, .string (bs (ps.getD 0 [])), .pointer (some ⟨g, 0, none⟩), .pointer (some ⟨h, 0, none⟩)]) (R := fun v9 W9 => ∃ r35 c35, v9 = .tuple #[] ∧ (1 ≤ c35) ∧ Mem [g, h] w31 W9 [⟨g, 1, [(0, [.string (bs (nodeS s0 (ps.getD 0 [])))])]⟩, ⟨h, 1, [(0, [.slice (some ⟨r35, 0, none⟩) 1 c35])]⟩, ⟨r35, c35, [(0, scells ([[1] ++ s0 ++ (ps.getD 0 [])]))]⟩]) (by simp) (by rfl) (by rfl) (by rfl) rfl Tryd.func100 (by kernel_rfl) (by kernel_rfl) (tx1_nf (x := ps.getD 0 []) (s0 := s0) (h32k hk) hs0 hg0 hh0 (M.oldL L0) (M.oldG R0_0 L0 (by simp; omega)) (M.some (l' := [⟨g, 1, [(0, [.string (bs s0)])]⟩, ⟨h, 1, [(0, [.slice none 0 0])]⟩]) [0, 1] (by decide) rfl)) (fun v9 w34 h9 => ?_)
      obtain ⟨r35, c35, rfl, Cr35, M9⟩ := h9
      replace M := (show Mem [g, h] w w31 ([⟨g, 1, [(0, [.string (bs s0)])]⟩, ⟨h, 1, [(0, [.slice none 0 0])]⟩] ++ []) from M.pick [0, 1] (by decide) rfl).frame M9
      simp only [List.cons_append, List.nil_append] at M
      simp only [putT, List.set]
      refine wpL_nil (no_panic ?_)
      refine hK23 _ _ ?_
      refine wp_region_seq ?_
      refine wpL_move (v := .int .i64 ((a0 : Nat) : Int)) (by rfl) (by rfl) (by rfl) ?_
      simp only [putT, List.set]
      refine wpL_chunk 3 (by rfl) (fun Lk hLk => ?_)
      simp only [List.take, List.drop]
      refine wpV_bin (v := .int .i64 ((a0 / 2 ^ 1 : Nat) : Int)) (by rfl) rfl rfl rfl (fun W => run_shr (n := 1) (by decide) rfl W) ?_
      simp only [putT, List.set]
      refine wpV_move (v := .int .i64 ((l0 : Nat) : Int)) (by rfl) rfl rfl ?_
      simp only [putT, List.set]
      refine wpV_bin (v := .int .i64 ((l0 / 2 ^ 1 : Nat) : Int)) (by rfl) rfl rfl rfl (fun W => run_shr (n := 1) (by decide) rfl W) ?_
      simp only [putT, List.set]
      refine wpV_nil (hLk _ (fun w37 Sw37 => ?_))
      clear hLk Lk
      simp only [List.take, List.drop]
      replace M := M.sees Sw37
      refine wpL_assign (v := .int .i64 ((a0 / 2 ^ 1 : Nat) : Int)) (by rfl) (by rfl) (by rfl) ?_
      simp only [putT, List.set]
      refine wpL_assign (v := .int .i64 ((l0 / 2 ^ 1 : Nat) : Int)) (by rfl) (by rfl) (by rfl) ?_
      simp only [putT, List.set]
      refine wpL_nil (no_panic ?_)
      refine hK19 _ _ ?_
      refine wp_region_seq ?_
      refine wpL_chunk 1 (by rfl) (fun Lk hLk => ?_)
      simp only [List.take, List.drop]
      refine wpV_bin (v := .int .i64 1) (by rfl) rfl rfl rfl (fun W => run_add (by decide) W) ?_
      simp only [putT, List.set]
      refine wpV_nil (hLk _ (fun w39 Sw39 => ?_))
      clear hLk Lk
      simp only [List.take, List.drop]
      replace M := M.sees Sw39
      refine wpL_move (v := .int .i64 1) (by rfl) (by rfl) (by rfl) ?_
      simp only [putT, List.set]
      refine wpL_nil (no_panic ?_)
      refine Exists.intro _ ⟨?_, 1, (a0 / 2 ^ 1), (l0 / 2 ^ 1), (nodeS s0 (ps.getD 0 [])), ([[1] ++ s0 ++ (ps.getD 0 [])]), r35, c35, (fun q9 => (#[undef, undef, undef, undef, undef, undef, undef, undef, undef, undef, undef, .string (bs (ps.getD 0 [])), undef, undef, undef, .bool true, .pointer (ap.map (·.add 0)), .string (bs (ps.getD 0 [])), .func (.func 100) #[] #[.pointer (some ⟨g, 0, none⟩), .pointer (some ⟨h, 0, none⟩)], .string (bs (ps.getD 0 [])), .tuple #[], .bool false, .int .i64 ((l0 : Nat) : Int), .bool false, .bool false, .int .i64 ((a0 : Nat) : Int), .int .i64 ((a0 % 2 : Nat) : Int), .bool false, .bool false, .int .i64 ((a0 : Nat) : Int), .int .i64 ((l0 : Nat) : Int), .bool false, .bool false, undef, undef, undef, undef, undef, undef, undef, undef, undef, undef, undef, undef, undef, undef, .int .i64 ((a0 : Nat) : Int), .int .i64 ((a0 / 2 ^ 1 : Nat) : Int), .int .i64 ((l0 : Nat) : Int), .int .i64 ((l0 / 2 ^ 1 : Nat) : Int), .int .i64 1] : Array Value).getD q9 undef), rfl, rfl, M, Cr35, (Nat.le_refl _), (by omega), (by omega), (by omega), (nodeS_len _ _), rfl, (walkG_no (k := 0) hk hl0 hno rfl)⟩
      omega
     ·
      have hal : a0 = l0 := of_decide_eq_true hc32
      have hys : a0 % 2 = 1 ∨ a0 = l0 := .inr hal
      refine wp_cond_true rfl ?_
      refine wp_seq_k (fun K40 hK40 => ?_)
      refine wp_region_seq ?_
      refine wpL_move (v := .func (.func 100) #[] #[.pointer (some ⟨g, 0, none⟩), .pointer (some ⟨h, 0, none⟩)]) (by rfl) (by rfl) (by rfl) ?_
      simp only [putT, List.set]
      refine wpL_move (v := .string (bs (ps.getD 0 []))) (by rfl) (by rfl) (by rfl) ?_
      simp only [putT, List.set]
      refine wpL_callMc (f := 100) (args := #[.bool true, .string (bs (ps.getD 0 []))]) (caps := #[.pointer (some ⟨g, 0, none⟩), .pointer (some ⟨h, 0, none⟩)]) (all := #[.bool true, .string (bs (ps.getD 0 [])), .pointer (some ⟨g, 0, none⟩), .pointer (some ⟨h, 0, none⟩)]) (R := fun v9 W9 => ∃ r43 c43, v9 = .tuple #[] ∧ (1 ≤ c43) ∧ Mem [g, h] w31 W9 [⟨g, 1, [(0, [.string (bs (nodeS (ps.getD 0 []) s0))])]⟩, ⟨h, 1, [(0, [.slice (some ⟨r43, 0, none⟩) 1 c43])]⟩, ⟨r43, c43, [(0, scells ([[1] ++ (ps.getD 0 []) ++ s0]))]⟩]) (by simp) (by rfl) (by rfl) (by rfl) rfl Tryd.func100 (by kernel_rfl) (by kernel_rfl) (tx1_nt (x := ps.getD 0 []) (s0 := s0) (h32k hk) hs0 hg0 hh0 (M.oldL L0) (M.oldG R0_0 L0 (by simp; omega)) (M.some (l' := [⟨g, 1, [(0, [.string (bs s0)])]⟩, ⟨h, 1, [(0, [.slice none 0 0])]⟩]) [0, 1] (by decide) rfl)) (fun v9 w42 h9 => ?_)
      obtain ⟨r43, c43, rfl, Cr43, M9⟩ := h9
      replace M := (show Mem [g, h] w w31 ([⟨g, 1, [(0, [.string (bs s0)])]⟩, ⟨h, 1, [(0, [.slice none 0 0])]⟩] ++ []) from M.pick [0, 1] (by decide) rfl).frame M9
      simp only [List.cons_append, List.nil_append] at M
      simp only [putT, List.set]
      refine wpL_nil (no_panic ?_)
      refine hK40 _ _ ?_
      refine wp_block ?_
      refine wp_loop_ghost (fun n9 a9 W9 => ∃ (ay : Nat) (ly : Nat) (u44 : Nat → Value), n9 = 2 * ay ∧ a9 = { tmps := #[.int .i64 ((ay : Nat) : Int), .int .i64 ((ly : Nat) : Int), .slice ap ps.length cp, .func (.func 100) #[] #[.pointer (some ⟨g, 0, none⟩), .pointer (some ⟨h, 0, none⟩)], undef, undef, undef, undef, .bool false, .bool true, undef, .string (bs (ps.getD 0 [])), .slice ap ps.length cp, .int .i64 ((ps.length : Nat) : Int), .int .i64 0, .bool true, .pointer (ap.map (·.add 0)), .string (bs (ps.getD 0 [])), undef, undef, undef, .bool false, .int .i64 ((l0 : Nat) : Int), .bool false, .bool true, .int .i64 ((a0 : Nat) : Int), .int .i64 ((a0 % 2 : Nat) : Int), .bool false, .bool false, .int .i64 ((a0 : Nat) : Int), .int .i64 ((l0 : Nat) : Int), .bool true, .bool true, .func (.func 100) #[] #[.pointer (some ⟨g, 0, none⟩), .pointer (some ⟨h, 0, none⟩)], .string (bs (ps.getD 0 [])), .tuple #[], u44 36, u44 37, u44 38, u44 39, u44 40, u44 41, u44 42, u44 43, u44 44, u44 45, u44 46, undef, undef, undef, undef, undef, undef, undef, undef, undef, undef], defers := [] } ∧ Mem [g, h] w W9 [⟨g, 1, [(0, [.string (bs (nodeS (ps.getD 0 []) s0))])]⟩, ⟨h, 1, [(0, [.slice (some ⟨r43, 0, none⟩) 1 c43])]⟩, ⟨r43, c43, [(0, scells ([[1] ++ (ps.getD 0 []) ++ s0]))]⟩] ∧ (ay ≤ a0) ∧ (ly ≤ l0) ∧ (skipZ ay ly = skipZ a0 l0)) (2 * (a0)) ?_ (fun n9 a9 W9 hI => ?_)
      ·
       exact ⟨a0, l0, (fun q9 => (#[undef, undef, undef, undef, undef, undef, undef, undef, undef, undef, undef, undef, undef, undef, undef, undef, undef, undef, undef, undef, undef, undef, undef, undef, undef, undef, undef, undef, undef, undef, undef, undef, undef, undef, undef, undef, undef, undef, undef, undef, undef, undef, undef, undef, undef, undef, undef] : Array Value).getD q9 undef), rfl, rfl, M, (Nat.le_refl _), (Nat.le_refl _), rfl⟩
      clear M
      obtain ⟨ay, ly, u44, rfl, rfl, M, ha2, hl2, hz⟩ := hI
      obtain ⟨w45, rfl⟩ : ∃ W8, W8 = W9 := ⟨_, rfl⟩
      refine wp_seq_k (fun K46 hK46 => ?_)
      refine wp_seq_k (fun K47 hK47 => ?_)
      cases hg48 : (decide (ay ≠ 0))
      ·
       have hnz : ¬ ay ≠ 0 := of_decide_eq_false hg48
       have hzz : skipZ ay ly = (ay, ly) := by rw [skipZ, dif_neg (fun q9 => hnz q9.1)]
       refine wp_region_seq ?_
       refine wpL_move (v := .int .i64 ((ay : Nat) : Int)) (by rfl) (by rfl) (by rfl) ?_
       simp only [putT, List.set]
       refine wpL_chunk 6 (by rfl) (fun Lk hLk => ?_)
       simp only [List.take, List.drop]
       refine wpV_bin (v := .bool false) (by rfl) rfl rfl rfl (fun W => (run_neqN ay 0 _ _ W).trans (by rw [hg48])) ?_
       simp only [putT, List.set]
       refine wpV_move (v := .bool false) (by rfl) rfl rfl ?_
       simp only [putT, List.set]
       refine wpV_skip (by rfl) (by rfl) ?_
       simp only [putT, List.set]
       refine wpV_skip (by rfl) (by rfl) ?_
       simp only [putT, List.set]
       refine wpV_skip (by rfl) (by rfl) ?_
       simp only [putT, List.set]
       refine wpV_pick (v := .bool false) (by rfl) rfl rfl rfl ?_
       simp only [putT, List.set]
       refine wpV_nil (hLk _ (fun w50 Sw50 => ?_))
       clear hLk Lk
       simp only [List.take, List.drop]
       replace M := M.sees Sw50
       refine wpL_nil (no_panic ?_)
       refine hK47 _ _ ?_
       refine wp_cond_false rfl ?_
       refine wp_exit ?_
       refine hK23 _ _ ?_
       refine wp_region_seq ?_
       refine wpL_move (v := .int .i64 ((ay : Nat) : Int)) (by rfl) (by rfl) (by rfl) ?_
       simp only [putT, List.set]
       refine wpL_chunk 3 (by rfl) (fun Lk hLk => ?_)
       simp only [List.take, List.drop]
       refine wpV_bin (v := .int .i64 ((ay / 2 ^ 1 : Nat) : Int)) (by rfl) rfl rfl rfl (fun W => run_shr (n := 1) (by decide) rfl W) ?_
       simp only [putT, List.set]
       refine wpV_move (v := .int .i64 ((ly : Nat) : Int)) (by rfl) rfl rfl ?_
       simp only [putT, List.set]
       refine wpV_bin (v := .int .i64 ((ly / 2 ^ 1 : Nat) : Int)) (by rfl) rfl rfl rfl (fun W => run_shr (n := 1) (by decide) rfl W) ?_
       simp only [putT, List.set]
       refine wpV_nil (hLk _ (fun w52 Sw52 => ?_))
       clear hLk Lk
       simp only [List.take, List.drop]
       replace M := M.sees Sw52
       refine wpL_assign (v := .int .i64 ((ay / 2 ^ 1 : Nat) : Int)) (by rfl) (by rfl) (by rfl) ?_
       simp only [putT, List.set]
       refine wpL_assign (v := .int .i64 ((ly / 2 ^ 1 : Nat) : Int)) (by rfl) (by rfl) (by rfl) ?_
       simp only [putT, List.set]
       refine wpL_nil (no_panic ?_)
       refine hK19 _ _ ?_
       refine wp_region_seq ?_
       refine wpL_chunk 1 (by rfl) (fun Lk hLk => ?_)
       simp only [List.take, List.drop]
       refine wpV_bin (v := .int .i64 1) (by rfl) rfl rfl rfl (fun W => run_add (by decide) W) ?_
       simp only [putT, List.set]
       refine wpV_nil (hLk _ (fun w54 Sw54 => ?_))
       clear hLk Lk
       simp only [List.take, List.drop]
       replace M := M.sees Sw54
       refine wpL_move (v := .int .i64 1) (by rfl) (by rfl) (by rfl) ?_
       simp only [putT, List.set]
       refine wpL_nil (no_panic ?_)
       refine Exists.intro _ ⟨?_, 1, (ay / 2 ^ 1), (ly / 2 ^ 1), (nodeS (ps.getD 0 []) s0), ([[1] ++ (ps.getD 0 []) ++ s0]), r43, c43, (fun q9 => (#[undef, undef, undef, undef, undef, undef, undef, undef, undef, undef, undef, .string (bs (ps.getD 0 [])), undef, undef, undef, .bool true, .pointer (ap.map (·.add 0)), .string (bs (ps.getD 0 [])), undef, undef, undef, .bool false, .int .i64 ((l0 : Nat) : Int), .bool false, .bool true, .int .i64 ((a0 : Nat) : Int), .int .i64 ((a0 % 2 : Nat) : Int), .bool false, .bool false, .int .i64 ((a0 : Nat) : Int), .int .i64 ((l0 : Nat) : Int), .bool true, .bool true, .func (.func 100) #[] #[.pointer (some ⟨g, 0, none⟩), .pointer (some ⟨h, 0, none⟩)], .string (bs (ps.getD 0 [])), .tuple #[], .int .i64 ((ay : Nat) : Int), .bool false, .bool false, undef, undef, undef, .bool false, u44 43, u44 44, u44 45, u44 46, .int .i64 ((ay : Nat) : Int), .int .i64 ((ay / 2 ^ 1 : Nat) : Int), .int .i64 ((ly : Nat) : Int), .int .i64 ((ly / 2 ^ 1 : Nat) : Int), .int .i64 1] : Array Value).getD q9 undef), rfl, rfl, M, Cr43, (Nat.le_refl _), (by omega), (by omega), (by omega), (nodeS_len _ _), rfl, (walkG_yes (k := 0) hk hl0 hys hz hzz rfl)⟩
       omega
      ·
       have hnz : ay ≠ 0 := of_decide_eq_true hg48
       refine wp_region_seq ?_
       refine wpL_move (v := .int .i64 ((ay : Nat) : Int)) (by rfl) (by rfl) (by rfl) ?_
       simp only [putT, List.set]
       refine wpL_chunk 6 (by rfl) (fun Lk hLk => ?_)
       simp only [List.take, List.drop]
       refine wpV_bin (v := .bool true) (by rfl) rfl rfl rfl (fun W => (run_neqN ay 0 _ _ W).trans (by rw [hg48])) ?_
       simp only [putT, List.set]
       refine wpV_move (v := .bool true) (by rfl) rfl rfl ?_
       simp only [putT, List.set]
       refine wpV_move (v := .int .i64 ((ay : Nat) : Int)) (by rfl) rfl rfl ?_
       simp only [putT, List.set]
       refine wpV_bin (v := .int .i64 ((ay % 2 : Nat) : Int)) (by rfl) rfl rfl rfl (fun W => run_and ((and_i64 (m := ay) (n := 1) (by omega) (by decide)).trans (by rw [and_oneN])) W) ?_
       simp only [putT, List.set]
       refine wpV_bin (v := .bool (decide (ay % 2 = 0))) (by rfl) rfl rfl rfl (fun W => run_eqlN (ay % 2) 0 _ _ W) ?_
       simp only [putT, List.set]
       refine wpV_pick (v := .bool (decide (ay % 2 = 0))) (by rfl) rfl rfl rfl ?_
       simp only [putT, List.set]
       refine wpV_nil (hLk _ (fun w56 Sw56 => ?_))
       clear hLk Lk
       simp only [List.take, List.drop]
       replace M := M.sees Sw56
       refine wpL_nil (no_panic ?_)
       refine hK47 _ _ ?_
       cases hc57 : (decide (ay % 2 = 0))
       ·
        have hev : ¬ ay % 2 = 0 := of_decide_eq_false hc57
        have hzz : skipZ ay ly = (ay, ly) := by rw [skipZ, dif_neg (fun q9 => hev q9.2)]
        refine wp_cond_false rfl ?_
        refine wp_exit ?_
        refine hK23 _ _ ?_
        refine wp_region_seq ?_
        refine wpL_move (v := .int .i64 ((ay : Nat) : Int)) (by rfl) (by rfl) (by rfl) ?_
        simp only [putT, List.set]
        refine wpL_chunk 3 (by rfl) (fun Lk hLk => ?_)
        simp only [List.take, List.drop]
        refine wpV_bin (v := .int .i64 ((ay / 2 ^ 1 : Nat) : Int)) (by rfl) rfl rfl rfl (fun W => run_shr (n := 1) (by decide) rfl W) ?_
        simp only [putT, List.set]
        refine wpV_move (v := .int .i64 ((ly : Nat) : Int)) (by rfl) rfl rfl ?_
        simp only [putT, List.set]
        refine wpV_bin (v := .int .i64 ((ly / 2 ^ 1 : Nat) : Int)) (by rfl) rfl rfl rfl (fun W => run_shr (n := 1) (by decide) rfl W) ?_
        simp only [putT, List.set]
        refine wpV_nil (hLk _ (fun w59 Sw59 => ?_))
        clear hLk Lk
        simp only [List.take, List.drop]
        replace M := M.sees Sw59
        refine wpL_assign (v := .int .i64 ((ay / 2 ^ 1 : Nat) : Int)) (by rfl) (by rfl) (by rfl) ?_
        simp only [putT, List.set]
        refine wpL_assign (v := .int .i64 ((ly / 2 ^ 1 : Nat) : Int)) (by rfl) (by rfl) (by rfl) ?_
        simp only [putT, List.set]
        refine wpL_nil (no_panic ?_)
        refine hK19 _ _ ?_
        refine wp_region_seq ?_
        refine wpL_chunk 1 (by rfl) (fun Lk hLk => ?_)
        simp only [List.take, List.drop]
        refine wpV_bin (v := .int .i64 1) (by rfl) rfl rfl rfl (fun W => run_add (by decide) W) ?_
        simp only [putT, List.set]
        refine wpV_nil (hLk _ (fun w61 Sw61 => ?_))
        clear hLk Lk
        simp only [List.take, List.drop]
        replace M := M.sees Sw61
        refine wpL_move (v := .int .i64 1) (by rfl) (by rfl) (by rfl) ?_
        simp only [putT, List.set]
        refine wpL_nil (no_panic ?_)
        refine Exists.intro _ ⟨?_, 1, (ay / 2 ^ 1), (ly / 2 ^ 1), (nodeS (ps.getD 0 []) s0), ([[1] ++ (ps.getD 0 []) ++ s0]), r43, c43, (fun q9 => (#[undef, undef, undef, undef, undef, undef, undef, undef, undef, undef, undef, .string (bs (ps.getD 0 [])), undef, undef, undef, .bool true, .pointer (ap.map (·.add 0)), .string (bs (ps.getD 0 [])), undef, undef, undef, .bool false, .int .i64 ((l0 : Nat) : Int), .bool false, .bool true, .int .i64 ((a0 : Nat) : Int), .int .i64 ((a0 % 2 : Nat) : Int), .bool false, .bool false, .int .i64 ((a0 : Nat) : Int), .int .i64 ((l0 : Nat) : Int), .bool true, .bool true, .func (.func 100) #[] #[.pointer (some ⟨g, 0, none⟩), .pointer (some ⟨h, 0, none⟩)], .string (bs (ps.getD 0 [])), .tuple #[], .int .i64 ((ay : Nat) : Int), .bool true, .bool true, .int .i64 ((ay : Nat) : Int), .int .i64 ((ay % 2 : Nat) : Int), .bool false, .bool false, u44 43, u44 44, u44 45, u44 46, .int .i64 ((ay : Nat) : Int), .int .i64 ((ay / 2 ^ 1 : Nat) : Int), .int .i64 ((ly : Nat) : Int), .int .i64 ((ly / 2 ^ 1 : Nat) : Int), .int .i64 1] : Array Value).getD q9 undef), rfl, rfl, M, Cr43, (Nat.le_refl _), (by omega), (by omega), (by omega), (nodeS_len _ _), rfl, (walkG_yes (k := 0) hk hl0 hys hz hzz rfl)⟩
        omega
       ·
        have hev : ay % 2 = 0 := of_decide_eq_true hc57
        refine wp_cond_true rfl ?_
        refine wp_skip ?_
        refine hK46 _ _ ?_
        refine wp_block ?_
        refine wp_region_seq ?_
        refine wpL_move (v := .int .i64 ((ay : Nat) : Int)) (by rfl) (by rfl) (by rfl) ?_
        simp only [putT, List.set]
        refine wpL_chunk 3 (by rfl) (fun Lk hLk => ?_)
        simp only [List.take, List.drop]
        refine wpV_bin (v := .int .i64 ((ay / 2 ^ 1 : Nat) : Int)) (by rfl) rfl rfl rfl (fun W => run_shr (n := 1) (by decide) rfl W) ?_
        simp only [putT, List.set]
        refine wpV_move (v := .int .i64 ((ly : Nat) : Int)) (by rfl) rfl rfl ?_
        simp only [putT, List.set]
        refine wpV_bin (v := .int .i64 ((ly / 2 ^ 1 : Nat) : Int)) (by rfl) rfl rfl rfl (fun W => run_shr (n := 1) (by decide) rfl W) ?_
        simp only [putT, List.set]
        refine wpV_nil (hLk _ (fun w63 Sw63 => ?_))
        clear hLk Lk
        simp only [List.take, List.drop]
        replace M := M.sees Sw63
        refine wpL_assign (v := .int .i64 ((ay / 2 ^ 1 : Nat) : Int)) (by rfl) (by rfl) (by rfl) ?_
        simp only [putT, List.set]
        refine wpL_assign (v := .int .i64 ((ly / 2 ^ 1 : Nat) : Int)) (by rfl) (by rfl) (by rfl) ?_
        simp only [putT, List.set]
        refine wpL_nil (no_panic ?_)
        refine Exists.intro _ ⟨?_, (ay / 2 ^ 1), (ly / 2 ^ 1), (fun q9 => (#[undef, undef, undef, undef, undef, undef, undef, undef, undef, undef, undef, undef, undef, undef, undef, undef, undef, undef, undef, undef, undef, undef, undef, undef, undef, undef, undef, undef, undef, undef, undef, undef, undef, undef, undef, undef, .int .i64 ((ay : Nat) : Int), .bool true, .bool true, .int .i64 ((ay : Nat) : Int), .int .i64 ((ay % 2 : Nat) : Int), .bool true, .bool true, .int .i64 ((ay : Nat) : Int), .int .i64 ((ay / 2 ^ 1 : Nat) : Int), .int .i64 ((ly : Nat) : Int), .int .i64 ((ly / 2 ^ 1 : Nat) : Int)] : Array Value).getD q9 undef), rfl, rfl, M, (by omega), (by omega), ((skipZ_go hnz hev).symm.trans hz)⟩
        omega
    ·
     have hod : a0 % 2 = 1 := of_decide_eq_true hg29
     have hys : a0 % 2 = 1 ∨ a0 = l0 := .inl hod
     refine wp_region_seq ?_
     refine wpL_move (v := .int .i64 ((a0 : Nat) : Int)) (by rfl) (by rfl) (by rfl) ?_
     simp only [putT, List.set]
     refine wpL_chunk 7 (by rfl) (fun Lk hLk => ?_)
     simp only [List.take, List.drop]
     refine wpV_bin (v := .int .i64 ((a0 % 2 : Nat) : Int)) (by rfl) rfl rfl rfl (fun W => run_and ((and_i64 (m := a0) (n := 1) (by omega) (by decide)).trans (by rw [and_oneN])) W) ?_
     simp only [putT, List.set]
     refine wpV_bin (v := .bool true) (by rfl) rfl rfl rfl (fun W => (run_eqlN (a0 % 2) 1 _ _ W).trans (by rw [hg29])) ?_
     simp only [putT, List.set]
     refine wpV_move (v := .bool true) (by rfl) rfl rfl ?_
     simp only [putT, List.set]
     refine wpV_skip (by rfl) (by rfl) ?_
     simp only [putT, List.set]
     refine wpV_skip (by rfl) (by rfl) ?_
     simp only [putT, List.set]
     refine wpV_skip (by rfl) (by rfl) ?_
     simp only [putT, List.set]
     refine wpV_pick (v := .bool true) (by rfl) rfl rfl rfl ?_
     simp only [putT, List.set]
     refine wpV_nil (hLk _ (fun w65 Sw65 => ?_))
     clear hLk Lk
     simp only [List.take, List.drop]
     replace M := M.sees Sw65
     refine wpL_assign (v := .bool true) (by rfl) (by rfl) (by rfl) ?_
     simp only [putT, List.set]
     refine wpL_nil (no_panic ?_)
     refine hK28 _ _ ?_
     refine wp_cond_true rfl ?_
     refine wp_seq_k (fun K66 hK66 => ?_)
     refine wp_region_seq ?_
     refine wpL_move (v := .func (.func 100) #[] #[.pointer (some ⟨g, 0, none⟩), .pointer (some ⟨h, 0, none⟩)]) (by rfl) (by rfl) (by rfl) ?_
     simp only [putT, List.set]
     refine wpL_move (v := .string (bs (ps.getD 0 []))) (by rfl) (by rfl) (by rfl) ?_
     simp only [putT, List.set]
     refine wpL_callMc (f := 100) (args := #[.bool true, .string (bs (ps.getD 0 []))]) (caps := #[.pointer (some ⟨g, 0, none⟩), .pointer (some ⟨h, 0, none⟩)]) (all := #[.bool true, .string (bs (ps.getD 0 [])), .pointer (some ⟨g, 0, none⟩), .pointer (some ⟨h, 0, none⟩)]) (R := fun v9 W9 => ∃ r69 c69, v9 = .tuple #[] ∧ (1 ≤ c69) ∧ Mem [g, h] w65 W9 [⟨g, 1, [(0, [.string (bs (nodeS (ps.getD 0 []) s0))])]⟩, ⟨h, 1, [(0, [.slice (some ⟨r69, 0, none⟩) 1 c69])]⟩, ⟨r69, c69, [(0, scells ([[1] ++ (ps.getD 0 []) ++ s0]))]⟩]) (by simp) (by rfl) (by rfl) (by rfl) rfl Tryd.func100 (by kernel_rfl) (by kernel_rfl) (tx1_nt (x := ps.getD 0 []) (s0 := s0) (h32k hk) hs0 hg0 hh0 (M.oldL L0) (M.oldG R0_0 L0 (by simp; omega)) (M.some (l' := [⟨g, 1, [(0, [.string (bs s0)])]⟩, ⟨h, 1, [(0, [.slice none 0 0])]⟩]) [0, 1] (by decide) rfl)) (fun v9 w68 h9 => ?_)
     obtain ⟨r69, c69, rfl, Cr69, M9⟩ := h9
     replace M := (show Mem [g, h] w w65 ([⟨g, 1, [(0, [.string (bs s0)])]⟩, ⟨h, 1, [(0, [.slice none 0 0])]⟩] ++ []) from M.pick [0, 1] (by decide) rfl).frame M9
     simp only [List.cons_append, List.nil_append] at M
     simp only [putT, List.set]
     refine wpL_nil (no_panic ?_)
     refine hK66 _ _ ?_
     refine wp_block ?_
     refine wp_loop_ghost (fun n9 a9 W9 => ∃ (ay : Nat) (ly : Nat) (u70 : Nat → Value), n9 = 2 * ay ∧ a9 = { tmps := #[.int .i64 ((ay : Nat) : Int), .int .i64 ((ly : Nat) : Int), .slice ap ps.length cp, .func (.func 100) #[] #[.pointer (some ⟨g, 0, none⟩), .pointer (some ⟨h, 0, none⟩)], undef, undef, undef, undef, .bool false, .bool true, undef, .string (bs (ps.getD 0 [])), .slice ap ps.length cp, .int .i64 ((ps.length : Nat) : Int), .int .i64 0, .bool true, .pointer (ap.map (·.add 0)), .string (bs (ps.getD 0 [])), undef, undef, undef, .bool false, .int .i64 ((l0 : Nat) : Int), .bool false, .bool true, .int .i64 ((a0 : Nat) : Int), .int .i64 ((a0 % 2 : Nat) : Int), .bool true, .bool true, undef, undef, undef, .bool true, .func (.func 100) #[] #[.pointer (some ⟨g, 0, none⟩), .pointer (some ⟨h, 0, none⟩)], .string (bs (ps.getD 0 [])), .tuple #[], u70 36, u70 37, u70 38, u70 39, u70 40, u70 41, u70 42, u70 43, u70 44, u70 45, u70 46, undef, undef, undef, undef, undef, undef, undef, undef, undef, undef], defers := [] } ∧ Mem [g, h] w W9 [⟨g, 1, [(0, [.string (bs (nodeS (ps.getD 0 []) s0))])]⟩, ⟨h, 1, [(0, [.slice (some ⟨r69, 0, none⟩) 1 c69])]⟩, ⟨r69, c69, [(0, scells ([[1] ++ (ps.getD 0 []) ++ s0]))]⟩] ∧ (ay ≤ a0) ∧ (ly ≤ l0) ∧ (skipZ ay ly = skipZ a0 l0)) (2 * (a0)) ?_ (fun n9 a9 W9 hI => ?_)
     ·
      exact ⟨a0, l0, (fun q9 => (#[undef, undef, undef, undef, undef, undef, undef, undef, undef, undef, undef, undef, undef, undef, undef, undef, undef, undef, undef, undef, undef, undef, undef, undef, undef, undef, undef, undef, undef, undef, undef, undef, undef, undef, undef, undef, undef, undef, undef, undef, undef, undef, undef, undef, undef, undef, undef] : Array Value).getD q9 undef), rfl, rfl, M, (Nat.le_refl _), (Nat.le_refl _), rfl⟩
     clear M
     obtain ⟨ay, ly, u70, rfl, rfl, M, ha2, hl2, hz⟩ := hI
     obtain ⟨w71, rfl⟩ : ∃ W8, W8 = W9 := ⟨_, rfl⟩
     refine wp_seq_k (fun K72 hK72 => ?_)
     refine wp_seq_k (fun K73 hK73 => ?_)
     cases hg74 : (decide (ay ≠ 0))
     ·
      have hnz : ¬ ay ≠ 0 := of_decide_eq_false hg74
      have hzz : skipZ ay ly = (ay, ly) := by rw [skipZ, dif_neg (fun q9 => hnz q9.1)]
      refine wp_region_seq ?_
      refine wpL_move (v := .int .i64 ((ay : Nat) : Int)) (by rfl) (by rfl) (by rfl) ?_
      simp only [putT, List.set]
      refine wpL_chunk 6 (by rfl) (fun Lk hLk => ?_)
      simp only [List.take, List.drop]
      refine wpV_bin (v := .bool false) (by rfl) rfl rfl rfl (fun W => (run_neqN ay 0 _ _ W).trans (by rw [hg74])) ?_
      simp only [putT, List.set]
      refine wpV_move (v := .bool false) (by rfl) rfl rfl ?_
      simp only [putT, List.set]
      refine wpV_skip (by rfl) (by rfl) ?_
      simp only [putT, List.set]
      refine wpV_skip (by rfl) (by rfl) ?_
      simp only [putT, List.set]
      refine wpV_skip (by rfl) (by rfl) ?_
      simp only [putT, List.set]
      refine wpV_pick (v := .bool false) (by rfl) rfl rfl rfl ?_
      simp only [putT, List.set]
      refine wpV_nil (hLk _ (fun w76 Sw76 => ?_))
      clear hLk Lk
      simp only [List.take, List.drop]
      replace M := M.sees Sw76
      refine wpL_nil (no_panic ?_)
      refine hK73 _ _ ?_
      refine wp_cond_false rfl ?_
      refine wp_exit ?_
      refine hK23 _ _ ?_
      refine wp_region_seq ?_
      refine wpL_move (v := .int .i64 ((ay : Nat) : Int)) (by rfl) (by rfl) (by rfl) ?_
      simp only [putT, List.set]
      refine wpL_chunk 3 (by rfl) (fun Lk hLk => ?_)
      simp only [List.take, List.drop]
      refine wpV_bin (v := .int .i64 ((ay / 2 ^ 1 : Nat) : Int)) (by rfl) rfl rfl rfl (fun W => run_shr (n := 1) (by decide) rfl W) ?_
      simp only [putT, List.set]
      refine wpV_move (v := .int .i64 ((ly : Nat) : Int)) (by rfl) rfl rfl ?_
      simp only [putT, List.set]
      refine wpV_bin (v := .int .i64 ((ly / 2 ^ 1 : Nat) : Int)) (by rfl) rfl rfl rfl (fun W => run_shr (n := 1) (by decide) rfl W) ?_
      simp only [putT, List.set]
      refine wpV_nil (hLk _ (fun w78 Sw78 => ?_))
      clear hLk Lk
      simp only [List.take, List.drop]
      replace M := M.sees Sw78
      refine wpL_assign (v := .int .i64 ((ay / 2 ^ 1 : Nat) : Int)) (by rfl) (by rfl) (by rfl) ?_
      simp only [putT, List.set]
      refine wpL_assign (v := .int .i64 ((ly / 2 ^ 1 : Nat) : Int)) (by rfl) (by rfl) (by rfl) ?_
      simp only [putT, List.set]
      refine wpL_nil (no_panic ?_)
      refine hK19 _ _ ?_
      refine wp_region_seq ?_
      refine wpL_chunk 1 (by rfl) (fun Lk hLk => ?_)
      simp only [List.take, List.drop]
      refine wpV_bin (v := .int .i64 1) (by rfl) rfl rfl rfl (fun W => run_add (by decide) W) ?_
      simp only [putT, List.set]
      refine wpV_nil (hLk _ (fun w80 Sw80 => ?_))
      clear hLk Lk
      simp only [List.take, List.drop]
      replace M := M.sees Sw80
      refine wpL_move (v := .int .i64 1) (by rfl) (by rfl) (by rfl) ?_
      simp only [putT, List.set]
      refine wpL_nil (no_panic ?_)
      refine Exists.intro _ ⟨?_, 1, (ay / 2 ^ 1), (ly / 2 ^ 1), (nodeS (ps.getD 0 []) s0), ([[1] ++ (ps.getD 0 []) ++ s0]), r69, c69, (fun q9 => (#[undef, undef, undef, undef, undef, undef, undef, undef, undef, undef, undef, .string (bs (ps.getD 0 [])), undef, undef, undef, .bool true, .pointer (ap.map (·.add 0)), .string (bs (ps.getD 0 [])), undef, undef, undef, .bool false, .int .i64 ((l0 : Nat) : Int), .bool false, .bool true, .int .i64 ((a0 : Nat) : Int), .int .i64 ((a0 % 2 : Nat) : Int), .bool true, .bool true, undef, undef, undef, .bool true, .func (.func 100) #[] #[.pointer (some ⟨g, 0, none⟩), .pointer (some ⟨h, 0, none⟩)], .string (bs (ps.getD 0 [])), .tuple #[], .int .i64 ((ay : Nat) : Int), .bool false, .bool false, undef, undef, undef, .bool false, u70 43, u70 44, u70 45, u70 46, .int .i64 ((ay : Nat) : Int), .int .i64 ((ay / 2 ^ 1 : Nat) : Int), .int .i64 ((ly : Nat) : Int), .int .i64 ((ly / 2 ^ 1 : Nat) : Int), .int .i64 1] : Array Value).getD q9 undef), rfl, rfl, M, Cr69, (Nat.le_refl _), (by omega), (by omega), (by omega), (nodeS_len _ _), rfl, (walkG_yes (k := 0) hk hl0 hys hz hzz rfl)⟩
      omega
     ·
      have hnz : ay ≠ 0 := of_decide_eq_true hg74
      refine wp_region_seq ?_
      refine wpL_move (v := .int .i64 ((ay : Nat) : Int)) (by rfl) (by rfl) (by rfl) ?_
      simp only [putT, List.set]
      refine wpL_chunk 6 (by rfl) (fun Lk hLk => ?_)
      simp only [List.take, List.drop]
      refine wpV_bin (v := .bool true) (by rfl) rfl rfl rfl (fun W => (run_neqN ay 0 _ _ W).trans (by rw [hg74])) ?_
      simp only [putT, List.set]
      refine wpV_move (v := .bool true) (by rfl) rfl rfl ?_
      simp only [putT, List.set]
      refine wpV_move (v := .int .i64 ((ay : Nat) : Int)) (by rfl) rfl rfl ?_
      simp only [putT, List.set]
      refine wpV_bin (v := .int .i64 ((ay % 2 : Nat) : Int)) (by rfl) rfl rfl rfl (fun W => run_and ((and_i64 (m := ay) (n := 1) (by omega) (by decide)).trans (by rw [and_oneN])) W) ?_
      simp only [putT, List.set]
      refine wpV_bin (v := .bool (decide (ay % 2 = 0))) (by rfl) rfl rfl rfl (fun W => run_eqlN (ay % 2) 0 _ _ W) ?_
      simp only [putT, List.set]
      refine wpV_pick (v := .bool (decide (ay % 2 = 0))) (by rfl) rfl rfl rfl ?_
      simp only [putT, List.set]
      refine wpV_nil (hLk _ (fun w82 Sw82 => ?_))
      clear hLk Lk
      simp only [List.take, List.drop]
      replace M := M.sees Sw82
      refine wpL_nil (no_panic ?_)
      refine hK73 _ _ ?_
      cases hc83 : (decide (ay % 2 = 0))
      ·
       have hev : ¬ ay % 2 = 0 := of_decide_eq_false hc83
       have hzz : skipZ ay ly = (ay, ly) := by rw [skipZ, dif_neg (fun q9 => hev q9.2)]
       refine wp_cond_false rfl ?_
       refine wp_exit ?_
       refine hK23 _ _ ?_
       refine wp_region_seq ?_
       refine wpL_move (v := .int .i64 ((ay : Nat) : Int)) (by rfl) (by rfl) (by rfl) ?_
       simp only [putT, List.set]
       refine wpL_chunk 3 (by rfl) (fun Lk hLk => ?_)
       simp only [List.take, List.drop]
       refine wpV_bin (v := .int .i64 ((ay / 2 ^ 1 : Nat) : Int)) (by rfl) rfl rfl rfl (fun W => run_shr (n := 1) (by decide) rfl W) ?_
       simp only [putT, List.set]
       refine wpV_move (v := .int .i64 ((ly : Nat) : Int)) (by rfl) rfl rfl ?_
       simp only [putT, List.set]
       refine wpV_bin (v := .int .i64 ((ly / 2 ^ 1 : Nat) : Int)) (by rfl) rfl rfl rfl (fun W => run_shr (n := 1) (by decide) rfl W) ?_
       simp only [putT, List.set]
       refine wpV_nil (hLk _ (fun w85 Sw85 => ?_))
       clear hLk Lk
       simp only [List.take, List.drop]
       replace M := M.sees Sw85
       refine wpL_assign (v := .int .i64 ((ay / 2 ^ 1 : Nat) : Int)) (by rfl) (by rfl) (by rfl) ?_
       simp only [putT, List.set]
       refine wpL_assign (v := .int .i64 ((ly / 2 ^ 1 : Nat) : Int)) (by rfl) (by rfl) (by rfl) ?_
       simp only [putT, List.set]
       refine wpL_nil (no_panic ?_)
       refine hK19 _ _ ?_
       refine wp_region_seq ?_
       refine wpL_chunk 1 (by rfl) (fun Lk hLk => ?_)
       simp only [List.take, List.drop]
       refine wpV_bin (v := .int .i64 1) (by rfl) rfl rfl rfl (fun W => run_add (by decide) W) ?_
       simp only [putT, List.set]
       refine wpV_nil (hLk _ (fun w87 Sw87 => ?_))
       clear hLk Lk
       simp only [List.take, List.drop]
       replace M := M.sees Sw87
       refine wpL_move (v := .int .i64 1) (by rfl) (by rfl) (by rfl) ?_
       simp only [putT, List.set]
       refine wpL_nil (no_panic ?_)
       refine Exists.intro _ ⟨?_, 1, (ay / 2 ^ 1), (ly / 2 ^ 1), (nodeS (ps.getD 0 []) s0), ([[1] ++ (ps.getD 0 []) ++ s0]), r69, c69, (fun q9 => (#[undef, undef, undef, undef, undef, undef, undef, undef, undef, undef, undef, .string (bs (ps.getD 0 [])), undef, undef, undef, .bool true, .pointer (ap.map (·.add 0)), .string (bs (ps.getD 0 [])), undef, undef, undef, .bool false, .int .i64 ((l0 : Nat) : Int), .bool false, .bool true, .int .i64 ((a0 : Nat) : Int), .int .i64 ((a0 % 2 : Nat) : Int), .bool true, .bool true, undef, undef, undef, .bool true, .func (.func 100) #[] #[.pointer (some ⟨g, 0, none⟩), .pointer (some ⟨h, 0, none⟩)], .string (bs (ps.getD 0 [])), .tuple #[], .int .i64 ((ay : Nat) : Int), .bool true, .bool true, .int .i64 ((ay : Nat) : Int), .int .i64 ((ay % 2 : Nat) : Int), .bool false, .bool false, u70 43, u70 44, u70 45, u70 46, .int .i64 ((ay : Nat) : Int), .int .i64 ((ay / 2 ^ 1 : Nat) : Int), .int .i64 ((ly : Nat) : Int), .int .i64 ((ly / 2 ^ 1 : Nat) : Int), .int .i64 1] : Array Value).getD q9 undef), rfl, rfl, M, Cr69, (Nat.le_refl _), (by omega), (by omega), (by omega), (nodeS_len _ _), rfl, (walkG_yes (k := 0) hk hl0 hys hz hzz rfl)⟩
       omega
      ·
       have hev : ay % 2 = 0 := of_decide_eq_true hc83
       refine wp_cond_true rfl ?_
       refine wp_skip ?_
       refine hK72 _ _ ?_
       refine wp_block ?_
       refine wp_region_seq ?_
       refine wpL_move (v := .int .i64 ((ay : Nat) : Int)) (by rfl) (by rfl) (by rfl) ?_
       simp only [putT, List.set]
       refine wpL_chunk 3 (by rfl) (fun Lk hLk => ?_)
       simp only [List.take, List.drop]
       refine wpV_bin (v := .int .i64 ((ay / 2 ^ 1 : Nat) : Int)) (by rfl) rfl rfl rfl (fun W => run_shr (n := 1) (by decide) rfl W) ?_
       simp only [putT, List.set]
       refine wpV_move (v := .int .i64 ((ly : Nat) : Int)) (by rfl) rfl rfl ?_
       simp only [putT, List.set]
       refine wpV_bin (v := .int .i64 ((ly / 2 ^ 1 : Nat) : Int)) (by rfl) rfl rfl rfl (fun W => run_shr (n := 1) (by decide) rfl W) ?_
       simp only [putT, List.set]
       refine wpV_nil (hLk _ (fun w89 Sw89 => ?_))
       clear hLk Lk
       simp only [List.take, List.drop]
       replace M := M.sees Sw89
       refine wpL_assign (v := .int .i64 ((ay / 2 ^ 1 : Nat) : Int)) (by rfl) (by rfl) (by rfl) ?_
       simp only [putT, List.set]
       refine wpL_assign (v := .int .i64 ((ly / 2 ^ 1 : Nat) : Int)) (by rfl) (by rfl) (by rfl) ?_
       simp only [putT, List.set]
       refine wpL_nil (no_panic ?_)
       refine Exists.intro _ ⟨?_, (ay / 2 ^ 1), (ly / 2 ^ 1), (fun q9 => (#[undef, undef, undef, undef, undef, undef, undef, undef, undef, undef, undef, undef, undef, undef, undef, undef, undef, undef, undef, undef, undef, undef, undef, undef, undef, undef, undef, undef, undef, undef, undef, undef, undef, undef, undef, undef, .int .i64 ((ay : Nat) : Int), .bool true, .bool true, .int .i64 ((ay : Nat) : Int), .int .i64 ((ay % 2 : Nat) : Int), .bool true, .bool true, .int .i64 ((ay : Nat) : Int), .int .i64 ((ay / 2 ^ 1 : Nat) : Int), .int .i64 ((ly : Nat) : Int), .int .i64 ((ly / 2 ^ 1 : Nat) : Int)] : Array Value).getD q9 undef), rfl, rfl, M, (by omega), (by omega), ((skipZ_go hnz hev).symm.trans hz)⟩
       omega
   ·
    have hl0 : l0 = 0 := of_decide_eq_true hc27
    refine wp_cond_true rfl ?_
    refine wp_seq_k (fun K90 hK90 => ?_)
    refine wp_region_seq ?_
    refine wpL_assign (v := .bool false) (by rfl) (by rfl) (by rfl) ?_
    simp only [putT, List.set]
    refine wpL_nil (no_panic ?_)
    refine hK90 _ _ ?_
    refine wp_exit ?_
    refine hK6 _ _ ?_
    refine wp_seq_k (fun K92 hK92 => ?_)
    refine wp_region_seq ?_
    refine wpL_move (v := .bool false) (by rfl) (by rfl) (by rfl) ?_
    simp only [putT, List.set]
    refine wpL_move (v := .bool false) (by rfl) (by rfl) (by rfl) ?_
    simp only [putT, List.set]
    refine wpL_chunk 3 (by rfl) (fun Lk hLk => ?_)
    simp only [List.take, List.drop]
    refine wpV_skip (by rfl) (by rfl) ?_
    simp only [putT, List.set]
    refine wpV_skip (by rfl) (by rfl) ?_
    simp only [putT, List.set]
    refine wpV_pick (v := .bool false) (by rfl) rfl rfl rfl ?_
    simp only [putT, List.set]
    refine wpV_nil (hLk _ (fun w94 Sw94 => ?_))
    clear hLk Lk
    simp only [List.take, List.drop]
    replace M := M.sees Sw94
    refine wpL_assign (v := .bool false) (by rfl) (by rfl) (by rfl) ?_
    simp only [putT, List.set]
    refine wpL_nil (no_panic ?_)
    refine hK92 _ _ ?_
    refine wp_ret ?_
    repeat (first | with_reducible refine then_ret ?_ | with_reducible refine inblock_ret ?_ | with_reducible refine nogoto_ret ?_)
    refine bodyPost_ret (v := .bool false) (res1 rfl (.tmp (by rfl))) rfl ?_
    have hE : walkF clashF ps a0 l0 ([], s0) = (false, [], s0) := walkG_stop (k := 0) (ps := ps) hk hl0
    rw [hE]
    exact ⟨_, rfl, none, 0, rfl, M, RowA.nil⟩
 clear M
 obtain ⟨k, a, l, s1, o1, r, rc, u10, rfl, rfl, M, Cr, hk1, hk4, ha, hlb, hs1, ho, hW⟩ := hI
 obtain ⟨w95, rfl⟩ : ∃ W8, W8 = W9 := ⟨_, rfl⟩
 refine wp_seq_k (fun K96 hK96 => ?_)
 refine wp_region_seq ?_
 refine wpL_chunk 1 (by rfl) (fun Lk hLk => ?_)
 simp only [List.take, List.drop]
 refine wpV_bin (v := .bool (decide (k < ps.length))) (by rfl) rfl rfl rfl (fun W => run_lssN k ps.length _ _ W) ?_
 simp only [putT, List.set]
 refine wpV_nil (hLk _ (fun w98 Sw98 => ?_))
 clear hLk Lk
 simp only [List.take, List.drop]
 replace M := M.sees Sw98
 refine wpL_nil (no_panic ?_)
 refine hK96 _ _ ?_
 refine wp_seq_k (fun K99 hK99 => ?_)
 cases hc100 : (decide (k < ps.length))
 ·
  have hk : ¬ k < ps.length := of_decide_eq_false hc100
  refine wp_cond_false rfl ?_
  refine wp_exit ?_
  refine hK6 _ _ ?_
  refine wp_seq_k (fun K101 hK101 => ?_)
  refine wp_region_seq ?_
  refine wpL_move (v := .bool true) (by rfl) (by rfl) (by rfl) ?_
  simp only [putT, List.set]
  refine wpL_move (v := .bool true) (by rfl) (by rfl) (by rfl) ?_
  simp only [putT, List.set]
  refine wpL_chunk 3 (by rfl) (fun Lk hLk => ?_)
  simp only [List.take, List.drop]
  refine wpV_move (v := .int .i64 ((l : Nat) : Int)) (by rfl) rfl rfl ?_
  simp only [putT, List.set]
  refine wpV_bin (v := .bool (decide (l = 0))) (by rfl) rfl rfl rfl (fun W => run_eqlN l 0 _ _ W) ?_
  simp only [putT, List.set]
  refine wpV_pick (v := .bool (decide (l = 0))) (by rfl) rfl rfl rfl ?_
  simp only [putT, List.set]
  refine wpV_nil (hLk _ (fun w103 Sw103 => ?_))
  clear hLk Lk
  simp only [List.take, List.drop]
  replace M := M.sees Sw103
  refine wpL_assign (v := .bool (decide (l = 0))) (by rfl) (by rfl) (by rfl) ?_
  simp only [putT, List.set]
  refine wpL_nil (no_panic ?_)
  refine hK101 _ _ ?_
  refine wp_ret ?_
  repeat (first | with_reducible refine then_ret ?_ | with_reducible refine inblock_ret ?_ | with_reducible refine nogoto_ret ?_)
  refine bodyPost_ret (v := .bool (decide (l = 0))) (res1 rfl (.tmp (by rfl))) rfl ?_
  have hE : walkF clashF ps a0 l0 ([], s0) = (decide (l = 0), o1, s1) := by rw [hW, List.drop_of_length_le (by omega)]; rfl
  rw [hE]
  exact ⟨_, rfl, _, _, rfl, (M.pick [0, 1] (by decide) rfl), (RowA.of (M.r 2 0 rfl rfl) (M.lt 2 rfl) (scells_len _).symm Cr)⟩
 ·
  have hk : k < ps.length := of_decide_eq_true hc100
  refine wp_cond_true rfl ?_
  refine wp_skip ?_
  refine hK99 _ _ ?_
  refine wp_seq_k (fun K104 hK104 => ?_)
  refine wp_block ?_
  refine wp_seq_k (fun K105 hK105 => ?_)
  refine wp_region_seq ?_
  refine wpL_chunk 2 (by rfl) (fun Lk hLk => ?_)
  simp only [List.take, List.drop]
  refine wpV_idxA (i := k) (by rfl) rfl rfl rfl Tryd.underlying48 info9 (Hp.mem M).row (by omega) ?_
  simp only [putT, List.set]
  refine wpV_loadA (i := k) (v := .string (bs (ps.getD k []))) (by rfl) rfl rfl (Hp.mem M).row (scells_get (ps := ps) (by omega)) Tryd.underlying9 rfl ?_
  simp only [putT, List.set]
  refine wpV_nil (hLk _ (fun w107 Sw107 => ?_))
  clear hLk Lk
  simp only [List.take, List.drop]
  replace M := M.sees Sw107
  refine wpL_assign (v := .string (bs (ps.getD k []))) (by rfl) (by rfl) (by rfl) ?_
  simp only [putT, List.set]
  refine wpL_nil (no_panic ?_)
  refine hK105 _ _ ?_
  refine wp_seq_k (fun K108 hK108 => ?_)
  refine wp_block ?_
  refine wp_seq_k (fun K109 hK109 => ?_)
  refine wp_region_seq ?_
  refine wpL_move (v := .int .i64 ((l : Nat) : Int)) (by rfl) (by rfl) (by rfl) ?_
  simp only [putT, List.set]
  refine wpL_chunk 1 (by rfl) (fun Lk hLk => ?_)
  simp only [List.take, List.drop]
  refine wpV_bin (v := .bool (decide (l = 0))) (by rfl) rfl rfl rfl (fun W => run_eqlN l 0 _ _ W) ?_
  simp only [putT, List.set]
  refine wpV_nil (hLk _ (fun w111 Sw111 => ?_))
  clear hLk Lk
  simp only [List.take, List.drop]
  replace M := M.sees Sw111
  refine wpL_assign (v := .bool (decide (l = 0))) (by rfl) (by rfl) (by rfl) ?_
  simp only [putT, List.set]
  refine wpL_nil (no_panic ?_)
  refine hK109 _ _ ?_
  cases hc112 : (decide (l = 0))
  ·
   have hl0 : ¬ l = 0 := of_decide_eq_false hc112
   refine wp_cond_false rfl ?_
   refine wp_seq_k (fun K113 hK113 => ?_)
   cases hg114 : (decide (a % 2 = 1))
   ·
    have hod : ¬ a % 2 = 1 := of_decide_eq_false hg114
    refine wp_region_seq ?_
    refine wpL_move (v := .int .i64 ((a : Nat) : Int)) (by rfl) (by rfl) (by rfl) ?_
    simp only [putT, List.set]
    refine wpL_chunk 7 (by rfl) (fun Lk hLk => ?_)
    simp only [List.take, List.drop]
    refine wpV_bin (v := .int .i64 ((a % 2 : Nat) : Int)) (by rfl) rfl rfl rfl (fun W => run_and ((and_i64 (m := a) (n := 1) (by omega) (by decide)).trans (by rw [and_oneN])) W) ?_
    simp only [putT, List.set]
    refine wpV_bin (v := .bool false) (by rfl) rfl rfl rfl (fun W => (run_eqlN (a % 2) 1 _ _ W).trans (by rw [hg114])) ?_
    simp only [putT, List.set]
    refine wpV_move (v := .bool false) (by rfl) rfl rfl ?_
    simp only [putT, List.set]
    refine wpV_move (v := .int .i64 ((a : Nat) : Int)) (by rfl) rfl rfl ?_
    simp only [putT, List.set]
    refine wpV_move (v := .int .i64 ((l : Nat) : Int)) (by rfl) rfl rfl ?_
    simp only [putT, List.set]
    refine wpV_bin (v := .bool (decide (a = l))) (by rfl) rfl rfl rfl (fun W => run_eqlN a l _ _ W) ?_
    simp only [putT, List.set]
    refine wpV_pick (v := .bool (decide (a = l))) (by rfl) rfl rfl rfl ?_
    simp only [putT, List.set]
    refine wpV_nil (hLk _ (fun w116 Sw116 => ?_))
    clear hLk Lk
    simp only [List.take, List.drop]
    replace M := M.sees Sw116
    refine wpL_assign (v := .bool (decide (a = l))) (by rfl) (by rfl) (by rfl) ?_
    simp only [putT, List.set]
    refine wpL_nil (no_panic ?_)
    refine hK113 _ _ ?_
    cases hc117 : (decide (a = l))
    ·
     have hal : ¬ a = l := of_decide_eq_false hc117
     have hno : ¬ (a % 2 = 1 ∨ a = l) := fun q9 => q9.elim hod hal
     refine wp_cond_false rfl ?_
     refine wp_region_seq ?_
     refine wpL_move (v := .func (.func 100) #[] #[.pointer (some ⟨g, 0, none⟩), .pointer (some ⟨h, 0, none⟩)]) (by rfl) (by rfl) (by rfl) ?_
     simp only [putT, List.set]
     refine wpL_move (v := .string (bs (ps.getD k []))) (by rfl) (by rfl) (by rfl) ?_
     simp only [putT, List.set]
     refine wpL_callMc (f := 100) (args := #[.bool false, .string (bs (ps.getD k []))]) (caps := #[.pointer (some ⟨g, 0, none⟩), .pointer (some ⟨h, 0, none⟩)]) (all := #[.bool false, .string (bs (ps.getD k [])), .pointer (some ⟨g, 0, none⟩), .pointer (some ⟨h, 0, none⟩)]) (R := fun v9 W9 => ∃ r120 c120, v9 = .tuple #[] ∧ ((o1 ++ [[1] ++ s1 ++ (ps.getD k [])]).length ≤ c120) ∧ Mem [g, h, r] w116 W9 [⟨g, 1, [(0, [.string (bs (nodeS s1 (ps.getD k [])))])]⟩, ⟨h, 1, [(0, [.slice (some ⟨r120, 0, none⟩) ((o1 ++ [[1] ++ s1 ++ (ps.getD k [])]).length) c120])]⟩, ⟨r120, c120, [(0, scells (o1 ++ [[1] ++ s1 ++ (ps.getD k [])]))]⟩]) (by simp) (by rfl) (by rfl) (by rfl) rfl Tryd.func100 (by kernel_rfl) (by kernel_rfl) (tx1_rf (x := ps.getD k []) (s0 := s1) (o := o1) (h32k hk) hs1 hg0 hh0 (mem_ne0G M 2 rfl L0 (by simp; omega)) Cr (by omega) (M.oldL L0) (M.oldG R0_0 L0 (by simp; omega)) (M.some (l' := [⟨g, 1, [(0, [.string (bs s1)])]⟩, ⟨h, 1, [(0, [.slice (some ⟨r, 0, none⟩) o1.length rc])]⟩, ⟨r, rc, [(0, scells o1)]⟩]) [0, 1, 2] (by decide) rfl)) (fun v9 w119 h9 => ?_)
     obtain ⟨r120, c120, rfl, Cr120, M9⟩ := h9
     replace M := (show Mem [g, h] w w116 ([⟨g, 1, [(0, [.string (bs s1)])]⟩, ⟨h, 1, [(0, [.slice (some ⟨r, 0, none⟩) o1.length rc])]⟩, ⟨r, rc, [(0, scells o1)]⟩] ++ []) from M.pick [0, 1, 2] (by decide) rfl).frame M9
     simp only [List.cons_append, List.nil_append] at M
     simp only [putT, List.set]
     refine wpL_nil (no_panic ?_)
     refine hK108 _ _ ?_
     refine wp_region_seq ?_
     refine wpL_move (v := .int .i64 ((a : Nat) : Int)) (by rfl) (by rfl) (by rfl) ?_
     simp only [putT, List.set]
     refine wpL_chunk 3 (by rfl) (fun Lk hLk => ?_)
     simp only [List.take, List.drop]
     refine wpV_bin (v := .int .i64 ((a / 2 ^ 1 : Nat) : Int)) (by rfl) rfl rfl rfl (fun W => run_shr (n := 1) (by decide) rfl W) ?_
     simp only [putT, List.set]
     refine wpV_move (v := .int .i64 ((l : Nat) : Int)) (by rfl) rfl rfl ?_
     simp only [putT, List.set]
     refine wpV_bin (v := .int .i64 ((l / 2 ^ 1 : Nat) : Int)) (by rfl) rfl rfl rfl (fun W => run_shr (n := 1) (by decide) rfl W) ?_
     simp only [putT, List.set]
     refine wpV_nil (hLk _ (fun w122 Sw122 => ?_))
     clear hLk Lk
     simp only [List.take, List.drop]
     replace M := M.sees Sw122
     refine wpL_assign (v := .int .i64 ((a / 2 ^ 1 : Nat) : Int)) (by rfl) (by rfl) (by rfl) ?_
     simp only [putT, List.set]
     refine wpL_assign (v := .int .i64 ((l / 2 ^ 1 : Nat) : Int)) (by rfl) (by rfl) (by rfl) ?_
     simp only [putT, List.set]
     refine wpL_nil (no_panic ?_)
     refine hK104 _ _ ?_
     refine wp_region_seq ?_
     refine wpL_chunk 1 (by rfl) (fun Lk hLk => ?_)
     simp only [List.take, List.drop]
     refine wpV_bin (v := .int .i64 ((k + 1 : Nat) : Int)) (by rfl) rfl rfl rfl (fun W => run_add (by simp only [IntKind.wrap_i64]; omega) W) ?_
     simp only [putT, List.set]
     refine wpV_nil (hLk _ (fun w124 Sw124 => ?_))
     clear hLk Lk
     simp only [List.take, List.drop]
     replace M := M.sees Sw124
     refine wpL_move (v := .int .i64 ((k + 1 : Nat) : Int)) (by rfl) (by rfl) (by rfl) ?_
     simp only [putT, List.set]
     refine wpL_nil (no_panic ?_)
     refine Exists.intro _ ⟨?_, (k + 1), (a / 2 ^ 1), (l / 2 ^ 1), (nodeS s1 (ps.getD k [])), (o1 ++ [[1] ++ s1 ++ (ps.getD k [])]), r120, c120, (fun q9 => (#[undef, undef, undef, undef, undef, undef, undef, undef, undef, undef, undef, .string (bs (ps.getD k [])), undef, undef, undef, .bool true, .pointer (ap.map (·.add k)), .string (bs (ps.getD k [])), .func (.func 100) #[] #[.pointer (some ⟨g, 0, none⟩), .pointer (some ⟨h, 0, none⟩)], .string (bs (ps.getD k [])), .tuple #[], .bool false, .int .i64 ((l : Nat) : Int), .bool false, .bool false, .int .i64 ((a : Nat) : Int), .int .i64 ((a % 2 : Nat) : Int), .bool false, .bool false, .int .i64 ((a : Nat) : Int), .int .i64 ((l : Nat) : Int), .bool false, .bool false, u10 33, u10 34, u10 35, u10 36, u10 37, u10 38, u10 39, u10 40, u10 41, u10 42, u10 43, u10 44, u10 45, u10 46, .int .i64 ((a : Nat) : Int), .int .i64 ((a / 2 ^ 1 : Nat) : Int), .int .i64 ((l : Nat) : Int), .int .i64 ((l / 2 ^ 1 : Nat) : Int), .int .i64 ((k + 1 : Nat) : Int)] : Array Value).getD q9 undef), rfl, rfl, M, Cr120, (by omega), (by omega), (by omega), (by omega), (nodeS_len _ _), (by rw [List.length_append, List.length_singleton, ho]), (walkG_no hk hl0 hno hW)⟩
     omega
    ·
     have hal : a = l := of_decide_eq_true hc117
     have hys : a % 2 = 1 ∨ a = l := .inr hal
     refine wp_cond_true rfl ?_
     refine wp_seq_k (fun K125 hK125 => ?_)
     refine wp_region_seq ?_
     refine wpL_move (v := .func (.func 100) #[] #[.pointer (some ⟨g, 0, none⟩), .pointer (some ⟨h, 0, none⟩)]) (by rfl) (by rfl) (by rfl) ?_
     simp only [putT, List.set]
     refine wpL_move (v := .string (bs (ps.getD k []))) (by rfl) (by rfl) (by rfl) ?_
     simp only [putT, List.set]
     refine wpL_callMc (f := 100) (args := #[.bool true, .string (bs (ps.getD k []))]) (caps := #[.pointer (some ⟨g, 0, none⟩), .pointer (some ⟨h, 0, none⟩)]) (all := #[.bool true, .string (bs (ps.getD k [])), .pointer (some ⟨g, 0, none⟩), .pointer (some ⟨h, 0, none⟩)]) (R := fun v9 W9 => ∃ r128 c128, v9 = .tuple #[] ∧ ((o1 ++ [[1] ++ (ps.getD k []) ++ s1]).length ≤ c128) ∧ Mem [g, h, r] w116 W9 [⟨g, 1, [(0, [.string (bs (nodeS (ps.getD k []) s1))])]⟩, ⟨h, 1, [(0, [.slice (some ⟨r128, 0, none⟩) ((o1 ++ [[1] ++ (ps.getD k []) ++ s1]).length) c128])]⟩, ⟨r128, c128, [(0, scells (o1 ++ [[1] ++ (ps.getD k []) ++ s1]))]⟩]) (by simp) (by rfl) (by rfl) (by rfl) rfl Tryd.func100 (by kernel_rfl) (by kernel_rfl) (tx1_rt (x := ps.getD k []) (s0 := s1) (o := o1) (h32k hk) hs1 hg0 hh0 (mem_ne0G M 2 rfl L0 (by simp; omega)) Cr (by omega) (M.oldL L0) (M.oldG R0_0 L0 (by simp; omega)) (M.some (l' := [⟨g, 1, [(0, [.string (bs s1)])]⟩, ⟨h, 1, [(0, [.slice (some ⟨r, 0, none⟩) o1.length rc])]⟩, ⟨r, rc, [(0, scells o1)]⟩]) [0, 1, 2] (by decide) rfl)) (fun v9 w127 h9 => ?_)
     obtain ⟨r128, c128, rfl, Cr128, M9⟩ := h9
     replace M := (show Mem [g, h] w w116 ([⟨g, 1, [(0, [.string (bs s1)])]⟩, ⟨h, 1, [(0, [.slice (some ⟨r, 0, none⟩) o1.length rc])]⟩, ⟨r, rc, [(0, scells o1)]⟩] ++ []) from M.pick [0, 1, 2] (by decide) rfl).frame M9
     simp only [List.cons_append, List.nil_append] at M
     simp only [putT, List.set]
     refine wpL_nil (no_panic ?_)
     refine hK125 _ _ ?_
     refine wp_block ?_
     refine wp_loop_ghost (fun n9 a9 W9 => ∃ (az : Nat) (lz : Nat) (u129 : Nat → Value), n9 = 2 * az ∧ a9 = { tmps := #[.int .i64 ((az : Nat) : Int), .int .i64 ((lz : Nat) : Int), .slice ap ps.length cp, .func (.func 100) #[] #[.pointer (some ⟨g, 0, none⟩), .pointer (some ⟨h, 0, none⟩)], undef, undef, undef, undef, .bool false, .bool true, undef, .string (bs (ps.getD k [])), .slice ap ps.length cp, .int .i64 ((ps.length : Nat) : Int), .int .i64 ((k : Nat) : Int), .bool true, .pointer (ap.map (·.add k)), .string (bs (ps.getD k [])), u10 18, u10 19, u10 20, .bool false, .int .i64 ((l : Nat) : Int), .bool false, .bool true, .int .i64 ((a : Nat) : Int), .int .i64 ((a % 2 : Nat) : Int), .bool false, .bool false, .int .i64 ((a : Nat) : Int), .int .i64 ((l : Nat) : Int), .bool true, .bool true, .func (.func 100) #[] #[.pointer (some ⟨g, 0, none⟩), .pointer (some ⟨h, 0, none⟩)], .string (bs (ps.getD k [])), .tuple #[], u129 36, u129 37, u129 38, u129 39, u129 40, u129 41, u129 42, u129 43, u129 44, u129 45, u129 46, u10 47, u10 48, u10 49, u10 50, u10 51, undef, undef, undef, undef, undef], defers := [] } ∧ Mem [g, h] w W9 [⟨g, 1, [(0, [.string (bs (nodeS (ps.getD k []) s1))])]⟩, ⟨h, 1, [(0, [.slice (some ⟨r128, 0, none⟩) ((o1 ++ [[1] ++ (ps.getD k []) ++ s1]).length) c128])]⟩, ⟨r128, c128, [(0, scells (o1 ++ [[1] ++ (ps.getD k []) ++ s1]))]⟩] ∧ (az ≤ a) ∧ (lz ≤ l) ∧ (skipZ az lz = skipZ a l)) (2 * (a)) ?_ (fun n9 a9 W9 hI => ?_)
     ·
      exact ⟨a, l, (fun q9 => (#[undef, undef, undef, undef, undef, undef, undef, undef, undef, undef, undef, undef, undef, undef, undef, undef, undef, undef, undef, undef, undef, undef, undef, undef, undef, undef, undef, undef, undef, undef, undef, undef, undef, undef, undef, undef, u10 36, u10 37, u10 38, u10 39, u10 40, u10 41, u10 42, u10 43, u10 44, u10 45, u10 46] : Array Value).getD q9 undef), rfl, rfl, M, (Nat.le_refl _), (Nat.le_refl _), rfl⟩
     clear M
     obtain ⟨az, lz, u129, rfl, rfl, M, ha2, hl2, hz⟩ := hI
     obtain ⟨w130, rfl⟩ : ∃ W8, W8 = W9 := ⟨_, rfl⟩
     refine wp_seq_k (fun K131 hK131 => ?_)
     refine wp_seq_k (fun K132 hK132 => ?_)
     cases hg133 : (decide (az ≠ 0))
     ·
      have hnz : ¬ az ≠ 0 := of_decide_eq_false hg133
      have hzz : skipZ az lz = (az, lz) := by rw [skipZ, dif_neg (fun q9 => hnz q9.1)]
      refine wp_region_seq ?_
      refine wpL_move (v := .int .i64 ((az : Nat) : Int)) (by rfl) (by rfl) (by rfl) ?_
      simp only [putT, List.set]
      refine wpL_chunk 6 (by rfl) (fun Lk hLk => ?_)
      simp only [List.take, List.drop]
      refine wpV_bin (v := .bool false) (by rfl) rfl rfl rfl (fun W => (run_neqN az 0 _ _ W).trans (by rw [hg133])) ?_
      simp only [putT, List.set]
      refine wpV_move (v := .bool false) (by rfl) rfl rfl ?_
      simp only [putT, List.set]
      refine wpV_skip (by rfl) (by rfl) ?_
      simp only [putT, List.set]
      refine wpV_skip (by rfl) (by rfl) ?_
      simp only [putT, List.set]
      refine wpV_skip (by rfl) (by rfl) ?_
      simp only [putT, List.set]
      refine wpV_pick (v := .bool false) (by rfl) rfl rfl rfl ?_
      simp only [putT, List.set]
      refine wpV_nil (hLk _ (fun w135 Sw135 => ?_))
      clear hLk Lk
      simp only [List.take, List.drop]
      replace M := M.sees Sw135
      refine wpL_nil (no_panic ?_)
      refine hK132 _ _ ?_
      refine wp_cond_false rfl ?_
      refine wp_exit ?_
      refine hK108 _ _ ?_
      refine wp_region_seq ?_
      refine wpL_move (v := .int .i64 ((az : Nat) : Int)) (by rfl) (by rfl) (by rfl) ?_
      simp only [putT, List.set]
      refine wpL_chunk 3 (by rfl) (fun Lk hLk => ?_)
      simp only [List.take, List.drop]
      refine wpV_bin (v := .int .i64 ((az / 2 ^ 1 : Nat) : Int)) (by rfl) rfl rfl rfl (fun W => run_shr (n := 1) (by decide) rfl W) ?_
      simp only [putT, List.set]
      refine wpV_move (v := .int .i64 ((lz : Nat) : Int)) (by rfl) rfl rfl ?_
      simp only [putT, List.set]
      refine wpV_bin (v := .int .i64 ((lz / 2 ^ 1 : Nat) : Int)) (by rfl) rfl rfl rfl (fun W => run_shr (n := 1) (by decide) rfl W) ?_
      simp only [putT, List.set]
      refine wpV_nil (hLk _ (fun w137 Sw137 => ?_))
      clear hLk Lk
      simp only [List.take, List.drop]
      replace M := M.sees Sw137
      refine wpL_assign (v := .int .i64 ((az / 2 ^ 1 : Nat) : Int)) (by rfl) (by rfl) (by rfl) ?_
      simp only [putT, List.set]
      refine wpL_assign (v := .int .i64 ((lz / 2 ^ 1 : Nat) : Int)) (by rfl) (by rfl) (by rfl) ?_
      simp only [putT, List.set]
      refine wpL_nil (no_panic ?_)
      refine hK104 _ _ ?_
      refine wp_region_seq ?_
      refine wpL_chunk 1 (by rfl) (fun Lk hLk => ?_)
      simp only [List.take, List.drop]
      refine wpV_bin (v := .int .i64 ((k + 1 : Nat) : Int)) (by rfl) rfl rfl rfl (fun W => run_add (by simp only [IntKind.wrap_i64]; omega) W) ?_
      simp only [putT, List.set]
      refine wpV_nil (hLk _ (fun w139 Sw139 => ?_))
      clear hLk Lk
      simp only [List.take, List.drop]
      replace M := M.sees Sw139
      refine wpL_move (v := .int .i64 ((k + 1 : Nat) : Int)) (by rfl) (by rfl) (by rfl) ?_
      simp only [putT, List.set]
      refine wpL_nil (no_panic ?_)
      refine Exists.intro _ ⟨?_, (k + 1), (az / 2 ^ 1), (lz / 2 ^ 1), (nodeS (ps.getD k []) s1), (o1 ++ [[1] ++ (ps.getD k []) ++ s1]), r128, c128, (fun q9 => (#[undef, undef, undef, undef, undef, undef, undef, undef, undef, undef, undef, .string (bs (ps.getD k [])), undef, undef, undef, .bool true, .pointer (ap.map (·.add k)), .string (bs (ps.getD k [])), u10 18, u10 19, u10 20, .bool false, .int .i64 ((l : Nat) : Int), .bool false, .bool true, .int .i64 ((a : Nat) : Int), .int .i64 ((a % 2 : Nat) : Int), .bool false, .bool false, .int .i64 ((a : Nat) : Int), .int .i64 ((l : Nat) : Int), .bool true, .bool true, .func (.func 100) #[] #[.pointer (some ⟨g, 0, none⟩), .pointer (some ⟨h, 0, none⟩)], .string (bs (ps.getD k [])), .tuple #[], .int .i64 ((az : Nat) : Int), .bool false, .bool false, undef, undef, undef, .bool false, u129 43, u129 44, u129 45, u129 46, .int .i64 ((az : Nat) : Int), .int .i64 ((az / 2 ^ 1 : Nat) : Int), .int .i64 ((lz : Nat) : Int), .int .i64 ((lz / 2 ^ 1 : Nat) : Int), .int .i64 ((k + 1 : Nat) : Int)] : Array Value).getD q9 undef), rfl, rfl, M, Cr128, (by omega), (by omega), (by omega), (by omega), (nodeS_len _ _), (by rw [List.length_append, List.length_singleton, ho]), (walkG_yes hk hl0 hys hz hzz hW)⟩
      omega
     ·
      have hnz : az ≠ 0 := of_decide_eq_true hg133
      refine wp_region_seq ?_
      refine wpL_move (v := .int .i64 ((az : Nat) : Int)) (by rfl) (by rfl) (by rfl) ?_
      simp only [putT, List.set]
      refine wpL_chunk 6 (by rfl) (fun Lk hLk => ?_)
      simp only [List.take, List.drop]
      refine wpV_bin (v := .bool true) (by rfl) rfl rfl rfl (fun W => (run_neqN az 0 _ _ W).trans (by rw [hg133])) ?_
      simp only [putT, List.set]
      refine wpV_move (v := .bool true) (by rfl) rfl rfl ?_
      simp only [putT, List.set]
      refine wpV_move (v := .int .i64 ((az : Nat) : Int)) (by rfl) rfl rfl ?_
      simp only [putT, List.set]
      refine wpV_bin (v := .int .i64 ((az % 2 : Nat) : Int)) (by rfl) rfl rfl rfl (fun W => run_and ((and_i64 (m := az) (n := 1) (by omega) (by decide)).trans (by rw [and_oneN])) W) ?_
      simp only [putT, List.set]
      refine wpV_bin (v := .bool (decide (az % 2 = 0))) (by rfl) rfl rfl rfl (fun W => run_eqlN (az % 2) 0 _ _ W) ?_
      simp only [putT, List.set]
      refine wpV_pick (v := .bool (decide (az % 2 = 0))) (by rfl) rfl rfl rfl ?_
      simp only [putT, List.set]
      refine wpV_nil (hLk _ (fun w141 Sw141 => ?_))
      clear hLk Lk
      simp only [List.take, List.drop]
      replace M := M.sees Sw141
      refine wpL_nil (no_panic ?_)
      refine hK132 _ _ ?_
      cases hc142 : (decide (az % 2 = 0))
      ·
       have hev : ¬ az % 2 = 0 := of_decide_eq_false hc142
       have hzz : skipZ az lz = (az, lz) := by rw [skipZ, dif_neg (fun q9 => hev q9.2)]
       refine wp_cond_false rfl ?_
       refine wp_exit ?_
       refine hK108 _ _ ?_
       refine wp_region_seq ?_
       refine wpL_move (v := .int .i64 ((az : Nat) : Int)) (by rfl) (by rfl) (by rfl) ?_
       simp only [putT, List.set]
       refine wpL_chunk 3 (by rfl) (fun Lk hLk => ?_)
       simp only [List.take, List.drop]
       refine wpV_bin (v := .int .i64 ((az / 2 ^ 1 : Nat) : Int)) (by rfl) rfl rfl rfl (fun W => run_shr (n := 1) (by decide) rfl W) ?_
       simp only [putT, List.set]
       refine wpV_move (v := .int .i64 ((lz : Nat) : Int)) (by rfl) rfl rfl ?_
       simp only [putT, List.set]
       refine wpV_bin (v := .int .i64 ((lz / 2 ^ 1 : Nat) : Int)) (by rfl) rfl rfl rfl (fun W => run_shr (n := 1) (by decide) rfl W) ?_
       simp only [putT, List.set]
       refine wpV_nil (hLk _ (fun w144 Sw144 => ?_))
       clear hLk Lk
       simp only [List.take, List.drop]
       replace M := M.sees Sw144
       refine wpL_assign (v := .int .i64 ((az / 2 ^ 1 : Nat) : Int)) (by rfl) (by rfl) (by rfl) ?_
       simp only [putT, List.set]
       refine wpL_assign (v := .int .i64 ((lz / 2 ^ 1 : Nat) : Int)) (by rfl) (by rfl) (by rfl) ?_
       simp only [putT, List.set]
       refine wpL_nil (no_panic ?_)
       refine hK104 _ _ ?_
       refine wp_region_seq ?_
       refine wpL_chunk 1 (by rfl) (fun Lk hLk => ?_)
       simp only [List.take, List.drop]
       refine wpV_bin (v := .int .i64 ((k + 1 : Nat) : Int)) (by rfl) rfl rfl rfl (fun W => run_add (by simp only [IntKind.wrap_i64]; omega) W) ?_
       simp only [putT, List.set]
       refine wpV_nil (hLk _ (fun w146 Sw146 => ?_))
       clear hLk Lk
       simp only [List.take, List.drop]
       replace M := M.sees Sw146
       refine wpL_move (v := .int .i64 ((k + 1 : Nat) : Int)) (by rfl) (by rfl) (by rfl) ?_
       simp only [putT, List.set]
       refine wpL_nil (no_panic ?_)
       refine Exists.intro _ ⟨?_, (k + 1), (az / 2 ^ 1), (lz / 2 ^ 1), (nodeS (ps.getD k []) s1), (o1 ++ [[1] ++ (ps.getD k []) ++ s1]), r128, c128, (fun q9 => (#[undef, undef, undef, undef, undef, undef, undef, undef, undef, undef, undef, .string (bs (ps.getD k [])), undef, undef, undef, .bool true, .pointer (ap.map (·.add k)), .string (bs (ps.getD k [])), u10 18, u10 19, u10 20, .bool false, .int .i64 ((l : Nat) : Int), .bool false, .bool true, .int .i64 ((a : Nat) : Int), .int .i64 ((a % 2 : Nat) : Int), .bool false, .bool false, .int .i64 ((a : Nat) : Int), .int .i64 ((l : Nat) : Int), .bool true, .bool true, .func (.func 100) #[] #[.pointer (some ⟨g, 0, none⟩), .pointer (some ⟨h, 0, none⟩)], .string (bs (ps.getD k [])), .tuple #[], .int .i64 ((az : Nat) : Int), .bool true, .bool true, .int .i64 ((az : Nat) : Int), .int .i64 ((az % 2 : Nat) : Int), .bool false, .bool false, u129 43, u129 44, u129 45, u129 46, .int .i64 ((az : Nat) : Int), .int .i64 ((az / 2 ^ 1 : Nat) : Int), .int .i64 ((lz : Nat) : Int), .int .i64 ((lz / 2 ^ 1 : Nat) : Int), .int .i64 ((k + 1 : Nat) : Int)] : Array Value).getD q9 undef), rfl, rfl, M, Cr128, (by omega), (by omega), (by omega), (by omega), (nodeS_len _ _), (by rw [List.length_append, List.length_singleton, ho]), (walkG_yes hk hl0 hys hz hzz hW)⟩
       omega
      ·
       have hev : az % 2 = 0 := of_decide_eq_true hc142
       refine wp_cond_true rfl ?_
       refine wp_skip ?_
       refine hK131 _ _ ?_
       refine wp_block ?_
       refine wp_region_seq ?_
       refine wpL_move (v := .int .i64 ((az : Nat) : Int)) (by rfl) (by rfl) (by rfl) ?_
       simp only [putT, List.set]
       refine wpL_chunk 3 (by rfl) (fun Lk hLk => ?_)
       simp only [List.take, List.drop]
       refine wpV_bin (v := .int .i64 ((az / 2 ^ 1 : Nat) : Int)) (by rfl) rfl rfl rfl (fun W => run_shr (n := 1) (by decide) rfl W) ?_
       simp only [putT, List.set]
       refine wpV_move (v := .int .i64 ((lz : Nat) : Int)) (by rfl) rfl rfl ?_
       simp only [putT, List.set]
       refine wpV_bin (v := .int .i64 ((lz / 2 ^ 1 : Nat) : Int)) (by rfl) rfl rfl rfl (fun W => run_shr (n := 1) (by decide) rfl W) ?_
       simp only [putT, List.set]
       refine wpV_nil (hLk _ (fun w148 Sw148 => ?_))
       clear hLk Lk
       simp only [List.take, List.drop]
       replace M := M.sees Sw148
       refine wpL_assign (v := .int .i64 ((az / 2 ^ 1 : Nat) : Int)) (by rfl) (by rfl) (by rfl) ?_
       simp only [putT, List.set]
       refine wpL_assign (v := .int .i64 ((lz / 2 ^ 1 : Nat) : Int)) (by rfl) (by rfl) (by rfl) ?_
       simp only [putT, List.set]
       refine wpL_nil (no_panic ?_)
       refine Exists.intro _ ⟨?_, (az / 2 ^ 1), (lz / 2 ^ 1), (fun q9 => (#[undef, undef, undef, undef, undef, undef, undef, undef, undef, undef, undef, undef, undef, undef, undef, undef, undef, undef, undef, undef, undef, undef, undef, undef, undef, undef, undef, undef, undef, undef, undef, undef, undef, undef, undef, undef, .int .i64 ((az : Nat) : Int), .bool true, .bool true, .int .i64 ((az : Nat) : Int), .int .i64 ((az % 2 : Nat) : Int), .bool true, .bool true, .int .i64 ((az : Nat) : Int), .int .i64 ((az / 2 ^ 1 : Nat) : Int), .int .i64 ((lz : Nat) : Int), .int .i64 ((lz / 2 ^ 1 : Nat) : Int)] : Array Value).getD q9 undef), rfl, rfl, M, (by omega), (by omega), ((skipZ_go hnz hev).symm.trans hz)⟩
       omega
   ·
    have hod : a % 2 = 1 := of_decide_eq_true hg114
    have hys : a % 2 = 1 ∨ a = l := .inl hod
    refine wp_region_seq ?_
    refine wpL_move (v := .int .i64 ((a : Nat) : Int)) (by rfl) (by rfl) (by rfl) ?_
    simp only [putT, List.set]
    refine wpL_chunk 7 (by rfl) (fun Lk hLk => ?_)
    simp only [List.take, List.drop]
    refine wpV_bin (v := .int .i64 ((a % 2 : Nat) : Int)) (by rfl) rfl rfl rfl (fun W => run_and ((and_i64 (m := a) (n := 1) (by omega) (by decide)).trans (by rw [and_oneN])) W) ?_
    simp only [putT, List.set]
    refine wpV_bin (v := .bool true) (by rfl) rfl rfl rfl (fun W => (run_eqlN (a % 2) 1 _ _ W).trans (by rw [hg114])) ?_
    simp only [putT, List.set]
    refine wpV_move (v := .bool true) (by rfl) rfl rfl ?_
    simp only [putT, List.set]
    refine wpV_skip (by rfl) (by rfl) ?_
    simp only [putT, List.set]
    refine wpV_skip (by rfl) (by rfl) ?_
    simp only [putT, List.set]
    refine wpV_skip (by rfl) (by rfl) ?_
    simp only [putT, List.set]
    refine wpV_pick (v := .bool true) (by rfl) rfl rfl rfl ?_
    simp only [putT, List.set]
    refine wpV_nil (hLk _ (fun w150 Sw150 => ?_))
    clear hLk Lk
    simp only [List.take, List.drop]
    replace M := M.sees Sw150
    refine wpL_assign (v := .bool true) (by rfl) (by rfl) (by rfl) ?_
    simp only [putT, List.set]
    refine wpL_nil (no_panic ?_)
    refine hK113 _ _ ?_
    refine wp_cond_true rfl ?_
    refine wp_seq_k (fun K151 hK151 => ?_)
    refine wp_region_seq ?_
    refine wpL_move (v := .func (.func 100) #[] #[.pointer (some ⟨g, 0, none⟩), .pointer (some ⟨h, 0, none⟩)]) (by rfl) (by rfl) (by rfl) ?_
    simp only [putT, List.set]
    refine wpL_move (v := .string (bs (ps.getD k []))) (by rfl) (by rfl) (by rfl) ?_
    simp only [putT, List.set]
    refine wpL_callMc (f := 100) (args := #[.bool true, .string (bs (ps.getD k []))]) (caps := #[.pointer (some ⟨g, 0, none⟩), .pointer (some ⟨h, 0, none⟩)]) (all := #[.bool true, .string (bs (ps.getD k [])), .pointer (some ⟨g, 0, none⟩), .pointer (some ⟨h, 0, none⟩)]) (R := fun v9 W9 => ∃ r154 c154, v9 = .tuple #[] ∧ ((o1 ++ [[1] ++ (ps.getD k []) ++ s1]).length ≤ c154) ∧ Mem [g, h, r] w150 W9 [⟨g, 1, [(0, [.string (bs (nodeS (ps.getD k []) s1))])]⟩, ⟨h, 1, [(0, [.slice (some ⟨r154, 0, none⟩) ((o1 ++ [[1] ++ (ps.getD k []) ++ s1]).length) c154])]⟩, ⟨r154, c154, [(0, scells (o1 ++ [[1] ++ (ps.getD k []) ++ s1]))]⟩]) (by simp) (by rfl) (by rfl) (by rfl) rfl Tryd.func100 (by kernel_rfl) (by kernel_rfl) (tx1_rt (x := ps.getD k []) (s0 := s1) (o := o1) (h32k hk) hs1 hg0 hh0 (mem_ne0G M 2 rfl L0 (by simp; omega)) Cr (by omega) (M.oldL L0) (M.oldG R0_0 L0 (by simp; omega)) (M.some (l' := [⟨g, 1, [(0, [.string (bs s1)])]⟩, ⟨h, 1, [(0, [.slice (some ⟨r, 0, none⟩) o1.length rc])]⟩, ⟨r, rc, [(0, scells o1)]⟩]) [0, 1, 2] (by decide) rfl)) (fun v9 w153 h9 => ?_)
    obtain ⟨r154, c154, rfl, Cr154, M9⟩ := h9
    replace M := (show Mem [g, h] w w150 ([⟨g, 1, [(0, [.string (bs s1)])]⟩, ⟨h, 1, [(0, [.slice (some ⟨r, 0, none⟩) o1.length rc])]⟩, ⟨r, rc, [(0, scells o1)]⟩] ++ []) from M.pick [0, 1, 2] (by decide) rfl).frame M9
    simp only [List.cons_append, List.nil_append] at M
    simp only [putT, List.set]
    refine wpL_nil (no_panic ?_)
    refine hK151 _ _ ?_
    refine wp_block ?_
    refine wp_loop_ghost (fun n9 a9 W9 => ∃ (az : Nat) (lz : Nat) (u155 : Nat → Value), n9 = 2 * az ∧ a9 = { tmps := #[.int .i64 ((az : Nat) : Int), .int .i64 ((lz : Nat) : Int), .slice ap ps.length cp, .func (.func 100) #[] #[.pointer (some ⟨g, 0, none⟩), .pointer (some ⟨h, 0, none⟩)], undef, undef, undef, undef, .bool false, .bool true, undef, .string (bs (ps.getD k [])), .slice ap ps.length cp, .int .i64 ((ps.length : Nat) : Int), .int .i64 ((k : Nat) : Int), .bool true, .pointer (ap.map (·.add k)), .string (bs (ps.getD k [])), u10 18, u10 19, u10 20, .bool false, .int .i64 ((l : Nat) : Int), .bool false, .bool true, .int .i64 ((a : Nat) : Int), .int .i64 ((a % 2 : Nat) : Int), .bool true, .bool true, undef, undef, undef, .bool true, .func (.func 100) #[] #[.pointer (some ⟨g, 0, none⟩), .pointer (some ⟨h, 0, none⟩)], .string (bs (ps.getD k [])), .tuple #[], u155 36, u155 37, u155 38, u155 39, u155 40, u155 41, u155 42, u155 43, u155 44, u155 45, u155 46, u10 47, u10 48, u10 49, u10 50, u10 51, undef, undef, undef, undef, undef], defers := [] } ∧ Mem [g, h] w W9 [⟨g, 1, [(0, [.string (bs (nodeS (ps.getD k []) s1))])]⟩, ⟨h, 1, [(0, [.slice (some ⟨r154, 0, none⟩) ((o1 ++ [[1] ++ (ps.getD k []) ++ s1]).length) c154])]⟩, ⟨r154, c154, [(0, scells (o1 ++ [[1] ++ (ps.getD k []) ++ s1]))]⟩] ∧ (az ≤ a) ∧ (lz ≤ l) ∧ (skipZ az lz = skipZ a l)) (2 * (a)) ?_ (fun n9 a9 W9 hI => ?_)
    ·
     exact ⟨a, l, (fun q9 => (#[undef, undef, undef, undef, undef, undef, undef, undef, undef, undef, undef, undef, undef, undef, undef, undef, undef, undef, undef, undef, undef, undef, undef, undef, undef, undef, undef, undef, undef, undef, undef, undef, undef, undef, undef, undef, u10 36, u10 37, u10 38, u10 39, u10 40, u10 41, u10 42, u10 43, u10 44, u10 45, u10 46] : Array Value).getD q9 undef), rfl, rfl, M, (Nat.le_refl _), (Nat.le_refl _), rfl⟩
    clear M
    obtain ⟨az, lz, u155, rfl, rfl, M, ha2, hl2, hz⟩ := hI
    obtain ⟨w156, rfl⟩ : ∃ W8, W8 = W9 := ⟨_, rfl⟩
    refine wp_seq_k (fun K157 hK157 => ?_)
    refine wp_seq_k (fun K158 hK158 => ?_)
    cases hg159 : (decide (az ≠ 0))
    ·
     have hnz : ¬ az ≠ 0 := of_decide_eq_false hg159
     have hzz : skipZ az lz = (az, lz) := by rw [skipZ, dif_neg (fun q9 => hnz q9.1)]
     refine wp_region_seq ?_
     refine wpL_move (v := .int .i64 ((az : Nat) : Int)) (by rfl) (by rfl) (by rfl) ?_
     simp only [putT, List.set]
     refine wpL_chunk 6 (by rfl) (fun Lk hLk => ?_)
     simp only [List.take, List.drop]
     refine wpV_bin (v := .bool false) (by rfl) rfl rfl rfl (fun W => (run_neqN az 0 _ _ W).trans (by rw [hg159])) ?_
     simp only [putT, List.set]
     refine wpV_move (v := .bool false) (by rfl) rfl rfl ?_
     simp only [putT, List.set]
     refine wpV_skip (by rfl) (by rfl) ?_
     simp only [putT, List.set]
     refine wpV_skip (by rfl) (by rfl) ?_
     simp only [putT, List.set]
     refine wpV_skip (by rfl) (by rfl) ?_
     simp only [putT, List.set]
     refine wpV_pick (v := .bool false) (by rfl) rfl rfl rfl ?_
     simp only [putT, List.set]
     refine wpV_nil (hLk _ (fun w161 Sw161 => ?_))
     clear hLk Lk
     simp only [List.take, List.drop]
     replace M := M.sees Sw161
     refine wpL_nil (no_panic ?_)
     refine hK158 _ _ ?_
     refine wp_cond_false rfl ?_
     refine wp_exit ?_
     refine hK108 _ _ ?_
     refine wp_region_seq ?_
     refine wpL_move (v := .int .i64 ((az : Nat) : Int)) (by rfl) (by rfl) (by rfl) ?_
     simp only [putT, List.set]
     refine wpL_chunk 3 (by rfl) (fun Lk hLk => ?_)
     simp only [List.take, List.drop]
     refine wpV_bin (v := .int .i64 ((az / 2 ^ 1 : Nat) : Int)) (by rfl) rfl rfl rfl (fun W => run_shr (n := 1) (by decide) rfl W) ?_
     simp only [putT, List.set]
     refine wpV_move (v := .int .i64 ((lz : Nat) : Int)) (by rfl) rfl rfl ?_
     simp only [putT, List.set]
     refine wpV_bin (v := .int .i64 ((lz / 2 ^ 1 : Nat) : Int)) (by rfl) rfl rfl rfl (fun W => run_shr (n := 1) (by decide) rfl W) ?_
     simp only [putT, List.set]
     refine wpV_nil (hLk _ (fun w163 Sw163 => ?_))
     clear hLk Lk
     simp only [List.take, List.drop]
     replace M := M.sees Sw163
     refine wpL_assign (v := .int .i64 ((az / 2 ^ 1 : Nat) : Int)) (by rfl) (by rfl) (by rfl) ?_
     simp only [putT, List.set]
     refine wpL_assign (v := .int .i64 ((lz / 2 ^ 1 : Nat) : Int)) (by rfl) (by rfl) (by rfl) ?_
     simp only [putT, List.set]
     refine wpL_nil (no_panic ?_)
     refine hK104 _ _ ?_
     refine wp_region_seq ?_
     refine wpL_chunk 1 (by rfl) (fun Lk hLk => ?_)
     simp only [List.take, List.drop]
     refine wpV_bin (v := .int .i64 ((k + 1 : Nat) : Int)) (by rfl) rfl rfl rfl (fun W => run_add (by simp only [IntKind.wrap_i64]; omega) W) ?_
     simp only [putT, List.set]
     refine wpV_nil (hLk _ (fun w165 Sw165 => ?_))
     clear hLk Lk
     simp only [List.take, List.drop]
     replace M := M.sees Sw165
     refine wpL_move (v := .int .i64 ((k + 1 : Nat) : Int)) (by rfl) (by rfl) (by rfl) ?_
     simp only [putT, List.set]
     refine wpL_nil (no_panic ?_)
     refine Exists.intro _ ⟨?_, (k + 1), (az / 2 ^ 1), (lz / 2 ^ 1), (nodeS (ps.getD k []) s1), (o1 ++ [[1] ++ (ps.getD k []) ++ s1]), r154, c154, (fun q9 => (#[undef, undef, undef, undef, undef, undef, undef, undef, undef, undef, undef, .string (bs (ps.getD k [])), undef, undef, undef, .bool true, .pointer (ap.map (·.add k)), .string (bs (ps.getD k [])), u10 18, u10 19, u10 20, .bool false, .int .i64 ((l : Nat) : Int), .bool false, .bool true, .int .i64 ((a : Nat) : Int), .int .i64 ((a % 2 : Nat) : Int), .bool true, .bool true, undef, undef, undef, .bool true, .func (.func 100) #[] #[.pointer (some ⟨g, 0, none⟩), .pointer (some ⟨h, 0, none⟩)], .string (bs (ps.getD k [])), .tuple #[], .int .i64 ((az : Nat) : Int), .bool false, .bool false, undef, undef, undef, .bool false, u155 43, u155 44, u155 45, u155 46, .int .i64 ((az : Nat) : Int), .int .i64 ((az / 2 ^ 1 : Nat) : Int), .int .i64 ((lz : Nat) : Int), .int .i64 ((lz / 2 ^ 1 : Nat) : Int), .int .i64 ((k + 1 : Nat) : Int)] : Array Value).getD q9 undef), rfl, rfl, M, Cr154, (by omega), (by omega), (by omega), (by omega), (nodeS_len _ _), (by rw [List.length_append, List.length_singleton, ho]), (walkG_yes hk hl0 hys hz hzz hW)⟩
     omega
    ·
     have hnz : az ≠ 0 := of_decide_eq_true hg159
     refine wp_region_seq ?_
     refine wpL_move (v := .int .i64 ((az : Nat) : Int)) (by rfl) (by rfl) (by rfl) ?_
     simp only [putT, List.set]
     refine wpL_chunk 6 (by rfl) (fun Lk hLk => ?_)
     simp only [List.take, List.drop]
     refine wpV_bin (v := .bool true) (by rfl) rfl rfl rfl (fun W => (run_neqN az 0 _ _ W).trans (by rw [hg159])) ?_
     simp only [putT, List.set]
     refine wpV_move (v := .bool true) (by rfl) rfl rfl ?_
     simp only [putT, List.set]
     refine wpV_move (v := .int .i64 ((az : Nat) : Int)) (by rfl) rfl rfl ?_
     simp only [putT, List.set]
     refine wpV_bin (v := .int .i64 ((az % 2 : Nat) : Int)) (by rfl) rfl rfl rfl (fun W => run_and ((and_i64 (m := az) (n := 1) (by omega) (by decide)).trans (by rw [and_oneN])) W) ?_
     simp only [putT, List.set]
     refine wpV_bin (v := .bool (decide (az % 2 = 0))) (by rfl) rfl rfl rfl (fun W => run_eqlN (az % 2) 0 _ _ W) ?_
     simp only [putT, List.set]
     refine wpV_pick (v := .bool (decide (az % 2 = 0))) (by rfl) rfl rfl rfl ?_
     simp only [putT, List.set]
     refine wpV_nil (hLk _ (fun w167 Sw167 => ?_))
     clear hLk Lk
     simp only [List.take, List.drop]
     replace M := M.sees Sw167
     refine wpL_nil (no_panic ?_)
     refine hK158 _ _ ?_
     cases hc168 : (decide (az % 2 = 0))
     ·
      have hev : ¬ az % 2 = 0 := of_decide_eq_false hc168
      have hzz : skipZ az lz = (az, lz) := by rw [skipZ, dif_neg (fun q9 => hev q9.2)]
      refine wp_cond_false rfl ?_
      refine wp_exit ?_
      refine hK108 _ _ ?_
      refine wp_region_seq ?_
      refine wpL_move (v := .int .i64 ((az : Nat) : Int)) (by rfl) (by rfl) (by rfl) ?_
      simp only [putT, List.set]
      refine wpL_chunk 3 (by rfl) (fun Lk hLk => ?_)
      simp only [List.take, List.drop]
      refine wpV_bin (v := .int .i64 ((az / 2 ^ 1 : Nat) : Int)) (by rfl) rfl rfl rfl (fun W => run_shr (n := 1) (by decide) rfl W) ?_
      simp only [putT, List.set]
      refine wpV_move (v := .int .i64 ((lz : Nat) : Int)) (by rfl) rfl rfl ?_
      simp only [putT, List.set]
      refine wpV_bin (v := .int .i64 ((lz / 2 ^ 1 : Nat) : Int)) (by rfl) rfl rfl rfl (fun W => run_shr (n := 1) (by decide) rfl W) ?_
      simp only [putT, List.set]
      refine wpV_nil (hLk _ (fun w170 Sw170 => ?_))
      clear hLk Lk
      simp only [List.take, List.drop]
      replace M := M.sees Sw170
      refine wpL_assign (v := .int .i64 ((az / 2 ^ 1 : Nat) : Int)) (by rfl) (by rfl) (by rfl) ?_
      simp only [putT, List.set]
      refine wpL_assign (v := .int .i64 ((lz / 2 ^ 1 : Nat) : Int)) (by rfl) (by rfl) (by rfl) ?_
      simp only [putT, List.set]
      refine wpL_nil (no_panic ?_)
      refine hK104 _ _ ?_
      refine wp_region_seq ?_
      refine wpL_chunk 1 (by rfl) (fun Lk hLk => ?_)
      simp only [List.take, List.drop]
      refine wpV_bin (v := .int .i64 ((k + 1 : Nat) : Int)) (by rfl) rfl rfl rfl (fun W => run_add (by simp only [IntKind.wrap_i64]; omega) W) ?_
      simp only [putT, List.set]
      refine wpV_nil (hLk _ (fun w172 Sw172 => ?_))
      clear hLk Lk
      simp only [List.take, List.drop]
      replace M := M.sees Sw172
      refine wpL_move (v := .int .i64 ((k + 1 : Nat) : Int)) (by rfl) (by rfl) (by rfl) ?_
      simp only [putT, List.set]
      refine wpL_nil (no_panic ?_)
      refine Exists.intro _ ⟨?_, (k + 1), (az / 2 ^ 1), (lz / 2 ^ 1), (nodeS (ps.getD k []) s1), (o1 ++ [[1] ++ (ps.getD k []) ++ s1]), r154, c154, (fun q9 => (#[undef, undef, undef, undef, undef, undef, undef, undef, undef, undef, undef, .string (bs (ps.getD k [])), undef, undef, undef, .bool true, .pointer (ap.map (·.add k)), .string (bs (ps.getD k [])), u10 18, u10 19, u10 20, .bool false, .int .i64 ((l : Nat) : Int), .bool false, .bool true, .int .i64 ((a : Nat) : Int), .int .i64 ((a % 2 : Nat) : Int), .bool true, .bool true, undef, undef, undef, .bool true, .func (.func 100) #[] #[.pointer (some ⟨g, 0, none⟩), .pointer (some ⟨h, 0, none⟩)], .string (bs (ps.getD k [])), .tuple #[], .int .i64 ((az : Nat) : Int), .bool true, .bool true, .int .i64 ((az : Nat) : Int), .int .i64 ((az % 2 : Nat) : Int), .bool false, .bool false, u155 43, u155 44, u155 45, u155 46, .int .i64 ((az : Nat) : Int), .int .i64 ((az / 2 ^ 1 : Nat) : Int), .int .i64 ((lz : Nat) : Int), .int .i64 ((lz / 2 ^ 1 : Nat) : Int), .int .i64 ((k + 1 : Nat) : Int)] : Array Value).getD q9 undef), rfl, rfl, M, Cr154, (by omega), (by omega), (by omega), (by omega), (nodeS_len _ _), (by rw [List.length_append, List.length_singleton, ho]), (walkG_yes hk hl0 hys hz hzz hW)⟩
      omega
     ·
      have hev : az % 2 = 0 := of_decide_eq_true hc168
      refine wp_cond_true rfl ?_
      refine wp_skip ?_
      refine hK157 _ _ ?_
      refine wp_block ?_
      refine wp_region_seq ?_
      refine wpL_move (v := .int .i64 ((az : Nat) : Int)) (by rfl) (by rfl) (by rfl) ?_
      simp only [putT, List.set]
      refine wpL_chunk 3 (by rfl) (fun Lk hLk => ?_)
      simp only [List.take, List.drop]
      refine wpV_bin (v := .int .i64 ((az / 2 ^ 1 : Nat) : Int)) (by rfl) rfl rfl rfl (fun W => run_shr (n := 1) (by decide) rfl W) ?_
      simp only [putT, List.set]
      refine wpV_move (v := .int .i64 ((lz : Nat) : Int)) (by rfl) rfl rfl ?_
      simp only [putT, List.set]
      refine wpV_bin (v := .int .i64 ((lz / 2 ^ 1 : Nat) : Int)) (by rfl) rfl rfl rfl (fun W => run_shr (n := 1) (by decide) rfl W) ?_
      simp only [putT, List.set]
      refine wpV_nil (hLk _ (fun w174 Sw174 => ?_))
      clear hLk Lk
      simp only [List.take, List.drop]
      replace M := M.sees Sw174
      refine wpL_assign (v := .int .i64 ((az / 2 ^ 1 : Nat) : Int)) (by rfl) (by rfl) (by rfl) ?_
      simp only [putT, List.set]
      refine wpL_assign (v := .int .i64 ((lz / 2 ^ 1 : Nat) : Int)) (by rfl) (by rfl) (by rfl) ?_
      simp only [putT, List.set]
      refine wpL_nil (no_panic ?_)
      refine Exists.intro _ ⟨?_, (az / 2 ^ 1), (lz / 2 ^ 1), (fun q9 => (#[undef, undef, undef, undef, undef, undef, undef, undef, undef, undef, undef, undef, undef, undef, undef, undef, undef, undef, undef, undef, undef, undef, undef, undef, undef, undef, undef, undef, undef, undef, undef, undef, undef, undef, undef, undef, .int .i64 ((az : Nat) : Int), .bool true, .bool true, .int .i64 ((az : Nat) : Int), .int .i64 ((az % 2 : Nat) : Int), .bool true, .bool true, .int .i64 ((az : Nat) : Int), .int .i64 ((az / 2 ^ 1 : Nat) : Int), .int .i64 ((lz : Nat) : Int), .int .i64 ((lz / 2 ^ 1 : Nat) : Int)] : Array Value).getD q9 undef), rfl, rfl, M, (by omega), (by omega), ((skipZ_go hnz hev).symm.trans hz)⟩
      omega
  ·
   have hl0 : l = 0 := of_decide_eq_true hc112
   refine wp_cond_true rfl ?_
   refine wp_seq_k (fun K175 hK175 => ?_)
   refine wp_region_seq ?_
   refine wpL_assign (v := .bool false) (by rfl) (by rfl) (by rfl) ?_
   simp only [putT, List.set]
   refine wpL_nil (no_panic ?_)
   refine hK175 _ _ ?_
   refine wp_exit ?_
   refine hK6 _ _ ?_
   refine wp_seq_k (fun K177 hK177 => ?_)
   refine wp_region_seq ?_
   refine wpL_move (v := .bool false) (by rfl) (by rfl) (by rfl) ?_
   simp only [putT, List.set]
   refine wpL_move (v := .bool false) (by rfl) (by rfl) (by rfl) ?_
   simp only [putT, List.set]
   refine wpL_chunk 3 (by rfl) (fun Lk hLk => ?_)
   simp only [List.take, List.drop]
   refine wpV_skip (by rfl) (by rfl) ?_
   simp only [putT, List.set]
   refine wpV_skip (by rfl) (by rfl) ?_
   simp only [putT, List.set]
   refine wpV_pick (v := .bool false) (by rfl) rfl rfl rfl ?_
   simp only [putT, List.set]
   refine wpV_nil (hLk _ (fun w179 Sw179 => ?_))
   clear hLk Lk
   simp only [List.take, List.drop]
   replace M := M.sees Sw179
   refine wpL_assign (v := .bool false) (by rfl) (by rfl) (by rfl) ?_
   simp only [putT, List.set]
   refine wpL_nil (no_panic ?_)
   refine hK177 _ _ ?_
   refine wp_ret ?_
   repeat (first | with_reducible refine then_ret ?_ | with_reducible refine inblock_ret ?_ | with_reducible refine nogoto_ret ?_)
   refine bodyPost_ret (v := .bool false) (res1 rfl (.tmp (by rfl))) rfl ?_
   have hE : walkF clashF ps a0 l0 ([], s0) = (false, o1, s1) := by rw [hW, walkG_stop hk hl0]
   rw [hE]
   exact ⟨_, rfl, _, _, rfl, (M.pick [0, 1] (by decide) rfl), (RowA.of (M.r 2 0 rfl rfl) (M.lt 2 rfl) (scells_len _).symm Cr)⟩
end Go.Proofs.Yb

namespace Go.Proofs.Yb
open Go Go.RowKit Go.Proofs.Num
attribute [local irreducible] wpV wpN wpList
theorem rev_get {l : List (List UInt8)} {k : Nat} (h : k < l.length) : l.reverse.getD k [] = l.getD (l.length - 1 - k) [] := by
 rw [List.getD_eq_getElem?_getD, List.getD_eq_getElem?_getD, List.getElem?_reverse h]
set_option maxHeartbeats 2000000 in
theorem texts_c {ps : List (List UInt8)} {ap : Option Addr} {np cp : Nat} {leaf sm : List UInt8} {i n : Nat} {U : List (List UInt8)} {dd : Bool} {w : World} (hn1 : 1 ≤ n) (hn : n ≤ 4096) (hi : i < n) (h4 : ps.length ≤ 4096) (hl : leaf.length = 32) (h32 : ∀ s ∈ ps, s.length = 32) (hW : (dd, U, sm) = walkF clashF ps i (n - 1) ([], leaf)) (L0 : 0 < w.heap.size) (R0_0 : w.rangeAt 0 0 kcells) (Hp : RowA w ap np cp (scells ps)) :
  Calls Tryd.prog 86 #[.string (bs leaf), .int .i64 ((i : Nat) : Int), .int .i64 ((n : Nat) : Int), .slice ap np cp] w fun e w' => ∃ v, e = .returned v ∧ (∃ a c, v = .tuple #[.slice a U.length c, .string (bs sm), .bool dd] ∧ RowA w' a U.length c (scells U)) ∧ Below w.heap.size w w' := by
 obtain rfl : np = ps.length := by have := Hp.len; rwa [scells_len] at this
 go_enter Tryd.func86, Tryd.ntmps86
 have M := Mem.start w
 refine wp_seq_k (fun K1 hK1 => ?_)
 refine wp_region_seq ?_
 refine wpL_assign (v := (.slice none 0 0)) (by rfl) (by rfl) (by rfl) ?_
 simp only [putT, List.set]
 refine wpL_assign (v := .string (bs ([]))) (by rfl) (by rfl) (by rfl) ?_
 simp only [putT, List.set]
 refine wpL_assign (v := .bool false) (by rfl) (by rfl) (by rfl) ?_
 simp only [putT, List.set]
 refine wpL_nil (no_panic ?_)
 refine hK1 _ _ ?_
 refine wp_seq_k (fun K3 hK3 => ?_)
 refine wp_region_seq ?_
 refine wpL_var (t := 48) (cs := [.slice none 0 0]) (by rfl) (fun W => ?_) (fun g5 w6 Sw6 Hg5 Bg5 => ?_)
 ·
  go_simp
 replace M := ((M.sees Sw6).add (N := 1) (cs := [.slice none 0 0]) (M.ge Hg5) (M.fresh Hg5) Bg5 rfl)
 clear Bg5
 simp only [putT, List.set]
 refine wpL_nil (no_panic ?_)
 refine hK3 _ _ ?_
 refine wp_seq_k (fun K7 hK7 => ?_)
 refine wp_region_seq ?_
 refine wpL_move (v := .string (bs leaf)) (by rfl) (by rfl) (by rfl) ?_
 simp only [putT, List.set]
 refine wpL_var (t := 9) (cs := [.string { data := #[] }]) (by rfl) (fun W => ?_) (fun g9 w10 Sw10 Hg9 Bg9 => ?_)
 ·
  go_simp
 replace M := ((M.sees Sw10).add (N := 1) (cs := [.string { data := #[] }]) (M.ge Hg9) (M.fresh Hg9) Bg9 rfl)
 clear Bg9
 simp only [putT, List.set]
 refine wpL_store1 (g := g9) (off := 0) (n := 1) (v := .string (bs leaf)) (by rfl) (by rfl) (by rfl) (by rfl) (by rfl) (M.t 0 rfl) (by decide) info9 rfl (fun w11 P R T => ?_)
 replace M := M.putS (new := [.string (bs leaf)]) 0 0 rfl P R T rfl ⟨.inl rfl, trivial⟩
 simp only [List.set] at M
 refine wpL_nil (no_panic ?_)
 refine hK7 _ _ ?_
 refine wp_seq_k (fun K12 hK12 => ?_)
 refine wp_region_seq ?_
 refine wpL_move (v := .int .i64 ((i : Nat) : Int)) (by rfl) (by rfl) (by rfl) ?_
 simp only [putT, List.set]
 refine wpL_move (v := .int .i64 ((n : Nat) : Int)) (by rfl) (by rfl) (by rfl) ?_
 simp only [putT, List.set]
 refine wpL_chunk 3 (by rfl) (fun Lk hLk => ?_)
 simp only [List.take, List.drop]
 refine wpV_bin (v := .int .i64 ((n - 1 : Nat) : Int)) (by rfl) rfl rfl rfl (fun W => run_sub (by simp only [IntKind.wrap_i64]; omega) W) ?_
 simp only [putT, List.set]
 refine wpV_move (v := .slice ap ps.length cp) (by rfl) rfl rfl ?_
 simp only [putT, List.set]
 refine wpV_val (v := .func (.func 100) #[] #[.pointer (some ⟨g9, 0, none⟩), .pointer (some ⟨g5, 0, none⟩)]) (by rfl) (by rfl) (fun W hW => ?_) ?_
 ·
  (unfold RunsVal; kernel_rfl)
 simp only [putT, List.set]
 refine wpV_nil (hLk _ (fun w14 Sw14 => ?_))
 clear hLk Lk
 simp only [List.take, List.drop]
 replace M := M.sees Sw14
 refine wpL_callM (f := 83) (args := #[.int .i64 ((i : Nat) : Int), .int .i64 ((n - 1 : Nat) : Int), .slice ap ps.length cp, .func (.func 100) #[] #[.pointer (some ⟨g9, 0, none⟩), .pointer (some ⟨g5, 0, none⟩)]]) (R := fun v9 W9 => ∃ a16 c16, v9 = .bool ((walkF clashF ps i (n - 1) ([], leaf)).1) ∧ Mem [g9, g5] w14 W9 [⟨g9, 1, [(0, [.string (bs (walkF clashF ps i (n - 1) ([], leaf)).2.2)])]⟩, ⟨g5, 1, [(0, [.slice a16 ((walkF clashF ps i (n - 1) ([], leaf)).2.1.length) c16])]⟩] ∧ RowA W9 a16 (walkF clashF ps i (n - 1) ([], leaf)).2.1.length c16 (scells (walkF clashF ps i (n - 1) ([], leaf)).2.1)) (by rfl) (by rfl) rfl Tryd.func83 (by kernel_rfl) (by kernel_rfl) (walkC_c (ps := ps) (a0 := i) (l0 := n - 1) (s0 := leaf) h4 (by omega) (by omega) (fun hk => getD_32 h32 hk) hl (M.ne0 0 rfl L0) (M.ne0 1 rfl L0) (M.oldL L0) (M.oldR R0_0 L0) ((M.notins Hp).sub (show ∀ x ∈ [g9, g5], x ∈ [g9, g5] from (by intro x hx; simp only [List.mem_cons, List.not_mem_nil, or_false] at hx ⊢; omega))) (M.some (l' := [⟨g9, 1, [(0, [.string (bs leaf)])]⟩, ⟨g5, 1, [(0, [.slice none 0 0])]⟩]) [0, 1] (by decide) rfl)) (fun v9 w15 h9 => ?_)
 obtain ⟨a16, c16, rfl, M9, HRc16⟩ := h9
 replace M := (show Mem [] w w14 ([⟨g9, 1, [(0, [.string (bs leaf)])]⟩, ⟨g5, 1, [(0, [.slice none 0 0])]⟩] ++ []) from M.pick [0, 1] (by decide) rfl).frame M9
 simp only [List.cons_append, List.nil_append] at M
 replace R0_0 := M.oldR R0_0 L0
 replace L0 := M.oldL L0
 have Rg9_0 := M.r 0 0 rfl rfl
 have Lg9 := M.lt 0 rfl
 have Rg5_0 := M.r 1 0 rfl rfl
 have Lg5 := M.lt 1 rfl
 replace Hp := M.oldA Hp
 have BB := M.below
 replace M := Mem.start w15
 simp only [putT, List.set]
 refine wpL_assign (v := .bool ((walkF clashF ps i (n - 1) ([], leaf)).1)) (by rfl) (by rfl) (by rfl) ?_
 simp only [putT, List.set]
 refine wpL_nil (no_panic ?_)
 refine hK12 _ _ ?_
 refine wp_seq_k (fun K17 hK17 => ?_)
 refine wp_region_grow 6 [] (by kernel_rfl) (by kernel_rfl) (by kernel_rfl) (fun Lk hLk => ?_)
 simp only [List.take, List.drop]
 refine wpV_load1 (v := .slice a16 ((walkF clashF ps i (n - 1) ([], leaf)).2.1.length) c16) (by rfl) rfl rfl (range_one (M.oldR Rg5_0 Lg5)) (M.oldL Lg5) Tryd.underlying48 rfl ?_
 simp only [putT, List.set]
 refine wpV_load1 (v := .string (bs ((walkF clashF ps i (n - 1) ([], leaf)).2.2))) (by rfl) rfl rfl (range_one (M.oldR Rg9_0 Lg9)) (M.oldL Lg9) Tryd.underlying9 rfl ?_
 simp only [putT, List.set]
 refine wpV_move (v := .bool ((walkF clashF ps i (n - 1) ([], leaf)).1)) (by rfl) rfl rfl ?_
 simp only [putT, List.set]
 refine wpV_assign (v := .slice a16 ((walkF clashF ps i (n - 1) ([], leaf)).2.1.length) c16) (by rfl) rfl rfl ?_
 simp only [putT, List.set]
 refine wpV_assign (v := .string (bs ((walkF clashF ps i (n - 1) ([], leaf)).2.2))) (by rfl) rfl rfl ?_
 simp only [putT, List.set]
 refine wpV_assign (v := .bool ((walkF clashF ps i (n - 1) ([], leaf)).1)) (by rfl) rfl rfl ?_
 simp only [putT, List.set]
 refine wpV_nil (hLk.out _ ?_)
 clear hLk Lk
 simp only [List.take, List.drop]
 iterate 6 refine wpN_skip (by rfl) ?_
 refine wpN_nil (fun w19 Sw19 hbs => ?_)
 clear hbs
 replace M := M.sees Sw19
 refine wpL_nil (no_panic ?_)
 refine hK17 _ _ ?_
 refine wp_ret ?_
 repeat (first | with_reducible refine then_ret ?_ | with_reducible refine inblock_ret ?_)
 refine bodyPost_ret (v := .tuple #[.slice a16 ((walkF clashF ps i (n - 1) ([], leaf)).2.1.length) c16, .string (bs ((walkF clashF ps i (n - 1) ([], leaf)).2.2)), .bool ((walkF clashF ps i (n - 1) ([], leaf)).1)]) (res3 rfl (.tmp (by rfl)) (.tmp (by rfl)) (.tmp (by rfl))) rfl ?_
 have BE := M.below
 rw [← hW] at HRc16
 rw [← hW]
 exact ⟨_, rfl, ⟨_, _, rfl, (M.oldA HRc16)⟩, BB.trans (BE.mono BB.size)⟩
end Go.Proofs.Yb

namespace Go.Proofs.Yb
open Go Go.RowKit Go.Proofs.Num
attribute [local irreducible] wpV wpN wpList
set_option maxHeartbeats 4000000 in
theorem rtexts_c : ∀ (N : Nat) {ps : List (List UInt8)} {ap : Option Addr} {np cp : Nat} {leaf : List UInt8} {i n : Nat} {w : World} (hN : n = N) (h1 : 1 ≤ n) (hn : n ≤ 4096) (hi : i < n) (hlf : leaf.length = 32) (hq : ps.length ≤ 4096) (h32 : ∀ s ∈ ps, s.length = 32) (hlen : ps.length = (sideT i n).length) (Hp : RowA w ap np cp (scells ps)),
  Calls Tryd.prog 66 #[.string (bs leaf), .int .i64 ((i : Nat) : Int), .int .i64 ((n : Nat) : Int), .slice ap np cp] w fun e w' => ∃ v, e = .returned v ∧ (∃ a c, v = .slice a (downT leaf i n ps).length c ∧ RowA w' a (downT leaf i n ps).length c (scells (downT leaf i n ps))) ∧ Below w.heap.size w w' := by
 intro N
 induction N using Nat.strongRecOn with
 | _ N ih =>
  intro ps ap np cp leaf i n w hN h1 hn hi hlf hq h32 hlen Hp
  subst hN
  obtain rfl : np = ps.length := by have := Hp.len; rwa [scells_len] at this
  have hlne : leaf ≠ [] := fun e9 => by rw [e9] at hlf; cases hlf
  go_enter Tryd.func66, Tryd.ntmps66
  have M := Mem.start w
  refine wp_seq_k (fun K1 hK1 => ?_)
  refine wp_region_seq ?_
  refine wpL_assign (v := (.slice none 0 0)) (by rfl) (by rfl) (by rfl) ?_
  simp only [putT, List.set]
  refine wpL_nil (no_panic ?_)
  refine hK1 _ _ ?_
  refine wp_seq_k (fun K3 hK3 => ?_)
  refine wp_seq_k (fun K4 hK4 => ?_)
  cases hg5 : (decide (n = 1))
  ·
   have hn1 : ¬ n = 1 := of_decide_eq_false hg5
   have h2 : 2 ≤ n := by omega
   have hsl := splitN_lt h2
   have hsp := splitN_pos n
   have hside := side_pos (a := i) h2
   refine wp_region_seq ?_
   refine wpL_move (v := .int .i64 ((n : Nat) : Int)) (by rfl) (by rfl) (by rfl) ?_
   simp only [putT, List.set]
   refine wpL_chunk 6 (by rfl) (fun Lk hLk => ?_)
   simp only [List.take, List.drop]
   refine wpV_bin (v := .bool false) (by rfl) rfl rfl rfl (fun W => (run_eqlN n 1 _ _ W).trans (by rw [hg5])) ?_
   simp only [putT, List.set]
   refine wpV_move (v := .bool false) (by rfl) rfl rfl ?_
   simp only [putT, List.set]
   refine wpV_move (v := .slice ap ps.length cp) (by rfl) rfl rfl ?_
   simp only [putT, List.set]
   refine wpV_lenA (n := ps.length) (by rfl) rfl rfl rfl Tryd.underlying48 ?_
   simp only [putT, List.set]
   refine wpV_bin (v := .bool (decide (ps.length = 0))) (by rfl) rfl rfl rfl (fun W => run_eqlN ps.length 0 _ _ W) ?_
   simp only [putT, List.set]
   refine wpV_pick (v := .bool (decide (ps.length = 0))) (by rfl) rfl rfl rfl ?_
   simp only [putT, List.set]
   refine wpV_nil (hLk _ (fun w7 Sw7 => ?_))
   clear hLk Lk
   simp only [List.take, List.drop]
   replace M := M.sees Sw7
   refine wpL_nil (no_panic ?_)
   refine hK4 _ _ ?_
   cases hc8 : (decide (ps.length = 0))
   ·
    have hp0 : ¬ ps.length = 0 := of_decide_eq_false hc8
    have eps := last_split (by omega : 1 ≤ ps.length)
    refine wp_cond_false rfl ?_
    refine wp_skip ?_
    refine hK3 _ _ ?_
    refine wp_seq_k (fun K9 hK9 => ?_)
    refine wp_region_seq ?_
    refine wpL_move (v := .int .i64 ((n : Nat) : Int)) (by rfl) (by rfl) (by rfl) ?_
    simp only [putT, List.set]
    refine wpL_chunk 1 (by rfl) (fun Lk hLk => ?_)
    simp only [List.take, List.drop]
    refine wpV_callf (v := .int .i64 ((splitN n : Nat) : Int)) (args := #[.int .i64 ((n : Nat) : Int)]) (by rfl) rfl Tryd.func54 (by kernel_rfl) (by kernel_rfl) rfl (fun W hW => rsplit_c (n := n) h2 (by omega)) ?_
    simp only [putT, List.set]
    refine wpV_nil (hLk _ (fun w11 Sw11 => ?_))
    clear hLk Lk
    simp only [List.take, List.drop]
    replace M := M.sees Sw11
    refine wpL_assign (v := .int .i64 ((splitN n : Nat) : Int)) (by rfl) (by rfl) (by rfl) ?_
    simp only [putT, List.set]
    refine wpL_nil (no_panic ?_)
    refine hK9 _ _ ?_
    refine wp_seq_k (fun K12 hK12 => ?_)
    refine wp_region_grow 13 [] (by kernel_rfl) (by kernel_rfl) (by kernel_rfl) (fun Lk hLk => ?_)
    simp only [List.take, List.drop]
    refine wpV_move (v := .slice ap ps.length cp) (by rfl) rfl rfl ?_
    simp only [putT, List.set]
    refine wpV_move (v := .slice ap ps.length cp) (by rfl) rfl rfl ?_
    simp only [putT, List.set]
    refine wpV_lenA (n := ps.length) (by rfl) rfl rfl rfl Tryd.underlying48 ?_
    simp only [putT, List.set]
    refine wpV_bin (v := .int .i64 ((ps.length - 1 : Nat) : Int)) (by rfl) rfl rfl rfl (fun W => run_sub (by simp only [IntKind.wrap_i64]; omega) W) ?_
    simp only [putT, List.set]
    refine wpV_idxA (i := ps.length - 1) (by rfl) rfl rfl rfl Tryd.underlying48 info9 (M.oldA Hp) (by omega) ?_
    simp only [putT, List.set]
    refine wpV_loadA (i := ps.length - 1) (v := .string (bs (ps.getD (ps.length - 1) []))) (by rfl) rfl rfl (M.oldA Hp) (scells_get (ps := ps) (by omega)) Tryd.underlying9 rfl ?_
    simp only [putT, List.set]
    refine wpV_move (v := .slice ap ps.length cp) (by rfl) rfl rfl ?_
    simp only [putT, List.set]
    refine wpV_move (v := .slice ap ps.length cp) (by rfl) rfl rfl ?_
    simp only [putT, List.set]
    refine wpV_lenA (n := ps.length) (by rfl) rfl rfl rfl Tryd.underlying48 ?_
    simp only [putT, List.set]
    refine wpV_bin (v := .int .i64 ((ps.length - 1 : Nat) : Int)) (by rfl) rfl rfl rfl (fun W => run_sub (by simp only [IntKind.wrap_i64]; omega) W) ?_
    simp only [putT, List.set]
    refine wpV_slcH (hi := ps.length - 1) (by rfl) rfl rfl rfl Tryd.underlying48 info9 (Nat.le_trans (Nat.sub_le _ _) (M.oldA Hp).cap) ?_
    simp only [putT, List.set]
    refine wpV_assign (v := .string (bs (ps.getD (ps.length - 1) []))) (by rfl) rfl rfl ?_
    simp only [putT, List.set]
    refine wpV_assign (v := .slice ap (ps.length - 1) cp) (by rfl) rfl rfl ?_
    simp only [putT, List.set]
    refine wpV_nil (hLk.out _ ?_)
    clear hLk Lk
    simp only [List.take, List.drop]
    iterate 13 refine wpN_skip (by rfl) ?_
    refine wpN_nil (fun w14 Sw14 hbs => ?_)
    clear hbs
    replace M := M.sees Sw14
    refine wpL_nil (no_panic ?_)
    refine hK12 _ _ ?_
    refine wp_seq_k (fun K15 hK15 => ?_)
    refine wp_seq_k (fun K16 hK16 => ?_)
    refine wp_region_seq ?_
    refine wpL_move (v := .int .i64 ((i : Nat) : Int)) (by rfl) (by rfl) (by rfl) ?_
    simp only [putT, List.set]
    refine wpL_move (v := .int .i64 ((splitN n : Nat) : Int)) (by rfl) (by rfl) (by rfl) ?_
    simp only [putT, List.set]
    refine wpL_chunk 1 (by rfl) (fun Lk hLk => ?_)
    simp only [List.take, List.drop]
    refine wpV_bin (v := .bool (decide (i < splitN n))) (by rfl) rfl rfl rfl (fun W => run_lssN i (splitN n) _ _ W) ?_
    simp only [putT, List.set]
    refine wpV_nil (hLk _ (fun w18 Sw18 => ?_))
    clear hLk Lk
    simp only [List.take, List.drop]
    replace M := M.sees Sw18
    refine wpL_nil (no_panic ?_)
    refine hK16 _ _ ?_
    cases hc19 : (decide (i < splitN n))
    ·
     have hik : ¬ i < splitN n := of_decide_eq_false hc19
     have hlen9 : (ps.take (ps.length - 1) ++ [ps.getD (ps.length - 1) []]).length = (sideT i n).length := by rw [← eps]; exact hlen
     have hsub := side_right h2 hik hlen9
     have hdn : downT leaf i n ps = _ := (congrArg (downT leaf i n) eps).trans (downT_right h2 hik hlen9)
     have h32g : (ps.getD (ps.length - 1) []).length = 32 := getD_32 h32 (by omega)
     have hmk : (makesT leaf (i - splitN n) (n - splitN n) (ps.take (ps.length - 1))).length ≤ 32 := makesT_le hlf
     have hdl : (downT leaf (i - splitN n) (n - splitN n) (ps.take (ps.length - 1))).length = (ps.take (ps.length - 1)).length := downT_len hsub
     have htk : (ps.take (ps.length - 1)).length ≤ 4096 := by rw [List.length_take]; omega
     refine wp_cond_false rfl ?_
     refine wp_skip ?_
     refine hK15 _ _ ?_
     refine wp_seq_k (fun K20 hK20 => ?_)
     refine wp_region_seq ?_
     refine wpL_move (v := .string (bs (ps.getD (ps.length - 1) []))) (by rfl) (by rfl) (by rfl) ?_
     simp only [putT, List.set]
     refine wpL_chunk 11 (by rfl) (fun Lk hLk => ?_)
     simp only [List.take, List.drop]
     refine wpV_binS (v := .string (bs (([1]) ++ (ps.getD (ps.length - 1) [])))) (by rfl) rfl rfl rfl (run_add_bs _ _ _ (by have := h32g; have := hmk; simp only [List.length_append, List.length_singleton, List.length_cons, List.length_nil]; omega)) ?_
     simp only [putT, List.set]
     refine wpV_move (v := .string (bs leaf)) (by rfl) rfl rfl ?_
     simp only [putT, List.set]
     refine wpV_move (v := .int .i64 ((i : Nat) : Int)) (by rfl) rfl rfl ?_
     simp only [putT, List.set]
     refine wpV_move (v := .int .i64 ((splitN n : Nat) : Int)) (by rfl) rfl rfl ?_
     simp only [putT, List.set]
     refine wpV_bin (v := .int .i64 ((i - (splitN n) : Nat) : Int)) (by rfl) rfl rfl rfl (fun W => run_sub (by simp only [IntKind.wrap_i64]; omega) W) ?_
     simp only [putT, List.set]
     refine wpV_move (v := .int .i64 ((n : Nat) : Int)) (by rfl) rfl rfl ?_
     simp only [putT, List.set]
     refine wpV_move (v := .int .i64 ((splitN n : Nat) : Int)) (by rfl) rfl rfl ?_
     simp only [putT, List.set]
     refine wpV_bin (v := .int .i64 ((n - (splitN n) : Nat) : Int)) (by rfl) rfl rfl rfl (fun W => run_sub (by simp only [IntKind.wrap_i64]; omega) W) ?_
     simp only [putT, List.set]
     refine wpV_move (v := .slice ap (ps.length - 1) cp) (by rfl) rfl rfl ?_
     simp only [putT, List.set]
     refine wpV_callf (v := .string (bs (makesT leaf (i - (splitN n)) (n - (splitN n)) (ps.take (ps.length - 1))))) (args := #[.string (bs leaf), .int .i64 ((i - (splitN n) : Nat) : Int), .int .i64 ((n - (splitN n) : Nat) : Int), .slice ap (ps.length - 1) cp]) (by rfl) rfl Tryd.func58 (by kernel_rfl) (by kernel_rfl) rfl (fun W hW => by with_reducible exact rmakes_c _ (ps := ps.take (ps.length - 1)) (leaf := leaf) (i := i - (splitN n)) (n := n - (splitN n)) rfl (by omega) (by omega) (by omega) hlf (by rw [List.length_take]; omega) (fun s9 h9 => h32 s9 (List.mem_of_mem_take h9)) ((((M.sees hW).oldA Hp).take (Nat.sub_le _ _)).eq (scells_take2 _ _))) ?_
     simp only [putT, List.set]
     refine wpV_binS (v := .string (bs ((([1]) ++ (ps.getD (ps.length - 1) [])) ++ (makesT leaf (i - (splitN n)) (n - (splitN n)) (ps.take (ps.length - 1)))))) (by rfl) rfl rfl rfl (run_add_bs _ _ _ (by have := h32g; have := hmk; simp only [List.length_append, List.length_singleton, List.length_cons, List.length_nil]; omega)) ?_
     simp only [putT, List.set]
     refine wpV_nil (hLk _ (fun w22 Sw22 => ?_))
     clear hLk Lk
     simp only [List.take, List.drop]
     replace M := M.sees Sw22
     refine wpL_rowN (vs := [.string (bs ((([1]) ++ (ps.getD (ps.length - 1) [])) ++ (makesT leaf (i - (splitN n)) (n - (splitN n)) (ps.take (ps.length - 1)))))]) (z := .string { data := #[] }) (bytes := 16) (by rfl) (by rfl) Tryd.underlying48 (by kernel_rfl) (by decide) (by kernel_rfl) (fun g23 w24 Sw24 Hg23 Bg23 => ?_)
     replace M := ((M.sees Sw24).add (N := 1) (cs := [.string (bs ((([1]) ++ (ps.getD (ps.length - 1) [])) ++ (makesT leaf (i - (splitN n)) (n - (splitN n)) (ps.take (ps.length - 1)))))]) (M.ge Hg23) (M.fresh Hg23) Bg23 (by simp [flen]))
     clear Bg23
     simp only [putT, List.set]
     refine wpL_move (v := .string (bs leaf)) (by rfl) (by rfl) (by rfl) ?_
     simp only [putT, List.set]
     refine wpL_move (v := .int .i64 ((i : Nat) : Int)) (by rfl) (by rfl) (by rfl) ?_
     simp only [putT, List.set]
     refine wpL_move (v := .int .i64 ((splitN n : Nat) : Int)) (by rfl) (by rfl) (by rfl) ?_
     simp only [putT, List.set]
     refine wpL_chunk 4 (by rfl) (fun Lk hLk => ?_)
     simp only [List.take, List.drop]
     refine wpV_bin (v := .int .i64 ((i - (splitN n) : Nat) : Int)) (by rfl) rfl rfl rfl (fun W => run_sub (by simp only [IntKind.wrap_i64]; omega) W) ?_
     simp only [putT, List.set]
     refine wpV_move (v := .int .i64 ((n : Nat) : Int)) (by rfl) rfl rfl ?_
     simp only [putT, List.set]
     refine wpV_move (v := .int .i64 ((splitN n : Nat) : Int)) (by rfl) rfl rfl ?_
     simp only [putT, List.set]
     refine wpV_bin (v := .int .i64 ((n - (splitN n) : Nat) : Int)) (by rfl) rfl rfl rfl (fun W => run_sub (by simp only [IntKind.wrap_i64]; omega) W) ?_
     simp only [putT, List.set]
     refine wpV_nil (hLk _ (fun w25 Sw25 => ?_))
     clear hLk Lk
     simp only [List.take, List.drop]
     replace M := M.sees Sw25
     refine wpL_move (v := .slice ap (ps.length - 1) cp) (by rfl) (by rfl) (by rfl) ?_
     simp only [putT, List.set]
     refine wpL_callE (f := 66) (args := #[.string (bs leaf), .int .i64 ((i - (splitN n) : Nat) : Int), .int .i64 ((n - (splitN n) : Nat) : Int), .slice ap (ps.length - 1) cp]) (R := fun v9 W9 => ∃ a27 c27, v9 = .slice a27 ((downT leaf (i - (splitN n)) (n - (splitN n)) (ps.take (ps.length - 1))).length) c27 ∧ RowA W9 a27 (downT leaf (i - (splitN n)) (n - (splitN n)) (ps.take (ps.length - 1))).length c27 (scells (downT leaf (i - (splitN n)) (n - (splitN n)) (ps.take (ps.length - 1))))) (by rfl) (by rfl) rfl Tryd.func66 (by kernel_rfl) (by kernel_rfl) (ih (n - (splitN n)) (by omega) (ps := ps.take (ps.length - 1)) (leaf := leaf) (i := i - (splitN n)) rfl (by omega) (by omega) (by omega) hlf (by rw [List.length_take]; omega) (fun s9 h9 => h32 s9 (List.mem_of_mem_take h9)) hsub (((M.oldA Hp).take (Nat.sub_le _ _)).eq (scells_take2 _ _))) (fun v9 w26 hv9 Sw26 => ?_)
     obtain ⟨a27, c27, rfl, H27_0⟩ := hv9
     replace M := M.sees Sw26
     simp only [putT, List.set]
     refine wpL_appendA (n := 1) (m := (downT leaf (i - (splitN n)) (n - (splitN n)) (ps.take (ps.length - 1))).length) (olds := [.string (bs ((([1]) ++ (ps.getD (ps.length - 1) [])) ++ (makesT leaf (i - (splitN n)) (n - (splitN n)) (ps.take (ps.length - 1)))))]) (news := scells (downT leaf (i - (splitN n)) (n - (splitN n)) (ps.take (ps.length - 1)))) (z := .string { data := #[] }) (bytes := 16) (by rfl) (by rfl) (by rfl) (by rfl) Tryd.underlying48 (by kernel_rfl) rfl rfl rfl (Nat.le_refl _) (M.r 0 0 rfl rfl) (M.t 0 rfl) (M.lt 0 rfl) H27_0 (scells_one _) (by rw [hdl]; omega) (by rw [hdl]; simp only [maxLen]; omega) (fun g28 g28c w29 Sw29 Q Cg28 R T L => ?_)
     replace M := M.grow 0 rfl Sw29 Q R T L
     simp only [List.set] at M
     clear Q R T L
     rw [show [.string (bs ((([1]) ++ (ps.getD (ps.length - 1) [])) ++ (makesT leaf (i - (splitN n)) (n - (splitN n)) (ps.take (ps.length - 1)))))] ++ scells (downT leaf (i - (splitN n)) (n - (splitN n)) (ps.take (ps.length - 1))) = scells (((([1]) ++ (ps.getD (ps.length - 1) [])) ++ (makesT leaf (i - (splitN n)) (n - (splitN n)) (ps.take (ps.length - 1)))) :: (downT leaf (i - (splitN n)) (n - (splitN n)) (ps.take (ps.length - 1)))) from rfl] at M
     simp only [putT, List.set]
     refine wpL_assign (v := .slice (some ⟨g28, 0, none⟩) (1 + (downT leaf (i - (splitN n)) (n - (splitN n)) (ps.take (ps.length - 1))).length) g28c) (by rfl) (by rfl) (by rfl) ?_
     simp only [putT, List.set]
     refine wpL_nil (no_panic ?_)
     refine hK20 _ _ ?_
     refine wp_ret ?_
     repeat (first | with_reducible refine then_ret ?_ | with_reducible refine inblock_ret ?_)
     refine bodyPost_ret (v := .slice (some ⟨g28, 0, none⟩) (1 + (downT leaf (i - (splitN n)) (n - (splitN n)) (ps.take (ps.length - 1))).length) g28c) (res1 rfl (.tmp (by rfl))) rfl ?_
     have BE := M.below
     have eln : 1 + (downT leaf (i - (splitN n)) (n - (splitN n)) (ps.take (ps.length - 1))).length = (downT leaf i n ps).length := by rw [hdn, List.length_cons]; omega
     exact ⟨_, rfl, ⟨_, _, by rw [← eln], by rw [← eln, hdn]; exact (RowA.of (M.r 0 0 rfl rfl) (M.lt 0 rfl) (by rw [scells_len, List.length_cons]; omega) Cg28)⟩, BE⟩
    ·
     have hik : i < splitN n := of_decide_eq_true hc19
     have hlen9 : (ps.take (ps.length - 1) ++ [ps.getD (ps.length - 1) []]).length = (sideT i n).length := by rw [← eps]; exact hlen
     have hsub := side_left h2 hik hlen9
     have hdn : downT leaf i n ps = _ := (congrArg (downT leaf i n) eps).trans (downT_left h2 hik hlen9)
     have h32g : (ps.getD (ps.length - 1) []).length = 32 := getD_32 h32 (by omega)
     have hmk : (makesT leaf (i) (splitN n) (ps.take (ps.length - 1))).length ≤ 32 := makesT_le hlf
     have hdl : (downT leaf (i) (splitN n) (ps.take (ps.length - 1))).length = (ps.take (ps.length - 1)).length := downT_len hsub
     have htk : (ps.take (ps.length - 1)).length ≤ 4096 := by rw [List.length_take]; omega
     refine wp_cond_true rfl ?_
     refine wp_seq_k (fun K30 hK30 => ?_)
     refine wp_region_seq ?_
     refine wpL_move (v := .string (bs leaf)) (by rfl) (by rfl) (by rfl) ?_
     simp only [putT, List.set]
     refine wpL_move (v := .int .i64 ((i : Nat) : Int)) (by rfl) (by rfl) (by rfl) ?_
     simp only [putT, List.set]
     refine wpL_move (v := .int .i64 ((splitN n : Nat) : Int)) (by rfl) (by rfl) (by rfl) ?_
     simp only [putT, List.set]
     refine wpL_move (v := .slice ap (ps.length - 1) cp) (by rfl) (by rfl) (by rfl) ?_
     simp only [putT, List.set]
     refine wpL_chunk 4 (by rfl) (fun Lk hLk => ?_)
     simp only [List.take, List.drop]
     refine wpV_callf (v := .string (bs (makesT leaf i (splitN n) (ps.take (ps.length - 1))))) (args := #[.string (bs leaf), .int .i64 ((i : Nat) : Int), .int .i64 ((splitN n : Nat) : Int), .slice ap (ps.length - 1) cp]) (by rfl) rfl Tryd.func58 (by kernel_rfl) (by kernel_rfl) rfl (fun W hW => by with_reducible exact rmakes_c _ (ps := ps.take (ps.length - 1)) (leaf := leaf) (i := i) (n := splitN n) rfl (by omega) (by omega) (by omega) hlf (by rw [List.length_take]; omega) (fun s9 h9 => h32 s9 (List.mem_of_mem_take h9)) ((((M.sees hW).oldA Hp).take (Nat.sub_le _ _)).eq (scells_take2 _ _))) ?_
     simp only [putT, List.set]
     refine wpV_binS (v := .string (bs (([1]) ++ (makesT leaf i (splitN n) (ps.take (ps.length - 1)))))) (by rfl) rfl rfl rfl (run_add_bs _ _ _ (by have := h32g; have := hmk; simp only [List.length_append, List.length_singleton, List.length_cons, List.length_nil]; omega)) ?_
     simp only [putT, List.set]
     refine wpV_move (v := .string (bs (ps.getD (ps.length - 1) []))) (by rfl) rfl rfl ?_
     simp only [putT, List.set]
     refine wpV_binS (v := .string (bs ((([1]) ++ (makesT leaf i (splitN n) (ps.take (ps.length - 1)))) ++ (ps.getD (ps.length - 1) [])))) (by rfl) rfl rfl rfl (run_add_bs _ _ _ (by have := h32g; have := hmk; simp only [List.length_append, List.length_singleton, List.length_cons, List.length_nil]; omega)) ?_
     simp only [putT, List.set]
     refine wpV_nil (hLk _ (fun w32 Sw32 => ?_))
     clear hLk Lk
     simp only [List.take, List.drop]
     replace M := M.sees Sw32
     refine wpL_rowN (vs := [.string (bs ((([1]) ++ (makesT leaf i (splitN n) (ps.take (ps.length - 1)))) ++ (ps.getD (ps.length - 1) [])))]) (z := .string { data := #[] }) (bytes := 16) (by rfl) (by rfl) Tryd.underlying48 (by kernel_rfl) (by decide) (by kernel_rfl) (fun g33 w34 Sw34 Hg33 Bg33 => ?_)
     replace M := ((M.sees Sw34).add (N := 1) (cs := [.string (bs ((([1]) ++ (makesT leaf i (splitN n) (ps.take (ps.length - 1)))) ++ (ps.getD (ps.length - 1) [])))]) (M.ge Hg33) (M.fresh Hg33) Bg33 (by simp [flen]))
     clear Bg33
     simp only [putT, List.set]
     refine wpL_move (v := .string (bs leaf)) (by rfl) (by rfl) (by rfl) ?_
     simp only [putT, List.set]
     refine wpL_move (v := .int .i64 ((i : Nat) : Int)) (by rfl) (by rfl) (by rfl) ?_
     simp only [putT, List.set]
     refine wpL_move (v := .int .i64 ((splitN n : Nat) : Int)) (by rfl) (by rfl) (by rfl) ?_
     simp only [putT, List.set]
     refine wpL_move (v := .slice ap (ps.length - 1) cp) (by rfl) (by rfl) (by rfl) ?_
     simp only [putT, List.set]
     refine wpL_callE (f := 66) (args := #[.string (bs leaf), .int .i64 ((i : Nat) : Int), .int .i64 ((splitN n : Nat) : Int), .slice ap (ps.length - 1) cp]) (R := fun v9 W9 => ∃ a36 c36, v9 = .slice a36 ((downT leaf i (splitN n) (ps.take (ps.length - 1))).length) c36 ∧ RowA W9 a36 (downT leaf i (splitN n) (ps.take (ps.length - 1))).length c36 (scells (downT leaf i (splitN n) (ps.take (ps.length - 1))))) (by rfl) (by rfl) rfl Tryd.func66 (by kernel_rfl) (by kernel_rfl) (ih (splitN n) (by omega) (ps := ps.take (ps.length - 1)) (leaf := leaf) (i := i) rfl (by omega) (by omega) (by omega) hlf (by rw [List.length_take]; omega) (fun s9 h9 => h32 s9 (List.mem_of_mem_take h9)) hsub (((M.oldA Hp).take (Nat.sub_le _ _)).eq (scells_take2 _ _))) (fun v9 w35 hv9 Sw35 => ?_)
     obtain ⟨a36, c36, rfl, H36_0⟩ := hv9
     replace M := M.sees Sw35
     simp only [putT, List.set]
     refine wpL_appendA (n := 1) (m := (downT leaf i (splitN n) (ps.take (ps.length - 1))).length) (olds := [.string (bs ((([1]) ++ (makesT leaf i (splitN n) (ps.take (ps.length - 1)))) ++ (ps.getD (ps.length - 1) [])))]) (news := scells (downT leaf i (splitN n) (ps.take (ps.length - 1)))) (z := .string { data := #[] }) (bytes := 16) (by rfl) (by rfl) (by rfl) (by rfl) Tryd.underlying48 (by kernel_rfl) rfl rfl rfl (Nat.le_refl _) (M.r 0 0 rfl rfl) (M.t 0 rfl) (M.lt 0 rfl) H36_0 (scells_one _) (by rw [hdl]; omega) (by rw [hdl]; simp only [maxLen]; omega) (fun g37 g37c w38 Sw38 Q Cg37 R T L => ?_)
     replace M := M.grow 0 rfl Sw38 Q R T L
     simp only [List.set] at M
     clear Q R T L
     rw [show [.string (bs ((([1]) ++ (makesT leaf i (splitN n) (ps.take (ps.length - 1)))) ++ (ps.getD (ps.length - 1) [])))] ++ scells (downT leaf i (splitN n) (ps.take (ps.length - 1))) = scells (((([1]) ++ (makesT leaf i (splitN n) (ps.take (ps.length - 1)))) ++ (ps.getD (ps.length - 1) [])) :: (downT leaf i (splitN n) (ps.take (ps.length - 1)))) from rfl] at M
     simp only [putT, List.set]
     refine wpL_assign (v := .slice (some ⟨g37, 0, none⟩) (1 + (downT leaf i (splitN n) (ps.take (ps.length - 1))).length) g37c) (by rfl) (by rfl) (by rfl) ?_
     simp only [putT, List.set]
     refine wpL_nil (no_panic ?_)
     refine hK30 _ _ ?_
     refine wp_ret ?_
     repeat (first | with_reducible refine then_ret ?_ | with_reducible refine inblock_ret ?_)
     refine bodyPost_ret (v := .slice (some ⟨g37, 0, none⟩) (1 + (downT leaf i (splitN n) (ps.take (ps.length - 1))).length) g37c) (res1 rfl (.tmp (by rfl))) rfl ?_
     have BE := M.below
     have eln : 1 + (downT leaf i (splitN n) (ps.take (ps.length - 1))).length = (downT leaf i n ps).length := by rw [hdn, List.length_cons]; omega
     exact ⟨_, rfl, ⟨_, _, by rw [← eln], by rw [← eln, hdn]; exact (RowA.of (M.r 0 0 rfl rfl) (M.lt 0 rfl) (by rw [scells_len, List.length_cons]; omega) Cg37)⟩, BE⟩
   ·
    have hp0 : ps.length = 0 := of_decide_eq_true hc8
    exact absurd hp0 (by omega)
  ·
   have hn1 : n = 1 := of_decide_eq_true hg5
   refine wp_region_seq ?_
   refine wpL_move (v := .int .i64 ((n : Nat) : Int)) (by rfl) (by rfl) (by rfl) ?_
   simp only [putT, List.set]
   refine wpL_chunk 6 (by rfl) (fun Lk hLk => ?_)
   simp only [List.take, List.drop]
   refine wpV_bin (v := .bool true) (by rfl) rfl rfl rfl (fun W => (run_eqlN n 1 _ _ W).trans (by rw [hg5])) ?_
   simp only [putT, List.set]
   refine wpV_move (v := .bool true) (by rfl) rfl rfl ?_
   simp only [putT, List.set]
   refine wpV_skip (by rfl) (by rfl) ?_
   simp only [putT, List.set]
   refine wpV_skip (by rfl) (by rfl) ?_
   simp only [putT, List.set]
   refine wpV_skip (by rfl) (by rfl) ?_
   simp only [putT, List.set]
   refine wpV_pick (v := .bool true) (by rfl) rfl rfl rfl ?_
   simp only [putT, List.set]
   refine wpV_nil (hLk _ (fun w40 Sw40 => ?_))
   clear hLk Lk
   simp only [List.take, List.drop]
   replace M := M.sees Sw40
   refine wpL_nil (no_panic ?_)
   refine hK4 _ _ ?_
   refine wp_cond_true rfl ?_
   refine wp_seq_k (fun K41 hK41 => ?_)
   refine wp_region_seq ?_
   refine wpL_assign (v := (.slice none 0 0)) (by rfl) (by rfl) (by rfl) ?_
   simp only [putT, List.set]
   refine wpL_nil (no_panic ?_)
   refine hK41 _ _ ?_
   refine wp_ret ?_
   repeat (first | with_reducible refine then_ret ?_ | with_reducible refine inblock_ret ?_)
   refine bodyPost_ret (v := (.slice none 0 0)) (res1 rfl (.tmp (by rfl))) rfl ?_
   have BE := M.below
   exact ⟨_, rfl, ⟨none, 0, by rw [downT_1 (by omega)]; rfl, by rw [downT_1 (by omega)]; exact RowA.nil⟩, BE⟩
end Go.Proofs.Yb

