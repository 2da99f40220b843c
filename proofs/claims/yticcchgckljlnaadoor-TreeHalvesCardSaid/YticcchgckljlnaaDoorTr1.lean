import Derived.WalkKit
import Derived.WalkSpells
import Derived.Laws.Pointers
import Derived.RowKit3
import Derived.Below
import Derived.Outline
import Derived.LoopN
import Derived.Lib.Hide
import Derived.Handy
import Derived.Laws.Bits64b
import Derived.Test.YticcchgckljlnaaDoorSh4
import Derived.Test.YticcchgckljlnaaDoorTr
import Derived.Test.YticcchgckljlnaaDoorShelfYticcchgckljlnaaDoor
set_option linter.unusedSimpArgs false
set_option linter.unusedVariables false
namespace Go.Proofs.Yb
open Go Go.RowKit Go.Proofs.Num
set_option maxHeartbeats 1000000 in
theorem leaf_c {d : List UInt8} {w : World} (hd : d.length ≤ 9223372036854775744) (L0 : 0 < w.heap.size) (R0_0 : w.rangeAt 0 0 kcells) :
    Calls Tryd.prog 38 #[.string (bs d)] w fun e w' => e = .returned (.string (bs (leafS d))) ∧ Below w.heap.size w w' := by
  go_enter Tryd.func38, Tryd.ntmps38
  have M := Mem.start w
  refine wp_seq_k (fun K1 hK1 => ?_)
  refine wp_region_seq ?_
  refine wpL_assign (v := .string (bs ([]))) (by rfl) (by rfl) (by rfl) ?_
  simp only [putT, List.set]
  refine wpL_nil (no_panic ?_)
  refine hK1 _ _ ?_
  refine wp_seq_k (fun K3 hK3 => ?_)
  refine wp_region_seq ?_
  refine wpL_move (v := .string (bs d)) (by rfl) (by rfl) (by rfl) ?_
  simp only [putT, List.set]
  refine wpL_rowN (vs := [.string (bs ([0])), .string (bs d)]) (z := .string { data := #[] }) (bytes := 16) (by rfl) (by rfl) Tryd.underlying48 (by kernel_rfl) (by decide) (by kernel_rfl) (fun g5 w6 Sw6 Hg5 Bg5 => ?_)
  replace M := ((M.sees Sw6).add (N := 2) (cs := [.string (bs ([0])), .string (bs d)]) (M.ge Hg5) (M.fresh Hg5) Bg5 rfl)
  clear Bg5
  simp only [putT, List.set]
  refine wpL_chunk 1 (by rfl) (fun Lk hLk => ?_)
  simp only [List.take, List.drop]
  refine wpV_callf (v := .string (bs (sha (([0]) ++ d)))) (args := #[.slice (some ⟨g5, 0, none⟩) 2 2]) (by rfl) rfl Tryd.func20 (by kernel_rfl) (by kernel_rfl) rfl (fun W hW => (by have h := sum_c (ps := [[0], d]) (w := W) (by simp) (getD_le2 (by decide) hd) ((M.sees hW).oldL L0) ((M.sees hW).oldR R0_0 L0) (Nat.le_refl _) ((M.sees hW).lt 0 rfl) ((M.sees hW).r 0 0 rfl rfl); rw [flat2] at h; exact h)) ?_
  simp only [putT, List.set]
  refine wpV_nil (hLk _ (fun w7 Sw7 => ?_))
  clear hLk Lk
  simp only [List.take, List.drop]
  replace M := M.sees Sw7
  refine wpL_assign (v := .string (bs (sha (([0]) ++ d)))) (by rfl) (by rfl) (by rfl) ?_
  simp only [putT, List.set]
  refine wpL_nil (no_panic ?_)
  refine hK3 _ _ ?_
  refine wp_ret ?_
  repeat (first | with_reducible refine then_ret ?_ | with_reducible refine inblock_ret ?_)
  refine bodyPost_ret (v := .string (bs (sha (([0]) ++ d)))) (res1 rfl (.tmp (by rfl))) rfl ?_
  have BE := M.below
  exact ⟨rfl, BE⟩
set_option maxHeartbeats 1000000 in
theorem node_c {a b : List UInt8} {w : World} (ha : a.length ≤ 9223372036854775744) (hb : b.length ≤ 9223372036854775744) (L0 : 0 < w.heap.size) (R0_0 : w.rangeAt 0 0 kcells) :
    Calls Tryd.prog 40 #[.string (bs a), .string (bs b)] w fun e w' => e = .returned (.string (bs (nodeS a b))) ∧ Below w.heap.size w w' := by
  go_enter Tryd.func40, Tryd.ntmps40
  have M := Mem.start w
  refine wp_seq_k (fun K1 hK1 => ?_)
  refine wp_region_seq ?_
  refine wpL_assign (v := .string (bs ([]))) (by rfl) (by rfl) (by rfl) ?_
  simp only [putT, List.set]
  refine wpL_nil (no_panic ?_)
  refine hK1 _ _ ?_
  refine wp_seq_k (fun K3 hK3 => ?_)
  refine wp_region_seq ?_
  refine wpL_move (v := .string (bs a)) (by rfl) (by rfl) (by rfl) ?_
  simp only [putT, List.set]
  refine wpL_move (v := .string (bs b)) (by rfl) (by rfl) (by rfl) ?_
  simp only [putT, List.set]
  refine wpL_rowN (vs := [.string (bs ([1])), .string (bs a), .string (bs b)]) (z := .string { data := #[] }) (bytes := 16) (by rfl) (by rfl) Tryd.underlying48 (by kernel_rfl) (by decide) (by kernel_rfl) (fun g5 w6 Sw6 Hg5 Bg5 => ?_)
  replace M := ((M.sees Sw6).add (N := 3) (cs := [.string (bs ([1])), .string (bs a), .string (bs b)]) (M.ge Hg5) (M.fresh Hg5) Bg5 rfl)
  clear Bg5
  simp only [putT, List.set]
  refine wpL_chunk 1 (by rfl) (fun Lk hLk => ?_)
  simp only [List.take, List.drop]
  refine wpV_callf (v := .string (bs (sha (([1]) ++ a ++ b)))) (args := #[.slice (some ⟨g5, 0, none⟩) 3 3]) (by rfl) rfl Tryd.func20 (by kernel_rfl) (by kernel_rfl) rfl (fun W hW => (by have h := sum_c (ps := [[1], a, b]) (w := W) (by simp) (getD_le3 (by decide) ha hb) ((M.sees hW).oldL L0) ((M.sees hW).oldR R0_0 L0) (Nat.le_refl _) ((M.sees hW).lt 0 rfl) ((M.sees hW).r 0 0 rfl rfl); rw [flat3] at h; exact h)) ?_
  simp only [putT, List.set]
  refine wpV_nil (hLk _ (fun w7 Sw7 => ?_))
  clear hLk Lk
  simp only [List.take, List.drop]
  replace M := M.sees Sw7
  refine wpL_assign (v := .string (bs (sha (([1]) ++ a ++ b)))) (by rfl) (by rfl) (by rfl) ?_
  simp only [putT, List.set]
  refine wpL_nil (no_panic ?_)
  refine hK3 _ _ ?_
  refine wp_ret ?_
  repeat (first | with_reducible refine then_ret ?_ | with_reducible refine inblock_ret ?_)
  refine bodyPost_ret (v := .string (bs (sha (([1]) ++ a ++ b)))) (res1 rfl (.tmp (by rfl))) rfl ?_
  have BE := M.below
  exact ⟨rfl, BE⟩
set_option maxHeartbeats 1000000 in
theorem wellF_c {l : List UInt8} {w : World}  :
    Calls Tryd.prog 97 #[.string (bs l)] w fun e w' => e = .returned (.bool (decide (l.length ≠ 32))) ∧ Below w.heap.size w w' := by
  go_enter Tryd.func97, Tryd.ntmps97
  have M := Mem.start w
  refine wp_seq_k (fun K1 hK1 => ?_)
  refine wp_region_seq ?_
  refine wpL_assign (v := .bool false) (by rfl) (by rfl) (by rfl) ?_
  simp only [putT, List.set]
  refine wpL_nil (no_panic ?_)
  refine hK1 _ _ ?_
  refine wp_seq_k (fun K3 hK3 => ?_)
  refine wp_region_seq ?_
  refine wpL_move (v := .string (bs l)) (by rfl) (by rfl) (by rfl) ?_
  simp only [putT, List.set]
  refine wpL_chunk 2 (by rfl) (fun Lk hLk => ?_)
  simp only [List.take, List.drop]
  refine wpV_lenS (by rfl) rfl rfl rfl Tryd.underlying9 ?_
  simp only [putT, List.set]
  refine wpV_bin (v := .bool (decide (l.length ≠ 32))) (by rfl) rfl rfl rfl (fun W => run_neqN l.length 32 _ _ W) ?_
  simp only [putT, List.set]
  refine wpV_nil (hLk _ (fun w5 Sw5 => ?_))
  clear hLk Lk
  simp only [List.take, List.drop]
  replace M := M.sees Sw5
  refine wpL_assign (v := .bool (decide (l.length ≠ 32))) (by rfl) (by rfl) (by rfl) ?_
  simp only [putT, List.set]
  refine wpL_nil (no_panic ?_)
  refine hK3 _ _ ?_
  refine wp_ret ?_
  repeat (first | with_reducible refine then_ret ?_ | with_reducible refine inblock_ret ?_)
  refine bodyPost_ret (v := .bool (decide (l.length ≠ 32))) (res1 rfl (.tmp (by rfl))) rfl ?_
  have BE := M.below
  exact ⟨rfl, BE⟩
set_option maxHeartbeats 2000000 in
theorem idx1_c {ps : List (List UInt8)} {g0 o cg0 ng0 : Nat} {w : World} (hq : ps.length ≤ 4611686018427387904) (hng0 : ng0 = ps.length) (hcg0 : ng0 ≤ cg0) (Lg0 : g0 < w.heap.size) (Rg0_o : w.rangeAt g0 o (scells ps)) :
    Calls Tryd.prog 109 #[.slice (some ⟨g0, o, none⟩) ng0 cg0, .func (.func 97) #[] #[]] w fun e w' => e = .returned (.int .i64 (badI ps)) ∧ Below w.heap.size w w' := by
  subst hng0
  go_enter Tryd.func109, Tryd.ntmps109
  have M := Mem.start w
  refine wp_seq_k (fun K1 hK1 => ?_)
  refine wp_region_seq ?_
  refine wpL_assign (v := .int .i64 0) (by rfl) (by rfl) (by rfl) ?_
  simp only [putT, List.set]
  refine wpL_nil (no_panic ?_)
  refine hK1 _ _ ?_
  refine wp_seq_k (fun K3 hK3 => ?_)
  refine wp_seq_k (fun K4 hK4 => ?_)
  refine wp_region_seq ?_
  refine wpL_move (v := .slice (some ⟨g0, o, none⟩) ps.length cg0) (by rfl) (by rfl) (by rfl) ?_
  simp only [putT, List.set]
  refine wpL_chunk 1 (by rfl) (fun Lk hLk => ?_)
  simp only [List.take, List.drop]
  refine wpV_lenA (n := ps.length) (by rfl) rfl rfl rfl Tryd.underlying48 ?_
  simp only [putT, List.set]
  refine wpV_nil (hLk _ (fun w6 Sw6 => ?_))
  clear hLk Lk
  simp only [List.take, List.drop]
  replace M := M.sees Sw6
  refine wpL_move (v := .int .i64 0) (by rfl) (by rfl) (by rfl) ?_
  simp only [putT, List.set]
  refine wpL_nil (no_panic ?_)
  refine hK4 _ _ ?_
  refine wp_block ?_
  refine wp_loop_ghost (fun n9 a9 W9 => ∃ (k : Nat) (u7 : Nat → Value), n9 = ps.length - k ∧ a9 = { tmps := #[.slice (some ⟨g0, o, none⟩) ps.length cg0, .func (.func 97) #[] #[], undef, undef, u7 4, u7 5, .slice (some ⟨g0, o, none⟩) ps.length cg0, .int .i64 ((ps.length : Nat) : Int), .int .i64 ((k : Nat) : Int), u7 9, u7 10, u7 11, u7 12, u7 13, u7 14, u7 15, u7 16, u7 17, u7 18], defers := [] } ∧ Mem [] w W9 [] ∧ (k ≤ ps.length) ∧ (∀ j, j < k → (ps.getD j []).length = 32)) (ps.length - (0)) ?_ (fun n9 a9 W9 hI => ?_)
  · exact ⟨0, (fun q9 => (#[undef, undef, undef, undef, .int .i64 0, undef, undef, undef, undef, undef, undef, undef, undef, undef, undef, undef, undef, undef, undef] : Array Value).getD q9 undef), rfl, rfl, M, (by omega), (fun j hj => absurd hj (Nat.not_lt_zero _))⟩
  clear M
  obtain ⟨k, u7, rfl, rfl, M, hk4, hall⟩ := hI
  obtain ⟨w8, rfl⟩ : ∃ W8, W8 = W9 := ⟨_, rfl⟩
  refine wp_seq_k (fun K9 hK9 => ?_)
  refine wp_region_seq ?_
  refine wpL_chunk 1 (by rfl) (fun Lk hLk => ?_)
  simp only [List.take, List.drop]
  refine wpV_bin (v := .bool (decide (k < ps.length))) (by rfl) rfl rfl rfl (fun W => run_lssN k ps.length _ _ W) ?_
  simp only [putT, List.set]
  refine wpV_nil (hLk _ (fun w11 Sw11 => ?_))
  clear hLk Lk
  simp only [List.take, List.drop]
  replace M := M.sees Sw11
  refine wpL_nil (no_panic ?_)
  refine hK9 _ _ ?_
  refine wp_seq_k (fun K12 hK12 => ?_)
  cases hc13 : (decide (k < ps.length))
  · skip
    have ek : k = ps.length := by have := of_decide_eq_false hc13; omega
    subst ek
    refine wp_cond_false rfl ?_
    refine wp_exit ?_
    refine hK3 _ _ ?_
    refine wp_seq_k (fun K14 hK14 => ?_)
    refine wp_region_seq ?_
    refine wpL_assign (v := .int .i64 (-1)) (by rfl) (by rfl) (by rfl) ?_
    simp only [putT, List.set]
    refine wpL_nil (no_panic ?_)
    refine hK14 _ _ ?_
    refine wp_ret ?_
    repeat (first | with_reducible refine then_ret ?_ | with_reducible refine inblock_ret ?_)
    refine bodyPost_ret (v := .int .i64 (-1)) (res1 rfl (.tmp (by rfl))) rfl ?_
    have BE := M.below
    exact ⟨by rw [badI_none hall], BE⟩
  · skip
    have hk : k < ps.length := of_decide_eq_true hc13
    refine wp_cond_true rfl ?_
    refine wp_skip ?_
    refine hK12 _ _ ?_
    refine wp_seq_k (fun K16 hK16 => ?_)
    refine wp_block ?_
    refine wp_seq_k (fun K17 hK17 => ?_)
    refine wp_region_seq ?_
    refine wpL_move (v := .int .i64 ((k : Nat) : Int)) (by rfl) (by rfl) (by rfl) ?_
    simp only [putT, List.set]
    refine wpL_assign (v := .int .i64 ((k : Nat) : Int)) (by rfl) (by rfl) (by rfl) ?_
    simp only [putT, List.set]
    refine wpL_nil (no_panic ?_)
    refine hK17 _ _ ?_
    refine wp_seq_k (fun K19 hK19 => ?_)
    refine wp_region_seq ?_
    refine wpL_move (v := .func (.func 97) #[] #[]) (by rfl) (by rfl) (by rfl) ?_
    simp only [putT, List.set]
    refine wpL_move (v := .slice (some ⟨g0, o, none⟩) ps.length cg0) (by rfl) (by rfl) (by rfl) ?_
    simp only [putT, List.set]
    refine wpL_move (v := .int .i64 ((k : Nat) : Int)) (by rfl) (by rfl) (by rfl) ?_
    simp only [putT, List.set]
    refine wpL_chunk 3 (by rfl) (fun Lk hLk => ?_)
    simp only [List.take, List.drop]
    refine wpV_idxs (n := k) (by rfl) rfl rfl rfl Tryd.underlying48 info9 (by omega) ?_
    simp only [putT, List.set]
    refine wpV_load1 (v := .string (bs (ps.getD k []))) (by rfl) rfl rfl ((M.oldR Rg0_o Lg0) _ _ (scells_get (ps := ps) (by omega))) (M.oldL Lg0) Tryd.underlying9 rfl ?_
    simp only [putT, List.set]
    refine wpV_callv (v := .bool (decide ((ps.getD k []).length ≠ 32))) (args := #[.string (bs (ps.getD k []))]) (by rfl) rfl rfl Tryd.func97 (by kernel_rfl) (by kernel_rfl) rfl (fun W hW => wellF_c) ?_
    simp only [putT, List.set]
    refine wpV_nil (hLk _ (fun w21 Sw21 => ?_))
    clear hLk Lk
    simp only [List.take, List.drop]
    replace M := M.sees Sw21
    refine wpL_nil (no_panic ?_)
    refine hK19 _ _ ?_
    cases hc22 : (decide ((ps.getD k []).length ≠ 32))
    · skip
      have hgood : (ps.getD k []).length = 32 := Decidable.not_not.1 (of_decide_eq_false hc22)
      refine wp_cond_false rfl ?_
      refine wp_skip ?_
      refine hK16 _ _ ?_
      refine wp_region_seq ?_
      refine wpL_chunk 1 (by rfl) (fun Lk hLk => ?_)
      simp only [List.take, List.drop]
      refine wpV_bin (v := .int .i64 ((k + 1 : Nat) : Int)) (by rfl) rfl rfl rfl (fun W => run_add (by simp only [IntKind.wrap_i64]; omega) W) ?_
      simp only [putT, List.set]
      refine wpV_nil (hLk _ (fun w24 Sw24 => ?_))
      clear hLk Lk
      simp only [List.take, List.drop]
      replace M := M.sees Sw24
      refine wpL_move (v := .int .i64 ((k + 1 : Nat) : Int)) (by rfl) (by rfl) (by rfl) ?_
      simp only [putT, List.set]
      refine wpL_nil (no_panic ?_)
      refine Exists.intro _ ⟨?_, (k + 1), (fun q9 => (#[undef, undef, undef, undef, u7 4, .int .i64 ((k : Nat) : Int), undef, undef, undef, .bool true, .int .i64 ((k : Nat) : Int), .func (.func 97) #[] #[], .slice (some ⟨g0, o, none⟩) ps.length cg0, .int .i64 ((k : Nat) : Int), .pointer (some ⟨g0, o + k, none⟩), .string (bs (ps.getD k [])), .bool false, u7 17, .int .i64 ((k + 1 : Nat) : Int)] : Array Value).getD q9 undef), rfl, rfl, M, (by omega), (fun j hj => (Nat.lt_succ_iff_lt_or_eq.1 hj).elim (hall j) (fun e => e ▸ hgood))⟩
      omega
    · skip
      have hgood : (ps.getD k []).length ≠ 32 := of_decide_eq_true hc22
      refine wp_cond_true rfl ?_
      refine wp_seq_k (fun K25 hK25 => ?_)
      refine wp_region_seq ?_
      refine wpL_move (v := .int .i64 ((k : Nat) : Int)) (by rfl) (by rfl) (by rfl) ?_
      simp only [putT, List.set]
      refine wpL_assign (v := .int .i64 ((k : Nat) : Int)) (by rfl) (by rfl) (by rfl) ?_
      simp only [putT, List.set]
      refine wpL_nil (no_panic ?_)
      refine hK25 _ _ ?_
      refine wp_ret ?_
      repeat (first | with_reducible refine then_ret ?_ | with_reducible refine inblock_ret ?_)
      refine bodyPost_ret (v := .int .i64 ((k : Nat) : Int)) (res1 rfl (.tmp (by rfl))) rfl ?_
      have BE := M.below
      exact ⟨by rw [badI_some hk hall hgood], BE⟩
set_option maxHeartbeats 1000000 in
theorem idx1_c0  {w : World}  :
    Calls Tryd.prog 109 #[.slice none 0 0, .func (.func 97) #[] #[]] w fun e w' => e = .returned (.int .i64 (-1)) ∧ Below w.heap.size w w' := by
  go_enter Tryd.func109, Tryd.ntmps109
  have M := Mem.start w
  refine wp_seq_k (fun K1 hK1 => ?_)
  refine wp_region_seq ?_
  refine wpL_assign (v := .int .i64 0) (by rfl) (by rfl) (by rfl) ?_
  simp only [putT, List.set]
  refine wpL_nil (no_panic ?_)
  refine hK1 _ _ ?_
  refine wp_seq_k (fun K3 hK3 => ?_)
  refine wp_seq_k (fun K4 hK4 => ?_)
  refine wp_region_seq ?_
  refine wpL_move (v := .slice none 0 0) (by rfl) (by rfl) (by rfl) ?_
  simp only [putT, List.set]
  refine wpL_chunk 1 (by rfl) (fun Lk hLk => ?_)
  simp only [List.take, List.drop]
  refine wpV_lenA (n := 0) (by rfl) rfl rfl rfl Tryd.underlying48 ?_
  simp only [putT, List.set]
  refine wpV_nil (hLk _ (fun w6 Sw6 => ?_))
  clear hLk Lk
  simp only [List.take, List.drop]
  replace M := M.sees Sw6
  refine wpL_move (v := .int .i64 0) (by rfl) (by rfl) (by rfl) ?_
  simp only [putT, List.set]
  refine wpL_nil (no_panic ?_)
  refine hK4 _ _ ?_
  refine wp_block ?_
  refine wp_loop_rounds 2 ?_
  rw [rounds_succ]
  refine wp_seq_k (fun K7 hK7 => ?_)
  refine wp_region_seq ?_
  refine wpL_chunk 1 (by rfl) (fun Lk hLk => ?_)
  simp only [List.take, List.drop]
  refine wpV_bin (v := .bool false) (by rfl) rfl rfl rfl (fun W => run_lss _ _ _ _ W) ?_
  simp only [putT, List.set]
  refine wpV_nil (hLk _ (fun w9 Sw9 => ?_))
  clear hLk Lk
  simp only [List.take, List.drop]
  replace M := M.sees Sw9
  refine wpL_nil (no_panic ?_)
  refine hK7 _ _ ?_
  refine wp_seq_k (fun K10 hK10 => ?_)
  refine wp_cond_false rfl ?_
  refine wp_exit ?_
  refine hK3 _ _ ?_
  refine wp_seq_k (fun K11 hK11 => ?_)
  refine wp_region_seq ?_
  refine wpL_assign (v := .int .i64 (-1)) (by rfl) (by rfl) (by rfl) ?_
  simp only [putT, List.set]
  refine wpL_nil (no_panic ?_)
  refine hK11 _ _ ?_
  refine wp_ret ?_
  repeat (first | with_reducible refine then_ret ?_ | with_reducible refine inblock_ret ?_)
  refine bodyPost_ret (v := .int .i64 (-1)) (res1 rfl (.tmp (by rfl))) rfl ?_
  have BE := M.below
  exact ⟨rfl, BE⟩
set_option maxHeartbeats 1000000 in
theorem cont1_c {ps : List (List UInt8)} {g0 o cg0 ng0 : Nat} {w : World} (hq : ps.length ≤ 4611686018427387904) (hng0 : ng0 = ps.length) (hcg0 : ng0 ≤ cg0) (Lg0 : g0 < w.heap.size) (Rg0_o : w.rangeAt g0 o (scells ps)) :
    Calls Tryd.prog 96 #[.slice (some ⟨g0, o, none⟩) ng0 cg0, .func (.func 97) #[] #[]] w fun e w' => e = .returned (.bool (!all32 ps)) ∧ Below w.heap.size w w' := by
  subst hng0
  go_enter Tryd.func96, Tryd.ntmps96
  have M := Mem.start w
  refine wp_seq_k (fun K1 hK1 => ?_)
  refine wp_region_seq ?_
  refine wpL_assign (v := .bool false) (by rfl) (by rfl) (by rfl) ?_
  simp only [putT, List.set]
  refine wpL_nil (no_panic ?_)
  refine hK1 _ _ ?_
  refine wp_seq_k (fun K3 hK3 => ?_)
  refine wp_region_seq ?_
  refine wpL_move (v := .slice (some ⟨g0, o, none⟩) ps.length cg0) (by rfl) (by rfl) (by rfl) ?_
  simp only [putT, List.set]
  refine wpL_move (v := .func (.func 97) #[] #[]) (by rfl) (by rfl) (by rfl) ?_
  simp only [putT, List.set]
  refine wpL_chunk 2 (by rfl) (fun Lk hLk => ?_)
  simp only [List.take, List.drop]
  refine wpV_callf (v := .int .i64 (badI ps)) (args := #[.slice (some ⟨g0, o, none⟩) ps.length cg0, .func (.func 97) #[] #[]]) (by rfl) rfl Tryd.func109 (by kernel_rfl) (by kernel_rfl) rfl (fun W hW => idx1_c (ps := ps) hq rfl hcg0 ((M.sees hW).oldL Lg0) ((M.sees hW).oldR Rg0_o Lg0)) ?_
  simp only [putT, List.set]
  refine wpV_bin (v := .bool (decide (0 ≤ badI ps))) (by rfl) rfl rfl rfl (fun W => run_geq _ _ _ _ W) ?_
  simp only [putT, List.set]
  refine wpV_nil (hLk _ (fun w5 Sw5 => ?_))
  clear hLk Lk
  simp only [List.take, List.drop]
  replace M := M.sees Sw5
  refine wpL_assign (v := .bool (decide (0 ≤ badI ps))) (by rfl) (by rfl) (by rfl) ?_
  simp only [putT, List.set]
  refine wpL_nil (no_panic ?_)
  refine hK3 _ _ ?_
  refine wp_ret ?_
  repeat (first | with_reducible refine then_ret ?_ | with_reducible refine inblock_ret ?_)
  refine bodyPost_ret (v := .bool (decide (0 ≤ badI ps))) (res1 rfl (.tmp (by rfl))) rfl ?_
  have BE := M.below
  exact ⟨by rw [badI_ge], BE⟩
set_option maxHeartbeats 1000000 in
theorem cont1_c0  {w : World}  :
    Calls Tryd.prog 96 #[.slice none 0 0, .func (.func 97) #[] #[]] w fun e w' => e = .returned (.bool false) ∧ Below w.heap.size w w' := by
  go_enter Tryd.func96, Tryd.ntmps96
  have M := Mem.start w
  refine wp_seq_k (fun K1 hK1 => ?_)
  refine wp_region_seq ?_
  refine wpL_assign (v := .bool false) (by rfl) (by rfl) (by rfl) ?_
  simp only [putT, List.set]
  refine wpL_nil (no_panic ?_)
  refine hK1 _ _ ?_
  refine wp_seq_k (fun K3 hK3 => ?_)
  refine wp_region_seq ?_
  refine wpL_move (v := .slice none 0 0) (by rfl) (by rfl) (by rfl) ?_
  simp only [putT, List.set]
  refine wpL_move (v := .func (.func 97) #[] #[]) (by rfl) (by rfl) (by rfl) ?_
  simp only [putT, List.set]
  refine wpL_chunk 2 (by rfl) (fun Lk hLk => ?_)
  simp only [List.take, List.drop]
  refine wpV_callf (v := .int .i64 (-1)) (args := #[.slice none 0 0, .func (.func 97) #[] #[]]) (by rfl) rfl Tryd.func109 (by kernel_rfl) (by kernel_rfl) rfl (fun W hW => idx1_c0) ?_
  simp only [putT, List.set]
  refine wpV_bin (v := .bool false) (by rfl) rfl rfl rfl (fun W => run_geq _ _ _ _ W) ?_
  simp only [putT, List.set]
  refine wpV_nil (hLk _ (fun w5 Sw5 => ?_))
  clear hLk Lk
  simp only [List.take, List.drop]
  replace M := M.sees Sw5
  refine wpL_assign (v := .bool false) (by rfl) (by rfl) (by rfl) ?_
  simp only [putT, List.set]
  refine wpL_nil (no_panic ?_)
  refine hK3 _ _ ?_
  refine wp_ret ?_
  repeat (first | with_reducible refine then_ret ?_ | with_reducible refine inblock_ret ?_)
  refine bodyPost_ret (v := .bool false) (res1 rfl (.tmp (by rfl))) rfl ?_
  have BE := M.below
  exact ⟨rfl, BE⟩
set_option maxHeartbeats 1000000 in
theorem well_c {ps : List (List UInt8)} {g0 o cg0 ng0 : Nat} {w : World} (hq : ps.length ≤ 4611686018427387904) (hng0 : ng0 = ps.length) (hcg0 : ng0 ≤ cg0) (Lg0 : g0 < w.heap.size) (Rg0_o : w.rangeAt g0 o (scells ps)) :
    Calls Tryd.prog 76 #[.slice (some ⟨g0, o, none⟩) ng0 cg0] w fun e w' => e = .returned (.bool (all32 ps)) ∧ Below w.heap.size w w' := by
  subst hng0
  go_enter Tryd.func76, Tryd.ntmps76
  have M := Mem.start w
  refine wp_seq_k (fun K1 hK1 => ?_)
  refine wp_region_seq ?_
  refine wpL_assign (v := .bool false) (by rfl) (by rfl) (by rfl) ?_
  simp only [putT, List.set]
  refine wpL_nil (no_panic ?_)
  refine hK1 _ _ ?_
  refine wp_seq_k (fun K3 hK3 => ?_)
  refine wp_region_seq ?_
  refine wpL_move (v := .slice (some ⟨g0, o, none⟩) ps.length cg0) (by rfl) (by rfl) (by rfl) ?_
  simp only [putT, List.set]
  refine wpL_chunk 2 (by rfl) (fun Lk hLk => ?_)
  simp only [List.take, List.drop]
  refine wpV_callf (v := .bool (!all32 ps)) (args := #[.slice (some ⟨g0, o, none⟩) ps.length cg0, .func (.func 97) #[] #[]]) (by rfl) rfl Tryd.func96 (by kernel_rfl) (by kernel_rfl) rfl (fun W hW => cont1_c (ps := ps) hq rfl hcg0 ((M.sees hW).oldL Lg0) ((M.sees hW).oldR Rg0_o Lg0)) ?_
  simp only [putT, List.set]
  refine wpV_not (b := !all32 ps) (by rfl) rfl rfl ?_
  simp only [putT, List.set]
  refine wpV_nil (hLk _ (fun w5 Sw5 => ?_))
  clear hLk Lk
  simp only [List.take, List.drop]
  replace M := M.sees Sw5
  refine wpL_assign (v := .bool (!(!all32 ps))) (by rfl) (by rfl) (by rfl) ?_
  simp only [putT, List.set]
  refine wpL_nil (no_panic ?_)
  refine hK3 _ _ ?_
  refine wp_ret ?_
  repeat (first | with_reducible refine then_ret ?_ | with_reducible refine inblock_ret ?_)
  refine bodyPost_ret (v := .bool (!(!all32 ps))) (res1 rfl (.tmp (by rfl))) rfl ?_
  have BE := M.below
  exact ⟨by rw [Bool.not_not], BE⟩
set_option maxHeartbeats 1000000 in
theorem well_c0  {w : World}  :
    Calls Tryd.prog 76 #[.slice none 0 0] w fun e w' => e = .returned (.bool true) ∧ Below w.heap.size w w' := by
  go_enter Tryd.func76, Tryd.ntmps76
  have M := Mem.start w
  refine wp_seq_k (fun K1 hK1 => ?_)
  refine wp_region_seq ?_
  refine wpL_assign (v := .bool false) (by rfl) (by rfl) (by rfl) ?_
  simp only [putT, List.set]
  refine wpL_nil (no_panic ?_)
  refine hK1 _ _ ?_
  refine wp_seq_k (fun K3 hK3 => ?_)
  refine wp_region_seq ?_
  refine wpL_move (v := .slice none 0 0) (by rfl) (by rfl) (by rfl) ?_
  simp only [putT, List.set]
  refine wpL_chunk 2 (by rfl) (fun Lk hLk => ?_)
  simp only [List.take, List.drop]
  refine wpV_callf (v := .bool false) (args := #[.slice none 0 0, .func (.func 97) #[] #[]]) (by rfl) rfl Tryd.func96 (by kernel_rfl) (by kernel_rfl) rfl (fun W hW => cont1_c0) ?_
  simp only [putT, List.set]
  refine wpV_not (b := false) (by rfl) rfl rfl ?_
  simp only [Bool.not_true, Bool.not_false]
  simp only [putT, List.set]
  refine wpV_nil (hLk _ (fun w5 Sw5 => ?_))
  clear hLk Lk
  simp only [List.take, List.drop]
  replace M := M.sees Sw5
  refine wpL_assign (v := .bool true) (by rfl) (by rfl) (by rfl) ?_
  simp only [putT, List.set]
  refine wpL_nil (no_panic ?_)
  refine hK3 _ _ ?_
  refine wp_ret ?_
  repeat (first | with_reducible refine then_ret ?_ | with_reducible refine inblock_ret ?_)
  refine bodyPost_ret (v := .bool true) (res1 rfl (.tmp (by rfl))) rfl ?_
  have BE := M.below
  exact ⟨rfl, BE⟩
set_option maxHeartbeats 1000000 in
theorem right_c {ps : List (List UInt8)} {g0 o cg0 ng0 : Nat} {w : World} (hng0 : ng0 = ps.length) (hcg0 : ng0 ≤ cg0) (Lg0 : g0 < w.heap.size) (Rg0_o : w.rangeAt g0 o (scells ps)) :
    Calls Tryd.prog 42 #[.slice (some ⟨g0, o, none⟩) ng0 cg0] w fun e w' => e = .returned (.bool (rightB ps)) ∧ Below w.heap.size w w' := by
  subst hng0
  go_enter Tryd.func42, Tryd.ntmps42
  have M := Mem.start w
  refine wp_seq_k (fun K1 hK1 => ?_)
  refine wp_region_seq ?_
  refine wpL_assign (v := .bool false) (by rfl) (by rfl) (by rfl) ?_
  simp only [putT, List.set]
  refine wpL_nil (no_panic ?_)
  refine hK1 _ _ ?_
  refine wp_seq_k (fun K3 hK3 => ?_)
  cases hq4 : (decide (ps.length ≤ 4096))
  · skip
    refine wp_region_seq ?_
    refine wpL_move (v := .slice (some ⟨g0, o, none⟩) ps.length cg0) (by rfl) (by rfl) (by rfl) ?_
    simp only [putT, List.set]
    refine wpL_chunk 6 (by rfl) (fun Lk hLk => ?_)
    simp only [List.take, List.drop]
    refine wpV_lenA (n := ps.length) (by rfl) rfl rfl rfl Tryd.underlying48 ?_
    simp only [putT, List.set]
    refine wpV_bin (v := .bool false) (by rfl) rfl rfl rfl (fun W => (run_leqN ps.length 4096 _ _ W).trans (by rw [hq4])) ?_
    simp only [putT, List.set]
    refine wpV_move (v := .bool false) (by rfl) rfl rfl ?_
    simp only [putT, List.set]
    refine wpV_skip (by rfl) (by rfl) ?_
    simp only [putT, List.set]
    refine wpV_skip (by rfl) (by rfl) ?_
    simp only [putT, List.set]
    refine wpV_pick (v := .bool false) (by rfl) rfl rfl rfl ?_
    simp only [putT, List.set]
    refine wpV_nil (hLk _ (fun w6 Sw6 => ?_))
    clear hLk Lk
    simp only [List.take, List.drop]
    replace M := M.sees Sw6
    refine wpL_assign (v := .bool false) (by rfl) (by rfl) (by rfl) ?_
    simp only [putT, List.set]
    refine wpL_nil (no_panic ?_)
    refine hK3 _ _ ?_
    refine wp_ret ?_
    repeat (first | with_reducible refine then_ret ?_ | with_reducible refine inblock_ret ?_)
    refine bodyPost_ret (v := .bool false) (res1 rfl (.tmp (by rfl))) rfl ?_
    have BE := M.below
    exact ⟨by unfold rightB; first | rw [hq4, Bool.true_and] | rw [hq4, Bool.false_and], BE⟩
  · skip
    have hle : ps.length ≤ 4096 := of_decide_eq_true hq4
    refine wp_region_seq ?_
    refine wpL_move (v := .slice (some ⟨g0, o, none⟩) ps.length cg0) (by rfl) (by rfl) (by rfl) ?_
    simp only [putT, List.set]
    refine wpL_chunk 6 (by rfl) (fun Lk hLk => ?_)
    simp only [List.take, List.drop]
    refine wpV_lenA (n := ps.length) (by rfl) rfl rfl rfl Tryd.underlying48 ?_
    simp only [putT, List.set]
    refine wpV_bin (v := .bool true) (by rfl) rfl rfl rfl (fun W => (run_leqN ps.length 4096 _ _ W).trans (by rw [hq4])) ?_
    simp only [putT, List.set]
    refine wpV_move (v := .bool true) (by rfl) rfl rfl ?_
    simp only [putT, List.set]
    refine wpV_move (v := .slice (some ⟨g0, o, none⟩) ps.length cg0) (by rfl) rfl rfl ?_
    simp only [putT, List.set]
    refine wpV_callf (v := .bool (all32 ps)) (args := #[.slice (some ⟨g0, o, none⟩) ps.length cg0]) (by rfl) rfl Tryd.func76 (by kernel_rfl) (by kernel_rfl) rfl (fun W hW => well_c (ps := ps) (by omega) rfl hcg0 ((M.sees hW).oldL Lg0) ((M.sees hW).oldR Rg0_o Lg0)) ?_
    simp only [putT, List.set]
    refine wpV_pick (v := .bool (all32 ps)) (by rfl) rfl rfl rfl ?_
    simp only [putT, List.set]
    refine wpV_nil (hLk _ (fun w8 Sw8 => ?_))
    clear hLk Lk
    simp only [List.take, List.drop]
    replace M := M.sees Sw8
    refine wpL_assign (v := .bool (all32 ps)) (by rfl) (by rfl) (by rfl) ?_
    simp only [putT, List.set]
    refine wpL_nil (no_panic ?_)
    refine hK3 _ _ ?_
    refine wp_ret ?_
    repeat (first | with_reducible refine then_ret ?_ | with_reducible refine inblock_ret ?_)
    refine bodyPost_ret (v := .bool (all32 ps)) (res1 rfl (.tmp (by rfl))) rfl ?_
    have BE := M.below
    exact ⟨by unfold rightB; first | rw [hq4, Bool.true_and] | rw [hq4, Bool.false_and], BE⟩
set_option maxHeartbeats 1000000 in
theorem right_c0  {w : World}  :
    Calls Tryd.prog 42 #[.slice none 0 0] w fun e w' => e = .returned (.bool true) ∧ Below w.heap.size w w' := by
  go_enter Tryd.func42, Tryd.ntmps42
  have M := Mem.start w
  refine wp_seq_k (fun K1 hK1 => ?_)
  refine wp_region_seq ?_
  refine wpL_assign (v := .bool false) (by rfl) (by rfl) (by rfl) ?_
  simp only [putT, List.set]
  refine wpL_nil (no_panic ?_)
  refine hK1 _ _ ?_
  refine wp_seq_k (fun K3 hK3 => ?_)
  refine wp_region_seq ?_
  refine wpL_move (v := .slice none 0 0) (by rfl) (by rfl) (by rfl) ?_
  simp only [putT, List.set]
  refine wpL_chunk 6 (by rfl) (fun Lk hLk => ?_)
  simp only [List.take, List.drop]
  refine wpV_lenA (n := 0) (by rfl) rfl rfl rfl Tryd.underlying48 ?_
  simp only [putT, List.set]
  refine wpV_bin (v := .bool true) (by rfl) rfl rfl rfl (fun W => run_leq _ _ _ _ W) ?_
  simp only [putT, List.set]
  refine wpV_move (v := .bool true) (by rfl) rfl rfl ?_
  simp only [putT, List.set]
  refine wpV_move (v := .slice none 0 0) (by rfl) rfl rfl ?_
  simp only [putT, List.set]
  refine wpV_callf (v := .bool true) (args := #[.slice none 0 0]) (by rfl) rfl Tryd.func76 (by kernel_rfl) (by kernel_rfl) rfl (fun W hW => well_c0) ?_
  simp only [putT, List.set]
  refine wpV_pick (v := .bool true) (by rfl) rfl rfl rfl ?_
  simp only [putT, List.set]
  refine wpV_nil (hLk _ (fun w5 Sw5 => ?_))
  clear hLk Lk
  simp only [List.take, List.drop]
  replace M := M.sees Sw5
  refine wpL_assign (v := .bool true) (by rfl) (by rfl) (by rfl) ?_
  simp only [putT, List.set]
  refine wpL_nil (no_panic ?_)
  refine hK3 _ _ ?_
  refine wp_ret ?_
  repeat (first | with_reducible refine then_ret ?_ | with_reducible refine inblock_ret ?_)
  refine bodyPost_ret (v := .bool true) (res1 rfl (.tmp (by rfl))) rfl ?_
  have BE := M.below
  exact ⟨rfl, BE⟩
end Go.Proofs.Yb
