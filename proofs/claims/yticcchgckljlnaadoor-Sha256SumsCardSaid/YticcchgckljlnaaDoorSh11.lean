import Derived.WalkKit
import Derived.WalkSpells
import Derived.Laws.Pointers
import Derived.RowKit3
import Derived.Below
import Derived.Outline
import Derived.LoopN
import Derived.Lib.Hide
import Derived.Handy
import Derived.Laws.Bits64b
import Derived.Test.YticcchgckljlnaaDoorSh10
import Derived.Test.YticcchgckljlnaaDoorRootV
set_option linter.unusedSimpArgs false
set_option linter.unusedVariables false
namespace Go.Proofs.Yb
open Go Go.RowKit Go.Proofs.Num
attribute [local irreducible] wpV wpN wpList
theorem pRow_mono : ∀ (d i : Nat), (pRow i).length ≤ (pRow (i + d)).length
 | 0, i => Nat.le_refl _
 | d + 1, i => by
  refine Nat.le_trans (pRow_mono d i) ?_
  rw [show i + (d + 1) = (i + d) + 1 by omega, pRow]
  split
  ·
   rw [List.length_append]; omega
  ·
   exact Nat.le_refl _
theorem pRow_same : ∀ (d i : Nat), (pRow (i + d)).length = (pRow i).length → pRow (i + d) = pRow i
 | 0, i, _ => rfl
 | d + 1, i, h => by
  have h1 := pRow_mono d i
  rw [show i + (d + 1) = (i + d) + 1 by omega, pRow] at h ⊢
  split at h
  ·
   rw [List.length_append, List.length_singleton] at h; omega
  ·
   rename_i hn
   rw [if_neg hn]
   exact pRow_same d i h
theorem pRow_end64 {j c : Nat} (hj : j ≤ 310) (h : 64 ≤ c) (hc : c = (pRow j).length) : c = 64 ∧ pRow j = pRow 310 := by
 have h1 := pRow_mono (310 - j) j
 have h2 : (pRow 310).length = 64 := by rw [primes64]; rfl
 rw [show j + (310 - j) = 310 by omega, h2] at h1
 have h3 := pRow_same (310 - j) j (by rw [show j + (310 - j) = 310 by omega, h2]; omega)
 rw [show j + (310 - j) = 310 by omega] at h3
 exact ⟨by omega, h3.symm⟩
theorem pRow_end8 {j c : Nat} (hj : j ≤ 18) (h : 8 ≤ c) (hc : c = (pRow j).length) : c = 8 ∧ pRow j = pRow 18 := by
 have h1 := pRow_mono (18 - j) j
 have h2 : (pRow 18).length = 8 := by rw [primes8]; rfl
 rw [show j + (18 - j) = 18 by omega, h2] at h1
 have h3 := pRow_same (18 - j) j (by rw [show j + (18 - j) = 18 by omega, h2]; omega)
 rw [show j + (18 - j) = 18 by omega] at h3
 exact ⟨by omega, h3.symm⟩
set_option maxHeartbeats 2000000 in
theorem primes64_c  {w : World}  :
  Calls Tryd.prog 72 #[.int .i64 64] w fun e w' => ∃ v, e = .returned v ∧ MemRow w 64 (qcells (pRow 310)) v w' ∧ Below w.heap.size w w' := by
 go_enter Tryd.func72, Tryd.ntmps72
 have M := Mem.start w
 refine wp_seq_k (fun K1 hK1 => ?_)
 refine wp_region_seq ?_
 refine wpL_assign (v := (.slice none 0 0)) (by rfl) (by rfl) (by rfl) ?_
 simp only [putT, List.set]
 refine wpL_nil (no_panic ?_)
 refine hK1 _ _ ?_
 refine wp_seq_k (fun K3 hK3 => ?_)
 refine wp_region_seq ?_
 refine wpL_row0 (by rfl) (by rfl) Tryd.underlying93 info27 (fun g5 w6 Sw6 Hg5 Bg5 => ?_)
 replace M := ((M.sees Sw6).add (N := 0) (cs := qcells []) (M.ge Hg5) (M.fresh Hg5) Bg5 rfl)
 clear Bg5
 simp only [putT, List.set]
 refine wpL_assign (v := .slice (some ⟨g5, 0, none⟩) 0 0) (by rfl) (by rfl) (by rfl) ?_
 simp only [putT, List.set]
 refine wpL_nil (no_panic ?_)
 refine hK3 _ _ ?_
 refine wp_seq_k (fun K7 hK7 => ?_)
 refine wp_seq_k (fun K8 hK8 => ?_)
 refine wp_region_seq ?_
 refine wpL_assign (v := .int .u64 2) (by rfl) (by rfl) (by rfl) ?_
 simp only [putT, List.set]
 refine wpL_nil (no_panic ?_)
 refine hK8 _ _ ?_
 refine wp_block ?_
 refine wp_loop_ghost (fun n9 a9 W9 => ∃ (j : Nat) (c : Nat) (o : Nat) (oc : Nat) (u10 : Nat → Value), n9 = 2 * (310 - j) ∧ a9 = { tmps := #[.int .i64 64, undef, (.slice none 0 0), .slice (some ⟨o, 0, none⟩) c oc, .int .u64 ((j + 2 : Nat) : Int), u10 5, undef, u10 7, .slice (some ⟨g5, 0, none⟩) 0 0, u10 9, u10 10, u10 11, u10 12, u10 13, u10 14, u10 15, u10 16, u10 17, u10 18, u10 19, u10 20, u10 21, u10 22, u10 23, u10 24, u10 25, u10 26, u10 27, u10 28, u10 29, u10 30, undef], defers := [] } ∧ Mem [] w W9 [⟨o, oc, [(0, qcells (pRow j))]⟩] ∧ c ≤ oc ∧ (j ≤ 310) ∧ (c = (pRow j).length)) (2 * (310 - (0))) ?_ (fun n9 a9 W9 hI => ?_)
 ·
  exact ⟨0, 0, g5, 0, (fun q9 => (#[undef, undef, undef, undef, undef, undef, undef, undef, undef, undef, undef, undef, undef, undef, undef, undef, undef, undef, undef, undef, undef, undef, undef, undef, undef, undef, undef, undef, undef, undef, undef] : Array Value).getD q9 undef), rfl, rfl, M, (Nat.le_refl _), (Nat.zero_le _), rfl⟩
 clear M
 obtain ⟨j, c, o, oc, u10, rfl, rfl, M, Co, hj4, hc⟩ := hI
 obtain ⟨w11, rfl⟩ : ∃ W8, W8 = W9 := ⟨_, rfl⟩
 refine wp_seq_k (fun K12 hK12 => ?_)
 refine wp_seq_k (fun K13 hK13 => ?_)
 refine wp_region_seq ?_
 refine wpL_move (v := .slice (some ⟨o, 0, none⟩) c oc) (by rfl) (by rfl) (by rfl) ?_
 simp only [putT, List.set]
 refine wpL_chunk 3 (by rfl) (fun Lk hLk => ?_)
 simp only [List.take, List.drop]
 refine wpV_lenA (n := c) (by rfl) rfl rfl rfl Tryd.underlying93 ?_
 simp only [putT, List.set]
 refine wpV_move (v := .int .i64 64) (by rfl) rfl rfl ?_
 simp only [putT, List.set]
 refine wpV_bin (v := .bool (decide (c < 64))) (by rfl) rfl rfl rfl (fun W => run_lssN c 64 _ _ W) ?_
 simp only [putT, List.set]
 refine wpV_nil (hLk _ (fun w15 Sw15 => ?_))
 clear hLk Lk
 simp only [List.take, List.drop]
 replace M := M.sees Sw15
 refine wpL_nil (no_panic ?_)
 refine hK13 _ _ ?_
 cases hc16 : (decide (c < 64))
 ·
  have hcm : ¬ c < 64 := of_decide_eq_false hc16
  refine wp_cond_false rfl ?_
  refine wp_exit ?_
  refine hK7 _ _ ?_
  refine wp_seq_k (fun K17 hK17 => ?_)
  refine wp_region_seq ?_
  refine wpL_move (v := .slice (some ⟨o, 0, none⟩) c oc) (by rfl) (by rfl) (by rfl) ?_
  simp only [putT, List.set]
  refine wpL_assign (v := .slice (some ⟨o, 0, none⟩) c oc) (by rfl) (by rfl) (by rfl) ?_
  simp only [putT, List.set]
  refine wpL_nil (no_panic ?_)
  refine hK17 _ _ ?_
  refine wp_ret ?_
  repeat (first | with_reducible refine then_ret ?_ | with_reducible refine inblock_ret ?_)
  refine bodyPost_ret (v := .slice (some ⟨o, 0, none⟩) c oc) (res1 rfl (.tmp (by rfl))) rfl ?_
  have BE := M.below
  have h8 : c = 64 ∧ pRow j = pRow 310 := pRow_end64 hj4 (by omega) hc
  obtain ⟨rfl, h9⟩ := h8
  rw [h9] at M
  exact ⟨_, rfl, ⟨o, oc, rfl, Co, M.pick [0] (by decide) rfl⟩, BE⟩
 ·
  have hcm : c < 64 := of_decide_eq_true hc16
  have hjl : j < 310 := Nat.lt_of_le_of_ne hj4 (fun e9 => by
    subst e9
    have h8 : (pRow 310).length = 64 := by rw [primes64]; rfl
    omega)
  have hcl := pRow_len j
  refine wp_cond_true rfl ?_
  refine wp_skip ?_
  refine hK12 _ _ ?_
  refine wp_seq_k (fun K19 hK19 => ?_)
  refine wp_block ?_
  refine wp_seq_k (fun K20 hK20 => ?_)
  refine wp_region_seq ?_
  refine wpL_assign (v := .bool true) (by rfl) (by rfl) (by rfl) ?_
  simp only [putT, List.set]
  refine wpL_nil (no_panic ?_)
  refine hK20 _ _ ?_
  refine wp_seq_k (fun K22 hK22 => ?_)
  refine wp_seq_k (fun K23 hK23 => ?_)
  refine wp_region_seq ?_
  refine wpL_move (v := .slice (some ⟨o, 0, none⟩) c oc) (by rfl) (by rfl) (by rfl) ?_
  simp only [putT, List.set]
  refine wpL_chunk 1 (by rfl) (fun Lk hLk => ?_)
  simp only [List.take, List.drop]
  refine wpV_lenA (n := c) (by rfl) rfl rfl rfl Tryd.underlying93 ?_
  simp only [putT, List.set]
  refine wpV_nil (hLk _ (fun w25 Sw25 => ?_))
  clear hLk Lk
  simp only [List.take, List.drop]
  replace M := M.sees Sw25
  refine wpL_move (v := .int .i64 0) (by rfl) (by rfl) (by rfl) ?_
  simp only [putT, List.set]
  refine wpL_nil (no_panic ?_)
  refine hK23 _ _ ?_
  refine wp_block ?_
  refine wp_loop_ghost (fun n9 a9 W9 => ∃ (i : Nat) (q : Bool) (u26 : Nat → Value), n9 = 2 * (c - i) ∧ a9 = { tmps := #[.int .i64 64, undef, (.slice none 0 0), .slice (some ⟨o, 0, none⟩) c oc, .int .u64 ((j + 2 : Nat) : Int), .bool q, undef, u26 7, .slice (some ⟨g5, 0, none⟩) 0 0, .slice (some ⟨o, 0, none⟩) c oc, .int .i64 ((c : Nat) : Int), .int .i64 64, .bool true, u10 13, u10 14, .slice (some ⟨o, 0, none⟩) c oc, .int .i64 ((c : Nat) : Int), .int .i64 ((i : Nat) : Int), u26 18, u26 19, u26 20, u26 21, u26 22, u26 23, u26 24, u26 25, u10 26, u10 27, u10 28, u10 29, u10 30, undef], defers := [] } ∧ Mem [] w W9 [⟨o, oc, [(0, qcells (pRow j))]⟩] ∧ (i ≤ c) ∧ (q = ((pRow j).take i).all (fun p => (j + 2) % p != 0))) (2 * (c - (0))) ?_ (fun n9 a9 W9 hI => ?_)
  ·
   exact ⟨0, true, (fun q9 => (#[undef, undef, undef, undef, undef, undef, undef, u10 7, undef, undef, undef, undef, undef, undef, undef, undef, undef, undef, u10 18, u10 19, u10 20, u10 21, u10 22, u10 23, u10 24, u10 25] : Array Value).getD q9 undef), rfl, rfl, M, (Nat.zero_le _), rfl⟩
  clear M
  obtain ⟨i, q, u26, rfl, rfl, M, hi4, hq⟩ := hI
  obtain ⟨w27, rfl⟩ : ∃ W8, W8 = W9 := ⟨_, rfl⟩
  refine wp_seq_k (fun K28 hK28 => ?_)
  refine wp_region_seq ?_
  refine wpL_chunk 1 (by rfl) (fun Lk hLk => ?_)
  simp only [List.take, List.drop]
  refine wpV_bin (v := .bool (decide (i < c))) (by rfl) rfl rfl rfl (fun W => run_lssN i c _ _ W) ?_
  simp only [putT, List.set]
  refine wpV_nil (hLk _ (fun w30 Sw30 => ?_))
  clear hLk Lk
  simp only [List.take, List.drop]
  replace M := M.sees Sw30
  refine wpL_nil (no_panic ?_)
  refine hK28 _ _ ?_
  refine wp_seq_k (fun K31 hK31 => ?_)
  cases hc32 : (decide (i < c))
  ·
   have hi : ¬ i < c := of_decide_eq_false hc32
   have hqa : q = (pRow j).all (fun p => (j + 2) % p != 0) := by rw [hq, List.take_of_length_le (by omega)]
   refine wp_cond_false rfl ?_
   refine wp_exit ?_
   refine hK22 _ _ ?_
   refine wp_seq_k (fun K33 hK33 => ?_)
   refine wp_region_seq ?_
   refine wpL_move (v := .bool q) (by rfl) (by rfl) (by rfl) ?_
   simp only [putT, List.set]
   refine wpL_nil (no_panic ?_)
   refine hK33 _ _ ?_
   cases hc35 : (q)
   ·
    have hqf : q = false := hc35
    refine wp_cond_false rfl ?_
    refine wp_skip ?_
    refine hK19 _ _ ?_
    refine wp_region_seq ?_
    refine wpL_move (v := .int .u64 ((j + 2 : Nat) : Int)) (by rfl) (by rfl) (by rfl) ?_
    simp only [putT, List.set]
    refine wpL_chunk 1 (by rfl) (fun Lk hLk => ?_)
    simp only [List.take, List.drop]
    refine wpV_bin (v := .int .u64 ((j + 1 + 2 : Nat) : Int)) (by rfl) rfl rfl rfl (fun W => (by have h9 := nr_add64 (P := Tryd.prog) 27 (j + 2) 1 W; rw [Nat.mod_eq_of_lt (by omega), show j + 2 + 1 = j + 1 + 2 by omega] at h9; exact h9)) ?_
    simp only [putT, List.set]
    refine wpV_nil (hLk _ (fun w37 Sw37 => ?_))
    clear hLk Lk
    simp only [List.take, List.drop]
    replace M := M.sees Sw37
    refine wpL_assign (v := .int .u64 ((j + 1 + 2 : Nat) : Int)) (by rfl) (by rfl) (by rfl) ?_
    simp only [putT, List.set]
    refine wpL_nil (no_panic ?_)
    have hpj : pRow (j + 1) = pRow j := pRow_no (hqa.symm.trans hqf)
    replace M := M.read1 (cs := qcells (pRow (j + 1))) 0 rfl (by rw [hpj]; exact (M.r 0 0 rfl rfl))
    simp only [List.set] at M
    refine Exists.intro _ ⟨?_, (j + 1), c, o, oc, (fun q9 => (#[undef, undef, undef, undef, undef, .bool false, undef, u26 7, undef, .slice (some ⟨o, 0, none⟩) c oc, .int .i64 ((c : Nat) : Int), .int .i64 64, .bool true, .int .u64 ((j + 2 : Nat) : Int), .int .u64 ((j + 1 + 2 : Nat) : Int), .slice (some ⟨o, 0, none⟩) c oc, .int .i64 ((c : Nat) : Int), .int .i64 ((i : Nat) : Int), .bool false, u26 19, u26 20, u26 21, u26 22, u26 23, u26 24, u26 25, .bool false, u10 27, u10 28, u10 29, u10 30] : Array Value).getD q9 undef), rfl, rfl, M, Co, (by omega), (by rw [hpj]; omega)⟩
    omega
   ·
    have hqt : q = true := hc35
    refine wp_cond_true rfl ?_
    refine wp_region_seq ?_
    refine wpL_move (v := .slice (some ⟨o, 0, none⟩) c oc) (by rfl) (by rfl) (by rfl) ?_
    simp only [putT, List.set]
    refine wpL_move (v := .int .u64 ((j + 2 : Nat) : Int)) (by rfl) (by rfl) (by rfl) ?_
    simp only [putT, List.set]
    refine wpL_rowN (vs := [.int .u64 ((j + 2 : Nat) : Int)]) (z := .int .u64 0) (bytes := 8) (by rfl) (by rfl) Tryd.underlying93 (by kernel_rfl) (by decide) (by kernel_rfl) (fun g39 w40 Sw40 Hg39 Bg39 => ?_)
    replace M := ((M.sees Sw40).add (N := 1) (cs := [.int .u64 ((j + 2 : Nat) : Int)]) (M.ge Hg39) (M.fresh Hg39) Bg39 rfl)
    clear Bg39
    simp only [putT, List.set]
    refine wpL_append (n := c) (m := 1) (olds := qcells (pRow j)) (news := [.int .u64 ((j + 2 : Nat) : Int)]) (z := .int .u64 0) (bytes := 8) (by rfl) (by rfl) (by rfl) (by rfl) Tryd.underlying93 (by kernel_rfl) rfl rfl (by rw [qcells_len]; omega) rfl (M.r 1 0 rfl rfl) (M.t 1 rfl) (M.lt 1 rfl) (M.r 0 0 rfl rfl) (by intro u hu; rw [List.mem_singleton.1 hu]; rfl) (by omega) (by simp only [maxLen]; omega) (fun g41 g41c w42 Sw42 Q Cg41 R T L => ?_)
    replace M := M.grow 1 rfl Sw42 Q R T L
    simp only [List.set] at M
    clear Q R T L
    rw [qcells_snoc] at M
    simp only [putT, List.set]
    refine wpL_assign (v := .slice (some ⟨g41, 0, none⟩) (c + 1) g41c) (by rfl) (by rfl) (by rfl) ?_
    simp only [putT, List.set]
    refine wpL_nil (no_panic ?_)
    refine hK19 _ _ ?_
    refine wp_region_seq ?_
    refine wpL_move (v := .int .u64 ((j + 2 : Nat) : Int)) (by rfl) (by rfl) (by rfl) ?_
    simp only [putT, List.set]
    refine wpL_chunk 1 (by rfl) (fun Lk hLk => ?_)
    simp only [List.take, List.drop]
    refine wpV_bin (v := .int .u64 ((j + 1 + 2 : Nat) : Int)) (by rfl) rfl rfl rfl (fun W => (by have h9 := nr_add64 (P := Tryd.prog) 27 (j + 2) 1 W; rw [Nat.mod_eq_of_lt (by omega), show j + 2 + 1 = j + 1 + 2 by omega] at h9; exact h9)) ?_
    simp only [putT, List.set]
    refine wpV_nil (hLk _ (fun w44 Sw44 => ?_))
    clear hLk Lk
    simp only [List.take, List.drop]
    replace M := M.sees Sw44
    refine wpL_assign (v := .int .u64 ((j + 1 + 2 : Nat) : Int)) (by rfl) (by rfl) (by rfl) ?_
    simp only [putT, List.set]
    refine wpL_nil (no_panic ?_)
    have hpj : pRow (j + 1) = pRow j ++ [j + 2] := pRow_yes (hqa.symm.trans hqt)
    replace M := M.read1 (cs := qcells (pRow (j + 1))) 1 rfl (by rw [hpj]; exact (M.r 1 0 rfl rfl))
    simp only [List.set] at M
    refine Exists.intro _ ⟨?_, (j + 1), (c + 1), g41, g41c, (fun q9 => (#[undef, undef, undef, undef, undef, .bool true, undef, u26 7, undef, .slice (some ⟨o, 0, none⟩) c oc, .int .i64 ((c : Nat) : Int), .int .i64 64, .bool true, .int .u64 ((j + 2 : Nat) : Int), .int .u64 ((j + 1 + 2 : Nat) : Int), .slice (some ⟨o, 0, none⟩) c oc, .int .i64 ((c : Nat) : Int), .int .i64 ((i : Nat) : Int), .bool false, u26 19, u26 20, u26 21, u26 22, u26 23, u26 24, u26 25, .bool true, .slice (some ⟨o, 0, none⟩) c oc, .int .u64 ((j + 2 : Nat) : Int), .slice (some ⟨g39, 0, none⟩) 1 1, .slice (some ⟨g41, 0, none⟩) (c + 1) g41c] : Array Value).getD q9 undef), rfl, rfl, (M.pick [1] (by decide) rfl), Cg41, (by omega), (by rw [hpj, List.length_append, List.length_singleton]; omega)⟩
    omega
  ·
   have hi : i < c := of_decide_eq_true hc32
   have hpp : (pRow j).getD i 0 ≠ 0 := pRow_pos j _ (getD_in9 (hc ▸ hi))
   refine wp_cond_true rfl ?_
   refine wp_skip ?_
   refine hK31 _ _ ?_
   refine wp_seq_k (fun K45 hK45 => ?_)
   refine wp_block ?_
   refine wp_seq_k (fun K46 hK46 => ?_)
   refine wp_region_seq ?_
   refine wpL_chunk 2 (by rfl) (fun Lk hLk => ?_)
   simp only [List.take, List.drop]
   refine wpV_idxs (n := i) (by rfl) rfl rfl rfl Tryd.underlying93 info27 (by omega) ?_
   simp only [Nat.zero_add]
   simp only [putT, List.set]
   refine wpV_load1 (v := .int .u64 ((((pRow j).getD i 0) : Nat) : Int)) (by rfl) rfl rfl (zadd ((M.r 0 0 rfl rfl) _ _ (qcells_get (l := pRow j) (by omega)))) (M.lt 0 rfl) Tryd.underlying27 rfl ?_
   simp only [putT, List.set]
   refine wpV_nil (hLk _ (fun w48 Sw48 => ?_))
   clear hLk Lk
   simp only [List.take, List.drop]
   replace M := M.sees Sw48
   refine wpL_assign (v := .int .u64 ((((pRow j).getD i 0) : Nat) : Int)) (by rfl) (by rfl) (by rfl) ?_
   simp only [putT, List.set]
   refine wpL_nil (no_panic ?_)
   refine hK46 _ _ ?_
   refine wp_seq_k (fun K49 hK49 => ?_)
   refine wp_region_seq ?_
   refine wpL_move (v := .int .u64 ((j + 2 : Nat) : Int)) (by rfl) (by rfl) (by rfl) ?_
   simp only [putT, List.set]
   refine wpL_move (v := .int .u64 ((((pRow j).getD i 0) : Nat) : Int)) (by rfl) (by rfl) (by rfl) ?_
   simp only [putT, List.set]
   refine wpL_chunk 2 (by rfl) (fun Lk hLk => ?_)
   simp only [List.take, List.drop]
   refine wpV_bin (v := .int .u64 (((j + 2) % (pRow j).getD i 0 : Nat) : Int)) (by rfl) rfl rfl rfl (fun W => nr_rem64 hpp W) ?_
   simp only [putT, List.set]
   refine wpV_bin (v := .bool (decide ((j + 2) % (pRow j).getD i 0 = 0))) (by rfl) rfl rfl rfl (fun W => run_eqlN ((j + 2) % (pRow j).getD i 0) 0 _ _ W) ?_
   simp only [putT, List.set]
   refine wpV_nil (hLk _ (fun w51 Sw51 => ?_))
   clear hLk Lk
   simp only [List.take, List.drop]
   replace M := M.sees Sw51
   refine wpL_nil (no_panic ?_)
   refine hK49 _ _ ?_
   cases hc52 : (decide ((j + 2) % (pRow j).getD i 0 = 0))
   ·
    have hdv : ¬ (j + 2) % (pRow j).getD i 0 = 0 := of_decide_eq_false hc52
    refine wp_cond_false rfl ?_
    refine wp_skip ?_
    refine hK45 _ _ ?_
    refine wp_region_seq ?_
    refine wpL_chunk 1 (by rfl) (fun Lk hLk => ?_)
    simp only [List.take, List.drop]
    refine wpV_bin (v := .int .i64 ((i + 1 : Nat) : Int)) (by rfl) rfl rfl rfl (fun W => run_add (by simp only [IntKind.wrap_i64]; omega) W) ?_
    simp only [putT, List.set]
    refine wpV_nil (hLk _ (fun w54 Sw54 => ?_))
    clear hLk Lk
    simp only [List.take, List.drop]
    replace M := M.sees Sw54
    refine wpL_move (v := .int .i64 ((i + 1 : Nat) : Int)) (by rfl) (by rfl) (by rfl) ?_
    simp only [putT, List.set]
    refine wpL_nil (no_panic ?_)
    refine Exists.intro _ ⟨?_, (i + 1), q, (fun q9 => (#[undef, undef, undef, undef, undef, undef, undef, .int .u64 ((((pRow j).getD i 0) : Nat) : Int), undef, undef, undef, undef, undef, undef, undef, undef, undef, undef, .bool true, .pointer (some ⟨o, i, none⟩), .int .u64 ((((pRow j).getD i 0) : Nat) : Int), .int .u64 ((j + 2 : Nat) : Int), .int .u64 ((((pRow j).getD i 0) : Nat) : Int), .int .u64 (((j + 2) % (pRow j).getD i 0 : Nat) : Int), .bool false, .int .i64 ((i + 1 : Nat) : Int)] : Array Value).getD q9 undef), rfl, rfl, M, (by omega), (by rw [all_next (hc ▸ hi), ← hq]; show q = (q && ((j + 2) % (pRow j).getD i 0 != 0)); rw [bne_iff_ne.2 hdv, Bool.and_true])⟩
    omega
   ·
    have hdv : (j + 2) % (pRow j).getD i 0 = 0 := of_decide_eq_true hc52
    refine wp_cond_true rfl ?_
    refine wp_region_seq ?_
    refine wpL_assign (v := .bool false) (by rfl) (by rfl) (by rfl) ?_
    simp only [putT, List.set]
    refine wpL_nil (no_panic ?_)
    refine hK45 _ _ ?_
    refine wp_region_seq ?_
    refine wpL_chunk 1 (by rfl) (fun Lk hLk => ?_)
    simp only [List.take, List.drop]
    refine wpV_bin (v := .int .i64 ((i + 1 : Nat) : Int)) (by rfl) rfl rfl rfl (fun W => run_add (by simp only [IntKind.wrap_i64]; omega) W) ?_
    simp only [putT, List.set]
    refine wpV_nil (hLk _ (fun w57 Sw57 => ?_))
    clear hLk Lk
    simp only [List.take, List.drop]
    replace M := M.sees Sw57
    refine wpL_move (v := .int .i64 ((i + 1 : Nat) : Int)) (by rfl) (by rfl) (by rfl) ?_
    simp only [putT, List.set]
    refine wpL_nil (no_panic ?_)
    refine Exists.intro _ ⟨?_, (i + 1), false, (fun q9 => (#[undef, undef, undef, undef, undef, undef, undef, .int .u64 ((((pRow j).getD i 0) : Nat) : Int), undef, undef, undef, undef, undef, undef, undef, undef, undef, undef, .bool true, .pointer (some ⟨o, i, none⟩), .int .u64 ((((pRow j).getD i 0) : Nat) : Int), .int .u64 ((j + 2 : Nat) : Int), .int .u64 ((((pRow j).getD i 0) : Nat) : Int), .int .u64 (((j + 2) % (pRow j).getD i 0 : Nat) : Int), .bool true, .int .i64 ((i + 1 : Nat) : Int)] : Array Value).getD q9 undef), rfl, rfl, M, (by omega), (by rw [all_next (hc ▸ hi), ← hq, hdv]; simp)⟩
    omega
set_option maxHeartbeats 2000000 in
theorem primes8_c  {w : World}  :
  Calls Tryd.prog 72 #[.int .i64 8] w fun e w' => ∃ v, e = .returned v ∧ MemRow w 8 (qcells (pRow 18)) v w' ∧ Below w.heap.size w w' := by
 go_enter Tryd.func72, Tryd.ntmps72
 have M := Mem.start w
 refine wp_seq_k (fun K1 hK1 => ?_)
 refine wp_region_seq ?_
 refine wpL_assign (v := (.slice none 0 0)) (by rfl) (by rfl) (by rfl) ?_
 simp only [putT, List.set]
 refine wpL_nil (no_panic ?_)
 refine hK1 _ _ ?_
 refine wp_seq_k (fun K3 hK3 => ?_)
 refine wp_region_seq ?_
 refine wpL_row0 (by rfl) (by rfl) Tryd.underlying93 info27 (fun g5 w6 Sw6 Hg5 Bg5 => ?_)
 replace M := ((M.sees Sw6).add (N := 0) (cs := qcells []) (M.ge Hg5) (M.fresh Hg5) Bg5 rfl)
 clear Bg5
 simp only [putT, List.set]
 refine wpL_assign (v := .slice (some ⟨g5, 0, none⟩) 0 0) (by rfl) (by rfl) (by rfl) ?_
 simp only [putT, List.set]
 refine wpL_nil (no_panic ?_)
 refine hK3 _ _ ?_
 refine wp_seq_k (fun K7 hK7 => ?_)
 refine wp_seq_k (fun K8 hK8 => ?_)
 refine wp_region_seq ?_
 refine wpL_assign (v := .int .u64 2) (by rfl) (by rfl) (by rfl) ?_
 simp only [putT, List.set]
 refine wpL_nil (no_panic ?_)
 refine hK8 _ _ ?_
 refine wp_block ?_
 refine wp_loop_ghost (fun n9 a9 W9 => ∃ (j : Nat) (c : Nat) (o : Nat) (oc : Nat) (u10 : Nat → Value), n9 = 2 * (18 - j) ∧ a9 = { tmps := #[.int .i64 8, undef, (.slice none 0 0), .slice (some ⟨o, 0, none⟩) c oc, .int .u64 ((j + 2 : Nat) : Int), u10 5, undef, u10 7, .slice (some ⟨g5, 0, none⟩) 0 0, u10 9, u10 10, u10 11, u10 12, u10 13, u10 14, u10 15, u10 16, u10 17, u10 18, u10 19, u10 20, u10 21, u10 22, u10 23, u10 24, u10 25, u10 26, u10 27, u10 28, u10 29, u10 30, undef], defers := [] } ∧ Mem [] w W9 [⟨o, oc, [(0, qcells (pRow j))]⟩] ∧ c ≤ oc ∧ (j ≤ 18) ∧ (c = (pRow j).length)) (2 * (18 - (0))) ?_ (fun n9 a9 W9 hI => ?_)
 ·
  exact ⟨0, 0, g5, 0, (fun q9 => (#[undef, undef, undef, undef, undef, undef, undef, undef, undef, undef, undef, undef, undef, undef, undef, undef, undef, undef, undef, undef, undef, undef, undef, undef, undef, undef, undef, undef, undef, undef, undef] : Array Value).getD q9 undef), rfl, rfl, M, (Nat.le_refl _), (Nat.zero_le _), rfl⟩
 clear M
 obtain ⟨j, c, o, oc, u10, rfl, rfl, M, Co, hj4, hc⟩ := hI
 obtain ⟨w11, rfl⟩ : ∃ W8, W8 = W9 := ⟨_, rfl⟩
 refine wp_seq_k (fun K12 hK12 => ?_)
 refine wp_seq_k (fun K13 hK13 => ?_)
 refine wp_region_seq ?_
 refine wpL_move (v := .slice (some ⟨o, 0, none⟩) c oc) (by rfl) (by rfl) (by rfl) ?_
 simp only [putT, List.set]
 refine wpL_chunk 3 (by rfl) (fun Lk hLk => ?_)
 simp only [List.take, List.drop]
 refine wpV_lenA (n := c) (by rfl) rfl rfl rfl Tryd.underlying93 ?_
 simp only [putT, List.set]
 refine wpV_move (v := .int .i64 8) (by rfl) rfl rfl ?_
 simp only [putT, List.set]
 refine wpV_bin (v := .bool (decide (c < 8))) (by rfl) rfl rfl rfl (fun W => run_lssN c 8 _ _ W) ?_
 simp only [putT, List.set]
 refine wpV_nil (hLk _ (fun w15 Sw15 => ?_))
 clear hLk Lk
 simp only [List.take, List.drop]
 replace M := M.sees Sw15
 refine wpL_nil (no_panic ?_)
 refine hK13 _ _ ?_
 cases hc16 : (decide (c < 8))
 ·
  have hcm : ¬ c < 8 := of_decide_eq_false hc16
  refine wp_cond_false rfl ?_
  refine wp_exit ?_
  refine hK7 _ _ ?_
  refine wp_seq_k (fun K17 hK17 => ?_)
  refine wp_region_seq ?_
  refine wpL_move (v := .slice (some ⟨o, 0, none⟩) c oc) (by rfl) (by rfl) (by rfl) ?_
  simp only [putT, List.set]
  refine wpL_assign (v := .slice (some ⟨o, 0, none⟩) c oc) (by rfl) (by rfl) (by rfl) ?_
  simp only [putT, List.set]
  refine wpL_nil (no_panic ?_)
  refine hK17 _ _ ?_
  refine wp_ret ?_
  repeat (first | with_reducible refine then_ret ?_ | with_reducible refine inblock_ret ?_)
  refine bodyPost_ret (v := .slice (some ⟨o, 0, none⟩) c oc) (res1 rfl (.tmp (by rfl))) rfl ?_
  have BE := M.below
  have h8 : c = 8 ∧ pRow j = pRow 18 := pRow_end8 hj4 (by omega) hc
  obtain ⟨rfl, h9⟩ := h8
  rw [h9] at M
  exact ⟨_, rfl, ⟨o, oc, rfl, Co, M.pick [0] (by decide) rfl⟩, BE⟩
 ·
  have hcm : c < 8 := of_decide_eq_true hc16
  have hjl : j < 18 := Nat.lt_of_le_of_ne hj4 (fun e9 => by
    subst e9
    have h8 : (pRow 18).length = 8 := by rw [primes8]; rfl
    omega)
  have hcl := pRow_len j
  refine wp_cond_true rfl ?_
  refine wp_skip ?_
  refine hK12 _ _ ?_
  refine wp_seq_k (fun K19 hK19 => ?_)
  refine wp_block ?_
  refine wp_seq_k (fun K20 hK20 => ?_)
  refine wp_region_seq ?_
  refine wpL_assign (v := .bool true) (by rfl) (by rfl) (by rfl) ?_
  simp only [putT, List.set]
  refine wpL_nil (no_panic ?_)
  refine hK20 _ _ ?_
  refine wp_seq_k (fun K22 hK22 => ?_)
  refine wp_seq_k (fun K23 hK23 => ?_)
  refine wp_region_seq ?_
  refine wpL_move (v := .slice (some ⟨o, 0, none⟩) c oc) (by rfl) (by rfl) (by rfl) ?_
  simp only [putT, List.set]
  refine wpL_chunk 1 (by rfl) (fun Lk hLk => ?_)
  simp only [List.take, List.drop]
  refine wpV_lenA (n := c) (by rfl) rfl rfl rfl Tryd.underlying93 ?_
  simp only [putT, List.set]
  refine wpV_nil (hLk _ (fun w25 Sw25 => ?_))
  clear hLk Lk
  simp only [List.take, List.drop]
  replace M := M.sees Sw25
  refine wpL_move (v := .int .i64 0) (by rfl) (by rfl) (by rfl) ?_
  simp only [putT, List.set]
  refine wpL_nil (no_panic ?_)
  refine hK23 _ _ ?_
  refine wp_block ?_
  refine wp_loop_ghost (fun n9 a9 W9 => ∃ (i : Nat) (q : Bool) (u26 : Nat → Value), n9 = 2 * (c - i) ∧ a9 = { tmps := #[.int .i64 8, undef, (.slice none 0 0), .slice (some ⟨o, 0, none⟩) c oc, .int .u64 ((j + 2 : Nat) : Int), .bool q, undef, u26 7, .slice (some ⟨g5, 0, none⟩) 0 0, .slice (some ⟨o, 0, none⟩) c oc, .int .i64 ((c : Nat) : Int), .int .i64 8, .bool true, u10 13, u10 14, .slice (some ⟨o, 0, none⟩) c oc, .int .i64 ((c : Nat) : Int), .int .i64 ((i : Nat) : Int), u26 18, u26 19, u26 20, u26 21, u26 22, u26 23, u26 24, u26 25, u10 26, u10 27, u10 28, u10 29, u10 30, undef], defers := [] } ∧ Mem [] w W9 [⟨o, oc, [(0, qcells (pRow j))]⟩] ∧ (i ≤ c) ∧ (q = ((pRow j).take i).all (fun p => (j + 2) % p != 0))) (2 * (c - (0))) ?_ (fun n9 a9 W9 hI => ?_)
  ·
   exact ⟨0, true, (fun q9 => (#[undef, undef, undef, undef, undef, undef, undef, u10 7, undef, undef, undef, undef, undef, undef, undef, undef, undef, undef, u10 18, u10 19, u10 20, u10 21, u10 22, u10 23, u10 24, u10 25] : Array Value).getD q9 undef), rfl, rfl, M, (Nat.zero_le _), rfl⟩
  clear M
  obtain ⟨i, q, u26, rfl, rfl, M, hi4, hq⟩ := hI
  obtain ⟨w27, rfl⟩ : ∃ W8, W8 = W9 := ⟨_, rfl⟩
  refine wp_seq_k (fun K28 hK28 => ?_)
  refine wp_region_seq ?_
  refine wpL_chunk 1 (by rfl) (fun Lk hLk => ?_)
  simp only [List.take, List.drop]
  refine wpV_bin (v := .bool (decide (i < c))) (by rfl) rfl rfl rfl (fun W => run_lssN i c _ _ W) ?_
  simp only [putT, List.set]
  refine wpV_nil (hLk _ (fun w30 Sw30 => ?_))
  clear hLk Lk
  simp only [List.take, List.drop]
  replace M := M.sees Sw30
  refine wpL_nil (no_panic ?_)
  refine hK28 _ _ ?_
  refine wp_seq_k (fun K31 hK31 => ?_)
  cases hc32 : (decide (i < c))
  ·
   have hi : ¬ i < c := of_decide_eq_false hc32
   have hqa : q = (pRow j).all (fun p => (j + 2) % p != 0) := by rw [hq, List.take_of_length_le (by omega)]
   refine wp_cond_false rfl ?_
   refine wp_exit ?_
   refine hK22 _ _ ?_
   refine wp_seq_k (fun K33 hK33 => ?_)
   refine wp_region_seq ?_
   refine wpL_move (v := .bool q) (by rfl) (by rfl) (by rfl) ?_
   simp only [putT, List.set]
   refine wpL_nil (no_panic ?_)
   refine hK33 _ _ ?_
   cases hc35 : (q)
   ·
    have hqf : q = false := hc35
    refine wp_cond_false rfl ?_
    refine wp_skip ?_
    refine hK19 _ _ ?_
    refine wp_region_seq ?_
    refine wpL_move (v := .int .u64 ((j + 2 : Nat) : Int)) (by rfl) (by rfl) (by rfl) ?_
    simp only [putT, List.set]
    refine wpL_chunk 1 (by rfl) (fun Lk hLk => ?_)
    simp only [List.take, List.drop]
    refine wpV_bin (v := .int .u64 ((j + 1 + 2 : Nat) : Int)) (by rfl) rfl rfl rfl (fun W => (by have h9 := nr_add64 (P := Tryd.prog) 27 (j + 2) 1 W; rw [Nat.mod_eq_of_lt (by omega), show j + 2 + 1 = j + 1 + 2 by omega] at h9; exact h9)) ?_
    simp only [putT, List.set]
    refine wpV_nil (hLk _ (fun w37 Sw37 => ?_))
    clear hLk Lk
    simp only [List.take, List.drop]
    replace M := M.sees Sw37
    refine wpL_assign (v := .int .u64 ((j + 1 + 2 : Nat) : Int)) (by rfl) (by rfl) (by rfl) ?_
    simp only [putT, List.set]
    refine wpL_nil (no_panic ?_)
    have hpj : pRow (j + 1) = pRow j := pRow_no (hqa.symm.trans hqf)
    replace M := M.read1 (cs := qcells (pRow (j + 1))) 0 rfl (by rw [hpj]; exact (M.r 0 0 rfl rfl))
    simp only [List.set] at M
    refine Exists.intro _ ⟨?_, (j + 1), c, o, oc, (fun q9 => (#[undef, undef, undef, undef, undef, .bool false, undef, u26 7, undef, .slice (some ⟨o, 0, none⟩) c oc, .int .i64 ((c : Nat) : Int), .int .i64 8, .bool true, .int .u64 ((j + 2 : Nat) : Int), .int .u64 ((j + 1 + 2 : Nat) : Int), .slice (some ⟨o, 0, none⟩) c oc, .int .i64 ((c : Nat) : Int), .int .i64 ((i : Nat) : Int), .bool false, u26 19, u26 20, u26 21, u26 22, u26 23, u26 24, u26 25, .bool false, u10 27, u10 28, u10 29, u10 30] : Array Value).getD q9 undef), rfl, rfl, M, Co, (by omega), (by rw [hpj]; omega)⟩
    omega
   ·
    have hqt : q = true := hc35
    refine wp_cond_true rfl ?_
    refine wp_region_seq ?_
    refine wpL_move (v := .slice (some ⟨o, 0, none⟩) c oc) (by rfl) (by rfl) (by rfl) ?_
    simp only [putT, List.set]
    refine wpL_move (v := .int .u64 ((j + 2 : Nat) : Int)) (by rfl) (by rfl) (by rfl) ?_
    simp only [putT, List.set]
    refine wpL_rowN (vs := [.int .u64 ((j + 2 : Nat) : Int)]) (z := .int .u64 0) (bytes := 8) (by rfl) (by rfl) Tryd.underlying93 (by kernel_rfl) (by decide) (by kernel_rfl) (fun g39 w40 Sw40 Hg39 Bg39 => ?_)
    replace M := ((M.sees Sw40).add (N := 1) (cs := [.int .u64 ((j + 2 : Nat) : Int)]) (M.ge Hg39) (M.fresh Hg39) Bg39 rfl)
    clear Bg39
    simp only [putT, List.set]
    refine wpL_append (n := c) (m := 1) (olds := qcells (pRow j)) (news := [.int .u64 ((j + 2 : Nat) : Int)]) (z := .int .u64 0) (bytes := 8) (by rfl) (by rfl) (by rfl) (by rfl) Tryd.underlying93 (by kernel_rfl) rfl rfl (by rw [qcells_len]; omega) rfl (M.r 1 0 rfl rfl) (M.t 1 rfl) (M.lt 1 rfl) (M.r 0 0 rfl rfl) (by intro u hu; rw [List.mem_singleton.1 hu]; rfl) (by omega) (by simp only [maxLen]; omega) (fun g41 g41c w42 Sw42 Q Cg41 R T L => ?_)
    replace M := M.grow 1 rfl Sw42 Q R T L
    simp only [List.set] at M
    clear Q R T L
    rw [qcells_snoc] at M
    simp only [putT, List.set]
    refine wpL_assign (v := .slice (some ⟨g41, 0, none⟩) (c + 1) g41c) (by rfl) (by rfl) (by rfl) ?_
    simp only [putT, List.set]
    refine wpL_nil (no_panic ?_)
    refine hK19 _ _ ?_
    refine wp_region_seq ?_
    refine wpL_move (v := .int .u64 ((j + 2 : Nat) : Int)) (by rfl) (by rfl) (by rfl) ?_
    simp only [putT, List.set]
    refine wpL_chunk 1 (by rfl) (fun Lk hLk => ?_)
    simp only [List.take, List.drop]
    refine wpV_bin (v := .int .u64 ((j + 1 + 2 : Nat) : Int)) (by rfl) rfl rfl rfl (fun W => (by have h9 := nr_add64 (P := Tryd.prog) 27 (j + 2) 1 W; rw [Nat.mod_eq_of_lt (by omega), show j + 2 + 1 = j + 1 + 2 by omega] at h9; exact h9)) ?_
    simp only [putT, List.set]
    refine wpV_nil (hLk _ (fun w44 Sw44 => ?_))
    clear hLk Lk
    simp only [List.take, List.drop]
    replace M := M.sees Sw44
    refine wpL_assign (v := .int .u64 ((j + 1 + 2 : Nat) : Int)) (by rfl) (by rfl) (by rfl) ?_
    simp only [putT, List.set]
    refine wpL_nil (no_panic ?_)
    have hpj : pRow (j + 1) = pRow j ++ [j + 2] := pRow_yes (hqa.symm.trans hqt)
    replace M := M.read1 (cs := qcells (pRow (j + 1))) 1 rfl (by rw [hpj]; exact (M.r 1 0 rfl rfl))
    simp only [List.set] at M
    refine Exists.intro _ ⟨?_, (j + 1), (c + 1), g41, g41c, (fun q9 => (#[undef, undef, undef, undef, undef, .bool true, undef, u26 7, undef, .slice (some ⟨o, 0, none⟩) c oc, .int .i64 ((c : Nat) : Int), .int .i64 8, .bool true, .int .u64 ((j + 2 : Nat) : Int), .int .u64 ((j + 1 + 2 : Nat) : Int), .slice (some ⟨o, 0, none⟩) c oc, .int .i64 ((c : Nat) : Int), .int .i64 ((i : Nat) : Int), .bool false, u26 19, u26 20, u26 21, u26 22, u26 23, u26 24, u26 25, .bool true, .slice (some ⟨o, 0, none⟩) c oc, .int .u64 ((j + 2 : Nat) : Int), .slice (some ⟨g39, 0, none⟩) 1 1, .slice (some ⟨g41, 0, none⟩) (c + 1) g41c] : Array Value).getD q9 undef), rfl, rfl, (M.pick [1] (by decide) rfl), Cg41, (by omega), (by rw [hpj, List.length_append, List.length_singleton]; omega)⟩
    omega
  ·
   have hi : i < c := of_decide_eq_true hc32
   have hpp : (pRow j).getD i 0 ≠ 0 := pRow_pos j _ (getD_in9 (hc ▸ hi))
   refine wp_cond_true rfl ?_
   refine wp_skip ?_
   refine hK31 _ _ ?_
   refine wp_seq_k (fun K45 hK45 => ?_)
   refine wp_block ?_
   refine wp_seq_k (fun K46 hK46 => ?_)
   refine wp_region_seq ?_
   refine wpL_chunk 2 (by rfl) (fun Lk hLk => ?_)
   simp only [List.take, List.drop]
   refine wpV_idxs (n := i) (by rfl) rfl rfl rfl Tryd.underlying93 info27 (by omega) ?_
   simp only [Nat.zero_add]
   simp only [putT, List.set]
   refine wpV_load1 (v := .int .u64 ((((pRow j).getD i 0) : Nat) : Int)) (by rfl) rfl rfl (zadd ((M.r 0 0 rfl rfl) _ _ (qcells_get (l := pRow j) (by omega)))) (M.lt 0 rfl) Tryd.underlying27 rfl ?_
   simp only [putT, List.set]
   refine wpV_nil (hLk _ (fun w48 Sw48 => ?_))
   clear hLk Lk
   simp only [List.take, List.drop]
   replace M := M.sees Sw48
   refine wpL_assign (v := .int .u64 ((((pRow j).getD i 0) : Nat) : Int)) (by rfl) (by rfl) (by rfl) ?_
   simp only [putT, List.set]
   refine wpL_nil (no_panic ?_)
   refine hK46 _ _ ?_
   refine wp_seq_k (fun K49 hK49 => ?_)
   refine wp_region_seq ?_
   refine wpL_move (v := .int .u64 ((j + 2 : Nat) : Int)) (by rfl) (by rfl) (by rfl) ?_
   simp only [putT, List.set]
   refine wpL_move (v := .int .u64 ((((pRow j).getD i 0) : Nat) : Int)) (by rfl) (by rfl) (by rfl) ?_
   simp only [putT, List.set]
   refine wpL_chunk 2 (by rfl) (fun Lk hLk => ?_)
   simp only [List.take, List.drop]
   refine wpV_bin (v := .int .u64 (((j + 2) % (pRow j).getD i 0 : Nat) : Int)) (by rfl) rfl rfl rfl (fun W => nr_rem64 hpp W) ?_
   simp only [putT, List.set]
   refine wpV_bin (v := .bool (decide ((j + 2) % (pRow j).getD i 0 = 0))) (by rfl) rfl rfl rfl (fun W => run_eqlN ((j + 2) % (pRow j).getD i 0) 0 _ _ W) ?_
   simp only [putT, List.set]
   refine wpV_nil (hLk _ (fun w51 Sw51 => ?_))
   clear hLk Lk
   simp only [List.take, List.drop]
   replace M := M.sees Sw51
   refine wpL_nil (no_panic ?_)
   refine hK49 _ _ ?_
   cases hc52 : (decide ((j + 2) % (pRow j).getD i 0 = 0))
   ·
    have hdv : ¬ (j + 2) % (pRow j).getD i 0 = 0 := of_decide_eq_false hc52
    refine wp_cond_false rfl ?_
    refine wp_skip ?_
    refine hK45 _ _ ?_
    refine wp_region_seq ?_
    refine wpL_chunk 1 (by rfl) (fun Lk hLk => ?_)
    simp only [List.take, List.drop]
    refine wpV_bin (v := .int .i64 ((i + 1 : Nat) : Int)) (by rfl) rfl rfl rfl (fun W => run_add (by simp only [IntKind.wrap_i64]; omega) W) ?_
    simp only [putT, List.set]
    refine wpV_nil (hLk _ (fun w54 Sw54 => ?_))
    clear hLk Lk
    simp only [List.take, List.drop]
    replace M := M.sees Sw54
    refine wpL_move (v := .int .i64 ((i + 1 : Nat) : Int)) (by rfl) (by rfl) (by rfl) ?_
    simp only [putT, List.set]
    refine wpL_nil (no_panic ?_)
    refine Exists.intro _ ⟨?_, (i + 1), q, (fun q9 => (#[undef, undef, undef, undef, undef, undef, undef, .int .u64 ((((pRow j).getD i 0) : Nat) : Int), undef, undef, undef, undef, undef, undef, undef, undef, undef, undef, .bool true, .pointer (some ⟨o, i, none⟩), .int .u64 ((((pRow j).getD i 0) : Nat) : Int), .int .u64 ((j + 2 : Nat) : Int), .int .u64 ((((pRow j).getD i 0) : Nat) : Int), .int .u64 (((j + 2) % (pRow j).getD i 0 : Nat) : Int), .bool false, .int .i64 ((i + 1 : Nat) : Int)] : Array Value).getD q9 undef), rfl, rfl, M, (by omega), (by rw [all_next (hc ▸ hi), ← hq]; show q = (q && ((j + 2) % (pRow j).getD i 0 != 0)); rw [bne_iff_ne.2 hdv, Bool.and_true])⟩
    omega
   ·
    have hdv : (j + 2) % (pRow j).getD i 0 = 0 := of_decide_eq_true hc52
    refine wp_cond_true rfl ?_
    refine wp_region_seq ?_
    refine wpL_assign (v := .bool false) (by rfl) (by rfl) (by rfl) ?_
    simp only [putT, List.set]
    refine wpL_nil (no_panic ?_)
    refine hK45 _ _ ?_
    refine wp_region_seq ?_
    refine wpL_chunk 1 (by rfl) (fun Lk hLk => ?_)
    simp only [List.take, List.drop]
    refine wpV_bin (v := .int .i64 ((i + 1 : Nat) : Int)) (by rfl) rfl rfl rfl (fun W => run_add (by simp only [IntKind.wrap_i64]; omega) W) ?_
    simp only [putT, List.set]
    refine wpV_nil (hLk _ (fun w57 Sw57 => ?_))
    clear hLk Lk
    simp only [List.take, List.drop]
    replace M := M.sees Sw57
    refine wpL_move (v := .int .i64 ((i + 1 : Nat) : Int)) (by rfl) (by rfl) (by rfl) ?_
    simp only [putT, List.set]
    refine wpL_nil (no_panic ?_)
    refine Exists.intro _ ⟨?_, (i + 1), false, (fun q9 => (#[undef, undef, undef, undef, undef, undef, undef, .int .u64 ((((pRow j).getD i 0) : Nat) : Int), undef, undef, undef, undef, undef, undef, undef, undef, undef, undef, .bool true, .pointer (some ⟨o, i, none⟩), .int .u64 ((((pRow j).getD i 0) : Nat) : Int), .int .u64 ((j + 2 : Nat) : Int), .int .u64 ((((pRow j).getD i 0) : Nat) : Int), .int .u64 (((j + 2) % (pRow j).getD i 0 : Nat) : Int), .bool true, .int .i64 ((i + 1 : Nat) : Int)] : Array Value).getD q9 undef), rfl, rfl, M, (by omega), (by rw [all_next (hc ▸ hi), ← hq, hdv]; simp)⟩
    omega
end Go.Proofs.Yb

