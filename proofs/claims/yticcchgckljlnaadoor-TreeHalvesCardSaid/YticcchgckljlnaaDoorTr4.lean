import Derived.WalkKit
import Derived.WalkSpells
import Derived.Laws.Pointers
import Derived.RowKit3
import Derived.Below
import Derived.Outline
import Derived.LoopN
import Derived.Lib.Hide
import Derived.Handy
import Derived.Laws.Bits64b
import Derived.Test.YticcchgckljlnaaDoorTr3
import Derived.Test.YticcchgckljlnaaDoorTrB
set_option linter.unusedSimpArgs false
set_option linter.unusedVariables false
namespace Go.Proofs.Yb
open Go Go.RowKit Go.Proofs.Num
set_option maxHeartbeats 1000000 in
theorem few_c1 {ps : List (List UInt8)} {g0 o cg0 ng0 : Nat} {w : World} (hng0 : ng0 = ps.length) (hcg0 : ng0 ≤ cg0) (Lg0 : g0 < w.heap.size) (Rg0_o : w.rangeAt g0 o (scells ps)) :
    Calls Tryd.prog 36 #[.slice (some ⟨g0, o, none⟩) ng0 cg0] w fun e w' => ∃ v, e = .returned v ∧ MemRow w ((cutsS 80 40 ps).length) (scells (cutsS 80 40 ps)) v w' ∧ Below w.heap.size w w' := by
  subst hng0
  go_enter Tryd.func36, Tryd.ntmps36
  have M := Mem.start w
  refine wp_seq_k (fun K1 hK1 => ?_)
  refine wp_region_seq ?_
  refine wpL_assign (v := (.slice none 0 0)) (by rfl) (by rfl) (by rfl) ?_
  simp only [putT, List.set]
  refine wpL_nil (no_panic ?_)
  refine hK1 _ _ ?_
  refine wp_seq_k (fun K3 hK3 => ?_)
  refine wp_region_seq ?_
  refine wpL_row0 (by rfl) (by rfl) Tryd.underlying48 info9 (fun g5 w6 Sw6 Hg5 Bg5 => ?_)
  replace M := ((M.sees Sw6).add (N := 0) (cs := scells []) (M.ge Hg5) (M.fresh Hg5) Bg5 rfl)
  clear Bg5
  simp only [putT, List.set]
  refine wpL_move (v := .slice (some ⟨g0, o, none⟩) ps.length cg0) (by rfl) (by rfl) (by rfl) ?_
  simp only [putT, List.set]
  refine wpL_move (v := .slice (some ⟨g0, o, none⟩) ps.length cg0) (by rfl) (by rfl) (by rfl) ?_
  simp only [putT, List.set]
  refine wpL_chunk 3 (by rfl) (fun Lk hLk => ?_)
  simp only [List.take, List.drop]
  refine wpV_lenA (n := ps.length) (by rfl) rfl rfl rfl Tryd.underlying48 ?_
  simp only [putT, List.set]
  refine wpV_min (n := ps.length) (m := 80) (by rfl) rfl rfl rfl ?_
  simp only [putT, List.set]
  refine wpV_sliceH (hi := min ps.length 80) (by rfl) rfl rfl rfl Tryd.underlying48 info9 (Nat.le_trans (Nat.min_le_left _ _) hcg0) ?_
  simp only [putT, List.set]
  refine wpV_nil (hLk _ (fun w7 Sw7 => ?_))
  clear hLk Lk
  simp only [List.take, List.drop]
  replace M := M.sees Sw7
  refine wpL_append2 (olds := scells []) (news := scells (ps.take (min ps.length 80))) (z := .string { data := #[] }) (bytes := 16) (by rfl) (by rfl) (by rfl) (by rfl) Tryd.underlying48 (by kernel_rfl) rfl rfl (by rfl) (by rw [scells_len, List.length_take]; omega) (M.r 0 0 rfl rfl) (M.t 0 rfl) (M.lt 0 rfl) (range_stake (min ps.length 80) (M.oldR Rg0_o Lg0)) (scells_one _) (by omega) (by simp only [maxLen]; omega) (fun g8 g8c w9 Sw9 Q Cg8 R T L => ?_)
  replace M := M.grow 0 rfl Sw9 Q R T L
  simp only [List.set] at M
  clear Q R T L
  rw [show scells [] ++ scells (ps.take (min ps.length 80)) = scells (ps.take (min ps.length 80)) from rfl] at M
  rw [Nat.zero_add] at Cg8
  rw [Nat.zero_add]
  simp only [putT, List.set]
  refine wpL_assign (v := .slice (some ⟨g8, 0, none⟩) (min ps.length 80) g8c) (by rfl) (by rfl) (by rfl) ?_
  simp only [putT, List.set]
  refine wpL_nil (no_panic ?_)
  obtain ⟨qs, hqs⟩ : ∃ qs, qs = List.take (min ps.length 80) ps := ⟨_, rfl⟩
  have hql : qs.length = min ps.length 80 := by rw [hqs, List.length_take]; omega
  rw [← hqs] at M
  rw [← hql] at Cg8
  rw [← hql]
  refine hK3 _ _ ?_
  refine wp_seq_k (fun K10 hK10 => ?_)
  refine wp_seq_k (fun K11 hK11 => ?_)
  refine wp_region_seq ?_
  refine wpL_move (v := .slice (some ⟨g8, 0, none⟩) qs.length g8c) (by rfl) (by rfl) (by rfl) ?_
  simp only [putT, List.set]
  refine wpL_chunk 1 (by rfl) (fun Lk hLk => ?_)
  simp only [List.take, List.drop]
  refine wpV_lenA (n := qs.length) (by rfl) rfl rfl rfl Tryd.underlying48 ?_
  simp only [putT, List.set]
  refine wpV_nil (hLk _ (fun w13 Sw13 => ?_))
  clear hLk Lk
  simp only [List.take, List.drop]
  replace M := M.sees Sw13
  refine wpL_move (v := .int .i64 0) (by rfl) (by rfl) (by rfl) ?_
  simp only [putT, List.set]
  refine wpL_nil (no_panic ?_)
  refine hK11 _ _ ?_
  refine wp_block ?_
  replace M := M.read1 (cs := scells (partS 40 qs 0)) (o := 0) 0 rfl (by rw [partS_zero]; exact (M.r 0 0 rfl rfl))
  simp only [List.set] at M
  refine wp_loop_ghost (fun n9 a9 W9 => ∃ (k : Nat) (u14 : Nat → Value), n9 = qs.length - k ∧ a9 = { tmps := #[.slice (some ⟨g8, 0, none⟩) qs.length g8c, undef, (.slice none 0 0), u14 3, u14 4, .slice (some ⟨g5, 0, none⟩) 0 0, .slice (some ⟨g0, o, none⟩) ps.length cg0, .slice (some ⟨g0, o, none⟩) ps.length cg0, .int .i64 ((ps.length : Nat) : Int), .int .i64 ((qs.length : Nat) : Int), .slice (some ⟨g0, o, none⟩) qs.length cg0, .slice (some ⟨g8, 0, none⟩) qs.length g8c, .slice (some ⟨g8, 0, none⟩) qs.length g8c, .int .i64 ((qs.length : Nat) : Int), .int .i64 ((k : Nat) : Int), u14 15, u14 16, u14 17, u14 18, u14 19, u14 20, u14 21, u14 22, u14 23, u14 24, u14 25, u14 26, u14 27, undef], defers := [] } ∧ Mem [] w W9 [⟨g8, g8c, [(0, scells (partS 40 qs k))]⟩] ∧ (k ≤ qs.length)) (qs.length - (0)) ?_ (fun n9 a9 W9 hI => ?_)
  · exact ⟨0, (fun q9 => (#[undef, undef, undef, undef, undef, undef, undef, undef, undef, undef, undef, undef, undef, undef, undef, undef, undef, undef, undef, undef, undef, undef, undef, undef, undef, undef, undef, undef] : Array Value).getD q9 undef), rfl, rfl, M, (by omega)⟩
  clear M
  obtain ⟨k, u14, rfl, rfl, M, hk4⟩ := hI
  obtain ⟨w15, rfl⟩ : ∃ W8, W8 = W9 := ⟨_, rfl⟩
  refine wp_seq_k (fun K16 hK16 => ?_)
  refine wp_region_seq ?_
  refine wpL_chunk 1 (by rfl) (fun Lk hLk => ?_)
  simp only [List.take, List.drop]
  refine wpV_bin (v := .bool (decide (k < qs.length))) (by rfl) rfl rfl rfl (fun W => run_lssN k qs.length _ _ W) ?_
  simp only [putT, List.set]
  refine wpV_nil (hLk _ (fun w18 Sw18 => ?_))
  clear hLk Lk
  simp only [List.take, List.drop]
  replace M := M.sees Sw18
  refine wpL_nil (no_panic ?_)
  refine hK16 _ _ ?_
  refine wp_seq_k (fun K19 hK19 => ?_)
  cases hc20 : (decide (k < qs.length))
  · skip
    have ek : k = qs.length := by have := of_decide_eq_false hc20; omega
    subst ek
    refine wp_cond_false rfl ?_
    refine wp_exit ?_
    refine hK10 _ _ ?_
    refine wp_seq_k (fun K21 hK21 => ?_)
    refine wp_region_seq ?_
    refine wpL_move (v := .slice (some ⟨g8, 0, none⟩) qs.length g8c) (by rfl) (by rfl) (by rfl) ?_
    simp only [putT, List.set]
    refine wpL_assign (v := .slice (some ⟨g8, 0, none⟩) qs.length g8c) (by rfl) (by rfl) (by rfl) ?_
    simp only [putT, List.set]
    refine wpL_nil (no_panic ?_)
    refine hK21 _ _ ?_
    refine wp_ret ?_
    repeat (first | with_reducible refine then_ret ?_ | with_reducible refine inblock_ret ?_)
    refine bodyPost_ret (v := .slice (some ⟨g8, 0, none⟩) qs.length g8c) (res1 rfl (.tmp (by rfl))) rfl ?_
    have BE := M.below
    rw [partS_end] at M
    rw [cutsS_of hqs, List.length_map]; exact ⟨_, rfl, ⟨g8, g8c, rfl, Cg8, M.pick [0] (by decide) rfl⟩, BE⟩
  · skip
    have hk : k < qs.length := of_decide_eq_true hc20
    refine wp_cond_true rfl ?_
    refine wp_skip ?_
    refine hK19 _ _ ?_
    refine wp_seq_k (fun K23 hK23 => ?_)
    refine wp_block ?_
    refine wp_seq_k (fun K24 hK24 => ?_)
    refine wp_region_seq ?_
    refine wpL_move (v := .int .i64 ((k : Nat) : Int)) (by rfl) (by rfl) (by rfl) ?_
    simp only [putT, List.set]
    refine wpL_chunk 2 (by rfl) (fun Lk hLk => ?_)
    simp only [List.take, List.drop]
    refine wpV_idxs (n := k) (by rfl) rfl rfl rfl Tryd.underlying48 info9 (by omega) ?_
    simp only [Nat.zero_add]
    simp only [putT, List.set]
    refine wpV_load1 (v := .string (bs (qs.getD k []))) (by rfl) rfl rfl (zadd ((M.r 0 0 rfl rfl) _ _ (partS_get 40 hk))) (M.lt 0 rfl) Tryd.underlying9 rfl ?_
    simp only [putT, List.set]
    refine wpV_nil (hLk _ (fun w26 Sw26 => ?_))
    clear hLk Lk
    simp only [List.take, List.drop]
    replace M := M.sees Sw26
    refine wpL_assign (v := .int .i64 ((k : Nat) : Int)) (by rfl) (by rfl) (by rfl) ?_
    simp only [putT, List.set]
    refine wpL_assign (v := .string (bs (qs.getD k []))) (by rfl) (by rfl) (by rfl) ?_
    simp only [putT, List.set]
    refine wpL_nil (no_panic ?_)
    refine hK24 _ _ ?_
    refine wp_region_seq ?_
    refine wpL_move (v := .slice (some ⟨g8, 0, none⟩) qs.length g8c) (by rfl) (by rfl) (by rfl) ?_
    simp only [putT, List.set]
    refine wpL_move (v := .int .i64 ((k : Nat) : Int)) (by rfl) (by rfl) (by rfl) ?_
    simp only [putT, List.set]
    refine wpL_move (v := .string (bs (qs.getD k []))) (by rfl) (by rfl) (by rfl) ?_
    simp only [putT, List.set]
    refine wpL_move (v := .string (bs (qs.getD k []))) (by rfl) (by rfl) (by rfl) ?_
    simp only [putT, List.set]
    refine wpL_chunk 4 (by rfl) (fun Lk hLk => ?_)
    simp only [List.take, List.drop]
    refine wpV_lenS (by rfl) rfl rfl rfl Tryd.underlying9 ?_
    simp only [putT, List.set]
    refine wpV_min (n := (qs.getD k []).length) (m := 40) (by rfl) rfl rfl rfl ?_
    simp only [putT, List.set]
    refine wpV_cut (l := qs.getD k []) (m := 40) (by rfl) rfl rfl rfl Tryd.underlying9 ?_
    simp only [putT, List.set]
    refine wpV_idxs (n := k) (by rfl) rfl rfl rfl Tryd.underlying48 info9 (by omega) ?_
    simp only [Nat.zero_add]
    simp only [putT, List.set]
    refine wpV_nil (hLk _ (fun w28 Sw28 => ?_))
    clear hLk Lk
    simp only [List.take, List.drop]
    replace M := M.sees Sw28
    refine wpL_store1 (g := g8) (off := k) (n := g8c) (v := .string (bs (cut (qs.getD k []) 40))) (by rfl) (by rfl) (by rfl) (by rfl) (by rfl) (M.t 0 rfl) (by omega) info9 rfl (fun w29 P R T => ?_)
    replace M := M.put1 (j := k) 0 rfl P R T (Nat.zero_add _).symm
    simp only [List.set] at M
    rw [partS_set 40 hk] at M
    refine wpL_nil (no_panic ?_)
    refine hK23 _ _ ?_
    refine wp_region_seq ?_
    refine wpL_chunk 1 (by rfl) (fun Lk hLk => ?_)
    simp only [List.take, List.drop]
    refine wpV_bin (v := .int .i64 ((k + 1 : Nat) : Int)) (by rfl) rfl rfl rfl (fun W => run_add (by simp only [IntKind.wrap_i64]; omega) W) ?_
    simp only [putT, List.set]
    refine wpV_nil (hLk _ (fun w31 Sw31 => ?_))
    clear hLk Lk
    simp only [List.take, List.drop]
    replace M := M.sees Sw31
    refine wpL_move (v := .int .i64 ((k + 1 : Nat) : Int)) (by rfl) (by rfl) (by rfl) ?_
    simp only [putT, List.set]
    refine wpL_nil (no_panic ?_)
    refine Exists.intro _ ⟨?_, (k + 1), (fun q9 => (#[undef, undef, undef, .int .i64 ((k : Nat) : Int), .string (bs (qs.getD k [])), undef, undef, undef, undef, undef, undef, undef, undef, undef, undef, .bool true, .int .i64 ((k : Nat) : Int), .pointer (some ⟨g8, k, none⟩), .string (bs (qs.getD k [])), .slice (some ⟨g8, 0, none⟩) qs.length g8c, .int .i64 ((k : Nat) : Int), .string (bs (qs.getD k [])), .string (bs (qs.getD k [])), .int .i64 (((qs.getD k []).length : Nat) : Int), .int .i64 ((min ((qs.getD k []).length) 40 : Nat) : Int), .string (bs (cut (qs.getD k []) 40)), .pointer (some ⟨g8, k, none⟩), .int .i64 ((k + 1 : Nat) : Int)] : Array Value).getD q9 undef), rfl, rfl, M, (by omega)⟩
    omega
set_option maxHeartbeats 1000000 in
theorem few_c0  {w : World}  :
    Calls Tryd.prog 36 #[.slice none 0 0] w fun e w' => ∃ v, e = .returned v ∧ MemRow w ((cutsS 80 40 []).length) (scells (cutsS 80 40 [])) v w' ∧ Below w.heap.size w w' := by
  go_enter Tryd.func36, Tryd.ntmps36
  have M := Mem.start w
  refine wp_seq_k (fun K1 hK1 => ?_)
  refine wp_region_seq ?_
  refine wpL_assign (v := (.slice none 0 0)) (by rfl) (by rfl) (by rfl) ?_
  simp only [putT, List.set]
  refine wpL_nil (no_panic ?_)
  refine hK1 _ _ ?_
  refine wp_seq_k (fun K3 hK3 => ?_)
  refine wp_region_seq ?_
  refine wpL_row0 (by rfl) (by rfl) Tryd.underlying48 info9 (fun g5 w6 Sw6 Hg5 Bg5 => ?_)
  replace M := ((M.sees Sw6).add (N := 0) (cs := scells []) (M.ge Hg5) (M.fresh Hg5) Bg5 rfl)
  clear Bg5
  simp only [putT, List.set]
  refine wpL_move (v := .slice none 0 0) (by rfl) (by rfl) (by rfl) ?_
  simp only [putT, List.set]
  refine wpL_move (v := .slice none 0 0) (by rfl) (by rfl) (by rfl) ?_
  simp only [putT, List.set]
  refine wpL_chunk 3 (by rfl) (fun Lk hLk => ?_)
  simp only [List.take, List.drop]
  refine wpV_lenA (n := 0) (by rfl) rfl rfl rfl Tryd.underlying48 ?_
  simp only [putT, List.set]
  refine wpV_min (n := 0) (m := 80) (by rfl) rfl rfl rfl ?_
  simp only [putT, List.set]
  refine wpV_val (v := .slice none 0 0) (by rfl) (by rfl) (fun W hW => ?_) ?_
  · (unfold RunsVal; kernel_rfl)
  simp only [putT, List.set]
  refine wpV_nil (hLk _ (fun w7 Sw7 => ?_))
  clear hLk Lk
  simp only [List.take, List.drop]
  replace M := M.sees Sw7
  refine wpL_appendN (by rfl) (by rfl) (by rfl) (by rfl) Tryd.underlying48 info9 (Nat.le_refl _) ?_
  simp only [putT, List.set]
  refine wpL_assign (v := .slice (some ⟨g5, 0, none⟩) 0 0) (by rfl) (by rfl) (by rfl) ?_
  simp only [putT, List.set]
  refine wpL_nil (no_panic ?_)
  refine hK3 _ _ ?_
  refine wp_seq_k (fun K8 hK8 => ?_)
  refine wp_seq_k (fun K9 hK9 => ?_)
  refine wp_region_seq ?_
  refine wpL_move (v := .slice (some ⟨g5, 0, none⟩) 0 0) (by rfl) (by rfl) (by rfl) ?_
  simp only [putT, List.set]
  refine wpL_chunk 1 (by rfl) (fun Lk hLk => ?_)
  simp only [List.take, List.drop]
  refine wpV_lenA (n := 0) (by rfl) rfl rfl rfl Tryd.underlying48 ?_
  simp only [putT, List.set]
  refine wpV_nil (hLk _ (fun w11 Sw11 => ?_))
  clear hLk Lk
  simp only [List.take, List.drop]
  replace M := M.sees Sw11
  refine wpL_move (v := .int .i64 0) (by rfl) (by rfl) (by rfl) ?_
  simp only [putT, List.set]
  refine wpL_nil (no_panic ?_)
  refine hK9 _ _ ?_
  refine wp_block ?_
  refine wp_loop_rounds 2 ?_
  rw [rounds_succ]
  refine wp_seq_k (fun K12 hK12 => ?_)
  refine wp_region_seq ?_
  refine wpL_chunk 1 (by rfl) (fun Lk hLk => ?_)
  simp only [List.take, List.drop]
  refine wpV_bin (v := .bool false) (by rfl) rfl rfl rfl (fun W => run_lss _ _ _ _ W) ?_
  simp only [putT, List.set]
  refine wpV_nil (hLk _ (fun w14 Sw14 => ?_))
  clear hLk Lk
  simp only [List.take, List.drop]
  replace M := M.sees Sw14
  refine wpL_nil (no_panic ?_)
  refine hK12 _ _ ?_
  refine wp_seq_k (fun K15 hK15 => ?_)
  refine wp_cond_false rfl ?_
  refine wp_exit ?_
  refine hK8 _ _ ?_
  refine wp_seq_k (fun K16 hK16 => ?_)
  refine wp_region_seq ?_
  refine wpL_move (v := .slice (some ⟨g5, 0, none⟩) 0 0) (by rfl) (by rfl) (by rfl) ?_
  simp only [putT, List.set]
  refine wpL_assign (v := .slice (some ⟨g5, 0, none⟩) 0 0) (by rfl) (by rfl) (by rfl) ?_
  simp only [putT, List.set]
  refine wpL_nil (no_panic ?_)
  refine hK16 _ _ ?_
  refine wp_ret ?_
  repeat (first | with_reducible refine then_ret ?_ | with_reducible refine inblock_ret ?_)
  refine bodyPost_ret (v := .slice (some ⟨g5, 0, none⟩) 0 0) (res1 rfl (.tmp (by rfl))) rfl ?_
  have BE := M.below
  exact ⟨_, rfl, ⟨g5, 0, rfl, (Nat.le_refl _), M.pick [0] (by decide) rfl⟩, BE⟩
set_option maxHeartbeats 1000000 in
theorem few_cE {a : Addr} {w : World}  :
    Calls Tryd.prog 36 #[.slice (some a) 0 0] w fun e w' => ∃ v, e = .returned v ∧ MemRow w ((cutsS 80 40 []).length) (scells (cutsS 80 40 [])) v w' ∧ Below w.heap.size w w' := by
  go_enter Tryd.func36, Tryd.ntmps36
  have M := Mem.start w
  refine wp_seq_k (fun K1 hK1 => ?_)
  refine wp_region_seq ?_
  refine wpL_assign (v := (.slice none 0 0)) (by rfl) (by rfl) (by rfl) ?_
  simp only [putT, List.set]
  refine wpL_nil (no_panic ?_)
  refine hK1 _ _ ?_
  refine wp_seq_k (fun K3 hK3 => ?_)
  refine wp_region_seq ?_
  refine wpL_row0 (by rfl) (by rfl) Tryd.underlying48 info9 (fun g5 w6 Sw6 Hg5 Bg5 => ?_)
  replace M := ((M.sees Sw6).add (N := 0) (cs := scells []) (M.ge Hg5) (M.fresh Hg5) Bg5 rfl)
  clear Bg5
  simp only [putT, List.set]
  refine wpL_move (v := .slice (some a) 0 0) (by rfl) (by rfl) (by rfl) ?_
  simp only [putT, List.set]
  refine wpL_move (v := .slice (some a) 0 0) (by rfl) (by rfl) (by rfl) ?_
  simp only [putT, List.set]
  refine wpL_chunk 3 (by rfl) (fun Lk hLk => ?_)
  simp only [List.take, List.drop]
  refine wpV_lenA (n := 0) (by rfl) rfl rfl rfl Tryd.underlying48 ?_
  simp only [putT, List.set]
  refine wpV_min (n := 0) (m := 80) (by rfl) rfl rfl rfl ?_
  simp only [putT, List.set]
  refine wpV_val (v := .slice (some a) 0 0) (by rfl) (by rfl) (fun W hW => ?_) ?_
  · (unfold RunsVal; kernel_rfl)
  simp only [putT, List.set]
  refine wpV_nil (hLk _ (fun w7 Sw7 => ?_))
  clear hLk Lk
  simp only [List.take, List.drop]
  replace M := M.sees Sw7
  refine wpL_appendE (by rfl) (by rfl) (by rfl) (by rfl) Tryd.underlying48 info9 (Nat.le_refl _) ?_
  simp only [putT, List.set]
  refine wpL_assign (v := .slice (some ⟨g5, 0, none⟩) 0 0) (by rfl) (by rfl) (by rfl) ?_
  simp only [putT, List.set]
  refine wpL_nil (no_panic ?_)
  refine hK3 _ _ ?_
  refine wp_seq_k (fun K8 hK8 => ?_)
  refine wp_seq_k (fun K9 hK9 => ?_)
  refine wp_region_seq ?_
  refine wpL_move (v := .slice (some ⟨g5, 0, none⟩) 0 0) (by rfl) (by rfl) (by rfl) ?_
  simp only [putT, List.set]
  refine wpL_chunk 1 (by rfl) (fun Lk hLk => ?_)
  simp only [List.take, List.drop]
  refine wpV_lenA (n := 0) (by rfl) rfl rfl rfl Tryd.underlying48 ?_
  simp only [putT, List.set]
  refine wpV_nil (hLk _ (fun w11 Sw11 => ?_))
  clear hLk Lk
  simp only [List.take, List.drop]
  replace M := M.sees Sw11
  refine wpL_move (v := .int .i64 0) (by rfl) (by rfl) (by rfl) ?_
  simp only [putT, List.set]
  refine wpL_nil (no_panic ?_)
  refine hK9 _ _ ?_
  refine wp_block ?_
  refine wp_loop_rounds 2 ?_
  rw [rounds_succ]
  refine wp_seq_k (fun K12 hK12 => ?_)
  refine wp_region_seq ?_
  refine wpL_chunk 1 (by rfl) (fun Lk hLk => ?_)
  simp only [List.take, List.drop]
  refine wpV_bin (v := .bool false) (by rfl) rfl rfl rfl (fun W => run_lss _ _ _ _ W) ?_
  simp only [putT, List.set]
  refine wpV_nil (hLk _ (fun w14 Sw14 => ?_))
  clear hLk Lk
  simp only [List.take, List.drop]
  replace M := M.sees Sw14
  refine wpL_nil (no_panic ?_)
  refine hK12 _ _ ?_
  refine wp_seq_k (fun K15 hK15 => ?_)
  refine wp_cond_false rfl ?_
  refine wp_exit ?_
  refine hK8 _ _ ?_
  refine wp_seq_k (fun K16 hK16 => ?_)
  refine wp_region_seq ?_
  refine wpL_move (v := .slice (some ⟨g5, 0, none⟩) 0 0) (by rfl) (by rfl) (by rfl) ?_
  simp only [putT, List.set]
  refine wpL_assign (v := .slice (some ⟨g5, 0, none⟩) 0 0) (by rfl) (by rfl) (by rfl) ?_
  simp only [putT, List.set]
  refine wpL_nil (no_panic ?_)
  refine hK16 _ _ ?_
  refine wp_ret ?_
  repeat (first | with_reducible refine then_ret ?_ | with_reducible refine inblock_ret ?_)
  refine bodyPost_ret (v := .slice (some ⟨g5, 0, none⟩) 0 0) (res1 rfl (.tmp (by rfl))) rfl ?_
  have BE := M.below
  exact ⟨_, rfl, ⟨g5, 0, rfl, (Nat.le_refl _), M.pick [0] (by decide) rfl⟩, BE⟩
theorem few_c {v : Value} {ps : List (List UInt8)} {w : World} (hv : RowS w v ps) :
    Calls Tryd.prog 36 #[v] w fun e w' => ∃ v, e = .returned v ∧ MemRow w ((cutsS 80 40 ps).length) (scells (cutsS 80 40 ps)) v w' ∧ Below w.heap.size w w' := by
  rcases hv with ⟨rfl, rfl⟩ | ⟨a, rfl, rfl⟩ | ⟨g, o, n, c, rfl, h2, h3, h4, h5⟩
  · exact few_c0
  · exact few_cE
  · exact few_c1 h2 h3 h4 h5
theorem Root_c1 {ps : List (List UInt8)} {g0 o cg0 ng0 : Nat} {w : World} (L0 : 0 < w.heap.size) (R0_0 : w.rangeAt 0 0 kcells) (hn : ng0 = ps.length) (hc : ng0 ≤ cg0) (L : g0 < w.heap.size) (R : w.rangeAt g0 o (scells ps)) :
    Calls Tryd.prog 37 #[.slice (some ⟨g0, o, none⟩) ng0 cg0] w fun e w' => e = .returned (.tuple #[.string (bs (rootT ps)), .int .i64 (rootE ps)]) ∧ Below w.heap.size w w' := Root_c L0 R0_0 hn hc L R
theorem Root_3 {a b c : List UInt8} {g0 o cg0 ng0 : Nat} {w : World} (ha : a.length = 32) (hb : b.length = 32) (hd : c.length = 32) (L0 : 0 < w.heap.size) (R0_0 : w.rangeAt 0 0 kcells) (hn : ng0 = [a, b, c].length) (hc : ng0 ≤ cg0) (L : g0 < w.heap.size) (R : w.rangeAt g0 o (scells [a, b, c])) :
    Calls Tryd.prog 37 #[.slice (some ⟨g0, o, none⟩) ng0 cg0] w fun e w' => e = .returned (.tuple #[.string (bs (nodeS (nodeS a b) c)), .int .i64 0]) ∧ Below w.heap.size w w' := by
  have h := Root_c1 L0 R0_0 hn hc L R
  rwa [rootT_yes (right_three ha hb hd), rootE_yes (right_three ha hb hd), rootS_three] at h
set_option maxHeartbeats 1000000 in
theorem alive08_c  {w : World} (L0 : 0 < w.heap.size) (R0_0 : w.rangeAt 0 0 kcells) :
    Calls Tryd.prog 44 #[] w fun e w' => e = .returned (.bool true) ∧ Below w.heap.size w w' := by
  go_enter Tryd.func44, Tryd.ntmps44
  have M := Mem.start w
  refine wp_seq_k (fun K1 hK1 => ?_)
  refine wp_region_seq ?_
  refine wpL_assign (v := .bool false) (by rfl) (by rfl) (by rfl) ?_
  simp only [putT, List.set]
  refine wpL_nil (no_panic ?_)
  refine hK1 _ _ ?_
  refine wp_seq_k (fun K3 hK3 => ?_)
  refine wp_region_seq ?_
  refine wpL_chunk 3 (by rfl) (fun Lk hLk => ?_)
  simp only [List.take, List.drop]
  refine wpV_callf (v := .string (bs (leafS ([97])))) (args := #[.string (bs ([97]))]) (by rfl) rfl Tryd.func38 (by kernel_rfl) (by kernel_rfl) rfl (fun W hW => leaf_c (d := [97]) (by decide) ((M.sees hW).oldL L0) ((M.sees hW).oldR R0_0 L0)) ?_
  simp only [putT, List.set]
  refine wpV_callf (v := .string (bs (leafS ([98])))) (args := #[.string (bs ([98]))]) (by rfl) rfl Tryd.func38 (by kernel_rfl) (by kernel_rfl) rfl (fun W hW => leaf_c (d := [98]) (by decide) ((M.sees hW).oldL L0) ((M.sees hW).oldR R0_0 L0)) ?_
  simp only [putT, List.set]
  refine wpV_callf (v := .string (bs (leafS ([99])))) (args := #[.string (bs ([99]))]) (by rfl) rfl Tryd.func38 (by kernel_rfl) (by kernel_rfl) rfl (fun W hW => leaf_c (d := [99]) (by decide) ((M.sees hW).oldL L0) ((M.sees hW).oldR R0_0 L0)) ?_
  simp only [putT, List.set]
  refine wpV_nil (hLk _ (fun w5 Sw5 => ?_))
  clear hLk Lk
  simp only [List.take, List.drop]
  replace M := M.sees Sw5
  refine wpL_assign (v := .string (bs (leafS ([97])))) (by rfl) (by rfl) (by rfl) ?_
  simp only [putT, List.set]
  refine wpL_assign (v := .string (bs (leafS ([98])))) (by rfl) (by rfl) (by rfl) ?_
  simp only [putT, List.set]
  refine wpL_assign (v := .string (bs (leafS ([99])))) (by rfl) (by rfl) (by rfl) ?_
  simp only [putT, List.set]
  refine wpL_nil (no_panic ?_)
  refine hK3 _ _ ?_
  refine wp_seq_k (fun K6 hK6 => ?_)
  refine wp_region_seq ?_
  refine wpL_move (v := .string (bs (leafS ([97])))) (by rfl) (by rfl) (by rfl) ?_
  simp only [putT, List.set]
  refine wpL_move (v := .string (bs (leafS ([98])))) (by rfl) (by rfl) (by rfl) ?_
  simp only [putT, List.set]
  refine wpL_move (v := .string (bs (leafS ([99])))) (by rfl) (by rfl) (by rfl) ?_
  simp only [putT, List.set]
  refine wpL_rowN (vs := [.string (bs (leafS ([97]))), .string (bs (leafS ([98]))), .string (bs (leafS ([99])))]) (z := .string { data := #[] }) (bytes := 16) (by rfl) (by rfl) Tryd.underlying48 (by kernel_rfl) (by decide) (by kernel_rfl) (fun g8 w9 Sw9 Hg8 Bg8 => ?_)
  replace M := ((M.sees Sw9).add (N := 3) (cs := [.string (bs (leafS ([97]))), .string (bs (leafS ([98]))), .string (bs (leafS ([99])))]) (M.ge Hg8) (M.fresh Hg8) Bg8 rfl)
  clear Bg8
  simp only [putT, List.set]
  refine wpL_chunk 4 (by rfl) (fun Lk hLk => ?_)
  simp only [List.take, List.drop]
  refine wpV_callf (v := .tuple #[.string (bs (nodeS (nodeS (leafS ([97])) (leafS ([98]))) (leafS ([99])))), .int .i64 0]) (args := #[.slice (some ⟨g8, 0, none⟩) 3 3]) (by rfl) rfl Tryd.func37 (by kernel_rfl) (by kernel_rfl) rfl (fun W hW => by with_reducible exact Root_3 (leafS_len _) (leafS_len _) (leafS_len _) ((M.sees hW).oldL L0) ((M.sees hW).oldR R0_0 L0) rfl (Nat.le_refl _) ((M.sees hW).lt 0 rfl) ((M.sees hW).r 0 0 rfl rfl)) ?_
  simp only [putT, List.set]
  refine wpV_move (v := .tuple #[.string (bs (nodeS (nodeS (leafS ([97])) (leafS ([98]))) (leafS ([99])))), .int .i64 0]) (by rfl) rfl rfl ?_
  simp only [putT, List.set]
  refine wpV_extract (v := .string (bs (nodeS (nodeS (leafS ([97])) (leafS ([98]))) (leafS ([99]))))) (by rfl) rfl rfl rfl ?_
  simp only [putT, List.set]
  refine wpV_extract (v := .int .i64 0) (by rfl) rfl rfl rfl ?_
  simp only [putT, List.set]
  refine wpV_nil (hLk _ (fun w10 Sw10 => ?_))
  clear hLk Lk
  simp only [List.take, List.drop]
  replace M := M.sees Sw10
  refine wpL_assign (v := .string (bs (nodeS (nodeS (leafS ([97])) (leafS ([98]))) (leafS ([99]))))) (by rfl) (by rfl) (by rfl) ?_
  simp only [putT, List.set]
  refine wpL_assign (v := .int .i64 0) (by rfl) (by rfl) (by rfl) ?_
  simp only [putT, List.set]
  refine wpL_nil (no_panic ?_)
  refine hK6 _ _ ?_
  refine wp_seq_k (fun K11 hK11 => ?_)
  refine wp_region_seq ?_
  refine wpL_move (v := .int .i64 0) (by rfl) (by rfl) (by rfl) ?_
  simp only [putT, List.set]
  refine wpL_chunk 14 (by rfl) (fun Lk hLk => ?_)
  simp only [List.take, List.drop]
  refine wpV_bin (v := .bool true) (by rfl) rfl rfl rfl (fun W => run_eql _ _ _ _ W) ?_
  simp only [putT, List.set]
  refine wpV_move (v := .bool true) (by rfl) rfl rfl ?_
  simp only [putT, List.set]
  refine wpV_move (v := .string (bs (nodeS (nodeS (leafS ([97])) (leafS ([98]))) (leafS ([99]))))) (by rfl) rfl rfl ?_
  simp only [putT, List.set]
  refine wpV_binS (v := .bool true) (by rfl) rfl rfl rfl (fun W => (run_neq_bs _ _ _ W).trans (by rw [(show decide (nodeS (nodeS (leafS ([97])) (leafS ([98]))) (leafS ([99])) ≠ []) = true from decide_eq_true (node_ne _ _))])) ?_
  simp only [putT, List.set]
  refine wpV_pick (v := .bool true) (by rfl) rfl rfl rfl ?_
  simp only [putT, List.set]
  refine wpV_move (v := .bool true) (by rfl) rfl rfl ?_
  simp only [putT, List.set]
  refine wpV_move (v := .string (bs (nodeS (nodeS (leafS ([97])) (leafS ([98]))) (leafS ([99]))))) (by rfl) rfl rfl ?_
  simp only [putT, List.set]
  refine wpV_move (v := .string (bs (leafS ([97])))) (by rfl) rfl rfl ?_
  simp only [putT, List.set]
  refine wpV_move (v := .string (bs (leafS ([98])))) (by rfl) rfl rfl ?_
  simp only [putT, List.set]
  refine wpV_callf (v := .string (bs (nodeS (leafS ([97])) (leafS ([98]))))) (args := #[.string (bs (leafS ([97]))), .string (bs (leafS ([98])))]) (by rfl) rfl Tryd.func40 (by kernel_rfl) (by kernel_rfl) rfl (fun W hW => node_c (a := leafS ([97])) (b := leafS ([98])) (by rw [leafS_len]; decide) (by rw [leafS_len]; decide) ((M.sees hW).oldL L0) ((M.sees hW).oldR R0_0 L0)) ?_
  simp only [putT, List.set]
  refine wpV_move (v := .string (bs (leafS ([99])))) (by rfl) rfl rfl ?_
  simp only [putT, List.set]
  refine wpV_callf (v := .string (bs (nodeS (nodeS (leafS ([97])) (leafS ([98]))) (leafS ([99]))))) (args := #[.string (bs (nodeS (leafS ([97])) (leafS ([98])))), .string (bs (leafS ([99])))]) (by rfl) rfl Tryd.func40 (by kernel_rfl) (by kernel_rfl) rfl (fun W hW => node_c (a := nodeS (leafS ([97])) (leafS ([98]))) (b := leafS ([99])) (by rw [nodeS_len]; decide) (by rw [leafS_len]; decide) ((M.sees hW).oldL L0) ((M.sees hW).oldR R0_0 L0)) ?_
  simp only [putT, List.set]
  refine wpV_binS (v := .bool true) (by rfl) rfl rfl rfl (fun W => (run_eql_bs _ _ _ W).trans (by rw [show decide (nodeS (nodeS (leafS ([97])) (leafS ([98]))) (leafS ([99])) = nodeS (nodeS (leafS ([97])) (leafS ([98]))) (leafS ([99]))) = true from (decide_eq_true rfl)])) ?_
  simp only [putT, List.set]
  refine wpV_pick (v := .bool true) (by rfl) rfl rfl rfl ?_
  simp only [putT, List.set]
  refine wpV_nil (hLk _ (fun w13 Sw13 => ?_))
  clear hLk Lk
  simp only [List.take, List.drop]
  replace M := M.sees Sw13
  refine wpL_assign (v := .bool true) (by rfl) (by rfl) (by rfl) ?_
  simp only [putT, List.set]
  refine wpL_nil (no_panic ?_)
  refine hK11 _ _ ?_
  refine wp_ret ?_
  repeat (first | with_reducible refine then_ret ?_ | with_reducible refine inblock_ret ?_)
  refine bodyPost_ret (v := .bool true) (res1 rfl (.tmp (by rfl))) rfl ?_
  have BE := M.below
  exact ⟨rfl, BE⟩
end Go.Proofs.Yb
