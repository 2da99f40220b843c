import Derived.WalkKit
import Derived.WalkSpells
import Derived.Laws.Pointers
import Derived.RowKit3
import Derived.Below
import Derived.Outline
import Derived.LoopN
import Derived.Lib.Hide
import Derived.Handy
import Derived.Laws.Bits64b
import Derived.Test.YticcchgckljlnaaDoorPr4
import Derived.Test.YticcchgckljlnaaDoorJoinB
import Derived.Test.YticcchgckljlnaaDoorTr3
set_option linter.unusedSimpArgs false
set_option linter.unusedVariables false
namespace Go.Proofs.Yb
open Go Go.RowKit Go.Proofs.Num
attribute [local irreducible] wpV wpN wpList
theorem pathS_le4 {l : List (List UInt8)} {i : Nat} (h4 : l.length ≤ 4096) (hi : i < l.length) : (pathS l i).length ≤ 4096 := by
  rw [pathS_len]
  exact dpath_le (by omega) h4
set_option maxHeartbeats 1000000 in
theorem few9_c1 {ps : List (List UInt8)} {g0 o cg0 ng0 : Nat} {w : World} (hng0 : ng0 = ps.length) (hcg0 : ng0 ≤ cg0) (Lg0 : g0 < w.heap.size) (Rg0_o : w.rangeAt g0 o (scells ps)) :
    Calls Tryd.prog 46 #[.slice (some ⟨g0, o, none⟩) ng0 cg0] w fun e w' => ∃ v, e = .returned v ∧ MemRow w ((cutsS 50 40 ps).length) (scells (cutsS 50 40 ps)) v w' ∧ Below w.heap.size w w' := by
  subst hng0
  go_enter Tryd.func46, Tryd.ntmps46
  have M := Mem.start w
  refine wp_seq_k (fun K1 hK1 => ?_)
  refine wp_region_seq ?_
  refine wpL_assign (v := (.slice none 0 0)) (by rfl) (by rfl) (by rfl) ?_
  simp only [putT, List.set]
  refine wpL_nil (no_panic ?_)
  refine hK1 _ _ ?_
  refine wp_seq_k (fun K3 hK3 => ?_)
  refine wp_region_seq ?_
  refine wpL_row0 (by rfl) (by rfl) Tryd.underlying48 info9 (fun g5 w6 Sw6 Hg5 Bg5 => ?_)
  replace M := ((M.sees Sw6).add (N := 0) (cs := scells []) (M.ge Hg5) (M.fresh Hg5) Bg5 rfl)
  clear Bg5
  simp only [putT, List.set]
  refine wpL_move (v := .slice (some ⟨g0, o, none⟩) ps.length cg0) (by rfl) (by rfl) (by rfl) ?_
  simp only [putT, List.set]
  refine wpL_move (v := .slice (some ⟨g0, o, none⟩) ps.length cg0) (by rfl) (by rfl) (by rfl) ?_
  simp only [putT, List.set]
  refine wpL_chunk 3 (by rfl) (fun Lk hLk => ?_)
  simp only [List.take, List.drop]
  refine wpV_lenA (n := ps.length) (by rfl) rfl rfl rfl Tryd.underlying48 ?_
  simp only [putT, List.set]
  refine wpV_min (n := ps.length) (m := 50) (by rfl) rfl rfl rfl ?_
  simp only [putT, List.set]
  refine wpV_sliceH (hi := min ps.length 50) (by rfl) rfl rfl rfl Tryd.underlying48 info9 (Nat.le_trans (Nat.min_le_left _ _) hcg0) ?_
  simp only [putT, List.set]
  refine wpV_nil (hLk _ (fun w7 Sw7 => ?_))
  clear hLk Lk
  simp only [List.take, List.drop]
  replace M := M.sees Sw7
  refine wpL_append2 (n := 0) (m := min ps.length 50) (olds := scells []) (news := scells (ps.take (min ps.length 50))) (z := .string { data := #[] }) (bytes := 16) (by rfl) (by rfl) (by rfl) (by rfl) Tryd.underlying48 (by kernel_rfl) rfl rfl (by rfl) (by rw [scells_len, List.length_take]; omega) (M.r 0 0 rfl rfl) (M.t 0 rfl) (M.lt 0 rfl) (range_stake (min ps.length 50) (M.oldR Rg0_o Lg0)) (scells_one _) (by omega) (by simp only [maxLen]; omega) (fun g8 g8c w9 Sw9 Q Cg8 R T L => ?_)
  replace M := M.grow 0 rfl Sw9 Q R T L
  simp only [List.set] at M
  clear Q R T L
  rw [show scells [] ++ scells (ps.take (min ps.length 50)) = scells (ps.take (min ps.length 50)) from rfl] at M
  rw [Nat.zero_add] at Cg8
  rw [Nat.zero_add]
  simp only [putT, List.set]
  refine wpL_assign (v := .slice (some ⟨g8, 0, none⟩) (min ps.length 50) g8c) (by rfl) (by rfl) (by rfl) ?_
  simp only [putT, List.set]
  refine wpL_nil (no_panic ?_)
  obtain ⟨qs, hqs⟩ : ∃ qs, qs = List.take (min ps.length 50) ps := ⟨_, rfl⟩
  have hql : qs.length = min ps.length 50 := by rw [hqs, List.length_take]; omega
  rw [← hqs] at M
  rw [← hql] at Cg8
  rw [← hql]
  refine hK3 _ _ ?_
  refine wp_seq_k (fun K10 hK10 => ?_)
  refine wp_seq_k (fun K11 hK11 => ?_)
  refine wp_region_seq ?_
  refine wpL_move (v := .slice (some ⟨g8, 0, none⟩) qs.length g8c) (by rfl) (by rfl) (by rfl) ?_
  simp only [putT, List.set]
  refine wpL_chunk 1 (by rfl) (fun Lk hLk => ?_)
  simp only [List.take, List.drop]
  refine wpV_lenA (n := qs.length) (by rfl) rfl rfl rfl Tryd.underlying48 ?_
  simp only [putT, List.set]
  refine wpV_nil (hLk _ (fun w13 Sw13 => ?_))
  clear hLk Lk
  simp only [List.take, List.drop]
  replace M := M.sees Sw13
  refine wpL_move (v := .int .i64 0) (by rfl) (by rfl) (by rfl) ?_
  simp only [putT, List.set]
  refine wpL_nil (no_panic ?_)
  refine hK11 _ _ ?_
  refine wp_block ?_
  replace M := M.read1 (cs := scells (partS 40 qs 0)) (o := 0) 0 rfl (by rw [partS_zero]; exact (M.r 0 0 rfl rfl))
  simp only [List.set] at M
  refine wp_loop_ghost (fun n9 a9 W9 => ∃ (k : Nat) (u14 : Nat → Value), n9 = qs.length - k ∧ a9 = { tmps := #[.slice (some ⟨g8, 0, none⟩) qs.length g8c, undef, (.slice none 0 0), u14 3, u14 4, .slice (some ⟨g5, 0, none⟩) 0 0, .slice (some ⟨g0, o, none⟩) ps.length cg0, .slice (some ⟨g0, o, none⟩) ps.length cg0, .int .i64 ((ps.length : Nat) : Int), .int .i64 ((qs.length : Nat) : Int), .slice (some ⟨g0, o, none⟩) qs.length cg0, .slice (some ⟨g8, 0, none⟩) qs.length g8c, .slice (some ⟨g8, 0, none⟩) qs.length g8c, .int .i64 ((qs.length : Nat) : Int), .int .i64 ((k : Nat) : Int), u14 15, u14 16, u14 17, u14 18, u14 19, u14 20, u14 21, u14 22, u14 23, u14 24, u14 25, u14 26, u14 27, undef], defers := [] } ∧ Mem [] w W9 [⟨g8, g8c, [(0, scells (partS 40 qs k))]⟩] ∧ (k ≤ qs.length)) (qs.length - (0)) ?_ (fun n9 a9 W9 hI => ?_)
  · exact ⟨0, (fun q9 => (#[undef, undef, undef, undef, undef, undef, undef, undef, undef, undef, undef, undef, undef, undef, undef, undef, undef, undef, undef, undef, undef, undef, undef, undef, undef, undef, undef, undef] : Array Value).getD q9 undef), rfl, rfl, M, (by omega)⟩
  clear M
  obtain ⟨k, u14, rfl, rfl, M, hk4⟩ := hI
  obtain ⟨w15, rfl⟩ : ∃ W8, W8 = W9 := ⟨_, rfl⟩
  refine wp_seq_k (fun K16 hK16 => ?_)
  refine wp_region_seq ?_
  refine wpL_chunk 1 (by rfl) (fun Lk hLk => ?_)
  simp only [List.take, List.drop]
  refine wpV_bin (v := .bool (decide (k < qs.length))) (by rfl) rfl rfl rfl (fun W => run_lssN k qs.length _ _ W) ?_
  simp only [putT, List.set]
  refine wpV_nil (hLk _ (fun w18 Sw18 => ?_))
  clear hLk Lk
  simp only [List.take, List.drop]
  replace M := M.sees Sw18
  refine wpL_nil (no_panic ?_)
  refine hK16 _ _ ?_
  refine wp_seq_k (fun K19 hK19 => ?_)
  cases hc20 : (decide (k < qs.length))
  · skip
    have ek : k = qs.length := by have := of_decide_eq_false hc20; omega
    subst ek
    refine wp_cond_false rfl ?_
    refine wp_exit ?_
    refine hK10 _ _ ?_
    refine wp_seq_k (fun K21 hK21 => ?_)
    refine wp_region_seq ?_
    refine wpL_move (v := .slice (some ⟨g8, 0, none⟩) qs.length g8c) (by rfl) (by rfl) (by rfl) ?_
    simp only [putT, List.set]
    refine wpL_assign (v := .slice (some ⟨g8, 0, none⟩) qs.length g8c) (by rfl) (by rfl) (by rfl) ?_
    simp only [putT, List.set]
    refine wpL_nil (no_panic ?_)
    refine hK21 _ _ ?_
    refine wp_ret ?_
    repeat (first | with_reducible refine then_ret ?_ | with_reducible refine inblock_ret ?_)
    refine bodyPost_ret (v := .slice (some ⟨g8, 0, none⟩) qs.length g8c) (res1 rfl (.tmp (by rfl))) rfl ?_
    have BE := M.below
    rw [partS_end] at M
    rw [cutsS_of hqs, List.length_map]; exact ⟨_, rfl, ⟨g8, g8c, rfl, Cg8, M.pick [0] (by decide) rfl⟩, BE⟩
  · skip
    have hk : k < qs.length := of_decide_eq_true hc20
    refine wp_cond_true rfl ?_
    refine wp_skip ?_
    refine hK19 _ _ ?_
    refine wp_seq_k (fun K23 hK23 => ?_)
    refine wp_block ?_
    refine wp_seq_k (fun K24 hK24 => ?_)
    refine wp_region_seq ?_
    refine wpL_move (v := .int .i64 ((k : Nat) : Int)) (by rfl) (by rfl) (by rfl) ?_
    simp only [putT, List.set]
    refine wpL_chunk 2 (by rfl) (fun Lk hLk => ?_)
    simp only [List.take, List.drop]
    refine wpV_idxs (n := k) (by rfl) rfl rfl rfl Tryd.underlying48 info9 (by omega) ?_
    simp only [Nat.zero_add]
    simp only [putT, List.set]
    refine wpV_load1 (v := .string (bs (qs.getD k []))) (by rfl) rfl rfl (zadd ((M.r 0 0 rfl rfl) _ _ (partS_get 40 hk))) (M.lt 0 rfl) Tryd.underlying9 rfl ?_
    simp only [putT, List.set]
    refine wpV_nil (hLk _ (fun w26 Sw26 => ?_))
    clear hLk Lk
    simp only [List.take, List.drop]
    replace M := M.sees Sw26
    refine wpL_assign (v := .int .i64 ((k : Nat) : Int)) (by rfl) (by rfl) (by rfl) ?_
    simp only [putT, List.set]
    refine wpL_assign (v := .string (bs (qs.getD k []))) (by rfl) (by rfl) (by rfl) ?_
    simp only [putT, List.set]
    refine wpL_nil (no_panic ?_)
    refine hK24 _ _ ?_
    refine wp_region_seq ?_
    refine wpL_move (v := .slice (some ⟨g8, 0, none⟩) qs.length g8c) (by rfl) (by rfl) (by rfl) ?_
    simp only [putT, List.set]
    refine wpL_move (v := .int .i64 ((k : Nat) : Int)) (by rfl) (by rfl) (by rfl) ?_
    simp only [putT, List.set]
    refine wpL_move (v := .string (bs (qs.getD k []))) (by rfl) (by rfl) (by rfl) ?_
    simp only [putT, List.set]
    refine wpL_move (v := .string (bs (qs.getD k []))) (by rfl) (by rfl) (by rfl) ?_
    simp only [putT, List.set]
    refine wpL_chunk 4 (by rfl) (fun Lk hLk => ?_)
    simp only [List.take, List.drop]
    refine wpV_lenS (by rfl) rfl rfl rfl Tryd.underlying9 ?_
    simp only [putT, List.set]
    refine wpV_min (n := (qs.getD k []).length) (m := 40) (by rfl) rfl rfl rfl ?_
    simp only [putT, List.set]
    refine wpV_cut (l := qs.getD k []) (m := 40) (by rfl) rfl rfl rfl Tryd.underlying9 ?_
    simp only [putT, List.set]
    refine wpV_idxs (n := k) (by rfl) rfl rfl rfl Tryd.underlying48 info9 (by omega) ?_
    simp only [Nat.zero_add]
    simp only [putT, List.set]
    refine wpV_nil (hLk _ (fun w28 Sw28 => ?_))
    clear hLk Lk
    simp only [List.take, List.drop]
    replace M := M.sees Sw28
    refine wpL_store1 (g := g8) (off := k) (n := g8c) (v := .string (bs (cut (qs.getD k []) 40))) (by rfl) (by rfl) (by rfl) (by rfl) (by rfl) (M.t 0 rfl) (by omega) info9 rfl (fun w29 P R T => ?_)
    replace M := M.put1 (j := k) 0 rfl P R T (Nat.zero_add _).symm
    simp only [List.set] at M
    rw [partS_set 40 hk] at M
    refine wpL_nil (no_panic ?_)
    refine hK23 _ _ ?_
    refine wp_region_seq ?_
    refine wpL_chunk 1 (by rfl) (fun Lk hLk => ?_)
    simp only [List.take, List.drop]
    refine wpV_bin (v := .int .i64 ((k + 1 : Nat) : Int)) (by rfl) rfl rfl rfl (fun W => run_add (by simp only [IntKind.wrap_i64]; omega) W) ?_
    simp only [putT, List.set]
    refine wpV_nil (hLk _ (fun w31 Sw31 => ?_))
    clear hLk Lk
    simp only [List.take, List.drop]
    replace M := M.sees Sw31
    refine wpL_move (v := .int .i64 ((k + 1 : Nat) : Int)) (by rfl) (by rfl) (by rfl) ?_
    simp only [putT, List.set]
    refine wpL_nil (no_panic ?_)
    refine Exists.intro _ ⟨?_, (k + 1), (fun q9 => (#[undef, undef, undef, .int .i64 ((k : Nat) : Int), .string (bs (qs.getD k [])), undef, undef, undef, undef, undef, undef, undef, undef, undef, undef, .bool true, .int .i64 ((k : Nat) : Int), .pointer (some ⟨g8, k, none⟩), .string (bs (qs.getD k [])), .slice (some ⟨g8, 0, none⟩) qs.length g8c, .int .i64 ((k : Nat) : Int), .string (bs (qs.getD k [])), .string (bs (qs.getD k [])), .int .i64 (((qs.getD k []).length : Nat) : Int), .int .i64 ((min ((qs.getD k []).length) 40 : Nat) : Int), .string (bs (cut (qs.getD k []) 40)), .pointer (some ⟨g8, k, none⟩), .int .i64 ((k + 1 : Nat) : Int)] : Array Value).getD q9 undef), rfl, rfl, M, (by omega)⟩
    omega
set_option maxHeartbeats 1000000 in
theorem few9_c0  {w : World}  :
    Calls Tryd.prog 46 #[.slice none 0 0] w fun e w' => ∃ v, e = .returned v ∧ MemRow w ((cutsS 50 40 []).length) (scells (cutsS 50 40 [])) v w' ∧ Below w.heap.size w w' := by
  go_enter Tryd.func46, Tryd.ntmps46
  have M := Mem.start w
  refine wp_seq_k (fun K1 hK1 => ?_)
  refine wp_region_seq ?_
  refine wpL_assign (v := (.slice none 0 0)) (by rfl) (by rfl) (by rfl) ?_
  simp only [putT, List.set]
  refine wpL_nil (no_panic ?_)
  refine hK1 _ _ ?_
  refine wp_seq_k (fun K3 hK3 => ?_)
  refine wp_region_seq ?_
  refine wpL_row0 (by rfl) (by rfl) Tryd.underlying48 info9 (fun g5 w6 Sw6 Hg5 Bg5 => ?_)
  replace M := ((M.sees Sw6).add (N := 0) (cs := scells []) (M.ge Hg5) (M.fresh Hg5) Bg5 rfl)
  clear Bg5
  simp only [putT, List.set]
  refine wpL_move (v := .slice none 0 0) (by rfl) (by rfl) (by rfl) ?_
  simp only [putT, List.set]
  refine wpL_move (v := .slice none 0 0) (by rfl) (by rfl) (by rfl) ?_
  simp only [putT, List.set]
  refine wpL_chunk 3 (by rfl) (fun Lk hLk => ?_)
  simp only [List.take, List.drop]
  refine wpV_lenA (n := 0) (by rfl) rfl rfl rfl Tryd.underlying48 ?_
  simp only [putT, List.set]
  refine wpV_min (n := 0) (m := 50) (by rfl) rfl rfl rfl ?_
  simp only [putT, List.set]
  refine wpV_val (v := .slice none 0 0) (by rfl) (by rfl) (fun W hW => ?_) ?_
  · (unfold RunsVal; kernel_rfl)
  simp only [putT, List.set]
  refine wpV_nil (hLk _ (fun w7 Sw7 => ?_))
  clear hLk Lk
  simp only [List.take, List.drop]
  replace M := M.sees Sw7
  refine wpL_appendN (by rfl) (by rfl) (by rfl) (by rfl) Tryd.underlying48 info9 (Nat.le_refl _) ?_
  simp only [putT, List.set]
  refine wpL_assign (v := .slice (some ⟨g5, 0, none⟩) 0 0) (by rfl) (by rfl) (by rfl) ?_
  simp only [putT, List.set]
  refine wpL_nil (no_panic ?_)
  refine hK3 _ _ ?_
  refine wp_seq_k (fun K8 hK8 => ?_)
  refine wp_seq_k (fun K9 hK9 => ?_)
  refine wp_region_seq ?_
  refine wpL_move (v := .slice (some ⟨g5, 0, none⟩) 0 0) (by rfl) (by rfl) (by rfl) ?_
  simp only [putT, List.set]
  refine wpL_chunk 1 (by rfl) (fun Lk hLk => ?_)
  simp only [List.take, List.drop]
  refine wpV_lenA (n := 0) (by rfl) rfl rfl rfl Tryd.underlying48 ?_
  simp only [putT, List.set]
  refine wpV_nil (hLk _ (fun w11 Sw11 => ?_))
  clear hLk Lk
  simp only [List.take, List.drop]
  replace M := M.sees Sw11
  refine wpL_move (v := .int .i64 0) (by rfl) (by rfl) (by rfl) ?_
  simp only [putT, List.set]
  refine wpL_nil (no_panic ?_)
  refine hK9 _ _ ?_
  refine wp_block ?_
  refine wp_loop_rounds 2 ?_
  rw [rounds_succ]
  refine wp_seq_k (fun K12 hK12 => ?_)
  refine wp_region_seq ?_
  refine wpL_chunk 1 (by rfl) (fun Lk hLk => ?_)
  simp only [List.take, List.drop]
  refine wpV_bin (v := .bool false) (by rfl) rfl rfl rfl (fun W => run_lss _ _ _ _ W) ?_
  simp only [putT, List.set]
  refine wpV_nil (hLk _ (fun w14 Sw14 => ?_))
  clear hLk Lk
  simp only [List.take, List.drop]
  replace M := M.sees Sw14
  refine wpL_nil (no_panic ?_)
  refine hK12 _ _ ?_
  refine wp_seq_k (fun K15 hK15 => ?_)
  refine wp_cond_false rfl ?_
  refine wp_exit ?_
  refine hK8 _ _ ?_
  refine wp_seq_k (fun K16 hK16 => ?_)
  refine wp_region_seq ?_
  refine wpL_move (v := .slice (some ⟨g5, 0, none⟩) 0 0) (by rfl) (by rfl) (by rfl) ?_
  simp only [putT, List.set]
  refine wpL_assign (v := .slice (some ⟨g5, 0, none⟩) 0 0) (by rfl) (by rfl) (by rfl) ?_
  simp only [putT, List.set]
  refine wpL_nil (no_panic ?_)
  refine hK16 _ _ ?_
  refine wp_ret ?_
  repeat (first | with_reducible refine then_ret ?_ | with_reducible refine inblock_ret ?_)
  refine bodyPost_ret (v := .slice (some ⟨g5, 0, none⟩) 0 0) (res1 rfl (.tmp (by rfl))) rfl ?_
  have BE := M.below
  exact ⟨_, rfl, ⟨g5, 0, rfl, (Nat.le_refl _), M.pick [0] (by decide) rfl⟩, BE⟩
set_option maxHeartbeats 1000000 in
theorem few9_cE {a : Addr} {w : World}  :
    Calls Tryd.prog 46 #[.slice (some a) 0 0] w fun e w' => ∃ v, e = .returned v ∧ MemRow w ((cutsS 50 40 []).length) (scells (cutsS 50 40 [])) v w' ∧ Below w.heap.size w w' := by
  go_enter Tryd.func46, Tryd.ntmps46
  have M := Mem.start w
  refine wp_seq_k (fun K1 hK1 => ?_)
  refine wp_region_seq ?_
  refine wpL_assign (v := (.slice none 0 0)) (by rfl) (by rfl) (by rfl) ?_
  simp only [putT, List.set]
  refine wpL_nil (no_panic ?_)
  refine hK1 _ _ ?_
  refine wp_seq_k (fun K3 hK3 => ?_)
  refine wp_region_seq ?_
  refine wpL_row0 (by rfl) (by rfl) Tryd.underlying48 info9 (fun g5 w6 Sw6 Hg5 Bg5 => ?_)
  replace M := ((M.sees Sw6).add (N := 0) (cs := scells []) (M.ge Hg5) (M.fresh Hg5) Bg5 rfl)
  clear Bg5
  simp only [putT, List.set]
  refine wpL_move (v := .slice (some a) 0 0) (by rfl) (by rfl) (by rfl) ?_
  simp only [putT, List.set]
  refine wpL_move (v := .slice (some a) 0 0) (by rfl) (by rfl) (by rfl) ?_
  simp only [putT, List.set]
  refine wpL_chunk 3 (by rfl) (fun Lk hLk => ?_)
  simp only [List.take, List.drop]
  refine wpV_lenA (n := 0) (by rfl) rfl rfl rfl Tryd.underlying48 ?_
  simp only [putT, List.set]
  refine wpV_min (n := 0) (m := 50) (by rfl) rfl rfl rfl ?_
  simp only [putT, List.set]
  refine wpV_val (v := .slice (some a) 0 0) (by rfl) (by rfl) (fun W hW => ?_) ?_
  · (unfold RunsVal; kernel_rfl)
  simp only [putT, List.set]
  refine wpV_nil (hLk _ (fun w7 Sw7 => ?_))
  clear hLk Lk
  simp only [List.take, List.drop]
  replace M := M.sees Sw7
  refine wpL_appendE (by rfl) (by rfl) (by rfl) (by rfl) Tryd.underlying48 info9 (Nat.le_refl _) ?_
  simp only [putT, List.set]
  refine wpL_assign (v := .slice (some ⟨g5, 0, none⟩) 0 0) (by rfl) (by rfl) (by rfl) ?_
  simp only [putT, List.set]
  refine wpL_nil (no_panic ?_)
  refine hK3 _ _ ?_
  refine wp_seq_k (fun K8 hK8 => ?_)
  refine wp_seq_k (fun K9 hK9 => ?_)
  refine wp_region_seq ?_
  refine wpL_move (v := .slice (some ⟨g5, 0, none⟩) 0 0) (by rfl) (by rfl) (by rfl) ?_
  simp only [putT, List.set]
  refine wpL_chunk 1 (by rfl) (fun Lk hLk => ?_)
  simp only [List.take, List.drop]
  refine wpV_lenA (n := 0) (by rfl) rfl rfl rfl Tryd.underlying48 ?_
  simp only [putT, List.set]
  refine wpV_nil (hLk _ (fun w11 Sw11 => ?_))
  clear hLk Lk
  simp only [List.take, List.drop]
  replace M := M.sees Sw11
  refine wpL_move (v := .int .i64 0) (by rfl) (by rfl) (by rfl) ?_
  simp only [putT, List.set]
  refine wpL_nil (no_panic ?_)
  refine hK9 _ _ ?_
  refine wp_block ?_
  refine wp_loop_rounds 2 ?_
  rw [rounds_succ]
  refine wp_seq_k (fun K12 hK12 => ?_)
  refine wp_region_seq ?_
  refine wpL_chunk 1 (by rfl) (fun Lk hLk => ?_)
  simp only [List.take, List.drop]
  refine wpV_bin (v := .bool false) (by rfl) rfl rfl rfl (fun W => run_lss _ _ _ _ W) ?_
  simp only [putT, List.set]
  refine wpV_nil (hLk _ (fun w14 Sw14 => ?_))
  clear hLk Lk
  simp only [List.take, List.drop]
  replace M := M.sees Sw14
  refine wpL_nil (no_panic ?_)
  refine hK12 _ _ ?_
  refine wp_seq_k (fun K15 hK15 => ?_)
  refine wp_cond_false rfl ?_
  refine wp_exit ?_
  refine hK8 _ _ ?_
  refine wp_seq_k (fun K16 hK16 => ?_)
  refine wp_region_seq ?_
  refine wpL_move (v := .slice (some ⟨g5, 0, none⟩) 0 0) (by rfl) (by rfl) (by rfl) ?_
  simp only [putT, List.set]
  refine wpL_assign (v := .slice (some ⟨g5, 0, none⟩) 0 0) (by rfl) (by rfl) (by rfl) ?_
  simp only [putT, List.set]
  refine wpL_nil (no_panic ?_)
  refine hK16 _ _ ?_
  refine wp_ret ?_
  repeat (first | with_reducible refine then_ret ?_ | with_reducible refine inblock_ret ?_)
  refine bodyPost_ret (v := .slice (some ⟨g5, 0, none⟩) 0 0) (res1 rfl (.tmp (by rfl))) rfl ?_
  have BE := M.below
  exact ⟨_, rfl, ⟨g5, 0, rfl, (Nat.le_refl _), M.pick [0] (by decide) rfl⟩, BE⟩
theorem few9_c {v : Value} {ps : List (List UInt8)} {w : World} (hv : RowS w v ps) :
    Calls Tryd.prog 46 #[v] w fun e w' => ∃ v, e = .returned v ∧ MemRow w ((cutsS 50 40 ps).length) (scells (cutsS 50 40 ps)) v w' ∧ Below w.heap.size w w' := by
  rcases hv with ⟨rfl, rfl⟩ | ⟨a, rfl, rfl⟩ | ⟨g, o, n, c, rfl, h2, h3, h4, h5⟩
  · exact few9_c0
  · exact few9_cE
  · exact few9_c1 h2 h3 h4 h5
set_option maxRecDepth 100000 in
set_option maxHeartbeats 4000000 in
theorem makes_any_any {vls : Value} {ls Ql : List (List UInt8)} {x y : Int} {w : World} (hQ : cutsS 50 40 ls = Ql) (hQL : Ql.length ≤ 50) (hri : rightB Ql = false) (L0 : 0 < w.heap.size) (R0_0 : w.rangeAt 0 0 kcells) (hvls : RowS w vls ls) :
    Calls Tryd.prog 9 #[vls, .int .i64 x, .int .i64 y] w fun e w' => e = .returned (.bool true) ∧ Below w.heap.size w w' := by
  go_enter Tryd.func9, Tryd.ntmps9
  have M := Mem.start w
  refine wp_seq_k (fun K1 hK1 => ?_)
  refine wp_region_seq ?_
  refine wpL_assign (v := .bool false) (by rfl) (by rfl) (by rfl) ?_
  simp only [putT, List.set]
  refine wpL_nil (no_panic ?_)
  refine hK1 _ _ ?_
  refine wp_seq_k (fun K3 hK3 => ?_)
  refine wp_region_seq ?_
  refine wpL_move (v := vls) (by rfl) (by rfl) (by rfl) ?_
  simp only [putT, List.set]
  refine wpL_callE (f := 46) (args := #[vls]) (R := MemRow w ((cutsS 50 40 ls).length) (scells (cutsS 50 40 ls))) (by rfl) (by rfl) rfl Tryd.func46 (by kernel_rfl) (by kernel_rfl) (few9_c (hvls.mem M)) (fun v9 w6 hv9 Sw6 => ?_)
  obtain ⟨g5, g5c, rfl, Cg5, M9⟩ := hv9
  replace M := M.call1 M9
  simp only [putT, List.set]
  refine wpL_assign (v := .slice (some ⟨g5, 0, none⟩) ((cutsS 50 40 ls).length) g5c) (by rfl) (by rfl) (by rfl) ?_
  simp only [putT, List.set]
  refine wpL_nil (no_panic ?_)
  simp only [hQ] at M
  simp only [hQ]
  rw [hQ] at Cg5
  refine hK3 _ _ ?_
  refine wp_seq_k (fun K7 hK7 => ?_)
  refine wp_region_seq ?_
  refine wpL_move (v := .slice (some ⟨g5, 0, none⟩) Ql.length g5c) (by rfl) (by rfl) (by rfl) ?_
  simp only [putT, List.set]
  refine wpL_move (v := .int .i64 x) (by rfl) (by rfl) (by rfl) ?_
  simp only [putT, List.set]
  refine wpL_chunk 4 (by rfl) (fun Lk hLk => ?_)
  simp only [List.take, List.drop]
  refine wpV_callf (v := .tuple #[.slice none 0 0, .int .i64 1]) (args := #[.slice (some ⟨g5, 0, none⟩) Ql.length g5c, .int .i64 x]) (by rfl) rfl Tryd.func47 (by kernel_rfl) (by kernel_rfl) rfl (fun W hW => by with_reducible exact Path_no1 (l := Ql) hri (RowA.of ((M.sees hW).r 0 0 rfl rfl) ((M.sees hW).lt 0 rfl) (scells_len _).symm Cg5)) ?_
  simp only [putT, List.set]
  refine wpV_move (v := .tuple #[.slice none 0 0, .int .i64 1]) (by rfl) rfl rfl ?_
  simp only [putT, List.set]
  refine wpV_extract (v := .slice none 0 0) (by rfl) rfl rfl rfl ?_
  simp only [putT, List.set]
  refine wpV_extract (v := .int .i64 1) (by rfl) rfl rfl rfl ?_
  simp only [putT, List.set]
  refine wpV_nil (hLk _ (fun w9 Sw9 => ?_))
  clear hLk Lk
  simp only [List.take, List.drop]
  replace M := M.sees Sw9
  refine wpL_assign (v := .slice none 0 0) (by rfl) (by rfl) (by rfl) ?_
  simp only [putT, List.set]
  refine wpL_assign (v := .int .i64 1) (by rfl) (by rfl) (by rfl) ?_
  simp only [putT, List.set]
  refine wpL_nil (no_panic ?_)
  refine hK7 _ _ ?_
  refine wp_seq_k (fun K10 hK10 => ?_)
  refine wp_region_seq ?_
  refine wpL_move (v := .slice (some ⟨g5, 0, none⟩) Ql.length g5c) (by rfl) (by rfl) (by rfl) ?_
  simp only [putT, List.set]
  refine wpL_move (v := .int .i64 y) (by rfl) (by rfl) (by rfl) ?_
  simp only [putT, List.set]
  refine wpL_chunk 4 (by rfl) (fun Lk hLk => ?_)
  simp only [List.take, List.drop]
  refine wpV_callf (v := .tuple #[.slice none 0 0, .int .i64 1]) (args := #[.slice (some ⟨g5, 0, none⟩) Ql.length g5c, .int .i64 y]) (by rfl) rfl Tryd.func48 (by kernel_rfl) (by kernel_rfl) rfl (fun W hW => by with_reducible exact Step_no1 (l := Ql) hri (RowA.of ((M.sees hW).r 0 0 rfl rfl) ((M.sees hW).lt 0 rfl) (scells_len _).symm Cg5)) ?_
  simp only [putT, List.set]
  refine wpV_move (v := .tuple #[.slice none 0 0, .int .i64 1]) (by rfl) rfl rfl ?_
  simp only [putT, List.set]
  refine wpV_extract (v := .slice none 0 0) (by rfl) rfl rfl rfl ?_
  simp only [putT, List.set]
  refine wpV_extract (v := .int .i64 1) (by rfl) rfl rfl rfl ?_
  simp only [putT, List.set]
  refine wpV_nil (hLk _ (fun w12 Sw12 => ?_))
  clear hLk Lk
  simp only [List.take, List.drop]
  replace M := M.sees Sw12
  refine wpL_assign (v := .slice none 0 0) (by rfl) (by rfl) (by rfl) ?_
  simp only [putT, List.set]
  refine wpL_assign (v := .int .i64 1) (by rfl) (by rfl) (by rfl) ?_
  simp only [putT, List.set]
  refine wpL_nil (no_panic ?_)
  refine hK10 _ _ ?_
  refine wp_seq_k (fun K13 hK13 => ?_)
  refine wp_seq_k (fun K14 hK14 => ?_)
  refine wp_region_seq ?_
  refine wpL_move (v := .slice (some ⟨g5, 0, none⟩) Ql.length g5c) (by rfl) (by rfl) (by rfl) ?_
  simp only [putT, List.set]
  refine wpL_chunk 2 (by rfl) (fun Lk hLk => ?_)
  simp only [List.take, List.drop]
  refine wpV_callf (v := .bool false) (args := #[.slice (some ⟨g5, 0, none⟩) Ql.length g5c]) (by rfl) rfl Tryd.func43 (by kernel_rfl) (by kernel_rfl) rfl (fun W hW => by have h9 : Calls Tryd.prog _ _ W _ := rright_r (ps := Ql) (by omega) (RowA.of ((M.sees hW).r 0 0 rfl rfl) ((M.sees hW).lt 0 rfl) (scells_len _).symm Cg5); rw [hri] at h9; exact h9) ?_
  simp only [putT, List.set]
  refine wpV_not (b := false) (by rfl) rfl rfl ?_
  simp only [Bool.not_true, Bool.not_false]
  simp only [putT, List.set]
  refine wpV_nil (hLk _ (fun w16 Sw16 => ?_))
  clear hLk Lk
  simp only [List.take, List.drop]
  replace M := M.sees Sw16
  refine wpL_nil (no_panic ?_)
  refine hK14 _ _ ?_
  refine wp_cond_true rfl ?_
  refine wp_seq_k (fun K17 hK17 => ?_)
  refine wp_region_seq ?_
  refine wpL_chunk 19 (by rfl) (fun Lk hLk => ?_)
  simp only [List.take, List.drop]
  refine wpV_callf (v := .bool true) (args := #[]) (by rfl) rfl Tryd.func49 (by kernel_rfl) (by kernel_rfl) rfl (fun W hW => alive09_c ((M.sees hW).oldL L0) ((M.sees hW).oldR R0_0 L0)) ?_
  simp only [putT, List.set]
  refine wpV_move (v := .bool true) (by rfl) rfl rfl ?_
  simp only [putT, List.set]
  refine wpV_move (v := .int .i64 1) (by rfl) rfl rfl ?_
  simp only [putT, List.set]
  refine wpV_bin (v := .bool true) (by rfl) rfl rfl rfl (fun W => run_eql _ _ _ _ W) ?_
  simp only [putT, List.set]
  refine wpV_pick (v := .bool true) (by rfl) rfl rfl rfl ?_
  simp only [putT, List.set]
  refine wpV_move (v := .bool true) (by rfl) rfl rfl ?_
  simp only [putT, List.set]
  refine wpV_move (v := .int .i64 1) (by rfl) rfl rfl ?_
  simp only [putT, List.set]
  refine wpV_bin (v := .bool true) (by rfl) rfl rfl rfl (fun W => run_eql _ _ _ _ W) ?_
  simp only [putT, List.set]
  refine wpV_pick (v := .bool true) (by rfl) rfl rfl rfl ?_
  simp only [putT, List.set]
  refine wpV_move (v := .bool true) (by rfl) rfl rfl ?_
  simp only [putT, List.set]
  refine wpV_move (v := .slice none 0 0) (by rfl) rfl rfl ?_
  simp only [putT, List.set]
  refine wpV_lenA (n := 0) (by rfl) rfl rfl rfl Tryd.underlying48 ?_
  simp only [putT, List.set]
  refine wpV_bin (v := .bool true) (by rfl) rfl rfl rfl (fun W => run_eql _ _ _ _ W) ?_
  simp only [putT, List.set]
  refine wpV_pick (v := .bool true) (by rfl) rfl rfl rfl ?_
  simp only [putT, List.set]
  refine wpV_move (v := .bool true) (by rfl) rfl rfl ?_
  simp only [putT, List.set]
  refine wpV_move (v := .slice none 0 0) (by rfl) rfl rfl ?_
  simp only [putT, List.set]
  refine wpV_lenA (n := 0) (by rfl) rfl rfl rfl Tryd.underlying48 ?_
  simp only [putT, List.set]
  refine wpV_bin (v := .bool true) (by rfl) rfl rfl rfl (fun W => run_eql _ _ _ _ W) ?_
  simp only [putT, List.set]
  refine wpV_pick (v := .bool true) (by rfl) rfl rfl rfl ?_
  simp only [putT, List.set]
  refine wpV_nil (hLk _ (fun w19 Sw19 => ?_))
  clear hLk Lk
  simp only [List.take, List.drop]
  replace M := M.sees Sw19
  refine wpL_assign (v := .bool true) (by rfl) (by rfl) (by rfl) ?_
  simp only [putT, List.set]
  refine wpL_nil (no_panic ?_)
  refine hK17 _ _ ?_
  refine wp_ret ?_
  repeat (first | with_reducible refine then_ret ?_ | with_reducible refine inblock_ret ?_)
  refine bodyPost_ret (v := .bool true) (res1 rfl (.tmp (by rfl))) rfl ?_
  have BE := M.below
  exact ⟨rfl, BE⟩
set_option maxRecDepth 100000 in
set_option maxHeartbeats 4000000 in
theorem makes_neg_neg {vls : Value} {ls Ql : List (List UInt8)} {x : Int} {y : Int} {w : World} (hQ : cutsS 50 40 ls = Ql) (hQL : Ql.length ≤ 50) (hri : rightB Ql = true) (h4 : Ql.length ≤ 4096) (h32 : ∀ s ∈ Ql, s.length = 32) (hx : x < 0) (hy : y < 0) (L0 : 0 < w.heap.size) (R0_0 : w.rangeAt 0 0 kcells) (hvls : RowS w vls ls) :
    Calls Tryd.prog 9 #[vls, .int .i64 x, .int .i64 y] w fun e w' => e = .returned (.bool true) ∧ Below w.heap.size w w' := by
  go_enter Tryd.func9, Tryd.ntmps9
  have M := Mem.start w
  refine wp_seq_k (fun K1 hK1 => ?_)
  refine wp_region_seq ?_
  refine wpL_assign (v := .bool false) (by rfl) (by rfl) (by rfl) ?_
  simp only [putT, List.set]
  refine wpL_nil (no_panic ?_)
  refine hK1 _ _ ?_
  refine wp_seq_k (fun K3 hK3 => ?_)
  refine wp_region_seq ?_
  refine wpL_move (v := vls) (by rfl) (by rfl) (by rfl) ?_
  simp only [putT, List.set]
  refine wpL_callE (f := 46) (args := #[vls]) (R := MemRow w ((cutsS 50 40 ls).length) (scells (cutsS 50 40 ls))) (by rfl) (by rfl) rfl Tryd.func46 (by kernel_rfl) (by kernel_rfl) (few9_c (hvls.mem M)) (fun v9 w6 hv9 Sw6 => ?_)
  obtain ⟨g5, g5c, rfl, Cg5, M9⟩ := hv9
  replace M := M.call1 M9
  simp only [putT, List.set]
  refine wpL_assign (v := .slice (some ⟨g5, 0, none⟩) ((cutsS 50 40 ls).length) g5c) (by rfl) (by rfl) (by rfl) ?_
  simp only [putT, List.set]
  refine wpL_nil (no_panic ?_)
  simp only [hQ] at M
  simp only [hQ]
  rw [hQ] at Cg5
  refine hK3 _ _ ?_
  refine wp_seq_k (fun K7 hK7 => ?_)
  refine wp_region_seq ?_
  refine wpL_move (v := .slice (some ⟨g5, 0, none⟩) Ql.length g5c) (by rfl) (by rfl) (by rfl) ?_
  simp only [putT, List.set]
  refine wpL_move (v := .int .i64 x) (by rfl) (by rfl) (by rfl) ?_
  simp only [putT, List.set]
  refine wpL_chunk 4 (by rfl) (fun Lk hLk => ?_)
  simp only [List.take, List.drop]
  refine wpV_callf (v := .tuple #[.slice none 0 0, .int .i64 1]) (args := #[.slice (some ⟨g5, 0, none⟩) Ql.length g5c, .int .i64 x]) (by rfl) rfl Tryd.func47 (by kernel_rfl) (by kernel_rfl) rfl (fun W hW => by with_reducible exact Path_neg (l := Ql) hri hx (RowA.of ((M.sees hW).r 0 0 rfl rfl) ((M.sees hW).lt 0 rfl) (scells_len _).symm Cg5)) ?_
  simp only [putT, List.set]
  refine wpV_move (v := .tuple #[.slice none 0 0, .int .i64 1]) (by rfl) rfl rfl ?_
  simp only [putT, List.set]
  refine wpV_extract (v := .slice none 0 0) (by rfl) rfl rfl rfl ?_
  simp only [putT, List.set]
  refine wpV_extract (v := .int .i64 1) (by rfl) rfl rfl rfl ?_
  simp only [putT, List.set]
  refine wpV_nil (hLk _ (fun w9 Sw9 => ?_))
  clear hLk Lk
  simp only [List.take, List.drop]
  replace M := M.sees Sw9
  refine wpL_assign (v := .slice none 0 0) (by rfl) (by rfl) (by rfl) ?_
  simp only [putT, List.set]
  refine wpL_assign (v := .int .i64 1) (by rfl) (by rfl) (by rfl) ?_
  simp only [putT, List.set]
  refine wpL_nil (no_panic ?_)
  refine hK7 _ _ ?_
  refine wp_seq_k (fun K10 hK10 => ?_)
  refine wp_region_seq ?_
  refine wpL_move (v := .slice (some ⟨g5, 0, none⟩) Ql.length g5c) (by rfl) (by rfl) (by rfl) ?_
  simp only [putT, List.set]
  refine wpL_move (v := .int .i64 y) (by rfl) (by rfl) (by rfl) ?_
  simp only [putT, List.set]
  refine wpL_chunk 4 (by rfl) (fun Lk hLk => ?_)
  simp only [List.take, List.drop]
  refine wpV_callf (v := .tuple #[.slice none 0 0, .int .i64 1]) (args := #[.slice (some ⟨g5, 0, none⟩) Ql.length g5c, .int .i64 y]) (by rfl) rfl Tryd.func48 (by kernel_rfl) (by kernel_rfl) rfl (fun W hW => by with_reducible exact Step_neg (l := Ql) hri hy (RowA.of ((M.sees hW).r 0 0 rfl rfl) ((M.sees hW).lt 0 rfl) (scells_len _).symm Cg5)) ?_
  simp only [putT, List.set]
  refine wpV_move (v := .tuple #[.slice none 0 0, .int .i64 1]) (by rfl) rfl rfl ?_
  simp only [putT, List.set]
  refine wpV_extract (v := .slice none 0 0) (by rfl) rfl rfl rfl ?_
  simp only [putT, List.set]
  refine wpV_extract (v := .int .i64 1) (by rfl) rfl rfl rfl ?_
  simp only [putT, List.set]
  refine wpV_nil (hLk _ (fun w12 Sw12 => ?_))
  clear hLk Lk
  simp only [List.take, List.drop]
  replace M := M.sees Sw12
  refine wpL_assign (v := .slice none 0 0) (by rfl) (by rfl) (by rfl) ?_
  simp only [putT, List.set]
  refine wpL_assign (v := .int .i64 1) (by rfl) (by rfl) (by rfl) ?_
  simp only [putT, List.set]
  refine wpL_nil (no_panic ?_)
  refine hK10 _ _ ?_
  refine wp_seq_k (fun K13 hK13 => ?_)
  refine wp_seq_k (fun K14 hK14 => ?_)
  refine wp_region_seq ?_
  refine wpL_move (v := .slice (some ⟨g5, 0, none⟩) Ql.length g5c) (by rfl) (by rfl) (by rfl) ?_
  simp only [putT, List.set]
  refine wpL_chunk 2 (by rfl) (fun Lk hLk => ?_)
  simp only [List.take, List.drop]
  refine wpV_callf (v := .bool true) (args := #[.slice (some ⟨g5, 0, none⟩) Ql.length g5c]) (by rfl) rfl Tryd.func43 (by kernel_rfl) (by kernel_rfl) rfl (fun W hW => by have h9 : Calls Tryd.prog _ _ W _ := rright_r (ps := Ql) (by omega) (RowA.of ((M.sees hW).r 0 0 rfl rfl) ((M.sees hW).lt 0 rfl) (scells_len _).symm Cg5); rw [hri] at h9; exact h9) ?_
  simp only [putT, List.set]
  refine wpV_not (b := true) (by rfl) rfl rfl ?_
  simp only [Bool.not_true, Bool.not_false]
  simp only [putT, List.set]
  refine wpV_nil (hLk _ (fun w16 Sw16 => ?_))
  clear hLk Lk
  simp only [List.take, List.drop]
  replace M := M.sees Sw16
  refine wpL_nil (no_panic ?_)
  refine hK14 _ _ ?_
  refine wp_cond_false rfl ?_
  refine wp_skip ?_
  refine hK13 _ _ ?_
  refine wp_seq_k (fun K17 hK17 => ?_)
  refine wp_seq_k (fun K18 hK18 => ?_)
  refine wp_region_seq ?_
  refine wpL_move (v := .int .i64 x) (by rfl) (by rfl) (by rfl) ?_
  simp only [putT, List.set]
  refine wpL_chunk 7 (by rfl) (fun Lk hLk => ?_)
  simp only [List.take, List.drop]
  refine wpV_bin (v := .bool true) (by rfl) rfl rfl rfl (fun W => (run_lss _ _ _ _ W).trans (by rw [(decide_eq_true hx)])) ?_
  simp only [putT, List.set]
  refine wpV_move (v := .bool true) (by rfl) rfl rfl ?_
  simp only [putT, List.set]
  refine wpV_skip (by rfl) (by rfl) ?_
  simp only [putT, List.set]
  refine wpV_skip (by rfl) (by rfl) ?_
  simp only [putT, List.set]
  refine wpV_skip (by rfl) (by rfl) ?_
  simp only [putT, List.set]
  refine wpV_skip (by rfl) (by rfl) ?_
  simp only [putT, List.set]
  refine wpV_pick (v := .bool true) (by rfl) rfl rfl rfl ?_
  simp only [putT, List.set]
  refine wpV_nil (hLk _ (fun w20 Sw20 => ?_))
  clear hLk Lk
  simp only [List.take, List.drop]
  replace M := M.sees Sw20
  refine wpL_nil (no_panic ?_)
  refine hK18 _ _ ?_
  refine wp_cond_true rfl ?_
  refine wp_seq_k (fun K21 hK21 => ?_)
  refine wp_region_seq ?_
  refine wpL_move (v := .int .i64 1) (by rfl) (by rfl) (by rfl) ?_
  simp only [putT, List.set]
  refine wpL_chunk 6 (by rfl) (fun Lk hLk => ?_)
  simp only [List.take, List.drop]
  refine wpV_bin (v := .bool false) (by rfl) rfl rfl rfl (fun W => run_neq _ _ _ _ W) ?_
  simp only [putT, List.set]
  refine wpV_move (v := .bool false) (by rfl) rfl rfl ?_
  simp only [putT, List.set]
  refine wpV_move (v := .slice none 0 0) (by rfl) rfl rfl ?_
  simp only [putT, List.set]
  refine wpV_lenA (n := 0) (by rfl) rfl rfl rfl Tryd.underlying48 ?_
  simp only [putT, List.set]
  refine wpV_bin (v := .bool false) (by rfl) rfl rfl rfl (fun W => run_neq _ _ _ _ W) ?_
  simp only [putT, List.set]
  refine wpV_pick (v := .bool false) (by rfl) rfl rfl rfl ?_
  simp only [putT, List.set]
  refine wpV_nil (hLk _ (fun w23 Sw23 => ?_))
  clear hLk Lk
  simp only [List.take, List.drop]
  replace M := M.sees Sw23
  refine wpL_nil (no_panic ?_)
  refine hK21 _ _ ?_
  refine wp_cond_false rfl ?_
  refine wp_skip ?_
  refine hK17 _ _ ?_
  refine wp_seq_k (fun K24 hK24 => ?_)
  refine wp_seq_k (fun K25 hK25 => ?_)
  refine wp_region_seq ?_
  refine wpL_move (v := .int .i64 y) (by rfl) (by rfl) (by rfl) ?_
  simp only [putT, List.set]
  refine wpL_chunk 7 (by rfl) (fun Lk hLk => ?_)
  simp only [List.take, List.drop]
  refine wpV_bin (v := .bool true) (by rfl) rfl rfl rfl (fun W => (run_lss _ _ _ _ W).trans (by rw [(decide_eq_true hy)])) ?_
  simp only [putT, List.set]
  refine wpV_move (v := .bool true) (by rfl) rfl rfl ?_
  simp only [putT, List.set]
  refine wpV_skip (by rfl) (by rfl) ?_
  simp only [putT, List.set]
  refine wpV_skip (by rfl) (by rfl) ?_
  simp only [putT, List.set]
  refine wpV_skip (by rfl) (by rfl) ?_
  simp only [putT, List.set]
  refine wpV_skip (by rfl) (by rfl) ?_
  simp only [putT, List.set]
  refine wpV_pick (v := .bool true) (by rfl) rfl rfl rfl ?_
  simp only [putT, List.set]
  refine wpV_nil (hLk _ (fun w27 Sw27 => ?_))
  clear hLk Lk
  simp only [List.take, List.drop]
  replace M := M.sees Sw27
  refine wpL_nil (no_panic ?_)
  refine hK25 _ _ ?_
  refine wp_cond_true rfl ?_
  refine wp_seq_k (fun K28 hK28 => ?_)
  refine wp_region_seq ?_
  refine wpL_chunk 10 (by rfl) (fun Lk hLk => ?_)
  simp only [List.take, List.drop]
  refine wpV_callf (v := .bool true) (args := #[]) (by rfl) rfl Tryd.func49 (by kernel_rfl) (by kernel_rfl) rfl (fun W hW => alive09_c ((M.sees hW).oldL L0) ((M.sees hW).oldR R0_0 L0)) ?_
  simp only [putT, List.set]
  refine wpV_move (v := .bool true) (by rfl) rfl rfl ?_
  simp only [putT, List.set]
  refine wpV_move (v := .int .i64 1) (by rfl) rfl rfl ?_
  simp only [putT, List.set]
  refine wpV_bin (v := .bool true) (by rfl) rfl rfl rfl (fun W => run_eql _ _ _ _ W) ?_
  simp only [putT, List.set]
  refine wpV_pick (v := .bool true) (by rfl) rfl rfl rfl ?_
  simp only [putT, List.set]
  refine wpV_move (v := .bool true) (by rfl) rfl rfl ?_
  simp only [putT, List.set]
  refine wpV_move (v := .slice none 0 0) (by rfl) rfl rfl ?_
  simp only [putT, List.set]
  refine wpV_lenA (n := 0) (by rfl) rfl rfl rfl Tryd.underlying48 ?_
  simp only [putT, List.set]
  refine wpV_bin (v := .bool true) (by rfl) rfl rfl rfl (fun W => run_eql _ _ _ _ W) ?_
  simp only [putT, List.set]
  refine wpV_pick (v := .bool true) (by rfl) rfl rfl rfl ?_
  simp only [putT, List.set]
  refine wpV_nil (hLk _ (fun w30 Sw30 => ?_))
  clear hLk Lk
  simp only [List.take, List.drop]
  replace M := M.sees Sw30
  refine wpL_assign (v := .bool true) (by rfl) (by rfl) (by rfl) ?_
  simp only [putT, List.set]
  refine wpL_nil (no_panic ?_)
  refine hK28 _ _ ?_
  refine wp_ret ?_
  repeat (first | with_reducible refine then_ret ?_ | with_reducible refine inblock_ret ?_)
  refine bodyPost_ret (v := .bool true) (res1 rfl (.tmp (by rfl))) rfl ?_
  have BE := M.below
  exact ⟨rfl, BE⟩
set_option maxRecDepth 100000 in
set_option maxHeartbeats 4000000 in
theorem makes_neg_zero {vls : Value} {ls Ql : List (List UInt8)} {x : Int}  {w : World} (hQ : cutsS 50 40 ls = Ql) (hQL : Ql.length ≤ 50) (hri : rightB Ql = true) (h4 : Ql.length ≤ 4096) (h32 : ∀ s ∈ Ql, s.length = 32) (hx : x < 0) (L0 : 0 < w.heap.size) (R0_0 : w.rangeAt 0 0 kcells) (hvls : RowS w vls ls) :
    Calls Tryd.prog 9 #[vls, .int .i64 x, .int .i64 0] w fun e w' => e = .returned (.bool true) ∧ Below w.heap.size w w' := by
  go_enter Tryd.func9, Tryd.ntmps9
  have M := Mem.start w
  refine wp_seq_k (fun K1 hK1 => ?_)
  refine wp_region_seq ?_
  refine wpL_assign (v := .bool false) (by rfl) (by rfl) (by rfl) ?_
  simp only [putT, List.set]
  refine wpL_nil (no_panic ?_)
  refine hK1 _ _ ?_
  refine wp_seq_k (fun K3 hK3 => ?_)
  refine wp_region_seq ?_
  refine wpL_move (v := vls) (by rfl) (by rfl) (by rfl) ?_
  simp only [putT, List.set]
  refine wpL_callE (f := 46) (args := #[vls]) (R := MemRow w ((cutsS 50 40 ls).length) (scells (cutsS 50 40 ls))) (by rfl) (by rfl) rfl Tryd.func46 (by kernel_rfl) (by kernel_rfl) (few9_c (hvls.mem M)) (fun v9 w6 hv9 Sw6 => ?_)
  obtain ⟨g5, g5c, rfl, Cg5, M9⟩ := hv9
  replace M := M.call1 M9
  simp only [putT, List.set]
  refine wpL_assign (v := .slice (some ⟨g5, 0, none⟩) ((cutsS 50 40 ls).length) g5c) (by rfl) (by rfl) (by rfl) ?_
  simp only [putT, List.set]
  refine wpL_nil (no_panic ?_)
  simp only [hQ] at M
  simp only [hQ]
  rw [hQ] at Cg5
  refine hK3 _ _ ?_
  refine wp_seq_k (fun K7 hK7 => ?_)
  refine wp_region_seq ?_
  refine wpL_move (v := .slice (some ⟨g5, 0, none⟩) Ql.length g5c) (by rfl) (by rfl) (by rfl) ?_
  simp only [putT, List.set]
  refine wpL_move (v := .int .i64 x) (by rfl) (by rfl) (by rfl) ?_
  simp only [putT, List.set]
  refine wpL_chunk 4 (by rfl) (fun Lk hLk => ?_)
  simp only [List.take, List.drop]
  refine wpV_callf (v := .tuple #[.slice none 0 0, .int .i64 1]) (args := #[.slice (some ⟨g5, 0, none⟩) Ql.length g5c, .int .i64 x]) (by rfl) rfl Tryd.func47 (by kernel_rfl) (by kernel_rfl) rfl (fun W hW => by with_reducible exact Path_neg (l := Ql) hri hx (RowA.of ((M.sees hW).r 0 0 rfl rfl) ((M.sees hW).lt 0 rfl) (scells_len _).symm Cg5)) ?_
  simp only [putT, List.set]
  refine wpV_move (v := .tuple #[.slice none 0 0, .int .i64 1]) (by rfl) rfl rfl ?_
  simp only [putT, List.set]
  refine wpV_extract (v := .slice none 0 0) (by rfl) rfl rfl rfl ?_
  simp only [putT, List.set]
  refine wpV_extract (v := .int .i64 1) (by rfl) rfl rfl rfl ?_
  simp only [putT, List.set]
  refine wpV_nil (hLk _ (fun w9 Sw9 => ?_))
  clear hLk Lk
  simp only [List.take, List.drop]
  replace M := M.sees Sw9
  refine wpL_assign (v := .slice none 0 0) (by rfl) (by rfl) (by rfl) ?_
  simp only [putT, List.set]
  refine wpL_assign (v := .int .i64 1) (by rfl) (by rfl) (by rfl) ?_
  simp only [putT, List.set]
  refine wpL_nil (no_panic ?_)
  refine hK7 _ _ ?_
  refine wp_seq_k (fun K10 hK10 => ?_)
  refine wp_region_seq ?_
  refine wpL_move (v := .slice (some ⟨g5, 0, none⟩) Ql.length g5c) (by rfl) (by rfl) (by rfl) ?_
  simp only [putT, List.set]
  refine wpL_move (v := .int .i64 0) (by rfl) (by rfl) (by rfl) ?_
  simp only [putT, List.set]
  refine wpL_chunk 4 (by rfl) (fun Lk hLk => ?_)
  simp only [List.take, List.drop]
  refine wpV_callf (v := .tuple #[.slice none 0 0, .int .i64 0]) (args := #[.slice (some ⟨g5, 0, none⟩) Ql.length g5c, .int .i64 0]) (by rfl) rfl Tryd.func48 (by kernel_rfl) (by kernel_rfl) rfl (fun W hW => by with_reducible exact Step_zero (l := Ql) hri (RowA.of ((M.sees hW).r 0 0 rfl rfl) ((M.sees hW).lt 0 rfl) (scells_len _).symm Cg5)) ?_
  simp only [putT, List.set]
  refine wpV_move (v := .tuple #[.slice none 0 0, .int .i64 0]) (by rfl) rfl rfl ?_
  simp only [putT, List.set]
  refine wpV_extract (v := .slice none 0 0) (by rfl) rfl rfl rfl ?_
  simp only [putT, List.set]
  refine wpV_extract (v := .int .i64 0) (by rfl) rfl rfl rfl ?_
  simp only [putT, List.set]
  refine wpV_nil (hLk _ (fun w12 Sw12 => ?_))
  clear hLk Lk
  simp only [List.take, List.drop]
  replace M := M.sees Sw12
  refine wpL_assign (v := .slice none 0 0) (by rfl) (by rfl) (by rfl) ?_
  simp only [putT, List.set]
  refine wpL_assign (v := .int .i64 0) (by rfl) (by rfl) (by rfl) ?_
  simp only [putT, List.set]
  refine wpL_nil (no_panic ?_)
  refine hK10 _ _ ?_
  refine wp_seq_k (fun K13 hK13 => ?_)
  refine wp_seq_k (fun K14 hK14 => ?_)
  refine wp_region_seq ?_
  refine wpL_move (v := .slice (some ⟨g5, 0, none⟩) Ql.length g5c) (by rfl) (by rfl) (by rfl) ?_
  simp only [putT, List.set]
  refine wpL_chunk 2 (by rfl) (fun Lk hLk => ?_)
  simp only [List.take, List.drop]
  refine wpV_callf (v := .bool true) (args := #[.slice (some ⟨g5, 0, none⟩) Ql.length g5c]) (by rfl) rfl Tryd.func43 (by kernel_rfl) (by kernel_rfl) rfl (fun W hW => by have h9 : Calls Tryd.prog _ _ W _ := rright_r (ps := Ql) (by omega) (RowA.of ((M.sees hW).r 0 0 rfl rfl) ((M.sees hW).lt 0 rfl) (scells_len _).symm Cg5); rw [hri] at h9; exact h9) ?_
  simp only [putT, List.set]
  refine wpV_not (b := true) (by rfl) rfl rfl ?_
  simp only [Bool.not_true, Bool.not_false]
  simp only [putT, List.set]
  refine wpV_nil (hLk _ (fun w16 Sw16 => ?_))
  clear hLk Lk
  simp only [List.take, List.drop]
  replace M := M.sees Sw16
  refine wpL_nil (no_panic ?_)
  refine hK14 _ _ ?_
  refine wp_cond_false rfl ?_
  refine wp_skip ?_
  refine hK13 _ _ ?_
  refine wp_seq_k (fun K17 hK17 => ?_)
  refine wp_seq_k (fun K18 hK18 => ?_)
  refine wp_region_seq ?_
  refine wpL_move (v := .int .i64 x) (by rfl) (by rfl) (by rfl) ?_
  simp only [putT, List.set]
  refine wpL_chunk 7 (by rfl) (fun Lk hLk => ?_)
  simp only [List.take, List.drop]
  refine wpV_bin (v := .bool true) (by rfl) rfl rfl rfl (fun W => (run_lss _ _ _ _ W).trans (by rw [(decide_eq_true hx)])) ?_
  simp only [putT, List.set]
  refine wpV_move (v := .bool true) (by rfl) rfl rfl ?_
  simp only [putT, List.set]
  refine wpV_skip (by rfl) (by rfl) ?_
  simp only [putT, List.set]
  refine wpV_skip (by rfl) (by rfl) ?_
  simp only [putT, List.set]
  refine wpV_skip (by rfl) (by rfl) ?_
  simp only [putT, List.set]
  refine wpV_skip (by rfl) (by rfl) ?_
  simp only [putT, List.set]
  refine wpV_pick (v := .bool true) (by rfl) rfl rfl rfl ?_
  simp only [putT, List.set]
  refine wpV_nil (hLk _ (fun w20 Sw20 => ?_))
  clear hLk Lk
  simp only [List.take, List.drop]
  replace M := M.sees Sw20
  refine wpL_nil (no_panic ?_)
  refine hK18 _ _ ?_
  refine wp_cond_true rfl ?_
  refine wp_seq_k (fun K21 hK21 => ?_)
  refine wp_region_seq ?_
  refine wpL_move (v := .int .i64 1) (by rfl) (by rfl) (by rfl) ?_
  simp only [putT, List.set]
  refine wpL_chunk 6 (by rfl) (fun Lk hLk => ?_)
  simp only [List.take, List.drop]
  refine wpV_bin (v := .bool false) (by rfl) rfl rfl rfl (fun W => run_neq _ _ _ _ W) ?_
  simp only [putT, List.set]
  refine wpV_move (v := .bool false) (by rfl) rfl rfl ?_
  simp only [putT, List.set]
  refine wpV_move (v := .slice none 0 0) (by rfl) rfl rfl ?_
  simp only [putT, List.set]
  refine wpV_lenA (n := 0) (by rfl) rfl rfl rfl Tryd.underlying48 ?_
  simp only [putT, List.set]
  refine wpV_bin (v := .bool false) (by rfl) rfl rfl rfl (fun W => run_neq _ _ _ _ W) ?_
  simp only [putT, List.set]
  refine wpV_pick (v := .bool false) (by rfl) rfl rfl rfl ?_
  simp only [putT, List.set]
  refine wpV_nil (hLk _ (fun w23 Sw23 => ?_))
  clear hLk Lk
  simp only [List.take, List.drop]
  replace M := M.sees Sw23
  refine wpL_nil (no_panic ?_)
  refine hK21 _ _ ?_
  refine wp_cond_false rfl ?_
  refine wp_skip ?_
  refine hK17 _ _ ?_
  refine wp_seq_k (fun K24 hK24 => ?_)
  refine wp_seq_k (fun K25 hK25 => ?_)
  refine wp_region_seq ?_
  refine wpL_move (v := .int .i64 0) (by rfl) (by rfl) (by rfl) ?_
  simp only [putT, List.set]
  refine wpL_chunk 7 (by rfl) (fun Lk hLk => ?_)
  simp only [List.take, List.drop]
  refine wpV_bin (v := .bool false) (by rfl) rfl rfl rfl (fun W => run_lss _ _ _ _ W) ?_
  simp only [putT, List.set]
  refine wpV_move (v := .bool false) (by rfl) rfl rfl ?_
  simp only [putT, List.set]
  refine wpV_move (v := .int .i64 0) (by rfl) rfl rfl ?_
  simp only [putT, List.set]
  refine wpV_move (v := .slice (some ⟨g5, 0, none⟩) Ql.length g5c) (by rfl) rfl rfl ?_
  simp only [putT, List.set]
  refine wpV_lenA (n := Ql.length) (by rfl) rfl rfl rfl Tryd.underlying48 ?_
  simp only [putT, List.set]
  refine wpV_bin (v := .bool false) (by rfl) rfl rfl rfl (fun W => (run_gtrN 0 Ql.length _ _ W).trans (by rw [(decide_eq_false (Nat.not_lt_zero _))])) ?_
  simp only [putT, List.set]
  refine wpV_pick (v := .bool false) (by rfl) rfl rfl rfl ?_
  simp only [putT, List.set]
  refine wpV_nil (hLk _ (fun w27 Sw27 => ?_))
  clear hLk Lk
  simp only [List.take, List.drop]
  replace M := M.sees Sw27
  refine wpL_nil (no_panic ?_)
  refine hK25 _ _ ?_
  refine wp_cond_false rfl ?_
  refine wp_skip ?_
  refine hK24 _ _ ?_
  refine wp_seq_k (fun K28 hK28 => ?_)
  refine wp_seq_k (fun K29 hK29 => ?_)
  refine wp_region_seq ?_
  refine wpL_move (v := .int .i64 0) (by rfl) (by rfl) (by rfl) ?_
  simp only [putT, List.set]
  refine wpL_chunk 1 (by rfl) (fun Lk hLk => ?_)
  simp only [List.take, List.drop]
  refine wpV_bin (v := .bool true) (by rfl) rfl rfl rfl (fun W => run_eql _ _ _ _ W) ?_
  simp only [putT, List.set]
  refine wpV_nil (hLk _ (fun w31 Sw31 => ?_))
  clear hLk Lk
  simp only [List.take, List.drop]
  replace M := M.sees Sw31
  refine wpL_nil (no_panic ?_)
  refine hK29 _ _ ?_
  refine wp_cond_true rfl ?_
  refine wp_seq_k (fun K32 hK32 => ?_)
  refine wp_region_seq ?_
  refine wpL_chunk 10 (by rfl) (fun Lk hLk => ?_)
  simp only [List.take, List.drop]
  refine wpV_callf (v := .bool true) (args := #[]) (by rfl) rfl Tryd.func49 (by kernel_rfl) (by kernel_rfl) rfl (fun W hW => alive09_c ((M.sees hW).oldL L0) ((M.sees hW).oldR R0_0 L0)) ?_
  simp only [putT, List.set]
  refine wpV_move (v := .bool true) (by rfl) rfl rfl ?_
  simp only [putT, List.set]
  refine wpV_move (v := .int .i64 0) (by rfl) rfl rfl ?_
  simp only [putT, List.set]
  refine wpV_bin (v := .bool true) (by rfl) rfl rfl rfl (fun W => run_eql _ _ _ _ W) ?_
  simp only [putT, List.set]
  refine wpV_pick (v := .bool true) (by rfl) rfl rfl rfl ?_
  simp only [putT, List.set]
  refine wpV_move (v := .bool true) (by rfl) rfl rfl ?_
  simp only [putT, List.set]
  refine wpV_move (v := .slice none 0 0) (by rfl) rfl rfl ?_
  simp only [putT, List.set]
  refine wpV_lenA (n := 0) (by rfl) rfl rfl rfl Tryd.underlying48 ?_
  simp only [putT, List.set]
  refine wpV_bin (v := .bool true) (by rfl) rfl rfl rfl (fun W => run_eql _ _ _ _ W) ?_
  simp only [putT, List.set]
  refine wpV_pick (v := .bool true) (by rfl) rfl rfl rfl ?_
  simp only [putT, List.set]
  refine wpV_nil (hLk _ (fun w34 Sw34 => ?_))
  clear hLk Lk
  simp only [List.take, List.drop]
  replace M := M.sees Sw34
  refine wpL_assign (v := .bool true) (by rfl) (by rfl) (by rfl) ?_
  simp only [putT, List.set]
  refine wpL_nil (no_panic ?_)
  refine hK32 _ _ ?_
  refine wp_ret ?_
  repeat (first | with_reducible refine then_ret ?_ | with_reducible refine inblock_ret ?_)
  refine bodyPost_ret (v := .bool true) (res1 rfl (.tmp (by rfl))) rfl ?_
  have BE := M.below
  exact ⟨rfl, BE⟩
set_option maxRecDepth 100000 in
set_option maxHeartbeats 4000000 in
theorem makes_neg_far {vls : Value} {ls Ql : List (List UInt8)} {x : Int} {m : Nat} {w : World} (hQ : cutsS 50 40 ls = Ql) (hQL : Ql.length ≤ 50) (hri : rightB Ql = true) (h4 : Ql.length ≤ 4096) (h32 : ∀ s ∈ Ql, s.length = 32) (hx : x < 0) (hy : Ql.length < m) (L0 : 0 < w.heap.size) (R0_0 : w.rangeAt 0 0 kcells) (hvls : RowS w vls ls) :
    Calls Tryd.prog 9 #[vls, .int .i64 x, .int .i64 ((m : Nat) : Int)] w fun e w' => e = .returned (.bool true) ∧ Below w.heap.size w w' := by
  go_enter Tryd.func9, Tryd.ntmps9
  have M := Mem.start w
  refine wp_seq_k (fun K1 hK1 => ?_)
  refine wp_region_seq ?_
  refine wpL_assign (v := .bool false) (by rfl) (by rfl) (by rfl) ?_
  simp only [putT, List.set]
  refine wpL_nil (no_panic ?_)
  refine hK1 _ _ ?_
  refine wp_seq_k (fun K3 hK3 => ?_)
  refine wp_region_seq ?_
  refine wpL_move (v := vls) (by rfl) (by rfl) (by rfl) ?_
  simp only [putT, List.set]
  refine wpL_callE (f := 46) (args := #[vls]) (R := MemRow w ((cutsS 50 40 ls).length) (scells (cutsS 50 40 ls))) (by rfl) (by rfl) rfl Tryd.func46 (by kernel_rfl) (by kernel_rfl) (few9_c (hvls.mem M)) (fun v9 w6 hv9 Sw6 => ?_)
  obtain ⟨g5, g5c, rfl, Cg5, M9⟩ := hv9
  replace M := M.call1 M9
  simp only [putT, List.set]
  refine wpL_assign (v := .slice (some ⟨g5, 0, none⟩) ((cutsS 50 40 ls).length) g5c) (by rfl) (by rfl) (by rfl) ?_
  simp only [putT, List.set]
  refine wpL_nil (no_panic ?_)
  simp only [hQ] at M
  simp only [hQ]
  rw [hQ] at Cg5
  refine hK3 _ _ ?_
  refine wp_seq_k (fun K7 hK7 => ?_)
  refine wp_region_seq ?_
  refine wpL_move (v := .slice (some ⟨g5, 0, none⟩) Ql.length g5c) (by rfl) (by rfl) (by rfl) ?_
  simp only [putT, List.set]
  refine wpL_move (v := .int .i64 x) (by rfl) (by rfl) (by rfl) ?_
  simp only [putT, List.set]
  refine wpL_chunk 4 (by rfl) (fun Lk hLk => ?_)
  simp only [List.take, List.drop]
  refine wpV_callf (v := .tuple #[.slice none 0 0, .int .i64 1]) (args := #[.slice (some ⟨g5, 0, none⟩) Ql.length g5c, .int .i64 x]) (by rfl) rfl Tryd.func47 (by kernel_rfl) (by kernel_rfl) rfl (fun W hW => by with_reducible exact Path_neg (l := Ql) hri hx (RowA.of ((M.sees hW).r 0 0 rfl rfl) ((M.sees hW).lt 0 rfl) (scells_len _).symm Cg5)) ?_
  simp only [putT, List.set]
  refine wpV_move (v := .tuple #[.slice none 0 0, .int .i64 1]) (by rfl) rfl rfl ?_
  simp only [putT, List.set]
  refine wpV_extract (v := .slice none 0 0) (by rfl) rfl rfl rfl ?_
  simp only [putT, List.set]
  refine wpV_extract (v := .int .i64 1) (by rfl) rfl rfl rfl ?_
  simp only [putT, List.set]
  refine wpV_nil (hLk _ (fun w9 Sw9 => ?_))
  clear hLk Lk
  simp only [List.take, List.drop]
  replace M := M.sees Sw9
  refine wpL_assign (v := .slice none 0 0) (by rfl) (by rfl) (by rfl) ?_
  simp only [putT, List.set]
  refine wpL_assign (v := .int .i64 1) (by rfl) (by rfl) (by rfl) ?_
  simp only [putT, List.set]
  refine wpL_nil (no_panic ?_)
  refine hK7 _ _ ?_
  refine wp_seq_k (fun K10 hK10 => ?_)
  refine wp_region_seq ?_
  refine wpL_move (v := .slice (some ⟨g5, 0, none⟩) Ql.length g5c) (by rfl) (by rfl) (by rfl) ?_
  simp only [putT, List.set]
  refine wpL_move (v := .int .i64 ((m : Nat) : Int)) (by rfl) (by rfl) (by rfl) ?_
  simp only [putT, List.set]
  refine wpL_chunk 4 (by rfl) (fun Lk hLk => ?_)
  simp only [List.take, List.drop]
  refine wpV_callf (v := .tuple #[.slice none 0 0, .int .i64 1]) (args := #[.slice (some ⟨g5, 0, none⟩) Ql.length g5c, .int .i64 ((m : Nat) : Int)]) (by rfl) rfl Tryd.func48 (by kernel_rfl) (by kernel_rfl) rfl (fun W hW => by with_reducible exact Step_far (l := Ql) hri hy (RowA.of ((M.sees hW).r 0 0 rfl rfl) ((M.sees hW).lt 0 rfl) (scells_len _).symm Cg5)) ?_
  simp only [putT, List.set]
  refine wpV_move (v := .tuple #[.slice none 0 0, .int .i64 1]) (by rfl) rfl rfl ?_
  simp only [putT, List.set]
  refine wpV_extract (v := .slice none 0 0) (by rfl) rfl rfl rfl ?_
  simp only [putT, List.set]
  refine wpV_extract (v := .int .i64 1) (by rfl) rfl rfl rfl ?_
  simp only [putT, List.set]
  refine wpV_nil (hLk _ (fun w12 Sw12 => ?_))
  clear hLk Lk
  simp only [List.take, List.drop]
  replace M := M.sees Sw12
  refine wpL_assign (v := .slice none 0 0) (by rfl) (by rfl) (by rfl) ?_
  simp only [putT, List.set]
  refine wpL_assign (v := .int .i64 1) (by rfl) (by rfl) (by rfl) ?_
  simp only [putT, List.set]
  refine wpL_nil (no_panic ?_)
  refine hK10 _ _ ?_
  refine wp_seq_k (fun K13 hK13 => ?_)
  refine wp_seq_k (fun K14 hK14 => ?_)
  refine wp_region_seq ?_
  refine wpL_move (v := .slice (some ⟨g5, 0, none⟩) Ql.length g5c) (by rfl) (by rfl) (by rfl) ?_
  simp only [putT, List.set]
  refine wpL_chunk 2 (by rfl) (fun Lk hLk => ?_)
  simp only [List.take, List.drop]
  refine wpV_callf (v := .bool true) (args := #[.slice (some ⟨g5, 0, none⟩) Ql.length g5c]) (by rfl) rfl Tryd.func43 (by kernel_rfl) (by kernel_rfl) rfl (fun W hW => by have h9 : Calls Tryd.prog _ _ W _ := rright_r (ps := Ql) (by omega) (RowA.of ((M.sees hW).r 0 0 rfl rfl) ((M.sees hW).lt 0 rfl) (scells_len _).symm Cg5); rw [hri] at h9; exact h9) ?_
  simp only [putT, List.set]
  refine wpV_not (b := true) (by rfl) rfl rfl ?_
  simp only [Bool.not_true, Bool.not_false]
  simp only [putT, List.set]
  refine wpV_nil (hLk _ (fun w16 Sw16 => ?_))
  clear hLk Lk
  simp only [List.take, List.drop]
  replace M := M.sees Sw16
  refine wpL_nil (no_panic ?_)
  refine hK14 _ _ ?_
  refine wp_cond_false rfl ?_
  refine wp_skip ?_
  refine hK13 _ _ ?_
  refine wp_seq_k (fun K17 hK17 => ?_)
  refine wp_seq_k (fun K18 hK18 => ?_)
  refine wp_region_seq ?_
  refine wpL_move (v := .int .i64 x) (by rfl) (by rfl) (by rfl) ?_
  simp only [putT, List.set]
  refine wpL_chunk 7 (by rfl) (fun Lk hLk => ?_)
  simp only [List.take, List.drop]
  refine wpV_bin (v := .bool true) (by rfl) rfl rfl rfl (fun W => (run_lss _ _ _ _ W).trans (by rw [(decide_eq_true hx)])) ?_
  simp only [putT, List.set]
  refine wpV_move (v := .bool true) (by rfl) rfl rfl ?_
  simp only [putT, List.set]
  refine wpV_skip (by rfl) (by rfl) ?_
  simp only [putT, List.set]
  refine wpV_skip (by rfl) (by rfl) ?_
  simp only [putT, List.set]
  refine wpV_skip (by rfl) (by rfl) ?_
  simp only [putT, List.set]
  refine wpV_skip (by rfl) (by rfl) ?_
  simp only [putT, List.set]
  refine wpV_pick (v := .bool true) (by rfl) rfl rfl rfl ?_
  simp only [putT, List.set]
  refine wpV_nil (hLk _ (fun w20 Sw20 => ?_))
  clear hLk Lk
  simp only [List.take, List.drop]
  replace M := M.sees Sw20
  refine wpL_nil (no_panic ?_)
  refine hK18 _ _ ?_
  refine wp_cond_true rfl ?_
  refine wp_seq_k (fun K21 hK21 => ?_)
  refine wp_region_seq ?_
  refine wpL_move (v := .int .i64 1) (by rfl) (by rfl) (by rfl) ?_
  simp only [putT, List.set]
  refine wpL_chunk 6 (by rfl) (fun Lk hLk => ?_)
  simp only [List.take, List.drop]
  refine wpV_bin (v := .bool false) (by rfl) rfl rfl rfl (fun W => run_neq _ _ _ _ W) ?_
  simp only [putT, List.set]
  refine wpV_move (v := .bool false) (by rfl) rfl rfl ?_
  simp only [putT, List.set]
  refine wpV_move (v := .slice none 0 0) (by rfl) rfl rfl ?_
  simp only [putT, List.set]
  refine wpV_lenA (n := 0) (by rfl) rfl rfl rfl Tryd.underlying48 ?_
  simp only [putT, List.set]
  refine wpV_bin (v := .bool false) (by rfl) rfl rfl rfl (fun W => run_neq _ _ _ _ W) ?_
  simp only [putT, List.set]
  refine wpV_pick (v := .bool false) (by rfl) rfl rfl rfl ?_
  simp only [putT, List.set]
  refine wpV_nil (hLk _ (fun w23 Sw23 => ?_))
  clear hLk Lk
  simp only [List.take, List.drop]
  replace M := M.sees Sw23
  refine wpL_nil (no_panic ?_)
  refine hK21 _ _ ?_
  refine wp_cond_false rfl ?_
  refine wp_skip ?_
  refine hK17 _ _ ?_
  refine wp_seq_k (fun K24 hK24 => ?_)
  refine wp_seq_k (fun K25 hK25 => ?_)
  refine wp_region_seq ?_
  refine wpL_move (v := .int .i64 ((m : Nat) : Int)) (by rfl) (by rfl) (by rfl) ?_
  simp only [putT, List.set]
  refine wpL_chunk 7 (by rfl) (fun Lk hLk => ?_)
  simp only [List.take, List.drop]
  refine wpV_bin (v := .bool false) (by rfl) rfl rfl rfl (fun W => (run_lssN m 0 _ _ W).trans (by rw [(decide_eq_false (Nat.not_lt_zero m))])) ?_
  simp only [putT, List.set]
  refine wpV_move (v := .bool false) (by rfl) rfl rfl ?_
  simp only [putT, List.set]
  refine wpV_move (v := .int .i64 ((m : Nat) : Int)) (by rfl) rfl rfl ?_
  simp only [putT, List.set]
  refine wpV_move (v := .slice (some ⟨g5, 0, none⟩) Ql.length g5c) (by rfl) rfl rfl ?_
  simp only [putT, List.set]
  refine wpV_lenA (n := Ql.length) (by rfl) rfl rfl rfl Tryd.underlying48 ?_
  simp only [putT, List.set]
  refine wpV_bin (v := .bool true) (by rfl) rfl rfl rfl (fun W => (run_gtrN m Ql.length _ _ W).trans (by rw [(decide_eq_true hy)])) ?_
  simp only [putT, List.set]
  refine wpV_pick (v := .bool true) (by rfl) rfl rfl rfl ?_
  simp only [putT, List.set]
  refine wpV_nil (hLk _ (fun w27 Sw27 => ?_))
  clear hLk Lk
  simp only [List.take, List.drop]
  replace M := M.sees Sw27
  refine wpL_nil (no_panic ?_)
  refine hK25 _ _ ?_
  refine wp_cond_true rfl ?_
  refine wp_seq_k (fun K28 hK28 => ?_)
  refine wp_region_seq ?_
  refine wpL_chunk 10 (by rfl) (fun Lk hLk => ?_)
  simp only [List.take, List.drop]
  refine wpV_callf (v := .bool true) (args := #[]) (by rfl) rfl Tryd.func49 (by kernel_rfl) (by kernel_rfl) rfl (fun W hW => alive09_c ((M.sees hW).oldL L0) ((M.sees hW).oldR R0_0 L0)) ?_
  simp only [putT, List.set]
  refine wpV_move (v := .bool true) (by rfl) rfl rfl ?_
  simp only [putT, List.set]
  refine wpV_move (v := .int .i64 1) (by rfl) rfl rfl ?_
  simp only [putT, List.set]
  refine wpV_bin (v := .bool true) (by rfl) rfl rfl rfl (fun W => run_eql _ _ _ _ W) ?_
  simp only [putT, List.set]
  refine wpV_pick (v := .bool true) (by rfl) rfl rfl rfl ?_
  simp only [putT, List.set]
  refine wpV_move (v := .bool true) (by rfl) rfl rfl ?_
  simp only [putT, List.set]
  refine wpV_move (v := .slice none 0 0) (by rfl) rfl rfl ?_
  simp only [putT, List.set]
  refine wpV_lenA (n := 0) (by rfl) rfl rfl rfl Tryd.underlying48 ?_
  simp only [putT, List.set]
  refine wpV_bin (v := .bool true) (by rfl) rfl rfl rfl (fun W => run_eql _ _ _ _ W) ?_
  simp only [putT, List.set]
  refine wpV_pick (v := .bool true) (by rfl) rfl rfl rfl ?_
  simp only [putT, List.set]
  refine wpV_nil (hLk _ (fun w30 Sw30 => ?_))
  clear hLk Lk
  simp only [List.take, List.drop]
  replace M := M.sees Sw30
  refine wpL_assign (v := .bool true) (by rfl) (by rfl) (by rfl) ?_
  simp only [putT, List.set]
  refine wpL_nil (no_panic ?_)
  refine hK28 _ _ ?_
  refine wp_ret ?_
  repeat (first | with_reducible refine then_ret ?_ | with_reducible refine inblock_ret ?_)
  refine bodyPost_ret (v := .bool true) (res1 rfl (.tmp (by rfl))) rfl ?_
  have BE := M.below
  exact ⟨rfl, BE⟩
set_option maxRecDepth 100000 in
set_option maxHeartbeats 4000000 in
theorem makes_neg_all {vls : Value} {ls Ql : List (List UInt8)} {x : Int} {m : Nat} {w : World} (hQ : cutsS 50 40 ls = Ql) (hQL : Ql.length ≤ 50) (hri : rightB Ql = true) (h4 : Ql.length ≤ 4096) (h32 : ∀ s ∈ Ql, s.length = 32) (hx : x < 0) (hm1 : 1 ≤ m) (hy : m = Ql.length) (L0 : 0 < w.heap.size) (R0_0 : w.rangeAt 0 0 kcells) (hvls : RowS w vls ls) :
    Calls Tryd.prog 9 #[vls, .int .i64 x, .int .i64 ((m : Nat) : Int)] w fun e w' => e = .returned (.bool true) ∧ Below w.heap.size w w' := by
  go_enter Tryd.func9, Tryd.ntmps9
  have M := Mem.start w
  refine wp_seq_k (fun K1 hK1 => ?_)
  refine wp_region_seq ?_
  refine wpL_assign (v := .bool false) (by rfl) (by rfl) (by rfl) ?_
  simp only [putT, List.set]
  refine wpL_nil (no_panic ?_)
  refine hK1 _ _ ?_
  refine wp_seq_k (fun K3 hK3 => ?_)
  refine wp_region_seq ?_
  refine wpL_move (v := vls) (by rfl) (by rfl) (by rfl) ?_
  simp only [putT, List.set]
  refine wpL_callE (f := 46) (args := #[vls]) (R := MemRow w ((cutsS 50 40 ls).length) (scells (cutsS 50 40 ls))) (by rfl) (by rfl) rfl Tryd.func46 (by kernel_rfl) (by kernel_rfl) (few9_c (hvls.mem M)) (fun v9 w6 hv9 Sw6 => ?_)
  obtain ⟨g5, g5c, rfl, Cg5, M9⟩ := hv9
  replace M := M.call1 M9
  simp only [putT, List.set]
  refine wpL_assign (v := .slice (some ⟨g5, 0, none⟩) ((cutsS 50 40 ls).length) g5c) (by rfl) (by rfl) (by rfl) ?_
  simp only [putT, List.set]
  refine wpL_nil (no_panic ?_)
  simp only [hQ] at M
  simp only [hQ]
  rw [hQ] at Cg5
  refine hK3 _ _ ?_
  refine wp_seq_k (fun K7 hK7 => ?_)
  refine wp_region_seq ?_
  refine wpL_move (v := .slice (some ⟨g5, 0, none⟩) Ql.length g5c) (by rfl) (by rfl) (by rfl) ?_
  simp only [putT, List.set]
  refine wpL_move (v := .int .i64 x) (by rfl) (by rfl) (by rfl) ?_
  simp only [putT, List.set]
  refine wpL_chunk 4 (by rfl) (fun Lk hLk => ?_)
  simp only [List.take, List.drop]
  refine wpV_callf (v := .tuple #[.slice none 0 0, .int .i64 1]) (args := #[.slice (some ⟨g5, 0, none⟩) Ql.length g5c, .int .i64 x]) (by rfl) rfl Tryd.func47 (by kernel_rfl) (by kernel_rfl) rfl (fun W hW => by with_reducible exact Path_neg (l := Ql) hri hx (RowA.of ((M.sees hW).r 0 0 rfl rfl) ((M.sees hW).lt 0 rfl) (scells_len _).symm Cg5)) ?_
  simp only [putT, List.set]
  refine wpV_move (v := .tuple #[.slice none 0 0, .int .i64 1]) (by rfl) rfl rfl ?_
  simp only [putT, List.set]
  refine wpV_extract (v := .slice none 0 0) (by rfl) rfl rfl rfl ?_
  simp only [putT, List.set]
  refine wpV_extract (v := .int .i64 1) (by rfl) rfl rfl rfl ?_
  simp only [putT, List.set]
  refine wpV_nil (hLk _ (fun w9 Sw9 => ?_))
  clear hLk Lk
  simp only [List.take, List.drop]
  replace M := M.sees Sw9
  refine wpL_assign (v := .slice none 0 0) (by rfl) (by rfl) (by rfl) ?_
  simp only [putT, List.set]
  refine wpL_assign (v := .int .i64 1) (by rfl) (by rfl) (by rfl) ?_
  simp only [putT, List.set]
  refine wpL_nil (no_panic ?_)
  refine hK7 _ _ ?_
  refine wp_seq_k (fun K10 hK10 => ?_)
  refine wp_region_seq ?_
  refine wpL_move (v := .slice (some ⟨g5, 0, none⟩) Ql.length g5c) (by rfl) (by rfl) (by rfl) ?_
  simp only [putT, List.set]
  refine wpL_move (v := .int .i64 ((m : Nat) : Int)) (by rfl) (by rfl) (by rfl) ?_
  simp only [putT, List.set]
  refine wpL_chunk 4 (by rfl) (fun Lk hLk => ?_)
  simp only [List.take, List.drop]
  refine wpV_callf (v := .tuple #[.slice none 0 0, .int .i64 0]) (args := #[.slice (some ⟨g5, 0, none⟩) Ql.length g5c, .int .i64 ((m : Nat) : Int)]) (by rfl) rfl Tryd.func48 (by kernel_rfl) (by kernel_rfl) rfl (fun W hW => by with_reducible exact Step_full (l := Ql) hri hy (RowA.of ((M.sees hW).r 0 0 rfl rfl) ((M.sees hW).lt 0 rfl) (scells_len _).symm Cg5)) ?_
  simp only [putT, List.set]
  refine wpV_move (v := .tuple #[.slice none 0 0, .int .i64 0]) (by rfl) rfl rfl ?_
  simp only [putT, List.set]
  refine wpV_extract (v := .slice none 0 0) (by rfl) rfl rfl rfl ?_
  simp only [putT, List.set]
  refine wpV_extract (v := .int .i64 0) (by rfl) rfl rfl rfl ?_
  simp only [putT, List.set]
  refine wpV_nil (hLk _ (fun w12 Sw12 => ?_))
  clear hLk Lk
  simp only [List.take, List.drop]
  replace M := M.sees Sw12
  refine wpL_assign (v := .slice none 0 0) (by rfl) (by rfl) (by rfl) ?_
  simp only [putT, List.set]
  refine wpL_assign (v := .int .i64 0) (by rfl) (by rfl) (by rfl) ?_
  simp only [putT, List.set]
  refine wpL_nil (no_panic ?_)
  refine hK10 _ _ ?_
  refine wp_seq_k (fun K13 hK13 => ?_)
  refine wp_seq_k (fun K14 hK14 => ?_)
  refine wp_region_seq ?_
  refine wpL_move (v := .slice (some ⟨g5, 0, none⟩) Ql.length g5c) (by rfl) (by rfl) (by rfl) ?_
  simp only [putT, List.set]
  refine wpL_chunk 2 (by rfl) (fun Lk hLk => ?_)
  simp only [List.take, List.drop]
  refine wpV_callf (v := .bool true) (args := #[.slice (some ⟨g5, 0, none⟩) Ql.length g5c]) (by rfl) rfl Tryd.func43 (by kernel_rfl) (by kernel_rfl) rfl (fun W hW => by have h9 : Calls Tryd.prog _ _ W _ := rright_r (ps := Ql) (by omega) (RowA.of ((M.sees hW).r 0 0 rfl rfl) ((M.sees hW).lt 0 rfl) (scells_len _).symm Cg5); rw [hri] at h9; exact h9) ?_
  simp only [putT, List.set]
  refine wpV_not (b := true) (by rfl) rfl rfl ?_
  simp only [Bool.not_true, Bool.not_false]
  simp only [putT, List.set]
  refine wpV_nil (hLk _ (fun w16 Sw16 => ?_))
  clear hLk Lk
  simp only [List.take, List.drop]
  replace M := M.sees Sw16
  refine wpL_nil (no_panic ?_)
  refine hK14 _ _ ?_
  refine wp_cond_false rfl ?_
  refine wp_skip ?_
  refine hK13 _ _ ?_
  refine wp_seq_k (fun K17 hK17 => ?_)
  refine wp_seq_k (fun K18 hK18 => ?_)
  refine wp_region_seq ?_
  refine wpL_move (v := .int .i64 x) (by rfl) (by rfl) (by rfl) ?_
  simp only [putT, List.set]
  refine wpL_chunk 7 (by rfl) (fun Lk hLk => ?_)
  simp only [List.take, List.drop]
  refine wpV_bin (v := .bool true) (by rfl) rfl rfl rfl (fun W => (run_lss _ _ _ _ W).trans (by rw [(decide_eq_true hx)])) ?_
  simp only [putT, List.set]
  refine wpV_move (v := .bool true) (by rfl) rfl rfl ?_
  simp only [putT, List.set]
  refine wpV_skip (by rfl) (by rfl) ?_
  simp only [putT, List.set]
  refine wpV_skip (by rfl) (by rfl) ?_
  simp only [putT, List.set]
  refine wpV_skip (by rfl) (by rfl) ?_
  simp only [putT, List.set]
  refine wpV_skip (by rfl) (by rfl) ?_
  simp only [putT, List.set]
  refine wpV_pick (v := .bool true) (by rfl) rfl rfl rfl ?_
  simp only [putT, List.set]
  refine wpV_nil (hLk _ (fun w20 Sw20 => ?_))
  clear hLk Lk
  simp only [List.take, List.drop]
  replace M := M.sees Sw20
  refine wpL_nil (no_panic ?_)
  refine hK18 _ _ ?_
  refine wp_cond_true rfl ?_
  refine wp_seq_k (fun K21 hK21 => ?_)
  refine wp_region_seq ?_
  refine wpL_move (v := .int .i64 1) (by rfl) (by rfl) (by rfl) ?_
  simp only [putT, List.set]
  refine wpL_chunk 6 (by rfl) (fun Lk hLk => ?_)
  simp only [List.take, List.drop]
  refine wpV_bin (v := .bool false) (by rfl) rfl rfl rfl (fun W => run_neq _ _ _ _ W) ?_
  simp only [putT, List.set]
  refine wpV_move (v := .bool false) (by rfl) rfl rfl ?_
  simp only [putT, List.set]
  refine wpV_move (v := .slice none 0 0) (by rfl) rfl rfl ?_
  simp only [putT, List.set]
  refine wpV_lenA (n := 0) (by rfl) rfl rfl rfl Tryd.underlying48 ?_
  simp only [putT, List.set]
  refine wpV_bin (v := .bool false) (by rfl) rfl rfl rfl (fun W => run_neq _ _ _ _ W) ?_
  simp only [putT, List.set]
  refine wpV_pick (v := .bool false) (by rfl) rfl rfl rfl ?_
  simp only [putT, List.set]
  refine wpV_nil (hLk _ (fun w23 Sw23 => ?_))
  clear hLk Lk
  simp only [List.take, List.drop]
  replace M := M.sees Sw23
  refine wpL_nil (no_panic ?_)
  refine hK21 _ _ ?_
  refine wp_cond_false rfl ?_
  refine wp_skip ?_
  refine hK17 _ _ ?_
  refine wp_seq_k (fun K24 hK24 => ?_)
  refine wp_seq_k (fun K25 hK25 => ?_)
  refine wp_region_seq ?_
  refine wpL_move (v := .int .i64 ((m : Nat) : Int)) (by rfl) (by rfl) (by rfl) ?_
  simp only [putT, List.set]
  refine wpL_chunk 7 (by rfl) (fun Lk hLk => ?_)
  simp only [List.take, List.drop]
  refine wpV_bin (v := .bool false) (by rfl) rfl rfl rfl (fun W => (run_lssN m 0 _ _ W).trans (by rw [(decide_eq_false (Nat.not_lt_zero m))])) ?_
  simp only [putT, List.set]
  refine wpV_move (v := .bool false) (by rfl) rfl rfl ?_
  simp only [putT, List.set]
  refine wpV_move (v := .int .i64 ((m : Nat) : Int)) (by rfl) rfl rfl ?_
  simp only [putT, List.set]
  refine wpV_move (v := .slice (some ⟨g5, 0, none⟩) Ql.length g5c) (by rfl) rfl rfl ?_
  simp only [putT, List.set]
  refine wpV_lenA (n := Ql.length) (by rfl) rfl rfl rfl Tryd.underlying48 ?_
  simp only [putT, List.set]
  refine wpV_bin (v := .bool false) (by rfl) rfl rfl rfl (fun W => (run_gtrN m Ql.length _ _ W).trans (by rw [(decide_eq_false (by omega))])) ?_
  simp only [putT, List.set]
  refine wpV_pick (v := .bool false) (by rfl) rfl rfl rfl ?_
  simp only [putT, List.set]
  refine wpV_nil (hLk _ (fun w27 Sw27 => ?_))
  clear hLk Lk
  simp only [List.take, List.drop]
  replace M := M.sees Sw27
  refine wpL_nil (no_panic ?_)
  refine hK25 _ _ ?_
  refine wp_cond_false rfl ?_
  refine wp_skip ?_
  refine hK24 _ _ ?_
  refine wp_seq_k (fun K28 hK28 => ?_)
  refine wp_seq_k (fun K29 hK29 => ?_)
  refine wp_region_seq ?_
  refine wpL_move (v := .int .i64 ((m : Nat) : Int)) (by rfl) (by rfl) (by rfl) ?_
  simp only [putT, List.set]
  refine wpL_chunk 1 (by rfl) (fun Lk hLk => ?_)
  simp only [List.take, List.drop]
  refine wpV_bin (v := .bool false) (by rfl) rfl rfl rfl (fun W => (run_eqlN m 0 _ _ W).trans (by rw [(decide_eq_false (by omega))])) ?_
  simp only [putT, List.set]
  refine wpV_nil (hLk _ (fun w31 Sw31 => ?_))
  clear hLk Lk
  simp only [List.take, List.drop]
  replace M := M.sees Sw31
  refine wpL_nil (no_panic ?_)
  refine hK29 _ _ ?_
  refine wp_cond_false rfl ?_
  refine wp_skip ?_
  refine hK28 _ _ ?_
  refine wp_seq_k (fun K32 hK32 => ?_)
  refine wp_region_seq ?_
  refine wpL_chunk 9 (by rfl) (fun Lk hLk => ?_)
  simp only [List.take, List.drop]
  refine wpV_callf (v := .bool true) (args := #[]) (by rfl) rfl Tryd.func49 (by kernel_rfl) (by kernel_rfl) rfl (fun W hW => alive09_c ((M.sees hW).oldL L0) ((M.sees hW).oldR R0_0 L0)) ?_
  simp only [putT, List.set]
  refine wpV_move (v := .bool true) (by rfl) rfl rfl ?_
  simp only [putT, List.set]
  refine wpV_move (v := .int .i64 0) (by rfl) rfl rfl ?_
  simp only [putT, List.set]
  refine wpV_bin (v := .bool true) (by rfl) rfl rfl rfl (fun W => run_eql _ _ _ _ W) ?_
  simp only [putT, List.set]
  refine wpV_pick (v := .bool true) (by rfl) rfl rfl rfl ?_
  simp only [putT, List.set]
  refine wpV_move (v := .bool true) (by rfl) rfl rfl ?_
  simp only [putT, List.set]
  refine wpV_move (v := .slice none 0 0) (by rfl) rfl rfl ?_
  simp only [putT, List.set]
  refine wpV_move (v := .slice (some ⟨g5, 0, none⟩) Ql.length g5c) (by rfl) rfl rfl ?_
  simp only [putT, List.set]
  refine wpV_move (v := .int .i64 ((m : Nat) : Int)) (by rfl) rfl rfl ?_
  simp only [putT, List.set]
  refine wpV_nil (hLk _ (fun w34 Sw34 => ?_))
  clear hLk Lk
  simp only [List.take, List.drop]
  replace M := M.sees Sw34
  refine wpL_guard (by rfl) ?_
  refine wpL_callE (f := 52) (args := #[.slice (some ⟨g5, 0, none⟩) Ql.length g5c, .int .i64 ((m : Nat) : Int), .bool true]) (R := fun v9 W9 => ∃ g36 g36c, v9 = .slice (some ⟨g36, 0, none⟩) ((stepS Ql m true).length) g36c ∧ (stepS Ql m true).length ≤ g36c ∧ Mem [] w34 W9 [⟨g36, g36c, [(0, scells (stepS Ql m true))]⟩]) (by rfl) (by rfl) rfl Tryd.func52 (by kernel_rfl) (by kernel_rfl) (rStep_c _ (l := Ql) (i := m) (wh := true) rfl h4 h32 hm1 (by omega) (RowA.of (M.r 0 0 rfl rfl) (M.lt 0 rfl) (scells_len _).symm Cg5)) (fun v9 w35 hv9 Sw35 => ?_)
  obtain ⟨g36, g36c, rfl, Cg36, M9⟩ := hv9
  replace M := M.call1 M9
  clear Sw35
  simp only [putT, List.set]
  refine wpL_chunk 2 (by rfl) (fun Lk hLk => ?_)
  simp only [List.take, List.drop]
  refine wpV_callf (v := .bool true) (args := #[.slice none 0 0, .slice (some ⟨g36, 0, none⟩) ((stepS Ql m true).length) g36c]) (by rfl) rfl Tryd.func50 (by kernel_rfl) (by kernel_rfl) rfl (fun W hW => by have h9 : Calls Tryd.prog _ _ W _ := same_r (ps := []) (qs := stepS Ql m true) (by decide) RowA.nil (RowA.of ((M.sees hW).r 0 0 rfl rfl) ((M.sees hW).lt 0 rfl) (scells_len _).symm Cg36); rw [decide_eq_true (by rw [stepS_all (by omega)]; rfl)] at h9; exact h9) ?_
  simp only [putT, List.set]
  refine wpV_pick (v := .bool true) (by rfl) rfl rfl rfl ?_
  simp only [putT, List.set]
  refine wpV_nil (hLk _ (fun w37 Sw37 => ?_))
  clear hLk Lk
  simp only [List.take, List.drop]
  replace M := M.sees Sw37
  refine wpL_assign (v := .bool true) (by rfl) (by rfl) (by rfl) ?_
  simp only [putT, List.set]
  refine wpL_nil (no_panic ?_)
  refine hK32 _ _ ?_
  refine wp_ret ?_
  repeat (first | with_reducible refine then_ret ?_ | with_reducible refine inblock_ret ?_)
  refine bodyPost_ret (v := .bool true) (res1 rfl (.tmp (by rfl))) rfl ?_
  have BE := M.below
  exact ⟨rfl, BE⟩
set_option maxRecDepth 100000 in
set_option maxHeartbeats 4000000 in
theorem makes_neg_go {vls : Value} {ls Ql : List (List UInt8)} {x : Int} {m : Nat} {w : World} (hQ : cutsS 50 40 ls = Ql) (hQL : Ql.length ≤ 50) (hri : rightB Ql = true) (h4 : Ql.length ≤ 4096) (h32 : ∀ s ∈ Ql, s.length = 32) (hx : x < 0) (hm1 : 1 ≤ m) (hy : m < Ql.length) (L0 : 0 < w.heap.size) (R0_0 : w.rangeAt 0 0 kcells) (hvls : RowS w vls ls) :
    Calls Tryd.prog 9 #[vls, .int .i64 x, .int .i64 ((m : Nat) : Int)] w fun e w' => e = .returned (.bool true) ∧ Below w.heap.size w w' := by
  go_enter Tryd.func9, Tryd.ntmps9
  have M := Mem.start w
  refine wp_seq_k (fun K1 hK1 => ?_)
  refine wp_region_seq ?_
  refine wpL_assign (v := .bool false) (by rfl) (by rfl) (by rfl) ?_
  simp only [putT, List.set]
  refine wpL_nil (no_panic ?_)
  refine hK1 _ _ ?_
  refine wp_seq_k (fun K3 hK3 => ?_)
  refine wp_region_seq ?_
  refine wpL_move (v := vls) (by rfl) (by rfl) (by rfl) ?_
  simp only [putT, List.set]
  refine wpL_callE (f := 46) (args := #[vls]) (R := MemRow w ((cutsS 50 40 ls).length) (scells (cutsS 50 40 ls))) (by rfl) (by rfl) rfl Tryd.func46 (by kernel_rfl) (by kernel_rfl) (few9_c (hvls.mem M)) (fun v9 w6 hv9 Sw6 => ?_)
  obtain ⟨g5, g5c, rfl, Cg5, M9⟩ := hv9
  replace M := M.call1 M9
  simp only [putT, List.set]
  refine wpL_assign (v := .slice (some ⟨g5, 0, none⟩) ((cutsS 50 40 ls).length) g5c) (by rfl) (by rfl) (by rfl) ?_
  simp only [putT, List.set]
  refine wpL_nil (no_panic ?_)
  simp only [hQ] at M
  simp only [hQ]
  rw [hQ] at Cg5
  refine hK3 _ _ ?_
  refine wp_seq_k (fun K7 hK7 => ?_)
  refine wp_region_seq ?_
  refine wpL_move (v := .slice (some ⟨g5, 0, none⟩) Ql.length g5c) (by rfl) (by rfl) (by rfl) ?_
  simp only [putT, List.set]
  refine wpL_move (v := .int .i64 x) (by rfl) (by rfl) (by rfl) ?_
  simp only [putT, List.set]
  refine wpL_chunk 4 (by rfl) (fun Lk hLk => ?_)
  simp only [List.take, List.drop]
  refine wpV_callf (v := .tuple #[.slice none 0 0, .int .i64 1]) (args := #[.slice (some ⟨g5, 0, none⟩) Ql.length g5c, .int .i64 x]) (by rfl) rfl Tryd.func47 (by kernel_rfl) (by kernel_rfl) rfl (fun W hW => by with_reducible exact Path_neg (l := Ql) hri hx (RowA.of ((M.sees hW).r 0 0 rfl rfl) ((M.sees hW).lt 0 rfl) (scells_len _).symm Cg5)) ?_
  simp only [putT, List.set]
  refine wpV_move (v := .tuple #[.slice none 0 0, .int .i64 1]) (by rfl) rfl rfl ?_
  simp only [putT, List.set]
  refine wpV_extract (v := .slice none 0 0) (by rfl) rfl rfl rfl ?_
  simp only [putT, List.set]
  refine wpV_extract (v := .int .i64 1) (by rfl) rfl rfl rfl ?_
  simp only [putT, List.set]
  refine wpV_nil (hLk _ (fun w9 Sw9 => ?_))
  clear hLk Lk
  simp only [List.take, List.drop]
  replace M := M.sees Sw9
  refine wpL_assign (v := .slice none 0 0) (by rfl) (by rfl) (by rfl) ?_
  simp only [putT, List.set]
  refine wpL_assign (v := .int .i64 1) (by rfl) (by rfl) (by rfl) ?_
  simp only [putT, List.set]
  refine wpL_nil (no_panic ?_)
  refine hK7 _ _ ?_
  refine wp_seq_k (fun K10 hK10 => ?_)
  refine wp_region_seq ?_
  refine wpL_move (v := .slice (some ⟨g5, 0, none⟩) Ql.length g5c) (by rfl) (by rfl) (by rfl) ?_
  simp only [putT, List.set]
  refine wpL_move (v := .int .i64 ((m : Nat) : Int)) (by rfl) (by rfl) (by rfl) ?_
  simp only [putT, List.set]
  refine wpL_callE (f := 48) (args := #[.slice (some ⟨g5, 0, none⟩) Ql.length g5c, .int .i64 ((m : Nat) : Int)]) (R := fun v9 W9 => ∃ a13 c13, v9 = .tuple #[.slice a13 ((stepS Ql m true).length) c13, .int .i64 0] ∧ RowA W9 a13 (stepS Ql m true).length c13 (scells (stepS Ql m true))) (by rfl) (by rfl) rfl Tryd.func48 (by kernel_rfl) (by kernel_rfl) (Step_n (l := Ql) (m := m) hri hm1 hy (M.oldL L0) (M.oldR R0_0 L0) (RowA.of (M.r 0 0 rfl rfl) (M.lt 0 rfl) (scells_len _).symm Cg5)) (fun v9 w12 hv9 Sw12 => ?_)
  obtain ⟨a13, c13, rfl, H13_0⟩ := hv9
  replace M := M.sees Sw12
  replace R0_0 := M.oldR R0_0 L0
  replace L0 := M.oldL L0
  have Rg5_0 := M.r 0 0 rfl rfl
  have Lg5 := M.lt 0 rfl
  have BB := M.below
  replace M := Mem.start w12
  simp only [putT, List.set]
  refine wpL_move (v := .tuple #[.slice a13 ((stepS Ql m true).length) c13, .int .i64 0]) (by rfl) (by rfl) (by rfl) ?_
  simp only [putT, List.set]
  refine wpL_chunk 2 (by rfl) (fun Lk hLk => ?_)
  simp only [List.take, List.drop]
  refine wpV_extract (v := .slice a13 ((stepS Ql m true).length) c13) (by rfl) rfl rfl rfl ?_
  simp only [putT, List.set]
  refine wpV_extract (v := .int .i64 0) (by rfl) rfl rfl rfl ?_
  simp only [putT, List.set]
  refine wpV_nil (hLk _ (fun w14 Sw14 => ?_))
  clear hLk Lk
  simp only [List.take, List.drop]
  replace M := M.sees Sw14
  refine wpL_assign (v := .slice a13 ((stepS Ql m true).length) c13) (by rfl) (by rfl) (by rfl) ?_
  simp only [putT, List.set]
  refine wpL_assign (v := .int .i64 0) (by rfl) (by rfl) (by rfl) ?_
  simp only [putT, List.set]
  refine wpL_nil (no_panic ?_)
  refine hK10 _ _ ?_
  refine wp_seq_k (fun K15 hK15 => ?_)
  refine wp_seq_k (fun K16 hK16 => ?_)
  refine wp_region_seq ?_
  refine wpL_move (v := .slice (some ⟨g5, 0, none⟩) Ql.length g5c) (by rfl) (by rfl) (by rfl) ?_
  simp only [putT, List.set]
  refine wpL_chunk 2 (by rfl) (fun Lk hLk => ?_)
  simp only [List.take, List.drop]
  refine wpV_callf (v := .bool true) (args := #[.slice (some ⟨g5, 0, none⟩) Ql.length g5c]) (by rfl) rfl Tryd.func43 (by kernel_rfl) (by kernel_rfl) rfl (fun W hW => by have h9 : Calls Tryd.prog _ _ W _ := rright_r (ps := Ql) (by omega) (RowA.of ((M.sees hW).oldR Rg5_0 Lg5) ((M.sees hW).oldL Lg5) (scells_len _).symm Cg5); rw [hri] at h9; exact h9) ?_
  simp only [putT, List.set]
  refine wpV_not (b := true) (by rfl) rfl rfl ?_
  simp only [Bool.not_true, Bool.not_false]
  simp only [putT, List.set]
  refine wpV_nil (hLk _ (fun w18 Sw18 => ?_))
  clear hLk Lk
  simp only [List.take, List.drop]
  replace M := M.sees Sw18
  refine wpL_nil (no_panic ?_)
  refine hK16 _ _ ?_
  refine wp_cond_false rfl ?_
  refine wp_skip ?_
  refine hK15 _ _ ?_
  refine wp_seq_k (fun K19 hK19 => ?_)
  refine wp_seq_k (fun K20 hK20 => ?_)
  refine wp_region_seq ?_
  refine wpL_move (v := .int .i64 x) (by rfl) (by rfl) (by rfl) ?_
  simp only [putT, List.set]
  refine wpL_chunk 7 (by rfl) (fun Lk hLk => ?_)
  simp only [List.take, List.drop]
  refine wpV_bin (v := .bool true) (by rfl) rfl rfl rfl (fun W => (run_lss _ _ _ _ W).trans (by rw [(decide_eq_true hx)])) ?_
  simp only [putT, List.set]
  refine wpV_move (v := .bool true) (by rfl) rfl rfl ?_
  simp only [putT, List.set]
  refine wpV_skip (by rfl) (by rfl) ?_
  simp only [putT, List.set]
  refine wpV_skip (by rfl) (by rfl) ?_
  simp only [putT, List.set]
  refine wpV_skip (by rfl) (by rfl) ?_
  simp only [putT, List.set]
  refine wpV_skip (by rfl) (by rfl) ?_
  simp only [putT, List.set]
  refine wpV_pick (v := .bool true) (by rfl) rfl rfl rfl ?_
  simp only [putT, List.set]
  refine wpV_nil (hLk _ (fun w22 Sw22 => ?_))
  clear hLk Lk
  simp only [List.take, List.drop]
  replace M := M.sees Sw22
  refine wpL_nil (no_panic ?_)
  refine hK20 _ _ ?_
  refine wp_cond_true rfl ?_
  refine wp_seq_k (fun K23 hK23 => ?_)
  refine wp_region_seq ?_
  refine wpL_move (v := .int .i64 1) (by rfl) (by rfl) (by rfl) ?_
  simp only [putT, List.set]
  refine wpL_chunk 6 (by rfl) (fun Lk hLk => ?_)
  simp only [List.take, List.drop]
  refine wpV_bin (v := .bool false) (by rfl) rfl rfl rfl (fun W => run_neq _ _ _ _ W) ?_
  simp only [putT, List.set]
  refine wpV_move (v := .bool false) (by rfl) rfl rfl ?_
  simp only [putT, List.set]
  refine wpV_move (v := .slice none 0 0) (by rfl) rfl rfl ?_
  simp only [putT, List.set]
  refine wpV_lenA (n := 0) (by rfl) rfl rfl rfl Tryd.underlying48 ?_
  simp only [putT, List.set]
  refine wpV_bin (v := .bool false) (by rfl) rfl rfl rfl (fun W => run_neq _ _ _ _ W) ?_
  simp only [putT, List.set]
  refine wpV_pick (v := .bool false) (by rfl) rfl rfl rfl ?_
  simp only [putT, List.set]
  refine wpV_nil (hLk _ (fun w25 Sw25 => ?_))
  clear hLk Lk
  simp only [List.take, List.drop]
  replace M := M.sees Sw25
  refine wpL_nil (no_panic ?_)
  refine hK23 _ _ ?_
  refine wp_cond_false rfl ?_
  refine wp_skip ?_
  refine hK19 _ _ ?_
  refine wp_seq_k (fun K26 hK26 => ?_)
  refine wp_seq_k (fun K27 hK27 => ?_)
  refine wp_region_seq ?_
  refine wpL_move (v := .int .i64 ((m : Nat) : Int)) (by rfl) (by rfl) (by rfl) ?_
  simp only [putT, List.set]
  refine wpL_chunk 7 (by rfl) (fun Lk hLk => ?_)
  simp only [List.take, List.drop]
  refine wpV_bin (v := .bool false) (by rfl) rfl rfl rfl (fun W => (run_lssN m 0 _ _ W).trans (by rw [(decide_eq_false (Nat.not_lt_zero m))])) ?_
  simp only [putT, List.set]
  refine wpV_move (v := .bool false) (by rfl) rfl rfl ?_
  simp only [putT, List.set]
  refine wpV_move (v := .int .i64 ((m : Nat) : Int)) (by rfl) rfl rfl ?_
  simp only [putT, List.set]
  refine wpV_move (v := .slice (some ⟨g5, 0, none⟩) Ql.length g5c) (by rfl) rfl rfl ?_
  simp only [putT, List.set]
  refine wpV_lenA (n := Ql.length) (by rfl) rfl rfl rfl Tryd.underlying48 ?_
  simp only [putT, List.set]
  refine wpV_bin (v := .bool false) (by rfl) rfl rfl rfl (fun W => (run_gtrN m Ql.length _ _ W).trans (by rw [(decide_eq_false (by omega))])) ?_
  simp only [putT, List.set]
  refine wpV_pick (v := .bool false) (by rfl) rfl rfl rfl ?_
  simp only [putT, List.set]
  refine wpV_nil (hLk _ (fun w29 Sw29 => ?_))
  clear hLk Lk
  simp only [List.take, List.drop]
  replace M := M.sees Sw29
  refine wpL_nil (no_panic ?_)
  refine hK27 _ _ ?_
  refine wp_cond_false rfl ?_
  refine wp_skip ?_
  refine hK26 _ _ ?_
  refine wp_seq_k (fun K30 hK30 => ?_)
  refine wp_seq_k (fun K31 hK31 => ?_)
  refine wp_region_seq ?_
  refine wpL_move (v := .int .i64 ((m : Nat) : Int)) (by rfl) (by rfl) (by rfl) ?_
  simp only [putT, List.set]
  refine wpL_chunk 1 (by rfl) (fun Lk hLk => ?_)
  simp only [List.take, List.drop]
  refine wpV_bin (v := .bool false) (by rfl) rfl rfl rfl (fun W => (run_eqlN m 0 _ _ W).trans (by rw [(decide_eq_false (by omega))])) ?_
  simp only [putT, List.set]
  refine wpV_nil (hLk _ (fun w33 Sw33 => ?_))
  clear hLk Lk
  simp only [List.take, List.drop]
  replace M := M.sees Sw33
  refine wpL_nil (no_panic ?_)
  refine hK31 _ _ ?_
  refine wp_cond_false rfl ?_
  refine wp_skip ?_
  refine hK30 _ _ ?_
  refine wp_seq_k (fun K34 hK34 => ?_)
  refine wp_region_seq ?_
  refine wpL_chunk 9 (by rfl) (fun Lk hLk => ?_)
  simp only [List.take, List.drop]
  refine wpV_callf (v := .bool true) (args := #[]) (by rfl) rfl Tryd.func49 (by kernel_rfl) (by kernel_rfl) rfl (fun W hW => alive09_c ((M.sees hW).oldL L0) ((M.sees hW).oldR R0_0 L0)) ?_
  simp only [putT, List.set]
  refine wpV_move (v := .bool true) (by rfl) rfl rfl ?_
  simp only [putT, List.set]
  refine wpV_move (v := .int .i64 0) (by rfl) rfl rfl ?_
  simp only [putT, List.set]
  refine wpV_bin (v := .bool true) (by rfl) rfl rfl rfl (fun W => run_eql _ _ _ _ W) ?_
  simp only [putT, List.set]
  refine wpV_pick (v := .bool true) (by rfl) rfl rfl rfl ?_
  simp only [putT, List.set]
  refine wpV_move (v := .bool true) (by rfl) rfl rfl ?_
  simp only [putT, List.set]
  refine wpV_move (v := .slice a13 ((stepS Ql m true).length) c13) (by rfl) rfl rfl ?_
  simp only [putT, List.set]
  refine wpV_move (v := .slice (some ⟨g5, 0, none⟩) Ql.length g5c) (by rfl) rfl rfl ?_
  simp only [putT, List.set]
  refine wpV_move (v := .int .i64 ((m : Nat) : Int)) (by rfl) rfl rfl ?_
  simp only [putT, List.set]
  refine wpV_nil (hLk _ (fun w36 Sw36 => ?_))
  clear hLk Lk
  simp only [List.take, List.drop]
  replace M := M.sees Sw36
  refine wpL_guard (by rfl) ?_
  refine wpL_callE (f := 52) (args := #[.slice (some ⟨g5, 0, none⟩) Ql.length g5c, .int .i64 ((m : Nat) : Int), .bool true]) (R := fun v9 W9 => ∃ g38 g38c, v9 = .slice (some ⟨g38, 0, none⟩) ((stepS Ql m true).length) g38c ∧ (stepS Ql m true).length ≤ g38c ∧ Mem [] w36 W9 [⟨g38, g38c, [(0, scells (stepS Ql m true))]⟩]) (by rfl) (by rfl) rfl Tryd.func52 (by kernel_rfl) (by kernel_rfl) (rStep_c _ (l := Ql) (i := m) (wh := true) rfl h4 h32 hm1 (by omega) (RowA.of (M.oldR Rg5_0 Lg5) (M.oldL Lg5) (scells_len _).symm Cg5)) (fun v9 w37 hv9 Sw37 => ?_)
  obtain ⟨g38, g38c, rfl, Cg38, M9⟩ := hv9
  replace M := M.call1 M9
  clear Sw37
  simp only [putT, List.set]
  refine wpL_chunk 2 (by rfl) (fun Lk hLk => ?_)
  simp only [List.take, List.drop]
  refine wpV_callf (v := .bool true) (args := #[.slice a13 ((stepS Ql m true).length) c13, .slice (some ⟨g38, 0, none⟩) ((stepS Ql m true).length) g38c]) (by rfl) rfl Tryd.func50 (by kernel_rfl) (by kernel_rfl) rfl (fun W hW => by have h9 : Calls Tryd.prog _ _ W _ := same_r (ps := stepS Ql m true) (qs := stepS Ql m true) (Nat.le_trans (stepS_le (by omega)) (by omega)) ((M.sees hW).oldA H13_0) (RowA.of ((M.sees hW).r 0 0 rfl rfl) ((M.sees hW).lt 0 rfl) (scells_len _).symm Cg38); rw [decide_eq_true rfl] at h9; exact h9) ?_
  simp only [putT, List.set]
  refine wpV_pick (v := .bool true) (by rfl) rfl rfl rfl ?_
  simp only [putT, List.set]
  refine wpV_nil (hLk _ (fun w39 Sw39 => ?_))
  clear hLk Lk
  simp only [List.take, List.drop]
  replace M := M.sees Sw39
  refine wpL_assign (v := .bool true) (by rfl) (by rfl) (by rfl) ?_
  simp only [putT, List.set]
  refine wpL_nil (no_panic ?_)
  refine hK34 _ _ ?_
  refine wp_ret ?_
  repeat (first | with_reducible refine then_ret ?_ | with_reducible refine inblock_ret ?_)
  refine bodyPost_ret (v := .bool true) (res1 rfl (.tmp (by rfl))) rfl ?_
  have BE := M.below
  exact ⟨rfl, BB.trans (BE.mono BB.size)⟩
set_option maxRecDepth 100000 in
set_option maxHeartbeats 4000000 in
theorem makes_far_neg {vls : Value} {ls Ql : List (List UInt8)} {i : Nat} {y : Int} {w : World} (hQ : cutsS 50 40 ls = Ql) (hQL : Ql.length ≤ 50) (hri : rightB Ql = true) (h4 : Ql.length ≤ 4096) (h32 : ∀ s ∈ Ql, s.length = 32) (hx : Ql.length ≤ i) (hy : y < 0) (L0 : 0 < w.heap.size) (R0_0 : w.rangeAt 0 0 kcells) (hvls : RowS w vls ls) :
    Calls Tryd.prog 9 #[vls, .int .i64 ((i : Nat) : Int), .int .i64 y] w fun e w' => e = .returned (.bool true) ∧ Below w.heap.size w w' := by
  go_enter Tryd.func9, Tryd.ntmps9
  have M := Mem.start w
  refine wp_seq_k (fun K1 hK1 => ?_)
  refine wp_region_seq ?_
  refine wpL_assign (v := .bool false) (by rfl) (by rfl) (by rfl) ?_
  simp only [putT, List.set]
  refine wpL_nil (no_panic ?_)
  refine hK1 _ _ ?_
  refine wp_seq_k (fun K3 hK3 => ?_)
  refine wp_region_seq ?_
  refine wpL_move (v := vls) (by rfl) (by rfl) (by rfl) ?_
  simp only [putT, List.set]
  refine wpL_callE (f := 46) (args := #[vls]) (R := MemRow w ((cutsS 50 40 ls).length) (scells (cutsS 50 40 ls))) (by rfl) (by rfl) rfl Tryd.func46 (by kernel_rfl) (by kernel_rfl) (few9_c (hvls.mem M)) (fun v9 w6 hv9 Sw6 => ?_)
  obtain ⟨g5, g5c, rfl, Cg5, M9⟩ := hv9
  replace M := M.call1 M9
  simp only [putT, List.set]
  refine wpL_assign (v := .slice (some ⟨g5, 0, none⟩) ((cutsS 50 40 ls).length) g5c) (by rfl) (by rfl) (by rfl) ?_
  simp only [putT, List.set]
  refine wpL_nil (no_panic ?_)
  simp only [hQ] at M
  simp only [hQ]
  rw [hQ] at Cg5
  refine hK3 _ _ ?_
  refine wp_seq_k (fun K7 hK7 => ?_)
  refine wp_region_seq ?_
  refine wpL_move (v := .slice (some ⟨g5, 0, none⟩) Ql.length g5c) (by rfl) (by rfl) (by rfl) ?_
  simp only [putT, List.set]
  refine wpL_move (v := .int .i64 ((i : Nat) : Int)) (by rfl) (by rfl) (by rfl) ?_
  simp only [putT, List.set]
  refine wpL_chunk 4 (by rfl) (fun Lk hLk => ?_)
  simp only [List.take, List.drop]
  refine wpV_callf (v := .tuple #[.slice none 0 0, .int .i64 1]) (args := #[.slice (some ⟨g5, 0, none⟩) Ql.length g5c, .int .i64 ((i : Nat) : Int)]) (by rfl) rfl Tryd.func47 (by kernel_rfl) (by kernel_rfl) rfl (fun W hW => by with_reducible exact Path_far (l := Ql) hri hx (RowA.of ((M.sees hW).r 0 0 rfl rfl) ((M.sees hW).lt 0 rfl) (scells_len _).symm Cg5)) ?_
  simp only [putT, List.set]
  refine wpV_move (v := .tuple #[.slice none 0 0, .int .i64 1]) (by rfl) rfl rfl ?_
  simp only [putT, List.set]
  refine wpV_extract (v := .slice none 0 0) (by rfl) rfl rfl rfl ?_
  simp only [putT, List.set]
  refine wpV_extract (v := .int .i64 1) (by rfl) rfl rfl rfl ?_
  simp only [putT, List.set]
  refine wpV_nil (hLk _ (fun w9 Sw9 => ?_))
  clear hLk Lk
  simp only [List.take, List.drop]
  replace M := M.sees Sw9
  refine wpL_assign (v := .slice none 0 0) (by rfl) (by rfl) (by rfl) ?_
  simp only [putT, List.set]
  refine wpL_assign (v := .int .i64 1) (by rfl) (by rfl) (by rfl) ?_
  simp only [putT, List.set]
  refine wpL_nil (no_panic ?_)
  refine hK7 _ _ ?_
  refine wp_seq_k (fun K10 hK10 => ?_)
  refine wp_region_seq ?_
  refine wpL_move (v := .slice (some ⟨g5, 0, none⟩) Ql.length g5c) (by rfl) (by rfl) (by rfl) ?_
  simp only [putT, List.set]
  refine wpL_move (v := .int .i64 y) (by rfl) (by rfl) (by rfl) ?_
  simp only [putT, List.set]
  refine wpL_chunk 4 (by rfl) (fun Lk hLk => ?_)
  simp only [List.take, List.drop]
  refine wpV_callf (v := .tuple #[.slice none 0 0, .int .i64 1]) (args := #[.slice (some ⟨g5, 0, none⟩) Ql.length g5c, .int .i64 y]) (by rfl) rfl Tryd.func48 (by kernel_rfl) (by kernel_rfl) rfl (fun W hW => by with_reducible exact Step_neg (l := Ql) hri hy (RowA.of ((M.sees hW).r 0 0 rfl rfl) ((M.sees hW).lt 0 rfl) (scells_len _).symm Cg5)) ?_
  simp only [putT, List.set]
  refine wpV_move (v := .tuple #[.slice none 0 0, .int .i64 1]) (by rfl) rfl rfl ?_
  simp only [putT, List.set]
  refine wpV_extract (v := .slice none 0 0) (by rfl) rfl rfl rfl ?_
  simp only [putT, List.set]
  refine wpV_extract (v := .int .i64 1) (by rfl) rfl rfl rfl ?_
  simp only [putT, List.set]
  refine wpV_nil (hLk _ (fun w12 Sw12 => ?_))
  clear hLk Lk
  simp only [List.take, List.drop]
  replace M := M.sees Sw12
  refine wpL_assign (v := .slice none 0 0) (by rfl) (by rfl) (by rfl) ?_
  simp only [putT, List.set]
  refine wpL_assign (v := .int .i64 1) (by rfl) (by rfl) (by rfl) ?_
  simp only [putT, List.set]
  refine wpL_nil (no_panic ?_)
  refine hK10 _ _ ?_
  refine wp_seq_k (fun K13 hK13 => ?_)
  refine wp_seq_k (fun K14 hK14 => ?_)
  refine wp_region_seq ?_
  refine wpL_move (v := .slice (some ⟨g5, 0, none⟩) Ql.length g5c) (by rfl) (by rfl) (by rfl) ?_
  simp only [putT, List.set]
  refine wpL_chunk 2 (by rfl) (fun Lk hLk => ?_)
  simp only [List.take, List.drop]
  refine wpV_callf (v := .bool true) (args := #[.slice (some ⟨g5, 0, none⟩) Ql.length g5c]) (by rfl) rfl Tryd.func43 (by kernel_rfl) (by kernel_rfl) rfl (fun W hW => by have h9 : Calls Tryd.prog _ _ W _ := rright_r (ps := Ql) (by omega) (RowA.of ((M.sees hW).r 0 0 rfl rfl) ((M.sees hW).lt 0 rfl) (scells_len _).symm Cg5); rw [hri] at h9; exact h9) ?_
  simp only [putT, List.set]
  refine wpV_not (b := true) (by rfl) rfl rfl ?_
  simp only [Bool.not_true, Bool.not_false]
  simp only [putT, List.set]
  refine wpV_nil (hLk _ (fun w16 Sw16 => ?_))
  clear hLk Lk
  simp only [List.take, List.drop]
  replace M := M.sees Sw16
  refine wpL_nil (no_panic ?_)
  refine hK14 _ _ ?_
  refine wp_cond_false rfl ?_
  refine wp_skip ?_
  refine hK13 _ _ ?_
  refine wp_seq_k (fun K17 hK17 => ?_)
  refine wp_seq_k (fun K18 hK18 => ?_)
  refine wp_region_seq ?_
  refine wpL_move (v := .int .i64 ((i : Nat) : Int)) (by rfl) (by rfl) (by rfl) ?_
  simp only [putT, List.set]
  refine wpL_chunk 7 (by rfl) (fun Lk hLk => ?_)
  simp only [List.take, List.drop]
  refine wpV_bin (v := .bool false) (by rfl) rfl rfl rfl (fun W => (run_lssN i 0 _ _ W).trans (by rw [(decide_eq_false (Nat.not_lt_zero i))])) ?_
  simp only [putT, List.set]
  refine wpV_move (v := .bool false) (by rfl) rfl rfl ?_
  simp only [putT, List.set]
  refine wpV_move (v := .int .i64 ((i : Nat) : Int)) (by rfl) rfl rfl ?_
  simp only [putT, List.set]
  refine wpV_move (v := .slice (some ⟨g5, 0, none⟩) Ql.length g5c) (by rfl) rfl rfl ?_
  simp only [putT, List.set]
  refine wpV_lenA (n := Ql.length) (by rfl) rfl rfl rfl Tryd.underlying48 ?_
  simp only [putT, List.set]
  refine wpV_bin (v := .bool true) (by rfl) rfl rfl rfl (fun W => (run_geqN i Ql.length _ _ W).trans (by rw [(decide_eq_true hx)])) ?_
  simp only [putT, List.set]
  refine wpV_pick (v := .bool true) (by rfl) rfl rfl rfl ?_
  simp only [putT, List.set]
  refine wpV_nil (hLk _ (fun w20 Sw20 => ?_))
  clear hLk Lk
  simp only [List.take, List.drop]
  replace M := M.sees Sw20
  refine wpL_nil (no_panic ?_)
  refine hK18 _ _ ?_
  refine wp_cond_true rfl ?_
  refine wp_seq_k (fun K21 hK21 => ?_)
  refine wp_region_seq ?_
  refine wpL_move (v := .int .i64 1) (by rfl) (by rfl) (by rfl) ?_
  simp only [putT, List.set]
  refine wpL_chunk 6 (by rfl) (fun Lk hLk => ?_)
  simp only [List.take, List.drop]
  refine wpV_bin (v := .bool false) (by rfl) rfl rfl rfl (fun W => run_neq _ _ _ _ W) ?_
  simp only [putT, List.set]
  refine wpV_move (v := .bool false) (by rfl) rfl rfl ?_
  simp only [putT, List.set]
  refine wpV_move (v := .slice none 0 0) (by rfl) rfl rfl ?_
  simp only [putT, List.set]
  refine wpV_lenA (n := 0) (by rfl) rfl rfl rfl Tryd.underlying48 ?_
  simp only [putT, List.set]
  refine wpV_bin (v := .bool false) (by rfl) rfl rfl rfl (fun W => run_neq _ _ _ _ W) ?_
  simp only [putT, List.set]
  refine wpV_pick (v := .bool false) (by rfl) rfl rfl rfl ?_
  simp only [putT, List.set]
  refine wpV_nil (hLk _ (fun w23 Sw23 => ?_))
  clear hLk Lk
  simp only [List.take, List.drop]
  replace M := M.sees Sw23
  refine wpL_nil (no_panic ?_)
  refine hK21 _ _ ?_
  refine wp_cond_false rfl ?_
  refine wp_skip ?_
  refine hK17 _ _ ?_
  refine wp_seq_k (fun K24 hK24 => ?_)
  refine wp_seq_k (fun K25 hK25 => ?_)
  refine wp_region_seq ?_
  refine wpL_move (v := .int .i64 y) (by rfl) (by rfl) (by rfl) ?_
  simp only [putT, List.set]
  refine wpL_chunk 7 (by rfl) (fun Lk hLk => ?_)
  simp only [List.take, List.drop]
  refine wpV_bin (v := .bool true) (by rfl) rfl rfl rfl (fun W => (run_lss _ _ _ _ W).trans (by rw [(decide_eq_true hy)])) ?_
  simp only [putT, List.set]
  refine wpV_move (v := .bool true) (by rfl) rfl rfl ?_
  simp only [putT, List.set]
  refine wpV_skip (by rfl) (by rfl) ?_
  simp only [putT, List.set]
  refine wpV_skip (by rfl) (by rfl) ?_
  simp only [putT, List.set]
  refine wpV_skip (by rfl) (by rfl) ?_
  simp only [putT, List.set]
  refine wpV_skip (by rfl) (by rfl) ?_
  simp only [putT, List.set]
  refine wpV_pick (v := .bool true) (by rfl) rfl rfl rfl ?_
  simp only [putT, List.set]
  refine wpV_nil (hLk _ (fun w27 Sw27 => ?_))
  clear hLk Lk
  simp only [List.take, List.drop]
  replace M := M.sees Sw27
  refine wpL_nil (no_panic ?_)
  refine hK25 _ _ ?_
  refine wp_cond_true rfl ?_
  refine wp_seq_k (fun K28 hK28 => ?_)
  refine wp_region_seq ?_
  refine wpL_chunk 10 (by rfl) (fun Lk hLk => ?_)
  simp only [List.take, List.drop]
  refine wpV_callf (v := .bool true) (args := #[]) (by rfl) rfl Tryd.func49 (by kernel_rfl) (by kernel_rfl) rfl (fun W hW => alive09_c ((M.sees hW).oldL L0) ((M.sees hW).oldR R0_0 L0)) ?_
  simp only [putT, List.set]
  refine wpV_move (v := .bool true) (by rfl) rfl rfl ?_
  simp only [putT, List.set]
  refine wpV_move (v := .int .i64 1) (by rfl) rfl rfl ?_
  simp only [putT, List.set]
  refine wpV_bin (v := .bool true) (by rfl) rfl rfl rfl (fun W => run_eql _ _ _ _ W) ?_
  simp only [putT, List.set]
  refine wpV_pick (v := .bool true) (by rfl) rfl rfl rfl ?_
  simp only [putT, List.set]
  refine wpV_move (v := .bool true) (by rfl) rfl rfl ?_
  simp only [putT, List.set]
  refine wpV_move (v := .slice none 0 0) (by rfl) rfl rfl ?_
  simp only [putT, List.set]
  refine wpV_lenA (n := 0) (by rfl) rfl rfl rfl Tryd.underlying48 ?_
  simp only [putT, List.set]
  refine wpV_bin (v := .bool true) (by rfl) rfl rfl rfl (fun W => run_eql _ _ _ _ W) ?_
  simp only [putT, List.set]
  refine wpV_pick (v := .bool true) (by rfl) rfl rfl rfl ?_
  simp only [putT, List.set]
  refine wpV_nil (hLk _ (fun w30 Sw30 => ?_))
  clear hLk Lk
  simp only [List.take, List.drop]
  replace M := M.sees Sw30
  refine wpL_assign (v := .bool true) (by rfl) (by rfl) (by rfl) ?_
  simp only [putT, List.set]
  refine wpL_nil (no_panic ?_)
  refine hK28 _ _ ?_
  refine wp_ret ?_
  repeat (first | with_reducible refine then_ret ?_ | with_reducible refine inblock_ret ?_)
  refine bodyPost_ret (v := .bool true) (res1 rfl (.tmp (by rfl))) rfl ?_
  have BE := M.below
  exact ⟨rfl, BE⟩
set_option maxRecDepth 100000 in
set_option maxHeartbeats 4000000 in
theorem makes_far_zero {vls : Value} {ls Ql : List (List UInt8)} {i : Nat}  {w : World} (hQ : cutsS 50 40 ls = Ql) (hQL : Ql.length ≤ 50) (hri : rightB Ql = true) (h4 : Ql.length ≤ 4096) (h32 : ∀ s ∈ Ql, s.length = 32) (hx : Ql.length ≤ i) (L0 : 0 < w.heap.size) (R0_0 : w.rangeAt 0 0 kcells) (hvls : RowS w vls ls) :
    Calls Tryd.prog 9 #[vls, .int .i64 ((i : Nat) : Int), .int .i64 0] w fun e w' => e = .returned (.bool true) ∧ Below w.heap.size w w' := by
  go_enter Tryd.func9, Tryd.ntmps9
  have M := Mem.start w
  refine wp_seq_k (fun K1 hK1 => ?_)
  refine wp_region_seq ?_
  refine wpL_assign (v := .bool false) (by rfl) (by rfl) (by rfl) ?_
  simp only [putT, List.set]
  refine wpL_nil (no_panic ?_)
  refine hK1 _ _ ?_
  refine wp_seq_k (fun K3 hK3 => ?_)
  refine wp_region_seq ?_
  refine wpL_move (v := vls) (by rfl) (by rfl) (by rfl) ?_
  simp only [putT, List.set]
  refine wpL_callE (f := 46) (args := #[vls]) (R := MemRow w ((cutsS 50 40 ls).length) (scells (cutsS 50 40 ls))) (by rfl) (by rfl) rfl Tryd.func46 (by kernel_rfl) (by kernel_rfl) (few9_c (hvls.mem M)) (fun v9 w6 hv9 Sw6 => ?_)
  obtain ⟨g5, g5c, rfl, Cg5, M9⟩ := hv9
  replace M := M.call1 M9
  simp only [putT, List.set]
  refine wpL_assign (v := .slice (some ⟨g5, 0, none⟩) ((cutsS 50 40 ls).length) g5c) (by rfl) (by rfl) (by rfl) ?_
  simp only [putT, List.set]
  refine wpL_nil (no_panic ?_)
  simp only [hQ] at M
  simp only [hQ]
  rw [hQ] at Cg5
  refine hK3 _ _ ?_
  refine wp_seq_k (fun K7 hK7 => ?_)
  refine wp_region_seq ?_
  refine wpL_move (v := .slice (some ⟨g5, 0, none⟩) Ql.length g5c) (by rfl) (by rfl) (by rfl) ?_
  simp only [putT, List.set]
  refine wpL_move (v := .int .i64 ((i : Nat) : Int)) (by rfl) (by rfl) (by rfl) ?_
  simp only [putT, List.set]
  refine wpL_chunk 4 (by rfl) (fun Lk hLk => ?_)
  simp only [List.take, List.drop]
  refine wpV_callf (v := .tuple #[.slice none 0 0, .int .i64 1]) (args := #[.slice (some ⟨g5, 0, none⟩) Ql.length g5c, .int .i64 ((i : Nat) : Int)]) (by rfl) rfl Tryd.func47 (by kernel_rfl) (by kernel_rfl) rfl (fun W hW => by with_reducible exact Path_far (l := Ql) hri hx (RowA.of ((M.sees hW).r 0 0 rfl rfl) ((M.sees hW).lt 0 rfl) (scells_len _).symm Cg5)) ?_
  simp only [putT, List.set]
  refine wpV_move (v := .tuple #[.slice none 0 0, .int .i64 1]) (by rfl) rfl rfl ?_
  simp only [putT, List.set]
  refine wpV_extract (v := .slice none 0 0) (by rfl) rfl rfl rfl ?_
  simp only [putT, List.set]
  refine wpV_extract (v := .int .i64 1) (by rfl) rfl rfl rfl ?_
  simp only [putT, List.set]
  refine wpV_nil (hLk _ (fun w9 Sw9 => ?_))
  clear hLk Lk
  simp only [List.take, List.drop]
  replace M := M.sees Sw9
  refine wpL_assign (v := .slice none 0 0) (by rfl) (by rfl) (by rfl) ?_
  simp only [putT, List.set]
  refine wpL_assign (v := .int .i64 1) (by rfl) (by rfl) (by rfl) ?_
  simp only [putT, List.set]
  refine wpL_nil (no_panic ?_)
  refine hK7 _ _ ?_
  refine wp_seq_k (fun K10 hK10 => ?_)
  refine wp_region_seq ?_
  refine wpL_move (v := .slice (some ⟨g5, 0, none⟩) Ql.length g5c) (by rfl) (by rfl) (by rfl) ?_
  simp only [putT, List.set]
  refine wpL_move (v := .int .i64 0) (by rfl) (by rfl) (by rfl) ?_
  simp only [putT, List.set]
  refine wpL_chunk 4 (by rfl) (fun Lk hLk => ?_)
  simp only [List.take, List.drop]
  refine wpV_callf (v := .tuple #[.slice none 0 0, .int .i64 0]) (args := #[.slice (some ⟨g5, 0, none⟩) Ql.length g5c, .int .i64 0]) (by rfl) rfl Tryd.func48 (by kernel_rfl) (by kernel_rfl) rfl (fun W hW => by with_reducible exact Step_zero (l := Ql) hri (RowA.of ((M.sees hW).r 0 0 rfl rfl) ((M.sees hW).lt 0 rfl) (scells_len _).symm Cg5)) ?_
  simp only [putT, List.set]
  refine wpV_move (v := .tuple #[.slice none 0 0, .int .i64 0]) (by rfl) rfl rfl ?_
  simp only [putT, List.set]
  refine wpV_extract (v := .slice none 0 0) (by rfl) rfl rfl rfl ?_
  simp only [putT, List.set]
  refine wpV_extract (v := .int .i64 0) (by rfl) rfl rfl rfl ?_
  simp only [putT, List.set]
  refine wpV_nil (hLk _ (fun w12 Sw12 => ?_))
  clear hLk Lk
  simp only [List.take, List.drop]
  replace M := M.sees Sw12
  refine wpL_assign (v := .slice none 0 0) (by rfl) (by rfl) (by rfl) ?_
  simp only [putT, List.set]
  refine wpL_assign (v := .int .i64 0) (by rfl) (by rfl) (by rfl) ?_
  simp only [putT, List.set]
  refine wpL_nil (no_panic ?_)
  refine hK10 _ _ ?_
  refine wp_seq_k (fun K13 hK13 => ?_)
  refine wp_seq_k (fun K14 hK14 => ?_)
  refine wp_region_seq ?_
  refine wpL_move (v := .slice (some ⟨g5, 0, none⟩) Ql.length g5c) (by rfl) (by rfl) (by rfl) ?_
  simp only [putT, List.set]
  refine wpL_chunk 2 (by rfl) (fun Lk hLk => ?_)
  simp only [List.take, List.drop]
  refine wpV_callf (v := .bool true) (args := #[.slice (some ⟨g5, 0, none⟩) Ql.length g5c]) (by rfl) rfl Tryd.func43 (by kernel_rfl) (by kernel_rfl) rfl (fun W hW => by have h9 : Calls Tryd.prog _ _ W _ := rright_r (ps := Ql) (by omega) (RowA.of ((M.sees hW).r 0 0 rfl rfl) ((M.sees hW).lt 0 rfl) (scells_len _).symm Cg5); rw [hri] at h9; exact h9) ?_
  simp only [putT, List.set]
  refine wpV_not (b := true) (by rfl) rfl rfl ?_
  simp only [Bool.not_true, Bool.not_false]
  simp only [putT, List.set]
  refine wpV_nil (hLk _ (fun w16 Sw16 => ?_))
  clear hLk Lk
  simp only [List.take, List.drop]
  replace M := M.sees Sw16
  refine wpL_nil (no_panic ?_)
  refine hK14 _ _ ?_
  refine wp_cond_false rfl ?_
  refine wp_skip ?_
  refine hK13 _ _ ?_
  refine wp_seq_k (fun K17 hK17 => ?_)
  refine wp_seq_k (fun K18 hK18 => ?_)
  refine wp_region_seq ?_
  refine wpL_move (v := .int .i64 ((i : Nat) : Int)) (by rfl) (by rfl) (by rfl) ?_
  simp only [putT, List.set]
  refine wpL_chunk 7 (by rfl) (fun Lk hLk => ?_)
  simp only [List.take, List.drop]
  refine wpV_bin (v := .bool false) (by rfl) rfl rfl rfl (fun W => (run_lssN i 0 _ _ W).trans (by rw [(decide_eq_false (Nat.not_lt_zero i))])) ?_
  simp only [putT, List.set]
  refine wpV_move (v := .bool false) (by rfl) rfl rfl ?_
  simp only [putT, List.set]
  refine wpV_move (v := .int .i64 ((i : Nat) : Int)) (by rfl) rfl rfl ?_
  simp only [putT, List.set]
  refine wpV_move (v := .slice (some ⟨g5, 0, none⟩) Ql.length g5c) (by rfl) rfl rfl ?_
  simp only [putT, List.set]
  refine wpV_lenA (n := Ql.length) (by rfl) rfl rfl rfl Tryd.underlying48 ?_
  simp only [putT, List.set]
  refine wpV_bin (v := .bool true) (by rfl) rfl rfl rfl (fun W => (run_geqN i Ql.length _ _ W).trans (by rw [(decide_eq_true hx)])) ?_
  simp only [putT, List.set]
  refine wpV_pick (v := .bool true) (by rfl) rfl rfl rfl ?_
  simp only [putT, List.set]
  refine wpV_nil (hLk _ (fun w20 Sw20 => ?_))
  clear hLk Lk
  simp only [List.take, List.drop]
  replace M := M.sees Sw20
  refine wpL_nil (no_panic ?_)
  refine hK18 _ _ ?_
  refine wp_cond_true rfl ?_
  refine wp_seq_k (fun K21 hK21 => ?_)
  refine wp_region_seq ?_
  refine wpL_move (v := .int .i64 1) (by rfl) (by rfl) (by rfl) ?_
  simp only [putT, List.set]
  refine wpL_chunk 6 (by rfl) (fun Lk hLk => ?_)
  simp only [List.take, List.drop]
  refine wpV_bin (v := .bool false) (by rfl) rfl rfl rfl (fun W => run_neq _ _ _ _ W) ?_
  simp only [putT, List.set]
  refine wpV_move (v := .bool false) (by rfl) rfl rfl ?_
  simp only [putT, List.set]
  refine wpV_move (v := .slice none 0 0) (by rfl) rfl rfl ?_
  simp only [putT, List.set]
  refine wpV_lenA (n := 0) (by rfl) rfl rfl rfl Tryd.underlying48 ?_
  simp only [putT, List.set]
  refine wpV_bin (v := .bool false) (by rfl) rfl rfl rfl (fun W => run_neq _ _ _ _ W) ?_
  simp only [putT, List.set]
  refine wpV_pick (v := .bool false) (by rfl) rfl rfl rfl ?_
  simp only [putT, List.set]
  refine wpV_nil (hLk _ (fun w23 Sw23 => ?_))
  clear hLk Lk
  simp only [List.take, List.drop]
  replace M := M.sees Sw23
  refine wpL_nil (no_panic ?_)
  refine hK21 _ _ ?_
  refine wp_cond_false rfl ?_
  refine wp_skip ?_
  refine hK17 _ _ ?_
  refine wp_seq_k (fun K24 hK24 => ?_)
  refine wp_seq_k (fun K25 hK25 => ?_)
  refine wp_region_seq ?_
  refine wpL_move (v := .int .i64 0) (by rfl) (by rfl) (by rfl) ?_
  simp only [putT, List.set]
  refine wpL_chunk 7 (by rfl) (fun Lk hLk => ?_)
  simp only [List.take, List.drop]
  refine wpV_bin (v := .bool false) (by rfl) rfl rfl rfl (fun W => run_lss _ _ _ _ W) ?_
  simp only [putT, List.set]
  refine wpV_move (v := .bool false) (by rfl) rfl rfl ?_
  simp only [putT, List.set]
  refine wpV_move (v := .int .i64 0) (by rfl) rfl rfl ?_
  simp only [putT, List.set]
  refine wpV_move (v := .slice (some ⟨g5, 0, none⟩) Ql.length g5c) (by rfl) rfl rfl ?_
  simp only [putT, List.set]
  refine wpV_lenA (n := Ql.length) (by rfl) rfl rfl rfl Tryd.underlying48 ?_
  simp only [putT, List.set]
  refine wpV_bin (v := .bool false) (by rfl) rfl rfl rfl (fun W => (run_gtrN 0 Ql.length _ _ W).trans (by rw [(decide_eq_false (Nat.not_lt_zero _))])) ?_
  simp only [putT, List.set]
  refine wpV_pick (v := .bool false) (by rfl) rfl rfl rfl ?_
  simp only [putT, List.set]
  refine wpV_nil (hLk _ (fun w27 Sw27 => ?_))
  clear hLk Lk
  simp only [List.take, List.drop]
  replace M := M.sees Sw27
  refine wpL_nil (no_panic ?_)
  refine hK25 _ _ ?_
  refine wp_cond_false rfl ?_
  refine wp_skip ?_
  refine hK24 _ _ ?_
  refine wp_seq_k (fun K28 hK28 => ?_)
  refine wp_seq_k (fun K29 hK29 => ?_)
  refine wp_region_seq ?_
  refine wpL_move (v := .int .i64 0) (by rfl) (by rfl) (by rfl) ?_
  simp only [putT, List.set]
  refine wpL_chunk 1 (by rfl) (fun Lk hLk => ?_)
  simp only [List.take, List.drop]
  refine wpV_bin (v := .bool true) (by rfl) rfl rfl rfl (fun W => run_eql _ _ _ _ W) ?_
  simp only [putT, List.set]
  refine wpV_nil (hLk _ (fun w31 Sw31 => ?_))
  clear hLk Lk
  simp only [List.take, List.drop]
  replace M := M.sees Sw31
  refine wpL_nil (no_panic ?_)
  refine hK29 _ _ ?_
  refine wp_cond_true rfl ?_
  refine wp_seq_k (fun K32 hK32 => ?_)
  refine wp_region_seq ?_
  refine wpL_chunk 10 (by rfl) (fun Lk hLk => ?_)
  simp only [List.take, List.drop]
  refine wpV_callf (v := .bool true) (args := #[]) (by rfl) rfl Tryd.func49 (by kernel_rfl) (by kernel_rfl) rfl (fun W hW => alive09_c ((M.sees hW).oldL L0) ((M.sees hW).oldR R0_0 L0)) ?_
  simp only [putT, List.set]
  refine wpV_move (v := .bool true) (by rfl) rfl rfl ?_
  simp only [putT, List.set]
  refine wpV_move (v := .int .i64 0) (by rfl) rfl rfl ?_
  simp only [putT, List.set]
  refine wpV_bin (v := .bool true) (by rfl) rfl rfl rfl (fun W => run_eql _ _ _ _ W) ?_
  simp only [putT, List.set]
  refine wpV_pick (v := .bool true) (by rfl) rfl rfl rfl ?_
  simp only [putT, List.set]
  refine wpV_move (v := .bool true) (by rfl) rfl rfl ?_
  simp only [putT, List.set]
  refine wpV_move (v := .slice none 0 0) (by rfl) rfl rfl ?_
  simp only [putT, List.set]
  refine wpV_lenA (n := 0) (by rfl) rfl rfl rfl Tryd.underlying48 ?_
  simp only [putT, List.set]
  refine wpV_bin (v := .bool true) (by rfl) rfl rfl rfl (fun W => run_eql _ _ _ _ W) ?_
  simp only [putT, List.set]
  refine wpV_pick (v := .bool true) (by rfl) rfl rfl rfl ?_
  simp only [putT, List.set]
  refine wpV_nil (hLk _ (fun w34 Sw34 => ?_))
  clear hLk Lk
  simp only [List.take, List.drop]
  replace M := M.sees Sw34
  refine wpL_assign (v := .bool true) (by rfl) (by rfl) (by rfl) ?_
  simp only [putT, List.set]
  refine wpL_nil (no_panic ?_)
  refine hK32 _ _ ?_
  refine wp_ret ?_
  repeat (first | with_reducible refine then_ret ?_ | with_reducible refine inblock_ret ?_)
  refine bodyPost_ret (v := .bool true) (res1 rfl (.tmp (by rfl))) rfl ?_
  have BE := M.below
  exact ⟨rfl, BE⟩
set_option maxRecDepth 100000 in
set_option maxHeartbeats 4000000 in
theorem makes_far_far {vls : Value} {ls Ql : List (List UInt8)} {i : Nat} {m : Nat} {w : World} (hQ : cutsS 50 40 ls = Ql) (hQL : Ql.length ≤ 50) (hri : rightB Ql = true) (h4 : Ql.length ≤ 4096) (h32 : ∀ s ∈ Ql, s.length = 32) (hx : Ql.length ≤ i) (hy : Ql.length < m) (L0 : 0 < w.heap.size) (R0_0 : w.rangeAt 0 0 kcells) (hvls : RowS w vls ls) :
    Calls Tryd.prog 9 #[vls, .int .i64 ((i : Nat) : Int), .int .i64 ((m : Nat) : Int)] w fun e w' => e = .returned (.bool true) ∧ Below w.heap.size w w' := by
  go_enter Tryd.func9, Tryd.ntmps9
  have M := Mem.start w
  refine wp_seq_k (fun K1 hK1 => ?_)
  refine wp_region_seq ?_
  refine wpL_assign (v := .bool false) (by rfl) (by rfl) (by rfl) ?_
  simp only [putT, List.set]
  refine wpL_nil (no_panic ?_)
  refine hK1 _ _ ?_
  refine wp_seq_k (fun K3 hK3 => ?_)
  refine wp_region_seq ?_
  refine wpL_move (v := vls) (by rfl) (by rfl) (by rfl) ?_
  simp only [putT, List.set]
  refine wpL_callE (f := 46) (args := #[vls]) (R := MemRow w ((cutsS 50 40 ls).length) (scells (cutsS 50 40 ls))) (by rfl) (by rfl) rfl Tryd.func46 (by kernel_rfl) (by kernel_rfl) (few9_c (hvls.mem M)) (fun v9 w6 hv9 Sw6 => ?_)
  obtain ⟨g5, g5c, rfl, Cg5, M9⟩ := hv9
  replace M := M.call1 M9
  simp only [putT, List.set]
  refine wpL_assign (v := .slice (some ⟨g5, 0, none⟩) ((cutsS 50 40 ls).length) g5c) (by rfl) (by rfl) (by rfl) ?_
  simp only [putT, List.set]
  refine wpL_nil (no_panic ?_)
  simp only [hQ] at M
  simp only [hQ]
  rw [hQ] at Cg5
  refine hK3 _ _ ?_
  refine wp_seq_k (fun K7 hK7 => ?_)
  refine wp_region_seq ?_
  refine wpL_move (v := .slice (some ⟨g5, 0, none⟩) Ql.length g5c) (by rfl) (by rfl) (by rfl) ?_
  simp only [putT, List.set]
  refine wpL_move (v := .int .i64 ((i : Nat) : Int)) (by rfl) (by rfl) (by rfl) ?_
  simp only [putT, List.set]
  refine wpL_chunk 4 (by rfl) (fun Lk hLk => ?_)
  simp only [List.take, List.drop]
  refine wpV_callf (v := .tuple #[.slice none 0 0, .int .i64 1]) (args := #[.slice (some ⟨g5, 0, none⟩) Ql.length g5c, .int .i64 ((i : Nat) : Int)]) (by rfl) rfl Tryd.func47 (by kernel_rfl) (by kernel_rfl) rfl (fun W hW => by with_reducible exact Path_far (l := Ql) hri hx (RowA.of ((M.sees hW).r 0 0 rfl rfl) ((M.sees hW).lt 0 rfl) (scells_len _).symm Cg5)) ?_
  simp only [putT, List.set]
  refine wpV_move (v := .tuple #[.slice none 0 0, .int .i64 1]) (by rfl) rfl rfl ?_
  simp only [putT, List.set]
  refine wpV_extract (v := .slice none 0 0) (by rfl) rfl rfl rfl ?_
  simp only [putT, List.set]
  refine wpV_extract (v := .int .i64 1) (by rfl) rfl rfl rfl ?_
  simp only [putT, List.set]
  refine wpV_nil (hLk _ (fun w9 Sw9 => ?_))
  clear hLk Lk
  simp only [List.take, List.drop]
  replace M := M.sees Sw9
  refine wpL_assign (v := .slice none 0 0) (by rfl) (by rfl) (by rfl) ?_
  simp only [putT, List.set]
  refine wpL_assign (v := .int .i64 1) (by rfl) (by rfl) (by rfl) ?_
  simp only [putT, List.set]
  refine wpL_nil (no_panic ?_)
  refine hK7 _ _ ?_
  refine wp_seq_k (fun K10 hK10 => ?_)
  refine wp_region_seq ?_
  refine wpL_move (v := .slice (some ⟨g5, 0, none⟩) Ql.length g5c) (by rfl) (by rfl) (by rfl) ?_
  simp only [putT, List.set]
  refine wpL_move (v := .int .i64 ((m : Nat) : Int)) (by rfl) (by rfl) (by rfl) ?_
  simp only [putT, List.set]
  refine wpL_chunk 4 (by rfl) (fun Lk hLk => ?_)
  simp only [List.take, List.drop]
  refine wpV_callf (v := .tuple #[.slice none 0 0, .int .i64 1]) (args := #[.slice (some ⟨g5, 0, none⟩) Ql.length g5c, .int .i64 ((m : Nat) : Int)]) (by rfl) rfl Tryd.func48 (by kernel_rfl) (by kernel_rfl) rfl (fun W hW => by with_reducible exact Step_far (l := Ql) hri hy (RowA.of ((M.sees hW).r 0 0 rfl rfl) ((M.sees hW).lt 0 rfl) (scells_len _).symm Cg5)) ?_
  simp only [putT, List.set]
  refine wpV_move (v := .tuple #[.slice none 0 0, .int .i64 1]) (by rfl) rfl rfl ?_
  simp only [putT, List.set]
  refine wpV_extract (v := .slice none 0 0) (by rfl) rfl rfl rfl ?_
  simp only [putT, List.set]
  refine wpV_extract (v := .int .i64 1) (by rfl) rfl rfl rfl ?_
  simp only [putT, List.set]
  refine wpV_nil (hLk _ (fun w12 Sw12 => ?_))
  clear hLk Lk
  simp only [List.take, List.drop]
  replace M := M.sees Sw12
  refine wpL_assign (v := .slice none 0 0) (by rfl) (by rfl) (by rfl) ?_
  simp only [putT, List.set]
  refine wpL_assign (v := .int .i64 1) (by rfl) (by rfl) (by rfl) ?_
  simp only [putT, List.set]
  refine wpL_nil (no_panic ?_)
  refine hK10 _ _ ?_
  refine wp_seq_k (fun K13 hK13 => ?_)
  refine wp_seq_k (fun K14 hK14 => ?_)
  refine wp_region_seq ?_
  refine wpL_move (v := .slice (some ⟨g5, 0, none⟩) Ql.length g5c) (by rfl) (by rfl) (by rfl) ?_
  simp only [putT, List.set]
  refine wpL_chunk 2 (by rfl) (fun Lk hLk => ?_)
  simp only [List.take, List.drop]
  refine wpV_callf (v := .bool true) (args := #[.slice (some ⟨g5, 0, none⟩) Ql.length g5c]) (by rfl) rfl Tryd.func43 (by kernel_rfl) (by kernel_rfl) rfl (fun W hW => by have h9 : Calls Tryd.prog _ _ W _ := rright_r (ps := Ql) (by omega) (RowA.of ((M.sees hW).r 0 0 rfl rfl) ((M.sees hW).lt 0 rfl) (scells_len _).symm Cg5); rw [hri] at h9; exact h9) ?_
  simp only [putT, List.set]
  refine wpV_not (b := true) (by rfl) rfl rfl ?_
  simp only [Bool.not_true, Bool.not_false]
  simp only [putT, List.set]
  refine wpV_nil (hLk _ (fun w16 Sw16 => ?_))
  clear hLk Lk
  simp only [List.take, List.drop]
  replace M := M.sees Sw16
  refine wpL_nil (no_panic ?_)
  refine hK14 _ _ ?_
  refine wp_cond_false rfl ?_
  refine wp_skip ?_
  refine hK13 _ _ ?_
  refine wp_seq_k (fun K17 hK17 => ?_)
  refine wp_seq_k (fun K18 hK18 => ?_)
  refine wp_region_seq ?_
  refine wpL_move (v := .int .i64 ((i : Nat) : Int)) (by rfl) (by rfl) (by rfl) ?_
  simp only [putT, List.set]
  refine wpL_chunk 7 (by rfl) (fun Lk hLk => ?_)
  simp only [List.take, List.drop]
  refine wpV_bin (v := .bool false) (by rfl) rfl rfl rfl (fun W => (run_lssN i 0 _ _ W).trans (by rw [(decide_eq_false (Nat.not_lt_zero i))])) ?_
  simp only [putT, List.set]
  refine wpV_move (v := .bool false) (by rfl) rfl rfl ?_
  simp only [putT, List.set]
  refine wpV_move (v := .int .i64 ((i : Nat) : Int)) (by rfl) rfl rfl ?_
  simp only [putT, List.set]
  refine wpV_move (v := .slice (some ⟨g5, 0, none⟩) Ql.length g5c) (by rfl) rfl rfl ?_
  simp only [putT, List.set]
  refine wpV_lenA (n := Ql.length) (by rfl) rfl rfl rfl Tryd.underlying48 ?_
  simp only [putT, List.set]
  refine wpV_bin (v := .bool true) (by rfl) rfl rfl rfl (fun W => (run_geqN i Ql.length _ _ W).trans (by rw [(decide_eq_true hx)])) ?_
  simp only [putT, List.set]
  refine wpV_pick (v := .bool true) (by rfl) rfl rfl rfl ?_
  simp only [putT, List.set]
  refine wpV_nil (hLk _ (fun w20 Sw20 => ?_))
  clear hLk Lk
  simp only [List.take, List.drop]
  replace M := M.sees Sw20
  refine wpL_nil (no_panic ?_)
  refine hK18 _ _ ?_
  refine wp_cond_true rfl ?_
  refine wp_seq_k (fun K21 hK21 => ?_)
  refine wp_region_seq ?_
  refine wpL_move (v := .int .i64 1) (by rfl) (by rfl) (by rfl) ?_
  simp only [putT, List.set]
  refine wpL_chunk 6 (by rfl) (fun Lk hLk => ?_)
  simp only [List.take, List.drop]
  refine wpV_bin (v := .bool false) (by rfl) rfl rfl rfl (fun W => run_neq _ _ _ _ W) ?_
  simp only [putT, List.set]
  refine wpV_move (v := .bool false) (by rfl) rfl rfl ?_
  simp only [putT, List.set]
  refine wpV_move (v := .slice none 0 0) (by rfl) rfl rfl ?_
  simp only [putT, List.set]
  refine wpV_lenA (n := 0) (by rfl) rfl rfl rfl Tryd.underlying48 ?_
  simp only [putT, List.set]
  refine wpV_bin (v := .bool false) (by rfl) rfl rfl rfl (fun W => run_neq _ _ _ _ W) ?_
  simp only [putT, List.set]
  refine wpV_pick (v := .bool false) (by rfl) rfl rfl rfl ?_
  simp only [putT, List.set]
  refine wpV_nil (hLk _ (fun w23 Sw23 => ?_))
  clear hLk Lk
  simp only [List.take, List.drop]
  replace M := M.sees Sw23
  refine wpL_nil (no_panic ?_)
  refine hK21 _ _ ?_
  refine wp_cond_false rfl ?_
  refine wp_skip ?_
  refine hK17 _ _ ?_
  refine wp_seq_k (fun K24 hK24 => ?_)
  refine wp_seq_k (fun K25 hK25 => ?_)
  refine wp_region_seq ?_
  refine wpL_move (v := .int .i64 ((m : Nat) : Int)) (by rfl) (by rfl) (by rfl) ?_
  simp only [putT, List.set]
  refine wpL_chunk 7 (by rfl) (fun Lk hLk => ?_)
  simp only [List.take, List.drop]
  refine wpV_bin (v := .bool false) (by rfl) rfl rfl rfl (fun W => (run_lssN m 0 _ _ W).trans (by rw [(decide_eq_false (Nat.not_lt_zero m))])) ?_
  simp only [putT, List.set]
  refine wpV_move (v := .bool false) (by rfl) rfl rfl ?_
  simp only [putT, List.set]
  refine wpV_move (v := .int .i64 ((m : Nat) : Int)) (by rfl) rfl rfl ?_
  simp only [putT, List.set]
  refine wpV_move (v := .slice (some ⟨g5, 0, none⟩) Ql.length g5c) (by rfl) rfl rfl ?_
  simp only [putT, List.set]
  refine wpV_lenA (n := Ql.length) (by rfl) rfl rfl rfl Tryd.underlying48 ?_
  simp only [putT, List.set]
  refine wpV_bin (v := .bool true) (by rfl) rfl rfl rfl (fun W => (run_gtrN m Ql.length _ _ W).trans (by rw [(decide_eq_true hy)])) ?_
  simp only [putT, List.set]
  refine wpV_pick (v := .bool true) (by rfl) rfl rfl rfl ?_
  simp only [putT, List.set]
  refine wpV_nil (hLk _ (fun w27 Sw27 => ?_))
  clear hLk Lk
  simp only [List.take, List.drop]
  replace M := M.sees Sw27
  refine wpL_nil (no_panic ?_)
  refine hK25 _ _ ?_
  refine wp_cond_true rfl ?_
  refine wp_seq_k (fun K28 hK28 => ?_)
  refine wp_region_seq ?_
  refine wpL_chunk 10 (by rfl) (fun Lk hLk => ?_)
  simp only [List.take, List.drop]
  refine wpV_callf (v := .bool true) (args := #[]) (by rfl) rfl Tryd.func49 (by kernel_rfl) (by kernel_rfl) rfl (fun W hW => alive09_c ((M.sees hW).oldL L0) ((M.sees hW).oldR R0_0 L0)) ?_
  simp only [putT, List.set]
  refine wpV_move (v := .bool true) (by rfl) rfl rfl ?_
  simp only [putT, List.set]
  refine wpV_move (v := .int .i64 1) (by rfl) rfl rfl ?_
  simp only [putT, List.set]
  refine wpV_bin (v := .bool true) (by rfl) rfl rfl rfl (fun W => run_eql _ _ _ _ W) ?_
  simp only [putT, List.set]
  refine wpV_pick (v := .bool true) (by rfl) rfl rfl rfl ?_
  simp only [putT, List.set]
  refine wpV_move (v := .bool true) (by rfl) rfl rfl ?_
  simp only [putT, List.set]
  refine wpV_move (v := .slice none 0 0) (by rfl) rfl rfl ?_
  simp only [putT, List.set]
  refine wpV_lenA (n := 0) (by rfl) rfl rfl rfl Tryd.underlying48 ?_
  simp only [putT, List.set]
  refine wpV_bin (v := .bool true) (by rfl) rfl rfl rfl (fun W => run_eql _ _ _ _ W) ?_
  simp only [putT, List.set]
  refine wpV_pick (v := .bool true) (by rfl) rfl rfl rfl ?_
  simp only [putT, List.set]
  refine wpV_nil (hLk _ (fun w30 Sw30 => ?_))
  clear hLk Lk
  simp only [List.take, List.drop]
  replace M := M.sees Sw30
  refine wpL_assign (v := .bool true) (by rfl) (by rfl) (by rfl) ?_
  simp only [putT, List.set]
  refine wpL_nil (no_panic ?_)
  refine hK28 _ _ ?_
  refine wp_ret ?_
  repeat (first | with_reducible refine then_ret ?_ | with_reducible refine inblock_ret ?_)
  refine bodyPost_ret (v := .bool true) (res1 rfl (.tmp (by rfl))) rfl ?_
  have BE := M.below
  exact ⟨rfl, BE⟩
set_option maxRecDepth 100000 in
set_option maxHeartbeats 4000000 in
theorem makes_far_all {vls : Value} {ls Ql : List (List UInt8)} {i : Nat} {m : Nat} {w : World} (hQ : cutsS 50 40 ls = Ql) (hQL : Ql.length ≤ 50) (hri : rightB Ql = true) (h4 : Ql.length ≤ 4096) (h32 : ∀ s ∈ Ql, s.length = 32) (hx : Ql.length ≤ i) (hm1 : 1 ≤ m) (hy : m = Ql.length) (L0 : 0 < w.heap.size) (R0_0 : w.rangeAt 0 0 kcells) (hvls : RowS w vls ls) :
    Calls Tryd.prog 9 #[vls, .int .i64 ((i : Nat) : Int), .int .i64 ((m : Nat) : Int)] w fun e w' => e = .returned (.bool true) ∧ Below w.heap.size w w' := by
  go_enter Tryd.func9, Tryd.ntmps9
  have M := Mem.start w
  refine wp_seq_k (fun K1 hK1 => ?_)
  refine wp_region_seq ?_
  refine wpL_assign (v := .bool false) (by rfl) (by rfl) (by rfl) ?_
  simp only [putT, List.set]
  refine wpL_nil (no_panic ?_)
  refine hK1 _ _ ?_
  refine wp_seq_k (fun K3 hK3 => ?_)
  refine wp_region_seq ?_
  refine wpL_move (v := vls) (by rfl) (by rfl) (by rfl) ?_
  simp only [putT, List.set]
  refine wpL_callE (f := 46) (args := #[vls]) (R := MemRow w ((cutsS 50 40 ls).length) (scells (cutsS 50 40 ls))) (by rfl) (by rfl) rfl Tryd.func46 (by kernel_rfl) (by kernel_rfl) (few9_c (hvls.mem M)) (fun v9 w6 hv9 Sw6 => ?_)
  obtain ⟨g5, g5c, rfl, Cg5, M9⟩ := hv9
  replace M := M.call1 M9
  simp only [putT, List.set]
  refine wpL_assign (v := .slice (some ⟨g5, 0, none⟩) ((cutsS 50 40 ls).length) g5c) (by rfl) (by rfl) (by rfl) ?_
  simp only [putT, List.set]
  refine wpL_nil (no_panic ?_)
  simp only [hQ] at M
  simp only [hQ]
  rw [hQ] at Cg5
  refine hK3 _ _ ?_
  refine wp_seq_k (fun K7 hK7 => ?_)
  refine wp_region_seq ?_
  refine wpL_move (v := .slice (some ⟨g5, 0, none⟩) Ql.length g5c) (by rfl) (by rfl) (by rfl) ?_
  simp only [putT, List.set]
  refine wpL_move (v := .int .i64 ((i : Nat) : Int)) (by rfl) (by rfl) (by rfl) ?_
  simp only [putT, List.set]
  refine wpL_chunk 4 (by rfl) (fun Lk hLk => ?_)
  simp only [List.take, List.drop]
  refine wpV_callf (v := .tuple #[.slice none 0 0, .int .i64 1]) (args := #[.slice (some ⟨g5, 0, none⟩) Ql.length g5c, .int .i64 ((i : Nat) : Int)]) (by rfl) rfl Tryd.func47 (by kernel_rfl) (by kernel_rfl) rfl (fun W hW => by with_reducible exact Path_far (l := Ql) hri hx (RowA.of ((M.sees hW).r 0 0 rfl rfl) ((M.sees hW).lt 0 rfl) (scells_len _).symm Cg5)) ?_
  simp only [putT, List.set]
  refine wpV_move (v := .tuple #[.slice none 0 0, .int .i64 1]) (by rfl) rfl rfl ?_
  simp only [putT, List.set]
  refine wpV_extract (v := .slice none 0 0) (by rfl) rfl rfl rfl ?_
  simp only [putT, List.set]
  refine wpV_extract (v := .int .i64 1) (by rfl) rfl rfl rfl ?_
  simp only [putT, List.set]
  refine wpV_nil (hLk _ (fun w9 Sw9 => ?_))
  clear hLk Lk
  simp only [List.take, List.drop]
  replace M := M.sees Sw9
  refine wpL_assign (v := .slice none 0 0) (by rfl) (by rfl) (by rfl) ?_
  simp only [putT, List.set]
  refine wpL_assign (v := .int .i64 1) (by rfl) (by rfl) (by rfl) ?_
  simp only [putT, List.set]
  refine wpL_nil (no_panic ?_)
  refine hK7 _ _ ?_
  refine wp_seq_k (fun K10 hK10 => ?_)
  refine wp_region_seq ?_
  refine wpL_move (v := .slice (some ⟨g5, 0, none⟩) Ql.length g5c) (by rfl) (by rfl) (by rfl) ?_
  simp only [putT, List.set]
  refine wpL_move (v := .int .i64 ((m : Nat) : Int)) (by rfl) (by rfl) (by rfl) ?_
  simp only [putT, List.set]
  refine wpL_chunk 4 (by rfl) (fun Lk hLk => ?_)
  simp only [List.take, List.drop]
  refine wpV_callf (v := .tuple #[.slice none 0 0, .int .i64 0]) (args := #[.slice (some ⟨g5, 0, none⟩) Ql.length g5c, .int .i64 ((m : Nat) : Int)]) (by rfl) rfl Tryd.func48 (by kernel_rfl) (by kernel_rfl) rfl (fun W hW => by with_reducible exact Step_full (l := Ql) hri hy (RowA.of ((M.sees hW).r 0 0 rfl rfl) ((M.sees hW).lt 0 rfl) (scells_len _).symm Cg5)) ?_
  simp only [putT, List.set]
  refine wpV_move (v := .tuple #[.slice none 0 0, .int .i64 0]) (by rfl) rfl rfl ?_
  simp only [putT, List.set]
  refine wpV_extract (v := .slice none 0 0) (by rfl) rfl rfl rfl ?_
  simp only [putT, List.set]
  refine wpV_extract (v := .int .i64 0) (by rfl) rfl rfl rfl ?_
  simp only [putT, List.set]
  refine wpV_nil (hLk _ (fun w12 Sw12 => ?_))
  clear hLk Lk
  simp only [List.take, List.drop]
  replace M := M.sees Sw12
  refine wpL_assign (v := .slice none 0 0) (by rfl) (by rfl) (by rfl) ?_
  simp only [putT, List.set]
  refine wpL_assign (v := .int .i64 0) (by rfl) (by rfl) (by rfl) ?_
  simp only [putT, List.set]
  refine wpL_nil (no_panic ?_)
  refine hK10 _ _ ?_
  refine wp_seq_k (fun K13 hK13 => ?_)
  refine wp_seq_k (fun K14 hK14 => ?_)
  refine wp_region_seq ?_
  refine wpL_move (v := .slice (some ⟨g5, 0, none⟩) Ql.length g5c) (by rfl) (by rfl) (by rfl) ?_
  simp only [putT, List.set]
  refine wpL_chunk 2 (by rfl) (fun Lk hLk => ?_)
  simp only [List.take, List.drop]
  refine wpV_callf (v := .bool true) (args := #[.slice (some ⟨g5, 0, none⟩) Ql.length g5c]) (by rfl) rfl Tryd.func43 (by kernel_rfl) (by kernel_rfl) rfl (fun W hW => by have h9 : Calls Tryd.prog _ _ W _ := rright_r (ps := Ql) (by omega) (RowA.of ((M.sees hW).r 0 0 rfl rfl) ((M.sees hW).lt 0 rfl) (scells_len _).symm Cg5); rw [hri] at h9; exact h9) ?_
  simp only [putT, List.set]
  refine wpV_not (b := true) (by rfl) rfl rfl ?_
  simp only [Bool.not_true, Bool.not_false]
  simp only [putT, List.set]
  refine wpV_nil (hLk _ (fun w16 Sw16 => ?_))
  clear hLk Lk
  simp only [List.take, List.drop]
  replace M := M.sees Sw16
  refine wpL_nil (no_panic ?_)
  refine hK14 _ _ ?_
  refine wp_cond_false rfl ?_
  refine wp_skip ?_
  refine hK13 _ _ ?_
  refine wp_seq_k (fun K17 hK17 => ?_)
  refine wp_seq_k (fun K18 hK18 => ?_)
  refine wp_region_seq ?_
  refine wpL_move (v := .int .i64 ((i : Nat) : Int)) (by rfl) (by rfl) (by rfl) ?_
  simp only [putT, List.set]
  refine wpL_chunk 7 (by rfl) (fun Lk hLk => ?_)
  simp only [List.take, List.drop]
  refine wpV_bin (v := .bool false) (by rfl) rfl rfl rfl (fun W => (run_lssN i 0 _ _ W).trans (by rw [(decide_eq_false (Nat.not_lt_zero i))])) ?_
  simp only [putT, List.set]
  refine wpV_move (v := .bool false) (by rfl) rfl rfl ?_
  simp only [putT, List.set]
  refine wpV_move (v := .int .i64 ((i : Nat) : Int)) (by rfl) rfl rfl ?_
  simp only [putT, List.set]
  refine wpV_move (v := .slice (some ⟨g5, 0, none⟩) Ql.length g5c) (by rfl) rfl rfl ?_
  simp only [putT, List.set]
  refine wpV_lenA (n := Ql.length) (by rfl) rfl rfl rfl Tryd.underlying48 ?_
  simp only [putT, List.set]
  refine wpV_bin (v := .bool true) (by rfl) rfl rfl rfl (fun W => (run_geqN i Ql.length _ _ W).trans (by rw [(decide_eq_true hx)])) ?_
  simp only [putT, List.set]
  refine wpV_pick (v := .bool true) (by rfl) rfl rfl rfl ?_
  simp only [putT, List.set]
  refine wpV_nil (hLk _ (fun w20 Sw20 => ?_))
  clear hLk Lk
  simp only [List.take, List.drop]
  replace M := M.sees Sw20
  refine wpL_nil (no_panic ?_)
  refine hK18 _ _ ?_
  refine wp_cond_true rfl ?_
  refine wp_seq_k (fun K21 hK21 => ?_)
  refine wp_region_seq ?_
  refine wpL_move (v := .int .i64 1) (by rfl) (by rfl) (by rfl) ?_
  simp only [putT, List.set]
  refine wpL_chunk 6 (by rfl) (fun Lk hLk => ?_)
  simp only [List.take, List.drop]
  refine wpV_bin (v := .bool false) (by rfl) rfl rfl rfl (fun W => run_neq _ _ _ _ W) ?_
  simp only [putT, List.set]
  refine wpV_move (v := .bool false) (by rfl) rfl rfl ?_
  simp only [putT, List.set]
  refine wpV_move (v := .slice none 0 0) (by rfl) rfl rfl ?_
  simp only [putT, List.set]
  refine wpV_lenA (n := 0) (by rfl) rfl rfl rfl Tryd.underlying48 ?_
  simp only [putT, List.set]
  refine wpV_bin (v := .bool false) (by rfl) rfl rfl rfl (fun W => run_neq _ _ _ _ W) ?_
  simp only [putT, List.set]
  refine wpV_pick (v := .bool false) (by rfl) rfl rfl rfl ?_
  simp only [putT, List.set]
  refine wpV_nil (hLk _ (fun w23 Sw23 => ?_))
  clear hLk Lk
  simp only [List.take, List.drop]
  replace M := M.sees Sw23
  refine wpL_nil (no_panic ?_)
  refine hK21 _ _ ?_
  refine wp_cond_false rfl ?_
  refine wp_skip ?_
  refine hK17 _ _ ?_
  refine wp_seq_k (fun K24 hK24 => ?_)
  refine wp_seq_k (fun K25 hK25 => ?_)
  refine wp_region_seq ?_
  refine wpL_move (v := .int .i64 ((m : Nat) : Int)) (by rfl) (by rfl) (by rfl) ?_
  simp only [putT, List.set]
  refine wpL_chunk 7 (by rfl) (fun Lk hLk => ?_)
  simp only [List.take, List.drop]
  refine wpV_bin (v := .bool false) (by rfl) rfl rfl rfl (fun W => (run_lssN m 0 _ _ W).trans (by rw [(decide_eq_false (Nat.not_lt_zero m))])) ?_
  simp only [putT, List.set]
  refine wpV_move (v := .bool false) (by rfl) rfl rfl ?_
  simp only [putT, List.set]
  refine wpV_move (v := .int .i64 ((m : Nat) : Int)) (by rfl) rfl rfl ?_
  simp only [putT, List.set]
  refine wpV_move (v := .slice (some ⟨g5, 0, none⟩) Ql.length g5c) (by rfl) rfl rfl ?_
  simp only [putT, List.set]
  refine wpV_lenA (n := Ql.length) (by rfl) rfl rfl rfl Tryd.underlying48 ?_
  simp only [putT, List.set]
  refine wpV_bin (v := .bool false) (by rfl) rfl rfl rfl (fun W => (run_gtrN m Ql.length _ _ W).trans (by rw [(decide_eq_false (by omega))])) ?_
  simp only [putT, List.set]
  refine wpV_pick (v := .bool false) (by rfl) rfl rfl rfl ?_
  simp only [putT, List.set]
  refine wpV_nil (hLk _ (fun w27 Sw27 => ?_))
  clear hLk Lk
  simp only [List.take, List.drop]
  replace M := M.sees Sw27
  refine wpL_nil (no_panic ?_)
  refine hK25 _ _ ?_
  refine wp_cond_false rfl ?_
  refine wp_skip ?_
  refine hK24 _ _ ?_
  refine wp_seq_k (fun K28 hK28 => ?_)
  refine wp_seq_k (fun K29 hK29 => ?_)
  refine wp_region_seq ?_
  refine wpL_move (v := .int .i64 ((m : Nat) : Int)) (by rfl) (by rfl) (by rfl) ?_
  simp only [putT, List.set]
  refine wpL_chunk 1 (by rfl) (fun Lk hLk => ?_)
  simp only [List.take, List.drop]
  refine wpV_bin (v := .bool false) (by rfl) rfl rfl rfl (fun W => (run_eqlN m 0 _ _ W).trans (by rw [(decide_eq_false (by omega))])) ?_
  simp only [putT, List.set]
  refine wpV_nil (hLk _ (fun w31 Sw31 => ?_))
  clear hLk Lk
  simp only [List.take, List.drop]
  replace M := M.sees Sw31
  refine wpL_nil (no_panic ?_)
  refine hK29 _ _ ?_
  refine wp_cond_false rfl ?_
  refine wp_skip ?_
  refine hK28 _ _ ?_
  refine wp_seq_k (fun K32 hK32 => ?_)
  refine wp_region_seq ?_
  refine wpL_chunk 9 (by rfl) (fun Lk hLk => ?_)
  simp only [List.take, List.drop]
  refine wpV_callf (v := .bool true) (args := #[]) (by rfl) rfl Tryd.func49 (by kernel_rfl) (by kernel_rfl) rfl (fun W hW => alive09_c ((M.sees hW).oldL L0) ((M.sees hW).oldR R0_0 L0)) ?_
  simp only [putT, List.set]
  refine wpV_move (v := .bool true) (by rfl) rfl rfl ?_
  simp only [putT, List.set]
  refine wpV_move (v := .int .i64 0) (by rfl) rfl rfl ?_
  simp only [putT, List.set]
  refine wpV_bin (v := .bool true) (by rfl) rfl rfl rfl (fun W => run_eql _ _ _ _ W) ?_
  simp only [putT, List.set]
  refine wpV_pick (v := .bool true) (by rfl) rfl rfl rfl ?_
  simp only [putT, List.set]
  refine wpV_move (v := .bool true) (by rfl) rfl rfl ?_
  simp only [putT, List.set]
  refine wpV_move (v := .slice none 0 0) (by rfl) rfl rfl ?_
  simp only [putT, List.set]
  refine wpV_move (v := .slice (some ⟨g5, 0, none⟩) Ql.length g5c) (by rfl) rfl rfl ?_
  simp only [putT, List.set]
  refine wpV_move (v := .int .i64 ((m : Nat) : Int)) (by rfl) rfl rfl ?_
  simp only [putT, List.set]
  refine wpV_nil (hLk _ (fun w34 Sw34 => ?_))
  clear hLk Lk
  simp only [List.take, List.drop]
  replace M := M.sees Sw34
  refine wpL_guard (by rfl) ?_
  refine wpL_callE (f := 52) (args := #[.slice (some ⟨g5, 0, none⟩) Ql.length g5c, .int .i64 ((m : Nat) : Int), .bool true]) (R := fun v9 W9 => ∃ g36 g36c, v9 = .slice (some ⟨g36, 0, none⟩) ((stepS Ql m true).length) g36c ∧ (stepS Ql m true).length ≤ g36c ∧ Mem [] w34 W9 [⟨g36, g36c, [(0, scells (stepS Ql m true))]⟩]) (by rfl) (by rfl) rfl Tryd.func52 (by kernel_rfl) (by kernel_rfl) (rStep_c _ (l := Ql) (i := m) (wh := true) rfl h4 h32 hm1 (by omega) (RowA.of (M.r 0 0 rfl rfl) (M.lt 0 rfl) (scells_len _).symm Cg5)) (fun v9 w35 hv9 Sw35 => ?_)
  obtain ⟨g36, g36c, rfl, Cg36, M9⟩ := hv9
  replace M := M.call1 M9
  clear Sw35
  simp only [putT, List.set]
  refine wpL_chunk 2 (by rfl) (fun Lk hLk => ?_)
  simp only [List.take, List.drop]
  refine wpV_callf (v := .bool true) (args := #[.slice none 0 0, .slice (some ⟨g36, 0, none⟩) ((stepS Ql m true).length) g36c]) (by rfl) rfl Tryd.func50 (by kernel_rfl) (by kernel_rfl) rfl (fun W hW => by have h9 : Calls Tryd.prog _ _ W _ := same_r (ps := []) (qs := stepS Ql m true) (by decide) RowA.nil (RowA.of ((M.sees hW).r 0 0 rfl rfl) ((M.sees hW).lt 0 rfl) (scells_len _).symm Cg36); rw [decide_eq_true (by rw [stepS_all (by omega)]; rfl)] at h9; exact h9) ?_
  simp only [putT, List.set]
  refine wpV_pick (v := .bool true) (by rfl) rfl rfl rfl ?_
  simp only [putT, List.set]
  refine wpV_nil (hLk _ (fun w37 Sw37 => ?_))
  clear hLk Lk
  simp only [List.take, List.drop]
  replace M := M.sees Sw37
  refine wpL_assign (v := .bool true) (by rfl) (by rfl) (by rfl) ?_
  simp only [putT, List.set]
  refine wpL_nil (no_panic ?_)
  refine hK32 _ _ ?_
  refine wp_ret ?_
  repeat (first | with_reducible refine then_ret ?_ | with_reducible refine inblock_ret ?_)
  refine bodyPost_ret (v := .bool true) (res1 rfl (.tmp (by rfl))) rfl ?_
  have BE := M.below
  exact ⟨rfl, BE⟩
set_option maxRecDepth 100000 in
set_option maxHeartbeats 4000000 in
theorem makes_far_go {vls : Value} {ls Ql : List (List UInt8)} {i : Nat} {m : Nat} {w : World} (hQ : cutsS 50 40 ls = Ql) (hQL : Ql.length ≤ 50) (hri : rightB Ql = true) (h4 : Ql.length ≤ 4096) (h32 : ∀ s ∈ Ql, s.length = 32) (hx : Ql.length ≤ i) (hm1 : 1 ≤ m) (hy : m < Ql.length) (L0 : 0 < w.heap.size) (R0_0 : w.rangeAt 0 0 kcells) (hvls : RowS w vls ls) :
    Calls Tryd.prog 9 #[vls, .int .i64 ((i : Nat) : Int), .int .i64 ((m : Nat) : Int)] w fun e w' => e = .returned (.bool true) ∧ Below w.heap.size w w' := by
  go_enter Tryd.func9, Tryd.ntmps9
  have M := Mem.start w
  refine wp_seq_k (fun K1 hK1 => ?_)
  refine wp_region_seq ?_
  refine wpL_assign (v := .bool false) (by rfl) (by rfl) (by rfl) ?_
  simp only [putT, List.set]
  refine wpL_nil (no_panic ?_)
  refine hK1 _ _ ?_
  refine wp_seq_k (fun K3 hK3 => ?_)
  refine wp_region_seq ?_
  refine wpL_move (v := vls) (by rfl) (by rfl) (by rfl) ?_
  simp only [putT, List.set]
  refine wpL_callE (f := 46) (args := #[vls]) (R := MemRow w ((cutsS 50 40 ls).length) (scells (cutsS 50 40 ls))) (by rfl) (by rfl) rfl Tryd.func46 (by kernel_rfl) (by kernel_rfl) (few9_c (hvls.mem M)) (fun v9 w6 hv9 Sw6 => ?_)
  obtain ⟨g5, g5c, rfl, Cg5, M9⟩ := hv9
  replace M := M.call1 M9
  simp only [putT, List.set]
  refine wpL_assign (v := .slice (some ⟨g5, 0, none⟩) ((cutsS 50 40 ls).length) g5c) (by rfl) (by rfl) (by rfl) ?_
  simp only [putT, List.set]
  refine wpL_nil (no_panic ?_)
  simp only [hQ] at M
  simp only [hQ]
  rw [hQ] at Cg5
  refine hK3 _ _ ?_
  refine wp_seq_k (fun K7 hK7 => ?_)
  refine wp_region_seq ?_
  refine wpL_move (v := .slice (some ⟨g5, 0, none⟩) Ql.length g5c) (by rfl) (by rfl) (by rfl) ?_
  simp only [putT, List.set]
  refine wpL_move (v := .int .i64 ((i : Nat) : Int)) (by rfl) (by rfl) (by rfl) ?_
  simp only [putT, List.set]
  refine wpL_chunk 4 (by rfl) (fun Lk hLk => ?_)
  simp only [List.take, List.drop]
  refine wpV_callf (v := .tuple #[.slice none 0 0, .int .i64 1]) (args := #[.slice (some ⟨g5, 0, none⟩) Ql.length g5c, .int .i64 ((i : Nat) : Int)]) (by rfl) rfl Tryd.func47 (by kernel_rfl) (by kernel_rfl) rfl (fun W hW => by with_reducible exact Path_far (l := Ql) hri hx (RowA.of ((M.sees hW).r 0 0 rfl rfl) ((M.sees hW).lt 0 rfl) (scells_len _).symm Cg5)) ?_
  simp only [putT, List.set]
  refine wpV_move (v := .tuple #[.slice none 0 0, .int .i64 1]) (by rfl) rfl rfl ?_
  simp only [putT, List.set]
  refine wpV_extract (v := .slice none 0 0) (by rfl) rfl rfl rfl ?_
  simp only [putT, List.set]
  refine wpV_extract (v := .int .i64 1) (by rfl) rfl rfl rfl ?_
  simp only [putT, List.set]
  refine wpV_nil (hLk _ (fun w9 Sw9 => ?_))
  clear hLk Lk
  simp only [List.take, List.drop]
  replace M := M.sees Sw9
  refine wpL_assign (v := .slice none 0 0) (by rfl) (by rfl) (by rfl) ?_
  simp only [putT, List.set]
  refine wpL_assign (v := .int .i64 1) (by rfl) (by rfl) (by rfl) ?_
  simp only [putT, List.set]
  refine wpL_nil (no_panic ?_)
  refine hK7 _ _ ?_
  refine wp_seq_k (fun K10 hK10 => ?_)
  refine wp_region_seq ?_
  refine wpL_move (v := .slice (some ⟨g5, 0, none⟩) Ql.length g5c) (by rfl) (by rfl) (by rfl) ?_
  simp only [putT, List.set]
  refine wpL_move (v := .int .i64 ((m : Nat) : Int)) (by rfl) (by rfl) (by rfl) ?_
  simp only [putT, List.set]
  refine wpL_callE (f := 48) (args := #[.slice (some ⟨g5, 0, none⟩) Ql.length g5c, .int .i64 ((m : Nat) : Int)]) (R := fun v9 W9 => ∃ a13 c13, v9 = .tuple #[.slice a13 ((stepS Ql m true).length) c13, .int .i64 0] ∧ RowA W9 a13 (stepS Ql m true).length c13 (scells (stepS Ql m true))) (by rfl) (by rfl) rfl Tryd.func48 (by kernel_rfl) (by kernel_rfl) (Step_n (l := Ql) (m := m) hri hm1 hy (M.oldL L0) (M.oldR R0_0 L0) (RowA.of (M.r 0 0 rfl rfl) (M.lt 0 rfl) (scells_len _).symm Cg5)) (fun v9 w12 hv9 Sw12 => ?_)
  obtain ⟨a13, c13, rfl, H13_0⟩ := hv9
  replace M := M.sees Sw12
  replace R0_0 := M.oldR R0_0 L0
  replace L0 := M.oldL L0
  have Rg5_0 := M.r 0 0 rfl rfl
  have Lg5 := M.lt 0 rfl
  have BB := M.below
  replace M := Mem.start w12
  simp only [putT, List.set]
  refine wpL_move (v := .tuple #[.slice a13 ((stepS Ql m true).length) c13, .int .i64 0]) (by rfl) (by rfl) (by rfl) ?_
  simp only [putT, List.set]
  refine wpL_chunk 2 (by rfl) (fun Lk hLk => ?_)
  simp only [List.take, List.drop]
  refine wpV_extract (v := .slice a13 ((stepS Ql m true).length) c13) (by rfl) rfl rfl rfl ?_
  simp only [putT, List.set]
  refine wpV_extract (v := .int .i64 0) (by rfl) rfl rfl rfl ?_
  simp only [putT, List.set]
  refine wpV_nil (hLk _ (fun w14 Sw14 => ?_))
  clear hLk Lk
  simp only [List.take, List.drop]
  replace M := M.sees Sw14
  refine wpL_assign (v := .slice a13 ((stepS Ql m true).length) c13) (by rfl) (by rfl) (by rfl) ?_
  simp only [putT, List.set]
  refine wpL_assign (v := .int .i64 0) (by rfl) (by rfl) (by rfl) ?_
  simp only [putT, List.set]
  refine wpL_nil (no_panic ?_)
  refine hK10 _ _ ?_
  refine wp_seq_k (fun K15 hK15 => ?_)
  refine wp_seq_k (fun K16 hK16 => ?_)
  refine wp_region_seq ?_
  refine wpL_move (v := .slice (some ⟨g5, 0, none⟩) Ql.length g5c) (by rfl) (by rfl) (by rfl) ?_
  simp only [putT, List.set]
  refine wpL_chunk 2 (by rfl) (fun Lk hLk => ?_)
  simp only [List.take, List.drop]
  refine wpV_callf (v := .bool true) (args := #[.slice (some ⟨g5, 0, none⟩) Ql.length g5c]) (by rfl) rfl Tryd.func43 (by kernel_rfl) (by kernel_rfl) rfl (fun W hW => by have h9 : Calls Tryd.prog _ _ W _ := rright_r (ps := Ql) (by omega) (RowA.of ((M.sees hW).oldR Rg5_0 Lg5) ((M.sees hW).oldL Lg5) (scells_len _).symm Cg5); rw [hri] at h9; exact h9) ?_
  simp only [putT, List.set]
  refine wpV_not (b := true) (by rfl) rfl rfl ?_
  simp only [Bool.not_true, Bool.not_false]
  simp only [putT, List.set]
  refine wpV_nil (hLk _ (fun w18 Sw18 => ?_))
  clear hLk Lk
  simp only [List.take, List.drop]
  replace M := M.sees Sw18
  refine wpL_nil (no_panic ?_)
  refine hK16 _ _ ?_
  refine wp_cond_false rfl ?_
  refine wp_skip ?_
  refine hK15 _ _ ?_
  refine wp_seq_k (fun K19 hK19 => ?_)
  refine wp_seq_k (fun K20 hK20 => ?_)
  refine wp_region_seq ?_
  refine wpL_move (v := .int .i64 ((i : Nat) : Int)) (by rfl) (by rfl) (by rfl) ?_
  simp only [putT, List.set]
  refine wpL_chunk 7 (by rfl) (fun Lk hLk => ?_)
  simp only [List.take, List.drop]
  refine wpV_bin (v := .bool false) (by rfl) rfl rfl rfl (fun W => (run_lssN i 0 _ _ W).trans (by rw [(decide_eq_false (Nat.not_lt_zero i))])) ?_
  simp only [putT, List.set]
  refine wpV_move (v := .bool false) (by rfl) rfl rfl ?_
  simp only [putT, List.set]
  refine wpV_move (v := .int .i64 ((i : Nat) : Int)) (by rfl) rfl rfl ?_
  simp only [putT, List.set]
  refine wpV_move (v := .slice (some ⟨g5, 0, none⟩) Ql.length g5c) (by rfl) rfl rfl ?_
  simp only [putT, List.set]
  refine wpV_lenA (n := Ql.length) (by rfl) rfl rfl rfl Tryd.underlying48 ?_
  simp only [putT, List.set]
  refine wpV_bin (v := .bool true) (by rfl) rfl rfl rfl (fun W => (run_geqN i Ql.length _ _ W).trans (by rw [(decide_eq_true hx)])) ?_
  simp only [putT, List.set]
  refine wpV_pick (v := .bool true) (by rfl) rfl rfl rfl ?_
  simp only [putT, List.set]
  refine wpV_nil (hLk _ (fun w22 Sw22 => ?_))
  clear hLk Lk
  simp only [List.take, List.drop]
  replace M := M.sees Sw22
  refine wpL_nil (no_panic ?_)
  refine hK20 _ _ ?_
  refine wp_cond_true rfl ?_
  refine wp_seq_k (fun K23 hK23 => ?_)
  refine wp_region_seq ?_
  refine wpL_move (v := .int .i64 1) (by rfl) (by rfl) (by rfl) ?_
  simp only [putT, List.set]
  refine wpL_chunk 6 (by rfl) (fun Lk hLk => ?_)
  simp only [List.take, List.drop]
  refine wpV_bin (v := .bool false) (by rfl) rfl rfl rfl (fun W => run_neq _ _ _ _ W) ?_
  simp only [putT, List.set]
  refine wpV_move (v := .bool false) (by rfl) rfl rfl ?_
  simp only [putT, List.set]
  refine wpV_move (v := .slice none 0 0) (by rfl) rfl rfl ?_
  simp only [putT, List.set]
  refine wpV_lenA (n := 0) (by rfl) rfl rfl rfl Tryd.underlying48 ?_
  simp only [putT, List.set]
  refine wpV_bin (v := .bool false) (by rfl) rfl rfl rfl (fun W => run_neq _ _ _ _ W) ?_
  simp only [putT, List.set]
  refine wpV_pick (v := .bool false) (by rfl) rfl rfl rfl ?_
  simp only [putT, List.set]
  refine wpV_nil (hLk _ (fun w25 Sw25 => ?_))
  clear hLk Lk
  simp only [List.take, List.drop]
  replace M := M.sees Sw25
  refine wpL_nil (no_panic ?_)
  refine hK23 _ _ ?_
  refine wp_cond_false rfl ?_
  refine wp_skip ?_
  refine hK19 _ _ ?_
  refine wp_seq_k (fun K26 hK26 => ?_)
  refine wp_seq_k (fun K27 hK27 => ?_)
  refine wp_region_seq ?_
  refine wpL_move (v := .int .i64 ((m : Nat) : Int)) (by rfl) (by rfl) (by rfl) ?_
  simp only [putT, List.set]
  refine wpL_chunk 7 (by rfl) (fun Lk hLk => ?_)
  simp only [List.take, List.drop]
  refine wpV_bin (v := .bool false) (by rfl) rfl rfl rfl (fun W => (run_lssN m 0 _ _ W).trans (by rw [(decide_eq_false (Nat.not_lt_zero m))])) ?_
  simp only [putT, List.set]
  refine wpV_move (v := .bool false) (by rfl) rfl rfl ?_
  simp only [putT, List.set]
  refine wpV_move (v := .int .i64 ((m : Nat) : Int)) (by rfl) rfl rfl ?_
  simp only [putT, List.set]
  refine wpV_move (v := .slice (some ⟨g5, 0, none⟩) Ql.length g5c) (by rfl) rfl rfl ?_
  simp only [putT, List.set]
  refine wpV_lenA (n := Ql.length) (by rfl) rfl rfl rfl Tryd.underlying48 ?_
  simp only [putT, List.set]
  refine wpV_bin (v := .bool false) (by rfl) rfl rfl rfl (fun W => (run_gtrN m Ql.length _ _ W).trans (by rw [(decide_eq_false (by omega))])) ?_
  simp only [putT, List.set]
  refine wpV_pick (v := .bool false) (by rfl) rfl rfl rfl ?_
  simp only [putT, List.set]
  refine wpV_nil (hLk _ (fun w29 Sw29 => ?_))
  clear hLk Lk
  simp only [List.take, List.drop]
  replace M := M.sees Sw29
  refine wpL_nil (no_panic ?_)
  refine hK27 _ _ ?_
  refine wp_cond_false rfl ?_
  refine wp_skip ?_
  refine hK26 _ _ ?_
  refine wp_seq_k (fun K30 hK30 => ?_)
  refine wp_seq_k (fun K31 hK31 => ?_)
  refine wp_region_seq ?_
  refine wpL_move (v := .int .i64 ((m : Nat) : Int)) (by rfl) (by rfl) (by rfl) ?_
  simp only [putT, List.set]
  refine wpL_chunk 1 (by rfl) (fun Lk hLk => ?_)
  simp only [List.take, List.drop]
  refine wpV_bin (v := .bool false) (by rfl) rfl rfl rfl (fun W => (run_eqlN m 0 _ _ W).trans (by rw [(decide_eq_false (by omega))])) ?_
  simp only [putT, List.set]
  refine wpV_nil (hLk _ (fun w33 Sw33 => ?_))
  clear hLk Lk
  simp only [List.take, List.drop]
  replace M := M.sees Sw33
  refine wpL_nil (no_panic ?_)
  refine hK31 _ _ ?_
  refine wp_cond_false rfl ?_
  refine wp_skip ?_
  refine hK30 _ _ ?_
  refine wp_seq_k (fun K34 hK34 => ?_)
  refine wp_region_seq ?_
  refine wpL_chunk 9 (by rfl) (fun Lk hLk => ?_)
  simp only [List.take, List.drop]
  refine wpV_callf (v := .bool true) (args := #[]) (by rfl) rfl Tryd.func49 (by kernel_rfl) (by kernel_rfl) rfl (fun W hW => alive09_c ((M.sees hW).oldL L0) ((M.sees hW).oldR R0_0 L0)) ?_
  simp only [putT, List.set]
  refine wpV_move (v := .bool true) (by rfl) rfl rfl ?_
  simp only [putT, List.set]
  refine wpV_move (v := .int .i64 0) (by rfl) rfl rfl ?_
  simp only [putT, List.set]
  refine wpV_bin (v := .bool true) (by rfl) rfl rfl rfl (fun W => run_eql _ _ _ _ W) ?_
  simp only [putT, List.set]
  refine wpV_pick (v := .bool true) (by rfl) rfl rfl rfl ?_
  simp only [putT, List.set]
  refine wpV_move (v := .bool true) (by rfl) rfl rfl ?_
  simp only [putT, List.set]
  refine wpV_move (v := .slice a13 ((stepS Ql m true).length) c13) (by rfl) rfl rfl ?_
  simp only [putT, List.set]
  refine wpV_move (v := .slice (some ⟨g5, 0, none⟩) Ql.length g5c) (by rfl) rfl rfl ?_
  simp only [putT, List.set]
  refine wpV_move (v := .int .i64 ((m : Nat) : Int)) (by rfl) rfl rfl ?_
  simp only [putT, List.set]
  refine wpV_nil (hLk _ (fun w36 Sw36 => ?_))
  clear hLk Lk
  simp only [List.take, List.drop]
  replace M := M.sees Sw36
  refine wpL_guard (by rfl) ?_
  refine wpL_callE (f := 52) (args := #[.slice (some ⟨g5, 0, none⟩) Ql.length g5c, .int .i64 ((m : Nat) : Int), .bool true]) (R := fun v9 W9 => ∃ g38 g38c, v9 = .slice (some ⟨g38, 0, none⟩) ((stepS Ql m true).length) g38c ∧ (stepS Ql m true).length ≤ g38c ∧ Mem [] w36 W9 [⟨g38, g38c, [(0, scells (stepS Ql m true))]⟩]) (by rfl) (by rfl) rfl Tryd.func52 (by kernel_rfl) (by kernel_rfl) (rStep_c _ (l := Ql) (i := m) (wh := true) rfl h4 h32 hm1 (by omega) (RowA.of (M.oldR Rg5_0 Lg5) (M.oldL Lg5) (scells_len _).symm Cg5)) (fun v9 w37 hv9 Sw37 => ?_)
  obtain ⟨g38, g38c, rfl, Cg38, M9⟩ := hv9
  replace M := M.call1 M9
  clear Sw37
  simp only [putT, List.set]
  refine wpL_chunk 2 (by rfl) (fun Lk hLk => ?_)
  simp only [List.take, List.drop]
  refine wpV_callf (v := .bool true) (args := #[.slice a13 ((stepS Ql m true).length) c13, .slice (some ⟨g38, 0, none⟩) ((stepS Ql m true).length) g38c]) (by rfl) rfl Tryd.func50 (by kernel_rfl) (by kernel_rfl) rfl (fun W hW => by have h9 : Calls Tryd.prog _ _ W _ := same_r (ps := stepS Ql m true) (qs := stepS Ql m true) (Nat.le_trans (stepS_le (by omega)) (by omega)) ((M.sees hW).oldA H13_0) (RowA.of ((M.sees hW).r 0 0 rfl rfl) ((M.sees hW).lt 0 rfl) (scells_len _).symm Cg38); rw [decide_eq_true rfl] at h9; exact h9) ?_
  simp only [putT, List.set]
  refine wpV_pick (v := .bool true) (by rfl) rfl rfl rfl ?_
  simp only [putT, List.set]
  refine wpV_nil (hLk _ (fun w39 Sw39 => ?_))
  clear hLk Lk
  simp only [List.take, List.drop]
  replace M := M.sees Sw39
  refine wpL_assign (v := .bool true) (by rfl) (by rfl) (by rfl) ?_
  simp only [putT, List.set]
  refine wpL_nil (no_panic ?_)
  refine hK34 _ _ ?_
  refine wp_ret ?_
  repeat (first | with_reducible refine then_ret ?_ | with_reducible refine inblock_ret ?_)
  refine bodyPost_ret (v := .bool true) (res1 rfl (.tmp (by rfl))) rfl ?_
  have BE := M.below
  exact ⟨rfl, BB.trans (BE.mono BB.size)⟩
end Go.Proofs.Yb

