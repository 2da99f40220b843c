import Derived.WalkKit
import Derived.WalkSpells
import Derived.Laws.Pointers
import Derived.RowKit3
import Derived.Below
import Derived.Outline
import Derived.LoopN
import Derived.Lib.Hide
import Derived.Handy
import Derived.Laws.Bits64b
import Derived.Test.YticcchgckljlnaaDoorTr4
set_option linter.unusedSimpArgs false
set_option linter.unusedVariables false
namespace Go.Proofs.Yb
open Go Go.RowKit Go.Proofs.Num
set_option maxHeartbeats 2000000 in
theorem roots_c {vps : Value} {ps : List (List UInt8)} {d : List UInt8} {w : World} (L0 : 0 < w.heap.size) (R0_0 : w.rangeAt 0 0 kcells) (hvps : RowS w vps ps) :
    Calls Tryd.prog 7 #[vps, .string (bs d)] w fun e w' => e = .returned (.bool true) ∧ Below w.heap.size w w' := by
  go_enter Tryd.func7, Tryd.ntmps7
  have M := Mem.start w
  refine wp_seq_k (fun K1 hK1 => ?_)
  refine wp_region_seq ?_
  refine wpL_assign (v := .bool false) (by rfl) (by rfl) (by rfl) ?_
  simp only [putT, List.set]
  refine wpL_nil (no_panic ?_)
  refine hK1 _ _ ?_
  refine wp_seq_k (fun K3 hK3 => ?_)
  refine wp_region_treeN (by kernel_rfl) (fun w5 Sw5 => ?_)
  replace M := M.sees Sw5
  refine any_first 0 (v := vps) (by rfl) (by kernel_rfl) nopanic_not (by rfl) (by exact yl_move rfl rfl) ?_
  simp only [putT, List.set]
  refine any_first 2 (v := .string (bs d)) (by rfl) (by kernel_rfl) nopanic_not (by rfl) (by exact yl_move rfl rfl) ?_
  simp only [putT, List.set]
  refine any_first 3 (v := .string (bs d)) (by rfl) (by kernel_rfl) nopanic_not (by rfl) (by exact yl_move rfl rfl) ?_
  simp only [putT, List.set]
  refine any_first 4 (v := .int .i64 ((d.length : Nat) : Int)) (by rfl) (by kernel_rfl) nopanic_not (by rfl) (by exact yl_lenS rfl rfl rfl Tryd.underlying9) ?_
  simp only [putT, List.set]
  refine any_first 5 (v := .int .i64 ((min d.length 200 : Nat) : Int)) (by rfl) (by kernel_rfl) nopanic_not (by rfl) (by exact yl_min (n := d.length) (m := 200) rfl rfl rfl) ?_
  simp only [putT, List.set]
  refine any_first 6 (v := .string (bs (cut d 200))) (by rfl) (by kernel_rfl) nopanic_not (by rfl) (by exact yl_cut (l := d) (m := 200) rfl rfl rfl Tryd.underlying9) ?_
  simp only [putT, List.set]
  refine any_step [1] (by kernel_rfl) rfl (any_one ?_)
  refine any_opL 1 (by rfl) ?_
  simp only [List.take, List.drop]
  refine wpL_callE (f := 36) (args := #[vps]) (R := MemRow w5 ((cutsS 80 40 ps).length) (scells (cutsS 80 40 ps))) (by rfl) (by rfl) rfl Tryd.func36 (by kernel_rfl) (by kernel_rfl) ((few_c (hvps.mem M)).mono fun e W' h => h) (fun v9 w7 hv9 Sw7 => ?_)
  obtain ⟨g6, g6c, rfl, Cg6, M9⟩ := hv9
  replace M := M.call1 M9
  simp only [putT, List.set]
  refine wpL_nil (then_normal ?_)
  refine any_first 7 (v := .slice (some ⟨g6, 0, none⟩) ((cutsS 80 40 ps).length) g6c) (by rfl) (by kernel_rfl) nopanic_not (by rfl) (by exact yl_assign rfl rfl) ?_
  simp only [putT, List.set]
  refine any_first 8 (v := .string (bs (cut d 200))) (by rfl) (by kernel_rfl) nopanic_not (by rfl) (by exact yl_assign rfl rfl) ?_
  simp only [putT, List.set]
  refine any_end (by kernel_rfl) (no_panic ?_)
  obtain ⟨qs, hqs⟩ : ∃ qs, qs = cutsS 80 40 ps := ⟨_, rfl⟩
  have hql : qs.length ≤ 80 := hqs ▸ cutsS_len _ _ _
  rw [← hqs] at M Cg6
  rw [← hqs]
  refine hK3 _ _ ?_
  refine wp_seq_k (fun K8 hK8 => ?_)
  refine wp_region_seq ?_
  refine wpL_move (v := .slice (some ⟨g6, 0, none⟩) qs.length g6c) (by rfl) (by rfl) (by rfl) ?_
  simp only [putT, List.set]
  refine wpL_chunk 4 (by rfl) (fun Lk hLk => ?_)
  simp only [List.take, List.drop]
  refine wpV_callf (v := .tuple #[.string (bs (rootT qs)), .int .i64 (rootE qs)]) (args := #[.slice (some ⟨g6, 0, none⟩) qs.length g6c]) (by rfl) rfl Tryd.func37 (by kernel_rfl) (by kernel_rfl) rfl (fun W hW => by with_reducible exact Root_c1 (ps := qs) ((M.sees hW).oldL L0) ((M.sees hW).oldR R0_0 L0) rfl Cg6 ((M.sees hW).lt 0 rfl) ((M.sees hW).r 0 0 rfl rfl)) ?_
  simp only [putT, List.set]
  refine wpV_move (v := .tuple #[.string (bs (rootT qs)), .int .i64 (rootE qs)]) (by rfl) rfl rfl ?_
  simp only [putT, List.set]
  refine wpV_extract (v := .string (bs (rootT qs))) (by rfl) rfl rfl rfl ?_
  simp only [putT, List.set]
  refine wpV_extract (v := .int .i64 (rootE qs)) (by rfl) rfl rfl rfl ?_
  simp only [putT, List.set]
  refine wpV_nil (hLk _ (fun w10 Sw10 => ?_))
  clear hLk Lk
  simp only [List.take, List.drop]
  replace M := M.sees Sw10
  refine wpL_assign (v := .string (bs (rootT qs))) (by rfl) (by rfl) (by rfl) ?_
  simp only [putT, List.set]
  refine wpL_assign (v := .int .i64 (rootE qs)) (by rfl) (by rfl) (by rfl) ?_
  simp only [putT, List.set]
  refine wpL_nil (no_panic ?_)
  refine hK8 _ _ ?_
  refine wp_seq_k (fun K11 hK11 => ?_)
  refine wp_seq_k (fun K12 hK12 => ?_)
  refine wp_region_seq ?_
  refine wpL_move (v := .string (bs (cut d 200))) (by rfl) (by rfl) (by rfl) ?_
  simp only [putT, List.set]
  refine wpL_chunk 22 (by rfl) (fun Lk hLk => ?_)
  simp only [List.take, List.drop]
  refine wpV_callf (v := .string (bs (leafS (cut d 200)))) (args := #[.string (bs (cut d 200))]) (by rfl) rfl Tryd.func38 (by kernel_rfl) (by kernel_rfl) rfl (fun W hW => leaf_c (d := cut d 200) (Nat.le_trans (cut_len _ _) (by decide)) ((M.sees hW).oldL L0) ((M.sees hW).oldR R0_0 L0)) ?_
  simp only [putT, List.set]
  refine wpV_move (v := .string (bs (cut d 200))) (by rfl) rfl rfl ?_
  simp only [putT, List.set]
  refine wpV_callf (v := .string (bs (leafS (cut d 200)))) (args := #[.string (bs (cut d 200))]) (by rfl) rfl Tryd.func39 (by kernel_rfl) (by kernel_rfl) rfl (fun W hW => rleaf_c (d := cut d 200) (Nat.le_trans (cut_len _ _) (by decide))) ?_
  simp only [putT, List.set]
  refine wpV_binS (v := .bool false) (by rfl) rfl rfl rfl (fun W => (run_neq_bs _ _ _ W).trans (by rw [show decide (leafS (cut d 200) ≠ leafS (cut d 200)) = false from (decide_eq_false (fun h9 => h9 rfl))])) ?_
  simp only [putT, List.set]
  refine wpV_move (v := .bool false) (by rfl) rfl rfl ?_
  simp only [putT, List.set]
  refine wpV_move (v := .string (bs (cut d 200))) (by rfl) rfl rfl ?_
  simp only [putT, List.set]
  refine wpV_callf (v := .string (bs (nodeS (cut d 200) ([120])))) (args := #[.string (bs (cut d 200)), .string (bs ([120]))]) (by rfl) rfl Tryd.func40 (by kernel_rfl) (by kernel_rfl) rfl (fun W hW => node_c (a := cut d 200) (b := [120]) (Nat.le_trans (cut_len _ _) (by decide)) (by decide) ((M.sees hW).oldL L0) ((M.sees hW).oldR R0_0 L0)) ?_
  simp only [putT, List.set]
  refine wpV_move (v := .string (bs (cut d 200))) (by rfl) rfl rfl ?_
  simp only [putT, List.set]
  refine wpV_callf (v := .string (bs (nodeS (cut d 200) ([120])))) (args := #[.string (bs (cut d 200)), .string (bs ([120]))]) (by rfl) rfl Tryd.func41 (by kernel_rfl) (by kernel_rfl) rfl (fun W hW => rnode_c (a := cut d 200) (b := [120]) (Nat.le_trans (cut_len _ _) (by decide)) (by decide)) ?_
  simp only [putT, List.set]
  refine wpV_binS (v := .bool false) (by rfl) rfl rfl rfl (fun W => (run_neq_bs _ _ _ W).trans (by rw [show decide (nodeS (cut d 200) ([120]) ≠ nodeS (cut d 200) ([120])) = false from (decide_eq_false (fun h9 => h9 rfl))])) ?_
  simp only [putT, List.set]
  refine wpV_pick (v := .bool false) (by rfl) rfl rfl rfl ?_
  simp only [putT, List.set]
  refine wpV_move (v := .bool false) (by rfl) rfl rfl ?_
  simp only [putT, List.set]
  refine wpV_move (v := .slice (some ⟨g6, 0, none⟩) qs.length g6c) (by rfl) rfl rfl ?_
  simp only [putT, List.set]
  refine wpV_callf (v := .bool (rightB qs)) (args := #[.slice (some ⟨g6, 0, none⟩) qs.length g6c]) (by rfl) rfl Tryd.func42 (by kernel_rfl) (by kernel_rfl) rfl (fun W hW => right_c (ps := qs)  rfl Cg6 ((M.sees hW).lt 0 rfl) ((M.sees hW).r 0 0 rfl rfl)) ?_
  simp only [putT, List.set]
  refine wpV_move (v := .slice (some ⟨g6, 0, none⟩) qs.length g6c) (by rfl) rfl rfl ?_
  simp only [putT, List.set]
  refine wpV_callf (v := .bool (rightB qs)) (args := #[.slice (some ⟨g6, 0, none⟩) qs.length g6c]) (by rfl) rfl Tryd.func43 (by kernel_rfl) (by kernel_rfl) rfl (fun W hW => rright_c (ps := qs) (by omega) rfl Cg6 ((M.sees hW).lt 0 rfl) ((M.sees hW).r 0 0 rfl rfl)) ?_
  simp only [putT, List.set]
  refine wpV_binB (v := .bool false) (b := rightB qs) (c := rightB qs) (by rfl) rfl rfl rfl (fun W => (run_neqB Tryd.underlying4 _ _ W).trans (by rw [bne_self_eq_false])) ?_
  simp only [putT, List.set]
  refine wpV_pick (v := .bool false) (by rfl) rfl rfl rfl ?_
  simp only [putT, List.set]
  refine wpV_move (v := .bool false) (by rfl) rfl rfl ?_
  simp only [putT, List.set]
  refine wpV_callf (v := .bool true) (args := #[]) (by rfl) rfl Tryd.func44 (by kernel_rfl) (by kernel_rfl) rfl (fun W hW => alive08_c ((M.sees hW).oldL L0) ((M.sees hW).oldR R0_0 L0)) ?_
  simp only [putT, List.set]
  refine wpV_not (b := true) (by rfl) rfl rfl ?_
  simp only [Bool.not_true, Bool.not_false]
  simp only [putT, List.set]
  refine wpV_pick (v := .bool false) (by rfl) rfl rfl rfl ?_
  simp only [putT, List.set]
  refine wpV_nil (hLk _ (fun w14 Sw14 => ?_))
  clear hLk Lk
  simp only [List.take, List.drop]
  replace M := M.sees Sw14
  refine wpL_nil (no_panic ?_)
  refine hK12 _ _ ?_
  refine wp_cond_false rfl ?_
  refine wp_skip ?_
  refine hK11 _ _ ?_
  refine wp_seq_k (fun K15 hK15 => ?_)
  refine wp_seq_k (fun K16 hK16 => ?_)
  refine wp_region_seq ?_
  refine wpL_move (v := .slice (some ⟨g6, 0, none⟩) qs.length g6c) (by rfl) (by rfl) (by rfl) ?_
  simp only [putT, List.set]
  refine wpL_chunk 2 (by rfl) (fun Lk hLk => ?_)
  simp only [List.take, List.drop]
  refine wpV_callf (v := .bool (rightB qs)) (args := #[.slice (some ⟨g6, 0, none⟩) qs.length g6c]) (by rfl) rfl Tryd.func43 (by kernel_rfl) (by kernel_rfl) rfl (fun W hW => rright_c (ps := qs) (by omega) rfl Cg6 ((M.sees hW).lt 0 rfl) ((M.sees hW).r 0 0 rfl rfl)) ?_
  simp only [putT, List.set]
  refine wpV_not (b := rightB qs) (by rfl) rfl rfl ?_
  simp only [putT, List.set]
  refine wpV_nil (hLk _ (fun w18 Sw18 => ?_))
  clear hLk Lk
  simp only [List.take, List.drop]
  replace M := M.sees Sw18
  refine wpL_nil (no_panic ?_)
  refine hK16 _ _ ?_
  cases hc19 : (!(rightB qs))
  · skip
    have hr : rightB qs = true := by simpa using hc19
    have hE : ((rootE qs) == 0) = true := by rw [rootE_yes hr]; rfl
    have hT : decide (rootT qs = rootS qs) = true := decide_eq_true (rootT_yes hr)
    have hr2 : qs.length ≤ 4096 ∧ all32 qs = true := by simpa [rightB] using hr
    refine wp_cond_false rfl ?_
    refine wp_skip ?_
    refine hK15 _ _ ?_
    refine wp_seq_k (fun K20 hK20 => ?_)
    refine wp_region_seq ?_
    refine wpL_move (v := .int .i64 (rootE qs)) (by rfl) (by rfl) (by rfl) ?_
    simp only [putT, List.set]
    refine wpL_chunk 7 (by rfl) (fun Lk hLk => ?_)
    simp only [List.take, List.drop]
    refine wpV_bin (v := .bool true) (by rfl) rfl rfl rfl (fun W => (run_eql _ _ _ _ W).trans (by rw [hE])) ?_
    simp only [putT, List.set]
    refine wpV_move (v := .bool true) (by rfl) rfl rfl ?_
    simp only [putT, List.set]
    refine wpV_move (v := .string (bs (rootT qs))) (by rfl) rfl rfl ?_
    simp only [putT, List.set]
    refine wpV_move (v := .slice (some ⟨g6, 0, none⟩) qs.length g6c) (by rfl) rfl rfl ?_
    simp only [putT, List.set]
    refine wpV_callf (v := .string (bs (rootS qs))) (args := #[.slice (some ⟨g6, 0, none⟩) qs.length g6c]) (by rfl) rfl Tryd.func45 (by kernel_rfl) (by kernel_rfl) rfl (fun W hW => rroot_c _ (ps := qs) rfl hr2.1 (all32_mem hr2.2)  rfl Cg6 ((M.sees hW).lt 0 rfl) ((M.sees hW).r 0 0 rfl rfl)) ?_
    simp only [putT, List.set]
    refine wpV_binS (v := .bool true) (by rfl) rfl rfl rfl (fun W => (run_eql_bs _ _ _ W).trans (by rw [hT])) ?_
    simp only [putT, List.set]
    refine wpV_pick (v := .bool true) (by rfl) rfl rfl rfl ?_
    simp only [putT, List.set]
    refine wpV_nil (hLk _ (fun w22 Sw22 => ?_))
    clear hLk Lk
    simp only [List.take, List.drop]
    replace M := M.sees Sw22
    refine wpL_assign (v := .bool true) (by rfl) (by rfl) (by rfl) ?_
    simp only [putT, List.set]
    refine wpL_nil (no_panic ?_)
    refine hK20 _ _ ?_
    refine wp_ret ?_
    repeat (first | with_reducible refine then_ret ?_ | with_reducible refine inblock_ret ?_)
    refine bodyPost_ret (v := .bool true) (res1 rfl (.tmp (by rfl))) rfl ?_
    have BE := M.below
    exact ⟨rfl, BE⟩
  · skip
    have hr : rightB qs = false := by simpa using hc19
    have hE : ((rootE qs) == 1) = true := by rw [rootE_no hr]; rfl
    have hT : decide (rootT qs = []) = true := decide_eq_true (rootT_no hr)
    refine wp_cond_true rfl ?_
    refine wp_seq_k (fun K23 hK23 => ?_)
    refine wp_region_seq ?_
    refine wpL_move (v := .int .i64 (rootE qs)) (by rfl) (by rfl) (by rfl) ?_
    simp only [putT, List.set]
    refine wpL_chunk 5 (by rfl) (fun Lk hLk => ?_)
    simp only [List.take, List.drop]
    refine wpV_bin (v := .bool true) (by rfl) rfl rfl rfl (fun W => (run_eql _ _ _ _ W).trans (by rw [hE])) ?_
    simp only [putT, List.set]
    refine wpV_move (v := .bool true) (by rfl) rfl rfl ?_
    simp only [putT, List.set]
    refine wpV_move (v := .string (bs (rootT qs))) (by rfl) rfl rfl ?_
    simp only [putT, List.set]
    refine wpV_binS (v := .bool true) (by rfl) rfl rfl rfl (fun W => (run_eql_bs _ _ _ W).trans (by rw [hT])) ?_
    simp only [putT, List.set]
    refine wpV_pick (v := .bool true) (by rfl) rfl rfl rfl ?_
    simp only [putT, List.set]
    refine wpV_nil (hLk _ (fun w25 Sw25 => ?_))
    clear hLk Lk
    simp only [List.take, List.drop]
    replace M := M.sees Sw25
    refine wpL_assign (v := .bool true) (by rfl) (by rfl) (by rfl) ?_
    simp only [putT, List.set]
    refine wpL_nil (no_panic ?_)
    refine hK23 _ _ ?_
    refine wp_ret ?_
    repeat (first | with_reducible refine then_ret ?_ | with_reducible refine inblock_ret ?_)
    refine bodyPost_ret (v := .bool true) (res1 rfl (.tmp (by rfl))) rfl ?_
    have BE := M.below
    exact ⟨rfl, BE⟩
end Go.Proofs.Yb
