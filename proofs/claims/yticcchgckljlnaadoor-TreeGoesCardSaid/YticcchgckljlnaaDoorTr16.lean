import Derived.WalkKit
import Derived.WalkSpells
import Derived.Laws.Pointers
import Derived.RowKit3
import Derived.Below
import Derived.Outline
import Derived.LoopN
import Derived.Lib.Hide
import Derived.Handy
import Derived.Laws.Bits64b
import Derived.Test.YticcchgckljlnaaDoorTr7
import Derived.Test.YticcchgckljlnaaDoorTrS
import Derived.Test.YticcchgckljlnaaDoorTrP
import Derived.Test.YticcchgckljlnaaDoorTr4
set_option linter.unusedSimpArgs false
set_option linter.unusedVariables false
namespace Go.Proofs.Yb
open Go Go.RowKit Go.Proofs.Num
attribute [local irreducible] wpV wpN wpList
set_option maxHeartbeats 1000000 in
theorem Add_nil {ps : List (List UInt8)} {ap : Option Addr} {np cp : Nat} {ls : List (List UInt8)} {aq : Option Addr} {nq cq : Nat} {m : Nat} {w : World} (hp : ps.length ≤ 4611686018427387904) (hm : m ≤ 4096) (hmay : mayG ((m : Nat) : Int) ps = true) (hri : rightB ls = true) (h0 : ls.length = 0) (Hp : RowA w ap np cp (scells ps)) (Hq : RowA w aq nq cq (scells ls)) :
    Calls Tryd.prog 55 #[.agg [.int .i64 ((m : Nat) : Int), .slice ap np cp].toArray, .slice aq nq cq] w fun e w' => e = .returned (.tuple #[.agg [.int .i64 ((m : Nat) : Int), .slice ap np cp].toArray, .int .i64 0]) ∧ Below w.heap.size w w' := by
  obtain rfl : np = ps.length := by have := Hp.len; rwa [scells_len] at this
  obtain rfl : nq = ls.length := by have := Hq.len; rwa [scells_len] at this
  go_enter Tryd.func55, Tryd.ntmps55
  have M := Mem.start w
  refine wp_seq_k (fun K1 hK1 => ?_)
  refine wp_region_seq ?_
  refine wpL_var (t := 66) (cs := [.int .i64 ((m : Nat) : Int), .slice ap ps.length cp]) (by rfl) (fun W => ?_) (fun g3 w4 Sw4 Hg3 Bg3 => ?_)
  · (first | rfl | go_simp)
  replace M := ((M.sees Sw4).add (N := 2) (cs := [.int .i64 ((m : Nat) : Int), .slice ap ps.length cp]) (M.ge Hg3) (M.fresh Hg3) Bg3 rfl)
  clear Bg3
  simp only [putT, List.set]
  refine wpL_var (t := 66) (cs := [.int .i64 0, .slice none 0 0]) (by rfl) (fun W => ?_) (fun g5 w6 Sw6 Hg5 Bg5 => ?_)
  · go_simp
  replace M := ((M.sees Sw6).add (N := 2) (cs := [.int .i64 0, .slice none 0 0]) (M.ge Hg5) (M.fresh Hg5) Bg5 rfl)
  clear Bg5
  simp only [putT, List.set]
  refine wpL_assign (v := .int .i64 0) (by rfl) (by rfl) (by rfl) ?_
  simp only [putT, List.set]
  refine wpL_nil (no_panic ?_)
  refine hK1 _ _ ?_
  refine wp_seq_k (fun K7 hK7 => ?_)
  refine wp_block ?_
  refine wp_seq_k (fun K8 hK8 => ?_)
  refine wp_region_seq ?_
  refine wpL_chunk 8 (by rfl) (fun Lk hLk => ?_)
  simp only [List.take, List.drop]
  refine wpV_load (cs := [.int .i64 ((m : Nat) : Int), .slice ap ps.length cp]) (by rfl) rfl rfl (M.r 1 0 rfl rfl) (M.lt 1 rfl) Tryd.underlying66 rfl info66 ?_
  simp only [putT, List.set]
  refine wpV_callf (v := .bool true) (args := #[.agg ([.int .i64 ((m : Nat) : Int), .slice ap ps.length cp]).toArray]) (by rfl) rfl Tryd.func80 (by kernel_rfl) (by kernel_rfl) rfl (fun W hW => by have h9 : Calls Tryd.prog _ _ W _ := may_c (ps := ps) (x := ((m : Nat) : Int)) hp ((M.sees hW).oldA Hp); rw [hmay] at h9; exact h9) ?_
  simp only [putT, List.set]
  refine wpV_not (b := true) (by rfl) rfl rfl ?_
  simp only [Bool.not_true, Bool.not_false]
  simp only [putT, List.set]
  refine wpV_move (v := .bool false) (by rfl) rfl rfl ?_
  simp only [putT, List.set]
  refine wpV_move (v := .slice aq ls.length cq) (by rfl) rfl rfl ?_
  simp only [putT, List.set]
  refine wpV_callf (v := .bool true) (args := #[.slice aq ls.length cq]) (by rfl) rfl Tryd.func42 (by kernel_rfl) (by kernel_rfl) rfl (fun W hW => by have h9 : Calls Tryd.prog _ _ W _ := right_r (ps := ls)  ((M.sees hW).oldA Hq); rw [hri] at h9; exact h9) ?_
  simp only [putT, List.set]
  refine wpV_not (b := true) (by rfl) rfl rfl ?_
  simp only [Bool.not_true, Bool.not_false]
  simp only [putT, List.set]
  refine wpV_pick (v := .bool false) (by rfl) rfl rfl rfl ?_
  simp only [putT, List.set]
  refine wpV_nil (hLk _ (fun w10 Sw10 => ?_))
  clear hLk Lk
  simp only [List.take, List.drop]
  replace M := M.sees Sw10
  refine wpL_assign (v := .bool false) (by rfl) (by rfl) (by rfl) ?_
  simp only [putT, List.set]
  refine wpL_nil (no_panic ?_)
  refine hK8 _ _ ?_
  refine wp_cond_false rfl ?_
  refine wp_seq_k (fun K11 hK11 => ?_)
  refine wp_region_seq ?_
  refine wpL_chunk 6 (by rfl) (fun Lk hLk => ?_)
  simp only [List.take, List.drop]
  refine wpV_val (v := .pointer (some ⟨g3, 0, none⟩)) (by rfl) (by rfl) (fun W hW => ?_) ?_
  · (go_simp; exact rfl)
  simp only [putT, List.set]
  refine wpV_load1 (v := .int .i64 ((m : Nat) : Int)) (by rfl) rfl rfl (range_one (range_sub (M.r 1 0 rfl rfl) 0 1 0 (xs := [.int .i64 ((m : Nat) : Int)]) rfl rfl)) (M.lt 1 rfl) Tryd.underlying3 rfl ?_
  simp only [putT, List.set]
  refine wpV_move (v := .slice aq ls.length cq) (by rfl) rfl rfl ?_
  simp only [putT, List.set]
  refine wpV_lenA (n := ls.length) (by rfl) rfl rfl rfl Tryd.underlying48 ?_
  simp only [putT, List.set]
  refine wpV_bin (v := .int .i64 ((m + ls.length : Nat) : Int)) (by rfl) rfl rfl rfl (fun W => run_add (by simp only [IntKind.wrap_i64]; omega) W) ?_
  simp only [putT, List.set]
  refine wpV_bin (v := .bool false) (by rfl) rfl rfl rfl (fun W => (run_gtrN (m + ls.length) 4096 _ _ W).trans (by rw [(decide_eq_false (by omega))])) ?_
  simp only [putT, List.set]
  refine wpV_nil (hLk _ (fun w13 Sw13 => ?_))
  clear hLk Lk
  simp only [List.take, List.drop]
  replace M := M.sees Sw13
  refine wpL_assign (v := .bool false) (by rfl) (by rfl) (by rfl) ?_
  simp only [putT, List.set]
  refine wpL_nil (no_panic ?_)
  refine hK11 _ _ ?_
  refine wp_cond_false rfl ?_
  refine wp_skip ?_
  refine hK7 _ _ ?_
  refine wp_seq_k (fun K14 hK14 => ?_)
  refine wp_region_seq ?_
  refine wpL_chunk 2 (by rfl) (fun Lk hLk => ?_)
  simp only [List.take, List.drop]
  refine wpV_load (cs := [.int .i64 ((m : Nat) : Int), .slice ap ps.length cp]) (by rfl) rfl rfl (M.r 1 0 rfl rfl) (M.lt 1 rfl) Tryd.underlying66 rfl info66 ?_
  simp only [putT, List.set]
  refine wpV_val (v := .agg ([.int .i64 ((m : Nat) : Int), .slice ap ps.length cp]).toArray) (by rfl) (by rfl) (fun W hW => ?_) ?_
  · (unfold RunsVal; kernel_rfl)
  simp only [putT, List.set]
  refine wpV_nil (hLk _ (fun w16 Sw16 => ?_))
  clear hLk Lk
  simp only [List.take, List.drop]
  replace M := M.sees Sw16
  refine wpL_var (t := 100) (cs := [.int .i64 ((m : Nat) : Int), .slice ap ps.length cp]) (by rfl) (fun W => ?_) (fun g17 w18 Sw18 Hg17 Bg17 => ?_)
  · (first | rfl | go_simp)
  replace M := ((M.sees Sw18).add (N := 2) (cs := [.int .i64 ((m : Nat) : Int), .slice ap ps.length cp]) (M.ge Hg17) (M.fresh Hg17) Bg17 rfl)
  clear Bg17
  simp only [putT, List.set]
  refine wpL_assign (v := .pointer (some ⟨g17, 0, none⟩)) (by rfl) (by rfl) (by rfl) ?_
  simp only [putT, List.set]
  refine wpL_nil (no_panic ?_)
  refine hK14 _ _ ?_
  refine wp_seq_k (fun K19 hK19 => ?_)
  refine wp_seq_k (fun K20 hK20 => ?_)
  refine wp_region_seq ?_
  refine wpL_move (v := .slice aq ls.length cq) (by rfl) (by rfl) (by rfl) ?_
  simp only [putT, List.set]
  refine wpL_chunk 1 (by rfl) (fun Lk hLk => ?_)
  simp only [List.take, List.drop]
  refine wpV_lenA (n := ls.length) (by rfl) rfl rfl rfl Tryd.underlying48 ?_
  simp only [putT, List.set]
  refine wpV_nil (hLk _ (fun w22 Sw22 => ?_))
  clear hLk Lk
  simp only [List.take, List.drop]
  replace M := M.sees Sw22
  refine wpL_move (v := .int .i64 0) (by rfl) (by rfl) (by rfl) ?_
  simp only [putT, List.set]
  refine wpL_nil (no_panic ?_)
  refine hK20 _ _ ?_
  refine wp_block ?_
  refine wp_loop_rounds 2 ?_
  rw [rounds_succ]
  refine wp_seq_k (fun K23 hK23 => ?_)
  refine wp_region_seq ?_
  refine wpL_chunk 1 (by rfl) (fun Lk hLk => ?_)
  simp only [List.take, List.drop]
  refine wpV_bin (v := .bool false) (by rfl) rfl rfl rfl (fun W => (run_lssN 0 ls.length _ _ W).trans (by rw [(decide_eq_false (by omega))])) ?_
  simp only [putT, List.set]
  refine wpV_nil (hLk _ (fun w25 Sw25 => ?_))
  clear hLk Lk
  simp only [List.take, List.drop]
  replace M := M.sees Sw25
  refine wpL_nil (no_panic ?_)
  refine hK23 _ _ ?_
  refine wp_seq_k (fun K26 hK26 => ?_)
  refine wp_cond_false rfl ?_
  refine wp_exit ?_
  refine hK19 _ _ ?_
  refine wp_seq_k (fun K27 hK27 => ?_)
  refine wp_region_seq ?_
  refine wpL_move (v := .pointer (some ⟨g17, 0, none⟩)) (by rfl) (by rfl) (by rfl) ?_
  simp only [putT, List.set]
  refine wpL_chunk 3 (by rfl) (fun Lk hLk => ?_)
  simp only [List.take, List.drop]
  refine wpV_nilCheck (by rfl) rfl rfl ?_
  simp only [putT, List.set]
  refine wpV_val (v := .pointer (some ⟨g17, 0, none⟩)) (by rfl) (by rfl) (fun W hW => ?_) ?_
  · (go_simp; exact rfl)
  simp only [putT, List.set]
  refine wpV_load (cs := [.int .i64 ((m : Nat) : Int), .slice ap ps.length cp]) (by rfl) rfl rfl (M.r 0 0 rfl rfl) (M.lt 0 rfl) Tryd.underlying66 rfl info66 ?_
  simp only [putT, List.set]
  refine wpV_nil (hLk _ (fun w29 Sw29 => ?_))
  clear hLk Lk
  simp only [List.take, List.drop]
  replace M := M.sees Sw29
  refine wpL_store (g := g5) (off := 0) (n := 2) (cs := [.int .i64 ((m : Nat) : Int), .slice ap ps.length cp]) (by rfl) (by rfl) (by rfl) (by rfl) (by rfl) (M.t 1 rfl) (by simp [flen]) info66 (by simp [fone, Value.oneCell']) (fun w30 P R T => ?_)
  replace M := M.putS 1 0 rfl P R T rfl ⟨.inl rfl, trivial⟩
  simp only [List.set] at M
  refine wpL_assign (v := .int .i64 0) (by rfl) (by rfl) (by rfl) ?_
  simp only [putT, List.set]
  refine wpL_nil (no_panic ?_)
  refine hK27 _ _ ?_
  refine wp_ret ?_
  repeat (first | with_reducible refine then_ret ?_ | with_reducible refine inblock_ret ?_)
  refine bodyPost_ret (v := .tuple #[.agg ([.int .i64 ((m : Nat) : Int), .slice ap ps.length cp]).toArray, .int .i64 0]) (res2 rfl (.cell (by rfl) (run_loadVar_mid _ _ _ _ ([.int .i64 ((m : Nat) : Int), .slice ap ps.length cp]) _ (M.r 1 0 rfl rfl) Tryd.underlying66 rfl info66)) (.tmp (by rfl))) rfl ?_
  have BE := M.below
  exact ⟨rfl, BE⟩
end Go.Proofs.Yb

namespace Go.Proofs.Yb
open Go Go.RowKit Go.Proofs.Num
attribute [local irreducible] wpV wpN wpList
theorem mayN_bad {ps : List (List UInt8)} {m : Nat} (hq : ps.length ≤ 4611686018427387904) (hm : m ≤ 4096) (h : rightB ps = false) : mayN m ps = false := by
  unfold mayN
  rw [decide_eq_true hm, Bool.true_and]
  unfold rightB at h
  have ho := (oc_ones hm).2.2
  by_cases hl : ps.length = ones m
  · rw [decide_eq_true (show ps.length ≤ 4096 by omega), Bool.true_and] at h
    rw [h, Bool.and_false]
  · rw [decide_eq_false hl, Bool.false_and]
theorem mayN_good {ps : List (List UInt8)} {m : Nat} (hm : m ≤ 4096) (h : rightB ps = true) : mayN m ps = decide (ps.length = ones m) := by
  unfold mayN
  rw [decide_eq_true hm, Bool.true_and]
  unfold rightB at h
  rw [Bool.and_eq_true] at h
  rw [h.2, Bool.and_true]
theorem pred_geq (q : Nat) : decide (((q : Nat) : Int) - 1 ≥ 0) = decide (1 ≤ q) := by
  rw [Bool.eq_iff_iff]; simp; omega
theorem scells_last {ps : List (List UInt8)} (h : 1 ≤ ps.length) : (scells ps)[ps.length - 1]? = some (.string (bs (lastS ps))) := scells_get (ps := ps) (by omega)
theorem sumP_go2 {ps : List (List UInt8)} {q : Nat} {u : List UInt8} (h0 : 1 ≤ q) (hq : q ≤ ps.length) (h : (ps.take q).foldr nodeS u = sumP ps) : (ps.take (q - 1)).foldr nodeS (nodeS (ps.getD (q - 1) []) u) = sumP ps := by
  have e : lastS (ps.take q) = ps.getD (q - 1) [] := by
    unfold lastS
    have hl : (ps.take q).length = q := by rw [List.length_take]; omega
    rw [hl, List.getD_eq_getElem?_getD, List.getElem?_take_of_lt (by omega), List.getD_eq_getElem?_getD]
  rw [← e]
  exact sumP_go h0 hq h
set_option maxHeartbeats 1000000 in
theorem rmay0 {ps : List (List UInt8)} {ap : Option Addr} {np cp : Nat} {x : Int} {w : World} (hq : ps.length ≤ 4611686018427387904) (hx : x < 0) (Hp : RowA w ap np cp (scells ps)) :
    Calls Tryd.prog 61 #[.agg [.int .i64 x, .slice ap np cp].toArray] w fun e w' => e = .returned (.bool false) ∧ Below w.heap.size w w' := by
  obtain rfl : np = ps.length := by have := Hp.len; rwa [scells_len] at this
  go_enter Tryd.func61, Tryd.ntmps61
  have M := Mem.start w
  refine wp_seq_k (fun K1 hK1 => ?_)
  refine wp_region_seq ?_
  refine wpL_var (t := 66) (cs := [.int .i64 x, .slice ap ps.length cp]) (by rfl) (fun W => ?_) (fun g3 w4 Sw4 Hg3 Bg3 => ?_)
  · (first | rfl | go_simp)
  replace M := ((M.sees Sw4).add (N := 2) (cs := [.int .i64 x, .slice ap ps.length cp]) (M.ge Hg3) (M.fresh Hg3) Bg3 rfl)
  clear Bg3
  simp only [putT, List.set]
  refine wpL_assign (v := .bool false) (by rfl) (by rfl) (by rfl) ?_
  simp only [putT, List.set]
  refine wpL_nil (no_panic ?_)
  refine hK1 _ _ ?_
  refine wp_seq_k (fun K5 hK5 => ?_)
  refine wp_seq_k (fun K6 hK6 => ?_)
  refine wp_region_seq ?_
  refine wpL_chunk 14 (by rfl) (fun Lk hLk => ?_)
  simp only [List.take, List.drop]
  refine wpV_val (v := .pointer (some ⟨g3, 0, none⟩)) (by rfl) (by rfl) (fun W hW => ?_) ?_
  · (go_simp; exact rfl)
  simp only [putT, List.set]
  refine wpV_load1 (v := .int .i64 x) (by rfl) rfl rfl (range_one (range_sub (M.r 0 0 rfl rfl) 0 1 0 (xs := [.int .i64 x]) rfl rfl)) (M.lt 0 rfl) Tryd.underlying3 rfl ?_
  simp only [putT, List.set]
  refine wpV_bin (v := .bool true) (by rfl) rfl rfl rfl (fun W => (run_lss _ _ _ _ W).trans (by rw [(decide_eq_true hx)])) ?_
  simp only [putT, List.set]
  refine wpV_move (v := .bool true) (by rfl) rfl rfl ?_
  simp only [putT, List.set]
  refine wpV_skip (by rfl) (by rfl) ?_
  simp only [putT, List.set]
  refine wpV_skip (by rfl) (by rfl) ?_
  simp only [putT, List.set]
  refine wpV_skip (by rfl) (by rfl) ?_
  simp only [putT, List.set]
  refine wpV_pick (v := .bool true) (by rfl) rfl rfl rfl ?_
  simp only [putT, List.set]
  refine wpV_move (v := .bool true) (by rfl) rfl rfl ?_
  simp only [putT, List.set]
  refine wpV_skip (by rfl) (by rfl) ?_
  simp only [putT, List.set]
  refine wpV_skip (by rfl) (by rfl) ?_
  simp only [putT, List.set]
  refine wpV_skip (by rfl) (by rfl) ?_
  simp only [putT, List.set]
  refine wpV_skip (by rfl) (by rfl) ?_
  simp only [putT, List.set]
  refine wpV_pick (v := .bool true) (by rfl) rfl rfl rfl ?_
  simp only [putT, List.set]
  refine wpV_nil (hLk _ (fun w8 Sw8 => ?_))
  clear hLk Lk
  simp only [List.take, List.drop]
  replace M := M.sees Sw8
  refine wpL_nil (no_panic ?_)
  refine hK6 _ _ ?_
  refine wp_cond_true rfl ?_
  refine wp_seq_k (fun K9 hK9 => ?_)
  refine wp_region_seq ?_
  refine wpL_assign (v := .bool false) (by rfl) (by rfl) (by rfl) ?_
  simp only [putT, List.set]
  refine wpL_nil (no_panic ?_)
  refine hK9 _ _ ?_
  refine wp_ret ?_
  repeat (first | with_reducible refine then_ret ?_ | with_reducible refine inblock_ret ?_)
  refine bodyPost_ret (v := .bool false) (res1 rfl (.tmp (by rfl))) rfl ?_
  have BE := M.below
  exact ⟨rfl, BE⟩
set_option maxHeartbeats 1000000 in
theorem rmay1 {ps : List (List UInt8)} {ap : Option Addr} {np cp : Nat} {m : Nat} {w : World} (hq : ps.length ≤ 4611686018427387904) (Hp : RowA w ap np cp (scells ps)) :
    Calls Tryd.prog 61 #[.agg [.int .i64 ((m : Nat) : Int), .slice ap np cp].toArray] w fun e w' => e = .returned (.bool (mayN m ps)) ∧ Below w.heap.size w w' := by
  obtain rfl : np = ps.length := by have := Hp.len; rwa [scells_len] at this
  go_enter Tryd.func61, Tryd.ntmps61
  have M := Mem.start w
  refine wp_seq_k (fun K1 hK1 => ?_)
  refine wp_region_seq ?_
  refine wpL_var (t := 66) (cs := [.int .i64 ((m : Nat) : Int), .slice ap ps.length cp]) (by rfl) (fun W => ?_) (fun g3 w4 Sw4 Hg3 Bg3 => ?_)
  · (first | rfl | go_simp)
  replace M := ((M.sees Sw4).add (N := 2) (cs := [.int .i64 ((m : Nat) : Int), .slice ap ps.length cp]) (M.ge Hg3) (M.fresh Hg3) Bg3 rfl)
  clear Bg3
  simp only [putT, List.set]
  refine wpL_assign (v := .bool false) (by rfl) (by rfl) (by rfl) ?_
  simp only [putT, List.set]
  refine wpL_nil (no_panic ?_)
  refine hK1 _ _ ?_
  refine wp_seq_k (fun K5 hK5 => ?_)
  refine wp_seq_k (fun K6 hK6 => ?_)
  cases hg7 : (decide (4096 < m))
  · skip
    have hm : m ≤ 4096 := Nat.not_lt.1 (of_decide_eq_false hg7)
    have hon := (oc_ones hm).2.2
    refine wp_region_seq ?_
    refine wpL_chunk 14 (by rfl) (fun Lk hLk => ?_)
    simp only [List.take, List.drop]
    refine wpV_val (v := .pointer (some ⟨g3, 0, none⟩)) (by rfl) (by rfl) (fun W hW => ?_) ?_
    · (go_simp; exact rfl)
    simp only [putT, List.set]
    refine wpV_load1 (v := .int .i64 ((m : Nat) : Int)) (by rfl) rfl rfl (range_one (range_sub (M.r 0 0 rfl rfl) 0 1 0 (xs := [.int .i64 ((m : Nat) : Int)]) rfl rfl)) (M.lt 0 rfl) Tryd.underlying3 rfl ?_
    simp only [putT, List.set]
    refine wpV_bin (v := .bool false) (by rfl) rfl rfl rfl (fun W => (run_lssN m 0 _ _ W).trans (by rw [(decide_eq_false (Nat.not_lt_zero m))])) ?_
    simp only [putT, List.set]
    refine wpV_move (v := .bool false) (by rfl) rfl rfl ?_
    simp only [putT, List.set]
    refine wpV_val (v := .pointer (some ⟨g3, 0, none⟩)) (by rfl) (by rfl) (fun W hW => ?_) ?_
    · (go_simp; exact rfl)
    simp only [putT, List.set]
    refine wpV_load1 (v := .int .i64 ((m : Nat) : Int)) (by rfl) rfl rfl (range_one (range_sub (M.r 0 0 rfl rfl) 0 1 0 (xs := [.int .i64 ((m : Nat) : Int)]) rfl rfl)) (M.lt 0 rfl) Tryd.underlying3 rfl ?_
    simp only [putT, List.set]
    refine wpV_bin (v := .bool false) (by rfl) rfl rfl rfl (fun W => (run_gtrN m 4096 _ _ W).trans (by rw [hg7])) ?_
    simp only [putT, List.set]
    refine wpV_pick (v := .bool false) (by rfl) rfl rfl rfl ?_
    simp only [putT, List.set]
    refine wpV_move (v := .bool false) (by rfl) rfl rfl ?_
    simp only [putT, List.set]
    refine wpV_val (v := .pointer (some ⟨g3, 1, none⟩)) (by rfl) (by rfl) (fun W hW => ?_) ?_
    · (go_simp; exact rfl)
    simp only [putT, List.set]
    refine wpV_load1 (v := .slice ap ps.length cp) (by rfl) rfl rfl (range_one (range_sub (M.r 0 0 rfl rfl) 1 1 1 (xs := [.slice ap ps.length cp]) rfl rfl)) (M.lt 0 rfl) Tryd.underlying48 rfl ?_
    simp only [putT, List.set]
    refine wpV_callf (v := .bool (rightB ps)) (args := #[.slice ap ps.length cp]) (by rfl) rfl Tryd.func43 (by kernel_rfl) (by kernel_rfl) rfl (fun W hW => by with_reducible exact rright_r (ps := ps) hq ((M.sees hW).oldA Hp)) ?_
    simp only [putT, List.set]
    refine wpV_not (b := rightB ps) (by rfl) rfl rfl ?_
    simp only [putT, List.set]
    refine wpV_pick (v := .bool (!(rightB ps))) (by rfl) rfl rfl rfl ?_
    simp only [putT, List.set]
    refine wpV_nil (hLk _ (fun w9 Sw9 => ?_))
    clear hLk Lk
    simp only [List.take, List.drop]
    replace M := M.sees Sw9
    refine wpL_nil (no_panic ?_)
    refine hK6 _ _ ?_
    cases hc10 : (!(rightB ps))
    · skip
      have hri : rightB ps = true := by simpa using hc10
      refine wp_cond_false rfl ?_
      refine wp_skip ?_
      refine hK5 _ _ ?_
      refine wp_seq_k (fun K11 hK11 => ?_)
      refine wp_region_seq ?_
      refine wpL_assign (v := .int .i64 0) (by rfl) (by rfl) (by rfl) ?_
      simp only [putT, List.set]
      refine wpL_nil (no_panic ?_)
      refine hK11 _ _ ?_
      refine wp_seq_k (fun K13 hK13 => ?_)
      refine wp_seq_k (fun K14 hK14 => ?_)
      refine wp_region_seq ?_
      refine wpL_chunk 2 (by rfl) (fun Lk hLk => ?_)
      simp only [List.take, List.drop]
      refine wpV_val (v := .pointer (some ⟨g3, 0, none⟩)) (by rfl) (by rfl) (fun W hW => ?_) ?_
      · (go_simp; exact rfl)
      simp only [putT, List.set]
      refine wpV_load1 (v := .int .i64 ((m : Nat) : Int)) (by rfl) rfl rfl (range_one (range_sub (M.r 0 0 rfl rfl) 0 1 0 (xs := [.int .i64 ((m : Nat) : Int)]) rfl rfl)) (M.lt 0 rfl) Tryd.underlying3 rfl ?_
      simp only [putT, List.set]
      refine wpV_nil (hLk _ (fun w16 Sw16 => ?_))
      clear hLk Lk
      simp only [List.take, List.drop]
      replace M := M.sees Sw16
      refine wpL_assign (v := .int .i64 ((m : Nat) : Int)) (by rfl) (by rfl) (by rfl) ?_
      simp only [putT, List.set]
      refine wpL_nil (no_panic ?_)
      refine hK14 _ _ ?_
      refine wp_block ?_
      refine wp_loop_ghost (fun n9 a9 W9 => ∃ (acc : Nat) (q : Nat) (u17 : Nat → Value), n9 = 2 * q ∧ a9 = { tmps := #[.agg ([.int .i64 ((m : Nat) : Int), .slice ap ps.length cp]).toArray, .pointer (some ⟨g3, 0, none⟩), .bool false, .int .i64 ((acc : Nat) : Int), .int .i64 ((q : Nat) : Int), .pointer (some ⟨g3, 0, none⟩), .int .i64 ((m : Nat) : Int), .bool false, .bool false, .pointer (some ⟨g3, 0, none⟩), .int .i64 ((m : Nat) : Int), .bool false, .bool false, .bool false, .pointer (some ⟨g3, 1, none⟩), .slice ap ps.length cp, .bool (rightB ps), .bool false, .bool false, .pointer (some ⟨g3, 0, none⟩), .int .i64 ((m : Nat) : Int), u17 21, u17 22, u17 23, u17 24, u17 25, u17 26, u17 27, u17 28, undef, undef, undef, undef, undef], defers := [] } ∧ Mem [] w W9 [⟨g3, 2, [(0, [.int .i64 ((m : Nat) : Int), .slice ap ps.length cp])]⟩] ∧ (q ≤ m) ∧ (acc + ones q = ones m)) (2 * (m)) ?_ (fun n9 a9 W9 hI => ?_)
      · exact ⟨0, m, (fun q9 => (#[undef, undef, undef, undef, undef, undef, undef, undef, undef, undef, undef, undef, undef, undef, undef, undef, undef, undef, undef, undef, undef, undef, undef, undef, undef, undef, undef, undef, undef] : Array Value).getD q9 undef), rfl, rfl, M, (Nat.le_refl _), (Nat.zero_add _)⟩
      clear M
      obtain ⟨acc, q, u17, rfl, rfl, M, hqm, hacc⟩ := hI
      obtain ⟨w18, rfl⟩ : ∃ W8, W8 = W9 := ⟨_, rfl⟩
      refine wp_seq_k (fun K19 hK19 => ?_)
      refine wp_seq_k (fun K20 hK20 => ?_)
      refine wp_region_seq ?_
      refine wpL_move (v := .int .i64 ((q : Nat) : Int)) (by rfl) (by rfl) (by rfl) ?_
      simp only [putT, List.set]
      refine wpL_chunk 1 (by rfl) (fun Lk hLk => ?_)
      simp only [List.take, List.drop]
      refine wpV_bin (v := .bool (decide (0 < q))) (by rfl) rfl rfl rfl (fun W => run_gtrN q 0 _ _ W) ?_
      simp only [putT, List.set]
      refine wpV_nil (hLk _ (fun w22 Sw22 => ?_))
      clear hLk Lk
      simp only [List.take, List.drop]
      replace M := M.sees Sw22
      refine wpL_nil (no_panic ?_)
      refine hK20 _ _ ?_
      cases hc23 : (decide (0 < q))
      · skip
        obtain rfl : q = 0 := by have := of_decide_eq_false hc23; omega
        rw [ones_zero, Nat.add_zero] at hacc
        subst hacc
        refine wp_cond_false rfl ?_
        refine wp_exit ?_
        refine hK13 _ _ ?_
        refine wp_seq_k (fun K24 hK24 => ?_)
        refine wp_region_seq ?_
        refine wpL_chunk 5 (by rfl) (fun Lk hLk => ?_)
        simp only [List.take, List.drop]
        refine wpV_val (v := .pointer (some ⟨g3, 1, none⟩)) (by rfl) (by rfl) (fun W hW => ?_) ?_
        · (go_simp; exact rfl)
        simp only [putT, List.set]
        refine wpV_load1 (v := .slice ap ps.length cp) (by rfl) rfl rfl (range_one (range_sub (M.r 0 0 rfl rfl) 1 1 1 (xs := [.slice ap ps.length cp]) rfl rfl)) (M.lt 0 rfl) Tryd.underlying48 rfl ?_
        simp only [putT, List.set]
        refine wpV_lenA (n := ps.length) (by rfl) rfl rfl rfl Tryd.underlying48 ?_
        simp only [putT, List.set]
        refine wpV_move (v := .int .i64 (((ones m) : Nat) : Int)) (by rfl) rfl rfl ?_
        simp only [putT, List.set]
        refine wpV_bin (v := .bool (decide (ps.length = (ones m)))) (by rfl) rfl rfl rfl (fun W => run_eqlN ps.length (ones m) _ _ W) ?_
        simp only [putT, List.set]
        refine wpV_nil (hLk _ (fun w26 Sw26 => ?_))
        clear hLk Lk
        simp only [List.take, List.drop]
        replace M := M.sees Sw26
        refine wpL_assign (v := .bool (decide (ps.length = (ones m)))) (by rfl) (by rfl) (by rfl) ?_
        simp only [putT, List.set]
        refine wpL_nil (no_panic ?_)
        refine hK24 _ _ ?_
        refine wp_ret ?_
        repeat (first | with_reducible refine then_ret ?_ | with_reducible refine inblock_ret ?_)
        refine bodyPost_ret (v := .bool (decide (ps.length = (ones m)))) (res1 rfl (.tmp (by rfl))) rfl ?_
        have BE := M.below
        exact ⟨by rw [mayN_good hm hri], BE⟩
      · skip
        have hq0 : 0 < q := of_decide_eq_true hc23
        refine wp_cond_true rfl ?_
        refine wp_skip ?_
        refine hK19 _ _ ?_
        refine wp_seq_k (fun K27 hK27 => ?_)
        refine wp_block ?_
        refine wp_region_seq ?_
        refine wpL_move (v := .int .i64 ((acc : Nat) : Int)) (by rfl) (by rfl) (by rfl) ?_
        simp only [putT, List.set]
        refine wpL_move (v := .int .i64 ((q : Nat) : Int)) (by rfl) (by rfl) (by rfl) ?_
        simp only [putT, List.set]
        refine wpL_chunk 2 (by rfl) (fun Lk hLk => ?_)
        simp only [List.take, List.drop]
        refine wpV_bin (v := .int .i64 ((q % 2 : Nat) : Int)) (by rfl) rfl rfl rfl (fun W => run_rem (by decide) (tmod_nat q 2) W) ?_
        simp only [putT, List.set]
        refine wpV_bin (v := .int .i64 ((acc + q % 2 : Nat) : Int)) (by rfl) rfl rfl rfl (fun W => run_add (by simp only [IntKind.wrap_i64]; omega) W) ?_
        simp only [putT, List.set]
        refine wpV_nil (hLk _ (fun w29 Sw29 => ?_))
        clear hLk Lk
        simp only [List.take, List.drop]
        replace M := M.sees Sw29
        refine wpL_assign (v := .int .i64 ((acc + q % 2 : Nat) : Int)) (by rfl) (by rfl) (by rfl) ?_
        simp only [putT, List.set]
        refine wpL_nil (no_panic ?_)
        refine hK27 _ _ ?_
        refine wp_region_seq ?_
        refine wpL_move (v := .int .i64 ((q : Nat) : Int)) (by rfl) (by rfl) (by rfl) ?_
        simp only [putT, List.set]
        refine wpL_chunk 1 (by rfl) (fun Lk hLk => ?_)
        simp only [List.take, List.drop]
        refine wpV_bin (v := .int .i64 ((q / 2 : Nat) : Int)) (by rfl) rfl rfl rfl (fun W => run_quo (by decide) ((congrArg _ (tdiv_nat q 2)).trans (wrap_nat _ (by omega))) W) ?_
        simp only [putT, List.set]
        refine wpV_nil (hLk _ (fun w31 Sw31 => ?_))
        clear hLk Lk
        simp only [List.take, List.drop]
        replace M := M.sees Sw31
        refine wpL_assign (v := .int .i64 ((q / 2 : Nat) : Int)) (by rfl) (by rfl) (by rfl) ?_
        simp only [putT, List.set]
        refine wpL_nil (no_panic ?_)
        refine Exists.intro _ ⟨?_, (acc + q % 2), (q / 2), (fun q9 => (#[undef, undef, undef, undef, undef, undef, undef, undef, undef, undef, undef, undef, undef, undef, undef, undef, undef, undef, undef, undef, undef, .int .i64 ((q : Nat) : Int), .bool true, .int .i64 ((q : Nat) : Int), .int .i64 ((q / 2 : Nat) : Int), .int .i64 ((acc : Nat) : Int), .int .i64 ((q : Nat) : Int), .int .i64 ((q % 2 : Nat) : Int), .int .i64 ((acc + q % 2 : Nat) : Int)] : Array Value).getD q9 undef), rfl, rfl, M, (by omega), (by rw [ones_pos (by omega : q ≠ 0)] at hacc; omega)⟩
        omega
    · skip
      have hri : rightB ps = false := by simpa using hc10
      refine wp_cond_true rfl ?_
      refine wp_seq_k (fun K32 hK32 => ?_)
      refine wp_region_seq ?_
      refine wpL_assign (v := .bool false) (by rfl) (by rfl) (by rfl) ?_
      simp only [putT, List.set]
      refine wpL_nil (no_panic ?_)
      refine hK32 _ _ ?_
      refine wp_ret ?_
      repeat (first | with_reducible refine then_ret ?_ | with_reducible refine inblock_ret ?_)
      refine bodyPost_ret (v := .bool false) (res1 rfl (.tmp (by rfl))) rfl ?_
      have BE := M.below
      exact ⟨by rw [mayN_bad hq hm hri], BE⟩
  · skip
    have hmn : ¬ m ≤ 4096 := Nat.not_le.2 (of_decide_eq_true hg7)
    refine wp_region_seq ?_
    refine wpL_chunk 14 (by rfl) (fun Lk hLk => ?_)
    simp only [List.take, List.drop]
    refine wpV_val (v := .pointer (some ⟨g3, 0, none⟩)) (by rfl) (by rfl) (fun W hW => ?_) ?_
    · (go_simp; exact rfl)
    simp only [putT, List.set]
    refine wpV_load1 (v := .int .i64 ((m : Nat) : Int)) (by rfl) rfl rfl (range_one (range_sub (M.r 0 0 rfl rfl) 0 1 0 (xs := [.int .i64 ((m : Nat) : Int)]) rfl rfl)) (M.lt 0 rfl) Tryd.underlying3 rfl ?_
    simp only [putT, List.set]
    refine wpV_bin (v := .bool false) (by rfl) rfl rfl rfl (fun W => (run_lssN m 0 _ _ W).trans (by rw [(decide_eq_false (Nat.not_lt_zero m))])) ?_
    simp only [putT, List.set]
    refine wpV_move (v := .bool false) (by rfl) rfl rfl ?_
    simp only [putT, List.set]
    refine wpV_val (v := .pointer (some ⟨g3, 0, none⟩)) (by rfl) (by rfl) (fun W hW => ?_) ?_
    · (go_simp; exact rfl)
    simp only [putT, List.set]
    refine wpV_load1 (v := .int .i64 ((m : Nat) : Int)) (by rfl) rfl rfl (range_one (range_sub (M.r 0 0 rfl rfl) 0 1 0 (xs := [.int .i64 ((m : Nat) : Int)]) rfl rfl)) (M.lt 0 rfl) Tryd.underlying3 rfl ?_
    simp only [putT, List.set]
    refine wpV_bin (v := .bool true) (by rfl) rfl rfl rfl (fun W => (run_gtrN m 4096 _ _ W).trans (by rw [hg7])) ?_
    simp only [putT, List.set]
    refine wpV_pick (v := .bool true) (by rfl) rfl rfl rfl ?_
    simp only [putT, List.set]
    refine wpV_move (v := .bool true) (by rfl) rfl rfl ?_
    simp only [putT, List.set]
    refine wpV_skip (by rfl) (by rfl) ?_
    simp only [putT, List.set]
    refine wpV_skip (by rfl) (by rfl) ?_
    simp only [putT, List.set]
    refine wpV_skip (by rfl) (by rfl) ?_
    simp only [putT, List.set]
    refine wpV_skip (by rfl) (by rfl) ?_
    simp only [putT, List.set]
    refine wpV_pick (v := .bool true) (by rfl) rfl rfl rfl ?_
    simp only [putT, List.set]
    refine wpV_nil (hLk _ (fun w35 Sw35 => ?_))
    clear hLk Lk
    simp only [List.take, List.drop]
    replace M := M.sees Sw35
    refine wpL_nil (no_panic ?_)
    refine hK6 _ _ ?_
    refine wp_cond_true rfl ?_
    refine wp_seq_k (fun K36 hK36 => ?_)
    refine wp_region_seq ?_
    refine wpL_assign (v := .bool false) (by rfl) (by rfl) (by rfl) ?_
    simp only [putT, List.set]
    refine wpL_nil (no_panic ?_)
    refine hK36 _ _ ?_
    refine wp_ret ?_
    repeat (first | with_reducible refine then_ret ?_ | with_reducible refine inblock_ret ?_)
    refine bodyPost_ret (v := .bool false) (res1 rfl (.tmp (by rfl))) rfl ?_
    have BE := M.below
    exact ⟨by unfold mayN; rw [decide_eq_false hmn]; rfl, BE⟩
theorem rmay_c {ps : List (List UInt8)} {ap : Option Addr} {np cp : Nat} {x : Int} {w : World} (hq : ps.length ≤ 4611686018427387904) (Hp : RowA w ap np cp (scells ps)) :
    Calls Tryd.prog 61 #[.agg [.int .i64 x, .slice ap np cp].toArray] w fun e w' => e = .returned (.bool (mayG x ps)) ∧ Below w.heap.size w w' := by
  by_cases hx : x < 0
  · rw [mayG_neg hx]
    exact rmay0 hq hx Hp
  · obtain ⟨m, rfl⟩ : ∃ m : Nat, x = (m : Int) := ⟨x.toNat, by omega⟩
    rw [mayG_nat]
    exact rmay1 hq Hp
set_option maxHeartbeats 1000000 in
theorem rSum_z {ps : List (List UInt8)} {ap : Option Addr} {np cp : Nat} {w : World} (Hp : RowA w ap np cp (scells ps)) :
    Calls Tryd.prog 62 #[.agg [.int .i64 0, .slice ap np cp].toArray] w fun e w' => e = .returned (.string (bs (sha []))) ∧ Below w.heap.size w w' := by
  obtain rfl : np = ps.length := by have := Hp.len; rwa [scells_len] at this
  go_enter Tryd.func62, Tryd.ntmps62
  have M := Mem.start w
  refine wp_seq_k (fun K1 hK1 => ?_)
  refine wp_region_seq ?_
  refine wpL_var (t := 66) (cs := [.int .i64 0, .slice ap ps.length cp]) (by rfl) (fun W => ?_) (fun g3 w4 Sw4 Hg3 Bg3 => ?_)
  · (first | rfl | go_simp)
  replace M := ((M.sees Sw4).add (N := 2) (cs := [.int .i64 0, .slice ap ps.length cp]) (M.ge Hg3) (M.fresh Hg3) Bg3 rfl)
  clear Bg3
  simp only [putT, List.set]
  refine wpL_assign (v := .string (bs ([]))) (by rfl) (by rfl) (by rfl) ?_
  simp only [putT, List.set]
  refine wpL_nil (no_panic ?_)
  refine hK1 _ _ ?_
  refine wp_seq_k (fun K5 hK5 => ?_)
  refine wp_seq_k (fun K6 hK6 => ?_)
  refine wp_region_seq ?_
  refine wpL_chunk 3 (by rfl) (fun Lk hLk => ?_)
  simp only [List.take, List.drop]
  refine wpV_val (v := .pointer (some ⟨g3, 0, none⟩)) (by rfl) (by rfl) (fun W hW => ?_) ?_
  · (go_simp; exact rfl)
  simp only [putT, List.set]
  refine wpV_load1 (v := .int .i64 0) (by rfl) rfl rfl (range_one (range_sub (M.r 0 0 rfl rfl) 0 1 0 (xs := [.int .i64 0]) rfl rfl)) (M.lt 0 rfl) Tryd.underlying3 rfl ?_
  simp only [putT, List.set]
  refine wpV_bin (v := .bool true) (by rfl) rfl rfl rfl (fun W => run_eql _ _ _ _ W) ?_
  simp only [putT, List.set]
  refine wpV_nil (hLk _ (fun w8 Sw8 => ?_))
  clear hLk Lk
  simp only [List.take, List.drop]
  replace M := M.sees Sw8
  refine wpL_nil (no_panic ?_)
  refine hK6 _ _ ?_
  refine wp_cond_true rfl ?_
  refine wp_seq_k (fun K9 hK9 => ?_)
  refine wp_region_seq ?_
  refine wpL_chunk 1 (by rfl) (fun Lk hLk => ?_)
  simp only [List.take, List.drop]
  refine wpV_callf (v := .string (bs (sha ([])))) (args := #[.string (bs ([]))]) (by rfl) rfl Tryd.func21 (by kernel_rfl) (by kernel_rfl) rfl (fun W hW => rsum_c (l := []) (by decide)) ?_
  simp only [putT, List.set]
  refine wpV_nil (hLk _ (fun w11 Sw11 => ?_))
  clear hLk Lk
  simp only [List.take, List.drop]
  replace M := M.sees Sw11
  refine wpL_assign (v := .string (bs (sha ([])))) (by rfl) (by rfl) (by rfl) ?_
  simp only [putT, List.set]
  refine wpL_nil (no_panic ?_)
  refine hK9 _ _ ?_
  refine wp_ret ?_
  repeat (first | with_reducible refine then_ret ?_ | with_reducible refine inblock_ret ?_)
  refine bodyPost_ret (v := .string (bs (sha ([])))) (res1 rfl (.tmp (by rfl))) rfl ?_
  have BE := M.below
  exact ⟨rfl, BE⟩
set_option maxHeartbeats 2000000 in
theorem rSum_go {ps : List (List UInt8)} {ap : Option Addr} {np cp : Nat} {m : Nat} {w : World} (hm1 : 0 < m) (hl1 : 1 ≤ ps.length) (h32 : ∀ s ∈ ps, s.length = 32) (hp : ps.length ≤ 4611686018427387904) (Hp : RowA w ap np cp (scells ps)) :
    Calls Tryd.prog 62 #[.agg [.int .i64 ((m : Nat) : Int), .slice ap np cp].toArray] w fun e w' => e = .returned (.string (bs (sumP ps))) ∧ Below w.heap.size w w' := by
  obtain rfl : np = ps.length := by have := Hp.len; rwa [scells_len] at this
  go_enter Tryd.func62, Tryd.ntmps62
  have M := Mem.start w
  refine wp_seq_k (fun K1 hK1 => ?_)
  refine wp_region_seq ?_
  refine wpL_var (t := 66) (cs := [.int .i64 ((m : Nat) : Int), .slice ap ps.length cp]) (by rfl) (fun W => ?_) (fun g3 w4 Sw4 Hg3 Bg3 => ?_)
  · (first | rfl | go_simp)
  replace M := ((M.sees Sw4).add (N := 2) (cs := [.int .i64 ((m : Nat) : Int), .slice ap ps.length cp]) (M.ge Hg3) (M.fresh Hg3) Bg3 rfl)
  clear Bg3
  simp only [putT, List.set]
  refine wpL_assign (v := .string (bs ([]))) (by rfl) (by rfl) (by rfl) ?_
  simp only [putT, List.set]
  refine wpL_nil (no_panic ?_)
  refine hK1 _ _ ?_
  refine wp_seq_k (fun K5 hK5 => ?_)
  refine wp_seq_k (fun K6 hK6 => ?_)
  refine wp_region_seq ?_
  refine wpL_chunk 3 (by rfl) (fun Lk hLk => ?_)
  simp only [List.take, List.drop]
  refine wpV_val (v := .pointer (some ⟨g3, 0, none⟩)) (by rfl) (by rfl) (fun W hW => ?_) ?_
  · (go_simp; exact rfl)
  simp only [putT, List.set]
  refine wpV_load1 (v := .int .i64 ((m : Nat) : Int)) (by rfl) rfl rfl (range_one (range_sub (M.r 0 0 rfl rfl) 0 1 0 (xs := [.int .i64 ((m : Nat) : Int)]) rfl rfl)) (M.lt 0 rfl) Tryd.underlying3 rfl ?_
  simp only [putT, List.set]
  refine wpV_bin (v := .bool false) (by rfl) rfl rfl rfl (fun W => (run_eqlN m 0 _ _ W).trans (by rw [(decide_eq_false (Nat.ne_of_gt hm1))])) ?_
  simp only [putT, List.set]
  refine wpV_nil (hLk _ (fun w8 Sw8 => ?_))
  clear hLk Lk
  simp only [List.take, List.drop]
  replace M := M.sees Sw8
  refine wpL_nil (no_panic ?_)
  refine hK6 _ _ ?_
  refine wp_cond_false rfl ?_
  refine wp_skip ?_
  refine hK5 _ _ ?_
  refine wp_seq_k (fun K9 hK9 => ?_)
  refine wp_region_seq ?_
  refine wpL_chunk 4 (by rfl) (fun Lk hLk => ?_)
  simp only [List.take, List.drop]
  refine wpV_val (v := .pointer (some ⟨g3, 1, none⟩)) (by rfl) (by rfl) (fun W hW => ?_) ?_
  · (go_simp; exact rfl)
  simp only [putT, List.set]
  refine wpV_load1 (v := .slice ap ps.length cp) (by rfl) rfl rfl (range_one (range_sub (M.r 0 0 rfl rfl) 1 1 1 (xs := [.slice ap ps.length cp]) rfl rfl)) (M.lt 0 rfl) Tryd.underlying48 rfl ?_
  simp only [putT, List.set]
  refine wpV_lenA (n := ps.length) (by rfl) rfl rfl rfl Tryd.underlying48 ?_
  simp only [putT, List.set]
  refine wpV_bin (v := .int .i64 ((ps.length - 1 : Nat) : Int)) (by rfl) rfl rfl rfl (fun W => run_sub (by simp only [IntKind.wrap_i64]; omega) W) ?_
  simp only [putT, List.set]
  refine wpV_nil (hLk _ (fun w11 Sw11 => ?_))
  clear hLk Lk
  simp only [List.take, List.drop]
  replace M := M.sees Sw11
  refine wpL_assign (v := .int .i64 ((ps.length - 1 : Nat) : Int)) (by rfl) (by rfl) (by rfl) ?_
  simp only [putT, List.set]
  refine wpL_nil (no_panic ?_)
  refine hK9 _ _ ?_
  refine wp_seq_k (fun K12 hK12 => ?_)
  refine wp_region_seq ?_
  refine wpL_chunk 5 (by rfl) (fun Lk hLk => ?_)
  simp only [List.take, List.drop]
  refine wpV_val (v := .pointer (some ⟨g3, 1, none⟩)) (by rfl) (by rfl) (fun W hW => ?_) ?_
  · (go_simp; exact rfl)
  simp only [putT, List.set]
  refine wpV_load1 (v := .slice ap ps.length cp) (by rfl) rfl rfl (range_one (range_sub (M.r 0 0 rfl rfl) 1 1 1 (xs := [.slice ap ps.length cp]) rfl rfl)) (M.lt 0 rfl) Tryd.underlying48 rfl ?_
  simp only [putT, List.set]
  refine wpV_move (v := .int .i64 ((ps.length - 1 : Nat) : Int)) (by rfl) rfl rfl ?_
  simp only [putT, List.set]
  refine wpV_idxA (i := ps.length - 1) (by rfl) rfl rfl rfl Tryd.underlying48 info9 (M.oldA Hp) (by omega) ?_
  simp only [putT, List.set]
  refine wpV_loadA (i := ps.length - 1) (v := .string (bs (lastS ps))) (by rfl) rfl rfl (M.oldA Hp) (scells_last hl1) Tryd.underlying9 rfl ?_
  simp only [putT, List.set]
  refine wpV_nil (hLk _ (fun w14 Sw14 => ?_))
  clear hLk Lk
  simp only [List.take, List.drop]
  replace M := M.sees Sw14
  refine wpL_assign (v := .string (bs (lastS ps))) (by rfl) (by rfl) (by rfl) ?_
  simp only [putT, List.set]
  refine wpL_nil (no_panic ?_)
  refine hK12 _ _ ?_
  refine wp_seq_k (fun K15 hK15 => ?_)
  refine wp_seq_k (fun K16 hK16 => ?_)
  refine wp_region_seq ?_
  refine wpL_move (v := .int .i64 ((ps.length - 1 : Nat) : Int)) (by rfl) (by rfl) (by rfl) ?_
  simp only [putT, List.set]
  refine wpL_chunk 1 (by rfl) (fun Lk hLk => ?_)
  simp only [List.take, List.drop]
  refine wpV_bin (v := .int .i64 (((ps.length - 1 : Nat) : Int) - 1)) (by rfl) rfl rfl rfl (fun W => run_sub (by simp only [IntKind.wrap_i64]; omega) W) ?_
  simp only [putT, List.set]
  refine wpV_nil (hLk _ (fun w18 Sw18 => ?_))
  clear hLk Lk
  simp only [List.take, List.drop]
  replace M := M.sees Sw18
  refine wpL_assign (v := .int .i64 (((ps.length - 1 : Nat) : Int) - 1)) (by rfl) (by rfl) (by rfl) ?_
  simp only [putT, List.set]
  refine wpL_nil (no_panic ?_)
  refine hK16 _ _ ?_
  refine wp_block ?_
  refine wp_loop_ghost (fun n9 a9 W9 => ∃ (u : List UInt8) (q : Nat) (u19 : Nat → Value), n9 = 2 * q ∧ a9 = { tmps := #[.agg ([.int .i64 ((m : Nat) : Int), .slice ap ps.length cp]).toArray, .pointer (some ⟨g3, 0, none⟩), .string (bs ([])), .int .i64 ((ps.length - 1 : Nat) : Int), .string (bs u), .int .i64 (((q : Nat) : Int) - 1), .pointer (some ⟨g3, 0, none⟩), .int .i64 ((m : Nat) : Int), .bool false, undef, .pointer (some ⟨g3, 1, none⟩), .slice ap ps.length cp, .int .i64 ((ps.length : Nat) : Int), .int .i64 ((ps.length - 1 : Nat) : Int), .pointer (some ⟨g3, 1, none⟩), .slice ap ps.length cp, .int .i64 ((ps.length - 1 : Nat) : Int), .pointer (ap.map (·.add (ps.length - 1))), .string (bs (lastS ps)), .int .i64 ((ps.length - 1 : Nat) : Int), .int .i64 (((ps.length - 1 : Nat) : Int) - 1), u19 21, u19 22, u19 23, u19 24, u19 25, u19 26, u19 27, u19 28, u19 29, u19 30, u19 31, undef], defers := [] } ∧ Mem [] w W9 [⟨g3, 2, [(0, [.int .i64 ((m : Nat) : Int), .slice ap ps.length cp])]⟩] ∧ (q ≤ ps.length) ∧ (u.length = 32) ∧ ((ps.take q).foldr nodeS u = sumP ps)) (2 * (ps.length - 1)) ?_ (fun n9 a9 W9 hI => ?_)
  · exact ⟨(lastS ps), (ps.length - 1), (fun q9 => (#[undef, undef, undef, undef, undef, undef, undef, undef, undef, undef, undef, undef, undef, undef, undef, undef, undef, undef, undef, undef, undef, undef, undef, undef, undef, undef, undef, undef, undef, undef, undef, undef] : Array Value).getD q9 undef), rfl, rfl, M, (Nat.sub_le _ _), (last_all h32 hl1), rfl⟩
  clear M
  obtain ⟨u, q, u19, rfl, rfl, M, hq1, hul, hS⟩ := hI
  obtain ⟨w20, rfl⟩ : ∃ W8, W8 = W9 := ⟨_, rfl⟩
  refine wp_seq_k (fun K21 hK21 => ?_)
  refine wp_seq_k (fun K22 hK22 => ?_)
  refine wp_region_seq ?_
  refine wpL_move (v := .int .i64 (((q : Nat) : Int) - 1)) (by rfl) (by rfl) (by rfl) ?_
  simp only [putT, List.set]
  refine wpL_chunk 1 (by rfl) (fun Lk hLk => ?_)
  simp only [List.take, List.drop]
  refine wpV_bin (v := .bool (decide (1 ≤ q))) (by rfl) rfl rfl rfl (fun W => (run_geq _ _ _ _ W).trans (by rw [pred_geq])) ?_
  simp only [putT, List.set]
  refine wpV_nil (hLk _ (fun w24 Sw24 => ?_))
  clear hLk Lk
  simp only [List.take, List.drop]
  replace M := M.sees Sw24
  refine wpL_nil (no_panic ?_)
  refine hK22 _ _ ?_
  cases hc25 : (decide (1 ≤ q))
  · skip
    have eq0 : q = 0 := by have := of_decide_eq_false hc25; omega
    refine wp_cond_false rfl ?_
    refine wp_exit ?_
    refine hK15 _ _ ?_
    refine wp_seq_k (fun K26 hK26 => ?_)
    refine wp_region_seq ?_
    refine wpL_move (v := .string (bs u)) (by rfl) (by rfl) (by rfl) ?_
    simp only [putT, List.set]
    refine wpL_assign (v := .string (bs u)) (by rfl) (by rfl) (by rfl) ?_
    simp only [putT, List.set]
    refine wpL_nil (no_panic ?_)
    refine hK26 _ _ ?_
    refine wp_ret ?_
    repeat (first | with_reducible refine then_ret ?_ | with_reducible refine inblock_ret ?_)
    refine bodyPost_ret (v := .string (bs u)) (res1 rfl (.tmp (by rfl))) rfl ?_
    have BE := M.below
    exact ⟨by rw [← hS, eq0]; rfl, BE⟩
  · skip
    have hq0 : 1 ≤ q := of_decide_eq_true hc25
    rw [show ((q : Nat) : Int) - 1 = ((q - 1 : Nat) : Int) by omega]
    refine wp_cond_true rfl ?_
    refine wp_skip ?_
    refine hK21 _ _ ?_
    refine wp_seq_k (fun K28 hK28 => ?_)
    refine wp_block ?_
    refine wp_region_seq ?_
    refine wpL_chunk 7 (by rfl) (fun Lk hLk => ?_)
    simp only [List.take, List.drop]
    refine wpV_val (v := .pointer (some ⟨g3, 1, none⟩)) (by rfl) (by rfl) (fun W hW => ?_) ?_
    · (go_simp; exact rfl)
    simp only [putT, List.set]
    refine wpV_load1 (v := .slice ap ps.length cp) (by rfl) rfl rfl (range_one (range_sub (M.r 0 0 rfl rfl) 1 1 1 (xs := [.slice ap ps.length cp]) rfl rfl)) (M.lt 0 rfl) Tryd.underlying48 rfl ?_
    simp only [putT, List.set]
    refine wpV_move (v := .int .i64 ((q - 1 : Nat) : Int)) (by rfl) rfl rfl ?_
    simp only [putT, List.set]
    refine wpV_idxA (i := q - 1) (by rfl) rfl rfl rfl Tryd.underlying48 info9 (M.oldA Hp) (by omega) ?_
    simp only [putT, List.set]
    refine wpV_loadA (i := q - 1) (v := .string (bs (ps.getD (q - 1) []))) (by rfl) rfl rfl (M.oldA Hp) (scells_get (ps := ps) (by omega)) Tryd.underlying9 rfl ?_
    simp only [putT, List.set]
    refine wpV_move (v := .string (bs u)) (by rfl) rfl rfl ?_
    simp only [putT, List.set]
    refine wpV_callf (v := .string (bs (nodeS (ps.getD (q - 1) []) u))) (args := #[.string (bs (ps.getD (q - 1) [])), .string (bs u)]) (by rfl) rfl Tryd.func41 (by kernel_rfl) (by kernel_rfl) rfl (fun W hW => rnode_c (a := ps.getD (q - 1) []) (b := u) (by rw [getD_32 h32 (by omega)]; decide) (by rw [hul]; decide)) ?_
    simp only [putT, List.set]
    refine wpV_nil (hLk _ (fun w30 Sw30 => ?_))
    clear hLk Lk
    simp only [List.take, List.drop]
    replace M := M.sees Sw30
    refine wpL_assign (v := .string (bs (nodeS (ps.getD (q - 1) []) u))) (by rfl) (by rfl) (by rfl) ?_
    simp only [putT, List.set]
    refine wpL_nil (no_panic ?_)
    refine hK28 _ _ ?_
    refine wp_region_seq ?_
    refine wpL_move (v := .int .i64 ((q - 1 : Nat) : Int)) (by rfl) (by rfl) (by rfl) ?_
    simp only [putT, List.set]
    refine wpL_chunk 1 (by rfl) (fun Lk hLk => ?_)
    simp only [List.take, List.drop]
    refine wpV_bin (v := .int .i64 (((q - 1 : Nat) : Int) - 1)) (by rfl) rfl rfl rfl (fun W => run_sub (by simp only [IntKind.wrap_i64]; omega) W) ?_
    simp only [putT, List.set]
    refine wpV_nil (hLk _ (fun w32 Sw32 => ?_))
    clear hLk Lk
    simp only [List.take, List.drop]
    replace M := M.sees Sw32
    refine wpL_assign (v := .int .i64 (((q - 1 : Nat) : Int) - 1)) (by rfl) (by rfl) (by rfl) ?_
    simp only [putT, List.set]
    refine wpL_nil (no_panic ?_)
    refine Exists.intro _ ⟨?_, (nodeS (ps.getD (q - 1) []) u), (q - 1), (fun q9 => (#[undef, undef, undef, undef, undef, undef, undef, undef, undef, undef, undef, undef, undef, undef, undef, undef, undef, undef, undef, undef, undef, .int .i64 ((q - 1 : Nat) : Int), .bool true, .int .i64 ((q - 1 : Nat) : Int), .int .i64 (((q - 1 : Nat) : Int) - 1), .pointer (some ⟨g3, 1, none⟩), .slice ap ps.length cp, .int .i64 ((q - 1 : Nat) : Int), .pointer (ap.map (·.add (q - 1))), .string (bs (ps.getD (q - 1) [])), .string (bs u), .string (bs (nodeS (ps.getD (q - 1) []) u))] : Array Value).getD q9 undef), rfl, rfl, M, (by omega), (nodeS_len _ _), (sumP_go2 hq0 hq1 hS)⟩
    omega
end Go.Proofs.Yb

