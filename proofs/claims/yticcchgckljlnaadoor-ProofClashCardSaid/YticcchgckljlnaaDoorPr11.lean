import Derived.WalkKit
import Derived.WalkSpells
import Derived.Laws.Pointers
import Derived.RowKit3
import Derived.Below
import Derived.Outline
import Derived.LoopN
import Derived.Lib.Hide
import Derived.Handy
import Derived.Laws.Bits64b
import Derived.Test.YticcchgckljlnaaDoorPr24
import Derived.Test.YticcchgckljlnaaDoorPr4
import Derived.Test.YticcchgckljlnaaDoorJoinB
import Derived.Test.YticcchgckljlnaaDoorTr3
import Derived.Test.YticcchgckljlnaaDoorPr10
set_option linter.unusedSimpArgs false
set_option linter.unusedVariables false
namespace Go.Proofs.Yb
open Go Go.RowKit Go.Proofs.Num
attribute [local irreducible] wpV wpN wpList
set_option maxRecDepth 100000 in
set_option maxHeartbeats 4000000 in
theorem Clash_neg {ps : List (List UInt8)} {ap : Option Addr} {np cp : Nat} {qs : List (List UInt8)} {aq : Option Addr} {nq cq : Nat} {la lb : List UInt8} {x y : Int} {w : World} (h4 : ps.length ≤ 4096) (h4q : qs.length ≤ 4096) (hx : x < 0) (L0 : 0 < w.heap.size) (R0_0 : w.rangeAt 0 0 kcells) (Hp : RowA w ap np cp (scells ps)) (Hq : RowA w aq nq cq (scells qs)) :
  Calls Tryd.prog 65 #[.string (bs la), .string (bs lb), .int .i64 x, .int .i64 y, .slice ap np cp, .slice aq nq cq] w fun e w' => e = .returned (.tuple #[.string (bs []), .string (bs []), .int .i64 1]) ∧ Below w.heap.size w w' := by
 obtain rfl : np = ps.length := by have := Hp.len; rwa [scells_len] at this
 obtain rfl : nq = qs.length := by have := Hq.len; rwa [scells_len] at this
 go_enter Tryd.func65, Tryd.ntmps65
 have M := Mem.start w
 refine wp_seq_k (fun K1 hK1 => ?_)
 refine wp_region_seq ?_
 refine wpL_assign (v := .string (bs ([]))) (by rfl) (by rfl) (by rfl) ?_
 simp only [putT, List.set]
 refine wpL_assign (v := .string (bs ([]))) (by rfl) (by rfl) (by rfl) ?_
 simp only [putT, List.set]
 refine wpL_assign (v := .int .i64 0) (by rfl) (by rfl) (by rfl) ?_
 simp only [putT, List.set]
 refine wpL_nil (no_panic ?_)
 refine hK1 _ _ ?_
 refine wp_seq_k (fun K3 hK3 => ?_)
 refine wp_seq_k (fun K4 hK4 => ?_)
 refine wp_region_seq ?_
 refine wpL_move (v := .int .i64 x) (by rfl) (by rfl) (by rfl) ?_
 simp only [putT, List.set]
 refine wpL_chunk 13 (by rfl) (fun Lk hLk => ?_)
 simp only [List.take, List.drop]
 refine wpV_bin (v := .bool true) (by rfl) rfl rfl rfl (fun W => (run_lss _ _ _ _ W).trans (by rw [(decide_eq_true hx)])) ?_
 simp only [putT, List.set]
 refine wpV_move (v := .bool true) (by rfl) rfl rfl ?_
 simp only [putT, List.set]
 refine wpV_skip (by rfl) (by rfl) ?_
 simp only [putT, List.set]
 refine wpV_skip (by rfl) (by rfl) ?_
 simp only [putT, List.set]
 refine wpV_skip (by rfl) (by rfl) ?_
 simp only [putT, List.set]
 refine wpV_pick (v := .bool true) (by rfl) rfl rfl rfl ?_
 simp only [putT, List.set]
 refine wpV_move (v := .bool true) (by rfl) rfl rfl ?_
 simp only [putT, List.set]
 refine wpV_skip (by rfl) (by rfl) ?_
 simp only [putT, List.set]
 refine wpV_skip (by rfl) (by rfl) ?_
 simp only [putT, List.set]
 refine wpV_pick (v := .bool true) (by rfl) rfl rfl rfl ?_
 simp only [putT, List.set]
 refine wpV_move (v := .bool true) (by rfl) rfl rfl ?_
 simp only [putT, List.set]
 refine wpV_skip (by rfl) (by rfl) ?_
 simp only [putT, List.set]
 refine wpV_skip (by rfl) (by rfl) ?_
 simp only [putT, List.set]
 refine wpV_nil (hLk _ (fun w6 Sw6 => ?_))
 clear hLk Lk
 simp only [List.take, List.drop]
 replace M := M.sees Sw6
 refine wpL_chunk 1 (by rfl) (fun Lk hLk => ?_)
 simp only [List.take, List.drop]
 refine wpV_skip (by rfl) (by rfl) ?_
 simp only [putT, List.set]
 refine wpV_nil (hLk _ (fun w7 Sw7 => ?_))
 clear hLk Lk
 simp only [List.take, List.drop]
 replace M := M.sees Sw7
 refine wpL_chunk 13 (by rfl) (fun Lk hLk => ?_)
 simp only [List.take, List.drop]
 refine wpV_skip (by rfl) (by rfl) ?_
 simp only [putT, List.set]
 refine wpV_skip (by rfl) (by rfl) ?_
 simp only [putT, List.set]
 refine wpV_pick (v := .bool true) (by rfl) rfl rfl rfl ?_
 simp only [putT, List.set]
 refine wpV_move (v := .bool true) (by rfl) rfl rfl ?_
 simp only [putT, List.set]
 refine wpV_skip (by rfl) (by rfl) ?_
 simp only [putT, List.set]
 refine wpV_skip (by rfl) (by rfl) ?_
 simp only [putT, List.set]
 refine wpV_skip (by rfl) (by rfl) ?_
 simp only [putT, List.set]
 refine wpV_pick (v := .bool true) (by rfl) rfl rfl rfl ?_
 simp only [putT, List.set]
 refine wpV_move (v := .bool true) (by rfl) rfl rfl ?_
 simp only [putT, List.set]
 refine wpV_skip (by rfl) (by rfl) ?_
 simp only [putT, List.set]
 refine wpV_skip (by rfl) (by rfl) ?_
 simp only [putT, List.set]
 refine wpV_skip (by rfl) (by rfl) ?_
 simp only [putT, List.set]
 refine wpV_pick (v := .bool true) (by rfl) rfl rfl rfl ?_
 simp only [putT, List.set]
 refine wpV_nil (hLk _ (fun w8 Sw8 => ?_))
 clear hLk Lk
 simp only [List.take, List.drop]
 replace M := M.sees Sw8
 refine wpL_nil (no_panic ?_)
 refine hK4 _ _ ?_
 refine wp_cond_true rfl ?_
 refine wp_seq_k (fun K9 hK9 => ?_)
 refine wp_region_seq ?_
 refine wpL_assign (v := .string (bs ([]))) (by rfl) (by rfl) (by rfl) ?_
 simp only [putT, List.set]
 refine wpL_assign (v := .string (bs ([]))) (by rfl) (by rfl) (by rfl) ?_
 simp only [putT, List.set]
 refine wpL_assign (v := .int .i64 1) (by rfl) (by rfl) (by rfl) ?_
 simp only [putT, List.set]
 refine wpL_nil (no_panic ?_)
 refine hK9 _ _ ?_
 refine wp_ret ?_
 repeat (first | with_reducible refine then_ret ?_ | with_reducible refine inblock_ret ?_)
 refine bodyPost_ret (v := .tuple #[.string (bs ([])), .string (bs ([])), .int .i64 1]) (res3 rfl (.tmp (by rfl)) (.tmp (by rfl)) (.tmp (by rfl))) rfl ?_
 have BE := M.below
 exact ⟨rfl, BE⟩
set_option maxRecDepth 100000 in
set_option maxHeartbeats 4000000 in
theorem Clash_far {ps : List (List UInt8)} {ap : Option Addr} {np cp : Nat} {qs : List (List UInt8)} {aq : Option Addr} {nq cq : Nat} {la lb : List UInt8} {x y : Int} {w : World} (h4 : ps.length ≤ 4096) (h4q : qs.length ≤ 4096) (hx : ¬ x < 0) (hy : y ≤ x) (L0 : 0 < w.heap.size) (R0_0 : w.rangeAt 0 0 kcells) (Hp : RowA w ap np cp (scells ps)) (Hq : RowA w aq nq cq (scells qs)) :
  Calls Tryd.prog 65 #[.string (bs la), .string (bs lb), .int .i64 x, .int .i64 y, .slice ap np cp, .slice aq nq cq] w fun e w' => e = .returned (.tuple #[.string (bs []), .string (bs []), .int .i64 1]) ∧ Below w.heap.size w w' := by
 obtain rfl : np = ps.length := by have := Hp.len; rwa [scells_len] at this
 obtain rfl : nq = qs.length := by have := Hq.len; rwa [scells_len] at this
 go_enter Tryd.func65, Tryd.ntmps65
 have M := Mem.start w
 refine wp_seq_k (fun K1 hK1 => ?_)
 refine wp_region_seq ?_
 refine wpL_assign (v := .string (bs ([]))) (by rfl) (by rfl) (by rfl) ?_
 simp only [putT, List.set]
 refine wpL_assign (v := .string (bs ([]))) (by rfl) (by rfl) (by rfl) ?_
 simp only [putT, List.set]
 refine wpL_assign (v := .int .i64 0) (by rfl) (by rfl) (by rfl) ?_
 simp only [putT, List.set]
 refine wpL_nil (no_panic ?_)
 refine hK1 _ _ ?_
 refine wp_seq_k (fun K3 hK3 => ?_)
 refine wp_seq_k (fun K4 hK4 => ?_)
 refine wp_region_seq ?_
 refine wpL_move (v := .int .i64 x) (by rfl) (by rfl) (by rfl) ?_
 simp only [putT, List.set]
 refine wpL_chunk 13 (by rfl) (fun Lk hLk => ?_)
 simp only [List.take, List.drop]
 refine wpV_bin (v := .bool false) (by rfl) rfl rfl rfl (fun W => (run_lss _ _ _ _ W).trans (by rw [(decide_eq_false hx)])) ?_
 simp only [putT, List.set]
 refine wpV_move (v := .bool false) (by rfl) rfl rfl ?_
 simp only [putT, List.set]
 refine wpV_move (v := .int .i64 x) (by rfl) rfl rfl ?_
 simp only [putT, List.set]
 refine wpV_move (v := .int .i64 y) (by rfl) rfl rfl ?_
 simp only [putT, List.set]
 refine wpV_bin (v := .bool true) (by rfl) rfl rfl rfl (fun W => (run_geq _ _ _ _ W).trans (by rw [(decide_eq_true hy)])) ?_
 simp only [putT, List.set]
 refine wpV_pick (v := .bool true) (by rfl) rfl rfl rfl ?_
 simp only [putT, List.set]
 refine wpV_move (v := .bool true) (by rfl) rfl rfl ?_
 simp only [putT, List.set]
 refine wpV_skip (by rfl) (by rfl) ?_
 simp only [putT, List.set]
 refine wpV_skip (by rfl) (by rfl) ?_
 simp only [putT, List.set]
 refine wpV_pick (v := .bool true) (by rfl) rfl rfl rfl ?_
 simp only [putT, List.set]
 refine wpV_move (v := .bool true) (by rfl) rfl rfl ?_
 simp only [putT, List.set]
 refine wpV_skip (by rfl) (by rfl) ?_
 simp only [putT, List.set]
 refine wpV_skip (by rfl) (by rfl) ?_
 simp only [putT, List.set]
 refine wpV_nil (hLk _ (fun w6 Sw6 => ?_))
 clear hLk Lk
 simp only [List.take, List.drop]
 replace M := M.sees Sw6
 refine wpL_chunk 1 (by rfl) (fun Lk hLk => ?_)
 simp only [List.take, List.drop]
 refine wpV_skip (by rfl) (by rfl) ?_
 simp only [putT, List.set]
 refine wpV_nil (hLk _ (fun w7 Sw7 => ?_))
 clear hLk Lk
 simp only [List.take, List.drop]
 replace M := M.sees Sw7
 refine wpL_chunk 13 (by rfl) (fun Lk hLk => ?_)
 simp only [List.take, List.drop]
 refine wpV_skip (by rfl) (by rfl) ?_
 simp only [putT, List.set]
 refine wpV_skip (by rfl) (by rfl) ?_
 simp only [putT, List.set]
 refine wpV_pick (v := .bool true) (by rfl) rfl rfl rfl ?_
 simp only [putT, List.set]
 refine wpV_move (v := .bool true) (by rfl) rfl rfl ?_
 simp only [putT, List.set]
 refine wpV_skip (by rfl) (by rfl) ?_
 simp only [putT, List.set]
 refine wpV_skip (by rfl) (by rfl) ?_
 simp only [putT, List.set]
 refine wpV_skip (by rfl) (by rfl) ?_
 simp only [putT, List.set]
 refine wpV_pick (v := .bool true) (by rfl) rfl rfl rfl ?_
 simp only [putT, List.set]
 refine wpV_move (v := .bool true) (by rfl) rfl rfl ?_
 simp only [putT, List.set]
 refine wpV_skip (by rfl) (by rfl) ?_
 simp only [putT, List.set]
 refine wpV_skip (by rfl) (by rfl) ?_
 simp only [putT, List.set]
 refine wpV_skip (by rfl) (by rfl) ?_
 simp only [putT, List.set]
 refine wpV_pick (v := .bool true) (by rfl) rfl rfl rfl ?_
 simp only [putT, List.set]
 refine wpV_nil (hLk _ (fun w8 Sw8 => ?_))
 clear hLk Lk
 simp only [List.take, List.drop]
 replace M := M.sees Sw8
 refine wpL_nil (no_panic ?_)
 refine hK4 _ _ ?_
 refine wp_cond_true rfl ?_
 refine wp_seq_k (fun K9 hK9 => ?_)
 refine wp_region_seq ?_
 refine wpL_assign (v := .string (bs ([]))) (by rfl) (by rfl) (by rfl) ?_
 simp only [putT, List.set]
 refine wpL_assign (v := .string (bs ([]))) (by rfl) (by rfl) (by rfl) ?_
 simp only [putT, List.set]
 refine wpL_assign (v := .int .i64 1) (by rfl) (by rfl) (by rfl) ?_
 simp only [putT, List.set]
 refine wpL_nil (no_panic ?_)
 refine hK9 _ _ ?_
 refine wp_ret ?_
 repeat (first | with_reducible refine then_ret ?_ | with_reducible refine inblock_ret ?_)
 refine bodyPost_ret (v := .tuple #[.string (bs ([])), .string (bs ([])), .int .i64 1]) (res3 rfl (.tmp (by rfl)) (.tmp (by rfl)) (.tmp (by rfl))) rfl ?_
 have BE := M.below
 exact ⟨rfl, BE⟩
set_option maxRecDepth 100000 in
set_option maxHeartbeats 4000000 in
theorem Clash_many {ps : List (List UInt8)} {ap : Option Addr} {np cp : Nat} {qs : List (List UInt8)} {aq : Option Addr} {nq cq : Nat} {la lb : List UInt8} {x y : Int} {w : World} (h4 : ps.length ≤ 4096) (h4q : qs.length ≤ 4096) (hx : ¬ x < 0) (hy : ¬ y ≤ x) (hm : 4096 < y) (L0 : 0 < w.heap.size) (R0_0 : w.rangeAt 0 0 kcells) (Hp : RowA w ap np cp (scells ps)) (Hq : RowA w aq nq cq (scells qs)) :
  Calls Tryd.prog 65 #[.string (bs la), .string (bs lb), .int .i64 x, .int .i64 y, .slice ap np cp, .slice aq nq cq] w fun e w' => e = .returned (.tuple #[.string (bs []), .string (bs []), .int .i64 1]) ∧ Below w.heap.size w w' := by
 obtain rfl : np = ps.length := by have := Hp.len; rwa [scells_len] at this
 obtain rfl : nq = qs.length := by have := Hq.len; rwa [scells_len] at this
 go_enter Tryd.func65, Tryd.ntmps65
 have M := Mem.start w
 refine wp_seq_k (fun K1 hK1 => ?_)
 refine wp_region_seq ?_
 refine wpL_assign (v := .string (bs ([]))) (by rfl) (by rfl) (by rfl) ?_
 simp only [putT, List.set]
 refine wpL_assign (v := .string (bs ([]))) (by rfl) (by rfl) (by rfl) ?_
 simp only [putT, List.set]
 refine wpL_assign (v := .int .i64 0) (by rfl) (by rfl) (by rfl) ?_
 simp only [putT, List.set]
 refine wpL_nil (no_panic ?_)
 refine hK1 _ _ ?_
 refine wp_seq_k (fun K3 hK3 => ?_)
 refine wp_seq_k (fun K4 hK4 => ?_)
 refine wp_region_seq ?_
 refine wpL_move (v := .int .i64 x) (by rfl) (by rfl) (by rfl) ?_
 simp only [putT, List.set]
 refine wpL_chunk 13 (by rfl) (fun Lk hLk => ?_)
 simp only [List.take, List.drop]
 refine wpV_bin (v := .bool false) (by rfl) rfl rfl rfl (fun W => (run_lss _ _ _ _ W).trans (by rw [(decide_eq_false hx)])) ?_
 simp only [putT, List.set]
 refine wpV_move (v := .bool false) (by rfl) rfl rfl ?_
 simp only [putT, List.set]
 refine wpV_move (v := .int .i64 x) (by rfl) rfl rfl ?_
 simp only [putT, List.set]
 refine wpV_move (v := .int .i64 y) (by rfl) rfl rfl ?_
 simp only [putT, List.set]
 refine wpV_bin (v := .bool false) (by rfl) rfl rfl rfl (fun W => (run_geq _ _ _ _ W).trans (by rw [(decide_eq_false hy)])) ?_
 simp only [putT, List.set]
 refine wpV_pick (v := .bool false) (by rfl) rfl rfl rfl ?_
 simp only [putT, List.set]
 refine wpV_move (v := .bool false) (by rfl) rfl rfl ?_
 simp only [putT, List.set]
 refine wpV_move (v := .int .i64 y) (by rfl) rfl rfl ?_
 simp only [putT, List.set]
 refine wpV_bin (v := .bool true) (by rfl) rfl rfl rfl (fun W => (run_gtr _ _ _ _ W).trans (by rw [(decide_eq_true hm)])) ?_
 simp only [putT, List.set]
 refine wpV_pick (v := .bool true) (by rfl) rfl rfl rfl ?_
 simp only [putT, List.set]
 refine wpV_move (v := .bool true) (by rfl) rfl rfl ?_
 simp only [putT, List.set]
 refine wpV_skip (by rfl) (by rfl) ?_
 simp only [putT, List.set]
 refine wpV_skip (by rfl) (by rfl) ?_
 simp only [putT, List.set]
 refine wpV_nil (hLk _ (fun w6 Sw6 => ?_))
 clear hLk Lk
 simp only [List.take, List.drop]
 replace M := M.sees Sw6
 refine wpL_chunk 1 (by rfl) (fun Lk hLk => ?_)
 simp only [List.take, List.drop]
 refine wpV_skip (by rfl) (by rfl) ?_
 simp only [putT, List.set]
 refine wpV_nil (hLk _ (fun w7 Sw7 => ?_))
 clear hLk Lk
 simp only [List.take, List.drop]
 replace M := M.sees Sw7
 refine wpL_chunk 13 (by rfl) (fun Lk hLk => ?_)
 simp only [List.take, List.drop]
 refine wpV_skip (by rfl) (by rfl) ?_
 simp only [putT, List.set]
 refine wpV_skip (by rfl) (by rfl) ?_
 simp only [putT, List.set]
 refine wpV_pick (v := .bool true) (by rfl) rfl rfl rfl ?_
 simp only [putT, List.set]
 refine wpV_move (v := .bool true) (by rfl) rfl rfl ?_
 simp only [putT, List.set]
 refine wpV_skip (by rfl) (by rfl) ?_
 simp only [putT, List.set]
 refine wpV_skip (by rfl) (by rfl) ?_
 simp only [putT, List.set]
 refine wpV_skip (by rfl) (by rfl) ?_
 simp only [putT, List.set]
 refine wpV_pick (v := .bool true) (by rfl) rfl rfl rfl ?_
 simp only [putT, List.set]
 refine wpV_move (v := .bool true) (by rfl) rfl rfl ?_
 simp only [putT, List.set]
 refine wpV_skip (by rfl) (by rfl) ?_
 simp only [putT, List.set]
 refine wpV_skip (by rfl) (by rfl) ?_
 simp only [putT, List.set]
 refine wpV_skip (by rfl) (by rfl) ?_
 simp only [putT, List.set]
 refine wpV_pick (v := .bool true) (by rfl) rfl rfl rfl ?_
 simp only [putT, List.set]
 refine wpV_nil (hLk _ (fun w8 Sw8 => ?_))
 clear hLk Lk
 simp only [List.take, List.drop]
 replace M := M.sees Sw8
 refine wpL_nil (no_panic ?_)
 refine hK4 _ _ ?_
 refine wp_cond_true rfl ?_
 refine wp_seq_k (fun K9 hK9 => ?_)
 refine wp_region_seq ?_
 refine wpL_assign (v := .string (bs ([]))) (by rfl) (by rfl) (by rfl) ?_
 simp only [putT, List.set]
 refine wpL_assign (v := .string (bs ([]))) (by rfl) (by rfl) (by rfl) ?_
 simp only [putT, List.set]
 refine wpL_assign (v := .int .i64 1) (by rfl) (by rfl) (by rfl) ?_
 simp only [putT, List.set]
 refine wpL_nil (no_panic ?_)
 refine hK9 _ _ ?_
 refine wp_ret ?_
 repeat (first | with_reducible refine then_ret ?_ | with_reducible refine inblock_ret ?_)
 refine bodyPost_ret (v := .tuple #[.string (bs ([])), .string (bs ([])), .int .i64 1]) (res3 rfl (.tmp (by rfl)) (.tmp (by rfl)) (.tmp (by rfl))) rfl ?_
 have BE := M.below
 exact ⟨rfl, BE⟩
set_option maxRecDepth 100000 in
set_option maxHeartbeats 4000000 in
theorem Clash_two {ps : List (List UInt8)} {ap : Option Addr} {np cp : Nat} {qs : List (List UInt8)} {aq : Option Addr} {nq cq : Nat} {la lb : List UInt8} {x y : Int} {w : World} (h4 : ps.length ≤ 4096) (h4q : qs.length ≤ 4096) (hx : ¬ x < 0) (hy : ¬ y ≤ x) (hm : ¬ 4096 < y) (ht : all32 [la, lb] = false) (L0 : 0 < w.heap.size) (R0_0 : w.rangeAt 0 0 kcells) (Hp : RowA w ap np cp (scells ps)) (Hq : RowA w aq nq cq (scells qs)) :
  Calls Tryd.prog 65 #[.string (bs la), .string (bs lb), .int .i64 x, .int .i64 y, .slice ap np cp, .slice aq nq cq] w fun e w' => e = .returned (.tuple #[.string (bs []), .string (bs []), .int .i64 1]) ∧ Below w.heap.size w w' := by
 obtain rfl : np = ps.length := by have := Hp.len; rwa [scells_len] at this
 obtain rfl : nq = qs.length := by have := Hq.len; rwa [scells_len] at this
 go_enter Tryd.func65, Tryd.ntmps65
 have M := Mem.start w
 refine wp_seq_k (fun K1 hK1 => ?_)
 refine wp_region_seq ?_
 refine wpL_assign (v := .string (bs ([]))) (by rfl) (by rfl) (by rfl) ?_
 simp only [putT, List.set]
 refine wpL_assign (v := .string (bs ([]))) (by rfl) (by rfl) (by rfl) ?_
 simp only [putT, List.set]
 refine wpL_assign (v := .int .i64 0) (by rfl) (by rfl) (by rfl) ?_
 simp only [putT, List.set]
 refine wpL_nil (no_panic ?_)
 refine hK1 _ _ ?_
 refine wp_seq_k (fun K3 hK3 => ?_)
 refine wp_seq_k (fun K4 hK4 => ?_)
 refine wp_region_seq ?_
 refine wpL_move (v := .int .i64 x) (by rfl) (by rfl) (by rfl) ?_
 simp only [putT, List.set]
 refine wpL_chunk 13 (by rfl) (fun Lk hLk => ?_)
 simp only [List.take, List.drop]
 refine wpV_bin (v := .bool false) (by rfl) rfl rfl rfl (fun W => (run_lss _ _ _ _ W).trans (by rw [(decide_eq_false hx)])) ?_
 simp only [putT, List.set]
 refine wpV_move (v := .bool false) (by rfl) rfl rfl ?_
 simp only [putT, List.set]
 refine wpV_move (v := .int .i64 x) (by rfl) rfl rfl ?_
 simp only [putT, List.set]
 refine wpV_move (v := .int .i64 y) (by rfl) rfl rfl ?_
 simp only [putT, List.set]
 refine wpV_bin (v := .bool false) (by rfl) rfl rfl rfl (fun W => (run_geq _ _ _ _ W).trans (by rw [(decide_eq_false hy)])) ?_
 simp only [putT, List.set]
 refine wpV_pick (v := .bool false) (by rfl) rfl rfl rfl ?_
 simp only [putT, List.set]
 refine wpV_move (v := .bool false) (by rfl) rfl rfl ?_
 simp only [putT, List.set]
 refine wpV_move (v := .int .i64 y) (by rfl) rfl rfl ?_
 simp only [putT, List.set]
 refine wpV_bin (v := .bool false) (by rfl) rfl rfl rfl (fun W => (run_gtr _ _ _ _ W).trans (by rw [(decide_eq_false hm)])) ?_
 simp only [putT, List.set]
 refine wpV_pick (v := .bool false) (by rfl) rfl rfl rfl ?_
 simp only [putT, List.set]
 refine wpV_move (v := .bool false) (by rfl) rfl rfl ?_
 simp only [putT, List.set]
 refine wpV_move (v := .string (bs la)) (by rfl) rfl rfl ?_
 simp only [putT, List.set]
 refine wpV_move (v := .string (bs lb)) (by rfl) rfl rfl ?_
 simp only [putT, List.set]
 refine wpV_nil (hLk _ (fun w6 Sw6 => ?_))
 clear hLk Lk
 simp only [List.take, List.drop]
 replace M := M.sees Sw6
 refine wpL_guard (by rfl) ?_
 refine wpL_rowN (vs := [.string (bs la), .string (bs lb)]) (z := .string { data := #[] }) (bytes := 16) (by rfl) (by rfl) Tryd.underlying48 (by kernel_rfl) (by decide) (by kernel_rfl) (fun g7 w8 Sw8 Hg7 Bg7 => ?_)
 replace M := ((M.sees Sw8).add (N := 2) (cs := [.string (bs la), .string (bs lb)]) (M.ge Hg7) (M.fresh Hg7) Bg7 rfl)
 clear Bg7
 simp only [putT, List.set]
 refine wpL_chunk 13 (by rfl) (fun Lk hLk => ?_)
 simp only [List.take, List.drop]
 refine wpV_callf (v := .bool false) (args := #[.slice (some ⟨g7, 0, none⟩) 2 2]) (by rfl) rfl Tryd.func82 (by kernel_rfl) (by kernel_rfl) rfl (fun W hW => by have h9 : Calls Tryd.prog _ _ W _ := wellp_r (ps := [la, lb]) (show 2 ≤ 4611686018427387904 by decide) (RowA.of ((M.sees hW).r 0 0 rfl rfl) ((M.sees hW).lt 0 rfl) rfl (Nat.le_refl _)); rw [ht] at h9; exact h9) ?_
 simp only [putT, List.set]
 refine wpV_not (b := false) (by rfl) rfl rfl ?_
 simp only [Bool.not_true, Bool.not_false]
 simp only [putT, List.set]
 refine wpV_pick (v := .bool true) (by rfl) rfl rfl rfl ?_
 simp only [putT, List.set]
 refine wpV_move (v := .bool true) (by rfl) rfl rfl ?_
 simp only [putT, List.set]
 refine wpV_skip (by rfl) (by rfl) ?_
 simp only [putT, List.set]
 refine wpV_skip (by rfl) (by rfl) ?_
 simp only [putT, List.set]
 refine wpV_skip (by rfl) (by rfl) ?_
 simp only [putT, List.set]
 refine wpV_pick (v := .bool true) (by rfl) rfl rfl rfl ?_
 simp only [putT, List.set]
 refine wpV_move (v := .bool true) (by rfl) rfl rfl ?_
 simp only [putT, List.set]
 refine wpV_skip (by rfl) (by rfl) ?_
 simp only [putT, List.set]
 refine wpV_skip (by rfl) (by rfl) ?_
 simp only [putT, List.set]
 refine wpV_skip (by rfl) (by rfl) ?_
 simp only [putT, List.set]
 refine wpV_pick (v := .bool true) (by rfl) rfl rfl rfl ?_
 simp only [putT, List.set]
 refine wpV_nil (hLk _ (fun w9 Sw9 => ?_))
 clear hLk Lk
 simp only [List.take, List.drop]
 replace M := M.sees Sw9
 refine wpL_nil (no_panic ?_)
 refine hK4 _ _ ?_
 refine wp_cond_true rfl ?_
 refine wp_seq_k (fun K10 hK10 => ?_)
 refine wp_region_seq ?_
 refine wpL_assign (v := .string (bs ([]))) (by rfl) (by rfl) (by rfl) ?_
 simp only [putT, List.set]
 refine wpL_assign (v := .string (bs ([]))) (by rfl) (by rfl) (by rfl) ?_
 simp only [putT, List.set]
 refine wpL_assign (v := .int .i64 1) (by rfl) (by rfl) (by rfl) ?_
 simp only [putT, List.set]
 refine wpL_nil (no_panic ?_)
 refine hK10 _ _ ?_
 refine wp_ret ?_
 repeat (first | with_reducible refine then_ret ?_ | with_reducible refine inblock_ret ?_)
 refine bodyPost_ret (v := .tuple #[.string (bs ([])), .string (bs ([])), .int .i64 1]) (res3 rfl (.tmp (by rfl)) (.tmp (by rfl)) (.tmp (by rfl))) rfl ?_
 have BE := M.below
 exact ⟨rfl, BE⟩
set_option maxRecDepth 100000 in
set_option maxHeartbeats 4000000 in
theorem Clash_one {ps : List (List UInt8)} {ap : Option Addr} {np cp : Nat} {qs : List (List UInt8)} {aq : Option Addr} {nq cq : Nat} {la lb : List UInt8} {x y : Int} {w : World} (h4 : ps.length ≤ 4096) (h4q : qs.length ≤ 4096) (hx : ¬ x < 0) (hy : ¬ y ≤ x) (hm : ¬ 4096 < y) (ht : all32 [la, lb] = true) (hp : all32 ps = false) (L0 : 0 < w.heap.size) (R0_0 : w.rangeAt 0 0 kcells) (Hp : RowA w ap np cp (scells ps)) (Hq : RowA w aq nq cq (scells qs)) :
  Calls Tryd.prog 65 #[.string (bs la), .string (bs lb), .int .i64 x, .int .i64 y, .slice ap np cp, .slice aq nq cq] w fun e w' => e = .returned (.tuple #[.string (bs []), .string (bs []), .int .i64 1]) ∧ Below w.heap.size w w' := by
 obtain rfl : np = ps.length := by have := Hp.len; rwa [scells_len] at this
 obtain rfl : nq = qs.length := by have := Hq.len; rwa [scells_len] at this
 go_enter Tryd.func65, Tryd.ntmps65
 have M := Mem.start w
 refine wp_seq_k (fun K1 hK1 => ?_)
 refine wp_region_seq ?_
 refine wpL_assign (v := .string (bs ([]))) (by rfl) (by rfl) (by rfl) ?_
 simp only [putT, List.set]
 refine wpL_assign (v := .string (bs ([]))) (by rfl) (by rfl) (by rfl) ?_
 simp only [putT, List.set]
 refine wpL_assign (v := .int .i64 0) (by rfl) (by rfl) (by rfl) ?_
 simp only [putT, List.set]
 refine wpL_nil (no_panic ?_)
 refine hK1 _ _ ?_
 refine wp_seq_k (fun K3 hK3 => ?_)
 refine wp_seq_k (fun K4 hK4 => ?_)
 refine wp_region_seq ?_
 refine wpL_move (v := .int .i64 x) (by rfl) (by rfl) (by rfl) ?_
 simp only [putT, List.set]
 refine wpL_chunk 13 (by rfl) (fun Lk hLk => ?_)
 simp only [List.take, List.drop]
 refine wpV_bin (v := .bool false) (by rfl) rfl rfl rfl (fun W => (run_lss _ _ _ _ W).trans (by rw [(decide_eq_false hx)])) ?_
 simp only [putT, List.set]
 refine wpV_move (v := .bool false) (by rfl) rfl rfl ?_
 simp only [putT, List.set]
 refine wpV_move (v := .int .i64 x) (by rfl) rfl rfl ?_
 simp only [putT, List.set]
 refine wpV_move (v := .int .i64 y) (by rfl) rfl rfl ?_
 simp only [putT, List.set]
 refine wpV_bin (v := .bool false) (by rfl) rfl rfl rfl (fun W => (run_geq _ _ _ _ W).trans (by rw [(decide_eq_false hy)])) ?_
 simp only [putT, List.set]
 refine wpV_pick (v := .bool false) (by rfl) rfl rfl rfl ?_
 simp only [putT, List.set]
 refine wpV_move (v := .bool false) (by rfl) rfl rfl ?_
 simp only [putT, List.set]
 refine wpV_move (v := .int .i64 y) (by rfl) rfl rfl ?_
 simp only [putT, List.set]
 refine wpV_bin (v := .bool false) (by rfl) rfl rfl rfl (fun W => (run_gtr _ _ _ _ W).trans (by rw [(decide_eq_false hm)])) ?_
 simp only [putT, List.set]
 refine wpV_pick (v := .bool false) (by rfl) rfl rfl rfl ?_
 simp only [putT, List.set]
 refine wpV_move (v := .bool false) (by rfl) rfl rfl ?_
 simp only [putT, List.set]
 refine wpV_move (v := .string (bs la)) (by rfl) rfl rfl ?_
 simp only [putT, List.set]
 refine wpV_move (v := .string (bs lb)) (by rfl) rfl rfl ?_
 simp only [putT, List.set]
 refine wpV_nil (hLk _ (fun w6 Sw6 => ?_))
 clear hLk Lk
 simp only [List.take, List.drop]
 replace M := M.sees Sw6
 refine wpL_guard (by rfl) ?_
 refine wpL_rowN (vs := [.string (bs la), .string (bs lb)]) (z := .string { data := #[] }) (bytes := 16) (by rfl) (by rfl) Tryd.underlying48 (by kernel_rfl) (by decide) (by kernel_rfl) (fun g7 w8 Sw8 Hg7 Bg7 => ?_)
 replace M := ((M.sees Sw8).add (N := 2) (cs := [.string (bs la), .string (bs lb)]) (M.ge Hg7) (M.fresh Hg7) Bg7 rfl)
 clear Bg7
 simp only [putT, List.set]
 refine wpL_chunk 13 (by rfl) (fun Lk hLk => ?_)
 simp only [List.take, List.drop]
 refine wpV_callf (v := .bool true) (args := #[.slice (some ⟨g7, 0, none⟩) 2 2]) (by rfl) rfl Tryd.func82 (by kernel_rfl) (by kernel_rfl) rfl (fun W hW => by have h9 : Calls Tryd.prog _ _ W _ := wellp_r (ps := [la, lb]) (show 2 ≤ 4611686018427387904 by decide) (RowA.of ((M.sees hW).r 0 0 rfl rfl) ((M.sees hW).lt 0 rfl) rfl (Nat.le_refl _)); rw [ht] at h9; exact h9) ?_
 simp only [putT, List.set]
 refine wpV_not (b := true) (by rfl) rfl rfl ?_
 simp only [Bool.not_true, Bool.not_false]
 simp only [putT, List.set]
 refine wpV_pick (v := .bool false) (by rfl) rfl rfl rfl ?_
 simp only [putT, List.set]
 refine wpV_move (v := .bool false) (by rfl) rfl rfl ?_
 simp only [putT, List.set]
 refine wpV_move (v := .slice ap ps.length cp) (by rfl) rfl rfl ?_
 simp only [putT, List.set]
 refine wpV_callf (v := .bool false) (args := #[.slice ap ps.length cp]) (by rfl) rfl Tryd.func82 (by kernel_rfl) (by kernel_rfl) rfl (fun W hW => by have h9 : Calls Tryd.prog _ _ W _ := wellp_r (ps := ps) (by omega) ((M.sees hW).oldA Hp); rw [hp] at h9; exact h9) ?_
 simp only [putT, List.set]
 refine wpV_not (b := false) (by rfl) rfl rfl ?_
 simp only [Bool.not_true, Bool.not_false]
 simp only [putT, List.set]
 refine wpV_pick (v := .bool true) (by rfl) rfl rfl rfl ?_
 simp only [putT, List.set]
 refine wpV_move (v := .bool true) (by rfl) rfl rfl ?_
 simp only [putT, List.set]
 refine wpV_skip (by rfl) (by rfl) ?_
 simp only [putT, List.set]
 refine wpV_skip (by rfl) (by rfl) ?_
 simp only [putT, List.set]
 refine wpV_skip (by rfl) (by rfl) ?_
 simp only [putT, List.set]
 refine wpV_pick (v := .bool true) (by rfl) rfl rfl rfl ?_
 simp only [putT, List.set]
 refine wpV_nil (hLk _ (fun w9 Sw9 => ?_))
 clear hLk Lk
 simp only [List.take, List.drop]
 replace M := M.sees Sw9
 refine wpL_nil (no_panic ?_)
 refine hK4 _ _ ?_
 refine wp_cond_true rfl ?_
 refine wp_seq_k (fun K10 hK10 => ?_)
 refine wp_region_seq ?_
 refine wpL_assign (v := .string (bs ([]))) (by rfl) (by rfl) (by rfl) ?_
 simp only [putT, List.set]
 refine wpL_assign (v := .string (bs ([]))) (by rfl) (by rfl) (by rfl) ?_
 simp only [putT, List.set]
 refine wpL_assign (v := .int .i64 1) (by rfl) (by rfl) (by rfl) ?_
 simp only [putT, List.set]
 refine wpL_nil (no_panic ?_)
 refine hK10 _ _ ?_
 refine wp_ret ?_
 repeat (first | with_reducible refine then_ret ?_ | with_reducible refine inblock_ret ?_)
 refine bodyPost_ret (v := .tuple #[.string (bs ([])), .string (bs ([])), .int .i64 1]) (res3 rfl (.tmp (by rfl)) (.tmp (by rfl)) (.tmp (by rfl))) rfl ?_
 have BE := M.below
 exact ⟨rfl, BE⟩
set_option maxRecDepth 100000 in
set_option maxHeartbeats 4000000 in
theorem Clash_other {ps : List (List UInt8)} {ap : Option Addr} {np cp : Nat} {qs : List (List UInt8)} {aq : Option Addr} {nq cq : Nat} {la lb : List UInt8} {x y : Int} {w : World} (h4 : ps.length ≤ 4096) (h4q : qs.length ≤ 4096) (hx : ¬ x < 0) (hy : ¬ y ≤ x) (hm : ¬ 4096 < y) (ht : all32 [la, lb] = true) (hp : all32 ps = true) (hq2 : all32 qs = false) (L0 : 0 < w.heap.size) (R0_0 : w.rangeAt 0 0 kcells) (Hp : RowA w ap np cp (scells ps)) (Hq : RowA w aq nq cq (scells qs)) :
  Calls Tryd.prog 65 #[.string (bs la), .string (bs lb), .int .i64 x, .int .i64 y, .slice ap np cp, .slice aq nq cq] w fun e w' => e = .returned (.tuple #[.string (bs []), .string (bs []), .int .i64 1]) ∧ Below w.heap.size w w' := by
 obtain rfl : np = ps.length := by have := Hp.len; rwa [scells_len] at this
 obtain rfl : nq = qs.length := by have := Hq.len; rwa [scells_len] at this
 go_enter Tryd.func65, Tryd.ntmps65
 have M := Mem.start w
 refine wp_seq_k (fun K1 hK1 => ?_)
 refine wp_region_seq ?_
 refine wpL_assign (v := .string (bs ([]))) (by rfl) (by rfl) (by rfl) ?_
 simp only [putT, List.set]
 refine wpL_assign (v := .string (bs ([]))) (by rfl) (by rfl) (by rfl) ?_
 simp only [putT, List.set]
 refine wpL_assign (v := .int .i64 0) (by rfl) (by rfl) (by rfl) ?_
 simp only [putT, List.set]
 refine wpL_nil (no_panic ?_)
 refine hK1 _ _ ?_
 refine wp_seq_k (fun K3 hK3 => ?_)
 refine wp_seq_k (fun K4 hK4 => ?_)
 refine wp_region_seq ?_
 refine wpL_move (v := .int .i64 x) (by rfl) (by rfl) (by rfl) ?_
 simp only [putT, List.set]
 refine wpL_chunk 13 (by rfl) (fun Lk hLk => ?_)
 simp only [List.take, List.drop]
 refine wpV_bin (v := .bool false) (by rfl) rfl rfl rfl (fun W => (run_lss _ _ _ _ W).trans (by rw [(decide_eq_false hx)])) ?_
 simp only [putT, List.set]
 refine wpV_move (v := .bool false) (by rfl) rfl rfl ?_
 simp only [putT, List.set]
 refine wpV_move (v := .int .i64 x) (by rfl) rfl rfl ?_
 simp only [putT, List.set]
 refine wpV_move (v := .int .i64 y) (by rfl) rfl rfl ?_
 simp only [putT, List.set]
 refine wpV_bin (v := .bool false) (by rfl) rfl rfl rfl (fun W => (run_geq _ _ _ _ W).trans (by rw [(decide_eq_false hy)])) ?_
 simp only [putT, List.set]
 refine wpV_pick (v := .bool false) (by rfl) rfl rfl rfl ?_
 simp only [putT, List.set]
 refine wpV_move (v := .bool false) (by rfl) rfl rfl ?_
 simp only [putT, List.set]
 refine wpV_move (v := .int .i64 y) (by rfl) rfl rfl ?_
 simp only [putT, List.set]
 refine wpV_bin (v := .bool false) (by rfl) rfl rfl rfl (fun W => (run_gtr _ _ _ _ W).trans (by rw [(decide_eq_false hm)])) ?_
 simp only [putT, List.set]
 refine wpV_pick (v := .bool false) (by rfl) rfl rfl rfl ?_
 simp only [putT, List.set]
 refine wpV_move (v := .bool false) (by rfl) rfl rfl ?_
 simp only [putT, List.set]
 refine wpV_move (v := .string (bs la)) (by rfl) rfl rfl ?_
 simp only [putT, List.set]
 refine wpV_move (v := .string (bs lb)) (by rfl) rfl rfl ?_
 simp only [putT, List.set]
 refine wpV_nil (hLk _ (fun w6 Sw6 => ?_))
 clear hLk Lk
 simp only [List.take, List.drop]
 replace M := M.sees Sw6
 refine wpL_guard (by rfl) ?_
 refine wpL_rowN (vs := [.string (bs la), .string (bs lb)]) (z := .string { data := #[] }) (bytes := 16) (by rfl) (by rfl) Tryd.underlying48 (by kernel_rfl) (by decide) (by kernel_rfl) (fun g7 w8 Sw8 Hg7 Bg7 => ?_)
 replace M := ((M.sees Sw8).add (N := 2) (cs := [.string (bs la), .string (bs lb)]) (M.ge Hg7) (M.fresh Hg7) Bg7 rfl)
 clear Bg7
 simp only [putT, List.set]
 refine wpL_chunk 13 (by rfl) (fun Lk hLk => ?_)
 simp only [List.take, List.drop]
 refine wpV_callf (v := .bool true) (args := #[.slice (some ⟨g7, 0, none⟩) 2 2]) (by rfl) rfl Tryd.func82 (by kernel_rfl) (by kernel_rfl) rfl (fun W hW => by have h9 : Calls Tryd.prog _ _ W _ := wellp_r (ps := [la, lb]) (show 2 ≤ 4611686018427387904 by decide) (RowA.of ((M.sees hW).r 0 0 rfl rfl) ((M.sees hW).lt 0 rfl) rfl (Nat.le_refl _)); rw [ht] at h9; exact h9) ?_
 simp only [putT, List.set]
 refine wpV_not (b := true) (by rfl) rfl rfl ?_
 simp only [Bool.not_true, Bool.not_false]
 simp only [putT, List.set]
 refine wpV_pick (v := .bool false) (by rfl) rfl rfl rfl ?_
 simp only [putT, List.set]
 refine wpV_move (v := .bool false) (by rfl) rfl rfl ?_
 simp only [putT, List.set]
 refine wpV_move (v := .slice ap ps.length cp) (by rfl) rfl rfl ?_
 simp only [putT, List.set]
 refine wpV_callf (v := .bool true) (args := #[.slice ap ps.length cp]) (by rfl) rfl Tryd.func82 (by kernel_rfl) (by kernel_rfl) rfl (fun W hW => by have h9 : Calls Tryd.prog _ _ W _ := wellp_r (ps := ps) (by omega) ((M.sees hW).oldA Hp); rw [hp] at h9; exact h9) ?_
 simp only [putT, List.set]
 refine wpV_not (b := true) (by rfl) rfl rfl ?_
 simp only [Bool.not_true, Bool.not_false]
 simp only [putT, List.set]
 refine wpV_pick (v := .bool false) (by rfl) rfl rfl rfl ?_
 simp only [putT, List.set]
 refine wpV_move (v := .bool false) (by rfl) rfl rfl ?_
 simp only [putT, List.set]
 refine wpV_move (v := .slice aq qs.length cq) (by rfl) rfl rfl ?_
 simp only [putT, List.set]
 refine wpV_callf (v := .bool false) (args := #[.slice aq qs.length cq]) (by rfl) rfl Tryd.func82 (by kernel_rfl) (by kernel_rfl) rfl (fun W hW => by have h9 : Calls Tryd.prog _ _ W _ := wellp_r (ps := qs) (by omega) ((M.sees hW).oldA Hq); rw [hq2] at h9; exact h9) ?_
 simp only [putT, List.set]
 refine wpV_not (b := false) (by rfl) rfl rfl ?_
 simp only [Bool.not_true, Bool.not_false]
 simp only [putT, List.set]
 refine wpV_pick (v := .bool true) (by rfl) rfl rfl rfl ?_
 simp only [putT, List.set]
 refine wpV_nil (hLk _ (fun w9 Sw9 => ?_))
 clear hLk Lk
 simp only [List.take, List.drop]
 replace M := M.sees Sw9
 refine wpL_nil (no_panic ?_)
 refine hK4 _ _ ?_
 refine wp_cond_true rfl ?_
 refine wp_seq_k (fun K10 hK10 => ?_)
 refine wp_region_seq ?_
 refine wpL_assign (v := .string (bs ([]))) (by rfl) (by rfl) (by rfl) ?_
 simp only [putT, List.set]
 refine wpL_assign (v := .string (bs ([]))) (by rfl) (by rfl) (by rfl) ?_
 simp only [putT, List.set]
 refine wpL_assign (v := .int .i64 1) (by rfl) (by rfl) (by rfl) ?_
 simp only [putT, List.set]
 refine wpL_nil (no_panic ?_)
 refine hK10 _ _ ?_
 refine wp_ret ?_
 repeat (first | with_reducible refine then_ret ?_ | with_reducible refine inblock_ret ?_)
 refine bodyPost_ret (v := .tuple #[.string (bs ([])), .string (bs ([])), .int .i64 1]) (res3 rfl (.tmp (by rfl)) (.tmp (by rfl)) (.tmp (by rfl))) rfl ?_
 have BE := M.below
 exact ⟨rfl, BE⟩
set_option maxRecDepth 100000 in
set_option maxHeartbeats 4000000 in
theorem Clash_none0 {ps : List (List UInt8)} {ap : Option Addr} {np cp : Nat} {qs : List (List UInt8)} {aq : Option Addr} {nq cq : Nat} {la lb : List UInt8} {i n : Nat} {d2 : Bool} {Xl Yl : List (List UInt8)} {sa sb : List UInt8} {w : World} (h4 : ps.length ≤ 4096) (h4q : qs.length ≤ 4096) (hi : i < n) (hn : n ≤ 4096) (ht : all32 [la, lb] = true) (hp : all32 ps = true) (hq2 : all32 qs = true) (hWa : (false, Xl, sa) = walkF clashF ps i (n - 1) ([], la)) (hWb : (d2, Yl, sb) = walkF clashF qs i (n - 1) ([], lb)) (hX4 : Xl.length ≤ 4096) (L0 : 0 < w.heap.size) (R0_0 : w.rangeAt 0 0 kcells) (Hp : RowA w ap np cp (scells ps)) (Hq : RowA w aq nq cq (scells qs)) :
  Calls Tryd.prog 65 #[.string (bs la), .string (bs lb), .int .i64 ((i : Nat) : Int), .int .i64 ((n : Nat) : Int), .slice ap np cp, .slice aq nq cq] w fun e w' => e = .returned (.tuple #[.string (bs []), .string (bs []), .int .i64 37]) ∧ Below w.heap.size w w' := by
 obtain rfl : np = ps.length := by have := Hp.len; rwa [scells_len] at this
 obtain rfl : nq = qs.length := by have := Hq.len; rwa [scells_len] at this
 have h32 := all32_mem hp
 have h32q := all32_mem hq2
 have hl2 := all32_mem ht
 have hla : la.length = 32 := hl2 la (.head _)
 have hlb : lb.length = 32 := hl2 lb (.tail _ (.head _))
 go_enter Tryd.func65, Tryd.ntmps65
 have M := Mem.start w
 refine wp_seq_k (fun K1 hK1 => ?_)
 refine wp_region_seq ?_
 refine wpL_assign (v := .string (bs ([]))) (by rfl) (by rfl) (by rfl) ?_
 simp only [putT, List.set]
 refine wpL_assign (v := .string (bs ([]))) (by rfl) (by rfl) (by rfl) ?_
 simp only [putT, List.set]
 refine wpL_assign (v := .int .i64 0) (by rfl) (by rfl) (by rfl) ?_
 simp only [putT, List.set]
 refine wpL_nil (no_panic ?_)
 refine hK1 _ _ ?_
 refine wp_seq_k (fun K3 hK3 => ?_)
 refine wp_seq_k (fun K4 hK4 => ?_)
 refine wp_region_seq ?_
 refine wpL_move (v := .int .i64 ((i : Nat) : Int)) (by rfl) (by rfl) (by rfl) ?_
 simp only [putT, List.set]
 refine wpL_chunk 13 (by rfl) (fun Lk hLk => ?_)
 simp only [List.take, List.drop]
 refine wpV_bin (v := .bool false) (by rfl) rfl rfl rfl (fun W => (run_lssN i 0 _ _ W).trans (by rw [(decide_eq_false (Nat.not_lt_zero i))])) ?_
 simp only [putT, List.set]
 refine wpV_move (v := .bool false) (by rfl) rfl rfl ?_
 simp only [putT, List.set]
 refine wpV_move (v := .int .i64 ((i : Nat) : Int)) (by rfl) rfl rfl ?_
 simp only [putT, List.set]
 refine wpV_move (v := .int .i64 ((n : Nat) : Int)) (by rfl) rfl rfl ?_
 simp only [putT, List.set]
 refine wpV_bin (v := .bool false) (by rfl) rfl rfl rfl (fun W => (run_geqN i n _ _ W).trans (by rw [(decide_eq_false (Nat.not_le.2 hi))])) ?_
 simp only [putT, List.set]
 refine wpV_pick (v := .bool false) (by rfl) rfl rfl rfl ?_
 simp only [putT, List.set]
 refine wpV_move (v := .bool false) (by rfl) rfl rfl ?_
 simp only [putT, List.set]
 refine wpV_move (v := .int .i64 ((n : Nat) : Int)) (by rfl) rfl rfl ?_
 simp only [putT, List.set]
 refine wpV_bin (v := .bool false) (by rfl) rfl rfl rfl (fun W => (run_gtrN n 4096 _ _ W).trans (by rw [(decide_eq_false (Nat.not_lt.2 hn))])) ?_
 simp only [putT, List.set]
 refine wpV_pick (v := .bool false) (by rfl) rfl rfl rfl ?_
 simp only [putT, List.set]
 refine wpV_move (v := .bool false) (by rfl) rfl rfl ?_
 simp only [putT, List.set]
 refine wpV_move (v := .string (bs la)) (by rfl) rfl rfl ?_
 simp only [putT, List.set]
 refine wpV_move (v := .string (bs lb)) (by rfl) rfl rfl ?_
 simp only [putT, List.set]
 refine wpV_nil (hLk _ (fun w6 Sw6 => ?_))
 clear hLk Lk
 simp only [List.take, List.drop]
 replace M := M.sees Sw6
 refine wpL_guard (by rfl) ?_
 refine wpL_rowN (vs := [.string (bs la), .string (bs lb)]) (z := .string { data := #[] }) (bytes := 16) (by rfl) (by rfl) Tryd.underlying48 (by kernel_rfl) (by decide) (by kernel_rfl) (fun g7 w8 Sw8 Hg7 Bg7 => ?_)
 replace M := ((M.sees Sw8).add (N := 2) (cs := [.string (bs la), .string (bs lb)]) (M.ge Hg7) (M.fresh Hg7) Bg7 rfl)
 clear Bg7
 simp only [putT, List.set]
 refine wpL_chunk 13 (by rfl) (fun Lk hLk => ?_)
 simp only [List.take, List.drop]
 refine wpV_callf (v := .bool true) (args := #[.slice (some ⟨g7, 0, none⟩) 2 2]) (by rfl) rfl Tryd.func82 (by kernel_rfl) (by kernel_rfl) rfl (fun W hW => by have h9 : Calls Tryd.prog _ _ W _ := wellp_r (ps := [la, lb]) (show 2 ≤ 4611686018427387904 by decide) (RowA.of ((M.sees hW).r 0 0 rfl rfl) ((M.sees hW).lt 0 rfl) rfl (Nat.le_refl _)); rw [ht] at h9; exact h9) ?_
 simp only [putT, List.set]
 refine wpV_not (b := true) (by rfl) rfl rfl ?_
 simp only [Bool.not_true, Bool.not_false]
 simp only [putT, List.set]
 refine wpV_pick (v := .bool false) (by rfl) rfl rfl rfl ?_
 simp only [putT, List.set]
 refine wpV_move (v := .bool false) (by rfl) rfl rfl ?_
 simp only [putT, List.set]
 refine wpV_move (v := .slice ap ps.length cp) (by rfl) rfl rfl ?_
 simp only [putT, List.set]
 refine wpV_callf (v := .bool true) (args := #[.slice ap ps.length cp]) (by rfl) rfl Tryd.func82 (by kernel_rfl) (by kernel_rfl) rfl (fun W hW => by have h9 : Calls Tryd.prog _ _ W _ := wellp_r (ps := ps) (by omega) ((M.sees hW).oldA Hp); rw [hp] at h9; exact h9) ?_
 simp only [putT, List.set]
 refine wpV_not (b := true) (by rfl) rfl rfl ?_
 simp only [Bool.not_true, Bool.not_false]
 simp only [putT, List.set]
 refine wpV_pick (v := .bool false) (by rfl) rfl rfl rfl ?_
 simp only [putT, List.set]
 refine wpV_move (v := .bool false) (by rfl) rfl rfl ?_
 simp only [putT, List.set]
 refine wpV_move (v := .slice aq qs.length cq) (by rfl) rfl rfl ?_
 simp only [putT, List.set]
 refine wpV_callf (v := .bool true) (args := #[.slice aq qs.length cq]) (by rfl) rfl Tryd.func82 (by kernel_rfl) (by kernel_rfl) rfl (fun W hW => by have h9 : Calls Tryd.prog _ _ W _ := wellp_r (ps := qs) (by omega) ((M.sees hW).oldA Hq); rw [hq2] at h9; exact h9) ?_
 simp only [putT, List.set]
 refine wpV_not (b := true) (by rfl) rfl rfl ?_
 simp only [Bool.not_true, Bool.not_false]
 simp only [putT, List.set]
 refine wpV_pick (v := .bool false) (by rfl) rfl rfl rfl ?_
 simp only [putT, List.set]
 refine wpV_nil (hLk _ (fun w9 Sw9 => ?_))
 clear hLk Lk
 simp only [List.take, List.drop]
 replace M := M.sees Sw9
 refine wpL_nil (no_panic ?_)
 refine hK4 _ _ ?_
 refine wp_cond_false rfl ?_
 refine wp_skip ?_
 refine hK3 _ _ ?_
 refine wp_seq_k (fun K10 hK10 => ?_)
 refine wp_region_seq ?_
 refine wpL_move (v := .string (bs la)) (by rfl) (by rfl) (by rfl) ?_
 simp only [putT, List.set]
 refine wpL_move (v := .int .i64 ((i : Nat) : Int)) (by rfl) (by rfl) (by rfl) ?_
 simp only [putT, List.set]
 refine wpL_move (v := .int .i64 ((n : Nat) : Int)) (by rfl) (by rfl) (by rfl) ?_
 simp only [putT, List.set]
 refine wpL_move (v := .slice ap ps.length cp) (by rfl) (by rfl) (by rfl) ?_
 simp only [putT, List.set]
 refine wpL_callE (f := 86) (args := #[.string (bs la), .int .i64 ((i : Nat) : Int), .int .i64 ((n : Nat) : Int), .slice ap ps.length cp]) (R := fun v9 W9 => ∃ a13 c13, v9 = .tuple #[.slice a13 Xl.length c13, .string (bs sa), .bool false] ∧ RowA W9 a13 Xl.length c13 (scells Xl)) (by rfl) (by rfl) rfl Tryd.func86 (by kernel_rfl) (by kernel_rfl) (texts_c (ps := ps) (leaf := la) (i := i) (n := n) (U := Xl) (sm := sa) (dd := false) (by omega) hn hi h4 hla h32 hWa (M.oldL L0) (M.oldR R0_0 L0) (M.oldA Hp)) (fun v9 w12 hv9 Sw12 => ?_)
 obtain ⟨a13, c13, rfl, H13_0⟩ := hv9
 replace M := M.sees Sw12
 replace R0_0 := M.oldR R0_0 L0
 replace L0 := M.oldL L0
 have Rg7_0 := M.r 0 0 rfl rfl
 have Lg7 := M.lt 0 rfl
 replace Hp := M.oldA Hp
 replace Hq := M.oldA Hq
 have BB := M.below
 replace M := Mem.start w12
 simp only [putT, List.set]
 refine wpL_move (v := .tuple #[.slice a13 Xl.length c13, .string (bs sa), .bool false]) (by rfl) (by rfl) (by rfl) ?_
 simp only [putT, List.set]
 refine wpL_chunk 3 (by rfl) (fun Lk hLk => ?_)
 simp only [List.take, List.drop]
 refine wpV_extract (v := .slice a13 Xl.length c13) (by rfl) rfl rfl rfl ?_
 simp only [putT, List.set]
 refine wpV_extract (v := .string (bs sa)) (by rfl) rfl rfl rfl ?_
 simp only [putT, List.set]
 refine wpV_extract (v := .bool false) (by rfl) rfl rfl rfl ?_
 simp only [putT, List.set]
 refine wpV_nil (hLk _ (fun w14 Sw14 => ?_))
 clear hLk Lk
 simp only [List.take, List.drop]
 replace M := M.sees Sw14
 refine wpL_assign (v := .slice a13 Xl.length c13) (by rfl) (by rfl) (by rfl) ?_
 simp only [putT, List.set]
 refine wpL_assign (v := .string (bs sa)) (by rfl) (by rfl) (by rfl) ?_
 simp only [putT, List.set]
 refine wpL_assign (v := .bool false) (by rfl) (by rfl) (by rfl) ?_
 simp only [putT, List.set]
 refine wpL_nil (no_panic ?_)
 refine hK10 _ _ ?_
 refine wp_seq_k (fun K15 hK15 => ?_)
 refine wp_region_seq ?_
 refine wpL_move (v := .string (bs lb)) (by rfl) (by rfl) (by rfl) ?_
 simp only [putT, List.set]
 refine wpL_move (v := .int .i64 ((i : Nat) : Int)) (by rfl) (by rfl) (by rfl) ?_
 simp only [putT, List.set]
 refine wpL_move (v := .int .i64 ((n : Nat) : Int)) (by rfl) (by rfl) (by rfl) ?_
 simp only [putT, List.set]
 refine wpL_move (v := .slice aq qs.length cq) (by rfl) (by rfl) (by rfl) ?_
 simp only [putT, List.set]
 refine wpL_callE (f := 86) (args := #[.string (bs lb), .int .i64 ((i : Nat) : Int), .int .i64 ((n : Nat) : Int), .slice aq qs.length cq]) (R := fun v9 W9 => ∃ a18 c18, v9 = .tuple #[.slice a18 Yl.length c18, .string (bs sb), .bool d2] ∧ RowA W9 a18 Yl.length c18 (scells Yl)) (by rfl) (by rfl) rfl Tryd.func86 (by kernel_rfl) (by kernel_rfl) (texts_c (ps := qs) (leaf := lb) (i := i) (n := n) (U := Yl) (sm := sb) (dd := d2) (by omega) hn hi h4q hlb h32q hWb (M.oldL L0) (M.oldR R0_0 L0) (M.oldA Hq)) (fun v9 w17 hv9 Sw17 => ?_)
 obtain ⟨a18, c18, rfl, H18_0⟩ := hv9
 replace M := M.sees Sw17
 replace Rg7_0 := M.oldR Rg7_0 Lg7
 replace R0_0 := M.oldR R0_0 L0
 replace Lg7 := M.oldL Lg7
 replace L0 := M.oldL L0
 replace Hp := M.oldA Hp
 replace Hq := M.oldA Hq
 replace H13_0 := M.oldA H13_0
 replace BB := BB.trans (M.below.mono BB.size)
 replace M := Mem.start w17
 simp only [putT, List.set]
 refine wpL_move (v := .tuple #[.slice a18 Yl.length c18, .string (bs sb), .bool d2]) (by rfl) (by rfl) (by rfl) ?_
 simp only [putT, List.set]
 refine wpL_chunk 3 (by rfl) (fun Lk hLk => ?_)
 simp only [List.take, List.drop]
 refine wpV_extract (v := .slice a18 Yl.length c18) (by rfl) rfl rfl rfl ?_
 simp only [putT, List.set]
 refine wpV_extract (v := .string (bs sb)) (by rfl) rfl rfl rfl ?_
 simp only [putT, List.set]
 refine wpV_extract (v := .bool d2) (by rfl) rfl rfl rfl ?_
 simp only [putT, List.set]
 refine wpV_nil (hLk _ (fun w19 Sw19 => ?_))
 clear hLk Lk
 simp only [List.take, List.drop]
 replace M := M.sees Sw19
 refine wpL_assign (v := .slice a18 Yl.length c18) (by rfl) (by rfl) (by rfl) ?_
 simp only [putT, List.set]
 refine wpL_assign (v := .string (bs sb)) (by rfl) (by rfl) (by rfl) ?_
 simp only [putT, List.set]
 refine wpL_assign (v := .bool d2) (by rfl) (by rfl) (by rfl) ?_
 simp only [putT, List.set]
 refine wpL_nil (no_panic ?_)
 refine hK15 _ _ ?_
 refine wp_seq_k (fun K20 hK20 => ?_)
 refine wp_seq_k (fun K21 hK21 => ?_)
 refine wp_region_seq ?_
 refine wpL_move (v := .bool false) (by rfl) (by rfl) (by rfl) ?_
 simp only [putT, List.set]
 refine wpL_chunk 15 (by rfl) (fun Lk hLk => ?_)
 simp only [List.take, List.drop]
 refine wpV_not (b := false) (by rfl) rfl rfl ?_
 simp only [Bool.not_true, Bool.not_false]
 simp only [putT, List.set]
 refine wpV_move (v := .bool true) (by rfl) rfl rfl ?_
 simp only [putT, List.set]
 refine wpV_skip (by rfl) (by rfl) ?_
 simp only [putT, List.set]
 refine wpV_skip (by rfl) (by rfl) ?_
 simp only [putT, List.set]
 refine wpV_pick (v := .bool true) (by rfl) rfl rfl rfl ?_
 simp only [putT, List.set]
 refine wpV_move (v := .bool true) (by rfl) rfl rfl ?_
 simp only [putT, List.set]
 refine wpV_skip (by rfl) (by rfl) ?_
 simp only [putT, List.set]
 refine wpV_skip (by rfl) (by rfl) ?_
 simp only [putT, List.set]
 refine wpV_skip (by rfl) (by rfl) ?_
 simp only [putT, List.set]
 refine wpV_pick (v := .bool true) (by rfl) rfl rfl rfl ?_
 simp only [putT, List.set]
 refine wpV_move (v := .bool true) (by rfl) rfl rfl ?_
 simp only [putT, List.set]
 refine wpV_skip (by rfl) (by rfl) ?_
 simp only [putT, List.set]
 refine wpV_skip (by rfl) (by rfl) ?_
 simp only [putT, List.set]
 refine wpV_skip (by rfl) (by rfl) ?_
 simp only [putT, List.set]
 refine wpV_pick (v := .bool true) (by rfl) rfl rfl rfl ?_
 simp only [putT, List.set]
 refine wpV_nil (hLk _ (fun w23 Sw23 => ?_))
 clear hLk Lk
 simp only [List.take, List.drop]
 replace M := M.sees Sw23
 refine wpL_nil (no_panic ?_)
 refine hK21 _ _ ?_
 refine wp_cond_true rfl ?_
 refine wp_seq_k (fun K24 hK24 => ?_)
 refine wp_region_seq ?_
 refine wpL_assign (v := .string (bs ([]))) (by rfl) (by rfl) (by rfl) ?_
 simp only [putT, List.set]
 refine wpL_assign (v := .string (bs ([]))) (by rfl) (by rfl) (by rfl) ?_
 simp only [putT, List.set]
 refine wpL_assign (v := .int .i64 37) (by rfl) (by rfl) (by rfl) ?_
 simp only [putT, List.set]
 refine wpL_nil (no_panic ?_)
 refine hK24 _ _ ?_
 refine wp_ret ?_
 repeat (first | with_reducible refine then_ret ?_ | with_reducible refine inblock_ret ?_)
 refine bodyPost_ret (v := .tuple #[.string (bs ([])), .string (bs ([])), .int .i64 37]) (res3 rfl (.tmp (by rfl)) (.tmp (by rfl)) (.tmp (by rfl))) rfl ?_
 have BE := M.below
 exact ⟨rfl, BB.trans (BE.mono BB.size)⟩
set_option maxRecDepth 100000 in
set_option maxHeartbeats 4000000 in
theorem Clash_none1 {ps : List (List UInt8)} {ap : Option Addr} {np cp : Nat} {qs : List (List UInt8)} {aq : Option Addr} {nq cq : Nat} {la lb : List UInt8} {i n : Nat} {Xl Yl : List (List UInt8)} {sa sb : List UInt8} {w : World} (h4 : ps.length ≤ 4096) (h4q : qs.length ≤ 4096) (hi : i < n) (hn : n ≤ 4096) (ht : all32 [la, lb] = true) (hp : all32 ps = true) (hq2 : all32 qs = true) (hWa : (true, Xl, sa) = walkF clashF ps i (n - 1) ([], la)) (hWb : (false, Yl, sb) = walkF clashF qs i (n - 1) ([], lb)) (hX4 : Xl.length ≤ 4096) (L0 : 0 < w.heap.size) (R0_0 : w.rangeAt 0 0 kcells) (Hp : RowA w ap np cp (scells ps)) (Hq : RowA w aq nq cq (scells qs)) :
  Calls Tryd.prog 65 #[.string (bs la), .string (bs lb), .int .i64 ((i : Nat) : Int), .int .i64 ((n : Nat) : Int), .slice ap np cp, .slice aq nq cq] w fun e w' => e = .returned (.tuple #[.string (bs []), .string (bs []), .int .i64 37]) ∧ Below w.heap.size w w' := by
 obtain rfl : np = ps.length := by have := Hp.len; rwa [scells_len] at this
 obtain rfl : nq = qs.length := by have := Hq.len; rwa [scells_len] at this
 have h32 := all32_mem hp
 have h32q := all32_mem hq2
 have hl2 := all32_mem ht
 have hla : la.length = 32 := hl2 la (.head _)
 have hlb : lb.length = 32 := hl2 lb (.tail _ (.head _))
 go_enter Tryd.func65, Tryd.ntmps65
 have M := Mem.start w
 refine wp_seq_k (fun K1 hK1 => ?_)
 refine wp_region_seq ?_
 refine wpL_assign (v := .string (bs ([]))) (by rfl) (by rfl) (by rfl) ?_
 simp only [putT, List.set]
 refine wpL_assign (v := .string (bs ([]))) (by rfl) (by rfl) (by rfl) ?_
 simp only [putT, List.set]
 refine wpL_assign (v := .int .i64 0) (by rfl) (by rfl) (by rfl) ?_
 simp only [putT, List.set]
 refine wpL_nil (no_panic ?_)
 refine hK1 _ _ ?_
 refine wp_seq_k (fun K3 hK3 => ?_)
 refine wp_seq_k (fun K4 hK4 => ?_)
 refine wp_region_seq ?_
 refine wpL_move (v := .int .i64 ((i : Nat) : Int)) (by rfl) (by rfl) (by rfl) ?_
 simp only [putT, List.set]
 refine wpL_chunk 13 (by rfl) (fun Lk hLk => ?_)
 simp only [List.take, List.drop]
 refine wpV_bin (v := .bool false) (by rfl) rfl rfl rfl (fun W => (run_lssN i 0 _ _ W).trans (by rw [(decide_eq_false (Nat.not_lt_zero i))])) ?_
 simp only [putT, List.set]
 refine wpV_move (v := .bool false) (by rfl) rfl rfl ?_
 simp only [putT, List.set]
 refine wpV_move (v := .int .i64 ((i : Nat) : Int)) (by rfl) rfl rfl ?_
 simp only [putT, List.set]
 refine wpV_move (v := .int .i64 ((n : Nat) : Int)) (by rfl) rfl rfl ?_
 simp only [putT, List.set]
 refine wpV_bin (v := .bool false) (by rfl) rfl rfl rfl (fun W => (run_geqN i n _ _ W).trans (by rw [(decide_eq_false (Nat.not_le.2 hi))])) ?_
 simp only [putT, List.set]
 refine wpV_pick (v := .bool false) (by rfl) rfl rfl rfl ?_
 simp only [putT, List.set]
 refine wpV_move (v := .bool false) (by rfl) rfl rfl ?_
 simp only [putT, List.set]
 refine wpV_move (v := .int .i64 ((n : Nat) : Int)) (by rfl) rfl rfl ?_
 simp only [putT, List.set]
 refine wpV_bin (v := .bool false) (by rfl) rfl rfl rfl (fun W => (run_gtrN n 4096 _ _ W).trans (by rw [(decide_eq_false (Nat.not_lt.2 hn))])) ?_
 simp only [putT, List.set]
 refine wpV_pick (v := .bool false) (by rfl) rfl rfl rfl ?_
 simp only [putT, List.set]
 refine wpV_move (v := .bool false) (by rfl) rfl rfl ?_
 simp only [putT, List.set]
 refine wpV_move (v := .string (bs la)) (by rfl) rfl rfl ?_
 simp only [putT, List.set]
 refine wpV_move (v := .string (bs lb)) (by rfl) rfl rfl ?_
 simp only [putT, List.set]
 refine wpV_nil (hLk _ (fun w6 Sw6 => ?_))
 clear hLk Lk
 simp only [List.take, List.drop]
 replace M := M.sees Sw6
 refine wpL_guard (by rfl) ?_
 refine wpL_rowN (vs := [.string (bs la), .string (bs lb)]) (z := .string { data := #[] }) (bytes := 16) (by rfl) (by rfl) Tryd.underlying48 (by kernel_rfl) (by decide) (by kernel_rfl) (fun g7 w8 Sw8 Hg7 Bg7 => ?_)
 replace M := ((M.sees Sw8).add (N := 2) (cs := [.string (bs la), .string (bs lb)]) (M.ge Hg7) (M.fresh Hg7) Bg7 rfl)
 clear Bg7
 simp only [putT, List.set]
 refine wpL_chunk 13 (by rfl) (fun Lk hLk => ?_)
 simp only [List.take, List.drop]
 refine wpV_callf (v := .bool true) (args := #[.slice (some ⟨g7, 0, none⟩) 2 2]) (by rfl) rfl Tryd.func82 (by kernel_rfl) (by kernel_rfl) rfl (fun W hW => by have h9 : Calls Tryd.prog _ _ W _ := wellp_r (ps := [la, lb]) (show 2 ≤ 4611686018427387904 by decide) (RowA.of ((M.sees hW).r 0 0 rfl rfl) ((M.sees hW).lt 0 rfl) rfl (Nat.le_refl _)); rw [ht] at h9; exact h9) ?_
 simp only [putT, List.set]
 refine wpV_not (b := true) (by rfl) rfl rfl ?_
 simp only [Bool.not_true, Bool.not_false]
 simp only [putT, List.set]
 refine wpV_pick (v := .bool false) (by rfl) rfl rfl rfl ?_
 simp only [putT, List.set]
 refine wpV_move (v := .bool false) (by rfl) rfl rfl ?_
 simp only [putT, List.set]
 refine wpV_move (v := .slice ap ps.length cp) (by rfl) rfl rfl ?_
 simp only [putT, List.set]
 refine wpV_callf (v := .bool true) (args := #[.slice ap ps.length cp]) (by rfl) rfl Tryd.func82 (by kernel_rfl) (by kernel_rfl) rfl (fun W hW => by have h9 : Calls Tryd.prog _ _ W _ := wellp_r (ps := ps) (by omega) ((M.sees hW).oldA Hp); rw [hp] at h9; exact h9) ?_
 simp only [putT, List.set]
 refine wpV_not (b := true) (by rfl) rfl rfl ?_
 simp only [Bool.not_true, Bool.not_false]
 simp only [putT, List.set]
 refine wpV_pick (v := .bool false) (by rfl) rfl rfl rfl ?_
 simp only [putT, List.set]
 refine wpV_move (v := .bool false) (by rfl) rfl rfl ?_
 simp only [putT, List.set]
 refine wpV_move (v := .slice aq qs.length cq) (by rfl) rfl rfl ?_
 simp only [putT, List.set]
 refine wpV_callf (v := .bool true) (args := #[.slice aq qs.length cq]) (by rfl) rfl Tryd.func82 (by kernel_rfl) (by kernel_rfl) rfl (fun W hW => by have h9 : Calls Tryd.prog _ _ W _ := wellp_r (ps := qs) (by omega) ((M.sees hW).oldA Hq); rw [hq2] at h9; exact h9) ?_
 simp only [putT, List.set]
 refine wpV_not (b := true) (by rfl) rfl rfl ?_
 simp only [Bool.not_true, Bool.not_false]
 simp only [putT, List.set]
 refine wpV_pick (v := .bool false) (by rfl) rfl rfl rfl ?_
 simp only [putT, List.set]
 refine wpV_nil (hLk _ (fun w9 Sw9 => ?_))
 clear hLk Lk
 simp only [List.take, List.drop]
 replace M := M.sees Sw9
 refine wpL_nil (no_panic ?_)
 refine hK4 _ _ ?_
 refine wp_cond_false rfl ?_
 refine wp_skip ?_
 refine hK3 _ _ ?_
 refine wp_seq_k (fun K10 hK10 => ?_)
 refine wp_region_seq ?_
 refine wpL_move (v := .string (bs la)) (by rfl) (by rfl) (by rfl) ?_
 simp only [putT, List.set]
 refine wpL_move (v := .int .i64 ((i : Nat) : Int)) (by rfl) (by rfl) (by rfl) ?_
 simp only [putT, List.set]
 refine wpL_move (v := .int .i64 ((n : Nat) : Int)) (by rfl) (by rfl) (by rfl) ?_
 simp only [putT, List.set]
 refine wpL_move (v := .slice ap ps.length cp) (by rfl) (by rfl) (by rfl) ?_
 simp only [putT, List.set]
 refine wpL_callE (f := 86) (args := #[.string (bs la), .int .i64 ((i : Nat) : Int), .int .i64 ((n : Nat) : Int), .slice ap ps.length cp]) (R := fun v9 W9 => ∃ a13 c13, v9 = .tuple #[.slice a13 Xl.length c13, .string (bs sa), .bool true] ∧ RowA W9 a13 Xl.length c13 (scells Xl)) (by rfl) (by rfl) rfl Tryd.func86 (by kernel_rfl) (by kernel_rfl) (texts_c (ps := ps) (leaf := la) (i := i) (n := n) (U := Xl) (sm := sa) (dd := true) (by omega) hn hi h4 hla h32 hWa (M.oldL L0) (M.oldR R0_0 L0) (M.oldA Hp)) (fun v9 w12 hv9 Sw12 => ?_)
 obtain ⟨a13, c13, rfl, H13_0⟩ := hv9
 replace M := M.sees Sw12
 replace R0_0 := M.oldR R0_0 L0
 replace L0 := M.oldL L0
 have Rg7_0 := M.r 0 0 rfl rfl
 have Lg7 := M.lt 0 rfl
 replace Hp := M.oldA Hp
 replace Hq := M.oldA Hq
 have BB := M.below
 replace M := Mem.start w12
 simp only [putT, List.set]
 refine wpL_move (v := .tuple #[.slice a13 Xl.length c13, .string (bs sa), .bool true]) (by rfl) (by rfl) (by rfl) ?_
 simp only [putT, List.set]
 refine wpL_chunk 3 (by rfl) (fun Lk hLk => ?_)
 simp only [List.take, List.drop]
 refine wpV_extract (v := .slice a13 Xl.length c13) (by rfl) rfl rfl rfl ?_
 simp only [putT, List.set]
 refine wpV_extract (v := .string (bs sa)) (by rfl) rfl rfl rfl ?_
 simp only [putT, List.set]
 refine wpV_extract (v := .bool true) (by rfl) rfl rfl rfl ?_
 simp only [putT, List.set]
 refine wpV_nil (hLk _ (fun w14 Sw14 => ?_))
 clear hLk Lk
 simp only [List.take, List.drop]
 replace M := M.sees Sw14
 refine wpL_assign (v := .slice a13 Xl.length c13) (by rfl) (by rfl) (by rfl) ?_
 simp only [putT, List.set]
 refine wpL_assign (v := .string (bs sa)) (by rfl) (by rfl) (by rfl) ?_
 simp only [putT, List.set]
 refine wpL_assign (v := .bool true) (by rfl) (by rfl) (by rfl) ?_
 simp only [putT, List.set]
 refine wpL_nil (no_panic ?_)
 refine hK10 _ _ ?_
 refine wp_seq_k (fun K15 hK15 => ?_)
 refine wp_region_seq ?_
 refine wpL_move (v := .string (bs lb)) (by rfl) (by rfl) (by rfl) ?_
 simp only [putT, List.set]
 refine wpL_move (v := .int .i64 ((i : Nat) : Int)) (by rfl) (by rfl) (by rfl) ?_
 simp only [putT, List.set]
 refine wpL_move (v := .int .i64 ((n : Nat) : Int)) (by rfl) (by rfl) (by rfl) ?_
 simp only [putT, List.set]
 refine wpL_move (v := .slice aq qs.length cq) (by rfl) (by rfl) (by rfl) ?_
 simp only [putT, List.set]
 refine wpL_callE (f := 86) (args := #[.string (bs lb), .int .i64 ((i : Nat) : Int), .int .i64 ((n : Nat) : Int), .slice aq qs.length cq]) (R := fun v9 W9 => ∃ a18 c18, v9 = .tuple #[.slice a18 Yl.length c18, .string (bs sb), .bool false] ∧ RowA W9 a18 Yl.length c18 (scells Yl)) (by rfl) (by rfl) rfl Tryd.func86 (by kernel_rfl) (by kernel_rfl) (texts_c (ps := qs) (leaf := lb) (i := i) (n := n) (U := Yl) (sm := sb) (dd := false) (by omega) hn hi h4q hlb h32q hWb (M.oldL L0) (M.oldR R0_0 L0) (M.oldA Hq)) (fun v9 w17 hv9 Sw17 => ?_)
 obtain ⟨a18, c18, rfl, H18_0⟩ := hv9
 replace M := M.sees Sw17
 replace Rg7_0 := M.oldR Rg7_0 Lg7
 replace R0_0 := M.oldR R0_0 L0
 replace Lg7 := M.oldL Lg7
 replace L0 := M.oldL L0
 replace Hp := M.oldA Hp
 replace Hq := M.oldA Hq
 replace H13_0 := M.oldA H13_0
 replace BB := BB.trans (M.below.mono BB.size)
 replace M := Mem.start w17
 simp only [putT, List.set]
 refine wpL_move (v := .tuple #[.slice a18 Yl.length c18, .string (bs sb), .bool false]) (by rfl) (by rfl) (by rfl) ?_
 simp only [putT, List.set]
 refine wpL_chunk 3 (by rfl) (fun Lk hLk => ?_)
 simp only [List.take, List.drop]
 refine wpV_extract (v := .slice a18 Yl.length c18) (by rfl) rfl rfl rfl ?_
 simp only [putT, List.set]
 refine wpV_extract (v := .string (bs sb)) (by rfl) rfl rfl rfl ?_
 simp only [putT, List.set]
 refine wpV_extract (v := .bool false) (by rfl) rfl rfl rfl ?_
 simp only [putT, List.set]
 refine wpV_nil (hLk _ (fun w19 Sw19 => ?_))
 clear hLk Lk
 simp only [List.take, List.drop]
 replace M := M.sees Sw19
 refine wpL_assign (v := .slice a18 Yl.length c18) (by rfl) (by rfl) (by rfl) ?_
 simp only [putT, List.set]
 refine wpL_assign (v := .string (bs sb)) (by rfl) (by rfl) (by rfl) ?_
 simp only [putT, List.set]
 refine wpL_assign (v := .bool false) (by rfl) (by rfl) (by rfl) ?_
 simp only [putT, List.set]
 refine wpL_nil (no_panic ?_)
 refine hK15 _ _ ?_
 refine wp_seq_k (fun K20 hK20 => ?_)
 refine wp_seq_k (fun K21 hK21 => ?_)
 refine wp_region_seq ?_
 refine wpL_move (v := .bool true) (by rfl) (by rfl) (by rfl) ?_
 simp only [putT, List.set]
 refine wpL_chunk 15 (by rfl) (fun Lk hLk => ?_)
 simp only [List.take, List.drop]
 refine wpV_not (b := true) (by rfl) rfl rfl ?_
 simp only [Bool.not_true, Bool.not_false]
 simp only [putT, List.set]
 refine wpV_move (v := .bool false) (by rfl) rfl rfl ?_
 simp only [putT, List.set]
 refine wpV_move (v := .bool false) (by rfl) rfl rfl ?_
 simp only [putT, List.set]
 refine wpV_not (b := false) (by rfl) rfl rfl ?_
 simp only [Bool.not_true, Bool.not_false]
 simp only [putT, List.set]
 refine wpV_pick (v := .bool true) (by rfl) rfl rfl rfl ?_
 simp only [putT, List.set]
 refine wpV_move (v := .bool true) (by rfl) rfl rfl ?_
 simp only [putT, List.set]
 refine wpV_skip (by rfl) (by rfl) ?_
 simp only [putT, List.set]
 refine wpV_skip (by rfl) (by rfl) ?_
 simp only [putT, List.set]
 refine wpV_skip (by rfl) (by rfl) ?_
 simp only [putT, List.set]
 refine wpV_pick (v := .bool true) (by rfl) rfl rfl rfl ?_
 simp only [putT, List.set]
 refine wpV_move (v := .bool true) (by rfl) rfl rfl ?_
 simp only [putT, List.set]
 refine wpV_skip (by rfl) (by rfl) ?_
 simp only [putT, List.set]
 refine wpV_skip (by rfl) (by rfl) ?_
 simp only [putT, List.set]
 refine wpV_skip (by rfl) (by rfl) ?_
 simp only [putT, List.set]
 refine wpV_pick (v := .bool true) (by rfl) rfl rfl rfl ?_
 simp only [putT, List.set]
 refine wpV_nil (hLk _ (fun w23 Sw23 => ?_))
 clear hLk Lk
 simp only [List.take, List.drop]
 replace M := M.sees Sw23
 refine wpL_nil (no_panic ?_)
 refine hK21 _ _ ?_
 refine wp_cond_true rfl ?_
 refine wp_seq_k (fun K24 hK24 => ?_)
 refine wp_region_seq ?_
 refine wpL_assign (v := .string (bs ([]))) (by rfl) (by rfl) (by rfl) ?_
 simp only [putT, List.set]
 refine wpL_assign (v := .string (bs ([]))) (by rfl) (by rfl) (by rfl) ?_
 simp only [putT, List.set]
 refine wpL_assign (v := .int .i64 37) (by rfl) (by rfl) (by rfl) ?_
 simp only [putT, List.set]
 refine wpL_nil (no_panic ?_)
 refine hK24 _ _ ?_
 refine wp_ret ?_
 repeat (first | with_reducible refine then_ret ?_ | with_reducible refine inblock_ret ?_)
 refine bodyPost_ret (v := .tuple #[.string (bs ([])), .string (bs ([])), .int .i64 37]) (res3 rfl (.tmp (by rfl)) (.tmp (by rfl)) (.tmp (by rfl))) rfl ?_
 have BE := M.below
 exact ⟨rfl, BB.trans (BE.mono BB.size)⟩
set_option maxRecDepth 100000 in
set_option maxHeartbeats 4000000 in
theorem Clash_none2 {ps : List (List UInt8)} {ap : Option Addr} {np cp : Nat} {qs : List (List UInt8)} {aq : Option Addr} {nq cq : Nat} {la lb : List UInt8} {i n : Nat} {Xl Yl : List (List UInt8)} {sa sb : List UInt8} {w : World} (h4 : ps.length ≤ 4096) (h4q : qs.length ≤ 4096) (hi : i < n) (hn : n ≤ 4096) (ht : all32 [la, lb] = true) (hp : all32 ps = true) (hq2 : all32 qs = true) (hWa : (true, Xl, sa) = walkF clashF ps i (n - 1) ([], la)) (hWb : (true, Yl, sb) = walkF clashF qs i (n - 1) ([], lb)) (hX4 : Xl.length ≤ 4096) (hno : ¬ (sa = sb ∧ la ≠ lb)) (L0 : 0 < w.heap.size) (R0_0 : w.rangeAt 0 0 kcells) (Hp : RowA w ap np cp (scells ps)) (Hq : RowA w aq nq cq (scells qs)) :
  Calls Tryd.prog 65 #[.string (bs la), .string (bs lb), .int .i64 ((i : Nat) : Int), .int .i64 ((n : Nat) : Int), .slice ap np cp, .slice aq nq cq] w fun e w' => e = .returned (.tuple #[.string (bs []), .string (bs []), .int .i64 37]) ∧ Below w.heap.size w w' := by
 obtain rfl : np = ps.length := by have := Hp.len; rwa [scells_len] at this
 obtain rfl : nq = qs.length := by have := Hq.len; rwa [scells_len] at this
 have h32 := all32_mem hp
 have h32q := all32_mem hq2
 have hl2 := all32_mem ht
 have hla : la.length = 32 := hl2 la (.head _)
 have hlb : lb.length = 32 := hl2 lb (.tail _ (.head _))
 go_enter Tryd.func65, Tryd.ntmps65
 have M := Mem.start w
 refine wp_seq_k (fun K1 hK1 => ?_)
 refine wp_region_seq ?_
 refine wpL_assign (v := .string (bs ([]))) (by rfl) (by rfl) (by rfl) ?_
 simp only [putT, List.set]
 refine wpL_assign (v := .string (bs ([]))) (by rfl) (by rfl) (by rfl) ?_
 simp only [putT, List.set]
 refine wpL_assign (v := .int .i64 0) (by rfl) (by rfl) (by rfl) ?_
 simp only [putT, List.set]
 refine wpL_nil (no_panic ?_)
 refine hK1 _ _ ?_
 refine wp_seq_k (fun K3 hK3 => ?_)
 refine wp_seq_k (fun K4 hK4 => ?_)
 refine wp_region_seq ?_
 refine wpL_move (v := .int .i64 ((i : Nat) : Int)) (by rfl) (by rfl) (by rfl) ?_
 simp only [putT, List.set]
 refine wpL_chunk 13 (by rfl) (fun Lk hLk => ?_)
 simp only [List.take, List.drop]
 refine wpV_bin (v := .bool false) (by rfl) rfl rfl rfl (fun W => (run_lssN i 0 _ _ W).trans (by rw [(decide_eq_false (Nat.not_lt_zero i))])) ?_
 simp only [putT, List.set]
 refine wpV_move (v := .bool false) (by rfl) rfl rfl ?_
 simp only [putT, List.set]
 refine wpV_move (v := .int .i64 ((i : Nat) : Int)) (by rfl) rfl rfl ?_
 simp only [putT, List.set]
 refine wpV_move (v := .int .i64 ((n : Nat) : Int)) (by rfl) rfl rfl ?_
 simp only [putT, List.set]
 refine wpV_bin (v := .bool false) (by rfl) rfl rfl rfl (fun W => (run_geqN i n _ _ W).trans (by rw [(decide_eq_false (Nat.not_le.2 hi))])) ?_
 simp only [putT, List.set]
 refine wpV_pick (v := .bool false) (by rfl) rfl rfl rfl ?_
 simp only [putT, List.set]
 refine wpV_move (v := .bool false) (by rfl) rfl rfl ?_
 simp only [putT, List.set]
 refine wpV_move (v := .int .i64 ((n : Nat) : Int)) (by rfl) rfl rfl ?_
 simp only [putT, List.set]
 refine wpV_bin (v := .bool false) (by rfl) rfl rfl rfl (fun W => (run_gtrN n 4096 _ _ W).trans (by rw [(decide_eq_false (Nat.not_lt.2 hn))])) ?_
 simp only [putT, List.set]
 refine wpV_pick (v := .bool false) (by rfl) rfl rfl rfl ?_
 simp only [putT, List.set]
 refine wpV_move (v := .bool false) (by rfl) rfl rfl ?_
 simp only [putT, List.set]
 refine wpV_move (v := .string (bs la)) (by rfl) rfl rfl ?_
 simp only [putT, List.set]
 refine wpV_move (v := .string (bs lb)) (by rfl) rfl rfl ?_
 simp only [putT, List.set]
 refine wpV_nil (hLk _ (fun w6 Sw6 => ?_))
 clear hLk Lk
 simp only [List.take, List.drop]
 replace M := M.sees Sw6
 refine wpL_guard (by rfl) ?_
 refine wpL_rowN (vs := [.string (bs la), .string (bs lb)]) (z := .string { data := #[] }) (bytes := 16) (by rfl) (by rfl) Tryd.underlying48 (by kernel_rfl) (by decide) (by kernel_rfl) (fun g7 w8 Sw8 Hg7 Bg7 => ?_)
 replace M := ((M.sees Sw8).add (N := 2) (cs := [.string (bs la), .string (bs lb)]) (M.ge Hg7) (M.fresh Hg7) Bg7 rfl)
 clear Bg7
 simp only [putT, List.set]
 refine wpL_chunk 13 (by rfl) (fun Lk hLk => ?_)
 simp only [List.take, List.drop]
 refine wpV_callf (v := .bool true) (args := #[.slice (some ⟨g7, 0, none⟩) 2 2]) (by rfl) rfl Tryd.func82 (by kernel_rfl) (by kernel_rfl) rfl (fun W hW => by have h9 : Calls Tryd.prog _ _ W _ := wellp_r (ps := [la, lb]) (show 2 ≤ 4611686018427387904 by decide) (RowA.of ((M.sees hW).r 0 0 rfl rfl) ((M.sees hW).lt 0 rfl) rfl (Nat.le_refl _)); rw [ht] at h9; exact h9) ?_
 simp only [putT, List.set]
 refine wpV_not (b := true) (by rfl) rfl rfl ?_
 simp only [Bool.not_true, Bool.not_false]
 simp only [putT, List.set]
 refine wpV_pick (v := .bool false) (by rfl) rfl rfl rfl ?_
 simp only [putT, List.set]
 refine wpV_move (v := .bool false) (by rfl) rfl rfl ?_
 simp only [putT, List.set]
 refine wpV_move (v := .slice ap ps.length cp) (by rfl) rfl rfl ?_
 simp only [putT, List.set]
 refine wpV_callf (v := .bool true) (args := #[.slice ap ps.length cp]) (by rfl) rfl Tryd.func82 (by kernel_rfl) (by kernel_rfl) rfl (fun W hW => by have h9 : Calls Tryd.prog _ _ W _ := wellp_r (ps := ps) (by omega) ((M.sees hW).oldA Hp); rw [hp] at h9; exact h9) ?_
 simp only [putT, List.set]
 refine wpV_not (b := true) (by rfl) rfl rfl ?_
 simp only [Bool.not_true, Bool.not_false]
 simp only [putT, List.set]
 refine wpV_pick (v := .bool false) (by rfl) rfl rfl rfl ?_
 simp only [putT, List.set]
 refine wpV_move (v := .bool false) (by rfl) rfl rfl ?_
 simp only [putT, List.set]
 refine wpV_move (v := .slice aq qs.length cq) (by rfl) rfl rfl ?_
 simp only [putT, List.set]
 refine wpV_callf (v := .bool true) (args := #[.slice aq qs.length cq]) (by rfl) rfl Tryd.func82 (by kernel_rfl) (by kernel_rfl) rfl (fun W hW => by have h9 : Calls Tryd.prog _ _ W _ := wellp_r (ps := qs) (by omega) ((M.sees hW).oldA Hq); rw [hq2] at h9; exact h9) ?_
 simp only [putT, List.set]
 refine wpV_not (b := true) (by rfl) rfl rfl ?_
 simp only [Bool.not_true, Bool.not_false]
 simp only [putT, List.set]
 refine wpV_pick (v := .bool false) (by rfl) rfl rfl rfl ?_
 simp only [putT, List.set]
 refine wpV_nil (hLk _ (fun w9 Sw9 => ?_))
 clear hLk Lk
 simp only [List.take, List.drop]
 replace M := M.sees Sw9
 refine wpL_nil (no_panic ?_)
 refine hK4 _ _ ?_
 refine wp_cond_false rfl ?_
 refine wp_skip ?_
 refine hK3 _ _ ?_
 refine wp_seq_k (fun K10 hK10 => ?_)
 refine wp_region_seq ?_
 refine wpL_move (v := .string (bs la)) (by rfl) (by rfl) (by rfl) ?_
 simp only [putT, List.set]
 refine wpL_move (v := .int .i64 ((i : Nat) : Int)) (by rfl) (by rfl) (by rfl) ?_
 simp only [putT, List.set]
 refine wpL_move (v := .int .i64 ((n : Nat) : Int)) (by rfl) (by rfl) (by rfl) ?_
 simp only [putT, List.set]
 refine wpL_move (v := .slice ap ps.length cp) (by rfl) (by rfl) (by rfl) ?_
 simp only [putT, List.set]
 refine wpL_callE (f := 86) (args := #[.string (bs la), .int .i64 ((i : Nat) : Int), .int .i64 ((n : Nat) : Int), .slice ap ps.length cp]) (R := fun v9 W9 => ∃ a13 c13, v9 = .tuple #[.slice a13 Xl.length c13, .string (bs sa), .bool true] ∧ RowA W9 a13 Xl.length c13 (scells Xl)) (by rfl) (by rfl) rfl Tryd.func86 (by kernel_rfl) (by kernel_rfl) (texts_c (ps := ps) (leaf := la) (i := i) (n := n) (U := Xl) (sm := sa) (dd := true) (by omega) hn hi h4 hla h32 hWa (M.oldL L0) (M.oldR R0_0 L0) (M.oldA Hp)) (fun v9 w12 hv9 Sw12 => ?_)
 obtain ⟨a13, c13, rfl, H13_0⟩ := hv9
 replace M := M.sees Sw12
 replace R0_0 := M.oldR R0_0 L0
 replace L0 := M.oldL L0
 have Rg7_0 := M.r 0 0 rfl rfl
 have Lg7 := M.lt 0 rfl
 replace Hp := M.oldA Hp
 replace Hq := M.oldA Hq
 have BB := M.below
 replace M := Mem.start w12
 simp only [putT, List.set]
 refine wpL_move (v := .tuple #[.slice a13 Xl.length c13, .string (bs sa), .bool true]) (by rfl) (by rfl) (by rfl) ?_
 simp only [putT, List.set]
 refine wpL_chunk 3 (by rfl) (fun Lk hLk => ?_)
 simp only [List.take, List.drop]
 refine wpV_extract (v := .slice a13 Xl.length c13) (by rfl) rfl rfl rfl ?_
 simp only [putT, List.set]
 refine wpV_extract (v := .string (bs sa)) (by rfl) rfl rfl rfl ?_
 simp only [putT, List.set]
 refine wpV_extract (v := .bool true) (by rfl) rfl rfl rfl ?_
 simp only [putT, List.set]
 refine wpV_nil (hLk _ (fun w14 Sw14 => ?_))
 clear hLk Lk
 simp only [List.take, List.drop]
 replace M := M.sees Sw14
 refine wpL_assign (v := .slice a13 Xl.length c13) (by rfl) (by rfl) (by rfl) ?_
 simp only [putT, List.set]
 refine wpL_assign (v := .string (bs sa)) (by rfl) (by rfl) (by rfl) ?_
 simp only [putT, List.set]
 refine wpL_assign (v := .bool true) (by rfl) (by rfl) (by rfl) ?_
 simp only [putT, List.set]
 refine wpL_nil (no_panic ?_)
 refine hK10 _ _ ?_
 refine wp_seq_k (fun K15 hK15 => ?_)
 refine wp_region_seq ?_
 refine wpL_move (v := .string (bs lb)) (by rfl) (by rfl) (by rfl) ?_
 simp only [putT, List.set]
 refine wpL_move (v := .int .i64 ((i : Nat) : Int)) (by rfl) (by rfl) (by rfl) ?_
 simp only [putT, List.set]
 refine wpL_move (v := .int .i64 ((n : Nat) : Int)) (by rfl) (by rfl) (by rfl) ?_
 simp only [putT, List.set]
 refine wpL_move (v := .slice aq qs.length cq) (by rfl) (by rfl) (by rfl) ?_
 simp only [putT, List.set]
 refine wpL_callE (f := 86) (args := #[.string (bs lb), .int .i64 ((i : Nat) : Int), .int .i64 ((n : Nat) : Int), .slice aq qs.length cq]) (R := fun v9 W9 => ∃ a18 c18, v9 = .tuple #[.slice a18 Yl.length c18, .string (bs sb), .bool true] ∧ RowA W9 a18 Yl.length c18 (scells Yl)) (by rfl) (by rfl) rfl Tryd.func86 (by kernel_rfl) (by kernel_rfl) (texts_c (ps := qs) (leaf := lb) (i := i) (n := n) (U := Yl) (sm := sb) (dd := true) (by omega) hn hi h4q hlb h32q hWb (M.oldL L0) (M.oldR R0_0 L0) (M.oldA Hq)) (fun v9 w17 hv9 Sw17 => ?_)
 obtain ⟨a18, c18, rfl, H18_0⟩ := hv9
 replace M := M.sees Sw17
 replace Rg7_0 := M.oldR Rg7_0 Lg7
 replace R0_0 := M.oldR R0_0 L0
 replace Lg7 := M.oldL Lg7
 replace L0 := M.oldL L0
 replace Hp := M.oldA Hp
 replace Hq := M.oldA Hq
 replace H13_0 := M.oldA H13_0
 replace BB := BB.trans (M.below.mono BB.size)
 replace M := Mem.start w17
 simp only [putT, List.set]
 refine wpL_move (v := .tuple #[.slice a18 Yl.length c18, .string (bs sb), .bool true]) (by rfl) (by rfl) (by rfl) ?_
 simp only [putT, List.set]
 refine wpL_chunk 3 (by rfl) (fun Lk hLk => ?_)
 simp only [List.take, List.drop]
 refine wpV_extract (v := .slice a18 Yl.length c18) (by rfl) rfl rfl rfl ?_
 simp only [putT, List.set]
 refine wpV_extract (v := .string (bs sb)) (by rfl) rfl rfl rfl ?_
 simp only [putT, List.set]
 refine wpV_extract (v := .bool true) (by rfl) rfl rfl rfl ?_
 simp only [putT, List.set]
 refine wpV_nil (hLk _ (fun w19 Sw19 => ?_))
 clear hLk Lk
 simp only [List.take, List.drop]
 replace M := M.sees Sw19
 refine wpL_assign (v := .slice a18 Yl.length c18) (by rfl) (by rfl) (by rfl) ?_
 simp only [putT, List.set]
 refine wpL_assign (v := .string (bs sb)) (by rfl) (by rfl) (by rfl) ?_
 simp only [putT, List.set]
 refine wpL_assign (v := .bool true) (by rfl) (by rfl) (by rfl) ?_
 simp only [putT, List.set]
 refine wpL_nil (no_panic ?_)
 refine hK15 _ _ ?_
 refine wp_seq_k (fun K20 hK20 => ?_)
 refine wp_seq_k (fun K21 hK21 => ?_)
 cases hg22 : (decide (sa ≠ sb))
 ·
  have hss : ¬ sa ≠ sb := of_decide_eq_false hg22
  refine wp_region_seq ?_
  refine wpL_move (v := .bool true) (by rfl) (by rfl) (by rfl) ?_
  simp only [putT, List.set]
  refine wpL_chunk 15 (by rfl) (fun Lk hLk => ?_)
  simp only [List.take, List.drop]
  refine wpV_not (b := true) (by rfl) rfl rfl ?_
  simp only [Bool.not_true, Bool.not_false]
  simp only [putT, List.set]
  refine wpV_move (v := .bool false) (by rfl) rfl rfl ?_
  simp only [putT, List.set]
  refine wpV_move (v := .bool true) (by rfl) rfl rfl ?_
  simp only [putT, List.set]
  refine wpV_not (b := true) (by rfl) rfl rfl ?_
  simp only [Bool.not_true, Bool.not_false]
  simp only [putT, List.set]
  refine wpV_pick (v := .bool false) (by rfl) rfl rfl rfl ?_
  simp only [putT, List.set]
  refine wpV_move (v := .bool false) (by rfl) rfl rfl ?_
  simp only [putT, List.set]
  refine wpV_move (v := .string (bs sa)) (by rfl) rfl rfl ?_
  simp only [putT, List.set]
  refine wpV_move (v := .string (bs sb)) (by rfl) rfl rfl ?_
  simp only [putT, List.set]
  refine wpV_binS (v := .bool false) (by rfl) rfl rfl rfl (fun W => (run_neq_bs _ _ _ W).trans (by rw [hg22])) ?_
  simp only [putT, List.set]
  refine wpV_pick (v := .bool false) (by rfl) rfl rfl rfl ?_
  simp only [putT, List.set]
  refine wpV_move (v := .bool false) (by rfl) rfl rfl ?_
  simp only [putT, List.set]
  refine wpV_move (v := .string (bs la)) (by rfl) rfl rfl ?_
  simp only [putT, List.set]
  refine wpV_move (v := .string (bs lb)) (by rfl) rfl rfl ?_
  simp only [putT, List.set]
  refine wpV_binS (v := .bool (decide (la = lb))) (by rfl) rfl rfl rfl (run_eql_bs _ _ _) ?_
  simp only [putT, List.set]
  refine wpV_pick (v := .bool (decide (la = lb))) (by rfl) rfl rfl rfl ?_
  simp only [putT, List.set]
  refine wpV_nil (hLk _ (fun w24 Sw24 => ?_))
  clear hLk Lk
  simp only [List.take, List.drop]
  replace M := M.sees Sw24
  refine wpL_nil (no_panic ?_)
  refine hK21 _ _ ?_
  cases hc25 : (decide (la = lb))
  ·
   exact absurd ⟨Decidable.not_not.1 hss, of_decide_eq_false hc25⟩ hno
  ·
   refine wp_cond_true rfl ?_
   refine wp_seq_k (fun K26 hK26 => ?_)
   refine wp_region_seq ?_
   refine wpL_assign (v := .string (bs ([]))) (by rfl) (by rfl) (by rfl) ?_
   simp only [putT, List.set]
   refine wpL_assign (v := .string (bs ([]))) (by rfl) (by rfl) (by rfl) ?_
   simp only [putT, List.set]
   refine wpL_assign (v := .int .i64 37) (by rfl) (by rfl) (by rfl) ?_
   simp only [putT, List.set]
   refine wpL_nil (no_panic ?_)
   refine hK26 _ _ ?_
   refine wp_ret ?_
   repeat (first | with_reducible refine then_ret ?_ | with_reducible refine inblock_ret ?_)
   refine bodyPost_ret (v := .tuple #[.string (bs ([])), .string (bs ([])), .int .i64 37]) (res3 rfl (.tmp (by rfl)) (.tmp (by rfl)) (.tmp (by rfl))) rfl ?_
   have BE := M.below
   exact ⟨rfl, BB.trans (BE.mono BB.size)⟩
 ·
  have hss : sa ≠ sb := of_decide_eq_true hg22
  refine wp_region_seq ?_
  refine wpL_move (v := .bool true) (by rfl) (by rfl) (by rfl) ?_
  simp only [putT, List.set]
  refine wpL_chunk 15 (by rfl) (fun Lk hLk => ?_)
  simp only [List.take, List.drop]
  refine wpV_not (b := true) (by rfl) rfl rfl ?_
  simp only [Bool.not_true, Bool.not_false]
  simp only [putT, List.set]
  refine wpV_move (v := .bool false) (by rfl) rfl rfl ?_
  simp only [putT, List.set]
  refine wpV_move (v := .bool true) (by rfl) rfl rfl ?_
  simp only [putT, List.set]
  refine wpV_not (b := true) (by rfl) rfl rfl ?_
  simp only [Bool.not_true, Bool.not_false]
  simp only [putT, List.set]
  refine wpV_pick (v := .bool false) (by rfl) rfl rfl rfl ?_
  simp only [putT, List.set]
  refine wpV_move (v := .bool false) (by rfl) rfl rfl ?_
  simp only [putT, List.set]
  refine wpV_move (v := .string (bs sa)) (by rfl) rfl rfl ?_
  simp only [putT, List.set]
  refine wpV_move (v := .string (bs sb)) (by rfl) rfl rfl ?_
  simp only [putT, List.set]
  refine wpV_binS (v := .bool true) (by rfl) rfl rfl rfl (fun W => (run_neq_bs _ _ _ W).trans (by rw [hg22])) ?_
  simp only [putT, List.set]
  refine wpV_pick (v := .bool true) (by rfl) rfl rfl rfl ?_
  simp only [putT, List.set]
  refine wpV_move (v := .bool true) (by rfl) rfl rfl ?_
  simp only [putT, List.set]
  refine wpV_skip (by rfl) (by rfl) ?_
  simp only [putT, List.set]
  refine wpV_skip (by rfl) (by rfl) ?_
  simp only [putT, List.set]
  refine wpV_skip (by rfl) (by rfl) ?_
  simp only [putT, List.set]
  refine wpV_pick (v := .bool true) (by rfl) rfl rfl rfl ?_
  simp only [putT, List.set]
  refine wpV_nil (hLk _ (fun w29 Sw29 => ?_))
  clear hLk Lk
  simp only [List.take, List.drop]
  replace M := M.sees Sw29
  refine wpL_nil (no_panic ?_)
  refine hK21 _ _ ?_
  refine wp_cond_true rfl ?_
  refine wp_seq_k (fun K30 hK30 => ?_)
  refine wp_region_seq ?_
  refine wpL_assign (v := .string (bs ([]))) (by rfl) (by rfl) (by rfl) ?_
  simp only [putT, List.set]
  refine wpL_assign (v := .string (bs ([]))) (by rfl) (by rfl) (by rfl) ?_
  simp only [putT, List.set]
  refine wpL_assign (v := .int .i64 37) (by rfl) (by rfl) (by rfl) ?_
  simp only [putT, List.set]
  refine wpL_nil (no_panic ?_)
  refine hK30 _ _ ?_
  refine wp_ret ?_
  repeat (first | with_reducible refine then_ret ?_ | with_reducible refine inblock_ret ?_)
  refine bodyPost_ret (v := .tuple #[.string (bs ([])), .string (bs ([])), .int .i64 37]) (res3 rfl (.tmp (by rfl)) (.tmp (by rfl)) (.tmp (by rfl))) rfl ?_
  have BE := M.below
  exact ⟨rfl, BB.trans (BE.mono BB.size)⟩
set_option maxRecDepth 100000 in
set_option maxHeartbeats 4000000 in
theorem Clash_found {ps : List (List UInt8)} {ap : Option Addr} {np cp : Nat} {qs : List (List UInt8)} {aq : Option Addr} {nq cq : Nat} {la lb : List UInt8} {i n : Nat} {Xl Yl : List (List UInt8)} {sa sb : List UInt8} {fx fy : List UInt8} {w : World} (h4 : ps.length ≤ 4096) (h4q : qs.length ≤ 4096) (hi : i < n) (hn : n ≤ 4096) (ht : all32 [la, lb] = true) (hp : all32 ps = true) (hq2 : all32 qs = true) (hWa : (true, Xl, sa) = walkF clashF ps i (n - 1) ([], la)) (hWb : (true, Yl, sb) = walkF clashF qs i (n - 1) ([], lb)) (hX4 : Xl.length ≤ 4096) (hxy : Yl.length = Xl.length) (hss : sa = sb) (hne : la ≠ lb) (hc : clashT Xl.reverse Yl.reverse = some (fx, fy)) (L0 : 0 < w.heap.size) (R0_0 : w.rangeAt 0 0 kcells) (Hp : RowA w ap np cp (scells ps)) (Hq : RowA w aq nq cq (scells qs)) :
  Calls Tryd.prog 65 #[.string (bs la), .string (bs lb), .int .i64 ((i : Nat) : Int), .int .i64 ((n : Nat) : Int), .slice ap np cp, .slice aq nq cq] w fun e w' => e = .returned (.tuple #[.string (bs fx), .string (bs fy), .int .i64 0]) ∧ Below w.heap.size w w' := by
 obtain rfl : np = ps.length := by have := Hp.len; rwa [scells_len] at this
 obtain rfl : nq = qs.length := by have := Hq.len; rwa [scells_len] at this
 have h32 := all32_mem hp
 have h32q := all32_mem hq2
 have hl2 := all32_mem ht
 have hla : la.length = 32 := hl2 la (.head _)
 have hlb : lb.length = 32 := hl2 lb (.tail _ (.head _))
 go_enter Tryd.func65, Tryd.ntmps65
 have M := Mem.start w
 refine wp_seq_k (fun K1 hK1 => ?_)
 refine wp_region_seq ?_
 refine wpL_assign (v := .string (bs ([]))) (by rfl) (by rfl) (by rfl) ?_
 simp only [putT, List.set]
 refine wpL_assign (v := .string (bs ([]))) (by rfl) (by rfl) (by rfl) ?_
 simp only [putT, List.set]
 refine wpL_assign (v := .int .i64 0) (by rfl) (by rfl) (by rfl) ?_
 simp only [putT, List.set]
 refine wpL_nil (no_panic ?_)
 refine hK1 _ _ ?_
 refine wp_seq_k (fun K3 hK3 => ?_)
 refine wp_seq_k (fun K4 hK4 => ?_)
 refine wp_region_seq ?_
 refine wpL_move (v := .int .i64 ((i : Nat) : Int)) (by rfl) (by rfl) (by rfl) ?_
 simp only [putT, List.set]
 refine wpL_chunk 13 (by rfl) (fun Lk hLk => ?_)
 simp only [List.take, List.drop]
 refine wpV_bin (v := .bool false) (by rfl) rfl rfl rfl (fun W => (run_lssN i 0 _ _ W).trans (by rw [(decide_eq_false (Nat.not_lt_zero i))])) ?_
 simp only [putT, List.set]
 refine wpV_move (v := .bool false) (by rfl) rfl rfl ?_
 simp only [putT, List.set]
 refine wpV_move (v := .int .i64 ((i : Nat) : Int)) (by rfl) rfl rfl ?_
 simp only [putT, List.set]
 refine wpV_move (v := .int .i64 ((n : Nat) : Int)) (by rfl) rfl rfl ?_
 simp only [putT, List.set]
 refine wpV_bin (v := .bool false) (by rfl) rfl rfl rfl (fun W => (run_geqN i n _ _ W).trans (by rw [(decide_eq_false (Nat.not_le.2 hi))])) ?_
 simp only [putT, List.set]
 refine wpV_pick (v := .bool false) (by rfl) rfl rfl rfl ?_
 simp only [putT, List.set]
 refine wpV_move (v := .bool false) (by rfl) rfl rfl ?_
 simp only [putT, List.set]
 refine wpV_move (v := .int .i64 ((n : Nat) : Int)) (by rfl) rfl rfl ?_
 simp only [putT, List.set]
 refine wpV_bin (v := .bool false) (by rfl) rfl rfl rfl (fun W => (run_gtrN n 4096 _ _ W).trans (by rw [(decide_eq_false (Nat.not_lt.2 hn))])) ?_
 simp only [putT, List.set]
 refine wpV_pick (v := .bool false) (by rfl) rfl rfl rfl ?_
 simp only [putT, List.set]
 refine wpV_move (v := .bool false) (by rfl) rfl rfl ?_
 simp only [putT, List.set]
 refine wpV_move (v := .string (bs la)) (by rfl) rfl rfl ?_
 simp only [putT, List.set]
 refine wpV_move (v := .string (bs lb)) (by rfl) rfl rfl ?_
 simp only [putT, List.set]
 refine wpV_nil (hLk _ (fun w6 Sw6 => ?_))
 clear hLk Lk
 simp only [List.take, List.drop]
 replace M := M.sees Sw6
 refine wpL_guard (by rfl) ?_
 refine wpL_rowN (vs := [.string (bs la), .string (bs lb)]) (z := .string { data := #[] }) (bytes := 16) (by rfl) (by rfl) Tryd.underlying48 (by kernel_rfl) (by decide) (by kernel_rfl) (fun g7 w8 Sw8 Hg7 Bg7 => ?_)
 replace M := ((M.sees Sw8).add (N := 2) (cs := [.string (bs la), .string (bs lb)]) (M.ge Hg7) (M.fresh Hg7) Bg7 rfl)
 clear Bg7
 simp only [putT, List.set]
 refine wpL_chunk 13 (by rfl) (fun Lk hLk => ?_)
 simp only [List.take, List.drop]
 refine wpV_callf (v := .bool true) (args := #[.slice (some ⟨g7, 0, none⟩) 2 2]) (by rfl) rfl Tryd.func82 (by kernel_rfl) (by kernel_rfl) rfl (fun W hW => by have h9 : Calls Tryd.prog _ _ W _ := wellp_r (ps := [la, lb]) (show 2 ≤ 4611686018427387904 by decide) (RowA.of ((M.sees hW).r 0 0 rfl rfl) ((M.sees hW).lt 0 rfl) rfl (Nat.le_refl _)); rw [ht] at h9; exact h9) ?_
 simp only [putT, List.set]
 refine wpV_not (b := true) (by rfl) rfl rfl ?_
 simp only [Bool.not_true, Bool.not_false]
 simp only [putT, List.set]
 refine wpV_pick (v := .bool false) (by rfl) rfl rfl rfl ?_
 simp only [putT, List.set]
 refine wpV_move (v := .bool false) (by rfl) rfl rfl ?_
 simp only [putT, List.set]
 refine wpV_move (v := .slice ap ps.length cp) (by rfl) rfl rfl ?_
 simp only [putT, List.set]
 refine wpV_callf (v := .bool true) (args := #[.slice ap ps.length cp]) (by rfl) rfl Tryd.func82 (by kernel_rfl) (by kernel_rfl) rfl (fun W hW => by have h9 : Calls Tryd.prog _ _ W _ := wellp_r (ps := ps) (by omega) ((M.sees hW).oldA Hp); rw [hp] at h9; exact h9) ?_
 simp only [putT, List.set]
 refine wpV_not (b := true) (by rfl) rfl rfl ?_
 simp only [Bool.not_true, Bool.not_false]
 simp only [putT, List.set]
 refine wpV_pick (v := .bool false) (by rfl) rfl rfl rfl ?_
 simp only [putT, List.set]
 refine wpV_move (v := .bool false) (by rfl) rfl rfl ?_
 simp only [putT, List.set]
 refine wpV_move (v := .slice aq qs.length cq) (by rfl) rfl rfl ?_
 simp only [putT, List.set]
 refine wpV_callf (v := .bool true) (args := #[.slice aq qs.length cq]) (by rfl) rfl Tryd.func82 (by kernel_rfl) (by kernel_rfl) rfl (fun W hW => by have h9 : Calls Tryd.prog _ _ W _ := wellp_r (ps := qs) (by omega) ((M.sees hW).oldA Hq); rw [hq2] at h9; exact h9) ?_
 simp only [putT, List.set]
 refine wpV_not (b := true) (by rfl) rfl rfl ?_
 simp only [Bool.not_true, Bool.not_false]
 simp only [putT, List.set]
 refine wpV_pick (v := .bool false) (by rfl) rfl rfl rfl ?_
 simp only [putT, List.set]
 refine wpV_nil (hLk _ (fun w9 Sw9 => ?_))
 clear hLk Lk
 simp only [List.take, List.drop]
 replace M := M.sees Sw9
 refine wpL_nil (no_panic ?_)
 refine hK4 _ _ ?_
 refine wp_cond_false rfl ?_
 refine wp_skip ?_
 refine hK3 _ _ ?_
 refine wp_seq_k (fun K10 hK10 => ?_)
 refine wp_region_seq ?_
 refine wpL_move (v := .string (bs la)) (by rfl) (by rfl) (by rfl) ?_
 simp only [putT, List.set]
 refine wpL_move (v := .int .i64 ((i : Nat) : Int)) (by rfl) (by rfl) (by rfl) ?_
 simp only [putT, List.set]
 refine wpL_move (v := .int .i64 ((n : Nat) : Int)) (by rfl) (by rfl) (by rfl) ?_
 simp only [putT, List.set]
 refine wpL_move (v := .slice ap ps.length cp) (by rfl) (by rfl) (by rfl) ?_
 simp only [putT, List.set]
 refine wpL_callE (f := 86) (args := #[.string (bs la), .int .i64 ((i : Nat) : Int), .int .i64 ((n : Nat) : Int), .slice ap ps.length cp]) (R := fun v9 W9 => ∃ a13 c13, v9 = .tuple #[.slice a13 Xl.length c13, .string (bs sa), .bool true] ∧ RowA W9 a13 Xl.length c13 (scells Xl)) (by rfl) (by rfl) rfl Tryd.func86 (by kernel_rfl) (by kernel_rfl) (texts_c (ps := ps) (leaf := la) (i := i) (n := n) (U := Xl) (sm := sa) (dd := true) (by omega) hn hi h4 hla h32 hWa (M.oldL L0) (M.oldR R0_0 L0) (M.oldA Hp)) (fun v9 w12 hv9 Sw12 => ?_)
 obtain ⟨a13, c13, rfl, H13_0⟩ := hv9
 replace M := M.sees Sw12
 replace R0_0 := M.oldR R0_0 L0
 replace L0 := M.oldL L0
 have Rg7_0 := M.r 0 0 rfl rfl
 have Lg7 := M.lt 0 rfl
 replace Hp := M.oldA Hp
 replace Hq := M.oldA Hq
 have BB := M.below
 replace M := Mem.start w12
 simp only [putT, List.set]
 refine wpL_move (v := .tuple #[.slice a13 Xl.length c13, .string (bs sa), .bool true]) (by rfl) (by rfl) (by rfl) ?_
 simp only [putT, List.set]
 refine wpL_chunk 3 (by rfl) (fun Lk hLk => ?_)
 simp only [List.take, List.drop]
 refine wpV_extract (v := .slice a13 Xl.length c13) (by rfl) rfl rfl rfl ?_
 simp only [putT, List.set]
 refine wpV_extract (v := .string (bs sa)) (by rfl) rfl rfl rfl ?_
 simp only [putT, List.set]
 refine wpV_extract (v := .bool true) (by rfl) rfl rfl rfl ?_
 simp only [putT, List.set]
 refine wpV_nil (hLk _ (fun w14 Sw14 => ?_))
 clear hLk Lk
 simp only [List.take, List.drop]
 replace M := M.sees Sw14
 refine wpL_assign (v := .slice a13 Xl.length c13) (by rfl) (by rfl) (by rfl) ?_
 simp only [putT, List.set]
 refine wpL_assign (v := .string (bs sa)) (by rfl) (by rfl) (by rfl) ?_
 simp only [putT, List.set]
 refine wpL_assign (v := .bool true) (by rfl) (by rfl) (by rfl) ?_
 simp only [putT, List.set]
 refine wpL_nil (no_panic ?_)
 refine hK10 _ _ ?_
 refine wp_seq_k (fun K15 hK15 => ?_)
 refine wp_region_seq ?_
 refine wpL_move (v := .string (bs lb)) (by rfl) (by rfl) (by rfl) ?_
 simp only [putT, List.set]
 refine wpL_move (v := .int .i64 ((i : Nat) : Int)) (by rfl) (by rfl) (by rfl) ?_
 simp only [putT, List.set]
 refine wpL_move (v := .int .i64 ((n : Nat) : Int)) (by rfl) (by rfl) (by rfl) ?_
 simp only [putT, List.set]
 refine wpL_move (v := .slice aq qs.length cq) (by rfl) (by rfl) (by rfl) ?_
 simp only [putT, List.set]
 refine wpL_callE (f := 86) (args := #[.string (bs lb), .int .i64 ((i : Nat) : Int), .int .i64 ((n : Nat) : Int), .slice aq qs.length cq]) (R := fun v9 W9 => ∃ a18 c18, v9 = .tuple #[.slice a18 Yl.length c18, .string (bs sb), .bool true] ∧ RowA W9 a18 Yl.length c18 (scells Yl)) (by rfl) (by rfl) rfl Tryd.func86 (by kernel_rfl) (by kernel_rfl) (texts_c (ps := qs) (leaf := lb) (i := i) (n := n) (U := Yl) (sm := sb) (dd := true) (by omega) hn hi h4q hlb h32q hWb (M.oldL L0) (M.oldR R0_0 L0) (M.oldA Hq)) (fun v9 w17 hv9 Sw17 => ?_)
 obtain ⟨a18, c18, rfl, H18_0⟩ := hv9
 replace M := M.sees Sw17
 replace Rg7_0 := M.oldR Rg7_0 Lg7
 replace R0_0 := M.oldR R0_0 L0
 replace Lg7 := M.oldL Lg7
 replace L0 := M.oldL L0
 replace Hp := M.oldA Hp
 replace Hq := M.oldA Hq
 replace H13_0 := M.oldA H13_0
 replace BB := BB.trans (M.below.mono BB.size)
 replace M := Mem.start w17
 simp only [putT, List.set]
 refine wpL_move (v := .tuple #[.slice a18 Yl.length c18, .string (bs sb), .bool true]) (by rfl) (by rfl) (by rfl) ?_
 simp only [putT, List.set]
 refine wpL_chunk 3 (by rfl) (fun Lk hLk => ?_)
 simp only [List.take, List.drop]
 refine wpV_extract (v := .slice a18 Yl.length c18) (by rfl) rfl rfl rfl ?_
 simp only [putT, List.set]
 refine wpV_extract (v := .string (bs sb)) (by rfl) rfl rfl rfl ?_
 simp only [putT, List.set]
 refine wpV_extract (v := .bool true) (by rfl) rfl rfl rfl ?_
 simp only [putT, List.set]
 refine wpV_nil (hLk _ (fun w19 Sw19 => ?_))
 clear hLk Lk
 simp only [List.take, List.drop]
 replace M := M.sees Sw19
 refine wpL_assign (v := .slice a18 Yl.length c18) (by rfl) (by rfl) (by rfl) ?_
 simp only [putT, List.set]
 refine wpL_assign (v := .string (bs sb)) (by rfl) (by rfl) (by rfl) ?_
 simp only [putT, List.set]
 refine wpL_assign (v := .bool true) (by rfl) (by rfl) (by rfl) ?_
 simp only [putT, List.set]
 refine wpL_nil (no_panic ?_)
 refine hK15 _ _ ?_
 refine wp_seq_k (fun K20 hK20 => ?_)
 refine wp_seq_k (fun K21 hK21 => ?_)
 refine wp_region_seq ?_
 refine wpL_move (v := .bool true) (by rfl) (by rfl) (by rfl) ?_
 simp only [putT, List.set]
 refine wpL_chunk 15 (by rfl) (fun Lk hLk => ?_)
 simp only [List.take, List.drop]
 refine wpV_not (b := true) (by rfl) rfl rfl ?_
 simp only [Bool.not_true, Bool.not_false]
 simp only [putT, List.set]
 refine wpV_move (v := .bool false) (by rfl) rfl rfl ?_
 simp only [putT, List.set]
 refine wpV_move (v := .bool true) (by rfl) rfl rfl ?_
 simp only [putT, List.set]
 refine wpV_not (b := true) (by rfl) rfl rfl ?_
 simp only [Bool.not_true, Bool.not_false]
 simp only [putT, List.set]
 refine wpV_pick (v := .bool false) (by rfl) rfl rfl rfl ?_
 simp only [putT, List.set]
 refine wpV_move (v := .bool false) (by rfl) rfl rfl ?_
 simp only [putT, List.set]
 refine wpV_move (v := .string (bs sa)) (by rfl) rfl rfl ?_
 simp only [putT, List.set]
 refine wpV_move (v := .string (bs sb)) (by rfl) rfl rfl ?_
 simp only [putT, List.set]
 refine wpV_binS (v := .bool false) (by rfl) rfl rfl rfl (fun W => (run_neq_bs _ _ _ W).trans (by rw [(decide_eq_false (fun e9 => e9 hss))])) ?_
 simp only [putT, List.set]
 refine wpV_pick (v := .bool false) (by rfl) rfl rfl rfl ?_
 simp only [putT, List.set]
 refine wpV_move (v := .bool false) (by rfl) rfl rfl ?_
 simp only [putT, List.set]
 refine wpV_move (v := .string (bs la)) (by rfl) rfl rfl ?_
 simp only [putT, List.set]
 refine wpV_move (v := .string (bs lb)) (by rfl) rfl rfl ?_
 simp only [putT, List.set]
 refine wpV_binS (v := .bool false) (by rfl) rfl rfl rfl (fun W => (run_eql_bs _ _ _ W).trans (by rw [(decide_eq_false hne)])) ?_
 simp only [putT, List.set]
 refine wpV_pick (v := .bool false) (by rfl) rfl rfl rfl ?_
 simp only [putT, List.set]
 refine wpV_nil (hLk _ (fun w23 Sw23 => ?_))
 clear hLk Lk
 simp only [List.take, List.drop]
 replace M := M.sees Sw23
 refine wpL_nil (no_panic ?_)
 refine hK21 _ _ ?_
 refine wp_cond_false rfl ?_
 refine wp_skip ?_
 refine hK20 _ _ ?_
 refine wp_seq_k (fun K24 hK24 => ?_)
 refine wp_seq_k (fun K25 hK25 => ?_)
 refine wp_region_seq ?_
 refine wpL_move (v := .slice a13 Xl.length c13) (by rfl) (by rfl) (by rfl) ?_
 simp only [putT, List.set]
 refine wpL_chunk 1 (by rfl) (fun Lk hLk => ?_)
 simp only [List.take, List.drop]
 refine wpV_lenA (n := Xl.length) (by rfl) rfl rfl rfl Tryd.underlying48 ?_
 simp only [putT, List.set]
 refine wpV_nil (hLk _ (fun w27 Sw27 => ?_))
 clear hLk Lk
 simp only [List.take, List.drop]
 replace M := M.sees Sw27
 refine wpL_move (v := .int .i64 0) (by rfl) (by rfl) (by rfl) ?_
 simp only [putT, List.set]
 refine wpL_nil (no_panic ?_)
 refine hK25 _ _ ?_
 refine wp_block ?_
 refine wp_loop_ghost (fun n9 a9 W9 => ∃ (k : Nat) (u28 : Nat → Value), n9 = 2 * (Xl.length - k) ∧ a9 = { tmps := #[.string (bs la), .string (bs lb), .int .i64 ((i : Nat) : Int), .int .i64 ((n : Nat) : Int), .slice ap ps.length cp, .slice aq qs.length cq, undef, undef, undef, undef, undef, undef, u28 12, u28 13, u28 14, .slice a13 Xl.length c13, .string (bs sa), .bool true, .slice a18 Yl.length c18, .string (bs sb), .bool true, u28 21, u28 22, .int .i64 ((i : Nat) : Int), .bool false, .bool false, .int .i64 ((i : Nat) : Int), .int .i64 ((n : Nat) : Int), .bool false, .bool false, .bool false, .int .i64 ((n : Nat) : Int), .bool false, .bool false, .bool false, .string (bs la), .string (bs lb), .slice (some ⟨g7, 0, none⟩) 2 2, .bool true, .bool false, .bool false, .bool false, .slice ap ps.length cp, .bool true, .bool false, .bool false, .bool false, .slice aq qs.length cq, .bool true, .bool false, .bool false, .tuple #[.slice a13 Xl.length c13, .string (bs sa), .bool true], .string (bs la), .int .i64 ((i : Nat) : Int), .int .i64 ((n : Nat) : Int), .slice ap ps.length cp, .tuple #[.slice a13 Xl.length c13, .string (bs sa), .bool true], .slice a13 Xl.length c13, .string (bs sa), .bool true, .tuple #[.slice a18 Yl.length c18, .string (bs sb), .bool true], .string (bs lb), .int .i64 ((i : Nat) : Int), .int .i64 ((n : Nat) : Int), .slice aq qs.length cq, .tuple #[.slice a18 Yl.length c18, .string (bs sb), .bool true], .slice a18 Yl.length c18, .string (bs sb), .bool true, .bool true, .bool false, .bool false, .bool true, .bool false, .bool false, .bool false, .string (bs sa), .string (bs sb), .bool false, .bool false, .bool false, .string (bs la), .string (bs lb), .bool false, .bool false, .slice a13 Xl.length c13, .int .i64 ((Xl.length : Nat) : Int), .int .i64 ((k : Nat) : Int), u28 88, u28 89, u28 90, u28 91, u28 92, u28 93, u28 94, u28 95, u28 96, u28 97, u28 98, u28 99, u28 100, u28 101, u28 102, u28 103, u28 104, u28 105, u28 106, u28 107, u28 108, u28 109, u28 110, u28 111, u28 112], defers := [] } ∧ Mem [] w17 W9 [] ∧ (k ≤ Xl.length) ∧ (clashT (Xl.reverse.drop k) (Yl.reverse.drop k) = some (fx, fy))) (2 * (Xl.length - (0))) ?_ (fun n9 a9 W9 hI => ?_)
 ·
  exact ⟨0, (fun q9 => (#[undef, undef, undef, undef, undef, undef, undef, undef, undef, undef, undef, undef, .string (bs ([])), .string (bs ([])), .int .i64 0, undef, undef, undef, undef, undef, undef, undef, undef, undef, undef, undef, undef, undef, undef, undef, undef, undef, undef, undef, undef, undef, undef, undef, undef, undef, undef, undef, undef, undef, undef, undef, undef, undef, undef, undef, undef, undef, undef, undef, undef, undef, undef, undef, undef, undef, undef, undef, undef, undef, undef, undef, undef, undef, undef, undef, undef, undef, undef, undef, undef, undef, undef, undef, undef, undef, undef, undef, undef, undef, undef, undef, undef, undef, undef, undef, undef, undef, undef, undef, undef, undef, undef, undef, undef, undef, undef, undef, undef, undef, undef, undef, undef, undef, undef, undef, undef, undef, undef] : Array Value).getD q9 undef), rfl, rfl, M, (Nat.zero_le _), hc⟩
 clear M
 obtain ⟨k, u28, rfl, rfl, M, hk4, hI⟩ := hI
 obtain ⟨w29, rfl⟩ : ∃ W8, W8 = W9 := ⟨_, rfl⟩
 refine wp_seq_k (fun K30 hK30 => ?_)
 refine wp_region_seq ?_
 refine wpL_chunk 1 (by rfl) (fun Lk hLk => ?_)
 simp only [List.take, List.drop]
 refine wpV_bin (v := .bool (decide (k < Xl.length))) (by rfl) rfl rfl rfl (fun W => run_lssN k Xl.length _ _ W) ?_
 simp only [putT, List.set]
 refine wpV_nil (hLk _ (fun w32 Sw32 => ?_))
 clear hLk Lk
 simp only [List.take, List.drop]
 replace M := M.sees Sw32
 refine wpL_nil (no_panic ?_)
 refine hK30 _ _ ?_
 refine wp_seq_k (fun K33 hK33 => ?_)
 cases hc34 : (decide (k < Xl.length))
 ·
  have hk : ¬ k < Xl.length := of_decide_eq_false hc34
  exact absurd (hI.symm.trans (clashT_end (by rw [List.length_reverse]; omega))) (fun e9 => nomatch e9)
 ·
  have hk : k < Xl.length := of_decide_eq_true hc34
  have hg1 : Xl.reverse.getD k [] = Xl.getD (Xl.length - 1 - k) [] := rev_get hk
  have hg2 : Yl.reverse.getD k [] = Yl.getD (Xl.length - 1 - k) [] := by rw [← hxy]; exact rev_get (by rw [hxy]; exact hk)
  refine wp_cond_true rfl ?_
  refine wp_skip ?_
  refine hK33 _ _ ?_
  refine wp_seq_k (fun K35 hK35 => ?_)
  refine wp_block ?_
  refine wp_seq_k (fun K36 hK36 => ?_)
  refine wp_region_seq ?_
  refine wpL_move (v := .int .i64 ((k : Nat) : Int)) (by rfl) (by rfl) (by rfl) ?_
  simp only [putT, List.set]
  refine wpL_assign (v := .int .i64 ((k : Nat) : Int)) (by rfl) (by rfl) (by rfl) ?_
  simp only [putT, List.set]
  refine wpL_nil (no_panic ?_)
  refine hK36 _ _ ?_
  refine wp_seq_k (fun K38 hK38 => ?_)
  refine wp_region_seq ?_
  refine wpL_move (v := .slice a13 Xl.length c13) (by rfl) (by rfl) (by rfl) ?_
  simp only [putT, List.set]
  refine wpL_chunk 4 (by rfl) (fun Lk hLk => ?_)
  simp only [List.take, List.drop]
  refine wpV_lenA (n := Xl.length) (by rfl) rfl rfl rfl Tryd.underlying48 ?_
  simp only [putT, List.set]
  refine wpV_bin (v := .int .i64 ((Xl.length - 1 : Nat) : Int)) (by rfl) rfl rfl rfl (fun W => run_sub (by simp only [IntKind.wrap_i64]; omega) W) ?_
  simp only [putT, List.set]
  refine wpV_move (v := .int .i64 ((k : Nat) : Int)) (by rfl) rfl rfl ?_
  simp only [putT, List.set]
  refine wpV_bin (v := .int .i64 (((Xl.length - 1) - k : Nat) : Int)) (by rfl) rfl rfl rfl (fun W => run_sub (by simp only [IntKind.wrap_i64]; omega) W) ?_
  simp only [putT, List.set]
  refine wpV_nil (hLk _ (fun w40 Sw40 => ?_))
  clear hLk Lk
  simp only [List.take, List.drop]
  replace M := M.sees Sw40
  refine wpL_assign (v := .int .i64 (((Xl.length - 1) - k : Nat) : Int)) (by rfl) (by rfl) (by rfl) ?_
  simp only [putT, List.set]
  refine wpL_nil (no_panic ?_)
  refine hK38 _ _ ?_
  refine wp_seq_k (fun K41 hK41 => ?_)
  refine wp_region_grow 9 [] (by kernel_rfl) (by kernel_rfl) (by kernel_rfl) (fun Lk hLk => ?_)
  simp only [List.take, List.drop]
  refine wpV_move (v := .slice a13 Xl.length c13) (by rfl) rfl rfl ?_
  simp only [putT, List.set]
  refine wpV_move (v := .int .i64 (((Xl.length - 1) - k : Nat) : Int)) (by rfl) rfl rfl ?_
  simp only [putT, List.set]
  refine wpV_idxA (i := (Xl.length - 1) - k) (by rfl) rfl rfl rfl Tryd.underlying48 info9 (M.oldA H13_0) (by omega) ?_
  simp only [putT, List.set]
  refine wpV_loadA (i := (Xl.length - 1) - k) (v := .string (bs (Xl.getD ((Xl.length - 1) - k) []))) (by rfl) rfl rfl (M.oldA H13_0) (scells_get (ps := Xl) (by omega)) Tryd.underlying9 rfl ?_
  simp only [putT, List.set]
  refine wpV_move (v := .slice a18 Yl.length c18) (by rfl) rfl rfl ?_
  simp only [putT, List.set]
  refine wpV_move (v := .int .i64 (((Xl.length - 1) - k : Nat) : Int)) (by rfl) rfl rfl ?_
  simp only [putT, List.set]
  refine wpV_idxA (i := (Xl.length - 1) - k) (by rfl) rfl rfl rfl Tryd.underlying48 info9 (M.oldA H18_0) (by omega) ?_
  simp only [putT, List.set]
  refine wpV_loadA (i := (Xl.length - 1) - k) (v := .string (bs (Yl.getD ((Xl.length - 1) - k) []))) (by rfl) rfl rfl (M.oldA H18_0) (scells_get (ps := Yl) (by omega)) Tryd.underlying9 rfl ?_
  simp only [putT, List.set]
  refine wpV_binS (v := .bool (decide (Xl.getD ((Xl.length - 1) - k) [] ≠ Yl.getD ((Xl.length - 1) - k) []))) (by rfl) rfl rfl rfl (run_neq_bs _ _ _) ?_
  simp only [putT, List.set]
  refine wpV_nil (hLk.out _ ?_)
  clear hLk Lk
  simp only [List.take, List.drop]
  iterate 9 refine wpN_skip (by rfl) ?_
  refine wpN_nil (fun w43 Sw43 hbs => ?_)
  clear hbs
  replace M := M.sees Sw43
  refine wpL_nil (no_panic ?_)
  refine hK41 _ _ ?_
  cases hc44 : (decide (Xl.getD ((Xl.length - 1) - k) [] ≠ Yl.getD ((Xl.length - 1) - k) []))
  ·
   have hsm : Xl.reverse.getD k [] = Yl.reverse.getD k [] := by rw [hg1, hg2]; exact Decidable.not_not.1 (of_decide_eq_false hc44)
   refine wp_cond_false rfl ?_
   refine wp_skip ?_
   refine hK35 _ _ ?_
   refine wp_region_seq ?_
   refine wpL_chunk 1 (by rfl) (fun Lk hLk => ?_)
   simp only [List.take, List.drop]
   refine wpV_bin (v := .int .i64 ((k + 1 : Nat) : Int)) (by rfl) rfl rfl rfl (fun W => run_add (by simp only [IntKind.wrap_i64]; omega) W) ?_
   simp only [putT, List.set]
   refine wpV_nil (hLk _ (fun w46 Sw46 => ?_))
   clear hLk Lk
   simp only [List.take, List.drop]
   replace M := M.sees Sw46
   refine wpL_move (v := .int .i64 ((k + 1 : Nat) : Int)) (by rfl) (by rfl) (by rfl) ?_
   simp only [putT, List.set]
   refine wpL_nil (no_panic ?_)
   refine Exists.intro _ ⟨?_, (k + 1), (fun q9 => (#[undef, undef, undef, undef, undef, undef, undef, undef, undef, undef, undef, undef, u28 12, u28 13, u28 14, undef, undef, undef, undef, undef, undef, .int .i64 ((k : Nat) : Int), .int .i64 (((Xl.length - 1) - k : Nat) : Int), undef, undef, undef, undef, undef, undef, undef, undef, undef, undef, undef, undef, undef, undef, undef, undef, undef, undef, undef, undef, undef, undef, undef, undef, undef, undef, undef, undef, undef, undef, undef, undef, undef, undef, undef, undef, undef, undef, undef, undef, undef, undef, undef, undef, undef, undef, undef, undef, undef, undef, undef, undef, undef, undef, undef, undef, undef, undef, undef, undef, undef, undef, undef, undef, undef, .bool true, .int .i64 ((k : Nat) : Int), .slice a13 Xl.length c13, .int .i64 ((Xl.length : Nat) : Int), .int .i64 ((Xl.length - 1 : Nat) : Int), .int .i64 ((k : Nat) : Int), .int .i64 (((Xl.length - 1) - k : Nat) : Int), .slice a13 Xl.length c13, .int .i64 (((Xl.length - 1) - k : Nat) : Int), .pointer (a13.map (·.add ((Xl.length - 1) - k))), .string (bs (Xl.getD ((Xl.length - 1) - k) [])), .slice a18 Yl.length c18, .int .i64 (((Xl.length - 1) - k : Nat) : Int), .pointer (a18.map (·.add ((Xl.length - 1) - k))), .string (bs (Yl.getD ((Xl.length - 1) - k) [])), .bool false, u28 104, u28 105, u28 106, u28 107, u28 108, u28 109, u28 110, u28 111, .int .i64 ((k + 1 : Nat) : Int)] : Array Value).getD q9 undef), rfl, rfl, M, (by omega), (by rw [← clashT_go (by rw [List.length_reverse]; exact hk) (by rw [List.length_reverse, hxy]; exact hk) hsm]; exact hI)⟩
   omega
  ·
   have hdf : Xl.reverse.getD k [] ≠ Yl.reverse.getD k [] := by rw [hg1, hg2]; exact of_decide_eq_true hc44
   have hpr := hI.symm.trans (clashT_yes (by rw [List.length_reverse]; exact hk) (by rw [List.length_reverse, hxy]; exact hk) hdf)
   rw [hg1, hg2] at hpr
   injection hpr with hpr
   injection hpr with hfx hfy
   refine wp_cond_true rfl ?_
   refine wp_seq_k (fun K47 hK47 => ?_)
   refine wp_region_grow 11 [] (by kernel_rfl) (by kernel_rfl) (by kernel_rfl) (fun Lk hLk => ?_)
   simp only [List.take, List.drop]
   refine wpV_move (v := .slice a13 Xl.length c13) (by rfl) rfl rfl ?_
   simp only [putT, List.set]
   refine wpV_move (v := .int .i64 (((Xl.length - 1) - k : Nat) : Int)) (by rfl) rfl rfl ?_
   simp only [putT, List.set]
   refine wpV_idxA (i := (Xl.length - 1) - k) (by rfl) rfl rfl rfl Tryd.underlying48 info9 (M.oldA H13_0) (by omega) ?_
   simp only [putT, List.set]
   refine wpV_loadA (i := (Xl.length - 1) - k) (v := .string (bs (Xl.getD ((Xl.length - 1) - k) []))) (by rfl) rfl rfl (M.oldA H13_0) (scells_get (ps := Xl) (by omega)) Tryd.underlying9 rfl ?_
   simp only [putT, List.set]
   refine wpV_move (v := .slice a18 Yl.length c18) (by rfl) rfl rfl ?_
   simp only [putT, List.set]
   refine wpV_move (v := .int .i64 (((Xl.length - 1) - k : Nat) : Int)) (by rfl) rfl rfl ?_
   simp only [putT, List.set]
   refine wpV_idxA (i := (Xl.length - 1) - k) (by rfl) rfl rfl rfl Tryd.underlying48 info9 (M.oldA H18_0) (by omega) ?_
   simp only [putT, List.set]
   refine wpV_loadA (i := (Xl.length - 1) - k) (v := .string (bs (Yl.getD ((Xl.length - 1) - k) []))) (by rfl) rfl rfl (M.oldA H18_0) (scells_get (ps := Yl) (by omega)) Tryd.underlying9 rfl ?_
   simp only [putT, List.set]
   refine wpV_assign (v := .string (bs (Xl.getD ((Xl.length - 1) - k) []))) (by rfl) rfl rfl ?_
   simp only [putT, List.set]
   refine wpV_assign (v := .string (bs (Yl.getD ((Xl.length - 1) - k) []))) (by rfl) rfl rfl ?_
   simp only [putT, List.set]
   refine wpV_assign (v := .int .i64 0) (by rfl) rfl rfl ?_
   simp only [putT, List.set]
   refine wpV_nil (hLk.out _ ?_)
   clear hLk Lk
   simp only [List.take, List.drop]
   iterate 11 refine wpN_skip (by rfl) ?_
   refine wpN_nil (fun w49 Sw49 hbs => ?_)
   clear hbs
   replace M := M.sees Sw49
   refine wpL_nil (no_panic ?_)
   refine hK47 _ _ ?_
   refine wp_ret ?_
   repeat (first | with_reducible refine then_ret ?_ | with_reducible refine inblock_ret ?_)
   refine bodyPost_ret (v := .tuple #[.string (bs (Xl.getD ((Xl.length - 1) - k) [])), .string (bs (Yl.getD ((Xl.length - 1) - k) [])), .int .i64 0]) (res3 rfl (.tmp (by rfl)) (.tmp (by rfl)) (.tmp (by rfl))) rfl ?_
   have BE := M.below
   rw [hfx, hfy]
   exact ⟨rfl, BB.trans (BE.mono BB.size)⟩
end Go.Proofs.Yb

namespace Go.Proofs.Yb
open Go Go.RowKit Go.Proofs.Num
attribute [local irreducible] wpV wpN wpList
set_option maxHeartbeats 1000000 in
theorem few9_c1 {ps : List (List UInt8)} {g0 o cg0 ng0 : Nat} {w : World} (hng0 : ng0 = ps.length) (hcg0 : ng0 ≤ cg0) (Lg0 : g0 < w.heap.size) (Rg0_o : w.rangeAt g0 o (scells ps)) :
  Calls Tryd.prog 46 #[.slice (some ⟨g0, o, none⟩) ng0 cg0] w fun e w' => ∃ v, e = .returned v ∧ MemRow w ((cutsS 50 40 ps).length) (scells (cutsS 50 40 ps)) v w' ∧ Below w.heap.size w w' := by
 subst hng0
 go_enter Tryd.func46, Tryd.ntmps46
 have M := Mem.start w
 refine wp_seq_k (fun K1 hK1 => ?_)
 refine wp_region_seq ?_
 refine wpL_assign (v := (.slice none 0 0)) (by rfl) (by rfl) (by rfl) ?_
 simp only [putT, List.set]
 refine wpL_nil (no_panic ?_)
 refine hK1 _ _ ?_
 refine wp_seq_k (fun K3 hK3 => ?_)
 refine wp_region_seq ?_
 refine wpL_row0 (by rfl) (by rfl) Tryd.underlying48 info9 (fun g5 w6 Sw6 Hg5 Bg5 => ?_)
 replace M := ((M.sees Sw6).add (N := 0) (cs := scells []) (M.ge Hg5) (M.fresh Hg5) Bg5 rfl)
 clear Bg5
 simp only [putT, List.set]
 refine wpL_move (v := .slice (some ⟨g0, o, none⟩) ps.length cg0) (by rfl) (by rfl) (by rfl) ?_
 simp only [putT, List.set]
 refine wpL_move (v := .slice (some ⟨g0, o, none⟩) ps.length cg0) (by rfl) (by rfl) (by rfl) ?_
 simp only [putT, List.set]
 refine wpL_chunk 3 (by rfl) (fun Lk hLk => ?_)
 simp only [List.take, List.drop]
 refine wpV_lenA (n := ps.length) (by rfl) rfl rfl rfl Tryd.underlying48 ?_
 simp only [putT, List.set]
 refine wpV_min (n := ps.length) (m := 50) (by rfl) rfl rfl rfl ?_
 simp only [putT, List.set]
 refine wpV_sliceH (hi := min ps.length 50) (by rfl) rfl rfl rfl Tryd.underlying48 info9 (Nat.le_trans (Nat.min_le_left _ _) hcg0) ?_
 simp only [putT, List.set]
 refine wpV_nil (hLk _ (fun w7 Sw7 => ?_))
 clear hLk Lk
 simp only [List.take, List.drop]
 replace M := M.sees Sw7
 refine wpL_append2 (n := 0) (m := min ps.length 50) (olds := scells []) (news := scells (ps.take (min ps.length 50))) (z := .string { data := #[] }) (bytes := 16) (by rfl) (by rfl) (by rfl) (by rfl) Tryd.underlying48 (by kernel_rfl) rfl rfl (by rfl) (by rw [scells_len, List.length_take]; omega) (M.r 0 0 rfl rfl) (M.t 0 rfl) (M.lt 0 rfl) (range_stake (min ps.length 50) (M.oldR Rg0_o Lg0)) (scells_one _) (by omega) (by simp only [maxLen]; omega) (fun g8 g8c w9 Sw9 Q Cg8 R T L => ?_)
 replace M := M.grow 0 rfl Sw9 Q R T L
 simp only [List.set] at M
 clear Q R T L
 rw [show scells [] ++ scells (ps.take (min ps.length 50)) = scells (ps.take (min ps.length 50)) from rfl] at M
 rw [Nat.zero_add] at Cg8
 rw [Nat.zero_add]
 simp only [putT, List.set]
 refine wpL_assign (v := .slice (some ⟨g8, 0, none⟩) (min ps.length 50) g8c) (by rfl) (by rfl) (by rfl) ?_
 simp only [putT, List.set]
 refine wpL_nil (no_panic ?_)
 obtain ⟨qs, hqs⟩ : ∃ qs, qs = List.take (min ps.length 50) ps := ⟨_, rfl⟩
 have hql : qs.length = min ps.length 50 := by rw [hqs, List.length_take]; omega
 rw [← hqs] at M
 rw [← hql] at Cg8
 rw [← hql]
 refine hK3 _ _ ?_
 refine wp_seq_k (fun K10 hK10 => ?_)
 refine wp_seq_k (fun K11 hK11 => ?_)
 refine wp_region_seq ?_
 refine wpL_move (v := .slice (some ⟨g8, 0, none⟩) qs.length g8c) (by rfl) (by rfl) (by rfl) ?_
 simp only [putT, List.set]
 refine wpL_chunk 1 (by rfl) (fun Lk hLk => ?_)
 simp only [List.take, List.drop]
 refine wpV_lenA (n := qs.length) (by rfl) rfl rfl rfl Tryd.underlying48 ?_
 simp only [putT, List.set]
 refine wpV_nil (hLk _ (fun w13 Sw13 => ?_))
 clear hLk Lk
 simp only [List.take, List.drop]
 replace M := M.sees Sw13
 refine wpL_move (v := .int .i64 0) (by rfl) (by rfl) (by rfl) ?_
 simp only [putT, List.set]
 refine wpL_nil (no_panic ?_)
 refine hK11 _ _ ?_
 refine wp_block ?_
 replace M := M.read1 (cs := scells (partS 40 qs 0)) (o := 0) 0 rfl (by rw [partS_zero]; exact (M.r 0 0 rfl rfl))
 simp only [List.set] at M
 refine wp_loop_ghost (fun n9 a9 W9 => ∃ (k : Nat) (u14 : Nat → Value), n9 = qs.length - k ∧ a9 = { tmps := #[.slice (some ⟨g8, 0, none⟩) qs.length g8c, undef, (.slice none 0 0), u14 3, u14 4, .slice (some ⟨g5, 0, none⟩) 0 0, .slice (some ⟨g0, o, none⟩) ps.length cg0, .slice (some ⟨g0, o, none⟩) ps.length cg0, .int .i64 ((ps.length : Nat) : Int), .int .i64 ((qs.length : Nat) : Int), .slice (some ⟨g0, o, none⟩) qs.length cg0, .slice (some ⟨g8, 0, none⟩) qs.length g8c, .slice (some ⟨g8, 0, none⟩) qs.length g8c, .int .i64 ((qs.length : Nat) : Int), .int .i64 ((k : Nat) : Int), u14 15, u14 16, u14 17, u14 18, u14 19, u14 20, u14 21, u14 22, u14 23, u14 24, u14 25, u14 26, u14 27, undef], defers := [] } ∧ Mem [] w W9 [⟨g8, g8c, [(0, scells (partS 40 qs k))]⟩] ∧ (k ≤ qs.length)) (qs.length - (0)) ?_ (fun n9 a9 W9 hI => ?_)
 ·
  exact ⟨0, (fun q9 => (#[undef, undef, undef, undef, undef, undef, undef, undef, undef, undef, undef, undef, undef, undef, undef, undef, undef, undef, undef, undef, undef, undef, undef, undef, undef, undef, undef, undef] : Array Value).getD q9 undef), rfl, rfl, M, (by omega)⟩
 clear M
 obtain ⟨k, u14, rfl, rfl, M, hk4⟩ := hI
 obtain ⟨w15, rfl⟩ : ∃ W8, W8 = W9 := ⟨_, rfl⟩
 refine wp_seq_k (fun K16 hK16 => ?_)
 refine wp_region_seq ?_
 refine wpL_chunk 1 (by rfl) (fun Lk hLk => ?_)
 simp only [List.take, List.drop]
 refine wpV_bin (v := .bool (decide (k < qs.length))) (by rfl) rfl rfl rfl (fun W => run_lssN k qs.length _ _ W) ?_
 simp only [putT, List.set]
 refine wpV_nil (hLk _ (fun w18 Sw18 => ?_))
 clear hLk Lk
 simp only [List.take, List.drop]
 replace M := M.sees Sw18
 refine wpL_nil (no_panic ?_)
 refine hK16 _ _ ?_
 refine wp_seq_k (fun K19 hK19 => ?_)
 cases hc20 : (decide (k < qs.length))
 ·
  have ek : k = qs.length := by have := of_decide_eq_false hc20; omega
  subst ek
  refine wp_cond_false rfl ?_
  refine wp_exit ?_
  refine hK10 _ _ ?_
  refine wp_seq_k (fun K21 hK21 => ?_)
  refine wp_region_seq ?_
  refine wpL_move (v := .slice (some ⟨g8, 0, none⟩) qs.length g8c) (by rfl) (by rfl) (by rfl) ?_
  simp only [putT, List.set]
  refine wpL_assign (v := .slice (some ⟨g8, 0, none⟩) qs.length g8c) (by rfl) (by rfl) (by rfl) ?_
  simp only [putT, List.set]
  refine wpL_nil (no_panic ?_)
  refine hK21 _ _ ?_
  refine wp_ret ?_
  repeat (first | with_reducible refine then_ret ?_ | with_reducible refine inblock_ret ?_)
  refine bodyPost_ret (v := .slice (some ⟨g8, 0, none⟩) qs.length g8c) (res1 rfl (.tmp (by rfl))) rfl ?_
  have BE := M.below
  rw [partS_end] at M
  rw [cutsS_of hqs, List.length_map]; exact ⟨_, rfl, ⟨g8, g8c, rfl, Cg8, M.pick [0] (by decide) rfl⟩, BE⟩
 ·
  have hk : k < qs.length := of_decide_eq_true hc20
  refine wp_cond_true rfl ?_
  refine wp_skip ?_
  refine hK19 _ _ ?_
  refine wp_seq_k (fun K23 hK23 => ?_)
  refine wp_block ?_
  refine wp_seq_k (fun K24 hK24 => ?_)
  refine wp_region_seq ?_
  refine wpL_move (v := .int .i64 ((k : Nat) : Int)) (by rfl) (by rfl) (by rfl) ?_
  simp only [putT, List.set]
  refine wpL_chunk 2 (by rfl) (fun Lk hLk => ?_)
  simp only [List.take, List.drop]
  refine wpV_idxs (n := k) (by rfl) rfl rfl rfl Tryd.underlying48 info9 (by omega) ?_
  simp only [Nat.zero_add]
  simp only [putT, List.set]
  refine wpV_load1 (v := .string (bs (qs.getD k []))) (by rfl) rfl rfl (zadd ((M.r 0 0 rfl rfl) _ _ (partS_get 40 hk))) (M.lt 0 rfl) Tryd.underlying9 rfl ?_
  simp only [putT, List.set]
  refine wpV_nil (hLk _ (fun w26 Sw26 => ?_))
  clear hLk Lk
  simp only [List.take, List.drop]
  replace M := M.sees Sw26
  refine wpL_assign (v := .int .i64 ((k : Nat) : Int)) (by rfl) (by rfl) (by rfl) ?_
  simp only [putT, List.set]
  refine wpL_assign (v := .string (bs (qs.getD k []))) (by rfl) (by rfl) (by rfl) ?_
  simp only [putT, List.set]
  refine wpL_nil (no_panic ?_)
  refine hK24 _ _ ?_
  refine wp_region_seq ?_
  refine wpL_move (v := .slice (some ⟨g8, 0, none⟩) qs.length g8c) (by rfl) (by rfl) (by rfl) ?_
  simp only [putT, List.set]
  refine wpL_move (v := .int .i64 ((k : Nat) : Int)) (by rfl) (by rfl) (by rfl) ?_
  simp only [putT, List.set]
  refine wpL_move (v := .string (bs (qs.getD k []))) (by rfl) (by rfl) (by rfl) ?_
  simp only [putT, List.set]
  refine wpL_move (v := .string (bs (qs.getD k []))) (by rfl) (by rfl) (by rfl) ?_
  simp only [putT, List.set]
  refine wpL_chunk 4 (by rfl) (fun Lk hLk => ?_)
  simp only [List.take, List.drop]
  refine wpV_lenS (by rfl) rfl rfl rfl Tryd.underlying9 ?_
  simp only [putT, List.set]
  refine wpV_min (n := (qs.getD k []).length) (m := 40) (by rfl) rfl rfl rfl ?_
  simp only [putT, List.set]
  refine wpV_cut (l := qs.getD k []) (m := 40) (by rfl) rfl rfl rfl Tryd.underlying9 ?_
  simp only [putT, List.set]
  refine wpV_idxs (n := k) (by rfl) rfl rfl rfl Tryd.underlying48 info9 (by omega) ?_
  simp only [Nat.zero_add]
  simp only [putT, List.set]
  refine wpV_nil (hLk _ (fun w28 Sw28 => ?_))
  clear hLk Lk
  simp only [List.take, List.drop]
  replace M := M.sees Sw28
  refine wpL_store1 (g := g8) (off := k) (n := g8c) (v := .string (bs (cut (qs.getD k []) 40))) (by rfl) (by rfl) (by rfl) (by rfl) (by rfl) (M.t 0 rfl) (by omega) info9 rfl (fun w29 P R T => ?_)
  replace M := M.put1 (j := k) 0 rfl P R T (Nat.zero_add _).symm
  simp only [List.set] at M
  rw [partS_set 40 hk] at M
  refine wpL_nil (no_panic ?_)
  refine hK23 _ _ ?_
  refine wp_region_seq ?_
  refine wpL_chunk 1 (by rfl) (fun Lk hLk => ?_)
  simp only [List.take, List.drop]
  refine wpV_bin (v := .int .i64 ((k + 1 : Nat) : Int)) (by rfl) rfl rfl rfl (fun W => run_add (by simp only [IntKind.wrap_i64]; omega) W) ?_
  simp only [putT, List.set]
  refine wpV_nil (hLk _ (fun w31 Sw31 => ?_))
  clear hLk Lk
  simp only [List.take, List.drop]
  replace M := M.sees Sw31
  refine wpL_move (v := .int .i64 ((k + 1 : Nat) : Int)) (by rfl) (by rfl) (by rfl) ?_
  simp only [putT, List.set]
  refine wpL_nil (no_panic ?_)
  refine Exists.intro _ ⟨?_, (k + 1), (fun q9 => (#[undef, undef, undef, .int .i64 ((k : Nat) : Int), .string (bs (qs.getD k [])), undef, undef, undef, undef, undef, undef, undef, undef, undef, undef, .bool true, .int .i64 ((k : Nat) : Int), .pointer (some ⟨g8, k, none⟩), .string (bs (qs.getD k [])), .slice (some ⟨g8, 0, none⟩) qs.length g8c, .int .i64 ((k : Nat) : Int), .string (bs (qs.getD k [])), .string (bs (qs.getD k [])), .int .i64 (((qs.getD k []).length : Nat) : Int), .int .i64 ((min ((qs.getD k []).length) 40 : Nat) : Int), .string (bs (cut (qs.getD k []) 40)), .pointer (some ⟨g8, k, none⟩), .int .i64 ((k + 1 : Nat) : Int)] : Array Value).getD q9 undef), rfl, rfl, M, (by omega)⟩
  omega
set_option maxHeartbeats 1000000 in
theorem few9_c0  {w : World}  :
  Calls Tryd.prog 46 #[.slice none 0 0] w fun e w' => ∃ v, e = .returned v ∧ MemRow w ((cutsS 50 40 []).length) (scells (cutsS 50 40 [])) v w' ∧ Below w.heap.size w w' := by
 go_enter Tryd.func46, Tryd.ntmps46
 have M := Mem.start w
 refine wp_seq_k (fun K1 hK1 => ?_)
 refine wp_region_seq ?_
 refine wpL_assign (v := (.slice none 0 0)) (by rfl) (by rfl) (by rfl) ?_
 simp only [putT, List.set]
 refine wpL_nil (no_panic ?_)
 refine hK1 _ _ ?_
 refine wp_seq_k (fun K3 hK3 => ?_)
 refine wp_region_seq ?_
 refine wpL_row0 (by rfl) (by rfl) Tryd.underlying48 info9 (fun g5 w6 Sw6 Hg5 Bg5 => ?_)
 replace M := ((M.sees Sw6).add (N := 0) (cs := scells []) (M.ge Hg5) (M.fresh Hg5) Bg5 rfl)
 clear Bg5
 simp only [putT, List.set]
 refine wpL_move (v := .slice none 0 0) (by rfl) (by rfl) (by rfl) ?_
 simp only [putT, List.set]
 refine wpL_move (v := .slice none 0 0) (by rfl) (by rfl) (by rfl) ?_
 simp only [putT, List.set]
 refine wpL_chunk 3 (by rfl) (fun Lk hLk => ?_)
 simp only [List.take, List.drop]
 refine wpV_lenA (n := 0) (by rfl) rfl rfl rfl Tryd.underlying48 ?_
 simp only [putT, List.set]
 refine wpV_min (n := 0) (m := 50) (by rfl) rfl rfl rfl ?_
 simp only [putT, List.set]
 refine wpV_val (v := .slice none 0 0) (by rfl) (by rfl) (fun W hW => ?_) ?_
 ·
  (unfold RunsVal; kernel_rfl)
 simp only [putT, List.set]
 refine wpV_nil (hLk _ (fun w7 Sw7 => ?_))
 clear hLk Lk
 simp only [List.take, List.drop]
 replace M := M.sees Sw7
 refine wpL_appendN (by rfl) (by rfl) (by rfl) (by rfl) Tryd.underlying48 info9 (Nat.le_refl _) ?_
 simp only [putT, List.set]
 refine wpL_assign (v := .slice (some ⟨g5, 0, none⟩) 0 0) (by rfl) (by rfl) (by rfl) ?_
 simp only [putT, List.set]
 refine wpL_nil (no_panic ?_)
 refine hK3 _ _ ?_
 refine wp_seq_k (fun K8 hK8 => ?_)
 refine wp_seq_k (fun K9 hK9 => ?_)
 refine wp_region_seq ?_
 refine wpL_move (v := .slice (some ⟨g5, 0, none⟩) 0 0) (by rfl) (by rfl) (by rfl) ?_
 simp only [putT, List.set]
 refine wpL_chunk 1 (by rfl) (fun Lk hLk => ?_)
 simp only [List.take, List.drop]
 refine wpV_lenA (n := 0) (by rfl) rfl rfl rfl Tryd.underlying48 ?_
 simp only [putT, List.set]
 refine wpV_nil (hLk _ (fun w11 Sw11 => ?_))
 clear hLk Lk
 simp only [List.take, List.drop]
 replace M := M.sees Sw11
 refine wpL_move (v := .int .i64 0) (by rfl) (by rfl) (by rfl) ?_
 simp only [putT, List.set]
 refine wpL_nil (no_panic ?_)
 refine hK9 _ _ ?_
 refine wp_block ?_
 refine wp_loop_rounds 2 ?_
 rw [rounds_succ]
 refine wp_seq_k (fun K12 hK12 => ?_)
 refine wp_region_seq ?_
 refine wpL_chunk 1 (by rfl) (fun Lk hLk => ?_)
 simp only [List.take, List.drop]
 refine wpV_bin (v := .bool false) (by rfl) rfl rfl rfl (fun W => run_lss _ _ _ _ W) ?_
 simp only [putT, List.set]
 refine wpV_nil (hLk _ (fun w14 Sw14 => ?_))
 clear hLk Lk
 simp only [List.take, List.drop]
 replace M := M.sees Sw14
 refine wpL_nil (no_panic ?_)
 refine hK12 _ _ ?_
 refine wp_seq_k (fun K15 hK15 => ?_)
 refine wp_cond_false rfl ?_
 refine wp_exit ?_
 refine hK8 _ _ ?_
 refine wp_seq_k (fun K16 hK16 => ?_)
 refine wp_region_seq ?_
 refine wpL_move (v := .slice (some ⟨g5, 0, none⟩) 0 0) (by rfl) (by rfl) (by rfl) ?_
 simp only [putT, List.set]
 refine wpL_assign (v := .slice (some ⟨g5, 0, none⟩) 0 0) (by rfl) (by rfl) (by rfl) ?_
 simp only [putT, List.set]
 refine wpL_nil (no_panic ?_)
 refine hK16 _ _ ?_
 refine wp_ret ?_
 repeat (first | with_reducible refine then_ret ?_ | with_reducible refine inblock_ret ?_)
 refine bodyPost_ret (v := .slice (some ⟨g5, 0, none⟩) 0 0) (res1 rfl (.tmp (by rfl))) rfl ?_
 have BE := M.below
 exact ⟨_, rfl, ⟨g5, 0, rfl, (Nat.le_refl _), M.pick [0] (by decide) rfl⟩, BE⟩
set_option maxHeartbeats 1000000 in
theorem few9_cE {a : Addr} {w : World}  :
  Calls Tryd.prog 46 #[.slice (some a) 0 0] w fun e w' => ∃ v, e = .returned v ∧ MemRow w ((cutsS 50 40 []).length) (scells (cutsS 50 40 [])) v w' ∧ Below w.heap.size w w' := by
 go_enter Tryd.func46, Tryd.ntmps46
 have M := Mem.start w
 refine wp_seq_k (fun K1 hK1 => ?_)
 refine wp_region_seq ?_
 refine wpL_assign (v := (.slice none 0 0)) (by rfl) (by rfl) (by rfl) ?_
 simp only [putT, List.set]
 refine wpL_nil (no_panic ?_)
 refine hK1 _ _ ?_
 refine wp_seq_k (fun K3 hK3 => ?_)
 refine wp_region_seq ?_
 refine wpL_row0 (by rfl) (by rfl) Tryd.underlying48 info9 (fun g5 w6 Sw6 Hg5 Bg5 => ?_)
 replace M := ((M.sees Sw6).add (N := 0) (cs := scells []) (M.ge Hg5) (M.fresh Hg5) Bg5 rfl)
 clear Bg5
 simp only [putT, List.set]
 refine wpL_move (v := .slice (some a) 0 0) (by rfl) (by rfl) (by rfl) ?_
 simp only [putT, List.set]
 refine wpL_move (v := .slice (some a) 0 0) (by rfl) (by rfl) (by rfl) ?_
 simp only [putT, List.set]
 refine wpL_chunk 3 (by rfl) (fun Lk hLk => ?_)
 simp only [List.take, List.drop]
 refine wpV_lenA (n := 0) (by rfl) rfl rfl rfl Tryd.underlying48 ?_
 simp only [putT, List.set]
 refine wpV_min (n := 0) (m := 50) (by rfl) rfl rfl rfl ?_
 simp only [putT, List.set]
 refine wpV_val (v := .slice (some a) 0 0) (by rfl) (by rfl) (fun W hW => ?_) ?_
 ·
  (unfold RunsVal; kernel_rfl)
 simp only [putT, List.set]
 refine wpV_nil (hLk _ (fun w7 Sw7 => ?_))
 clear hLk Lk
 simp only [List.take, List.drop]
 replace M := M.sees Sw7
 refine wpL_appendE (by rfl) (by rfl) (by rfl) (by rfl) Tryd.underlying48 info9 (Nat.le_refl _) ?_
 simp only [putT, List.set]
 refine wpL_assign (v := .slice (some ⟨g5, 0, none⟩) 0 0) (by rfl) (by rfl) (by rfl) ?_
 simp only [putT, List.set]
 refine wpL_nil (no_panic ?_)
 refine hK3 _ _ ?_
 refine wp_seq_k (fun K8 hK8 => ?_)
 refine wp_seq_k (fun K9 hK9 => ?_)
 refine wp_region_seq ?_
 refine wpL_move (v := .slice (some ⟨g5, 0, none⟩) 0 0) (by rfl) (by rfl) (by rfl) ?_
 simp only [putT, List.set]
 refine wpL_chunk 1 (by rfl) (fun Lk hLk => ?_)
 simp only [List.take, List.drop]
 refine wpV_lenA (n := 0) (by rfl) rfl rfl rfl Tryd.underlying48 ?_
 simp only [putT, List.set]
 refine wpV_nil (hLk _ (fun w11 Sw11 => ?_))
 clear hLk Lk
 simp only [List.take, List.drop]
 replace M := M.sees Sw11
 refine wpL_move (v := .int .i64 0) (by rfl) (by rfl) (by rfl) ?_
 simp only [putT, List.set]
 refine wpL_nil (no_panic ?_)
 refine hK9 _ _ ?_
 refine wp_block ?_
 refine wp_loop_rounds 2 ?_
 rw [rounds_succ]
 refine wp_seq_k (fun K12 hK12 => ?_)
 refine wp_region_seq ?_
 refine wpL_chunk 1 (by rfl) (fun Lk hLk => ?_)
 simp only [List.take, List.drop]
 refine wpV_bin (v := .bool false) (by rfl) rfl rfl rfl (fun W => run_lss _ _ _ _ W) ?_
 simp only [putT, List.set]
 refine wpV_nil (hLk _ (fun w14 Sw14 => ?_))
 clear hLk Lk
 simp only [List.take, List.drop]
 replace M := M.sees Sw14
 refine wpL_nil (no_panic ?_)
 refine hK12 _ _ ?_
 refine wp_seq_k (fun K15 hK15 => ?_)
 refine wp_cond_false rfl ?_
 refine wp_exit ?_
 refine hK8 _ _ ?_
 refine wp_seq_k (fun K16 hK16 => ?_)
 refine wp_region_seq ?_
 refine wpL_move (v := .slice (some ⟨g5, 0, none⟩) 0 0) (by rfl) (by rfl) (by rfl) ?_
 simp only [putT, List.set]
 refine wpL_assign (v := .slice (some ⟨g5, 0, none⟩) 0 0) (by rfl) (by rfl) (by rfl) ?_
 simp only [putT, List.set]
 refine wpL_nil (no_panic ?_)
 refine hK16 _ _ ?_
 refine wp_ret ?_
 repeat (first | with_reducible refine then_ret ?_ | with_reducible refine inblock_ret ?_)
 refine bodyPost_ret (v := .slice (some ⟨g5, 0, none⟩) 0 0) (res1 rfl (.tmp (by rfl))) rfl ?_
 have BE := M.below
 exact ⟨_, rfl, ⟨g5, 0, rfl, (Nat.le_refl _), M.pick [0] (by decide) rfl⟩, BE⟩
theorem few9_c {v : Value} {ps : List (List UInt8)} {w : World} (hv : RowS w v ps) :
  Calls Tryd.prog 46 #[v] w fun e w' => ∃ v, e = .returned v ∧ MemRow w ((cutsS 50 40 ps).length) (scells (cutsS 50 40 ps)) v w' ∧ Below w.heap.size w w' := by
 rcases hv with ⟨rfl, rfl⟩ | ⟨a, rfl, rfl⟩ | ⟨g, o, n, c, rfl, h2, h3, h4, h5⟩
 ·
  exact few9_c0
 ·
  exact few9_cE
 ·
  exact few9_c1 h2 h3 h4 h5
end Go.Proofs.Yb

namespace Go.Proofs.Yb
open Go Go.RowKit Go.Proofs.Num
attribute [local irreducible] wpV wpN wpList
theorem two_no1 {a b : List UInt8} (h : a.length ≠ 32) : all32 [a, b] = false := by
 unfold all32
 simp [h]
theorem two_no2 {a b : List UInt8} (h : b.length ≠ 32) : all32 [a, b] = false := by
 unfold all32
 simp [h]
theorem two_yes {a b : List UInt8} (h1 : ¬ a.length ≠ 32) (h2 : ¬ b.length ≠ 32) : all32 [a, b] = true := by
 unfold all32
 simp [Decidable.not_not.1 h1, Decidable.not_not.1 h2]
theorem two_yes' {a b : List UInt8} (h1 : a.length = 32) (h2 : b.length = 32) : all32 [a, b] = true := two_yes (fun e => e h1) (fun e => e h2)
end Go.Proofs.Yb

