import Derived.WalkKit
import Derived.WalkSpells
import Derived.Laws.Pointers
import Derived.RowKit3
import Derived.Below
import Derived.Outline
import Derived.LoopN
import Derived.Lib.Hide
import Derived.Handy
import Derived.Laws.Bits64b
import Derived.Test.YticcchgckljlnaaDoorPr11
set_option linter.unusedSimpArgs false
set_option linter.unusedVariables false
namespace Go.Proofs.Yb
open Go Go.RowKit Go.Proofs.Num
attribute [local irreducible] wpV wpN wpList
set_option maxHeartbeats 4000000 in
theorem lfol_neg {vls : Value} {ls Ql : List (List UInt8)} {la lb old root : List UInt8} {x y : Int} {w : World} (hQ : cutsS 50 40 ls = Ql) (hQL : Ql.length ≤ 50) (hL : cut la 40 = old) (hR : cut lb 40 = root) (hx : x < 0) (L0 : 0 < w.heap.size) (R0_0 : w.rangeAt 0 0 kcells) (hvls : RowS w vls ls) :
    Calls Tryd.prog 17 #[.int .i64 x, .int .i64 y, .string (bs la), .string (bs lb), vls] w fun e w' => e = .returned (.bool true) ∧ Below w.heap.size w w' := by
  have hq : Ql.length ≤ 4611686018427387904 := by omega
  go_enter Tryd.func17, Tryd.ntmps17
  have M := Mem.start w
  refine wp_seq_k (fun K1 hK1 => ?_)
  refine wp_region_seq ?_
  refine wpL_assign (v := .bool false) (by rfl) (by rfl) (by rfl) ?_
  simp only [putT, List.set]
  refine wpL_nil (no_panic ?_)
  refine hK1 _ _ ?_
  refine wp_seq_k (fun K3 hK3 => ?_)
  refine wp_region_seq ?_
  refine wpL_move (v := vls) (by rfl) (by rfl) (by rfl) ?_
  simp only [putT, List.set]
  refine wpL_callE (f := 46) (args := #[vls]) (R := MemRow w ((cutsS 50 40 ls).length) (scells (cutsS 50 40 ls))) (by rfl) (by rfl) rfl Tryd.func46 (by kernel_rfl) (by kernel_rfl) (few9_c (hvls.mem M)) (fun v9 w6 hv9 Sw6 => ?_)
  obtain ⟨g5, g5c, rfl, Cg5, M9⟩ := hv9
  replace M := M.call1 M9
  simp only [putT, List.set]
  refine wpL_assign (v := .slice (some ⟨g5, 0, none⟩) ((cutsS 50 40 ls).length) g5c) (by rfl) (by rfl) (by rfl) ?_
  simp only [putT, List.set]
  refine wpL_nil (no_panic ?_)
  simp only [hQ] at M
  simp only [hQ]
  rw [hQ] at Cg5
  refine hK3 _ _ ?_
  refine wp_seq_k (fun K7 hK7 => ?_)
  refine wp_region_grow 12 [] (by kernel_rfl) (by kernel_rfl) (by kernel_rfl) (fun Lk hLk => ?_)
  simp only [List.take, List.drop]
  refine wpV_move (v := .string (bs la)) (by rfl) rfl rfl ?_
  simp only [putT, List.set]
  refine wpV_move (v := .string (bs la)) (by rfl) rfl rfl ?_
  simp only [putT, List.set]
  refine wpV_lenS (by rfl) rfl rfl rfl Tryd.underlying9 ?_
  simp only [putT, List.set]
  refine wpV_min (n := la.length) (m := 40) (by rfl) rfl rfl rfl ?_
  simp only [putT, List.set]
  refine wpV_cut (l := la) (m := 40) (by rfl) rfl rfl rfl Tryd.underlying9 ?_
  simp only [putT, List.set]
  refine wpV_move (v := .string (bs lb)) (by rfl) rfl rfl ?_
  simp only [putT, List.set]
  refine wpV_move (v := .string (bs lb)) (by rfl) rfl rfl ?_
  simp only [putT, List.set]
  refine wpV_lenS (by rfl) rfl rfl rfl Tryd.underlying9 ?_
  simp only [putT, List.set]
  refine wpV_min (n := lb.length) (m := 40) (by rfl) rfl rfl rfl ?_
  simp only [putT, List.set]
  refine wpV_cut (l := lb) (m := 40) (by rfl) rfl rfl rfl Tryd.underlying9 ?_
  simp only [putT, List.set]
  refine wpV_assign (v := .string (bs (cut la 40))) (by rfl) rfl rfl ?_
  simp only [putT, List.set]
  refine wpV_assign (v := .string (bs (cut lb 40))) (by rfl) rfl rfl ?_
  simp only [putT, List.set]
  refine wpV_nil (hLk.out _ ?_)
  clear hLk Lk
  simp only [List.take, List.drop]
  iterate 12 refine wpN_skip (by rfl) ?_
  refine wpN_nil (fun w9 Sw9 hbs => ?_)
  clear hbs
  replace M := M.sees Sw9
  refine wpL_nil (no_panic ?_)
  simp only [hL, hR]
  refine hK7 _ _ ?_
  refine wp_seq_k (fun K10 hK10 => ?_)
  refine wp_region_seq ?_
  refine wpL_move (v := .int .i64 x) (by rfl) (by rfl) (by rfl) ?_
  simp only [putT, List.set]
  refine wpL_move (v := .int .i64 y) (by rfl) (by rfl) (by rfl) ?_
  simp only [putT, List.set]
  refine wpL_move (v := .string (bs old)) (by rfl) (by rfl) (by rfl) ?_
  simp only [putT, List.set]
  refine wpL_move (v := .string (bs root)) (by rfl) (by rfl) (by rfl) ?_
  simp only [putT, List.set]
  refine wpL_move (v := .slice (some ⟨g5, 0, none⟩) Ql.length g5c) (by rfl) (by rfl) (by rfl) ?_
  simp only [putT, List.set]
  refine wpL_chunk 1 (by rfl) (fun Lk hLk => ?_)
  simp only [List.take, List.drop]
  refine wpV_callf (v := .int .i64 1) (args := #[.int .i64 x, .int .i64 y, .string (bs old), .string (bs root), .slice (some ⟨g5, 0, none⟩) Ql.length g5c]) (by rfl) rfl Tryd.func67 (by kernel_rfl) (by kernel_rfl) rfl (fun W hW => by with_reducible exact Follows_neg hq hx ((M.sees hW).oldL L0) ((M.sees hW).oldR R0_0 L0) (RowA.of ((M.sees hW).r 0 0 rfl rfl) ((M.sees hW).lt 0 rfl) (scells_len _).symm Cg5)) ?_
  simp only [putT, List.set]
  refine wpV_nil (hLk _ (fun w12 Sw12 => ?_))
  clear hLk Lk
  simp only [List.take, List.drop]
  replace M := M.sees Sw12
  refine wpL_assign (v := .int .i64 1) (by rfl) (by rfl) (by rfl) ?_
  simp only [putT, List.set]
  refine wpL_nil (no_panic ?_)
  refine hK10 _ _ ?_
  refine wp_seq_k (fun K13 hK13 => ?_)
  refine wp_seq_k (fun K14 hK14 => ?_)
  refine wp_region_seq ?_
  refine wpL_move (v := .int .i64 x) (by rfl) (by rfl) (by rfl) ?_
  simp only [putT, List.set]
  refine wpL_chunk 25 (by rfl) (fun Lk hLk => ?_)
  simp only [List.take, List.drop]
  refine wpV_bin (v := .bool true) (by rfl) rfl rfl rfl (fun W => (run_lss _ _ _ _ W).trans (by rw [(decide_eq_true hx)])) ?_
  simp only [putT, List.set]
  refine wpV_move (v := .bool true) (by rfl) rfl rfl ?_
  simp only [putT, List.set]
  refine wpV_skip (by rfl) (by rfl) ?_
  simp only [putT, List.set]
  refine wpV_skip (by rfl) (by rfl) ?_
  simp only [putT, List.set]
  refine wpV_skip (by rfl) (by rfl) ?_
  simp only [putT, List.set]
  refine wpV_pick (v := .bool true) (by rfl) rfl rfl rfl ?_
  simp only [putT, List.set]
  refine wpV_move (v := .bool true) (by rfl) rfl rfl ?_
  simp only [putT, List.set]
  refine wpV_skip (by rfl) (by rfl) ?_
  simp only [putT, List.set]
  refine wpV_skip (by rfl) (by rfl) ?_
  simp only [putT, List.set]
  refine wpV_pick (v := .bool true) (by rfl) rfl rfl rfl ?_
  simp only [putT, List.set]
  refine wpV_move (v := .bool true) (by rfl) rfl rfl ?_
  simp only [putT, List.set]
  refine wpV_skip (by rfl) (by rfl) ?_
  simp only [putT, List.set]
  refine wpV_skip (by rfl) (by rfl) ?_
  simp only [putT, List.set]
  refine wpV_skip (by rfl) (by rfl) ?_
  simp only [putT, List.set]
  refine wpV_pick (v := .bool true) (by rfl) rfl rfl rfl ?_
  simp only [putT, List.set]
  refine wpV_move (v := .bool true) (by rfl) rfl rfl ?_
  simp only [putT, List.set]
  refine wpV_skip (by rfl) (by rfl) ?_
  simp only [putT, List.set]
  refine wpV_skip (by rfl) (by rfl) ?_
  simp only [putT, List.set]
  refine wpV_skip (by rfl) (by rfl) ?_
  simp only [putT, List.set]
  refine wpV_pick (v := .bool true) (by rfl) rfl rfl rfl ?_
  simp only [putT, List.set]
  refine wpV_move (v := .bool true) (by rfl) rfl rfl ?_
  simp only [putT, List.set]
  refine wpV_skip (by rfl) (by rfl) ?_
  simp only [putT, List.set]
  refine wpV_skip (by rfl) (by rfl) ?_
  simp only [putT, List.set]
  refine wpV_skip (by rfl) (by rfl) ?_
  simp only [putT, List.set]
  refine wpV_pick (v := .bool true) (by rfl) rfl rfl rfl ?_
  simp only [putT, List.set]
  refine wpV_nil (hLk _ (fun w16 Sw16 => ?_))
  clear hLk Lk
  simp only [List.take, List.drop]
  replace M := M.sees Sw16
  refine wpL_nil (no_panic ?_)
  refine hK14 _ _ ?_
  refine wp_cond_true rfl ?_
  refine wp_seq_k (fun K17 hK17 => ?_)
  refine wp_region_seq ?_
  refine wpL_chunk 5 (by rfl) (fun Lk hLk => ?_)
  simp only [List.take, List.drop]
  refine wpV_callf (v := .bool true) (args := #[]) (by rfl) rfl Tryd.func49 (by kernel_rfl) (by kernel_rfl) rfl (fun W hW => alive09_c ((M.sees hW).oldL L0) ((M.sees hW).oldR R0_0 L0)) ?_
  simp only [putT, List.set]
  refine wpV_move (v := .bool true) (by rfl) rfl rfl ?_
  simp only [putT, List.set]
  refine wpV_move (v := .int .i64 1) (by rfl) rfl rfl ?_
  simp only [putT, List.set]
  refine wpV_bin (v := .bool true) (by rfl) rfl rfl rfl (fun W => run_eql _ _ _ _ W) ?_
  simp only [putT, List.set]
  refine wpV_pick (v := .bool true) (by rfl) rfl rfl rfl ?_
  simp only [putT, List.set]
  refine wpV_nil (hLk _ (fun w19 Sw19 => ?_))
  clear hLk Lk
  simp only [List.take, List.drop]
  replace M := M.sees Sw19
  refine wpL_assign (v := .bool true) (by rfl) (by rfl) (by rfl) ?_
  simp only [putT, List.set]
  refine wpL_nil (no_panic ?_)
  refine hK17 _ _ ?_
  refine wp_ret ?_
  repeat (first | with_reducible refine then_ret ?_ | with_reducible refine inblock_ret ?_)
  refine bodyPost_ret (v := .bool true) (res1 rfl (.tmp (by rfl))) rfl ?_
  have BE := M.below
  exact ⟨rfl, BE⟩
set_option maxHeartbeats 4000000 in
theorem lfol_far {vls : Value} {ls Ql : List (List UInt8)} {la lb old root : List UInt8} {x y : Int} {w : World} (hQ : cutsS 50 40 ls = Ql) (hQL : Ql.length ≤ 50) (hL : cut la 40 = old) (hR : cut lb 40 = root) (hx : ¬ x < 0) (hy : y < x) (L0 : 0 < w.heap.size) (R0_0 : w.rangeAt 0 0 kcells) (hvls : RowS w vls ls) :
    Calls Tryd.prog 17 #[.int .i64 x, .int .i64 y, .string (bs la), .string (bs lb), vls] w fun e w' => e = .returned (.bool true) ∧ Below w.heap.size w w' := by
  have hq : Ql.length ≤ 4611686018427387904 := by omega
  go_enter Tryd.func17, Tryd.ntmps17
  have M := Mem.start w
  refine wp_seq_k (fun K1 hK1 => ?_)
  refine wp_region_seq ?_
  refine wpL_assign (v := .bool false) (by rfl) (by rfl) (by rfl) ?_
  simp only [putT, List.set]
  refine wpL_nil (no_panic ?_)
  refine hK1 _ _ ?_
  refine wp_seq_k (fun K3 hK3 => ?_)
  refine wp_region_seq ?_
  refine wpL_move (v := vls) (by rfl) (by rfl) (by rfl) ?_
  simp only [putT, List.set]
  refine wpL_callE (f := 46) (args := #[vls]) (R := MemRow w ((cutsS 50 40 ls).length) (scells (cutsS 50 40 ls))) (by rfl) (by rfl) rfl Tryd.func46 (by kernel_rfl) (by kernel_rfl) (few9_c (hvls.mem M)) (fun v9 w6 hv9 Sw6 => ?_)
  obtain ⟨g5, g5c, rfl, Cg5, M9⟩ := hv9
  replace M := M.call1 M9
  simp only [putT, List.set]
  refine wpL_assign (v := .slice (some ⟨g5, 0, none⟩) ((cutsS 50 40 ls).length) g5c) (by rfl) (by rfl) (by rfl) ?_
  simp only [putT, List.set]
  refine wpL_nil (no_panic ?_)
  simp only [hQ] at M
  simp only [hQ]
  rw [hQ] at Cg5
  refine hK3 _ _ ?_
  refine wp_seq_k (fun K7 hK7 => ?_)
  refine wp_region_grow 12 [] (by kernel_rfl) (by kernel_rfl) (by kernel_rfl) (fun Lk hLk => ?_)
  simp only [List.take, List.drop]
  refine wpV_move (v := .string (bs la)) (by rfl) rfl rfl ?_
  simp only [putT, List.set]
  refine wpV_move (v := .string (bs la)) (by rfl) rfl rfl ?_
  simp only [putT, List.set]
  refine wpV_lenS (by rfl) rfl rfl rfl Tryd.underlying9 ?_
  simp only [putT, List.set]
  refine wpV_min (n := la.length) (m := 40) (by rfl) rfl rfl rfl ?_
  simp only [putT, List.set]
  refine wpV_cut (l := la) (m := 40) (by rfl) rfl rfl rfl Tryd.underlying9 ?_
  simp only [putT, List.set]
  refine wpV_move (v := .string (bs lb)) (by rfl) rfl rfl ?_
  simp only [putT, List.set]
  refine wpV_move (v := .string (bs lb)) (by rfl) rfl rfl ?_
  simp only [putT, List.set]
  refine wpV_lenS (by rfl) rfl rfl rfl Tryd.underlying9 ?_
  simp only [putT, List.set]
  refine wpV_min (n := lb.length) (m := 40) (by rfl) rfl rfl rfl ?_
  simp only [putT, List.set]
  refine wpV_cut (l := lb) (m := 40) (by rfl) rfl rfl rfl Tryd.underlying9 ?_
  simp only [putT, List.set]
  refine wpV_assign (v := .string (bs (cut la 40))) (by rfl) rfl rfl ?_
  simp only [putT, List.set]
  refine wpV_assign (v := .string (bs (cut lb 40))) (by rfl) rfl rfl ?_
  simp only [putT, List.set]
  refine wpV_nil (hLk.out _ ?_)
  clear hLk Lk
  simp only [List.take, List.drop]
  iterate 12 refine wpN_skip (by rfl) ?_
  refine wpN_nil (fun w9 Sw9 hbs => ?_)
  clear hbs
  replace M := M.sees Sw9
  refine wpL_nil (no_panic ?_)
  simp only [hL, hR]
  refine hK7 _ _ ?_
  refine wp_seq_k (fun K10 hK10 => ?_)
  refine wp_region_seq ?_
  refine wpL_move (v := .int .i64 x) (by rfl) (by rfl) (by rfl) ?_
  simp only [putT, List.set]
  refine wpL_move (v := .int .i64 y) (by rfl) (by rfl) (by rfl) ?_
  simp only [putT, List.set]
  refine wpL_move (v := .string (bs old)) (by rfl) (by rfl) (by rfl) ?_
  simp only [putT, List.set]
  refine wpL_move (v := .string (bs root)) (by rfl) (by rfl) (by rfl) ?_
  simp only [putT, List.set]
  refine wpL_move (v := .slice (some ⟨g5, 0, none⟩) Ql.length g5c) (by rfl) (by rfl) (by rfl) ?_
  simp only [putT, List.set]
  refine wpL_chunk 1 (by rfl) (fun Lk hLk => ?_)
  simp only [List.take, List.drop]
  refine wpV_callf (v := .int .i64 1) (args := #[.int .i64 x, .int .i64 y, .string (bs old), .string (bs root), .slice (some ⟨g5, 0, none⟩) Ql.length g5c]) (by rfl) rfl Tryd.func67 (by kernel_rfl) (by kernel_rfl) rfl (fun W hW => by with_reducible exact Follows_far hq hx hy ((M.sees hW).oldL L0) ((M.sees hW).oldR R0_0 L0) (RowA.of ((M.sees hW).r 0 0 rfl rfl) ((M.sees hW).lt 0 rfl) (scells_len _).symm Cg5)) ?_
  simp only [putT, List.set]
  refine wpV_nil (hLk _ (fun w12 Sw12 => ?_))
  clear hLk Lk
  simp only [List.take, List.drop]
  replace M := M.sees Sw12
  refine wpL_assign (v := .int .i64 1) (by rfl) (by rfl) (by rfl) ?_
  simp only [putT, List.set]
  refine wpL_nil (no_panic ?_)
  refine hK10 _ _ ?_
  refine wp_seq_k (fun K13 hK13 => ?_)
  refine wp_seq_k (fun K14 hK14 => ?_)
  refine wp_region_seq ?_
  refine wpL_move (v := .int .i64 x) (by rfl) (by rfl) (by rfl) ?_
  simp only [putT, List.set]
  refine wpL_chunk 25 (by rfl) (fun Lk hLk => ?_)
  simp only [List.take, List.drop]
  refine wpV_bin (v := .bool false) (by rfl) rfl rfl rfl (fun W => (run_lss _ _ _ _ W).trans (by rw [(decide_eq_false hx)])) ?_
  simp only [putT, List.set]
  refine wpV_move (v := .bool false) (by rfl) rfl rfl ?_
  simp only [putT, List.set]
  refine wpV_move (v := .int .i64 x) (by rfl) rfl rfl ?_
  simp only [putT, List.set]
  refine wpV_move (v := .int .i64 y) (by rfl) rfl rfl ?_
  simp only [putT, List.set]
  refine wpV_bin (v := .bool true) (by rfl) rfl rfl rfl (fun W => (run_gtr _ _ _ _ W).trans (by rw [(decide_eq_true hy)])) ?_
  simp only [putT, List.set]
  refine wpV_pick (v := .bool true) (by rfl) rfl rfl rfl ?_
  simp only [putT, List.set]
  refine wpV_move (v := .bool true) (by rfl) rfl rfl ?_
  simp only [putT, List.set]
  refine wpV_skip (by rfl) (by rfl) ?_
  simp only [putT, List.set]
  refine wpV_skip (by rfl) (by rfl) ?_
  simp only [putT, List.set]
  refine wpV_pick (v := .bool true) (by rfl) rfl rfl rfl ?_
  simp only [putT, List.set]
  refine wpV_move (v := .bool true) (by rfl) rfl rfl ?_
  simp only [putT, List.set]
  refine wpV_skip (by rfl) (by rfl) ?_
  simp only [putT, List.set]
  refine wpV_skip (by rfl) (by rfl) ?_
  simp only [putT, List.set]
  refine wpV_skip (by rfl) (by rfl) ?_
  simp only [putT, List.set]
  refine wpV_pick (v := .bool true) (by rfl) rfl rfl rfl ?_
  simp only [putT, List.set]
  refine wpV_move (v := .bool true) (by rfl) rfl rfl ?_
  simp only [putT, List.set]
  refine wpV_skip (by rfl) (by rfl) ?_
  simp only [putT, List.set]
  refine wpV_skip (by rfl) (by rfl) ?_
  simp only [putT, List.set]
  refine wpV_skip (by rfl) (by rfl) ?_
  simp only [putT, List.set]
  refine wpV_pick (v := .bool true) (by rfl) rfl rfl rfl ?_
  simp only [putT, List.set]
  refine wpV_move (v := .bool true) (by rfl) rfl rfl ?_
  simp only [putT, List.set]
  refine wpV_skip (by rfl) (by rfl) ?_
  simp only [putT, List.set]
  refine wpV_skip (by rfl) (by rfl) ?_
  simp only [putT, List.set]
  refine wpV_skip (by rfl) (by rfl) ?_
  simp only [putT, List.set]
  refine wpV_pick (v := .bool true) (by rfl) rfl rfl rfl ?_
  simp only [putT, List.set]
  refine wpV_nil (hLk _ (fun w16 Sw16 => ?_))
  clear hLk Lk
  simp only [List.take, List.drop]
  replace M := M.sees Sw16
  refine wpL_nil (no_panic ?_)
  refine hK14 _ _ ?_
  refine wp_cond_true rfl ?_
  refine wp_seq_k (fun K17 hK17 => ?_)
  refine wp_region_seq ?_
  refine wpL_chunk 5 (by rfl) (fun Lk hLk => ?_)
  simp only [List.take, List.drop]
  refine wpV_callf (v := .bool true) (args := #[]) (by rfl) rfl Tryd.func49 (by kernel_rfl) (by kernel_rfl) rfl (fun W hW => alive09_c ((M.sees hW).oldL L0) ((M.sees hW).oldR R0_0 L0)) ?_
  simp only [putT, List.set]
  refine wpV_move (v := .bool true) (by rfl) rfl rfl ?_
  simp only [putT, List.set]
  refine wpV_move (v := .int .i64 1) (by rfl) rfl rfl ?_
  simp only [putT, List.set]
  refine wpV_bin (v := .bool true) (by rfl) rfl rfl rfl (fun W => run_eql _ _ _ _ W) ?_
  simp only [putT, List.set]
  refine wpV_pick (v := .bool true) (by rfl) rfl rfl rfl ?_
  simp only [putT, List.set]
  refine wpV_nil (hLk _ (fun w19 Sw19 => ?_))
  clear hLk Lk
  simp only [List.take, List.drop]
  replace M := M.sees Sw19
  refine wpL_assign (v := .bool true) (by rfl) (by rfl) (by rfl) ?_
  simp only [putT, List.set]
  refine wpL_nil (no_panic ?_)
  refine hK17 _ _ ?_
  refine wp_ret ?_
  repeat (first | with_reducible refine then_ret ?_ | with_reducible refine inblock_ret ?_)
  refine bodyPost_ret (v := .bool true) (res1 rfl (.tmp (by rfl))) rfl ?_
  have BE := M.below
  exact ⟨rfl, BE⟩
set_option maxHeartbeats 4000000 in
theorem lfol_many {vls : Value} {ls Ql : List (List UInt8)} {la lb old root : List UInt8} {x y : Int} {w : World} (hQ : cutsS 50 40 ls = Ql) (hQL : Ql.length ≤ 50) (hL : cut la 40 = old) (hR : cut lb 40 = root) (hx : ¬ x < 0) (hy : ¬ y < x) (hm : 4096 < y) (L0 : 0 < w.heap.size) (R0_0 : w.rangeAt 0 0 kcells) (hvls : RowS w vls ls) :
    Calls Tryd.prog 17 #[.int .i64 x, .int .i64 y, .string (bs la), .string (bs lb), vls] w fun e w' => e = .returned (.bool true) ∧ Below w.heap.size w w' := by
  have hq : Ql.length ≤ 4611686018427387904 := by omega
  go_enter Tryd.func17, Tryd.ntmps17
  have M := Mem.start w
  refine wp_seq_k (fun K1 hK1 => ?_)
  refine wp_region_seq ?_
  refine wpL_assign (v := .bool false) (by rfl) (by rfl) (by rfl) ?_
  simp only [putT, List.set]
  refine wpL_nil (no_panic ?_)
  refine hK1 _ _ ?_
  refine wp_seq_k (fun K3 hK3 => ?_)
  refine wp_region_seq ?_
  refine wpL_move (v := vls) (by rfl) (by rfl) (by rfl) ?_
  simp only [putT, List.set]
  refine wpL_callE (f := 46) (args := #[vls]) (R := MemRow w ((cutsS 50 40 ls).length) (scells (cutsS 50 40 ls))) (by rfl) (by rfl) rfl Tryd.func46 (by kernel_rfl) (by kernel_rfl) (few9_c (hvls.mem M)) (fun v9 w6 hv9 Sw6 => ?_)
  obtain ⟨g5, g5c, rfl, Cg5, M9⟩ := hv9
  replace M := M.call1 M9
  simp only [putT, List.set]
  refine wpL_assign (v := .slice (some ⟨g5, 0, none⟩) ((cutsS 50 40 ls).length) g5c) (by rfl) (by rfl) (by rfl) ?_
  simp only [putT, List.set]
  refine wpL_nil (no_panic ?_)
  simp only [hQ] at M
  simp only [hQ]
  rw [hQ] at Cg5
  refine hK3 _ _ ?_
  refine wp_seq_k (fun K7 hK7 => ?_)
  refine wp_region_grow 12 [] (by kernel_rfl) (by kernel_rfl) (by kernel_rfl) (fun Lk hLk => ?_)
  simp only [List.take, List.drop]
  refine wpV_move (v := .string (bs la)) (by rfl) rfl rfl ?_
  simp only [putT, List.set]
  refine wpV_move (v := .string (bs la)) (by rfl) rfl rfl ?_
  simp only [putT, List.set]
  refine wpV_lenS (by rfl) rfl rfl rfl Tryd.underlying9 ?_
  simp only [putT, List.set]
  refine wpV_min (n := la.length) (m := 40) (by rfl) rfl rfl rfl ?_
  simp only [putT, List.set]
  refine wpV_cut (l := la) (m := 40) (by rfl) rfl rfl rfl Tryd.underlying9 ?_
  simp only [putT, List.set]
  refine wpV_move (v := .string (bs lb)) (by rfl) rfl rfl ?_
  simp only [putT, List.set]
  refine wpV_move (v := .string (bs lb)) (by rfl) rfl rfl ?_
  simp only [putT, List.set]
  refine wpV_lenS (by rfl) rfl rfl rfl Tryd.underlying9 ?_
  simp only [putT, List.set]
  refine wpV_min (n := lb.length) (m := 40) (by rfl) rfl rfl rfl ?_
  simp only [putT, List.set]
  refine wpV_cut (l := lb) (m := 40) (by rfl) rfl rfl rfl Tryd.underlying9 ?_
  simp only [putT, List.set]
  refine wpV_assign (v := .string (bs (cut la 40))) (by rfl) rfl rfl ?_
  simp only [putT, List.set]
  refine wpV_assign (v := .string (bs (cut lb 40))) (by rfl) rfl rfl ?_
  simp only [putT, List.set]
  refine wpV_nil (hLk.out _ ?_)
  clear hLk Lk
  simp only [List.take, List.drop]
  iterate 12 refine wpN_skip (by rfl) ?_
  refine wpN_nil (fun w9 Sw9 hbs => ?_)
  clear hbs
  replace M := M.sees Sw9
  refine wpL_nil (no_panic ?_)
  simp only [hL, hR]
  refine hK7 _ _ ?_
  refine wp_seq_k (fun K10 hK10 => ?_)
  refine wp_region_seq ?_
  refine wpL_move (v := .int .i64 x) (by rfl) (by rfl) (by rfl) ?_
  simp only [putT, List.set]
  refine wpL_move (v := .int .i64 y) (by rfl) (by rfl) (by rfl) ?_
  simp only [putT, List.set]
  refine wpL_move (v := .string (bs old)) (by rfl) (by rfl) (by rfl) ?_
  simp only [putT, List.set]
  refine wpL_move (v := .string (bs root)) (by rfl) (by rfl) (by rfl) ?_
  simp only [putT, List.set]
  refine wpL_move (v := .slice (some ⟨g5, 0, none⟩) Ql.length g5c) (by rfl) (by rfl) (by rfl) ?_
  simp only [putT, List.set]
  refine wpL_chunk 1 (by rfl) (fun Lk hLk => ?_)
  simp only [List.take, List.drop]
  refine wpV_callf (v := .int .i64 1) (args := #[.int .i64 x, .int .i64 y, .string (bs old), .string (bs root), .slice (some ⟨g5, 0, none⟩) Ql.length g5c]) (by rfl) rfl Tryd.func67 (by kernel_rfl) (by kernel_rfl) rfl (fun W hW => by with_reducible exact Follows_many hq hx hy hm ((M.sees hW).oldL L0) ((M.sees hW).oldR R0_0 L0) (RowA.of ((M.sees hW).r 0 0 rfl rfl) ((M.sees hW).lt 0 rfl) (scells_len _).symm Cg5)) ?_
  simp only [putT, List.set]
  refine wpV_nil (hLk _ (fun w12 Sw12 => ?_))
  clear hLk Lk
  simp only [List.take, List.drop]
  replace M := M.sees Sw12
  refine wpL_assign (v := .int .i64 1) (by rfl) (by rfl) (by rfl) ?_
  simp only [putT, List.set]
  refine wpL_nil (no_panic ?_)
  refine hK10 _ _ ?_
  refine wp_seq_k (fun K13 hK13 => ?_)
  refine wp_seq_k (fun K14 hK14 => ?_)
  refine wp_region_seq ?_
  refine wpL_move (v := .int .i64 x) (by rfl) (by rfl) (by rfl) ?_
  simp only [putT, List.set]
  refine wpL_chunk 25 (by rfl) (fun Lk hLk => ?_)
  simp only [List.take, List.drop]
  refine wpV_bin (v := .bool false) (by rfl) rfl rfl rfl (fun W => (run_lss _ _ _ _ W).trans (by rw [(decide_eq_false hx)])) ?_
  simp only [putT, List.set]
  refine wpV_move (v := .bool false) (by rfl) rfl rfl ?_
  simp only [putT, List.set]
  refine wpV_move (v := .int .i64 x) (by rfl) rfl rfl ?_
  simp only [putT, List.set]
  refine wpV_move (v := .int .i64 y) (by rfl) rfl rfl ?_
  simp only [putT, List.set]
  refine wpV_bin (v := .bool false) (by rfl) rfl rfl rfl (fun W => (run_gtr _ _ _ _ W).trans (by rw [(decide_eq_false hy)])) ?_
  simp only [putT, List.set]
  refine wpV_pick (v := .bool false) (by rfl) rfl rfl rfl ?_
  simp only [putT, List.set]
  refine wpV_move (v := .bool false) (by rfl) rfl rfl ?_
  simp only [putT, List.set]
  refine wpV_move (v := .int .i64 y) (by rfl) rfl rfl ?_
  simp only [putT, List.set]
  refine wpV_bin (v := .bool true) (by rfl) rfl rfl rfl (fun W => (run_gtr _ _ _ _ W).trans (by rw [(decide_eq_true hm)])) ?_
  simp only [putT, List.set]
  refine wpV_pick (v := .bool true) (by rfl) rfl rfl rfl ?_
  simp only [putT, List.set]
  refine wpV_move (v := .bool true) (by rfl) rfl rfl ?_
  simp only [putT, List.set]
  refine wpV_skip (by rfl) (by rfl) ?_
  simp only [putT, List.set]
  refine wpV_skip (by rfl) (by rfl) ?_
  simp only [putT, List.set]
  refine wpV_skip (by rfl) (by rfl) ?_
  simp only [putT, List.set]
  refine wpV_pick (v := .bool true) (by rfl) rfl rfl rfl ?_
  simp only [putT, List.set]
  refine wpV_move (v := .bool true) (by rfl) rfl rfl ?_
  simp only [putT, List.set]
  refine wpV_skip (by rfl) (by rfl) ?_
  simp only [putT, List.set]
  refine wpV_skip (by rfl) (by rfl) ?_
  simp only [putT, List.set]
  refine wpV_skip (by rfl) (by rfl) ?_
  simp only [putT, List.set]
  refine wpV_pick (v := .bool true) (by rfl) rfl rfl rfl ?_
  simp only [putT, List.set]
  refine wpV_move (v := .bool true) (by rfl) rfl rfl ?_
  simp only [putT, List.set]
  refine wpV_skip (by rfl) (by rfl) ?_
  simp only [putT, List.set]
  refine wpV_skip (by rfl) (by rfl) ?_
  simp only [putT, List.set]
  refine wpV_skip (by rfl) (by rfl) ?_
  simp only [putT, List.set]
  refine wpV_pick (v := .bool true) (by rfl) rfl rfl rfl ?_
  simp only [putT, List.set]
  refine wpV_nil (hLk _ (fun w16 Sw16 => ?_))
  clear hLk Lk
  simp only [List.take, List.drop]
  replace M := M.sees Sw16
  refine wpL_nil (no_panic ?_)
  refine hK14 _ _ ?_
  refine wp_cond_true rfl ?_
  refine wp_seq_k (fun K17 hK17 => ?_)
  refine wp_region_seq ?_
  refine wpL_chunk 5 (by rfl) (fun Lk hLk => ?_)
  simp only [List.take, List.drop]
  refine wpV_callf (v := .bool true) (args := #[]) (by rfl) rfl Tryd.func49 (by kernel_rfl) (by kernel_rfl) rfl (fun W hW => alive09_c ((M.sees hW).oldL L0) ((M.sees hW).oldR R0_0 L0)) ?_
  simp only [putT, List.set]
  refine wpV_move (v := .bool true) (by rfl) rfl rfl ?_
  simp only [putT, List.set]
  refine wpV_move (v := .int .i64 1) (by rfl) rfl rfl ?_
  simp only [putT, List.set]
  refine wpV_bin (v := .bool true) (by rfl) rfl rfl rfl (fun W => run_eql _ _ _ _ W) ?_
  simp only [putT, List.set]
  refine wpV_pick (v := .bool true) (by rfl) rfl rfl rfl ?_
  simp only [putT, List.set]
  refine wpV_nil (hLk _ (fun w19 Sw19 => ?_))
  clear hLk Lk
  simp only [List.take, List.drop]
  replace M := M.sees Sw19
  refine wpL_assign (v := .bool true) (by rfl) (by rfl) (by rfl) ?_
  simp only [putT, List.set]
  refine wpL_nil (no_panic ?_)
  refine hK17 _ _ ?_
  refine wp_ret ?_
  repeat (first | with_reducible refine then_ret ?_ | with_reducible refine inblock_ret ?_)
  refine bodyPost_ret (v := .bool true) (res1 rfl (.tmp (by rfl))) rfl ?_
  have BE := M.below
  exact ⟨rfl, BE⟩
set_option maxHeartbeats 4000000 in
theorem lfol_old {vls : Value} {ls Ql : List (List UInt8)} {la lb old root : List UInt8} {x y : Int} {w : World} (hQ : cutsS 50 40 ls = Ql) (hQL : Ql.length ≤ 50) (hL : cut la 40 = old) (hR : cut lb 40 = root) (hx : ¬ x < 0) (hy : ¬ y < x) (hm : ¬ 4096 < y) (h1 : old.length ≠ 32) (L0 : 0 < w.heap.size) (R0_0 : w.rangeAt 0 0 kcells) (hvls : RowS w vls ls) :
    Calls Tryd.prog 17 #[.int .i64 x, .int .i64 y, .string (bs la), .string (bs lb), vls] w fun e w' => e = .returned (.bool true) ∧ Below w.heap.size w w' := by
  have hq : Ql.length ≤ 4611686018427387904 := by omega
  go_enter Tryd.func17, Tryd.ntmps17
  have M := Mem.start w
  refine wp_seq_k (fun K1 hK1 => ?_)
  refine wp_region_seq ?_
  refine wpL_assign (v := .bool false) (by rfl) (by rfl) (by rfl) ?_
  simp only [putT, List.set]
  refine wpL_nil (no_panic ?_)
  refine hK1 _ _ ?_
  refine wp_seq_k (fun K3 hK3 => ?_)
  refine wp_region_seq ?_
  refine wpL_move (v := vls) (by rfl) (by rfl) (by rfl) ?_
  simp only [putT, List.set]
  refine wpL_callE (f := 46) (args := #[vls]) (R := MemRow w ((cutsS 50 40 ls).length) (scells (cutsS 50 40 ls))) (by rfl) (by rfl) rfl Tryd.func46 (by kernel_rfl) (by kernel_rfl) (few9_c (hvls.mem M)) (fun v9 w6 hv9 Sw6 => ?_)
  obtain ⟨g5, g5c, rfl, Cg5, M9⟩ := hv9
  replace M := M.call1 M9
  simp only [putT, List.set]
  refine wpL_assign (v := .slice (some ⟨g5, 0, none⟩) ((cutsS 50 40 ls).length) g5c) (by rfl) (by rfl) (by rfl) ?_
  simp only [putT, List.set]
  refine wpL_nil (no_panic ?_)
  simp only [hQ] at M
  simp only [hQ]
  rw [hQ] at Cg5
  refine hK3 _ _ ?_
  refine wp_seq_k (fun K7 hK7 => ?_)
  refine wp_region_grow 12 [] (by kernel_rfl) (by kernel_rfl) (by kernel_rfl) (fun Lk hLk => ?_)
  simp only [List.take, List.drop]
  refine wpV_move (v := .string (bs la)) (by rfl) rfl rfl ?_
  simp only [putT, List.set]
  refine wpV_move (v := .string (bs la)) (by rfl) rfl rfl ?_
  simp only [putT, List.set]
  refine wpV_lenS (by rfl) rfl rfl rfl Tryd.underlying9 ?_
  simp only [putT, List.set]
  refine wpV_min (n := la.length) (m := 40) (by rfl) rfl rfl rfl ?_
  simp only [putT, List.set]
  refine wpV_cut (l := la) (m := 40) (by rfl) rfl rfl rfl Tryd.underlying9 ?_
  simp only [putT, List.set]
  refine wpV_move (v := .string (bs lb)) (by rfl) rfl rfl ?_
  simp only [putT, List.set]
  refine wpV_move (v := .string (bs lb)) (by rfl) rfl rfl ?_
  simp only [putT, List.set]
  refine wpV_lenS (by rfl) rfl rfl rfl Tryd.underlying9 ?_
  simp only [putT, List.set]
  refine wpV_min (n := lb.length) (m := 40) (by rfl) rfl rfl rfl ?_
  simp only [putT, List.set]
  refine wpV_cut (l := lb) (m := 40) (by rfl) rfl rfl rfl Tryd.underlying9 ?_
  simp only [putT, List.set]
  refine wpV_assign (v := .string (bs (cut la 40))) (by rfl) rfl rfl ?_
  simp only [putT, List.set]
  refine wpV_assign (v := .string (bs (cut lb 40))) (by rfl) rfl rfl ?_
  simp only [putT, List.set]
  refine wpV_nil (hLk.out _ ?_)
  clear hLk Lk
  simp only [List.take, List.drop]
  iterate 12 refine wpN_skip (by rfl) ?_
  refine wpN_nil (fun w9 Sw9 hbs => ?_)
  clear hbs
  replace M := M.sees Sw9
  refine wpL_nil (no_panic ?_)
  simp only [hL, hR]
  refine hK7 _ _ ?_
  refine wp_seq_k (fun K10 hK10 => ?_)
  refine wp_region_seq ?_
  refine wpL_move (v := .int .i64 x) (by rfl) (by rfl) (by rfl) ?_
  simp only [putT, List.set]
  refine wpL_move (v := .int .i64 y) (by rfl) (by rfl) (by rfl) ?_
  simp only [putT, List.set]
  refine wpL_move (v := .string (bs old)) (by rfl) (by rfl) (by rfl) ?_
  simp only [putT, List.set]
  refine wpL_move (v := .string (bs root)) (by rfl) (by rfl) (by rfl) ?_
  simp only [putT, List.set]
  refine wpL_move (v := .slice (some ⟨g5, 0, none⟩) Ql.length g5c) (by rfl) (by rfl) (by rfl) ?_
  simp only [putT, List.set]
  refine wpL_chunk 1 (by rfl) (fun Lk hLk => ?_)
  simp only [List.take, List.drop]
  refine wpV_callf (v := .int .i64 1) (args := #[.int .i64 x, .int .i64 y, .string (bs old), .string (bs root), .slice (some ⟨g5, 0, none⟩) Ql.length g5c]) (by rfl) rfl Tryd.func67 (by kernel_rfl) (by kernel_rfl) rfl (fun W hW => by with_reducible exact Follows_two hq hx hy hm (two_no1 h1) ((M.sees hW).oldL L0) ((M.sees hW).oldR R0_0 L0) (RowA.of ((M.sees hW).r 0 0 rfl rfl) ((M.sees hW).lt 0 rfl) (scells_len _).symm Cg5)) ?_
  simp only [putT, List.set]
  refine wpV_nil (hLk _ (fun w12 Sw12 => ?_))
  clear hLk Lk
  simp only [List.take, List.drop]
  replace M := M.sees Sw12
  refine wpL_assign (v := .int .i64 1) (by rfl) (by rfl) (by rfl) ?_
  simp only [putT, List.set]
  refine wpL_nil (no_panic ?_)
  refine hK10 _ _ ?_
  refine wp_seq_k (fun K13 hK13 => ?_)
  refine wp_seq_k (fun K14 hK14 => ?_)
  refine wp_region_seq ?_
  refine wpL_move (v := .int .i64 x) (by rfl) (by rfl) (by rfl) ?_
  simp only [putT, List.set]
  refine wpL_chunk 25 (by rfl) (fun Lk hLk => ?_)
  simp only [List.take, List.drop]
  refine wpV_bin (v := .bool false) (by rfl) rfl rfl rfl (fun W => (run_lss _ _ _ _ W).trans (by rw [(decide_eq_false hx)])) ?_
  simp only [putT, List.set]
  refine wpV_move (v := .bool false) (by rfl) rfl rfl ?_
  simp only [putT, List.set]
  refine wpV_move (v := .int .i64 x) (by rfl) rfl rfl ?_
  simp only [putT, List.set]
  refine wpV_move (v := .int .i64 y) (by rfl) rfl rfl ?_
  simp only [putT, List.set]
  refine wpV_bin (v := .bool false) (by rfl) rfl rfl rfl (fun W => (run_gtr _ _ _ _ W).trans (by rw [(decide_eq_false hy)])) ?_
  simp only [putT, List.set]
  refine wpV_pick (v := .bool false) (by rfl) rfl rfl rfl ?_
  simp only [putT, List.set]
  refine wpV_move (v := .bool false) (by rfl) rfl rfl ?_
  simp only [putT, List.set]
  refine wpV_move (v := .int .i64 y) (by rfl) rfl rfl ?_
  simp only [putT, List.set]
  refine wpV_bin (v := .bool false) (by rfl) rfl rfl rfl (fun W => (run_gtr _ _ _ _ W).trans (by rw [(decide_eq_false hm)])) ?_
  simp only [putT, List.set]
  refine wpV_pick (v := .bool false) (by rfl) rfl rfl rfl ?_
  simp only [putT, List.set]
  refine wpV_move (v := .bool false) (by rfl) rfl rfl ?_
  simp only [putT, List.set]
  refine wpV_move (v := .string (bs old)) (by rfl) rfl rfl ?_
  simp only [putT, List.set]
  refine wpV_lenS (by rfl) rfl rfl rfl Tryd.underlying9 ?_
  simp only [putT, List.set]
  refine wpV_bin (v := .bool true) (by rfl) rfl rfl rfl (fun W => (run_neqN old.length 32 _ _ W).trans (by rw [(decide_eq_true h1)])) ?_
  simp only [putT, List.set]
  refine wpV_pick (v := .bool true) (by rfl) rfl rfl rfl ?_
  simp only [putT, List.set]
  refine wpV_move (v := .bool true) (by rfl) rfl rfl ?_
  simp only [putT, List.set]
  refine wpV_skip (by rfl) (by rfl) ?_
  simp only [putT, List.set]
  refine wpV_skip (by rfl) (by rfl) ?_
  simp only [putT, List.set]
  refine wpV_skip (by rfl) (by rfl) ?_
  simp only [putT, List.set]
  refine wpV_pick (v := .bool true) (by rfl) rfl rfl rfl ?_
  simp only [putT, List.set]
  refine wpV_move (v := .bool true) (by rfl) rfl rfl ?_
  simp only [putT, List.set]
  refine wpV_skip (by rfl) (by rfl) ?_
  simp only [putT, List.set]
  refine wpV_skip (by rfl) (by rfl) ?_
  simp only [putT, List.set]
  refine wpV_skip (by rfl) (by rfl) ?_
  simp only [putT, List.set]
  refine wpV_pick (v := .bool true) (by rfl) rfl rfl rfl ?_
  simp only [putT, List.set]
  refine wpV_nil (hLk _ (fun w16 Sw16 => ?_))
  clear hLk Lk
  simp only [List.take, List.drop]
  replace M := M.sees Sw16
  refine wpL_nil (no_panic ?_)
  refine hK14 _ _ ?_
  refine wp_cond_true rfl ?_
  refine wp_seq_k (fun K17 hK17 => ?_)
  refine wp_region_seq ?_
  refine wpL_chunk 5 (by rfl) (fun Lk hLk => ?_)
  simp only [List.take, List.drop]
  refine wpV_callf (v := .bool true) (args := #[]) (by rfl) rfl Tryd.func49 (by kernel_rfl) (by kernel_rfl) rfl (fun W hW => alive09_c ((M.sees hW).oldL L0) ((M.sees hW).oldR R0_0 L0)) ?_
  simp only [putT, List.set]
  refine wpV_move (v := .bool true) (by rfl) rfl rfl ?_
  simp only [putT, List.set]
  refine wpV_move (v := .int .i64 1) (by rfl) rfl rfl ?_
  simp only [putT, List.set]
  refine wpV_bin (v := .bool true) (by rfl) rfl rfl rfl (fun W => run_eql _ _ _ _ W) ?_
  simp only [putT, List.set]
  refine wpV_pick (v := .bool true) (by rfl) rfl rfl rfl ?_
  simp only [putT, List.set]
  refine wpV_nil (hLk _ (fun w19 Sw19 => ?_))
  clear hLk Lk
  simp only [List.take, List.drop]
  replace M := M.sees Sw19
  refine wpL_assign (v := .bool true) (by rfl) (by rfl) (by rfl) ?_
  simp only [putT, List.set]
  refine wpL_nil (no_panic ?_)
  refine hK17 _ _ ?_
  refine wp_ret ?_
  repeat (first | with_reducible refine then_ret ?_ | with_reducible refine inblock_ret ?_)
  refine bodyPost_ret (v := .bool true) (res1 rfl (.tmp (by rfl))) rfl ?_
  have BE := M.below
  exact ⟨rfl, BE⟩
set_option maxHeartbeats 4000000 in
theorem lfol_root {vls : Value} {ls Ql : List (List UInt8)} {la lb old root : List UInt8} {x y : Int} {w : World} (hQ : cutsS 50 40 ls = Ql) (hQL : Ql.length ≤ 50) (hL : cut la 40 = old) (hR : cut lb 40 = root) (hx : ¬ x < 0) (hy : ¬ y < x) (hm : ¬ 4096 < y) (h1 : ¬ old.length ≠ 32) (h2 : root.length ≠ 32) (L0 : 0 < w.heap.size) (R0_0 : w.rangeAt 0 0 kcells) (hvls : RowS w vls ls) :
    Calls Tryd.prog 17 #[.int .i64 x, .int .i64 y, .string (bs la), .string (bs lb), vls] w fun e w' => e = .returned (.bool true) ∧ Below w.heap.size w w' := by
  have hq : Ql.length ≤ 4611686018427387904 := by omega
  go_enter Tryd.func17, Tryd.ntmps17
  have M := Mem.start w
  refine wp_seq_k (fun K1 hK1 => ?_)
  refine wp_region_seq ?_
  refine wpL_assign (v := .bool false) (by rfl) (by rfl) (by rfl) ?_
  simp only [putT, List.set]
  refine wpL_nil (no_panic ?_)
  refine hK1 _ _ ?_
  refine wp_seq_k (fun K3 hK3 => ?_)
  refine wp_region_seq ?_
  refine wpL_move (v := vls) (by rfl) (by rfl) (by rfl) ?_
  simp only [putT, List.set]
  refine wpL_callE (f := 46) (args := #[vls]) (R := MemRow w ((cutsS 50 40 ls).length) (scells (cutsS 50 40 ls))) (by rfl) (by rfl) rfl Tryd.func46 (by kernel_rfl) (by kernel_rfl) (few9_c (hvls.mem M)) (fun v9 w6 hv9 Sw6 => ?_)
  obtain ⟨g5, g5c, rfl, Cg5, M9⟩ := hv9
  replace M := M.call1 M9
  simp only [putT, List.set]
  refine wpL_assign (v := .slice (some ⟨g5, 0, none⟩) ((cutsS 50 40 ls).length) g5c) (by rfl) (by rfl) (by rfl) ?_
  simp only [putT, List.set]
  refine wpL_nil (no_panic ?_)
  simp only [hQ] at M
  simp only [hQ]
  rw [hQ] at Cg5
  refine hK3 _ _ ?_
  refine wp_seq_k (fun K7 hK7 => ?_)
  refine wp_region_grow 12 [] (by kernel_rfl) (by kernel_rfl) (by kernel_rfl) (fun Lk hLk => ?_)
  simp only [List.take, List.drop]
  refine wpV_move (v := .string (bs la)) (by rfl) rfl rfl ?_
  simp only [putT, List.set]
  refine wpV_move (v := .string (bs la)) (by rfl) rfl rfl ?_
  simp only [putT, List.set]
  refine wpV_lenS (by rfl) rfl rfl rfl Tryd.underlying9 ?_
  simp only [putT, List.set]
  refine wpV_min (n := la.length) (m := 40) (by rfl) rfl rfl rfl ?_
  simp only [putT, List.set]
  refine wpV_cut (l := la) (m := 40) (by rfl) rfl rfl rfl Tryd.underlying9 ?_
  simp only [putT, List.set]
  refine wpV_move (v := .string (bs lb)) (by rfl) rfl rfl ?_
  simp only [putT, List.set]
  refine wpV_move (v := .string (bs lb)) (by rfl) rfl rfl ?_
  simp only [putT, List.set]
  refine wpV_lenS (by rfl) rfl rfl rfl Tryd.underlying9 ?_
  simp only [putT, List.set]
  refine wpV_min (n := lb.length) (m := 40) (by rfl) rfl rfl rfl ?_
  simp only [putT, List.set]
  refine wpV_cut (l := lb) (m := 40) (by rfl) rfl rfl rfl Tryd.underlying9 ?_
  simp only [putT, List.set]
  refine wpV_assign (v := .string (bs (cut la 40))) (by rfl) rfl rfl ?_
  simp only [putT, List.set]
  refine wpV_assign (v := .string (bs (cut lb 40))) (by rfl) rfl rfl ?_
  simp only [putT, List.set]
  refine wpV_nil (hLk.out _ ?_)
  clear hLk Lk
  simp only [List.take, List.drop]
  iterate 12 refine wpN_skip (by rfl) ?_
  refine wpN_nil (fun w9 Sw9 hbs => ?_)
  clear hbs
  replace M := M.sees Sw9
  refine wpL_nil (no_panic ?_)
  simp only [hL, hR]
  refine hK7 _ _ ?_
  refine wp_seq_k (fun K10 hK10 => ?_)
  refine wp_region_seq ?_
  refine wpL_move (v := .int .i64 x) (by rfl) (by rfl) (by rfl) ?_
  simp only [putT, List.set]
  refine wpL_move (v := .int .i64 y) (by rfl) (by rfl) (by rfl) ?_
  simp only [putT, List.set]
  refine wpL_move (v := .string (bs old)) (by rfl) (by rfl) (by rfl) ?_
  simp only [putT, List.set]
  refine wpL_move (v := .string (bs root)) (by rfl) (by rfl) (by rfl) ?_
  simp only [putT, List.set]
  refine wpL_move (v := .slice (some ⟨g5, 0, none⟩) Ql.length g5c) (by rfl) (by rfl) (by rfl) ?_
  simp only [putT, List.set]
  refine wpL_chunk 1 (by rfl) (fun Lk hLk => ?_)
  simp only [List.take, List.drop]
  refine wpV_callf (v := .int .i64 1) (args := #[.int .i64 x, .int .i64 y, .string (bs old), .string (bs root), .slice (some ⟨g5, 0, none⟩) Ql.length g5c]) (by rfl) rfl Tryd.func67 (by kernel_rfl) (by kernel_rfl) rfl (fun W hW => by with_reducible exact Follows_two hq hx hy hm (two_no2 h2) ((M.sees hW).oldL L0) ((M.sees hW).oldR R0_0 L0) (RowA.of ((M.sees hW).r 0 0 rfl rfl) ((M.sees hW).lt 0 rfl) (scells_len _).symm Cg5)) ?_
  simp only [putT, List.set]
  refine wpV_nil (hLk _ (fun w12 Sw12 => ?_))
  clear hLk Lk
  simp only [List.take, List.drop]
  replace M := M.sees Sw12
  refine wpL_assign (v := .int .i64 1) (by rfl) (by rfl) (by rfl) ?_
  simp only [putT, List.set]
  refine wpL_nil (no_panic ?_)
  refine hK10 _ _ ?_
  refine wp_seq_k (fun K13 hK13 => ?_)
  refine wp_seq_k (fun K14 hK14 => ?_)
  refine wp_region_seq ?_
  refine wpL_move (v := .int .i64 x) (by rfl) (by rfl) (by rfl) ?_
  simp only [putT, List.set]
  refine wpL_chunk 25 (by rfl) (fun Lk hLk => ?_)
  simp only [List.take, List.drop]
  refine wpV_bin (v := .bool false) (by rfl) rfl rfl rfl (fun W => (run_lss _ _ _ _ W).trans (by rw [(decide_eq_false hx)])) ?_
  simp only [putT, List.set]
  refine wpV_move (v := .bool false) (by rfl) rfl rfl ?_
  simp only [putT, List.set]
  refine wpV_move (v := .int .i64 x) (by rfl) rfl rfl ?_
  simp only [putT, List.set]
  refine wpV_move (v := .int .i64 y) (by rfl) rfl rfl ?_
  simp only [putT, List.set]
  refine wpV_bin (v := .bool false) (by rfl) rfl rfl rfl (fun W => (run_gtr _ _ _ _ W).trans (by rw [(decide_eq_false hy)])) ?_
  simp only [putT, List.set]
  refine wpV_pick (v := .bool false) (by rfl) rfl rfl rfl ?_
  simp only [putT, List.set]
  refine wpV_move (v := .bool false) (by rfl) rfl rfl ?_
  simp only [putT, List.set]
  refine wpV_move (v := .int .i64 y) (by rfl) rfl rfl ?_
  simp only [putT, List.set]
  refine wpV_bin (v := .bool false) (by rfl) rfl rfl rfl (fun W => (run_gtr _ _ _ _ W).trans (by rw [(decide_eq_false hm)])) ?_
  simp only [putT, List.set]
  refine wpV_pick (v := .bool false) (by rfl) rfl rfl rfl ?_
  simp only [putT, List.set]
  refine wpV_move (v := .bool false) (by rfl) rfl rfl ?_
  simp only [putT, List.set]
  refine wpV_move (v := .string (bs old)) (by rfl) rfl rfl ?_
  simp only [putT, List.set]
  refine wpV_lenS (by rfl) rfl rfl rfl Tryd.underlying9 ?_
  simp only [putT, List.set]
  refine wpV_bin (v := .bool false) (by rfl) rfl rfl rfl (fun W => (run_neqN old.length 32 _ _ W).trans (by rw [(decide_eq_false h1)])) ?_
  simp only [putT, List.set]
  refine wpV_pick (v := .bool false) (by rfl) rfl rfl rfl ?_
  simp only [putT, List.set]
  refine wpV_move (v := .bool false) (by rfl) rfl rfl ?_
  simp only [putT, List.set]
  refine wpV_move (v := .string (bs root)) (by rfl) rfl rfl ?_
  simp only [putT, List.set]
  refine wpV_lenS (by rfl) rfl rfl rfl Tryd.underlying9 ?_
  simp only [putT, List.set]
  refine wpV_bin (v := .bool true) (by rfl) rfl rfl rfl (fun W => (run_neqN root.length 32 _ _ W).trans (by rw [(decide_eq_true h2)])) ?_
  simp only [putT, List.set]
  refine wpV_pick (v := .bool true) (by rfl) rfl rfl rfl ?_
  simp only [putT, List.set]
  refine wpV_move (v := .bool true) (by rfl) rfl rfl ?_
  simp only [putT, List.set]
  refine wpV_skip (by rfl) (by rfl) ?_
  simp only [putT, List.set]
  refine wpV_skip (by rfl) (by rfl) ?_
  simp only [putT, List.set]
  refine wpV_skip (by rfl) (by rfl) ?_
  simp only [putT, List.set]
  refine wpV_pick (v := .bool true) (by rfl) rfl rfl rfl ?_
  simp only [putT, List.set]
  refine wpV_nil (hLk _ (fun w16 Sw16 => ?_))
  clear hLk Lk
  simp only [List.take, List.drop]
  replace M := M.sees Sw16
  refine wpL_nil (no_panic ?_)
  refine hK14 _ _ ?_
  refine wp_cond_true rfl ?_
  refine wp_seq_k (fun K17 hK17 => ?_)
  refine wp_region_seq ?_
  refine wpL_chunk 5 (by rfl) (fun Lk hLk => ?_)
  simp only [List.take, List.drop]
  refine wpV_callf (v := .bool true) (args := #[]) (by rfl) rfl Tryd.func49 (by kernel_rfl) (by kernel_rfl) rfl (fun W hW => alive09_c ((M.sees hW).oldL L0) ((M.sees hW).oldR R0_0 L0)) ?_
  simp only [putT, List.set]
  refine wpV_move (v := .bool true) (by rfl) rfl rfl ?_
  simp only [putT, List.set]
  refine wpV_move (v := .int .i64 1) (by rfl) rfl rfl ?_
  simp only [putT, List.set]
  refine wpV_bin (v := .bool true) (by rfl) rfl rfl rfl (fun W => run_eql _ _ _ _ W) ?_
  simp only [putT, List.set]
  refine wpV_pick (v := .bool true) (by rfl) rfl rfl rfl ?_
  simp only [putT, List.set]
  refine wpV_nil (hLk _ (fun w19 Sw19 => ?_))
  clear hLk Lk
  simp only [List.take, List.drop]
  replace M := M.sees Sw19
  refine wpL_assign (v := .bool true) (by rfl) (by rfl) (by rfl) ?_
  simp only [putT, List.set]
  refine wpL_nil (no_panic ?_)
  refine hK17 _ _ ?_
  refine wp_ret ?_
  repeat (first | with_reducible refine then_ret ?_ | with_reducible refine inblock_ret ?_)
  refine bodyPost_ret (v := .bool true) (res1 rfl (.tmp (by rfl))) rfl ?_
  have BE := M.below
  exact ⟨rfl, BE⟩
set_option maxHeartbeats 4000000 in
theorem lfol_path {vls : Value} {ls Ql : List (List UInt8)} {la lb old root : List UInt8} {x y : Int} {w : World} (hQ : cutsS 50 40 ls = Ql) (hQL : Ql.length ≤ 50) (hL : cut la 40 = old) (hR : cut lb 40 = root) (hx : ¬ x < 0) (hy : ¬ y < x) (hm : ¬ 4096 < y) (h1 : ¬ old.length ≠ 32) (h2 : ¬ root.length ≠ 32) (hp : all32 Ql = false) (L0 : 0 < w.heap.size) (R0_0 : w.rangeAt 0 0 kcells) (hvls : RowS w vls ls) :
    Calls Tryd.prog 17 #[.int .i64 x, .int .i64 y, .string (bs la), .string (bs lb), vls] w fun e w' => e = .returned (.bool true) ∧ Below w.heap.size w w' := by
  have hq : Ql.length ≤ 4611686018427387904 := by omega
  go_enter Tryd.func17, Tryd.ntmps17
  have M := Mem.start w
  refine wp_seq_k (fun K1 hK1 => ?_)
  refine wp_region_seq ?_
  refine wpL_assign (v := .bool false) (by rfl) (by rfl) (by rfl) ?_
  simp only [putT, List.set]
  refine wpL_nil (no_panic ?_)
  refine hK1 _ _ ?_
  refine wp_seq_k (fun K3 hK3 => ?_)
  refine wp_region_seq ?_
  refine wpL_move (v := vls) (by rfl) (by rfl) (by rfl) ?_
  simp only [putT, List.set]
  refine wpL_callE (f := 46) (args := #[vls]) (R := MemRow w ((cutsS 50 40 ls).length) (scells (cutsS 50 40 ls))) (by rfl) (by rfl) rfl Tryd.func46 (by kernel_rfl) (by kernel_rfl) (few9_c (hvls.mem M)) (fun v9 w6 hv9 Sw6 => ?_)
  obtain ⟨g5, g5c, rfl, Cg5, M9⟩ := hv9
  replace M := M.call1 M9
  simp only [putT, List.set]
  refine wpL_assign (v := .slice (some ⟨g5, 0, none⟩) ((cutsS 50 40 ls).length) g5c) (by rfl) (by rfl) (by rfl) ?_
  simp only [putT, List.set]
  refine wpL_nil (no_panic ?_)
  simp only [hQ] at M
  simp only [hQ]
  rw [hQ] at Cg5
  refine hK3 _ _ ?_
  refine wp_seq_k (fun K7 hK7 => ?_)
  refine wp_region_grow 12 [] (by kernel_rfl) (by kernel_rfl) (by kernel_rfl) (fun Lk hLk => ?_)
  simp only [List.take, List.drop]
  refine wpV_move (v := .string (bs la)) (by rfl) rfl rfl ?_
  simp only [putT, List.set]
  refine wpV_move (v := .string (bs la)) (by rfl) rfl rfl ?_
  simp only [putT, List.set]
  refine wpV_lenS (by rfl) rfl rfl rfl Tryd.underlying9 ?_
  simp only [putT, List.set]
  refine wpV_min (n := la.length) (m := 40) (by rfl) rfl rfl rfl ?_
  simp only [putT, List.set]
  refine wpV_cut (l := la) (m := 40) (by rfl) rfl rfl rfl Tryd.underlying9 ?_
  simp only [putT, List.set]
  refine wpV_move (v := .string (bs lb)) (by rfl) rfl rfl ?_
  simp only [putT, List.set]
  refine wpV_move (v := .string (bs lb)) (by rfl) rfl rfl ?_
  simp only [putT, List.set]
  refine wpV_lenS (by rfl) rfl rfl rfl Tryd.underlying9 ?_
  simp only [putT, List.set]
  refine wpV_min (n := lb.length) (m := 40) (by rfl) rfl rfl rfl ?_
  simp only [putT, List.set]
  refine wpV_cut (l := lb) (m := 40) (by rfl) rfl rfl rfl Tryd.underlying9 ?_
  simp only [putT, List.set]
  refine wpV_assign (v := .string (bs (cut la 40))) (by rfl) rfl rfl ?_
  simp only [putT, List.set]
  refine wpV_assign (v := .string (bs (cut lb 40))) (by rfl) rfl rfl ?_
  simp only [putT, List.set]
  refine wpV_nil (hLk.out _ ?_)
  clear hLk Lk
  simp only [List.take, List.drop]
  iterate 12 refine wpN_skip (by rfl) ?_
  refine wpN_nil (fun w9 Sw9 hbs => ?_)
  clear hbs
  replace M := M.sees Sw9
  refine wpL_nil (no_panic ?_)
  simp only [hL, hR]
  refine hK7 _ _ ?_
  refine wp_seq_k (fun K10 hK10 => ?_)
  refine wp_region_seq ?_
  refine wpL_move (v := .int .i64 x) (by rfl) (by rfl) (by rfl) ?_
  simp only [putT, List.set]
  refine wpL_move (v := .int .i64 y) (by rfl) (by rfl) (by rfl) ?_
  simp only [putT, List.set]
  refine wpL_move (v := .string (bs old)) (by rfl) (by rfl) (by rfl) ?_
  simp only [putT, List.set]
  refine wpL_move (v := .string (bs root)) (by rfl) (by rfl) (by rfl) ?_
  simp only [putT, List.set]
  refine wpL_move (v := .slice (some ⟨g5, 0, none⟩) Ql.length g5c) (by rfl) (by rfl) (by rfl) ?_
  simp only [putT, List.set]
  refine wpL_chunk 1 (by rfl) (fun Lk hLk => ?_)
  simp only [List.take, List.drop]
  refine wpV_callf (v := .int .i64 1) (args := #[.int .i64 x, .int .i64 y, .string (bs old), .string (bs root), .slice (some ⟨g5, 0, none⟩) Ql.length g5c]) (by rfl) rfl Tryd.func67 (by kernel_rfl) (by kernel_rfl) rfl (fun W hW => by with_reducible exact Follows_path hq hx hy hm (two_yes h1 h2) hp ((M.sees hW).oldL L0) ((M.sees hW).oldR R0_0 L0) (RowA.of ((M.sees hW).r 0 0 rfl rfl) ((M.sees hW).lt 0 rfl) (scells_len _).symm Cg5)) ?_
  simp only [putT, List.set]
  refine wpV_nil (hLk _ (fun w12 Sw12 => ?_))
  clear hLk Lk
  simp only [List.take, List.drop]
  replace M := M.sees Sw12
  refine wpL_assign (v := .int .i64 1) (by rfl) (by rfl) (by rfl) ?_
  simp only [putT, List.set]
  refine wpL_nil (no_panic ?_)
  refine hK10 _ _ ?_
  refine wp_seq_k (fun K13 hK13 => ?_)
  refine wp_seq_k (fun K14 hK14 => ?_)
  refine wp_region_seq ?_
  refine wpL_move (v := .int .i64 x) (by rfl) (by rfl) (by rfl) ?_
  simp only [putT, List.set]
  refine wpL_chunk 25 (by rfl) (fun Lk hLk => ?_)
  simp only [List.take, List.drop]
  refine wpV_bin (v := .bool false) (by rfl) rfl rfl rfl (fun W => (run_lss _ _ _ _ W).trans (by rw [(decide_eq_false hx)])) ?_
  simp only [putT, List.set]
  refine wpV_move (v := .bool false) (by rfl) rfl rfl ?_
  simp only [putT, List.set]
  refine wpV_move (v := .int .i64 x) (by rfl) rfl rfl ?_
  simp only [putT, List.set]
  refine wpV_move (v := .int .i64 y) (by rfl) rfl rfl ?_
  simp only [putT, List.set]
  refine wpV_bin (v := .bool false) (by rfl) rfl rfl rfl (fun W => (run_gtr _ _ _ _ W).trans (by rw [(decide_eq_false hy)])) ?_
  simp only [putT, List.set]
  refine wpV_pick (v := .bool false) (by rfl) rfl rfl rfl ?_
  simp only [putT, List.set]
  refine wpV_move (v := .bool false) (by rfl) rfl rfl ?_
  simp only [putT, List.set]
  refine wpV_move (v := .int .i64 y) (by rfl) rfl rfl ?_
  simp only [putT, List.set]
  refine wpV_bin (v := .bool false) (by rfl) rfl rfl rfl (fun W => (run_gtr _ _ _ _ W).trans (by rw [(decide_eq_false hm)])) ?_
  simp only [putT, List.set]
  refine wpV_pick (v := .bool false) (by rfl) rfl rfl rfl ?_
  simp only [putT, List.set]
  refine wpV_move (v := .bool false) (by rfl) rfl rfl ?_
  simp only [putT, List.set]
  refine wpV_move (v := .string (bs old)) (by rfl) rfl rfl ?_
  simp only [putT, List.set]
  refine wpV_lenS (by rfl) rfl rfl rfl Tryd.underlying9 ?_
  simp only [putT, List.set]
  refine wpV_bin (v := .bool false) (by rfl) rfl rfl rfl (fun W => (run_neqN old.length 32 _ _ W).trans (by rw [(decide_eq_false h1)])) ?_
  simp only [putT, List.set]
  refine wpV_pick (v := .bool false) (by rfl) rfl rfl rfl ?_
  simp only [putT, List.set]
  refine wpV_move (v := .bool false) (by rfl) rfl rfl ?_
  simp only [putT, List.set]
  refine wpV_move (v := .string (bs root)) (by rfl) rfl rfl ?_
  simp only [putT, List.set]
  refine wpV_lenS (by rfl) rfl rfl rfl Tryd.underlying9 ?_
  simp only [putT, List.set]
  refine wpV_bin (v := .bool false) (by rfl) rfl rfl rfl (fun W => (run_neqN root.length 32 _ _ W).trans (by rw [(decide_eq_false h2)])) ?_
  simp only [putT, List.set]
  refine wpV_pick (v := .bool false) (by rfl) rfl rfl rfl ?_
  simp only [putT, List.set]
  refine wpV_move (v := .bool false) (by rfl) rfl rfl ?_
  simp only [putT, List.set]
  refine wpV_move (v := .slice (some ⟨g5, 0, none⟩) Ql.length g5c) (by rfl) rfl rfl ?_
  simp only [putT, List.set]
  refine wpV_callf (v := .bool false) (args := #[.slice (some ⟨g5, 0, none⟩) Ql.length g5c]) (by rfl) rfl Tryd.func57 (by kernel_rfl) (by kernel_rfl) rfl (fun W hW => by have h9 : Calls Tryd.prog _ _ W _ := rall_r (ps := Ql) hq (RowA.of ((M.sees hW).r 0 0 rfl rfl) ((M.sees hW).lt 0 rfl) (scells_len _).symm Cg5); rw [hp] at h9; exact h9) ?_
  simp only [putT, List.set]
  refine wpV_not (b := false) (by rfl) rfl rfl ?_
  simp only [Bool.not_true, Bool.not_false]
  simp only [putT, List.set]
  refine wpV_pick (v := .bool true) (by rfl) rfl rfl rfl ?_
  simp only [putT, List.set]
  refine wpV_nil (hLk _ (fun w16 Sw16 => ?_))
  clear hLk Lk
  simp only [List.take, List.drop]
  replace M := M.sees Sw16
  refine wpL_nil (no_panic ?_)
  refine hK14 _ _ ?_
  refine wp_cond_true rfl ?_
  refine wp_seq_k (fun K17 hK17 => ?_)
  refine wp_region_seq ?_
  refine wpL_chunk 5 (by rfl) (fun Lk hLk => ?_)
  simp only [List.take, List.drop]
  refine wpV_callf (v := .bool true) (args := #[]) (by rfl) rfl Tryd.func49 (by kernel_rfl) (by kernel_rfl) rfl (fun W hW => alive09_c ((M.sees hW).oldL L0) ((M.sees hW).oldR R0_0 L0)) ?_
  simp only [putT, List.set]
  refine wpV_move (v := .bool true) (by rfl) rfl rfl ?_
  simp only [putT, List.set]
  refine wpV_move (v := .int .i64 1) (by rfl) rfl rfl ?_
  simp only [putT, List.set]
  refine wpV_bin (v := .bool true) (by rfl) rfl rfl rfl (fun W => run_eql _ _ _ _ W) ?_
  simp only [putT, List.set]
  refine wpV_pick (v := .bool true) (by rfl) rfl rfl rfl ?_
  simp only [putT, List.set]
  refine wpV_nil (hLk _ (fun w19 Sw19 => ?_))
  clear hLk Lk
  simp only [List.take, List.drop]
  replace M := M.sees Sw19
  refine wpL_assign (v := .bool true) (by rfl) (by rfl) (by rfl) ?_
  simp only [putT, List.set]
  refine wpL_nil (no_panic ?_)
  refine hK17 _ _ ?_
  refine wp_ret ?_
  repeat (first | with_reducible refine then_ret ?_ | with_reducible refine inblock_ret ?_)
  refine bodyPost_ret (v := .bool true) (res1 rfl (.tmp (by rfl))) rfl ?_
  have BE := M.below
  exact ⟨rfl, BE⟩
set_option maxHeartbeats 4000000 in
theorem lfol_zero {vls : Value} {ls Ql : List (List UInt8)} {la lb old root : List UInt8} {n : Nat} {w : World} (hQ : cutsS 50 40 ls = Ql) (hQL : Ql.length ≤ 50) (hL : cut la 40 = old) (hR : cut lb 40 = root) (hn : n ≤ 4096) (h1 : old.length = 32) (h2 : root.length = 32) (hp : all32 Ql = true) (L0 : 0 < w.heap.size) (R0_0 : w.rangeAt 0 0 kcells) (hvls : RowS w vls ls) :
    Calls Tryd.prog 17 #[.int .i64 0, .int .i64 ((n : Nat) : Int), .string (bs la), .string (bs lb), vls] w fun e w' => e = .returned (.bool true) ∧ Below w.heap.size w w' := by
  have hq : Ql.length ≤ 4611686018427387904 := by omega
  go_enter Tryd.func17, Tryd.ntmps17
  have M := Mem.start w
  refine wp_seq_k (fun K1 hK1 => ?_)
  refine wp_region_seq ?_
  refine wpL_assign (v := .bool false) (by rfl) (by rfl) (by rfl) ?_
  simp only [putT, List.set]
  refine wpL_nil (no_panic ?_)
  refine hK1 _ _ ?_
  refine wp_seq_k (fun K3 hK3 => ?_)
  refine wp_region_seq ?_
  refine wpL_move (v := vls) (by rfl) (by rfl) (by rfl) ?_
  simp only [putT, List.set]
  refine wpL_callE (f := 46) (args := #[vls]) (R := MemRow w ((cutsS 50 40 ls).length) (scells (cutsS 50 40 ls))) (by rfl) (by rfl) rfl Tryd.func46 (by kernel_rfl) (by kernel_rfl) (few9_c (hvls.mem M)) (fun v9 w6 hv9 Sw6 => ?_)
  obtain ⟨g5, g5c, rfl, Cg5, M9⟩ := hv9
  replace M := M.call1 M9
  simp only [putT, List.set]
  refine wpL_assign (v := .slice (some ⟨g5, 0, none⟩) ((cutsS 50 40 ls).length) g5c) (by rfl) (by rfl) (by rfl) ?_
  simp only [putT, List.set]
  refine wpL_nil (no_panic ?_)
  simp only [hQ] at M
  simp only [hQ]
  rw [hQ] at Cg5
  refine hK3 _ _ ?_
  refine wp_seq_k (fun K7 hK7 => ?_)
  refine wp_region_grow 12 [] (by kernel_rfl) (by kernel_rfl) (by kernel_rfl) (fun Lk hLk => ?_)
  simp only [List.take, List.drop]
  refine wpV_move (v := .string (bs la)) (by rfl) rfl rfl ?_
  simp only [putT, List.set]
  refine wpV_move (v := .string (bs la)) (by rfl) rfl rfl ?_
  simp only [putT, List.set]
  refine wpV_lenS (by rfl) rfl rfl rfl Tryd.underlying9 ?_
  simp only [putT, List.set]
  refine wpV_min (n := la.length) (m := 40) (by rfl) rfl rfl rfl ?_
  simp only [putT, List.set]
  refine wpV_cut (l := la) (m := 40) (by rfl) rfl rfl rfl Tryd.underlying9 ?_
  simp only [putT, List.set]
  refine wpV_move (v := .string (bs lb)) (by rfl) rfl rfl ?_
  simp only [putT, List.set]
  refine wpV_move (v := .string (bs lb)) (by rfl) rfl rfl ?_
  simp only [putT, List.set]
  refine wpV_lenS (by rfl) rfl rfl rfl Tryd.underlying9 ?_
  simp only [putT, List.set]
  refine wpV_min (n := lb.length) (m := 40) (by rfl) rfl rfl rfl ?_
  simp only [putT, List.set]
  refine wpV_cut (l := lb) (m := 40) (by rfl) rfl rfl rfl Tryd.underlying9 ?_
  simp only [putT, List.set]
  refine wpV_assign (v := .string (bs (cut la 40))) (by rfl) rfl rfl ?_
  simp only [putT, List.set]
  refine wpV_assign (v := .string (bs (cut lb 40))) (by rfl) rfl rfl ?_
  simp only [putT, List.set]
  refine wpV_nil (hLk.out _ ?_)
  clear hLk Lk
  simp only [List.take, List.drop]
  iterate 12 refine wpN_skip (by rfl) ?_
  refine wpN_nil (fun w9 Sw9 hbs => ?_)
  clear hbs
  replace M := M.sees Sw9
  refine wpL_nil (no_panic ?_)
  simp only [hL, hR]
  refine hK7 _ _ ?_
  refine wp_seq_k (fun K10 hK10 => ?_)
  refine wp_region_seq ?_
  refine wpL_move (v := .int .i64 0) (by rfl) (by rfl) (by rfl) ?_
  simp only [putT, List.set]
  refine wpL_move (v := .int .i64 ((n : Nat) : Int)) (by rfl) (by rfl) (by rfl) ?_
  simp only [putT, List.set]
  refine wpL_move (v := .string (bs old)) (by rfl) (by rfl) (by rfl) ?_
  simp only [putT, List.set]
  refine wpL_move (v := .string (bs root)) (by rfl) (by rfl) (by rfl) ?_
  simp only [putT, List.set]
  refine wpL_move (v := .slice (some ⟨g5, 0, none⟩) Ql.length g5c) (by rfl) (by rfl) (by rfl) ?_
  simp only [putT, List.set]
  refine wpL_chunk 1 (by rfl) (fun Lk hLk => ?_)
  simp only [List.take, List.drop]
  refine wpV_callf (v := .int .i64 (if Ql.length = 0 ∧ old = rootS [] then 0 else 13)) (args := #[.int .i64 0, .int .i64 ((n : Nat) : Int), .string (bs old), .string (bs root), .slice (some ⟨g5, 0, none⟩) Ql.length g5c]) (by rfl) rfl Tryd.func67 (by kernel_rfl) (by kernel_rfl) rfl (fun W hW => by with_reducible exact Follows_zero hq hn (two_yes' h1 h2) hp ((M.sees hW).oldL L0) ((M.sees hW).oldR R0_0 L0) (RowA.of ((M.sees hW).r 0 0 rfl rfl) ((M.sees hW).lt 0 rfl) (scells_len _).symm Cg5)) ?_
  simp only [putT, List.set]
  refine wpV_nil (hLk _ (fun w12 Sw12 => ?_))
  clear hLk Lk
  simp only [List.take, List.drop]
  replace M := M.sees Sw12
  refine wpL_assign (v := .int .i64 (if Ql.length = 0 ∧ old = rootS [] then 0 else 13)) (by rfl) (by rfl) (by rfl) ?_
  simp only [putT, List.set]
  refine wpL_nil (no_panic ?_)
  by_cases hfb : Ql.length = 0 ∧ old = rootS []
  · skip
    rw [if_pos hfb]
    refine hK10 _ _ ?_
    refine wp_seq_k (fun K13 hK13 => ?_)
    refine wp_seq_k (fun K14 hK14 => ?_)
    refine wp_region_seq ?_
    refine wpL_move (v := .int .i64 0) (by rfl) (by rfl) (by rfl) ?_
    simp only [putT, List.set]
    refine wpL_chunk 25 (by rfl) (fun Lk hLk => ?_)
    simp only [List.take, List.drop]
    refine wpV_bin (v := .bool false) (by rfl) rfl rfl rfl (fun W => run_lss _ _ _ _ W) ?_
    simp only [putT, List.set]
    refine wpV_move (v := .bool false) (by rfl) rfl rfl ?_
    simp only [putT, List.set]
    refine wpV_move (v := .int .i64 0) (by rfl) rfl rfl ?_
    simp only [putT, List.set]
    refine wpV_move (v := .int .i64 ((n : Nat) : Int)) (by rfl) rfl rfl ?_
    simp only [putT, List.set]
    refine wpV_bin (v := .bool false) (by rfl) rfl rfl rfl (fun W => (run_gtrN 0 n _ _ W).trans (by rw [(decide_eq_false (Nat.not_lt_zero n))])) ?_
    simp only [putT, List.set]
    refine wpV_pick (v := .bool false) (by rfl) rfl rfl rfl ?_
    simp only [putT, List.set]
    refine wpV_move (v := .bool false) (by rfl) rfl rfl ?_
    simp only [putT, List.set]
    refine wpV_move (v := .int .i64 ((n : Nat) : Int)) (by rfl) rfl rfl ?_
    simp only [putT, List.set]
    refine wpV_bin (v := .bool false) (by rfl) rfl rfl rfl (fun W => (run_gtrN n 4096 _ _ W).trans (by rw [(decide_eq_false (Nat.not_lt.2 hn))])) ?_
    simp only [putT, List.set]
    refine wpV_pick (v := .bool false) (by rfl) rfl rfl rfl ?_
    simp only [putT, List.set]
    refine wpV_move (v := .bool false) (by rfl) rfl rfl ?_
    simp only [putT, List.set]
    refine wpV_move (v := .string (bs old)) (by rfl) rfl rfl ?_
    simp only [putT, List.set]
    refine wpV_lenS (by rfl) rfl rfl rfl Tryd.underlying9 ?_
    simp only [putT, List.set]
    refine wpV_bin (v := .bool false) (by rfl) rfl rfl rfl (fun W => (run_neqN old.length 32 _ _ W).trans (by rw [(decide_eq_false (fun e9 => e9 h1))])) ?_
    simp only [putT, List.set]
    refine wpV_pick (v := .bool false) (by rfl) rfl rfl rfl ?_
    simp only [putT, List.set]
    refine wpV_move (v := .bool false) (by rfl) rfl rfl ?_
    simp only [putT, List.set]
    refine wpV_move (v := .string (bs root)) (by rfl) rfl rfl ?_
    simp only [putT, List.set]
    refine wpV_lenS (by rfl) rfl rfl rfl Tryd.underlying9 ?_
    simp only [putT, List.set]
    refine wpV_bin (v := .bool false) (by rfl) rfl rfl rfl (fun W => (run_neqN root.length 32 _ _ W).trans (by rw [(decide_eq_false (fun e9 => e9 h2))])) ?_
    simp only [putT, List.set]
    refine wpV_pick (v := .bool false) (by rfl) rfl rfl rfl ?_
    simp only [putT, List.set]
    refine wpV_move (v := .bool false) (by rfl) rfl rfl ?_
    simp only [putT, List.set]
    refine wpV_move (v := .slice (some ⟨g5, 0, none⟩) Ql.length g5c) (by rfl) rfl rfl ?_
    simp only [putT, List.set]
    refine wpV_callf (v := .bool true) (args := #[.slice (some ⟨g5, 0, none⟩) Ql.length g5c]) (by rfl) rfl Tryd.func57 (by kernel_rfl) (by kernel_rfl) rfl (fun W hW => by have h9 : Calls Tryd.prog _ _ W _ := rall_r (ps := Ql) hq (RowA.of ((M.sees hW).r 0 0 rfl rfl) ((M.sees hW).lt 0 rfl) (scells_len _).symm Cg5); rw [hp] at h9; exact h9) ?_
    simp only [putT, List.set]
    refine wpV_not (b := true) (by rfl) rfl rfl ?_
    simp only [Bool.not_true, Bool.not_false]
    simp only [putT, List.set]
    refine wpV_pick (v := .bool false) (by rfl) rfl rfl rfl ?_
    simp only [putT, List.set]
    refine wpV_nil (hLk _ (fun w16 Sw16 => ?_))
    clear hLk Lk
    simp only [List.take, List.drop]
    replace M := M.sees Sw16
    refine wpL_nil (no_panic ?_)
    refine hK14 _ _ ?_
    refine wp_cond_false rfl ?_
    refine wp_skip ?_
    refine hK13 _ _ ?_
    refine wp_seq_k (fun K17 hK17 => ?_)
    refine wp_region_seq ?_
    refine wpL_move (v := .slice (some ⟨g5, 0, none⟩) Ql.length g5c) (by rfl) (by rfl) (by rfl) ?_
    simp only [putT, List.set]
    refine wpL_chunk 7 (by rfl) (fun Lk hLk => ?_)
    simp only [List.take, List.drop]
    refine wpV_lenA (n := Ql.length) (by rfl) rfl rfl rfl Tryd.underlying48 ?_
    simp only [putT, List.set]
    refine wpV_bin (v := .bool true) (by rfl) rfl rfl rfl (fun W => (run_eqlN Ql.length 0 _ _ W).trans (by rw [(decide_eq_true hfb.1)])) ?_
    simp only [putT, List.set]
    refine wpV_move (v := .bool true) (by rfl) rfl rfl ?_
    simp only [putT, List.set]
    refine wpV_move (v := .string (bs old)) (by rfl) rfl rfl ?_
    simp only [putT, List.set]
    refine wpV_callf (v := .string (bs (rootS []))) (args := #[(.slice none 0 0)]) (by rfl) rfl Tryd.func45 (by kernel_rfl) (by kernel_rfl) rfl (fun W hW => rroot_c0 ) ?_
    simp only [putT, List.set]
    refine wpV_binS (v := .bool true) (by rfl) rfl rfl rfl (fun W => (run_eql_bs _ _ _ W).trans (by rw [(decide_eq_true hfb.2)])) ?_
    simp only [putT, List.set]
    refine wpV_pick (v := .bool true) (by rfl) rfl rfl rfl ?_
    simp only [putT, List.set]
    refine wpV_nil (hLk _ (fun w19 Sw19 => ?_))
    clear hLk Lk
    simp only [List.take, List.drop]
    replace M := M.sees Sw19
    refine wpL_assign (v := .bool true) (by rfl) (by rfl) (by rfl) ?_
    simp only [putT, List.set]
    refine wpL_nil (no_panic ?_)
    refine hK17 _ _ ?_
    refine wp_seq_k (fun K20 hK20 => ?_)
    refine wp_seq_k (fun K21 hK21 => ?_)
    refine wp_region_seq ?_
    refine wpL_move (v := .int .i64 0) (by rfl) (by rfl) (by rfl) ?_
    simp only [putT, List.set]
    refine wpL_chunk 1 (by rfl) (fun Lk hLk => ?_)
    simp only [List.take, List.drop]
    refine wpV_bin (v := .bool false) (by rfl) rfl rfl rfl (fun W => run_gtr _ _ _ _ W) ?_
    simp only [putT, List.set]
    refine wpV_nil (hLk _ (fun w23 Sw23 => ?_))
    clear hLk Lk
    simp only [List.take, List.drop]
    replace M := M.sees Sw23
    refine wpL_nil (no_panic ?_)
    refine hK21 _ _ ?_
    refine wp_cond_false rfl ?_
    refine wp_skip ?_
    refine hK20 _ _ ?_
    refine wp_seq_k (fun K24 hK24 => ?_)
    refine wp_seq_k (fun K25 hK25 => ?_)
    refine wp_region_seq ?_
    refine wpL_move (v := .bool true) (by rfl) (by rfl) (by rfl) ?_
    simp only [putT, List.set]
    refine wpL_nil (no_panic ?_)
    refine hK25 _ _ ?_
    refine wp_cond_true rfl ?_
    refine wp_seq_k (fun K27 hK27 => ?_)
    refine wp_region_seq ?_
    refine wpL_chunk 5 (by rfl) (fun Lk hLk => ?_)
    simp only [List.take, List.drop]
    refine wpV_callf (v := .bool true) (args := #[]) (by rfl) rfl Tryd.func49 (by kernel_rfl) (by kernel_rfl) rfl (fun W hW => alive09_c ((M.sees hW).oldL L0) ((M.sees hW).oldR R0_0 L0)) ?_
    simp only [putT, List.set]
    refine wpV_move (v := .bool true) (by rfl) rfl rfl ?_
    simp only [putT, List.set]
    refine wpV_move (v := .int .i64 0) (by rfl) rfl rfl ?_
    simp only [putT, List.set]
    refine wpV_bin (v := .bool true) (by rfl) rfl rfl rfl (fun W => run_eql _ _ _ _ W) ?_
    simp only [putT, List.set]
    refine wpV_pick (v := .bool true) (by rfl) rfl rfl rfl ?_
    simp only [putT, List.set]
    refine wpV_nil (hLk _ (fun w29 Sw29 => ?_))
    clear hLk Lk
    simp only [List.take, List.drop]
    replace M := M.sees Sw29
    refine wpL_assign (v := .bool true) (by rfl) (by rfl) (by rfl) ?_
    simp only [putT, List.set]
    refine wpL_nil (no_panic ?_)
    refine hK27 _ _ ?_
    refine wp_ret ?_
    repeat (first | with_reducible refine then_ret ?_ | with_reducible refine inblock_ret ?_)
    refine bodyPost_ret (v := .bool true) (res1 rfl (.tmp (by rfl))) rfl ?_
    have BE := M.below
    exact ⟨rfl, BE⟩
  · skip
    rw [if_neg hfb]
    refine hK10 _ _ ?_
    refine wp_seq_k (fun K30 hK30 => ?_)
    refine wp_seq_k (fun K31 hK31 => ?_)
    refine wp_region_seq ?_
    refine wpL_move (v := .int .i64 0) (by rfl) (by rfl) (by rfl) ?_
    simp only [putT, List.set]
    refine wpL_chunk 25 (by rfl) (fun Lk hLk => ?_)
    simp only [List.take, List.drop]
    refine wpV_bin (v := .bool false) (by rfl) rfl rfl rfl (fun W => run_lss _ _ _ _ W) ?_
    simp only [putT, List.set]
    refine wpV_move (v := .bool false) (by rfl) rfl rfl ?_
    simp only [putT, List.set]
    refine wpV_move (v := .int .i64 0) (by rfl) rfl rfl ?_
    simp only [putT, List.set]
    refine wpV_move (v := .int .i64 ((n : Nat) : Int)) (by rfl) rfl rfl ?_
    simp only [putT, List.set]
    refine wpV_bin (v := .bool false) (by rfl) rfl rfl rfl (fun W => (run_gtrN 0 n _ _ W).trans (by rw [(decide_eq_false (Nat.not_lt_zero n))])) ?_
    simp only [putT, List.set]
    refine wpV_pick (v := .bool false) (by rfl) rfl rfl rfl ?_
    simp only [putT, List.set]
    refine wpV_move (v := .bool false) (by rfl) rfl rfl ?_
    simp only [putT, List.set]
    refine wpV_move (v := .int .i64 ((n : Nat) : Int)) (by rfl) rfl rfl ?_
    simp only [putT, List.set]
    refine wpV_bin (v := .bool false) (by rfl) rfl rfl rfl (fun W => (run_gtrN n 4096 _ _ W).trans (by rw [(decide_eq_false (Nat.not_lt.2 hn))])) ?_
    simp only [putT, List.set]
    refine wpV_pick (v := .bool false) (by rfl) rfl rfl rfl ?_
    simp only [putT, List.set]
    refine wpV_move (v := .bool false) (by rfl) rfl rfl ?_
    simp only [putT, List.set]
    refine wpV_move (v := .string (bs old)) (by rfl) rfl rfl ?_
    simp only [putT, List.set]
    refine wpV_lenS (by rfl) rfl rfl rfl Tryd.underlying9 ?_
    simp only [putT, List.set]
    refine wpV_bin (v := .bool false) (by rfl) rfl rfl rfl (fun W => (run_neqN old.length 32 _ _ W).trans (by rw [(decide_eq_false (fun e9 => e9 h1))])) ?_
    simp only [putT, List.set]
    refine wpV_pick (v := .bool false) (by rfl) rfl rfl rfl ?_
    simp only [putT, List.set]
    refine wpV_move (v := .bool false) (by rfl) rfl rfl ?_
    simp only [putT, List.set]
    refine wpV_move (v := .string (bs root)) (by rfl) rfl rfl ?_
    simp only [putT, List.set]
    refine wpV_lenS (by rfl) rfl rfl rfl Tryd.underlying9 ?_
    simp only [putT, List.set]
    refine wpV_bin (v := .bool false) (by rfl) rfl rfl rfl (fun W => (run_neqN root.length 32 _ _ W).trans (by rw [(decide_eq_false (fun e9 => e9 h2))])) ?_
    simp only [putT, List.set]
    refine wpV_pick (v := .bool false) (by rfl) rfl rfl rfl ?_
    simp only [putT, List.set]
    refine wpV_move (v := .bool false) (by rfl) rfl rfl ?_
    simp only [putT, List.set]
    refine wpV_move (v := .slice (some ⟨g5, 0, none⟩) Ql.length g5c) (by rfl) rfl rfl ?_
    simp only [putT, List.set]
    refine wpV_callf (v := .bool true) (args := #[.slice (some ⟨g5, 0, none⟩) Ql.length g5c]) (by rfl) rfl Tryd.func57 (by kernel_rfl) (by kernel_rfl) rfl (fun W hW => by have h9 : Calls Tryd.prog _ _ W _ := rall_r (ps := Ql) hq (RowA.of ((M.sees hW).r 0 0 rfl rfl) ((M.sees hW).lt 0 rfl) (scells_len _).symm Cg5); rw [hp] at h9; exact h9) ?_
    simp only [putT, List.set]
    refine wpV_not (b := true) (by rfl) rfl rfl ?_
    simp only [Bool.not_true, Bool.not_false]
    simp only [putT, List.set]
    refine wpV_pick (v := .bool false) (by rfl) rfl rfl rfl ?_
    simp only [putT, List.set]
    refine wpV_nil (hLk _ (fun w33 Sw33 => ?_))
    clear hLk Lk
    simp only [List.take, List.drop]
    replace M := M.sees Sw33
    refine wpL_nil (no_panic ?_)
    refine hK31 _ _ ?_
    refine wp_cond_false rfl ?_
    refine wp_skip ?_
    refine hK30 _ _ ?_
    refine wp_seq_k (fun K34 hK34 => ?_)
    cases hg35 : (decide (Ql.length = 0))
    · skip
      have ha : ¬ Ql.length = 0 := of_decide_eq_false hg35
      refine wp_region_seq ?_
      refine wpL_move (v := .slice (some ⟨g5, 0, none⟩) Ql.length g5c) (by rfl) (by rfl) (by rfl) ?_
      simp only [putT, List.set]
      refine wpL_chunk 7 (by rfl) (fun Lk hLk => ?_)
      simp only [List.take, List.drop]
      refine wpV_lenA (n := Ql.length) (by rfl) rfl rfl rfl Tryd.underlying48 ?_
      simp only [putT, List.set]
      refine wpV_bin (v := .bool false) (by rfl) rfl rfl rfl (fun W => (run_eqlN Ql.length 0 _ _ W).trans (by rw [hg35])) ?_
      simp only [putT, List.set]
      refine wpV_move (v := .bool false) (by rfl) rfl rfl ?_
      simp only [putT, List.set]
      refine wpV_skip (by rfl) (by rfl) ?_
      simp only [putT, List.set]
      refine wpV_skip (by rfl) (by rfl) ?_
      simp only [putT, List.set]
      refine wpV_skip (by rfl) (by rfl) ?_
      simp only [putT, List.set]
      refine wpV_pick (v := .bool false) (by rfl) rfl rfl rfl ?_
      simp only [putT, List.set]
      refine wpV_nil (hLk _ (fun w37 Sw37 => ?_))
      clear hLk Lk
      simp only [List.take, List.drop]
      replace M := M.sees Sw37
      refine wpL_assign (v := .bool false) (by rfl) (by rfl) (by rfl) ?_
      simp only [putT, List.set]
      refine wpL_nil (no_panic ?_)
      refine hK34 _ _ ?_
      refine wp_seq_k (fun K38 hK38 => ?_)
      refine wp_seq_k (fun K39 hK39 => ?_)
      refine wp_region_seq ?_
      refine wpL_move (v := .int .i64 0) (by rfl) (by rfl) (by rfl) ?_
      simp only [putT, List.set]
      refine wpL_chunk 1 (by rfl) (fun Lk hLk => ?_)
      simp only [List.take, List.drop]
      refine wpV_bin (v := .bool false) (by rfl) rfl rfl rfl (fun W => run_gtr _ _ _ _ W) ?_
      simp only [putT, List.set]
      refine wpV_nil (hLk _ (fun w41 Sw41 => ?_))
      clear hLk Lk
      simp only [List.take, List.drop]
      replace M := M.sees Sw41
      refine wpL_nil (no_panic ?_)
      refine hK39 _ _ ?_
      refine wp_cond_false rfl ?_
      refine wp_skip ?_
      refine hK38 _ _ ?_
      refine wp_seq_k (fun K42 hK42 => ?_)
      refine wp_seq_k (fun K43 hK43 => ?_)
      refine wp_region_seq ?_
      refine wpL_move (v := .bool false) (by rfl) (by rfl) (by rfl) ?_
      simp only [putT, List.set]
      refine wpL_nil (no_panic ?_)
      refine hK43 _ _ ?_
      refine wp_cond_false rfl ?_
      refine wp_skip ?_
      refine hK42 _ _ ?_
      refine wp_seq_k (fun K45 hK45 => ?_)
      refine wp_region_seq ?_
      refine wpL_chunk 5 (by rfl) (fun Lk hLk => ?_)
      simp only [List.take, List.drop]
      refine wpV_callf (v := .bool true) (args := #[]) (by rfl) rfl Tryd.func49 (by kernel_rfl) (by kernel_rfl) rfl (fun W hW => alive09_c ((M.sees hW).oldL L0) ((M.sees hW).oldR R0_0 L0)) ?_
      simp only [putT, List.set]
      refine wpV_move (v := .bool true) (by rfl) rfl rfl ?_
      simp only [putT, List.set]
      refine wpV_move (v := .int .i64 13) (by rfl) rfl rfl ?_
      simp only [putT, List.set]
      refine wpV_bin (v := .bool true) (by rfl) rfl rfl rfl (fun W => run_eql _ _ _ _ W) ?_
      simp only [putT, List.set]
      refine wpV_pick (v := .bool true) (by rfl) rfl rfl rfl ?_
      simp only [putT, List.set]
      refine wpV_nil (hLk _ (fun w47 Sw47 => ?_))
      clear hLk Lk
      simp only [List.take, List.drop]
      replace M := M.sees Sw47
      refine wpL_assign (v := .bool true) (by rfl) (by rfl) (by rfl) ?_
      simp only [putT, List.set]
      refine wpL_nil (no_panic ?_)
      refine hK45 _ _ ?_
      refine wp_ret ?_
      repeat (first | with_reducible refine then_ret ?_ | with_reducible refine inblock_ret ?_)
      refine bodyPost_ret (v := .bool true) (res1 rfl (.tmp (by rfl))) rfl ?_
      have BE := M.below
      exact ⟨rfl, BE⟩
    · skip
      have ha : Ql.length = 0 := of_decide_eq_true hg35
      refine wp_region_seq ?_
      refine wpL_move (v := .slice (some ⟨g5, 0, none⟩) Ql.length g5c) (by rfl) (by rfl) (by rfl) ?_
      simp only [putT, List.set]
      refine wpL_chunk 7 (by rfl) (fun Lk hLk => ?_)
      simp only [List.take, List.drop]
      refine wpV_lenA (n := Ql.length) (by rfl) rfl rfl rfl Tryd.underlying48 ?_
      simp only [putT, List.set]
      refine wpV_bin (v := .bool true) (by rfl) rfl rfl rfl (fun W => (run_eqlN Ql.length 0 _ _ W).trans (by rw [hg35])) ?_
      simp only [putT, List.set]
      refine wpV_move (v := .bool true) (by rfl) rfl rfl ?_
      simp only [putT, List.set]
      refine wpV_move (v := .string (bs old)) (by rfl) rfl rfl ?_
      simp only [putT, List.set]
      refine wpV_callf (v := .string (bs (rootS []))) (args := #[(.slice none 0 0)]) (by rfl) rfl Tryd.func45 (by kernel_rfl) (by kernel_rfl) rfl (fun W hW => rroot_c0 ) ?_
      simp only [putT, List.set]
      refine wpV_binS (v := .bool (decide (old = rootS []))) (by rfl) rfl rfl rfl (run_eql_bs _ _ _) ?_
      simp only [putT, List.set]
      refine wpV_pick (v := .bool (decide (old = rootS []))) (by rfl) rfl rfl rfl ?_
      simp only [putT, List.set]
      refine wpV_nil (hLk _ (fun w49 Sw49 => ?_))
      clear hLk Lk
      simp only [List.take, List.drop]
      replace M := M.sees Sw49
      refine wpL_assign (v := .bool (decide (old = rootS []))) (by rfl) (by rfl) (by rfl) ?_
      simp only [putT, List.set]
      refine wpL_nil (no_panic ?_)
      refine hK34 _ _ ?_
      refine wp_seq_k (fun K50 hK50 => ?_)
      refine wp_seq_k (fun K51 hK51 => ?_)
      refine wp_region_seq ?_
      refine wpL_move (v := .int .i64 0) (by rfl) (by rfl) (by rfl) ?_
      simp only [putT, List.set]
      refine wpL_chunk 1 (by rfl) (fun Lk hLk => ?_)
      simp only [List.take, List.drop]
      refine wpV_bin (v := .bool false) (by rfl) rfl rfl rfl (fun W => run_gtr _ _ _ _ W) ?_
      simp only [putT, List.set]
      refine wpV_nil (hLk _ (fun w53 Sw53 => ?_))
      clear hLk Lk
      simp only [List.take, List.drop]
      replace M := M.sees Sw53
      refine wpL_nil (no_panic ?_)
      refine hK51 _ _ ?_
      refine wp_cond_false rfl ?_
      refine wp_skip ?_
      refine hK50 _ _ ?_
      refine wp_seq_k (fun K54 hK54 => ?_)
      refine wp_seq_k (fun K55 hK55 => ?_)
      refine wp_region_seq ?_
      refine wpL_move (v := .bool (decide (old = rootS []))) (by rfl) (by rfl) (by rfl) ?_
      simp only [putT, List.set]
      refine wpL_nil (no_panic ?_)
      refine hK55 _ _ ?_
      cases hc57 : (decide (old = rootS []))
      · skip
        refine wp_cond_false rfl ?_
        refine wp_skip ?_
        refine hK54 _ _ ?_
        refine wp_seq_k (fun K58 hK58 => ?_)
        refine wp_region_seq ?_
        refine wpL_chunk 5 (by rfl) (fun Lk hLk => ?_)
        simp only [List.take, List.drop]
        refine wpV_callf (v := .bool true) (args := #[]) (by rfl) rfl Tryd.func49 (by kernel_rfl) (by kernel_rfl) rfl (fun W hW => alive09_c ((M.sees hW).oldL L0) ((M.sees hW).oldR R0_0 L0)) ?_
        simp only [putT, List.set]
        refine wpV_move (v := .bool true) (by rfl) rfl rfl ?_
        simp only [putT, List.set]
        refine wpV_move (v := .int .i64 13) (by rfl) rfl rfl ?_
        simp only [putT, List.set]
        refine wpV_bin (v := .bool true) (by rfl) rfl rfl rfl (fun W => run_eql _ _ _ _ W) ?_
        simp only [putT, List.set]
        refine wpV_pick (v := .bool true) (by rfl) rfl rfl rfl ?_
        simp only [putT, List.set]
        refine wpV_nil (hLk _ (fun w60 Sw60 => ?_))
        clear hLk Lk
        simp only [List.take, List.drop]
        replace M := M.sees Sw60
        refine wpL_assign (v := .bool true) (by rfl) (by rfl) (by rfl) ?_
        simp only [putT, List.set]
        refine wpL_nil (no_panic ?_)
        refine hK58 _ _ ?_
        refine wp_ret ?_
        repeat (first | with_reducible refine then_ret ?_ | with_reducible refine inblock_ret ?_)
        refine bodyPost_ret (v := .bool true) (res1 rfl (.tmp (by rfl))) rfl ?_
        have BE := M.below
        exact ⟨rfl, BE⟩
      · skip
        exact absurd ⟨ha, of_decide_eq_true hc57⟩ hfb
set_option maxHeartbeats 4000000 in
theorem lfol_pos {vls : Value} {ls Ql : List (List UInt8)} {la lb old root : List UInt8} {m n : Nat} {w : World} (hQ : cutsS 50 40 ls = Ql) (hQL : Ql.length ≤ 50) (hL : cut la 40 = old) (hR : cut lb 40 = root) (hn : n ≤ 4096) (h1 : old.length = 32) (h2 : root.length = 32) (hp : all32 Ql = true) (hm1 : 1 ≤ m) (hmn : m ≤ n) (L0 : 0 < w.heap.size) (R0_0 : w.rangeAt 0 0 kcells) (hvls : RowS w vls ls) :
    Calls Tryd.prog 17 #[.int .i64 ((m : Nat) : Int), .int .i64 ((n : Nat) : Int), .string (bs la), .string (bs lb), vls] w fun e w' => e = .returned (.bool true) ∧ Below w.heap.size w w' := by
  have hq : Ql.length ≤ 4611686018427387904 := by omega
  go_enter Tryd.func17, Tryd.ntmps17
  have M := Mem.start w
  refine wp_seq_k (fun K1 hK1 => ?_)
  refine wp_region_seq ?_
  refine wpL_assign (v := .bool false) (by rfl) (by rfl) (by rfl) ?_
  simp only [putT, List.set]
  refine wpL_nil (no_panic ?_)
  refine hK1 _ _ ?_
  refine wp_seq_k (fun K3 hK3 => ?_)
  refine wp_region_seq ?_
  refine wpL_move (v := vls) (by rfl) (by rfl) (by rfl) ?_
  simp only [putT, List.set]
  refine wpL_callE (f := 46) (args := #[vls]) (R := MemRow w ((cutsS 50 40 ls).length) (scells (cutsS 50 40 ls))) (by rfl) (by rfl) rfl Tryd.func46 (by kernel_rfl) (by kernel_rfl) (few9_c (hvls.mem M)) (fun v9 w6 hv9 Sw6 => ?_)
  obtain ⟨g5, g5c, rfl, Cg5, M9⟩ := hv9
  replace M := M.call1 M9
  simp only [putT, List.set]
  refine wpL_assign (v := .slice (some ⟨g5, 0, none⟩) ((cutsS 50 40 ls).length) g5c) (by rfl) (by rfl) (by rfl) ?_
  simp only [putT, List.set]
  refine wpL_nil (no_panic ?_)
  simp only [hQ] at M
  simp only [hQ]
  rw [hQ] at Cg5
  refine hK3 _ _ ?_
  refine wp_seq_k (fun K7 hK7 => ?_)
  refine wp_region_grow 12 [] (by kernel_rfl) (by kernel_rfl) (by kernel_rfl) (fun Lk hLk => ?_)
  simp only [List.take, List.drop]
  refine wpV_move (v := .string (bs la)) (by rfl) rfl rfl ?_
  simp only [putT, List.set]
  refine wpV_move (v := .string (bs la)) (by rfl) rfl rfl ?_
  simp only [putT, List.set]
  refine wpV_lenS (by rfl) rfl rfl rfl Tryd.underlying9 ?_
  simp only [putT, List.set]
  refine wpV_min (n := la.length) (m := 40) (by rfl) rfl rfl rfl ?_
  simp only [putT, List.set]
  refine wpV_cut (l := la) (m := 40) (by rfl) rfl rfl rfl Tryd.underlying9 ?_
  simp only [putT, List.set]
  refine wpV_move (v := .string (bs lb)) (by rfl) rfl rfl ?_
  simp only [putT, List.set]
  refine wpV_move (v := .string (bs lb)) (by rfl) rfl rfl ?_
  simp only [putT, List.set]
  refine wpV_lenS (by rfl) rfl rfl rfl Tryd.underlying9 ?_
  simp only [putT, List.set]
  refine wpV_min (n := lb.length) (m := 40) (by rfl) rfl rfl rfl ?_
  simp only [putT, List.set]
  refine wpV_cut (l := lb) (m := 40) (by rfl) rfl rfl rfl Tryd.underlying9 ?_
  simp only [putT, List.set]
  refine wpV_assign (v := .string (bs (cut la 40))) (by rfl) rfl rfl ?_
  simp only [putT, List.set]
  refine wpV_assign (v := .string (bs (cut lb 40))) (by rfl) rfl rfl ?_
  simp only [putT, List.set]
  refine wpV_nil (hLk.out _ ?_)
  clear hLk Lk
  simp only [List.take, List.drop]
  iterate 12 refine wpN_skip (by rfl) ?_
  refine wpN_nil (fun w9 Sw9 hbs => ?_)
  clear hbs
  replace M := M.sees Sw9
  refine wpL_nil (no_panic ?_)
  simp only [hL, hR]
  refine hK7 _ _ ?_
  refine wp_seq_k (fun K10 hK10 => ?_)
  refine wp_region_seq ?_
  refine wpL_move (v := .int .i64 ((m : Nat) : Int)) (by rfl) (by rfl) (by rfl) ?_
  simp only [putT, List.set]
  refine wpL_move (v := .int .i64 ((n : Nat) : Int)) (by rfl) (by rfl) (by rfl) ?_
  simp only [putT, List.set]
  refine wpL_move (v := .string (bs old)) (by rfl) (by rfl) (by rfl) ?_
  simp only [putT, List.set]
  refine wpL_move (v := .string (bs root)) (by rfl) (by rfl) (by rfl) ?_
  simp only [putT, List.set]
  refine wpL_move (v := .slice (some ⟨g5, 0, none⟩) Ql.length g5c) (by rfl) (by rfl) (by rfl) ?_
  simp only [putT, List.set]
  refine wpL_chunk 1 (by rfl) (fun Lk hLk => ?_)
  simp only [List.take, List.drop]
  refine wpV_callf (v := .int .i64 (if folB m n old root Ql = true then 0 else 13)) (args := #[.int .i64 ((m : Nat) : Int), .int .i64 ((n : Nat) : Int), .string (bs old), .string (bs root), .slice (some ⟨g5, 0, none⟩) Ql.length g5c]) (by rfl) rfl Tryd.func67 (by kernel_rfl) (by kernel_rfl) rfl (fun W hW => by with_reducible exact Follows_pos hq hn (two_yes' h1 h2) hp hm1 hmn ((M.sees hW).oldL L0) ((M.sees hW).oldR R0_0 L0) (RowA.of ((M.sees hW).r 0 0 rfl rfl) ((M.sees hW).lt 0 rfl) (scells_len _).symm Cg5)) ?_
  simp only [putT, List.set]
  refine wpV_nil (hLk _ (fun w12 Sw12 => ?_))
  clear hLk Lk
  simp only [List.take, List.drop]
  replace M := M.sees Sw12
  refine wpL_assign (v := .int .i64 (if folB m n old root Ql = true then 0 else 13)) (by rfl) (by rfl) (by rfl) ?_
  simp only [putT, List.set]
  refine wpL_nil (no_panic ?_)
  by_cases hfb : folB m n old root Ql = true
  · skip
    rw [if_pos hfb]
    unfold folB at hfb
    rw [decide_eq_true_eq] at hfb
    refine hK10 _ _ ?_
    refine wp_seq_k (fun K13 hK13 => ?_)
    refine wp_seq_k (fun K14 hK14 => ?_)
    refine wp_region_seq ?_
    refine wpL_move (v := .int .i64 ((m : Nat) : Int)) (by rfl) (by rfl) (by rfl) ?_
    simp only [putT, List.set]
    refine wpL_chunk 25 (by rfl) (fun Lk hLk => ?_)
    simp only [List.take, List.drop]
    refine wpV_bin (v := .bool false) (by rfl) rfl rfl rfl (fun W => (run_lssN m 0 _ _ W).trans (by rw [(decide_eq_false (Nat.not_lt_zero m))])) ?_
    simp only [putT, List.set]
    refine wpV_move (v := .bool false) (by rfl) rfl rfl ?_
    simp only [putT, List.set]
    refine wpV_move (v := .int .i64 ((m : Nat) : Int)) (by rfl) rfl rfl ?_
    simp only [putT, List.set]
    refine wpV_move (v := .int .i64 ((n : Nat) : Int)) (by rfl) rfl rfl ?_
    simp only [putT, List.set]
    refine wpV_bin (v := .bool false) (by rfl) rfl rfl rfl (fun W => (run_gtrN m n _ _ W).trans (by rw [(decide_eq_false (by omega))])) ?_
    simp only [putT, List.set]
    refine wpV_pick (v := .bool false) (by rfl) rfl rfl rfl ?_
    simp only [putT, List.set]
    refine wpV_move (v := .bool false) (by rfl) rfl rfl ?_
    simp only [putT, List.set]
    refine wpV_move (v := .int .i64 ((n : Nat) : Int)) (by rfl) rfl rfl ?_
    simp only [putT, List.set]
    refine wpV_bin (v := .bool false) (by rfl) rfl rfl rfl (fun W => (run_gtrN n 4096 _ _ W).trans (by rw [(decide_eq_false (Nat.not_lt.2 hn))])) ?_
    simp only [putT, List.set]
    refine wpV_pick (v := .bool false) (by rfl) rfl rfl rfl ?_
    simp only [putT, List.set]
    refine wpV_move (v := .bool false) (by rfl) rfl rfl ?_
    simp only [putT, List.set]
    refine wpV_move (v := .string (bs old)) (by rfl) rfl rfl ?_
    simp only [putT, List.set]
    refine wpV_lenS (by rfl) rfl rfl rfl Tryd.underlying9 ?_
    simp only [putT, List.set]
    refine wpV_bin (v := .bool false) (by rfl) rfl rfl rfl (fun W => (run_neqN old.length 32 _ _ W).trans (by rw [(decide_eq_false (fun e9 => e9 h1))])) ?_
    simp only [putT, List.set]
    refine wpV_pick (v := .bool false) (by rfl) rfl rfl rfl ?_
    simp only [putT, List.set]
    refine wpV_move (v := .bool false) (by rfl) rfl rfl ?_
    simp only [putT, List.set]
    refine wpV_move (v := .string (bs root)) (by rfl) rfl rfl ?_
    simp only [putT, List.set]
    refine wpV_lenS (by rfl) rfl rfl rfl Tryd.underlying9 ?_
    simp only [putT, List.set]
    refine wpV_bin (v := .bool false) (by rfl) rfl rfl rfl (fun W => (run_neqN root.length 32 _ _ W).trans (by rw [(decide_eq_false (fun e9 => e9 h2))])) ?_
    simp only [putT, List.set]
    refine wpV_pick (v := .bool false) (by rfl) rfl rfl rfl ?_
    simp only [putT, List.set]
    refine wpV_move (v := .bool false) (by rfl) rfl rfl ?_
    simp only [putT, List.set]
    refine wpV_move (v := .slice (some ⟨g5, 0, none⟩) Ql.length g5c) (by rfl) rfl rfl ?_
    simp only [putT, List.set]
    refine wpV_callf (v := .bool true) (args := #[.slice (some ⟨g5, 0, none⟩) Ql.length g5c]) (by rfl) rfl Tryd.func57 (by kernel_rfl) (by kernel_rfl) rfl (fun W hW => by have h9 : Calls Tryd.prog _ _ W _ := rall_r (ps := Ql) hq (RowA.of ((M.sees hW).r 0 0 rfl rfl) ((M.sees hW).lt 0 rfl) (scells_len _).symm Cg5); rw [hp] at h9; exact h9) ?_
    simp only [putT, List.set]
    refine wpV_not (b := true) (by rfl) rfl rfl ?_
    simp only [Bool.not_true, Bool.not_false]
    simp only [putT, List.set]
    refine wpV_pick (v := .bool false) (by rfl) rfl rfl rfl ?_
    simp only [putT, List.set]
    refine wpV_nil (hLk _ (fun w16 Sw16 => ?_))
    clear hLk Lk
    simp only [List.take, List.drop]
    replace M := M.sees Sw16
    refine wpL_nil (no_panic ?_)
    refine hK14 _ _ ?_
    refine wp_cond_false rfl ?_
    refine wp_skip ?_
    refine hK13 _ _ ?_
    refine wp_seq_k (fun K17 hK17 => ?_)
    cases hg18 : (decide (Ql.length = 0))
    · skip
      have ha : ¬ Ql.length = 0 := of_decide_eq_false hg18
      refine wp_region_seq ?_
      refine wpL_move (v := .slice (some ⟨g5, 0, none⟩) Ql.length g5c) (by rfl) (by rfl) (by rfl) ?_
      simp only [putT, List.set]
      refine wpL_chunk 7 (by rfl) (fun Lk hLk => ?_)
      simp only [List.take, List.drop]
      refine wpV_lenA (n := Ql.length) (by rfl) rfl rfl rfl Tryd.underlying48 ?_
      simp only [putT, List.set]
      refine wpV_bin (v := .bool false) (by rfl) rfl rfl rfl (fun W => (run_eqlN Ql.length 0 _ _ W).trans (by rw [hg18])) ?_
      simp only [putT, List.set]
      refine wpV_move (v := .bool false) (by rfl) rfl rfl ?_
      simp only [putT, List.set]
      refine wpV_skip (by rfl) (by rfl) ?_
      simp only [putT, List.set]
      refine wpV_skip (by rfl) (by rfl) ?_
      simp only [putT, List.set]
      refine wpV_skip (by rfl) (by rfl) ?_
      simp only [putT, List.set]
      refine wpV_pick (v := .bool false) (by rfl) rfl rfl rfl ?_
      simp only [putT, List.set]
      refine wpV_nil (hLk _ (fun w20 Sw20 => ?_))
      clear hLk Lk
      simp only [List.take, List.drop]
      replace M := M.sees Sw20
      refine wpL_assign (v := .bool false) (by rfl) (by rfl) (by rfl) ?_
      simp only [putT, List.set]
      refine wpL_nil (no_panic ?_)
      refine hK17 _ _ ?_
      refine wp_seq_k (fun K21 hK21 => ?_)
      refine wp_seq_k (fun K22 hK22 => ?_)
      refine wp_region_seq ?_
      refine wpL_move (v := .int .i64 ((m : Nat) : Int)) (by rfl) (by rfl) (by rfl) ?_
      simp only [putT, List.set]
      refine wpL_chunk 1 (by rfl) (fun Lk hLk => ?_)
      simp only [List.take, List.drop]
      refine wpV_bin (v := .bool true) (by rfl) rfl rfl rfl (fun W => (run_gtrN m 0 _ _ W).trans (by rw [(decide_eq_true (by omega))])) ?_
      simp only [putT, List.set]
      refine wpV_nil (hLk _ (fun w24 Sw24 => ?_))
      clear hLk Lk
      simp only [List.take, List.drop]
      replace M := M.sees Sw24
      refine wpL_nil (no_panic ?_)
      refine hK22 _ _ ?_
      refine wp_cond_true rfl ?_
      refine wp_region_seq ?_
      refine wpL_move (v := .int .i64 ((m : Nat) : Int)) (by rfl) (by rfl) (by rfl) ?_
      simp only [putT, List.set]
      refine wpL_move (v := .int .i64 ((n : Nat) : Int)) (by rfl) (by rfl) (by rfl) ?_
      simp only [putT, List.set]
      refine wpL_move (v := .string (bs old)) (by rfl) (by rfl) (by rfl) ?_
      simp only [putT, List.set]
      refine wpL_move (v := .slice (some ⟨g5, 0, none⟩) Ql.length g5c) (by rfl) (by rfl) (by rfl) ?_
      simp only [putT, List.set]
      refine wpL_chunk 12 (by rfl) (fun Lk hLk => ?_)
      simp only [List.take, List.drop]
      refine wpV_callf (v := .string (bs (followT oldF m n old Ql true))) (args := #[.int .i64 ((m : Nat) : Int), .int .i64 ((n : Nat) : Int), .string (bs old), .slice (some ⟨g5, 0, none⟩) Ql.length g5c, .bool true]) (by rfl) rfl Tryd.func68 (by kernel_rfl) (by kernel_rfl) rfl (fun W hW => by with_reducible exact rfold_c _ (st := Ql) (old := old) (mm := m) (n := n) (wh := true) rfl hm1 hmn hn h1 hq (all32_mem hp) (RowA.of ((M.sees hW).r 0 0 rfl rfl) ((M.sees hW).lt 0 rfl) (scells_len _).symm Cg5)) ?_
      simp only [putT, List.set]
      refine wpV_move (v := .string (bs old)) (by rfl) rfl rfl ?_
      simp only [putT, List.set]
      refine wpV_binS (v := .bool true) (by rfl) rfl rfl rfl (fun W => (run_eql_bs _ _ _ W).trans (by rw [(decide_eq_true hfb.1)])) ?_
      simp only [putT, List.set]
      refine wpV_move (v := .bool true) (by rfl) rfl rfl ?_
      simp only [putT, List.set]
      refine wpV_move (v := .int .i64 ((m : Nat) : Int)) (by rfl) rfl rfl ?_
      simp only [putT, List.set]
      refine wpV_move (v := .int .i64 ((n : Nat) : Int)) (by rfl) rfl rfl ?_
      simp only [putT, List.set]
      refine wpV_move (v := .string (bs old)) (by rfl) rfl rfl ?_
      simp only [putT, List.set]
      refine wpV_move (v := .slice (some ⟨g5, 0, none⟩) Ql.length g5c) (by rfl) rfl rfl ?_
      simp only [putT, List.set]
      refine wpV_callf (v := .string (bs (followT nodeF m n old Ql true))) (args := #[.int .i64 ((m : Nat) : Int), .int .i64 ((n : Nat) : Int), .string (bs old), .slice (some ⟨g5, 0, none⟩) Ql.length g5c, .bool true]) (by rfl) rfl Tryd.func69 (by kernel_rfl) (by kernel_rfl) rfl (fun W hW => by with_reducible exact rfnew_c _ (st := Ql) (old := old) (mm := m) (n := n) (wh := true) rfl hm1 hmn hn h1 hq (all32_mem hp) (RowA.of ((M.sees hW).r 0 0 rfl rfl) ((M.sees hW).lt 0 rfl) (scells_len _).symm Cg5)) ?_
      simp only [putT, List.set]
      refine wpV_move (v := .string (bs root)) (by rfl) rfl rfl ?_
      simp only [putT, List.set]
      refine wpV_binS (v := .bool true) (by rfl) rfl rfl rfl (fun W => (run_eql_bs _ _ _ W).trans (by rw [(decide_eq_true hfb.2)])) ?_
      simp only [putT, List.set]
      refine wpV_pick (v := .bool true) (by rfl) rfl rfl rfl ?_
      simp only [putT, List.set]
      refine wpV_nil (hLk _ (fun w26 Sw26 => ?_))
      clear hLk Lk
      simp only [List.take, List.drop]
      replace M := M.sees Sw26
      refine wpL_assign (v := .bool true) (by rfl) (by rfl) (by rfl) ?_
      simp only [putT, List.set]
      refine wpL_nil (no_panic ?_)
      refine hK21 _ _ ?_
      refine wp_seq_k (fun K27 hK27 => ?_)
      refine wp_seq_k (fun K28 hK28 => ?_)
      refine wp_region_seq ?_
      refine wpL_move (v := .bool true) (by rfl) (by rfl) (by rfl) ?_
      simp only [putT, List.set]
      refine wpL_nil (no_panic ?_)
      refine hK28 _ _ ?_
      refine wp_cond_true rfl ?_
      refine wp_seq_k (fun K30 hK30 => ?_)
      refine wp_region_seq ?_
      refine wpL_chunk 5 (by rfl) (fun Lk hLk => ?_)
      simp only [List.take, List.drop]
      refine wpV_callf (v := .bool true) (args := #[]) (by rfl) rfl Tryd.func49 (by kernel_rfl) (by kernel_rfl) rfl (fun W hW => alive09_c ((M.sees hW).oldL L0) ((M.sees hW).oldR R0_0 L0)) ?_
      simp only [putT, List.set]
      refine wpV_move (v := .bool true) (by rfl) rfl rfl ?_
      simp only [putT, List.set]
      refine wpV_move (v := .int .i64 0) (by rfl) rfl rfl ?_
      simp only [putT, List.set]
      refine wpV_bin (v := .bool true) (by rfl) rfl rfl rfl (fun W => run_eql _ _ _ _ W) ?_
      simp only [putT, List.set]
      refine wpV_pick (v := .bool true) (by rfl) rfl rfl rfl ?_
      simp only [putT, List.set]
      refine wpV_nil (hLk _ (fun w32 Sw32 => ?_))
      clear hLk Lk
      simp only [List.take, List.drop]
      replace M := M.sees Sw32
      refine wpL_assign (v := .bool true) (by rfl) (by rfl) (by rfl) ?_
      simp only [putT, List.set]
      refine wpL_nil (no_panic ?_)
      refine hK30 _ _ ?_
      refine wp_ret ?_
      repeat (first | with_reducible refine then_ret ?_ | with_reducible refine inblock_ret ?_)
      refine bodyPost_ret (v := .bool true) (res1 rfl (.tmp (by rfl))) rfl ?_
      have BE := M.below
      exact ⟨rfl, BE⟩
    · skip
      have ha : Ql.length = 0 := of_decide_eq_true hg18
      refine wp_region_seq ?_
      refine wpL_move (v := .slice (some ⟨g5, 0, none⟩) Ql.length g5c) (by rfl) (by rfl) (by rfl) ?_
      simp only [putT, List.set]
      refine wpL_chunk 7 (by rfl) (fun Lk hLk => ?_)
      simp only [List.take, List.drop]
      refine wpV_lenA (n := Ql.length) (by rfl) rfl rfl rfl Tryd.underlying48 ?_
      simp only [putT, List.set]
      refine wpV_bin (v := .bool true) (by rfl) rfl rfl rfl (fun W => (run_eqlN Ql.length 0 _ _ W).trans (by rw [hg18])) ?_
      simp only [putT, List.set]
      refine wpV_move (v := .bool true) (by rfl) rfl rfl ?_
      simp only [putT, List.set]
      refine wpV_move (v := .string (bs old)) (by rfl) rfl rfl ?_
      simp only [putT, List.set]
      refine wpV_callf (v := .string (bs (rootS []))) (args := #[(.slice none 0 0)]) (by rfl) rfl Tryd.func45 (by kernel_rfl) (by kernel_rfl) rfl (fun W hW => rroot_c0 ) ?_
      simp only [putT, List.set]
      refine wpV_binS (v := .bool (decide (old = rootS []))) (by rfl) rfl rfl rfl (run_eql_bs _ _ _) ?_
      simp only [putT, List.set]
      refine wpV_pick (v := .bool (decide (old = rootS []))) (by rfl) rfl rfl rfl ?_
      simp only [putT, List.set]
      refine wpV_nil (hLk _ (fun w34 Sw34 => ?_))
      clear hLk Lk
      simp only [List.take, List.drop]
      replace M := M.sees Sw34
      refine wpL_assign (v := .bool (decide (old = rootS []))) (by rfl) (by rfl) (by rfl) ?_
      simp only [putT, List.set]
      refine wpL_nil (no_panic ?_)
      refine hK17 _ _ ?_
      refine wp_seq_k (fun K35 hK35 => ?_)
      refine wp_seq_k (fun K36 hK36 => ?_)
      refine wp_region_seq ?_
      refine wpL_move (v := .int .i64 ((m : Nat) : Int)) (by rfl) (by rfl) (by rfl) ?_
      simp only [putT, List.set]
      refine wpL_chunk 1 (by rfl) (fun Lk hLk => ?_)
      simp only [List.take, List.drop]
      refine wpV_bin (v := .bool true) (by rfl) rfl rfl rfl (fun W => (run_gtrN m 0 _ _ W).trans (by rw [(decide_eq_true (by omega))])) ?_
      simp only [putT, List.set]
      refine wpV_nil (hLk _ (fun w38 Sw38 => ?_))
      clear hLk Lk
      simp only [List.take, List.drop]
      replace M := M.sees Sw38
      refine wpL_nil (no_panic ?_)
      refine hK36 _ _ ?_
      refine wp_cond_true rfl ?_
      refine wp_region_seq ?_
      refine wpL_move (v := .int .i64 ((m : Nat) : Int)) (by rfl) (by rfl) (by rfl) ?_
      simp only [putT, List.set]
      refine wpL_move (v := .int .i64 ((n : Nat) : Int)) (by rfl) (by rfl) (by rfl) ?_
      simp only [putT, List.set]
      refine wpL_move (v := .string (bs old)) (by rfl) (by rfl) (by rfl) ?_
      simp only [putT, List.set]
      refine wpL_move (v := .slice (some ⟨g5, 0, none⟩) Ql.length g5c) (by rfl) (by rfl) (by rfl) ?_
      simp only [putT, List.set]
      refine wpL_chunk 12 (by rfl) (fun Lk hLk => ?_)
      simp only [List.take, List.drop]
      refine wpV_callf (v := .string (bs (followT oldF m n old Ql true))) (args := #[.int .i64 ((m : Nat) : Int), .int .i64 ((n : Nat) : Int), .string (bs old), .slice (some ⟨g5, 0, none⟩) Ql.length g5c, .bool true]) (by rfl) rfl Tryd.func68 (by kernel_rfl) (by kernel_rfl) rfl (fun W hW => by with_reducible exact rfold_c _ (st := Ql) (old := old) (mm := m) (n := n) (wh := true) rfl hm1 hmn hn h1 hq (all32_mem hp) (RowA.of ((M.sees hW).r 0 0 rfl rfl) ((M.sees hW).lt 0 rfl) (scells_len _).symm Cg5)) ?_
      simp only [putT, List.set]
      refine wpV_move (v := .string (bs old)) (by rfl) rfl rfl ?_
      simp only [putT, List.set]
      refine wpV_binS (v := .bool true) (by rfl) rfl rfl rfl (fun W => (run_eql_bs _ _ _ W).trans (by rw [(decide_eq_true hfb.1)])) ?_
      simp only [putT, List.set]
      refine wpV_move (v := .bool true) (by rfl) rfl rfl ?_
      simp only [putT, List.set]
      refine wpV_move (v := .int .i64 ((m : Nat) : Int)) (by rfl) rfl rfl ?_
      simp only [putT, List.set]
      refine wpV_move (v := .int .i64 ((n : Nat) : Int)) (by rfl) rfl rfl ?_
      simp only [putT, List.set]
      refine wpV_move (v := .string (bs old)) (by rfl) rfl rfl ?_
      simp only [putT, List.set]
      refine wpV_move (v := .slice (some ⟨g5, 0, none⟩) Ql.length g5c) (by rfl) rfl rfl ?_
      simp only [putT, List.set]
      refine wpV_callf (v := .string (bs (followT nodeF m n old Ql true))) (args := #[.int .i64 ((m : Nat) : Int), .int .i64 ((n : Nat) : Int), .string (bs old), .slice (some ⟨g5, 0, none⟩) Ql.length g5c, .bool true]) (by rfl) rfl Tryd.func69 (by kernel_rfl) (by kernel_rfl) rfl (fun W hW => by with_reducible exact rfnew_c _ (st := Ql) (old := old) (mm := m) (n := n) (wh := true) rfl hm1 hmn hn h1 hq (all32_mem hp) (RowA.of ((M.sees hW).r 0 0 rfl rfl) ((M.sees hW).lt 0 rfl) (scells_len _).symm Cg5)) ?_
      simp only [putT, List.set]
      refine wpV_move (v := .string (bs root)) (by rfl) rfl rfl ?_
      simp only [putT, List.set]
      refine wpV_binS (v := .bool true) (by rfl) rfl rfl rfl (fun W => (run_eql_bs _ _ _ W).trans (by rw [(decide_eq_true hfb.2)])) ?_
      simp only [putT, List.set]
      refine wpV_pick (v := .bool true) (by rfl) rfl rfl rfl ?_
      simp only [putT, List.set]
      refine wpV_nil (hLk _ (fun w40 Sw40 => ?_))
      clear hLk Lk
      simp only [List.take, List.drop]
      replace M := M.sees Sw40
      refine wpL_assign (v := .bool true) (by rfl) (by rfl) (by rfl) ?_
      simp only [putT, List.set]
      refine wpL_nil (no_panic ?_)
      refine hK35 _ _ ?_
      refine wp_seq_k (fun K41 hK41 => ?_)
      refine wp_seq_k (fun K42 hK42 => ?_)
      refine wp_region_seq ?_
      refine wpL_move (v := .bool true) (by rfl) (by rfl) (by rfl) ?_
      simp only [putT, List.set]
      refine wpL_nil (no_panic ?_)
      refine hK42 _ _ ?_
      refine wp_cond_true rfl ?_
      refine wp_seq_k (fun K44 hK44 => ?_)
      refine wp_region_seq ?_
      refine wpL_chunk 5 (by rfl) (fun Lk hLk => ?_)
      simp only [List.take, List.drop]
      refine wpV_callf (v := .bool true) (args := #[]) (by rfl) rfl Tryd.func49 (by kernel_rfl) (by kernel_rfl) rfl (fun W hW => alive09_c ((M.sees hW).oldL L0) ((M.sees hW).oldR R0_0 L0)) ?_
      simp only [putT, List.set]
      refine wpV_move (v := .bool true) (by rfl) rfl rfl ?_
      simp only [putT, List.set]
      refine wpV_move (v := .int .i64 0) (by rfl) rfl rfl ?_
      simp only [putT, List.set]
      refine wpV_bin (v := .bool true) (by rfl) rfl rfl rfl (fun W => run_eql _ _ _ _ W) ?_
      simp only [putT, List.set]
      refine wpV_pick (v := .bool true) (by rfl) rfl rfl rfl ?_
      simp only [putT, List.set]
      refine wpV_nil (hLk _ (fun w46 Sw46 => ?_))
      clear hLk Lk
      simp only [List.take, List.drop]
      replace M := M.sees Sw46
      refine wpL_assign (v := .bool true) (by rfl) (by rfl) (by rfl) ?_
      simp only [putT, List.set]
      refine wpL_nil (no_panic ?_)
      refine hK44 _ _ ?_
      refine wp_ret ?_
      repeat (first | with_reducible refine then_ret ?_ | with_reducible refine inblock_ret ?_)
      refine bodyPost_ret (v := .bool true) (res1 rfl (.tmp (by rfl))) rfl ?_
      have BE := M.below
      exact ⟨rfl, BE⟩
  · skip
    rw [if_neg hfb]
    unfold folB at hfb
    rw [decide_eq_true_eq] at hfb
    refine hK10 _ _ ?_
    refine wp_seq_k (fun K47 hK47 => ?_)
    refine wp_seq_k (fun K48 hK48 => ?_)
    refine wp_region_seq ?_
    refine wpL_move (v := .int .i64 ((m : Nat) : Int)) (by rfl) (by rfl) (by rfl) ?_
    simp only [putT, List.set]
    refine wpL_chunk 25 (by rfl) (fun Lk hLk => ?_)
    simp only [List.take, List.drop]
    refine wpV_bin (v := .bool false) (by rfl) rfl rfl rfl (fun W => (run_lssN m 0 _ _ W).trans (by rw [(decide_eq_false (Nat.not_lt_zero m))])) ?_
    simp only [putT, List.set]
    refine wpV_move (v := .bool false) (by rfl) rfl rfl ?_
    simp only [putT, List.set]
    refine wpV_move (v := .int .i64 ((m : Nat) : Int)) (by rfl) rfl rfl ?_
    simp only [putT, List.set]
    refine wpV_move (v := .int .i64 ((n : Nat) : Int)) (by rfl) rfl rfl ?_
    simp only [putT, List.set]
    refine wpV_bin (v := .bool false) (by rfl) rfl rfl rfl (fun W => (run_gtrN m n _ _ W).trans (by rw [(decide_eq_false (by omega))])) ?_
    simp only [putT, List.set]
    refine wpV_pick (v := .bool false) (by rfl) rfl rfl rfl ?_
    simp only [putT, List.set]
    refine wpV_move (v := .bool false) (by rfl) rfl rfl ?_
    simp only [putT, List.set]
    refine wpV_move (v := .int .i64 ((n : Nat) : Int)) (by rfl) rfl rfl ?_
    simp only [putT, List.set]
    refine wpV_bin (v := .bool false) (by rfl) rfl rfl rfl (fun W => (run_gtrN n 4096 _ _ W).trans (by rw [(decide_eq_false (Nat.not_lt.2 hn))])) ?_
    simp only [putT, List.set]
    refine wpV_pick (v := .bool false) (by rfl) rfl rfl rfl ?_
    simp only [putT, List.set]
    refine wpV_move (v := .bool false) (by rfl) rfl rfl ?_
    simp only [putT, List.set]
    refine wpV_move (v := .string (bs old)) (by rfl) rfl rfl ?_
    simp only [putT, List.set]
    refine wpV_lenS (by rfl) rfl rfl rfl Tryd.underlying9 ?_
    simp only [putT, List.set]
    refine wpV_bin (v := .bool false) (by rfl) rfl rfl rfl (fun W => (run_neqN old.length 32 _ _ W).trans (by rw [(decide_eq_false (fun e9 => e9 h1))])) ?_
    simp only [putT, List.set]
    refine wpV_pick (v := .bool false) (by rfl) rfl rfl rfl ?_
    simp only [putT, List.set]
    refine wpV_move (v := .bool false) (by rfl) rfl rfl ?_
    simp only [putT, List.set]
    refine wpV_move (v := .string (bs root)) (by rfl) rfl rfl ?_
    simp only [putT, List.set]
    refine wpV_lenS (by rfl) rfl rfl rfl Tryd.underlying9 ?_
    simp only [putT, List.set]
    refine wpV_bin (v := .bool false) (by rfl) rfl rfl rfl (fun W => (run_neqN root.length 32 _ _ W).trans (by rw [(decide_eq_false (fun e9 => e9 h2))])) ?_
    simp only [putT, List.set]
    refine wpV_pick (v := .bool false) (by rfl) rfl rfl rfl ?_
    simp only [putT, List.set]
    refine wpV_move (v := .bool false) (by rfl) rfl rfl ?_
    simp only [putT, List.set]
    refine wpV_move (v := .slice (some ⟨g5, 0, none⟩) Ql.length g5c) (by rfl) rfl rfl ?_
    simp only [putT, List.set]
    refine wpV_callf (v := .bool true) (args := #[.slice (some ⟨g5, 0, none⟩) Ql.length g5c]) (by rfl) rfl Tryd.func57 (by kernel_rfl) (by kernel_rfl) rfl (fun W hW => by have h9 : Calls Tryd.prog _ _ W _ := rall_r (ps := Ql) hq (RowA.of ((M.sees hW).r 0 0 rfl rfl) ((M.sees hW).lt 0 rfl) (scells_len _).symm Cg5); rw [hp] at h9; exact h9) ?_
    simp only [putT, List.set]
    refine wpV_not (b := true) (by rfl) rfl rfl ?_
    simp only [Bool.not_true, Bool.not_false]
    simp only [putT, List.set]
    refine wpV_pick (v := .bool false) (by rfl) rfl rfl rfl ?_
    simp only [putT, List.set]
    refine wpV_nil (hLk _ (fun w50 Sw50 => ?_))
    clear hLk Lk
    simp only [List.take, List.drop]
    replace M := M.sees Sw50
    refine wpL_nil (no_panic ?_)
    refine hK48 _ _ ?_
    refine wp_cond_false rfl ?_
    refine wp_skip ?_
    refine hK47 _ _ ?_
    refine wp_seq_k (fun K51 hK51 => ?_)
    cases hg52 : (decide (Ql.length = 0))
    · skip
      have ha : ¬ Ql.length = 0 := of_decide_eq_false hg52
      refine wp_region_seq ?_
      refine wpL_move (v := .slice (some ⟨g5, 0, none⟩) Ql.length g5c) (by rfl) (by rfl) (by rfl) ?_
      simp only [putT, List.set]
      refine wpL_chunk 7 (by rfl) (fun Lk hLk => ?_)
      simp only [List.take, List.drop]
      refine wpV_lenA (n := Ql.length) (by rfl) rfl rfl rfl Tryd.underlying48 ?_
      simp only [putT, List.set]
      refine wpV_bin (v := .bool false) (by rfl) rfl rfl rfl (fun W => (run_eqlN Ql.length 0 _ _ W).trans (by rw [hg52])) ?_
      simp only [putT, List.set]
      refine wpV_move (v := .bool false) (by rfl) rfl rfl ?_
      simp only [putT, List.set]
      refine wpV_skip (by rfl) (by rfl) ?_
      simp only [putT, List.set]
      refine wpV_skip (by rfl) (by rfl) ?_
      simp only [putT, List.set]
      refine wpV_skip (by rfl) (by rfl) ?_
      simp only [putT, List.set]
      refine wpV_pick (v := .bool false) (by rfl) rfl rfl rfl ?_
      simp only [putT, List.set]
      refine wpV_nil (hLk _ (fun w54 Sw54 => ?_))
      clear hLk Lk
      simp only [List.take, List.drop]
      replace M := M.sees Sw54
      refine wpL_assign (v := .bool false) (by rfl) (by rfl) (by rfl) ?_
      simp only [putT, List.set]
      refine wpL_nil (no_panic ?_)
      refine hK51 _ _ ?_
      refine wp_seq_k (fun K55 hK55 => ?_)
      refine wp_seq_k (fun K56 hK56 => ?_)
      refine wp_region_seq ?_
      refine wpL_move (v := .int .i64 ((m : Nat) : Int)) (by rfl) (by rfl) (by rfl) ?_
      simp only [putT, List.set]
      refine wpL_chunk 1 (by rfl) (fun Lk hLk => ?_)
      simp only [List.take, List.drop]
      refine wpV_bin (v := .bool true) (by rfl) rfl rfl rfl (fun W => (run_gtrN m 0 _ _ W).trans (by rw [(decide_eq_true (by omega))])) ?_
      simp only [putT, List.set]
      refine wpV_nil (hLk _ (fun w58 Sw58 => ?_))
      clear hLk Lk
      simp only [List.take, List.drop]
      replace M := M.sees Sw58
      refine wpL_nil (no_panic ?_)
      refine hK56 _ _ ?_
      refine wp_cond_true rfl ?_
      cases hg59 : (decide (followT oldF m n old Ql true = old))
      · skip
        have ha : ¬ followT oldF m n old Ql true = old := of_decide_eq_false hg59
        refine wp_region_seq ?_
        refine wpL_move (v := .int .i64 ((m : Nat) : Int)) (by rfl) (by rfl) (by rfl) ?_
        simp only [putT, List.set]
        refine wpL_move (v := .int .i64 ((n : Nat) : Int)) (by rfl) (by rfl) (by rfl) ?_
        simp only [putT, List.set]
        refine wpL_move (v := .string (bs old)) (by rfl) (by rfl) (by rfl) ?_
        simp only [putT, List.set]
        refine wpL_move (v := .slice (some ⟨g5, 0, none⟩) Ql.length g5c) (by rfl) (by rfl) (by rfl) ?_
        simp only [putT, List.set]
        refine wpL_chunk 12 (by rfl) (fun Lk hLk => ?_)
        simp only [List.take, List.drop]
        refine wpV_callf (v := .string (bs (followT oldF m n old Ql true))) (args := #[.int .i64 ((m : Nat) : Int), .int .i64 ((n : Nat) : Int), .string (bs old), .slice (some ⟨g5, 0, none⟩) Ql.length g5c, .bool true]) (by rfl) rfl Tryd.func68 (by kernel_rfl) (by kernel_rfl) rfl (fun W hW => by with_reducible exact rfold_c _ (st := Ql) (old := old) (mm := m) (n := n) (wh := true) rfl hm1 hmn hn h1 hq (all32_mem hp) (RowA.of ((M.sees hW).r 0 0 rfl rfl) ((M.sees hW).lt 0 rfl) (scells_len _).symm Cg5)) ?_
        simp only [putT, List.set]
        refine wpV_move (v := .string (bs old)) (by rfl) rfl rfl ?_
        simp only [putT, List.set]
        refine wpV_binS (v := .bool false) (by rfl) rfl rfl rfl (fun W => (run_eql_bs _ _ _ W).trans (by rw [hg59])) ?_
        simp only [putT, List.set]
        refine wpV_move (v := .bool false) (by rfl) rfl rfl ?_
        simp only [putT, List.set]
        refine wpV_skip (by rfl) (by rfl) ?_
        simp only [putT, List.set]
        refine wpV_skip (by rfl) (by rfl) ?_
        simp only [putT, List.set]
        refine wpV_skip (by rfl) (by rfl) ?_
        simp only [putT, List.set]
        refine wpV_skip (by rfl) (by rfl) ?_
        simp only [putT, List.set]
        refine wpV_skip (by rfl) (by rfl) ?_
        simp only [putT, List.set]
        refine wpV_skip (by rfl) (by rfl) ?_
        simp only [putT, List.set]
        refine wpV_skip (by rfl) (by rfl) ?_
        simp only [putT, List.set]
        refine wpV_pick (v := .bool false) (by rfl) rfl rfl rfl ?_
        simp only [putT, List.set]
        refine wpV_nil (hLk _ (fun w61 Sw61 => ?_))
        clear hLk Lk
        simp only [List.take, List.drop]
        replace M := M.sees Sw61
        refine wpL_assign (v := .bool false) (by rfl) (by rfl) (by rfl) ?_
        simp only [putT, List.set]
        refine wpL_nil (no_panic ?_)
        refine hK55 _ _ ?_
        refine wp_seq_k (fun K62 hK62 => ?_)
        refine wp_seq_k (fun K63 hK63 => ?_)
        refine wp_region_seq ?_
        refine wpL_move (v := .bool false) (by rfl) (by rfl) (by rfl) ?_
        simp only [putT, List.set]
        refine wpL_nil (no_panic ?_)
        refine hK63 _ _ ?_
        refine wp_cond_false rfl ?_
        refine wp_skip ?_
        refine hK62 _ _ ?_
        refine wp_seq_k (fun K65 hK65 => ?_)
        refine wp_region_seq ?_
        refine wpL_chunk 5 (by rfl) (fun Lk hLk => ?_)
        simp only [List.take, List.drop]
        refine wpV_callf (v := .bool true) (args := #[]) (by rfl) rfl Tryd.func49 (by kernel_rfl) (by kernel_rfl) rfl (fun W hW => alive09_c ((M.sees hW).oldL L0) ((M.sees hW).oldR R0_0 L0)) ?_
        simp only [putT, List.set]
        refine wpV_move (v := .bool true) (by rfl) rfl rfl ?_
        simp only [putT, List.set]
        refine wpV_move (v := .int .i64 13) (by rfl) rfl rfl ?_
        simp only [putT, List.set]
        refine wpV_bin (v := .bool true) (by rfl) rfl rfl rfl (fun W => run_eql _ _ _ _ W) ?_
        simp only [putT, List.set]
        refine wpV_pick (v := .bool true) (by rfl) rfl rfl rfl ?_
        simp only [putT, List.set]
        refine wpV_nil (hLk _ (fun w67 Sw67 => ?_))
        clear hLk Lk
        simp only [List.take, List.drop]
        replace M := M.sees Sw67
        refine wpL_assign (v := .bool true) (by rfl) (by rfl) (by rfl) ?_
        simp only [putT, List.set]
        refine wpL_nil (no_panic ?_)
        refine hK65 _ _ ?_
        refine wp_ret ?_
        repeat (first | with_reducible refine then_ret ?_ | with_reducible refine inblock_ret ?_)
        refine bodyPost_ret (v := .bool true) (res1 rfl (.tmp (by rfl))) rfl ?_
        have BE := M.below
        exact ⟨rfl, BE⟩
      · skip
        have ha : followT oldF m n old Ql true = old := of_decide_eq_true hg59
        refine wp_region_seq ?_
        refine wpL_move (v := .int .i64 ((m : Nat) : Int)) (by rfl) (by rfl) (by rfl) ?_
        simp only [putT, List.set]
        refine wpL_move (v := .int .i64 ((n : Nat) : Int)) (by rfl) (by rfl) (by rfl) ?_
        simp only [putT, List.set]
        refine wpL_move (v := .string (bs old)) (by rfl) (by rfl) (by rfl) ?_
        simp only [putT, List.set]
        refine wpL_move (v := .slice (some ⟨g5, 0, none⟩) Ql.length g5c) (by rfl) (by rfl) (by rfl) ?_
        simp only [putT, List.set]
        refine wpL_chunk 12 (by rfl) (fun Lk hLk => ?_)
        simp only [List.take, List.drop]
        refine wpV_callf (v := .string (bs (followT oldF m n old Ql true))) (args := #[.int .i64 ((m : Nat) : Int), .int .i64 ((n : Nat) : Int), .string (bs old), .slice (some ⟨g5, 0, none⟩) Ql.length g5c, .bool true]) (by rfl) rfl Tryd.func68 (by kernel_rfl) (by kernel_rfl) rfl (fun W hW => by with_reducible exact rfold_c _ (st := Ql) (old := old) (mm := m) (n := n) (wh := true) rfl hm1 hmn hn h1 hq (all32_mem hp) (RowA.of ((M.sees hW).r 0 0 rfl rfl) ((M.sees hW).lt 0 rfl) (scells_len _).symm Cg5)) ?_
        simp only [putT, List.set]
        refine wpV_move (v := .string (bs old)) (by rfl) rfl rfl ?_
        simp only [putT, List.set]
        refine wpV_binS (v := .bool true) (by rfl) rfl rfl rfl (fun W => (run_eql_bs _ _ _ W).trans (by rw [hg59])) ?_
        simp only [putT, List.set]
        refine wpV_move (v := .bool true) (by rfl) rfl rfl ?_
        simp only [putT, List.set]
        refine wpV_move (v := .int .i64 ((m : Nat) : Int)) (by rfl) rfl rfl ?_
        simp only [putT, List.set]
        refine wpV_move (v := .int .i64 ((n : Nat) : Int)) (by rfl) rfl rfl ?_
        simp only [putT, List.set]
        refine wpV_move (v := .string (bs old)) (by rfl) rfl rfl ?_
        simp only [putT, List.set]
        refine wpV_move (v := .slice (some ⟨g5, 0, none⟩) Ql.length g5c) (by rfl) rfl rfl ?_
        simp only [putT, List.set]
        refine wpV_callf (v := .string (bs (followT nodeF m n old Ql true))) (args := #[.int .i64 ((m : Nat) : Int), .int .i64 ((n : Nat) : Int), .string (bs old), .slice (some ⟨g5, 0, none⟩) Ql.length g5c, .bool true]) (by rfl) rfl Tryd.func69 (by kernel_rfl) (by kernel_rfl) rfl (fun W hW => by with_reducible exact rfnew_c _ (st := Ql) (old := old) (mm := m) (n := n) (wh := true) rfl hm1 hmn hn h1 hq (all32_mem hp) (RowA.of ((M.sees hW).r 0 0 rfl rfl) ((M.sees hW).lt 0 rfl) (scells_len _).symm Cg5)) ?_
        simp only [putT, List.set]
        refine wpV_move (v := .string (bs root)) (by rfl) rfl rfl ?_
        simp only [putT, List.set]
        refine wpV_binS (v := .bool (decide (followT nodeF m n old Ql true = root))) (by rfl) rfl rfl rfl (run_eql_bs _ _ _) ?_
        simp only [putT, List.set]
        refine wpV_pick (v := .bool (decide (followT nodeF m n old Ql true = root))) (by rfl) rfl rfl rfl ?_
        simp only [putT, List.set]
        refine wpV_nil (hLk _ (fun w69 Sw69 => ?_))
        clear hLk Lk
        simp only [List.take, List.drop]
        replace M := M.sees Sw69
        refine wpL_assign (v := .bool (decide (followT nodeF m n old Ql true = root))) (by rfl) (by rfl) (by rfl) ?_
        simp only [putT, List.set]
        refine wpL_nil (no_panic ?_)
        refine hK55 _ _ ?_
        refine wp_seq_k (fun K70 hK70 => ?_)
        refine wp_seq_k (fun K71 hK71 => ?_)
        refine wp_region_seq ?_
        refine wpL_move (v := .bool (decide (followT nodeF m n old Ql true = root))) (by rfl) (by rfl) (by rfl) ?_
        simp only [putT, List.set]
        refine wpL_nil (no_panic ?_)
        refine hK71 _ _ ?_
        cases hc73 : (decide (followT nodeF m n old Ql true = root))
        · skip
          refine wp_cond_false rfl ?_
          refine wp_skip ?_
          refine hK70 _ _ ?_
          refine wp_seq_k (fun K74 hK74 => ?_)
          refine wp_region_seq ?_
          refine wpL_chunk 5 (by rfl) (fun Lk hLk => ?_)
          simp only [List.take, List.drop]
          refine wpV_callf (v := .bool true) (args := #[]) (by rfl) rfl Tryd.func49 (by kernel_rfl) (by kernel_rfl) rfl (fun W hW => alive09_c ((M.sees hW).oldL L0) ((M.sees hW).oldR R0_0 L0)) ?_
          simp only [putT, List.set]
          refine wpV_move (v := .bool true) (by rfl) rfl rfl ?_
          simp only [putT, List.set]
          refine wpV_move (v := .int .i64 13) (by rfl) rfl rfl ?_
          simp only [putT, List.set]
          refine wpV_bin (v := .bool true) (by rfl) rfl rfl rfl (fun W => run_eql _ _ _ _ W) ?_
          simp only [putT, List.set]
          refine wpV_pick (v := .bool true) (by rfl) rfl rfl rfl ?_
          simp only [putT, List.set]
          refine wpV_nil (hLk _ (fun w76 Sw76 => ?_))
          clear hLk Lk
          simp only [List.take, List.drop]
          replace M := M.sees Sw76
          refine wpL_assign (v := .bool true) (by rfl) (by rfl) (by rfl) ?_
          simp only [putT, List.set]
          refine wpL_nil (no_panic ?_)
          refine hK74 _ _ ?_
          refine wp_ret ?_
          repeat (first | with_reducible refine then_ret ?_ | with_reducible refine inblock_ret ?_)
          refine bodyPost_ret (v := .bool true) (res1 rfl (.tmp (by rfl))) rfl ?_
          have BE := M.below
          exact ⟨rfl, BE⟩
        · skip
          exact absurd ⟨ha, of_decide_eq_true hc73⟩ hfb
    · skip
      have ha : Ql.length = 0 := of_decide_eq_true hg52
      refine wp_region_seq ?_
      refine wpL_move (v := .slice (some ⟨g5, 0, none⟩) Ql.length g5c) (by rfl) (by rfl) (by rfl) ?_
      simp only [putT, List.set]
      refine wpL_chunk 7 (by rfl) (fun Lk hLk => ?_)
      simp only [List.take, List.drop]
      refine wpV_lenA (n := Ql.length) (by rfl) rfl rfl rfl Tryd.underlying48 ?_
      simp only [putT, List.set]
      refine wpV_bin (v := .bool true) (by rfl) rfl rfl rfl (fun W => (run_eqlN Ql.length 0 _ _ W).trans (by rw [hg52])) ?_
      simp only [putT, List.set]
      refine wpV_move (v := .bool true) (by rfl) rfl rfl ?_
      simp only [putT, List.set]
      refine wpV_move (v := .string (bs old)) (by rfl) rfl rfl ?_
      simp only [putT, List.set]
      refine wpV_callf (v := .string (bs (rootS []))) (args := #[(.slice none 0 0)]) (by rfl) rfl Tryd.func45 (by kernel_rfl) (by kernel_rfl) rfl (fun W hW => rroot_c0 ) ?_
      simp only [putT, List.set]
      refine wpV_binS (v := .bool (decide (old = rootS []))) (by rfl) rfl rfl rfl (run_eql_bs _ _ _) ?_
      simp only [putT, List.set]
      refine wpV_pick (v := .bool (decide (old = rootS []))) (by rfl) rfl rfl rfl ?_
      simp only [putT, List.set]
      refine wpV_nil (hLk _ (fun w78 Sw78 => ?_))
      clear hLk Lk
      simp only [List.take, List.drop]
      replace M := M.sees Sw78
      refine wpL_assign (v := .bool (decide (old = rootS []))) (by rfl) (by rfl) (by rfl) ?_
      simp only [putT, List.set]
      refine wpL_nil (no_panic ?_)
      refine hK51 _ _ ?_
      refine wp_seq_k (fun K79 hK79 => ?_)
      refine wp_seq_k (fun K80 hK80 => ?_)
      refine wp_region_seq ?_
      refine wpL_move (v := .int .i64 ((m : Nat) : Int)) (by rfl) (by rfl) (by rfl) ?_
      simp only [putT, List.set]
      refine wpL_chunk 1 (by rfl) (fun Lk hLk => ?_)
      simp only [List.take, List.drop]
      refine wpV_bin (v := .bool true) (by rfl) rfl rfl rfl (fun W => (run_gtrN m 0 _ _ W).trans (by rw [(decide_eq_true (by omega))])) ?_
      simp only [putT, List.set]
      refine wpV_nil (hLk _ (fun w82 Sw82 => ?_))
      clear hLk Lk
      simp only [List.take, List.drop]
      replace M := M.sees Sw82
      refine wpL_nil (no_panic ?_)
      refine hK80 _ _ ?_
      refine wp_cond_true rfl ?_
      cases hg83 : (decide (followT oldF m n old Ql true = old))
      · skip
        have ha : ¬ followT oldF m n old Ql true = old := of_decide_eq_false hg83
        refine wp_region_seq ?_
        refine wpL_move (v := .int .i64 ((m : Nat) : Int)) (by rfl) (by rfl) (by rfl) ?_
        simp only [putT, List.set]
        refine wpL_move (v := .int .i64 ((n : Nat) : Int)) (by rfl) (by rfl) (by rfl) ?_
        simp only [putT, List.set]
        refine wpL_move (v := .string (bs old)) (by rfl) (by rfl) (by rfl) ?_
        simp only [putT, List.set]
        refine wpL_move (v := .slice (some ⟨g5, 0, none⟩) Ql.length g5c) (by rfl) (by rfl) (by rfl) ?_
        simp only [putT, List.set]
        refine wpL_chunk 12 (by rfl) (fun Lk hLk => ?_)
        simp only [List.take, List.drop]
        refine wpV_callf (v := .string (bs (followT oldF m n old Ql true))) (args := #[.int .i64 ((m : Nat) : Int), .int .i64 ((n : Nat) : Int), .string (bs old), .slice (some ⟨g5, 0, none⟩) Ql.length g5c, .bool true]) (by rfl) rfl Tryd.func68 (by kernel_rfl) (by kernel_rfl) rfl (fun W hW => by with_reducible exact rfold_c _ (st := Ql) (old := old) (mm := m) (n := n) (wh := true) rfl hm1 hmn hn h1 hq (all32_mem hp) (RowA.of ((M.sees hW).r 0 0 rfl rfl) ((M.sees hW).lt 0 rfl) (scells_len _).symm Cg5)) ?_
        simp only [putT, List.set]
        refine wpV_move (v := .string (bs old)) (by rfl) rfl rfl ?_
        simp only [putT, List.set]
        refine wpV_binS (v := .bool false) (by rfl) rfl rfl rfl (fun W => (run_eql_bs _ _ _ W).trans (by rw [hg83])) ?_
        simp only [putT, List.set]
        refine wpV_move (v := .bool false) (by rfl) rfl rfl ?_
        simp only [putT, List.set]
        refine wpV_skip (by rfl) (by rfl) ?_
        simp only [putT, List.set]
        refine wpV_skip (by rfl) (by rfl) ?_
        simp only [putT, List.set]
        refine wpV_skip (by rfl) (by rfl) ?_
        simp only [putT, List.set]
        refine wpV_skip (by rfl) (by rfl) ?_
        simp only [putT, List.set]
        refine wpV_skip (by rfl) (by rfl) ?_
        simp only [putT, List.set]
        refine wpV_skip (by rfl) (by rfl) ?_
        simp only [putT, List.set]
        refine wpV_skip (by rfl) (by rfl) ?_
        simp only [putT, List.set]
        refine wpV_pick (v := .bool false) (by rfl) rfl rfl rfl ?_
        simp only [putT, List.set]
        refine wpV_nil (hLk _ (fun w85 Sw85 => ?_))
        clear hLk Lk
        simp only [List.take, List.drop]
        replace M := M.sees Sw85
        refine wpL_assign (v := .bool false) (by rfl) (by rfl) (by rfl) ?_
        simp only [putT, List.set]
        refine wpL_nil (no_panic ?_)
        refine hK79 _ _ ?_
        refine wp_seq_k (fun K86 hK86 => ?_)
        refine wp_seq_k (fun K87 hK87 => ?_)
        refine wp_region_seq ?_
        refine wpL_move (v := .bool false) (by rfl) (by rfl) (by rfl) ?_
        simp only [putT, List.set]
        refine wpL_nil (no_panic ?_)
        refine hK87 _ _ ?_
        refine wp_cond_false rfl ?_
        refine wp_skip ?_
        refine hK86 _ _ ?_
        refine wp_seq_k (fun K89 hK89 => ?_)
        refine wp_region_seq ?_
        refine wpL_chunk 5 (by rfl) (fun Lk hLk => ?_)
        simp only [List.take, List.drop]
        refine wpV_callf (v := .bool true) (args := #[]) (by rfl) rfl Tryd.func49 (by kernel_rfl) (by kernel_rfl) rfl (fun W hW => alive09_c ((M.sees hW).oldL L0) ((M.sees hW).oldR R0_0 L0)) ?_
        simp only [putT, List.set]
        refine wpV_move (v := .bool true) (by rfl) rfl rfl ?_
        simp only [putT, List.set]
        refine wpV_move (v := .int .i64 13) (by rfl) rfl rfl ?_
        simp only [putT, List.set]
        refine wpV_bin (v := .bool true) (by rfl) rfl rfl rfl (fun W => run_eql _ _ _ _ W) ?_
        simp only [putT, List.set]
        refine wpV_pick (v := .bool true) (by rfl) rfl rfl rfl ?_
        simp only [putT, List.set]
        refine wpV_nil (hLk _ (fun w91 Sw91 => ?_))
        clear hLk Lk
        simp only [List.take, List.drop]
        replace M := M.sees Sw91
        refine wpL_assign (v := .bool true) (by rfl) (by rfl) (by rfl) ?_
        simp only [putT, List.set]
        refine wpL_nil (no_panic ?_)
        refine hK89 _ _ ?_
        refine wp_ret ?_
        repeat (first | with_reducible refine then_ret ?_ | with_reducible refine inblock_ret ?_)
        refine bodyPost_ret (v := .bool true) (res1 rfl (.tmp (by rfl))) rfl ?_
        have BE := M.below
        exact ⟨rfl, BE⟩
      · skip
        have ha : followT oldF m n old Ql true = old := of_decide_eq_true hg83
        refine wp_region_seq ?_
        refine wpL_move (v := .int .i64 ((m : Nat) : Int)) (by rfl) (by rfl) (by rfl) ?_
        simp only [putT, List.set]
        refine wpL_move (v := .int .i64 ((n : Nat) : Int)) (by rfl) (by rfl) (by rfl) ?_
        simp only [putT, List.set]
        refine wpL_move (v := .string (bs old)) (by rfl) (by rfl) (by rfl) ?_
        simp only [putT, List.set]
        refine wpL_move (v := .slice (some ⟨g5, 0, none⟩) Ql.length g5c) (by rfl) (by rfl) (by rfl) ?_
        simp only [putT, List.set]
        refine wpL_chunk 12 (by rfl) (fun Lk hLk => ?_)
        simp only [List.take, List.drop]
        refine wpV_callf (v := .string (bs (followT oldF m n old Ql true))) (args := #[.int .i64 ((m : Nat) : Int), .int .i64 ((n : Nat) : Int), .string (bs old), .slice (some ⟨g5, 0, none⟩) Ql.length g5c, .bool true]) (by rfl) rfl Tryd.func68 (by kernel_rfl) (by kernel_rfl) rfl (fun W hW => by with_reducible exact rfold_c _ (st := Ql) (old := old) (mm := m) (n := n) (wh := true) rfl hm1 hmn hn h1 hq (all32_mem hp) (RowA.of ((M.sees hW).r 0 0 rfl rfl) ((M.sees hW).lt 0 rfl) (scells_len _).symm Cg5)) ?_
        simp only [putT, List.set]
        refine wpV_move (v := .string (bs old)) (by rfl) rfl rfl ?_
        simp only [putT, List.set]
        refine wpV_binS (v := .bool true) (by rfl) rfl rfl rfl (fun W => (run_eql_bs _ _ _ W).trans (by rw [hg83])) ?_
        simp only [putT, List.set]
        refine wpV_move (v := .bool true) (by rfl) rfl rfl ?_
        simp only [putT, List.set]
        refine wpV_move (v := .int .i64 ((m : Nat) : Int)) (by rfl) rfl rfl ?_
        simp only [putT, List.set]
        refine wpV_move (v := .int .i64 ((n : Nat) : Int)) (by rfl) rfl rfl ?_
        simp only [putT, List.set]
        refine wpV_move (v := .string (bs old)) (by rfl) rfl rfl ?_
        simp only [putT, List.set]
        refine wpV_move (v := .slice (some ⟨g5, 0, none⟩) Ql.length g5c) (by rfl) rfl rfl ?_
        simp only [putT, List.set]
        refine wpV_callf (v := .string (bs (followT nodeF m n old Ql true))) (args := #[.int .i64 ((m : Nat) : Int), .int .i64 ((n : Nat) : Int), .string (bs old), .slice (some ⟨g5, 0, none⟩) Ql.length g5c, .bool true]) (by rfl) rfl Tryd.func69 (by kernel_rfl) (by kernel_rfl) rfl (fun W hW => by with_reducible exact rfnew_c _ (st := Ql) (old := old) (mm := m) (n := n) (wh := true) rfl hm1 hmn hn h1 hq (all32_mem hp) (RowA.of ((M.sees hW).r 0 0 rfl rfl) ((M.sees hW).lt 0 rfl) (scells_len _).symm Cg5)) ?_
        simp only [putT, List.set]
        refine wpV_move (v := .string (bs root)) (by rfl) rfl rfl ?_
        simp only [putT, List.set]
        refine wpV_binS (v := .bool (decide (followT nodeF m n old Ql true = root))) (by rfl) rfl rfl rfl (run_eql_bs _ _ _) ?_
        simp only [putT, List.set]
        refine wpV_pick (v := .bool (decide (followT nodeF m n old Ql true = root))) (by rfl) rfl rfl rfl ?_
        simp only [putT, List.set]
        refine wpV_nil (hLk _ (fun w93 Sw93 => ?_))
        clear hLk Lk
        simp only [List.take, List.drop]
        replace M := M.sees Sw93
        refine wpL_assign (v := .bool (decide (followT nodeF m n old Ql true = root))) (by rfl) (by rfl) (by rfl) ?_
        simp only [putT, List.set]
        refine wpL_nil (no_panic ?_)
        refine hK79 _ _ ?_
        refine wp_seq_k (fun K94 hK94 => ?_)
        refine wp_seq_k (fun K95 hK95 => ?_)
        refine wp_region_seq ?_
        refine wpL_move (v := .bool (decide (followT nodeF m n old Ql true = root))) (by rfl) (by rfl) (by rfl) ?_
        simp only [putT, List.set]
        refine wpL_nil (no_panic ?_)
        refine hK95 _ _ ?_
        cases hc97 : (decide (followT nodeF m n old Ql true = root))
        · skip
          refine wp_cond_false rfl ?_
          refine wp_skip ?_
          refine hK94 _ _ ?_
          refine wp_seq_k (fun K98 hK98 => ?_)
          refine wp_region_seq ?_
          refine wpL_chunk 5 (by rfl) (fun Lk hLk => ?_)
          simp only [List.take, List.drop]
          refine wpV_callf (v := .bool true) (args := #[]) (by rfl) rfl Tryd.func49 (by kernel_rfl) (by kernel_rfl) rfl (fun W hW => alive09_c ((M.sees hW).oldL L0) ((M.sees hW).oldR R0_0 L0)) ?_
          simp only [putT, List.set]
          refine wpV_move (v := .bool true) (by rfl) rfl rfl ?_
          simp only [putT, List.set]
          refine wpV_move (v := .int .i64 13) (by rfl) rfl rfl ?_
          simp only [putT, List.set]
          refine wpV_bin (v := .bool true) (by rfl) rfl rfl rfl (fun W => run_eql _ _ _ _ W) ?_
          simp only [putT, List.set]
          refine wpV_pick (v := .bool true) (by rfl) rfl rfl rfl ?_
          simp only [putT, List.set]
          refine wpV_nil (hLk _ (fun w100 Sw100 => ?_))
          clear hLk Lk
          simp only [List.take, List.drop]
          replace M := M.sees Sw100
          refine wpL_assign (v := .bool true) (by rfl) (by rfl) (by rfl) ?_
          simp only [putT, List.set]
          refine wpL_nil (no_panic ?_)
          refine hK98 _ _ ?_
          refine wp_ret ?_
          repeat (first | with_reducible refine then_ret ?_ | with_reducible refine inblock_ret ?_)
          refine bodyPost_ret (v := .bool true) (res1 rfl (.tmp (by rfl))) rfl ?_
          have BE := M.below
          exact ⟨rfl, BE⟩
        · skip
          exact absurd ⟨ha, of_decide_eq_true hc97⟩ hfb
theorem lfol_c {vls : Value} {ls : List (List UInt8)} {la lb : List UInt8} {x y : Int} {w : World} (L0 : 0 < w.heap.size) (R0_0 : w.rangeAt 0 0 kcells) (hvls : RowS w vls ls) :
    Calls Tryd.prog 17 #[.int .i64 x, .int .i64 y, .string (bs la), .string (bs lb), vls] w fun e w' => e = .returned (.bool true) ∧ Below w.heap.size w w' := by
  have hQL := cutsS_len 50 40 ls
  by_cases hx : x < 0
  · exact lfol_neg rfl hQL rfl rfl hx L0 R0_0 hvls
  · by_cases hy : y < x
    · exact lfol_far rfl hQL rfl rfl hx hy L0 R0_0 hvls
    · by_cases hm : 4096 < y
      · exact lfol_many rfl hQL rfl rfl hx hy hm L0 R0_0 hvls
      · by_cases h1 : (cut la 40).length ≠ 32
        · exact lfol_old rfl hQL rfl rfl hx hy hm h1 L0 R0_0 hvls
        · by_cases h2 : (cut lb 40).length ≠ 32
          · exact lfol_root rfl hQL rfl rfl hx hy hm h1 h2 L0 R0_0 hvls
          · cases hp : all32 (cutsS 50 40 ls) with
            | false => exact lfol_path rfl hQL rfl rfl hx hy hm h1 h2 hp L0 R0_0 hvls
            | true =>
              obtain ⟨m, rfl⟩ : ∃ m : Nat, x = (m : Int) := ⟨x.toNat, by omega⟩
              obtain ⟨n, rfl⟩ : ∃ n : Nat, y = (n : Int) := ⟨y.toNat, by omega⟩
              by_cases h0 : m = 0
              · subst h0
                exact lfol_zero rfl hQL rfl rfl (by omega) (Decidable.not_not.1 h1) (Decidable.not_not.1 h2) hp L0 R0_0 hvls
              · exact lfol_pos rfl hQL rfl rfl (by omega) (Decidable.not_not.1 h1) (Decidable.not_not.1 h2) hp (by omega) (by omega) L0 R0_0 hvls
end Go.Proofs.Yb

