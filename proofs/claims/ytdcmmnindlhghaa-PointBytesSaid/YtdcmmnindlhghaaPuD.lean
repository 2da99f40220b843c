import Derived.WalkKit
import Derived.WalkSpells
import Derived.Laws.Pointers
import Derived.RowKit3
import Derived.Below
import Derived.Outline
import Derived.LoopN
import Derived.Lib.Hide
import Derived.Handy
import Derived.Laws.Bits64b
import Derived.Test.YtdcmmnindlhghaaPuB
import Derived.Test.YtdcmmnindlhghaaPuC
set_option linter.unusedSimpArgs false
set_option linter.unusedVariables false
namespace Go.Proofs.Yc
open Go Go.RowKit Go.Proofs.Num
open List renaming set → Z0, take → Z1, drop → Z2
open Go renaming wp_seq_k → Z4, wp_cond_true → Z5, wp_cond_false → Z6
open Go.Proofs.Num renaming putT → Z7, wp_region_seq → Z8, wpL_nil → Z9, no_panic → Z10, wpL_chunk → Z11, wpL_move → Z12, wpL_assign → Z13, wpV_nil → Z14, wpV_bin → Z15, wpV_move → Z16, wpV_val → Z19, wpV_callf → Z20
attribute [local irreducible] wpV wpN wpList
open Go.Proofs.Ya
theorem eq_z16 : EqD Try.prog 3 26 (.agg ([.int .u64 0, .int .u64 0, .int .u64 0, .int .u64 0, .int .u64 0, .int .u64 0, .int .u64 0, .int .u64 0, .int .u64 0, .int .u64 0, .int .u64 0, .int .u64 0, .int .u64 0, .int .u64 0, .int .u64 0, .int .u64 0] : List Value).toArray) (.agg ([.int .u64 0, .int .u64 0, .int .u64 0, .int .u64 0, .int .u64 0, .int .u64 0, .int .u64 0, .int .u64 0, .int .u64 0, .int .u64 0, .int .u64 0, .int .u64 0, .int .u64 0, .int .u64 0, .int .u64 0, .int .u64 0] : List Value).toArray) true :=
 (eq_struct (k := 2) (xs := [.int .u64 0, .int .u64 0, .int .u64 0, .int .u64 0, .int .u64 0, .int .u64 0, .int .u64 0, .int .u64 0, .int .u64 0, .int .u64 0, .int .u64 0, .int .u64 0, .int .u64 0, .int .u64 0, .int .u64 0, .int .u64 0]) (ys := [.int .u64 0, .int .u64 0, .int .u64 0, .int .u64 0, .int .u64 0, .int .u64 0, .int .u64 0, .int .u64 0, .int .u64 0, .int .u64 0, .int .u64 0, .int .u64 0, .int .u64 0, .int .u64 0, .int .u64 0, .int .u64 0]) (fs := [(false, 24, 0), (false, 24, 4), (false, 24, 8), (false, 24, 12)]) (bs := [true, true, true, true]) Try.underlying26 (by kernel_rfl) (by rfl) ⟨rfl, ⟨.agg ([.int .u64 0, .int .u64 0, .int .u64 0, .int .u64 0] : List Value).toArray, .agg ([.int .u64 0, .int .u64 0, .int .u64 0, .int .u64 0] : List Value).toArray, (fun W => run_part_row Try.underlying24 rfl info24 rfl W), (fun W => run_part_row Try.underlying24 rfl info24 rfl W), ((eq_arr Try.underlying24 Try.underlying22 info22 [0, 0, 0, 0] [0, 0, 0, 0] rfl rfl).bool (decide_eq_true rfl))⟩, rfl, ⟨.agg ([.int .u64 0, .int .u64 0, .int .u64 0, .int .u64 0] : List Value).toArray, .agg ([.int .u64 0, .int .u64 0, .int .u64 0, .int .u64 0] : List Value).toArray, (fun W => run_part_row Try.underlying24 rfl info24 rfl W), (fun W => run_part_row Try.underlying24 rfl info24 rfl W), ((eq_arr Try.underlying24 Try.underlying22 info22 [0, 0, 0, 0] [0, 0, 0, 0] rfl rfl).bool (decide_eq_true rfl))⟩, rfl, ⟨.agg ([.int .u64 0, .int .u64 0, .int .u64 0, .int .u64 0] : List Value).toArray, .agg ([.int .u64 0, .int .u64 0, .int .u64 0, .int .u64 0] : List Value).toArray, (fun W => run_part_row Try.underlying24 rfl info24 rfl W), (fun W => run_part_row Try.underlying24 rfl info24 rfl W), ((eq_arr Try.underlying24 Try.underlying22 info22 [0, 0, 0, 0] [0, 0, 0, 0] rfl rfl).bool (decide_eq_true rfl))⟩, rfl, ⟨.agg ([.int .u64 0, .int .u64 0, .int .u64 0, .int .u64 0] : List Value).toArray, .agg ([.int .u64 0, .int .u64 0, .int .u64 0, .int .u64 0] : List Value).toArray, (fun W => run_part_row Try.underlying24 rfl info24 rfl W), (fun W => run_part_row Try.underlying24 rfl info24 rfl W), ((eq_arr Try.underlying24 Try.underlying22 info22 [0, 0, 0, 0] [0, 0, 0, 0] rfl rfl).bool (decide_eq_true rfl))⟩, trivial⟩).bool (by rfl)
theorem noneP_cells : (fel noneP.x ++ fel noneP.y ++ fel noneP.z ++ fel noneP.t : List Value) = [.int .u64 0, .int .u64 0, .int .u64 0, .int .u64 0, .int .u64 0, .int .u64 0, .int .u64 0, .int .u64 0, .int .u64 0, .int .u64 0, .int .u64 0, .int .u64 0, .int .u64 0, .int .u64 0, .int .u64 0, .int .u64 0] := by kernel_rfl
set_option maxHeartbeats 4000000 in
theorem pbytes_len {l m : List UInt8} {w : World} (hm : m = cut l 40) (hl : m.length ≠ 32) (hP : ∀ W : World, Calls Try.prog 10 #[.string (bs m)] W fun e w' => e = .returned (.tuple #[.agg (fel noneP.x ++ fel noneP.y ++ fel noneP.z ++ fel noneP.t : List Value).toArray, .int .i64 1]) ∧ Below W.heap.size W w') :
  Calls Try.prog 3 #[.string (bs l)] w fun e w' => e = .returned (.bool true) ∧ Below w.heap.size w w' := by
 go_enter Try.func3, Try.ntmps3
 have M := Mem.start w
 refine Z4 (fun K1 hK1 => ?_)
 refine Z8 ?_
 refine Z13 (v := .bool false) (by rfl) (by rfl) (by rfl) ?_
 simp only [Z7,Z0]
 refine Z9 (Z10 ?_)
 refine hK1 _ _ ?_
 refine Z4 (fun K3 hK3 => ?_)
 refine Z8 ?_
 refine Z12 (v := .string (bs l)) (by rfl) (by rfl) (by rfl) ?_
 simp only [Z7,Z0]
 refine Z12 (v := .string (bs l)) (by rfl) (by rfl) (by rfl) ?_
 simp only [Z7,Z0]
 refine Z11 3 (by rfl) (fun Lk hLk => ?_)
 simp only [Z1,Z2]
 refine wpV_lenS (by rfl) rfl rfl rfl Try.underlying9 ?_
 simp only [Z7,Z0]
 refine wpV_min (n := l.length) (m := 40) (by rfl) rfl rfl rfl ?_
 simp only [Z7,Z0]
 refine wpV_cut (l := l) (m := 40) (by rfl) rfl rfl rfl Try.underlying9 ?_
 simp only [Z7,Z0]
 refine Z14 (hLk _ (fun w5 Sw5 => ?_))
 clear hLk Lk
 simp only [Z1,Z2]
 replace M := M.sees Sw5
 refine Z13 (v := .string (bs (cut l 40))) (by rfl) (by rfl) (by rfl) ?_
 simp only [Z7,Z0]
 refine Z9 (Z10 ?_)
 rw [← hm]
 refine hK3 _ _ ?_
 refine Z4 (fun K6 hK6 => ?_)
 refine Z8 ?_
 refine Z12 (v := .string (bs m)) (by rfl) (by rfl) (by rfl) ?_
 simp only [Z7,Z0]
 refine Z11 4 (by rfl) (fun Lk hLk => ?_)
 simp only [Z1,Z2]
 refine Z20 (v := .tuple #[.agg ([.int .u64 0, .int .u64 0, .int .u64 0, .int .u64 0, .int .u64 0, .int .u64 0, .int .u64 0, .int .u64 0, .int .u64 0, .int .u64 0, .int .u64 0, .int .u64 0, .int .u64 0, .int .u64 0, .int .u64 0, .int .u64 0]).toArray, .int .i64 1]) (args := #[.string (bs m)]) (by rfl) rfl Try.func10 (by kernel_rfl) (by kernel_rfl) rfl (fun W hW => (by have h9 := hP W; rw [noneP_cells] at h9; exact h9)) ?_
 simp only [Z7,Z0]
 refine Z16 (v := .tuple #[.agg ([.int .u64 0, .int .u64 0, .int .u64 0, .int .u64 0, .int .u64 0, .int .u64 0, .int .u64 0, .int .u64 0, .int .u64 0, .int .u64 0, .int .u64 0, .int .u64 0, .int .u64 0, .int .u64 0, .int .u64 0, .int .u64 0]).toArray, .int .i64 1]) (by rfl) rfl rfl ?_
 simp only [Z7,Z0]
 refine wpV_extract (v := .agg ([.int .u64 0, .int .u64 0, .int .u64 0, .int .u64 0, .int .u64 0, .int .u64 0, .int .u64 0, .int .u64 0, .int .u64 0, .int .u64 0, .int .u64 0, .int .u64 0, .int .u64 0, .int .u64 0, .int .u64 0, .int .u64 0]).toArray) (by rfl) rfl rfl rfl ?_
 simp only [Z7,Z0]
 refine wpV_extract (v := .int .i64 1) (by rfl) rfl rfl rfl ?_
 simp only [Z7,Z0]
 refine Z14 (hLk _ (fun w8 Sw8 => ?_))
 clear hLk Lk
 simp only [Z1,Z2]
 replace M := M.sees Sw8
 refine wpL_var (t := 26) (cs := [.int .u64 0, .int .u64 0, .int .u64 0, .int .u64 0, .int .u64 0, .int .u64 0, .int .u64 0, .int .u64 0, .int .u64 0, .int .u64 0, .int .u64 0, .int .u64 0, .int .u64 0, .int .u64 0, .int .u64 0, .int .u64 0]) (by rfl) (fun W => ?_) (fun g9 w10 Sw10 Hg9 Bg9 => ?_)
 ·
  go_simp
 replace M := ((M.sees Sw10).addS (N := 16) (cs := [.int .u64 0, .int .u64 0, .int .u64 0, .int .u64 0, .int .u64 0, .int .u64 0, .int .u64 0, .int .u64 0, .int .u64 0, .int .u64 0, .int .u64 0, .int .u64 0, .int .u64 0, .int .u64 0, .int .u64 0, .int .u64 0]) (segs := [(0, [.int .u64 0, .int .u64 0, .int .u64 0, .int .u64 0]), (4, [.int .u64 0, .int .u64 0, .int .u64 0, .int .u64 0]), (8, [.int .u64 0, .int .u64 0, .int .u64 0, .int .u64 0]), (12, [.int .u64 0, .int .u64 0, .int .u64 0, .int .u64 0])]) (M.ge Hg9) (M.fresh Hg9) Bg9 rfl ⟨rfl, rfl, rfl, rfl, trivial⟩)
 clear Bg9
 simp only [Z7,Z0]
 refine wpL_store (g := g9) (off := 0) (n := 16) (cs := [.int .u64 0, .int .u64 0, .int .u64 0, .int .u64 0, .int .u64 0, .int .u64 0, .int .u64 0, .int .u64 0, .int .u64 0, .int .u64 0, .int .u64 0, .int .u64 0, .int .u64 0, .int .u64 0, .int .u64 0, .int .u64 0]) (by rfl) (by rfl) (by rfl) (by rfl) (by rfl) (M.t 0 rfl) (by simp [flen]) info26 (by simp [fone, Value.oneCell']) (fun w11 P R T => ?_)
 replace M := M.put (segs' := [(0, [.int .u64 0, .int .u64 0, .int .u64 0, .int .u64 0]), (4, [.int .u64 0, .int .u64 0, .int .u64 0, .int .u64 0]), (8, [.int .u64 0, .int .u64 0, .int .u64 0, .int .u64 0]), (12, [.int .u64 0, .int .u64 0, .int .u64 0, .int .u64 0])]) 0 rfl P T (SegsOf.at R ⟨rfl, rfl, rfl, rfl, trivial⟩)
 simp only [Z0] at M
 refine Z13 (v := .int .i64 1) (by rfl) (by rfl) (by rfl) ?_
 simp only [Z7,Z0]
 refine Z9 (Z10 ?_)
 refine hK6 _ _ ?_
 refine Z4 (fun K12 hK12 => ?_)
 refine Z4 (fun K13 hK13 => ?_)
 refine Z8 ?_
 refine Z12 (v := .string (bs m)) (by rfl) (by rfl) (by rfl) ?_
 simp only [Z7,Z0]
 refine Z11 2 (by rfl) (fun Lk hLk => ?_)
 simp only [Z1,Z2]
 refine wpV_lenS (by rfl) rfl rfl rfl Try.underlying9 ?_
 simp only [Z7,Z0]
 refine Z15 (v := .bool true) (by rfl) rfl rfl rfl (fun W => (run_neqN m.length 32 _ _ W).trans (by rw [(decide_eq_true hl)])) ?_
 simp only [Z7,Z0]
 refine Z14 (hLk _ (fun w15 Sw15 => ?_))
 clear hLk Lk
 simp only [Z1,Z2]
 replace M := M.sees Sw15
 refine Z9 (Z10 ?_)
 refine hK13 _ _ ?_
 refine Z5 rfl ?_
 refine Z4 (fun K16 hK16 => ?_)
 refine Z8 ?_
 refine Z11 10 (by rfl) (fun Lk hLk => ?_)
 simp only [Z1,Z2]
 refine Z20 (v := .bool true) (args := #[]) (by rfl) rfl Try.func11 (by kernel_rfl) (by kernel_rfl) rfl (fun W hW => alive06_c) ?_
 simp only [Z7,Z0]
 refine Z16 (v := .bool true) (by rfl) rfl rfl ?_
 simp only [Z7,Z0]
 refine Z16 (v := .int .i64 1) (by rfl) rfl rfl ?_
 simp only [Z7,Z0]
 refine Z15 (v := .bool true) (by rfl) rfl rfl rfl (fun W => run_eql _ _ _ _ W) ?_
 simp only [Z7,Z0]
 refine wpV_pick (v := .bool true) (by rfl) rfl rfl rfl ?_
 simp only [Z7,Z0]
 refine Z16 (v := .bool true) (by rfl) rfl rfl ?_
 simp only [Z7,Z0]
 refine wpV_load (cs := [.int .u64 0, .int .u64 0, .int .u64 0, .int .u64 0] ++ [.int .u64 0, .int .u64 0, .int .u64 0, .int .u64 0] ++ [.int .u64 0, .int .u64 0, .int .u64 0, .int .u64 0] ++ [.int .u64 0, .int .u64 0, .int .u64 0, .int .u64 0]) (by rfl) rfl rfl (range_join (range_join (range_join (M.r 0 0 rfl rfl) (M.r 0 1 rfl rfl) (by simp [flen])) (M.r 0 2 rfl rfl) (by simp [flen])) (M.r 0 3 rfl rfl) (by simp [flen])) (M.lt 0 rfl) Try.underlying26 rfl info26 ?_
 simp only [Z7,Z0]
 refine Z19 (v := .agg ([.int .u64 0, .int .u64 0, .int .u64 0, .int .u64 0, .int .u64 0, .int .u64 0, .int .u64 0, .int .u64 0, .int .u64 0, .int .u64 0, .int .u64 0, .int .u64 0, .int .u64 0, .int .u64 0, .int .u64 0, .int .u64 0]).toArray) (by rfl) (by rfl) (fun W hW => ?_) ?_
 ·
  (unfold RunsVal; kernel_rfl)
 simp only [Z7,Z0]
 refine wpV_eqlT (k := 3) (u := [Value.int .u64 0, Value.int .u64 0, Value.int .u64 0, Value.int .u64 0] ++ [Value.int .u64 0, Value.int .u64 0, Value.int .u64 0, Value.int .u64 0] ++ [Value.int .u64 0, Value.int .u64 0, Value.int .u64 0, Value.int .u64 0] ++ [Value.int .u64 0, Value.int .u64 0, Value.int .u64 0, Value.int .u64 0]) (v := [Value.int .u64 0, Value.int .u64 0, Value.int .u64 0, Value.int .u64 0, Value.int .u64 0, Value.int .u64 0, Value.int .u64 0, Value.int .u64 0, Value.int .u64 0, Value.int .u64 0, Value.int .u64 0, Value.int .u64 0, Value.int .u64 0, Value.int .u64 0, Value.int .u64 0, Value.int .u64 0]) (b := true) (by rfl) rfl rfl rfl (by kernel_rfl) (by exact eq_z16) (by decide) ?_
 simp only [Z7,Z0]
 refine wpV_pick (v := .bool true) (by rfl) rfl rfl rfl ?_
 simp only [Z7,Z0]
 refine Z14 (hLk _ (fun w18 Sw18 => ?_))
 clear hLk Lk
 simp only [Z1,Z2]
 replace M := M.sees Sw18
 refine Z13 (v := .bool true) (by rfl) (by rfl) (by rfl) ?_
 simp only [Z7,Z0]
 refine Z9 (Z10 ?_)
 refine hK16 _ _ ?_
 refine wp_ret ?_
 repeat (first | with_reducible refine then_ret ?_ | with_reducible refine inblock_ret ?_)
 refine bodyPost_ret (v := .bool true) (res1 rfl (.tmp (by rfl))) rfl ?_
 have BE := M.below
 exact ⟨rfl, BE⟩
set_option maxHeartbeats 4000000 in
theorem pbytes_err {l m : List UInt8} {w : World} (hm : m = cut l 40) (hl : m.length = 32) (hP : ∀ W : World, Calls Try.prog 10 #[.string (bs m)] W fun e w' => e = .returned (.tuple #[.agg (fel noneP.x ++ fel noneP.y ++ fel noneP.z ++ fel noneP.t : List Value).toArray, .int .i64 10]) ∧ Below W.heap.size W w') (hR : ∀ W : World, Calls Try.prog 12 #[.string (bs m)] W fun e w' => e = .returned (.tuple #[.agg (fel 0 ++ fel 0 : List Value).toArray, .bool false]) ∧ Below W.heap.size W w') :
  Calls Try.prog 3 #[.string (bs l)] w fun e w' => e = .returned (.bool true) ∧ Below w.heap.size w w' := by
 go_enter Try.func3, Try.ntmps3
 have M := Mem.start w
 refine Z4 (fun K1 hK1 => ?_)
 refine Z8 ?_
 refine Z13 (v := .bool false) (by rfl) (by rfl) (by rfl) ?_
 simp only [Z7,Z0]
 refine Z9 (Z10 ?_)
 refine hK1 _ _ ?_
 refine Z4 (fun K3 hK3 => ?_)
 refine Z8 ?_
 refine Z12 (v := .string (bs l)) (by rfl) (by rfl) (by rfl) ?_
 simp only [Z7,Z0]
 refine Z12 (v := .string (bs l)) (by rfl) (by rfl) (by rfl) ?_
 simp only [Z7,Z0]
 refine Z11 3 (by rfl) (fun Lk hLk => ?_)
 simp only [Z1,Z2]
 refine wpV_lenS (by rfl) rfl rfl rfl Try.underlying9 ?_
 simp only [Z7,Z0]
 refine wpV_min (n := l.length) (m := 40) (by rfl) rfl rfl rfl ?_
 simp only [Z7,Z0]
 refine wpV_cut (l := l) (m := 40) (by rfl) rfl rfl rfl Try.underlying9 ?_
 simp only [Z7,Z0]
 refine Z14 (hLk _ (fun w5 Sw5 => ?_))
 clear hLk Lk
 simp only [Z1,Z2]
 replace M := M.sees Sw5
 refine Z13 (v := .string (bs (cut l 40))) (by rfl) (by rfl) (by rfl) ?_
 simp only [Z7,Z0]
 refine Z9 (Z10 ?_)
 rw [← hm]
 refine hK3 _ _ ?_
 refine Z4 (fun K6 hK6 => ?_)
 refine Z8 ?_
 refine Z12 (v := .string (bs m)) (by rfl) (by rfl) (by rfl) ?_
 simp only [Z7,Z0]
 refine Z11 4 (by rfl) (fun Lk hLk => ?_)
 simp only [Z1,Z2]
 refine Z20 (v := .tuple #[.agg ([.int .u64 0, .int .u64 0, .int .u64 0, .int .u64 0, .int .u64 0, .int .u64 0, .int .u64 0, .int .u64 0, .int .u64 0, .int .u64 0, .int .u64 0, .int .u64 0, .int .u64 0, .int .u64 0, .int .u64 0, .int .u64 0]).toArray, .int .i64 10]) (args := #[.string (bs m)]) (by rfl) rfl Try.func10 (by kernel_rfl) (by kernel_rfl) rfl (fun W hW => (by have h9 := hP W; rw [noneP_cells] at h9; exact h9)) ?_
 simp only [Z7,Z0]
 refine Z16 (v := .tuple #[.agg ([.int .u64 0, .int .u64 0, .int .u64 0, .int .u64 0, .int .u64 0, .int .u64 0, .int .u64 0, .int .u64 0, .int .u64 0, .int .u64 0, .int .u64 0, .int .u64 0, .int .u64 0, .int .u64 0, .int .u64 0, .int .u64 0]).toArray, .int .i64 10]) (by rfl) rfl rfl ?_
 simp only [Z7,Z0]
 refine wpV_extract (v := .agg ([.int .u64 0, .int .u64 0, .int .u64 0, .int .u64 0, .int .u64 0, .int .u64 0, .int .u64 0, .int .u64 0, .int .u64 0, .int .u64 0, .int .u64 0, .int .u64 0, .int .u64 0, .int .u64 0, .int .u64 0, .int .u64 0]).toArray) (by rfl) rfl rfl rfl ?_
 simp only [Z7,Z0]
 refine wpV_extract (v := .int .i64 10) (by rfl) rfl rfl rfl ?_
 simp only [Z7,Z0]
 refine Z14 (hLk _ (fun w8 Sw8 => ?_))
 clear hLk Lk
 simp only [Z1,Z2]
 replace M := M.sees Sw8
 refine wpL_var (t := 26) (cs := [.int .u64 0, .int .u64 0, .int .u64 0, .int .u64 0, .int .u64 0, .int .u64 0, .int .u64 0, .int .u64 0, .int .u64 0, .int .u64 0, .int .u64 0, .int .u64 0, .int .u64 0, .int .u64 0, .int .u64 0, .int .u64 0]) (by rfl) (fun W => ?_) (fun g9 w10 Sw10 Hg9 Bg9 => ?_)
 ·
  go_simp
 replace M := ((M.sees Sw10).addS (N := 16) (cs := [.int .u64 0, .int .u64 0, .int .u64 0, .int .u64 0, .int .u64 0, .int .u64 0, .int .u64 0, .int .u64 0, .int .u64 0, .int .u64 0, .int .u64 0, .int .u64 0, .int .u64 0, .int .u64 0, .int .u64 0, .int .u64 0]) (segs := [(0, [.int .u64 0, .int .u64 0, .int .u64 0, .int .u64 0]), (4, [.int .u64 0, .int .u64 0, .int .u64 0, .int .u64 0]), (8, [.int .u64 0, .int .u64 0, .int .u64 0, .int .u64 0]), (12, [.int .u64 0, .int .u64 0, .int .u64 0, .int .u64 0])]) (M.ge Hg9) (M.fresh Hg9) Bg9 rfl ⟨rfl, rfl, rfl, rfl, trivial⟩)
 clear Bg9
 simp only [Z7,Z0]
 refine wpL_store (g := g9) (off := 0) (n := 16) (cs := [.int .u64 0, .int .u64 0, .int .u64 0, .int .u64 0, .int .u64 0, .int .u64 0, .int .u64 0, .int .u64 0, .int .u64 0, .int .u64 0, .int .u64 0, .int .u64 0, .int .u64 0, .int .u64 0, .int .u64 0, .int .u64 0]) (by rfl) (by rfl) (by rfl) (by rfl) (by rfl) (M.t 0 rfl) (by simp [flen]) info26 (by simp [fone, Value.oneCell']) (fun w11 P R T => ?_)
 replace M := M.put (segs' := [(0, [.int .u64 0, .int .u64 0, .int .u64 0, .int .u64 0]), (4, [.int .u64 0, .int .u64 0, .int .u64 0, .int .u64 0]), (8, [.int .u64 0, .int .u64 0, .int .u64 0, .int .u64 0]), (12, [.int .u64 0, .int .u64 0, .int .u64 0, .int .u64 0])]) 0 rfl P T (SegsOf.at R ⟨rfl, rfl, rfl, rfl, trivial⟩)
 simp only [Z0] at M
 refine Z13 (v := .int .i64 10) (by rfl) (by rfl) (by rfl) ?_
 simp only [Z7,Z0]
 refine Z9 (Z10 ?_)
 refine hK6 _ _ ?_
 refine Z4 (fun K12 hK12 => ?_)
 refine Z4 (fun K13 hK13 => ?_)
 refine Z8 ?_
 refine Z12 (v := .string (bs m)) (by rfl) (by rfl) (by rfl) ?_
 simp only [Z7,Z0]
 refine Z11 2 (by rfl) (fun Lk hLk => ?_)
 simp only [Z1,Z2]
 refine wpV_lenS (by rfl) rfl rfl rfl Try.underlying9 ?_
 simp only [Z7,Z0]
 refine Z15 (v := .bool false) (by rfl) rfl rfl rfl (fun W => (run_neqN m.length 32 _ _ W).trans (by rw [(decide_eq_false (fun h => h hl))])) ?_
 simp only [Z7,Z0]
 refine Z14 (hLk _ (fun w15 Sw15 => ?_))
 clear hLk Lk
 simp only [Z1,Z2]
 replace M := M.sees Sw15
 refine Z9 (Z10 ?_)
 refine hK13 _ _ ?_
 refine Z6 rfl ?_
 refine wp_skip ?_
 refine hK12 _ _ ?_
 refine Z4 (fun K16 hK16 => ?_)
 refine Z8 ?_
 refine Z12 (v := .string (bs m)) (by rfl) (by rfl) (by rfl) ?_
 simp only [Z7,Z0]
 refine Z11 4 (by rfl) (fun Lk hLk => ?_)
 simp only [Z1,Z2]
 refine Z20 (v := .tuple #[.agg (fel 0 ++ fel 0 : List Value).toArray, .bool false]) (args := #[.string (bs m)]) (by rfl) rfl Try.func12 (by kernel_rfl) (by kernel_rfl) rfl (fun W hW => (hR W)) ?_
 simp only [Z7,Z0]
 refine Z16 (v := .tuple #[.agg (fel 0 ++ fel 0 : List Value).toArray, .bool false]) (by rfl) rfl rfl ?_
 simp only [Z7,Z0]
 refine wpV_extract (v := .agg (fel 0 ++ fel 0 : List Value).toArray) (by rfl) rfl rfl rfl ?_
 simp only [Z7,Z0]
 refine wpV_extract (v := .bool false) (by rfl) rfl rfl rfl ?_
 simp only [Z7,Z0]
 refine Z14 (hLk _ (fun w18 Sw18 => ?_))
 clear hLk Lk
 simp only [Z1,Z2]
 replace M := M.sees Sw18
 refine wpL_var (t := 32) (cs := [.int .u64 0, .int .u64 0, .int .u64 0, .int .u64 0, .int .u64 0, .int .u64 0, .int .u64 0, .int .u64 0]) (by rfl) (fun W => ?_) (fun g19 w20 Sw20 Hg19 Bg19 => ?_)
 ·
  go_simp
 replace M := ((M.sees Sw20).addS (N := 8) (cs := [.int .u64 0, .int .u64 0, .int .u64 0, .int .u64 0, .int .u64 0, .int .u64 0, .int .u64 0, .int .u64 0]) (segs := [(0, [.int .u64 0, .int .u64 0, .int .u64 0, .int .u64 0]), (4, [.int .u64 0, .int .u64 0, .int .u64 0, .int .u64 0])]) (M.ge Hg19) (M.fresh Hg19) Bg19 rfl ⟨rfl, rfl, trivial⟩)
 clear Bg19
 simp only [Z7,Z0]
 refine wpL_store (g := g19) (off := 0) (n := 8) (cs := fel 0 ++ fel 0) (by rfl) (by rfl) (by rfl) (by rfl) (by rfl) (M.t 0 rfl) (by simp [flen]) info32 (two4 _ _) (fun w21 P R T => ?_)
 replace M := M.put (segs' := [(0, fel 0), (4, fel 0)]) 0 rfl P T (SegsOf.at R ⟨rfl, rfl, trivial⟩)
 simp only [Z0] at M
 refine Z13 (v := .bool false) (by rfl) (by rfl) (by rfl) ?_
 simp only [Z7,Z0]
 refine Z9 (Z10 ?_)
 refine hK16 _ _ ?_
 refine Z4 (fun K22 hK22 => ?_)
 refine Z4 (fun K23 hK23 => ?_)
 refine Z8 ?_
 refine Z12 (v := .bool false) (by rfl) (by rfl) (by rfl) ?_
 simp only [Z7,Z0]
 refine Z11 1 (by rfl) (fun Lk hLk => ?_)
 simp only [Z1,Z2]
 refine wpV_not (b := false) (by rfl) rfl rfl ?_
 simp only [Bool.not_true, Bool.not_false]
 simp only [Z7,Z0]
 refine Z14 (hLk _ (fun w25 Sw25 => ?_))
 clear hLk Lk
 simp only [Z1,Z2]
 replace M := M.sees Sw25
 refine Z9 (Z10 ?_)
 refine hK23 _ _ ?_
 refine Z5 rfl ?_
 refine Z4 (fun K26 hK26 => ?_)
 refine Z8 ?_
 refine Z11 10 (by rfl) (fun Lk hLk => ?_)
 simp only [Z1,Z2]
 refine Z20 (v := .bool true) (args := #[]) (by rfl) rfl Try.func11 (by kernel_rfl) (by kernel_rfl) rfl (fun W hW => alive06_c) ?_
 simp only [Z7,Z0]
 refine Z16 (v := .bool true) (by rfl) rfl rfl ?_
 simp only [Z7,Z0]
 refine Z16 (v := .int .i64 10) (by rfl) rfl rfl ?_
 simp only [Z7,Z0]
 refine Z15 (v := .bool true) (by rfl) rfl rfl rfl (fun W => run_eql _ _ _ _ W) ?_
 simp only [Z7,Z0]
 refine wpV_pick (v := .bool true) (by rfl) rfl rfl rfl ?_
 simp only [Z7,Z0]
 refine Z16 (v := .bool true) (by rfl) rfl rfl ?_
 simp only [Z7,Z0]
 refine wpV_load (cs := [.int .u64 0, .int .u64 0, .int .u64 0, .int .u64 0] ++ [.int .u64 0, .int .u64 0, .int .u64 0, .int .u64 0] ++ [.int .u64 0, .int .u64 0, .int .u64 0, .int .u64 0] ++ [.int .u64 0, .int .u64 0, .int .u64 0, .int .u64 0]) (by rfl) rfl rfl (range_join (range_join (range_join (M.r 1 0 rfl rfl) (M.r 1 1 rfl rfl) (by simp [flen])) (M.r 1 2 rfl rfl) (by simp [flen])) (M.r 1 3 rfl rfl) (by simp [flen])) (M.lt 1 rfl) Try.underlying26 rfl info26 ?_
 simp only [Z7,Z0]
 refine Z19 (v := .agg ([.int .u64 0, .int .u64 0, .int .u64 0, .int .u64 0, .int .u64 0, .int .u64 0, .int .u64 0, .int .u64 0, .int .u64 0, .int .u64 0, .int .u64 0, .int .u64 0, .int .u64 0, .int .u64 0, .int .u64 0, .int .u64 0]).toArray) (by rfl) (by rfl) (fun W hW => ?_) ?_
 ·
  (unfold RunsVal; kernel_rfl)
 simp only [Z7,Z0]
 refine wpV_eqlT (k := 3) (u := [Value.int .u64 0, Value.int .u64 0, Value.int .u64 0, Value.int .u64 0] ++ [Value.int .u64 0, Value.int .u64 0, Value.int .u64 0, Value.int .u64 0] ++ [Value.int .u64 0, Value.int .u64 0, Value.int .u64 0, Value.int .u64 0] ++ [Value.int .u64 0, Value.int .u64 0, Value.int .u64 0, Value.int .u64 0]) (v := [Value.int .u64 0, Value.int .u64 0, Value.int .u64 0, Value.int .u64 0, Value.int .u64 0, Value.int .u64 0, Value.int .u64 0, Value.int .u64 0, Value.int .u64 0, Value.int .u64 0, Value.int .u64 0, Value.int .u64 0, Value.int .u64 0, Value.int .u64 0, Value.int .u64 0, Value.int .u64 0]) (b := true) (by rfl) rfl rfl rfl (by kernel_rfl) (by exact eq_z16) (by decide) ?_
 simp only [Z7,Z0]
 refine wpV_pick (v := .bool true) (by rfl) rfl rfl rfl ?_
 simp only [Z7,Z0]
 refine Z14 (hLk _ (fun w28 Sw28 => ?_))
 clear hLk Lk
 simp only [Z1,Z2]
 replace M := M.sees Sw28
 refine Z13 (v := .bool true) (by rfl) (by rfl) (by rfl) ?_
 simp only [Z7,Z0]
 refine Z9 (Z10 ?_)
 refine hK26 _ _ ?_
 refine wp_ret ?_
 repeat (first | with_reducible refine then_ret ?_ | with_reducible refine inblock_ret ?_)
 refine bodyPost_ret (v := .bool true) (res1 rfl (.tmp (by rfl))) rfl ?_
 have BE := M.below
 exact ⟨rfl, BE⟩
set_option maxHeartbeats 4000000 in
theorem pbytes_ok {l m : List UInt8} {x y : Nat} {w : World} (hm : m = cut l 40) (hl : m.length = 32) (hx : x < pF) (hy : y < pF) (hx2 : x < 2 ^ 256) (hy2 : y < 2 ^ 256) (hc : rightP (affP x y) = true) (ht : textQ x y = m) (hP : ∀ W : World, Calls Try.prog 10 #[.string (bs m)] W fun e w' => e = .returned (.tuple #[.agg (fel (affP x y).x ++ fel (affP x y).y ++ fel (affP x y).z ++ fel (affP x y).t : List Value).toArray, .int .i64 0]) ∧ Below W.heap.size W w') (hR : ∀ W : World, Calls Try.prog 12 #[.string (bs m)] W fun e w' => e = .returned (.tuple #[.agg (fel x ++ fel y : List Value).toArray, .bool true]) ∧ Below W.heap.size W w') :
  Calls Try.prog 3 #[.string (bs l)] w fun e w' => e = .returned (.bool true) ∧ Below w.heap.size w w' := by
 go_enter Try.func3, Try.ntmps3
 have M := Mem.start w
 refine Z4 (fun K1 hK1 => ?_)
 refine Z8 ?_
 refine Z13 (v := .bool false) (by rfl) (by rfl) (by rfl) ?_
 simp only [Z7,Z0]
 refine Z9 (Z10 ?_)
 refine hK1 _ _ ?_
 refine Z4 (fun K3 hK3 => ?_)
 refine Z8 ?_
 refine Z12 (v := .string (bs l)) (by rfl) (by rfl) (by rfl) ?_
 simp only [Z7,Z0]
 refine Z12 (v := .string (bs l)) (by rfl) (by rfl) (by rfl) ?_
 simp only [Z7,Z0]
 refine Z11 3 (by rfl) (fun Lk hLk => ?_)
 simp only [Z1,Z2]
 refine wpV_lenS (by rfl) rfl rfl rfl Try.underlying9 ?_
 simp only [Z7,Z0]
 refine wpV_min (n := l.length) (m := 40) (by rfl) rfl rfl rfl ?_
 simp only [Z7,Z0]
 refine wpV_cut (l := l) (m := 40) (by rfl) rfl rfl rfl Try.underlying9 ?_
 simp only [Z7,Z0]
 refine Z14 (hLk _ (fun w5 Sw5 => ?_))
 clear hLk Lk
 simp only [Z1,Z2]
 replace M := M.sees Sw5
 refine Z13 (v := .string (bs (cut l 40))) (by rfl) (by rfl) (by rfl) ?_
 simp only [Z7,Z0]
 refine Z9 (Z10 ?_)
 rw [← hm]
 refine hK3 _ _ ?_
 refine Z4 (fun K6 hK6 => ?_)
 refine Z8 ?_
 refine Z12 (v := .string (bs m)) (by rfl) (by rfl) (by rfl) ?_
 simp only [Z7,Z0]
 refine Z11 4 (by rfl) (fun Lk hLk => ?_)
 simp only [Z1,Z2]
 refine Z20 (v := .tuple #[.agg (fel x ++ fel y ++ fel 1 ++ fel (fmul x y) : List Value).toArray, .int .i64 0]) (args := #[.string (bs m)]) (by rfl) rfl Try.func10 (by kernel_rfl) (by kernel_rfl) rfl (fun W hW => (hP W)) ?_
 simp only [Z7,Z0]
 refine Z16 (v := .tuple #[.agg (fel x ++ fel y ++ fel 1 ++ fel (fmul x y) : List Value).toArray, .int .i64 0]) (by rfl) rfl rfl ?_
 simp only [Z7,Z0]
 refine wpV_extract (v := .agg (fel x ++ fel y ++ fel 1 ++ fel (fmul x y) : List Value).toArray) (by rfl) rfl rfl rfl ?_
 simp only [Z7,Z0]
 refine wpV_extract (v := .int .i64 0) (by rfl) rfl rfl rfl ?_
 simp only [Z7,Z0]
 refine Z14 (hLk _ (fun w8 Sw8 => ?_))
 clear hLk Lk
 simp only [Z1,Z2]
 replace M := M.sees Sw8
 refine wpL_var (t := 26) (cs := [.int .u64 0, .int .u64 0, .int .u64 0, .int .u64 0, .int .u64 0, .int .u64 0, .int .u64 0, .int .u64 0, .int .u64 0, .int .u64 0, .int .u64 0, .int .u64 0, .int .u64 0, .int .u64 0, .int .u64 0, .int .u64 0]) (by rfl) (fun W => ?_) (fun g9 w10 Sw10 Hg9 Bg9 => ?_)
 ·
  go_simp
 replace M := ((M.sees Sw10).addS (N := 16) (cs := [.int .u64 0, .int .u64 0, .int .u64 0, .int .u64 0, .int .u64 0, .int .u64 0, .int .u64 0, .int .u64 0, .int .u64 0, .int .u64 0, .int .u64 0, .int .u64 0, .int .u64 0, .int .u64 0, .int .u64 0, .int .u64 0]) (segs := [(0, [.int .u64 0, .int .u64 0, .int .u64 0, .int .u64 0]), (4, [.int .u64 0, .int .u64 0, .int .u64 0, .int .u64 0]), (8, [.int .u64 0, .int .u64 0, .int .u64 0, .int .u64 0]), (12, [.int .u64 0, .int .u64 0, .int .u64 0, .int .u64 0])]) (M.ge Hg9) (M.fresh Hg9) Bg9 rfl ⟨rfl, rfl, rfl, rfl, trivial⟩)
 clear Bg9
 simp only [Z7,Z0]
 refine wpL_store (g := g9) (off := 0) (n := 16) (cs := fel x ++ fel y ++ fel 1 ++ fel (fmul x y)) (by rfl) (by rfl) (by rfl) (by rfl) (by rfl) (M.t 0 rfl) (by simp [flen]) info26 (one4 _ _ _ _) (fun w11 P R T => ?_)
 replace M := M.put (segs' := [(0, fel x), (4, fel y), (8, fel 1), (12, fel (fmul x y))]) 0 rfl P T (SegsOf.at R ⟨rfl, rfl, rfl, rfl, trivial⟩)
 simp only [Z0] at M
 refine Z13 (v := .int .i64 0) (by rfl) (by rfl) (by rfl) ?_
 simp only [Z7,Z0]
 refine Z9 (Z10 ?_)
 refine hK6 _ _ ?_
 refine Z4 (fun K12 hK12 => ?_)
 refine Z4 (fun K13 hK13 => ?_)
 refine Z8 ?_
 refine Z12 (v := .string (bs m)) (by rfl) (by rfl) (by rfl) ?_
 simp only [Z7,Z0]
 refine Z11 2 (by rfl) (fun Lk hLk => ?_)
 simp only [Z1,Z2]
 refine wpV_lenS (by rfl) rfl rfl rfl Try.underlying9 ?_
 simp only [Z7,Z0]
 refine Z15 (v := .bool false) (by rfl) rfl rfl rfl (fun W => (run_neqN m.length 32 _ _ W).trans (by rw [(decide_eq_false (fun h => h hl))])) ?_
 simp only [Z7,Z0]
 refine Z14 (hLk _ (fun w15 Sw15 => ?_))
 clear hLk Lk
 simp only [Z1,Z2]
 replace M := M.sees Sw15
 refine Z9 (Z10 ?_)
 refine hK13 _ _ ?_
 refine Z6 rfl ?_
 refine wp_skip ?_
 refine hK12 _ _ ?_
 refine Z4 (fun K16 hK16 => ?_)
 refine Z8 ?_
 refine Z12 (v := .string (bs m)) (by rfl) (by rfl) (by rfl) ?_
 simp only [Z7,Z0]
 refine Z11 4 (by rfl) (fun Lk hLk => ?_)
 simp only [Z1,Z2]
 refine Z20 (v := .tuple #[.agg (fel x ++ fel y : List Value).toArray, .bool true]) (args := #[.string (bs m)]) (by rfl) rfl Try.func12 (by kernel_rfl) (by kernel_rfl) rfl (fun W hW => (hR W)) ?_
 simp only [Z7,Z0]
 refine Z16 (v := .tuple #[.agg (fel x ++ fel y : List Value).toArray, .bool true]) (by rfl) rfl rfl ?_
 simp only [Z7,Z0]
 refine wpV_extract (v := .agg (fel x ++ fel y : List Value).toArray) (by rfl) rfl rfl rfl ?_
 simp only [Z7,Z0]
 refine wpV_extract (v := .bool true) (by rfl) rfl rfl rfl ?_
 simp only [Z7,Z0]
 refine Z14 (hLk _ (fun w18 Sw18 => ?_))
 clear hLk Lk
 simp only [Z1,Z2]
 replace M := M.sees Sw18
 refine wpL_var (t := 32) (cs := [.int .u64 0, .int .u64 0, .int .u64 0, .int .u64 0, .int .u64 0, .int .u64 0, .int .u64 0, .int .u64 0]) (by rfl) (fun W => ?_) (fun g19 w20 Sw20 Hg19 Bg19 => ?_)
 ·
  go_simp
 replace M := ((M.sees Sw20).addS (N := 8) (cs := [.int .u64 0, .int .u64 0, .int .u64 0, .int .u64 0, .int .u64 0, .int .u64 0, .int .u64 0, .int .u64 0]) (segs := [(0, [.int .u64 0, .int .u64 0, .int .u64 0, .int .u64 0]), (4, [.int .u64 0, .int .u64 0, .int .u64 0, .int .u64 0])]) (M.ge Hg19) (M.fresh Hg19) Bg19 rfl ⟨rfl, rfl, trivial⟩)
 clear Bg19
 simp only [Z7,Z0]
 refine wpL_store (g := g19) (off := 0) (n := 8) (cs := fel x ++ fel y) (by rfl) (by rfl) (by rfl) (by rfl) (by rfl) (M.t 0 rfl) (by simp [flen]) info32 (two4 _ _) (fun w21 P R T => ?_)
 replace M := M.put (segs' := [(0, fel x), (4, fel y)]) 0 rfl P T (SegsOf.at R ⟨rfl, rfl, trivial⟩)
 simp only [Z0] at M
 refine Z13 (v := .bool true) (by rfl) (by rfl) (by rfl) ?_
 simp only [Z7,Z0]
 refine Z9 (Z10 ?_)
 refine hK16 _ _ ?_
 refine Z4 (fun K22 hK22 => ?_)
 refine Z4 (fun K23 hK23 => ?_)
 refine Z8 ?_
 refine Z12 (v := .bool true) (by rfl) (by rfl) (by rfl) ?_
 simp only [Z7,Z0]
 refine Z11 1 (by rfl) (fun Lk hLk => ?_)
 simp only [Z1,Z2]
 refine wpV_not (b := true) (by rfl) rfl rfl ?_
 simp only [Bool.not_true, Bool.not_false]
 simp only [Z7,Z0]
 refine Z14 (hLk _ (fun w25 Sw25 => ?_))
 clear hLk Lk
 simp only [Z1,Z2]
 replace M := M.sees Sw25
 refine Z9 (Z10 ?_)
 refine hK23 _ _ ?_
 refine Z6 rfl ?_
 refine wp_skip ?_
 refine hK22 _ _ ?_
 refine Z4 (fun K26 hK26 => ?_)
 refine Z8 ?_
 refine Z11 5 (by rfl) (fun Lk hLk => ?_)
 simp only [Z1,Z2]
 refine wpV_load (cs := fel x ++ (fel y) ++ (fel 1) ++ (fel (fmul x y))) (by rfl) rfl rfl (range_join (range_join (range_join (M.r 1 0 rfl rfl) (M.r 1 1 rfl rfl) (by simp [flen])) (M.r 1 2 rfl rfl) (by simp [flen])) (M.r 1 3 rfl rfl) (by simp [flen])) (M.lt 1 rfl) Try.underlying26 rfl info26 ?_
 simp only [Z7,Z0]
 refine Z20 (v := .tuple #[.string (bs m), .int .i64 0]) (args := #[.agg (fel x ++ (fel y) ++ (fel 1) ++ (fel (fmul x y)) : List Value).toArray]) (by rfl) rfl Try.func13 (by kernel_rfl) (by kernel_rfl) rfl (fun W hW => (by have h9 := Bytes_ok (p := affP x y) (w := W) (affP_ok hx2 hy2) hc; rw [affX_affP hx, affY_affP hy, ht] at h9; exact h9)) ?_
 simp only [Z7,Z0]
 refine Z16 (v := .tuple #[.string (bs m), .int .i64 0]) (by rfl) rfl rfl ?_
 simp only [Z7,Z0]
 refine wpV_extract (v := .string (bs m)) (by rfl) rfl rfl rfl ?_
 simp only [Z7,Z0]
 refine wpV_extract (v := .int .i64 0) (by rfl) rfl rfl rfl ?_
 simp only [Z7,Z0]
 refine Z14 (hLk _ (fun w28 Sw28 => ?_))
 clear hLk Lk
 simp only [Z1,Z2]
 replace M := M.sees Sw28
 refine Z13 (v := .string (bs m)) (by rfl) (by rfl) (by rfl) ?_
 simp only [Z7,Z0]
 refine Z13 (v := .int .i64 0) (by rfl) (by rfl) (by rfl) ?_
 simp only [Z7,Z0]
 refine Z9 (Z10 ?_)
 refine hK26 _ _ ?_
 refine Z4 (fun K29 hK29 => ?_)
 refine Z8 ?_
 refine Z11 38 (by rfl) (fun Lk hLk => ?_)
 simp only [Z1,Z2]
 refine Z20 (v := .bool true) (args := #[]) (by rfl) rfl Try.func11 (by kernel_rfl) (by kernel_rfl) rfl (fun W hW => alive06_c) ?_
 simp only [Z7,Z0]
 refine Z16 (v := .bool true) (by rfl) rfl rfl ?_
 simp only [Z7,Z0]
 refine Z16 (v := .int .i64 0) (by rfl) rfl rfl ?_
 simp only [Z7,Z0]
 refine Z15 (v := .bool true) (by rfl) rfl rfl rfl (fun W => run_eql _ _ _ _ W) ?_
 simp only [Z7,Z0]
 refine wpV_pick (v := .bool true) (by rfl) rfl rfl rfl ?_
 simp only [Z7,Z0]
 refine Z16 (v := .bool true) (by rfl) rfl rfl ?_
 simp only [Z7,Z0]
 refine Z19 (v := .pointer (some ⟨g9, 0, none⟩)) (by rfl) (by rfl) (fun W hW => ?_) ?_
 ·
  (go_simp; exact rfl)
 simp only [Z7,Z0]
 refine wpV_load (cs := fel x) (by rfl) rfl rfl (M.r 1 0 rfl rfl) (M.lt 1 rfl) Try.underlying24 rfl info24 ?_
 simp only [Z7,Z0]
 refine Z19 (v := .pointer (some ⟨g19, 0, none⟩)) (by rfl) (by rfl) (fun W hW => ?_) ?_
 ·
  (go_simp; exact rfl)
 simp only [Z7,Z0]
 refine wpV_load (cs := fel x) (by rfl) rfl rfl (M.r 0 0 rfl rfl) (M.lt 0 rfl) Try.underlying24 rfl info24 ?_
 simp only [Z7,Z0]
 refine Z19 (v := .bool true) (by rfl) (by rfl) (fun W hW => ?_) ?_
 ·
  exact run_eql_fe_same hx2 Try.underlying24 Try.underlying22 info22 (by kernel_rfl) rfl rfl rfl W
 simp only [Z7,Z0]
 refine wpV_pick (v := .bool true) (by rfl) rfl rfl rfl ?_
 simp only [Z7,Z0]
 refine Z16 (v := .bool true) (by rfl) rfl rfl ?_
 simp only [Z7,Z0]
 refine Z19 (v := .pointer (some ⟨g9, 4, none⟩)) (by rfl) (by rfl) (fun W hW => ?_) ?_
 ·
  (go_simp; exact rfl)
 simp only [Z7,Z0]
 refine wpV_load (cs := fel y) (by rfl) rfl rfl (M.r 1 1 rfl rfl) (M.lt 1 rfl) Try.underlying24 rfl info24 ?_
 simp only [Z7,Z0]
 refine Z19 (v := .pointer (some ⟨g19, 4, none⟩)) (by rfl) (by rfl) (fun W hW => ?_) ?_
 ·
  (go_simp; exact rfl)
 simp only [Z7,Z0]
 refine wpV_load (cs := fel y) (by rfl) rfl rfl (M.r 0 1 rfl rfl) (M.lt 0 rfl) Try.underlying24 rfl info24 ?_
 simp only [Z7,Z0]
 refine Z19 (v := .bool true) (by rfl) (by rfl) (fun W hW => ?_) ?_
 ·
  exact run_eql_fe_same hy2 Try.underlying24 Try.underlying22 info22 (by kernel_rfl) rfl rfl rfl W
 simp only [Z7,Z0]
 refine wpV_pick (v := .bool true) (by rfl) rfl rfl rfl ?_
 simp only [Z7,Z0]
 refine Z16 (v := .bool true) (by rfl) rfl rfl ?_
 simp only [Z7,Z0]
 refine Z19 (v := .pointer (some ⟨g9, 8, none⟩)) (by rfl) (by rfl) (fun W hW => ?_) ?_
 ·
  (go_simp; exact rfl)
 simp only [Z7,Z0]
 refine wpV_load (cs := fel 1) (by rfl) rfl rfl (M.r 1 2 rfl rfl) (M.lt 1 rfl) Try.underlying24 rfl info24 ?_
 simp only [Z7,Z0]
 refine Z19 (v := fe 1) (by rfl) (by rfl) (fun W hW => ?_) ?_
 ·
  rw [show fe 1 = .agg ([.int .u64 1, .int .u64 0, .int .u64 0, .int .u64 0]).toArray from (by kernel_rfl)]; unfold RunsVal; kernel_rfl
 simp only [Z7,Z0]
 refine Z19 (v := .bool true) (by rfl) (by rfl) (fun W hW => ?_) ?_
 ·
  exact run_eql_fe_same (by decide) Try.underlying24 Try.underlying22 info22 (by kernel_rfl) rfl rfl rfl W
 simp only [Z7,Z0]
 refine wpV_pick (v := .bool true) (by rfl) rfl rfl rfl ?_
 simp only [Z7,Z0]
 refine Z16 (v := .bool true) (by rfl) rfl rfl ?_
 simp only [Z7,Z0]
 refine wpV_load (cs := fel x ++ (fel y) ++ (fel 1) ++ (fel (fmul x y))) (by rfl) rfl rfl (range_join (range_join (range_join (M.r 1 0 rfl rfl) (M.r 1 1 rfl rfl) (by simp [flen])) (M.r 1 2 rfl rfl) (by simp [flen])) (M.r 1 3 rfl rfl) (by simp [flen])) (M.lt 1 rfl) Try.underlying26 rfl info26 ?_
 simp only [Z7,Z0]
 refine Z20 (v := .bool true) (args := #[.agg (fel x ++ (fel y) ++ (fel 1) ++ (fel (fmul x y)) : List Value).toArray]) (by rfl) rfl Try.func14 (by kernel_rfl) (by kernel_rfl) rfl (fun W hW => (by have h9 := rRight_c (p := affP x y) (w := W) (affP_ok hx2 hy2); rw [right_rRight, hc] at h9; exact h9)) ?_
 simp only [Z7,Z0]
 refine wpV_pick (v := .bool true) (by rfl) rfl rfl rfl ?_
 simp only [Z7,Z0]
 refine Z16 (v := .bool true) (by rfl) rfl rfl ?_
 simp only [Z7,Z0]
 refine Z16 (v := .int .i64 0) (by rfl) rfl rfl ?_
 simp only [Z7,Z0]
 refine Z15 (v := .bool true) (by rfl) rfl rfl rfl (fun W => run_eql _ _ _ _ W) ?_
 simp only [Z7,Z0]
 refine wpV_pick (v := .bool true) (by rfl) rfl rfl rfl ?_
 simp only [Z7,Z0]
 refine Z16 (v := .bool true) (by rfl) rfl rfl ?_
 simp only [Z7,Z0]
 refine Z16 (v := .string (bs m)) (by rfl) rfl rfl ?_
 simp only [Z7,Z0]
 refine Z16 (v := .string (bs m)) (by rfl) rfl rfl ?_
 simp only [Z7,Z0]
 refine wpV_binS (v := .bool true) (by rfl) rfl rfl rfl (fun W => (run_eql_bs _ _ _ W).trans (by rw [show decide (m = m) = true from (decide_eq_true rfl)])) ?_
 simp only [Z7,Z0]
 refine wpV_pick (v := .bool true) (by rfl) rfl rfl rfl ?_
 simp only [Z7,Z0]
 refine Z14 (hLk _ (fun w31 Sw31 => ?_))
 clear hLk Lk
 simp only [Z1,Z2]
 replace M := M.sees Sw31
 refine Z13 (v := .bool true) (by rfl) (by rfl) (by rfl) ?_
 simp only [Z7,Z0]
 refine Z9 (Z10 ?_)
 refine hK29 _ _ ?_
 refine wp_ret ?_
 repeat (first | with_reducible refine then_ret ?_ | with_reducible refine inblock_ret ?_)
 refine bodyPost_ret (v := .bool true) (res1 rfl (.tmp (by rfl))) rfl ?_
 have BE := M.below
 exact ⟨rfl, BE⟩
theorem pbytes_c {l : List UInt8} {w : World} :
  Calls Try.prog 3 #[.string (bs l)] w fun e w' => e = .returned (.bool true) ∧ Below w.heap.size w w' := by
 obtain ⟨m, hm⟩ : ∃ m, m = cut l 40 := ⟨_, rfl⟩
 by_cases hl : m.length = 32
 ·
  have hlen := yT_len hl
  obtain ⟨y, hy⟩ : ∃ y, leN (yT m) = y := ⟨_, rfl⟩
  have hlt : leN (yT m) < 2 ^ 256 := Nat.lt_of_lt_of_le (leN_lt _) (by rw [hlen]; decide)
  by_cases hp : y < pF
  ·
   have hy2 : y < 2 ^ 256 := hy ▸ hlt
   obtain ⟨hE, hN, _⟩ := fp_yes hlen (hy.symm ▸ hp)
   rw [hy] at hN
   rcases hr : rootX y with ⟨x, b⟩
   have hx2 : x < 2 ^ 256 := by
    have := rootX_lt y
    rw [hr] at this
    exact this
   cases b
   ·
    exact pbytes_err hm hl (fun W => Parse_none hl hx2 hy2 hN hE hr) (fun W => rParse_none hl hy hy2 hp hx2 hr)
   ·
    obtain ⟨hx, hev, ho⟩ := root_on hr
    have hb9 := byteN_lt m 31
    by_cases hb : 128 ≤ byteN m 31
    ·
     have hb1 : decide (byteN m 31 / 128 * 128 ≠ 0) = true := decide_eq_true ((high_bit hb9).2 hb)
     by_cases h0 : x = 0
     ·
      exact pbytes_err hm hl (fun W => Parse_zero hl hx2 hy2 hN hE hr hb1 (decide_eq_true h0)) (fun W => rParse_zero hl hy hy2 hp hx2 hr (decide_eq_true hb) (decide_eq_true h0))
     ·
      have hxn := fsub_ltp 0 x
      exact pbytes_ok hm hl hxn hp (fsub_lt ..) hy2 (aff_right hxn hp (root_on_neg hr)) (text_back hl hy hp (by rw [neg_par hx h0]; omega)) (fun W => Parse_odd hl hx2 hy2 hN hE hr hb1 (decide_eq_false h0)) (fun W => rParse_odd hl hy hy2 hp hx2 hr (decide_eq_true hb) (decide_eq_false h0))
    ·
     have hb1 : decide (byteN m 31 / 128 * 128 ≠ 0) = false := decide_eq_false fun h => hb ((high_bit hb9).1 h)
     exact pbytes_ok hm hl hx hp hx2 hy2 (aff_right hx hp ho) (text_back hl hy hp (by omega)) (fun W => Parse_even hl hx2 hy2 hN hE hr hb1) (fun W => rParse_even hl hy hy2 hp hx2 hr (decide_eq_false hb))
  ·
   obtain ⟨hE, hN⟩ := fp_no hlen (hy.symm ▸ hp)
   exact pbytes_err hm hl (fun W => Parse_bad hl hN hE) (fun W => rParse_bad hl hy (hy ▸ hlt) hp)
 ·
  exact pbytes_len hm hl (fun W => Parse_len hl)
end Go.Proofs.Yc

