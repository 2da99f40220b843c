import Derived.WalkKit
import Derived.WalkSpells
import Derived.Laws.Pointers
import Derived.RowKit3
import Derived.Below
import Derived.Outline
import Derived.LoopN
import Derived.Lib.Hide
import Derived.Handy
import Derived.Laws.Bits64b
import Derived.Test.YticcchgckljlnaaDoorPr7
set_option linter.unusedSimpArgs false
set_option linter.unusedVariables false
namespace Go.Proofs.Yb
open Go Go.RowKit Go.Proofs.Num
attribute [local irreducible] wpV wpN wpList
set_option maxRecDepth 100000 in
set_option maxHeartbeats 4000000 in
theorem makes_go_neg {vls : Value} {ls Ql : List (List UInt8)} {i : Nat} {y : Int} {w : World} (hQ : cutsS 50 40 ls = Ql) (hQL : Ql.length ≤ 50) (hri : rightB Ql = true) (h4 : Ql.length ≤ 4096) (h32 : ∀ s ∈ Ql, s.length = 32) (hx : i < Ql.length) (hy : y < 0) (L0 : 0 < w.heap.size) (R0_0 : w.rangeAt 0 0 kcells) (hvls : RowS w vls ls) :
    Calls Tryd.prog 9 #[vls, .int .i64 ((i : Nat) : Int), .int .i64 y] w fun e w' => e = .returned (.bool true) ∧ Below w.heap.size w w' := by
  go_enter Tryd.func9, Tryd.ntmps9
  have M := Mem.start w
  refine wp_seq_k (fun K1 hK1 => ?_)
  refine wp_region_seq ?_
  refine wpL_assign (v := .bool false) (by rfl) (by rfl) (by rfl) ?_
  simp only [putT, List.set]
  refine wpL_nil (no_panic ?_)
  refine hK1 _ _ ?_
  refine wp_seq_k (fun K3 hK3 => ?_)
  refine wp_region_seq ?_
  refine wpL_move (v := vls) (by rfl) (by rfl) (by rfl) ?_
  simp only [putT, List.set]
  refine wpL_callE (f := 46) (args := #[vls]) (R := MemRow w ((cutsS 50 40 ls).length) (scells (cutsS 50 40 ls))) (by rfl) (by rfl) rfl Tryd.func46 (by kernel_rfl) (by kernel_rfl) (few9_c (hvls.mem M)) (fun v9 w6 hv9 Sw6 => ?_)
  obtain ⟨g5, g5c, rfl, Cg5, M9⟩ := hv9
  replace M := M.call1 M9
  simp only [putT, List.set]
  refine wpL_assign (v := .slice (some ⟨g5, 0, none⟩) ((cutsS 50 40 ls).length) g5c) (by rfl) (by rfl) (by rfl) ?_
  simp only [putT, List.set]
  refine wpL_nil (no_panic ?_)
  simp only [hQ] at M
  simp only [hQ]
  rw [hQ] at Cg5
  refine hK3 _ _ ?_
  refine wp_seq_k (fun K7 hK7 => ?_)
  refine wp_region_seq ?_
  refine wpL_move (v := .slice (some ⟨g5, 0, none⟩) Ql.length g5c) (by rfl) (by rfl) (by rfl) ?_
  simp only [putT, List.set]
  refine wpL_move (v := .int .i64 ((i : Nat) : Int)) (by rfl) (by rfl) (by rfl) ?_
  simp only [putT, List.set]
  refine wpL_callE (f := 47) (args := #[.slice (some ⟨g5, 0, none⟩) Ql.length g5c, .int .i64 ((i : Nat) : Int)]) (R := fun v9 W9 => ∃ a10 c10, v9 = .tuple #[.slice a10 ((pathS Ql i).length) c10, .int .i64 0] ∧ RowA W9 a10 (pathS Ql i).length c10 (scells (pathS Ql i))) (by rfl) (by rfl) rfl Tryd.func47 (by kernel_rfl) (by kernel_rfl) (Path_n (l := Ql) (i0 := i) hri hx (M.oldL L0) (M.oldR R0_0 L0) (RowA.of (M.r 0 0 rfl rfl) (M.lt 0 rfl) (scells_len _).symm Cg5)) (fun v9 w9 hv9 Sw9 => ?_)
  obtain ⟨a10, c10, rfl, H10_0⟩ := hv9
  replace M := M.sees Sw9
  replace R0_0 := M.oldR R0_0 L0
  replace L0 := M.oldL L0
  have Rg5_0 := M.r 0 0 rfl rfl
  have Lg5 := M.lt 0 rfl
  have BB := M.below
  replace M := Mem.start w9
  simp only [putT, List.set]
  refine wpL_move (v := .tuple #[.slice a10 ((pathS Ql i).length) c10, .int .i64 0]) (by rfl) (by rfl) (by rfl) ?_
  simp only [putT, List.set]
  refine wpL_chunk 2 (by rfl) (fun Lk hLk => ?_)
  simp only [List.take, List.drop]
  refine wpV_extract (v := .slice a10 ((pathS Ql i).length) c10) (by rfl) rfl rfl rfl ?_
  simp only [putT, List.set]
  refine wpV_extract (v := .int .i64 0) (by rfl) rfl rfl rfl ?_
  simp only [putT, List.set]
  refine wpV_nil (hLk _ (fun w11 Sw11 => ?_))
  clear hLk Lk
  simp only [List.take, List.drop]
  replace M := M.sees Sw11
  refine wpL_assign (v := .slice a10 ((pathS Ql i).length) c10) (by rfl) (by rfl) (by rfl) ?_
  simp only [putT, List.set]
  refine wpL_assign (v := .int .i64 0) (by rfl) (by rfl) (by rfl) ?_
  simp only [putT, List.set]
  refine wpL_nil (no_panic ?_)
  refine hK7 _ _ ?_
  refine wp_seq_k (fun K12 hK12 => ?_)
  refine wp_region_seq ?_
  refine wpL_move (v := .slice (some ⟨g5, 0, none⟩) Ql.length g5c) (by rfl) (by rfl) (by rfl) ?_
  simp only [putT, List.set]
  refine wpL_move (v := .int .i64 y) (by rfl) (by rfl) (by rfl) ?_
  simp only [putT, List.set]
  refine wpL_chunk 4 (by rfl) (fun Lk hLk => ?_)
  simp only [List.take, List.drop]
  refine wpV_callf (v := .tuple #[.slice none 0 0, .int .i64 1]) (args := #[.slice (some ⟨g5, 0, none⟩) Ql.length g5c, .int .i64 y]) (by rfl) rfl Tryd.func48 (by kernel_rfl) (by kernel_rfl) rfl (fun W hW => by with_reducible exact Step_neg (l := Ql) hri hy (RowA.of ((M.sees hW).oldR Rg5_0 Lg5) ((M.sees hW).oldL Lg5) (scells_len _).symm Cg5)) ?_
  simp only [putT, List.set]
  refine wpV_move (v := .tuple #[.slice none 0 0, .int .i64 1]) (by rfl) rfl rfl ?_
  simp only [putT, List.set]
  refine wpV_extract (v := .slice none 0 0) (by rfl) rfl rfl rfl ?_
  simp only [putT, List.set]
  refine wpV_extract (v := .int .i64 1) (by rfl) rfl rfl rfl ?_
  simp only [putT, List.set]
  refine wpV_nil (hLk _ (fun w14 Sw14 => ?_))
  clear hLk Lk
  simp only [List.take, List.drop]
  replace M := M.sees Sw14
  refine wpL_assign (v := .slice none 0 0) (by rfl) (by rfl) (by rfl) ?_
  simp only [putT, List.set]
  refine wpL_assign (v := .int .i64 1) (by rfl) (by rfl) (by rfl) ?_
  simp only [putT, List.set]
  refine wpL_nil (no_panic ?_)
  refine hK12 _ _ ?_
  refine wp_seq_k (fun K15 hK15 => ?_)
  refine wp_seq_k (fun K16 hK16 => ?_)
  refine wp_region_seq ?_
  refine wpL_move (v := .slice (some ⟨g5, 0, none⟩) Ql.length g5c) (by rfl) (by rfl) (by rfl) ?_
  simp only [putT, List.set]
  refine wpL_chunk 2 (by rfl) (fun Lk hLk => ?_)
  simp only [List.take, List.drop]
  refine wpV_callf (v := .bool true) (args := #[.slice (some ⟨g5, 0, none⟩) Ql.length g5c]) (by rfl) rfl Tryd.func43 (by kernel_rfl) (by kernel_rfl) rfl (fun W hW => by have h9 : Calls Tryd.prog _ _ W _ := rright_r (ps := Ql) (by omega) (RowA.of ((M.sees hW).oldR Rg5_0 Lg5) ((M.sees hW).oldL Lg5) (scells_len _).symm Cg5); rw [hri] at h9; exact h9) ?_
  simp only [putT, List.set]
  refine wpV_not (b := true) (by rfl) rfl rfl ?_
  simp only [Bool.not_true, Bool.not_false]
  simp only [putT, List.set]
  refine wpV_nil (hLk _ (fun w18 Sw18 => ?_))
  clear hLk Lk
  simp only [List.take, List.drop]
  replace M := M.sees Sw18
  refine wpL_nil (no_panic ?_)
  refine hK16 _ _ ?_
  refine wp_cond_false rfl ?_
  refine wp_skip ?_
  refine hK15 _ _ ?_
  refine wp_seq_k (fun K19 hK19 => ?_)
  refine wp_seq_k (fun K20 hK20 => ?_)
  refine wp_region_seq ?_
  refine wpL_move (v := .int .i64 ((i : Nat) : Int)) (by rfl) (by rfl) (by rfl) ?_
  simp only [putT, List.set]
  refine wpL_chunk 7 (by rfl) (fun Lk hLk => ?_)
  simp only [List.take, List.drop]
  refine wpV_bin (v := .bool false) (by rfl) rfl rfl rfl (fun W => (run_lssN i 0 _ _ W).trans (by rw [(decide_eq_false (Nat.not_lt_zero i))])) ?_
  simp only [putT, List.set]
  refine wpV_move (v := .bool false) (by rfl) rfl rfl ?_
  simp only [putT, List.set]
  refine wpV_move (v := .int .i64 ((i : Nat) : Int)) (by rfl) rfl rfl ?_
  simp only [putT, List.set]
  refine wpV_move (v := .slice (some ⟨g5, 0, none⟩) Ql.length g5c) (by rfl) rfl rfl ?_
  simp only [putT, List.set]
  refine wpV_lenA (n := Ql.length) (by rfl) rfl rfl rfl Tryd.underlying48 ?_
  simp only [putT, List.set]
  refine wpV_bin (v := .bool false) (by rfl) rfl rfl rfl (fun W => (run_geqN i Ql.length _ _ W).trans (by rw [(decide_eq_false (Nat.not_le.2 hx))])) ?_
  simp only [putT, List.set]
  refine wpV_pick (v := .bool false) (by rfl) rfl rfl rfl ?_
  simp only [putT, List.set]
  refine wpV_nil (hLk _ (fun w22 Sw22 => ?_))
  clear hLk Lk
  simp only [List.take, List.drop]
  replace M := M.sees Sw22
  refine wpL_nil (no_panic ?_)
  refine hK20 _ _ ?_
  refine wp_cond_false rfl ?_
  refine wp_seq_k (fun K23 hK23 => ?_)
  refine wp_region_seq ?_
  refine wpL_move (v := .int .i64 0) (by rfl) (by rfl) (by rfl) ?_
  simp only [putT, List.set]
  refine wpL_chunk 5 (by rfl) (fun Lk hLk => ?_)
  simp only [List.take, List.drop]
  refine wpV_bin (v := .bool false) (by rfl) rfl rfl rfl (fun W => run_neq _ _ _ _ W) ?_
  simp only [putT, List.set]
  refine wpV_move (v := .bool false) (by rfl) rfl rfl ?_
  simp only [putT, List.set]
  refine wpV_move (v := .slice a10 ((pathS Ql i).length) c10) (by rfl) rfl rfl ?_
  simp only [putT, List.set]
  refine wpV_move (v := .slice (some ⟨g5, 0, none⟩) Ql.length g5c) (by rfl) rfl rfl ?_
  simp only [putT, List.set]
  refine wpV_move (v := .int .i64 ((i : Nat) : Int)) (by rfl) rfl rfl ?_
  simp only [putT, List.set]
  refine wpV_nil (hLk _ (fun w25 Sw25 => ?_))
  clear hLk Lk
  simp only [List.take, List.drop]
  replace M := M.sees Sw25
  refine wpL_guard (by rfl) ?_
  refine wpL_callE (f := 51) (args := #[.slice (some ⟨g5, 0, none⟩) Ql.length g5c, .int .i64 ((i : Nat) : Int)]) (R := fun v9 W9 => ∃ g27 g27c, v9 = .slice (some ⟨g27, 0, none⟩) ((pathS Ql i).length) g27c ∧ (pathS Ql i).length ≤ g27c ∧ Mem [] w25 W9 [⟨g27, g27c, [(0, scells (pathS Ql i))]⟩]) (by rfl) (by rfl) rfl Tryd.func51 (by kernel_rfl) (by kernel_rfl) (rPath_c _ (l := Ql) (i := i)  rfl h4 h32 hx (RowA.of (M.oldR Rg5_0 Lg5) (M.oldL Lg5) (scells_len _).symm Cg5)) (fun v9 w26 hv9 Sw26 => ?_)
  obtain ⟨g27, g27c, rfl, Cg27, M9⟩ := hv9
  replace M := M.call1 M9
  clear Sw26
  simp only [putT, List.set]
  refine wpL_chunk 3 (by rfl) (fun Lk hLk => ?_)
  simp only [List.take, List.drop]
  refine wpV_callf (v := .bool true) (args := #[.slice a10 ((pathS Ql i).length) c10, .slice (some ⟨g27, 0, none⟩) ((pathS Ql i).length) g27c]) (by rfl) rfl Tryd.func50 (by kernel_rfl) (by kernel_rfl) rfl (fun W hW => by have h9 : Calls Tryd.prog _ _ W _ := same_r (ps := pathS Ql i) (qs := pathS Ql i) (Nat.le_trans (pathS_le4 h4 hx) (by decide)) ((M.sees hW).oldA H10_0) (RowA.of ((M.sees hW).r 0 0 rfl rfl) ((M.sees hW).lt 0 rfl) (scells_len _).symm Cg27); rw [decide_eq_true rfl] at h9; exact h9) ?_
  simp only [putT, List.set]
  refine wpV_not (b := true) (by rfl) rfl rfl ?_
  simp only [Bool.not_true, Bool.not_false]
  simp only [putT, List.set]
  refine wpV_pick (v := .bool false) (by rfl) rfl rfl rfl ?_
  simp only [putT, List.set]
  refine wpV_nil (hLk _ (fun w28 Sw28 => ?_))
  clear hLk Lk
  simp only [List.take, List.drop]
  replace M := M.sees Sw28
  refine wpL_nil (no_panic ?_)
  refine hK23 _ _ ?_
  refine wp_cond_false rfl ?_
  refine wp_skip ?_
  refine hK19 _ _ ?_
  refine wp_seq_k (fun K29 hK29 => ?_)
  refine wp_seq_k (fun K30 hK30 => ?_)
  refine wp_region_seq ?_
  refine wpL_move (v := .int .i64 y) (by rfl) (by rfl) (by rfl) ?_
  simp only [putT, List.set]
  refine wpL_chunk 7 (by rfl) (fun Lk hLk => ?_)
  simp only [List.take, List.drop]
  refine wpV_bin (v := .bool true) (by rfl) rfl rfl rfl (fun W => (run_lss _ _ _ _ W).trans (by rw [(decide_eq_true hy)])) ?_
  simp only [putT, List.set]
  refine wpV_move (v := .bool true) (by rfl) rfl rfl ?_
  simp only [putT, List.set]
  refine wpV_skip (by rfl) (by rfl) ?_
  simp only [putT, List.set]
  refine wpV_skip (by rfl) (by rfl) ?_
  simp only [putT, List.set]
  refine wpV_skip (by rfl) (by rfl) ?_
  simp only [putT, List.set]
  refine wpV_skip (by rfl) (by rfl) ?_
  simp only [putT, List.set]
  refine wpV_pick (v := .bool true) (by rfl) rfl rfl rfl ?_
  simp only [putT, List.set]
  refine wpV_nil (hLk _ (fun w32 Sw32 => ?_))
  clear hLk Lk
  simp only [List.take, List.drop]
  replace M := M.sees Sw32
  refine wpL_nil (no_panic ?_)
  refine hK30 _ _ ?_
  refine wp_cond_true rfl ?_
  refine wp_seq_k (fun K33 hK33 => ?_)
  refine wp_region_seq ?_
  refine wpL_chunk 10 (by rfl) (fun Lk hLk => ?_)
  simp only [List.take, List.drop]
  refine wpV_callf (v := .bool true) (args := #[]) (by rfl) rfl Tryd.func49 (by kernel_rfl) (by kernel_rfl) rfl (fun W hW => alive09_c ((M.sees hW).oldL L0) ((M.sees hW).oldR R0_0 L0)) ?_
  simp only [putT, List.set]
  refine wpV_move (v := .bool true) (by rfl) rfl rfl ?_
  simp only [putT, List.set]
  refine wpV_move (v := .int .i64 1) (by rfl) rfl rfl ?_
  simp only [putT, List.set]
  refine wpV_bin (v := .bool true) (by rfl) rfl rfl rfl (fun W => run_eql _ _ _ _ W) ?_
  simp only [putT, List.set]
  refine wpV_pick (v := .bool true) (by rfl) rfl rfl rfl ?_
  simp only [putT, List.set]
  refine wpV_move (v := .bool true) (by rfl) rfl rfl ?_
  simp only [putT, List.set]
  refine wpV_move (v := .slice none 0 0) (by rfl) rfl rfl ?_
  simp only [putT, List.set]
  refine wpV_lenA (n := 0) (by rfl) rfl rfl rfl Tryd.underlying48 ?_
  simp only [putT, List.set]
  refine wpV_bin (v := .bool true) (by rfl) rfl rfl rfl (fun W => run_eql _ _ _ _ W) ?_
  simp only [putT, List.set]
  refine wpV_pick (v := .bool true) (by rfl) rfl rfl rfl ?_
  simp only [putT, List.set]
  refine wpV_nil (hLk _ (fun w35 Sw35 => ?_))
  clear hLk Lk
  simp only [List.take, List.drop]
  replace M := M.sees Sw35
  refine wpL_assign (v := .bool true) (by rfl) (by rfl) (by rfl) ?_
  simp only [putT, List.set]
  refine wpL_nil (no_panic ?_)
  refine hK33 _ _ ?_
  refine wp_ret ?_
  repeat (first | with_reducible refine then_ret ?_ | with_reducible refine inblock_ret ?_)
  refine bodyPost_ret (v := .bool true) (res1 rfl (.tmp (by rfl))) rfl ?_
  have BE := M.below
  exact ⟨rfl, BB.trans (BE.mono BB.size)⟩
set_option maxRecDepth 100000 in
set_option maxHeartbeats 4000000 in
theorem makes_go_zero {vls : Value} {ls Ql : List (List UInt8)} {i : Nat}  {w : World} (hQ : cutsS 50 40 ls = Ql) (hQL : Ql.length ≤ 50) (hri : rightB Ql = true) (h4 : Ql.length ≤ 4096) (h32 : ∀ s ∈ Ql, s.length = 32) (hx : i < Ql.length) (L0 : 0 < w.heap.size) (R0_0 : w.rangeAt 0 0 kcells) (hvls : RowS w vls ls) :
    Calls Tryd.prog 9 #[vls, .int .i64 ((i : Nat) : Int), .int .i64 0] w fun e w' => e = .returned (.bool true) ∧ Below w.heap.size w w' := by
  go_enter Tryd.func9, Tryd.ntmps9
  have M := Mem.start w
  refine wp_seq_k (fun K1 hK1 => ?_)
  refine wp_region_seq ?_
  refine wpL_assign (v := .bool false) (by rfl) (by rfl) (by rfl) ?_
  simp only [putT, List.set]
  refine wpL_nil (no_panic ?_)
  refine hK1 _ _ ?_
  refine wp_seq_k (fun K3 hK3 => ?_)
  refine wp_region_seq ?_
  refine wpL_move (v := vls) (by rfl) (by rfl) (by rfl) ?_
  simp only [putT, List.set]
  refine wpL_callE (f := 46) (args := #[vls]) (R := MemRow w ((cutsS 50 40 ls).length) (scells (cutsS 50 40 ls))) (by rfl) (by rfl) rfl Tryd.func46 (by kernel_rfl) (by kernel_rfl) (few9_c (hvls.mem M)) (fun v9 w6 hv9 Sw6 => ?_)
  obtain ⟨g5, g5c, rfl, Cg5, M9⟩ := hv9
  replace M := M.call1 M9
  simp only [putT, List.set]
  refine wpL_assign (v := .slice (some ⟨g5, 0, none⟩) ((cutsS 50 40 ls).length) g5c) (by rfl) (by rfl) (by rfl) ?_
  simp only [putT, List.set]
  refine wpL_nil (no_panic ?_)
  simp only [hQ] at M
  simp only [hQ]
  rw [hQ] at Cg5
  refine hK3 _ _ ?_
  refine wp_seq_k (fun K7 hK7 => ?_)
  refine wp_region_seq ?_
  refine wpL_move (v := .slice (some ⟨g5, 0, none⟩) Ql.length g5c) (by rfl) (by rfl) (by rfl) ?_
  simp only [putT, List.set]
  refine wpL_move (v := .int .i64 ((i : Nat) : Int)) (by rfl) (by rfl) (by rfl) ?_
  simp only [putT, List.set]
  refine wpL_callE (f := 47) (args := #[.slice (some ⟨g5, 0, none⟩) Ql.length g5c, .int .i64 ((i : Nat) : Int)]) (R := fun v9 W9 => ∃ a10 c10, v9 = .tuple #[.slice a10 ((pathS Ql i).length) c10, .int .i64 0] ∧ RowA W9 a10 (pathS Ql i).length c10 (scells (pathS Ql i))) (by rfl) (by rfl) rfl Tryd.func47 (by kernel_rfl) (by kernel_rfl) (Path_n (l := Ql) (i0 := i) hri hx (M.oldL L0) (M.oldR R0_0 L0) (RowA.of (M.r 0 0 rfl rfl) (M.lt 0 rfl) (scells_len _).symm Cg5)) (fun v9 w9 hv9 Sw9 => ?_)
  obtain ⟨a10, c10, rfl, H10_0⟩ := hv9
  replace M := M.sees Sw9
  replace R0_0 := M.oldR R0_0 L0
  replace L0 := M.oldL L0
  have Rg5_0 := M.r 0 0 rfl rfl
  have Lg5 := M.lt 0 rfl
  have BB := M.below
  replace M := Mem.start w9
  simp only [putT, List.set]
  refine wpL_move (v := .tuple #[.slice a10 ((pathS Ql i).length) c10, .int .i64 0]) (by rfl) (by rfl) (by rfl) ?_
  simp only [putT, List.set]
  refine wpL_chunk 2 (by rfl) (fun Lk hLk => ?_)
  simp only [List.take, List.drop]
  refine wpV_extract (v := .slice a10 ((pathS Ql i).length) c10) (by rfl) rfl rfl rfl ?_
  simp only [putT, List.set]
  refine wpV_extract (v := .int .i64 0) (by rfl) rfl rfl rfl ?_
  simp only [putT, List.set]
  refine wpV_nil (hLk _ (fun w11 Sw11 => ?_))
  clear hLk Lk
  simp only [List.take, List.drop]
  replace M := M.sees Sw11
  refine wpL_assign (v := .slice a10 ((pathS Ql i).length) c10) (by rfl) (by rfl) (by rfl) ?_
  simp only [putT, List.set]
  refine wpL_assign (v := .int .i64 0) (by rfl) (by rfl) (by rfl) ?_
  simp only [putT, List.set]
  refine wpL_nil (no_panic ?_)
  refine hK7 _ _ ?_
  refine wp_seq_k (fun K12 hK12 => ?_)
  refine wp_region_seq ?_
  refine wpL_move (v := .slice (some ⟨g5, 0, none⟩) Ql.length g5c) (by rfl) (by rfl) (by rfl) ?_
  simp only [putT, List.set]
  refine wpL_move (v := .int .i64 0) (by rfl) (by rfl) (by rfl) ?_
  simp only [putT, List.set]
  refine wpL_chunk 4 (by rfl) (fun Lk hLk => ?_)
  simp only [List.take, List.drop]
  refine wpV_callf (v := .tuple #[.slice none 0 0, .int .i64 0]) (args := #[.slice (some ⟨g5, 0, none⟩) Ql.length g5c, .int .i64 0]) (by rfl) rfl Tryd.func48 (by kernel_rfl) (by kernel_rfl) rfl (fun W hW => by with_reducible exact Step_zero (l := Ql) hri (RowA.of ((M.sees hW).oldR Rg5_0 Lg5) ((M.sees hW).oldL Lg5) (scells_len _).symm Cg5)) ?_
  simp only [putT, List.set]
  refine wpV_move (v := .tuple #[.slice none 0 0, .int .i64 0]) (by rfl) rfl rfl ?_
  simp only [putT, List.set]
  refine wpV_extract (v := .slice none 0 0) (by rfl) rfl rfl rfl ?_
  simp only [putT, List.set]
  refine wpV_extract (v := .int .i64 0) (by rfl) rfl rfl rfl ?_
  simp only [putT, List.set]
  refine wpV_nil (hLk _ (fun w14 Sw14 => ?_))
  clear hLk Lk
  simp only [List.take, List.drop]
  replace M := M.sees Sw14
  refine wpL_assign (v := .slice none 0 0) (by rfl) (by rfl) (by rfl) ?_
  simp only [putT, List.set]
  refine wpL_assign (v := .int .i64 0) (by rfl) (by rfl) (by rfl) ?_
  simp only [putT, List.set]
  refine wpL_nil (no_panic ?_)
  refine hK12 _ _ ?_
  refine wp_seq_k (fun K15 hK15 => ?_)
  refine wp_seq_k (fun K16 hK16 => ?_)
  refine wp_region_seq ?_
  refine wpL_move (v := .slice (some ⟨g5, 0, none⟩) Ql.length g5c) (by rfl) (by rfl) (by rfl) ?_
  simp only [putT, List.set]
  refine wpL_chunk 2 (by rfl) (fun Lk hLk => ?_)
  simp only [List.take, List.drop]
  refine wpV_callf (v := .bool true) (args := #[.slice (some ⟨g5, 0, none⟩) Ql.length g5c]) (by rfl) rfl Tryd.func43 (by kernel_rfl) (by kernel_rfl) rfl (fun W hW => by have h9 : Calls Tryd.prog _ _ W _ := rright_r (ps := Ql) (by omega) (RowA.of ((M.sees hW).oldR Rg5_0 Lg5) ((M.sees hW).oldL Lg5) (scells_len _).symm Cg5); rw [hri] at h9; exact h9) ?_
  simp only [putT, List.set]
  refine wpV_not (b := true) (by rfl) rfl rfl ?_
  simp only [Bool.not_true, Bool.not_false]
  simp only [putT, List.set]
  refine wpV_nil (hLk _ (fun w18 Sw18 => ?_))
  clear hLk Lk
  simp only [List.take, List.drop]
  replace M := M.sees Sw18
  refine wpL_nil (no_panic ?_)
  refine hK16 _ _ ?_
  refine wp_cond_false rfl ?_
  refine wp_skip ?_
  refine hK15 _ _ ?_
  refine wp_seq_k (fun K19 hK19 => ?_)
  refine wp_seq_k (fun K20 hK20 => ?_)
  refine wp_region_seq ?_
  refine wpL_move (v := .int .i64 ((i : Nat) : Int)) (by rfl) (by rfl) (by rfl) ?_
  simp only [putT, List.set]
  refine wpL_chunk 7 (by rfl) (fun Lk hLk => ?_)
  simp only [List.take, List.drop]
  refine wpV_bin (v := .bool false) (by rfl) rfl rfl rfl (fun W => (run_lssN i 0 _ _ W).trans (by rw [(decide_eq_false (Nat.not_lt_zero i))])) ?_
  simp only [putT, List.set]
  refine wpV_move (v := .bool false) (by rfl) rfl rfl ?_
  simp only [putT, List.set]
  refine wpV_move (v := .int .i64 ((i : Nat) : Int)) (by rfl) rfl rfl ?_
  simp only [putT, List.set]
  refine wpV_move (v := .slice (some ⟨g5, 0, none⟩) Ql.length g5c) (by rfl) rfl rfl ?_
  simp only [putT, List.set]
  refine wpV_lenA (n := Ql.length) (by rfl) rfl rfl rfl Tryd.underlying48 ?_
  simp only [putT, List.set]
  refine wpV_bin (v := .bool false) (by rfl) rfl rfl rfl (fun W => (run_geqN i Ql.length _ _ W).trans (by rw [(decide_eq_false (Nat.not_le.2 hx))])) ?_
  simp only [putT, List.set]
  refine wpV_pick (v := .bool false) (by rfl) rfl rfl rfl ?_
  simp only [putT, List.set]
  refine wpV_nil (hLk _ (fun w22 Sw22 => ?_))
  clear hLk Lk
  simp only [List.take, List.drop]
  replace M := M.sees Sw22
  refine wpL_nil (no_panic ?_)
  refine hK20 _ _ ?_
  refine wp_cond_false rfl ?_
  refine wp_seq_k (fun K23 hK23 => ?_)
  refine wp_region_seq ?_
  refine wpL_move (v := .int .i64 0) (by rfl) (by rfl) (by rfl) ?_
  simp only [putT, List.set]
  refine wpL_chunk 5 (by rfl) (fun Lk hLk => ?_)
  simp only [List.take, List.drop]
  refine wpV_bin (v := .bool false) (by rfl) rfl rfl rfl (fun W => run_neq _ _ _ _ W) ?_
  simp only [putT, List.set]
  refine wpV_move (v := .bool false) (by rfl) rfl rfl ?_
  simp only [putT, List.set]
  refine wpV_move (v := .slice a10 ((pathS Ql i).length) c10) (by rfl) rfl rfl ?_
  simp only [putT, List.set]
  refine wpV_move (v := .slice (some ⟨g5, 0, none⟩) Ql.length g5c) (by rfl) rfl rfl ?_
  simp only [putT, List.set]
  refine wpV_move (v := .int .i64 ((i : Nat) : Int)) (by rfl) rfl rfl ?_
  simp only [putT, List.set]
  refine wpV_nil (hLk _ (fun w25 Sw25 => ?_))
  clear hLk Lk
  simp only [List.take, List.drop]
  replace M := M.sees Sw25
  refine wpL_guard (by rfl) ?_
  refine wpL_callE (f := 51) (args := #[.slice (some ⟨g5, 0, none⟩) Ql.length g5c, .int .i64 ((i : Nat) : Int)]) (R := fun v9 W9 => ∃ g27 g27c, v9 = .slice (some ⟨g27, 0, none⟩) ((pathS Ql i).length) g27c ∧ (pathS Ql i).length ≤ g27c ∧ Mem [] w25 W9 [⟨g27, g27c, [(0, scells (pathS Ql i))]⟩]) (by rfl) (by rfl) rfl Tryd.func51 (by kernel_rfl) (by kernel_rfl) (rPath_c _ (l := Ql) (i := i)  rfl h4 h32 hx (RowA.of (M.oldR Rg5_0 Lg5) (M.oldL Lg5) (scells_len _).symm Cg5)) (fun v9 w26 hv9 Sw26 => ?_)
  obtain ⟨g27, g27c, rfl, Cg27, M9⟩ := hv9
  replace M := M.call1 M9
  clear Sw26
  simp only [putT, List.set]
  refine wpL_chunk 3 (by rfl) (fun Lk hLk => ?_)
  simp only [List.take, List.drop]
  refine wpV_callf (v := .bool true) (args := #[.slice a10 ((pathS Ql i).length) c10, .slice (some ⟨g27, 0, none⟩) ((pathS Ql i).length) g27c]) (by rfl) rfl Tryd.func50 (by kernel_rfl) (by kernel_rfl) rfl (fun W hW => by have h9 : Calls Tryd.prog _ _ W _ := same_r (ps := pathS Ql i) (qs := pathS Ql i) (Nat.le_trans (pathS_le4 h4 hx) (by decide)) ((M.sees hW).oldA H10_0) (RowA.of ((M.sees hW).r 0 0 rfl rfl) ((M.sees hW).lt 0 rfl) (scells_len _).symm Cg27); rw [decide_eq_true rfl] at h9; exact h9) ?_
  simp only [putT, List.set]
  refine wpV_not (b := true) (by rfl) rfl rfl ?_
  simp only [Bool.not_true, Bool.not_false]
  simp only [putT, List.set]
  refine wpV_pick (v := .bool false) (by rfl) rfl rfl rfl ?_
  simp only [putT, List.set]
  refine wpV_nil (hLk _ (fun w28 Sw28 => ?_))
  clear hLk Lk
  simp only [List.take, List.drop]
  replace M := M.sees Sw28
  refine wpL_nil (no_panic ?_)
  refine hK23 _ _ ?_
  refine wp_cond_false rfl ?_
  refine wp_skip ?_
  refine hK19 _ _ ?_
  refine wp_seq_k (fun K29 hK29 => ?_)
  refine wp_seq_k (fun K30 hK30 => ?_)
  refine wp_region_seq ?_
  refine wpL_move (v := .int .i64 0) (by rfl) (by rfl) (by rfl) ?_
  simp only [putT, List.set]
  refine wpL_chunk 7 (by rfl) (fun Lk hLk => ?_)
  simp only [List.take, List.drop]
  refine wpV_bin (v := .bool false) (by rfl) rfl rfl rfl (fun W => run_lss _ _ _ _ W) ?_
  simp only [putT, List.set]
  refine wpV_move (v := .bool false) (by rfl) rfl rfl ?_
  simp only [putT, List.set]
  refine wpV_move (v := .int .i64 0) (by rfl) rfl rfl ?_
  simp only [putT, List.set]
  refine wpV_move (v := .slice (some ⟨g5, 0, none⟩) Ql.length g5c) (by rfl) rfl rfl ?_
  simp only [putT, List.set]
  refine wpV_lenA (n := Ql.length) (by rfl) rfl rfl rfl Tryd.underlying48 ?_
  simp only [putT, List.set]
  refine wpV_bin (v := .bool false) (by rfl) rfl rfl rfl (fun W => (run_gtrN 0 Ql.length _ _ W).trans (by rw [(decide_eq_false (Nat.not_lt_zero _))])) ?_
  simp only [putT, List.set]
  refine wpV_pick (v := .bool false) (by rfl) rfl rfl rfl ?_
  simp only [putT, List.set]
  refine wpV_nil (hLk _ (fun w32 Sw32 => ?_))
  clear hLk Lk
  simp only [List.take, List.drop]
  replace M := M.sees Sw32
  refine wpL_nil (no_panic ?_)
  refine hK30 _ _ ?_
  refine wp_cond_false rfl ?_
  refine wp_skip ?_
  refine hK29 _ _ ?_
  refine wp_seq_k (fun K33 hK33 => ?_)
  refine wp_seq_k (fun K34 hK34 => ?_)
  refine wp_region_seq ?_
  refine wpL_move (v := .int .i64 0) (by rfl) (by rfl) (by rfl) ?_
  simp only [putT, List.set]
  refine wpL_chunk 1 (by rfl) (fun Lk hLk => ?_)
  simp only [List.take, List.drop]
  refine wpV_bin (v := .bool true) (by rfl) rfl rfl rfl (fun W => run_eql _ _ _ _ W) ?_
  simp only [putT, List.set]
  refine wpV_nil (hLk _ (fun w36 Sw36 => ?_))
  clear hLk Lk
  simp only [List.take, List.drop]
  replace M := M.sees Sw36
  refine wpL_nil (no_panic ?_)
  refine hK34 _ _ ?_
  refine wp_cond_true rfl ?_
  refine wp_seq_k (fun K37 hK37 => ?_)
  refine wp_region_seq ?_
  refine wpL_chunk 10 (by rfl) (fun Lk hLk => ?_)
  simp only [List.take, List.drop]
  refine wpV_callf (v := .bool true) (args := #[]) (by rfl) rfl Tryd.func49 (by kernel_rfl) (by kernel_rfl) rfl (fun W hW => alive09_c ((M.sees hW).oldL L0) ((M.sees hW).oldR R0_0 L0)) ?_
  simp only [putT, List.set]
  refine wpV_move (v := .bool true) (by rfl) rfl rfl ?_
  simp only [putT, List.set]
  refine wpV_move (v := .int .i64 0) (by rfl) rfl rfl ?_
  simp only [putT, List.set]
  refine wpV_bin (v := .bool true) (by rfl) rfl rfl rfl (fun W => run_eql _ _ _ _ W) ?_
  simp only [putT, List.set]
  refine wpV_pick (v := .bool true) (by rfl) rfl rfl rfl ?_
  simp only [putT, List.set]
  refine wpV_move (v := .bool true) (by rfl) rfl rfl ?_
  simp only [putT, List.set]
  refine wpV_move (v := .slice none 0 0) (by rfl) rfl rfl ?_
  simp only [putT, List.set]
  refine wpV_lenA (n := 0) (by rfl) rfl rfl rfl Tryd.underlying48 ?_
  simp only [putT, List.set]
  refine wpV_bin (v := .bool true) (by rfl) rfl rfl rfl (fun W => run_eql _ _ _ _ W) ?_
  simp only [putT, List.set]
  refine wpV_pick (v := .bool true) (by rfl) rfl rfl rfl ?_
  simp only [putT, List.set]
  refine wpV_nil (hLk _ (fun w39 Sw39 => ?_))
  clear hLk Lk
  simp only [List.take, List.drop]
  replace M := M.sees Sw39
  refine wpL_assign (v := .bool true) (by rfl) (by rfl) (by rfl) ?_
  simp only [putT, List.set]
  refine wpL_nil (no_panic ?_)
  refine hK37 _ _ ?_
  refine wp_ret ?_
  repeat (first | with_reducible refine then_ret ?_ | with_reducible refine inblock_ret ?_)
  refine bodyPost_ret (v := .bool true) (res1 rfl (.tmp (by rfl))) rfl ?_
  have BE := M.below
  exact ⟨rfl, BB.trans (BE.mono BB.size)⟩
set_option maxRecDepth 100000 in
set_option maxHeartbeats 4000000 in
theorem makes_go_far {vls : Value} {ls Ql : List (List UInt8)} {i : Nat} {m : Nat} {w : World} (hQ : cutsS 50 40 ls = Ql) (hQL : Ql.length ≤ 50) (hri : rightB Ql = true) (h4 : Ql.length ≤ 4096) (h32 : ∀ s ∈ Ql, s.length = 32) (hx : i < Ql.length) (hy : Ql.length < m) (L0 : 0 < w.heap.size) (R0_0 : w.rangeAt 0 0 kcells) (hvls : RowS w vls ls) :
    Calls Tryd.prog 9 #[vls, .int .i64 ((i : Nat) : Int), .int .i64 ((m : Nat) : Int)] w fun e w' => e = .returned (.bool true) ∧ Below w.heap.size w w' := by
  go_enter Tryd.func9, Tryd.ntmps9
  have M := Mem.start w
  refine wp_seq_k (fun K1 hK1 => ?_)
  refine wp_region_seq ?_
  refine wpL_assign (v := .bool false) (by rfl) (by rfl) (by rfl) ?_
  simp only [putT, List.set]
  refine wpL_nil (no_panic ?_)
  refine hK1 _ _ ?_
  refine wp_seq_k (fun K3 hK3 => ?_)
  refine wp_region_seq ?_
  refine wpL_move (v := vls) (by rfl) (by rfl) (by rfl) ?_
  simp only [putT, List.set]
  refine wpL_callE (f := 46) (args := #[vls]) (R := MemRow w ((cutsS 50 40 ls).length) (scells (cutsS 50 40 ls))) (by rfl) (by rfl) rfl Tryd.func46 (by kernel_rfl) (by kernel_rfl) (few9_c (hvls.mem M)) (fun v9 w6 hv9 Sw6 => ?_)
  obtain ⟨g5, g5c, rfl, Cg5, M9⟩ := hv9
  replace M := M.call1 M9
  simp only [putT, List.set]
  refine wpL_assign (v := .slice (some ⟨g5, 0, none⟩) ((cutsS 50 40 ls).length) g5c) (by rfl) (by rfl) (by rfl) ?_
  simp only [putT, List.set]
  refine wpL_nil (no_panic ?_)
  simp only [hQ] at M
  simp only [hQ]
  rw [hQ] at Cg5
  refine hK3 _ _ ?_
  refine wp_seq_k (fun K7 hK7 => ?_)
  refine wp_region_seq ?_
  refine wpL_move (v := .slice (some ⟨g5, 0, none⟩) Ql.length g5c) (by rfl) (by rfl) (by rfl) ?_
  simp only [putT, List.set]
  refine wpL_move (v := .int .i64 ((i : Nat) : Int)) (by rfl) (by rfl) (by rfl) ?_
  simp only [putT, List.set]
  refine wpL_callE (f := 47) (args := #[.slice (some ⟨g5, 0, none⟩) Ql.length g5c, .int .i64 ((i : Nat) : Int)]) (R := fun v9 W9 => ∃ a10 c10, v9 = .tuple #[.slice a10 ((pathS Ql i).length) c10, .int .i64 0] ∧ RowA W9 a10 (pathS Ql i).length c10 (scells (pathS Ql i))) (by rfl) (by rfl) rfl Tryd.func47 (by kernel_rfl) (by kernel_rfl) (Path_n (l := Ql) (i0 := i) hri hx (M.oldL L0) (M.oldR R0_0 L0) (RowA.of (M.r 0 0 rfl rfl) (M.lt 0 rfl) (scells_len _).symm Cg5)) (fun v9 w9 hv9 Sw9 => ?_)
  obtain ⟨a10, c10, rfl, H10_0⟩ := hv9
  replace M := M.sees Sw9
  replace R0_0 := M.oldR R0_0 L0
  replace L0 := M.oldL L0
  have Rg5_0 := M.r 0 0 rfl rfl
  have Lg5 := M.lt 0 rfl
  have BB := M.below
  replace M := Mem.start w9
  simp only [putT, List.set]
  refine wpL_move (v := .tuple #[.slice a10 ((pathS Ql i).length) c10, .int .i64 0]) (by rfl) (by rfl) (by rfl) ?_
  simp only [putT, List.set]
  refine wpL_chunk 2 (by rfl) (fun Lk hLk => ?_)
  simp only [List.take, List.drop]
  refine wpV_extract (v := .slice a10 ((pathS Ql i).length) c10) (by rfl) rfl rfl rfl ?_
  simp only [putT, List.set]
  refine wpV_extract (v := .int .i64 0) (by rfl) rfl rfl rfl ?_
  simp only [putT, List.set]
  refine wpV_nil (hLk _ (fun w11 Sw11 => ?_))
  clear hLk Lk
  simp only [List.take, List.drop]
  replace M := M.sees Sw11
  refine wpL_assign (v := .slice a10 ((pathS Ql i).length) c10) (by rfl) (by rfl) (by rfl) ?_
  simp only [putT, List.set]
  refine wpL_assign (v := .int .i64 0) (by rfl) (by rfl) (by rfl) ?_
  simp only [putT, List.set]
  refine wpL_nil (no_panic ?_)
  refine hK7 _ _ ?_
  refine wp_seq_k (fun K12 hK12 => ?_)
  refine wp_region_seq ?_
  refine wpL_move (v := .slice (some ⟨g5, 0, none⟩) Ql.length g5c) (by rfl) (by rfl) (by rfl) ?_
  simp only [putT, List.set]
  refine wpL_move (v := .int .i64 ((m : Nat) : Int)) (by rfl) (by rfl) (by rfl) ?_
  simp only [putT, List.set]
  refine wpL_chunk 4 (by rfl) (fun Lk hLk => ?_)
  simp only [List.take, List.drop]
  refine wpV_callf (v := .tuple #[.slice none 0 0, .int .i64 1]) (args := #[.slice (some ⟨g5, 0, none⟩) Ql.length g5c, .int .i64 ((m : Nat) : Int)]) (by rfl) rfl Tryd.func48 (by kernel_rfl) (by kernel_rfl) rfl (fun W hW => by with_reducible exact Step_far (l := Ql) hri hy (RowA.of ((M.sees hW).oldR Rg5_0 Lg5) ((M.sees hW).oldL Lg5) (scells_len _).symm Cg5)) ?_
  simp only [putT, List.set]
  refine wpV_move (v := .tuple #[.slice none 0 0, .int .i64 1]) (by rfl) rfl rfl ?_
  simp only [putT, List.set]
  refine wpV_extract (v := .slice none 0 0) (by rfl) rfl rfl rfl ?_
  simp only [putT, List.set]
  refine wpV_extract (v := .int .i64 1) (by rfl) rfl rfl rfl ?_
  simp only [putT, List.set]
  refine wpV_nil (hLk _ (fun w14 Sw14 => ?_))
  clear hLk Lk
  simp only [List.take, List.drop]
  replace M := M.sees Sw14
  refine wpL_assign (v := .slice none 0 0) (by rfl) (by rfl) (by rfl) ?_
  simp only [putT, List.set]
  refine wpL_assign (v := .int .i64 1) (by rfl) (by rfl) (by rfl) ?_
  simp only [putT, List.set]
  refine wpL_nil (no_panic ?_)
  refine hK12 _ _ ?_
  refine wp_seq_k (fun K15 hK15 => ?_)
  refine wp_seq_k (fun K16 hK16 => ?_)
  refine wp_region_seq ?_
  refine wpL_move (v := .slice (some ⟨g5, 0, none⟩) Ql.length g5c) (by rfl) (by rfl) (by rfl) ?_
  simp only [putT, List.set]
  refine wpL_chunk 2 (by rfl) (fun Lk hLk => ?_)
  simp only [List.take, List.drop]
  refine wpV_callf (v := .bool true) (args := #[.slice (some ⟨g5, 0, none⟩) Ql.length g5c]) (by rfl) rfl Tryd.func43 (by kernel_rfl) (by kernel_rfl) rfl (fun W hW => by have h9 : Calls Tryd.prog _ _ W _ := rright_r (ps := Ql) (by omega) (RowA.of ((M.sees hW).oldR Rg5_0 Lg5) ((M.sees hW).oldL Lg5) (scells_len _).symm Cg5); rw [hri] at h9; exact h9) ?_
  simp only [putT, List.set]
  refine wpV_not (b := true) (by rfl) rfl rfl ?_
  simp only [Bool.not_true, Bool.not_false]
  simp only [putT, List.set]
  refine wpV_nil (hLk _ (fun w18 Sw18 => ?_))
  clear hLk Lk
  simp only [List.take, List.drop]
  replace M := M.sees Sw18
  refine wpL_nil (no_panic ?_)
  refine hK16 _ _ ?_
  refine wp_cond_false rfl ?_
  refine wp_skip ?_
  refine hK15 _ _ ?_
  refine wp_seq_k (fun K19 hK19 => ?_)
  refine wp_seq_k (fun K20 hK20 => ?_)
  refine wp_region_seq ?_
  refine wpL_move (v := .int .i64 ((i : Nat) : Int)) (by rfl) (by rfl) (by rfl) ?_
  simp only [putT, List.set]
  refine wpL_chunk 7 (by rfl) (fun Lk hLk => ?_)
  simp only [List.take, List.drop]
  refine wpV_bin (v := .bool false) (by rfl) rfl rfl rfl (fun W => (run_lssN i 0 _ _ W).trans (by rw [(decide_eq_false (Nat.not_lt_zero i))])) ?_
  simp only [putT, List.set]
  refine wpV_move (v := .bool false) (by rfl) rfl rfl ?_
  simp only [putT, List.set]
  refine wpV_move (v := .int .i64 ((i : Nat) : Int)) (by rfl) rfl rfl ?_
  simp only [putT, List.set]
  refine wpV_move (v := .slice (some ⟨g5, 0, none⟩) Ql.length g5c) (by rfl) rfl rfl ?_
  simp only [putT, List.set]
  refine wpV_lenA (n := Ql.length) (by rfl) rfl rfl rfl Tryd.underlying48 ?_
  simp only [putT, List.set]
  refine wpV_bin (v := .bool false) (by rfl) rfl rfl rfl (fun W => (run_geqN i Ql.length _ _ W).trans (by rw [(decide_eq_false (Nat.not_le.2 hx))])) ?_
  simp only [putT, List.set]
  refine wpV_pick (v := .bool false) (by rfl) rfl rfl rfl ?_
  simp only [putT, List.set]
  refine wpV_nil (hLk _ (fun w22 Sw22 => ?_))
  clear hLk Lk
  simp only [List.take, List.drop]
  replace M := M.sees Sw22
  refine wpL_nil (no_panic ?_)
  refine hK20 _ _ ?_
  refine wp_cond_false rfl ?_
  refine wp_seq_k (fun K23 hK23 => ?_)
  refine wp_region_seq ?_
  refine wpL_move (v := .int .i64 0) (by rfl) (by rfl) (by rfl) ?_
  simp only [putT, List.set]
  refine wpL_chunk 5 (by rfl) (fun Lk hLk => ?_)
  simp only [List.take, List.drop]
  refine wpV_bin (v := .bool false) (by rfl) rfl rfl rfl (fun W => run_neq _ _ _ _ W) ?_
  simp only [putT, List.set]
  refine wpV_move (v := .bool false) (by rfl) rfl rfl ?_
  simp only [putT, List.set]
  refine wpV_move (v := .slice a10 ((pathS Ql i).length) c10) (by rfl) rfl rfl ?_
  simp only [putT, List.set]
  refine wpV_move (v := .slice (some ⟨g5, 0, none⟩) Ql.length g5c) (by rfl) rfl rfl ?_
  simp only [putT, List.set]
  refine wpV_move (v := .int .i64 ((i : Nat) : Int)) (by rfl) rfl rfl ?_
  simp only [putT, List.set]
  refine wpV_nil (hLk _ (fun w25 Sw25 => ?_))
  clear hLk Lk
  simp only [List.take, List.drop]
  replace M := M.sees Sw25
  refine wpL_guard (by rfl) ?_
  refine wpL_callE (f := 51) (args := #[.slice (some ⟨g5, 0, none⟩) Ql.length g5c, .int .i64 ((i : Nat) : Int)]) (R := fun v9 W9 => ∃ g27 g27c, v9 = .slice (some ⟨g27, 0, none⟩) ((pathS Ql i).length) g27c ∧ (pathS Ql i).length ≤ g27c ∧ Mem [] w25 W9 [⟨g27, g27c, [(0, scells (pathS Ql i))]⟩]) (by rfl) (by rfl) rfl Tryd.func51 (by kernel_rfl) (by kernel_rfl) (rPath_c _ (l := Ql) (i := i)  rfl h4 h32 hx (RowA.of (M.oldR Rg5_0 Lg5) (M.oldL Lg5) (scells_len _).symm Cg5)) (fun v9 w26 hv9 Sw26 => ?_)
  obtain ⟨g27, g27c, rfl, Cg27, M9⟩ := hv9
  replace M := M.call1 M9
  clear Sw26
  simp only [putT, List.set]
  refine wpL_chunk 3 (by rfl) (fun Lk hLk => ?_)
  simp only [List.take, List.drop]
  refine wpV_callf (v := .bool true) (args := #[.slice a10 ((pathS Ql i).length) c10, .slice (some ⟨g27, 0, none⟩) ((pathS Ql i).length) g27c]) (by rfl) rfl Tryd.func50 (by kernel_rfl) (by kernel_rfl) rfl (fun W hW => by have h9 : Calls Tryd.prog _ _ W _ := same_r (ps := pathS Ql i) (qs := pathS Ql i) (Nat.le_trans (pathS_le4 h4 hx) (by decide)) ((M.sees hW).oldA H10_0) (RowA.of ((M.sees hW).r 0 0 rfl rfl) ((M.sees hW).lt 0 rfl) (scells_len _).symm Cg27); rw [decide_eq_true rfl] at h9; exact h9) ?_
  simp only [putT, List.set]
  refine wpV_not (b := true) (by rfl) rfl rfl ?_
  simp only [Bool.not_true, Bool.not_false]
  simp only [putT, List.set]
  refine wpV_pick (v := .bool false) (by rfl) rfl rfl rfl ?_
  simp only [putT, List.set]
  refine wpV_nil (hLk _ (fun w28 Sw28 => ?_))
  clear hLk Lk
  simp only [List.take, List.drop]
  replace M := M.sees Sw28
  refine wpL_nil (no_panic ?_)
  refine hK23 _ _ ?_
  refine wp_cond_false rfl ?_
  refine wp_skip ?_
  refine hK19 _ _ ?_
  refine wp_seq_k (fun K29 hK29 => ?_)
  refine wp_seq_k (fun K30 hK30 => ?_)
  refine wp_region_seq ?_
  refine wpL_move (v := .int .i64 ((m : Nat) : Int)) (by rfl) (by rfl) (by rfl) ?_
  simp only [putT, List.set]
  refine wpL_chunk 7 (by rfl) (fun Lk hLk => ?_)
  simp only [List.take, List.drop]
  refine wpV_bin (v := .bool false) (by rfl) rfl rfl rfl (fun W => (run_lssN m 0 _ _ W).trans (by rw [(decide_eq_false (Nat.not_lt_zero m))])) ?_
  simp only [putT, List.set]
  refine wpV_move (v := .bool false) (by rfl) rfl rfl ?_
  simp only [putT, List.set]
  refine wpV_move (v := .int .i64 ((m : Nat) : Int)) (by rfl) rfl rfl ?_
  simp only [putT, List.set]
  refine wpV_move (v := .slice (some ⟨g5, 0, none⟩) Ql.length g5c) (by rfl) rfl rfl ?_
  simp only [putT, List.set]
  refine wpV_lenA (n := Ql.length) (by rfl) rfl rfl rfl Tryd.underlying48 ?_
  simp only [putT, List.set]
  refine wpV_bin (v := .bool true) (by rfl) rfl rfl rfl (fun W => (run_gtrN m Ql.length _ _ W).trans (by rw [(decide_eq_true hy)])) ?_
  simp only [putT, List.set]
  refine wpV_pick (v := .bool true) (by rfl) rfl rfl rfl ?_
  simp only [putT, List.set]
  refine wpV_nil (hLk _ (fun w32 Sw32 => ?_))
  clear hLk Lk
  simp only [List.take, List.drop]
  replace M := M.sees Sw32
  refine wpL_nil (no_panic ?_)
  refine hK30 _ _ ?_
  refine wp_cond_true rfl ?_
  refine wp_seq_k (fun K33 hK33 => ?_)
  refine wp_region_seq ?_
  refine wpL_chunk 10 (by rfl) (fun Lk hLk => ?_)
  simp only [List.take, List.drop]
  refine wpV_callf (v := .bool true) (args := #[]) (by rfl) rfl Tryd.func49 (by kernel_rfl) (by kernel_rfl) rfl (fun W hW => alive09_c ((M.sees hW).oldL L0) ((M.sees hW).oldR R0_0 L0)) ?_
  simp only [putT, List.set]
  refine wpV_move (v := .bool true) (by rfl) rfl rfl ?_
  simp only [putT, List.set]
  refine wpV_move (v := .int .i64 1) (by rfl) rfl rfl ?_
  simp only [putT, List.set]
  refine wpV_bin (v := .bool true) (by rfl) rfl rfl rfl (fun W => run_eql _ _ _ _ W) ?_
  simp only [putT, List.set]
  refine wpV_pick (v := .bool true) (by rfl) rfl rfl rfl ?_
  simp only [putT, List.set]
  refine wpV_move (v := .bool true) (by rfl) rfl rfl ?_
  simp only [putT, List.set]
  refine wpV_move (v := .slice none 0 0) (by rfl) rfl rfl ?_
  simp only [putT, List.set]
  refine wpV_lenA (n := 0) (by rfl) rfl rfl rfl Tryd.underlying48 ?_
  simp only [putT, List.set]
  refine wpV_bin (v := .bool true) (by rfl) rfl rfl rfl (fun W => run_eql _ _ _ _ W) ?_
  simp only [putT, List.set]
  refine wpV_pick (v := .bool true) (by rfl) rfl rfl rfl ?_
  simp only [putT, List.set]
  refine wpV_nil (hLk _ (fun w35 Sw35 => ?_))
  clear hLk Lk
  simp only [List.take, List.drop]
  replace M := M.sees Sw35
  refine wpL_assign (v := .bool true) (by rfl) (by rfl) (by rfl) ?_
  simp only [putT, List.set]
  refine wpL_nil (no_panic ?_)
  refine hK33 _ _ ?_
  refine wp_ret ?_
  repeat (first | with_reducible refine then_ret ?_ | with_reducible refine inblock_ret ?_)
  refine bodyPost_ret (v := .bool true) (res1 rfl (.tmp (by rfl))) rfl ?_
  have BE := M.below
  exact ⟨rfl, BB.trans (BE.mono BB.size)⟩
set_option maxRecDepth 100000 in
set_option maxHeartbeats 4000000 in
theorem makes_go_all {vls : Value} {ls Ql : List (List UInt8)} {i : Nat} {m : Nat} {w : World} (hQ : cutsS 50 40 ls = Ql) (hQL : Ql.length ≤ 50) (hri : rightB Ql = true) (h4 : Ql.length ≤ 4096) (h32 : ∀ s ∈ Ql, s.length = 32) (hx : i < Ql.length) (hm1 : 1 ≤ m) (hy : m = Ql.length) (L0 : 0 < w.heap.size) (R0_0 : w.rangeAt 0 0 kcells) (hvls : RowS w vls ls) :
    Calls Tryd.prog 9 #[vls, .int .i64 ((i : Nat) : Int), .int .i64 ((m : Nat) : Int)] w fun e w' => e = .returned (.bool true) ∧ Below w.heap.size w w' := by
  go_enter Tryd.func9, Tryd.ntmps9
  have M := Mem.start w
  refine wp_seq_k (fun K1 hK1 => ?_)
  refine wp_region_seq ?_
  refine wpL_assign (v := .bool false) (by rfl) (by rfl) (by rfl) ?_
  simp only [putT, List.set]
  refine wpL_nil (no_panic ?_)
  refine hK1 _ _ ?_
  refine wp_seq_k (fun K3 hK3 => ?_)
  refine wp_region_seq ?_
  refine wpL_move (v := vls) (by rfl) (by rfl) (by rfl) ?_
  simp only [putT, List.set]
  refine wpL_callE (f := 46) (args := #[vls]) (R := MemRow w ((cutsS 50 40 ls).length) (scells (cutsS 50 40 ls))) (by rfl) (by rfl) rfl Tryd.func46 (by kernel_rfl) (by kernel_rfl) (few9_c (hvls.mem M)) (fun v9 w6 hv9 Sw6 => ?_)
  obtain ⟨g5, g5c, rfl, Cg5, M9⟩ := hv9
  replace M := M.call1 M9
  simp only [putT, List.set]
  refine wpL_assign (v := .slice (some ⟨g5, 0, none⟩) ((cutsS 50 40 ls).length) g5c) (by rfl) (by rfl) (by rfl) ?_
  simp only [putT, List.set]
  refine wpL_nil (no_panic ?_)
  simp only [hQ] at M
  simp only [hQ]
  rw [hQ] at Cg5
  refine hK3 _ _ ?_
  refine wp_seq_k (fun K7 hK7 => ?_)
  refine wp_region_seq ?_
  refine wpL_move (v := .slice (some ⟨g5, 0, none⟩) Ql.length g5c) (by rfl) (by rfl) (by rfl) ?_
  simp only [putT, List.set]
  refine wpL_move (v := .int .i64 ((i : Nat) : Int)) (by rfl) (by rfl) (by rfl) ?_
  simp only [putT, List.set]
  refine wpL_callE (f := 47) (args := #[.slice (some ⟨g5, 0, none⟩) Ql.length g5c, .int .i64 ((i : Nat) : Int)]) (R := fun v9 W9 => ∃ a10 c10, v9 = .tuple #[.slice a10 ((pathS Ql i).length) c10, .int .i64 0] ∧ RowA W9 a10 (pathS Ql i).length c10 (scells (pathS Ql i))) (by rfl) (by rfl) rfl Tryd.func47 (by kernel_rfl) (by kernel_rfl) (Path_n (l := Ql) (i0 := i) hri hx (M.oldL L0) (M.oldR R0_0 L0) (RowA.of (M.r 0 0 rfl rfl) (M.lt 0 rfl) (scells_len _).symm Cg5)) (fun v9 w9 hv9 Sw9 => ?_)
  obtain ⟨a10, c10, rfl, H10_0⟩ := hv9
  replace M := M.sees Sw9
  replace R0_0 := M.oldR R0_0 L0
  replace L0 := M.oldL L0
  have Rg5_0 := M.r 0 0 rfl rfl
  have Lg5 := M.lt 0 rfl
  have BB := M.below
  replace M := Mem.start w9
  simp only [putT, List.set]
  refine wpL_move (v := .tuple #[.slice a10 ((pathS Ql i).length) c10, .int .i64 0]) (by rfl) (by rfl) (by rfl) ?_
  simp only [putT, List.set]
  refine wpL_chunk 2 (by rfl) (fun Lk hLk => ?_)
  simp only [List.take, List.drop]
  refine wpV_extract (v := .slice a10 ((pathS Ql i).length) c10) (by rfl) rfl rfl rfl ?_
  simp only [putT, List.set]
  refine wpV_extract (v := .int .i64 0) (by rfl) rfl rfl rfl ?_
  simp only [putT, List.set]
  refine wpV_nil (hLk _ (fun w11 Sw11 => ?_))
  clear hLk Lk
  simp only [List.take, List.drop]
  replace M := M.sees Sw11
  refine wpL_assign (v := .slice a10 ((pathS Ql i).length) c10) (by rfl) (by rfl) (by rfl) ?_
  simp only [putT, List.set]
  refine wpL_assign (v := .int .i64 0) (by rfl) (by rfl) (by rfl) ?_
  simp only [putT, List.set]
  refine wpL_nil (no_panic ?_)
  refine hK7 _ _ ?_
  refine wp_seq_k (fun K12 hK12 => ?_)
  refine wp_region_seq ?_
  refine wpL_move (v := .slice (some ⟨g5, 0, none⟩) Ql.length g5c) (by rfl) (by rfl) (by rfl) ?_
  simp only [putT, List.set]
  refine wpL_move (v := .int .i64 ((m : Nat) : Int)) (by rfl) (by rfl) (by rfl) ?_
  simp only [putT, List.set]
  refine wpL_chunk 4 (by rfl) (fun Lk hLk => ?_)
  simp only [List.take, List.drop]
  refine wpV_callf (v := .tuple #[.slice none 0 0, .int .i64 0]) (args := #[.slice (some ⟨g5, 0, none⟩) Ql.length g5c, .int .i64 ((m : Nat) : Int)]) (by rfl) rfl Tryd.func48 (by kernel_rfl) (by kernel_rfl) rfl (fun W hW => by with_reducible exact Step_full (l := Ql) hri hy (RowA.of ((M.sees hW).oldR Rg5_0 Lg5) ((M.sees hW).oldL Lg5) (scells_len _).symm Cg5)) ?_
  simp only [putT, List.set]
  refine wpV_move (v := .tuple #[.slice none 0 0, .int .i64 0]) (by rfl) rfl rfl ?_
  simp only [putT, List.set]
  refine wpV_extract (v := .slice none 0 0) (by rfl) rfl rfl rfl ?_
  simp only [putT, List.set]
  refine wpV_extract (v := .int .i64 0) (by rfl) rfl rfl rfl ?_
  simp only [putT, List.set]
  refine wpV_nil (hLk _ (fun w14 Sw14 => ?_))
  clear hLk Lk
  simp only [List.take, List.drop]
  replace M := M.sees Sw14
  refine wpL_assign (v := .slice none 0 0) (by rfl) (by rfl) (by rfl) ?_
  simp only [putT, List.set]
  refine wpL_assign (v := .int .i64 0) (by rfl) (by rfl) (by rfl) ?_
  simp only [putT, List.set]
  refine wpL_nil (no_panic ?_)
  refine hK12 _ _ ?_
  refine wp_seq_k (fun K15 hK15 => ?_)
  refine wp_seq_k (fun K16 hK16 => ?_)
  refine wp_region_seq ?_
  refine wpL_move (v := .slice (some ⟨g5, 0, none⟩) Ql.length g5c) (by rfl) (by rfl) (by rfl) ?_
  simp only [putT, List.set]
  refine wpL_chunk 2 (by rfl) (fun Lk hLk => ?_)
  simp only [List.take, List.drop]
  refine wpV_callf (v := .bool true) (args := #[.slice (some ⟨g5, 0, none⟩) Ql.length g5c]) (by rfl) rfl Tryd.func43 (by kernel_rfl) (by kernel_rfl) rfl (fun W hW => by have h9 : Calls Tryd.prog _ _ W _ := rright_r (ps := Ql) (by omega) (RowA.of ((M.sees hW).oldR Rg5_0 Lg5) ((M.sees hW).oldL Lg5) (scells_len _).symm Cg5); rw [hri] at h9; exact h9) ?_
  simp only [putT, List.set]
  refine wpV_not (b := true) (by rfl) rfl rfl ?_
  simp only [Bool.not_true, Bool.not_false]
  simp only [putT, List.set]
  refine wpV_nil (hLk _ (fun w18 Sw18 => ?_))
  clear hLk Lk
  simp only [List.take, List.drop]
  replace M := M.sees Sw18
  refine wpL_nil (no_panic ?_)
  refine hK16 _ _ ?_
  refine wp_cond_false rfl ?_
  refine wp_skip ?_
  refine hK15 _ _ ?_
  refine wp_seq_k (fun K19 hK19 => ?_)
  refine wp_seq_k (fun K20 hK20 => ?_)
  refine wp_region_seq ?_
  refine wpL_move (v := .int .i64 ((i : Nat) : Int)) (by rfl) (by rfl) (by rfl) ?_
  simp only [putT, List.set]
  refine wpL_chunk 7 (by rfl) (fun Lk hLk => ?_)
  simp only [List.take, List.drop]
  refine wpV_bin (v := .bool false) (by rfl) rfl rfl rfl (fun W => (run_lssN i 0 _ _ W).trans (by rw [(decide_eq_false (Nat.not_lt_zero i))])) ?_
  simp only [putT, List.set]
  refine wpV_move (v := .bool false) (by rfl) rfl rfl ?_
  simp only [putT, List.set]
  refine wpV_move (v := .int .i64 ((i : Nat) : Int)) (by rfl) rfl rfl ?_
  simp only [putT, List.set]
  refine wpV_move (v := .slice (some ⟨g5, 0, none⟩) Ql.length g5c) (by rfl) rfl rfl ?_
  simp only [putT, List.set]
  refine wpV_lenA (n := Ql.length) (by rfl) rfl rfl rfl Tryd.underlying48 ?_
  simp only [putT, List.set]
  refine wpV_bin (v := .bool false) (by rfl) rfl rfl rfl (fun W => (run_geqN i Ql.length _ _ W).trans (by rw [(decide_eq_false (Nat.not_le.2 hx))])) ?_
  simp only [putT, List.set]
  refine wpV_pick (v := .bool false) (by rfl) rfl rfl rfl ?_
  simp only [putT, List.set]
  refine wpV_nil (hLk _ (fun w22 Sw22 => ?_))
  clear hLk Lk
  simp only [List.take, List.drop]
  replace M := M.sees Sw22
  refine wpL_nil (no_panic ?_)
  refine hK20 _ _ ?_
  refine wp_cond_false rfl ?_
  refine wp_seq_k (fun K23 hK23 => ?_)
  refine wp_region_seq ?_
  refine wpL_move (v := .int .i64 0) (by rfl) (by rfl) (by rfl) ?_
  simp only [putT, List.set]
  refine wpL_chunk 5 (by rfl) (fun Lk hLk => ?_)
  simp only [List.take, List.drop]
  refine wpV_bin (v := .bool false) (by rfl) rfl rfl rfl (fun W => run_neq _ _ _ _ W) ?_
  simp only [putT, List.set]
  refine wpV_move (v := .bool false) (by rfl) rfl rfl ?_
  simp only [putT, List.set]
  refine wpV_move (v := .slice a10 ((pathS Ql i).length) c10) (by rfl) rfl rfl ?_
  simp only [putT, List.set]
  refine wpV_move (v := .slice (some ⟨g5, 0, none⟩) Ql.length g5c) (by rfl) rfl rfl ?_
  simp only [putT, List.set]
  refine wpV_move (v := .int .i64 ((i : Nat) : Int)) (by rfl) rfl rfl ?_
  simp only [putT, List.set]
  refine wpV_nil (hLk _ (fun w25 Sw25 => ?_))
  clear hLk Lk
  simp only [List.take, List.drop]
  replace M := M.sees Sw25
  refine wpL_guard (by rfl) ?_
  refine wpL_callE (f := 51) (args := #[.slice (some ⟨g5, 0, none⟩) Ql.length g5c, .int .i64 ((i : Nat) : Int)]) (R := fun v9 W9 => ∃ g27 g27c, v9 = .slice (some ⟨g27, 0, none⟩) ((pathS Ql i).length) g27c ∧ (pathS Ql i).length ≤ g27c ∧ Mem [] w25 W9 [⟨g27, g27c, [(0, scells (pathS Ql i))]⟩]) (by rfl) (by rfl) rfl Tryd.func51 (by kernel_rfl) (by kernel_rfl) (rPath_c _ (l := Ql) (i := i)  rfl h4 h32 hx (RowA.of (M.oldR Rg5_0 Lg5) (M.oldL Lg5) (scells_len _).symm Cg5)) (fun v9 w26 hv9 Sw26 => ?_)
  obtain ⟨g27, g27c, rfl, Cg27, M9⟩ := hv9
  replace M := M.call1 M9
  clear Sw26
  simp only [putT, List.set]
  refine wpL_chunk 3 (by rfl) (fun Lk hLk => ?_)
  simp only [List.take, List.drop]
  refine wpV_callf (v := .bool true) (args := #[.slice a10 ((pathS Ql i).length) c10, .slice (some ⟨g27, 0, none⟩) ((pathS Ql i).length) g27c]) (by rfl) rfl Tryd.func50 (by kernel_rfl) (by kernel_rfl) rfl (fun W hW => by have h9 : Calls Tryd.prog _ _ W _ := same_r (ps := pathS Ql i) (qs := pathS Ql i) (Nat.le_trans (pathS_le4 h4 hx) (by decide)) ((M.sees hW).oldA H10_0) (RowA.of ((M.sees hW).r 0 0 rfl rfl) ((M.sees hW).lt 0 rfl) (scells_len _).symm Cg27); rw [decide_eq_true rfl] at h9; exact h9) ?_
  simp only [putT, List.set]
  refine wpV_not (b := true) (by rfl) rfl rfl ?_
  simp only [Bool.not_true, Bool.not_false]
  simp only [putT, List.set]
  refine wpV_pick (v := .bool false) (by rfl) rfl rfl rfl ?_
  simp only [putT, List.set]
  refine wpV_nil (hLk _ (fun w28 Sw28 => ?_))
  clear hLk Lk
  simp only [List.take, List.drop]
  replace M := M.sees Sw28
  refine wpL_nil (no_panic ?_)
  refine hK23 _ _ ?_
  refine wp_cond_false rfl ?_
  refine wp_skip ?_
  refine hK19 _ _ ?_
  refine wp_seq_k (fun K29 hK29 => ?_)
  refine wp_seq_k (fun K30 hK30 => ?_)
  refine wp_region_seq ?_
  refine wpL_move (v := .int .i64 ((m : Nat) : Int)) (by rfl) (by rfl) (by rfl) ?_
  simp only [putT, List.set]
  refine wpL_chunk 7 (by rfl) (fun Lk hLk => ?_)
  simp only [List.take, List.drop]
  refine wpV_bin (v := .bool false) (by rfl) rfl rfl rfl (fun W => (run_lssN m 0 _ _ W).trans (by rw [(decide_eq_false (Nat.not_lt_zero m))])) ?_
  simp only [putT, List.set]
  refine wpV_move (v := .bool false) (by rfl) rfl rfl ?_
  simp only [putT, List.set]
  refine wpV_move (v := .int .i64 ((m : Nat) : Int)) (by rfl) rfl rfl ?_
  simp only [putT, List.set]
  refine wpV_move (v := .slice (some ⟨g5, 0, none⟩) Ql.length g5c) (by rfl) rfl rfl ?_
  simp only [putT, List.set]
  refine wpV_lenA (n := Ql.length) (by rfl) rfl rfl rfl Tryd.underlying48 ?_
  simp only [putT, List.set]
  refine wpV_bin (v := .bool false) (by rfl) rfl rfl rfl (fun W => (run_gtrN m Ql.length _ _ W).trans (by rw [(decide_eq_false (by omega))])) ?_
  simp only [putT, List.set]
  refine wpV_pick (v := .bool false) (by rfl) rfl rfl rfl ?_
  simp only [putT, List.set]
  refine wpV_nil (hLk _ (fun w32 Sw32 => ?_))
  clear hLk Lk
  simp only [List.take, List.drop]
  replace M := M.sees Sw32
  refine wpL_nil (no_panic ?_)
  refine hK30 _ _ ?_
  refine wp_cond_false rfl ?_
  refine wp_skip ?_
  refine hK29 _ _ ?_
  refine wp_seq_k (fun K33 hK33 => ?_)
  refine wp_seq_k (fun K34 hK34 => ?_)
  refine wp_region_seq ?_
  refine wpL_move (v := .int .i64 ((m : Nat) : Int)) (by rfl) (by rfl) (by rfl) ?_
  simp only [putT, List.set]
  refine wpL_chunk 1 (by rfl) (fun Lk hLk => ?_)
  simp only [List.take, List.drop]
  refine wpV_bin (v := .bool false) (by rfl) rfl rfl rfl (fun W => (run_eqlN m 0 _ _ W).trans (by rw [(decide_eq_false (by omega))])) ?_
  simp only [putT, List.set]
  refine wpV_nil (hLk _ (fun w36 Sw36 => ?_))
  clear hLk Lk
  simp only [List.take, List.drop]
  replace M := M.sees Sw36
  refine wpL_nil (no_panic ?_)
  refine hK34 _ _ ?_
  refine wp_cond_false rfl ?_
  refine wp_skip ?_
  refine hK33 _ _ ?_
  refine wp_seq_k (fun K37 hK37 => ?_)
  refine wp_region_seq ?_
  refine wpL_chunk 9 (by rfl) (fun Lk hLk => ?_)
  simp only [List.take, List.drop]
  refine wpV_callf (v := .bool true) (args := #[]) (by rfl) rfl Tryd.func49 (by kernel_rfl) (by kernel_rfl) rfl (fun W hW => alive09_c ((M.sees hW).oldL L0) ((M.sees hW).oldR R0_0 L0)) ?_
  simp only [putT, List.set]
  refine wpV_move (v := .bool true) (by rfl) rfl rfl ?_
  simp only [putT, List.set]
  refine wpV_move (v := .int .i64 0) (by rfl) rfl rfl ?_
  simp only [putT, List.set]
  refine wpV_bin (v := .bool true) (by rfl) rfl rfl rfl (fun W => run_eql _ _ _ _ W) ?_
  simp only [putT, List.set]
  refine wpV_pick (v := .bool true) (by rfl) rfl rfl rfl ?_
  simp only [putT, List.set]
  refine wpV_move (v := .bool true) (by rfl) rfl rfl ?_
  simp only [putT, List.set]
  refine wpV_move (v := .slice none 0 0) (by rfl) rfl rfl ?_
  simp only [putT, List.set]
  refine wpV_move (v := .slice (some ⟨g5, 0, none⟩) Ql.length g5c) (by rfl) rfl rfl ?_
  simp only [putT, List.set]
  refine wpV_move (v := .int .i64 ((m : Nat) : Int)) (by rfl) rfl rfl ?_
  simp only [putT, List.set]
  refine wpV_nil (hLk _ (fun w39 Sw39 => ?_))
  clear hLk Lk
  simp only [List.take, List.drop]
  replace M := M.sees Sw39
  refine wpL_guard (by rfl) ?_
  refine wpL_callE (f := 52) (args := #[.slice (some ⟨g5, 0, none⟩) Ql.length g5c, .int .i64 ((m : Nat) : Int), .bool true]) (R := fun v9 W9 => ∃ g41 g41c, v9 = .slice (some ⟨g41, 0, none⟩) ((stepS Ql m true).length) g41c ∧ (stepS Ql m true).length ≤ g41c ∧ Mem [] w39 W9 [⟨g41, g41c, [(0, scells (stepS Ql m true))]⟩]) (by rfl) (by rfl) rfl Tryd.func52 (by kernel_rfl) (by kernel_rfl) (rStep_c _ (l := Ql) (i := m) (wh := true) rfl h4 h32 hm1 (by omega) (RowA.of (M.oldR Rg5_0 Lg5) (M.oldL Lg5) (scells_len _).symm Cg5)) (fun v9 w40 hv9 Sw40 => ?_)
  obtain ⟨g41, g41c, rfl, Cg41, M9⟩ := hv9
  replace M := M.call1 M9
  clear Sw40
  simp only [putT, List.set]
  refine wpL_chunk 2 (by rfl) (fun Lk hLk => ?_)
  simp only [List.take, List.drop]
  refine wpV_callf (v := .bool true) (args := #[.slice none 0 0, .slice (some ⟨g41, 0, none⟩) ((stepS Ql m true).length) g41c]) (by rfl) rfl Tryd.func50 (by kernel_rfl) (by kernel_rfl) rfl (fun W hW => by have h9 : Calls Tryd.prog _ _ W _ := same_r (ps := []) (qs := stepS Ql m true) (by decide) RowA.nil (RowA.of ((M.sees hW).r 0 0 rfl rfl) ((M.sees hW).lt 0 rfl) (scells_len _).symm Cg41); rw [decide_eq_true (by rw [stepS_all (by omega)]; rfl)] at h9; exact h9) ?_
  simp only [putT, List.set]
  refine wpV_pick (v := .bool true) (by rfl) rfl rfl rfl ?_
  simp only [putT, List.set]
  refine wpV_nil (hLk _ (fun w42 Sw42 => ?_))
  clear hLk Lk
  simp only [List.take, List.drop]
  replace M := M.sees Sw42
  refine wpL_assign (v := .bool true) (by rfl) (by rfl) (by rfl) ?_
  simp only [putT, List.set]
  refine wpL_nil (no_panic ?_)
  refine hK37 _ _ ?_
  refine wp_ret ?_
  repeat (first | with_reducible refine then_ret ?_ | with_reducible refine inblock_ret ?_)
  refine bodyPost_ret (v := .bool true) (res1 rfl (.tmp (by rfl))) rfl ?_
  have BE := M.below
  exact ⟨rfl, BB.trans (BE.mono BB.size)⟩
set_option maxRecDepth 100000 in
set_option maxHeartbeats 4000000 in
theorem makes_go_go {vls : Value} {ls Ql : List (List UInt8)} {i : Nat} {m : Nat} {w : World} (hQ : cutsS 50 40 ls = Ql) (hQL : Ql.length ≤ 50) (hri : rightB Ql = true) (h4 : Ql.length ≤ 4096) (h32 : ∀ s ∈ Ql, s.length = 32) (hx : i < Ql.length) (hm1 : 1 ≤ m) (hy : m < Ql.length) (L0 : 0 < w.heap.size) (R0_0 : w.rangeAt 0 0 kcells) (hvls : RowS w vls ls) :
    Calls Tryd.prog 9 #[vls, .int .i64 ((i : Nat) : Int), .int .i64 ((m : Nat) : Int)] w fun e w' => e = .returned (.bool true) ∧ Below w.heap.size w w' := by
  go_enter Tryd.func9, Tryd.ntmps9
  have M := Mem.start w
  refine wp_seq_k (fun K1 hK1 => ?_)
  refine wp_region_seq ?_
  refine wpL_assign (v := .bool false) (by rfl) (by rfl) (by rfl) ?_
  simp only [putT, List.set]
  refine wpL_nil (no_panic ?_)
  refine hK1 _ _ ?_
  refine wp_seq_k (fun K3 hK3 => ?_)
  refine wp_region_seq ?_
  refine wpL_move (v := vls) (by rfl) (by rfl) (by rfl) ?_
  simp only [putT, List.set]
  refine wpL_callE (f := 46) (args := #[vls]) (R := MemRow w ((cutsS 50 40 ls).length) (scells (cutsS 50 40 ls))) (by rfl) (by rfl) rfl Tryd.func46 (by kernel_rfl) (by kernel_rfl) (few9_c (hvls.mem M)) (fun v9 w6 hv9 Sw6 => ?_)
  obtain ⟨g5, g5c, rfl, Cg5, M9⟩ := hv9
  replace M := M.call1 M9
  simp only [putT, List.set]
  refine wpL_assign (v := .slice (some ⟨g5, 0, none⟩) ((cutsS 50 40 ls).length) g5c) (by rfl) (by rfl) (by rfl) ?_
  simp only [putT, List.set]
  refine wpL_nil (no_panic ?_)
  simp only [hQ] at M
  simp only [hQ]
  rw [hQ] at Cg5
  refine hK3 _ _ ?_
  refine wp_seq_k (fun K7 hK7 => ?_)
  refine wp_region_seq ?_
  refine wpL_move (v := .slice (some ⟨g5, 0, none⟩) Ql.length g5c) (by rfl) (by rfl) (by rfl) ?_
  simp only [putT, List.set]
  refine wpL_move (v := .int .i64 ((i : Nat) : Int)) (by rfl) (by rfl) (by rfl) ?_
  simp only [putT, List.set]
  refine wpL_callE (f := 47) (args := #[.slice (some ⟨g5, 0, none⟩) Ql.length g5c, .int .i64 ((i : Nat) : Int)]) (R := fun v9 W9 => ∃ a10 c10, v9 = .tuple #[.slice a10 ((pathS Ql i).length) c10, .int .i64 0] ∧ RowA W9 a10 (pathS Ql i).length c10 (scells (pathS Ql i))) (by rfl) (by rfl) rfl Tryd.func47 (by kernel_rfl) (by kernel_rfl) (Path_n (l := Ql) (i0 := i) hri hx (M.oldL L0) (M.oldR R0_0 L0) (RowA.of (M.r 0 0 rfl rfl) (M.lt 0 rfl) (scells_len _).symm Cg5)) (fun v9 w9 hv9 Sw9 => ?_)
  obtain ⟨a10, c10, rfl, H10_0⟩ := hv9
  replace M := M.sees Sw9
  replace R0_0 := M.oldR R0_0 L0
  replace L0 := M.oldL L0
  have Rg5_0 := M.r 0 0 rfl rfl
  have Lg5 := M.lt 0 rfl
  have BB := M.below
  replace M := Mem.start w9
  simp only [putT, List.set]
  refine wpL_move (v := .tuple #[.slice a10 ((pathS Ql i).length) c10, .int .i64 0]) (by rfl) (by rfl) (by rfl) ?_
  simp only [putT, List.set]
  refine wpL_chunk 2 (by rfl) (fun Lk hLk => ?_)
  simp only [List.take, List.drop]
  refine wpV_extract (v := .slice a10 ((pathS Ql i).length) c10) (by rfl) rfl rfl rfl ?_
  simp only [putT, List.set]
  refine wpV_extract (v := .int .i64 0) (by rfl) rfl rfl rfl ?_
  simp only [putT, List.set]
  refine wpV_nil (hLk _ (fun w11 Sw11 => ?_))
  clear hLk Lk
  simp only [List.take, List.drop]
  replace M := M.sees Sw11
  refine wpL_assign (v := .slice a10 ((pathS Ql i).length) c10) (by rfl) (by rfl) (by rfl) ?_
  simp only [putT, List.set]
  refine wpL_assign (v := .int .i64 0) (by rfl) (by rfl) (by rfl) ?_
  simp only [putT, List.set]
  refine wpL_nil (no_panic ?_)
  refine hK7 _ _ ?_
  refine wp_seq_k (fun K12 hK12 => ?_)
  refine wp_region_seq ?_
  refine wpL_move (v := .slice (some ⟨g5, 0, none⟩) Ql.length g5c) (by rfl) (by rfl) (by rfl) ?_
  simp only [putT, List.set]
  refine wpL_move (v := .int .i64 ((m : Nat) : Int)) (by rfl) (by rfl) (by rfl) ?_
  simp only [putT, List.set]
  refine wpL_callE (f := 48) (args := #[.slice (some ⟨g5, 0, none⟩) Ql.length g5c, .int .i64 ((m : Nat) : Int)]) (R := fun v9 W9 => ∃ a15 c15, v9 = .tuple #[.slice a15 ((stepS Ql m true).length) c15, .int .i64 0] ∧ RowA W9 a15 (stepS Ql m true).length c15 (scells (stepS Ql m true))) (by rfl) (by rfl) rfl Tryd.func48 (by kernel_rfl) (by kernel_rfl) (Step_n (l := Ql) (m := m) hri hm1 hy (M.oldL L0) (M.oldR R0_0 L0) (RowA.of (M.oldR Rg5_0 Lg5) (M.oldL Lg5) (scells_len _).symm Cg5)) (fun v9 w14 hv9 Sw14 => ?_)
  obtain ⟨a15, c15, rfl, H15_0⟩ := hv9
  replace M := M.sees Sw14
  replace Rg5_0 := M.oldR Rg5_0 Lg5
  replace R0_0 := M.oldR R0_0 L0
  replace Lg5 := M.oldL Lg5
  replace L0 := M.oldL L0
  replace H10_0 := M.oldA H10_0
  replace BB := BB.trans (M.below.mono BB.size)
  replace M := Mem.start w14
  simp only [putT, List.set]
  refine wpL_move (v := .tuple #[.slice a15 ((stepS Ql m true).length) c15, .int .i64 0]) (by rfl) (by rfl) (by rfl) ?_
  simp only [putT, List.set]
  refine wpL_chunk 2 (by rfl) (fun Lk hLk => ?_)
  simp only [List.take, List.drop]
  refine wpV_extract (v := .slice a15 ((stepS Ql m true).length) c15) (by rfl) rfl rfl rfl ?_
  simp only [putT, List.set]
  refine wpV_extract (v := .int .i64 0) (by rfl) rfl rfl rfl ?_
  simp only [putT, List.set]
  refine wpV_nil (hLk _ (fun w16 Sw16 => ?_))
  clear hLk Lk
  simp only [List.take, List.drop]
  replace M := M.sees Sw16
  refine wpL_assign (v := .slice a15 ((stepS Ql m true).length) c15) (by rfl) (by rfl) (by rfl) ?_
  simp only [putT, List.set]
  refine wpL_assign (v := .int .i64 0) (by rfl) (by rfl) (by rfl) ?_
  simp only [putT, List.set]
  refine wpL_nil (no_panic ?_)
  refine hK12 _ _ ?_
  refine wp_seq_k (fun K17 hK17 => ?_)
  refine wp_seq_k (fun K18 hK18 => ?_)
  refine wp_region_seq ?_
  refine wpL_move (v := .slice (some ⟨g5, 0, none⟩) Ql.length g5c) (by rfl) (by rfl) (by rfl) ?_
  simp only [putT, List.set]
  refine wpL_chunk 2 (by rfl) (fun Lk hLk => ?_)
  simp only [List.take, List.drop]
  refine wpV_callf (v := .bool true) (args := #[.slice (some ⟨g5, 0, none⟩) Ql.length g5c]) (by rfl) rfl Tryd.func43 (by kernel_rfl) (by kernel_rfl) rfl (fun W hW => by have h9 : Calls Tryd.prog _ _ W _ := rright_r (ps := Ql) (by omega) (RowA.of ((M.sees hW).oldR Rg5_0 Lg5) ((M.sees hW).oldL Lg5) (scells_len _).symm Cg5); rw [hri] at h9; exact h9) ?_
  simp only [putT, List.set]
  refine wpV_not (b := true) (by rfl) rfl rfl ?_
  simp only [Bool.not_true, Bool.not_false]
  simp only [putT, List.set]
  refine wpV_nil (hLk _ (fun w20 Sw20 => ?_))
  clear hLk Lk
  simp only [List.take, List.drop]
  replace M := M.sees Sw20
  refine wpL_nil (no_panic ?_)
  refine hK18 _ _ ?_
  refine wp_cond_false rfl ?_
  refine wp_skip ?_
  refine hK17 _ _ ?_
  refine wp_seq_k (fun K21 hK21 => ?_)
  refine wp_seq_k (fun K22 hK22 => ?_)
  refine wp_region_seq ?_
  refine wpL_move (v := .int .i64 ((i : Nat) : Int)) (by rfl) (by rfl) (by rfl) ?_
  simp only [putT, List.set]
  refine wpL_chunk 7 (by rfl) (fun Lk hLk => ?_)
  simp only [List.take, List.drop]
  refine wpV_bin (v := .bool false) (by rfl) rfl rfl rfl (fun W => (run_lssN i 0 _ _ W).trans (by rw [(decide_eq_false (Nat.not_lt_zero i))])) ?_
  simp only [putT, List.set]
  refine wpV_move (v := .bool false) (by rfl) rfl rfl ?_
  simp only [putT, List.set]
  refine wpV_move (v := .int .i64 ((i : Nat) : Int)) (by rfl) rfl rfl ?_
  simp only [putT, List.set]
  refine wpV_move (v := .slice (some ⟨g5, 0, none⟩) Ql.length g5c) (by rfl) rfl rfl ?_
  simp only [putT, List.set]
  refine wpV_lenA (n := Ql.length) (by rfl) rfl rfl rfl Tryd.underlying48 ?_
  simp only [putT, List.set]
  refine wpV_bin (v := .bool false) (by rfl) rfl rfl rfl (fun W => (run_geqN i Ql.length _ _ W).trans (by rw [(decide_eq_false (Nat.not_le.2 hx))])) ?_
  simp only [putT, List.set]
  refine wpV_pick (v := .bool false) (by rfl) rfl rfl rfl ?_
  simp only [putT, List.set]
  refine wpV_nil (hLk _ (fun w24 Sw24 => ?_))
  clear hLk Lk
  simp only [List.take, List.drop]
  replace M := M.sees Sw24
  refine wpL_nil (no_panic ?_)
  refine hK22 _ _ ?_
  refine wp_cond_false rfl ?_
  refine wp_seq_k (fun K25 hK25 => ?_)
  refine wp_region_seq ?_
  refine wpL_move (v := .int .i64 0) (by rfl) (by rfl) (by rfl) ?_
  simp only [putT, List.set]
  refine wpL_chunk 5 (by rfl) (fun Lk hLk => ?_)
  simp only [List.take, List.drop]
  refine wpV_bin (v := .bool false) (by rfl) rfl rfl rfl (fun W => run_neq _ _ _ _ W) ?_
  simp only [putT, List.set]
  refine wpV_move (v := .bool false) (by rfl) rfl rfl ?_
  simp only [putT, List.set]
  refine wpV_move (v := .slice a10 ((pathS Ql i).length) c10) (by rfl) rfl rfl ?_
  simp only [putT, List.set]
  refine wpV_move (v := .slice (some ⟨g5, 0, none⟩) Ql.length g5c) (by rfl) rfl rfl ?_
  simp only [putT, List.set]
  refine wpV_move (v := .int .i64 ((i : Nat) : Int)) (by rfl) rfl rfl ?_
  simp only [putT, List.set]
  refine wpV_nil (hLk _ (fun w27 Sw27 => ?_))
  clear hLk Lk
  simp only [List.take, List.drop]
  replace M := M.sees Sw27
  refine wpL_guard (by rfl) ?_
  refine wpL_callE (f := 51) (args := #[.slice (some ⟨g5, 0, none⟩) Ql.length g5c, .int .i64 ((i : Nat) : Int)]) (R := fun v9 W9 => ∃ g29 g29c, v9 = .slice (some ⟨g29, 0, none⟩) ((pathS Ql i).length) g29c ∧ (pathS Ql i).length ≤ g29c ∧ Mem [] w27 W9 [⟨g29, g29c, [(0, scells (pathS Ql i))]⟩]) (by rfl) (by rfl) rfl Tryd.func51 (by kernel_rfl) (by kernel_rfl) (rPath_c _ (l := Ql) (i := i)  rfl h4 h32 hx (RowA.of (M.oldR Rg5_0 Lg5) (M.oldL Lg5) (scells_len _).symm Cg5)) (fun v9 w28 hv9 Sw28 => ?_)
  obtain ⟨g29, g29c, rfl, Cg29, M9⟩ := hv9
  replace M := M.call1 M9
  clear Sw28
  simp only [putT, List.set]
  refine wpL_chunk 3 (by rfl) (fun Lk hLk => ?_)
  simp only [List.take, List.drop]
  refine wpV_callf (v := .bool true) (args := #[.slice a10 ((pathS Ql i).length) c10, .slice (some ⟨g29, 0, none⟩) ((pathS Ql i).length) g29c]) (by rfl) rfl Tryd.func50 (by kernel_rfl) (by kernel_rfl) rfl (fun W hW => by have h9 : Calls Tryd.prog _ _ W _ := same_r (ps := pathS Ql i) (qs := pathS Ql i) (Nat.le_trans (pathS_le4 h4 hx) (by decide)) ((M.sees hW).oldA H10_0) (RowA.of ((M.sees hW).r 0 0 rfl rfl) ((M.sees hW).lt 0 rfl) (scells_len _).symm Cg29); rw [decide_eq_true rfl] at h9; exact h9) ?_
  simp only [putT, List.set]
  refine wpV_not (b := true) (by rfl) rfl rfl ?_
  simp only [Bool.not_true, Bool.not_false]
  simp only [putT, List.set]
  refine wpV_pick (v := .bool false) (by rfl) rfl rfl rfl ?_
  simp only [putT, List.set]
  refine wpV_nil (hLk _ (fun w30 Sw30 => ?_))
  clear hLk Lk
  simp only [List.take, List.drop]
  replace M := M.sees Sw30
  refine wpL_nil (no_panic ?_)
  refine hK25 _ _ ?_
  refine wp_cond_false rfl ?_
  refine wp_skip ?_
  refine hK21 _ _ ?_
  refine wp_seq_k (fun K31 hK31 => ?_)
  refine wp_seq_k (fun K32 hK32 => ?_)
  refine wp_region_seq ?_
  refine wpL_move (v := .int .i64 ((m : Nat) : Int)) (by rfl) (by rfl) (by rfl) ?_
  simp only [putT, List.set]
  refine wpL_chunk 7 (by rfl) (fun Lk hLk => ?_)
  simp only [List.take, List.drop]
  refine wpV_bin (v := .bool false) (by rfl) rfl rfl rfl (fun W => (run_lssN m 0 _ _ W).trans (by rw [(decide_eq_false (Nat.not_lt_zero m))])) ?_
  simp only [putT, List.set]
  refine wpV_move (v := .bool false) (by rfl) rfl rfl ?_
  simp only [putT, List.set]
  refine wpV_move (v := .int .i64 ((m : Nat) : Int)) (by rfl) rfl rfl ?_
  simp only [putT, List.set]
  refine wpV_move (v := .slice (some ⟨g5, 0, none⟩) Ql.length g5c) (by rfl) rfl rfl ?_
  simp only [putT, List.set]
  refine wpV_lenA (n := Ql.length) (by rfl) rfl rfl rfl Tryd.underlying48 ?_
  simp only [putT, List.set]
  refine wpV_bin (v := .bool false) (by rfl) rfl rfl rfl (fun W => (run_gtrN m Ql.length _ _ W).trans (by rw [(decide_eq_false (by omega))])) ?_
  simp only [putT, List.set]
  refine wpV_pick (v := .bool false) (by rfl) rfl rfl rfl ?_
  simp only [putT, List.set]
  refine wpV_nil (hLk _ (fun w34 Sw34 => ?_))
  clear hLk Lk
  simp only [List.take, List.drop]
  replace M := M.sees Sw34
  refine wpL_nil (no_panic ?_)
  refine hK32 _ _ ?_
  refine wp_cond_false rfl ?_
  refine wp_skip ?_
  refine hK31 _ _ ?_
  refine wp_seq_k (fun K35 hK35 => ?_)
  refine wp_seq_k (fun K36 hK36 => ?_)
  refine wp_region_seq ?_
  refine wpL_move (v := .int .i64 ((m : Nat) : Int)) (by rfl) (by rfl) (by rfl) ?_
  simp only [putT, List.set]
  refine wpL_chunk 1 (by rfl) (fun Lk hLk => ?_)
  simp only [List.take, List.drop]
  refine wpV_bin (v := .bool false) (by rfl) rfl rfl rfl (fun W => (run_eqlN m 0 _ _ W).trans (by rw [(decide_eq_false (by omega))])) ?_
  simp only [putT, List.set]
  refine wpV_nil (hLk _ (fun w38 Sw38 => ?_))
  clear hLk Lk
  simp only [List.take, List.drop]
  replace M := M.sees Sw38
  refine wpL_nil (no_panic ?_)
  refine hK36 _ _ ?_
  refine wp_cond_false rfl ?_
  refine wp_skip ?_
  refine hK35 _ _ ?_
  refine wp_seq_k (fun K39 hK39 => ?_)
  refine wp_region_seq ?_
  refine wpL_chunk 9 (by rfl) (fun Lk hLk => ?_)
  simp only [List.take, List.drop]
  refine wpV_callf (v := .bool true) (args := #[]) (by rfl) rfl Tryd.func49 (by kernel_rfl) (by kernel_rfl) rfl (fun W hW => alive09_c ((M.sees hW).oldL L0) ((M.sees hW).oldR R0_0 L0)) ?_
  simp only [putT, List.set]
  refine wpV_move (v := .bool true) (by rfl) rfl rfl ?_
  simp only [putT, List.set]
  refine wpV_move (v := .int .i64 0) (by rfl) rfl rfl ?_
  simp only [putT, List.set]
  refine wpV_bin (v := .bool true) (by rfl) rfl rfl rfl (fun W => run_eql _ _ _ _ W) ?_
  simp only [putT, List.set]
  refine wpV_pick (v := .bool true) (by rfl) rfl rfl rfl ?_
  simp only [putT, List.set]
  refine wpV_move (v := .bool true) (by rfl) rfl rfl ?_
  simp only [putT, List.set]
  refine wpV_move (v := .slice a15 ((stepS Ql m true).length) c15) (by rfl) rfl rfl ?_
  simp only [putT, List.set]
  refine wpV_move (v := .slice (some ⟨g5, 0, none⟩) Ql.length g5c) (by rfl) rfl rfl ?_
  simp only [putT, List.set]
  refine wpV_move (v := .int .i64 ((m : Nat) : Int)) (by rfl) rfl rfl ?_
  simp only [putT, List.set]
  refine wpV_nil (hLk _ (fun w41 Sw41 => ?_))
  clear hLk Lk
  simp only [List.take, List.drop]
  replace M := M.sees Sw41
  refine wpL_guard (by rfl) ?_
  refine wpL_callE (f := 52) (args := #[.slice (some ⟨g5, 0, none⟩) Ql.length g5c, .int .i64 ((m : Nat) : Int), .bool true]) (R := fun v9 W9 => ∃ g43 g43c, v9 = .slice (some ⟨g43, 0, none⟩) ((stepS Ql m true).length) g43c ∧ (stepS Ql m true).length ≤ g43c ∧ Mem [] w41 W9 [⟨g43, g43c, [(0, scells (stepS Ql m true))]⟩]) (by rfl) (by rfl) rfl Tryd.func52 (by kernel_rfl) (by kernel_rfl) (rStep_c _ (l := Ql) (i := m) (wh := true) rfl h4 h32 hm1 (by omega) (RowA.of (M.oldR Rg5_0 Lg5) (M.oldL Lg5) (scells_len _).symm Cg5)) (fun v9 w42 hv9 Sw42 => ?_)
  obtain ⟨g43, g43c, rfl, Cg43, M9⟩ := hv9
  replace M := M.call1 M9
  clear Sw42
  simp only [putT, List.set]
  refine wpL_chunk 2 (by rfl) (fun Lk hLk => ?_)
  simp only [List.take, List.drop]
  refine wpV_callf (v := .bool true) (args := #[.slice a15 ((stepS Ql m true).length) c15, .slice (some ⟨g43, 0, none⟩) ((stepS Ql m true).length) g43c]) (by rfl) rfl Tryd.func50 (by kernel_rfl) (by kernel_rfl) rfl (fun W hW => by have h9 : Calls Tryd.prog _ _ W _ := same_r (ps := stepS Ql m true) (qs := stepS Ql m true) (Nat.le_trans (stepS_le (by omega)) (by omega)) ((M.sees hW).oldA H15_0) (RowA.of ((M.sees hW).r 0 0 rfl rfl) ((M.sees hW).lt 0 rfl) (scells_len _).symm Cg43); rw [decide_eq_true rfl] at h9; exact h9) ?_
  simp only [putT, List.set]
  refine wpV_pick (v := .bool true) (by rfl) rfl rfl rfl ?_
  simp only [putT, List.set]
  refine wpV_nil (hLk _ (fun w44 Sw44 => ?_))
  clear hLk Lk
  simp only [List.take, List.drop]
  replace M := M.sees Sw44
  refine wpL_assign (v := .bool true) (by rfl) (by rfl) (by rfl) ?_
  simp only [putT, List.set]
  refine wpL_nil (no_panic ?_)
  refine hK39 _ _ ?_
  refine wp_ret ?_
  repeat (first | with_reducible refine then_ret ?_ | with_reducible refine inblock_ret ?_)
  refine bodyPost_ret (v := .bool true) (res1 rfl (.tmp (by rfl))) rfl ?_
  have BE := M.below
  exact ⟨rfl, BB.trans (BE.mono BB.size)⟩
theorem makes_c {vls : Value} {ls : List (List UInt8)} {x y : Int} {w : World} (L0 : 0 < w.heap.size) (R0_0 : w.rangeAt 0 0 kcells) (hvls : RowS w vls ls) :
    Calls Tryd.prog 9 #[vls, .int .i64 x, .int .i64 y] w fun e w' => e = .returned (.bool true) ∧ Below w.heap.size w w' := by
  have hQL := cutsS_len 50 40 ls
  cases hri : rightB (cutsS 50 40 ls) with
  | false => exact makes_any_any rfl hQL hri L0 R0_0 hvls
  | true =>
    have h4 := of_right_len hri
    have h32 := all32_mem (of_right hri)
    have hy4 : y < 0 ∨ y = 0 ∨ ∃ m : Nat, y = (m : Int) ∧ 1 ≤ m ∧ ((cutsS 50 40 ls).length < m ∨ m = (cutsS 50 40 ls).length ∨ m < (cutsS 50 40 ls).length) := by
      by_cases h1 : y < 0
      · exact .inl h1
      · by_cases h2 : y = 0
        · exact .inr (.inl h2)
        · exact .inr (.inr ⟨y.toNat, by omega, by omega, by omega⟩)
    by_cases hx : x < 0
    · rcases hy4 with hy | rfl | ⟨m, rfl, hm1, hy | hy | hy⟩
      · exact makes_neg_neg rfl hQL hri h4 h32 hx hy L0 R0_0 hvls
      · exact makes_neg_zero rfl hQL hri h4 h32 hx L0 R0_0 hvls
      · exact makes_neg_far rfl hQL hri h4 h32 hx hy L0 R0_0 hvls
      · exact makes_neg_all rfl hQL hri h4 h32 hx hm1 hy L0 R0_0 hvls
      · exact makes_neg_go rfl hQL hri h4 h32 hx hm1 hy L0 R0_0 hvls
    · obtain ⟨i, rfl⟩ : ∃ i : Nat, x = (i : Int) := ⟨x.toNat, by omega⟩
      by_cases hf : (cutsS 50 40 ls).length ≤ i
      · rcases hy4 with hy | rfl | ⟨m, rfl, hm1, hy | hy | hy⟩
        · exact makes_far_neg rfl hQL hri h4 h32 hf hy L0 R0_0 hvls
        · exact makes_far_zero rfl hQL hri h4 h32 hf L0 R0_0 hvls
        · exact makes_far_far rfl hQL hri h4 h32 hf hy L0 R0_0 hvls
        · exact makes_far_all rfl hQL hri h4 h32 hf hm1 hy L0 R0_0 hvls
        · exact makes_far_go rfl hQL hri h4 h32 hf hm1 hy L0 R0_0 hvls
      · have hf2 : i < (cutsS 50 40 ls).length := by omega
        rcases hy4 with hy | rfl | ⟨m, rfl, hm1, hy | hy | hy⟩
        · exact makes_go_neg rfl hQL hri h4 h32 hf2 hy L0 R0_0 hvls
        · exact makes_go_zero rfl hQL hri h4 h32 hf2 L0 R0_0 hvls
        · exact makes_go_far rfl hQL hri h4 h32 hf2 hy L0 R0_0 hvls
        · exact makes_go_all rfl hQL hri h4 h32 hf2 hm1 hy L0 R0_0 hvls
        · exact makes_go_go rfl hQL hri h4 h32 hf2 hm1 hy L0 R0_0 hvls
end Go.Proofs.Yb

