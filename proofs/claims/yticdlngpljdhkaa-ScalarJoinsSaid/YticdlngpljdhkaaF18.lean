import Derived.Test.YticdlngpljdhkaaF17
set_option linter.unusedSimpArgs false
set_option linter.unusedVariables false
namespace Go.Proofs.Ya
open Go Go.RowKit Go.Shelf Go.Proofs.Num
set_option maxHeartbeats 1000000 in
theorem alive05_c  {w : World}  :
    Calls Try.prog 16 #[] w fun e w' => e = .returned (.bool true) ∧ Below w.heap.size w w' := by
  go_enter Try.func16, Try.ntmps16
  have BE := Below.refl w.heap.size w
  refine wp_seq_k (fun K1 hK1 => ?_)
  refine wp_region_plain 0 (by kernel_rfl) (fun Lk hLk => ?_)
  simp only [List.take, List.drop]
  refine wpV_nil (hLk.out _ ?_)
  clear hLk Lk
  simp only [List.take, List.drop]
  refine wpN_nil (fun w3 Sw3 hbs => ?_)
  clear hbs
  replace BE := BE.trans (Sw3.2.2.mono BE.size)
  refine wpL_assign (v := .bool false) (by rfl) (by rfl) (by rfl) ?_
  simp only [putT, List.set]
  refine wpL_nil (no_panic ?_)
  refine hK1 _ _ ?_
  refine wp_seq_k (fun K4 hK4 => ?_)
  refine wp_region_plain 5 (by kernel_rfl) (fun Lk hLk => ?_)
  simp only [List.take, List.drop]
  refine wpV_val (v := fe 2) (by rfl) (by rfl) (fun W hW => ?_) ?_
  · rw [show fe 2 = .agg ([.int .u64 2, .int .u64 0, .int .u64 0, .int .u64 0]).toArray from (by kernel_rfl)]; unfold RunsVal; kernel_rfl
  simp only [putT, List.set]
  refine wpV_val (v := fe 3) (by rfl) (by rfl) (fun W hW => ?_) ?_
  · rw [show fe 3 = .agg ([.int .u64 3, .int .u64 0, .int .u64 0, .int .u64 0]).toArray from (by kernel_rfl)]; unfold RunsVal; kernel_rfl
  simp only [putT, List.set]
  refine wpV_callf (v := fe (smul 2 3)) (args := #[fe 2, fe 3]) (by rfl) rfl Try.func15 (by kernel_rfl) (by kernel_rfl) rfl (fun W hW => smul_c (by decide) (by decide) W) ?_
  simp only [putT, List.set]
  refine wpV_val (v := fe 6) (by rfl) (by rfl) (fun W hW => ?_) ?_
  · rw [show fe 6 = .agg ([.int .u64 6, .int .u64 0, .int .u64 0, .int .u64 0]).toArray from (by kernel_rfl)]; unfold RunsVal; kernel_rfl
  simp only [putT, List.set]
  refine wpV_val (v := .bool true) (by rfl) (by rfl) (fun W hW => ?_) ?_
  · exact (show decide (smul 2 3 = 6) = true by decide) ▸ run_eql_fe (smul_lt ..) (by decide) Try.underlying24 Try.underlying22 info22 (by kernel_rfl) rfl rfl rfl W
  simp only [putT, List.set]
  refine wpV_nil (hLk.out _ ?_)
  clear hLk Lk
  simp only [List.take, List.drop]
  iterate 5 refine wpN_skip (by rfl) ?_
  refine wpN_nil (fun w6 Sw6 hbs => ?_)
  clear hbs
  replace BE := BE.trans (Sw6.2.2.mono BE.size)
  refine wpL_assign (v := .bool true) (by rfl) (by rfl) (by rfl) ?_
  simp only [putT, List.set]
  refine wpL_nil (no_panic ?_)
  refine hK4 _ _ ?_
  refine wp_ret ?_
  repeat (first | with_reducible refine then_ret ?_ | with_reducible refine inblock_ret ?_)
  refine bodyPost_ret (v := .bool true) (res1 rfl (.tmp (by rfl))) rfl ?_
  exact ⟨rfl, BE⟩
set_option maxHeartbeats 4000000 in
theorem sreckons_c {x : Nat} (hx : x < 2 ^ 256) {y : Nat} (hy : y < 2 ^ 256) {w : World}  :
    Calls Try.prog 4 #[fe x, fe y] w fun e w' => e = .returned (.bool true) ∧ Below w.heap.size w w' := by
  go_enter Try.func4, Try.ntmps4
  have BE := Below.refl w.heap.size w
  refine wp_seq_k (fun K1 hK1 => ?_)
  refine wp_region_plain 2 (by kernel_rfl) (fun Lk hLk => ?_)
  simp only [List.take, List.drop]
  refine wpV_alloc (by rfl) ?_
  refine wpV_alloc (by rfl) ?_
  refine wpV_nil (hLk.out _ ?_)
  clear hLk Lk
  simp only [List.take, List.drop]
  refine wpN_new (t := 24) (cs := (fel x).toArray) (by rfl) (fun W => ?_) (fun g3 Hg3 ng3 => ?_)
  · (first | rfl | go_simp)
  refine wpN_new (t := 24) (cs := (fel y).toArray) (by rfl) (fun W => ?_) (fun g4 Hg4 ng4 => ?_)
  · (first | rfl | go_simp)
  simp only [putT, List.set]
  refine wpN_nil (fun w5 Sw5 hbs => ?_)
  have Bg3 : Blk w5 g3 24 (fel x).toArray := hbs _ (List.mem_cons_of_mem _ (List.mem_cons_self ..))
  have Bg4 : Blk w5 g4 24 (fel y).toArray := hbs _ (List.mem_cons_self ..)
  clear hbs
  have Gg3 : w.heap.size ≤ g3 := Nat.le_trans BE.size Hg3
  have Ng3_g4 : g3 ≠ g4 := ng4 (g3, _, _) (List.mem_cons_self ..)
  have Gg4 : w.heap.size ≤ g4 := Nat.le_trans BE.size Hg4
  replace BE := BE.trans (Sw5.2.2.mono BE.size)
  have Tg3 := blk_there Bg3 (n := 4) (by simp [flen])
  have Rg3_0 := blk_range Bg3 (l := fel x) rfl
  have Lg3 := Bg3.lt
  have Tg4 := blk_there Bg4 (n := 4) (by simp [flen])
  have Rg4_0 := blk_range Bg4 (l := fel y) rfl
  have Lg4 := Bg4.lt
  clear ng3 ng4 Bg3 Bg4
  refine wpL_assign (v := .bool false) (by rfl) (by rfl) (by rfl) ?_
  simp only [putT, List.set]
  refine wpL_nil (no_panic ?_)
  refine hK1 _ _ ?_
  refine wp_seq_k (fun K6 hK6 => ?_)
  refine wp_region_grow 26 [] (by kernel_rfl) (by kernel_rfl) (by kernel_rfl) (fun Lk hLk => ?_)
  simp only [List.take, List.drop]
  refine wpV_callf (v := .bool true) (args := #[]) (by rfl) rfl Try.func16 (by kernel_rfl) (by kernel_rfl) rfl (fun W hW => alive05_c) ?_
  simp only [putT, List.set]
  refine wpV_move (v := .bool true) (by rfl) rfl rfl ?_
  simp only [putT, List.set]
  refine wpV_load (cs := fel x) (by rfl) rfl rfl Rg3_0 Lg3 Try.underlying24 rfl info24 ?_
  simp only [putT, List.set]
  refine wpV_callf (v := fe (restS x)) (args := #[fe x]) (by rfl) rfl Try.func18 (by kernel_rfl) (by kernel_rfl) rfl (fun W hW => sleast_c hx W) ?_
  simp only [putT, List.set]
  refine wpV_load (cs := fel x) (by rfl) rfl rfl Rg3_0 Lg3 Try.underlying24 rfl info24 ?_
  simp only [putT, List.set]
  refine wpV_callf (v := fe (restS x)) (args := #[fe x]) (by rfl) rfl Try.func17 (by kernel_rfl) (by kernel_rfl) rfl (fun W hW => rleast05_c hx) ?_
  simp only [putT, List.set]
  refine wpV_val (v := .bool true) (by rfl) (by rfl) (fun W hW => ?_) ?_
  · exact run_eql_fe_same (restS_lt ..) Try.underlying24 Try.underlying22 info22 (by kernel_rfl) rfl rfl rfl W
  simp only [putT, List.set]
  refine wpV_pick (v := .bool true) (by rfl) rfl rfl rfl ?_
  simp only [putT, List.set]
  refine wpV_move (v := .bool true) (by rfl) rfl rfl ?_
  simp only [putT, List.set]
  refine wpV_load (cs := fel x) (by rfl) rfl rfl Rg3_0 Lg3 Try.underlying24 rfl info24 ?_
  simp only [putT, List.set]
  refine wpV_load (cs := fel y) (by rfl) rfl rfl Rg4_0 Lg4 Try.underlying24 rfl info24 ?_
  simp only [putT, List.set]
  refine wpV_callf (v := fe (sadd x y)) (args := #[fe x, fe y]) (by rfl) rfl Try.func14 (by kernel_rfl) (by kernel_rfl) rfl (fun W hW => sadd_c hx hy W) ?_
  simp only [putT, List.set]
  refine wpV_load (cs := fel x) (by rfl) rfl rfl Rg3_0 Lg3 Try.underlying24 rfl info24 ?_
  simp only [putT, List.set]
  refine wpV_load (cs := fel y) (by rfl) rfl rfl Rg4_0 Lg4 Try.underlying24 rfl info24 ?_
  simp only [putT, List.set]
  refine wpV_callf (v := fe (sadd x y)) (args := #[fe x, fe y]) (by rfl) rfl Try.func19 (by kernel_rfl) (by kernel_rfl) rfl (fun W hW => radd05_c hx hy) ?_
  simp only [putT, List.set]
  refine wpV_val (v := .bool true) (by rfl) (by rfl) (fun W hW => ?_) ?_
  · exact run_eql_fe_same (sadd_lt ..) Try.underlying24 Try.underlying22 info22 (by kernel_rfl) rfl rfl rfl W
  simp only [putT, List.set]
  refine wpV_pick (v := .bool true) (by rfl) rfl rfl rfl ?_
  simp only [putT, List.set]
  refine wpV_move (v := .bool true) (by rfl) rfl rfl ?_
  simp only [putT, List.set]
  refine wpV_load (cs := fel x) (by rfl) rfl rfl Rg3_0 Lg3 Try.underlying24 rfl info24 ?_
  simp only [putT, List.set]
  refine wpV_load (cs := fel y) (by rfl) rfl rfl Rg4_0 Lg4 Try.underlying24 rfl info24 ?_
  simp only [putT, List.set]
  refine wpV_callf (v := fe (smul x y)) (args := #[fe x, fe y]) (by rfl) rfl Try.func15 (by kernel_rfl) (by kernel_rfl) rfl (fun W hW => smul_c hx hy W) ?_
  simp only [putT, List.set]
  refine wpV_load (cs := fel x) (by rfl) rfl rfl Rg3_0 Lg3 Try.underlying24 rfl info24 ?_
  simp only [putT, List.set]
  refine wpV_load (cs := fel y) (by rfl) rfl rfl Rg4_0 Lg4 Try.underlying24 rfl info24 ?_
  simp only [putT, List.set]
  refine wpV_callf (v := fe (smul x y)) (args := #[fe x, fe y]) (by rfl) rfl Try.func20 (by kernel_rfl) (by kernel_rfl) rfl (fun W hW => rmul05_c hx hy) ?_
  simp only [putT, List.set]
  refine wpV_val (v := .bool true) (by rfl) (by rfl) (fun W hW => ?_) ?_
  · exact run_eql_fe_same (smul_lt ..) Try.underlying24 Try.underlying22 info22 (by kernel_rfl) rfl rfl rfl W
  simp only [putT, List.set]
  refine wpV_pick (v := .bool true) (by rfl) rfl rfl rfl ?_
  simp only [putT, List.set]
  refine wpV_nil (hLk.out _ ?_)
  clear hLk Lk
  simp only [List.take, List.drop]
  iterate 26 refine wpN_skip (by rfl) ?_
  refine wpN_nil (fun w8 Sw8 hbs => ?_)
  clear hbs
  replace Rg3_0 := range_sees Rg3_0 Lg3 Sw8
  replace Tg3 := there_sees Tg3 Lg3 Sw8
  replace Rg4_0 := range_sees Rg4_0 Lg4 Sw8
  replace Tg4 := there_sees Tg4 Lg4 Sw8
  replace Lg3 := Nat.lt_of_lt_of_le Lg3 Sw8.2.2.size
  replace Lg4 := Nat.lt_of_lt_of_le Lg4 Sw8.2.2.size
  replace BE := BE.trans (Sw8.2.2.mono BE.size)
  refine wpL_assign (v := .bool true) (by rfl) (by rfl) (by rfl) ?_
  simp only [putT, List.set]
  refine wpL_nil (no_panic ?_)
  refine hK6 _ _ ?_
  refine wp_ret ?_
  repeat (first | with_reducible refine then_ret ?_ | with_reducible refine inblock_ret ?_)
  refine bodyPost_ret (v := .bool true) (res1 rfl (.tmp (by rfl))) rfl ?_
  exact ⟨rfl, BE⟩
end Go.Proofs.Ya
