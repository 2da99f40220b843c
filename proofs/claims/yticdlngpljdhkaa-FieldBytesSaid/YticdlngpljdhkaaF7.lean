import Derived.Test.YticdlngpljdhkaaF6
set_option linter.unusedSimpArgs false
set_option linter.unusedVariables false
namespace Go.Proofs.Ya
open Go Go.RowKit Go.Shelf Go.Proofs.Num
set_option maxHeartbeats 1000000 in
theorem sleast_c {x : Nat} (hx : x < 2 ^ 256) (w : World) :
    Calls Try.prog 18 #[fe x] w fun e w' => e = .returned (fe (restS x)) ∧ Below w.heap.size w w' := by
  go_enter Try.func18, Try.ntmps18
  have BE := Below.refl w.heap.size w
  refine wp_seq_k (fun K1 hK1 => ?_)
  refine wp_region_plain 2 (by kernel_rfl) (fun Lk hLk => ?_)
  simp only [List.take, List.drop]
  refine wpV_alloc (by rfl) ?_
  refine wpV_alloc (by rfl) ?_
  refine wpV_nil (hLk.out _ ?_)
  clear hLk Lk
  simp only [List.take, List.drop]
  refine wpN_new (t := 24) (cs := (fel x).toArray) (by rfl) (fun W => ?_) (fun g3 Hg3 ng3 => ?_)
  · (first | rfl | go_simp)
  refine wpN_new (t := 24) (cs := ([.int .u64 0, .int .u64 0, .int .u64 0, .int .u64 0]).toArray) (by rfl) (fun W => ?_) (fun g4 Hg4 ng4 => ?_)
  · go_simp
  simp only [putT, List.set]
  refine wpN_nil (fun w5 Sw5 hbs => ?_)
  have Bg3 : Blk w5 g3 24 (fel x).toArray := hbs _ (List.mem_cons_of_mem _ (List.mem_cons_self ..))
  have Bg4 : Blk w5 g4 24 ([.int .u64 0, .int .u64 0, .int .u64 0, .int .u64 0]).toArray := hbs _ (List.mem_cons_self ..)
  clear hbs
  have Gg3 : w.heap.size ≤ g3 := Nat.le_trans BE.size Hg3
  have Ng3_g4 : g3 ≠ g4 := ng4 (g3, _, _) (List.mem_cons_self ..)
  have Gg4 : w.heap.size ≤ g4 := Nat.le_trans BE.size Hg4
  replace BE := BE.trans (Sw5.2.2.mono BE.size)
  have Tg3 := blk_there Bg3 (n := 4) (by simp [flen])
  have Rg3_0 := blk_range Bg3 (l := fel x) rfl
  have Lg3 := Bg3.lt
  have Tg4 := blk_there Bg4 (n := 4) (by simp [flen])
  have Rg4_0 := blk_range Bg4 (l := [.int .u64 0, .int .u64 0, .int .u64 0, .int .u64 0]) rfl
  have Lg4 := Bg4.lt
  clear ng3 ng4 Bg3 Bg4
  refine wpL_nil (no_panic ?_)
  refine hK1 _ _ ?_
  refine wp_seq_k (fun K6 hK6 => ?_)
  refine wp_region_plain 2 (by kernel_rfl) (fun Lk hLk => ?_)
  simp only [List.take, List.drop]
  refine wpV_sliceA (n := 4) (by rfl) rfl rfl Try.underlying24 info22 ?_
  simp only [putT, List.set]
  refine wpV_callf (v := fe (restS x)) (args := #[.slice (some ⟨g3, 0, none⟩) 4 4]) (by rfl) rfl Try.func44 (by kernel_rfl) (by kernel_rfl) rfl (fun W hW => rest_c (n := 4) (N := x) (by decide) (by simpa using hx) (Nat.lt_of_lt_of_le Lg3 hW.2.2.size) (range_sees (show World.rangeAt _ _ _ (wl 4 x) from Rg3_0) Lg3 hW)) ?_
  simp only [putT, List.set]
  refine wpV_nil (hLk.out _ ?_)
  clear hLk Lk
  simp only [List.take, List.drop]
  iterate 2 refine wpN_skip (by rfl) ?_
  refine wpN_nil (fun w8 Sw8 hbs => ?_)
  clear hbs
  replace Rg3_0 := range_sees Rg3_0 Lg3 Sw8
  replace Tg3 := there_sees Tg3 Lg3 Sw8
  replace Rg4_0 := range_sees Rg4_0 Lg4 Sw8
  replace Tg4 := there_sees Tg4 Lg4 Sw8
  replace Lg3 := Nat.lt_of_lt_of_le Lg3 Sw8.2.2.size
  replace Lg4 := Nat.lt_of_lt_of_le Lg4 Sw8.2.2.size
  replace BE := BE.trans (Sw8.2.2.mono BE.size)
  refine wpL_store (g := g4) (off := 0) (n := 4) (cs := fel (restS x)) (by rfl) (by rfl) (by rfl) (by rfl) (by rfl) Tg4 (by simp [flen]) info24 (fel_one _) (fun w9 Pw9 RR TT => ?_)
  replace Rg3_0 := Pw9.range Rg3_0 (.inl Ng3_g4)
  replace Tg3 := Pw9.other_there Tg3 Ng3_g4
  replace Rg4_0 := RR
  clear RR
  replace Tg4 := TT
  replace Lg3 := Pw9.lt Lg3
  replace Lg4 := Pw9.lt Lg4
  replace BE := Pw9.below BE Gg4
  refine wpL_nil (no_panic ?_)
  refine hK6 _ _ ?_
  refine wp_ret ?_
  repeat (first | with_reducible refine then_ret ?_ | with_reducible refine inblock_ret ?_)
  refine bodyPost_ret (v := fe (restS x)) (res1 rfl (.cell (by rfl) (run_loadVar_mid _ _ _ _ (fel (restS x)) _ Rg4_0 Try.underlying24 rfl info24))) rfl ?_
  exact ⟨rfl, BE⟩
set_option maxHeartbeats 1000000 in
theorem sadd_c {x : Nat} (hx : x < 2 ^ 256) {y : Nat} (hy : y < 2 ^ 256) (w : World) :
    Calls Try.prog 14 #[fe x, fe y] w fun e w' => e = .returned (fe (sadd x y)) ∧ Below w.heap.size w w' := by
  go_enter Try.func14, Try.ntmps14
  have BE := Below.refl w.heap.size w
  refine wp_seq_k (fun K1 hK1 => ?_)
  refine wp_region_plain 3 (by kernel_rfl) (fun Lk hLk => ?_)
  simp only [List.take, List.drop]
  refine wpV_alloc (by rfl) ?_
  refine wpV_alloc (by rfl) ?_
  refine wpV_alloc (by rfl) ?_
  refine wpV_nil (hLk.out _ ?_)
  clear hLk Lk
  simp only [List.take, List.drop]
  refine wpN_new (t := 24) (cs := (fel x).toArray) (by rfl) (fun W => ?_) (fun g3 Hg3 ng3 => ?_)
  · (first | rfl | go_simp)
  refine wpN_new (t := 24) (cs := (fel y).toArray) (by rfl) (fun W => ?_) (fun g4 Hg4 ng4 => ?_)
  · (first | rfl | go_simp)
  refine wpN_new (t := 24) (cs := ([.int .u64 0, .int .u64 0, .int .u64 0, .int .u64 0]).toArray) (by rfl) (fun W => ?_) (fun g5 Hg5 ng5 => ?_)
  · go_simp
  simp only [putT, List.set]
  refine wpN_nil (fun w6 Sw6 hbs => ?_)
  have Bg3 : Blk w6 g3 24 (fel x).toArray := hbs _ (List.mem_cons_of_mem _ (List.mem_cons_of_mem _ (List.mem_cons_self ..)))
  have Bg4 : Blk w6 g4 24 (fel y).toArray := hbs _ (List.mem_cons_of_mem _ (List.mem_cons_self ..))
  have Bg5 : Blk w6 g5 24 ([.int .u64 0, .int .u64 0, .int .u64 0, .int .u64 0]).toArray := hbs _ (List.mem_cons_self ..)
  clear hbs
  have Gg3 : w.heap.size ≤ g3 := Nat.le_trans BE.size Hg3
  have Ng3_g4 : g3 ≠ g4 := ng4 (g3, _, _) (List.mem_cons_self ..)
  have Gg4 : w.heap.size ≤ g4 := Nat.le_trans BE.size Hg4
  have Ng3_g5 : g3 ≠ g5 := ng5 (g3, _, _) (List.mem_cons_of_mem _ (List.mem_cons_self ..))
  have Ng4_g5 : g4 ≠ g5 := ng5 (g4, _, _) (List.mem_cons_self ..)
  have Gg5 : w.heap.size ≤ g5 := Nat.le_trans BE.size Hg5
  replace BE := BE.trans (Sw6.2.2.mono BE.size)
  have Tg3 := blk_there Bg3 (n := 4) (by simp [flen])
  have Rg3_0 := blk_range Bg3 (l := fel x) rfl
  have Lg3 := Bg3.lt
  have Tg4 := blk_there Bg4 (n := 4) (by simp [flen])
  have Rg4_0 := blk_range Bg4 (l := fel y) rfl
  have Lg4 := Bg4.lt
  have Tg5 := blk_there Bg5 (n := 4) (by simp [flen])
  have Rg5_0 := blk_range Bg5 (l := [.int .u64 0, .int .u64 0, .int .u64 0, .int .u64 0]) rfl
  have Lg5 := Bg5.lt
  clear ng3 ng4 ng5 Bg3 Bg4 Bg5
  refine wpL_nil (no_panic ?_)
  refine hK1 _ _ ?_
  refine wp_seq_k (fun K7 hK7 => ?_)
  refine wp_region_plain 1 (by kernel_rfl) (fun Lk hLk => ?_)
  simp only [List.take, List.drop]
  refine wpV_alloc (by rfl) ?_
  refine wpV_nil (hLk.out _ ?_)
  clear hLk Lk
  simp only [List.take, List.drop]
  refine wpN_new (t := 52) (cs := ([.int .u64 0, .int .u64 0, .int .u64 0, .int .u64 0, .int .u64 0]).toArray) (by rfl) (fun W => ?_) (fun g9 Hg9 ng9 => ?_)
  · go_simp
  simp only [putT, List.set]
  refine wpN_nil (fun w10 Sw10 hbs => ?_)
  have Bg9 : Blk w10 g9 52 ([.int .u64 0, .int .u64 0, .int .u64 0, .int .u64 0, .int .u64 0]).toArray := hbs _ (List.mem_cons_self ..)
  clear hbs
  have Ng3_g9 : g3 ≠ g9 := Nat.ne_of_lt (Nat.lt_of_lt_of_le Lg3 Hg9)
  have Ng4_g9 : g4 ≠ g9 := Nat.ne_of_lt (Nat.lt_of_lt_of_le Lg4 Hg9)
  have Ng5_g9 : g5 ≠ g9 := Nat.ne_of_lt (Nat.lt_of_lt_of_le Lg5 Hg9)
  have Gg9 : w.heap.size ≤ g9 := Nat.le_trans BE.size Hg9
  replace Rg3_0 := range_sees Rg3_0 Lg3 Sw10
  replace Tg3 := there_sees Tg3 Lg3 Sw10
  replace Rg4_0 := range_sees Rg4_0 Lg4 Sw10
  replace Tg4 := there_sees Tg4 Lg4 Sw10
  replace Rg5_0 := range_sees Rg5_0 Lg5 Sw10
  replace Tg5 := there_sees Tg5 Lg5 Sw10
  replace Lg3 := Nat.lt_of_lt_of_le Lg3 Sw10.2.2.size
  replace Lg4 := Nat.lt_of_lt_of_le Lg4 Sw10.2.2.size
  replace Lg5 := Nat.lt_of_lt_of_le Lg5 Sw10.2.2.size
  replace BE := BE.trans (Sw10.2.2.mono BE.size)
  have Tg9 := blk_there Bg9 (n := 5) (by simp [flen])
  have Rg9_0 := blk_range Bg9 (l := [.int .u64 0, .int .u64 0, .int .u64 0, .int .u64 0, .int .u64 0]) rfl
  have Lg9 := Bg9.lt
  clear ng9 Bg9
  refine wpL_nil (no_panic ?_)
  refine hK7 _ _ ?_
  refine wp_seq_k (fun K11 hK11 => ?_)
  refine wp_seq_k (fun K12 hK12 => ?_)
  refine wp_region_plain 1 (by kernel_rfl) (fun Lk hLk => ?_)
  simp only [List.take, List.drop]
  refine wpV_move (v := .int .i64 0) (by rfl) rfl rfl ?_
  simp only [putT, List.set]
  refine wpV_nil (hLk.out _ ?_)
  clear hLk Lk
  simp only [List.take, List.drop]
  iterate 1 refine wpN_skip (by rfl) ?_
  refine wpN_nil (fun w14 Sw14 hbs => ?_)
  clear hbs
  replace Rg3_0 := range_sees Rg3_0 Lg3 Sw14
  replace Tg3 := there_sees Tg3 Lg3 Sw14
  replace Rg4_0 := range_sees Rg4_0 Lg4 Sw14
  replace Tg4 := there_sees Tg4 Lg4 Sw14
  replace Rg5_0 := range_sees Rg5_0 Lg5 Sw14
  replace Tg5 := there_sees Tg5 Lg5 Sw14
  replace Rg9_0 := range_sees Rg9_0 Lg9 Sw14
  replace Tg9 := there_sees Tg9 Lg9 Sw14
  replace Lg3 := Nat.lt_of_lt_of_le Lg3 Sw14.2.2.size
  replace Lg4 := Nat.lt_of_lt_of_le Lg4 Sw14.2.2.size
  replace Lg5 := Nat.lt_of_lt_of_le Lg5 Sw14.2.2.size
  replace Lg9 := Nat.lt_of_lt_of_le Lg9 Sw14.2.2.size
  replace BE := BE.trans (Sw14.2.2.mono BE.size)
  refine wpL_nil (no_panic ?_)
  refine hK12 _ _ ?_
  refine wp_block ?_
  refine wp_loop_ghost (fun n9 a9 W9 => ∃ (i : Nat) (M : Nat) (u15 : Nat → Value), n9 = 4 - i ∧ a9 = { tmps := #[fe x, fe y, .pointer (some ⟨g3, 0, none⟩), .pointer (some ⟨g4, 0, none⟩), .pointer (some ⟨g5, 0, none⟩), .pointer (some ⟨g9, 0, none⟩), u15 6, u15 7, u15 8, u15 9, u15 10, .int .i64 ((i : Nat) : Int), u15 12, u15 13, u15 14, u15 15, u15 16, u15 17, u15 18, u15 19, u15 20, u15 21, u15 22, u15 23, u15 24, u15 25, u15 26, u15 27, u15 28, u15 29, u15 30, u15 31, u15 32, u15 33, u15 34, u15 35, u15 36, u15 37, u15 38, u15 39, u15 40, u15 41, undef, undef], defers := [] } ∧ Below w.heap.size w W9 ∧ World.rangeAt W9 g3 0 (fel x) ∧ World.there W9 g3 0 4 ∧ g3 < W9.heap.size ∧ World.rangeAt W9 g4 0 (fel y) ∧ World.there W9 g4 0 4 ∧ g4 < W9.heap.size ∧ World.rangeAt W9 g5 0 ([.int .u64 0, .int .u64 0, .int .u64 0, .int .u64 0]) ∧ World.there W9 g5 0 4 ∧ g5 < W9.heap.size ∧ World.rangeAt W9 g9 0 (wl 5 M) ∧ World.there W9 g9 0 5 ∧ g9 < W9.heap.size ∧ (i ≤ 4) ∧ (SumInv x y i M)) (4 - (0)) ?_ (fun n9 a9 W9 hI => ?_)
  · exact ⟨0, 0, (fun q9 => (#[undef, undef, undef, undef, undef, undef, undef, undef, undef, undef, undef, undef, undef, undef, undef, undef, undef, undef, undef, undef, undef, undef, undef, undef, undef, undef, undef, undef, undef, undef, undef, undef, undef, undef, undef, undef, undef, undef, undef, undef, undef, undef] : Array Value).getD q9 undef), rfl, rfl, BE, Rg3_0, Tg3, Lg3, Rg4_0, Tg4, Lg4, Rg5_0, Tg5, Lg5, (by rw [wl_zero]; exact Rg9_0), Tg9, Lg9, (by omega), (sum_start x y)⟩
  clear BE Rg3_0 Rg4_0 Rg5_0 Rg9_0 Tg3 Tg4 Tg5 Tg9 Lg3 Lg4 Lg5 Lg9
  obtain ⟨i, M, u15, rfl, rfl, BE, Rg3_0, Tg3, Lg3, Rg4_0, Tg4, Lg4, Rg5_0, Tg5, Lg5, Rg9_0, Tg9, Lg9, hi4, HS⟩ := hI
  obtain ⟨w16, rfl⟩ : ∃ W8, W8 = W9 := ⟨_, rfl⟩
  refine wp_seq_k (fun K17 hK17 => ?_)
  refine wp_region_plain 1 (by kernel_rfl) (fun Lk hLk => ?_)
  simp only [List.take, List.drop]
  refine wpV_bin (v := .bool (decide (i < 4))) (by rfl) rfl rfl rfl (fun W => run_lssN i 4 _ _ W) ?_
  simp only [putT, List.set]
  refine wpV_nil (hLk.out _ ?_)
  clear hLk Lk
  simp only [List.take, List.drop]
  iterate 1 refine wpN_skip (by rfl) ?_
  refine wpN_nil (fun w19 Sw19 hbs => ?_)
  clear hbs
  replace Rg3_0 := range_sees Rg3_0 Lg3 Sw19
  replace Tg3 := there_sees Tg3 Lg3 Sw19
  replace Rg4_0 := range_sees Rg4_0 Lg4 Sw19
  replace Tg4 := there_sees Tg4 Lg4 Sw19
  replace Rg5_0 := range_sees Rg5_0 Lg5 Sw19
  replace Tg5 := there_sees Tg5 Lg5 Sw19
  replace Rg9_0 := range_sees Rg9_0 Lg9 Sw19
  replace Tg9 := there_sees Tg9 Lg9 Sw19
  replace Lg3 := Nat.lt_of_lt_of_le Lg3 Sw19.2.2.size
  replace Lg4 := Nat.lt_of_lt_of_le Lg4 Sw19.2.2.size
  replace Lg5 := Nat.lt_of_lt_of_le Lg5 Sw19.2.2.size
  replace Lg9 := Nat.lt_of_lt_of_le Lg9 Sw19.2.2.size
  replace BE := BE.trans (Sw19.2.2.mono BE.size)
  refine wpL_nil (no_panic ?_)
  refine hK17 _ _ ?_
  refine wp_seq_k (fun K20 hK20 => ?_)
  cases hc21 : (decide (i < 4))
  · skip
    have ei : i = 4 := by have := of_decide_eq_false hc21; omega
    subst ei
    have eM := sum_end hx hy HS
    subst eM
    refine wp_cond_false rfl ?_
    refine wp_exit ?_
    refine hK11 _ _ ?_
    refine wp_seq_k (fun K22 hK22 => ?_)
    refine wp_region_plain 2 (by kernel_rfl) (fun Lk hLk => ?_)
    simp only [List.take, List.drop]
    refine wpV_sliceA (n := 5) (by rfl) rfl rfl Try.underlying52 info22 ?_
    simp only [putT, List.set]
    refine wpV_callf (v := fe (restS (x + y))) (args := #[.slice (some ⟨g9, 0, none⟩) 5 5]) (by rfl) rfl Try.func44 (by kernel_rfl) (by kernel_rfl) rfl (fun W hW => rest_c (n := 5) (N := (x + y)) (by decide) (by simp only [Nat.reducePow] at hx hy ⊢; omega) (Nat.lt_of_lt_of_le Lg9 hW.2.2.size) (range_sees Rg9_0 Lg9 hW)) ?_
    simp only [putT, List.set]
    refine wpV_nil (hLk.out _ ?_)
    clear hLk Lk
    simp only [List.take, List.drop]
    iterate 2 refine wpN_skip (by rfl) ?_
    refine wpN_nil (fun w24 Sw24 hbs => ?_)
    clear hbs
    replace Rg3_0 := range_sees Rg3_0 Lg3 Sw24
    replace Tg3 := there_sees Tg3 Lg3 Sw24
    replace Rg4_0 := range_sees Rg4_0 Lg4 Sw24
    replace Tg4 := there_sees Tg4 Lg4 Sw24
    replace Rg5_0 := range_sees Rg5_0 Lg5 Sw24
    replace Tg5 := there_sees Tg5 Lg5 Sw24
    replace Rg9_0 := range_sees Rg9_0 Lg9 Sw24
    replace Tg9 := there_sees Tg9 Lg9 Sw24
    replace Lg3 := Nat.lt_of_lt_of_le Lg3 Sw24.2.2.size
    replace Lg4 := Nat.lt_of_lt_of_le Lg4 Sw24.2.2.size
    replace Lg5 := Nat.lt_of_lt_of_le Lg5 Sw24.2.2.size
    replace Lg9 := Nat.lt_of_lt_of_le Lg9 Sw24.2.2.size
    replace BE := BE.trans (Sw24.2.2.mono BE.size)
    refine wpL_store (g := g5) (off := 0) (n := 4) (cs := fel (restS (x + y))) (by rfl) (by rfl) (by rfl) (by rfl) (by rfl) Tg5 (by simp [flen]) info24 (fel_one _) (fun w25 Pw25 RR TT => ?_)
    replace Rg3_0 := Pw25.range Rg3_0 (.inl Ng3_g5)
    replace Tg3 := Pw25.other_there Tg3 Ng3_g5
    replace Rg4_0 := Pw25.range Rg4_0 (.inl Ng4_g5)
    replace Tg4 := Pw25.other_there Tg4 Ng4_g5
    replace Rg9_0 := Pw25.range Rg9_0 (.inl (Ne.symm Ng5_g9))
    replace Tg9 := Pw25.other_there Tg9 (Ne.symm Ng5_g9)
    replace Rg5_0 := RR
    clear RR
    replace Tg5 := TT
    replace Lg3 := Pw25.lt Lg3
    replace Lg4 := Pw25.lt Lg4
    replace Lg5 := Pw25.lt Lg5
    replace Lg9 := Pw25.lt Lg9
    replace BE := Pw25.below BE Gg5
    refine wpL_nil (no_panic ?_)
    refine hK22 _ _ ?_
    refine wp_ret ?_
    repeat (first | with_reducible refine then_ret ?_ | with_reducible refine inblock_ret ?_)
    refine bodyPost_ret (v := fe (restS (x + y))) (res1 rfl (.cell (by rfl) (run_loadVar_mid _ _ _ _ (fel (restS (x + y))) _ Rg5_0 Try.underlying24 rfl info24))) rfl ?_
    exact ⟨rfl, BE⟩
  · skip
    have hi : i < 4 := of_decide_eq_true hc21
    refine wp_cond_true rfl ?_
    refine wp_skip ?_
    refine hK20 _ _ ?_
    refine wp_seq_k (fun K26 hK26 => ?_)
    refine wp_block ?_
    refine wp_seq_k (fun K27 hK27 => ?_)
    refine wp_region_plain 1 (by kernel_rfl) (fun Lk hLk => ?_)
    simp only [List.take, List.drop]
    refine wpV_move (v := .int .i64 ((i : Nat) : Int)) (by rfl) rfl rfl ?_
    simp only [putT, List.set]
    refine wpV_nil (hLk.out _ ?_)
    clear hLk Lk
    simp only [List.take, List.drop]
    iterate 1 refine wpN_skip (by rfl) ?_
    refine wpN_nil (fun w29 Sw29 hbs => ?_)
    clear hbs
    replace Rg3_0 := range_sees Rg3_0 Lg3 Sw29
    replace Tg3 := there_sees Tg3 Lg3 Sw29
    replace Rg4_0 := range_sees Rg4_0 Lg4 Sw29
    replace Tg4 := there_sees Tg4 Lg4 Sw29
    replace Rg5_0 := range_sees Rg5_0 Lg5 Sw29
    replace Tg5 := there_sees Tg5 Lg5 Sw29
    replace Rg9_0 := range_sees Rg9_0 Lg9 Sw29
    replace Tg9 := there_sees Tg9 Lg9 Sw29
    replace Lg3 := Nat.lt_of_lt_of_le Lg3 Sw29.2.2.size
    replace Lg4 := Nat.lt_of_lt_of_le Lg4 Sw29.2.2.size
    replace Lg5 := Nat.lt_of_lt_of_le Lg5 Sw29.2.2.size
    replace Lg9 := Nat.lt_of_lt_of_le Lg9 Sw29.2.2.size
    replace BE := BE.trans (Sw29.2.2.mono BE.size)
    refine wpL_assign (v := .int .i64 ((i : Nat) : Int)) (by rfl) (by rfl) (by rfl) ?_
    simp only [putT, List.set]
    refine wpL_nil (no_panic ?_)
    refine hK27 _ _ ?_
    refine wp_seq_k (fun K30 hK30 => ?_)
    refine wp_region_grow 10 [9] (by kernel_rfl) (by kernel_rfl) (by kernel_rfl) (fun Lk hLk => ?_)
    simp only [List.take, List.drop]
    refine wpV_move (v := .int .i64 ((i : Nat) : Int)) (by rfl) rfl rfl ?_
    simp only [putT, List.set]
    refine wpV_idx (n := i) (by rfl) rfl rfl rfl Try.underlying24 info22 (by omega) ?_
    simp only [Nat.zero_add]
    simp only [putT, List.set]
    refine wpV_load1 (v := .int .u64 ((limbN x i : Nat) : Int)) (by rfl) rfl rfl (by have := Rg3_0 _ _ (fel_get (j := i) x (by omega)); rwa [Nat.zero_add] at this) Lg3 Try.underlying22 rfl ?_
    simp only [putT, List.set]
    refine wpV_move (v := .int .i64 ((i : Nat) : Int)) (by rfl) rfl rfl ?_
    simp only [putT, List.set]
    refine wpV_idx (n := i) (by rfl) rfl rfl rfl Try.underlying24 info22 (by omega) ?_
    simp only [Nat.zero_add]
    simp only [putT, List.set]
    refine wpV_load1 (v := .int .u64 ((limbN y i : Nat) : Int)) (by rfl) rfl rfl (by have := Rg4_0 _ _ (fel_get (j := i) y (by omega)); rwa [Nat.zero_add] at this) Lg4 Try.underlying22 rfl ?_
    simp only [putT, List.set]
    refine wpV_ext (v := .tuple #[.int .u64 (((limbN x i + limbN y i) % 18446744073709551616 : Nat) : Int), .int .u64 (((limbN x i + limbN y i) / 18446744073709551616 : Nat) : Int)]) (f := 43) (args := #[.int .u64 ((limbN x i : Nat) : Int), .int .u64 ((limbN y i : Nat) : Int), .int .u64 0]) (by rfl) rfl rfl (addN (x := limbN x i) (y := limbN y i) (c := 0) (limbN_lt _ _) (limbN_lt _ _) (by omega)) ?_
    simp only [putT, List.set]
    refine wpV_move (v := .tuple #[.int .u64 (((limbN x i + limbN y i) % 18446744073709551616 : Nat) : Int), .int .u64 (((limbN x i + limbN y i) / 18446744073709551616 : Nat) : Int)]) (by rfl) rfl rfl ?_
    simp only [putT, List.set]
    refine wpV_extract (v := .int .u64 (((limbN x i + limbN y i) % 18446744073709551616 : Nat) : Int)) (by rfl) rfl rfl rfl ?_
    simp only [putT, List.set]
    refine wpV_extract (v := .int .u64 (((limbN x i + limbN y i) / 18446744073709551616 : Nat) : Int)) (by rfl) rfl rfl rfl ?_
    simp only [putT, List.set]
    refine wpV_nil (hLk.out _ ?_)
    clear hLk Lk
    simp only [List.take, List.drop]
    iterate 10 refine wpN_skip (by rfl) ?_
    refine wpN_nil (fun w32 Sw32 hbs => ?_)
    clear hbs
    replace Rg3_0 := range_sees Rg3_0 Lg3 Sw32
    replace Tg3 := there_sees Tg3 Lg3 Sw32
    replace Rg4_0 := range_sees Rg4_0 Lg4 Sw32
    replace Tg4 := there_sees Tg4 Lg4 Sw32
    replace Rg5_0 := range_sees Rg5_0 Lg5 Sw32
    replace Tg5 := there_sees Tg5 Lg5 Sw32
    replace Rg9_0 := range_sees Rg9_0 Lg9 Sw32
    replace Tg9 := there_sees Tg9 Lg9 Sw32
    replace Lg3 := Nat.lt_of_lt_of_le Lg3 Sw32.2.2.size
    replace Lg4 := Nat.lt_of_lt_of_le Lg4 Sw32.2.2.size
    replace Lg5 := Nat.lt_of_lt_of_le Lg5 Sw32.2.2.size
    replace Lg9 := Nat.lt_of_lt_of_le Lg9 Sw32.2.2.size
    replace BE := BE.trans (Sw32.2.2.mono BE.size)
    refine wpL_assign (v := .int .u64 (((limbN x i + limbN y i) % 18446744073709551616 : Nat) : Int)) (by rfl) (by rfl) (by rfl) ?_
    simp only [putT, List.set]
    refine wpL_assign (v := .int .u64 (((limbN x i + limbN y i) / 18446744073709551616 : Nat) : Int)) (by rfl) (by rfl) (by rfl) ?_
    simp only [putT, List.set]
    refine wpL_nil (no_panic ?_)
    refine hK30 _ _ ?_
    refine wp_seq_k (fun K33 hK33 => ?_)
    refine wp_region_plain 8 (by kernel_rfl) (fun Lk hLk => ?_)
    simp only [List.take, List.drop]
    refine wpV_move (v := .int .u64 (((limbN x i + limbN y i) % 18446744073709551616 : Nat) : Int)) (by rfl) rfl rfl ?_
    simp only [putT, List.set]
    refine wpV_move (v := .int .i64 ((i : Nat) : Int)) (by rfl) rfl rfl ?_
    simp only [putT, List.set]
    refine wpV_idx (n := i) (by rfl) rfl rfl rfl Try.underlying52 info22 (by omega) ?_
    simp only [Nat.zero_add]
    simp only [putT, List.set]
    refine wpV_load1 (v := .int .u64 ((limbN M i : Nat) : Int)) (by rfl) rfl rfl (by have := Rg9_0 _ _ (wl_get (j := i) 5 M (by omega)); rwa [Nat.zero_add] at this) Lg9 Try.underlying22 rfl ?_
    simp only [putT, List.set]
    refine wpV_ext (v := .tuple #[.int .u64 ((((limbN x i + limbN y i) % 18446744073709551616 + limbN M i) % 18446744073709551616 : Nat) : Int), .int .u64 ((((limbN x i + limbN y i) % 18446744073709551616 + limbN M i) / 18446744073709551616 : Nat) : Int)]) (f := 43) (args := #[.int .u64 (((limbN x i + limbN y i) % 18446744073709551616 : Nat) : Int), .int .u64 ((limbN M i : Nat) : Int), .int .u64 0]) (by rfl) rfl rfl (addN (x := (limbN x i + limbN y i) % 18446744073709551616) (y := limbN M i) (c := 0) (Nat.mod_lt _ (by decide)) (limbN_lt _ _) (by omega)) ?_
    simp only [putT, List.set]
    refine wpV_move (v := .tuple #[.int .u64 ((((limbN x i + limbN y i) % 18446744073709551616 + limbN M i) % 18446744073709551616 : Nat) : Int), .int .u64 ((((limbN x i + limbN y i) % 18446744073709551616 + limbN M i) / 18446744073709551616 : Nat) : Int)]) (by rfl) rfl rfl ?_
    simp only [putT, List.set]
    refine wpV_extract (v := .int .u64 ((((limbN x i + limbN y i) % 18446744073709551616 + limbN M i) % 18446744073709551616 : Nat) : Int)) (by rfl) rfl rfl rfl ?_
    simp only [putT, List.set]
    refine wpV_extract (v := .int .u64 ((((limbN x i + limbN y i) % 18446744073709551616 + limbN M i) / 18446744073709551616 : Nat) : Int)) (by rfl) rfl rfl rfl ?_
    simp only [putT, List.set]
    refine wpV_nil (hLk.out _ ?_)
    clear hLk Lk
    simp only [List.take, List.drop]
    iterate 8 refine wpN_skip (by rfl) ?_
    refine wpN_nil (fun w35 Sw35 hbs => ?_)
    clear hbs
    replace Rg3_0 := range_sees Rg3_0 Lg3 Sw35
    replace Tg3 := there_sees Tg3 Lg3 Sw35
    replace Rg4_0 := range_sees Rg4_0 Lg4 Sw35
    replace Tg4 := there_sees Tg4 Lg4 Sw35
    replace Rg5_0 := range_sees Rg5_0 Lg5 Sw35
    replace Tg5 := there_sees Tg5 Lg5 Sw35
    replace Rg9_0 := range_sees Rg9_0 Lg9 Sw35
    replace Tg9 := there_sees Tg9 Lg9 Sw35
    replace Lg3 := Nat.lt_of_lt_of_le Lg3 Sw35.2.2.size
    replace Lg4 := Nat.lt_of_lt_of_le Lg4 Sw35.2.2.size
    replace Lg5 := Nat.lt_of_lt_of_le Lg5 Sw35.2.2.size
    replace Lg9 := Nat.lt_of_lt_of_le Lg9 Sw35.2.2.size
    replace BE := BE.trans (Sw35.2.2.mono BE.size)
    refine wpL_assign (v := .int .u64 ((((limbN x i + limbN y i) % 18446744073709551616 + limbN M i) % 18446744073709551616 : Nat) : Int)) (by rfl) (by rfl) (by rfl) ?_
    simp only [putT, List.set]
    refine wpL_assign (v := .int .u64 ((((limbN x i + limbN y i) % 18446744073709551616 + limbN M i) / 18446744073709551616 : Nat) : Int)) (by rfl) (by rfl) (by rfl) ?_
    simp only [putT, List.set]
    refine wpL_nil (no_panic ?_)
    refine hK33 _ _ ?_
    refine wp_region_plain 8 (by kernel_rfl) (fun Lk hLk => ?_)
    simp only [List.take, List.drop]
    refine wpV_move (v := .int .i64 ((i : Nat) : Int)) (by rfl) rfl rfl ?_
    simp only [putT, List.set]
    refine wpV_move (v := .int .i64 ((i : Nat) : Int)) (by rfl) rfl rfl ?_
    simp only [putT, List.set]
    refine wpV_bin (v := .int .i64 ((i + 1 : Nat) : Int)) (by rfl) rfl rfl rfl (fun W => run_add (by simp only [IntKind.wrap_i64]; omega) W) ?_
    simp only [putT, List.set]
    refine wpV_move (v := .int .u64 ((((limbN x i + limbN y i) % 18446744073709551616 + limbN M i) % 18446744073709551616 : Nat) : Int)) (by rfl) rfl rfl ?_
    simp only [putT, List.set]
    refine wpV_move (v := .int .u64 (((limbN x i + limbN y i) / 18446744073709551616 : Nat) : Int)) (by rfl) rfl rfl ?_
    simp only [putT, List.set]
    refine wpV_move (v := .int .u64 ((((limbN x i + limbN y i) % 18446744073709551616 + limbN M i) / 18446744073709551616 : Nat) : Int)) (by rfl) rfl rfl ?_
    simp only [putT, List.set]
    refine wpV_bin (v := .int .u64 ((sumC x y i M : Nat) : Int)) (by rfl) rfl rfl rfl (fun W => run_add (by have := sumC_lt x y i M; unfold sumC at this ⊢; rw [wrap_u64]; omega) W) ?_
    simp only [putT, List.set]
    refine wpV_idx (n := i) (by rfl) rfl rfl rfl Try.underlying52 info22 (by omega) ?_
    simp only [Nat.zero_add]
    simp only [putT, List.set]
    refine wpV_nil (hLk.out _ ?_)
    clear hLk Lk
    simp only [List.take, List.drop]
    iterate 8 refine wpN_skip (by rfl) ?_
    refine wpN_nil (fun w37 Sw37 hbs => ?_)
    clear hbs
    replace Rg3_0 := range_sees Rg3_0 Lg3 Sw37
    replace Tg3 := there_sees Tg3 Lg3 Sw37
    replace Rg4_0 := range_sees Rg4_0 Lg4 Sw37
    replace Tg4 := there_sees Tg4 Lg4 Sw37
    replace Rg5_0 := range_sees Rg5_0 Lg5 Sw37
    replace Tg5 := there_sees Tg5 Lg5 Sw37
    replace Rg9_0 := range_sees Rg9_0 Lg9 Sw37
    replace Tg9 := there_sees Tg9 Lg9 Sw37
    replace Lg3 := Nat.lt_of_lt_of_le Lg3 Sw37.2.2.size
    replace Lg4 := Nat.lt_of_lt_of_le Lg4 Sw37.2.2.size
    replace Lg5 := Nat.lt_of_lt_of_le Lg5 Sw37.2.2.size
    replace Lg9 := Nat.lt_of_lt_of_le Lg9 Sw37.2.2.size
    replace BE := BE.trans (Sw37.2.2.mono BE.size)
    refine wpL_store1 (g := g9) (off := i) (n := 5) (v := .int .u64 ((((limbN x i + limbN y i) % 18446744073709551616 + limbN M i) % 18446744073709551616 : Nat) : Int)) (by rfl) (by rfl) (by rfl) (by rfl) (by rfl) Tg9 (by omega) info22 rfl (fun w38 Pw38 RR TT => ?_)
    replace Rg3_0 := Pw38.range Rg3_0 (.inl Ng3_g9)
    replace Tg3 := Pw38.other_there Tg3 Ng3_g9
    replace Rg4_0 := Pw38.range Rg4_0 (.inl Ng4_g9)
    replace Tg4 := Pw38.other_there Tg4 Ng4_g9
    replace Rg5_0 := Pw38.range Rg5_0 (.inl Ng5_g9)
    replace Tg5 := Pw38.other_there Tg5 Ng5_g9
    replace Rg9_0 := range_set Rg9_0 Pw38 RR
    clear RR
    replace Tg9 := TT
    replace Lg3 := Pw38.lt Lg3
    replace Lg4 := Pw38.lt Lg4
    replace Lg5 := Pw38.lt Lg5
    replace Lg9 := Pw38.lt Lg9
    replace BE := Pw38.below BE Gg9
    rw [show (((limbN x i + limbN y i) % 18446744073709551616 + limbN M i) % 18446744073709551616) = sumT x y i M from rfl, wl_set (sumM_eq x y i M) (sumT_lt x y i M)] at Rg9_0
    refine wpL_idx (n := i + 1) (by rfl) (by rfl) (by rfl) (by rfl) Try.underlying52 info22 (by omega) ?_
    simp only [Nat.zero_add]
    simp only [putT, List.set]
    refine wpL_store1 (g := g9) (off := i + 1) (n := 5) (v := .int .u64 ((sumC x y i M : Nat) : Int)) (by rfl) (by rfl) (by rfl) (by rfl) (by rfl) Tg9 (by omega) info22 rfl (fun w39 Pw39 RR TT => ?_)
    replace Rg3_0 := Pw39.range Rg3_0 (.inl Ng3_g9)
    replace Tg3 := Pw39.other_there Tg3 Ng3_g9
    replace Rg4_0 := Pw39.range Rg4_0 (.inl Ng4_g9)
    replace Tg4 := Pw39.other_there Tg4 Ng4_g9
    replace Rg5_0 := Pw39.range Rg5_0 (.inl Ng5_g9)
    replace Tg5 := Pw39.other_there Tg5 Ng5_g9
    replace Rg9_0 := range_set Rg9_0 Pw39 RR
    clear RR
    replace Tg9 := TT
    replace Lg3 := Pw39.lt Lg3
    replace Lg4 := Pw39.lt Lg4
    replace Lg5 := Pw39.lt Lg5
    replace Lg9 := Pw39.lt Lg9
    replace BE := Pw39.below BE Gg9
    rw [show (sumC x y i M) = sumC x y i M from rfl, wl_set (sumN_eq HS) (sumC_lt x y i M)] at Rg9_0
    refine wpL_nil (no_panic ?_)
    refine hK26 _ _ ?_
    refine wp_region_plain 1 (by kernel_rfl) (fun Lk hLk => ?_)
    simp only [List.take, List.drop]
    refine wpV_bin (v := .int .i64 ((i + 1 : Nat) : Int)) (by rfl) rfl rfl rfl (fun W => run_add (by simp only [IntKind.wrap_i64]; omega) W) ?_
    simp only [putT, List.set]
    refine wpV_nil (hLk.out _ ?_)
    clear hLk Lk
    simp only [List.take, List.drop]
    iterate 1 refine wpN_skip (by rfl) ?_
    refine wpN_nil (fun w41 Sw41 hbs => ?_)
    clear hbs
    replace Rg3_0 := range_sees Rg3_0 Lg3 Sw41
    replace Tg3 := there_sees Tg3 Lg3 Sw41
    replace Rg4_0 := range_sees Rg4_0 Lg4 Sw41
    replace Tg4 := there_sees Tg4 Lg4 Sw41
    replace Rg5_0 := range_sees Rg5_0 Lg5 Sw41
    replace Tg5 := there_sees Tg5 Lg5 Sw41
    replace Rg9_0 := range_sees Rg9_0 Lg9 Sw41
    replace Tg9 := there_sees Tg9 Lg9 Sw41
    replace Lg3 := Nat.lt_of_lt_of_le Lg3 Sw41.2.2.size
    replace Lg4 := Nat.lt_of_lt_of_le Lg4 Sw41.2.2.size
    replace Lg5 := Nat.lt_of_lt_of_le Lg5 Sw41.2.2.size
    replace Lg9 := Nat.lt_of_lt_of_le Lg9 Sw41.2.2.size
    replace BE := BE.trans (Sw41.2.2.mono BE.size)
    refine wpL_move (v := .int .i64 ((i + 1 : Nat) : Int)) (by rfl) (by rfl) (by rfl) ?_
    simp only [putT, List.set]
    refine wpL_nil (no_panic ?_)
    refine Exists.intro _ ⟨?_, (i + 1), (sumN x y i M), (fun q9 => (#[undef, undef, undef, undef, undef, undef, .int .i64 ((i : Nat) : Int), .int .u64 (((limbN x i + limbN y i) % 18446744073709551616 : Nat) : Int), .int .u64 (((limbN x i + limbN y i) / 18446744073709551616 : Nat) : Int), .int .u64 ((((limbN x i + limbN y i) % 18446744073709551616 + limbN M i) % 18446744073709551616 : Nat) : Int), .int .u64 ((((limbN x i + limbN y i) % 18446744073709551616 + limbN M i) / 18446744073709551616 : Nat) : Int), undef, .bool true, .int .i64 ((i : Nat) : Int), .tuple #[.int .u64 (((limbN x i + limbN y i) % 18446744073709551616 : Nat) : Int), .int .u64 (((limbN x i + limbN y i) / 18446744073709551616 : Nat) : Int)], .int .i64 ((i : Nat) : Int), .pointer (some ⟨g3, i, none⟩), .int .u64 ((limbN x i : Nat) : Int), .int .i64 ((i : Nat) : Int), .pointer (some ⟨g4, i, none⟩), .int .u64 ((limbN y i : Nat) : Int), .tuple #[.int .u64 (((limbN x i + limbN y i) % 18446744073709551616 : Nat) : Int), .int .u64 (((limbN x i + limbN y i) / 18446744073709551616 : Nat) : Int)], .int .u64 (((limbN x i + limbN y i) % 18446744073709551616 : Nat) : Int), .int .u64 (((limbN x i + limbN y i) / 18446744073709551616 : Nat) : Int), .tuple #[.int .u64 ((((limbN x i + limbN y i) % 18446744073709551616 + limbN M i) % 18446744073709551616 : Nat) : Int), .int .u64 ((((limbN x i + limbN y i) % 18446744073709551616 + limbN M i) / 18446744073709551616 : Nat) : Int)], .int .u64 (((limbN x i + limbN y i) % 18446744073709551616 : Nat) : Int), .int .i64 ((i : Nat) : Int), .pointer (some ⟨g9, i, none⟩), .int .u64 ((limbN M i : Nat) : Int), .tuple #[.int .u64 ((((limbN x i + limbN y i) % 18446744073709551616 + limbN M i) % 18446744073709551616 : Nat) : Int), .int .u64 ((((limbN x i + limbN y i) % 18446744073709551616 + limbN M i) / 18446744073709551616 : Nat) : Int)], .int .u64 ((((limbN x i + limbN y i) % 18446744073709551616 + limbN M i) % 18446744073709551616 : Nat) : Int), .int .u64 ((((limbN x i + limbN y i) % 18446744073709551616 + limbN M i) / 18446744073709551616 : Nat) : Int), .int .i64 ((i : Nat) : Int), .int .i64 ((i : Nat) : Int), .int .i64 ((i + 1 : Nat) : Int), .int .u64 ((((limbN x i + limbN y i) % 18446744073709551616 + limbN M i) % 18446744073709551616 : Nat) : Int), .int .u64 (((limbN x i + limbN y i) / 18446744073709551616 : Nat) : Int), .int .u64 ((((limbN x i + limbN y i) % 18446744073709551616 + limbN M i) / 18446744073709551616 : Nat) : Int), .int .u64 ((sumC x y i M : Nat) : Int), .pointer (some ⟨g9, i, none⟩), .pointer (some ⟨g9, i + 1, none⟩), .int .i64 ((i + 1 : Nat) : Int)] : Array Value).getD q9 undef), rfl, rfl, BE, Rg3_0, Tg3, Lg3, Rg4_0, Tg4, Lg4, Rg5_0, Tg5, Lg5, Rg9_0, Tg9, Lg9, (by omega), (sum_step HS)⟩
    omega
end Go.Proofs.Ya
