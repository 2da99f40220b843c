import Derived.Test.YtdcmmnindlhghaaF4
import Derived.Test.YtdcmmnindlhghaaNumE
set_option linter.unusedSimpArgs false
set_option linter.unusedVariables false
namespace Go.Proofs.Ya
open Go Go.RowKit Go.Shelf Go.Proofs.Num
open List renaming set → Z0, take → Z1, drop → Z2
open Go renaming undef → Z3, wp_seq_k → Z4, wp_cond_true → Z5, wp_cond_false → Z6
open Go.Proofs.Num renaming putT → Z7, wpL_nil → Z9, no_panic → Z10, wpL_assign → Z13, wpV_nil → Z14, wpV_bin → Z15, wpV_move → Z16, wpL_store1 → Z18, wpV_callf → Z20
set_option maxHeartbeats 1000000 in
theorem fmul_c {x : Nat} (hx : x < 2 ^ 256) {y : Nat} (hy : y < 2 ^ 256) (w : World) :
  Calls Try.prog 39 #[fe x, fe y] w fun e w' => e = .returned (fe (fmul x y)) ∧ Below w.heap.size w w' := by
 go_enter Try.func39, Try.ntmps39
 have BE := Below.refl w.heap.size w
 refine Z4 (fun K1 hK1 => ?_)
 refine wp_region_plain 3 (by kernel_rfl) (fun Lk hLk => ?_)
 simp only [Z1,Z2]
 refine wpV_alloc (by rfl) ?_
 refine wpV_alloc (by rfl) ?_
 refine wpV_alloc (by rfl) ?_
 refine Z14 (hLk.out _ ?_)
 clear hLk Lk
 simp only [Z1,Z2]
 refine wpN_new (t := 24) (cs := (fel x).toArray) (by rfl) (fun W => ?_) (fun g3 Hg3 ng3 => ?_)
 ·
  (first | rfl | go_simp)
 refine wpN_new (t := 24) (cs := (fel y).toArray) (by rfl) (fun W => ?_) (fun g4 Hg4 ng4 => ?_)
 ·
  (first | rfl | go_simp)
 refine wpN_new (t := 24) (cs := ([.int .u64 0, .int .u64 0, .int .u64 0, .int .u64 0]).toArray) (by rfl) (fun W => ?_) (fun g5 Hg5 ng5 => ?_)
 ·
  go_simp
 simp only [Z7,Z0]
 refine wpN_nil (fun w6 Sw6 hbs => ?_)
 have Bg3 : Blk w6 g3 24 (fel x).toArray := hbs _ (List.mem_cons_of_mem _ (List.mem_cons_of_mem _ (List.mem_cons_self ..)))
 have Bg4 : Blk w6 g4 24 (fel y).toArray := hbs _ (List.mem_cons_of_mem _ (List.mem_cons_self ..))
 have Bg5 : Blk w6 g5 24 ([.int .u64 0, .int .u64 0, .int .u64 0, .int .u64 0]).toArray := hbs _ (List.mem_cons_self ..)
 clear hbs
 have Gg3 : w.heap.size ≤ g3 := Nat.le_trans BE.size Hg3
 have Ng3_g4 : g3 ≠ g4 := ng4 (g3, _, _) (List.mem_cons_self ..)
 have Gg4 : w.heap.size ≤ g4 := Nat.le_trans BE.size Hg4
 have Ng3_g5 : g3 ≠ g5 := ng5 (g3, _, _) (List.mem_cons_of_mem _ (List.mem_cons_self ..))
 have Ng4_g5 : g4 ≠ g5 := ng5 (g4, _, _) (List.mem_cons_self ..)
 have Gg5 : w.heap.size ≤ g5 := Nat.le_trans BE.size Hg5
 replace BE := BE.trans (Sw6.2.2.mono BE.size)
 have Tg3 := blk_there Bg3 (n := 4) (by simp [flen])
 have Rg3_0 := blk_range Bg3 (l := fel x) rfl
 have Lg3 := Bg3.lt
 have Tg4 := blk_there Bg4 (n := 4) (by simp [flen])
 have Rg4_0 := blk_range Bg4 (l := fel y) rfl
 have Lg4 := Bg4.lt
 have Tg5 := blk_there Bg5 (n := 4) (by simp [flen])
 have Rg5_0 := blk_range Bg5 (l := [.int .u64 0, .int .u64 0, .int .u64 0, .int .u64 0]) rfl
 have Lg5 := Bg5.lt
 clear ng3 ng4 ng5 Bg3 Bg4 Bg5
 refine Z9 (Z10 ?_)
 refine hK1 _ _ ?_
 refine Z4 (fun K7 hK7 => ?_)
 refine wp_region_plain 8 (by kernel_rfl) (fun Lk hLk => ?_)
 simp only [Z1,Z2]
 refine wpV_load (cs := fel x) (by rfl) rfl rfl Rg3_0 Lg3 Try.underlying24 rfl info24 ?_
 simp only [Z7,Z0]
 refine wpV_load (cs := fel y) (by rfl) rfl rfl Rg4_0 Lg4 Try.underlying24 rfl info24 ?_
 simp only [Z7,Z0]
 refine Z20 (v := .tuple #[fe (mulLo x y), fe (mulHi x y)]) (args := #[fe x, fe y]) (by rfl) rfl Try.func75 (by kernel_rfl) (by kernel_rfl) rfl (fun W hW => wide_c hx hy W) ?_
 simp only [Z7,Z0]
 refine Z16 (v := .tuple #[fe (mulLo x y), fe (mulHi x y)]) (by rfl) rfl rfl ?_
 simp only [Z7,Z0]
 refine wpV_extract (v := fe (mulLo x y)) (by rfl) rfl rfl rfl ?_
 simp only [Z7,Z0]
 refine wpV_extract (v := fe (mulHi x y)) (by rfl) rfl rfl rfl ?_
 simp only [Z7,Z0]
 refine wpV_alloc (by rfl) ?_
 refine wpV_alloc (by rfl) ?_
 refine Z14 (hLk.out _ ?_)
 clear hLk Lk
 simp only [Z1,Z2]
 iterate 6 refine wpN_skip (by rfl) ?_
 refine wpN_new (t := 24) (cs := ([.int .u64 0, .int .u64 0, .int .u64 0, .int .u64 0]).toArray) (by rfl) (fun W => ?_) (fun g9 Hg9 ng9 => ?_)
 ·
  go_simp
 refine wpN_new (t := 24) (cs := ([.int .u64 0, .int .u64 0, .int .u64 0, .int .u64 0]).toArray) (by rfl) (fun W => ?_) (fun g10 Hg10 ng10 => ?_)
 ·
  go_simp
 simp only [Z7,Z0]
 refine wpN_nil (fun w11 Sw11 hbs => ?_)
 have Bg9 : Blk w11 g9 24 ([.int .u64 0, .int .u64 0, .int .u64 0, .int .u64 0]).toArray := hbs _ (List.mem_cons_of_mem _ (List.mem_cons_self ..))
 have Bg10 : Blk w11 g10 24 ([.int .u64 0, .int .u64 0, .int .u64 0, .int .u64 0]).toArray := hbs _ (List.mem_cons_self ..)
 clear hbs
 have Ng3_g9 : g3 ≠ g9 := Nat.ne_of_lt (Nat.lt_of_lt_of_le Lg3 Hg9)
 have Ng4_g9 : g4 ≠ g9 := Nat.ne_of_lt (Nat.lt_of_lt_of_le Lg4 Hg9)
 have Ng5_g9 : g5 ≠ g9 := Nat.ne_of_lt (Nat.lt_of_lt_of_le Lg5 Hg9)
 have Gg9 : w.heap.size ≤ g9 := Nat.le_trans BE.size Hg9
 have Ng3_g10 : g3 ≠ g10 := Nat.ne_of_lt (Nat.lt_of_lt_of_le Lg3 Hg10)
 have Ng4_g10 : g4 ≠ g10 := Nat.ne_of_lt (Nat.lt_of_lt_of_le Lg4 Hg10)
 have Ng5_g10 : g5 ≠ g10 := Nat.ne_of_lt (Nat.lt_of_lt_of_le Lg5 Hg10)
 have Ng9_g10 : g9 ≠ g10 := ng10 (g9, _, _) (List.mem_cons_self ..)
 have Gg10 : w.heap.size ≤ g10 := Nat.le_trans BE.size Hg10
 replace Rg3_0 := range_sees Rg3_0 Lg3 Sw11
 replace Tg3 := there_sees Tg3 Lg3 Sw11
 replace Rg4_0 := range_sees Rg4_0 Lg4 Sw11
 replace Tg4 := there_sees Tg4 Lg4 Sw11
 replace Rg5_0 := range_sees Rg5_0 Lg5 Sw11
 replace Tg5 := there_sees Tg5 Lg5 Sw11
 replace Lg3 := Nat.lt_of_lt_of_le Lg3 Sw11.2.2.size
 replace Lg4 := Nat.lt_of_lt_of_le Lg4 Sw11.2.2.size
 replace Lg5 := Nat.lt_of_lt_of_le Lg5 Sw11.2.2.size
 replace BE := BE.trans (Sw11.2.2.mono BE.size)
 have Tg9 := blk_there Bg9 (n := 4) (by simp [flen])
 have Rg9_0 := blk_range Bg9 (l := [.int .u64 0, .int .u64 0, .int .u64 0, .int .u64 0]) rfl
 have Lg9 := Bg9.lt
 have Tg10 := blk_there Bg10 (n := 4) (by simp [flen])
 have Rg10_0 := blk_range Bg10 (l := [.int .u64 0, .int .u64 0, .int .u64 0, .int .u64 0]) rfl
 have Lg10 := Bg10.lt
 clear ng9 ng10 Bg9 Bg10
 refine wpL_store (g := g9) (off := 0) (n := 4) (cs := fel (mulLo x y)) (by rfl) (by rfl) (by rfl) (by rfl) (by rfl) Tg9 (by simp [flen]) info24 (fel_one _) (fun w12 Pw12 RR TT => ?_)
 replace Rg3_0 := Pw12.range Rg3_0 (.inl Ng3_g9)
 replace Tg3 := Pw12.other_there Tg3 Ng3_g9
 replace Rg4_0 := Pw12.range Rg4_0 (.inl Ng4_g9)
 replace Tg4 := Pw12.other_there Tg4 Ng4_g9
 replace Rg5_0 := Pw12.range Rg5_0 (.inl Ng5_g9)
 replace Tg5 := Pw12.other_there Tg5 Ng5_g9
 replace Rg10_0 := Pw12.range Rg10_0 (.inl (Ne.symm Ng9_g10))
 replace Tg10 := Pw12.other_there Tg10 (Ne.symm Ng9_g10)
 replace Rg9_0 := RR
 clear RR
 replace Tg9 := TT
 replace Lg3 := Pw12.lt Lg3
 replace Lg4 := Pw12.lt Lg4
 replace Lg5 := Pw12.lt Lg5
 replace Lg9 := Pw12.lt Lg9
 replace Lg10 := Pw12.lt Lg10
 replace BE := Pw12.below BE Gg9
 refine wpL_store (g := g10) (off := 0) (n := 4) (cs := fel (mulHi x y)) (by rfl) (by rfl) (by rfl) (by rfl) (by rfl) Tg10 (by simp [flen]) info24 (fel_one _) (fun w13 Pw13 RR TT => ?_)
 replace Rg3_0 := Pw13.range Rg3_0 (.inl Ng3_g10)
 replace Tg3 := Pw13.other_there Tg3 Ng3_g10
 replace Rg4_0 := Pw13.range Rg4_0 (.inl Ng4_g10)
 replace Tg4 := Pw13.other_there Tg4 Ng4_g10
 replace Rg5_0 := Pw13.range Rg5_0 (.inl Ng5_g10)
 replace Tg5 := Pw13.other_there Tg5 Ng5_g10
 replace Rg9_0 := Pw13.range Rg9_0 (.inl Ng9_g10)
 replace Tg9 := Pw13.other_there Tg9 Ng9_g10
 replace Rg10_0 := RR
 clear RR
 replace Tg10 := TT
 replace Lg3 := Pw13.lt Lg3
 replace Lg4 := Pw13.lt Lg4
 replace Lg5 := Pw13.lt Lg5
 replace Lg9 := Pw13.lt Lg9
 replace Lg10 := Pw13.lt Lg10
 replace BE := Pw13.below BE Gg10
 refine Z9 (Z10 ?_)
 refine hK7 _ _ ?_
 refine Z4 (fun K14 hK14 => ?_)
 refine wp_region_plain 0 (by kernel_rfl) (fun Lk hLk => ?_)
 simp only [Z1,Z2]
 refine Z14 (hLk.out _ ?_)
 clear hLk Lk
 simp only [Z1,Z2]
 refine wpN_nil (fun w16 Sw16 hbs => ?_)
 clear hbs
 replace Rg3_0 := range_sees Rg3_0 Lg3 Sw16
 replace Tg3 := there_sees Tg3 Lg3 Sw16
 replace Rg4_0 := range_sees Rg4_0 Lg4 Sw16
 replace Tg4 := there_sees Tg4 Lg4 Sw16
 replace Rg5_0 := range_sees Rg5_0 Lg5 Sw16
 replace Tg5 := there_sees Tg5 Lg5 Sw16
 replace Rg9_0 := range_sees Rg9_0 Lg9 Sw16
 replace Tg9 := there_sees Tg9 Lg9 Sw16
 replace Rg10_0 := range_sees Rg10_0 Lg10 Sw16
 replace Tg10 := there_sees Tg10 Lg10 Sw16
 replace Lg3 := Nat.lt_of_lt_of_le Lg3 Sw16.2.2.size
 replace Lg4 := Nat.lt_of_lt_of_le Lg4 Sw16.2.2.size
 replace Lg5 := Nat.lt_of_lt_of_le Lg5 Sw16.2.2.size
 replace Lg9 := Nat.lt_of_lt_of_le Lg9 Sw16.2.2.size
 replace Lg10 := Nat.lt_of_lt_of_le Lg10 Sw16.2.2.size
 replace BE := BE.trans (Sw16.2.2.mono BE.size)
 refine Z13 (v := .int .u64 0) (by rfl) (by rfl) (by rfl) ?_
 simp only [Z7,Z0]
 refine Z9 (Z10 ?_)
 refine hK14 _ _ ?_
 refine Z4 (fun K17 hK17 => ?_)
 refine Z4 (fun K18 hK18 => ?_)
 refine wp_region_plain 2 (by kernel_rfl) (fun Lk hLk => ?_)
 simp only [Z1,Z2]
 refine wpV_load (cs := fel (mulHi x y)) (by rfl) rfl rfl Rg10_0 Lg10 Try.underlying24 rfl info24 ?_
 simp only [Z7,Z0]
 refine Z16 (v := .int .i64 0) (by rfl) rfl rfl ?_
 simp only [Z7,Z0]
 refine Z14 (hLk.out _ ?_)
 clear hLk Lk
 simp only [Z1,Z2]
 iterate 2 refine wpN_skip (by rfl) ?_
 refine wpN_nil (fun w20 Sw20 hbs => ?_)
 clear hbs
 replace Rg3_0 := range_sees Rg3_0 Lg3 Sw20
 replace Tg3 := there_sees Tg3 Lg3 Sw20
 replace Rg4_0 := range_sees Rg4_0 Lg4 Sw20
 replace Tg4 := there_sees Tg4 Lg4 Sw20
 replace Rg5_0 := range_sees Rg5_0 Lg5 Sw20
 replace Tg5 := there_sees Tg5 Lg5 Sw20
 replace Rg9_0 := range_sees Rg9_0 Lg9 Sw20
 replace Tg9 := there_sees Tg9 Lg9 Sw20
 replace Rg10_0 := range_sees Rg10_0 Lg10 Sw20
 replace Tg10 := there_sees Tg10 Lg10 Sw20
 replace Lg3 := Nat.lt_of_lt_of_le Lg3 Sw20.2.2.size
 replace Lg4 := Nat.lt_of_lt_of_le Lg4 Sw20.2.2.size
 replace Lg5 := Nat.lt_of_lt_of_le Lg5 Sw20.2.2.size
 replace Lg9 := Nat.lt_of_lt_of_le Lg9 Sw20.2.2.size
 replace Lg10 := Nat.lt_of_lt_of_le Lg10 Sw20.2.2.size
 replace BE := BE.trans (Sw20.2.2.mono BE.size)
 refine Z9 (Z10 ?_)
 refine hK18 _ _ ?_
 refine wp_block ?_
 refine wp_loop_ghost (fun n9 a9 W9 => ∃ (i : Nat) (M : Nat) (c : Nat) (u21 : Nat → Value), n9 = 4 - i ∧ a9 = { tmps := #[fe x, fe y, .pointer (some ⟨g3, 0, none⟩), .pointer (some ⟨g4, 0, none⟩), .pointer (some ⟨g5, 0, none⟩), .pointer (some ⟨g9, 0, none⟩), .pointer (some ⟨g10, 0, none⟩), .int .u64 ((c : Nat) : Int), u21 8, u21 9, u21 10, u21 11, u21 12, u21 13, u21 14, u21 15, .tuple #[fe (mulLo x y), fe (mulHi x y)], fe x, fe y, .tuple #[fe (mulLo x y), fe (mulHi x y)], fe (mulLo x y), fe (mulHi x y), fe (mulHi x y), .int .i64 ((i : Nat) : Int), u21 24, u21 25, u21 26, u21 27, u21 28, u21 29, u21 30, u21 31, u21 32, u21 33, u21 34, u21 35, u21 36, u21 37, u21 38, u21 39, u21 40, u21 41, u21 42, u21 43, u21 44, u21 45, u21 46, u21 47, u21 48, u21 49, u21 50, u21 51, u21 52, u21 53, u21 54, Z3, Z3, Z3], defers := [] } ∧ Below w.heap.size w W9 ∧ World.rangeAt W9 g3 0 (fel x) ∧ World.there W9 g3 0 4 ∧ g3 < W9.heap.size ∧ World.rangeAt W9 g4 0 (fel y) ∧ World.there W9 g4 0 4 ∧ g4 < W9.heap.size ∧ World.rangeAt W9 g5 0 ([.int .u64 0, .int .u64 0, .int .u64 0, .int .u64 0]) ∧ World.there W9 g5 0 4 ∧ g5 < W9.heap.size ∧ World.rangeAt W9 g9 0 (fel M) ∧ World.there W9 g9 0 4 ∧ g9 < W9.heap.size ∧ World.rangeAt W9 g10 0 (fel (mulHi x y)) ∧ World.there W9 g10 0 4 ∧ g10 < W9.heap.size ∧ (i ≤ 4) ∧ (BackInv (mulLo x y) (mulHi x y) i M c)) (4 - (0)) ?_ (fun n9 a9 W9 hI => ?_)
 ·
  exact ⟨0, (mulLo x y), 0, (fun q9 => (#[Z3, Z3, Z3, Z3, Z3, Z3, Z3, Z3, Z3, Z3, Z3, Z3, Z3, Z3, Z3, Z3, Z3, Z3, Z3, Z3, Z3, Z3, Z3, Z3, Z3, Z3, Z3, Z3, Z3, Z3, Z3, Z3, Z3, Z3, Z3, Z3, Z3, Z3, Z3, Z3, Z3, Z3, Z3, Z3, Z3, Z3, Z3, Z3, Z3, Z3, Z3, Z3, Z3, Z3, Z3] : Array Value).getD q9 Z3), rfl, rfl, BE, Rg3_0, Tg3, Lg3, Rg4_0, Tg4, Lg4, Rg5_0, Tg5, Lg5, Rg9_0, Tg9, Lg9, Rg10_0, Tg10, Lg10, (by omega), (back_start (mulLo_lt ..))⟩
 clear BE Rg3_0 Rg4_0 Rg5_0 Rg9_0 Rg10_0 Tg3 Tg4 Tg5 Tg9 Tg10 Lg3 Lg4 Lg5 Lg9 Lg10
 obtain ⟨i, M, c, u21, rfl, rfl, BE, Rg3_0, Tg3, Lg3, Rg4_0, Tg4, Lg4, Rg5_0, Tg5, Lg5, Rg9_0, Tg9, Lg9, Rg10_0, Tg10, Lg10, hi4, HW⟩ := hI
 obtain ⟨w22, rfl⟩ : ∃ W8, W8 = W9 := ⟨_, rfl⟩
 have hcw := HW.word
 refine Z4 (fun K23 hK23 => ?_)
 refine wp_region_plain 1 (by kernel_rfl) (fun Lk hLk => ?_)
 simp only [Z1,Z2]
 refine Z15 (v := .bool (decide (i < 4))) (by rfl) rfl rfl rfl (fun W => run_lssN i 4 _ _ W) ?_
 simp only [Z7,Z0]
 refine Z14 (hLk.out _ ?_)
 clear hLk Lk
 simp only [Z1,Z2]
 iterate 1 refine wpN_skip (by rfl) ?_
 refine wpN_nil (fun w25 Sw25 hbs => ?_)
 clear hbs
 replace Rg3_0 := range_sees Rg3_0 Lg3 Sw25
 replace Tg3 := there_sees Tg3 Lg3 Sw25
 replace Rg4_0 := range_sees Rg4_0 Lg4 Sw25
 replace Tg4 := there_sees Tg4 Lg4 Sw25
 replace Rg5_0 := range_sees Rg5_0 Lg5 Sw25
 replace Tg5 := there_sees Tg5 Lg5 Sw25
 replace Rg9_0 := range_sees Rg9_0 Lg9 Sw25
 replace Tg9 := there_sees Tg9 Lg9 Sw25
 replace Rg10_0 := range_sees Rg10_0 Lg10 Sw25
 replace Tg10 := there_sees Tg10 Lg10 Sw25
 replace Lg3 := Nat.lt_of_lt_of_le Lg3 Sw25.2.2.size
 replace Lg4 := Nat.lt_of_lt_of_le Lg4 Sw25.2.2.size
 replace Lg5 := Nat.lt_of_lt_of_le Lg5 Sw25.2.2.size
 replace Lg9 := Nat.lt_of_lt_of_le Lg9 Sw25.2.2.size
 replace Lg10 := Nat.lt_of_lt_of_le Lg10 Sw25.2.2.size
 replace BE := BE.trans (Sw25.2.2.mono BE.size)
 refine Z9 (Z10 ?_)
 refine hK23 _ _ ?_
 refine Z4 (fun K26 hK26 => ?_)
 cases hc27 : (decide (i < 4))
 ·
  have ei : i = 4 := by have := of_decide_eq_false hc27; omega
  subst ei
  refine Z6 rfl ?_
  refine wp_exit ?_
  refine hK17 _ _ ?_
  refine Z4 (fun K28 hK28 => ?_)
  refine wp_region_plain 3 (by kernel_rfl) (fun Lk hLk => ?_)
  simp only [Z1,Z2]
  refine wpV_load (cs := fel M) (by rfl) rfl rfl Rg9_0 Lg9 Try.underlying24 rfl info24 ?_
  simp only [Z7,Z0]
  refine Z16 (v := .int .u64 ((c : Nat) : Int)) (by rfl) rfl rfl ?_
  simp only [Z7,Z0]
  refine Z20 (v := fe (foldF M c)) (args := #[fe M, .int .u64 ((c : Nat) : Int)]) (by rfl) rfl Try.func76 (by kernel_rfl) (by kernel_rfl) rfl (fun W hW => folds_c HW.top HW.word W) ?_
  simp only [Z7,Z0]
  refine Z14 (hLk.out _ ?_)
  clear hLk Lk
  simp only [Z1,Z2]
  iterate 3 refine wpN_skip (by rfl) ?_
  refine wpN_nil (fun w30 Sw30 hbs => ?_)
  clear hbs
  replace Rg3_0 := range_sees Rg3_0 Lg3 Sw30
  replace Tg3 := there_sees Tg3 Lg3 Sw30
  replace Rg4_0 := range_sees Rg4_0 Lg4 Sw30
  replace Tg4 := there_sees Tg4 Lg4 Sw30
  replace Rg5_0 := range_sees Rg5_0 Lg5 Sw30
  replace Tg5 := there_sees Tg5 Lg5 Sw30
  replace Rg9_0 := range_sees Rg9_0 Lg9 Sw30
  replace Tg9 := there_sees Tg9 Lg9 Sw30
  replace Rg10_0 := range_sees Rg10_0 Lg10 Sw30
  replace Tg10 := there_sees Tg10 Lg10 Sw30
  replace Lg3 := Nat.lt_of_lt_of_le Lg3 Sw30.2.2.size
  replace Lg4 := Nat.lt_of_lt_of_le Lg4 Sw30.2.2.size
  replace Lg5 := Nat.lt_of_lt_of_le Lg5 Sw30.2.2.size
  replace Lg9 := Nat.lt_of_lt_of_le Lg9 Sw30.2.2.size
  replace Lg10 := Nat.lt_of_lt_of_le Lg10 Sw30.2.2.size
  replace BE := BE.trans (Sw30.2.2.mono BE.size)
  refine wpL_store (g := g5) (off := 0) (n := 4) (cs := fel (foldF M c)) (by rfl) (by rfl) (by rfl) (by rfl) (by rfl) Tg5 (by simp [flen]) info24 (fel_one _) (fun w31 Pw31 RR TT => ?_)
  replace Rg3_0 := Pw31.range Rg3_0 (.inl Ng3_g5)
  replace Tg3 := Pw31.other_there Tg3 Ng3_g5
  replace Rg4_0 := Pw31.range Rg4_0 (.inl Ng4_g5)
  replace Tg4 := Pw31.other_there Tg4 Ng4_g5
  replace Rg9_0 := Pw31.range Rg9_0 (.inl (Ne.symm Ng5_g9))
  replace Tg9 := Pw31.other_there Tg9 (Ne.symm Ng5_g9)
  replace Rg10_0 := Pw31.range Rg10_0 (.inl (Ne.symm Ng5_g10))
  replace Tg10 := Pw31.other_there Tg10 (Ne.symm Ng5_g10)
  replace Rg5_0 := RR
  clear RR
  replace Tg5 := TT
  replace Lg3 := Pw31.lt Lg3
  replace Lg4 := Pw31.lt Lg4
  replace Lg5 := Pw31.lt Lg5
  replace Lg9 := Pw31.lt Lg9
  replace Lg10 := Pw31.lt Lg10
  replace BE := Pw31.below BE Gg5
  refine Z9 (Z10 ?_)
  refine hK28 _ _ ?_
  refine wp_ret ?_
  repeat (first | with_reducible refine then_ret ?_ | with_reducible refine inblock_ret ?_)
  refine bodyPost_ret (v := fe (foldF M c)) (res1 rfl (.cell (by rfl) (run_loadVar_mid _ _ _ _ (fel (foldF M c)) _ Rg5_0 Try.underlying24 rfl info24))) rfl ?_
  exact ⟨by rw [back_end hx hy HW], BE⟩
 ·
  have hi : i < 4 := of_decide_eq_true hc27
  refine Z5 rfl ?_
  refine wp_skip ?_
  refine hK26 _ _ ?_
  refine Z4 (fun K32 hK32 => ?_)
  refine wp_block ?_
  refine Z4 (fun K33 hK33 => ?_)
  refine wp_region_plain 2 (by kernel_rfl) (fun Lk hLk => ?_)
  simp only [Z1,Z2]
  refine Z16 (v := .int .i64 ((i : Nat) : Int)) (by rfl) rfl rfl ?_
  simp only [Z7,Z0]
  refine wpV_index (n := i) (v := .int .u64 ((limbN (mulHi x y) i : Nat) : Int)) (by rfl) rfl rfl rfl Try.underlying24 info22 Try.underlying22 rfl (by omega) (fel_get (j := i) (mulHi x y) (by omega)) ?_
  simp only [Z7,Z0]
  refine Z14 (hLk.out _ ?_)
  clear hLk Lk
  simp only [Z1,Z2]
  iterate 2 refine wpN_skip (by rfl) ?_
  refine wpN_nil (fun w35 Sw35 hbs => ?_)
  clear hbs
  replace Rg3_0 := range_sees Rg3_0 Lg3 Sw35
  replace Tg3 := there_sees Tg3 Lg3 Sw35
  replace Rg4_0 := range_sees Rg4_0 Lg4 Sw35
  replace Tg4 := there_sees Tg4 Lg4 Sw35
  replace Rg5_0 := range_sees Rg5_0 Lg5 Sw35
  replace Tg5 := there_sees Tg5 Lg5 Sw35
  replace Rg9_0 := range_sees Rg9_0 Lg9 Sw35
  replace Tg9 := there_sees Tg9 Lg9 Sw35
  replace Rg10_0 := range_sees Rg10_0 Lg10 Sw35
  replace Tg10 := there_sees Tg10 Lg10 Sw35
  replace Lg3 := Nat.lt_of_lt_of_le Lg3 Sw35.2.2.size
  replace Lg4 := Nat.lt_of_lt_of_le Lg4 Sw35.2.2.size
  replace Lg5 := Nat.lt_of_lt_of_le Lg5 Sw35.2.2.size
  replace Lg9 := Nat.lt_of_lt_of_le Lg9 Sw35.2.2.size
  replace Lg10 := Nat.lt_of_lt_of_le Lg10 Sw35.2.2.size
  replace BE := BE.trans (Sw35.2.2.mono BE.size)
  refine Z13 (v := .int .i64 ((i : Nat) : Int)) (by rfl) (by rfl) (by rfl) ?_
  simp only [Z7,Z0]
  refine Z13 (v := .int .u64 ((limbN (mulHi x y) i : Nat) : Int)) (by rfl) (by rfl) (by rfl) ?_
  simp only [Z7,Z0]
  refine Z9 (Z10 ?_)
  refine hK33 _ _ ?_
  refine Z4 (fun K36 hK36 => ?_)
  refine wp_region_plain 5 (by kernel_rfl) (fun Lk hLk => ?_)
  simp only [Z1,Z2]
  refine Z16 (v := .int .u64 ((limbN (mulHi x y) i : Nat) : Int)) (by rfl) rfl rfl ?_
  simp only [Z7,Z0]
  refine Z20 (v := .tuple #[.int .u64 (((limbN (mulHi x y) i) * 38 / 18446744073709551616 : Nat) : Int), .int .u64 (((limbN (mulHi x y) i) * 38 % 18446744073709551616 : Nat) : Int)]) (args := #[.int .u64 ((limbN (mulHi x y) i : Nat) : Int), .int .u64 38]) (by rfl) rfl Try.func56 (by kernel_rfl) (by kernel_rfl) rfl (fun W hW => mul64_c (limbN_lt ..) (by decide) W) ?_
  simp only [Z7,Z0]
  refine Z16 (v := .tuple #[.int .u64 (((limbN (mulHi x y) i) * 38 / 18446744073709551616 : Nat) : Int), .int .u64 (((limbN (mulHi x y) i) * 38 % 18446744073709551616 : Nat) : Int)]) (by rfl) rfl rfl ?_
  simp only [Z7,Z0]
  refine wpV_extract (v := .int .u64 (((limbN (mulHi x y) i) * 38 / 18446744073709551616 : Nat) : Int)) (by rfl) rfl rfl rfl ?_
  simp only [Z7,Z0]
  refine wpV_extract (v := .int .u64 (((limbN (mulHi x y) i) * 38 % 18446744073709551616 : Nat) : Int)) (by rfl) rfl rfl rfl ?_
  simp only [Z7,Z0]
  refine Z14 (hLk.out _ ?_)
  clear hLk Lk
  simp only [Z1,Z2]
  iterate 5 refine wpN_skip (by rfl) ?_
  refine wpN_nil (fun w38 Sw38 hbs => ?_)
  clear hbs
  replace Rg3_0 := range_sees Rg3_0 Lg3 Sw38
  replace Tg3 := there_sees Tg3 Lg3 Sw38
  replace Rg4_0 := range_sees Rg4_0 Lg4 Sw38
  replace Tg4 := there_sees Tg4 Lg4 Sw38
  replace Rg5_0 := range_sees Rg5_0 Lg5 Sw38
  replace Tg5 := there_sees Tg5 Lg5 Sw38
  replace Rg9_0 := range_sees Rg9_0 Lg9 Sw38
  replace Tg9 := there_sees Tg9 Lg9 Sw38
  replace Rg10_0 := range_sees Rg10_0 Lg10 Sw38
  replace Tg10 := there_sees Tg10 Lg10 Sw38
  replace Lg3 := Nat.lt_of_lt_of_le Lg3 Sw38.2.2.size
  replace Lg4 := Nat.lt_of_lt_of_le Lg4 Sw38.2.2.size
  replace Lg5 := Nat.lt_of_lt_of_le Lg5 Sw38.2.2.size
  replace Lg9 := Nat.lt_of_lt_of_le Lg9 Sw38.2.2.size
  replace Lg10 := Nat.lt_of_lt_of_le Lg10 Sw38.2.2.size
  replace BE := BE.trans (Sw38.2.2.mono BE.size)
  refine Z13 (v := .int .u64 (((limbN (mulHi x y) i) * 38 / 18446744073709551616 : Nat) : Int)) (by rfl) (by rfl) (by rfl) ?_
  simp only [Z7,Z0]
  refine Z13 (v := .int .u64 (((limbN (mulHi x y) i) * 38 % 18446744073709551616 : Nat) : Int)) (by rfl) (by rfl) (by rfl) ?_
  simp only [Z7,Z0]
  refine Z9 (Z10 ?_)
  refine hK36 _ _ ?_
  refine Z4 (fun K39 hK39 => ?_)
  refine wp_region_plain 8 (by kernel_rfl) (fun Lk hLk => ?_)
  simp only [Z1,Z2]
  refine Z16 (v := .int .i64 ((i : Nat) : Int)) (by rfl) rfl rfl ?_
  simp only [Z7,Z0]
  refine wpV_idx (n := i) (by rfl) rfl rfl rfl Try.underlying24 info22 (by omega) ?_
  simp only [Nat.zero_add]
  simp only [Z7,Z0]
  refine wpV_load1 (v := .int .u64 ((limbN M i : Nat) : Int)) (by rfl) rfl rfl (by have := Rg9_0 _ _ (fel_get (j := i) M (by omega)); rwa [Nat.zero_add] at this) Lg9 Try.underlying22 rfl ?_
  simp only [Z7,Z0]
  refine Z16 (v := .int .u64 (((limbN (mulHi x y) i) * 38 % 18446744073709551616 : Nat) : Int)) (by rfl) rfl rfl ?_
  simp only [Z7,Z0]
  refine wpV_ext (v := .tuple #[.int .u64 (((limbN M i + (limbN (mulHi x y) i) * 38 % 18446744073709551616) % 18446744073709551616 : Nat) : Int), .int .u64 (((limbN M i + (limbN (mulHi x y) i) * 38 % 18446744073709551616) / 18446744073709551616 : Nat) : Int)]) (f := 54) (args := #[.int .u64 ((limbN M i : Nat) : Int), .int .u64 (((limbN (mulHi x y) i) * 38 % 18446744073709551616 : Nat) : Int), .int .u64 0]) (by rfl) rfl rfl (addN (x := limbN M i) (y := (limbN (mulHi x y) i) * 38 % 18446744073709551616) (c := 0) (limbN_lt ..) (Nat.mod_lt _ (by decide)) (by omega)) ?_
  simp only [Z7,Z0]
  refine Z16 (v := .tuple #[.int .u64 (((limbN M i + (limbN (mulHi x y) i) * 38 % 18446744073709551616) % 18446744073709551616 : Nat) : Int), .int .u64 (((limbN M i + (limbN (mulHi x y) i) * 38 % 18446744073709551616) / 18446744073709551616 : Nat) : Int)]) (by rfl) rfl rfl ?_
  simp only [Z7,Z0]
  refine wpV_extract (v := .int .u64 (((limbN M i + (limbN (mulHi x y) i) * 38 % 18446744073709551616) % 18446744073709551616 : Nat) : Int)) (by rfl) rfl rfl rfl ?_
  simp only [Z7,Z0]
  refine wpV_extract (v := .int .u64 (((limbN M i + (limbN (mulHi x y) i) * 38 % 18446744073709551616) / 18446744073709551616 : Nat) : Int)) (by rfl) rfl rfl rfl ?_
  simp only [Z7,Z0]
  refine Z14 (hLk.out _ ?_)
  clear hLk Lk
  simp only [Z1,Z2]
  iterate 8 refine wpN_skip (by rfl) ?_
  refine wpN_nil (fun w41 Sw41 hbs => ?_)
  clear hbs
  replace Rg3_0 := range_sees Rg3_0 Lg3 Sw41
  replace Tg3 := there_sees Tg3 Lg3 Sw41
  replace Rg4_0 := range_sees Rg4_0 Lg4 Sw41
  replace Tg4 := there_sees Tg4 Lg4 Sw41
  replace Rg5_0 := range_sees Rg5_0 Lg5 Sw41
  replace Tg5 := there_sees Tg5 Lg5 Sw41
  replace Rg9_0 := range_sees Rg9_0 Lg9 Sw41
  replace Tg9 := there_sees Tg9 Lg9 Sw41
  replace Rg10_0 := range_sees Rg10_0 Lg10 Sw41
  replace Tg10 := there_sees Tg10 Lg10 Sw41
  replace Lg3 := Nat.lt_of_lt_of_le Lg3 Sw41.2.2.size
  replace Lg4 := Nat.lt_of_lt_of_le Lg4 Sw41.2.2.size
  replace Lg5 := Nat.lt_of_lt_of_le Lg5 Sw41.2.2.size
  replace Lg9 := Nat.lt_of_lt_of_le Lg9 Sw41.2.2.size
  replace Lg10 := Nat.lt_of_lt_of_le Lg10 Sw41.2.2.size
  replace BE := BE.trans (Sw41.2.2.mono BE.size)
  refine Z13 (v := .int .u64 (((limbN M i + (limbN (mulHi x y) i) * 38 % 18446744073709551616) % 18446744073709551616 : Nat) : Int)) (by rfl) (by rfl) (by rfl) ?_
  simp only [Z7,Z0]
  refine Z13 (v := .int .u64 (((limbN M i + (limbN (mulHi x y) i) * 38 % 18446744073709551616) / 18446744073709551616 : Nat) : Int)) (by rfl) (by rfl) (by rfl) ?_
  simp only [Z7,Z0]
  refine Z9 (Z10 ?_)
  refine hK39 _ _ ?_
  refine Z4 (fun K42 hK42 => ?_)
  refine wp_region_plain 6 (by kernel_rfl) (fun Lk hLk => ?_)
  simp only [Z1,Z2]
  refine Z16 (v := .int .u64 (((limbN M i + (limbN (mulHi x y) i) * 38 % 18446744073709551616) % 18446744073709551616 : Nat) : Int)) (by rfl) rfl rfl ?_
  simp only [Z7,Z0]
  refine Z16 (v := .int .u64 ((c : Nat) : Int)) (by rfl) rfl rfl ?_
  simp only [Z7,Z0]
  refine wpV_ext (v := .tuple #[.int .u64 ((((limbN M i + (limbN (mulHi x y) i) * 38 % 18446744073709551616) % 18446744073709551616 + c) % 18446744073709551616 : Nat) : Int), .int .u64 ((((limbN M i + (limbN (mulHi x y) i) * 38 % 18446744073709551616) % 18446744073709551616 + c) / 18446744073709551616 : Nat) : Int)]) (f := 54) (args := #[.int .u64 (((limbN M i + (limbN (mulHi x y) i) * 38 % 18446744073709551616) % 18446744073709551616 : Nat) : Int), .int .u64 ((c : Nat) : Int), .int .u64 0]) (by rfl) rfl rfl (addN (x := (limbN M i + (limbN (mulHi x y) i) * 38 % 18446744073709551616) % 18446744073709551616) (y := c) (c := 0) (Nat.mod_lt _ (by decide)) (by omega) (by omega)) ?_
  simp only [Z7,Z0]
  refine Z16 (v := .tuple #[.int .u64 ((((limbN M i + (limbN (mulHi x y) i) * 38 % 18446744073709551616) % 18446744073709551616 + c) % 18446744073709551616 : Nat) : Int), .int .u64 ((((limbN M i + (limbN (mulHi x y) i) * 38 % 18446744073709551616) % 18446744073709551616 + c) / 18446744073709551616 : Nat) : Int)]) (by rfl) rfl rfl ?_
  simp only [Z7,Z0]
  refine wpV_extract (v := .int .u64 ((((limbN M i + (limbN (mulHi x y) i) * 38 % 18446744073709551616) % 18446744073709551616 + c) % 18446744073709551616 : Nat) : Int)) (by rfl) rfl rfl rfl ?_
  simp only [Z7,Z0]
  refine wpV_extract (v := .int .u64 ((((limbN M i + (limbN (mulHi x y) i) * 38 % 18446744073709551616) % 18446744073709551616 + c) / 18446744073709551616 : Nat) : Int)) (by rfl) rfl rfl rfl ?_
  simp only [Z7,Z0]
  refine Z14 (hLk.out _ ?_)
  clear hLk Lk
  simp only [Z1,Z2]
  iterate 6 refine wpN_skip (by rfl) ?_
  refine wpN_nil (fun w44 Sw44 hbs => ?_)
  clear hbs
  replace Rg3_0 := range_sees Rg3_0 Lg3 Sw44
  replace Tg3 := there_sees Tg3 Lg3 Sw44
  replace Rg4_0 := range_sees Rg4_0 Lg4 Sw44
  replace Tg4 := there_sees Tg4 Lg4 Sw44
  replace Rg5_0 := range_sees Rg5_0 Lg5 Sw44
  replace Tg5 := there_sees Tg5 Lg5 Sw44
  replace Rg9_0 := range_sees Rg9_0 Lg9 Sw44
  replace Tg9 := there_sees Tg9 Lg9 Sw44
  replace Rg10_0 := range_sees Rg10_0 Lg10 Sw44
  replace Tg10 := there_sees Tg10 Lg10 Sw44
  replace Lg3 := Nat.lt_of_lt_of_le Lg3 Sw44.2.2.size
  replace Lg4 := Nat.lt_of_lt_of_le Lg4 Sw44.2.2.size
  replace Lg5 := Nat.lt_of_lt_of_le Lg5 Sw44.2.2.size
  replace Lg9 := Nat.lt_of_lt_of_le Lg9 Sw44.2.2.size
  replace Lg10 := Nat.lt_of_lt_of_le Lg10 Sw44.2.2.size
  replace BE := BE.trans (Sw44.2.2.mono BE.size)
  refine Z13 (v := .int .u64 ((((limbN M i + (limbN (mulHi x y) i) * 38 % 18446744073709551616) % 18446744073709551616 + c) % 18446744073709551616 : Nat) : Int)) (by rfl) (by rfl) (by rfl) ?_
  simp only [Z7,Z0]
  refine Z13 (v := .int .u64 ((((limbN M i + (limbN (mulHi x y) i) * 38 % 18446744073709551616) % 18446744073709551616 + c) / 18446744073709551616 : Nat) : Int)) (by rfl) (by rfl) (by rfl) ?_
  simp only [Z7,Z0]
  refine Z9 (Z10 ?_)
  refine hK42 _ _ ?_
  refine wp_region_plain 8 (by kernel_rfl) (fun Lk hLk => ?_)
  simp only [Z1,Z2]
  refine Z16 (v := .int .i64 ((i : Nat) : Int)) (by rfl) rfl rfl ?_
  simp only [Z7,Z0]
  refine Z16 (v := .int .u64 ((((limbN M i + (limbN (mulHi x y) i) * 38 % 18446744073709551616) % 18446744073709551616 + c) % 18446744073709551616 : Nat) : Int)) (by rfl) rfl rfl ?_
  simp only [Z7,Z0]
  refine Z16 (v := .int .u64 (((limbN (mulHi x y) i) * 38 / 18446744073709551616 : Nat) : Int)) (by rfl) rfl rfl ?_
  simp only [Z7,Z0]
  refine Z16 (v := .int .u64 (((limbN M i + (limbN (mulHi x y) i) * 38 % 18446744073709551616) / 18446744073709551616 : Nat) : Int)) (by rfl) rfl rfl ?_
  simp only [Z7,Z0]
  refine Z15 (v := .int .u64 ((limbN (mulHi x y) i * 38 / 18446744073709551616 + (limbN M i + limbN (mulHi x y) i * 38 % 18446744073709551616) / 18446744073709551616 : Nat) : Int)) (by rfl) rfl rfl rfl (fun W => run_add (by have := (back_parts HW).2; unfold backC at this; rw [wrap_u64]; omega) W) ?_
  simp only [Z7,Z0]
  refine Z16 (v := .int .u64 ((((limbN M i + (limbN (mulHi x y) i) * 38 % 18446744073709551616) % 18446744073709551616 + c) / 18446744073709551616 : Nat) : Int)) (by rfl) rfl rfl ?_
  simp only [Z7,Z0]
  refine Z15 (v := .int .u64 ((backC (mulHi x y) i M c : Nat) : Int)) (by rfl) rfl rfl rfl (fun W => run_add (by have := (back_parts HW).2; unfold backC at this ⊢; rw [wrap_u64]; omega) W) ?_
  simp only [Z7,Z0]
  refine wpV_idx (n := i) (by rfl) rfl rfl rfl Try.underlying24 info22 (by omega) ?_
  simp only [Nat.zero_add]
  simp only [Z7,Z0]
  refine Z14 (hLk.out _ ?_)
  clear hLk Lk
  simp only [Z1,Z2]
  iterate 8 refine wpN_skip (by rfl) ?_
  refine wpN_nil (fun w46 Sw46 hbs => ?_)
  clear hbs
  replace Rg3_0 := range_sees Rg3_0 Lg3 Sw46
  replace Tg3 := there_sees Tg3 Lg3 Sw46
  replace Rg4_0 := range_sees Rg4_0 Lg4 Sw46
  replace Tg4 := there_sees Tg4 Lg4 Sw46
  replace Rg5_0 := range_sees Rg5_0 Lg5 Sw46
  replace Tg5 := there_sees Tg5 Lg5 Sw46
  replace Rg9_0 := range_sees Rg9_0 Lg9 Sw46
  replace Tg9 := there_sees Tg9 Lg9 Sw46
  replace Rg10_0 := range_sees Rg10_0 Lg10 Sw46
  replace Tg10 := there_sees Tg10 Lg10 Sw46
  replace Lg3 := Nat.lt_of_lt_of_le Lg3 Sw46.2.2.size
  replace Lg4 := Nat.lt_of_lt_of_le Lg4 Sw46.2.2.size
  replace Lg5 := Nat.lt_of_lt_of_le Lg5 Sw46.2.2.size
  replace Lg9 := Nat.lt_of_lt_of_le Lg9 Sw46.2.2.size
  replace Lg10 := Nat.lt_of_lt_of_le Lg10 Sw46.2.2.size
  replace BE := BE.trans (Sw46.2.2.mono BE.size)
  refine Z18 (g := g9) (off := i) (n := 4) (v := .int .u64 ((((limbN M i + (limbN (mulHi x y) i) * 38 % 18446744073709551616) % 18446744073709551616 + c) % 18446744073709551616 : Nat) : Int)) (by rfl) (by rfl) (by rfl) (by rfl) (by rfl) Tg9 (by omega) info22 rfl (fun w47 Pw47 RR TT => ?_)
  replace Rg3_0 := Pw47.range Rg3_0 (.inl Ng3_g9)
  replace Tg3 := Pw47.other_there Tg3 Ng3_g9
  replace Rg4_0 := Pw47.range Rg4_0 (.inl Ng4_g9)
  replace Tg4 := Pw47.other_there Tg4 Ng4_g9
  replace Rg5_0 := Pw47.range Rg5_0 (.inl Ng5_g9)
  replace Tg5 := Pw47.other_there Tg5 Ng5_g9
  replace Rg10_0 := Pw47.range Rg10_0 (.inl (Ne.symm Ng9_g10))
  replace Tg10 := Pw47.other_there Tg10 (Ne.symm Ng9_g10)
  replace Rg9_0 := range_set Rg9_0 Pw47 RR
  clear RR
  replace Tg9 := TT
  replace Lg3 := Pw47.lt Lg3
  replace Lg4 := Pw47.lt Lg4
  replace Lg5 := Pw47.lt Lg5
  replace Lg9 := Pw47.lt Lg9
  replace Lg10 := Pw47.lt Lg10
  replace BE := Pw47.below BE Gg9
  rw [← wl_fel M, show (((limbN M i + (limbN (mulHi x y) i) * 38 % 18446744073709551616) % 18446744073709551616 + c) % 18446744073709551616) = backLo (mulHi x y) i M c from rfl, wl_set (backM_eq (mulHi x y) i M c) (backLo_lt ..), wl_fel] at Rg9_0
  refine Z13 (v := .int .u64 ((backC (mulHi x y) i M c : Nat) : Int)) (by rfl) (by rfl) (by rfl) ?_
  simp only [Z7,Z0]
  refine Z9 (Z10 ?_)
  refine hK32 _ _ ?_
  refine wp_region_plain 2 (by kernel_rfl) (fun Lk hLk => ?_)
  simp only [Z1,Z2]
  refine Z15 (v := .int .i64 ((i + 1 : Nat) : Int)) (by rfl) rfl rfl rfl (fun W => run_add (by simp only [IntKind.wrap_i64]; omega) W) ?_
  simp only [Z7,Z0]
  refine Z16 (v := .int .i64 ((i + 1 : Nat) : Int)) (by rfl) rfl rfl ?_
  simp only [Z7,Z0]
  refine Z14 (hLk.out _ ?_)
  clear hLk Lk
  simp only [Z1,Z2]
  iterate 2 refine wpN_skip (by rfl) ?_
  refine wpN_nil (fun w49 Sw49 hbs => ?_)
  clear hbs
  replace Rg3_0 := range_sees Rg3_0 Lg3 Sw49
  replace Tg3 := there_sees Tg3 Lg3 Sw49
  replace Rg4_0 := range_sees Rg4_0 Lg4 Sw49
  replace Tg4 := there_sees Tg4 Lg4 Sw49
  replace Rg5_0 := range_sees Rg5_0 Lg5 Sw49
  replace Tg5 := there_sees Tg5 Lg5 Sw49
  replace Rg9_0 := range_sees Rg9_0 Lg9 Sw49
  replace Tg9 := there_sees Tg9 Lg9 Sw49
  replace Rg10_0 := range_sees Rg10_0 Lg10 Sw49
  replace Tg10 := there_sees Tg10 Lg10 Sw49
  replace Lg3 := Nat.lt_of_lt_of_le Lg3 Sw49.2.2.size
  replace Lg4 := Nat.lt_of_lt_of_le Lg4 Sw49.2.2.size
  replace Lg5 := Nat.lt_of_lt_of_le Lg5 Sw49.2.2.size
  replace Lg9 := Nat.lt_of_lt_of_le Lg9 Sw49.2.2.size
  replace Lg10 := Nat.lt_of_lt_of_le Lg10 Sw49.2.2.size
  replace BE := BE.trans (Sw49.2.2.mono BE.size)
  refine Z9 (Z10 ?_)
  refine Exists.intro _ ⟨?_, (i + 1), (backM (mulHi x y) i M c), (backC (mulHi x y) i M c), (fun q9 => (#[Z3, Z3, Z3, Z3, Z3, Z3, Z3, Z3, .int .i64 ((i : Nat) : Int), .int .u64 ((limbN (mulHi x y) i : Nat) : Int), .int .u64 (((limbN (mulHi x y) i) * 38 / 18446744073709551616 : Nat) : Int), .int .u64 (((limbN (mulHi x y) i) * 38 % 18446744073709551616 : Nat) : Int), .int .u64 (((limbN M i + (limbN (mulHi x y) i) * 38 % 18446744073709551616) % 18446744073709551616 : Nat) : Int), .int .u64 (((limbN M i + (limbN (mulHi x y) i) * 38 % 18446744073709551616) / 18446744073709551616 : Nat) : Int), .int .u64 ((((limbN M i + (limbN (mulHi x y) i) * 38 % 18446744073709551616) % 18446744073709551616 + c) % 18446744073709551616 : Nat) : Int), .int .u64 ((((limbN M i + (limbN (mulHi x y) i) * 38 % 18446744073709551616) % 18446744073709551616 + c) / 18446744073709551616 : Nat) : Int), Z3, Z3, Z3, Z3, Z3, Z3, Z3, Z3, .bool true, .int .i64 ((i : Nat) : Int), .int .u64 ((limbN (mulHi x y) i : Nat) : Int), .tuple #[.int .u64 (((limbN (mulHi x y) i) * 38 / 18446744073709551616 : Nat) : Int), .int .u64 (((limbN (mulHi x y) i) * 38 % 18446744073709551616 : Nat) : Int)], .int .u64 ((limbN (mulHi x y) i : Nat) : Int), .tuple #[.int .u64 (((limbN (mulHi x y) i) * 38 / 18446744073709551616 : Nat) : Int), .int .u64 (((limbN (mulHi x y) i) * 38 % 18446744073709551616 : Nat) : Int)], .int .u64 (((limbN (mulHi x y) i) * 38 / 18446744073709551616 : Nat) : Int), .int .u64 (((limbN (mulHi x y) i) * 38 % 18446744073709551616 : Nat) : Int), .tuple #[.int .u64 (((limbN M i + (limbN (mulHi x y) i) * 38 % 18446744073709551616) % 18446744073709551616 : Nat) : Int), .int .u64 (((limbN M i + (limbN (mulHi x y) i) * 38 % 18446744073709551616) / 18446744073709551616 : Nat) : Int)], .int .i64 ((i : Nat) : Int), .pointer (some ⟨g9, i, none⟩), .int .u64 ((limbN M i : Nat) : Int), .int .u64 (((limbN (mulHi x y) i) * 38 % 18446744073709551616 : Nat) : Int), .tuple #[.int .u64 (((limbN M i + (limbN (mulHi x y) i) * 38 % 18446744073709551616) % 18446744073709551616 : Nat) : Int), .int .u64 (((limbN M i + (limbN (mulHi x y) i) * 38 % 18446744073709551616) / 18446744073709551616 : Nat) : Int)], .int .u64 (((limbN M i + (limbN (mulHi x y) i) * 38 % 18446744073709551616) % 18446744073709551616 : Nat) : Int), .int .u64 (((limbN M i + (limbN (mulHi x y) i) * 38 % 18446744073709551616) / 18446744073709551616 : Nat) : Int), .tuple #[.int .u64 ((((limbN M i + (limbN (mulHi x y) i) * 38 % 18446744073709551616) % 18446744073709551616 + c) % 18446744073709551616 : Nat) : Int), .int .u64 ((((limbN M i + (limbN (mulHi x y) i) * 38 % 18446744073709551616) % 18446744073709551616 + c) / 18446744073709551616 : Nat) : Int)], .int .u64 (((limbN M i + (limbN (mulHi x y) i) * 38 % 18446744073709551616) % 18446744073709551616 : Nat) : Int), .int .u64 ((c : Nat) : Int), .tuple #[.int .u64 ((((limbN M i + (limbN (mulHi x y) i) * 38 % 18446744073709551616) % 18446744073709551616 + c) % 18446744073709551616 : Nat) : Int), .int .u64 ((((limbN M i + (limbN (mulHi x y) i) * 38 % 18446744073709551616) % 18446744073709551616 + c) / 18446744073709551616 : Nat) : Int)], .int .u64 ((((limbN M i + (limbN (mulHi x y) i) * 38 % 18446744073709551616) % 18446744073709551616 + c) % 18446744073709551616 : Nat) : Int), .int .u64 ((((limbN M i + (limbN (mulHi x y) i) * 38 % 18446744073709551616) % 18446744073709551616 + c) / 18446744073709551616 : Nat) : Int), .int .i64 ((i : Nat) : Int), .int .u64 ((((limbN M i + (limbN (mulHi x y) i) * 38 % 18446744073709551616) % 18446744073709551616 + c) % 18446744073709551616 : Nat) : Int), .int .u64 (((limbN (mulHi x y) i) * 38 / 18446744073709551616 : Nat) : Int), .int .u64 (((limbN M i + (limbN (mulHi x y) i) * 38 % 18446744073709551616) / 18446744073709551616 : Nat) : Int), .int .u64 ((limbN (mulHi x y) i * 38 / 18446744073709551616 + (limbN M i + limbN (mulHi x y) i * 38 % 18446744073709551616) / 18446744073709551616 : Nat) : Int), .int .u64 ((((limbN M i + (limbN (mulHi x y) i) * 38 % 18446744073709551616) % 18446744073709551616 + c) / 18446744073709551616 : Nat) : Int), .int .u64 ((backC (mulHi x y) i M c : Nat) : Int), .pointer (some ⟨g9, i, none⟩), .int .i64 ((i + 1 : Nat) : Int)] : Array Value).getD q9 Z3), rfl, rfl, BE, Rg3_0, Tg3, Lg3, Rg4_0, Tg4, Lg4, Rg5_0, Tg5, Lg5, Rg9_0, Tg9, Lg9, Rg10_0, Tg10, Lg10, (by omega), (back_step hi HW)⟩
  omega
set_option maxHeartbeats 1000000 in
theorem power_c {x : Nat} (hx : x < 2 ^ 256) {n : Nat} (hn : n < 2 ^ 256) (w : World) :
  Calls Try.prog 74 #[fe x, fe n] w fun e w' => e = .returned (fe (fpow x n)) ∧ Below w.heap.size w w' := by
 go_enter Try.func74, Try.ntmps74
 have BE := Below.refl w.heap.size w
 refine Z4 (fun K1 hK1 => ?_)
 refine wp_region_plain 3 (by kernel_rfl) (fun Lk hLk => ?_)
 simp only [Z1,Z2]
 refine wpV_alloc (by rfl) ?_
 refine wpV_alloc (by rfl) ?_
 refine wpV_alloc (by rfl) ?_
 refine Z14 (hLk.out _ ?_)
 clear hLk Lk
 simp only [Z1,Z2]
 refine wpN_new (t := 24) (cs := (fel x).toArray) (by rfl) (fun W => ?_) (fun g3 Hg3 ng3 => ?_)
 ·
  (first | rfl | go_simp)
 refine wpN_new (t := 24) (cs := (fel n).toArray) (by rfl) (fun W => ?_) (fun g4 Hg4 ng4 => ?_)
 ·
  (first | rfl | go_simp)
 refine wpN_new (t := 24) (cs := ([.int .u64 0, .int .u64 0, .int .u64 0, .int .u64 0]).toArray) (by rfl) (fun W => ?_) (fun g5 Hg5 ng5 => ?_)
 ·
  go_simp
 simp only [Z7,Z0]
 refine wpN_nil (fun w6 Sw6 hbs => ?_)
 have Bg3 : Blk w6 g3 24 (fel x).toArray := hbs _ (List.mem_cons_of_mem _ (List.mem_cons_of_mem _ (List.mem_cons_self ..)))
 have Bg4 : Blk w6 g4 24 (fel n).toArray := hbs _ (List.mem_cons_of_mem _ (List.mem_cons_self ..))
 have Bg5 : Blk w6 g5 24 ([.int .u64 0, .int .u64 0, .int .u64 0, .int .u64 0]).toArray := hbs _ (List.mem_cons_self ..)
 clear hbs
 have Gg3 : w.heap.size ≤ g3 := Nat.le_trans BE.size Hg3
 have Ng3_g4 : g3 ≠ g4 := ng4 (g3, _, _) (List.mem_cons_self ..)
 have Gg4 : w.heap.size ≤ g4 := Nat.le_trans BE.size Hg4
 have Ng3_g5 : g3 ≠ g5 := ng5 (g3, _, _) (List.mem_cons_of_mem _ (List.mem_cons_self ..))
 have Ng4_g5 : g4 ≠ g5 := ng5 (g4, _, _) (List.mem_cons_self ..)
 have Gg5 : w.heap.size ≤ g5 := Nat.le_trans BE.size Hg5
 replace BE := BE.trans (Sw6.2.2.mono BE.size)
 have Tg3 := blk_there Bg3 (n := 4) (by simp [flen])
 have Rg3_0 := blk_range Bg3 (l := fel x) rfl
 have Lg3 := Bg3.lt
 have Tg4 := blk_there Bg4 (n := 4) (by simp [flen])
 have Rg4_0 := blk_range Bg4 (l := fel n) rfl
 have Lg4 := Bg4.lt
 have Tg5 := blk_there Bg5 (n := 4) (by simp [flen])
 have Rg5_0 := blk_range Bg5 (l := [.int .u64 0, .int .u64 0, .int .u64 0, .int .u64 0]) rfl
 have Lg5 := Bg5.lt
 clear ng3 ng4 ng5 Bg3 Bg4 Bg5
 refine Z9 (Z10 ?_)
 refine hK1 _ _ ?_
 refine Z4 (fun K7 hK7 => ?_)
 refine wp_region_plain 2 (by kernel_rfl) (fun Lk hLk => ?_)
 simp only [Z1,Z2]
 refine Z20 (v := fe 1) (args := #[.int .u64 1]) (by rfl) rfl Try.func32 (by kernel_rfl) (by kernel_rfl) rfl (fun W hW => of_c (n := 1) (by decide) W) ?_
 simp only [Z7,Z0]
 refine wpV_alloc (by rfl) ?_
 refine Z14 (hLk.out _ ?_)
 clear hLk Lk
 simp only [Z1,Z2]
 iterate 1 refine wpN_skip (by rfl) ?_
 refine wpN_new (t := 24) (cs := ([.int .u64 0, .int .u64 0, .int .u64 0, .int .u64 0]).toArray) (by rfl) (fun W => ?_) (fun g9 Hg9 ng9 => ?_)
 ·
  go_simp
 simp only [Z7,Z0]
 refine wpN_nil (fun w10 Sw10 hbs => ?_)
 have Bg9 : Blk w10 g9 24 ([.int .u64 0, .int .u64 0, .int .u64 0, .int .u64 0]).toArray := hbs _ (List.mem_cons_self ..)
 clear hbs
 have Ng3_g9 : g3 ≠ g9 := Nat.ne_of_lt (Nat.lt_of_lt_of_le Lg3 Hg9)
 have Ng4_g9 : g4 ≠ g9 := Nat.ne_of_lt (Nat.lt_of_lt_of_le Lg4 Hg9)
 have Ng5_g9 : g5 ≠ g9 := Nat.ne_of_lt (Nat.lt_of_lt_of_le Lg5 Hg9)
 have Gg9 : w.heap.size ≤ g9 := Nat.le_trans BE.size Hg9
 replace Rg3_0 := range_sees Rg3_0 Lg3 Sw10
 replace Tg3 := there_sees Tg3 Lg3 Sw10
 replace Rg4_0 := range_sees Rg4_0 Lg4 Sw10
 replace Tg4 := there_sees Tg4 Lg4 Sw10
 replace Rg5_0 := range_sees Rg5_0 Lg5 Sw10
 replace Tg5 := there_sees Tg5 Lg5 Sw10
 replace Lg3 := Nat.lt_of_lt_of_le Lg3 Sw10.2.2.size
 replace Lg4 := Nat.lt_of_lt_of_le Lg4 Sw10.2.2.size
 replace Lg5 := Nat.lt_of_lt_of_le Lg5 Sw10.2.2.size
 replace BE := BE.trans (Sw10.2.2.mono BE.size)
 have Tg9 := blk_there Bg9 (n := 4) (by simp [flen])
 have Rg9_0 := blk_range Bg9 (l := [.int .u64 0, .int .u64 0, .int .u64 0, .int .u64 0]) rfl
 have Lg9 := Bg9.lt
 clear ng9 Bg9
 refine wpL_store (g := g9) (off := 0) (n := 4) (cs := fel 1) (by rfl) (by rfl) (by rfl) (by rfl) (by rfl) Tg9 (by simp [flen]) info24 (fel_one _) (fun w11 Pw11 RR TT => ?_)
 replace Rg3_0 := Pw11.range Rg3_0 (.inl Ng3_g9)
 replace Tg3 := Pw11.other_there Tg3 Ng3_g9
 replace Rg4_0 := Pw11.range Rg4_0 (.inl Ng4_g9)
 replace Tg4 := Pw11.other_there Tg4 Ng4_g9
 replace Rg5_0 := Pw11.range Rg5_0 (.inl Ng5_g9)
 replace Tg5 := Pw11.other_there Tg5 Ng5_g9
 replace Rg9_0 := RR
 clear RR
 replace Tg9 := TT
 replace Lg3 := Pw11.lt Lg3
 replace Lg4 := Pw11.lt Lg4
 replace Lg5 := Pw11.lt Lg5
 replace Lg9 := Pw11.lt Lg9
 replace BE := Pw11.below BE Gg9
 refine Z9 (Z10 ?_)
 refine hK7 _ _ ?_
 refine Z4 (fun K12 hK12 => ?_)
 refine Z4 (fun K13 hK13 => ?_)
 refine wp_region_plain 1 (by kernel_rfl) (fun Lk hLk => ?_)
 simp only [Z1,Z2]
 refine Z16 (v := .int .i64 0) (by rfl) rfl rfl ?_
 simp only [Z7,Z0]
 refine Z14 (hLk.out _ ?_)
 clear hLk Lk
 simp only [Z1,Z2]
 iterate 1 refine wpN_skip (by rfl) ?_
 refine wpN_nil (fun w15 Sw15 hbs => ?_)
 clear hbs
 replace Rg3_0 := range_sees Rg3_0 Lg3 Sw15
 replace Tg3 := there_sees Tg3 Lg3 Sw15
 replace Rg4_0 := range_sees Rg4_0 Lg4 Sw15
 replace Tg4 := there_sees Tg4 Lg4 Sw15
 replace Rg5_0 := range_sees Rg5_0 Lg5 Sw15
 replace Tg5 := there_sees Tg5 Lg5 Sw15
 replace Rg9_0 := range_sees Rg9_0 Lg9 Sw15
 replace Tg9 := there_sees Tg9 Lg9 Sw15
 replace Lg3 := Nat.lt_of_lt_of_le Lg3 Sw15.2.2.size
 replace Lg4 := Nat.lt_of_lt_of_le Lg4 Sw15.2.2.size
 replace Lg5 := Nat.lt_of_lt_of_le Lg5 Sw15.2.2.size
 replace Lg9 := Nat.lt_of_lt_of_le Lg9 Sw15.2.2.size
 replace BE := BE.trans (Sw15.2.2.mono BE.size)
 refine Z9 (Z10 ?_)
 refine hK13 _ _ ?_
 refine wp_block ?_
 refine wp_loop_ghost (fun n9 a9 W9 => ∃ (k : Nat) (u16 : Nat → Value), n9 = 256 - k ∧ a9 = { tmps := #[fe x, fe n, .pointer (some ⟨g3, 0, none⟩), .pointer (some ⟨g4, 0, none⟩), .pointer (some ⟨g5, 0, none⟩), .pointer (some ⟨g9, 0, none⟩), u16 6, u16 7, fe 1, .int .i64 ((k : Nat) : Int), u16 10, u16 11, u16 12, u16 13, u16 14, u16 15, u16 16, u16 17, u16 18, u16 19, u16 20, u16 21, u16 22, u16 23, u16 24, u16 25, u16 26, u16 27, u16 28, u16 29, Z3], defers := [] } ∧ Below w.heap.size w W9 ∧ World.rangeAt W9 g3 0 (fel x) ∧ World.there W9 g3 0 4 ∧ g3 < W9.heap.size ∧ World.rangeAt W9 g4 0 (fel n) ∧ World.there W9 g4 0 4 ∧ g4 < W9.heap.size ∧ World.rangeAt W9 g5 0 ([.int .u64 0, .int .u64 0, .int .u64 0, .int .u64 0]) ∧ World.there W9 g5 0 4 ∧ g5 < W9.heap.size ∧ World.rangeAt W9 g9 0 (fel (fpow x (n / 2 ^ (256 - k)))) ∧ World.there W9 g9 0 4 ∧ g9 < W9.heap.size ∧ (k ≤ 256)) (256 - (0)) ?_ (fun n9 a9 W9 hI => ?_)
 ·
  exact ⟨0, (fun q9 => (#[Z3, Z3, Z3, Z3, Z3, Z3, Z3, Z3, Z3, Z3, Z3, Z3, Z3, Z3, Z3, Z3, Z3, Z3, Z3, Z3, Z3, Z3, Z3, Z3, Z3, Z3, Z3, Z3, Z3, Z3] : Array Value).getD q9 Z3), rfl, rfl, BE, Rg3_0, Tg3, Lg3, Rg4_0, Tg4, Lg4, Rg5_0, Tg5, Lg5, (by rw [Nat.div_eq_of_lt hn, fpow_zero]; exact Rg9_0), Tg9, Lg9, (by omega)⟩
 clear BE Rg3_0 Rg4_0 Rg5_0 Rg9_0 Tg3 Tg4 Tg5 Tg9 Lg3 Lg4 Lg5 Lg9
 obtain ⟨k, u16, rfl, rfl, BE, Rg3_0, Tg3, Lg3, Rg4_0, Tg4, Lg4, Rg5_0, Tg5, Lg5, Rg9_0, Tg9, Lg9, hk6⟩ := hI
 obtain ⟨w17, rfl⟩ : ∃ W8, W8 = W9 := ⟨_, rfl⟩
 refine Z4 (fun K18 hK18 => ?_)
 refine wp_region_plain 1 (by kernel_rfl) (fun Lk hLk => ?_)
 simp only [Z1,Z2]
 refine Z15 (v := .bool (decide (k < 256))) (by rfl) rfl rfl rfl (fun W => run_lssN k 256 _ _ W) ?_
 simp only [Z7,Z0]
 refine Z14 (hLk.out _ ?_)
 clear hLk Lk
 simp only [Z1,Z2]
 iterate 1 refine wpN_skip (by rfl) ?_
 refine wpN_nil (fun w20 Sw20 hbs => ?_)
 clear hbs
 replace Rg3_0 := range_sees Rg3_0 Lg3 Sw20
 replace Tg3 := there_sees Tg3 Lg3 Sw20
 replace Rg4_0 := range_sees Rg4_0 Lg4 Sw20
 replace Tg4 := there_sees Tg4 Lg4 Sw20
 replace Rg5_0 := range_sees Rg5_0 Lg5 Sw20
 replace Tg5 := there_sees Tg5 Lg5 Sw20
 replace Rg9_0 := range_sees Rg9_0 Lg9 Sw20
 replace Tg9 := there_sees Tg9 Lg9 Sw20
 replace Lg3 := Nat.lt_of_lt_of_le Lg3 Sw20.2.2.size
 replace Lg4 := Nat.lt_of_lt_of_le Lg4 Sw20.2.2.size
 replace Lg5 := Nat.lt_of_lt_of_le Lg5 Sw20.2.2.size
 replace Lg9 := Nat.lt_of_lt_of_le Lg9 Sw20.2.2.size
 replace BE := BE.trans (Sw20.2.2.mono BE.size)
 refine Z9 (Z10 ?_)
 refine hK18 _ _ ?_
 refine Z4 (fun K21 hK21 => ?_)
 cases hc22 : (decide (k < 256))
 ·
  have ek : k = 256 := by have := of_decide_eq_false hc22; omega
  subst ek
  refine Z6 rfl ?_
  refine wp_exit ?_
  refine hK12 _ _ ?_
  refine Z4 (fun K23 hK23 => ?_)
  refine wp_region_plain 1 (by kernel_rfl) (fun Lk hLk => ?_)
  simp only [Z1,Z2]
  refine wpV_load (cs := fel (fpow x (n / 2 ^ (256 - 256)))) (by rfl) rfl rfl Rg9_0 Lg9 Try.underlying24 rfl info24 ?_
  simp only [Z7,Z0]
  refine Z14 (hLk.out _ ?_)
  clear hLk Lk
  simp only [Z1,Z2]
  iterate 1 refine wpN_skip (by rfl) ?_
  refine wpN_nil (fun w25 Sw25 hbs => ?_)
  clear hbs
  replace Rg3_0 := range_sees Rg3_0 Lg3 Sw25
  replace Tg3 := there_sees Tg3 Lg3 Sw25
  replace Rg4_0 := range_sees Rg4_0 Lg4 Sw25
  replace Tg4 := there_sees Tg4 Lg4 Sw25
  replace Rg5_0 := range_sees Rg5_0 Lg5 Sw25
  replace Tg5 := there_sees Tg5 Lg5 Sw25
  replace Rg9_0 := range_sees Rg9_0 Lg9 Sw25
  replace Tg9 := there_sees Tg9 Lg9 Sw25
  replace Lg3 := Nat.lt_of_lt_of_le Lg3 Sw25.2.2.size
  replace Lg4 := Nat.lt_of_lt_of_le Lg4 Sw25.2.2.size
  replace Lg5 := Nat.lt_of_lt_of_le Lg5 Sw25.2.2.size
  replace Lg9 := Nat.lt_of_lt_of_le Lg9 Sw25.2.2.size
  replace BE := BE.trans (Sw25.2.2.mono BE.size)
  refine wpL_store (g := g5) (off := 0) (n := 4) (cs := fel (fpow x (n / 2 ^ (256 - 256)))) (by rfl) (by rfl) (by rfl) (by rfl) (by rfl) Tg5 (by simp [flen]) info24 (fel_one _) (fun w26 Pw26 RR TT => ?_)
  replace Rg3_0 := Pw26.range Rg3_0 (.inl Ng3_g5)
  replace Tg3 := Pw26.other_there Tg3 Ng3_g5
  replace Rg4_0 := Pw26.range Rg4_0 (.inl Ng4_g5)
  replace Tg4 := Pw26.other_there Tg4 Ng4_g5
  replace Rg9_0 := Pw26.range Rg9_0 (.inl (Ne.symm Ng5_g9))
  replace Tg9 := Pw26.other_there Tg9 (Ne.symm Ng5_g9)
  replace Rg5_0 := RR
  clear RR
  replace Tg5 := TT
  replace Lg3 := Pw26.lt Lg3
  replace Lg4 := Pw26.lt Lg4
  replace Lg5 := Pw26.lt Lg5
  replace Lg9 := Pw26.lt Lg9
  replace BE := Pw26.below BE Gg5
  refine Z9 (Z10 ?_)
  refine hK23 _ _ ?_
  refine wp_ret ?_
  repeat (first | with_reducible refine then_ret ?_ | with_reducible refine inblock_ret ?_)
  refine bodyPost_ret (v := fe (fpow x (n / 2 ^ (256 - 256)))) (res1 rfl (.cell (by rfl) (run_loadVar_mid _ _ _ _ (fel (fpow x (n / 2 ^ (256 - 256)))) _ Rg5_0 Try.underlying24 rfl info24))) rfl ?_
  exact ⟨by rw [show n / 2 ^ (256 - 256) = n by simp], BE⟩
 ·
  have hk : k < 256 := of_decide_eq_true hc22
  refine Z5 rfl ?_
  refine wp_skip ?_
  refine hK21 _ _ ?_
  refine Z4 (fun K27 hK27 => ?_)
  refine wp_block ?_
  refine Z4 (fun K28 hK28 => ?_)
  refine wp_region_plain 1 (by kernel_rfl) (fun Lk hLk => ?_)
  simp only [Z1,Z2]
  refine Z16 (v := .int .i64 ((k : Nat) : Int)) (by rfl) rfl rfl ?_
  simp only [Z7,Z0]
  refine Z14 (hLk.out _ ?_)
  clear hLk Lk
  simp only [Z1,Z2]
  iterate 1 refine wpN_skip (by rfl) ?_
  refine wpN_nil (fun w30 Sw30 hbs => ?_)
  clear hbs
  replace Rg3_0 := range_sees Rg3_0 Lg3 Sw30
  replace Tg3 := there_sees Tg3 Lg3 Sw30
  replace Rg4_0 := range_sees Rg4_0 Lg4 Sw30
  replace Tg4 := there_sees Tg4 Lg4 Sw30
  replace Rg5_0 := range_sees Rg5_0 Lg5 Sw30
  replace Tg5 := there_sees Tg5 Lg5 Sw30
  replace Rg9_0 := range_sees Rg9_0 Lg9 Sw30
  replace Tg9 := there_sees Tg9 Lg9 Sw30
  replace Lg3 := Nat.lt_of_lt_of_le Lg3 Sw30.2.2.size
  replace Lg4 := Nat.lt_of_lt_of_le Lg4 Sw30.2.2.size
  replace Lg5 := Nat.lt_of_lt_of_le Lg5 Sw30.2.2.size
  replace Lg9 := Nat.lt_of_lt_of_le Lg9 Sw30.2.2.size
  replace BE := BE.trans (Sw30.2.2.mono BE.size)
  refine Z13 (v := .int .i64 ((k : Nat) : Int)) (by rfl) (by rfl) (by rfl) ?_
  simp only [Z7,Z0]
  refine Z9 (Z10 ?_)
  refine hK28 _ _ ?_
  refine Z4 (fun K31 hK31 => ?_)
  refine wp_region_plain 2 (by kernel_rfl) (fun Lk hLk => ?_)
  simp only [Z1,Z2]
  refine Z16 (v := .int .i64 ((k : Nat) : Int)) (by rfl) rfl rfl ?_
  simp only [Z7,Z0]
  refine Z15 (v := .int .i64 ((255 - k : Nat) : Int)) (by rfl) rfl rfl rfl (fun W => run_sub (by simp only [IntKind.wrap_i64]; omega) W) ?_
  simp only [Z7,Z0]
  refine Z14 (hLk.out _ ?_)
  clear hLk Lk
  simp only [Z1,Z2]
  iterate 2 refine wpN_skip (by rfl) ?_
  refine wpN_nil (fun w33 Sw33 hbs => ?_)
  clear hbs
  replace Rg3_0 := range_sees Rg3_0 Lg3 Sw33
  replace Tg3 := there_sees Tg3 Lg3 Sw33
  replace Rg4_0 := range_sees Rg4_0 Lg4 Sw33
  replace Tg4 := there_sees Tg4 Lg4 Sw33
  replace Rg5_0 := range_sees Rg5_0 Lg5 Sw33
  replace Tg5 := there_sees Tg5 Lg5 Sw33
  replace Rg9_0 := range_sees Rg9_0 Lg9 Sw33
  replace Tg9 := there_sees Tg9 Lg9 Sw33
  replace Lg3 := Nat.lt_of_lt_of_le Lg3 Sw33.2.2.size
  replace Lg4 := Nat.lt_of_lt_of_le Lg4 Sw33.2.2.size
  replace Lg5 := Nat.lt_of_lt_of_le Lg5 Sw33.2.2.size
  replace Lg9 := Nat.lt_of_lt_of_le Lg9 Sw33.2.2.size
  replace BE := BE.trans (Sw33.2.2.mono BE.size)
  refine Z13 (v := .int .i64 ((255 - k : Nat) : Int)) (by rfl) (by rfl) (by rfl) ?_
  simp only [Z7,Z0]
  refine Z9 (Z10 ?_)
  refine hK31 _ _ ?_
  refine Z4 (fun K34 hK34 => ?_)
  refine wp_region_plain 3 (by kernel_rfl) (fun Lk hLk => ?_)
  simp only [Z1,Z2]
  refine wpV_load (cs := fel (fpow x (n / 2 ^ (256 - k)))) (by rfl) rfl rfl Rg9_0 Lg9 Try.underlying24 rfl info24 ?_
  simp only [Z7,Z0]
  refine wpV_load (cs := fel (fpow x (n / 2 ^ (256 - k)))) (by rfl) rfl rfl Rg9_0 Lg9 Try.underlying24 rfl info24 ?_
  simp only [Z7,Z0]
  refine Z20 (v := fe (fmul (fpow x (n / 2 ^ (256 - k))) (fpow x (n / 2 ^ (256 - k))))) (args := #[fe (fpow x (n / 2 ^ (256 - k))), fe (fpow x (n / 2 ^ (256 - k)))]) (by rfl) rfl Try.func39 (by kernel_rfl) (by kernel_rfl) rfl (fun W hW => fmul_c (fpow_lt ..) (fpow_lt ..) W) ?_
  simp only [Z7,Z0]
  refine Z14 (hLk.out _ ?_)
  clear hLk Lk
  simp only [Z1,Z2]
  iterate 3 refine wpN_skip (by rfl) ?_
  refine wpN_nil (fun w36 Sw36 hbs => ?_)
  clear hbs
  replace Rg3_0 := range_sees Rg3_0 Lg3 Sw36
  replace Tg3 := there_sees Tg3 Lg3 Sw36
  replace Rg4_0 := range_sees Rg4_0 Lg4 Sw36
  replace Tg4 := there_sees Tg4 Lg4 Sw36
  replace Rg5_0 := range_sees Rg5_0 Lg5 Sw36
  replace Tg5 := there_sees Tg5 Lg5 Sw36
  replace Rg9_0 := range_sees Rg9_0 Lg9 Sw36
  replace Tg9 := there_sees Tg9 Lg9 Sw36
  replace Lg3 := Nat.lt_of_lt_of_le Lg3 Sw36.2.2.size
  replace Lg4 := Nat.lt_of_lt_of_le Lg4 Sw36.2.2.size
  replace Lg5 := Nat.lt_of_lt_of_le Lg5 Sw36.2.2.size
  replace Lg9 := Nat.lt_of_lt_of_le Lg9 Sw36.2.2.size
  replace BE := BE.trans (Sw36.2.2.mono BE.size)
  refine wpL_store (g := g9) (off := 0) (n := 4) (cs := fel (fmul (fpow x (n / 2 ^ (256 - k))) (fpow x (n / 2 ^ (256 - k))))) (by rfl) (by rfl) (by rfl) (by rfl) (by rfl) Tg9 (by simp [flen]) info24 (fel_one _) (fun w37 Pw37 RR TT => ?_)
  replace Rg3_0 := Pw37.range Rg3_0 (.inl Ng3_g9)
  replace Tg3 := Pw37.other_there Tg3 Ng3_g9
  replace Rg4_0 := Pw37.range Rg4_0 (.inl Ng4_g9)
  replace Tg4 := Pw37.other_there Tg4 Ng4_g9
  replace Rg5_0 := Pw37.range Rg5_0 (.inl Ng5_g9)
  replace Tg5 := Pw37.other_there Tg5 Ng5_g9
  replace Rg9_0 := RR
  clear RR
  replace Tg9 := TT
  replace Lg3 := Pw37.lt Lg3
  replace Lg4 := Pw37.lt Lg4
  replace Lg5 := Pw37.lt Lg5
  replace Lg9 := Pw37.lt Lg9
  replace BE := Pw37.below BE Gg9
  refine Z9 (Z10 ?_)
  refine hK34 _ _ ?_
  refine Z4 (fun K38 hK38 => ?_)
  refine wp_region_plain 9 (by kernel_rfl) (fun Lk hLk => ?_)
  simp only [Z1,Z2]
  refine Z16 (v := .int .i64 ((255 - k : Nat) : Int)) (by rfl) rfl rfl ?_
  simp only [Z7,Z0]
  refine Z15 (v := .int .i64 (((255 - k) / 64 : Nat) : Int)) (by rfl) rfl rfl rfl (fun W => run_quo (by decide) ((congrArg _ (tdiv_nat (255 - k) 64)).trans (wrap_nat _ (by omega))) W) ?_
  simp only [Z7,Z0]
  refine wpV_idx (n := (255 - k) / 64) (by rfl) rfl rfl rfl Try.underlying24 info22 (by omega) ?_
  simp only [Nat.zero_add]
  simp only [Z7,Z0]
  refine wpV_load1 (v := .int .u64 ((limbN n ((255 - k) / 64) : Nat) : Int)) (by rfl) rfl rfl (by have := Rg4_0 _ _ (fel_get (j := (255 - k) / 64) n (by omega)); rwa [Nat.zero_add] at this) Lg4 Try.underlying22 rfl ?_
  simp only [Z7,Z0]
  refine Z16 (v := .int .i64 ((255 - k : Nat) : Int)) (by rfl) rfl rfl ?_
  simp only [Z7,Z0]
  refine Z15 (v := .int .i64 (((255 - k) % 64 : Nat) : Int)) (by rfl) rfl rfl rfl (fun W => run_rem (by decide) (tmod_nat (255 - k) 64) W) ?_
  simp only [Z7,Z0]
  refine Z15 (v := .int .u64 ((limbN n ((255 - k) / 64) / 2 ^ ((255 - k) % 64) : Nat) : Int)) (by rfl) rfl rfl rfl (fun W => run_shr (m := limbN n ((255 - k) / 64)) (n := (255 - k) % 64) (by show _ ≤ 64; omega) rfl W) ?_
  simp only [Z7,Z0]
  refine Z15 (v := .int .u64 ((n / 2 ^ (255 - k) % 2 : Nat) : Int)) (by rfl) rfl rfl rfl (fun W => run_and (bitN_of n (255 - k)) W) ?_
  simp only [Z7,Z0]
  refine Z15 (v := .bool (((n / 2 ^ (255 - k) % 2 : Nat) : Int) == 1)) (by rfl) rfl rfl rfl (fun W => run_eql _ _ _ _ W) ?_
  simp only [Z7,Z0]
  refine Z14 (hLk.out _ ?_)
  clear hLk Lk
  simp only [Z1,Z2]
  iterate 9 refine wpN_skip (by rfl) ?_
  refine wpN_nil (fun w40 Sw40 hbs => ?_)
  clear hbs
  replace Rg3_0 := range_sees Rg3_0 Lg3 Sw40
  replace Tg3 := there_sees Tg3 Lg3 Sw40
  replace Rg4_0 := range_sees Rg4_0 Lg4 Sw40
  replace Tg4 := there_sees Tg4 Lg4 Sw40
  replace Rg5_0 := range_sees Rg5_0 Lg5 Sw40
  replace Tg5 := there_sees Tg5 Lg5 Sw40
  replace Rg9_0 := range_sees Rg9_0 Lg9 Sw40
  replace Tg9 := there_sees Tg9 Lg9 Sw40
  replace Lg3 := Nat.lt_of_lt_of_le Lg3 Sw40.2.2.size
  replace Lg4 := Nat.lt_of_lt_of_le Lg4 Sw40.2.2.size
  replace Lg5 := Nat.lt_of_lt_of_le Lg5 Sw40.2.2.size
  replace Lg9 := Nat.lt_of_lt_of_le Lg9 Sw40.2.2.size
  replace BE := BE.trans (Sw40.2.2.mono BE.size)
  refine Z9 (Z10 ?_)
  refine hK38 _ _ ?_
  cases hc41 : (((n / 2 ^ (255 - k) % 2 : Nat) : Int) == 1)
  ·
   have hbit : n / 2 ^ (255 - k) % 2 ≠ 1 := by intro e; rw [e] at hc41; simp at hc41
   refine Z6 rfl ?_
   refine wp_skip ?_
   refine hK27 _ _ ?_
   refine wp_region_plain 2 (by kernel_rfl) (fun Lk hLk => ?_)
   simp only [Z1,Z2]
   refine Z15 (v := .int .i64 ((k + 1 : Nat) : Int)) (by rfl) rfl rfl rfl (fun W => run_add (by simp only [IntKind.wrap_i64]; omega) W) ?_
   simp only [Z7,Z0]
   refine Z16 (v := .int .i64 ((k + 1 : Nat) : Int)) (by rfl) rfl rfl ?_
   simp only [Z7,Z0]
   refine Z14 (hLk.out _ ?_)
   clear hLk Lk
   simp only [Z1,Z2]
   iterate 2 refine wpN_skip (by rfl) ?_
   refine wpN_nil (fun w43 Sw43 hbs => ?_)
   clear hbs
   replace Rg3_0 := range_sees Rg3_0 Lg3 Sw43
   replace Tg3 := there_sees Tg3 Lg3 Sw43
   replace Rg4_0 := range_sees Rg4_0 Lg4 Sw43
   replace Tg4 := there_sees Tg4 Lg4 Sw43
   replace Rg5_0 := range_sees Rg5_0 Lg5 Sw43
   replace Tg5 := there_sees Tg5 Lg5 Sw43
   replace Rg9_0 := range_sees Rg9_0 Lg9 Sw43
   replace Tg9 := there_sees Tg9 Lg9 Sw43
   replace Lg3 := Nat.lt_of_lt_of_le Lg3 Sw43.2.2.size
   replace Lg4 := Nat.lt_of_lt_of_le Lg4 Sw43.2.2.size
   replace Lg5 := Nat.lt_of_lt_of_le Lg5 Sw43.2.2.size
   replace Lg9 := Nat.lt_of_lt_of_le Lg9 Sw43.2.2.size
   replace BE := BE.trans (Sw43.2.2.mono BE.size)
   refine Z9 (Z10 ?_)
   refine Exists.intro _ ⟨?_, (k + 1), (fun q9 => (#[Z3, Z3, Z3, Z3, Z3, Z3, .int .i64 ((k : Nat) : Int), .int .i64 ((255 - k : Nat) : Int), Z3, Z3, .bool true, .int .i64 ((k : Nat) : Int), .int .i64 ((k : Nat) : Int), .int .i64 ((255 - k : Nat) : Int), fe (fpow x (n / 2 ^ (256 - k))), fe (fpow x (n / 2 ^ (256 - k))), fe (fmul (fpow x (n / 2 ^ (256 - k))) (fpow x (n / 2 ^ (256 - k)))), .int .i64 ((255 - k : Nat) : Int), .int .i64 (((255 - k) / 64 : Nat) : Int), .pointer (some ⟨g4, (255 - k) / 64, none⟩), .int .u64 ((limbN n ((255 - k) / 64) : Nat) : Int), .int .i64 ((255 - k : Nat) : Int), .int .i64 (((255 - k) % 64 : Nat) : Int), .int .u64 ((limbN n ((255 - k) / 64) / 2 ^ ((255 - k) % 64) : Nat) : Int), .int .u64 ((n / 2 ^ (255 - k) % 2 : Nat) : Int), .bool false, u16 26, u16 27, u16 28, .int .i64 ((k + 1 : Nat) : Int)] : Array Value).getD q9 Z3), rfl, rfl, BE, Rg3_0, Tg3, Lg3, Rg4_0, Tg4, Lg4, Rg5_0, Tg5, Lg5, (by rw [← (fpow_step x n k hk).2 hbit]; exact Rg9_0), Tg9, Lg9, (by omega)⟩
   omega
  ·
   have hbit : n / 2 ^ (255 - k) % 2 = 1 := by have := beq_iff_eq.1 hc41; omega
   refine Z5 rfl ?_
   refine wp_region_plain 3 (by kernel_rfl) (fun Lk hLk => ?_)
   simp only [Z1,Z2]
   refine wpV_load (cs := fel (fmul (fpow x (n / 2 ^ (256 - k))) (fpow x (n / 2 ^ (256 - k))))) (by rfl) rfl rfl Rg9_0 Lg9 Try.underlying24 rfl info24 ?_
   simp only [Z7,Z0]
   refine wpV_load (cs := fel x) (by rfl) rfl rfl Rg3_0 Lg3 Try.underlying24 rfl info24 ?_
   simp only [Z7,Z0]
   refine Z20 (v := fe (fmul (fmul (fpow x (n / 2 ^ (256 - k))) (fpow x (n / 2 ^ (256 - k)))) x)) (args := #[fe (fmul (fpow x (n / 2 ^ (256 - k))) (fpow x (n / 2 ^ (256 - k)))), fe x]) (by rfl) rfl Try.func39 (by kernel_rfl) (by kernel_rfl) rfl (fun W hW => fmul_c (fmul_lt ..) hx W) ?_
   simp only [Z7,Z0]
   refine Z14 (hLk.out _ ?_)
   clear hLk Lk
   simp only [Z1,Z2]
   iterate 3 refine wpN_skip (by rfl) ?_
   refine wpN_nil (fun w45 Sw45 hbs => ?_)
   clear hbs
   replace Rg3_0 := range_sees Rg3_0 Lg3 Sw45
   replace Tg3 := there_sees Tg3 Lg3 Sw45
   replace Rg4_0 := range_sees Rg4_0 Lg4 Sw45
   replace Tg4 := there_sees Tg4 Lg4 Sw45
   replace Rg5_0 := range_sees Rg5_0 Lg5 Sw45
   replace Tg5 := there_sees Tg5 Lg5 Sw45
   replace Rg9_0 := range_sees Rg9_0 Lg9 Sw45
   replace Tg9 := there_sees Tg9 Lg9 Sw45
   replace Lg3 := Nat.lt_of_lt_of_le Lg3 Sw45.2.2.size
   replace Lg4 := Nat.lt_of_lt_of_le Lg4 Sw45.2.2.size
   replace Lg5 := Nat.lt_of_lt_of_le Lg5 Sw45.2.2.size
   replace Lg9 := Nat.lt_of_lt_of_le Lg9 Sw45.2.2.size
   replace BE := BE.trans (Sw45.2.2.mono BE.size)
   refine wpL_store (g := g9) (off := 0) (n := 4) (cs := fel (fmul (fmul (fpow x (n / 2 ^ (256 - k))) (fpow x (n / 2 ^ (256 - k)))) x)) (by rfl) (by rfl) (by rfl) (by rfl) (by rfl) Tg9 (by simp [flen]) info24 (fel_one _) (fun w46 Pw46 RR TT => ?_)
   replace Rg3_0 := Pw46.range Rg3_0 (.inl Ng3_g9)
   replace Tg3 := Pw46.other_there Tg3 Ng3_g9
   replace Rg4_0 := Pw46.range Rg4_0 (.inl Ng4_g9)
   replace Tg4 := Pw46.other_there Tg4 Ng4_g9
   replace Rg5_0 := Pw46.range Rg5_0 (.inl Ng5_g9)
   replace Tg5 := Pw46.other_there Tg5 Ng5_g9
   replace Rg9_0 := RR
   clear RR
   replace Tg9 := TT
   replace Lg3 := Pw46.lt Lg3
   replace Lg4 := Pw46.lt Lg4
   replace Lg5 := Pw46.lt Lg5
   replace Lg9 := Pw46.lt Lg9
   replace BE := Pw46.below BE Gg9
   refine Z9 (Z10 ?_)
   refine hK27 _ _ ?_
   refine wp_region_plain 2 (by kernel_rfl) (fun Lk hLk => ?_)
   simp only [Z1,Z2]
   refine Z15 (v := .int .i64 ((k + 1 : Nat) : Int)) (by rfl) rfl rfl rfl (fun W => run_add (by simp only [IntKind.wrap_i64]; omega) W) ?_
   simp only [Z7,Z0]
   refine Z16 (v := .int .i64 ((k + 1 : Nat) : Int)) (by rfl) rfl rfl ?_
   simp only [Z7,Z0]
   refine Z14 (hLk.out _ ?_)
   clear hLk Lk
   simp only [Z1,Z2]
   iterate 2 refine wpN_skip (by rfl) ?_
   refine wpN_nil (fun w48 Sw48 hbs => ?_)
   clear hbs
   replace Rg3_0 := range_sees Rg3_0 Lg3 Sw48
   replace Tg3 := there_sees Tg3 Lg3 Sw48
   replace Rg4_0 := range_sees Rg4_0 Lg4 Sw48
   replace Tg4 := there_sees Tg4 Lg4 Sw48
   replace Rg5_0 := range_sees Rg5_0 Lg5 Sw48
   replace Tg5 := there_sees Tg5 Lg5 Sw48
   replace Rg9_0 := range_sees Rg9_0 Lg9 Sw48
   replace Tg9 := there_sees Tg9 Lg9 Sw48
   replace Lg3 := Nat.lt_of_lt_of_le Lg3 Sw48.2.2.size
   replace Lg4 := Nat.lt_of_lt_of_le Lg4 Sw48.2.2.size
   replace Lg5 := Nat.lt_of_lt_of_le Lg5 Sw48.2.2.size
   replace Lg9 := Nat.lt_of_lt_of_le Lg9 Sw48.2.2.size
   replace BE := BE.trans (Sw48.2.2.mono BE.size)
   refine Z9 (Z10 ?_)
   refine Exists.intro _ ⟨?_, (k + 1), (fun q9 => (#[Z3, Z3, Z3, Z3, Z3, Z3, .int .i64 ((k : Nat) : Int), .int .i64 ((255 - k : Nat) : Int), Z3, Z3, .bool true, .int .i64 ((k : Nat) : Int), .int .i64 ((k : Nat) : Int), .int .i64 ((255 - k : Nat) : Int), fe (fpow x (n / 2 ^ (256 - k))), fe (fpow x (n / 2 ^ (256 - k))), fe (fmul (fpow x (n / 2 ^ (256 - k))) (fpow x (n / 2 ^ (256 - k)))), .int .i64 ((255 - k : Nat) : Int), .int .i64 (((255 - k) / 64 : Nat) : Int), .pointer (some ⟨g4, (255 - k) / 64, none⟩), .int .u64 ((limbN n ((255 - k) / 64) : Nat) : Int), .int .i64 ((255 - k : Nat) : Int), .int .i64 (((255 - k) % 64 : Nat) : Int), .int .u64 ((limbN n ((255 - k) / 64) / 2 ^ ((255 - k) % 64) : Nat) : Int), .int .u64 ((n / 2 ^ (255 - k) % 2 : Nat) : Int), .bool true, fe (fmul (fpow x (n / 2 ^ (256 - k))) (fpow x (n / 2 ^ (256 - k)))), fe x, fe (fmul (fmul (fpow x (n / 2 ^ (256 - k))) (fpow x (n / 2 ^ (256 - k)))) x), .int .i64 ((k + 1 : Nat) : Int)] : Array Value).getD q9 Z3), rfl, rfl, BE, Rg3_0, Tg3, Lg3, Rg4_0, Tg4, Lg4, Rg5_0, Tg5, Lg5, (by rw [← (fpow_step x n k hk).1 hbit]; exact Rg9_0), Tg9, Lg9, (by omega)⟩
   omega
set_option maxHeartbeats 1000000 in
theorem finv_c {x : Nat} (hx : x < 2 ^ 256) (w : World) :
  Calls Try.prog 38 #[fe x] w fun e w' => e = .returned (fe (finv x)) ∧ Below w.heap.size w w' := by
 go_enter Try.func38, Try.ntmps38
 have BE := Below.refl w.heap.size w
 refine Z4 (fun K1 hK1 => ?_)
 refine wp_region_plain 2 (by kernel_rfl) (fun Lk hLk => ?_)
 simp only [Z1,Z2]
 refine wpV_alloc (by rfl) ?_
 refine wpV_alloc (by rfl) ?_
 refine Z14 (hLk.out _ ?_)
 clear hLk Lk
 simp only [Z1,Z2]
 refine wpN_new (t := 24) (cs := (fel x).toArray) (by rfl) (fun W => ?_) (fun g3 Hg3 ng3 => ?_)
 ·
  (first | rfl | go_simp)
 refine wpN_new (t := 24) (cs := ([.int .u64 0, .int .u64 0, .int .u64 0, .int .u64 0]).toArray) (by rfl) (fun W => ?_) (fun g4 Hg4 ng4 => ?_)
 ·
  go_simp
 simp only [Z7,Z0]
 refine wpN_nil (fun w5 Sw5 hbs => ?_)
 have Bg3 : Blk w5 g3 24 (fel x).toArray := hbs _ (List.mem_cons_of_mem _ (List.mem_cons_self ..))
 have Bg4 : Blk w5 g4 24 ([.int .u64 0, .int .u64 0, .int .u64 0, .int .u64 0]).toArray := hbs _ (List.mem_cons_self ..)
 clear hbs
 have Gg3 : w.heap.size ≤ g3 := Nat.le_trans BE.size Hg3
 have Ng3_g4 : g3 ≠ g4 := ng4 (g3, _, _) (List.mem_cons_self ..)
 have Gg4 : w.heap.size ≤ g4 := Nat.le_trans BE.size Hg4
 replace BE := BE.trans (Sw5.2.2.mono BE.size)
 have Tg3 := blk_there Bg3 (n := 4) (by simp [flen])
 have Rg3_0 := blk_range Bg3 (l := fel x) rfl
 have Lg3 := Bg3.lt
 have Tg4 := blk_there Bg4 (n := 4) (by simp [flen])
 have Rg4_0 := blk_range Bg4 (l := [.int .u64 0, .int .u64 0, .int .u64 0, .int .u64 0]) rfl
 have Lg4 := Bg4.lt
 clear ng3 ng4 Bg3 Bg4
 refine Z9 (Z10 ?_)
 refine hK1 _ _ ?_
 refine Z4 (fun K6 hK6 => ?_)
 refine wp_region_plain 7 (by kernel_rfl) (fun Lk hLk => ?_)
 simp only [Z1,Z2]
 refine Z20 (v := fe pF) (args := #[]) (by rfl) rfl Try.func52 (by kernel_rfl) (by kernel_rfl) rfl (fun W hW => prime_c W) ?_
 simp only [Z7,Z0]
 refine Z20 (v := fe 2) (args := #[.int .u64 2]) (by rfl) rfl Try.func32 (by kernel_rfl) (by kernel_rfl) rfl (fun W hW => of_c (n := 2) (by decide) W) ?_
 simp only [Z7,Z0]
 refine Z20 (v := .tuple #[fe (subW pF 2), .int .u64 (subB pF 2)]) (args := #[fe pF, fe 2]) (by rfl) rfl Try.func51 (by kernel_rfl) (by kernel_rfl) rfl (fun W hW => minus_c pF_lt (by decide) W) ?_
 simp only [Z7,Z0]
 refine Z16 (v := .tuple #[fe (subW pF 2), .int .u64 (subB pF 2)]) (by rfl) rfl rfl ?_
 simp only [Z7,Z0]
 refine wpV_extract (v := fe (subW pF 2)) (by rfl) rfl rfl rfl ?_
 simp only [Z7,Z0]
 refine wpV_extract (v := .int .u64 (subB pF 2)) (by rfl) rfl rfl rfl ?_
 simp only [Z7,Z0]
 refine wpV_alloc (by rfl) ?_
 refine Z14 (hLk.out _ ?_)
 clear hLk Lk
 simp only [Z1,Z2]
 iterate 6 refine wpN_skip (by rfl) ?_
 refine wpN_new (t := 24) (cs := ([.int .u64 0, .int .u64 0, .int .u64 0, .int .u64 0]).toArray) (by rfl) (fun W => ?_) (fun g8 Hg8 ng8 => ?_)
 ·
  go_simp
 simp only [Z7,Z0]
 refine wpN_nil (fun w9 Sw9 hbs => ?_)
 have Bg8 : Blk w9 g8 24 ([.int .u64 0, .int .u64 0, .int .u64 0, .int .u64 0]).toArray := hbs _ (List.mem_cons_self ..)
 clear hbs
 have Ng3_g8 : g3 ≠ g8 := Nat.ne_of_lt (Nat.lt_of_lt_of_le Lg3 Hg8)
 have Ng4_g8 : g4 ≠ g8 := Nat.ne_of_lt (Nat.lt_of_lt_of_le Lg4 Hg8)
 have Gg8 : w.heap.size ≤ g8 := Nat.le_trans BE.size Hg8
 replace Rg3_0 := range_sees Rg3_0 Lg3 Sw9
 replace Tg3 := there_sees Tg3 Lg3 Sw9
 replace Rg4_0 := range_sees Rg4_0 Lg4 Sw9
 replace Tg4 := there_sees Tg4 Lg4 Sw9
 replace Lg3 := Nat.lt_of_lt_of_le Lg3 Sw9.2.2.size
 replace Lg4 := Nat.lt_of_lt_of_le Lg4 Sw9.2.2.size
 replace BE := BE.trans (Sw9.2.2.mono BE.size)
 have Tg8 := blk_there Bg8 (n := 4) (by simp [flen])
 have Rg8_0 := blk_range Bg8 (l := [.int .u64 0, .int .u64 0, .int .u64 0, .int .u64 0]) rfl
 have Lg8 := Bg8.lt
 clear ng8 Bg8
 refine wpL_store (g := g8) (off := 0) (n := 4) (cs := fel (subW pF 2)) (by rfl) (by rfl) (by rfl) (by rfl) (by rfl) Tg8 (by simp [flen]) info24 (fel_one _) (fun w10 Pw10 RR TT => ?_)
 replace Rg3_0 := Pw10.range Rg3_0 (.inl Ng3_g8)
 replace Tg3 := Pw10.other_there Tg3 Ng3_g8
 replace Rg4_0 := Pw10.range Rg4_0 (.inl Ng4_g8)
 replace Tg4 := Pw10.other_there Tg4 Ng4_g8
 replace Rg8_0 := RR
 clear RR
 replace Tg8 := TT
 replace Lg3 := Pw10.lt Lg3
 replace Lg4 := Pw10.lt Lg4
 replace Lg8 := Pw10.lt Lg8
 replace BE := Pw10.below BE Gg8
 refine Z13 (v := .int .u64 (subB pF 2)) (by rfl) (by rfl) (by rfl) ?_
 simp only [Z7,Z0]
 refine Z9 (Z10 ?_)
 refine hK6 _ _ ?_
 refine Z4 (fun K11 hK11 => ?_)
 refine wp_region_plain 3 (by kernel_rfl) (fun Lk hLk => ?_)
 simp only [Z1,Z2]
 refine wpV_load (cs := fel x) (by rfl) rfl rfl Rg3_0 Lg3 Try.underlying24 rfl info24 ?_
 simp only [Z7,Z0]
 refine wpV_load (cs := fel (subW pF 2)) (by rfl) rfl rfl Rg8_0 Lg8 Try.underlying24 rfl info24 ?_
 simp only [Z7,Z0]
 refine Z20 (v := fe (fpow x (subW pF 2))) (args := #[fe x, fe (subW pF 2)]) (by rfl) rfl Try.func74 (by kernel_rfl) (by kernel_rfl) rfl (fun W hW => power_c hx (subW_lt ..) W) ?_
 simp only [Z7,Z0]
 refine Z14 (hLk.out _ ?_)
 clear hLk Lk
 simp only [Z1,Z2]
 iterate 3 refine wpN_skip (by rfl) ?_
 refine wpN_nil (fun w13 Sw13 hbs => ?_)
 clear hbs
 replace Rg3_0 := range_sees Rg3_0 Lg3 Sw13
 replace Tg3 := there_sees Tg3 Lg3 Sw13
 replace Rg4_0 := range_sees Rg4_0 Lg4 Sw13
 replace Tg4 := there_sees Tg4 Lg4 Sw13
 replace Rg8_0 := range_sees Rg8_0 Lg8 Sw13
 replace Tg8 := there_sees Tg8 Lg8 Sw13
 replace Lg3 := Nat.lt_of_lt_of_le Lg3 Sw13.2.2.size
 replace Lg4 := Nat.lt_of_lt_of_le Lg4 Sw13.2.2.size
 replace Lg8 := Nat.lt_of_lt_of_le Lg8 Sw13.2.2.size
 replace BE := BE.trans (Sw13.2.2.mono BE.size)
 refine wpL_store (g := g4) (off := 0) (n := 4) (cs := fel (fpow x (subW pF 2))) (by rfl) (by rfl) (by rfl) (by rfl) (by rfl) Tg4 (by simp [flen]) info24 (fel_one _) (fun w14 Pw14 RR TT => ?_)
 replace Rg3_0 := Pw14.range Rg3_0 (.inl Ng3_g4)
 replace Tg3 := Pw14.other_there Tg3 Ng3_g4
 replace Rg8_0 := Pw14.range Rg8_0 (.inl (Ne.symm Ng4_g8))
 replace Tg8 := Pw14.other_there Tg8 (Ne.symm Ng4_g8)
 replace Rg4_0 := RR
 clear RR
 replace Tg4 := TT
 replace Lg3 := Pw14.lt Lg3
 replace Lg4 := Pw14.lt Lg4
 replace Lg8 := Pw14.lt Lg8
 replace BE := Pw14.below BE Gg4
 refine Z9 (Z10 ?_)
 refine hK11 _ _ ?_
 refine wp_ret ?_
 repeat (first | with_reducible refine then_ret ?_ | with_reducible refine inblock_ret ?_)
 refine bodyPost_ret (v := fe (fpow x (subW pF 2))) (res1 rfl (.cell (by rfl) (run_loadVar_mid _ _ _ _ (fel (fpow x (subW pF 2))) _ Rg4_0 Try.underlying24 rfl info24))) rfl ?_
 exact ⟨by rw [inv_exp]; rfl, BE⟩
end Go.Proofs.Ya

