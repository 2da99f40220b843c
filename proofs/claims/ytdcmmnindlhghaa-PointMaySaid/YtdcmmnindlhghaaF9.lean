import Derived.Test.YtdcmmnindlhghaaF4
import Derived.Test.YtdcmmnindlhghaaNumE
import Derived.Test.YtdcmmnindlhghaaNumH
set_option linter.unusedSimpArgs false
set_option linter.unusedVariables false
namespace Go.Proofs.Ya
open Go Go.RowKit Go.Shelf Go.Proofs.Num
open List renaming set → Z0, take → Z1, drop → Z2
open Go renaming undef → Z3, wp_seq_k → Z4, wp_cond_true → Z5, wp_cond_false → Z6
open Go.Proofs.Num renaming putT → Z7, wpL_nil → Z9, no_panic → Z10, wpL_assign → Z13, wpV_nil → Z14, wpV_bin → Z15, wpV_move → Z16, wpL_store1 → Z18, wpV_callf → Z20
set_option maxHeartbeats 1000000 in
theorem fmul_c {x : Nat} (hx : x < 2 ^ 256) {y : Nat} (hy : y < 2 ^ 256) (w : World) :
  Calls Try.prog 39 #[fe x, fe y] w fun e w' => e = .returned (fe (fmul x y)) ∧ Below w.heap.size w w' := by
 go_enter Try.func39, Try.ntmps39
 have BE := Below.refl w.heap.size w
 refine Z4 (fun K1 hK1 => ?_)
 refine wp_region_plain 3 (by kernel_rfl) (fun Lk hLk => ?_)
 simp only [Z1,Z2]
 refine wpV_alloc (by rfl) ?_
 refine wpV_alloc (by rfl) ?_
 refine wpV_alloc (by rfl) ?_
 refine Z14 (hLk.out _ ?_)
 clear hLk Lk
 simp only [Z1,Z2]
 refine wpN_new (t := 24) (cs := (fel x).toArray) (by rfl) (fun W => ?_) (fun g3 Hg3 ng3 => ?_)
 ·
  (first | rfl | go_simp)
 refine wpN_new (t := 24) (cs := (fel y).toArray) (by rfl) (fun W => ?_) (fun g4 Hg4 ng4 => ?_)
 ·
  (first | rfl | go_simp)
 refine wpN_new (t := 24) (cs := ([.int .u64 0, .int .u64 0, .int .u64 0, .int .u64 0]).toArray) (by rfl) (fun W => ?_) (fun g5 Hg5 ng5 => ?_)
 ·
  go_simp
 simp only [Z7,Z0]
 refine wpN_nil (fun w6 Sw6 hbs => ?_)
 have Bg3 : Blk w6 g3 24 (fel x).toArray := hbs _ (List.mem_cons_of_mem _ (List.mem_cons_of_mem _ (List.mem_cons_self ..)))
 have Bg4 : Blk w6 g4 24 (fel y).toArray := hbs _ (List.mem_cons_of_mem _ (List.mem_cons_self ..))
 have Bg5 : Blk w6 g5 24 ([.int .u64 0, .int .u64 0, .int .u64 0, .int .u64 0]).toArray := hbs _ (List.mem_cons_self ..)
 clear hbs
 have Gg3 : w.heap.size ≤ g3 := Nat.le_trans BE.size Hg3
 have Ng3_g4 : g3 ≠ g4 := ng4 (g3, _, _) (List.mem_cons_self ..)
 have Gg4 : w.heap.size ≤ g4 := Nat.le_trans BE.size Hg4
 have Ng3_g5 : g3 ≠ g5 := ng5 (g3, _, _) (List.mem_cons_of_mem _ (List.mem_cons_self ..))
 have Ng4_g5 : g4 ≠ g5 := ng5 (g4, _, _) (List.mem_cons_self ..)
 have Gg5 : w.heap.size ≤ g5 := Nat.le_trans BE.size Hg5
 replace BE := BE.trans (Sw6.2.2.mono BE.size)
 have Tg3 := blk_there Bg3 (n := 4) (by simp [flen])
 have Rg3_0 := blk_range Bg3 (l := fel x) rfl
 have Lg3 := Bg3.lt
 have Tg4 := blk_there Bg4 (n := 4) (by simp [flen])
 have Rg4_0 := blk_range Bg4 (l := fel y) rfl
 have Lg4 := Bg4.lt
 have Tg5 := blk_there Bg5 (n := 4) (by simp [flen])
 have Rg5_0 := blk_range Bg5 (l := [.int .u64 0, .int .u64 0, .int .u64 0, .int .u64 0]) rfl
 have Lg5 := Bg5.lt
 clear ng3 ng4 ng5 Bg3 Bg4 Bg5
 refine Z9 (Z10 ?_)
 refine hK1 _ _ ?_
 refine Z4 (fun K7 hK7 => ?_)
 refine wp_region_plain 8 (by kernel_rfl) (fun Lk hLk => ?_)
 simp only [Z1,Z2]
 refine wpV_load (cs := fel x) (by rfl) rfl rfl Rg3_0 Lg3 Try.underlying24 rfl info24 ?_
 simp only [Z7,Z0]
 refine wpV_load (cs := fel y) (by rfl) rfl rfl Rg4_0 Lg4 Try.underlying24 rfl info24 ?_
 simp only [Z7,Z0]
 refine Z20 (v := .tuple #[fe (mulLo x y), fe (mulHi x y)]) (args := #[fe x, fe y]) (by rfl) rfl Try.func75 (by kernel_rfl) (by kernel_rfl) rfl (fun W hW => wide_c hx hy W) ?_
 simp only [Z7,Z0]
 refine Z16 (v := .tuple #[fe (mulLo x y), fe (mulHi x y)]) (by rfl) rfl rfl ?_
 simp only [Z7,Z0]
 refine wpV_extract (v := fe (mulLo x y)) (by rfl) rfl rfl rfl ?_
 simp only [Z7,Z0]
 refine wpV_extract (v := fe (mulHi x y)) (by rfl) rfl rfl rfl ?_
 simp only [Z7,Z0]
 refine wpV_alloc (by rfl) ?_
 refine wpV_alloc (by rfl) ?_
 refine Z14 (hLk.out _ ?_)
 clear hLk Lk
 simp only [Z1,Z2]
 iterate 6 refine wpN_skip (by rfl) ?_
 refine wpN_new (t := 24) (cs := ([.int .u64 0, .int .u64 0, .int .u64 0, .int .u64 0]).toArray) (by rfl) (fun W => ?_) (fun g9 Hg9 ng9 => ?_)
 ·
  go_simp
 refine wpN_new (t := 24) (cs := ([.int .u64 0, .int .u64 0, .int .u64 0, .int .u64 0]).toArray) (by rfl) (fun W => ?_) (fun g10 Hg10 ng10 => ?_)
 ·
  go_simp
 simp only [Z7,Z0]
 refine wpN_nil (fun w11 Sw11 hbs => ?_)
 have Bg9 : Blk w11 g9 24 ([.int .u64 0, .int .u64 0, .int .u64 0, .int .u64 0]).toArray := hbs _ (List.mem_cons_of_mem _ (List.mem_cons_self ..))
 have Bg10 : Blk w11 g10 24 ([.int .u64 0, .int .u64 0, .int .u64 0, .int .u64 0]).toArray := hbs _ (List.mem_cons_self ..)
 clear hbs
 have Ng3_g9 : g3 ≠ g9 := Nat.ne_of_lt (Nat.lt_of_lt_of_le Lg3 Hg9)
 have Ng4_g9 : g4 ≠ g9 := Nat.ne_of_lt (Nat.lt_of_lt_of_le Lg4 Hg9)
 have Ng5_g9 : g5 ≠ g9 := Nat.ne_of_lt (Nat.lt_of_lt_of_le Lg5 Hg9)
 have Gg9 : w.heap.size ≤ g9 := Nat.le_trans BE.size Hg9
 have Ng3_g10 : g3 ≠ g10 := Nat.ne_of_lt (Nat.lt_of_lt_of_le Lg3 Hg10)
 have Ng4_g10 : g4 ≠ g10 := Nat.ne_of_lt (Nat.lt_of_lt_of_le Lg4 Hg10)
 have Ng5_g10 : g5 ≠ g10 := Nat.ne_of_lt (Nat.lt_of_lt_of_le Lg5 Hg10)
 have Ng9_g10 : g9 ≠ g10 := ng10 (g9, _, _) (List.mem_cons_self ..)
 have Gg10 : w.heap.size ≤ g10 := Nat.le_trans BE.size Hg10
 replace Rg3_0 := range_sees Rg3_0 Lg3 Sw11
 replace Tg3 := there_sees Tg3 Lg3 Sw11
 replace Rg4_0 := range_sees Rg4_0 Lg4 Sw11
 replace Tg4 := there_sees Tg4 Lg4 Sw11
 replace Rg5_0 := range_sees Rg5_0 Lg5 Sw11
 replace Tg5 := there_sees Tg5 Lg5 Sw11
 replace Lg3 := Nat.lt_of_lt_of_le Lg3 Sw11.2.2.size
 replace Lg4 := Nat.lt_of_lt_of_le Lg4 Sw11.2.2.size
 replace Lg5 := Nat.lt_of_lt_of_le Lg5 Sw11.2.2.size
 replace BE := BE.trans (Sw11.2.2.mono BE.size)
 have Tg9 := blk_there Bg9 (n := 4) (by simp [flen])
 have Rg9_0 := blk_range Bg9 (l := [.int .u64 0, .int .u64 0, .int .u64 0, .int .u64 0]) rfl
 have Lg9 := Bg9.lt
 have Tg10 := blk_there Bg10 (n := 4) (by simp [flen])
 have Rg10_0 := blk_range Bg10 (l := [.int .u64 0, .int .u64 0, .int .u64 0, .int .u64 0]) rfl
 have Lg10 := Bg10.lt
 clear ng9 ng10 Bg9 Bg10
 refine wpL_store (g := g9) (off := 0) (n := 4) (cs := fel (mulLo x y)) (by rfl) (by rfl) (by rfl) (by rfl) (by rfl) Tg9 (by simp [flen]) info24 (fel_one _) (fun w12 Pw12 RR TT => ?_)
 replace Rg3_0 := Pw12.range Rg3_0 (.inl Ng3_g9)
 replace Tg3 := Pw12.other_there Tg3 Ng3_g9
 replace Rg4_0 := Pw12.range Rg4_0 (.inl Ng4_g9)
 replace Tg4 := Pw12.other_there Tg4 Ng4_g9
 replace Rg5_0 := Pw12.range Rg5_0 (.inl Ng5_g9)
 replace Tg5 := Pw12.other_there Tg5 Ng5_g9
 replace Rg10_0 := Pw12.range Rg10_0 (.inl (Ne.symm Ng9_g10))
 replace Tg10 := Pw12.other_there Tg10 (Ne.symm Ng9_g10)
 replace Rg9_0 := RR
 clear RR
 replace Tg9 := TT
 replace Lg3 := Pw12.lt Lg3
 replace Lg4 := Pw12.lt Lg4
 replace Lg5 := Pw12.lt Lg5
 replace Lg9 := Pw12.lt Lg9
 replace Lg10 := Pw12.lt Lg10
 replace BE := Pw12.below BE Gg9
 refine wpL_store (g := g10) (off := 0) (n := 4) (cs := fel (mulHi x y)) (by rfl) (by rfl) (by rfl) (by rfl) (by rfl) Tg10 (by simp [flen]) info24 (fel_one _) (fun w13 Pw13 RR TT => ?_)
 replace Rg3_0 := Pw13.range Rg3_0 (.inl Ng3_g10)
 replace Tg3 := Pw13.other_there Tg3 Ng3_g10
 replace Rg4_0 := Pw13.range Rg4_0 (.inl Ng4_g10)
 replace Tg4 := Pw13.other_there Tg4 Ng4_g10
 replace Rg5_0 := Pw13.range Rg5_0 (.inl Ng5_g10)
 replace Tg5 := Pw13.other_there Tg5 Ng5_g10
 replace Rg9_0 := Pw13.range Rg9_0 (.inl Ng9_g10)
 replace Tg9 := Pw13.other_there Tg9 Ng9_g10
 replace Rg10_0 := RR
 clear RR
 replace Tg10 := TT
 replace Lg3 := Pw13.lt Lg3
 replace Lg4 := Pw13.lt Lg4
 replace Lg5 := Pw13.lt Lg5
 replace Lg9 := Pw13.lt Lg9
 replace Lg10 := Pw13.lt Lg10
 replace BE := Pw13.below BE Gg10
 refine Z9 (Z10 ?_)
 refine hK7 _ _ ?_
 refine Z4 (fun K14 hK14 => ?_)
 refine wp_region_plain 0 (by kernel_rfl) (fun Lk hLk => ?_)
 simp only [Z1,Z2]
 refine Z14 (hLk.out _ ?_)
 clear hLk Lk
 simp only [Z1,Z2]
 refine wpN_nil (fun w16 Sw16 hbs => ?_)
 clear hbs
 replace Rg3_0 := range_sees Rg3_0 Lg3 Sw16
 replace Tg3 := there_sees Tg3 Lg3 Sw16
 replace Rg4_0 := range_sees Rg4_0 Lg4 Sw16
 replace Tg4 := there_sees Tg4 Lg4 Sw16
 replace Rg5_0 := range_sees Rg5_0 Lg5 Sw16
 replace Tg5 := there_sees Tg5 Lg5 Sw16
 replace Rg9_0 := range_sees Rg9_0 Lg9 Sw16
 replace Tg9 := there_sees Tg9 Lg9 Sw16
 replace Rg10_0 := range_sees Rg10_0 Lg10 Sw16
 replace Tg10 := there_sees Tg10 Lg10 Sw16
 replace Lg3 := Nat.lt_of_lt_of_le Lg3 Sw16.2.2.size
 replace Lg4 := Nat.lt_of_lt_of_le Lg4 Sw16.2.2.size
 replace Lg5 := Nat.lt_of_lt_of_le Lg5 Sw16.2.2.size
 replace Lg9 := Nat.lt_of_lt_of_le Lg9 Sw16.2.2.size
 replace Lg10 := Nat.lt_of_lt_of_le Lg10 Sw16.2.2.size
 replace BE := BE.trans (Sw16.2.2.mono BE.size)
 refine Z13 (v := .int .u64 0) (by rfl) (by rfl) (by rfl) ?_
 simp only [Z7,Z0]
 refine Z9 (Z10 ?_)
 refine hK14 _ _ ?_
 refine Z4 (fun K17 hK17 => ?_)
 refine Z4 (fun K18 hK18 => ?_)
 refine wp_region_plain 2 (by kernel_rfl) (fun Lk hLk => ?_)
 simp only [Z1,Z2]
 refine wpV_load (cs := fel (mulHi x y)) (by rfl) rfl rfl Rg10_0 Lg10 Try.underlying24 rfl info24 ?_
 simp only [Z7,Z0]
 refine Z16 (v := .int .i64 0) (by rfl) rfl rfl ?_
 simp only [Z7,Z0]
 refine Z14 (hLk.out _ ?_)
 clear hLk Lk
 simp only [Z1,Z2]
 iterate 2 refine wpN_skip (by rfl) ?_
 refine wpN_nil (fun w20 Sw20 hbs => ?_)
 clear hbs
 replace Rg3_0 := range_sees Rg3_0 Lg3 Sw20
 replace Tg3 := there_sees Tg3 Lg3 Sw20
 replace Rg4_0 := range_sees Rg4_0 Lg4 Sw20
 replace Tg4 := there_sees Tg4 Lg4 Sw20
 replace Rg5_0 := range_sees Rg5_0 Lg5 Sw20
 replace Tg5 := there_sees Tg5 Lg5 Sw20
 replace Rg9_0 := range_sees Rg9_0 Lg9 Sw20
 replace Tg9 := there_sees Tg9 Lg9 Sw20
 replace Rg10_0 := range_sees Rg10_0 Lg10 Sw20
 replace Tg10 := there_sees Tg10 Lg10 Sw20
 replace Lg3 := Nat.lt_of_lt_of_le Lg3 Sw20.2.2.size
 replace Lg4 := Nat.lt_of_lt_of_le Lg4 Sw20.2.2.size
 replace Lg5 := Nat.lt_of_lt_of_le Lg5 Sw20.2.2.size
 replace Lg9 := Nat.lt_of_lt_of_le Lg9 Sw20.2.2.size
 replace Lg10 := Nat.lt_of_lt_of_le Lg10 Sw20.2.2.size
 replace BE := BE.trans (Sw20.2.2.mono BE.size)
 refine Z9 (Z10 ?_)
 refine hK18 _ _ ?_
 refine wp_block ?_
 refine wp_loop_ghost (fun n9 a9 W9 => ∃ (i : Nat) (M : Nat) (c : Nat) (u21 : Nat → Value), n9 = 4 - i ∧ a9 = { tmps := #[fe x, fe y, .pointer (some ⟨g3, 0, none⟩), .pointer (some ⟨g4, 0, none⟩), .pointer (some ⟨g5, 0, none⟩), .pointer (some ⟨g9, 0, none⟩), .pointer (some ⟨g10, 0, none⟩), .int .u64 ((c : Nat) : Int), u21 8, u21 9, u21 10, u21 11, u21 12, u21 13, u21 14, u21 15, .tuple #[fe (mulLo x y), fe (mulHi x y)], fe x, fe y, .tuple #[fe (mulLo x y), fe (mulHi x y)], fe (mulLo x y), fe (mulHi x y), fe (mulHi x y), .int .i64 ((i : Nat) : Int), u21 24, u21 25, u21 26, u21 27, u21 28, u21 29, u21 30, u21 31, u21 32, u21 33, u21 34, u21 35, u21 36, u21 37, u21 38, u21 39, u21 40, u21 41, u21 42, u21 43, u21 44, u21 45, u21 46, u21 47, u21 48, u21 49, u21 50, u21 51, u21 52, u21 53, u21 54, Z3, Z3, Z3], defers := [] } ∧ Below w.heap.size w W9 ∧ World.rangeAt W9 g3 0 (fel x) ∧ World.there W9 g3 0 4 ∧ g3 < W9.heap.size ∧ World.rangeAt W9 g4 0 (fel y) ∧ World.there W9 g4 0 4 ∧ g4 < W9.heap.size ∧ World.rangeAt W9 g5 0 ([.int .u64 0, .int .u64 0, .int .u64 0, .int .u64 0]) ∧ World.there W9 g5 0 4 ∧ g5 < W9.heap.size ∧ World.rangeAt W9 g9 0 (fel M) ∧ World.there W9 g9 0 4 ∧ g9 < W9.heap.size ∧ World.rangeAt W9 g10 0 (fel (mulHi x y)) ∧ World.there W9 g10 0 4 ∧ g10 < W9.heap.size ∧ (i ≤ 4) ∧ (BackInv (mulLo x y) (mulHi x y) i M c)) (4 - (0)) ?_ (fun n9 a9 W9 hI => ?_)
 ·
  exact ⟨0, (mulLo x y), 0, (fun q9 => (#[Z3, Z3, Z3, Z3, Z3, Z3, Z3, Z3, Z3, Z3, Z3, Z3, Z3, Z3, Z3, Z3, Z3, Z3, Z3, Z3, Z3, Z3, Z3, Z3, Z3, Z3, Z3, Z3, Z3, Z3, Z3, Z3, Z3, Z3, Z3, Z3, Z3, Z3, Z3, Z3, Z3, Z3, Z3, Z3, Z3, Z3, Z3, Z3, Z3, Z3, Z3, Z3, Z3, Z3, Z3] : Array Value).getD q9 Z3), rfl, rfl, BE, Rg3_0, Tg3, Lg3, Rg4_0, Tg4, Lg4, Rg5_0, Tg5, Lg5, Rg9_0, Tg9, Lg9, Rg10_0, Tg10, Lg10, (by omega), (back_start (mulLo_lt ..))⟩
 clear BE Rg3_0 Rg4_0 Rg5_0 Rg9_0 Rg10_0 Tg3 Tg4 Tg5 Tg9 Tg10 Lg3 Lg4 Lg5 Lg9 Lg10
 obtain ⟨i, M, c, u21, rfl, rfl, BE, Rg3_0, Tg3, Lg3, Rg4_0, Tg4, Lg4, Rg5_0, Tg5, Lg5, Rg9_0, Tg9, Lg9, Rg10_0, Tg10, Lg10, hi4, HW⟩ := hI
 obtain ⟨w22, rfl⟩ : ∃ W8, W8 = W9 := ⟨_, rfl⟩
 have hcw := HW.word
 refine Z4 (fun K23 hK23 => ?_)
 refine wp_region_plain 1 (by kernel_rfl) (fun Lk hLk => ?_)
 simp only [Z1,Z2]
 refine Z15 (v := .bool (decide (i < 4))) (by rfl) rfl rfl rfl (fun W => run_lssN i 4 _ _ W) ?_
 simp only [Z7,Z0]
 refine Z14 (hLk.out _ ?_)
 clear hLk Lk
 simp only [Z1,Z2]
 iterate 1 refine wpN_skip (by rfl) ?_
 refine wpN_nil (fun w25 Sw25 hbs => ?_)
 clear hbs
 replace Rg3_0 := range_sees Rg3_0 Lg3 Sw25
 replace Tg3 := there_sees Tg3 Lg3 Sw25
 replace Rg4_0 := range_sees Rg4_0 Lg4 Sw25
 replace Tg4 := there_sees Tg4 Lg4 Sw25
 replace Rg5_0 := range_sees Rg5_0 Lg5 Sw25
 replace Tg5 := there_sees Tg5 Lg5 Sw25
 replace Rg9_0 := range_sees Rg9_0 Lg9 Sw25
 replace Tg9 := there_sees Tg9 Lg9 Sw25
 replace Rg10_0 := range_sees Rg10_0 Lg10 Sw25
 replace Tg10 := there_sees Tg10 Lg10 Sw25
 replace Lg3 := Nat.lt_of_lt_of_le Lg3 Sw25.2.2.size
 replace Lg4 := Nat.lt_of_lt_of_le Lg4 Sw25.2.2.size
 replace Lg5 := Nat.lt_of_lt_of_le Lg5 Sw25.2.2.size
 replace Lg9 := Nat.lt_of_lt_of_le Lg9 Sw25.2.2.size
 replace Lg10 := Nat.lt_of_lt_of_le Lg10 Sw25.2.2.size
 replace BE := BE.trans (Sw25.2.2.mono BE.size)
 refine Z9 (Z10 ?_)
 refine hK23 _ _ ?_
 refine Z4 (fun K26 hK26 => ?_)
 cases hc27 : (decide (i < 4))
 ·
  have ei : i = 4 := by have := of_decide_eq_false hc27; omega
  subst ei
  refine Z6 rfl ?_
  refine wp_exit ?_
  refine hK17 _ _ ?_
  refine Z4 (fun K28 hK28 => ?_)
  refine wp_region_plain 3 (by kernel_rfl) (fun Lk hLk => ?_)
  simp only [Z1,Z2]
  refine wpV_load (cs := fel M) (by rfl) rfl rfl Rg9_0 Lg9 Try.underlying24 rfl info24 ?_
  simp only [Z7,Z0]
  refine Z16 (v := .int .u64 ((c : Nat) : Int)) (by rfl) rfl rfl ?_
  simp only [Z7,Z0]
  refine Z20 (v := fe (foldF M c)) (args := #[fe M, .int .u64 ((c : Nat) : Int)]) (by rfl) rfl Try.func76 (by kernel_rfl) (by kernel_rfl) rfl (fun W hW => folds_c HW.top HW.word W) ?_
  simp only [Z7,Z0]
  refine Z14 (hLk.out _ ?_)
  clear hLk Lk
  simp only [Z1,Z2]
  iterate 3 refine wpN_skip (by rfl) ?_
  refine wpN_nil (fun w30 Sw30 hbs => ?_)
  clear hbs
  replace Rg3_0 := range_sees Rg3_0 Lg3 Sw30
  replace Tg3 := there_sees Tg3 Lg3 Sw30
  replace Rg4_0 := range_sees Rg4_0 Lg4 Sw30
  replace Tg4 := there_sees Tg4 Lg4 Sw30
  replace Rg5_0 := range_sees Rg5_0 Lg5 Sw30
  replace Tg5 := there_sees Tg5 Lg5 Sw30
  replace Rg9_0 := range_sees Rg9_0 Lg9 Sw30
  replace Tg9 := there_sees Tg9 Lg9 Sw30
  replace Rg10_0 := range_sees Rg10_0 Lg10 Sw30
  replace Tg10 := there_sees Tg10 Lg10 Sw30
  replace Lg3 := Nat.lt_of_lt_of_le Lg3 Sw30.2.2.size
  replace Lg4 := Nat.lt_of_lt_of_le Lg4 Sw30.2.2.size
  replace Lg5 := Nat.lt_of_lt_of_le Lg5 Sw30.2.2.size
  replace Lg9 := Nat.lt_of_lt_of_le Lg9 Sw30.2.2.size
  replace Lg10 := Nat.lt_of_lt_of_le Lg10 Sw30.2.2.size
  replace BE := BE.trans (Sw30.2.2.mono BE.size)
  refine wpL_store (g := g5) (off := 0) (n := 4) (cs := fel (foldF M c)) (by rfl) (by rfl) (by rfl) (by rfl) (by rfl) Tg5 (by simp [flen]) info24 (fel_one _) (fun w31 Pw31 RR TT => ?_)
  replace Rg3_0 := Pw31.range Rg3_0 (.inl Ng3_g5)
  replace Tg3 := Pw31.other_there Tg3 Ng3_g5
  replace Rg4_0 := Pw31.range Rg4_0 (.inl Ng4_g5)
  replace Tg4 := Pw31.other_there Tg4 Ng4_g5
  replace Rg9_0 := Pw31.range Rg9_0 (.inl (Ne.symm Ng5_g9))
  replace Tg9 := Pw31.other_there Tg9 (Ne.symm Ng5_g9)
  replace Rg10_0 := Pw31.range Rg10_0 (.inl (Ne.symm Ng5_g10))
  replace Tg10 := Pw31.other_there Tg10 (Ne.symm Ng5_g10)
  replace Rg5_0 := RR
  clear RR
  replace Tg5 := TT
  replace Lg3 := Pw31.lt Lg3
  replace Lg4 := Pw31.lt Lg4
  replace Lg5 := Pw31.lt Lg5
  replace Lg9 := Pw31.lt Lg9
  replace Lg10 := Pw31.lt Lg10
  replace BE := Pw31.below BE Gg5
  refine Z9 (Z10 ?_)
  refine hK28 _ _ ?_
  refine wp_ret ?_
  repeat (first | with_reducible refine then_ret ?_ | with_reducible refine inblock_ret ?_)
  refine bodyPost_ret (v := fe (foldF M c)) (res1 rfl (.cell (by rfl) (run_loadVar_mid _ _ _ _ (fel (foldF M c)) _ Rg5_0 Try.underlying24 rfl info24))) rfl ?_
  exact ⟨by rw [back_end hx hy HW], BE⟩
 ·
  have hi : i < 4 := of_decide_eq_true hc27
  refine Z5 rfl ?_
  refine wp_skip ?_
  refine hK26 _ _ ?_
  refine Z4 (fun K32 hK32 => ?_)
  refine wp_block ?_
  refine Z4 (fun K33 hK33 => ?_)
  refine wp_region_plain 2 (by kernel_rfl) (fun Lk hLk => ?_)
  simp only [Z1,Z2]
  refine Z16 (v := .int .i64 ((i : Nat) : Int)) (by rfl) rfl rfl ?_
  simp only [Z7,Z0]
  refine wpV_index (n := i) (v := .int .u64 ((limbN (mulHi x y) i : Nat) : Int)) (by rfl) rfl rfl rfl Try.underlying24 info22 Try.underlying22 rfl (by omega) (fel_get (j := i) (mulHi x y) (by omega)) ?_
  simp only [Z7,Z0]
  refine Z14 (hLk.out _ ?_)
  clear hLk Lk
  simp only [Z1,Z2]
  iterate 2 refine wpN_skip (by rfl) ?_
  refine wpN_nil (fun w35 Sw35 hbs => ?_)
  clear hbs
  replace Rg3_0 := range_sees Rg3_0 Lg3 Sw35
  replace Tg3 := there_sees Tg3 Lg3 Sw35
  replace Rg4_0 := range_sees Rg4_0 Lg4 Sw35
  replace Tg4 := there_sees Tg4 Lg4 Sw35
  replace Rg5_0 := range_sees Rg5_0 Lg5 Sw35
  replace Tg5 := there_sees Tg5 Lg5 Sw35
  replace Rg9_0 := range_sees Rg9_0 Lg9 Sw35
  replace Tg9 := there_sees Tg9 Lg9 Sw35
  replace Rg10_0 := range_sees Rg10_0 Lg10 Sw35
  replace Tg10 := there_sees Tg10 Lg10 Sw35
  replace Lg3 := Nat.lt_of_lt_of_le Lg3 Sw35.2.2.size
  replace Lg4 := Nat.lt_of_lt_of_le Lg4 Sw35.2.2.size
  replace Lg5 := Nat.lt_of_lt_of_le Lg5 Sw35.2.2.size
  replace Lg9 := Nat.lt_of_lt_of_le Lg9 Sw35.2.2.size
  replace Lg10 := Nat.lt_of_lt_of_le Lg10 Sw35.2.2.size
  replace BE := BE.trans (Sw35.2.2.mono BE.size)
  refine Z13 (v := .int .i64 ((i : Nat) : Int)) (by rfl) (by rfl) (by rfl) ?_
  simp only [Z7,Z0]
  refine Z13 (v := .int .u64 ((limbN (mulHi x y) i : Nat) : Int)) (by rfl) (by rfl) (by rfl) ?_
  simp only [Z7,Z0]
  refine Z9 (Z10 ?_)
  refine hK33 _ _ ?_
  refine Z4 (fun K36 hK36 => ?_)
  refine wp_region_plain 5 (by kernel_rfl) (fun Lk hLk => ?_)
  simp only [Z1,Z2]
  refine Z16 (v := .int .u64 ((limbN (mulHi x y) i : Nat) : Int)) (by rfl) rfl rfl ?_
  simp only [Z7,Z0]
  refine Z20 (v := .tuple #[.int .u64 (((limbN (mulHi x y) i) * 38 / 18446744073709551616 : Nat) : Int), .int .u64 (((limbN (mulHi x y) i) * 38 % 18446744073709551616 : Nat) : Int)]) (args := #[.int .u64 ((limbN (mulHi x y) i : Nat) : Int), .int .u64 38]) (by rfl) rfl Try.func56 (by kernel_rfl) (by kernel_rfl) rfl (fun W hW => mul64_c (limbN_lt ..) (by decide) W) ?_
  simp only [Z7,Z0]
  refine Z16 (v := .tuple #[.int .u64 (((limbN (mulHi x y) i) * 38 / 18446744073709551616 : Nat) : Int), .int .u64 (((limbN (mulHi x y) i) * 38 % 18446744073709551616 : Nat) : Int)]) (by rfl) rfl rfl ?_
  simp only [Z7,Z0]
  refine wpV_extract (v := .int .u64 (((limbN (mulHi x y) i) * 38 / 18446744073709551616 : Nat) : Int)) (by rfl) rfl rfl rfl ?_
  simp only [Z7,Z0]
  refine wpV_extract (v := .int .u64 (((limbN (mulHi x y) i) * 38 % 18446744073709551616 : Nat) : Int)) (by rfl) rfl rfl rfl ?_
  simp only [Z7,Z0]
  refine Z14 (hLk.out _ ?_)
  clear hLk Lk
  simp only [Z1,Z2]
  iterate 5 refine wpN_skip (by rfl) ?_
  refine wpN_nil (fun w38 Sw38 hbs => ?_)
  clear hbs
  replace Rg3_0 := range_sees Rg3_0 Lg3 Sw38
  replace Tg3 := there_sees Tg3 Lg3 Sw38
  replace Rg4_0 := range_sees Rg4_0 Lg4 Sw38
  replace Tg4 := there_sees Tg4 Lg4 Sw38
  replace Rg5_0 := range_sees Rg5_0 Lg5 Sw38
  replace Tg5 := there_sees Tg5 Lg5 Sw38
  replace Rg9_0 := range_sees Rg9_0 Lg9 Sw38
  replace Tg9 := there_sees Tg9 Lg9 Sw38
  replace Rg10_0 := range_sees Rg10_0 Lg10 Sw38
  replace Tg10 := there_sees Tg10 Lg10 Sw38
  replace Lg3 := Nat.lt_of_lt_of_le Lg3 Sw38.2.2.size
  replace Lg4 := Nat.lt_of_lt_of_le Lg4 Sw38.2.2.size
  replace Lg5 := Nat.lt_of_lt_of_le Lg5 Sw38.2.2.size
  replace Lg9 := Nat.lt_of_lt_of_le Lg9 Sw38.2.2.size
  replace Lg10 := Nat.lt_of_lt_of_le Lg10 Sw38.2.2.size
  replace BE := BE.trans (Sw38.2.2.mono BE.size)
  refine Z13 (v := .int .u64 (((limbN (mulHi x y) i) * 38 / 18446744073709551616 : Nat) : Int)) (by rfl) (by rfl) (by rfl) ?_
  simp only [Z7,Z0]
  refine Z13 (v := .int .u64 (((limbN (mulHi x y) i) * 38 % 18446744073709551616 : Nat) : Int)) (by rfl) (by rfl) (by rfl) ?_
  simp only [Z7,Z0]
  refine Z9 (Z10 ?_)
  refine hK36 _ _ ?_
  refine Z4 (fun K39 hK39 => ?_)
  refine wp_region_plain 8 (by kernel_rfl) (fun Lk hLk => ?_)
  simp only [Z1,Z2]
  refine Z16 (v := .int .i64 ((i : Nat) : Int)) (by rfl) rfl rfl ?_
  simp only [Z7,Z0]
  refine wpV_idx (n := i) (by rfl) rfl rfl rfl Try.underlying24 info22 (by omega) ?_
  simp only [Nat.zero_add]
  simp only [Z7,Z0]
  refine wpV_load1 (v := .int .u64 ((limbN M i : Nat) : Int)) (by rfl) rfl rfl (by have := Rg9_0 _ _ (fel_get (j := i) M (by omega)); rwa [Nat.zero_add] at this) Lg9 Try.underlying22 rfl ?_
  simp only [Z7,Z0]
  refine Z16 (v := .int .u64 (((limbN (mulHi x y) i) * 38 % 18446744073709551616 : Nat) : Int)) (by rfl) rfl rfl ?_
  simp only [Z7,Z0]
  refine wpV_ext (v := .tuple #[.int .u64 (((limbN M i + (limbN (mulHi x y) i) * 38 % 18446744073709551616) % 18446744073709551616 : Nat) : Int), .int .u64 (((limbN M i + (limbN (mulHi x y) i) * 38 % 18446744073709551616) / 18446744073709551616 : Nat) : Int)]) (f := 54) (args := #[.int .u64 ((limbN M i : Nat) : Int), .int .u64 (((limbN (mulHi x y) i) * 38 % 18446744073709551616 : Nat) : Int), .int .u64 0]) (by rfl) rfl rfl (addN (x := limbN M i) (y := (limbN (mulHi x y) i) * 38 % 18446744073709551616) (c := 0) (limbN_lt ..) (Nat.mod_lt _ (by decide)) (by omega)) ?_
  simp only [Z7,Z0]
  refine Z16 (v := .tuple #[.int .u64 (((limbN M i + (limbN (mulHi x y) i) * 38 % 18446744073709551616) % 18446744073709551616 : Nat) : Int), .int .u64 (((limbN M i + (limbN (mulHi x y) i) * 38 % 18446744073709551616) / 18446744073709551616 : Nat) : Int)]) (by rfl) rfl rfl ?_
  simp only [Z7,Z0]
  refine wpV_extract (v := .int .u64 (((limbN M i + (limbN (mulHi x y) i) * 38 % 18446744073709551616) % 18446744073709551616 : Nat) : Int)) (by rfl) rfl rfl rfl ?_
  simp only [Z7,Z0]
  refine wpV_extract (v := .int .u64 (((limbN M i + (limbN (mulHi x y) i) * 38 % 18446744073709551616) / 18446744073709551616 : Nat) : Int)) (by rfl) rfl rfl rfl ?_
  simp only [Z7,Z0]
  refine Z14 (hLk.out _ ?_)
  clear hLk Lk
  simp only [Z1,Z2]
  iterate 8 refine wpN_skip (by rfl) ?_
  refine wpN_nil (fun w41 Sw41 hbs => ?_)
  clear hbs
  replace Rg3_0 := range_sees Rg3_0 Lg3 Sw41
  replace Tg3 := there_sees Tg3 Lg3 Sw41
  replace Rg4_0 := range_sees Rg4_0 Lg4 Sw41
  replace Tg4 := there_sees Tg4 Lg4 Sw41
  replace Rg5_0 := range_sees Rg5_0 Lg5 Sw41
  replace Tg5 := there_sees Tg5 Lg5 Sw41
  replace Rg9_0 := range_sees Rg9_0 Lg9 Sw41
  replace Tg9 := there_sees Tg9 Lg9 Sw41
  replace Rg10_0 := range_sees Rg10_0 Lg10 Sw41
  replace Tg10 := there_sees Tg10 Lg10 Sw41
  replace Lg3 := Nat.lt_of_lt_of_le Lg3 Sw41.2.2.size
  replace Lg4 := Nat.lt_of_lt_of_le Lg4 Sw41.2.2.size
  replace Lg5 := Nat.lt_of_lt_of_le Lg5 Sw41.2.2.size
  replace Lg9 := Nat.lt_of_lt_of_le Lg9 Sw41.2.2.size
  replace Lg10 := Nat.lt_of_lt_of_le Lg10 Sw41.2.2.size
  replace BE := BE.trans (Sw41.2.2.mono BE.size)
  refine Z13 (v := .int .u64 (((limbN M i + (limbN (mulHi x y) i) * 38 % 18446744073709551616) % 18446744073709551616 : Nat) : Int)) (by rfl) (by rfl) (by rfl) ?_
  simp only [Z7,Z0]
  refine Z13 (v := .int .u64 (((limbN M i + (limbN (mulHi x y) i) * 38 % 18446744073709551616) / 18446744073709551616 : Nat) : Int)) (by rfl) (by rfl) (by rfl) ?_
  simp only [Z7,Z0]
  refine Z9 (Z10 ?_)
  refine hK39 _ _ ?_
  refine Z4 (fun K42 hK42 => ?_)
  refine wp_region_plain 6 (by kernel_rfl) (fun Lk hLk => ?_)
  simp only [Z1,Z2]
  refine Z16 (v := .int .u64 (((limbN M i + (limbN (mulHi x y) i) * 38 % 18446744073709551616) % 18446744073709551616 : Nat) : Int)) (by rfl) rfl rfl ?_
  simp only [Z7,Z0]
  refine Z16 (v := .int .u64 ((c : Nat) : Int)) (by rfl) rfl rfl ?_
  simp only [Z7,Z0]
  refine wpV_ext (v := .tuple #[.int .u64 ((((limbN M i + (limbN (mulHi x y) i) * 38 % 18446744073709551616) % 18446744073709551616 + c) % 18446744073709551616 : Nat) : Int), .int .u64 ((((limbN M i + (limbN (mulHi x y) i) * 38 % 18446744073709551616) % 18446744073709551616 + c) / 18446744073709551616 : Nat) : Int)]) (f := 54) (args := #[.int .u64 (((limbN M i + (limbN (mulHi x y) i) * 38 % 18446744073709551616) % 18446744073709551616 : Nat) : Int), .int .u64 ((c : Nat) : Int), .int .u64 0]) (by rfl) rfl rfl (addN (x := (limbN M i + (limbN (mulHi x y) i) * 38 % 18446744073709551616) % 18446744073709551616) (y := c) (c := 0) (Nat.mod_lt _ (by decide)) (by omega) (by omega)) ?_
  simp only [Z7,Z0]
  refine Z16 (v := .tuple #[.int .u64 ((((limbN M i + (limbN (mulHi x y) i) * 38 % 18446744073709551616) % 18446744073709551616 + c) % 18446744073709551616 : Nat) : Int), .int .u64 ((((limbN M i + (limbN (mulHi x y) i) * 38 % 18446744073709551616) % 18446744073709551616 + c) / 18446744073709551616 : Nat) : Int)]) (by rfl) rfl rfl ?_
  simp only [Z7,Z0]
  refine wpV_extract (v := .int .u64 ((((limbN M i + (limbN (mulHi x y) i) * 38 % 18446744073709551616) % 18446744073709551616 + c) % 18446744073709551616 : Nat) : Int)) (by rfl) rfl rfl rfl ?_
  simp only [Z7,Z0]
  refine wpV_extract (v := .int .u64 ((((limbN M i + (limbN (mulHi x y) i) * 38 % 18446744073709551616) % 18446744073709551616 + c) / 18446744073709551616 : Nat) : Int)) (by rfl) rfl rfl rfl ?_
  simp only [Z7,Z0]
  refine Z14 (hLk.out _ ?_)
  clear hLk Lk
  simp only [Z1,Z2]
  iterate 6 refine wpN_skip (by rfl) ?_
  refine wpN_nil (fun w44 Sw44 hbs => ?_)
  clear hbs
  replace Rg3_0 := range_sees Rg3_0 Lg3 Sw44
  replace Tg3 := there_sees Tg3 Lg3 Sw44
  replace Rg4_0 := range_sees Rg4_0 Lg4 Sw44
  replace Tg4 := there_sees Tg4 Lg4 Sw44
  replace Rg5_0 := range_sees Rg5_0 Lg5 Sw44
  replace Tg5 := there_sees Tg5 Lg5 Sw44
  replace Rg9_0 := range_sees Rg9_0 Lg9 Sw44
  replace Tg9 := there_sees Tg9 Lg9 Sw44
  replace Rg10_0 := range_sees Rg10_0 Lg10 Sw44
  replace Tg10 := there_sees Tg10 Lg10 Sw44
  replace Lg3 := Nat.lt_of_lt_of_le Lg3 Sw44.2.2.size
  replace Lg4 := Nat.lt_of_lt_of_le Lg4 Sw44.2.2.size
  replace Lg5 := Nat.lt_of_lt_of_le Lg5 Sw44.2.2.size
  replace Lg9 := Nat.lt_of_lt_of_le Lg9 Sw44.2.2.size
  replace Lg10 := Nat.lt_of_lt_of_le Lg10 Sw44.2.2.size
  replace BE := BE.trans (Sw44.2.2.mono BE.size)
  refine Z13 (v := .int .u64 ((((limbN M i + (limbN (mulHi x y) i) * 38 % 18446744073709551616) % 18446744073709551616 + c) % 18446744073709551616 : Nat) : Int)) (by rfl) (by rfl) (by rfl) ?_
  simp only [Z7,Z0]
  refine Z13 (v := .int .u64 ((((limbN M i + (limbN (mulHi x y) i) * 38 % 18446744073709551616) % 18446744073709551616 + c) / 18446744073709551616 : Nat) : Int)) (by rfl) (by rfl) (by rfl) ?_
  simp only [Z7,Z0]
  refine Z9 (Z10 ?_)
  refine hK42 _ _ ?_
  refine wp_region_plain 8 (by kernel_rfl) (fun Lk hLk => ?_)
  simp only [Z1,Z2]
  refine Z16 (v := .int .i64 ((i : Nat) : Int)) (by rfl) rfl rfl ?_
  simp only [Z7,Z0]
  refine Z16 (v := .int .u64 ((((limbN M i + (limbN (mulHi x y) i) * 38 % 18446744073709551616) % 18446744073709551616 + c) % 18446744073709551616 : Nat) : Int)) (by rfl) rfl rfl ?_
  simp only [Z7,Z0]
  refine Z16 (v := .int .u64 (((limbN (mulHi x y) i) * 38 / 18446744073709551616 : Nat) : Int)) (by rfl) rfl rfl ?_
  simp only [Z7,Z0]
  refine Z16 (v := .int .u64 (((limbN M i + (limbN (mulHi x y) i) * 38 % 18446744073709551616) / 18446744073709551616 : Nat) : Int)) (by rfl) rfl rfl ?_
  simp only [Z7,Z0]
  refine Z15 (v := .int .u64 ((limbN (mulHi x y) i * 38 / 18446744073709551616 + (limbN M i + limbN (mulHi x y) i * 38 % 18446744073709551616) / 18446744073709551616 : Nat) : Int)) (by rfl) rfl rfl rfl (fun W => run_add (by have := (back_parts HW).2; unfold backC at this; rw [wrap_u64]; omega) W) ?_
  simp only [Z7,Z0]
  refine Z16 (v := .int .u64 ((((limbN M i + (limbN (mulHi x y) i) * 38 % 18446744073709551616) % 18446744073709551616 + c) / 18446744073709551616 : Nat) : Int)) (by rfl) rfl rfl ?_
  simp only [Z7,Z0]
  refine Z15 (v := .int .u64 ((backC (mulHi x y) i M c : Nat) : Int)) (by rfl) rfl rfl rfl (fun W => run_add (by have := (back_parts HW).2; unfold backC at this ⊢; rw [wrap_u64]; omega) W) ?_
  simp only [Z7,Z0]
  refine wpV_idx (n := i) (by rfl) rfl rfl rfl Try.underlying24 info22 (by omega) ?_
  simp only [Nat.zero_add]
  simp only [Z7,Z0]
  refine Z14 (hLk.out _ ?_)
  clear hLk Lk
  simp only [Z1,Z2]
  iterate 8 refine wpN_skip (by rfl) ?_
  refine wpN_nil (fun w46 Sw46 hbs => ?_)
  clear hbs
  replace Rg3_0 := range_sees Rg3_0 Lg3 Sw46
  replace Tg3 := there_sees Tg3 Lg3 Sw46
  replace Rg4_0 := range_sees Rg4_0 Lg4 Sw46
  replace Tg4 := there_sees Tg4 Lg4 Sw46
  replace Rg5_0 := range_sees Rg5_0 Lg5 Sw46
  replace Tg5 := there_sees Tg5 Lg5 Sw46
  replace Rg9_0 := range_sees Rg9_0 Lg9 Sw46
  replace Tg9 := there_sees Tg9 Lg9 Sw46
  replace Rg10_0 := range_sees Rg10_0 Lg10 Sw46
  replace Tg10 := there_sees Tg10 Lg10 Sw46
  replace Lg3 := Nat.lt_of_lt_of_le Lg3 Sw46.2.2.size
  replace Lg4 := Nat.lt_of_lt_of_le Lg4 Sw46.2.2.size
  replace Lg5 := Nat.lt_of_lt_of_le Lg5 Sw46.2.2.size
  replace Lg9 := Nat.lt_of_lt_of_le Lg9 Sw46.2.2.size
  replace Lg10 := Nat.lt_of_lt_of_le Lg10 Sw46.2.2.size
  replace BE := BE.trans (Sw46.2.2.mono BE.size)
  refine Z18 (g := g9) (off := i) (n := 4) (v := .int .u64 ((((limbN M i + (limbN (mulHi x y) i) * 38 % 18446744073709551616) % 18446744073709551616 + c) % 18446744073709551616 : Nat) : Int)) (by rfl) (by rfl) (by rfl) (by rfl) (by rfl) Tg9 (by omega) info22 rfl (fun w47 Pw47 RR TT => ?_)
  replace Rg3_0 := Pw47.range Rg3_0 (.inl Ng3_g9)
  replace Tg3 := Pw47.other_there Tg3 Ng3_g9
  replace Rg4_0 := Pw47.range Rg4_0 (.inl Ng4_g9)
  replace Tg4 := Pw47.other_there Tg4 Ng4_g9
  replace Rg5_0 := Pw47.range Rg5_0 (.inl Ng5_g9)
  replace Tg5 := Pw47.other_there Tg5 Ng5_g9
  replace Rg10_0 := Pw47.range Rg10_0 (.inl (Ne.symm Ng9_g10))
  replace Tg10 := Pw47.other_there Tg10 (Ne.symm Ng9_g10)
  replace Rg9_0 := range_set Rg9_0 Pw47 RR
  clear RR
  replace Tg9 := TT
  replace Lg3 := Pw47.lt Lg3
  replace Lg4 := Pw47.lt Lg4
  replace Lg5 := Pw47.lt Lg5
  replace Lg9 := Pw47.lt Lg9
  replace Lg10 := Pw47.lt Lg10
  replace BE := Pw47.below BE Gg9
  rw [← wl_fel M, show (((limbN M i + (limbN (mulHi x y) i) * 38 % 18446744073709551616) % 18446744073709551616 + c) % 18446744073709551616) = backLo (mulHi x y) i M c from rfl, wl_set (backM_eq (mulHi x y) i M c) (backLo_lt ..), wl_fel] at Rg9_0
  refine Z13 (v := .int .u64 ((backC (mulHi x y) i M c : Nat) : Int)) (by rfl) (by rfl) (by rfl) ?_
  simp only [Z7,Z0]
  refine Z9 (Z10 ?_)
  refine hK32 _ _ ?_
  refine wp_region_plain 2 (by kernel_rfl) (fun Lk hLk => ?_)
  simp only [Z1,Z2]
  refine Z15 (v := .int .i64 ((i + 1 : Nat) : Int)) (by rfl) rfl rfl rfl (fun W => run_add (by simp only [IntKind.wrap_i64]; omega) W) ?_
  simp only [Z7,Z0]
  refine Z16 (v := .int .i64 ((i + 1 : Nat) : Int)) (by rfl) rfl rfl ?_
  simp only [Z7,Z0]
  refine Z14 (hLk.out _ ?_)
  clear hLk Lk
  simp only [Z1,Z2]
  iterate 2 refine wpN_skip (by rfl) ?_
  refine wpN_nil (fun w49 Sw49 hbs => ?_)
  clear hbs
  replace Rg3_0 := range_sees Rg3_0 Lg3 Sw49
  replace Tg3 := there_sees Tg3 Lg3 Sw49
  replace Rg4_0 := range_sees Rg4_0 Lg4 Sw49
  replace Tg4 := there_sees Tg4 Lg4 Sw49
  replace Rg5_0 := range_sees Rg5_0 Lg5 Sw49
  replace Tg5 := there_sees Tg5 Lg5 Sw49
  replace Rg9_0 := range_sees Rg9_0 Lg9 Sw49
  replace Tg9 := there_sees Tg9 Lg9 Sw49
  replace Rg10_0 := range_sees Rg10_0 Lg10 Sw49
  replace Tg10 := there_sees Tg10 Lg10 Sw49
  replace Lg3 := Nat.lt_of_lt_of_le Lg3 Sw49.2.2.size
  replace Lg4 := Nat.lt_of_lt_of_le Lg4 Sw49.2.2.size
  replace Lg5 := Nat.lt_of_lt_of_le Lg5 Sw49.2.2.size
  replace Lg9 := Nat.lt_of_lt_of_le Lg9 Sw49.2.2.size
  replace Lg10 := Nat.lt_of_lt_of_le Lg10 Sw49.2.2.size
  replace BE := BE.trans (Sw49.2.2.mono BE.size)
  refine Z9 (Z10 ?_)
  refine Exists.intro _ ⟨?_, (i + 1), (backM (mulHi x y) i M c), (backC (mulHi x y) i M c), (fun q9 => (#[Z3, Z3, Z3, Z3, Z3, Z3, Z3, Z3, .int .i64 ((i : Nat) : Int), .int .u64 ((limbN (mulHi x y) i : Nat) : Int), .int .u64 (((limbN (mulHi x y) i) * 38 / 18446744073709551616 : Nat) : Int), .int .u64 (((limbN (mulHi x y) i) * 38 % 18446744073709551616 : Nat) : Int), .int .u64 (((limbN M i + (limbN (mulHi x y) i) * 38 % 18446744073709551616) % 18446744073709551616 : Nat) : Int), .int .u64 (((limbN M i + (limbN (mulHi x y) i) * 38 % 18446744073709551616) / 18446744073709551616 : Nat) : Int), .int .u64 ((((limbN M i + (limbN (mulHi x y) i) * 38 % 18446744073709551616) % 18446744073709551616 + c) % 18446744073709551616 : Nat) : Int), .int .u64 ((((limbN M i + (limbN (mulHi x y) i) * 38 % 18446744073709551616) % 18446744073709551616 + c) / 18446744073709551616 : Nat) : Int), Z3, Z3, Z3, Z3, Z3, Z3, Z3, Z3, .bool true, .int .i64 ((i : Nat) : Int), .int .u64 ((limbN (mulHi x y) i : Nat) : Int), .tuple #[.int .u64 (((limbN (mulHi x y) i) * 38 / 18446744073709551616 : Nat) : Int), .int .u64 (((limbN (mulHi x y) i) * 38 % 18446744073709551616 : Nat) : Int)], .int .u64 ((limbN (mulHi x y) i : Nat) : Int), .tuple #[.int .u64 (((limbN (mulHi x y) i) * 38 / 18446744073709551616 : Nat) : Int), .int .u64 (((limbN (mulHi x y) i) * 38 % 18446744073709551616 : Nat) : Int)], .int .u64 (((limbN (mulHi x y) i) * 38 / 18446744073709551616 : Nat) : Int), .int .u64 (((limbN (mulHi x y) i) * 38 % 18446744073709551616 : Nat) : Int), .tuple #[.int .u64 (((limbN M i + (limbN (mulHi x y) i) * 38 % 18446744073709551616) % 18446744073709551616 : Nat) : Int), .int .u64 (((limbN M i + (limbN (mulHi x y) i) * 38 % 18446744073709551616) / 18446744073709551616 : Nat) : Int)], .int .i64 ((i : Nat) : Int), .pointer (some ⟨g9, i, none⟩), .int .u64 ((limbN M i : Nat) : Int), .int .u64 (((limbN (mulHi x y) i) * 38 % 18446744073709551616 : Nat) : Int), .tuple #[.int .u64 (((limbN M i + (limbN (mulHi x y) i) * 38 % 18446744073709551616) % 18446744073709551616 : Nat) : Int), .int .u64 (((limbN M i + (limbN (mulHi x y) i) * 38 % 18446744073709551616) / 18446744073709551616 : Nat) : Int)], .int .u64 (((limbN M i + (limbN (mulHi x y) i) * 38 % 18446744073709551616) % 18446744073709551616 : Nat) : Int), .int .u64 (((limbN M i + (limbN (mulHi x y) i) * 38 % 18446744073709551616) / 18446744073709551616 : Nat) : Int), .tuple #[.int .u64 ((((limbN M i + (limbN (mulHi x y) i) * 38 % 18446744073709551616) % 18446744073709551616 + c) % 18446744073709551616 : Nat) : Int), .int .u64 ((((limbN M i + (limbN (mulHi x y) i) * 38 % 18446744073709551616) % 18446744073709551616 + c) / 18446744073709551616 : Nat) : Int)], .int .u64 (((limbN M i + (limbN (mulHi x y) i) * 38 % 18446744073709551616) % 18446744073709551616 : Nat) : Int), .int .u64 ((c : Nat) : Int), .tuple #[.int .u64 ((((limbN M i + (limbN (mulHi x y) i) * 38 % 18446744073709551616) % 18446744073709551616 + c) % 18446744073709551616 : Nat) : Int), .int .u64 ((((limbN M i + (limbN (mulHi x y) i) * 38 % 18446744073709551616) % 18446744073709551616 + c) / 18446744073709551616 : Nat) : Int)], .int .u64 ((((limbN M i + (limbN (mulHi x y) i) * 38 % 18446744073709551616) % 18446744073709551616 + c) % 18446744073709551616 : Nat) : Int), .int .u64 ((((limbN M i + (limbN (mulHi x y) i) * 38 % 18446744073709551616) % 18446744073709551616 + c) / 18446744073709551616 : Nat) : Int), .int .i64 ((i : Nat) : Int), .int .u64 ((((limbN M i + (limbN (mulHi x y) i) * 38 % 18446744073709551616) % 18446744073709551616 + c) % 18446744073709551616 : Nat) : Int), .int .u64 (((limbN (mulHi x y) i) * 38 / 18446744073709551616 : Nat) : Int), .int .u64 (((limbN M i + (limbN (mulHi x y) i) * 38 % 18446744073709551616) / 18446744073709551616 : Nat) : Int), .int .u64 ((limbN (mulHi x y) i * 38 / 18446744073709551616 + (limbN M i + limbN (mulHi x y) i * 38 % 18446744073709551616) / 18446744073709551616 : Nat) : Int), .int .u64 ((((limbN M i + (limbN (mulHi x y) i) * 38 % 18446744073709551616) % 18446744073709551616 + c) / 18446744073709551616 : Nat) : Int), .int .u64 ((backC (mulHi x y) i M c : Nat) : Int), .pointer (some ⟨g9, i, none⟩), .int .i64 ((i + 1 : Nat) : Int)] : Array Value).getD q9 Z3), rfl, rfl, BE, Rg3_0, Tg3, Lg3, Rg4_0, Tg4, Lg4, Rg5_0, Tg5, Lg5, Rg9_0, Tg9, Lg9, Rg10_0, Tg10, Lg10, (by omega), (back_step hi HW)⟩
  omega
set_option maxHeartbeats 1000000 in
theorem power_c {x : Nat} (hx : x < 2 ^ 256) {n : Nat} (hn : n < 2 ^ 256) (w : World) :
  Calls Try.prog 74 #[fe x, fe n] w fun e w' => e = .returned (fe (fpow x n)) ∧ Below w.heap.size w w' := by
 go_enter Try.func74, Try.ntmps74
 have BE := Below.refl w.heap.size w
 refine Z4 (fun K1 hK1 => ?_)
 refine wp_region_plain 3 (by kernel_rfl) (fun Lk hLk => ?_)
 simp only [Z1,Z2]
 refine wpV_alloc (by rfl) ?_
 refine wpV_alloc (by rfl) ?_
 refine wpV_alloc (by rfl) ?_
 refine Z14 (hLk.out _ ?_)
 clear hLk Lk
 simp only [Z1,Z2]
 refine wpN_new (t := 24) (cs := (fel x).toArray) (by rfl) (fun W => ?_) (fun g3 Hg3 ng3 => ?_)
 ·
  (first | rfl | go_simp)
 refine wpN_new (t := 24) (cs := (fel n).toArray) (by rfl) (fun W => ?_) (fun g4 Hg4 ng4 => ?_)
 ·
  (first | rfl | go_simp)
 refine wpN_new (t := 24) (cs := ([.int .u64 0, .int .u64 0, .int .u64 0, .int .u64 0]).toArray) (by rfl) (fun W => ?_) (fun g5 Hg5 ng5 => ?_)
 ·
  go_simp
 simp only [Z7,Z0]
 refine wpN_nil (fun w6 Sw6 hbs => ?_)
 have Bg3 : Blk w6 g3 24 (fel x).toArray := hbs _ (List.mem_cons_of_mem _ (List.mem_cons_of_mem _ (List.mem_cons_self ..)))
 have Bg4 : Blk w6 g4 24 (fel n).toArray := hbs _ (List.mem_cons_of_mem _ (List.mem_cons_self ..))
 have Bg5 : Blk w6 g5 24 ([.int .u64 0, .int .u64 0, .int .u64 0, .int .u64 0]).toArray := hbs _ (List.mem_cons_self ..)
 clear hbs
 have Gg3 : w.heap.size ≤ g3 := Nat.le_trans BE.size Hg3
 have Ng3_g4 : g3 ≠ g4 := ng4 (g3, _, _) (List.mem_cons_self ..)
 have Gg4 : w.heap.size ≤ g4 := Nat.le_trans BE.size Hg4
 have Ng3_g5 : g3 ≠ g5 := ng5 (g3, _, _) (List.mem_cons_of_mem _ (List.mem_cons_self ..))
 have Ng4_g5 : g4 ≠ g5 := ng5 (g4, _, _) (List.mem_cons_self ..)
 have Gg5 : w.heap.size ≤ g5 := Nat.le_trans BE.size Hg5
 replace BE := BE.trans (Sw6.2.2.mono BE.size)
 have Tg3 := blk_there Bg3 (n := 4) (by simp [flen])
 have Rg3_0 := blk_range Bg3 (l := fel x) rfl
 have Lg3 := Bg3.lt
 have Tg4 := blk_there Bg4 (n := 4) (by simp [flen])
 have Rg4_0 := blk_range Bg4 (l := fel n) rfl
 have Lg4 := Bg4.lt
 have Tg5 := blk_there Bg5 (n := 4) (by simp [flen])
 have Rg5_0 := blk_range Bg5 (l := [.int .u64 0, .int .u64 0, .int .u64 0, .int .u64 0]) rfl
 have Lg5 := Bg5.lt
 clear ng3 ng4 ng5 Bg3 Bg4 Bg5
 refine Z9 (Z10 ?_)
 refine hK1 _ _ ?_
 refine Z4 (fun K7 hK7 => ?_)
 refine wp_region_plain 2 (by kernel_rfl) (fun Lk hLk => ?_)
 simp only [Z1,Z2]
 refine Z20 (v := fe 1) (args := #[.int .u64 1]) (by rfl) rfl Try.func32 (by kernel_rfl) (by kernel_rfl) rfl (fun W hW => of_c (n := 1) (by decide) W) ?_
 simp only [Z7,Z0]
 refine wpV_alloc (by rfl) ?_
 refine Z14 (hLk.out _ ?_)
 clear hLk Lk
 simp only [Z1,Z2]
 iterate 1 refine wpN_skip (by rfl) ?_
 refine wpN_new (t := 24) (cs := ([.int .u64 0, .int .u64 0, .int .u64 0, .int .u64 0]).toArray) (by rfl) (fun W => ?_) (fun g9 Hg9 ng9 => ?_)
 ·
  go_simp
 simp only [Z7,Z0]
 refine wpN_nil (fun w10 Sw10 hbs => ?_)
 have Bg9 : Blk w10 g9 24 ([.int .u64 0, .int .u64 0, .int .u64 0, .int .u64 0]).toArray := hbs _ (List.mem_cons_self ..)
 clear hbs
 have Ng3_g9 : g3 ≠ g9 := Nat.ne_of_lt (Nat.lt_of_lt_of_le Lg3 Hg9)
 have Ng4_g9 : g4 ≠ g9 := Nat.ne_of_lt (Nat.lt_of_lt_of_le Lg4 Hg9)
 have Ng5_g9 : g5 ≠ g9 := Nat.ne_of_lt (Nat.lt_of_lt_of_le Lg5 Hg9)
 have Gg9 : w.heap.size ≤ g9 := Nat.le_trans BE.size Hg9
 replace Rg3_0 := range_sees Rg3_0 Lg3 Sw10
 replace Tg3 := there_sees Tg3 Lg3 Sw10
 replace Rg4_0 := range_sees Rg4_0 Lg4 Sw10
 replace Tg4 := there_sees Tg4 Lg4 Sw10
 replace Rg5_0 := range_sees Rg5_0 Lg5 Sw10
 replace Tg5 := there_sees Tg5 Lg5 Sw10
 replace Lg3 := Nat.lt_of_lt_of_le Lg3 Sw10.2.2.size
 replace Lg4 := Nat.lt_of_lt_of_le Lg4 Sw10.2.2.size
 replace Lg5 := Nat.lt_of_lt_of_le Lg5 Sw10.2.2.size
 replace BE := BE.trans (Sw10.2.2.mono BE.size)
 have Tg9 := blk_there Bg9 (n := 4) (by simp [flen])
 have Rg9_0 := blk_range Bg9 (l := [.int .u64 0, .int .u64 0, .int .u64 0, .int .u64 0]) rfl
 have Lg9 := Bg9.lt
 clear ng9 Bg9
 refine wpL_store (g := g9) (off := 0) (n := 4) (cs := fel 1) (by rfl) (by rfl) (by rfl) (by rfl) (by rfl) Tg9 (by simp [flen]) info24 (fel_one _) (fun w11 Pw11 RR TT => ?_)
 replace Rg3_0 := Pw11.range Rg3_0 (.inl Ng3_g9)
 replace Tg3 := Pw11.other_there Tg3 Ng3_g9
 replace Rg4_0 := Pw11.range Rg4_0 (.inl Ng4_g9)
 replace Tg4 := Pw11.other_there Tg4 Ng4_g9
 replace Rg5_0 := Pw11.range Rg5_0 (.inl Ng5_g9)
 replace Tg5 := Pw11.other_there Tg5 Ng5_g9
 replace Rg9_0 := RR
 clear RR
 replace Tg9 := TT
 replace Lg3 := Pw11.lt Lg3
 replace Lg4 := Pw11.lt Lg4
 replace Lg5 := Pw11.lt Lg5
 replace Lg9 := Pw11.lt Lg9
 replace BE := Pw11.below BE Gg9
 refine Z9 (Z10 ?_)
 refine hK7 _ _ ?_
 refine Z4 (fun K12 hK12 => ?_)
 refine Z4 (fun K13 hK13 => ?_)
 refine wp_region_plain 1 (by kernel_rfl) (fun Lk hLk => ?_)
 simp only [Z1,Z2]
 refine Z16 (v := .int .i64 0) (by rfl) rfl rfl ?_
 simp only [Z7,Z0]
 refine Z14 (hLk.out _ ?_)
 clear hLk Lk
 simp only [Z1,Z2]
 iterate 1 refine wpN_skip (by rfl) ?_
 refine wpN_nil (fun w15 Sw15 hbs => ?_)
 clear hbs
 replace Rg3_0 := range_sees Rg3_0 Lg3 Sw15
 replace Tg3 := there_sees Tg3 Lg3 Sw15
 replace Rg4_0 := range_sees Rg4_0 Lg4 Sw15
 replace Tg4 := there_sees Tg4 Lg4 Sw15
 replace Rg5_0 := range_sees Rg5_0 Lg5 Sw15
 replace Tg5 := there_sees Tg5 Lg5 Sw15
 replace Rg9_0 := range_sees Rg9_0 Lg9 Sw15
 replace Tg9 := there_sees Tg9 Lg9 Sw15
 replace Lg3 := Nat.lt_of_lt_of_le Lg3 Sw15.2.2.size
 replace Lg4 := Nat.lt_of_lt_of_le Lg4 Sw15.2.2.size
 replace Lg5 := Nat.lt_of_lt_of_le Lg5 Sw15.2.2.size
 replace Lg9 := Nat.lt_of_lt_of_le Lg9 Sw15.2.2.size
 replace BE := BE.trans (Sw15.2.2.mono BE.size)
 refine Z9 (Z10 ?_)
 refine hK13 _ _ ?_
 refine wp_block ?_
 refine wp_loop_ghost (fun n9 a9 W9 => ∃ (k : Nat) (u16 : Nat → Value), n9 = 256 - k ∧ a9 = { tmps := #[fe x, fe n, .pointer (some ⟨g3, 0, none⟩), .pointer (some ⟨g4, 0, none⟩), .pointer (some ⟨g5, 0, none⟩), .pointer (some ⟨g9, 0, none⟩), u16 6, u16 7, fe 1, .int .i64 ((k : Nat) : Int), u16 10, u16 11, u16 12, u16 13, u16 14, u16 15, u16 16, u16 17, u16 18, u16 19, u16 20, u16 21, u16 22, u16 23, u16 24, u16 25, u16 26, u16 27, u16 28, u16 29, Z3], defers := [] } ∧ Below w.heap.size w W9 ∧ World.rangeAt W9 g3 0 (fel x) ∧ World.there W9 g3 0 4 ∧ g3 < W9.heap.size ∧ World.rangeAt W9 g4 0 (fel n) ∧ World.there W9 g4 0 4 ∧ g4 < W9.heap.size ∧ World.rangeAt W9 g5 0 ([.int .u64 0, .int .u64 0, .int .u64 0, .int .u64 0]) ∧ World.there W9 g5 0 4 ∧ g5 < W9.heap.size ∧ World.rangeAt W9 g9 0 (fel (fpow x (n / 2 ^ (256 - k)))) ∧ World.there W9 g9 0 4 ∧ g9 < W9.heap.size ∧ (k ≤ 256)) (256 - (0)) ?_ (fun n9 a9 W9 hI => ?_)
 ·
  exact ⟨0, (fun q9 => (#[Z3, Z3, Z3, Z3, Z3, Z3, Z3, Z3, Z3, Z3, Z3, Z3, Z3, Z3, Z3, Z3, Z3, Z3, Z3, Z3, Z3, Z3, Z3, Z3, Z3, Z3, Z3, Z3, Z3, Z3] : Array Value).getD q9 Z3), rfl, rfl, BE, Rg3_0, Tg3, Lg3, Rg4_0, Tg4, Lg4, Rg5_0, Tg5, Lg5, (by rw [Nat.div_eq_of_lt hn, fpow_zero]; exact Rg9_0), Tg9, Lg9, (by omega)⟩
 clear BE Rg3_0 Rg4_0 Rg5_0 Rg9_0 Tg3 Tg4 Tg5 Tg9 Lg3 Lg4 Lg5 Lg9
 obtain ⟨k, u16, rfl, rfl, BE, Rg3_0, Tg3, Lg3, Rg4_0, Tg4, Lg4, Rg5_0, Tg5, Lg5, Rg9_0, Tg9, Lg9, hk6⟩ := hI
 obtain ⟨w17, rfl⟩ : ∃ W8, W8 = W9 := ⟨_, rfl⟩
 refine Z4 (fun K18 hK18 => ?_)
 refine wp_region_plain 1 (by kernel_rfl) (fun Lk hLk => ?_)
 simp only [Z1,Z2]
 refine Z15 (v := .bool (decide (k < 256))) (by rfl) rfl rfl rfl (fun W => run_lssN k 256 _ _ W) ?_
 simp only [Z7,Z0]
 refine Z14 (hLk.out _ ?_)
 clear hLk Lk
 simp only [Z1,Z2]
 iterate 1 refine wpN_skip (by rfl) ?_
 refine wpN_nil (fun w20 Sw20 hbs => ?_)
 clear hbs
 replace Rg3_0 := range_sees Rg3_0 Lg3 Sw20
 replace Tg3 := there_sees Tg3 Lg3 Sw20
 replace Rg4_0 := range_sees Rg4_0 Lg4 Sw20
 replace Tg4 := there_sees Tg4 Lg4 Sw20
 replace Rg5_0 := range_sees Rg5_0 Lg5 Sw20
 replace Tg5 := there_sees Tg5 Lg5 Sw20
 replace Rg9_0 := range_sees Rg9_0 Lg9 Sw20
 replace Tg9 := there_sees Tg9 Lg9 Sw20
 replace Lg3 := Nat.lt_of_lt_of_le Lg3 Sw20.2.2.size
 replace Lg4 := Nat.lt_of_lt_of_le Lg4 Sw20.2.2.size
 replace Lg5 := Nat.lt_of_lt_of_le Lg5 Sw20.2.2.size
 replace Lg9 := Nat.lt_of_lt_of_le Lg9 Sw20.2.2.size
 replace BE := BE.trans (Sw20.2.2.mono BE.size)
 refine Z9 (Z10 ?_)
 refine hK18 _ _ ?_
 refine Z4 (fun K21 hK21 => ?_)
 cases hc22 : (decide (k < 256))
 ·
  have ek : k = 256 := by have := of_decide_eq_false hc22; omega
  subst ek
  refine Z6 rfl ?_
  refine wp_exit ?_
  refine hK12 _ _ ?_
  refine Z4 (fun K23 hK23 => ?_)
  refine wp_region_plain 1 (by kernel_rfl) (fun Lk hLk => ?_)
  simp only [Z1,Z2]
  refine wpV_load (cs := fel (fpow x (n / 2 ^ (256 - 256)))) (by rfl) rfl rfl Rg9_0 Lg9 Try.underlying24 rfl info24 ?_
  simp only [Z7,Z0]
  refine Z14 (hLk.out _ ?_)
  clear hLk Lk
  simp only [Z1,Z2]
  iterate 1 refine wpN_skip (by rfl) ?_
  refine wpN_nil (fun w25 Sw25 hbs => ?_)
  clear hbs
  replace Rg3_0 := range_sees Rg3_0 Lg3 Sw25
  replace Tg3 := there_sees Tg3 Lg3 Sw25
  replace Rg4_0 := range_sees Rg4_0 Lg4 Sw25
  replace Tg4 := there_sees Tg4 Lg4 Sw25
  replace Rg5_0 := range_sees Rg5_0 Lg5 Sw25
  replace Tg5 := there_sees Tg5 Lg5 Sw25
  replace Rg9_0 := range_sees Rg9_0 Lg9 Sw25
  replace Tg9 := there_sees Tg9 Lg9 Sw25
  replace Lg3 := Nat.lt_of_lt_of_le Lg3 Sw25.2.2.size
  replace Lg4 := Nat.lt_of_lt_of_le Lg4 Sw25.2.2.size
  replace Lg5 := Nat.lt_of_lt_of_le Lg5 Sw25.2.2.size
  replace Lg9 := Nat.lt_of_lt_of_le Lg9 Sw25.2.2.size
  replace BE := BE.trans (Sw25.2.2.mono BE.size)
  refine wpL_store (g := g5) (off := 0) (n := 4) (cs := fel (fpow x (n / 2 ^ (256 - 256)))) (by rfl) (by rfl) (by rfl) (by rfl) (by rfl) Tg5 (by simp [flen]) info24 (fel_one _) (fun w26 Pw26 RR TT => ?_)
  replace Rg3_0 := Pw26.range Rg3_0 (.inl Ng3_g5)
  replace Tg3 := Pw26.other_there Tg3 Ng3_g5
  replace Rg4_0 := Pw26.range Rg4_0 (.inl Ng4_g5)
  replace Tg4 := Pw26.other_there Tg4 Ng4_g5
  replace Rg9_0 := Pw26.range Rg9_0 (.inl (Ne.symm Ng5_g9))
  replace Tg9 := Pw26.other_there Tg9 (Ne.symm Ng5_g9)
  replace Rg5_0 := RR
  clear RR
  replace Tg5 := TT
  replace Lg3 := Pw26.lt Lg3
  replace Lg4 := Pw26.lt Lg4
  replace Lg5 := Pw26.lt Lg5
  replace Lg9 := Pw26.lt Lg9
  replace BE := Pw26.below BE Gg5
  refine Z9 (Z10 ?_)
  refine hK23 _ _ ?_
  refine wp_ret ?_
  repeat (first | with_reducible refine then_ret ?_ | with_reducible refine inblock_ret ?_)
  refine bodyPost_ret (v := fe (fpow x (n / 2 ^ (256 - 256)))) (res1 rfl (.cell (by rfl) (run_loadVar_mid _ _ _ _ (fel (fpow x (n / 2 ^ (256 - 256)))) _ Rg5_0 Try.underlying24 rfl info24))) rfl ?_
  exact ⟨by rw [show n / 2 ^ (256 - 256) = n by simp], BE⟩
 ·
  have hk : k < 256 := of_decide_eq_true hc22
  refine Z5 rfl ?_
  refine wp_skip ?_
  refine hK21 _ _ ?_
  refine Z4 (fun K27 hK27 => ?_)
  refine wp_block ?_
  refine Z4 (fun K28 hK28 => ?_)
  refine wp_region_plain 1 (by kernel_rfl) (fun Lk hLk => ?_)
  simp only [Z1,Z2]
  refine Z16 (v := .int .i64 ((k : Nat) : Int)) (by rfl) rfl rfl ?_
  simp only [Z7,Z0]
  refine Z14 (hLk.out _ ?_)
  clear hLk Lk
  simp only [Z1,Z2]
  iterate 1 refine wpN_skip (by rfl) ?_
  refine wpN_nil (fun w30 Sw30 hbs => ?_)
  clear hbs
  replace Rg3_0 := range_sees Rg3_0 Lg3 Sw30
  replace Tg3 := there_sees Tg3 Lg3 Sw30
  replace Rg4_0 := range_sees Rg4_0 Lg4 Sw30
  replace Tg4 := there_sees Tg4 Lg4 Sw30
  replace Rg5_0 := range_sees Rg5_0 Lg5 Sw30
  replace Tg5 := there_sees Tg5 Lg5 Sw30
  replace Rg9_0 := range_sees Rg9_0 Lg9 Sw30
  replace Tg9 := there_sees Tg9 Lg9 Sw30
  replace Lg3 := Nat.lt_of_lt_of_le Lg3 Sw30.2.2.size
  replace Lg4 := Nat.lt_of_lt_of_le Lg4 Sw30.2.2.size
  replace Lg5 := Nat.lt_of_lt_of_le Lg5 Sw30.2.2.size
  replace Lg9 := Nat.lt_of_lt_of_le Lg9 Sw30.2.2.size
  replace BE := BE.trans (Sw30.2.2.mono BE.size)
  refine Z13 (v := .int .i64 ((k : Nat) : Int)) (by rfl) (by rfl) (by rfl) ?_
  simp only [Z7,Z0]
  refine Z9 (Z10 ?_)
  refine hK28 _ _ ?_
  refine Z4 (fun K31 hK31 => ?_)
  refine wp_region_plain 2 (by kernel_rfl) (fun Lk hLk => ?_)
  simp only [Z1,Z2]
  refine Z16 (v := .int .i64 ((k : Nat) : Int)) (by rfl) rfl rfl ?_
  simp only [Z7,Z0]
  refine Z15 (v := .int .i64 ((255 - k : Nat) : Int)) (by rfl) rfl rfl rfl (fun W => run_sub (by simp only [IntKind.wrap_i64]; omega) W) ?_
  simp only [Z7,Z0]
  refine Z14 (hLk.out _ ?_)
  clear hLk Lk
  simp only [Z1,Z2]
  iterate 2 refine wpN_skip (by rfl) ?_
  refine wpN_nil (fun w33 Sw33 hbs => ?_)
  clear hbs
  replace Rg3_0 := range_sees Rg3_0 Lg3 Sw33
  replace Tg3 := there_sees Tg3 Lg3 Sw33
  replace Rg4_0 := range_sees Rg4_0 Lg4 Sw33
  replace Tg4 := there_sees Tg4 Lg4 Sw33
  replace Rg5_0 := range_sees Rg5_0 Lg5 Sw33
  replace Tg5 := there_sees Tg5 Lg5 Sw33
  replace Rg9_0 := range_sees Rg9_0 Lg9 Sw33
  replace Tg9 := there_sees Tg9 Lg9 Sw33
  replace Lg3 := Nat.lt_of_lt_of_le Lg3 Sw33.2.2.size
  replace Lg4 := Nat.lt_of_lt_of_le Lg4 Sw33.2.2.size
  replace Lg5 := Nat.lt_of_lt_of_le Lg5 Sw33.2.2.size
  replace Lg9 := Nat.lt_of_lt_of_le Lg9 Sw33.2.2.size
  replace BE := BE.trans (Sw33.2.2.mono BE.size)
  refine Z13 (v := .int .i64 ((255 - k : Nat) : Int)) (by rfl) (by rfl) (by rfl) ?_
  simp only [Z7,Z0]
  refine Z9 (Z10 ?_)
  refine hK31 _ _ ?_
  refine Z4 (fun K34 hK34 => ?_)
  refine wp_region_plain 3 (by kernel_rfl) (fun Lk hLk => ?_)
  simp only [Z1,Z2]
  refine wpV_load (cs := fel (fpow x (n / 2 ^ (256 - k)))) (by rfl) rfl rfl Rg9_0 Lg9 Try.underlying24 rfl info24 ?_
  simp only [Z7,Z0]
  refine wpV_load (cs := fel (fpow x (n / 2 ^ (256 - k)))) (by rfl) rfl rfl Rg9_0 Lg9 Try.underlying24 rfl info24 ?_
  simp only [Z7,Z0]
  refine Z20 (v := fe (fmul (fpow x (n / 2 ^ (256 - k))) (fpow x (n / 2 ^ (256 - k))))) (args := #[fe (fpow x (n / 2 ^ (256 - k))), fe (fpow x (n / 2 ^ (256 - k)))]) (by rfl) rfl Try.func39 (by kernel_rfl) (by kernel_rfl) rfl (fun W hW => fmul_c (fpow_lt ..) (fpow_lt ..) W) ?_
  simp only [Z7,Z0]
  refine Z14 (hLk.out _ ?_)
  clear hLk Lk
  simp only [Z1,Z2]
  iterate 3 refine wpN_skip (by rfl) ?_
  refine wpN_nil (fun w36 Sw36 hbs => ?_)
  clear hbs
  replace Rg3_0 := range_sees Rg3_0 Lg3 Sw36
  replace Tg3 := there_sees Tg3 Lg3 Sw36
  replace Rg4_0 := range_sees Rg4_0 Lg4 Sw36
  replace Tg4 := there_sees Tg4 Lg4 Sw36
  replace Rg5_0 := range_sees Rg5_0 Lg5 Sw36
  replace Tg5 := there_sees Tg5 Lg5 Sw36
  replace Rg9_0 := range_sees Rg9_0 Lg9 Sw36
  replace Tg9 := there_sees Tg9 Lg9 Sw36
  replace Lg3 := Nat.lt_of_lt_of_le Lg3 Sw36.2.2.size
  replace Lg4 := Nat.lt_of_lt_of_le Lg4 Sw36.2.2.size
  replace Lg5 := Nat.lt_of_lt_of_le Lg5 Sw36.2.2.size
  replace Lg9 := Nat.lt_of_lt_of_le Lg9 Sw36.2.2.size
  replace BE := BE.trans (Sw36.2.2.mono BE.size)
  refine wpL_store (g := g9) (off := 0) (n := 4) (cs := fel (fmul (fpow x (n / 2 ^ (256 - k))) (fpow x (n / 2 ^ (256 - k))))) (by rfl) (by rfl) (by rfl) (by rfl) (by rfl) Tg9 (by simp [flen]) info24 (fel_one _) (fun w37 Pw37 RR TT => ?_)
  replace Rg3_0 := Pw37.range Rg3_0 (.inl Ng3_g9)
  replace Tg3 := Pw37.other_there Tg3 Ng3_g9
  replace Rg4_0 := Pw37.range Rg4_0 (.inl Ng4_g9)
  replace Tg4 := Pw37.other_there Tg4 Ng4_g9
  replace Rg5_0 := Pw37.range Rg5_0 (.inl Ng5_g9)
  replace Tg5 := Pw37.other_there Tg5 Ng5_g9
  replace Rg9_0 := RR
  clear RR
  replace Tg9 := TT
  replace Lg3 := Pw37.lt Lg3
  replace Lg4 := Pw37.lt Lg4
  replace Lg5 := Pw37.lt Lg5
  replace Lg9 := Pw37.lt Lg9
  replace BE := Pw37.below BE Gg9
  refine Z9 (Z10 ?_)
  refine hK34 _ _ ?_
  refine Z4 (fun K38 hK38 => ?_)
  refine wp_region_plain 9 (by kernel_rfl) (fun Lk hLk => ?_)
  simp only [Z1,Z2]
  refine Z16 (v := .int .i64 ((255 - k : Nat) : Int)) (by rfl) rfl rfl ?_
  simp only [Z7,Z0]
  refine Z15 (v := .int .i64 (((255 - k) / 64 : Nat) : Int)) (by rfl) rfl rfl rfl (fun W => run_quo (by decide) ((congrArg _ (tdiv_nat (255 - k) 64)).trans (wrap_nat _ (by omega))) W) ?_
  simp only [Z7,Z0]
  refine wpV_idx (n := (255 - k) / 64) (by rfl) rfl rfl rfl Try.underlying24 info22 (by omega) ?_
  simp only [Nat.zero_add]
  simp only [Z7,Z0]
  refine wpV_load1 (v := .int .u64 ((limbN n ((255 - k) / 64) : Nat) : Int)) (by rfl) rfl rfl (by have := Rg4_0 _ _ (fel_get (j := (255 - k) / 64) n (by omega)); rwa [Nat.zero_add] at this) Lg4 Try.underlying22 rfl ?_
  simp only [Z7,Z0]
  refine Z16 (v := .int .i64 ((255 - k : Nat) : Int)) (by rfl) rfl rfl ?_
  simp only [Z7,Z0]
  refine Z15 (v := .int .i64 (((255 - k) % 64 : Nat) : Int)) (by rfl) rfl rfl rfl (fun W => run_rem (by decide) (tmod_nat (255 - k) 64) W) ?_
  simp only [Z7,Z0]
  refine Z15 (v := .int .u64 ((limbN n ((255 - k) / 64) / 2 ^ ((255 - k) % 64) : Nat) : Int)) (by rfl) rfl rfl rfl (fun W => run_shr (m := limbN n ((255 - k) / 64)) (n := (255 - k) % 64) (by show _ ≤ 64; omega) rfl W) ?_
  simp only [Z7,Z0]
  refine Z15 (v := .int .u64 ((n / 2 ^ (255 - k) % 2 : Nat) : Int)) (by rfl) rfl rfl rfl (fun W => run_and (bitN_of n (255 - k)) W) ?_
  simp only [Z7,Z0]
  refine Z15 (v := .bool (((n / 2 ^ (255 - k) % 2 : Nat) : Int) == 1)) (by rfl) rfl rfl rfl (fun W => run_eql _ _ _ _ W) ?_
  simp only [Z7,Z0]
  refine Z14 (hLk.out _ ?_)
  clear hLk Lk
  simp only [Z1,Z2]
  iterate 9 refine wpN_skip (by rfl) ?_
  refine wpN_nil (fun w40 Sw40 hbs => ?_)
  clear hbs
  replace Rg3_0 := range_sees Rg3_0 Lg3 Sw40
  replace Tg3 := there_sees Tg3 Lg3 Sw40
  replace Rg4_0 := range_sees Rg4_0 Lg4 Sw40
  replace Tg4 := there_sees Tg4 Lg4 Sw40
  replace Rg5_0 := range_sees Rg5_0 Lg5 Sw40
  replace Tg5 := there_sees Tg5 Lg5 Sw40
  replace Rg9_0 := range_sees Rg9_0 Lg9 Sw40
  replace Tg9 := there_sees Tg9 Lg9 Sw40
  replace Lg3 := Nat.lt_of_lt_of_le Lg3 Sw40.2.2.size
  replace Lg4 := Nat.lt_of_lt_of_le Lg4 Sw40.2.2.size
  replace Lg5 := Nat.lt_of_lt_of_le Lg5 Sw40.2.2.size
  replace Lg9 := Nat.lt_of_lt_of_le Lg9 Sw40.2.2.size
  replace BE := BE.trans (Sw40.2.2.mono BE.size)
  refine Z9 (Z10 ?_)
  refine hK38 _ _ ?_
  cases hc41 : (((n / 2 ^ (255 - k) % 2 : Nat) : Int) == 1)
  ·
   have hbit : n / 2 ^ (255 - k) % 2 ≠ 1 := by intro e; rw [e] at hc41; simp at hc41
   refine Z6 rfl ?_
   refine wp_skip ?_
   refine hK27 _ _ ?_
   refine wp_region_plain 2 (by kernel_rfl) (fun Lk hLk => ?_)
   simp only [Z1,Z2]
   refine Z15 (v := .int .i64 ((k + 1 : Nat) : Int)) (by rfl) rfl rfl rfl (fun W => run_add (by simp only [IntKind.wrap_i64]; omega) W) ?_
   simp only [Z7,Z0]
   refine Z16 (v := .int .i64 ((k + 1 : Nat) : Int)) (by rfl) rfl rfl ?_
   simp only [Z7,Z0]
   refine Z14 (hLk.out _ ?_)
   clear hLk Lk
   simp only [Z1,Z2]
   iterate 2 refine wpN_skip (by rfl) ?_
   refine wpN_nil (fun w43 Sw43 hbs => ?_)
   clear hbs
   replace Rg3_0 := range_sees Rg3_0 Lg3 Sw43
   replace Tg3 := there_sees Tg3 Lg3 Sw43
   replace Rg4_0 := range_sees Rg4_0 Lg4 Sw43
   replace Tg4 := there_sees Tg4 Lg4 Sw43
   replace Rg5_0 := range_sees Rg5_0 Lg5 Sw43
   replace Tg5 := there_sees Tg5 Lg5 Sw43
   replace Rg9_0 := range_sees Rg9_0 Lg9 Sw43
   replace Tg9 := there_sees Tg9 Lg9 Sw43
   replace Lg3 := Nat.lt_of_lt_of_le Lg3 Sw43.2.2.size
   replace Lg4 := Nat.lt_of_lt_of_le Lg4 Sw43.2.2.size
   replace Lg5 := Nat.lt_of_lt_of_le Lg5 Sw43.2.2.size
   replace Lg9 := Nat.lt_of_lt_of_le Lg9 Sw43.2.2.size
   replace BE := BE.trans (Sw43.2.2.mono BE.size)
   refine Z9 (Z10 ?_)
   refine Exists.intro _ ⟨?_, (k + 1), (fun q9 => (#[Z3, Z3, Z3, Z3, Z3, Z3, .int .i64 ((k : Nat) : Int), .int .i64 ((255 - k : Nat) : Int), Z3, Z3, .bool true, .int .i64 ((k : Nat) : Int), .int .i64 ((k : Nat) : Int), .int .i64 ((255 - k : Nat) : Int), fe (fpow x (n / 2 ^ (256 - k))), fe (fpow x (n / 2 ^ (256 - k))), fe (fmul (fpow x (n / 2 ^ (256 - k))) (fpow x (n / 2 ^ (256 - k)))), .int .i64 ((255 - k : Nat) : Int), .int .i64 (((255 - k) / 64 : Nat) : Int), .pointer (some ⟨g4, (255 - k) / 64, none⟩), .int .u64 ((limbN n ((255 - k) / 64) : Nat) : Int), .int .i64 ((255 - k : Nat) : Int), .int .i64 (((255 - k) % 64 : Nat) : Int), .int .u64 ((limbN n ((255 - k) / 64) / 2 ^ ((255 - k) % 64) : Nat) : Int), .int .u64 ((n / 2 ^ (255 - k) % 2 : Nat) : Int), .bool false, u16 26, u16 27, u16 28, .int .i64 ((k + 1 : Nat) : Int)] : Array Value).getD q9 Z3), rfl, rfl, BE, Rg3_0, Tg3, Lg3, Rg4_0, Tg4, Lg4, Rg5_0, Tg5, Lg5, (by rw [← (fpow_step x n k hk).2 hbit]; exact Rg9_0), Tg9, Lg9, (by omega)⟩
   omega
  ·
   have hbit : n / 2 ^ (255 - k) % 2 = 1 := by have := beq_iff_eq.1 hc41; omega
   refine Z5 rfl ?_
   refine wp_region_plain 3 (by kernel_rfl) (fun Lk hLk => ?_)
   simp only [Z1,Z2]
   refine wpV_load (cs := fel (fmul (fpow x (n / 2 ^ (256 - k))) (fpow x (n / 2 ^ (256 - k))))) (by rfl) rfl rfl Rg9_0 Lg9 Try.underlying24 rfl info24 ?_
   simp only [Z7,Z0]
   refine wpV_load (cs := fel x) (by rfl) rfl rfl Rg3_0 Lg3 Try.underlying24 rfl info24 ?_
   simp only [Z7,Z0]
   refine Z20 (v := fe (fmul (fmul (fpow x (n / 2 ^ (256 - k))) (fpow x (n / 2 ^ (256 - k)))) x)) (args := #[fe (fmul (fpow x (n / 2 ^ (256 - k))) (fpow x (n / 2 ^ (256 - k)))), fe x]) (by rfl) rfl Try.func39 (by kernel_rfl) (by kernel_rfl) rfl (fun W hW => fmul_c (fmul_lt ..) hx W) ?_
   simp only [Z7,Z0]
   refine Z14 (hLk.out _ ?_)
   clear hLk Lk
   simp only [Z1,Z2]
   iterate 3 refine wpN_skip (by rfl) ?_
   refine wpN_nil (fun w45 Sw45 hbs => ?_)
   clear hbs
   replace Rg3_0 := range_sees Rg3_0 Lg3 Sw45
   replace Tg3 := there_sees Tg3 Lg3 Sw45
   replace Rg4_0 := range_sees Rg4_0 Lg4 Sw45
   replace Tg4 := there_sees Tg4 Lg4 Sw45
   replace Rg5_0 := range_sees Rg5_0 Lg5 Sw45
   replace Tg5 := there_sees Tg5 Lg5 Sw45
   replace Rg9_0 := range_sees Rg9_0 Lg9 Sw45
   replace Tg9 := there_sees Tg9 Lg9 Sw45
   replace Lg3 := Nat.lt_of_lt_of_le Lg3 Sw45.2.2.size
   replace Lg4 := Nat.lt_of_lt_of_le Lg4 Sw45.2.2.size
   replace Lg5 := Nat.lt_of_lt_of_le Lg5 Sw45.2.2.size
   replace Lg9 := Nat.lt_of_lt_of_le Lg9 Sw45.2.2.size
   replace BE := BE.trans (Sw45.2.2.mono BE.size)
   refine wpL_store (g := g9) (off := 0) (n := 4) (cs := fel (fmul (fmul (fpow x (n / 2 ^ (256 - k))) (fpow x (n / 2 ^ (256 - k)))) x)) (by rfl) (by rfl) (by rfl) (by rfl) (by rfl) Tg9 (by simp [flen]) info24 (fel_one _) (fun w46 Pw46 RR TT => ?_)
   replace Rg3_0 := Pw46.range Rg3_0 (.inl Ng3_g9)
   replace Tg3 := Pw46.other_there Tg3 Ng3_g9
   replace Rg4_0 := Pw46.range Rg4_0 (.inl Ng4_g9)
   replace Tg4 := Pw46.other_there Tg4 Ng4_g9
   replace Rg5_0 := Pw46.range Rg5_0 (.inl Ng5_g9)
   replace Tg5 := Pw46.other_there Tg5 Ng5_g9
   replace Rg9_0 := RR
   clear RR
   replace Tg9 := TT
   replace Lg3 := Pw46.lt Lg3
   replace Lg4 := Pw46.lt Lg4
   replace Lg5 := Pw46.lt Lg5
   replace Lg9 := Pw46.lt Lg9
   replace BE := Pw46.below BE Gg9
   refine Z9 (Z10 ?_)
   refine hK27 _ _ ?_
   refine wp_region_plain 2 (by kernel_rfl) (fun Lk hLk => ?_)
   simp only [Z1,Z2]
   refine Z15 (v := .int .i64 ((k + 1 : Nat) : Int)) (by rfl) rfl rfl rfl (fun W => run_add (by simp only [IntKind.wrap_i64]; omega) W) ?_
   simp only [Z7,Z0]
   refine Z16 (v := .int .i64 ((k + 1 : Nat) : Int)) (by rfl) rfl rfl ?_
   simp only [Z7,Z0]
   refine Z14 (hLk.out _ ?_)
   clear hLk Lk
   simp only [Z1,Z2]
   iterate 2 refine wpN_skip (by rfl) ?_
   refine wpN_nil (fun w48 Sw48 hbs => ?_)
   clear hbs
   replace Rg3_0 := range_sees Rg3_0 Lg3 Sw48
   replace Tg3 := there_sees Tg3 Lg3 Sw48
   replace Rg4_0 := range_sees Rg4_0 Lg4 Sw48
   replace Tg4 := there_sees Tg4 Lg4 Sw48
   replace Rg5_0 := range_sees Rg5_0 Lg5 Sw48
   replace Tg5 := there_sees Tg5 Lg5 Sw48
   replace Rg9_0 := range_sees Rg9_0 Lg9 Sw48
   replace Tg9 := there_sees Tg9 Lg9 Sw48
   replace Lg3 := Nat.lt_of_lt_of_le Lg3 Sw48.2.2.size
   replace Lg4 := Nat.lt_of_lt_of_le Lg4 Sw48.2.2.size
   replace Lg5 := Nat.lt_of_lt_of_le Lg5 Sw48.2.2.size
   replace Lg9 := Nat.lt_of_lt_of_le Lg9 Sw48.2.2.size
   replace BE := BE.trans (Sw48.2.2.mono BE.size)
   refine Z9 (Z10 ?_)
   refine Exists.intro _ ⟨?_, (k + 1), (fun q9 => (#[Z3, Z3, Z3, Z3, Z3, Z3, .int .i64 ((k : Nat) : Int), .int .i64 ((255 - k : Nat) : Int), Z3, Z3, .bool true, .int .i64 ((k : Nat) : Int), .int .i64 ((k : Nat) : Int), .int .i64 ((255 - k : Nat) : Int), fe (fpow x (n / 2 ^ (256 - k))), fe (fpow x (n / 2 ^ (256 - k))), fe (fmul (fpow x (n / 2 ^ (256 - k))) (fpow x (n / 2 ^ (256 - k)))), .int .i64 ((255 - k : Nat) : Int), .int .i64 (((255 - k) / 64 : Nat) : Int), .pointer (some ⟨g4, (255 - k) / 64, none⟩), .int .u64 ((limbN n ((255 - k) / 64) : Nat) : Int), .int .i64 ((255 - k : Nat) : Int), .int .i64 (((255 - k) % 64 : Nat) : Int), .int .u64 ((limbN n ((255 - k) / 64) / 2 ^ ((255 - k) % 64) : Nat) : Int), .int .u64 ((n / 2 ^ (255 - k) % 2 : Nat) : Int), .bool true, fe (fmul (fpow x (n / 2 ^ (256 - k))) (fpow x (n / 2 ^ (256 - k)))), fe x, fe (fmul (fmul (fpow x (n / 2 ^ (256 - k))) (fpow x (n / 2 ^ (256 - k)))) x), .int .i64 ((k + 1 : Nat) : Int)] : Array Value).getD q9 Z3), rfl, rfl, BE, Rg3_0, Tg3, Lg3, Rg4_0, Tg4, Lg4, Rg5_0, Tg5, Lg5, (by rw [← (fpow_step x n k hk).1 hbit]; exact Rg9_0), Tg9, Lg9, (by omega)⟩
   omega
set_option maxHeartbeats 1000000 in
theorem finv_c {x : Nat} (hx : x < 2 ^ 256) (w : World) :
  Calls Try.prog 38 #[fe x] w fun e w' => e = .returned (fe (finv x)) ∧ Below w.heap.size w w' := by
 go_enter Try.func38, Try.ntmps38
 have BE := Below.refl w.heap.size w
 refine Z4 (fun K1 hK1 => ?_)
 refine wp_region_plain 2 (by kernel_rfl) (fun Lk hLk => ?_)
 simp only [Z1,Z2]
 refine wpV_alloc (by rfl) ?_
 refine wpV_alloc (by rfl) ?_
 refine Z14 (hLk.out _ ?_)
 clear hLk Lk
 simp only [Z1,Z2]
 refine wpN_new (t := 24) (cs := (fel x).toArray) (by rfl) (fun W => ?_) (fun g3 Hg3 ng3 => ?_)
 ·
  (first | rfl | go_simp)
 refine wpN_new (t := 24) (cs := ([.int .u64 0, .int .u64 0, .int .u64 0, .int .u64 0]).toArray) (by rfl) (fun W => ?_) (fun g4 Hg4 ng4 => ?_)
 ·
  go_simp
 simp only [Z7,Z0]
 refine wpN_nil (fun w5 Sw5 hbs => ?_)
 have Bg3 : Blk w5 g3 24 (fel x).toArray := hbs _ (List.mem_cons_of_mem _ (List.mem_cons_self ..))
 have Bg4 : Blk w5 g4 24 ([.int .u64 0, .int .u64 0, .int .u64 0, .int .u64 0]).toArray := hbs _ (List.mem_cons_self ..)
 clear hbs
 have Gg3 : w.heap.size ≤ g3 := Nat.le_trans BE.size Hg3
 have Ng3_g4 : g3 ≠ g4 := ng4 (g3, _, _) (List.mem_cons_self ..)
 have Gg4 : w.heap.size ≤ g4 := Nat.le_trans BE.size Hg4
 replace BE := BE.trans (Sw5.2.2.mono BE.size)
 have Tg3 := blk_there Bg3 (n := 4) (by simp [flen])
 have Rg3_0 := blk_range Bg3 (l := fel x) rfl
 have Lg3 := Bg3.lt
 have Tg4 := blk_there Bg4 (n := 4) (by simp [flen])
 have Rg4_0 := blk_range Bg4 (l := [.int .u64 0, .int .u64 0, .int .u64 0, .int .u64 0]) rfl
 have Lg4 := Bg4.lt
 clear ng3 ng4 Bg3 Bg4
 refine Z9 (Z10 ?_)
 refine hK1 _ _ ?_
 refine Z4 (fun K6 hK6 => ?_)
 refine wp_region_plain 7 (by kernel_rfl) (fun Lk hLk => ?_)
 simp only [Z1,Z2]
 refine Z20 (v := fe pF) (args := #[]) (by rfl) rfl Try.func52 (by kernel_rfl) (by kernel_rfl) rfl (fun W hW => prime_c W) ?_
 simp only [Z7,Z0]
 refine Z20 (v := fe 2) (args := #[.int .u64 2]) (by rfl) rfl Try.func32 (by kernel_rfl) (by kernel_rfl) rfl (fun W hW => of_c (n := 2) (by decide) W) ?_
 simp only [Z7,Z0]
 refine Z20 (v := .tuple #[fe (subW pF 2), .int .u64 (subB pF 2)]) (args := #[fe pF, fe 2]) (by rfl) rfl Try.func51 (by kernel_rfl) (by kernel_rfl) rfl (fun W hW => minus_c pF_lt (by decide) W) ?_
 simp only [Z7,Z0]
 refine Z16 (v := .tuple #[fe (subW pF 2), .int .u64 (subB pF 2)]) (by rfl) rfl rfl ?_
 simp only [Z7,Z0]
 refine wpV_extract (v := fe (subW pF 2)) (by rfl) rfl rfl rfl ?_
 simp only [Z7,Z0]
 refine wpV_extract (v := .int .u64 (subB pF 2)) (by rfl) rfl rfl rfl ?_
 simp only [Z7,Z0]
 refine wpV_alloc (by rfl) ?_
 refine Z14 (hLk.out _ ?_)
 clear hLk Lk
 simp only [Z1,Z2]
 iterate 6 refine wpN_skip (by rfl) ?_
 refine wpN_new (t := 24) (cs := ([.int .u64 0, .int .u64 0, .int .u64 0, .int .u64 0]).toArray) (by rfl) (fun W => ?_) (fun g8 Hg8 ng8 => ?_)
 ·
  go_simp
 simp only [Z7,Z0]
 refine wpN_nil (fun w9 Sw9 hbs => ?_)
 have Bg8 : Blk w9 g8 24 ([.int .u64 0, .int .u64 0, .int .u64 0, .int .u64 0]).toArray := hbs _ (List.mem_cons_self ..)
 clear hbs
 have Ng3_g8 : g3 ≠ g8 := Nat.ne_of_lt (Nat.lt_of_lt_of_le Lg3 Hg8)
 have Ng4_g8 : g4 ≠ g8 := Nat.ne_of_lt (Nat.lt_of_lt_of_le Lg4 Hg8)
 have Gg8 : w.heap.size ≤ g8 := Nat.le_trans BE.size Hg8
 replace Rg3_0 := range_sees Rg3_0 Lg3 Sw9
 replace Tg3 := there_sees Tg3 Lg3 Sw9
 replace Rg4_0 := range_sees Rg4_0 Lg4 Sw9
 replace Tg4 := there_sees Tg4 Lg4 Sw9
 replace Lg3 := Nat.lt_of_lt_of_le Lg3 Sw9.2.2.size
 replace Lg4 := Nat.lt_of_lt_of_le Lg4 Sw9.2.2.size
 replace BE := BE.trans (Sw9.2.2.mono BE.size)
 have Tg8 := blk_there Bg8 (n := 4) (by simp [flen])
 have Rg8_0 := blk_range Bg8 (l := [.int .u64 0, .int .u64 0, .int .u64 0, .int .u64 0]) rfl
 have Lg8 := Bg8.lt
 clear ng8 Bg8
 refine wpL_store (g := g8) (off := 0) (n := 4) (cs := fel (subW pF 2)) (by rfl) (by rfl) (by rfl) (by rfl) (by rfl) Tg8 (by simp [flen]) info24 (fel_one _) (fun w10 Pw10 RR TT => ?_)
 replace Rg3_0 := Pw10.range Rg3_0 (.inl Ng3_g8)
 replace Tg3 := Pw10.other_there Tg3 Ng3_g8
 replace Rg4_0 := Pw10.range Rg4_0 (.inl Ng4_g8)
 replace Tg4 := Pw10.other_there Tg4 Ng4_g8
 replace Rg8_0 := RR
 clear RR
 replace Tg8 := TT
 replace Lg3 := Pw10.lt Lg3
 replace Lg4 := Pw10.lt Lg4
 replace Lg8 := Pw10.lt Lg8
 replace BE := Pw10.below BE Gg8
 refine Z13 (v := .int .u64 (subB pF 2)) (by rfl) (by rfl) (by rfl) ?_
 simp only [Z7,Z0]
 refine Z9 (Z10 ?_)
 refine hK6 _ _ ?_
 refine Z4 (fun K11 hK11 => ?_)
 refine wp_region_plain 3 (by kernel_rfl) (fun Lk hLk => ?_)
 simp only [Z1,Z2]
 refine wpV_load (cs := fel x) (by rfl) rfl rfl Rg3_0 Lg3 Try.underlying24 rfl info24 ?_
 simp only [Z7,Z0]
 refine wpV_load (cs := fel (subW pF 2)) (by rfl) rfl rfl Rg8_0 Lg8 Try.underlying24 rfl info24 ?_
 simp only [Z7,Z0]
 refine Z20 (v := fe (fpow x (subW pF 2))) (args := #[fe x, fe (subW pF 2)]) (by rfl) rfl Try.func74 (by kernel_rfl) (by kernel_rfl) rfl (fun W hW => power_c hx (subW_lt ..) W) ?_
 simp only [Z7,Z0]
 refine Z14 (hLk.out _ ?_)
 clear hLk Lk
 simp only [Z1,Z2]
 iterate 3 refine wpN_skip (by rfl) ?_
 refine wpN_nil (fun w13 Sw13 hbs => ?_)
 clear hbs
 replace Rg3_0 := range_sees Rg3_0 Lg3 Sw13
 replace Tg3 := there_sees Tg3 Lg3 Sw13
 replace Rg4_0 := range_sees Rg4_0 Lg4 Sw13
 replace Tg4 := there_sees Tg4 Lg4 Sw13
 replace Rg8_0 := range_sees Rg8_0 Lg8 Sw13
 replace Tg8 := there_sees Tg8 Lg8 Sw13
 replace Lg3 := Nat.lt_of_lt_of_le Lg3 Sw13.2.2.size
 replace Lg4 := Nat.lt_of_lt_of_le Lg4 Sw13.2.2.size
 replace Lg8 := Nat.lt_of_lt_of_le Lg8 Sw13.2.2.size
 replace BE := BE.trans (Sw13.2.2.mono BE.size)
 refine wpL_store (g := g4) (off := 0) (n := 4) (cs := fel (fpow x (subW pF 2))) (by rfl) (by rfl) (by rfl) (by rfl) (by rfl) Tg4 (by simp [flen]) info24 (fel_one _) (fun w14 Pw14 RR TT => ?_)
 replace Rg3_0 := Pw14.range Rg3_0 (.inl Ng3_g4)
 replace Tg3 := Pw14.other_there Tg3 Ng3_g4
 replace Rg8_0 := Pw14.range Rg8_0 (.inl (Ne.symm Ng4_g8))
 replace Tg8 := Pw14.other_there Tg8 (Ne.symm Ng4_g8)
 replace Rg4_0 := RR
 clear RR
 replace Tg4 := TT
 replace Lg3 := Pw14.lt Lg3
 replace Lg4 := Pw14.lt Lg4
 replace Lg8 := Pw14.lt Lg8
 replace BE := Pw14.below BE Gg4
 refine Z9 (Z10 ?_)
 refine hK11 _ _ ?_
 refine wp_ret ?_
 repeat (first | with_reducible refine then_ret ?_ | with_reducible refine inblock_ret ?_)
 refine bodyPost_ret (v := fe (fpow x (subW pF 2))) (res1 rfl (.cell (by rfl) (run_loadVar_mid _ _ _ _ (fel (fpow x (subW pF 2))) _ Rg4_0 Try.underlying24 rfl info24))) rfl ?_
 exact ⟨by rw [inv_exp]; rfl, BE⟩
end Go.Proofs.Ya

namespace Go.Proofs.Ya
open Go Go.RowKit Go.Shelf Go.Proofs.Num

theorem info39 : (Try.prog.info? 39).map (·.size) = some 4 := by kernel_rfl
end Go.Proofs.Ya

namespace Go.Proofs.Ya
open Go Go.RowKit Go.Shelf Go.Proofs.Num
open List renaming set → Z0, take → Z1, drop → Z2
open Go renaming undef → Z3, wp_seq_k → Z4, wp_cond_true → Z5, wp_cond_false → Z6
open Go.Proofs.Num renaming putT → Z7, wpL_nil → Z9, no_panic → Z10, wpL_assign → Z13, wpV_nil → Z14, wpV_bin → Z15, wpV_move → Z16, wpL_store1 → Z18, wpV_val → Z19, wpV_callf → Z20
theorem info5 : (Try.prog.info? 5).map (·.size) = some 1 := by kernel_rfl
set_option maxHeartbeats 1000000 in
theorem fbytes_c {x : Nat} (hx : x < 2 ^ 256) (w : World) :
  Calls Try.prog 40 #[fe x] w fun e w' => e = .returned (.string (bs (bytesN 32 (leastF x)))) ∧ Below w.heap.size w w' := by
 go_enter Try.func40, Try.ntmps40
 have BE := Below.refl w.heap.size w
 refine Z4 (fun K1 hK1 => ?_)
 refine wp_region_plain 1 (by kernel_rfl) (fun Lk hLk => ?_)
 simp only [Z1,Z2]
 refine wpV_alloc (by rfl) ?_
 refine Z14 (hLk.out _ ?_)
 clear hLk Lk
 simp only [Z1,Z2]
 refine wpN_new (t := 24) (cs := (fel x).toArray) (by rfl) (fun W => ?_) (fun g3 Hg3 ng3 => ?_)
 ·
  (first | rfl | go_simp)
 simp only [Z7,Z0]
 refine wpN_nil (fun w4 Sw4 hbs => ?_)
 have Bg3 : Blk w4 g3 24 (fel x).toArray := hbs _ (List.mem_cons_self ..)
 clear hbs
 have Gg3 : w.heap.size ≤ g3 := Nat.le_trans BE.size Hg3
 replace BE := BE.trans (Sw4.2.2.mono BE.size)
 have Tg3 := blk_there Bg3 (n := 4) (by simp [flen])
 have Rg3_0 := blk_range Bg3 (l := fel x) rfl
 have Lg3 := Bg3.lt
 clear ng3 Bg3
 refine Z13 (v := .string (bs ([]))) (by rfl) (by rfl) (by rfl) ?_
 simp only [Z7,Z0]
 refine Z9 (Z10 ?_)
 refine hK1 _ _ ?_
 refine Z4 (fun K5 hK5 => ?_)
 refine wp_region_plain 2 (by kernel_rfl) (fun Lk hLk => ?_)
 simp only [Z1,Z2]
 refine wpV_load (cs := fel x) (by rfl) rfl rfl Rg3_0 Lg3 Try.underlying24 rfl info24 ?_
 simp only [Z7,Z0]
 refine Z20 (v := fe (leastF x)) (args := #[fe x]) (by rfl) rfl Try.func45 (by kernel_rfl) (by kernel_rfl) rfl (fun W hW => least_c hx W) ?_
 simp only [Z7,Z0]
 refine Z14 (hLk.out _ ?_)
 clear hLk Lk
 simp only [Z1,Z2]
 iterate 2 refine wpN_skip (by rfl) ?_
 refine wpN_nil (fun w7 Sw7 hbs => ?_)
 clear hbs
 replace Rg3_0 := range_sees Rg3_0 Lg3 Sw7
 replace Tg3 := there_sees Tg3 Lg3 Sw7
 replace Lg3 := Nat.lt_of_lt_of_le Lg3 Sw7.2.2.size
 replace BE := BE.trans (Sw7.2.2.mono BE.size)
 refine wpL_store (g := g3) (off := 0) (n := 4) (cs := fel (leastF x)) (by rfl) (by rfl) (by rfl) (by rfl) (by rfl) Tg3 (by simp [flen]) info24 (fel_one _) (fun w8 Pw8 RR TT => ?_)
 replace Rg3_0 := RR
 clear RR
 replace Tg3 := TT
 replace Lg3 := Pw8.lt Lg3
 replace BE := Pw8.below BE Gg3
 refine Z9 (Z10 ?_)
 refine hK5 _ _ ?_
 refine Z4 (fun K9 hK9 => ?_)
 refine wp_region_plain 0 (by kernel_rfl) (fun Lk hLk => ?_)
 simp only [Z1,Z2]
 refine Z14 (hLk.out _ ?_)
 clear hLk Lk
 simp only [Z1,Z2]
 refine wpN_nil (fun w11 Sw11 hbs => ?_)
 clear hbs
 replace Rg3_0 := range_sees Rg3_0 Lg3 Sw11
 replace Tg3 := there_sees Tg3 Lg3 Sw11
 replace Lg3 := Nat.lt_of_lt_of_le Lg3 Sw11.2.2.size
 replace BE := BE.trans (Sw11.2.2.mono BE.size)
 refine wpL_make (n := 32) (z := .int .u8 0) (bytes := 1) (by rfl) (by rfl) (by rfl) (by rfl) Try.underlying62 (by kernel_rfl) rfl (by decide) (by decide) (fun g12 w13 Sw13 Hg12 Bg12 => ?_)
 have Ng3_g12 : g3 ≠ g12 := Nat.ne_of_lt (Nat.lt_of_lt_of_le Lg3 Hg12)
 have Gg12 : w.heap.size ≤ g12 := Nat.le_trans BE.size Hg12
 replace Rg3_0 := range_sees Rg3_0 Lg3 Sw13
 replace Tg3 := there_sees Tg3 Lg3 Sw13
 replace Lg3 := Nat.lt_of_lt_of_le Lg3 Sw13.2.2.size
 replace BE := BE.trans (Sw13.2.2.mono BE.size)
 have Tg12 := blk_there Bg12 (n := 32) (by simp)
 have Rg12_0 := blk_range Bg12 (l := List.replicate 32 (.int .u8 0)) rfl
 rw [← bcells_zero] at Rg12_0
 have Lg12 := Bg12.lt
 clear Bg12
 simp only [Z7,Z0]
 refine Z13 (v := .slice (some ⟨g12, 0, none⟩) 32 32) (by rfl) (by rfl) (by rfl) ?_
 simp only [Z7,Z0]
 refine Z9 (Z10 ?_)
 refine hK9 _ _ ?_
 refine Z4 (fun K14 hK14 => ?_)
 refine Z4 (fun K15 hK15 => ?_)
 refine wp_region_plain 3 (by kernel_rfl) (fun Lk hLk => ?_)
 simp only [Z1,Z2]
 refine Z16 (v := .slice (some ⟨g12, 0, none⟩) 32 32) (by rfl) rfl rfl ?_
 simp only [Z7,Z0]
 refine wpV_lenA (n := 32) (by rfl) rfl rfl rfl Try.underlying62 ?_
 simp only [Z7,Z0]
 refine Z16 (v := .int .i64 0) (by rfl) rfl rfl ?_
 simp only [Z7,Z0]
 refine Z14 (hLk.out _ ?_)
 clear hLk Lk
 simp only [Z1,Z2]
 iterate 3 refine wpN_skip (by rfl) ?_
 refine wpN_nil (fun w17 Sw17 hbs => ?_)
 clear hbs
 replace Rg3_0 := range_sees Rg3_0 Lg3 Sw17
 replace Tg3 := there_sees Tg3 Lg3 Sw17
 replace Rg12_0 := range_sees Rg12_0 Lg12 Sw17
 replace Tg12 := there_sees Tg12 Lg12 Sw17
 replace Lg3 := Nat.lt_of_lt_of_le Lg3 Sw17.2.2.size
 replace Lg12 := Nat.lt_of_lt_of_le Lg12 Sw17.2.2.size
 replace BE := BE.trans (Sw17.2.2.mono BE.size)
 refine Z9 (Z10 ?_)
 refine hK15 _ _ ?_
 refine wp_block ?_
 refine wp_loop_ghost (fun n9 a9 W9 => ∃ (i : Nat) (u18 : Nat → Value), n9 = 32 - i ∧ a9 = { tmps := #[fe x, .pointer (some ⟨g3, 0, none⟩), .string (bs ([])), .slice (some ⟨g12, 0, none⟩) 32 32, u18 4, fe x, fe (leastF x), .slice (some ⟨g12, 0, none⟩) 32 32, .slice (some ⟨g12, 0, none⟩) 32 32, .int .i64 32, .int .i64 ((i : Nat) : Int), u18 11, u18 12, u18 13, u18 14, u18 15, u18 16, u18 17, u18 18, u18 19, u18 20, u18 21, u18 22, u18 23, u18 24, u18 25, Z3, Z3], defers := [] } ∧ Below w.heap.size w W9 ∧ World.rangeAt W9 g3 0 (fel (leastF x)) ∧ World.there W9 g3 0 4 ∧ g3 < W9.heap.size ∧ World.rangeAt W9 g12 0 (bcells (bytesN 32 ((leastF x) % 256 ^ i))) ∧ World.there W9 g12 0 32 ∧ g12 < W9.heap.size ∧ (i ≤ 32)) (32 - (0)) ?_ (fun n9 a9 W9 hI => ?_)
 ·
  exact ⟨0, (fun q9 => (#[Z3, Z3, Z3, Z3, Z3, Z3, Z3, Z3, Z3, Z3, Z3, Z3, Z3, Z3, Z3, Z3, Z3, Z3, Z3, Z3, Z3, Z3, Z3, Z3, Z3, Z3] : Array Value).getD q9 Z3), rfl, rfl, BE, Rg3_0, Tg3, Lg3, (by rw [Nat.pow_zero, Nat.mod_one]; exact Rg12_0), Tg12, Lg12, (by omega)⟩
 clear BE Rg3_0 Rg12_0 Tg3 Tg12 Lg3 Lg12
 obtain ⟨i, u18, rfl, rfl, BE, Rg3_0, Tg3, Lg3, Rg12_0, Tg12, Lg12, hi4⟩ := hI
 obtain ⟨w19, rfl⟩ : ∃ W8, W8 = W9 := ⟨_, rfl⟩
 refine Z4 (fun K20 hK20 => ?_)
 refine wp_region_plain 1 (by kernel_rfl) (fun Lk hLk => ?_)
 simp only [Z1,Z2]
 refine Z15 (v := .bool (decide (i < 32))) (by rfl) rfl rfl rfl (fun W => run_lssN i 32 _ _ W) ?_
 simp only [Z7,Z0]
 refine Z14 (hLk.out _ ?_)
 clear hLk Lk
 simp only [Z1,Z2]
 iterate 1 refine wpN_skip (by rfl) ?_
 refine wpN_nil (fun w22 Sw22 hbs => ?_)
 clear hbs
 replace Rg3_0 := range_sees Rg3_0 Lg3 Sw22
 replace Tg3 := there_sees Tg3 Lg3 Sw22
 replace Rg12_0 := range_sees Rg12_0 Lg12 Sw22
 replace Tg12 := there_sees Tg12 Lg12 Sw22
 replace Lg3 := Nat.lt_of_lt_of_le Lg3 Sw22.2.2.size
 replace Lg12 := Nat.lt_of_lt_of_le Lg12 Sw22.2.2.size
 replace BE := BE.trans (Sw22.2.2.mono BE.size)
 refine Z9 (Z10 ?_)
 refine hK20 _ _ ?_
 refine Z4 (fun K23 hK23 => ?_)
 cases hc24 : (decide (i < 32))
 ·
  have ei : i = 32 := by have := of_decide_eq_false hc24; omega
  subst ei
  rw [Nat.mod_eq_of_lt (show (leastF x) < 256 ^ 32 from (leastF_lt ..))] at Rg12_0
  refine Z6 rfl ?_
  refine wp_exit ?_
  refine hK14 _ _ ?_
  refine Z4 (fun K25 hK25 => ?_)
  refine wp_region_plain 2 (by kernel_rfl) (fun Lk hLk => ?_)
  simp only [Z1,Z2]
  refine Z16 (v := .slice (some ⟨g12, 0, none⟩) 32 32) (by rfl) rfl rfl ?_
  simp only [Z7,Z0]
  refine wpV_b2s (l := (bytesN 32 (leastF x))) (by rfl) rfl rfl (bytesN_len _ _).symm Try.underlying62 Try.underlying5 Try.underlying9 Rg12_0 Lg12 ?_
  simp only [Z7,Z0]
  refine Z14 (hLk.out _ ?_)
  clear hLk Lk
  simp only [Z1,Z2]
  iterate 2 refine wpN_skip (by rfl) ?_
  refine wpN_nil (fun w27 Sw27 hbs => ?_)
  clear hbs
  replace Rg3_0 := range_sees Rg3_0 Lg3 Sw27
  replace Tg3 := there_sees Tg3 Lg3 Sw27
  replace Rg12_0 := range_sees Rg12_0 Lg12 Sw27
  replace Tg12 := there_sees Tg12 Lg12 Sw27
  replace Lg3 := Nat.lt_of_lt_of_le Lg3 Sw27.2.2.size
  replace Lg12 := Nat.lt_of_lt_of_le Lg12 Sw27.2.2.size
  replace BE := BE.trans (Sw27.2.2.mono BE.size)
  refine Z13 (v := .string (bs (bytesN 32 (leastF x)))) (by rfl) (by rfl) (by rfl) ?_
  simp only [Z7,Z0]
  refine Z9 (Z10 ?_)
  refine hK25 _ _ ?_
  refine wp_ret ?_
  repeat (first | with_reducible refine then_ret ?_ | with_reducible refine inblock_ret ?_)
  refine bodyPost_ret (v := .string (bs (bytesN 32 (leastF x)))) (res1 rfl (.tmp (by rfl))) rfl ?_
  exact ⟨rfl, BE⟩
 ·
  have hi : i < 32 := of_decide_eq_true hc24
  refine Z5 rfl ?_
  refine wp_skip ?_
  refine hK23 _ _ ?_
  refine Z4 (fun K28 hK28 => ?_)
  refine wp_block ?_
  refine Z4 (fun K29 hK29 => ?_)
  refine wp_region_plain 1 (by kernel_rfl) (fun Lk hLk => ?_)
  simp only [Z1,Z2]
  refine Z16 (v := .int .i64 ((i : Nat) : Int)) (by rfl) rfl rfl ?_
  simp only [Z7,Z0]
  refine Z14 (hLk.out _ ?_)
  clear hLk Lk
  simp only [Z1,Z2]
  iterate 1 refine wpN_skip (by rfl) ?_
  refine wpN_nil (fun w31 Sw31 hbs => ?_)
  clear hbs
  replace Rg3_0 := range_sees Rg3_0 Lg3 Sw31
  replace Tg3 := there_sees Tg3 Lg3 Sw31
  replace Rg12_0 := range_sees Rg12_0 Lg12 Sw31
  replace Tg12 := there_sees Tg12 Lg12 Sw31
  replace Lg3 := Nat.lt_of_lt_of_le Lg3 Sw31.2.2.size
  replace Lg12 := Nat.lt_of_lt_of_le Lg12 Sw31.2.2.size
  replace BE := BE.trans (Sw31.2.2.mono BE.size)
  refine Z13 (v := .int .i64 ((i : Nat) : Int)) (by rfl) (by rfl) (by rfl) ?_
  simp only [Z7,Z0]
  refine Z9 (Z10 ?_)
  refine hK29 _ _ ?_
  refine wp_region_plain 12 (by kernel_rfl) (fun Lk hLk => ?_)
  simp only [Z1,Z2]
  refine Z16 (v := .slice (some ⟨g12, 0, none⟩) 32 32) (by rfl) rfl rfl ?_
  simp only [Z7,Z0]
  refine Z16 (v := .int .i64 ((i : Nat) : Int)) (by rfl) rfl rfl ?_
  simp only [Z7,Z0]
  refine Z16 (v := .int .i64 ((i : Nat) : Int)) (by rfl) rfl rfl ?_
  simp only [Z7,Z0]
  refine Z15 (v := .int .i64 ((i / 8 : Nat) : Int)) (by rfl) rfl rfl rfl (fun W => run_quo (by decide) ((congrArg _ (tdiv_nat i 8)).trans (wrap_nat _ (by omega))) W) ?_
  simp only [Z7,Z0]
  refine wpV_idx (n := i / 8) (by rfl) rfl rfl rfl Try.underlying24 info22 (by omega) ?_
  simp only [Nat.zero_add]
  simp only [Z7,Z0]
  refine wpV_load1 (v := .int .u64 ((limbN (leastF x) (i / 8) : Nat) : Int)) (by rfl) rfl rfl (by have := Rg3_0 _ _ (fel_get (j := i / 8) (leastF x) (by omega)); rwa [Nat.zero_add] at this) Lg3 Try.underlying22 rfl ?_
  simp only [Z7,Z0]
  refine Z16 (v := .int .i64 ((i : Nat) : Int)) (by rfl) rfl rfl ?_
  simp only [Z7,Z0]
  refine Z15 (v := .int .i64 ((i % 8 : Nat) : Int)) (by rfl) rfl rfl rfl (fun W => run_rem (by decide) (tmod_nat i 8) W) ?_
  simp only [Z7,Z0]
  refine Z15 (v := .int .i64 ((8 * (i % 8) : Nat) : Int)) (by rfl) rfl rfl rfl (fun W => run_mul (by simp only [IntKind.wrap_i64]; omega) W) ?_
  simp only [Z7,Z0]
  refine Z15 (v := .int .u64 ((limbN (leastF x) (i / 8) / 2 ^ (8 * (i % 8)) : Nat) : Int)) (by rfl) rfl rfl rfl (fun W => run_shr (by show _ ≤ 64; omega) rfl W) ?_
  simp only [Z7,Z0]
  refine wpV_conv (d := .bool) (e := (((leastF x) / 256 ^ i % 256 : Nat) : Int)) (by rfl) rfl rfl (run_conv_int Try.underlying22 Try.underlying5 (by rw [← byte_of]; exact wrap_u8N _)) ?_
  simp only [Z7,Z0]
  refine wpV_idxs (n := i) (by rfl) rfl rfl rfl Try.underlying62 info5 (by omega) ?_
  simp only [Nat.zero_add]
  simp only [Z7,Z0]
  refine Z14 (hLk.out _ ?_)
  clear hLk Lk
  simp only [Z1,Z2]
  iterate 12 refine wpN_skip (by rfl) ?_
  refine wpN_nil (fun w33 Sw33 hbs => ?_)
  clear hbs
  replace Rg3_0 := range_sees Rg3_0 Lg3 Sw33
  replace Tg3 := there_sees Tg3 Lg3 Sw33
  replace Rg12_0 := range_sees Rg12_0 Lg12 Sw33
  replace Tg12 := there_sees Tg12 Lg12 Sw33
  replace Lg3 := Nat.lt_of_lt_of_le Lg3 Sw33.2.2.size
  replace Lg12 := Nat.lt_of_lt_of_le Lg12 Sw33.2.2.size
  replace BE := BE.trans (Sw33.2.2.mono BE.size)
  refine Z18 (g := g12) (off := i) (n := 32) (v := .int .u8 (((leastF x) / 256 ^ i % 256 : Nat) : Int)) (by rfl) (by rfl) (by rfl) (by rfl) (by rfl) Tg12 (by omega) info5 rfl (fun w34 Pw34 RR TT => ?_)
  replace Rg3_0 := Pw34.range Rg3_0 (.inl Ng3_g12)
  replace Tg3 := Pw34.other_there Tg3 Ng3_g12
  replace Rg12_0 := range_set Rg12_0 Pw34 RR
  clear RR
  replace Tg12 := TT
  replace Lg3 := Pw34.lt Lg3
  replace Lg12 := Pw34.lt Lg12
  replace BE := Pw34.below BE Gg12
  rw [bytesN_set hi] at Rg12_0
  refine Z9 (Z10 ?_)
  refine hK28 _ _ ?_
  refine wp_region_plain 2 (by kernel_rfl) (fun Lk hLk => ?_)
  simp only [Z1,Z2]
  refine Z15 (v := .int .i64 ((i + 1 : Nat) : Int)) (by rfl) rfl rfl rfl (fun W => run_add (by simp only [IntKind.wrap_i64]; omega) W) ?_
  simp only [Z7,Z0]
  refine Z16 (v := .int .i64 ((i + 1 : Nat) : Int)) (by rfl) rfl rfl ?_
  simp only [Z7,Z0]
  refine Z14 (hLk.out _ ?_)
  clear hLk Lk
  simp only [Z1,Z2]
  iterate 2 refine wpN_skip (by rfl) ?_
  refine wpN_nil (fun w36 Sw36 hbs => ?_)
  clear hbs
  replace Rg3_0 := range_sees Rg3_0 Lg3 Sw36
  replace Tg3 := there_sees Tg3 Lg3 Sw36
  replace Rg12_0 := range_sees Rg12_0 Lg12 Sw36
  replace Tg12 := there_sees Tg12 Lg12 Sw36
  replace Lg3 := Nat.lt_of_lt_of_le Lg3 Sw36.2.2.size
  replace Lg12 := Nat.lt_of_lt_of_le Lg12 Sw36.2.2.size
  replace BE := BE.trans (Sw36.2.2.mono BE.size)
  refine Z9 (Z10 ?_)
  refine Exists.intro _ ⟨?_, (i + 1), (fun q9 => (#[Z3, Z3, Z3, Z3, .int .i64 ((i : Nat) : Int), Z3, Z3, Z3, Z3, Z3, Z3, .bool true, .int .i64 ((i : Nat) : Int), .slice (some ⟨g12, 0, none⟩) 32 32, .int .i64 ((i : Nat) : Int), .int .i64 ((i : Nat) : Int), .int .i64 ((i / 8 : Nat) : Int), .pointer (some ⟨g3, i / 8, none⟩), .int .u64 ((limbN (leastF x) (i / 8) : Nat) : Int), .int .i64 ((i : Nat) : Int), .int .i64 ((i % 8 : Nat) : Int), .int .i64 ((8 * (i % 8) : Nat) : Int), .int .u64 ((limbN (leastF x) (i / 8) / 2 ^ (8 * (i % 8)) : Nat) : Int), .int .u8 (((leastF x) / 256 ^ i % 256 : Nat) : Int), .pointer (some ⟨g12, i, none⟩), .int .i64 ((i + 1 : Nat) : Int)] : Array Value).getD q9 Z3), rfl, rfl, BE, Rg3_0, Tg3, Lg3, Rg12_0, Tg12, Lg12, (by omega)⟩
  omega
set_option maxHeartbeats 2000000 in
theorem fsqrt_c {x : Nat} (hx : x < 2 ^ 256) (w : World) :
  Calls Try.prog 57 #[fe x] w fun e w' => e = .returned (.tuple #[fe (fsqrt x).1, .bool (fsqrt x).2]) ∧ Below w.heap.size w w' := by
 go_enter Try.func57, Try.ntmps57
 have BE := Below.refl w.heap.size w
 refine Z4 (fun K1 hK1 => ?_)
 refine wp_region_plain 2 (by kernel_rfl) (fun Lk hLk => ?_)
 simp only [Z1,Z2]
 refine wpV_alloc (by rfl) ?_
 refine wpV_alloc (by rfl) ?_
 refine Z14 (hLk.out _ ?_)
 clear hLk Lk
 simp only [Z1,Z2]
 refine wpN_new (t := 24) (cs := (fel x).toArray) (by rfl) (fun W => ?_) (fun g3 Hg3 ng3 => ?_)
 ·
  (first | rfl | go_simp)
 refine wpN_new (t := 24) (cs := ([.int .u64 0, .int .u64 0, .int .u64 0, .int .u64 0]).toArray) (by rfl) (fun W => ?_) (fun g4 Hg4 ng4 => ?_)
 ·
  go_simp
 simp only [Z7,Z0]
 refine wpN_nil (fun w5 Sw5 hbs => ?_)
 have Bg3 : Blk w5 g3 24 (fel x).toArray := hbs _ (List.mem_cons_of_mem _ (List.mem_cons_self ..))
 have Bg4 : Blk w5 g4 24 ([.int .u64 0, .int .u64 0, .int .u64 0, .int .u64 0]).toArray := hbs _ (List.mem_cons_self ..)
 clear hbs
 have Gg3 : w.heap.size ≤ g3 := Nat.le_trans BE.size Hg3
 have Ng3_g4 : g3 ≠ g4 := ng4 (g3, _, _) (List.mem_cons_self ..)
 have Gg4 : w.heap.size ≤ g4 := Nat.le_trans BE.size Hg4
 replace BE := BE.trans (Sw5.2.2.mono BE.size)
 have Tg3 := blk_there Bg3 (n := 4) (by simp [flen])
 have Rg3_0 := blk_range Bg3 (l := fel x) rfl
 have Lg3 := Bg3.lt
 have Tg4 := blk_there Bg4 (n := 4) (by simp [flen])
 have Rg4_0 := blk_range Bg4 (l := [.int .u64 0, .int .u64 0, .int .u64 0, .int .u64 0]) rfl
 have Lg4 := Bg4.lt
 clear ng3 ng4 Bg3 Bg4
 refine Z13 (v := .bool false) (by rfl) (by rfl) (by rfl) ?_
 simp only [Z7,Z0]
 refine Z9 (Z10 ?_)
 refine hK1 _ _ ?_
 refine Z4 (fun K6 hK6 => ?_)
 refine wp_region_plain 2 (by kernel_rfl) (fun Lk hLk => ?_)
 simp only [Z1,Z2]
 refine wpV_load (cs := fel x) (by rfl) rfl rfl Rg3_0 Lg3 Try.underlying24 rfl info24 ?_
 simp only [Z7,Z0]
 refine Z20 (v := fe (leastF x)) (args := #[fe x]) (by rfl) rfl Try.func45 (by kernel_rfl) (by kernel_rfl) rfl (fun W hW => least_c hx W) ?_
 simp only [Z7,Z0]
 refine Z14 (hLk.out _ ?_)
 clear hLk Lk
 simp only [Z1,Z2]
 iterate 2 refine wpN_skip (by rfl) ?_
 refine wpN_nil (fun w8 Sw8 hbs => ?_)
 clear hbs
 replace Rg3_0 := range_sees Rg3_0 Lg3 Sw8
 replace Tg3 := there_sees Tg3 Lg3 Sw8
 replace Rg4_0 := range_sees Rg4_0 Lg4 Sw8
 replace Tg4 := there_sees Tg4 Lg4 Sw8
 replace Lg3 := Nat.lt_of_lt_of_le Lg3 Sw8.2.2.size
 replace Lg4 := Nat.lt_of_lt_of_le Lg4 Sw8.2.2.size
 replace BE := BE.trans (Sw8.2.2.mono BE.size)
 refine wpL_store (g := g3) (off := 0) (n := 4) (cs := fel (leastF x)) (by rfl) (by rfl) (by rfl) (by rfl) (by rfl) Tg3 (by simp [flen]) info24 (fel_one _) (fun w9 Pw9 RR TT => ?_)
 replace Rg4_0 := Pw9.range Rg4_0 (.inl (Ne.symm Ng3_g4))
 replace Tg4 := Pw9.other_there Tg4 (Ne.symm Ng3_g4)
 replace Rg3_0 := RR
 clear RR
 replace Tg3 := TT
 replace Lg3 := Pw9.lt Lg3
 replace Lg4 := Pw9.lt Lg4
 replace BE := Pw9.below BE Gg3
 refine Z9 (Z10 ?_)
 refine hK6 _ _ ?_
 refine Z4 (fun K10 hK10 => ?_)
 refine wp_region_plain 2 (by kernel_rfl) (fun Lk hLk => ?_)
 simp only [Z1,Z2]
 refine Z19 (v := fe 7237005577332262213973186563042994240829374041602535252466099000494570602494) (by rfl) (by rfl) (fun W hW => ?_) ?_
 ·
  rw [show fe 7237005577332262213973186563042994240829374041602535252466099000494570602494 = .agg ([.int .u64 18446744073709551614, .int .u64 18446744073709551615, .int .u64 18446744073709551615, .int .u64 1152921504606846975]).toArray from (by kernel_rfl)]; unfold RunsVal; kernel_rfl
 simp only [Z7,Z0]
 refine wpV_alloc (by rfl) ?_
 refine Z14 (hLk.out _ ?_)
 clear hLk Lk
 simp only [Z1,Z2]
 iterate 1 refine wpN_skip (by rfl) ?_
 refine wpN_new (t := 24) (cs := ([.int .u64 0, .int .u64 0, .int .u64 0, .int .u64 0]).toArray) (by rfl) (fun W => ?_) (fun g12 Hg12 ng12 => ?_)
 ·
  go_simp
 simp only [Z7,Z0]
 refine wpN_nil (fun w13 Sw13 hbs => ?_)
 have Bg12 : Blk w13 g12 24 ([.int .u64 0, .int .u64 0, .int .u64 0, .int .u64 0]).toArray := hbs _ (List.mem_cons_self ..)
 clear hbs
 have Ng3_g12 : g3 ≠ g12 := Nat.ne_of_lt (Nat.lt_of_lt_of_le Lg3 Hg12)
 have Ng4_g12 : g4 ≠ g12 := Nat.ne_of_lt (Nat.lt_of_lt_of_le Lg4 Hg12)
 have Gg12 : w.heap.size ≤ g12 := Nat.le_trans BE.size Hg12
 replace Rg3_0 := range_sees Rg3_0 Lg3 Sw13
 replace Tg3 := there_sees Tg3 Lg3 Sw13
 replace Rg4_0 := range_sees Rg4_0 Lg4 Sw13
 replace Tg4 := there_sees Tg4 Lg4 Sw13
 replace Lg3 := Nat.lt_of_lt_of_le Lg3 Sw13.2.2.size
 replace Lg4 := Nat.lt_of_lt_of_le Lg4 Sw13.2.2.size
 replace BE := BE.trans (Sw13.2.2.mono BE.size)
 have Tg12 := blk_there Bg12 (n := 4) (by simp [flen])
 have Rg12_0 := blk_range Bg12 (l := [.int .u64 0, .int .u64 0, .int .u64 0, .int .u64 0]) rfl
 have Lg12 := Bg12.lt
 clear ng12 Bg12
 refine wpL_store (g := g12) (off := 0) (n := 4) (cs := fel 7237005577332262213973186563042994240829374041602535252466099000494570602494) (by rfl) (by rfl) (by rfl) (by rfl) (by rfl) Tg12 (by simp [flen]) info24 (fel_one _) (fun w14 Pw14 RR TT => ?_)
 replace Rg3_0 := Pw14.range Rg3_0 (.inl Ng3_g12)
 replace Tg3 := Pw14.other_there Tg3 Ng3_g12
 replace Rg4_0 := Pw14.range Rg4_0 (.inl Ng4_g12)
 replace Tg4 := Pw14.other_there Tg4 Ng4_g12
 replace Rg12_0 := RR
 clear RR
 replace Tg12 := TT
 replace Lg3 := Pw14.lt Lg3
 replace Lg4 := Pw14.lt Lg4
 replace Lg12 := Pw14.lt Lg12
 replace BE := Pw14.below BE Gg12
 refine Z9 (Z10 ?_)
 refine hK10 _ _ ?_
 refine Z4 (fun K15 hK15 => ?_)
 refine wp_region_plain 4 (by kernel_rfl) (fun Lk hLk => ?_)
 simp only [Z1,Z2]
 refine wpV_load (cs := fel (leastF x)) (by rfl) rfl rfl Rg3_0 Lg3 Try.underlying24 rfl info24 ?_
 simp only [Z7,Z0]
 refine wpV_load (cs := fel 7237005577332262213973186563042994240829374041602535252466099000494570602494) (by rfl) rfl rfl Rg12_0 Lg12 Try.underlying24 rfl info24 ?_
 simp only [Z7,Z0]
 refine Z20 (v := fe (fpow (leastF x) 7237005577332262213973186563042994240829374041602535252466099000494570602494)) (args := #[fe (leastF x), fe 7237005577332262213973186563042994240829374041602535252466099000494570602494]) (by rfl) rfl Try.func74 (by kernel_rfl) (by kernel_rfl) rfl (fun W hW => power_c (leastF_lt ..) (by decide) W) ?_
 simp only [Z7,Z0]
 refine wpV_alloc (by rfl) ?_
 refine Z14 (hLk.out _ ?_)
 clear hLk Lk
 simp only [Z1,Z2]
 iterate 3 refine wpN_skip (by rfl) ?_
 refine wpN_new (t := 24) (cs := ([.int .u64 0, .int .u64 0, .int .u64 0, .int .u64 0]).toArray) (by rfl) (fun W => ?_) (fun g17 Hg17 ng17 => ?_)
 ·
  go_simp
 simp only [Z7,Z0]
 refine wpN_nil (fun w18 Sw18 hbs => ?_)
 have Bg17 : Blk w18 g17 24 ([.int .u64 0, .int .u64 0, .int .u64 0, .int .u64 0]).toArray := hbs _ (List.mem_cons_self ..)
 clear hbs
 have Ng3_g17 : g3 ≠ g17 := Nat.ne_of_lt (Nat.lt_of_lt_of_le Lg3 Hg17)
 have Ng4_g17 : g4 ≠ g17 := Nat.ne_of_lt (Nat.lt_of_lt_of_le Lg4 Hg17)
 have Ng12_g17 : g12 ≠ g17 := Nat.ne_of_lt (Nat.lt_of_lt_of_le Lg12 Hg17)
 have Gg17 : w.heap.size ≤ g17 := Nat.le_trans BE.size Hg17
 replace Rg3_0 := range_sees Rg3_0 Lg3 Sw18
 replace Tg3 := there_sees Tg3 Lg3 Sw18
 replace Rg4_0 := range_sees Rg4_0 Lg4 Sw18
 replace Tg4 := there_sees Tg4 Lg4 Sw18
 replace Rg12_0 := range_sees Rg12_0 Lg12 Sw18
 replace Tg12 := there_sees Tg12 Lg12 Sw18
 replace Lg3 := Nat.lt_of_lt_of_le Lg3 Sw18.2.2.size
 replace Lg4 := Nat.lt_of_lt_of_le Lg4 Sw18.2.2.size
 replace Lg12 := Nat.lt_of_lt_of_le Lg12 Sw18.2.2.size
 replace BE := BE.trans (Sw18.2.2.mono BE.size)
 have Tg17 := blk_there Bg17 (n := 4) (by simp [flen])
 have Rg17_0 := blk_range Bg17 (l := [.int .u64 0, .int .u64 0, .int .u64 0, .int .u64 0]) rfl
 have Lg17 := Bg17.lt
 clear ng17 Bg17
 refine wpL_store (g := g17) (off := 0) (n := 4) (cs := fel (fpow (leastF x) 7237005577332262213973186563042994240829374041602535252466099000494570602494)) (by rfl) (by rfl) (by rfl) (by rfl) (by rfl) Tg17 (by simp [flen]) info24 (fel_one _) (fun w19 Pw19 RR TT => ?_)
 replace Rg3_0 := Pw19.range Rg3_0 (.inl Ng3_g17)
 replace Tg3 := Pw19.other_there Tg3 Ng3_g17
 replace Rg4_0 := Pw19.range Rg4_0 (.inl Ng4_g17)
 replace Tg4 := Pw19.other_there Tg4 Ng4_g17
 replace Rg12_0 := Pw19.range Rg12_0 (.inl Ng12_g17)
 replace Tg12 := Pw19.other_there Tg12 Ng12_g17
 replace Rg17_0 := RR
 clear RR
 replace Tg17 := TT
 replace Lg3 := Pw19.lt Lg3
 replace Lg4 := Pw19.lt Lg4
 replace Lg12 := Pw19.lt Lg12
 replace Lg17 := Pw19.lt Lg17
 replace BE := Pw19.below BE Gg17
 refine Z9 (Z10 ?_)
 refine hK15 _ _ ?_
 refine Z4 (fun K20 hK20 => ?_)
 refine Z4 (fun K21 hK21 => ?_)
 refine wp_region_grow 5 [] (by kernel_rfl) (by kernel_rfl) (by kernel_rfl) (fun Lk hLk => ?_)
 simp only [Z1,Z2]
 refine wpV_load (cs := fel (fpow (leastF x) 7237005577332262213973186563042994240829374041602535252466099000494570602494)) (by rfl) rfl rfl Rg17_0 Lg17 Try.underlying24 rfl info24 ?_
 simp only [Z7,Z0]
 refine wpV_load (cs := fel (fpow (leastF x) 7237005577332262213973186563042994240829374041602535252466099000494570602494)) (by rfl) rfl rfl Rg17_0 Lg17 Try.underlying24 rfl info24 ?_
 simp only [Z7,Z0]
 refine Z20 (v := fe (fmul (fpow (leastF x) 7237005577332262213973186563042994240829374041602535252466099000494570602494) (fpow (leastF x) 7237005577332262213973186563042994240829374041602535252466099000494570602494))) (args := #[fe (fpow (leastF x) 7237005577332262213973186563042994240829374041602535252466099000494570602494), fe (fpow (leastF x) 7237005577332262213973186563042994240829374041602535252466099000494570602494)]) (by rfl) rfl Try.func39 (by kernel_rfl) (by kernel_rfl) rfl (fun W hW => fmul_c (fpow_lt ..) (fpow_lt ..) W) ?_
 simp only [Z7,Z0]
 refine wpV_load (cs := fel (leastF x)) (by rfl) rfl rfl Rg3_0 Lg3 Try.underlying24 rfl info24 ?_
 simp only [Z7,Z0]
 refine Z19 (v := .bool (decide (fmul (fpow (leastF x) 7237005577332262213973186563042994240829374041602535252466099000494570602494) (fpow (leastF x) 7237005577332262213973186563042994240829374041602535252466099000494570602494) ≠ leastF x))) (by rfl) (by rfl) (fun W hW => ?_) ?_
 ·
  exact run_neq_fe (fmul_lt ..) (leastF_lt ..) Try.underlying24 Try.underlying22 info22 (by kernel_rfl) rfl rfl rfl W
 simp only [Z7,Z0]
 refine Z14 (hLk.out _ ?_)
 clear hLk Lk
 simp only [Z1,Z2]
 iterate 5 refine wpN_skip (by rfl) ?_
 refine wpN_nil (fun w23 Sw23 hbs => ?_)
 clear hbs
 replace Rg3_0 := range_sees Rg3_0 Lg3 Sw23
 replace Tg3 := there_sees Tg3 Lg3 Sw23
 replace Rg4_0 := range_sees Rg4_0 Lg4 Sw23
 replace Tg4 := there_sees Tg4 Lg4 Sw23
 replace Rg12_0 := range_sees Rg12_0 Lg12 Sw23
 replace Tg12 := there_sees Tg12 Lg12 Sw23
 replace Rg17_0 := range_sees Rg17_0 Lg17 Sw23
 replace Tg17 := there_sees Tg17 Lg17 Sw23
 replace Lg3 := Nat.lt_of_lt_of_le Lg3 Sw23.2.2.size
 replace Lg4 := Nat.lt_of_lt_of_le Lg4 Sw23.2.2.size
 replace Lg12 := Nat.lt_of_lt_of_le Lg12 Sw23.2.2.size
 replace Lg17 := Nat.lt_of_lt_of_le Lg17 Sw23.2.2.size
 replace BE := BE.trans (Sw23.2.2.mono BE.size)
 refine Z9 (Z10 ?_)
 refine hK21 _ _ ?_
 cases hc24 : (decide (fmul (fpow (leastF x) 7237005577332262213973186563042994240829374041602535252466099000494570602494) (fpow (leastF x) 7237005577332262213973186563042994240829374041602535252466099000494570602494) ≠ leastF x))
 ·
  have q1 : fmul (root1 x) (root1 x) = leastF x := Decidable.not_not.1 (of_decide_eq_false hc24)
  refine Z6 rfl ?_
  refine wp_skip ?_
  refine hK20 _ _ ?_
  refine Z4 (fun K25 hK25 => ?_)
  refine Z4 (fun K26 hK26 => ?_)
  refine wp_region_grow 5 [] (by kernel_rfl) (by kernel_rfl) (by kernel_rfl) (fun Lk hLk => ?_)
  simp only [Z1,Z2]
  refine wpV_load (cs := fel (fpow (leastF x) 7237005577332262213973186563042994240829374041602535252466099000494570602494)) (by rfl) rfl rfl Rg17_0 Lg17 Try.underlying24 rfl info24 ?_
  simp only [Z7,Z0]
  refine wpV_load (cs := fel (fpow (leastF x) 7237005577332262213973186563042994240829374041602535252466099000494570602494)) (by rfl) rfl rfl Rg17_0 Lg17 Try.underlying24 rfl info24 ?_
  simp only [Z7,Z0]
  refine Z20 (v := fe (fmul (fpow (leastF x) 7237005577332262213973186563042994240829374041602535252466099000494570602494) (fpow (leastF x) 7237005577332262213973186563042994240829374041602535252466099000494570602494))) (args := #[fe (fpow (leastF x) 7237005577332262213973186563042994240829374041602535252466099000494570602494), fe (fpow (leastF x) 7237005577332262213973186563042994240829374041602535252466099000494570602494)]) (by rfl) rfl Try.func39 (by kernel_rfl) (by kernel_rfl) rfl (fun W hW => fmul_c (fpow_lt ..) (fpow_lt ..) W) ?_
  simp only [Z7,Z0]
  refine wpV_load (cs := fel (leastF x)) (by rfl) rfl rfl Rg3_0 Lg3 Try.underlying24 rfl info24 ?_
  simp only [Z7,Z0]
  refine Z19 (v := .bool false) (by rfl) (by rfl) (fun W hW => ?_) ?_
  ·
   exact hc24 ▸ run_neq_fe (fmul_lt ..) (leastF_lt ..) Try.underlying24 Try.underlying22 info22 (by kernel_rfl) rfl rfl rfl W
  simp only [Z7,Z0]
  refine Z14 (hLk.out _ ?_)
  clear hLk Lk
  simp only [Z1,Z2]
  iterate 5 refine wpN_skip (by rfl) ?_
  refine wpN_nil (fun w28 Sw28 hbs => ?_)
  clear hbs
  replace Rg3_0 := range_sees Rg3_0 Lg3 Sw28
  replace Tg3 := there_sees Tg3 Lg3 Sw28
  replace Rg4_0 := range_sees Rg4_0 Lg4 Sw28
  replace Tg4 := there_sees Tg4 Lg4 Sw28
  replace Rg12_0 := range_sees Rg12_0 Lg12 Sw28
  replace Tg12 := there_sees Tg12 Lg12 Sw28
  replace Rg17_0 := range_sees Rg17_0 Lg17 Sw28
  replace Tg17 := there_sees Tg17 Lg17 Sw28
  replace Lg3 := Nat.lt_of_lt_of_le Lg3 Sw28.2.2.size
  replace Lg4 := Nat.lt_of_lt_of_le Lg4 Sw28.2.2.size
  replace Lg12 := Nat.lt_of_lt_of_le Lg12 Sw28.2.2.size
  replace Lg17 := Nat.lt_of_lt_of_le Lg17 Sw28.2.2.size
  replace BE := BE.trans (Sw28.2.2.mono BE.size)
  refine Z9 (Z10 ?_)
  refine hK26 _ _ ?_
  refine Z6 rfl ?_
  refine wp_skip ?_
  refine hK25 _ _ ?_
  refine Z4 (fun K29 hK29 => ?_)
  refine Z4 (fun K30 hK30 => ?_)
  refine wp_region_plain 4 (by kernel_rfl) (fun Lk hLk => ?_)
  simp only [Z1,Z2]
  refine Z19 (v := .pointer (some ⟨g17, 0, none⟩)) (by rfl) (by rfl) (fun W hW => ?_) ?_
  ·
   (go_simp; exact rfl)
  simp only [Z7,Z0]
  refine wpV_load1 (v := .int .u64 (limb (fpow (leastF x) 7237005577332262213973186563042994240829374041602535252466099000494570602494) 0)) (by rfl) rfl rfl (range_one (range_sub Rg17_0 0 1 0 (xs := [.int .u64 (limb (fpow (leastF x) 7237005577332262213973186563042994240829374041602535252466099000494570602494) 0)]) rfl rfl)) Lg17 Try.underlying22 rfl ?_
  simp only [Z7,Z0]
  refine Z15 (v := .int .u64 (((fpow (leastF x) 7237005577332262213973186563042994240829374041602535252466099000494570602494) % 2 : Nat) : Int)) (by rfl) rfl rfl rfl (fun W => run_and (and_one _) W) ?_
  simp only [Z7,Z0]
  refine Z15 (v := .bool ((((fpow (leastF x) 7237005577332262213973186563042994240829374041602535252466099000494570602494) % 2 : Nat) : Int) == 1)) (by rfl) rfl rfl rfl (fun W => run_eql _ _ _ _ W) ?_
  simp only [Z7,Z0]
  refine Z14 (hLk.out _ ?_)
  clear hLk Lk
  simp only [Z1,Z2]
  iterate 4 refine wpN_skip (by rfl) ?_
  refine wpN_nil (fun w32 Sw32 hbs => ?_)
  clear hbs
  replace Rg3_0 := range_sees Rg3_0 Lg3 Sw32
  replace Tg3 := there_sees Tg3 Lg3 Sw32
  replace Rg4_0 := range_sees Rg4_0 Lg4 Sw32
  replace Tg4 := there_sees Tg4 Lg4 Sw32
  replace Rg12_0 := range_sees Rg12_0 Lg12 Sw32
  replace Tg12 := there_sees Tg12 Lg12 Sw32
  replace Rg17_0 := range_sees Rg17_0 Lg17 Sw32
  replace Tg17 := there_sees Tg17 Lg17 Sw32
  replace Lg3 := Nat.lt_of_lt_of_le Lg3 Sw32.2.2.size
  replace Lg4 := Nat.lt_of_lt_of_le Lg4 Sw32.2.2.size
  replace Lg12 := Nat.lt_of_lt_of_le Lg12 Sw32.2.2.size
  replace Lg17 := Nat.lt_of_lt_of_le Lg17 Sw32.2.2.size
  replace BE := BE.trans (Sw32.2.2.mono BE.size)
  refine Z9 (Z10 ?_)
  refine hK30 _ _ ?_
  cases hc33 : ((((fpow (leastF x) 7237005577332262213973186563042994240829374041602535252466099000494570602494) % 2 : Nat) : Int) == 1)
  ·
   have e2 : root2 x = (fpow (leastF x) 7237005577332262213973186563042994240829374041602535252466099000494570602494) := root2_t q1
   have q2 : fmul (root2 x) (root2 x) = leastF x := by rw [e2]; exact q1
   have q3 : ¬ root2 x % 2 = 1 := by rw [e2]; intro e; rw [e] at hc33; simp at hc33
   refine Z6 rfl ?_
   refine wp_skip ?_
   refine hK29 _ _ ?_
   refine Z4 (fun K34 hK34 => ?_)
   refine wp_region_plain 1 (by kernel_rfl) (fun Lk hLk => ?_)
   simp only [Z1,Z2]
   refine wpV_load (cs := fel (fpow (leastF x) 7237005577332262213973186563042994240829374041602535252466099000494570602494)) (by rfl) rfl rfl Rg17_0 Lg17 Try.underlying24 rfl info24 ?_
   simp only [Z7,Z0]
   refine Z14 (hLk.out _ ?_)
   clear hLk Lk
   simp only [Z1,Z2]
   iterate 1 refine wpN_skip (by rfl) ?_
   refine wpN_nil (fun w36 Sw36 hbs => ?_)
   clear hbs
   replace Rg3_0 := range_sees Rg3_0 Lg3 Sw36
   replace Tg3 := there_sees Tg3 Lg3 Sw36
   replace Rg4_0 := range_sees Rg4_0 Lg4 Sw36
   replace Tg4 := there_sees Tg4 Lg4 Sw36
   replace Rg12_0 := range_sees Rg12_0 Lg12 Sw36
   replace Tg12 := there_sees Tg12 Lg12 Sw36
   replace Rg17_0 := range_sees Rg17_0 Lg17 Sw36
   replace Tg17 := there_sees Tg17 Lg17 Sw36
   replace Lg3 := Nat.lt_of_lt_of_le Lg3 Sw36.2.2.size
   replace Lg4 := Nat.lt_of_lt_of_le Lg4 Sw36.2.2.size
   replace Lg12 := Nat.lt_of_lt_of_le Lg12 Sw36.2.2.size
   replace Lg17 := Nat.lt_of_lt_of_le Lg17 Sw36.2.2.size
   replace BE := BE.trans (Sw36.2.2.mono BE.size)
   refine wpL_store (g := g4) (off := 0) (n := 4) (cs := fel (fpow (leastF x) 7237005577332262213973186563042994240829374041602535252466099000494570602494)) (by rfl) (by rfl) (by rfl) (by rfl) (by rfl) Tg4 (by simp [flen]) info24 (fel_one _) (fun w37 Pw37 RR TT => ?_)
   replace Rg3_0 := Pw37.range Rg3_0 (.inl Ng3_g4)
   replace Tg3 := Pw37.other_there Tg3 Ng3_g4
   replace Rg12_0 := Pw37.range Rg12_0 (.inl (Ne.symm Ng4_g12))
   replace Tg12 := Pw37.other_there Tg12 (Ne.symm Ng4_g12)
   replace Rg17_0 := Pw37.range Rg17_0 (.inl (Ne.symm Ng4_g17))
   replace Tg17 := Pw37.other_there Tg17 (Ne.symm Ng4_g17)
   replace Rg4_0 := RR
   clear RR
   replace Tg4 := TT
   replace Lg3 := Pw37.lt Lg3
   replace Lg4 := Pw37.lt Lg4
   replace Lg12 := Pw37.lt Lg12
   replace Lg17 := Pw37.lt Lg17
   replace BE := Pw37.below BE Gg4
   refine Z13 (v := .bool true) (by rfl) (by rfl) (by rfl) ?_
   simp only [Z7,Z0]
   refine Z9 (Z10 ?_)
   refine hK34 _ _ ?_
   refine wp_ret ?_
   repeat (first | with_reducible refine then_ret ?_ | with_reducible refine inblock_ret ?_)
   refine bodyPost_ret (v := .tuple #[fe (fpow (leastF x) 7237005577332262213973186563042994240829374041602535252466099000494570602494), .bool true]) (res2 rfl (.cell (by rfl) (run_loadVar_mid _ _ _ _ (fel (fpow (leastF x) 7237005577332262213973186563042994240829374041602535252466099000494570602494)) _ Rg4_0 Try.underlying24 rfl info24)) (.tmp (by rfl))) rfl ?_
   exact ⟨by simp only [sqrt_even q2 q3, e2], BE⟩
  ·
   have e2 : root2 x = (fpow (leastF x) 7237005577332262213973186563042994240829374041602535252466099000494570602494) := root2_t q1
   have q2 : fmul (root2 x) (root2 x) = leastF x := by rw [e2]; exact q1
   have q3 : root2 x % 2 = 1 := by rw [e2]; have := beq_iff_eq.1 hc33; omega
   refine Z5 rfl ?_
   refine wp_region_plain 3 (by kernel_rfl) (fun Lk hLk => ?_)
   simp only [Z1,Z2]
   refine Z19 (v := fe 0) (by rfl) (by rfl) (fun W hW => ?_) ?_
   ·
    rw [show fe 0 = .agg ([.int .u64 0, .int .u64 0, .int .u64 0, .int .u64 0]).toArray from (by kernel_rfl)]; unfold RunsVal; kernel_rfl
   simp only [Z7,Z0]
   refine wpV_load (cs := fel (fpow (leastF x) 7237005577332262213973186563042994240829374041602535252466099000494570602494)) (by rfl) rfl rfl Rg17_0 Lg17 Try.underlying24 rfl info24 ?_
   simp only [Z7,Z0]
   refine Z20 (v := fe (fsub 0 (fpow (leastF x) 7237005577332262213973186563042994240829374041602535252466099000494570602494))) (args := #[fe 0, fe (fpow (leastF x) 7237005577332262213973186563042994240829374041602535252466099000494570602494)]) (by rfl) rfl Try.func26 (by kernel_rfl) (by kernel_rfl) rfl (fun W hW => fsub_c (by decide) (fpow_lt ..) W) ?_
   simp only [Z7,Z0]
   refine Z14 (hLk.out _ ?_)
   clear hLk Lk
   simp only [Z1,Z2]
   iterate 3 refine wpN_skip (by rfl) ?_
   refine wpN_nil (fun w39 Sw39 hbs => ?_)
   clear hbs
   replace Rg3_0 := range_sees Rg3_0 Lg3 Sw39
   replace Tg3 := there_sees Tg3 Lg3 Sw39
   replace Rg4_0 := range_sees Rg4_0 Lg4 Sw39
   replace Tg4 := there_sees Tg4 Lg4 Sw39
   replace Rg12_0 := range_sees Rg12_0 Lg12 Sw39
   replace Tg12 := there_sees Tg12 Lg12 Sw39
   replace Rg17_0 := range_sees Rg17_0 Lg17 Sw39
   replace Tg17 := there_sees Tg17 Lg17 Sw39
   replace Lg3 := Nat.lt_of_lt_of_le Lg3 Sw39.2.2.size
   replace Lg4 := Nat.lt_of_lt_of_le Lg4 Sw39.2.2.size
   replace Lg12 := Nat.lt_of_lt_of_le Lg12 Sw39.2.2.size
   replace Lg17 := Nat.lt_of_lt_of_le Lg17 Sw39.2.2.size
   replace BE := BE.trans (Sw39.2.2.mono BE.size)
   refine wpL_store (g := g17) (off := 0) (n := 4) (cs := fel (fsub 0 (fpow (leastF x) 7237005577332262213973186563042994240829374041602535252466099000494570602494))) (by rfl) (by rfl) (by rfl) (by rfl) (by rfl) Tg17 (by simp [flen]) info24 (fel_one _) (fun w40 Pw40 RR TT => ?_)
   replace Rg3_0 := Pw40.range Rg3_0 (.inl Ng3_g17)
   replace Tg3 := Pw40.other_there Tg3 Ng3_g17
   replace Rg4_0 := Pw40.range Rg4_0 (.inl Ng4_g17)
   replace Tg4 := Pw40.other_there Tg4 Ng4_g17
   replace Rg12_0 := Pw40.range Rg12_0 (.inl Ng12_g17)
   replace Tg12 := Pw40.other_there Tg12 Ng12_g17
   replace Rg17_0 := RR
   clear RR
   replace Tg17 := TT
   replace Lg3 := Pw40.lt Lg3
   replace Lg4 := Pw40.lt Lg4
   replace Lg12 := Pw40.lt Lg12
   replace Lg17 := Pw40.lt Lg17
   replace BE := Pw40.below BE Gg17
   refine Z9 (Z10 ?_)
   refine hK29 _ _ ?_
   refine Z4 (fun K41 hK41 => ?_)
   refine wp_region_plain 1 (by kernel_rfl) (fun Lk hLk => ?_)
   simp only [Z1,Z2]
   refine wpV_load (cs := fel (fsub 0 (fpow (leastF x) 7237005577332262213973186563042994240829374041602535252466099000494570602494))) (by rfl) rfl rfl Rg17_0 Lg17 Try.underlying24 rfl info24 ?_
   simp only [Z7,Z0]
   refine Z14 (hLk.out _ ?_)
   clear hLk Lk
   simp only [Z1,Z2]
   iterate 1 refine wpN_skip (by rfl) ?_
   refine wpN_nil (fun w43 Sw43 hbs => ?_)
   clear hbs
   replace Rg3_0 := range_sees Rg3_0 Lg3 Sw43
   replace Tg3 := there_sees Tg3 Lg3 Sw43
   replace Rg4_0 := range_sees Rg4_0 Lg4 Sw43
   replace Tg4 := there_sees Tg4 Lg4 Sw43
   replace Rg12_0 := range_sees Rg12_0 Lg12 Sw43
   replace Tg12 := there_sees Tg12 Lg12 Sw43
   replace Rg17_0 := range_sees Rg17_0 Lg17 Sw43
   replace Tg17 := there_sees Tg17 Lg17 Sw43
   replace Lg3 := Nat.lt_of_lt_of_le Lg3 Sw43.2.2.size
   replace Lg4 := Nat.lt_of_lt_of_le Lg4 Sw43.2.2.size
   replace Lg12 := Nat.lt_of_lt_of_le Lg12 Sw43.2.2.size
   replace Lg17 := Nat.lt_of_lt_of_le Lg17 Sw43.2.2.size
   replace BE := BE.trans (Sw43.2.2.mono BE.size)
   refine wpL_store (g := g4) (off := 0) (n := 4) (cs := fel (fsub 0 (fpow (leastF x) 7237005577332262213973186563042994240829374041602535252466099000494570602494))) (by rfl) (by rfl) (by rfl) (by rfl) (by rfl) Tg4 (by simp [flen]) info24 (fel_one _) (fun w44 Pw44 RR TT => ?_)
   replace Rg3_0 := Pw44.range Rg3_0 (.inl Ng3_g4)
   replace Tg3 := Pw44.other_there Tg3 Ng3_g4
   replace Rg12_0 := Pw44.range Rg12_0 (.inl (Ne.symm Ng4_g12))
   replace Tg12 := Pw44.other_there Tg12 (Ne.symm Ng4_g12)
   replace Rg17_0 := Pw44.range Rg17_0 (.inl (Ne.symm Ng4_g17))
   replace Tg17 := Pw44.other_there Tg17 (Ne.symm Ng4_g17)
   replace Rg4_0 := RR
   clear RR
   replace Tg4 := TT
   replace Lg3 := Pw44.lt Lg3
   replace Lg4 := Pw44.lt Lg4
   replace Lg12 := Pw44.lt Lg12
   replace Lg17 := Pw44.lt Lg17
   replace BE := Pw44.below BE Gg4
   refine Z13 (v := .bool true) (by rfl) (by rfl) (by rfl) ?_
   simp only [Z7,Z0]
   refine Z9 (Z10 ?_)
   refine hK41 _ _ ?_
   refine wp_ret ?_
   repeat (first | with_reducible refine then_ret ?_ | with_reducible refine inblock_ret ?_)
   refine bodyPost_ret (v := .tuple #[fe (fsub 0 (fpow (leastF x) 7237005577332262213973186563042994240829374041602535252466099000494570602494)), .bool true]) (res2 rfl (.cell (by rfl) (run_loadVar_mid _ _ _ _ (fel (fsub 0 (fpow (leastF x) 7237005577332262213973186563042994240829374041602535252466099000494570602494))) _ Rg4_0 Try.underlying24 rfl info24)) (.tmp (by rfl))) rfl ?_
   exact ⟨by simp only [sqrt_odd q2 q3, e2], BE⟩
 ·
  have q1 : ¬ fmul (root1 x) (root1 x) = leastF x := of_decide_eq_true hc24
  refine Z5 rfl ?_
  refine Z4 (fun K45 hK45 => ?_)
  refine wp_region_plain 2 (by kernel_rfl) (fun Lk hLk => ?_)
  simp only [Z1,Z2]
  refine Z19 (v := fe 14474011154664524427946373126085988481658748083205070504932198000989141204987) (by rfl) (by rfl) (fun W hW => ?_) ?_
  ·
   rw [show fe 14474011154664524427946373126085988481658748083205070504932198000989141204987 = .agg ([.int .u64 18446744073709551611, .int .u64 18446744073709551615, .int .u64 18446744073709551615, .int .u64 2305843009213693951]).toArray from (by kernel_rfl)]; unfold RunsVal; kernel_rfl
  simp only [Z7,Z0]
  refine wpV_alloc (by rfl) ?_
  refine Z14 (hLk.out _ ?_)
  clear hLk Lk
  simp only [Z1,Z2]
  iterate 1 refine wpN_skip (by rfl) ?_
  refine wpN_new (t := 24) (cs := ([.int .u64 0, .int .u64 0, .int .u64 0, .int .u64 0]).toArray) (by rfl) (fun W => ?_) (fun g47 Hg47 ng47 => ?_)
  ·
   go_simp
  simp only [Z7,Z0]
  refine wpN_nil (fun w48 Sw48 hbs => ?_)
  have Bg47 : Blk w48 g47 24 ([.int .u64 0, .int .u64 0, .int .u64 0, .int .u64 0]).toArray := hbs _ (List.mem_cons_self ..)
  clear hbs
  have Ng3_g47 : g3 ≠ g47 := Nat.ne_of_lt (Nat.lt_of_lt_of_le Lg3 Hg47)
  have Ng4_g47 : g4 ≠ g47 := Nat.ne_of_lt (Nat.lt_of_lt_of_le Lg4 Hg47)
  have Ng12_g47 : g12 ≠ g47 := Nat.ne_of_lt (Nat.lt_of_lt_of_le Lg12 Hg47)
  have Ng17_g47 : g17 ≠ g47 := Nat.ne_of_lt (Nat.lt_of_lt_of_le Lg17 Hg47)
  have Gg47 : w.heap.size ≤ g47 := Nat.le_trans BE.size Hg47
  replace Rg3_0 := range_sees Rg3_0 Lg3 Sw48
  replace Tg3 := there_sees Tg3 Lg3 Sw48
  replace Rg4_0 := range_sees Rg4_0 Lg4 Sw48
  replace Tg4 := there_sees Tg4 Lg4 Sw48
  replace Rg12_0 := range_sees Rg12_0 Lg12 Sw48
  replace Tg12 := there_sees Tg12 Lg12 Sw48
  replace Rg17_0 := range_sees Rg17_0 Lg17 Sw48
  replace Tg17 := there_sees Tg17 Lg17 Sw48
  replace Lg3 := Nat.lt_of_lt_of_le Lg3 Sw48.2.2.size
  replace Lg4 := Nat.lt_of_lt_of_le Lg4 Sw48.2.2.size
  replace Lg12 := Nat.lt_of_lt_of_le Lg12 Sw48.2.2.size
  replace Lg17 := Nat.lt_of_lt_of_le Lg17 Sw48.2.2.size
  replace BE := BE.trans (Sw48.2.2.mono BE.size)
  have Tg47 := blk_there Bg47 (n := 4) (by simp [flen])
  have Rg47_0 := blk_range Bg47 (l := [.int .u64 0, .int .u64 0, .int .u64 0, .int .u64 0]) rfl
  have Lg47 := Bg47.lt
  clear ng47 Bg47
  refine wpL_store (g := g47) (off := 0) (n := 4) (cs := fel 14474011154664524427946373126085988481658748083205070504932198000989141204987) (by rfl) (by rfl) (by rfl) (by rfl) (by rfl) Tg47 (by simp [flen]) info24 (fel_one _) (fun w49 Pw49 RR TT => ?_)
  replace Rg3_0 := Pw49.range Rg3_0 (.inl Ng3_g47)
  replace Tg3 := Pw49.other_there Tg3 Ng3_g47
  replace Rg4_0 := Pw49.range Rg4_0 (.inl Ng4_g47)
  replace Tg4 := Pw49.other_there Tg4 Ng4_g47
  replace Rg12_0 := Pw49.range Rg12_0 (.inl Ng12_g47)
  replace Tg12 := Pw49.other_there Tg12 Ng12_g47
  replace Rg17_0 := Pw49.range Rg17_0 (.inl Ng17_g47)
  replace Tg17 := Pw49.other_there Tg17 Ng17_g47
  replace Rg47_0 := RR
  clear RR
  replace Tg47 := TT
  replace Lg3 := Pw49.lt Lg3
  replace Lg4 := Pw49.lt Lg4
  replace Lg12 := Pw49.lt Lg12
  replace Lg17 := Pw49.lt Lg17
  replace Lg47 := Pw49.lt Lg47
  replace BE := Pw49.below BE Gg47
  refine Z9 (Z10 ?_)
  refine hK45 _ _ ?_
  refine wp_region_grow 5 [] (by kernel_rfl) (by kernel_rfl) (by kernel_rfl) (fun Lk hLk => ?_)
  simp only [Z1,Z2]
  refine wpV_load (cs := fel (fpow (leastF x) 7237005577332262213973186563042994240829374041602535252466099000494570602494)) (by rfl) rfl rfl Rg17_0 Lg17 Try.underlying24 rfl info24 ?_
  simp only [Z7,Z0]
  refine Z20 (v := fe 2) (args := #[.int .u64 2]) (by rfl) rfl Try.func32 (by kernel_rfl) (by kernel_rfl) rfl (fun W hW => of_c (n := 2) (by decide) W) ?_
  simp only [Z7,Z0]
  refine wpV_load (cs := fel 14474011154664524427946373126085988481658748083205070504932198000989141204987) (by rfl) rfl rfl Rg47_0 Lg47 Try.underlying24 rfl info24 ?_
  simp only [Z7,Z0]
  refine Z20 (v := fe (fpow 2 14474011154664524427946373126085988481658748083205070504932198000989141204987)) (args := #[fe 2, fe 14474011154664524427946373126085988481658748083205070504932198000989141204987]) (by rfl) rfl Try.func74 (by kernel_rfl) (by kernel_rfl) rfl (fun W hW => power_c (by decide) (by decide) W) ?_
  simp only [Z7,Z0]
  refine Z20 (v := fe (fmul (fpow (leastF x) 7237005577332262213973186563042994240829374041602535252466099000494570602494) (fpow 2 14474011154664524427946373126085988481658748083205070504932198000989141204987))) (args := #[fe (fpow (leastF x) 7237005577332262213973186563042994240829374041602535252466099000494570602494), fe (fpow 2 14474011154664524427946373126085988481658748083205070504932198000989141204987)]) (by rfl) rfl Try.func39 (by kernel_rfl) (by kernel_rfl) rfl (fun W hW => fmul_c (fpow_lt ..) (fpow_lt ..) W) ?_
  simp only [Z7,Z0]
  refine Z14 (hLk.out _ ?_)
  clear hLk Lk
  simp only [Z1,Z2]
  iterate 5 refine wpN_skip (by rfl) ?_
  refine wpN_nil (fun w51 Sw51 hbs => ?_)
  clear hbs
  replace Rg3_0 := range_sees Rg3_0 Lg3 Sw51
  replace Tg3 := there_sees Tg3 Lg3 Sw51
  replace Rg4_0 := range_sees Rg4_0 Lg4 Sw51
  replace Tg4 := there_sees Tg4 Lg4 Sw51
  replace Rg12_0 := range_sees Rg12_0 Lg12 Sw51
  replace Tg12 := there_sees Tg12 Lg12 Sw51
  replace Rg17_0 := range_sees Rg17_0 Lg17 Sw51
  replace Tg17 := there_sees Tg17 Lg17 Sw51
  replace Rg47_0 := range_sees Rg47_0 Lg47 Sw51
  replace Tg47 := there_sees Tg47 Lg47 Sw51
  replace Lg3 := Nat.lt_of_lt_of_le Lg3 Sw51.2.2.size
  replace Lg4 := Nat.lt_of_lt_of_le Lg4 Sw51.2.2.size
  replace Lg12 := Nat.lt_of_lt_of_le Lg12 Sw51.2.2.size
  replace Lg17 := Nat.lt_of_lt_of_le Lg17 Sw51.2.2.size
  replace Lg47 := Nat.lt_of_lt_of_le Lg47 Sw51.2.2.size
  replace BE := BE.trans (Sw51.2.2.mono BE.size)
  refine wpL_store (g := g17) (off := 0) (n := 4) (cs := fel (fmul (fpow (leastF x) 7237005577332262213973186563042994240829374041602535252466099000494570602494) (fpow 2 14474011154664524427946373126085988481658748083205070504932198000989141204987))) (by rfl) (by rfl) (by rfl) (by rfl) (by rfl) Tg17 (by simp [flen]) info24 (fel_one _) (fun w52 Pw52 RR TT => ?_)
  replace Rg3_0 := Pw52.range Rg3_0 (.inl Ng3_g17)
  replace Tg3 := Pw52.other_there Tg3 Ng3_g17
  replace Rg4_0 := Pw52.range Rg4_0 (.inl Ng4_g17)
  replace Tg4 := Pw52.other_there Tg4 Ng4_g17
  replace Rg12_0 := Pw52.range Rg12_0 (.inl Ng12_g17)
  replace Tg12 := Pw52.other_there Tg12 Ng12_g17
  replace Rg47_0 := Pw52.range Rg47_0 (.inl (Ne.symm Ng17_g47))
  replace Tg47 := Pw52.other_there Tg47 (Ne.symm Ng17_g47)
  replace Rg17_0 := RR
  clear RR
  replace Tg17 := TT
  replace Lg3 := Pw52.lt Lg3
  replace Lg4 := Pw52.lt Lg4
  replace Lg12 := Pw52.lt Lg12
  replace Lg17 := Pw52.lt Lg17
  replace Lg47 := Pw52.lt Lg47
  replace BE := Pw52.below BE Gg17
  refine Z9 (Z10 ?_)
  refine hK20 _ _ ?_
  refine Z4 (fun K53 hK53 => ?_)
  refine Z4 (fun K54 hK54 => ?_)
  refine wp_region_grow 5 [] (by kernel_rfl) (by kernel_rfl) (by kernel_rfl) (fun Lk hLk => ?_)
  simp only [Z1,Z2]
  refine wpV_load (cs := fel (fmul (fpow (leastF x) 7237005577332262213973186563042994240829374041602535252466099000494570602494) (fpow 2 14474011154664524427946373126085988481658748083205070504932198000989141204987))) (by rfl) rfl rfl Rg17_0 Lg17 Try.underlying24 rfl info24 ?_
  simp only [Z7,Z0]
  refine wpV_load (cs := fel (fmul (fpow (leastF x) 7237005577332262213973186563042994240829374041602535252466099000494570602494) (fpow 2 14474011154664524427946373126085988481658748083205070504932198000989141204987))) (by rfl) rfl rfl Rg17_0 Lg17 Try.underlying24 rfl info24 ?_
  simp only [Z7,Z0]
  refine Z20 (v := fe (fmul (fmul (fpow (leastF x) 7237005577332262213973186563042994240829374041602535252466099000494570602494) (fpow 2 14474011154664524427946373126085988481658748083205070504932198000989141204987)) (fmul (fpow (leastF x) 7237005577332262213973186563042994240829374041602535252466099000494570602494) (fpow 2 14474011154664524427946373126085988481658748083205070504932198000989141204987)))) (args := #[fe (fmul (fpow (leastF x) 7237005577332262213973186563042994240829374041602535252466099000494570602494) (fpow 2 14474011154664524427946373126085988481658748083205070504932198000989141204987)), fe (fmul (fpow (leastF x) 7237005577332262213973186563042994240829374041602535252466099000494570602494) (fpow 2 14474011154664524427946373126085988481658748083205070504932198000989141204987))]) (by rfl) rfl Try.func39 (by kernel_rfl) (by kernel_rfl) rfl (fun W hW => fmul_c (fmul_lt ..) (fmul_lt ..) W) ?_
  simp only [Z7,Z0]
  refine wpV_load (cs := fel (leastF x)) (by rfl) rfl rfl Rg3_0 Lg3 Try.underlying24 rfl info24 ?_
  simp only [Z7,Z0]
  refine Z19 (v := .bool (decide (fmul (fmul (fpow (leastF x) 7237005577332262213973186563042994240829374041602535252466099000494570602494) (fpow 2 14474011154664524427946373126085988481658748083205070504932198000989141204987)) (fmul (fpow (leastF x) 7237005577332262213973186563042994240829374041602535252466099000494570602494) (fpow 2 14474011154664524427946373126085988481658748083205070504932198000989141204987)) ≠ leastF x))) (by rfl) (by rfl) (fun W hW => ?_) ?_
  ·
   exact run_neq_fe (fmul_lt ..) (leastF_lt ..) Try.underlying24 Try.underlying22 info22 (by kernel_rfl) rfl rfl rfl W
  simp only [Z7,Z0]
  refine Z14 (hLk.out _ ?_)
  clear hLk Lk
  simp only [Z1,Z2]
  iterate 5 refine wpN_skip (by rfl) ?_
  refine wpN_nil (fun w56 Sw56 hbs => ?_)
  clear hbs
  replace Rg3_0 := range_sees Rg3_0 Lg3 Sw56
  replace Tg3 := there_sees Tg3 Lg3 Sw56
  replace Rg4_0 := range_sees Rg4_0 Lg4 Sw56
  replace Tg4 := there_sees Tg4 Lg4 Sw56
  replace Rg12_0 := range_sees Rg12_0 Lg12 Sw56
  replace Tg12 := there_sees Tg12 Lg12 Sw56
  replace Rg17_0 := range_sees Rg17_0 Lg17 Sw56
  replace Tg17 := there_sees Tg17 Lg17 Sw56
  replace Rg47_0 := range_sees Rg47_0 Lg47 Sw56
  replace Tg47 := there_sees Tg47 Lg47 Sw56
  replace Lg3 := Nat.lt_of_lt_of_le Lg3 Sw56.2.2.size
  replace Lg4 := Nat.lt_of_lt_of_le Lg4 Sw56.2.2.size
  replace Lg12 := Nat.lt_of_lt_of_le Lg12 Sw56.2.2.size
  replace Lg17 := Nat.lt_of_lt_of_le Lg17 Sw56.2.2.size
  replace Lg47 := Nat.lt_of_lt_of_le Lg47 Sw56.2.2.size
  replace BE := BE.trans (Sw56.2.2.mono BE.size)
  refine Z9 (Z10 ?_)
  refine hK54 _ _ ?_
  cases hc57 : (decide (fmul (fmul (fpow (leastF x) 7237005577332262213973186563042994240829374041602535252466099000494570602494) (fpow 2 14474011154664524427946373126085988481658748083205070504932198000989141204987)) (fmul (fpow (leastF x) 7237005577332262213973186563042994240829374041602535252466099000494570602494) (fpow 2 14474011154664524427946373126085988481658748083205070504932198000989141204987)) ≠ leastF x))
  ·
   have e2 : root2 x = (fmul (fpow (leastF x) 7237005577332262213973186563042994240829374041602535252466099000494570602494) (fpow 2 14474011154664524427946373126085988481658748083205070504932198000989141204987)) := root2_f q1
   have q2 : fmul (root2 x) (root2 x) = leastF x := by rw [e2]; exact Decidable.not_not.1 (of_decide_eq_false hc57)
   refine Z6 rfl ?_
   refine wp_skip ?_
   refine hK53 _ _ ?_
   refine Z4 (fun K58 hK58 => ?_)
   refine Z4 (fun K59 hK59 => ?_)
   refine wp_region_plain 4 (by kernel_rfl) (fun Lk hLk => ?_)
   simp only [Z1,Z2]
   refine Z19 (v := .pointer (some ⟨g17, 0, none⟩)) (by rfl) (by rfl) (fun W hW => ?_) ?_
   ·
    (go_simp; exact rfl)
   simp only [Z7,Z0]
   refine wpV_load1 (v := .int .u64 (limb (fmul (fpow (leastF x) 7237005577332262213973186563042994240829374041602535252466099000494570602494) (fpow 2 14474011154664524427946373126085988481658748083205070504932198000989141204987)) 0)) (by rfl) rfl rfl (range_one (range_sub Rg17_0 0 1 0 (xs := [.int .u64 (limb (fmul (fpow (leastF x) 7237005577332262213973186563042994240829374041602535252466099000494570602494) (fpow 2 14474011154664524427946373126085988481658748083205070504932198000989141204987)) 0)]) rfl rfl)) Lg17 Try.underlying22 rfl ?_
   simp only [Z7,Z0]
   refine Z15 (v := .int .u64 (((fmul (fpow (leastF x) 7237005577332262213973186563042994240829374041602535252466099000494570602494) (fpow 2 14474011154664524427946373126085988481658748083205070504932198000989141204987)) % 2 : Nat) : Int)) (by rfl) rfl rfl rfl (fun W => run_and (and_one _) W) ?_
   simp only [Z7,Z0]
   refine Z15 (v := .bool ((((fmul (fpow (leastF x) 7237005577332262213973186563042994240829374041602535252466099000494570602494) (fpow 2 14474011154664524427946373126085988481658748083205070504932198000989141204987)) % 2 : Nat) : Int) == 1)) (by rfl) rfl rfl rfl (fun W => run_eql _ _ _ _ W) ?_
   simp only [Z7,Z0]
   refine Z14 (hLk.out _ ?_)
   clear hLk Lk
   simp only [Z1,Z2]
   iterate 4 refine wpN_skip (by rfl) ?_
   refine wpN_nil (fun w61 Sw61 hbs => ?_)
   clear hbs
   replace Rg3_0 := range_sees Rg3_0 Lg3 Sw61
   replace Tg3 := there_sees Tg3 Lg3 Sw61
   replace Rg4_0 := range_sees Rg4_0 Lg4 Sw61
   replace Tg4 := there_sees Tg4 Lg4 Sw61
   replace Rg12_0 := range_sees Rg12_0 Lg12 Sw61
   replace Tg12 := there_sees Tg12 Lg12 Sw61
   replace Rg17_0 := range_sees Rg17_0 Lg17 Sw61
   replace Tg17 := there_sees Tg17 Lg17 Sw61
   replace Rg47_0 := range_sees Rg47_0 Lg47 Sw61
   replace Tg47 := there_sees Tg47 Lg47 Sw61
   replace Lg3 := Nat.lt_of_lt_of_le Lg3 Sw61.2.2.size
   replace Lg4 := Nat.lt_of_lt_of_le Lg4 Sw61.2.2.size
   replace Lg12 := Nat.lt_of_lt_of_le Lg12 Sw61.2.2.size
   replace Lg17 := Nat.lt_of_lt_of_le Lg17 Sw61.2.2.size
   replace Lg47 := Nat.lt_of_lt_of_le Lg47 Sw61.2.2.size
   replace BE := BE.trans (Sw61.2.2.mono BE.size)
   refine Z9 (Z10 ?_)
   refine hK59 _ _ ?_
   cases hc62 : ((((fmul (fpow (leastF x) 7237005577332262213973186563042994240829374041602535252466099000494570602494) (fpow 2 14474011154664524427946373126085988481658748083205070504932198000989141204987)) % 2 : Nat) : Int) == 1)
   ·
    have q3 : ¬ root2 x % 2 = 1 := by rw [e2]; intro e; rw [e] at hc62; simp at hc62
    refine Z6 rfl ?_
    refine wp_skip ?_
    refine hK58 _ _ ?_
    refine Z4 (fun K63 hK63 => ?_)
    refine wp_region_plain 1 (by kernel_rfl) (fun Lk hLk => ?_)
    simp only [Z1,Z2]
    refine wpV_load (cs := fel (fmul (fpow (leastF x) 7237005577332262213973186563042994240829374041602535252466099000494570602494) (fpow 2 14474011154664524427946373126085988481658748083205070504932198000989141204987))) (by rfl) rfl rfl Rg17_0 Lg17 Try.underlying24 rfl info24 ?_
    simp only [Z7,Z0]
    refine Z14 (hLk.out _ ?_)
    clear hLk Lk
    simp only [Z1,Z2]
    iterate 1 refine wpN_skip (by rfl) ?_
    refine wpN_nil (fun w65 Sw65 hbs => ?_)
    clear hbs
    replace Rg3_0 := range_sees Rg3_0 Lg3 Sw65
    replace Tg3 := there_sees Tg3 Lg3 Sw65
    replace Rg4_0 := range_sees Rg4_0 Lg4 Sw65
    replace Tg4 := there_sees Tg4 Lg4 Sw65
    replace Rg12_0 := range_sees Rg12_0 Lg12 Sw65
    replace Tg12 := there_sees Tg12 Lg12 Sw65
    replace Rg17_0 := range_sees Rg17_0 Lg17 Sw65
    replace Tg17 := there_sees Tg17 Lg17 Sw65
    replace Rg47_0 := range_sees Rg47_0 Lg47 Sw65
    replace Tg47 := there_sees Tg47 Lg47 Sw65
    replace Lg3 := Nat.lt_of_lt_of_le Lg3 Sw65.2.2.size
    replace Lg4 := Nat.lt_of_lt_of_le Lg4 Sw65.2.2.size
    replace Lg12 := Nat.lt_of_lt_of_le Lg12 Sw65.2.2.size
    replace Lg17 := Nat.lt_of_lt_of_le Lg17 Sw65.2.2.size
    replace Lg47 := Nat.lt_of_lt_of_le Lg47 Sw65.2.2.size
    replace BE := BE.trans (Sw65.2.2.mono BE.size)
    refine wpL_store (g := g4) (off := 0) (n := 4) (cs := fel (fmul (fpow (leastF x) 7237005577332262213973186563042994240829374041602535252466099000494570602494) (fpow 2 14474011154664524427946373126085988481658748083205070504932198000989141204987))) (by rfl) (by rfl) (by rfl) (by rfl) (by rfl) Tg4 (by simp [flen]) info24 (fel_one _) (fun w66 Pw66 RR TT => ?_)
    replace Rg3_0 := Pw66.range Rg3_0 (.inl Ng3_g4)
    replace Tg3 := Pw66.other_there Tg3 Ng3_g4
    replace Rg12_0 := Pw66.range Rg12_0 (.inl (Ne.symm Ng4_g12))
    replace Tg12 := Pw66.other_there Tg12 (Ne.symm Ng4_g12)
    replace Rg17_0 := Pw66.range Rg17_0 (.inl (Ne.symm Ng4_g17))
    replace Tg17 := Pw66.other_there Tg17 (Ne.symm Ng4_g17)
    replace Rg47_0 := Pw66.range Rg47_0 (.inl (Ne.symm Ng4_g47))
    replace Tg47 := Pw66.other_there Tg47 (Ne.symm Ng4_g47)
    replace Rg4_0 := RR
    clear RR
    replace Tg4 := TT
    replace Lg3 := Pw66.lt Lg3
    replace Lg4 := Pw66.lt Lg4
    replace Lg12 := Pw66.lt Lg12
    replace Lg17 := Pw66.lt Lg17
    replace Lg47 := Pw66.lt Lg47
    replace BE := Pw66.below BE Gg4
    refine Z13 (v := .bool true) (by rfl) (by rfl) (by rfl) ?_
    simp only [Z7,Z0]
    refine Z9 (Z10 ?_)
    refine hK63 _ _ ?_
    refine wp_ret ?_
    repeat (first | with_reducible refine then_ret ?_ | with_reducible refine inblock_ret ?_)
    refine bodyPost_ret (v := .tuple #[fe (fmul (fpow (leastF x) 7237005577332262213973186563042994240829374041602535252466099000494570602494) (fpow 2 14474011154664524427946373126085988481658748083205070504932198000989141204987)), .bool true]) (res2 rfl (.cell (by rfl) (run_loadVar_mid _ _ _ _ (fel (fmul (fpow (leastF x) 7237005577332262213973186563042994240829374041602535252466099000494570602494) (fpow 2 14474011154664524427946373126085988481658748083205070504932198000989141204987))) _ Rg4_0 Try.underlying24 rfl info24)) (.tmp (by rfl))) rfl ?_
    exact ⟨by simp only [sqrt_even q2 q3, e2], BE⟩
   ·
    have q3 : root2 x % 2 = 1 := by rw [e2]; have := beq_iff_eq.1 hc62; omega
    refine Z5 rfl ?_
    refine wp_region_plain 3 (by kernel_rfl) (fun Lk hLk => ?_)
    simp only [Z1,Z2]
    refine Z19 (v := fe 0) (by rfl) (by rfl) (fun W hW => ?_) ?_
    ·
     rw [show fe 0 = .agg ([.int .u64 0, .int .u64 0, .int .u64 0, .int .u64 0]).toArray from (by kernel_rfl)]; unfold RunsVal; kernel_rfl
    simp only [Z7,Z0]
    refine wpV_load (cs := fel (fmul (fpow (leastF x) 7237005577332262213973186563042994240829374041602535252466099000494570602494) (fpow 2 14474011154664524427946373126085988481658748083205070504932198000989141204987))) (by rfl) rfl rfl Rg17_0 Lg17 Try.underlying24 rfl info24 ?_
    simp only [Z7,Z0]
    refine Z20 (v := fe (fsub 0 (fmul (fpow (leastF x) 7237005577332262213973186563042994240829374041602535252466099000494570602494) (fpow 2 14474011154664524427946373126085988481658748083205070504932198000989141204987)))) (args := #[fe 0, fe (fmul (fpow (leastF x) 7237005577332262213973186563042994240829374041602535252466099000494570602494) (fpow 2 14474011154664524427946373126085988481658748083205070504932198000989141204987))]) (by rfl) rfl Try.func26 (by kernel_rfl) (by kernel_rfl) rfl (fun W hW => fsub_c (by decide) (fmul_lt ..) W) ?_
    simp only [Z7,Z0]
    refine Z14 (hLk.out _ ?_)
    clear hLk Lk
    simp only [Z1,Z2]
    iterate 3 refine wpN_skip (by rfl) ?_
    refine wpN_nil (fun w68 Sw68 hbs => ?_)
    clear hbs
    replace Rg3_0 := range_sees Rg3_0 Lg3 Sw68
    replace Tg3 := there_sees Tg3 Lg3 Sw68
    replace Rg4_0 := range_sees Rg4_0 Lg4 Sw68
    replace Tg4 := there_sees Tg4 Lg4 Sw68
    replace Rg12_0 := range_sees Rg12_0 Lg12 Sw68
    replace Tg12 := there_sees Tg12 Lg12 Sw68
    replace Rg17_0 := range_sees Rg17_0 Lg17 Sw68
    replace Tg17 := there_sees Tg17 Lg17 Sw68
    replace Rg47_0 := range_sees Rg47_0 Lg47 Sw68
    replace Tg47 := there_sees Tg47 Lg47 Sw68
    replace Lg3 := Nat.lt_of_lt_of_le Lg3 Sw68.2.2.size
    replace Lg4 := Nat.lt_of_lt_of_le Lg4 Sw68.2.2.size
    replace Lg12 := Nat.lt_of_lt_of_le Lg12 Sw68.2.2.size
    replace Lg17 := Nat.lt_of_lt_of_le Lg17 Sw68.2.2.size
    replace Lg47 := Nat.lt_of_lt_of_le Lg47 Sw68.2.2.size
    replace BE := BE.trans (Sw68.2.2.mono BE.size)
    refine wpL_store (g := g17) (off := 0) (n := 4) (cs := fel (fsub 0 (fmul (fpow (leastF x) 7237005577332262213973186563042994240829374041602535252466099000494570602494) (fpow 2 14474011154664524427946373126085988481658748083205070504932198000989141204987)))) (by rfl) (by rfl) (by rfl) (by rfl) (by rfl) Tg17 (by simp [flen]) info24 (fel_one _) (fun w69 Pw69 RR TT => ?_)
    replace Rg3_0 := Pw69.range Rg3_0 (.inl Ng3_g17)
    replace Tg3 := Pw69.other_there Tg3 Ng3_g17
    replace Rg4_0 := Pw69.range Rg4_0 (.inl Ng4_g17)
    replace Tg4 := Pw69.other_there Tg4 Ng4_g17
    replace Rg12_0 := Pw69.range Rg12_0 (.inl Ng12_g17)
    replace Tg12 := Pw69.other_there Tg12 Ng12_g17
    replace Rg47_0 := Pw69.range Rg47_0 (.inl (Ne.symm Ng17_g47))
    replace Tg47 := Pw69.other_there Tg47 (Ne.symm Ng17_g47)
    replace Rg17_0 := RR
    clear RR
    replace Tg17 := TT
    replace Lg3 := Pw69.lt Lg3
    replace Lg4 := Pw69.lt Lg4
    replace Lg12 := Pw69.lt Lg12
    replace Lg17 := Pw69.lt Lg17
    replace Lg47 := Pw69.lt Lg47
    replace BE := Pw69.below BE Gg17
    refine Z9 (Z10 ?_)
    refine hK58 _ _ ?_
    refine Z4 (fun K70 hK70 => ?_)
    refine wp_region_plain 1 (by kernel_rfl) (fun Lk hLk => ?_)
    simp only [Z1,Z2]
    refine wpV_load (cs := fel (fsub 0 (fmul (fpow (leastF x) 7237005577332262213973186563042994240829374041602535252466099000494570602494) (fpow 2 14474011154664524427946373126085988481658748083205070504932198000989141204987)))) (by rfl) rfl rfl Rg17_0 Lg17 Try.underlying24 rfl info24 ?_
    simp only [Z7,Z0]
    refine Z14 (hLk.out _ ?_)
    clear hLk Lk
    simp only [Z1,Z2]
    iterate 1 refine wpN_skip (by rfl) ?_
    refine wpN_nil (fun w72 Sw72 hbs => ?_)
    clear hbs
    replace Rg3_0 := range_sees Rg3_0 Lg3 Sw72
    replace Tg3 := there_sees Tg3 Lg3 Sw72
    replace Rg4_0 := range_sees Rg4_0 Lg4 Sw72
    replace Tg4 := there_sees Tg4 Lg4 Sw72
    replace Rg12_0 := range_sees Rg12_0 Lg12 Sw72
    replace Tg12 := there_sees Tg12 Lg12 Sw72
    replace Rg17_0 := range_sees Rg17_0 Lg17 Sw72
    replace Tg17 := there_sees Tg17 Lg17 Sw72
    replace Rg47_0 := range_sees Rg47_0 Lg47 Sw72
    replace Tg47 := there_sees Tg47 Lg47 Sw72
    replace Lg3 := Nat.lt_of_lt_of_le Lg3 Sw72.2.2.size
    replace Lg4 := Nat.lt_of_lt_of_le Lg4 Sw72.2.2.size
    replace Lg12 := Nat.lt_of_lt_of_le Lg12 Sw72.2.2.size
    replace Lg17 := Nat.lt_of_lt_of_le Lg17 Sw72.2.2.size
    replace Lg47 := Nat.lt_of_lt_of_le Lg47 Sw72.2.2.size
    replace BE := BE.trans (Sw72.2.2.mono BE.size)
    refine wpL_store (g := g4) (off := 0) (n := 4) (cs := fel (fsub 0 (fmul (fpow (leastF x) 7237005577332262213973186563042994240829374041602535252466099000494570602494) (fpow 2 14474011154664524427946373126085988481658748083205070504932198000989141204987)))) (by rfl) (by rfl) (by rfl) (by rfl) (by rfl) Tg4 (by simp [flen]) info24 (fel_one _) (fun w73 Pw73 RR TT => ?_)
    replace Rg3_0 := Pw73.range Rg3_0 (.inl Ng3_g4)
    replace Tg3 := Pw73.other_there Tg3 Ng3_g4
    replace Rg12_0 := Pw73.range Rg12_0 (.inl (Ne.symm Ng4_g12))
    replace Tg12 := Pw73.other_there Tg12 (Ne.symm Ng4_g12)
    replace Rg17_0 := Pw73.range Rg17_0 (.inl (Ne.symm Ng4_g17))
    replace Tg17 := Pw73.other_there Tg17 (Ne.symm Ng4_g17)
    replace Rg47_0 := Pw73.range Rg47_0 (.inl (Ne.symm Ng4_g47))
    replace Tg47 := Pw73.other_there Tg47 (Ne.symm Ng4_g47)
    replace Rg4_0 := RR
    clear RR
    replace Tg4 := TT
    replace Lg3 := Pw73.lt Lg3
    replace Lg4 := Pw73.lt Lg4
    replace Lg12 := Pw73.lt Lg12
    replace Lg17 := Pw73.lt Lg17
    replace Lg47 := Pw73.lt Lg47
    replace BE := Pw73.below BE Gg4
    refine Z13 (v := .bool true) (by rfl) (by rfl) (by rfl) ?_
    simp only [Z7,Z0]
    refine Z9 (Z10 ?_)
    refine hK70 _ _ ?_
    refine wp_ret ?_
    repeat (first | with_reducible refine then_ret ?_ | with_reducible refine inblock_ret ?_)
    refine bodyPost_ret (v := .tuple #[fe (fsub 0 (fmul (fpow (leastF x) 7237005577332262213973186563042994240829374041602535252466099000494570602494) (fpow 2 14474011154664524427946373126085988481658748083205070504932198000989141204987))), .bool true]) (res2 rfl (.cell (by rfl) (run_loadVar_mid _ _ _ _ (fel (fsub 0 (fmul (fpow (leastF x) 7237005577332262213973186563042994240829374041602535252466099000494570602494) (fpow 2 14474011154664524427946373126085988481658748083205070504932198000989141204987)))) _ Rg4_0 Try.underlying24 rfl info24)) (.tmp (by rfl))) rfl ?_
    exact ⟨by simp only [sqrt_odd q2 q3, e2], BE⟩
  ·
   have e2 : root2 x = (fmul (fpow (leastF x) 7237005577332262213973186563042994240829374041602535252466099000494570602494) (fpow 2 14474011154664524427946373126085988481658748083205070504932198000989141204987)) := root2_f q1
   have q2 : ¬ fmul (root2 x) (root2 x) = leastF x := by rw [e2]; exact of_decide_eq_true hc57
   refine Z5 rfl ?_
   refine Z4 (fun K74 hK74 => ?_)
   refine wp_region_plain 1 (by kernel_rfl) (fun Lk hLk => ?_)
   simp only [Z1,Z2]
   refine Z19 (v := fe 0) (by rfl) (by rfl) (fun W hW => ?_) ?_
   ·
    rw [show fe 0 = .agg ([.int .u64 0, .int .u64 0, .int .u64 0, .int .u64 0]).toArray from (by kernel_rfl)]; unfold RunsVal; kernel_rfl
   simp only [Z7,Z0]
   refine Z14 (hLk.out _ ?_)
   clear hLk Lk
   simp only [Z1,Z2]
   iterate 1 refine wpN_skip (by rfl) ?_
   refine wpN_nil (fun w76 Sw76 hbs => ?_)
   clear hbs
   replace Rg3_0 := range_sees Rg3_0 Lg3 Sw76
   replace Tg3 := there_sees Tg3 Lg3 Sw76
   replace Rg4_0 := range_sees Rg4_0 Lg4 Sw76
   replace Tg4 := there_sees Tg4 Lg4 Sw76
   replace Rg12_0 := range_sees Rg12_0 Lg12 Sw76
   replace Tg12 := there_sees Tg12 Lg12 Sw76
   replace Rg17_0 := range_sees Rg17_0 Lg17 Sw76
   replace Tg17 := there_sees Tg17 Lg17 Sw76
   replace Rg47_0 := range_sees Rg47_0 Lg47 Sw76
   replace Tg47 := there_sees Tg47 Lg47 Sw76
   replace Lg3 := Nat.lt_of_lt_of_le Lg3 Sw76.2.2.size
   replace Lg4 := Nat.lt_of_lt_of_le Lg4 Sw76.2.2.size
   replace Lg12 := Nat.lt_of_lt_of_le Lg12 Sw76.2.2.size
   replace Lg17 := Nat.lt_of_lt_of_le Lg17 Sw76.2.2.size
   replace Lg47 := Nat.lt_of_lt_of_le Lg47 Sw76.2.2.size
   replace BE := BE.trans (Sw76.2.2.mono BE.size)
   refine wpL_store (g := g4) (off := 0) (n := 4) (cs := fel 0) (by rfl) (by rfl) (by rfl) (by rfl) (by rfl) Tg4 (by simp [flen]) info24 (fel_one _) (fun w77 Pw77 RR TT => ?_)
   replace Rg3_0 := Pw77.range Rg3_0 (.inl Ng3_g4)
   replace Tg3 := Pw77.other_there Tg3 Ng3_g4
   replace Rg12_0 := Pw77.range Rg12_0 (.inl (Ne.symm Ng4_g12))
   replace Tg12 := Pw77.other_there Tg12 (Ne.symm Ng4_g12)
   replace Rg17_0 := Pw77.range Rg17_0 (.inl (Ne.symm Ng4_g17))
   replace Tg17 := Pw77.other_there Tg17 (Ne.symm Ng4_g17)
   replace Rg47_0 := Pw77.range Rg47_0 (.inl (Ne.symm Ng4_g47))
   replace Tg47 := Pw77.other_there Tg47 (Ne.symm Ng4_g47)
   replace Rg4_0 := RR
   clear RR
   replace Tg4 := TT
   replace Lg3 := Pw77.lt Lg3
   replace Lg4 := Pw77.lt Lg4
   replace Lg12 := Pw77.lt Lg12
   replace Lg17 := Pw77.lt Lg17
   replace Lg47 := Pw77.lt Lg47
   replace BE := Pw77.below BE Gg4
   refine Z13 (v := .bool false) (by rfl) (by rfl) (by rfl) ?_
   simp only [Z7,Z0]
   refine Z9 (Z10 ?_)
   refine hK74 _ _ ?_
   refine wp_ret ?_
   repeat (first | with_reducible refine then_ret ?_ | with_reducible refine inblock_ret ?_)
   refine bodyPost_ret (v := .tuple #[fe 0, .bool false]) (res2 rfl (.cell (by rfl) (run_loadVar_mid _ _ _ _ (fel 0) _ Rg4_0 Try.underlying24 rfl info24)) (.tmp (by rfl))) rfl ?_
   exact ⟨by simp only [sqrt_no q2], BE⟩
end Go.Proofs.Ya

