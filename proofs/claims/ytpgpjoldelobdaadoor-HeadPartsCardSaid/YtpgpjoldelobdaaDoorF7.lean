import Derived.Test.YtpgpjoldelobdaaDoorF4
import Derived.Test.YtpgpjoldelobdaaDoorNumE
import Derived.Test.YtpgpjoldelobdaaDoorSteps4
import Derived.Test.YtpgpjoldelobdaaDoorShq
set_option linter.unusedSimpArgs false
set_option linter.unusedVariables false
namespace Go.Proofs.Ya
open Go Go.RowKit Go.Shelf Go.Proofs.Num
open Tryd renaming func96 → G996, underlying40 → U940, underlying86 → U986
open Go.Proofs.Num  renaming putT → Z0
open Nat renaming lt_of_lt_of_le → Z1, zero_add → Z2, le_trans → Z3, ne_of_lt → Z4
open List renaming set → Z6, take → Z7, drop → Z8
open Go renaming undef → Z9, wp_seq_k → Z10, wp_cond_true → Z11, wp_cond_false → Z12
open Go.Proofs.Num renaming wpL_nil → Z14, no_panic → Z15, wpV_nil → Z19, wpV_callf → Z25, range_sees → Z26, there_sees → Z27, wpN_skip → Z28, wpN_nil → Z29, wp_region_plain → Z30, wpV_extract → Z32, wpV_load1 → Z34
set_option maxHeartbeats 1000000 in
theorem fmul_c {x : Nat} (hx : x < 2 ^ 256) {y : Nat} (hy : y < 2 ^ 256) (w : World) :
  Calls Tryd.prog 96 #[fe x, fe y] w fun e w' => e = .returned (fe (fmul x y)) ∧ Below w.heap.size w w' := by
 go_enter G996, Tryd.ntmps96
 have BE := Below.refl w.heap.size w
 refine Z10 (fun K1 hK1 => ?_)
 refine Z30 3 (by kernel_rfl) (fun Lk hLk => ?_)
 simp only [Z7, Z8]
 refine vAl ?_
 refine vAl ?_
 refine vAl ?_
 refine Z19 (hLk.out _ ?_)
 simp only [Z7, Z8]
 refine wpN_new (t := 86) (cs := (fel x).toArray) (by rfl) (fun W => ?_) (fun g3 Hg3 ng3 => ?_)
 ·
  (first | rfl | go_simp)
 refine wpN_new (t := 86) (cs := (fel y).toArray) (by rfl) (fun W => ?_) (fun g4 Hg4 ng4 => ?_)
 ·
  (first | rfl | go_simp)
 refine wpN_new (t := 86) (cs := ([.int .u64 0, .int .u64 0, .int .u64 0, .int .u64 0]).toArray) (by rfl) (fun W => ?_) (fun g5 Hg5 ng5 => ?_)
 ·
  go_simp
 simp only [Z0, Z6]
 refine Z29 (fun w6 Sw6 hbs => ?_)
 have Bg3 : Blk w6 g3 86 (fel x).toArray := hbs _ (List.mem_cons_of_mem _ (List.mem_cons_of_mem _ (List.mem_cons_self ..)))
 have Bg4 : Blk w6 g4 86 (fel y).toArray := hbs _ (List.mem_cons_of_mem _ (List.mem_cons_self ..))
 have Bg5 : Blk w6 g5 86 ([.int .u64 0, .int .u64 0, .int .u64 0, .int .u64 0]).toArray := hbs _ (List.mem_cons_self ..)
 clear hbs
 have Gg3 : w.heap.size ≤ g3 := Z3 BE.size Hg3
 have Ng3_g4 : g3 ≠ g4 := ng4 (g3, _, _) (List.mem_cons_self ..)
 have Gg4 : w.heap.size ≤ g4 := Z3 BE.size Hg4
 have Ng3_g5 : g3 ≠ g5 := ng5 (g3, _, _) (List.mem_cons_of_mem _ (List.mem_cons_self ..))
 have Ng4_g5 : g4 ≠ g5 := ng5 (g4, _, _) (List.mem_cons_self ..)
 have Gg5 : w.heap.size ≤ g5 := Z3 BE.size Hg5
 replace BE := BE.trans (Sw6.2.2.mono BE.size)
 have Tg3 := blk_there Bg3 (n := 4) (by simp [flen])
 have Rg3_0 := blk_range Bg3 (l := fel x) rfl
 have Lg3 := Bg3.lt
 have Tg4 := blk_there Bg4 (n := 4) (by simp [flen])
 have Rg4_0 := blk_range Bg4 (l := fel y) rfl
 have Lg4 := Bg4.lt
 have Tg5 := blk_there Bg5 (n := 4) (by simp [flen])
 have Rg5_0 := blk_range Bg5 (l := [.int .u64 0, .int .u64 0, .int .u64 0, .int .u64 0]) rfl
 have Lg5 := Bg5.lt
 clear ng3 ng4 ng5 Bg3 Bg4 Bg5
 refine lNp (hK1 _ _ ?_)
 refine Z10 (fun K7 hK7 => ?_)
 refine Z30 8 (by kernel_rfl) (fun Lk hLk => ?_)
 simp only [Z7, Z8]
 refine vLd (cs := fel x) Rg3_0 Lg3 U986 info86 ?_
 simp only [Z0, Z6]
 refine vLd (cs := fel y) Rg4_0 Lg4 U986 info86 ?_
 simp only [Z0, Z6]
 refine Z25 (v := .tuple #[fe (mulLo x y), fe (mulHi x y)]) (args := #[fe x, fe y]) (by rfl) rfl Tryd.func133 (by kernel_rfl) (by kernel_rfl) rfl (fun W hW => wide_c hx hy W) ?_
 simp only [Z0, Z6]
 refine vMv (v := .tuple #[fe (mulLo x y), fe (mulHi x y)]) ?_
 simp only [Z0, Z6]
 refine Z32 (v := fe (mulLo x y)) (by rfl) rfl rfl rfl ?_
 simp only [Z0, Z6]
 refine Z32 (v := fe (mulHi x y)) (by rfl) rfl rfl rfl ?_
 simp only [Z0, Z6]
 refine vAl ?_
 refine vAl ?_
 refine Z19 (hLk.out _ ?_)
 simp only [Z7, Z8]
 iterate 6 refine Z28 (by rfl) ?_
 refine wpN_new (t := 86) (cs := ([.int .u64 0, .int .u64 0, .int .u64 0, .int .u64 0]).toArray) (by rfl) (fun W => ?_) (fun g9 Hg9 ng9 => ?_)
 ·
  go_simp
 refine wpN_new (t := 86) (cs := ([.int .u64 0, .int .u64 0, .int .u64 0, .int .u64 0]).toArray) (by rfl) (fun W => ?_) (fun g10 Hg10 ng10 => ?_)
 ·
  go_simp
 simp only [Z0, Z6]
 refine Z29 (fun w11 Sw11 hbs => ?_)
 have Bg9 : Blk w11 g9 86 ([.int .u64 0, .int .u64 0, .int .u64 0, .int .u64 0]).toArray := hbs _ (List.mem_cons_of_mem _ (List.mem_cons_self ..))
 have Bg10 : Blk w11 g10 86 ([.int .u64 0, .int .u64 0, .int .u64 0, .int .u64 0]).toArray := hbs _ (List.mem_cons_self ..)
 clear hbs
 have Ng3_g9 : g3 ≠ g9 := Z4 (Z1 Lg3 Hg9)
 have Ng4_g9 : g4 ≠ g9 := Z4 (Z1 Lg4 Hg9)
 have Ng5_g9 : g5 ≠ g9 := Z4 (Z1 Lg5 Hg9)
 have Gg9 : w.heap.size ≤ g9 := Z3 BE.size Hg9
 have Ng3_g10 : g3 ≠ g10 := Z4 (Z1 Lg3 Hg10)
 have Ng4_g10 : g4 ≠ g10 := Z4 (Z1 Lg4 Hg10)
 have Ng5_g10 : g5 ≠ g10 := Z4 (Z1 Lg5 Hg10)
 have Ng9_g10 : g9 ≠ g10 := ng10 (g9, _, _) (List.mem_cons_self ..)
 have Gg10 : w.heap.size ≤ g10 := Z3 BE.size Hg10
 replace Rg3_0 := Z26 Rg3_0 Lg3 Sw11
 replace Tg3 := Z27 Tg3 Lg3 Sw11
 replace Rg4_0 := Z26 Rg4_0 Lg4 Sw11
 replace Tg4 := Z27 Tg4 Lg4 Sw11
 replace Rg5_0 := Z26 Rg5_0 Lg5 Sw11
 replace Tg5 := Z27 Tg5 Lg5 Sw11
 replace Lg3 := Z1 Lg3 Sw11.2.2.size
 replace Lg4 := Z1 Lg4 Sw11.2.2.size
 replace Lg5 := Z1 Lg5 Sw11.2.2.size
 replace BE := BE.trans (Sw11.2.2.mono BE.size)
 have Tg9 := blk_there Bg9 (n := 4) (by simp [flen])
 have Rg9_0 := blk_range Bg9 (l := [.int .u64 0, .int .u64 0, .int .u64 0, .int .u64 0]) rfl
 have Lg9 := Bg9.lt
 have Tg10 := blk_there Bg10 (n := 4) (by simp [flen])
 have Rg10_0 := blk_range Bg10 (l := [.int .u64 0, .int .u64 0, .int .u64 0, .int .u64 0]) rfl
 have Lg10 := Bg10.lt
 clear ng9 ng10 Bg9 Bg10
 refine lSt (g := g9) (off := 0) (n := 4) (cs := fel (mulLo x y)) Tg9 (by simp [flen]) info86 (fel_one _) (fun w12 Pw12 RR TT => ?_)
 replace Rg3_0 := Pw12.range Rg3_0 (.inl Ng3_g9)
 replace Tg3 := Pw12.other_there Tg3 Ng3_g9
 replace Rg4_0 := Pw12.range Rg4_0 (.inl Ng4_g9)
 replace Tg4 := Pw12.other_there Tg4 Ng4_g9
 replace Rg5_0 := Pw12.range Rg5_0 (.inl Ng5_g9)
 replace Tg5 := Pw12.other_there Tg5 Ng5_g9
 replace Rg10_0 := Pw12.range Rg10_0 (.inl (Ne.symm Ng9_g10))
 replace Tg10 := Pw12.other_there Tg10 (Ne.symm Ng9_g10)
 replace Rg9_0 := RR
 clear RR
 replace Tg9 := TT
 replace Lg3 := Pw12.lt Lg3
 replace Lg4 := Pw12.lt Lg4
 replace Lg5 := Pw12.lt Lg5
 replace Lg9 := Pw12.lt Lg9
 replace Lg10 := Pw12.lt Lg10
 replace BE := Pw12.below BE Gg9
 refine lSt (g := g10) (off := 0) (n := 4) (cs := fel (mulHi x y)) Tg10 (by simp [flen]) info86 (fel_one _) (fun w13 Pw13 RR TT => ?_)
 replace Rg3_0 := Pw13.range Rg3_0 (.inl Ng3_g10)
 replace Tg3 := Pw13.other_there Tg3 Ng3_g10
 replace Rg4_0 := Pw13.range Rg4_0 (.inl Ng4_g10)
 replace Tg4 := Pw13.other_there Tg4 Ng4_g10
 replace Rg5_0 := Pw13.range Rg5_0 (.inl Ng5_g10)
 replace Tg5 := Pw13.other_there Tg5 Ng5_g10
 replace Rg9_0 := Pw13.range Rg9_0 (.inl Ng9_g10)
 replace Tg9 := Pw13.other_there Tg9 Ng9_g10
 replace Rg10_0 := RR
 clear RR
 replace Tg10 := TT
 replace Lg3 := Pw13.lt Lg3
 replace Lg4 := Pw13.lt Lg4
 replace Lg5 := Pw13.lt Lg5
 replace Lg9 := Pw13.lt Lg9
 replace Lg10 := Pw13.lt Lg10
 replace BE := Pw13.below BE Gg10
 refine lNp (hK7 _ _ ?_)
 refine Z10 (fun K14 hK14 => ?_)
 refine Z30 0 (by kernel_rfl) (fun Lk hLk => ?_)
 simp only [Z7, Z8]
 refine Z19 (hLk.out _ ?_)
 simp only [Z7, Z8]
 refine Z29 (fun w16 Sw16 hbs => ?_)
 clear hbs
 replace Rg3_0 := Z26 Rg3_0 Lg3 Sw16
 replace Tg3 := Z27 Tg3 Lg3 Sw16
 replace Rg4_0 := Z26 Rg4_0 Lg4 Sw16
 replace Tg4 := Z27 Tg4 Lg4 Sw16
 replace Rg5_0 := Z26 Rg5_0 Lg5 Sw16
 replace Tg5 := Z27 Tg5 Lg5 Sw16
 replace Rg9_0 := Z26 Rg9_0 Lg9 Sw16
 replace Tg9 := Z27 Tg9 Lg9 Sw16
 replace Rg10_0 := Z26 Rg10_0 Lg10 Sw16
 replace Tg10 := Z27 Tg10 Lg10 Sw16
 replace Lg3 := Z1 Lg3 Sw16.2.2.size
 replace Lg4 := Z1 Lg4 Sw16.2.2.size
 replace Lg5 := Z1 Lg5 Sw16.2.2.size
 replace Lg9 := Z1 Lg9 Sw16.2.2.size
 replace Lg10 := Z1 Lg10 Sw16.2.2.size
 replace BE := BE.trans (Sw16.2.2.mono BE.size)
 refine lAs (v := .int .u64 0) ?_
 simp only [Z0, Z6]
 refine lNp (hK14 _ _ ?_)
 refine Z10 (fun K17 hK17 => ?_)
 refine Z10 (fun K18 hK18 => ?_)
 refine Z30 2 (by kernel_rfl) (fun Lk hLk => ?_)
 simp only [Z7, Z8]
 refine vLd (cs := fel (mulHi x y)) Rg10_0 Lg10 U986 info86 ?_
 simp only [Z0, Z6]
 refine vMv (v := .int .i64 0) ?_
 simp only [Z0, Z6]
 refine Z19 (hLk.out _ ?_)
 simp only [Z7, Z8]
 iterate 2 refine Z28 (by rfl) ?_
 refine Z29 (fun w20 Sw20 hbs => ?_)
 clear hbs
 replace Rg3_0 := Z26 Rg3_0 Lg3 Sw20
 replace Tg3 := Z27 Tg3 Lg3 Sw20
 replace Rg4_0 := Z26 Rg4_0 Lg4 Sw20
 replace Tg4 := Z27 Tg4 Lg4 Sw20
 replace Rg5_0 := Z26 Rg5_0 Lg5 Sw20
 replace Tg5 := Z27 Tg5 Lg5 Sw20
 replace Rg9_0 := Z26 Rg9_0 Lg9 Sw20
 replace Tg9 := Z27 Tg9 Lg9 Sw20
 replace Rg10_0 := Z26 Rg10_0 Lg10 Sw20
 replace Tg10 := Z27 Tg10 Lg10 Sw20
 replace Lg3 := Z1 Lg3 Sw20.2.2.size
 replace Lg4 := Z1 Lg4 Sw20.2.2.size
 replace Lg5 := Z1 Lg5 Sw20.2.2.size
 replace Lg9 := Z1 Lg9 Sw20.2.2.size
 replace Lg10 := Z1 Lg10 Sw20.2.2.size
 replace BE := BE.trans (Sw20.2.2.mono BE.size)
 refine lNp (hK18 _ _ ?_)
 refine wp_block ?_
 refine wp_loop_ghost (fun n9 a9 W9 => ∃ (i : Nat) (M : Nat) (c : Nat) (u21 : Nat → Value), n9 = 4 - i ∧ a9 = { tmps := #[fe x, fe y, .pointer (some ⟨g3, 0, none⟩), .pointer (some ⟨g4, 0, none⟩), .pointer (some ⟨g5, 0, none⟩), .pointer (some ⟨g9, 0, none⟩), .pointer (some ⟨g10, 0, none⟩), .int .u64 c, u21 8, u21 9, u21 10, u21 11, u21 12, u21 13, u21 14, u21 15, .tuple #[fe (mulLo x y), fe (mulHi x y)], fe x, fe y, .tuple #[fe (mulLo x y), fe (mulHi x y)], fe (mulLo x y), fe (mulHi x y), fe (mulHi x y), .int .i64 i, u21 24, u21 25, u21 26, u21 27, u21 28, u21 29, u21 30, u21 31, u21 32, u21 33, u21 34, u21 35, u21 36, u21 37, u21 38, u21 39, u21 40, u21 41, u21 42, u21 43, u21 44, u21 45, u21 46, u21 47, u21 48, u21 49, u21 50, u21 51, u21 52, u21 53, u21 54, Z9, Z9, Z9], defers := [] } ∧ Below w.heap.size w W9 ∧ World.rangeAt W9 g3 0 (fel x) ∧ World.there W9 g3 0 4 ∧ g3 < W9.heap.size ∧ World.rangeAt W9 g4 0 (fel y) ∧ World.there W9 g4 0 4 ∧ g4 < W9.heap.size ∧ World.rangeAt W9 g5 0 ([.int .u64 0, .int .u64 0, .int .u64 0, .int .u64 0]) ∧ World.there W9 g5 0 4 ∧ g5 < W9.heap.size ∧ World.rangeAt W9 g9 0 (fel M) ∧ World.there W9 g9 0 4 ∧ g9 < W9.heap.size ∧ World.rangeAt W9 g10 0 (fel (mulHi x y)) ∧ World.there W9 g10 0 4 ∧ g10 < W9.heap.size ∧ (i ≤ 4) ∧ (BackInv (mulLo x y) (mulHi x y) i M c)) (4 - (0)) ?_ (fun n9 a9 W9 hI => ?_)
 ·
  exact ⟨0, (mulLo x y), 0, (fun q9 => (#[Z9, Z9, Z9, Z9, Z9, Z9, Z9, Z9, Z9, Z9, Z9, Z9, Z9, Z9, Z9, Z9, Z9, Z9, Z9, Z9, Z9, Z9, Z9, Z9, Z9, Z9, Z9, Z9, Z9, Z9, Z9, Z9, Z9, Z9, Z9, Z9, Z9, Z9, Z9, Z9, Z9, Z9, Z9, Z9, Z9, Z9, Z9, Z9, Z9, Z9, Z9, Z9, Z9, Z9, Z9] : Array Value).getD q9 Z9), rfl, rfl, BE, Rg3_0, Tg3, Lg3, Rg4_0, Tg4, Lg4, Rg5_0, Tg5, Lg5, Rg9_0, Tg9, Lg9, Rg10_0, Tg10, Lg10, (by omega), (back_start (mulLo_lt ..))⟩
 clear BE Rg3_0 Rg4_0 Rg5_0 Rg9_0 Rg10_0 Tg3 Tg4 Tg5 Tg9 Tg10 Lg3 Lg4 Lg5 Lg9 Lg10
 obtain ⟨i, M, c, u21, rfl, rfl, BE, Rg3_0, Tg3, Lg3, Rg4_0, Tg4, Lg4, Rg5_0, Tg5, Lg5, Rg9_0, Tg9, Lg9, Rg10_0, Tg10, Lg10, hi4, HW⟩ := hI
 obtain ⟨w22, rfl⟩ : ∃ W8, W8 = W9 := ⟨_, rfl⟩
 have hcw := HW.word
 refine Z10 (fun K23 hK23 => ?_)
 refine Z30 1 (by kernel_rfl) (fun Lk hLk => ?_)
 simp only [Z7, Z8]
 refine vBn (v := .bool (decide (i < 4))) (hr := fun W => run_lssN i 4 _ _ W) ?_
 simp only [Z0, Z6]
 refine Z19 (hLk.out _ ?_)
 simp only [Z7, Z8]
 iterate 1 refine Z28 (by rfl) ?_
 refine Z29 (fun w25 Sw25 hbs => ?_)
 clear hbs
 replace Rg3_0 := Z26 Rg3_0 Lg3 Sw25
 replace Tg3 := Z27 Tg3 Lg3 Sw25
 replace Rg4_0 := Z26 Rg4_0 Lg4 Sw25
 replace Tg4 := Z27 Tg4 Lg4 Sw25
 replace Rg5_0 := Z26 Rg5_0 Lg5 Sw25
 replace Tg5 := Z27 Tg5 Lg5 Sw25
 replace Rg9_0 := Z26 Rg9_0 Lg9 Sw25
 replace Tg9 := Z27 Tg9 Lg9 Sw25
 replace Rg10_0 := Z26 Rg10_0 Lg10 Sw25
 replace Tg10 := Z27 Tg10 Lg10 Sw25
 replace Lg3 := Z1 Lg3 Sw25.2.2.size
 replace Lg4 := Z1 Lg4 Sw25.2.2.size
 replace Lg5 := Z1 Lg5 Sw25.2.2.size
 replace Lg9 := Z1 Lg9 Sw25.2.2.size
 replace Lg10 := Z1 Lg10 Sw25.2.2.size
 replace BE := BE.trans (Sw25.2.2.mono BE.size)
 refine lNp (hK23 _ _ ?_)
 refine Z10 (fun K26 hK26 => ?_)
 cases hc27 : (decide (i < 4))
 ·
  have ei : i = 4 := by have := of_decide_eq_false hc27; omega
  subst ei
  refine Z12 rfl ?_
  refine wp_exit ?_
  refine hK17 _ _ ?_
  refine Z10 (fun K28 hK28 => ?_)
  refine Z30 3 (by kernel_rfl) (fun Lk hLk => ?_)
  simp only [Z7, Z8]
  refine vLd (cs := fel M) Rg9_0 Lg9 U986 info86 ?_
  simp only [Z0, Z6]
  refine vMv (v := .int .u64 c) ?_
  simp only [Z0, Z6]
  refine Z25 (v := fe (foldF M c)) (args := #[fe M, .int .u64 c]) (by rfl) rfl Tryd.func134 (by kernel_rfl) (by kernel_rfl) rfl (fun W hW => folds_c HW.top HW.word W) ?_
  simp only [Z0, Z6]
  refine Z19 (hLk.out _ ?_)
  simp only [Z7, Z8]
  iterate 3 refine Z28 (by rfl) ?_
  refine Z29 (fun w30 Sw30 hbs => ?_)
  clear hbs
  replace Rg3_0 := Z26 Rg3_0 Lg3 Sw30
  replace Tg3 := Z27 Tg3 Lg3 Sw30
  replace Rg4_0 := Z26 Rg4_0 Lg4 Sw30
  replace Tg4 := Z27 Tg4 Lg4 Sw30
  replace Rg5_0 := Z26 Rg5_0 Lg5 Sw30
  replace Tg5 := Z27 Tg5 Lg5 Sw30
  replace Rg9_0 := Z26 Rg9_0 Lg9 Sw30
  replace Tg9 := Z27 Tg9 Lg9 Sw30
  replace Rg10_0 := Z26 Rg10_0 Lg10 Sw30
  replace Tg10 := Z27 Tg10 Lg10 Sw30
  replace Lg3 := Z1 Lg3 Sw30.2.2.size
  replace Lg4 := Z1 Lg4 Sw30.2.2.size
  replace Lg5 := Z1 Lg5 Sw30.2.2.size
  replace Lg9 := Z1 Lg9 Sw30.2.2.size
  replace Lg10 := Z1 Lg10 Sw30.2.2.size
  replace BE := BE.trans (Sw30.2.2.mono BE.size)
  refine lSt (g := g5) (off := 0) (n := 4) (cs := fel (foldF M c)) Tg5 (by simp [flen]) info86 (fel_one _) (fun w31 Pw31 RR TT => ?_)
  replace Rg3_0 := Pw31.range Rg3_0 (.inl Ng3_g5)
  replace Tg3 := Pw31.other_there Tg3 Ng3_g5
  replace Rg4_0 := Pw31.range Rg4_0 (.inl Ng4_g5)
  replace Tg4 := Pw31.other_there Tg4 Ng4_g5
  replace Rg9_0 := Pw31.range Rg9_0 (.inl (Ne.symm Ng5_g9))
  replace Tg9 := Pw31.other_there Tg9 (Ne.symm Ng5_g9)
  replace Rg10_0 := Pw31.range Rg10_0 (.inl (Ne.symm Ng5_g10))
  replace Tg10 := Pw31.other_there Tg10 (Ne.symm Ng5_g10)
  replace Rg5_0 := RR
  clear RR
  replace Tg5 := TT
  replace Lg3 := Pw31.lt Lg3
  replace Lg4 := Pw31.lt Lg4
  replace Lg5 := Pw31.lt Lg5
  replace Lg9 := Pw31.lt Lg9
  replace Lg10 := Pw31.lt Lg10
  replace BE := Pw31.below BE Gg5
  refine lNp (hK28 _ _ ?_)
  refine wp_ret ?_
  repeat (first | with_reducible refine then_ret ?_ | with_reducible refine inblock_ret ?_)
  refine bodyPost_ret (v := fe (foldF M c)) (res1 rfl (.cell (by rfl) (run_loadVar_mid _ _ _ _ (fel (foldF M c)) _ Rg5_0 U986 rfl info86))) rfl ?_
  exact ⟨by rw [back_end hx hy HW], BE⟩
 have hi : i < 4 := of_decide_eq_true hc27
 refine Z11 rfl ?_
 refine wp_skip ?_
 refine hK26 _ _ ?_
 refine Z10 (fun K32 hK32 => ?_)
 refine wp_block ?_
 refine Z10 (fun K33 hK33 => ?_)
 refine Z30 2 (by kernel_rfl) (fun Lk hLk => ?_)
 simp only [Z7, Z8]
 refine vMv (v := .int .i64 i) ?_
 simp only [Z0, Z6]
 refine wpV_index (n := i) (v := .int .u64 (limbN (mulHi x y) i : Nat)) (by rfl) rfl rfl rfl U986 info40 U940 rfl (by omega) (fel_get (j := i) (mulHi x y) (by omega)) ?_
 simp only [Z0, Z6]
 refine Z19 (hLk.out _ ?_)
 simp only [Z7, Z8]
 iterate 2 refine Z28 (by rfl) ?_
 refine Z29 (fun w35 Sw35 hbs => ?_)
 clear hbs
 replace Rg3_0 := Z26 Rg3_0 Lg3 Sw35
 replace Tg3 := Z27 Tg3 Lg3 Sw35
 replace Rg4_0 := Z26 Rg4_0 Lg4 Sw35
 replace Tg4 := Z27 Tg4 Lg4 Sw35
 replace Rg5_0 := Z26 Rg5_0 Lg5 Sw35
 replace Tg5 := Z27 Tg5 Lg5 Sw35
 replace Rg9_0 := Z26 Rg9_0 Lg9 Sw35
 replace Tg9 := Z27 Tg9 Lg9 Sw35
 replace Rg10_0 := Z26 Rg10_0 Lg10 Sw35
 replace Tg10 := Z27 Tg10 Lg10 Sw35
 replace Lg3 := Z1 Lg3 Sw35.2.2.size
 replace Lg4 := Z1 Lg4 Sw35.2.2.size
 replace Lg5 := Z1 Lg5 Sw35.2.2.size
 replace Lg9 := Z1 Lg9 Sw35.2.2.size
 replace Lg10 := Z1 Lg10 Sw35.2.2.size
 replace BE := BE.trans (Sw35.2.2.mono BE.size)
 refine lAs (v := .int .i64 i) ?_
 refine lAs (v := .int .u64 (limbN (mulHi x y) i : Nat)) ?_
 simp only [Z0, Z6]
 refine lNp (hK33 _ _ ?_)
 refine Z10 (fun K36 hK36 => ?_)
 refine Z30 5 (by kernel_rfl) (fun Lk hLk => ?_)
 simp only [Z7, Z8]
 refine vMv (v := .int .u64 (limbN (mulHi x y) i : Nat)) ?_
 simp only [Z0, Z6]
 refine Z25 (v := .tuple #[.int .u64 ((limbN (mulHi x y) i) * 38 / 18446744073709551616 : Nat), .int .u64 ((limbN (mulHi x y) i) * 38 % 18446744073709551616 : Nat)]) (args := #[.int .u64 (limbN (mulHi x y) i : Nat), .int .u64 38]) (by rfl) rfl Tryd.func87 (by kernel_rfl) (by kernel_rfl) rfl (fun W hW => mul64_c (limbN_lt ..) (by decide) W) ?_
 simp only [Z0, Z6]
 refine vMv (v := .tuple #[.int .u64 ((limbN (mulHi x y) i) * 38 / 18446744073709551616 : Nat), .int .u64 ((limbN (mulHi x y) i) * 38 % 18446744073709551616 : Nat)]) ?_
 simp only [Z0, Z6]
 refine Z32 (v := .int .u64 ((limbN (mulHi x y) i) * 38 / 18446744073709551616 : Nat)) (by rfl) rfl rfl rfl ?_
 simp only [Z0, Z6]
 refine Z32 (v := .int .u64 ((limbN (mulHi x y) i) * 38 % 18446744073709551616 : Nat)) (by rfl) rfl rfl rfl ?_
 simp only [Z0, Z6]
 refine Z19 (hLk.out _ ?_)
 simp only [Z7, Z8]
 iterate 5 refine Z28 (by rfl) ?_
 refine Z29 (fun w38 Sw38 hbs => ?_)
 clear hbs
 replace Rg3_0 := Z26 Rg3_0 Lg3 Sw38
 replace Tg3 := Z27 Tg3 Lg3 Sw38
 replace Rg4_0 := Z26 Rg4_0 Lg4 Sw38
 replace Tg4 := Z27 Tg4 Lg4 Sw38
 replace Rg5_0 := Z26 Rg5_0 Lg5 Sw38
 replace Tg5 := Z27 Tg5 Lg5 Sw38
 replace Rg9_0 := Z26 Rg9_0 Lg9 Sw38
 replace Tg9 := Z27 Tg9 Lg9 Sw38
 replace Rg10_0 := Z26 Rg10_0 Lg10 Sw38
 replace Tg10 := Z27 Tg10 Lg10 Sw38
 replace Lg3 := Z1 Lg3 Sw38.2.2.size
 replace Lg4 := Z1 Lg4 Sw38.2.2.size
 replace Lg5 := Z1 Lg5 Sw38.2.2.size
 replace Lg9 := Z1 Lg9 Sw38.2.2.size
 replace Lg10 := Z1 Lg10 Sw38.2.2.size
 replace BE := BE.trans (Sw38.2.2.mono BE.size)
 refine lAs (v := .int .u64 ((limbN (mulHi x y) i) * 38 / 18446744073709551616 : Nat)) ?_
 refine lAs (v := .int .u64 ((limbN (mulHi x y) i) * 38 % 18446744073709551616 : Nat)) ?_
 simp only [Z0, Z6]
 refine lNp (hK36 _ _ ?_)
 refine Z10 (fun K39 hK39 => ?_)
 refine Z30 8 (by kernel_rfl) (fun Lk hLk => ?_)
 simp only [Z7, Z8]
 refine vMv (v := .int .i64 i) ?_
 simp only [Z0, Z6]
 refine wpV_idx (n := i) (by rfl) rfl rfl rfl U986 info40 (by omega) ?_
 simp only [Z2]
 simp only [Z0, Z6]
 refine Z34 (v := .int .u64 (limbN M i : Nat)) (by rfl) rfl rfl (by have := Rg9_0 _ _ (fel_get (j := i) M (by omega)); rwa [Z2] at this) Lg9 U940 rfl ?_
 simp only [Z0, Z6]
 refine vMv (v := .int .u64 ((limbN (mulHi x y) i) * 38 % 18446744073709551616 : Nat)) ?_
 simp only [Z0, Z6]
 refine wpV_ext (v := .tuple #[.int .u64 (((limbN M i + (limbN (mulHi x y) i) * 38 % 18446744073709551616) % 18446744073709551616 : Nat) : Int), .int .u64 (((limbN M i + (limbN (mulHi x y) i) * 38 % 18446744073709551616) / 18446744073709551616 : Nat) : Int)]) (f := 85) (args := #[.int .u64 (limbN M i : Nat), .int .u64 ((limbN (mulHi x y) i) * 38 % 18446744073709551616 : Nat), .int .u64 0]) (by rfl) rfl rfl (addN (x := limbN M i) (y := (limbN (mulHi x y) i) * 38 % 18446744073709551616) (c := 0) (limbN_lt ..) (Nat.mod_lt _ (by decide)) (by omega)) ?_
 simp only [Z0, Z6]
 refine vMv (v := .tuple #[.int .u64 (((limbN M i + (limbN (mulHi x y) i) * 38 % 18446744073709551616) % 18446744073709551616 : Nat) : Int), .int .u64 (((limbN M i + (limbN (mulHi x y) i) * 38 % 18446744073709551616) / 18446744073709551616 : Nat) : Int)]) ?_
 simp only [Z0, Z6]
 refine Z32 (v := .int .u64 (((limbN M i + (limbN (mulHi x y) i) * 38 % 18446744073709551616) % 18446744073709551616 : Nat) : Int)) (by rfl) rfl rfl rfl ?_
 simp only [Z0, Z6]
 refine Z32 (v := .int .u64 (((limbN M i + (limbN (mulHi x y) i) * 38 % 18446744073709551616) / 18446744073709551616 : Nat) : Int)) (by rfl) rfl rfl rfl ?_
 simp only [Z0, Z6]
 refine Z19 (hLk.out _ ?_)
 simp only [Z7, Z8]
 iterate 8 refine Z28 (by rfl) ?_
 refine Z29 (fun w41 Sw41 hbs => ?_)
 clear hbs
 replace Rg3_0 := Z26 Rg3_0 Lg3 Sw41
 replace Tg3 := Z27 Tg3 Lg3 Sw41
 replace Rg4_0 := Z26 Rg4_0 Lg4 Sw41
 replace Tg4 := Z27 Tg4 Lg4 Sw41
 replace Rg5_0 := Z26 Rg5_0 Lg5 Sw41
 replace Tg5 := Z27 Tg5 Lg5 Sw41
 replace Rg9_0 := Z26 Rg9_0 Lg9 Sw41
 replace Tg9 := Z27 Tg9 Lg9 Sw41
 replace Rg10_0 := Z26 Rg10_0 Lg10 Sw41
 replace Tg10 := Z27 Tg10 Lg10 Sw41
 replace Lg3 := Z1 Lg3 Sw41.2.2.size
 replace Lg4 := Z1 Lg4 Sw41.2.2.size
 replace Lg5 := Z1 Lg5 Sw41.2.2.size
 replace Lg9 := Z1 Lg9 Sw41.2.2.size
 replace Lg10 := Z1 Lg10 Sw41.2.2.size
 replace BE := BE.trans (Sw41.2.2.mono BE.size)
 refine lAs (v := .int .u64 (((limbN M i + (limbN (mulHi x y) i) * 38 % 18446744073709551616) % 18446744073709551616 : Nat) : Int)) ?_
 refine lAs (v := .int .u64 (((limbN M i + (limbN (mulHi x y) i) * 38 % 18446744073709551616) / 18446744073709551616 : Nat) : Int)) ?_
 simp only [Z0, Z6]
 refine lNp (hK39 _ _ ?_)
 refine Z10 (fun K42 hK42 => ?_)
 refine Z30 6 (by kernel_rfl) (fun Lk hLk => ?_)
 simp only [Z7, Z8]
 refine vMv (v := .int .u64 (((limbN M i + (limbN (mulHi x y) i) * 38 % 18446744073709551616) % 18446744073709551616 : Nat) : Int)) ?_
 simp only [Z0, Z6]
 refine vMv (v := .int .u64 c) ?_
 simp only [Z0, Z6]
 refine wpV_ext (v := .tuple #[.int .u64 ((((limbN M i + (limbN (mulHi x y) i) * 38 % 18446744073709551616) % 18446744073709551616 + c) % 18446744073709551616 : Nat) : Int), .int .u64 ((((limbN M i + (limbN (mulHi x y) i) * 38 % 18446744073709551616) % 18446744073709551616 + c) / 18446744073709551616 : Nat) : Int)]) (f := 85) (args := #[.int .u64 (((limbN M i + (limbN (mulHi x y) i) * 38 % 18446744073709551616) % 18446744073709551616 : Nat) : Int), .int .u64 c, .int .u64 0]) (by rfl) rfl rfl (addN (x := (limbN M i + (limbN (mulHi x y) i) * 38 % 18446744073709551616) % 18446744073709551616) (y := c) (c := 0) (Nat.mod_lt _ (by decide)) (by omega) (by omega)) ?_
 simp only [Z0, Z6]
 refine vMv (v := .tuple #[.int .u64 ((((limbN M i + (limbN (mulHi x y) i) * 38 % 18446744073709551616) % 18446744073709551616 + c) % 18446744073709551616 : Nat) : Int), .int .u64 ((((limbN M i + (limbN (mulHi x y) i) * 38 % 18446744073709551616) % 18446744073709551616 + c) / 18446744073709551616 : Nat) : Int)]) ?_
 simp only [Z0, Z6]
 refine Z32 (v := .int .u64 ((((limbN M i + (limbN (mulHi x y) i) * 38 % 18446744073709551616) % 18446744073709551616 + c) % 18446744073709551616 : Nat) : Int)) (by rfl) rfl rfl rfl ?_
 simp only [Z0, Z6]
 refine Z32 (v := .int .u64 ((((limbN M i + (limbN (mulHi x y) i) * 38 % 18446744073709551616) % 18446744073709551616 + c) / 18446744073709551616 : Nat) : Int)) (by rfl) rfl rfl rfl ?_
 simp only [Z0, Z6]
 refine Z19 (hLk.out _ ?_)
 simp only [Z7, Z8]
 iterate 6 refine Z28 (by rfl) ?_
 refine Z29 (fun w44 Sw44 hbs => ?_)
 clear hbs
 replace Rg3_0 := Z26 Rg3_0 Lg3 Sw44
 replace Tg3 := Z27 Tg3 Lg3 Sw44
 replace Rg4_0 := Z26 Rg4_0 Lg4 Sw44
 replace Tg4 := Z27 Tg4 Lg4 Sw44
 replace Rg5_0 := Z26 Rg5_0 Lg5 Sw44
 replace Tg5 := Z27 Tg5 Lg5 Sw44
 replace Rg9_0 := Z26 Rg9_0 Lg9 Sw44
 replace Tg9 := Z27 Tg9 Lg9 Sw44
 replace Rg10_0 := Z26 Rg10_0 Lg10 Sw44
 replace Tg10 := Z27 Tg10 Lg10 Sw44
 replace Lg3 := Z1 Lg3 Sw44.2.2.size
 replace Lg4 := Z1 Lg4 Sw44.2.2.size
 replace Lg5 := Z1 Lg5 Sw44.2.2.size
 replace Lg9 := Z1 Lg9 Sw44.2.2.size
 replace Lg10 := Z1 Lg10 Sw44.2.2.size
 replace BE := BE.trans (Sw44.2.2.mono BE.size)
 refine lAs (v := .int .u64 ((((limbN M i + (limbN (mulHi x y) i) * 38 % 18446744073709551616) % 18446744073709551616 + c) % 18446744073709551616 : Nat) : Int)) ?_
 refine lAs (v := .int .u64 ((((limbN M i + (limbN (mulHi x y) i) * 38 % 18446744073709551616) % 18446744073709551616 + c) / 18446744073709551616 : Nat) : Int)) ?_
 simp only [Z0, Z6]
 refine lNp (hK42 _ _ ?_)
 refine Z30 8 (by kernel_rfl) (fun Lk hLk => ?_)
 simp only [Z7, Z8]
 refine vMv (v := .int .i64 i) ?_
 simp only [Z0, Z6]
 refine vMv (v := .int .u64 ((((limbN M i + (limbN (mulHi x y) i) * 38 % 18446744073709551616) % 18446744073709551616 + c) % 18446744073709551616 : Nat) : Int)) ?_
 simp only [Z0, Z6]
 refine vMv (v := .int .u64 ((limbN (mulHi x y) i) * 38 / 18446744073709551616 : Nat)) ?_
 simp only [Z0, Z6]
 refine vMv (v := .int .u64 (((limbN M i + (limbN (mulHi x y) i) * 38 % 18446744073709551616) / 18446744073709551616 : Nat) : Int)) ?_
 simp only [Z0, Z6]
 refine vBn (v := .int .u64 (limbN (mulHi x y) i * 38 / 18446744073709551616 + (limbN M i + limbN (mulHi x y) i * 38 % 18446744073709551616) / 18446744073709551616 : Nat)) (hr := fun W => run_add (by have := (back_parts HW).2; unfold backC at this; rw [wrap_u64]; omega) W) ?_
 simp only [Z0, Z6]
 refine vMv (v := .int .u64 ((((limbN M i + (limbN (mulHi x y) i) * 38 % 18446744073709551616) % 18446744073709551616 + c) / 18446744073709551616 : Nat) : Int)) ?_
 simp only [Z0, Z6]
 refine vBn (v := .int .u64 (backC (mulHi x y) i M c : Nat)) (hr := fun W => run_add (by have := (back_parts HW).2; unfold backC at this ⊢; rw [wrap_u64]; omega) W) ?_
 simp only [Z0, Z6]
 refine wpV_idx (n := i) (by rfl) rfl rfl rfl U986 info40 (by omega) ?_
 simp only [Z2]
 simp only [Z0, Z6]
 refine Z19 (hLk.out _ ?_)
 simp only [Z7, Z8]
 iterate 8 refine Z28 (by rfl) ?_
 refine Z29 (fun w46 Sw46 hbs => ?_)
 clear hbs
 replace Rg3_0 := Z26 Rg3_0 Lg3 Sw46
 replace Tg3 := Z27 Tg3 Lg3 Sw46
 replace Rg4_0 := Z26 Rg4_0 Lg4 Sw46
 replace Tg4 := Z27 Tg4 Lg4 Sw46
 replace Rg5_0 := Z26 Rg5_0 Lg5 Sw46
 replace Tg5 := Z27 Tg5 Lg5 Sw46
 replace Rg9_0 := Z26 Rg9_0 Lg9 Sw46
 replace Tg9 := Z27 Tg9 Lg9 Sw46
 replace Rg10_0 := Z26 Rg10_0 Lg10 Sw46
 replace Tg10 := Z27 Tg10 Lg10 Sw46
 replace Lg3 := Z1 Lg3 Sw46.2.2.size
 replace Lg4 := Z1 Lg4 Sw46.2.2.size
 replace Lg5 := Z1 Lg5 Sw46.2.2.size
 replace Lg9 := Z1 Lg9 Sw46.2.2.size
 replace Lg10 := Z1 Lg10 Sw46.2.2.size
 replace BE := BE.trans (Sw46.2.2.mono BE.size)
 refine lS1 (g := g9) (off := i) (n := 4) (v := .int .u64 ((((limbN M i + (limbN (mulHi x y) i) * 38 % 18446744073709551616) % 18446744073709551616 + c) % 18446744073709551616 : Nat) : Int)) Tg9 (by omega) info40 rfl (fun w47 Pw47 RR TT => ?_)
 replace Rg3_0 := Pw47.range Rg3_0 (.inl Ng3_g9)
 replace Tg3 := Pw47.other_there Tg3 Ng3_g9
 replace Rg4_0 := Pw47.range Rg4_0 (.inl Ng4_g9)
 replace Tg4 := Pw47.other_there Tg4 Ng4_g9
 replace Rg5_0 := Pw47.range Rg5_0 (.inl Ng5_g9)
 replace Tg5 := Pw47.other_there Tg5 Ng5_g9
 replace Rg10_0 := Pw47.range Rg10_0 (.inl (Ne.symm Ng9_g10))
 replace Tg10 := Pw47.other_there Tg10 (Ne.symm Ng9_g10)
 replace Rg9_0 := range_set Rg9_0 Pw47 RR
 clear RR
 replace Tg9 := TT
 replace Lg3 := Pw47.lt Lg3
 replace Lg4 := Pw47.lt Lg4
 replace Lg5 := Pw47.lt Lg5
 replace Lg9 := Pw47.lt Lg9
 replace Lg10 := Pw47.lt Lg10
 replace BE := Pw47.below BE Gg9
 rw [← wl_fel M, show (((limbN M i + (limbN (mulHi x y) i) * 38 % 18446744073709551616) % 18446744073709551616 + c) % 18446744073709551616) = backLo (mulHi x y) i M c from rfl, wl_set (backM_eq (mulHi x y) i M c) (backLo_lt ..), wl_fel] at Rg9_0
 refine lAs (v := .int .u64 (backC (mulHi x y) i M c : Nat)) ?_
 simp only [Z0, Z6]
 refine lNp (hK32 _ _ ?_)
 refine Z30 2 (by kernel_rfl) (fun Lk hLk => ?_)
 simp only [Z7, Z8]
 refine vBn (v := .int .i64 (i + 1 : Nat)) (hr := fun W => run_add (by simp only [IntKind.wrap_i64]; omega) W) ?_
 simp only [Z0, Z6]
 refine vMv (v := .int .i64 (i + 1 : Nat)) ?_
 simp only [Z0, Z6]
 refine Z19 (hLk.out _ ?_)
 simp only [Z7, Z8]
 iterate 2 refine Z28 (by rfl) ?_
 refine Z29 (fun w49 Sw49 hbs => ?_)
 clear hbs
 replace Rg3_0 := Z26 Rg3_0 Lg3 Sw49
 replace Tg3 := Z27 Tg3 Lg3 Sw49
 replace Rg4_0 := Z26 Rg4_0 Lg4 Sw49
 replace Tg4 := Z27 Tg4 Lg4 Sw49
 replace Rg5_0 := Z26 Rg5_0 Lg5 Sw49
 replace Tg5 := Z27 Tg5 Lg5 Sw49
 replace Rg9_0 := Z26 Rg9_0 Lg9 Sw49
 replace Tg9 := Z27 Tg9 Lg9 Sw49
 replace Rg10_0 := Z26 Rg10_0 Lg10 Sw49
 replace Tg10 := Z27 Tg10 Lg10 Sw49
 replace Lg3 := Z1 Lg3 Sw49.2.2.size
 replace Lg4 := Z1 Lg4 Sw49.2.2.size
 replace Lg5 := Z1 Lg5 Sw49.2.2.size
 replace Lg9 := Z1 Lg9 Sw49.2.2.size
 replace Lg10 := Z1 Lg10 Sw49.2.2.size
 replace BE := BE.trans (Sw49.2.2.mono BE.size)
 refine Z14 (Z15 ?_)
 refine Exists.intro _ ⟨?_, (i + 1), (backM (mulHi x y) i M c), (backC (mulHi x y) i M c), (fun q9 => (#[Z9, Z9, Z9, Z9, Z9, Z9, Z9, Z9, .int .i64 i, .int .u64 (limbN (mulHi x y) i : Nat), .int .u64 ((limbN (mulHi x y) i) * 38 / 18446744073709551616 : Nat), .int .u64 ((limbN (mulHi x y) i) * 38 % 18446744073709551616 : Nat), .int .u64 (((limbN M i + (limbN (mulHi x y) i) * 38 % 18446744073709551616) % 18446744073709551616 : Nat) : Int), .int .u64 (((limbN M i + (limbN (mulHi x y) i) * 38 % 18446744073709551616) / 18446744073709551616 : Nat) : Int), .int .u64 ((((limbN M i + (limbN (mulHi x y) i) * 38 % 18446744073709551616) % 18446744073709551616 + c) % 18446744073709551616 : Nat) : Int), .int .u64 ((((limbN M i + (limbN (mulHi x y) i) * 38 % 18446744073709551616) % 18446744073709551616 + c) / 18446744073709551616 : Nat) : Int), Z9, Z9, Z9, Z9, Z9, Z9, Z9, Z9, .bool true, .int .i64 i, .int .u64 (limbN (mulHi x y) i : Nat), .tuple #[.int .u64 ((limbN (mulHi x y) i) * 38 / 18446744073709551616 : Nat), .int .u64 ((limbN (mulHi x y) i) * 38 % 18446744073709551616 : Nat)], .int .u64 (limbN (mulHi x y) i : Nat), .tuple #[.int .u64 ((limbN (mulHi x y) i) * 38 / 18446744073709551616 : Nat), .int .u64 ((limbN (mulHi x y) i) * 38 % 18446744073709551616 : Nat)], .int .u64 ((limbN (mulHi x y) i) * 38 / 18446744073709551616 : Nat), .int .u64 ((limbN (mulHi x y) i) * 38 % 18446744073709551616 : Nat), .tuple #[.int .u64 (((limbN M i + (limbN (mulHi x y) i) * 38 % 18446744073709551616) % 18446744073709551616 : Nat) : Int), .int .u64 (((limbN M i + (limbN (mulHi x y) i) * 38 % 18446744073709551616) / 18446744073709551616 : Nat) : Int)], .int .i64 i, .pointer (some ⟨g9, i, none⟩), .int .u64 (limbN M i : Nat), .int .u64 ((limbN (mulHi x y) i) * 38 % 18446744073709551616 : Nat), .tuple #[.int .u64 (((limbN M i + (limbN (mulHi x y) i) * 38 % 18446744073709551616) % 18446744073709551616 : Nat) : Int), .int .u64 (((limbN M i + (limbN (mulHi x y) i) * 38 % 18446744073709551616) / 18446744073709551616 : Nat) : Int)], .int .u64 (((limbN M i + (limbN (mulHi x y) i) * 38 % 18446744073709551616) % 18446744073709551616 : Nat) : Int), .int .u64 (((limbN M i + (limbN (mulHi x y) i) * 38 % 18446744073709551616) / 18446744073709551616 : Nat) : Int), .tuple #[.int .u64 ((((limbN M i + (limbN (mulHi x y) i) * 38 % 18446744073709551616) % 18446744073709551616 + c) % 18446744073709551616 : Nat) : Int), .int .u64 ((((limbN M i + (limbN (mulHi x y) i) * 38 % 18446744073709551616) % 18446744073709551616 + c) / 18446744073709551616 : Nat) : Int)], .int .u64 (((limbN M i + (limbN (mulHi x y) i) * 38 % 18446744073709551616) % 18446744073709551616 : Nat) : Int), .int .u64 c, .tuple #[.int .u64 ((((limbN M i + (limbN (mulHi x y) i) * 38 % 18446744073709551616) % 18446744073709551616 + c) % 18446744073709551616 : Nat) : Int), .int .u64 ((((limbN M i + (limbN (mulHi x y) i) * 38 % 18446744073709551616) % 18446744073709551616 + c) / 18446744073709551616 : Nat) : Int)], .int .u64 ((((limbN M i + (limbN (mulHi x y) i) * 38 % 18446744073709551616) % 18446744073709551616 + c) % 18446744073709551616 : Nat) : Int), .int .u64 ((((limbN M i + (limbN (mulHi x y) i) * 38 % 18446744073709551616) % 18446744073709551616 + c) / 18446744073709551616 : Nat) : Int), .int .i64 i, .int .u64 ((((limbN M i + (limbN (mulHi x y) i) * 38 % 18446744073709551616) % 18446744073709551616 + c) % 18446744073709551616 : Nat) : Int), .int .u64 ((limbN (mulHi x y) i) * 38 / 18446744073709551616 : Nat), .int .u64 (((limbN M i + (limbN (mulHi x y) i) * 38 % 18446744073709551616) / 18446744073709551616 : Nat) : Int), .int .u64 (limbN (mulHi x y) i * 38 / 18446744073709551616 + (limbN M i + limbN (mulHi x y) i * 38 % 18446744073709551616) / 18446744073709551616 : Nat), .int .u64 ((((limbN M i + (limbN (mulHi x y) i) * 38 % 18446744073709551616) % 18446744073709551616 + c) / 18446744073709551616 : Nat) : Int), .int .u64 (backC (mulHi x y) i M c : Nat), .pointer (some ⟨g9, i, none⟩), .int .i64 (i + 1 : Nat)] : Array Value).getD q9 Z9), rfl, rfl, BE, Rg3_0, Tg3, Lg3, Rg4_0, Tg4, Lg4, Rg5_0, Tg5, Lg5, Rg9_0, Tg9, Lg9, Rg10_0, Tg10, Lg10, (by omega), (back_step hi HW)⟩
 omega
set_option maxHeartbeats 1000000 in
theorem power_c {x : Nat} (hx : x < 2 ^ 256) {n : Nat} (hn : n < 2 ^ 256) (w : World) :
  Calls Tryd.prog 135 #[fe x, fe n] w fun e w' => e = .returned (fe (fpow x n)) ∧ Below w.heap.size w w' := by
 go_enter Tryd.func135, Tryd.ntmps135
 have BE := Below.refl w.heap.size w
 refine Z10 (fun K1 hK1 => ?_)
 refine Z30 3 (by kernel_rfl) (fun Lk hLk => ?_)
 simp only [Z7, Z8]
 refine vAl ?_
 refine vAl ?_
 refine vAl ?_
 refine Z19 (hLk.out _ ?_)
 simp only [Z7, Z8]
 refine wpN_new (t := 86) (cs := (fel x).toArray) (by rfl) (fun W => ?_) (fun g3 Hg3 ng3 => ?_)
 ·
  (first | rfl | go_simp)
 refine wpN_new (t := 86) (cs := (fel n).toArray) (by rfl) (fun W => ?_) (fun g4 Hg4 ng4 => ?_)
 ·
  (first | rfl | go_simp)
 refine wpN_new (t := 86) (cs := ([.int .u64 0, .int .u64 0, .int .u64 0, .int .u64 0]).toArray) (by rfl) (fun W => ?_) (fun g5 Hg5 ng5 => ?_)
 ·
  go_simp
 simp only [Z0, Z6]
 refine Z29 (fun w6 Sw6 hbs => ?_)
 have Bg3 : Blk w6 g3 86 (fel x).toArray := hbs _ (List.mem_cons_of_mem _ (List.mem_cons_of_mem _ (List.mem_cons_self ..)))
 have Bg4 : Blk w6 g4 86 (fel n).toArray := hbs _ (List.mem_cons_of_mem _ (List.mem_cons_self ..))
 have Bg5 : Blk w6 g5 86 ([.int .u64 0, .int .u64 0, .int .u64 0, .int .u64 0]).toArray := hbs _ (List.mem_cons_self ..)
 clear hbs
 have Gg3 : w.heap.size ≤ g3 := Z3 BE.size Hg3
 have Ng3_g4 : g3 ≠ g4 := ng4 (g3, _, _) (List.mem_cons_self ..)
 have Gg4 : w.heap.size ≤ g4 := Z3 BE.size Hg4
 have Ng3_g5 : g3 ≠ g5 := ng5 (g3, _, _) (List.mem_cons_of_mem _ (List.mem_cons_self ..))
 have Ng4_g5 : g4 ≠ g5 := ng5 (g4, _, _) (List.mem_cons_self ..)
 have Gg5 : w.heap.size ≤ g5 := Z3 BE.size Hg5
 replace BE := BE.trans (Sw6.2.2.mono BE.size)
 have Tg3 := blk_there Bg3 (n := 4) (by simp [flen])
 have Rg3_0 := blk_range Bg3 (l := fel x) rfl
 have Lg3 := Bg3.lt
 have Tg4 := blk_there Bg4 (n := 4) (by simp [flen])
 have Rg4_0 := blk_range Bg4 (l := fel n) rfl
 have Lg4 := Bg4.lt
 have Tg5 := blk_there Bg5 (n := 4) (by simp [flen])
 have Rg5_0 := blk_range Bg5 (l := [.int .u64 0, .int .u64 0, .int .u64 0, .int .u64 0]) rfl
 have Lg5 := Bg5.lt
 clear ng3 ng4 ng5 Bg3 Bg4 Bg5
 refine lNp (hK1 _ _ ?_)
 refine Z10 (fun K7 hK7 => ?_)
 refine Z30 2 (by kernel_rfl) (fun Lk hLk => ?_)
 simp only [Z7, Z8]
 refine Z25 (v := fe 1) (args := #[.int .u64 1]) (by rfl) rfl Tryd.func91 (by kernel_rfl) (by kernel_rfl) rfl (fun W hW => of_c (n := 1) (by decide) W) ?_
 simp only [Z0, Z6]
 refine vAl ?_
 refine Z19 (hLk.out _ ?_)
 simp only [Z7, Z8]
 iterate 1 refine Z28 (by rfl) ?_
 refine wpN_new (t := 86) (cs := ([.int .u64 0, .int .u64 0, .int .u64 0, .int .u64 0]).toArray) (by rfl) (fun W => ?_) (fun g9 Hg9 ng9 => ?_)
 ·
  go_simp
 simp only [Z0, Z6]
 refine Z29 (fun w10 Sw10 hbs => ?_)
 have Bg9 : Blk w10 g9 86 ([.int .u64 0, .int .u64 0, .int .u64 0, .int .u64 0]).toArray := hbs _ (List.mem_cons_self ..)
 clear hbs
 have Ng3_g9 : g3 ≠ g9 := Z4 (Z1 Lg3 Hg9)
 have Ng4_g9 : g4 ≠ g9 := Z4 (Z1 Lg4 Hg9)
 have Ng5_g9 : g5 ≠ g9 := Z4 (Z1 Lg5 Hg9)
 have Gg9 : w.heap.size ≤ g9 := Z3 BE.size Hg9
 replace Rg3_0 := Z26 Rg3_0 Lg3 Sw10
 replace Tg3 := Z27 Tg3 Lg3 Sw10
 replace Rg4_0 := Z26 Rg4_0 Lg4 Sw10
 replace Tg4 := Z27 Tg4 Lg4 Sw10
 replace Rg5_0 := Z26 Rg5_0 Lg5 Sw10
 replace Tg5 := Z27 Tg5 Lg5 Sw10
 replace Lg3 := Z1 Lg3 Sw10.2.2.size
 replace Lg4 := Z1 Lg4 Sw10.2.2.size
 replace Lg5 := Z1 Lg5 Sw10.2.2.size
 replace BE := BE.trans (Sw10.2.2.mono BE.size)
 have Tg9 := blk_there Bg9 (n := 4) (by simp [flen])
 have Rg9_0 := blk_range Bg9 (l := [.int .u64 0, .int .u64 0, .int .u64 0, .int .u64 0]) rfl
 have Lg9 := Bg9.lt
 clear ng9 Bg9
 refine lSt (g := g9) (off := 0) (n := 4) (cs := fel 1) Tg9 (by simp [flen]) info86 (fel_one _) (fun w11 Pw11 RR TT => ?_)
 replace Rg3_0 := Pw11.range Rg3_0 (.inl Ng3_g9)
 replace Tg3 := Pw11.other_there Tg3 Ng3_g9
 replace Rg4_0 := Pw11.range Rg4_0 (.inl Ng4_g9)
 replace Tg4 := Pw11.other_there Tg4 Ng4_g9
 replace Rg5_0 := Pw11.range Rg5_0 (.inl Ng5_g9)
 replace Tg5 := Pw11.other_there Tg5 Ng5_g9
 replace Rg9_0 := RR
 clear RR
 replace Tg9 := TT
 replace Lg3 := Pw11.lt Lg3
 replace Lg4 := Pw11.lt Lg4
 replace Lg5 := Pw11.lt Lg5
 replace Lg9 := Pw11.lt Lg9
 replace BE := Pw11.below BE Gg9
 refine lNp (hK7 _ _ ?_)
 refine Z10 (fun K12 hK12 => ?_)
 refine Z10 (fun K13 hK13 => ?_)
 refine Z30 1 (by kernel_rfl) (fun Lk hLk => ?_)
 simp only [Z7, Z8]
 refine vMv (v := .int .i64 0) ?_
 simp only [Z0, Z6]
 refine Z19 (hLk.out _ ?_)
 simp only [Z7, Z8]
 iterate 1 refine Z28 (by rfl) ?_
 refine Z29 (fun w15 Sw15 hbs => ?_)
 clear hbs
 replace Rg3_0 := Z26 Rg3_0 Lg3 Sw15
 replace Tg3 := Z27 Tg3 Lg3 Sw15
 replace Rg4_0 := Z26 Rg4_0 Lg4 Sw15
 replace Tg4 := Z27 Tg4 Lg4 Sw15
 replace Rg5_0 := Z26 Rg5_0 Lg5 Sw15
 replace Tg5 := Z27 Tg5 Lg5 Sw15
 replace Rg9_0 := Z26 Rg9_0 Lg9 Sw15
 replace Tg9 := Z27 Tg9 Lg9 Sw15
 replace Lg3 := Z1 Lg3 Sw15.2.2.size
 replace Lg4 := Z1 Lg4 Sw15.2.2.size
 replace Lg5 := Z1 Lg5 Sw15.2.2.size
 replace Lg9 := Z1 Lg9 Sw15.2.2.size
 replace BE := BE.trans (Sw15.2.2.mono BE.size)
 refine lNp (hK13 _ _ ?_)
 refine wp_block ?_
 refine wp_loop_ghost (fun n9 a9 W9 => ∃ (k : Nat) (u16 : Nat → Value), n9 = 256 - k ∧ a9 = { tmps := #[fe x, fe n, .pointer (some ⟨g3, 0, none⟩), .pointer (some ⟨g4, 0, none⟩), .pointer (some ⟨g5, 0, none⟩), .pointer (some ⟨g9, 0, none⟩), u16 6, u16 7, fe 1, .int .i64 k, u16 10, u16 11, u16 12, u16 13, u16 14, u16 15, u16 16, u16 17, u16 18, u16 19, u16 20, u16 21, u16 22, u16 23, u16 24, u16 25, u16 26, u16 27, u16 28, u16 29, Z9], defers := [] } ∧ Below w.heap.size w W9 ∧ World.rangeAt W9 g3 0 (fel x) ∧ World.there W9 g3 0 4 ∧ g3 < W9.heap.size ∧ World.rangeAt W9 g4 0 (fel n) ∧ World.there W9 g4 0 4 ∧ g4 < W9.heap.size ∧ World.rangeAt W9 g5 0 ([.int .u64 0, .int .u64 0, .int .u64 0, .int .u64 0]) ∧ World.there W9 g5 0 4 ∧ g5 < W9.heap.size ∧ World.rangeAt W9 g9 0 (fel (fpow x (n / 2 ^ (256 - k)))) ∧ World.there W9 g9 0 4 ∧ g9 < W9.heap.size ∧ (k ≤ 256)) (256 - (0)) ?_ (fun n9 a9 W9 hI => ?_)
 ·
  exact ⟨0, (fun q9 => (#[Z9, Z9, Z9, Z9, Z9, Z9, Z9, Z9, Z9, Z9, Z9, Z9, Z9, Z9, Z9, Z9, Z9, Z9, Z9, Z9, Z9, Z9, Z9, Z9, Z9, Z9, Z9, Z9, Z9, Z9] : Array Value).getD q9 Z9), rfl, rfl, BE, Rg3_0, Tg3, Lg3, Rg4_0, Tg4, Lg4, Rg5_0, Tg5, Lg5, (by rw [Nat.div_eq_of_lt hn, fpow_zero]; exact Rg9_0), Tg9, Lg9, (by omega)⟩
 clear BE Rg3_0 Rg4_0 Rg5_0 Rg9_0 Tg3 Tg4 Tg5 Tg9 Lg3 Lg4 Lg5 Lg9
 obtain ⟨k, u16, rfl, rfl, BE, Rg3_0, Tg3, Lg3, Rg4_0, Tg4, Lg4, Rg5_0, Tg5, Lg5, Rg9_0, Tg9, Lg9, hk6⟩ := hI
 obtain ⟨w17, rfl⟩ : ∃ W8, W8 = W9 := ⟨_, rfl⟩
 refine Z10 (fun K18 hK18 => ?_)
 refine Z30 1 (by kernel_rfl) (fun Lk hLk => ?_)
 simp only [Z7, Z8]
 refine vBn (v := .bool (decide (k < 256))) (hr := fun W => run_lssN k 256 _ _ W) ?_
 simp only [Z0, Z6]
 refine Z19 (hLk.out _ ?_)
 simp only [Z7, Z8]
 iterate 1 refine Z28 (by rfl) ?_
 refine Z29 (fun w20 Sw20 hbs => ?_)
 clear hbs
 replace Rg3_0 := Z26 Rg3_0 Lg3 Sw20
 replace Tg3 := Z27 Tg3 Lg3 Sw20
 replace Rg4_0 := Z26 Rg4_0 Lg4 Sw20
 replace Tg4 := Z27 Tg4 Lg4 Sw20
 replace Rg5_0 := Z26 Rg5_0 Lg5 Sw20
 replace Tg5 := Z27 Tg5 Lg5 Sw20
 replace Rg9_0 := Z26 Rg9_0 Lg9 Sw20
 replace Tg9 := Z27 Tg9 Lg9 Sw20
 replace Lg3 := Z1 Lg3 Sw20.2.2.size
 replace Lg4 := Z1 Lg4 Sw20.2.2.size
 replace Lg5 := Z1 Lg5 Sw20.2.2.size
 replace Lg9 := Z1 Lg9 Sw20.2.2.size
 replace BE := BE.trans (Sw20.2.2.mono BE.size)
 refine lNp (hK18 _ _ ?_)
 refine Z10 (fun K21 hK21 => ?_)
 cases hc22 : (decide (k < 256))
 ·
  have ek : k = 256 := by have := of_decide_eq_false hc22; omega
  subst ek
  refine Z12 rfl ?_
  refine wp_exit ?_
  refine hK12 _ _ ?_
  refine Z10 (fun K23 hK23 => ?_)
  refine Z30 1 (by kernel_rfl) (fun Lk hLk => ?_)
  simp only [Z7, Z8]
  refine vLd (cs := fel (fpow x (n / 2 ^ (256 - 256)))) Rg9_0 Lg9 U986 info86 ?_
  simp only [Z0, Z6]
  refine Z19 (hLk.out _ ?_)
  simp only [Z7, Z8]
  iterate 1 refine Z28 (by rfl) ?_
  refine Z29 (fun w25 Sw25 hbs => ?_)
  clear hbs
  replace Rg3_0 := Z26 Rg3_0 Lg3 Sw25
  replace Tg3 := Z27 Tg3 Lg3 Sw25
  replace Rg4_0 := Z26 Rg4_0 Lg4 Sw25
  replace Tg4 := Z27 Tg4 Lg4 Sw25
  replace Rg5_0 := Z26 Rg5_0 Lg5 Sw25
  replace Tg5 := Z27 Tg5 Lg5 Sw25
  replace Rg9_0 := Z26 Rg9_0 Lg9 Sw25
  replace Tg9 := Z27 Tg9 Lg9 Sw25
  replace Lg3 := Z1 Lg3 Sw25.2.2.size
  replace Lg4 := Z1 Lg4 Sw25.2.2.size
  replace Lg5 := Z1 Lg5 Sw25.2.2.size
  replace Lg9 := Z1 Lg9 Sw25.2.2.size
  replace BE := BE.trans (Sw25.2.2.mono BE.size)
  refine lSt (g := g5) (off := 0) (n := 4) (cs := fel (fpow x (n / 2 ^ (256 - 256)))) Tg5 (by simp [flen]) info86 (fel_one _) (fun w26 Pw26 RR TT => ?_)
  replace Rg3_0 := Pw26.range Rg3_0 (.inl Ng3_g5)
  replace Tg3 := Pw26.other_there Tg3 Ng3_g5
  replace Rg4_0 := Pw26.range Rg4_0 (.inl Ng4_g5)
  replace Tg4 := Pw26.other_there Tg4 Ng4_g5
  replace Rg9_0 := Pw26.range Rg9_0 (.inl (Ne.symm Ng5_g9))
  replace Tg9 := Pw26.other_there Tg9 (Ne.symm Ng5_g9)
  replace Rg5_0 := RR
  clear RR
  replace Tg5 := TT
  replace Lg3 := Pw26.lt Lg3
  replace Lg4 := Pw26.lt Lg4
  replace Lg5 := Pw26.lt Lg5
  replace Lg9 := Pw26.lt Lg9
  replace BE := Pw26.below BE Gg5
  refine lNp (hK23 _ _ ?_)
  refine wp_ret ?_
  repeat (first | with_reducible refine then_ret ?_ | with_reducible refine inblock_ret ?_)
  refine bodyPost_ret (v := fe (fpow x (n / 2 ^ (256 - 256)))) (res1 rfl (.cell (by rfl) (run_loadVar_mid _ _ _ _ (fel (fpow x (n / 2 ^ (256 - 256)))) _ Rg5_0 U986 rfl info86))) rfl ?_
  exact ⟨by rw [show n / 2 ^ (256 - 256) = n by simp], BE⟩
 have hk : k < 256 := of_decide_eq_true hc22
 refine Z11 rfl ?_
 refine wp_skip ?_
 refine hK21 _ _ ?_
 refine Z10 (fun K27 hK27 => ?_)
 refine wp_block ?_
 refine Z10 (fun K28 hK28 => ?_)
 refine Z30 1 (by kernel_rfl) (fun Lk hLk => ?_)
 simp only [Z7, Z8]
 refine vMv (v := .int .i64 k) ?_
 simp only [Z0, Z6]
 refine Z19 (hLk.out _ ?_)
 simp only [Z7, Z8]
 iterate 1 refine Z28 (by rfl) ?_
 refine Z29 (fun w30 Sw30 hbs => ?_)
 clear hbs
 replace Rg3_0 := Z26 Rg3_0 Lg3 Sw30
 replace Tg3 := Z27 Tg3 Lg3 Sw30
 replace Rg4_0 := Z26 Rg4_0 Lg4 Sw30
 replace Tg4 := Z27 Tg4 Lg4 Sw30
 replace Rg5_0 := Z26 Rg5_0 Lg5 Sw30
 replace Tg5 := Z27 Tg5 Lg5 Sw30
 replace Rg9_0 := Z26 Rg9_0 Lg9 Sw30
 replace Tg9 := Z27 Tg9 Lg9 Sw30
 replace Lg3 := Z1 Lg3 Sw30.2.2.size
 replace Lg4 := Z1 Lg4 Sw30.2.2.size
 replace Lg5 := Z1 Lg5 Sw30.2.2.size
 replace Lg9 := Z1 Lg9 Sw30.2.2.size
 replace BE := BE.trans (Sw30.2.2.mono BE.size)
 refine lAs (v := .int .i64 k) ?_
 simp only [Z0, Z6]
 refine lNp (hK28 _ _ ?_)
 refine Z10 (fun K31 hK31 => ?_)
 refine Z30 2 (by kernel_rfl) (fun Lk hLk => ?_)
 simp only [Z7, Z8]
 refine vMv (v := .int .i64 k) ?_
 simp only [Z0, Z6]
 refine vBn (v := .int .i64 (255 - k : Nat)) (hr := fun W => run_sub (by simp only [IntKind.wrap_i64]; omega) W) ?_
 simp only [Z0, Z6]
 refine Z19 (hLk.out _ ?_)
 simp only [Z7, Z8]
 iterate 2 refine Z28 (by rfl) ?_
 refine Z29 (fun w33 Sw33 hbs => ?_)
 clear hbs
 replace Rg3_0 := Z26 Rg3_0 Lg3 Sw33
 replace Tg3 := Z27 Tg3 Lg3 Sw33
 replace Rg4_0 := Z26 Rg4_0 Lg4 Sw33
 replace Tg4 := Z27 Tg4 Lg4 Sw33
 replace Rg5_0 := Z26 Rg5_0 Lg5 Sw33
 replace Tg5 := Z27 Tg5 Lg5 Sw33
 replace Rg9_0 := Z26 Rg9_0 Lg9 Sw33
 replace Tg9 := Z27 Tg9 Lg9 Sw33
 replace Lg3 := Z1 Lg3 Sw33.2.2.size
 replace Lg4 := Z1 Lg4 Sw33.2.2.size
 replace Lg5 := Z1 Lg5 Sw33.2.2.size
 replace Lg9 := Z1 Lg9 Sw33.2.2.size
 replace BE := BE.trans (Sw33.2.2.mono BE.size)
 refine lAs (v := .int .i64 (255 - k : Nat)) ?_
 simp only [Z0, Z6]
 refine lNp (hK31 _ _ ?_)
 refine Z10 (fun K34 hK34 => ?_)
 refine Z30 3 (by kernel_rfl) (fun Lk hLk => ?_)
 simp only [Z7, Z8]
 refine vLd (cs := fel (fpow x (n / 2 ^ (256 - k)))) Rg9_0 Lg9 U986 info86 ?_
 simp only [Z0, Z6]
 refine vLd (cs := fel (fpow x (n / 2 ^ (256 - k)))) Rg9_0 Lg9 U986 info86 ?_
 simp only [Z0, Z6]
 refine Z25 (v := fe (fmul (fpow x (n / 2 ^ (256 - k))) (fpow x (n / 2 ^ (256 - k))))) (args := #[fe (fpow x (n / 2 ^ (256 - k))), fe (fpow x (n / 2 ^ (256 - k)))]) (by rfl) rfl G996 (by kernel_rfl) (by kernel_rfl) rfl (fun W hW => fmul_c (fpow_lt ..) (fpow_lt ..) W) ?_
 simp only [Z0, Z6]
 refine Z19 (hLk.out _ ?_)
 simp only [Z7, Z8]
 iterate 3 refine Z28 (by rfl) ?_
 refine Z29 (fun w36 Sw36 hbs => ?_)
 clear hbs
 replace Rg3_0 := Z26 Rg3_0 Lg3 Sw36
 replace Tg3 := Z27 Tg3 Lg3 Sw36
 replace Rg4_0 := Z26 Rg4_0 Lg4 Sw36
 replace Tg4 := Z27 Tg4 Lg4 Sw36
 replace Rg5_0 := Z26 Rg5_0 Lg5 Sw36
 replace Tg5 := Z27 Tg5 Lg5 Sw36
 replace Rg9_0 := Z26 Rg9_0 Lg9 Sw36
 replace Tg9 := Z27 Tg9 Lg9 Sw36
 replace Lg3 := Z1 Lg3 Sw36.2.2.size
 replace Lg4 := Z1 Lg4 Sw36.2.2.size
 replace Lg5 := Z1 Lg5 Sw36.2.2.size
 replace Lg9 := Z1 Lg9 Sw36.2.2.size
 replace BE := BE.trans (Sw36.2.2.mono BE.size)
 refine lSt (g := g9) (off := 0) (n := 4) (cs := fel (fmul (fpow x (n / 2 ^ (256 - k))) (fpow x (n / 2 ^ (256 - k))))) Tg9 (by simp [flen]) info86 (fel_one _) (fun w37 Pw37 RR TT => ?_)
 replace Rg3_0 := Pw37.range Rg3_0 (.inl Ng3_g9)
 replace Tg3 := Pw37.other_there Tg3 Ng3_g9
 replace Rg4_0 := Pw37.range Rg4_0 (.inl Ng4_g9)
 replace Tg4 := Pw37.other_there Tg4 Ng4_g9
 replace Rg5_0 := Pw37.range Rg5_0 (.inl Ng5_g9)
 replace Tg5 := Pw37.other_there Tg5 Ng5_g9
 replace Rg9_0 := RR
 clear RR
 replace Tg9 := TT
 replace Lg3 := Pw37.lt Lg3
 replace Lg4 := Pw37.lt Lg4
 replace Lg5 := Pw37.lt Lg5
 replace Lg9 := Pw37.lt Lg9
 replace BE := Pw37.below BE Gg9
 refine lNp (hK34 _ _ ?_)
 refine Z10 (fun K38 hK38 => ?_)
 refine Z30 9 (by kernel_rfl) (fun Lk hLk => ?_)
 simp only [Z7, Z8]
 refine vMv (v := .int .i64 (255 - k : Nat)) ?_
 simp only [Z0, Z6]
 refine vBn (v := .int .i64 ((255 - k) / 64 : Nat)) (hr := fun W => run_quo (by decide) ((congrArg _ (tdiv_nat (255 - k) 64)).trans (wrap_nat _ (by omega))) W) ?_
 simp only [Z0, Z6]
 refine wpV_idx (n := (255 - k) / 64) (by rfl) rfl rfl rfl U986 info40 (by omega) ?_
 simp only [Z2]
 simp only [Z0, Z6]
 refine Z34 (v := .int .u64 (limbN n ((255 - k) / 64) : Nat)) (by rfl) rfl rfl (by have := Rg4_0 _ _ (fel_get (j := (255 - k) / 64) n (by omega)); rwa [Z2] at this) Lg4 U940 rfl ?_
 simp only [Z0, Z6]
 refine vMv (v := .int .i64 (255 - k : Nat)) ?_
 simp only [Z0, Z6]
 refine vBn (v := .int .i64 ((255 - k) % 64 : Nat)) (hr := fun W => run_rem (by decide) (tmod_nat (255 - k) 64) W) ?_
 simp only [Z0, Z6]
 refine vBn (v := .int .u64 (limbN n ((255 - k) / 64) / 2 ^ ((255 - k) % 64) : Nat)) (hr := fun W => run_shr (m := limbN n ((255 - k) / 64)) (n := (255 - k) % 64) (by show _ ≤ 64; omega) rfl W) ?_
 simp only [Z0, Z6]
 refine vBn (v := .int .u64 (n / 2 ^ (255 - k) % 2 : Nat)) (hr := fun W => run_and (bitN_of n (255 - k)) W) ?_
 simp only [Z0, Z6]
 refine vBn (v := .bool (((n / 2 ^ (255 - k) % 2 : Nat) : Int) == 1)) (hr := fun W => run_eql _ _ _ _ W) ?_
 simp only [Z0, Z6]
 refine Z19 (hLk.out _ ?_)
 simp only [Z7, Z8]
 iterate 9 refine Z28 (by rfl) ?_
 refine Z29 (fun w40 Sw40 hbs => ?_)
 clear hbs
 replace Rg3_0 := Z26 Rg3_0 Lg3 Sw40
 replace Tg3 := Z27 Tg3 Lg3 Sw40
 replace Rg4_0 := Z26 Rg4_0 Lg4 Sw40
 replace Tg4 := Z27 Tg4 Lg4 Sw40
 replace Rg5_0 := Z26 Rg5_0 Lg5 Sw40
 replace Tg5 := Z27 Tg5 Lg5 Sw40
 replace Rg9_0 := Z26 Rg9_0 Lg9 Sw40
 replace Tg9 := Z27 Tg9 Lg9 Sw40
 replace Lg3 := Z1 Lg3 Sw40.2.2.size
 replace Lg4 := Z1 Lg4 Sw40.2.2.size
 replace Lg5 := Z1 Lg5 Sw40.2.2.size
 replace Lg9 := Z1 Lg9 Sw40.2.2.size
 replace BE := BE.trans (Sw40.2.2.mono BE.size)
 refine lNp (hK38 _ _ ?_)
 cases hc41 : (((n / 2 ^ (255 - k) % 2 : Nat) : Int) == 1)
 ·
  have hbit : n / 2 ^ (255 - k) % 2 ≠ 1 := by intro e; rw [e] at hc41; simp at hc41
  refine Z12 rfl ?_
  refine wp_skip ?_
  refine hK27 _ _ ?_
  refine Z30 2 (by kernel_rfl) (fun Lk hLk => ?_)
  simp only [Z7, Z8]
  refine vBn (v := .int .i64 (k + 1 : Nat)) (hr := fun W => run_add (by simp only [IntKind.wrap_i64]; omega) W) ?_
  simp only [Z0, Z6]
  refine vMv (v := .int .i64 (k + 1 : Nat)) ?_
  simp only [Z0, Z6]
  refine Z19 (hLk.out _ ?_)
  simp only [Z7, Z8]
  iterate 2 refine Z28 (by rfl) ?_
  refine Z29 (fun w43 Sw43 hbs => ?_)
  clear hbs
  replace Rg3_0 := Z26 Rg3_0 Lg3 Sw43
  replace Tg3 := Z27 Tg3 Lg3 Sw43
  replace Rg4_0 := Z26 Rg4_0 Lg4 Sw43
  replace Tg4 := Z27 Tg4 Lg4 Sw43
  replace Rg5_0 := Z26 Rg5_0 Lg5 Sw43
  replace Tg5 := Z27 Tg5 Lg5 Sw43
  replace Rg9_0 := Z26 Rg9_0 Lg9 Sw43
  replace Tg9 := Z27 Tg9 Lg9 Sw43
  replace Lg3 := Z1 Lg3 Sw43.2.2.size
  replace Lg4 := Z1 Lg4 Sw43.2.2.size
  replace Lg5 := Z1 Lg5 Sw43.2.2.size
  replace Lg9 := Z1 Lg9 Sw43.2.2.size
  replace BE := BE.trans (Sw43.2.2.mono BE.size)
  refine Z14 (Z15 ?_)
  refine Exists.intro _ ⟨?_, (k + 1), (fun q9 => (#[Z9, Z9, Z9, Z9, Z9, Z9, .int .i64 k, .int .i64 (255 - k : Nat), Z9, Z9, .bool true, .int .i64 k, .int .i64 k, .int .i64 (255 - k : Nat), fe (fpow x (n / 2 ^ (256 - k))), fe (fpow x (n / 2 ^ (256 - k))), fe (fmul (fpow x (n / 2 ^ (256 - k))) (fpow x (n / 2 ^ (256 - k)))), .int .i64 (255 - k : Nat), .int .i64 ((255 - k) / 64 : Nat), .pointer (some ⟨g4, (255 - k) / 64, none⟩), .int .u64 (limbN n ((255 - k) / 64) : Nat), .int .i64 (255 - k : Nat), .int .i64 ((255 - k) % 64 : Nat), .int .u64 (limbN n ((255 - k) / 64) / 2 ^ ((255 - k) % 64) : Nat), .int .u64 (n / 2 ^ (255 - k) % 2 : Nat), .bool false, u16 26, u16 27, u16 28, .int .i64 (k + 1 : Nat)] : Array Value).getD q9 Z9), rfl, rfl, BE, Rg3_0, Tg3, Lg3, Rg4_0, Tg4, Lg4, Rg5_0, Tg5, Lg5, (by rw [← (fpow_step x n k hk).2 hbit]; exact Rg9_0), Tg9, Lg9, (by omega)⟩
  omega
 have hbit : n / 2 ^ (255 - k) % 2 = 1 := by have := beq_iff_eq.1 hc41; omega
 refine Z11 rfl ?_
 refine Z30 3 (by kernel_rfl) (fun Lk hLk => ?_)
 simp only [Z7, Z8]
 refine vLd (cs := fel (fmul (fpow x (n / 2 ^ (256 - k))) (fpow x (n / 2 ^ (256 - k))))) Rg9_0 Lg9 U986 info86 ?_
 simp only [Z0, Z6]
 refine vLd (cs := fel x) Rg3_0 Lg3 U986 info86 ?_
 simp only [Z0, Z6]
 refine Z25 (v := fe (fmul (fmul (fpow x (n / 2 ^ (256 - k))) (fpow x (n / 2 ^ (256 - k)))) x)) (args := #[fe (fmul (fpow x (n / 2 ^ (256 - k))) (fpow x (n / 2 ^ (256 - k)))), fe x]) (by rfl) rfl G996 (by kernel_rfl) (by kernel_rfl) rfl (fun W hW => fmul_c (fmul_lt ..) hx W) ?_
 simp only [Z0, Z6]
 refine Z19 (hLk.out _ ?_)
 simp only [Z7, Z8]
 iterate 3 refine Z28 (by rfl) ?_
 refine Z29 (fun w45 Sw45 hbs => ?_)
 clear hbs
 replace Rg3_0 := Z26 Rg3_0 Lg3 Sw45
 replace Tg3 := Z27 Tg3 Lg3 Sw45
 replace Rg4_0 := Z26 Rg4_0 Lg4 Sw45
 replace Tg4 := Z27 Tg4 Lg4 Sw45
 replace Rg5_0 := Z26 Rg5_0 Lg5 Sw45
 replace Tg5 := Z27 Tg5 Lg5 Sw45
 replace Rg9_0 := Z26 Rg9_0 Lg9 Sw45
 replace Tg9 := Z27 Tg9 Lg9 Sw45
 replace Lg3 := Z1 Lg3 Sw45.2.2.size
 replace Lg4 := Z1 Lg4 Sw45.2.2.size
 replace Lg5 := Z1 Lg5 Sw45.2.2.size
 replace Lg9 := Z1 Lg9 Sw45.2.2.size
 replace BE := BE.trans (Sw45.2.2.mono BE.size)
 refine lSt (g := g9) (off := 0) (n := 4) (cs := fel (fmul (fmul (fpow x (n / 2 ^ (256 - k))) (fpow x (n / 2 ^ (256 - k)))) x)) Tg9 (by simp [flen]) info86 (fel_one _) (fun w46 Pw46 RR TT => ?_)
 replace Rg3_0 := Pw46.range Rg3_0 (.inl Ng3_g9)
 replace Tg3 := Pw46.other_there Tg3 Ng3_g9
 replace Rg4_0 := Pw46.range Rg4_0 (.inl Ng4_g9)
 replace Tg4 := Pw46.other_there Tg4 Ng4_g9
 replace Rg5_0 := Pw46.range Rg5_0 (.inl Ng5_g9)
 replace Tg5 := Pw46.other_there Tg5 Ng5_g9
 replace Rg9_0 := RR
 clear RR
 replace Tg9 := TT
 replace Lg3 := Pw46.lt Lg3
 replace Lg4 := Pw46.lt Lg4
 replace Lg5 := Pw46.lt Lg5
 replace Lg9 := Pw46.lt Lg9
 replace BE := Pw46.below BE Gg9
 refine lNp (hK27 _ _ ?_)
 refine Z30 2 (by kernel_rfl) (fun Lk hLk => ?_)
 simp only [Z7, Z8]
 refine vBn (v := .int .i64 (k + 1 : Nat)) (hr := fun W => run_add (by simp only [IntKind.wrap_i64]; omega) W) ?_
 simp only [Z0, Z6]
 refine vMv (v := .int .i64 (k + 1 : Nat)) ?_
 simp only [Z0, Z6]
 refine Z19 (hLk.out _ ?_)
 simp only [Z7, Z8]
 iterate 2 refine Z28 (by rfl) ?_
 refine Z29 (fun w48 Sw48 hbs => ?_)
 clear hbs
 replace Rg3_0 := Z26 Rg3_0 Lg3 Sw48
 replace Tg3 := Z27 Tg3 Lg3 Sw48
 replace Rg4_0 := Z26 Rg4_0 Lg4 Sw48
 replace Tg4 := Z27 Tg4 Lg4 Sw48
 replace Rg5_0 := Z26 Rg5_0 Lg5 Sw48
 replace Tg5 := Z27 Tg5 Lg5 Sw48
 replace Rg9_0 := Z26 Rg9_0 Lg9 Sw48
 replace Tg9 := Z27 Tg9 Lg9 Sw48
 replace Lg3 := Z1 Lg3 Sw48.2.2.size
 replace Lg4 := Z1 Lg4 Sw48.2.2.size
 replace Lg5 := Z1 Lg5 Sw48.2.2.size
 replace Lg9 := Z1 Lg9 Sw48.2.2.size
 replace BE := BE.trans (Sw48.2.2.mono BE.size)
 refine Z14 (Z15 ?_)
 refine Exists.intro _ ⟨?_, (k + 1), (fun q9 => (#[Z9, Z9, Z9, Z9, Z9, Z9, .int .i64 k, .int .i64 (255 - k : Nat), Z9, Z9, .bool true, .int .i64 k, .int .i64 k, .int .i64 (255 - k : Nat), fe (fpow x (n / 2 ^ (256 - k))), fe (fpow x (n / 2 ^ (256 - k))), fe (fmul (fpow x (n / 2 ^ (256 - k))) (fpow x (n / 2 ^ (256 - k)))), .int .i64 (255 - k : Nat), .int .i64 ((255 - k) / 64 : Nat), .pointer (some ⟨g4, (255 - k) / 64, none⟩), .int .u64 (limbN n ((255 - k) / 64) : Nat), .int .i64 (255 - k : Nat), .int .i64 ((255 - k) % 64 : Nat), .int .u64 (limbN n ((255 - k) / 64) / 2 ^ ((255 - k) % 64) : Nat), .int .u64 (n / 2 ^ (255 - k) % 2 : Nat), .bool true, fe (fmul (fpow x (n / 2 ^ (256 - k))) (fpow x (n / 2 ^ (256 - k)))), fe x, fe (fmul (fmul (fpow x (n / 2 ^ (256 - k))) (fpow x (n / 2 ^ (256 - k)))) x), .int .i64 (k + 1 : Nat)] : Array Value).getD q9 Z9), rfl, rfl, BE, Rg3_0, Tg3, Lg3, Rg4_0, Tg4, Lg4, Rg5_0, Tg5, Lg5, (by rw [← (fpow_step x n k hk).1 hbit]; exact Rg9_0), Tg9, Lg9, (by omega)⟩
 omega
set_option maxHeartbeats 1000000 in
theorem finv_c {x : Nat} (hx : x < 2 ^ 256) (w : World) :
  Calls Tryd.prog 97 #[fe x] w fun e w' => e = .returned (fe (finv x)) ∧ Below w.heap.size w w' := by
 go_enter Tryd.func97, Tryd.ntmps97
 have BE := Below.refl w.heap.size w
 refine Z10 (fun K1 hK1 => ?_)
 refine Z30 2 (by kernel_rfl) (fun Lk hLk => ?_)
 simp only [Z7, Z8]
 refine vAl ?_
 refine vAl ?_
 refine Z19 (hLk.out _ ?_)
 simp only [Z7, Z8]
 refine wpN_new (t := 86) (cs := (fel x).toArray) (by rfl) (fun W => ?_) (fun g3 Hg3 ng3 => ?_)
 ·
  (first | rfl | go_simp)
 refine wpN_new (t := 86) (cs := ([.int .u64 0, .int .u64 0, .int .u64 0, .int .u64 0]).toArray) (by rfl) (fun W => ?_) (fun g4 Hg4 ng4 => ?_)
 ·
  go_simp
 simp only [Z0, Z6]
 refine Z29 (fun w5 Sw5 hbs => ?_)
 have Bg3 : Blk w5 g3 86 (fel x).toArray := hbs _ (List.mem_cons_of_mem _ (List.mem_cons_self ..))
 have Bg4 : Blk w5 g4 86 ([.int .u64 0, .int .u64 0, .int .u64 0, .int .u64 0]).toArray := hbs _ (List.mem_cons_self ..)
 clear hbs
 have Gg3 : w.heap.size ≤ g3 := Z3 BE.size Hg3
 have Ng3_g4 : g3 ≠ g4 := ng4 (g3, _, _) (List.mem_cons_self ..)
 have Gg4 : w.heap.size ≤ g4 := Z3 BE.size Hg4
 replace BE := BE.trans (Sw5.2.2.mono BE.size)
 have Tg3 := blk_there Bg3 (n := 4) (by simp [flen])
 have Rg3_0 := blk_range Bg3 (l := fel x) rfl
 have Lg3 := Bg3.lt
 have Tg4 := blk_there Bg4 (n := 4) (by simp [flen])
 have Rg4_0 := blk_range Bg4 (l := [.int .u64 0, .int .u64 0, .int .u64 0, .int .u64 0]) rfl
 have Lg4 := Bg4.lt
 clear ng3 ng4 Bg3 Bg4
 refine lNp (hK1 _ _ ?_)
 refine Z10 (fun K6 hK6 => ?_)
 refine Z30 7 (by kernel_rfl) (fun Lk hLk => ?_)
 simp only [Z7, Z8]
 refine Z25 (v := fe pF) (args := #[]) (by rfl) rfl Tryd.func132 (by kernel_rfl) (by kernel_rfl) rfl (fun W hW => prime_c W) ?_
 simp only [Z0, Z6]
 refine Z25 (v := fe 2) (args := #[.int .u64 2]) (by rfl) rfl Tryd.func91 (by kernel_rfl) (by kernel_rfl) rfl (fun W hW => of_c (n := 2) (by decide) W) ?_
 simp only [Z0, Z6]
 refine Z25 (v := .tuple #[fe (subW pF 2), .int .u64 (subB pF 2)]) (args := #[fe pF, fe 2]) (by rfl) rfl Tryd.func131 (by kernel_rfl) (by kernel_rfl) rfl (fun W hW => minus_c pF_lt (by decide) W) ?_
 simp only [Z0, Z6]
 refine vMv (v := .tuple #[fe (subW pF 2), .int .u64 (subB pF 2)]) ?_
 simp only [Z0, Z6]
 refine Z32 (v := fe (subW pF 2)) (by rfl) rfl rfl rfl ?_
 simp only [Z0, Z6]
 refine Z32 (v := .int .u64 (subB pF 2)) (by rfl) rfl rfl rfl ?_
 simp only [Z0, Z6]
 refine vAl ?_
 refine Z19 (hLk.out _ ?_)
 simp only [Z7, Z8]
 iterate 6 refine Z28 (by rfl) ?_
 refine wpN_new (t := 86) (cs := ([.int .u64 0, .int .u64 0, .int .u64 0, .int .u64 0]).toArray) (by rfl) (fun W => ?_) (fun g8 Hg8 ng8 => ?_)
 ·
  go_simp
 simp only [Z0, Z6]
 refine Z29 (fun w9 Sw9 hbs => ?_)
 have Bg8 : Blk w9 g8 86 ([.int .u64 0, .int .u64 0, .int .u64 0, .int .u64 0]).toArray := hbs _ (List.mem_cons_self ..)
 clear hbs
 have Ng3_g8 : g3 ≠ g8 := Z4 (Z1 Lg3 Hg8)
 have Ng4_g8 : g4 ≠ g8 := Z4 (Z1 Lg4 Hg8)
 have Gg8 : w.heap.size ≤ g8 := Z3 BE.size Hg8
 replace Rg3_0 := Z26 Rg3_0 Lg3 Sw9
 replace Tg3 := Z27 Tg3 Lg3 Sw9
 replace Rg4_0 := Z26 Rg4_0 Lg4 Sw9
 replace Tg4 := Z27 Tg4 Lg4 Sw9
 replace Lg3 := Z1 Lg3 Sw9.2.2.size
 replace Lg4 := Z1 Lg4 Sw9.2.2.size
 replace BE := BE.trans (Sw9.2.2.mono BE.size)
 have Tg8 := blk_there Bg8 (n := 4) (by simp [flen])
 have Rg8_0 := blk_range Bg8 (l := [.int .u64 0, .int .u64 0, .int .u64 0, .int .u64 0]) rfl
 have Lg8 := Bg8.lt
 clear ng8 Bg8
 refine lSt (g := g8) (off := 0) (n := 4) (cs := fel (subW pF 2)) Tg8 (by simp [flen]) info86 (fel_one _) (fun w10 Pw10 RR TT => ?_)
 replace Rg3_0 := Pw10.range Rg3_0 (.inl Ng3_g8)
 replace Tg3 := Pw10.other_there Tg3 Ng3_g8
 replace Rg4_0 := Pw10.range Rg4_0 (.inl Ng4_g8)
 replace Tg4 := Pw10.other_there Tg4 Ng4_g8
 replace Rg8_0 := RR
 clear RR
 replace Tg8 := TT
 replace Lg3 := Pw10.lt Lg3
 replace Lg4 := Pw10.lt Lg4
 replace Lg8 := Pw10.lt Lg8
 replace BE := Pw10.below BE Gg8
 refine lAs (v := .int .u64 (subB pF 2)) ?_
 simp only [Z0, Z6]
 refine lNp (hK6 _ _ ?_)
 refine Z10 (fun K11 hK11 => ?_)
 refine Z30 3 (by kernel_rfl) (fun Lk hLk => ?_)
 simp only [Z7, Z8]
 refine vLd (cs := fel x) Rg3_0 Lg3 U986 info86 ?_
 simp only [Z0, Z6]
 refine vLd (cs := fel (subW pF 2)) Rg8_0 Lg8 U986 info86 ?_
 simp only [Z0, Z6]
 refine Z25 (v := fe (fpow x (subW pF 2))) (args := #[fe x, fe (subW pF 2)]) (by rfl) rfl Tryd.func135 (by kernel_rfl) (by kernel_rfl) rfl (fun W hW => power_c hx (subW_lt ..) W) ?_
 simp only [Z0, Z6]
 refine Z19 (hLk.out _ ?_)
 simp only [Z7, Z8]
 iterate 3 refine Z28 (by rfl) ?_
 refine Z29 (fun w13 Sw13 hbs => ?_)
 clear hbs
 replace Rg3_0 := Z26 Rg3_0 Lg3 Sw13
 replace Tg3 := Z27 Tg3 Lg3 Sw13
 replace Rg4_0 := Z26 Rg4_0 Lg4 Sw13
 replace Tg4 := Z27 Tg4 Lg4 Sw13
 replace Rg8_0 := Z26 Rg8_0 Lg8 Sw13
 replace Tg8 := Z27 Tg8 Lg8 Sw13
 replace Lg3 := Z1 Lg3 Sw13.2.2.size
 replace Lg4 := Z1 Lg4 Sw13.2.2.size
 replace Lg8 := Z1 Lg8 Sw13.2.2.size
 replace BE := BE.trans (Sw13.2.2.mono BE.size)
 refine lSt (g := g4) (off := 0) (n := 4) (cs := fel (fpow x (subW pF 2))) Tg4 (by simp [flen]) info86 (fel_one _) (fun w14 Pw14 RR TT => ?_)
 replace Rg3_0 := Pw14.range Rg3_0 (.inl Ng3_g4)
 replace Tg3 := Pw14.other_there Tg3 Ng3_g4
 replace Rg8_0 := Pw14.range Rg8_0 (.inl (Ne.symm Ng4_g8))
 replace Tg8 := Pw14.other_there Tg8 (Ne.symm Ng4_g8)
 replace Rg4_0 := RR
 clear RR
 replace Tg4 := TT
 replace Lg3 := Pw14.lt Lg3
 replace Lg4 := Pw14.lt Lg4
 replace Lg8 := Pw14.lt Lg8
 replace BE := Pw14.below BE Gg4
 refine lNp (hK11 _ _ ?_)
 refine wp_ret ?_
 repeat (first | with_reducible refine then_ret ?_ | with_reducible refine inblock_ret ?_)
 refine bodyPost_ret (v := fe (fpow x (subW pF 2))) (res1 rfl (.cell (by rfl) (run_loadVar_mid _ _ _ _ (fel (fpow x (subW pF 2))) _ Rg4_0 U986 rfl info86))) rfl ?_
 exact ⟨by rw [inv_exp]; rfl, BE⟩
end Go.Proofs.Ya

namespace Go.Proofs.Ya
open Go Go.RowKit Go.Shelf Go.Proofs.Num
open Tryd renaming underlying128 → U9128, underlying40 → U940, underlying80 → U980
open Go.Proofs.Num  renaming putT → Z0
open Nat renaming lt_of_lt_of_le → Z1, zero_add → Z2, le_trans → Z3, ne_of_lt → Z4
open List renaming set → Z6, take → Z7, drop → Z8
open Go renaming undef → Z9, wp_seq_k → Z10, wp_cond_true → Z11, wp_cond_false → Z12
open Go.Proofs.Num renaming wpL_nil → Z14, no_panic → Z15, wpV_nil → Z19, then_normal → Z22, wpV_callf → Z25, range_sees → Z26, there_sees → Z27, wpN_skip → Z28, wpN_nil → Z29, wp_region_plain → Z30, wpV_extract → Z32, wpV_load1 → Z34
theorem info80 : (Tryd.prog.info? 80).map (·.size) = some 4 := by kernel_rfl
set_option maxHeartbeats 2000000 in
theorem rest_c {n N gp cap : Nat} (hn : n ≤ 8) (hN : N < 2 ^ (64 * n)) {w : World} (Lgp : gp < w.heap.size) (Rgp_0 : w.rangeAt gp 0 (wl n N)) :
  Calls Tryd.prog 86 #[.slice (some ⟨gp, 0, none⟩) n cap] w fun e w' => e = .returned (fe (restS N)) ∧ Below w.heap.size w w' := by
 go_enter Tryd.func86, Tryd.ntmps86
 have BE := Below.refl w.heap.size w
 refine Z10 (fun K1 hK1 => ?_)
 refine Z30 1 (by kernel_rfl) (fun Lk hLk => ?_)
 simp only [Z7, Z8]
 refine vAl ?_
 refine Z19 (hLk.out _ ?_)
 simp only [Z7, Z8]
 refine wpN_new (t := 80) (cs := ([.int .u64 0, .int .u64 0, .int .u64 0, .int .u64 0]).toArray) (by rfl) (fun W => ?_) (fun g3 Hg3 ng3 => ?_)
 ·
  go_simp
 simp only [Z0, Z6]
 refine Z29 (fun w4 Sw4 hbs => ?_)
 have Bg3 : Blk w4 g3 80 ([.int .u64 0, .int .u64 0, .int .u64 0, .int .u64 0]).toArray := hbs _ (List.mem_cons_self ..)
 clear hbs
 have Ngp_g3 : gp ≠ g3 := Z4 (Z1 Lgp Hg3)
 have Gg3 : w.heap.size ≤ g3 := Z3 BE.size Hg3
 replace Rgp_0 := Z26 Rgp_0 Lgp Sw4
 replace Lgp := Z1 Lgp Sw4.2.2.size
 replace BE := BE.trans (Sw4.2.2.mono BE.size)
 have Tg3 := blk_there Bg3 (n := 4) (by simp [flen])
 have Rg3_0 := blk_range Bg3 (l := [.int .u64 0, .int .u64 0, .int .u64 0, .int .u64 0]) rfl
 have Lg3 := Bg3.lt
 clear ng3 Bg3
 refine lNp (hK1 _ _ ?_)
 refine Z10 (fun K5 hK5 => ?_)
 refine Z30 1 (by kernel_rfl) (fun Lk hLk => ?_)
 simp only [Z7, Z8]
 refine vAl ?_
 refine Z19 (hLk.out _ ?_)
 simp only [Z7, Z8]
 refine wpN_new (t := 80) (cs := ([.int .u64 0, .int .u64 0, .int .u64 0, .int .u64 0]).toArray) (by rfl) (fun W => ?_) (fun g7 Hg7 ng7 => ?_)
 ·
  go_simp
 simp only [Z0, Z6]
 refine Z29 (fun w8 Sw8 hbs => ?_)
 have Bg7 : Blk w8 g7 80 ([.int .u64 0, .int .u64 0, .int .u64 0, .int .u64 0]).toArray := hbs _ (List.mem_cons_self ..)
 clear hbs
 have Ngp_g7 : gp ≠ g7 := Z4 (Z1 Lgp Hg7)
 have Ng3_g7 : g3 ≠ g7 := Z4 (Z1 Lg3 Hg7)
 have Gg7 : w.heap.size ≤ g7 := Z3 BE.size Hg7
 replace Rgp_0 := Z26 Rgp_0 Lgp Sw8
 replace Rg3_0 := Z26 Rg3_0 Lg3 Sw8
 replace Tg3 := Z27 Tg3 Lg3 Sw8
 replace Lgp := Z1 Lgp Sw8.2.2.size
 replace Lg3 := Z1 Lg3 Sw8.2.2.size
 replace BE := BE.trans (Sw8.2.2.mono BE.size)
 have Tg7 := blk_there Bg7 (n := 4) (by simp [flen])
 have Rg7_0 := blk_range Bg7 (l := [.int .u64 0, .int .u64 0, .int .u64 0, .int .u64 0]) rfl
 have Lg7 := Bg7.lt
 clear ng7 Bg7
 refine lNp (hK5 _ _ ?_)
 refine Z10 (fun K9 hK9 => ?_)
 refine Z10 (fun K10 hK10 => ?_)
 refine Z30 4 (by kernel_rfl) (fun Lk hLk => ?_)
 simp only [Z7, Z8]
 refine vMv (v := .slice (some ⟨gp, 0, none⟩) n cap) ?_
 simp only [Z0, Z6]
 refine wpV_lenA (n := n) (by rfl) rfl rfl rfl U9128 ?_
 simp only [Z0, Z6]
 refine vBn (v := .int .i64 (64 * n : Nat)) (hr := fun W => run_mul (by simp only [IntKind.wrap_i64]; omega) W) ?_
 simp only [Z0, Z6]
 refine vBn (v := .int .i64 (((64 * n : Nat) : Int) - 1)) (hr := fun W => run_sub (by simp only [IntKind.wrap_i64]; omega) W) ?_
 simp only [Z0, Z6]
 refine Z19 (hLk.out _ ?_)
 simp only [Z7, Z8]
 iterate 4 refine Z28 (by rfl) ?_
 refine Z29 (fun w12 Sw12 hbs => ?_)
 clear hbs
 replace Rgp_0 := Z26 Rgp_0 Lgp Sw12
 replace Rg3_0 := Z26 Rg3_0 Lg3 Sw12
 replace Tg3 := Z27 Tg3 Lg3 Sw12
 replace Rg7_0 := Z26 Rg7_0 Lg7 Sw12
 replace Tg7 := Z27 Tg7 Lg7 Sw12
 replace Lgp := Z1 Lgp Sw12.2.2.size
 replace Lg3 := Z1 Lg3 Sw12.2.2.size
 replace Lg7 := Z1 Lg7 Sw12.2.2.size
 replace BE := BE.trans (Sw12.2.2.mono BE.size)
 refine lAs (v := .int .i64 (((64 * n : Nat) : Int) - 1)) ?_
 simp only [Z0, Z6]
 refine lNp (hK10 _ _ ?_)
 refine wp_block ?_
 refine wp_loop_ghost (fun n9 a9 W9 => ∃ (k : Nat) (u13 : Nat → Value), n9 = 2 * k ∧ a9 = { tmps := #[.slice (some ⟨gp, 0, none⟩) n cap, Z9, .pointer (some ⟨g3, 0, none⟩), .pointer (some ⟨g7, 0, none⟩), .int .i64 (((k : Nat) : Int) - 1), u13 5, u13 6, u13 7, u13 8, u13 9, .slice (some ⟨gp, 0, none⟩) n cap, .int .i64 n, .int .i64 (64 * n : Nat), .int .i64 (((64 * n : Nat) : Int) - 1), u13 14, u13 15, u13 16, u13 17, u13 18, u13 19, u13 20, u13 21, u13 22, u13 23, u13 24, u13 25, u13 26, u13 27, u13 28, u13 29, u13 30, u13 31, u13 32, u13 33, u13 34, u13 35, u13 36, u13 37, u13 38, u13 39, u13 40, u13 41, u13 42, u13 43, u13 44, u13 45, u13 46, u13 47, u13 48, u13 49, u13 50, u13 51, u13 52, Z9], defers := [] } ∧ Below w.heap.size w W9 ∧ World.rangeAt W9 gp 0 (wl n N) ∧ gp < W9.heap.size ∧ World.rangeAt W9 g3 0 ([.int .u64 0, .int .u64 0, .int .u64 0, .int .u64 0]) ∧ World.there W9 g3 0 4 ∧ g3 < W9.heap.size ∧ World.rangeAt W9 g7 0 (fel (N / 2 ^ k % ordL)) ∧ World.there W9 g7 0 4 ∧ g7 < W9.heap.size ∧ (k ≤ 64 * n)) (2 * (64 * n)) ?_ (fun n9 a9 W9 hI => ?_)
 ·
  exact ⟨(64 * n), (fun q9 => (#[Z9, Z9, Z9, Z9, Z9, Z9, Z9, Z9, Z9, Z9, Z9, Z9, Z9, Z9, Z9, Z9, Z9, Z9, Z9, Z9, Z9, Z9, Z9, Z9, Z9, Z9, Z9, Z9, Z9, Z9, Z9, Z9, Z9, Z9, Z9, Z9, Z9, Z9, Z9, Z9, Z9, Z9, Z9, Z9, Z9, Z9, Z9, Z9, Z9, Z9, Z9, Z9, Z9] : Array Value).getD q9 Z9), rfl, rfl, BE, Rgp_0, Lgp, Rg3_0, Tg3, Lg3, (by rw [Nat.div_eq_of_lt hN]; exact Rg7_0), Tg7, Lg7, (by omega)⟩
 clear BE Rgp_0 Rg3_0 Rg7_0 Tg3 Tg7 Lgp Lg3 Lg7
 obtain ⟨k, u13, rfl, rfl, BE, Rgp_0, Lgp, Rg3_0, Tg3, Lg3, Rg7_0, Tg7, Lg7, hk8⟩ := hI
 obtain ⟨w14, rfl⟩ : ∃ W8, W8 = W9 := ⟨_, rfl⟩
 refine Z10 (fun K15 hK15 => ?_)
 refine Z10 (fun K16 hK16 => ?_)
 refine Z30 2 (by kernel_rfl) (fun Lk hLk => ?_)
 simp only [Z7, Z8]
 refine vMv (v := .int .i64 (((k : Nat) : Int) - 1)) ?_
 simp only [Z0, Z6]
 refine vBn (v := .bool (decide (0 ≤ ((k : Nat) : Int) - 1))) (hr := fun W => run_geq _ _ _ _ W) ?_
 simp only [Z0, Z6]
 refine Z19 (hLk.out _ ?_)
 simp only [Z7, Z8]
 iterate 2 refine Z28 (by rfl) ?_
 refine Z29 (fun w18 Sw18 hbs => ?_)
 clear hbs
 replace Rgp_0 := Z26 Rgp_0 Lgp Sw18
 replace Rg3_0 := Z26 Rg3_0 Lg3 Sw18
 replace Tg3 := Z27 Tg3 Lg3 Sw18
 replace Rg7_0 := Z26 Rg7_0 Lg7 Sw18
 replace Tg7 := Z27 Tg7 Lg7 Sw18
 replace Lgp := Z1 Lgp Sw18.2.2.size
 replace Lg3 := Z1 Lg3 Sw18.2.2.size
 replace Lg7 := Z1 Lg7 Sw18.2.2.size
 replace BE := BE.trans (Sw18.2.2.mono BE.size)
 refine lNp (hK16 _ _ ?_)
 cases hc19 : (decide (0 ≤ ((k : Nat) : Int) - 1))
 ·
  have ek : k = 0 := by have := of_decide_eq_false hc19; omega
  subst ek
  refine Z12 rfl ?_
  refine wp_exit ?_
  refine hK9 _ _ ?_
  refine Z10 (fun K20 hK20 => ?_)
  refine Z30 1 (by kernel_rfl) (fun Lk hLk => ?_)
  simp only [Z7, Z8]
  refine vLd (cs := fel (N / 2 ^ 0 % ordL)) Rg7_0 Lg7 U980 info80 ?_
  simp only [Z0, Z6]
  refine Z19 (hLk.out _ ?_)
  simp only [Z7, Z8]
  iterate 1 refine Z28 (by rfl) ?_
  refine Z29 (fun w22 Sw22 hbs => ?_)
  clear hbs
  replace Rgp_0 := Z26 Rgp_0 Lgp Sw22
  replace Rg3_0 := Z26 Rg3_0 Lg3 Sw22
  replace Tg3 := Z27 Tg3 Lg3 Sw22
  replace Rg7_0 := Z26 Rg7_0 Lg7 Sw22
  replace Tg7 := Z27 Tg7 Lg7 Sw22
  replace Lgp := Z1 Lgp Sw22.2.2.size
  replace Lg3 := Z1 Lg3 Sw22.2.2.size
  replace Lg7 := Z1 Lg7 Sw22.2.2.size
  replace BE := BE.trans (Sw22.2.2.mono BE.size)
  refine lSt (g := g3) (off := 0) (n := 4) (cs := fel (N / 2 ^ 0 % ordL)) Tg3 (by simp [flen]) info80 (fel_one _) (fun w23 Pw23 RR TT => ?_)
  replace Rgp_0 := Pw23.range Rgp_0 (.inl Ngp_g3)
  replace Rg7_0 := Pw23.range Rg7_0 (.inl (Ne.symm Ng3_g7))
  replace Tg7 := Pw23.other_there Tg7 (Ne.symm Ng3_g7)
  replace Rg3_0 := RR
  clear RR
  replace Tg3 := TT
  replace Lgp := Pw23.lt Lgp
  replace Lg3 := Pw23.lt Lg3
  replace Lg7 := Pw23.lt Lg7
  replace BE := Pw23.below BE Gg3
  refine lNp (hK20 _ _ ?_)
  refine wp_ret ?_
  repeat (first | with_reducible refine then_ret ?_ | with_reducible refine inblock_ret ?_)
  refine bodyPost_ret (v := fe (N / 2 ^ 0 % ordL)) (res1 rfl (.cell (by rfl) (run_loadVar_mid _ _ _ _ (fel (N / 2 ^ 0 % ordL)) _ Rg3_0 U980 rfl info80))) rfl ?_
  exact ⟨by rw [show N / 2 ^ 0 = N by simp]; rfl, BE⟩
 obtain ⟨j, rfl⟩ : ∃ j, k = j + 1 := ⟨k - 1, by have := of_decide_eq_true hc19; omega⟩
 rw [show (((j + 1 : Nat) : Int) - 1) = ((j : Nat) : Int) by omega]
 refine Z11 rfl ?_
 refine wp_skip ?_
 refine hK15 _ _ ?_
 refine Z10 (fun K24 hK24 => ?_)
 refine wp_block ?_
 refine Z10 (fun K25 hK25 => ?_)
 refine Z30 9 (by kernel_rfl) (fun Lk hLk => ?_)
 simp only [Z7, Z8]
 refine vMv (v := .slice (some ⟨gp, 0, none⟩) n cap) ?_
 simp only [Z0, Z6]
 refine vMv (v := .int .i64 j) ?_
 simp only [Z0, Z6]
 refine vBn (v := .int .i64 (j / 64 : Nat)) (hr := fun W => run_quo (by decide) ((congrArg _ (tdiv_nat j 64)).trans (wrap_nat _ (by omega))) W) ?_
 simp only [Z0, Z6]
 refine wpV_idxs (n := j / 64) (by rfl) rfl rfl rfl U9128 info40 (by omega) ?_
 simp only [Z2]
 simp only [Z0, Z6]
 refine Z34 (v := .int .u64 (limbN N (j / 64) : Nat)) (by rfl) rfl rfl (by have := Rgp_0 _ _ (wl_get (j := j / 64) n N (by omega)); rwa [Z2] at this) Lgp U940 rfl ?_
 simp only [Z0, Z6]
 refine vMv (v := .int .i64 j) ?_
 simp only [Z0, Z6]
 refine vBn (v := .int .i64 (j % 64 : Nat)) (hr := fun W => run_rem (by decide) (tmod_nat j 64) W) ?_
 simp only [Z0, Z6]
 refine vBn (v := .int .u64 (limbN N (j / 64) / 2 ^ (j % 64) : Nat)) (hr := fun W => run_shr (m := limbN N (j / 64)) (n := j % 64) (by show _ ≤ 64; omega) rfl W) ?_
 simp only [Z0, Z6]
 refine vBn (v := .int .u64 (N / 2 ^ j % 2 : Nat)) (hr := fun W => run_and (bitN_of N j) W) ?_
 simp only [Z0, Z6]
 refine Z19 (hLk.out _ ?_)
 simp only [Z7, Z8]
 iterate 9 refine Z28 (by rfl) ?_
 refine Z29 (fun w27 Sw27 hbs => ?_)
 clear hbs
 replace Rgp_0 := Z26 Rgp_0 Lgp Sw27
 replace Rg3_0 := Z26 Rg3_0 Lg3 Sw27
 replace Tg3 := Z27 Tg3 Lg3 Sw27
 replace Rg7_0 := Z26 Rg7_0 Lg7 Sw27
 replace Tg7 := Z27 Tg7 Lg7 Sw27
 replace Lgp := Z1 Lgp Sw27.2.2.size
 replace Lg3 := Z1 Lg3 Sw27.2.2.size
 replace Lg7 := Z1 Lg7 Sw27.2.2.size
 replace BE := BE.trans (Sw27.2.2.mono BE.size)
 refine lAs (v := .int .u64 (N / 2 ^ j % 2 : Nat)) ?_
 simp only [Z0, Z6]
 refine lNp (hK25 _ _ ?_)
 refine Z10 (fun K28 hK28 => ?_)
 refine Z10 (fun K29 hK29 => ?_)
 have R9 : World.rangeAt w27 g7 0 ([.int .u64 (limb (N / 2 ^ (j + 1) % ordL) 0), .int .u64 (limb (N / 2 ^ (j + 1) % ordL) 1), .int .u64 (limb (N / 2 ^ (j + 1) % ordL) 2), .int .u64 (limb (N / 2 ^ (j + 1) % ordL) 3)]) := Rg7_0
 clear Rg7_0
 have Rg7_0 := R9
 clear R9
 refine Z30 1 (by kernel_rfl) (fun Lk hLk => ?_)
 simp only [Z7, Z8]
 refine vMv (v := .int .i64 0) ?_
 simp only [Z0, Z6]
 refine Z19 (hLk.out _ ?_)
 simp only [Z7, Z8]
 iterate 1 refine Z28 (by rfl) ?_
 refine Z29 (fun w31 Sw31 hbs => ?_)
 clear hbs
 replace Rgp_0 := Z26 Rgp_0 Lgp Sw31
 replace Rg3_0 := Z26 Rg3_0 Lg3 Sw31
 replace Tg3 := Z27 Tg3 Lg3 Sw31
 replace Rg7_0 := Z26 Rg7_0 Lg7 Sw31
 replace Tg7 := Z27 Tg7 Lg7 Sw31
 replace Lgp := Z1 Lgp Sw31.2.2.size
 replace Lg3 := Z1 Lg3 Sw31.2.2.size
 replace Lg7 := Z1 Lg7 Sw31.2.2.size
 replace BE := BE.trans (Sw31.2.2.mono BE.size)
 refine lNp (hK29 _ _ ?_)
 refine wp_block ?_
 refine wp_loop_rounds 5 ?_
 rw [rounds_succ]
 refine Z10 (fun K32 hK32 => ?_)
 refine Z30 1 (by kernel_rfl) (fun Lk hLk => ?_)
 simp only [Z7, Z8]
 refine vBn (v := .bool true) (hr := fun W => run_lss _ _ _ _ W) ?_
 simp only [Z0, Z6]
 refine Z19 (hLk.out _ ?_)
 simp only [Z7, Z8]
 iterate 1 refine Z28 (by rfl) ?_
 refine Z29 (fun w34 Sw34 hbs => ?_)
 clear hbs
 replace Rgp_0 := Z26 Rgp_0 Lgp Sw34
 replace Rg3_0 := Z26 Rg3_0 Lg3 Sw34
 replace Tg3 := Z27 Tg3 Lg3 Sw34
 replace Rg7_0 := Z26 Rg7_0 Lg7 Sw34
 replace Tg7 := Z27 Tg7 Lg7 Sw34
 replace Lgp := Z1 Lgp Sw34.2.2.size
 replace Lg3 := Z1 Lg3 Sw34.2.2.size
 replace Lg7 := Z1 Lg7 Sw34.2.2.size
 replace BE := BE.trans (Sw34.2.2.mono BE.size)
 refine lNp (hK32 _ _ ?_)
 refine Z10 (fun K35 hK35 => ?_)
 refine Z11 rfl ?_
 refine wp_skip ?_
 refine hK35 _ _ ?_
 refine Z10 (fun K36 hK36 => ?_)
 refine wp_block ?_
 refine Z10 (fun K37 hK37 => ?_)
 refine Z30 1 (by kernel_rfl) (fun Lk hLk => ?_)
 simp only [Z7, Z8]
 refine vMv (v := .int .i64 0) ?_
 simp only [Z0, Z6]
 refine Z19 (hLk.out _ ?_)
 simp only [Z7, Z8]
 iterate 1 refine Z28 (by rfl) ?_
 refine Z29 (fun w39 Sw39 hbs => ?_)
 clear hbs
 replace Rgp_0 := Z26 Rgp_0 Lgp Sw39
 replace Rg3_0 := Z26 Rg3_0 Lg3 Sw39
 replace Tg3 := Z27 Tg3 Lg3 Sw39
 replace Rg7_0 := Z26 Rg7_0 Lg7 Sw39
 replace Tg7 := Z27 Tg7 Lg7 Sw39
 replace Lgp := Z1 Lgp Sw39.2.2.size
 replace Lg3 := Z1 Lg3 Sw39.2.2.size
 replace Lg7 := Z1 Lg7 Sw39.2.2.size
 replace BE := BE.trans (Sw39.2.2.mono BE.size)
 refine lAs (v := .int .i64 0) ?_
 simp only [Z0, Z6]
 refine lNp (hK37 _ _ ?_)
 refine Z10 (fun K40 hK40 => ?_)
 refine Z30 4 (by kernel_rfl) (fun Lk hLk => ?_)
 simp only [Z7, Z8]
 refine vMv (v := .int .i64 0) ?_
 simp only [Z0, Z6]
 refine vGo (v := .pointer (some ⟨g7, 0, none⟩)) ?_
 simp only [Z0, Z6]
 refine vL1 (v := .int .u64 (limb (N / 2 ^ (j + 1) % ordL) 0)) (range_one (range_sub Rg7_0 0 1 0 (xs := [.int .u64 (limb (N / 2 ^ (j + 1) % ordL) 0)]) rfl rfl)) Lg7 U940 ?_
 simp only [Z0, Z6]
 refine vBn (v := .int .u64 (top (limb (N / 2 ^ (j + 1) % ordL) 0))) (hr := fun W => run_top (limb_nn _ _) W) ?_
 simp only [Z0, Z6]
 refine Z19 (hLk.out _ ?_)
 simp only [Z7, Z8]
 iterate 4 refine Z28 (by rfl) ?_
 refine Z29 (fun w42 Sw42 hbs => ?_)
 clear hbs
 replace Rgp_0 := Z26 Rgp_0 Lgp Sw42
 replace Rg3_0 := Z26 Rg3_0 Lg3 Sw42
 replace Tg3 := Z27 Tg3 Lg3 Sw42
 replace Rg7_0 := Z26 Rg7_0 Lg7 Sw42
 replace Tg7 := Z27 Tg7 Lg7 Sw42
 replace Lgp := Z1 Lgp Sw42.2.2.size
 replace Lg3 := Z1 Lg3 Sw42.2.2.size
 replace Lg7 := Z1 Lg7 Sw42.2.2.size
 replace BE := BE.trans (Sw42.2.2.mono BE.size)
 refine lAs (v := .int .u64 (top (limb (N / 2 ^ (j + 1) % ordL) 0))) ?_
 simp only [Z0, Z6]
 refine lNp (hK40 _ _ ?_)
 refine Z30 9 (by kernel_rfl) (fun Lk hLk => ?_)
 simp only [Z7, Z8]
 refine vMv (v := .int .i64 0) ?_
 simp only [Z0, Z6]
 refine vMv (v := .int .i64 0) ?_
 simp only [Z0, Z6]
 refine vGo (v := .pointer (some ⟨g7, 0, none⟩)) ?_
 simp only [Z0, Z6]
 refine vL1 (v := .int .u64 (limb (N / 2 ^ (j + 1) % ordL) 0)) (range_one (range_sub Rg7_0 0 1 0 (xs := [.int .u64 (limb (N / 2 ^ (j + 1) % ordL) 0)]) rfl rfl)) Lg7 U940 ?_
 simp only [Z0, Z6]
 refine vBn (v := .int .u64 (IntKind.u64.wrap ((limb (N / 2 ^ (j + 1) % ordL) 0) * 2))) (hr := fun W => run_shl1 (limb_nn _ _) W) ?_
 simp only [Z0, Z6]
 refine vMv (v := .int .u64 (N / 2 ^ j % 2 : Nat)) ?_
 simp only [Z0, Z6]
 refine vBn (v := .int .u64 (shb (limb (N / 2 ^ (j + 1) % ordL) 0) ((N / 2 ^ j % 2 : Nat) : Int))) (hr := fun W => run_or rfl W) ?_
 simp only [Z0, Z6]
 refine vMv (v := .int .u64 (top (limb (N / 2 ^ (j + 1) % ordL) 0))) ?_
 simp only [Z0, Z6]
 refine vGo (v := .pointer (some ⟨g7, 0, none⟩)) ?_
 simp only [Z0, Z6]
 refine Z19 (hLk.out _ ?_)
 simp only [Z7, Z8]
 iterate 9 refine Z28 (by rfl) ?_
 refine Z29 (fun w44 Sw44 hbs => ?_)
 clear hbs
 replace Rgp_0 := Z26 Rgp_0 Lgp Sw44
 replace Rg3_0 := Z26 Rg3_0 Lg3 Sw44
 replace Tg3 := Z27 Tg3 Lg3 Sw44
 replace Rg7_0 := Z26 Rg7_0 Lg7 Sw44
 replace Tg7 := Z27 Tg7 Lg7 Sw44
 replace Lgp := Z1 Lgp Sw44.2.2.size
 replace Lg3 := Z1 Lg3 Sw44.2.2.size
 replace Lg7 := Z1 Lg7 Sw44.2.2.size
 replace BE := BE.trans (Sw44.2.2.mono BE.size)
 refine lS1 (g := g7) (off := 0) (n := 4) (v := .int .u64 (shb (limb (N / 2 ^ (j + 1) % ordL) 0) ((N / 2 ^ j % 2 : Nat) : Int))) Tg7 (by decide) info40 rfl (fun w45 Pw45 RR TT => ?_)
 replace Rgp_0 := Pw45.range Rgp_0 (.inl Ngp_g7)
 replace Rg3_0 := Pw45.range Rg3_0 (.inl Ng3_g7)
 replace Tg3 := Pw45.other_there Tg3 Ng3_g7
 have RQ := (range_append (xs := [.int .u64 (limb (N / 2 ^ (j + 1) % ordL) 0)]) (ys := [.int .u64 (limb (N / 2 ^ (j + 1) % ordL) 1), .int .u64 (limb (N / 2 ^ (j + 1) % ordL) 2), .int .u64 (limb (N / 2 ^ (j + 1) % ordL) 3)]) Rg7_0).2
 replace RQ := Pw45.range RQ (.inr (.inr (by simp)))
 have Rg7_1 : World.rangeAt w45 g7 1 [.int .u64 (limb (N / 2 ^ (j + 1) % ordL) 1), .int .u64 (limb (N / 2 ^ (j + 1) % ordL) 2), .int .u64 (limb (N / 2 ^ (j + 1) % ordL) 3)] := RQ
 clear RQ
 replace Rg7_0 := RR
 clear RR
 replace Tg7 := TT
 replace Lgp := Pw45.lt Lgp
 replace Lg3 := Pw45.lt Lg3
 replace Lg7 := Pw45.lt Lg7
 replace BE := Pw45.below BE Gg7
 refine lAs (v := .int .u64 (top (limb (N / 2 ^ (j + 1) % ordL) 0))) ?_
 simp only [Z0, Z6]
 refine lNp (hK36 _ _ ?_)
 refine Z30 2 (by kernel_rfl) (fun Lk hLk => ?_)
 simp only [Z7, Z8]
 refine vBn (v := .int .i64 1) (hr := fun W => run_add (by decide) W) ?_
 simp only [Z0, Z6]
 refine vMv (v := .int .i64 1) ?_
 simp only [Z0, Z6]
 refine Z19 (hLk.out _ ?_)
 simp only [Z7, Z8]
 iterate 2 refine Z28 (by rfl) ?_
 refine Z29 (fun w47 Sw47 hbs => ?_)
 clear hbs
 replace Rgp_0 := Z26 Rgp_0 Lgp Sw47
 replace Rg3_0 := Z26 Rg3_0 Lg3 Sw47
 replace Tg3 := Z27 Tg3 Lg3 Sw47
 replace Rg7_0 := Z26 Rg7_0 Lg7 Sw47
 replace Rg7_1 := Z26 Rg7_1 Lg7 Sw47
 replace Tg7 := Z27 Tg7 Lg7 Sw47
 replace Lgp := Z1 Lgp Sw47.2.2.size
 replace Lg3 := Z1 Lg3 Sw47.2.2.size
 replace Lg7 := Z1 Lg7 Sw47.2.2.size
 replace BE := BE.trans (Sw47.2.2.mono BE.size)
 refine Z14 (Z15 ?_)
 refine Z22 (Q := fun _ _ _ => True) ?_
 rw [rounds_succ]
 refine Z10 (fun K48 hK48 => ?_)
 refine Z30 1 (by kernel_rfl) (fun Lk hLk => ?_)
 simp only [Z7, Z8]
 refine vBn (v := .bool true) (hr := fun W => run_lss _ _ _ _ W) ?_
 simp only [Z0, Z6]
 refine Z19 (hLk.out _ ?_)
 simp only [Z7, Z8]
 iterate 1 refine Z28 (by rfl) ?_
 refine Z29 (fun w50 Sw50 hbs => ?_)
 clear hbs
 replace Rgp_0 := Z26 Rgp_0 Lgp Sw50
 replace Rg3_0 := Z26 Rg3_0 Lg3 Sw50
 replace Tg3 := Z27 Tg3 Lg3 Sw50
 replace Rg7_0 := Z26 Rg7_0 Lg7 Sw50
 replace Rg7_1 := Z26 Rg7_1 Lg7 Sw50
 replace Tg7 := Z27 Tg7 Lg7 Sw50
 replace Lgp := Z1 Lgp Sw50.2.2.size
 replace Lg3 := Z1 Lg3 Sw50.2.2.size
 replace Lg7 := Z1 Lg7 Sw50.2.2.size
 replace BE := BE.trans (Sw50.2.2.mono BE.size)
 refine lNp (hK48 _ _ ?_)
 refine Z10 (fun K51 hK51 => ?_)
 refine Z11 rfl ?_
 refine wp_skip ?_
 refine hK51 _ _ ?_
 refine Z10 (fun K52 hK52 => ?_)
 refine wp_block ?_
 refine Z10 (fun K53 hK53 => ?_)
 refine Z30 1 (by kernel_rfl) (fun Lk hLk => ?_)
 simp only [Z7, Z8]
 refine vMv (v := .int .i64 1) ?_
 simp only [Z0, Z6]
 refine Z19 (hLk.out _ ?_)
 simp only [Z7, Z8]
 iterate 1 refine Z28 (by rfl) ?_
 refine Z29 (fun w55 Sw55 hbs => ?_)
 clear hbs
 replace Rgp_0 := Z26 Rgp_0 Lgp Sw55
 replace Rg3_0 := Z26 Rg3_0 Lg3 Sw55
 replace Tg3 := Z27 Tg3 Lg3 Sw55
 replace Rg7_0 := Z26 Rg7_0 Lg7 Sw55
 replace Rg7_1 := Z26 Rg7_1 Lg7 Sw55
 replace Tg7 := Z27 Tg7 Lg7 Sw55
 replace Lgp := Z1 Lgp Sw55.2.2.size
 replace Lg3 := Z1 Lg3 Sw55.2.2.size
 replace Lg7 := Z1 Lg7 Sw55.2.2.size
 replace BE := BE.trans (Sw55.2.2.mono BE.size)
 refine lAs (v := .int .i64 1) ?_
 simp only [Z0, Z6]
 refine lNp (hK53 _ _ ?_)
 refine Z10 (fun K56 hK56 => ?_)
 refine Z30 4 (by kernel_rfl) (fun Lk hLk => ?_)
 simp only [Z7, Z8]
 refine vMv (v := .int .i64 1) ?_
 simp only [Z0, Z6]
 refine vGo (v := .pointer (some ⟨g7, 1, none⟩)) ?_
 simp only [Z0, Z6]
 refine vL1 (v := .int .u64 (limb (N / 2 ^ (j + 1) % ordL) 1)) (range_one (range_sub Rg7_1 0 1 1 (xs := [.int .u64 (limb (N / 2 ^ (j + 1) % ordL) 1)]) rfl rfl)) Lg7 U940 ?_
 simp only [Z0, Z6]
 refine vBn (v := .int .u64 (top (limb (N / 2 ^ (j + 1) % ordL) 1))) (hr := fun W => run_top (limb_nn _ _) W) ?_
 simp only [Z0, Z6]
 refine Z19 (hLk.out _ ?_)
 simp only [Z7, Z8]
 iterate 4 refine Z28 (by rfl) ?_
 refine Z29 (fun w58 Sw58 hbs => ?_)
 clear hbs
 replace Rgp_0 := Z26 Rgp_0 Lgp Sw58
 replace Rg3_0 := Z26 Rg3_0 Lg3 Sw58
 replace Tg3 := Z27 Tg3 Lg3 Sw58
 replace Rg7_0 := Z26 Rg7_0 Lg7 Sw58
 replace Rg7_1 := Z26 Rg7_1 Lg7 Sw58
 replace Tg7 := Z27 Tg7 Lg7 Sw58
 replace Lgp := Z1 Lgp Sw58.2.2.size
 replace Lg3 := Z1 Lg3 Sw58.2.2.size
 replace Lg7 := Z1 Lg7 Sw58.2.2.size
 replace BE := BE.trans (Sw58.2.2.mono BE.size)
 refine lAs (v := .int .u64 (top (limb (N / 2 ^ (j + 1) % ordL) 1))) ?_
 simp only [Z0, Z6]
 refine lNp (hK56 _ _ ?_)
 refine Z30 9 (by kernel_rfl) (fun Lk hLk => ?_)
 simp only [Z7, Z8]
 refine vMv (v := .int .i64 1) ?_
 simp only [Z0, Z6]
 refine vMv (v := .int .i64 1) ?_
 simp only [Z0, Z6]
 refine vGo (v := .pointer (some ⟨g7, 1, none⟩)) ?_
 simp only [Z0, Z6]
 refine vL1 (v := .int .u64 (limb (N / 2 ^ (j + 1) % ordL) 1)) (range_one (range_sub Rg7_1 0 1 1 (xs := [.int .u64 (limb (N / 2 ^ (j + 1) % ordL) 1)]) rfl rfl)) Lg7 U940 ?_
 simp only [Z0, Z6]
 refine vBn (v := .int .u64 (IntKind.u64.wrap ((limb (N / 2 ^ (j + 1) % ordL) 1) * 2))) (hr := fun W => run_shl1 (limb_nn _ _) W) ?_
 simp only [Z0, Z6]
 refine vMv (v := .int .u64 (top (limb (N / 2 ^ (j + 1) % ordL) 0))) ?_
 simp only [Z0, Z6]
 refine vBn (v := .int .u64 (shb (limb (N / 2 ^ (j + 1) % ordL) 1) (top (limb (N / 2 ^ (j + 1) % ordL) 0)))) (hr := fun W => run_or rfl W) ?_
 simp only [Z0, Z6]
 refine vMv (v := .int .u64 (top (limb (N / 2 ^ (j + 1) % ordL) 1))) ?_
 simp only [Z0, Z6]
 refine vGo (v := .pointer (some ⟨g7, 1, none⟩)) ?_
 simp only [Z0, Z6]
 refine Z19 (hLk.out _ ?_)
 simp only [Z7, Z8]
 iterate 9 refine Z28 (by rfl) ?_
 refine Z29 (fun w60 Sw60 hbs => ?_)
 clear hbs
 replace Rgp_0 := Z26 Rgp_0 Lgp Sw60
 replace Rg3_0 := Z26 Rg3_0 Lg3 Sw60
 replace Tg3 := Z27 Tg3 Lg3 Sw60
 replace Rg7_0 := Z26 Rg7_0 Lg7 Sw60
 replace Rg7_1 := Z26 Rg7_1 Lg7 Sw60
 replace Tg7 := Z27 Tg7 Lg7 Sw60
 replace Lgp := Z1 Lgp Sw60.2.2.size
 replace Lg3 := Z1 Lg3 Sw60.2.2.size
 replace Lg7 := Z1 Lg7 Sw60.2.2.size
 replace BE := BE.trans (Sw60.2.2.mono BE.size)
 refine lS1 (g := g7) (off := 1) (n := 4) (v := .int .u64 (shb (limb (N / 2 ^ (j + 1) % ordL) 1) (top (limb (N / 2 ^ (j + 1) % ordL) 0)))) Tg7 (by decide) info40 rfl (fun w61 Pw61 RR TT => ?_)
 replace Rgp_0 := Pw61.range Rgp_0 (.inl Ngp_g7)
 replace Rg3_0 := Pw61.range Rg3_0 (.inl Ng3_g7)
 replace Tg3 := Pw61.other_there Tg3 Ng3_g7
 replace Rg7_0 := Pw61.range Rg7_0 (.inr (.inl (by simp [flen])))
 have RQ := (range_append (xs := [.int .u64 (limb (N / 2 ^ (j + 1) % ordL) 1)]) (ys := [.int .u64 (limb (N / 2 ^ (j + 1) % ordL) 2), .int .u64 (limb (N / 2 ^ (j + 1) % ordL) 3)]) Rg7_1).2
 replace RQ := Pw61.range RQ (.inr (.inr (by simp)))
 have Rg7_2 : World.rangeAt w61 g7 2 [.int .u64 (limb (N / 2 ^ (j + 1) % ordL) 2), .int .u64 (limb (N / 2 ^ (j + 1) % ordL) 3)] := RQ
 clear RQ
 replace Rg7_1 := RR
 clear RR
 replace Tg7 := TT
 replace Lgp := Pw61.lt Lgp
 replace Lg3 := Pw61.lt Lg3
 replace Lg7 := Pw61.lt Lg7
 replace BE := Pw61.below BE Gg7
 refine lAs (v := .int .u64 (top (limb (N / 2 ^ (j + 1) % ordL) 1))) ?_
 simp only [Z0, Z6]
 refine lNp (hK52 _ _ ?_)
 refine Z30 2 (by kernel_rfl) (fun Lk hLk => ?_)
 simp only [Z7, Z8]
 refine vBn (v := .int .i64 2) (hr := fun W => run_add (by decide) W) ?_
 simp only [Z0, Z6]
 refine vMv (v := .int .i64 2) ?_
 simp only [Z0, Z6]
 refine Z19 (hLk.out _ ?_)
 simp only [Z7, Z8]
 iterate 2 refine Z28 (by rfl) ?_
 refine Z29 (fun w63 Sw63 hbs => ?_)
 clear hbs
 replace Rgp_0 := Z26 Rgp_0 Lgp Sw63
 replace Rg3_0 := Z26 Rg3_0 Lg3 Sw63
 replace Tg3 := Z27 Tg3 Lg3 Sw63
 replace Rg7_0 := Z26 Rg7_0 Lg7 Sw63
 replace Rg7_1 := Z26 Rg7_1 Lg7 Sw63
 replace Rg7_2 := Z26 Rg7_2 Lg7 Sw63
 replace Tg7 := Z27 Tg7 Lg7 Sw63
 replace Lgp := Z1 Lgp Sw63.2.2.size
 replace Lg3 := Z1 Lg3 Sw63.2.2.size
 replace Lg7 := Z1 Lg7 Sw63.2.2.size
 replace BE := BE.trans (Sw63.2.2.mono BE.size)
 refine Z14 (Z15 ?_)
 refine Z22 (Q := fun _ _ _ => True) ?_
 rw [rounds_succ]
 refine Z10 (fun K64 hK64 => ?_)
 refine Z30 1 (by kernel_rfl) (fun Lk hLk => ?_)
 simp only [Z7, Z8]
 refine vBn (v := .bool true) (hr := fun W => run_lss _ _ _ _ W) ?_
 simp only [Z0, Z6]
 refine Z19 (hLk.out _ ?_)
 simp only [Z7, Z8]
 iterate 1 refine Z28 (by rfl) ?_
 refine Z29 (fun w66 Sw66 hbs => ?_)
 clear hbs
 replace Rgp_0 := Z26 Rgp_0 Lgp Sw66
 replace Rg3_0 := Z26 Rg3_0 Lg3 Sw66
 replace Tg3 := Z27 Tg3 Lg3 Sw66
 replace Rg7_0 := Z26 Rg7_0 Lg7 Sw66
 replace Rg7_1 := Z26 Rg7_1 Lg7 Sw66
 replace Rg7_2 := Z26 Rg7_2 Lg7 Sw66
 replace Tg7 := Z27 Tg7 Lg7 Sw66
 replace Lgp := Z1 Lgp Sw66.2.2.size
 replace Lg3 := Z1 Lg3 Sw66.2.2.size
 replace Lg7 := Z1 Lg7 Sw66.2.2.size
 replace BE := BE.trans (Sw66.2.2.mono BE.size)
 refine lNp (hK64 _ _ ?_)
 refine Z10 (fun K67 hK67 => ?_)
 refine Z11 rfl ?_
 refine wp_skip ?_
 refine hK67 _ _ ?_
 refine Z10 (fun K68 hK68 => ?_)
 refine wp_block ?_
 refine Z10 (fun K69 hK69 => ?_)
 refine Z30 1 (by kernel_rfl) (fun Lk hLk => ?_)
 simp only [Z7, Z8]
 refine vMv (v := .int .i64 2) ?_
 simp only [Z0, Z6]
 refine Z19 (hLk.out _ ?_)
 simp only [Z7, Z8]
 iterate 1 refine Z28 (by rfl) ?_
 refine Z29 (fun w71 Sw71 hbs => ?_)
 clear hbs
 replace Rgp_0 := Z26 Rgp_0 Lgp Sw71
 replace Rg3_0 := Z26 Rg3_0 Lg3 Sw71
 replace Tg3 := Z27 Tg3 Lg3 Sw71
 replace Rg7_0 := Z26 Rg7_0 Lg7 Sw71
 replace Rg7_1 := Z26 Rg7_1 Lg7 Sw71
 replace Rg7_2 := Z26 Rg7_2 Lg7 Sw71
 replace Tg7 := Z27 Tg7 Lg7 Sw71
 replace Lgp := Z1 Lgp Sw71.2.2.size
 replace Lg3 := Z1 Lg3 Sw71.2.2.size
 replace Lg7 := Z1 Lg7 Sw71.2.2.size
 replace BE := BE.trans (Sw71.2.2.mono BE.size)
 refine lAs (v := .int .i64 2) ?_
 simp only [Z0, Z6]
 refine lNp (hK69 _ _ ?_)
 refine Z10 (fun K72 hK72 => ?_)
 refine Z30 4 (by kernel_rfl) (fun Lk hLk => ?_)
 simp only [Z7, Z8]
 refine vMv (v := .int .i64 2) ?_
 simp only [Z0, Z6]
 refine vGo (v := .pointer (some ⟨g7, 2, none⟩)) ?_
 simp only [Z0, Z6]
 refine vL1 (v := .int .u64 (limb (N / 2 ^ (j + 1) % ordL) 2)) (range_one (range_sub Rg7_2 0 1 2 (xs := [.int .u64 (limb (N / 2 ^ (j + 1) % ordL) 2)]) rfl rfl)) Lg7 U940 ?_
 simp only [Z0, Z6]
 refine vBn (v := .int .u64 (top (limb (N / 2 ^ (j + 1) % ordL) 2))) (hr := fun W => run_top (limb_nn _ _) W) ?_
 simp only [Z0, Z6]
 refine Z19 (hLk.out _ ?_)
 simp only [Z7, Z8]
 iterate 4 refine Z28 (by rfl) ?_
 refine Z29 (fun w74 Sw74 hbs => ?_)
 clear hbs
 replace Rgp_0 := Z26 Rgp_0 Lgp Sw74
 replace Rg3_0 := Z26 Rg3_0 Lg3 Sw74
 replace Tg3 := Z27 Tg3 Lg3 Sw74
 replace Rg7_0 := Z26 Rg7_0 Lg7 Sw74
 replace Rg7_1 := Z26 Rg7_1 Lg7 Sw74
 replace Rg7_2 := Z26 Rg7_2 Lg7 Sw74
 replace Tg7 := Z27 Tg7 Lg7 Sw74
 replace Lgp := Z1 Lgp Sw74.2.2.size
 replace Lg3 := Z1 Lg3 Sw74.2.2.size
 replace Lg7 := Z1 Lg7 Sw74.2.2.size
 replace BE := BE.trans (Sw74.2.2.mono BE.size)
 refine lAs (v := .int .u64 (top (limb (N / 2 ^ (j + 1) % ordL) 2))) ?_
 simp only [Z0, Z6]
 refine lNp (hK72 _ _ ?_)
 refine Z30 9 (by kernel_rfl) (fun Lk hLk => ?_)
 simp only [Z7, Z8]
 refine vMv (v := .int .i64 2) ?_
 simp only [Z0, Z6]
 refine vMv (v := .int .i64 2) ?_
 simp only [Z0, Z6]
 refine vGo (v := .pointer (some ⟨g7, 2, none⟩)) ?_
 simp only [Z0, Z6]
 refine vL1 (v := .int .u64 (limb (N / 2 ^ (j + 1) % ordL) 2)) (range_one (range_sub Rg7_2 0 1 2 (xs := [.int .u64 (limb (N / 2 ^ (j + 1) % ordL) 2)]) rfl rfl)) Lg7 U940 ?_
 simp only [Z0, Z6]
 refine vBn (v := .int .u64 (IntKind.u64.wrap ((limb (N / 2 ^ (j + 1) % ordL) 2) * 2))) (hr := fun W => run_shl1 (limb_nn _ _) W) ?_
 simp only [Z0, Z6]
 refine vMv (v := .int .u64 (top (limb (N / 2 ^ (j + 1) % ordL) 1))) ?_
 simp only [Z0, Z6]
 refine vBn (v := .int .u64 (shb (limb (N / 2 ^ (j + 1) % ordL) 2) (top (limb (N / 2 ^ (j + 1) % ordL) 1)))) (hr := fun W => run_or rfl W) ?_
 simp only [Z0, Z6]
 refine vMv (v := .int .u64 (top (limb (N / 2 ^ (j + 1) % ordL) 2))) ?_
 simp only [Z0, Z6]
 refine vGo (v := .pointer (some ⟨g7, 2, none⟩)) ?_
 simp only [Z0, Z6]
 refine Z19 (hLk.out _ ?_)
 simp only [Z7, Z8]
 iterate 9 refine Z28 (by rfl) ?_
 refine Z29 (fun w76 Sw76 hbs => ?_)
 clear hbs
 replace Rgp_0 := Z26 Rgp_0 Lgp Sw76
 replace Rg3_0 := Z26 Rg3_0 Lg3 Sw76
 replace Tg3 := Z27 Tg3 Lg3 Sw76
 replace Rg7_0 := Z26 Rg7_0 Lg7 Sw76
 replace Rg7_1 := Z26 Rg7_1 Lg7 Sw76
 replace Rg7_2 := Z26 Rg7_2 Lg7 Sw76
 replace Tg7 := Z27 Tg7 Lg7 Sw76
 replace Lgp := Z1 Lgp Sw76.2.2.size
 replace Lg3 := Z1 Lg3 Sw76.2.2.size
 replace Lg7 := Z1 Lg7 Sw76.2.2.size
 replace BE := BE.trans (Sw76.2.2.mono BE.size)
 refine lS1 (g := g7) (off := 2) (n := 4) (v := .int .u64 (shb (limb (N / 2 ^ (j + 1) % ordL) 2) (top (limb (N / 2 ^ (j + 1) % ordL) 1)))) Tg7 (by decide) info40 rfl (fun w77 Pw77 RR TT => ?_)
 replace Rgp_0 := Pw77.range Rgp_0 (.inl Ngp_g7)
 replace Rg3_0 := Pw77.range Rg3_0 (.inl Ng3_g7)
 replace Tg3 := Pw77.other_there Tg3 Ng3_g7
 replace Rg7_0 := Pw77.range Rg7_0 (.inr (.inl (by simp [flen])))
 replace Rg7_1 := Pw77.range Rg7_1 (.inr (.inl (by simp [flen])))
 have RQ := (range_append (xs := [.int .u64 (limb (N / 2 ^ (j + 1) % ordL) 2)]) (ys := [.int .u64 (limb (N / 2 ^ (j + 1) % ordL) 3)]) Rg7_2).2
 replace RQ := Pw77.range RQ (.inr (.inr (by simp)))
 have Rg7_3 : World.rangeAt w77 g7 3 [.int .u64 (limb (N / 2 ^ (j + 1) % ordL) 3)] := RQ
 clear RQ
 replace Rg7_2 := RR
 clear RR
 replace Tg7 := TT
 replace Lgp := Pw77.lt Lgp
 replace Lg3 := Pw77.lt Lg3
 replace Lg7 := Pw77.lt Lg7
 replace BE := Pw77.below BE Gg7
 refine lAs (v := .int .u64 (top (limb (N / 2 ^ (j + 1) % ordL) 2))) ?_
 simp only [Z0, Z6]
 refine lNp (hK68 _ _ ?_)
 refine Z30 2 (by kernel_rfl) (fun Lk hLk => ?_)
 simp only [Z7, Z8]
 refine vBn (v := .int .i64 3) (hr := fun W => run_add (by decide) W) ?_
 simp only [Z0, Z6]
 refine vMv (v := .int .i64 3) ?_
 simp only [Z0, Z6]
 refine Z19 (hLk.out _ ?_)
 simp only [Z7, Z8]
 iterate 2 refine Z28 (by rfl) ?_
 refine Z29 (fun w79 Sw79 hbs => ?_)
 clear hbs
 replace Rgp_0 := Z26 Rgp_0 Lgp Sw79
 replace Rg3_0 := Z26 Rg3_0 Lg3 Sw79
 replace Tg3 := Z27 Tg3 Lg3 Sw79
 replace Rg7_0 := Z26 Rg7_0 Lg7 Sw79
 replace Rg7_1 := Z26 Rg7_1 Lg7 Sw79
 replace Rg7_2 := Z26 Rg7_2 Lg7 Sw79
 replace Rg7_3 := Z26 Rg7_3 Lg7 Sw79
 replace Tg7 := Z27 Tg7 Lg7 Sw79
 replace Lgp := Z1 Lgp Sw79.2.2.size
 replace Lg3 := Z1 Lg3 Sw79.2.2.size
 replace Lg7 := Z1 Lg7 Sw79.2.2.size
 replace BE := BE.trans (Sw79.2.2.mono BE.size)
 refine Z14 (Z15 ?_)
 refine Z22 (Q := fun _ _ _ => True) ?_
 rw [rounds_succ]
 refine Z10 (fun K80 hK80 => ?_)
 refine Z30 1 (by kernel_rfl) (fun Lk hLk => ?_)
 simp only [Z7, Z8]
 refine vBn (v := .bool true) (hr := fun W => run_lss _ _ _ _ W) ?_
 simp only [Z0, Z6]
 refine Z19 (hLk.out _ ?_)
 simp only [Z7, Z8]
 iterate 1 refine Z28 (by rfl) ?_
 refine Z29 (fun w82 Sw82 hbs => ?_)
 clear hbs
 replace Rgp_0 := Z26 Rgp_0 Lgp Sw82
 replace Rg3_0 := Z26 Rg3_0 Lg3 Sw82
 replace Tg3 := Z27 Tg3 Lg3 Sw82
 replace Rg7_0 := Z26 Rg7_0 Lg7 Sw82
 replace Rg7_1 := Z26 Rg7_1 Lg7 Sw82
 replace Rg7_2 := Z26 Rg7_2 Lg7 Sw82
 replace Rg7_3 := Z26 Rg7_3 Lg7 Sw82
 replace Tg7 := Z27 Tg7 Lg7 Sw82
 replace Lgp := Z1 Lgp Sw82.2.2.size
 replace Lg3 := Z1 Lg3 Sw82.2.2.size
 replace Lg7 := Z1 Lg7 Sw82.2.2.size
 replace BE := BE.trans (Sw82.2.2.mono BE.size)
 refine lNp (hK80 _ _ ?_)
 refine Z10 (fun K83 hK83 => ?_)
 refine Z11 rfl ?_
 refine wp_skip ?_
 refine hK83 _ _ ?_
 refine Z10 (fun K84 hK84 => ?_)
 refine wp_block ?_
 refine Z10 (fun K85 hK85 => ?_)
 refine Z30 1 (by kernel_rfl) (fun Lk hLk => ?_)
 simp only [Z7, Z8]
 refine vMv (v := .int .i64 3) ?_
 simp only [Z0, Z6]
 refine Z19 (hLk.out _ ?_)
 simp only [Z7, Z8]
 iterate 1 refine Z28 (by rfl) ?_
 refine Z29 (fun w87 Sw87 hbs => ?_)
 clear hbs
 replace Rgp_0 := Z26 Rgp_0 Lgp Sw87
 replace Rg3_0 := Z26 Rg3_0 Lg3 Sw87
 replace Tg3 := Z27 Tg3 Lg3 Sw87
 replace Rg7_0 := Z26 Rg7_0 Lg7 Sw87
 replace Rg7_1 := Z26 Rg7_1 Lg7 Sw87
 replace Rg7_2 := Z26 Rg7_2 Lg7 Sw87
 replace Rg7_3 := Z26 Rg7_3 Lg7 Sw87
 replace Tg7 := Z27 Tg7 Lg7 Sw87
 replace Lgp := Z1 Lgp Sw87.2.2.size
 replace Lg3 := Z1 Lg3 Sw87.2.2.size
 replace Lg7 := Z1 Lg7 Sw87.2.2.size
 replace BE := BE.trans (Sw87.2.2.mono BE.size)
 refine lAs (v := .int .i64 3) ?_
 simp only [Z0, Z6]
 refine lNp (hK85 _ _ ?_)
 refine Z10 (fun K88 hK88 => ?_)
 refine Z30 4 (by kernel_rfl) (fun Lk hLk => ?_)
 simp only [Z7, Z8]
 refine vMv (v := .int .i64 3) ?_
 simp only [Z0, Z6]
 refine vGo (v := .pointer (some ⟨g7, 3, none⟩)) ?_
 simp only [Z0, Z6]
 refine vL1 (v := .int .u64 (limb (N / 2 ^ (j + 1) % ordL) 3)) (range_one Rg7_3) Lg7 U940 ?_
 simp only [Z0, Z6]
 refine vBn (v := .int .u64 (top (limb (N / 2 ^ (j + 1) % ordL) 3))) (hr := fun W => run_top (limb_nn _ _) W) ?_
 simp only [Z0, Z6]
 refine Z19 (hLk.out _ ?_)
 simp only [Z7, Z8]
 iterate 4 refine Z28 (by rfl) ?_
 refine Z29 (fun w90 Sw90 hbs => ?_)
 clear hbs
 replace Rgp_0 := Z26 Rgp_0 Lgp Sw90
 replace Rg3_0 := Z26 Rg3_0 Lg3 Sw90
 replace Tg3 := Z27 Tg3 Lg3 Sw90
 replace Rg7_0 := Z26 Rg7_0 Lg7 Sw90
 replace Rg7_1 := Z26 Rg7_1 Lg7 Sw90
 replace Rg7_2 := Z26 Rg7_2 Lg7 Sw90
 replace Rg7_3 := Z26 Rg7_3 Lg7 Sw90
 replace Tg7 := Z27 Tg7 Lg7 Sw90
 replace Lgp := Z1 Lgp Sw90.2.2.size
 replace Lg3 := Z1 Lg3 Sw90.2.2.size
 replace Lg7 := Z1 Lg7 Sw90.2.2.size
 replace BE := BE.trans (Sw90.2.2.mono BE.size)
 refine lAs (v := .int .u64 (top (limb (N / 2 ^ (j + 1) % ordL) 3))) ?_
 simp only [Z0, Z6]
 refine lNp (hK88 _ _ ?_)
 refine Z30 9 (by kernel_rfl) (fun Lk hLk => ?_)
 simp only [Z7, Z8]
 refine vMv (v := .int .i64 3) ?_
 simp only [Z0, Z6]
 refine vMv (v := .int .i64 3) ?_
 simp only [Z0, Z6]
 refine vGo (v := .pointer (some ⟨g7, 3, none⟩)) ?_
 simp only [Z0, Z6]
 refine vL1 (v := .int .u64 (limb (N / 2 ^ (j + 1) % ordL) 3)) (range_one Rg7_3) Lg7 U940 ?_
 simp only [Z0, Z6]
 refine vBn (v := .int .u64 (IntKind.u64.wrap ((limb (N / 2 ^ (j + 1) % ordL) 3) * 2))) (hr := fun W => run_shl1 (limb_nn _ _) W) ?_
 simp only [Z0, Z6]
 refine vMv (v := .int .u64 (top (limb (N / 2 ^ (j + 1) % ordL) 2))) ?_
 simp only [Z0, Z6]
 refine vBn (v := .int .u64 (shb (limb (N / 2 ^ (j + 1) % ordL) 3) (top (limb (N / 2 ^ (j + 1) % ordL) 2)))) (hr := fun W => run_or rfl W) ?_
 simp only [Z0, Z6]
 refine vMv (v := .int .u64 (top (limb (N / 2 ^ (j + 1) % ordL) 3))) ?_
 simp only [Z0, Z6]
 refine vGo (v := .pointer (some ⟨g7, 3, none⟩)) ?_
 simp only [Z0, Z6]
 refine Z19 (hLk.out _ ?_)
 simp only [Z7, Z8]
 iterate 9 refine Z28 (by rfl) ?_
 refine Z29 (fun w92 Sw92 hbs => ?_)
 clear hbs
 replace Rgp_0 := Z26 Rgp_0 Lgp Sw92
 replace Rg3_0 := Z26 Rg3_0 Lg3 Sw92
 replace Tg3 := Z27 Tg3 Lg3 Sw92
 replace Rg7_0 := Z26 Rg7_0 Lg7 Sw92
 replace Rg7_1 := Z26 Rg7_1 Lg7 Sw92
 replace Rg7_2 := Z26 Rg7_2 Lg7 Sw92
 replace Rg7_3 := Z26 Rg7_3 Lg7 Sw92
 replace Tg7 := Z27 Tg7 Lg7 Sw92
 replace Lgp := Z1 Lgp Sw92.2.2.size
 replace Lg3 := Z1 Lg3 Sw92.2.2.size
 replace Lg7 := Z1 Lg7 Sw92.2.2.size
 replace BE := BE.trans (Sw92.2.2.mono BE.size)
 refine lS1 (g := g7) (off := 3) (n := 4) (v := .int .u64 (shb (limb (N / 2 ^ (j + 1) % ordL) 3) (top (limb (N / 2 ^ (j + 1) % ordL) 2)))) Tg7 (by decide) info40 rfl (fun w93 Pw93 RR TT => ?_)
 replace Rgp_0 := Pw93.range Rgp_0 (.inl Ngp_g7)
 replace Rg3_0 := Pw93.range Rg3_0 (.inl Ng3_g7)
 replace Tg3 := Pw93.other_there Tg3 Ng3_g7
 replace Rg7_0 := Pw93.range Rg7_0 (.inr (.inl (by simp [flen])))
 replace Rg7_1 := Pw93.range Rg7_1 (.inr (.inl (by simp [flen])))
 replace Rg7_2 := Pw93.range Rg7_2 (.inr (.inl (by simp [flen])))
 replace Rg7_3 := RR
 clear RR
 replace Tg7 := TT
 replace Lgp := Pw93.lt Lgp
 replace Lg3 := Pw93.lt Lg3
 replace Lg7 := Pw93.lt Lg7
 replace BE := Pw93.below BE Gg7
 refine lAs (v := .int .u64 (top (limb (N / 2 ^ (j + 1) % ordL) 3))) ?_
 simp only [Z0, Z6]
 refine lNp (hK84 _ _ ?_)
 refine Z30 2 (by kernel_rfl) (fun Lk hLk => ?_)
 simp only [Z7, Z8]
 refine vBn (v := .int .i64 4) (hr := fun W => run_add (by decide) W) ?_
 simp only [Z0, Z6]
 refine vMv (v := .int .i64 4) ?_
 simp only [Z0, Z6]
 refine Z19 (hLk.out _ ?_)
 simp only [Z7, Z8]
 iterate 2 refine Z28 (by rfl) ?_
 refine Z29 (fun w95 Sw95 hbs => ?_)
 clear hbs
 replace Rgp_0 := Z26 Rgp_0 Lgp Sw95
 replace Rg3_0 := Z26 Rg3_0 Lg3 Sw95
 replace Tg3 := Z27 Tg3 Lg3 Sw95
 replace Rg7_0 := Z26 Rg7_0 Lg7 Sw95
 replace Rg7_1 := Z26 Rg7_1 Lg7 Sw95
 replace Rg7_2 := Z26 Rg7_2 Lg7 Sw95
 replace Rg7_3 := Z26 Rg7_3 Lg7 Sw95
 replace Tg7 := Z27 Tg7 Lg7 Sw95
 replace Lgp := Z1 Lgp Sw95.2.2.size
 replace Lg3 := Z1 Lg3 Sw95.2.2.size
 replace Lg7 := Z1 Lg7 Sw95.2.2.size
 replace BE := BE.trans (Sw95.2.2.mono BE.size)
 refine Z14 (Z15 ?_)
 refine Z22 (Q := fun _ _ _ => True) ?_
 rw [rounds_succ]
 refine Z10 (fun K96 hK96 => ?_)
 refine Z30 1 (by kernel_rfl) (fun Lk hLk => ?_)
 simp only [Z7, Z8]
 refine vBn (v := .bool false) (hr := fun W => run_lss _ _ _ _ W) ?_
 simp only [Z0, Z6]
 refine Z19 (hLk.out _ ?_)
 simp only [Z7, Z8]
 iterate 1 refine Z28 (by rfl) ?_
 refine Z29 (fun w98 Sw98 hbs => ?_)
 clear hbs
 replace Rgp_0 := Z26 Rgp_0 Lgp Sw98
 replace Rg3_0 := Z26 Rg3_0 Lg3 Sw98
 replace Tg3 := Z27 Tg3 Lg3 Sw98
 replace Rg7_0 := Z26 Rg7_0 Lg7 Sw98
 replace Rg7_1 := Z26 Rg7_1 Lg7 Sw98
 replace Rg7_2 := Z26 Rg7_2 Lg7 Sw98
 replace Rg7_3 := Z26 Rg7_3 Lg7 Sw98
 replace Tg7 := Z27 Tg7 Lg7 Sw98
 replace Lgp := Z1 Lgp Sw98.2.2.size
 replace Lg3 := Z1 Lg3 Sw98.2.2.size
 replace Lg7 := Z1 Lg7 Sw98.2.2.size
 replace BE := BE.trans (Sw98.2.2.mono BE.size)
 refine lNp (hK96 _ _ ?_)
 refine Z10 (fun K99 hK99 => ?_)
 refine Z12 rfl ?_
 refine wp_exit ?_
 refine hK28 _ _ ?_
 refine Z10 (fun K100 hK100 => ?_)
 have R9 : World.rangeAt w98 g7 0 (fel (restR N j)) := by rw [← restR_chain]; exact (range_join (range_join (range_join Rg7_0 Rg7_1 (by simp [flen])) Rg7_2 (by simp [flen])) Rg7_3 (by simp [flen]))
 clear Rg7_0 Rg7_1 Rg7_2 Rg7_3
 have Rg7_0 := R9
 clear R9
 refine wp_region_grow 7 [5] (by kernel_rfl) (by kernel_rfl) (by kernel_rfl) (fun Lk hLk => ?_)
 simp only [Z7, Z8]
 refine vLd (cs := fel (restR N j)) Rg7_0 Lg7 U980 info80 ?_
 simp only [Z0, Z6]
 refine Z25 (v := fe ordL) (args := #[]) (by rfl) rfl Tryd.func126 (by kernel_rfl) (by kernel_rfl) rfl (fun W hW => order_c W) ?_
 simp only [Z0, Z6]
 refine Z25 (v := .tuple #[fe (subW (restR N j) ordL), .int .u64 (subB (restR N j) ordL)]) (args := #[fe (restR N j), fe ordL]) (by rfl) rfl Tryd.func125 (by kernel_rfl) (by kernel_rfl) rfl (fun W hW => sminus_c (restR_256 N j) ordL_lt W) ?_
 simp only [Z0, Z6]
 refine vMv (v := .tuple #[fe (subW (restR N j) ordL), .int .u64 (subB (restR N j) ordL)]) ?_
 simp only [Z0, Z6]
 refine Z32 (v := fe (subW (restR N j) ordL)) (by rfl) rfl rfl rfl ?_
 simp only [Z0, Z6]
 refine Z32 (v := .int .u64 (subB (restR N j) ordL)) (by rfl) rfl rfl rfl ?_
 simp only [Z0, Z6]
 refine vAl ?_
 refine Z19 (hLk.out _ ?_)
 simp only [Z7, Z8]
 iterate 6 refine Z28 (by rfl) ?_
 refine wpN_new (t := 80) (cs := ([.int .u64 0, .int .u64 0, .int .u64 0, .int .u64 0]).toArray) (by rfl) (fun W => ?_) (fun g102 Hg102 ng102 => ?_)
 ·
  go_simp
 simp only [Z0, Z6]
 refine Z29 (fun w103 Sw103 hbs => ?_)
 have Bg102 : Blk w103 g102 80 ([.int .u64 0, .int .u64 0, .int .u64 0, .int .u64 0]).toArray := hbs _ (List.mem_cons_self ..)
 clear hbs
 have Ngp_g102 : gp ≠ g102 := Z4 (Z1 Lgp Hg102)
 have Ng3_g102 : g3 ≠ g102 := Z4 (Z1 Lg3 Hg102)
 have Ng7_g102 : g7 ≠ g102 := Z4 (Z1 Lg7 Hg102)
 have Gg102 : w.heap.size ≤ g102 := Z3 BE.size Hg102
 replace Rgp_0 := Z26 Rgp_0 Lgp Sw103
 replace Rg3_0 := Z26 Rg3_0 Lg3 Sw103
 replace Tg3 := Z27 Tg3 Lg3 Sw103
 replace Rg7_0 := Z26 Rg7_0 Lg7 Sw103
 replace Tg7 := Z27 Tg7 Lg7 Sw103
 replace Lgp := Z1 Lgp Sw103.2.2.size
 replace Lg3 := Z1 Lg3 Sw103.2.2.size
 replace Lg7 := Z1 Lg7 Sw103.2.2.size
 replace BE := BE.trans (Sw103.2.2.mono BE.size)
 have Tg102 := blk_there Bg102 (n := 4) (by simp [flen])
 have Rg102_0 := blk_range Bg102 (l := [.int .u64 0, .int .u64 0, .int .u64 0, .int .u64 0]) rfl
 have Lg102 := Bg102.lt
 clear ng102 Bg102
 refine lSt (g := g102) (off := 0) (n := 4) (cs := fel (subW (restR N j) ordL)) Tg102 (by simp [flen]) info80 (fel_one _) (fun w104 Pw104 RR TT => ?_)
 replace Rgp_0 := Pw104.range Rgp_0 (.inl Ngp_g102)
 replace Rg3_0 := Pw104.range Rg3_0 (.inl Ng3_g102)
 replace Tg3 := Pw104.other_there Tg3 Ng3_g102
 replace Rg7_0 := Pw104.range Rg7_0 (.inl Ng7_g102)
 replace Tg7 := Pw104.other_there Tg7 Ng7_g102
 replace Rg102_0 := RR
 clear RR
 replace Tg102 := TT
 replace Lgp := Pw104.lt Lgp
 replace Lg3 := Pw104.lt Lg3
 replace Lg7 := Pw104.lt Lg7
 replace Lg102 := Pw104.lt Lg102
 replace BE := Pw104.below BE Gg102
 refine lAs (v := .int .u64 (subB (restR N j) ordL)) ?_
 simp only [Z0, Z6]
 refine lNp (hK100 _ _ ?_)
 refine Z10 (fun K105 hK105 => ?_)
 refine Z30 2 (by kernel_rfl) (fun Lk hLk => ?_)
 simp only [Z7, Z8]
 refine vMv (v := .int .u64 (subB (restR N j) ordL)) ?_
 simp only [Z0, Z6]
 refine vBn (v := .bool ((subB (restR N j) ordL) == 0)) (hr := fun W => run_eql _ _ _ _ W) ?_
 simp only [Z0, Z6]
 refine Z19 (hLk.out _ ?_)
 simp only [Z7, Z8]
 iterate 2 refine Z28 (by rfl) ?_
 refine Z29 (fun w107 Sw107 hbs => ?_)
 clear hbs
 replace Rgp_0 := Z26 Rgp_0 Lgp Sw107
 replace Rg3_0 := Z26 Rg3_0 Lg3 Sw107
 replace Tg3 := Z27 Tg3 Lg3 Sw107
 replace Rg7_0 := Z26 Rg7_0 Lg7 Sw107
 replace Tg7 := Z27 Tg7 Lg7 Sw107
 replace Rg102_0 := Z26 Rg102_0 Lg102 Sw107
 replace Tg102 := Z27 Tg102 Lg102 Sw107
 replace Lgp := Z1 Lgp Sw107.2.2.size
 replace Lg3 := Z1 Lg3 Sw107.2.2.size
 replace Lg7 := Z1 Lg7 Sw107.2.2.size
 replace Lg102 := Z1 Lg102 Sw107.2.2.size
 replace BE := BE.trans (Sw107.2.2.mono BE.size)
 refine lNp (hK105 _ _ ?_)
 cases hc108 : ((subB (restR N j) ordL) == 0)
 ·
  have hq := restR_f hc108
  refine Z12 rfl ?_
  refine wp_skip ?_
  refine hK24 _ _ ?_
  refine Z30 2 (by kernel_rfl) (fun Lk hLk => ?_)
  simp only [Z7, Z8]
  refine vMv (v := .int .i64 j) ?_
  simp only [Z0, Z6]
  refine vBn (v := .int .i64 (((j : Nat) : Int) - 1)) (hr := fun W => run_sub (by simp only [IntKind.wrap_i64]; omega) W) ?_
  simp only [Z0, Z6]
  refine Z19 (hLk.out _ ?_)
  simp only [Z7, Z8]
  iterate 2 refine Z28 (by rfl) ?_
  refine Z29 (fun w110 Sw110 hbs => ?_)
  clear hbs
  replace Rgp_0 := Z26 Rgp_0 Lgp Sw110
  replace Rg3_0 := Z26 Rg3_0 Lg3 Sw110
  replace Tg3 := Z27 Tg3 Lg3 Sw110
  replace Rg7_0 := Z26 Rg7_0 Lg7 Sw110
  replace Tg7 := Z27 Tg7 Lg7 Sw110
  replace Rg102_0 := Z26 Rg102_0 Lg102 Sw110
  replace Tg102 := Z27 Tg102 Lg102 Sw110
  replace Lgp := Z1 Lgp Sw110.2.2.size
  replace Lg3 := Z1 Lg3 Sw110.2.2.size
  replace Lg7 := Z1 Lg7 Sw110.2.2.size
  replace Lg102 := Z1 Lg102 Sw110.2.2.size
  replace BE := BE.trans (Sw110.2.2.mono BE.size)
  refine lAs (v := .int .i64 (((j : Nat) : Int) - 1)) ?_
  simp only [Z0, Z6]
  refine Z14 (Z15 ?_)
  refine Exists.intro _ ⟨?_, j, (fun q9 => (#[Z9, Z9, Z9, Z9, Z9, .int .u64 (top (limb (N / 2 ^ (j + 1) % ordL) 3)), .int .i64 3, .int .u64 (top (limb (N / 2 ^ (j + 1) % ordL) 3)), .pointer (some ⟨g102, 0, none⟩), .int .u64 (subB (restR N j) ordL), Z9, Z9, Z9, Z9, .int .i64 j, .bool true, .int .i64 j, .int .i64 (((j : Nat) : Int) - 1), .slice (some ⟨gp, 0, none⟩) n cap, .int .i64 j, .int .i64 (j / 64 : Nat), .pointer (some ⟨gp, j / 64, none⟩), .int .u64 (limbN N (j / 64) : Nat), .int .i64 j, .int .i64 (j % 64 : Nat), .int .u64 (limbN N (j / 64) / 2 ^ (j % 64) : Nat), .int .u64 (N / 2 ^ j % 2 : Nat), .int .i64 4, .bool false, .int .i64 3, .int .i64 3, .pointer (some ⟨g7, 3, none⟩), .int .u64 (limb (N / 2 ^ (j + 1) % ordL) 3), .int .u64 (top (limb (N / 2 ^ (j + 1) % ordL) 3)), .int .i64 3, .int .i64 3, .pointer (some ⟨g7, 3, none⟩), .int .u64 (limb (N / 2 ^ (j + 1) % ordL) 3), .int .u64 (IntKind.u64.wrap ((limb (N / 2 ^ (j + 1) % ordL) 3) * 2)), .int .u64 (top (limb (N / 2 ^ (j + 1) % ordL) 2)), .int .u64 (shb (limb (N / 2 ^ (j + 1) % ordL) 3) (top (limb (N / 2 ^ (j + 1) % ordL) 2))), .int .u64 (top (limb (N / 2 ^ (j + 1) % ordL) 3)), .pointer (some ⟨g7, 3, none⟩), .int .i64 4, .tuple #[fe (subW (restR N j) ordL), .int .u64 (subB (restR N j) ordL)], fe (restR N j), fe ordL, .tuple #[fe (subW (restR N j) ordL), .int .u64 (subB (restR N j) ordL)], fe (subW (restR N j) ordL), .int .u64 (subB (restR N j) ordL), .int .u64 (subB (restR N j) ordL), .bool false, u13 52] : Array Value).getD q9 Z9), rfl, rfl, BE, Rgp_0, Lgp, Rg3_0, Tg3, Lg3, (by rw [← hq]; exact Rg7_0), Tg7, Lg7, (by omega)⟩
  omega
 have hq := restR_t hc108
 refine Z11 rfl ?_
 refine Z30 1 (by kernel_rfl) (fun Lk hLk => ?_)
 simp only [Z7, Z8]
 refine vLd (cs := fel (subW (restR N j) ordL)) Rg102_0 Lg102 U980 info80 ?_
 simp only [Z0, Z6]
 refine Z19 (hLk.out _ ?_)
 simp only [Z7, Z8]
 iterate 1 refine Z28 (by rfl) ?_
 refine Z29 (fun w112 Sw112 hbs => ?_)
 clear hbs
 replace Rgp_0 := Z26 Rgp_0 Lgp Sw112
 replace Rg3_0 := Z26 Rg3_0 Lg3 Sw112
 replace Tg3 := Z27 Tg3 Lg3 Sw112
 replace Rg7_0 := Z26 Rg7_0 Lg7 Sw112
 replace Tg7 := Z27 Tg7 Lg7 Sw112
 replace Rg102_0 := Z26 Rg102_0 Lg102 Sw112
 replace Tg102 := Z27 Tg102 Lg102 Sw112
 replace Lgp := Z1 Lgp Sw112.2.2.size
 replace Lg3 := Z1 Lg3 Sw112.2.2.size
 replace Lg7 := Z1 Lg7 Sw112.2.2.size
 replace Lg102 := Z1 Lg102 Sw112.2.2.size
 replace BE := BE.trans (Sw112.2.2.mono BE.size)
 refine lSt (g := g7) (off := 0) (n := 4) (cs := fel (subW (restR N j) ordL)) Tg7 (by simp [flen]) info80 (fel_one _) (fun w113 Pw113 RR TT => ?_)
 replace Rgp_0 := Pw113.range Rgp_0 (.inl Ngp_g7)
 replace Rg3_0 := Pw113.range Rg3_0 (.inl Ng3_g7)
 replace Tg3 := Pw113.other_there Tg3 Ng3_g7
 replace Rg102_0 := Pw113.range Rg102_0 (.inl (Ne.symm Ng7_g102))
 replace Tg102 := Pw113.other_there Tg102 (Ne.symm Ng7_g102)
 replace Rg7_0 := RR
 clear RR
 replace Tg7 := TT
 replace Lgp := Pw113.lt Lgp
 replace Lg3 := Pw113.lt Lg3
 replace Lg7 := Pw113.lt Lg7
 replace Lg102 := Pw113.lt Lg102
 replace BE := Pw113.below BE Gg7
 refine lNp (hK24 _ _ ?_)
 refine Z30 2 (by kernel_rfl) (fun Lk hLk => ?_)
 simp only [Z7, Z8]
 refine vMv (v := .int .i64 j) ?_
 simp only [Z0, Z6]
 refine vBn (v := .int .i64 (((j : Nat) : Int) - 1)) (hr := fun W => run_sub (by simp only [IntKind.wrap_i64]; omega) W) ?_
 simp only [Z0, Z6]
 refine Z19 (hLk.out _ ?_)
 simp only [Z7, Z8]
 iterate 2 refine Z28 (by rfl) ?_
 refine Z29 (fun w115 Sw115 hbs => ?_)
 clear hbs
 replace Rgp_0 := Z26 Rgp_0 Lgp Sw115
 replace Rg3_0 := Z26 Rg3_0 Lg3 Sw115
 replace Tg3 := Z27 Tg3 Lg3 Sw115
 replace Rg7_0 := Z26 Rg7_0 Lg7 Sw115
 replace Tg7 := Z27 Tg7 Lg7 Sw115
 replace Rg102_0 := Z26 Rg102_0 Lg102 Sw115
 replace Tg102 := Z27 Tg102 Lg102 Sw115
 replace Lgp := Z1 Lgp Sw115.2.2.size
 replace Lg3 := Z1 Lg3 Sw115.2.2.size
 replace Lg7 := Z1 Lg7 Sw115.2.2.size
 replace Lg102 := Z1 Lg102 Sw115.2.2.size
 replace BE := BE.trans (Sw115.2.2.mono BE.size)
 refine lAs (v := .int .i64 (((j : Nat) : Int) - 1)) ?_
 simp only [Z0, Z6]
 refine Z14 (Z15 ?_)
 refine Exists.intro _ ⟨?_, j, (fun q9 => (#[Z9, Z9, Z9, Z9, Z9, .int .u64 (top (limb (N / 2 ^ (j + 1) % ordL) 3)), .int .i64 3, .int .u64 (top (limb (N / 2 ^ (j + 1) % ordL) 3)), .pointer (some ⟨g102, 0, none⟩), .int .u64 (subB (restR N j) ordL), Z9, Z9, Z9, Z9, .int .i64 j, .bool true, .int .i64 j, .int .i64 (((j : Nat) : Int) - 1), .slice (some ⟨gp, 0, none⟩) n cap, .int .i64 j, .int .i64 (j / 64 : Nat), .pointer (some ⟨gp, j / 64, none⟩), .int .u64 (limbN N (j / 64) : Nat), .int .i64 j, .int .i64 (j % 64 : Nat), .int .u64 (limbN N (j / 64) / 2 ^ (j % 64) : Nat), .int .u64 (N / 2 ^ j % 2 : Nat), .int .i64 4, .bool false, .int .i64 3, .int .i64 3, .pointer (some ⟨g7, 3, none⟩), .int .u64 (limb (N / 2 ^ (j + 1) % ordL) 3), .int .u64 (top (limb (N / 2 ^ (j + 1) % ordL) 3)), .int .i64 3, .int .i64 3, .pointer (some ⟨g7, 3, none⟩), .int .u64 (limb (N / 2 ^ (j + 1) % ordL) 3), .int .u64 (IntKind.u64.wrap ((limb (N / 2 ^ (j + 1) % ordL) 3) * 2)), .int .u64 (top (limb (N / 2 ^ (j + 1) % ordL) 2)), .int .u64 (shb (limb (N / 2 ^ (j + 1) % ordL) 3) (top (limb (N / 2 ^ (j + 1) % ordL) 2))), .int .u64 (top (limb (N / 2 ^ (j + 1) % ordL) 3)), .pointer (some ⟨g7, 3, none⟩), .int .i64 4, .tuple #[fe (subW (restR N j) ordL), .int .u64 (subB (restR N j) ordL)], fe (restR N j), fe ordL, .tuple #[fe (subW (restR N j) ordL), .int .u64 (subB (restR N j) ordL)], fe (subW (restR N j) ordL), .int .u64 (subB (restR N j) ordL), .int .u64 (subB (restR N j) ordL), .bool true, fe (subW (restR N j) ordL)] : Array Value).getD q9 Z9), rfl, rfl, BE, Rgp_0, Lgp, Rg3_0, Tg3, Lg3, (by rw [← hq]; exact Rg7_0), Tg7, Lg7, (by omega)⟩
 omega
end Go.Proofs.Ya

namespace Go.Proofs.Ya
open Go Go.RowKit Go.Shelf Go.Proofs.Num
open Tryd renaming underlying124 → U9124, underlying40 → U940, underlying80 → U980
open Go.Proofs.Num  renaming putT → Z0
open Nat renaming lt_of_lt_of_le → Z1, zero_add → Z2, le_trans → Z3, ne_of_lt → Z4
open List renaming set → Z6, take → Z7, drop → Z8
open Go renaming undef → Z9, wp_seq_k → Z10, wp_cond_true → Z11, wp_cond_false → Z12
open Go.Proofs.Num renaming wpL_nil → Z14, no_panic → Z15, wpV_nil → Z19, wpV_callf → Z25, range_sees → Z26, there_sees → Z27, wpN_skip → Z28, wpN_nil → Z29, wp_region_plain → Z30, wpV_extract → Z32, wpV_load1 → Z34
set_option maxHeartbeats 1000000 in
theorem sleast_c {x : Nat} (hx : x < 2 ^ 256) (w : World) :
  Calls Tryd.prog 84 #[fe x] w fun e w' => e = .returned (fe (restS x)) ∧ Below w.heap.size w w' := by
 go_enter Tryd.func84, Tryd.ntmps84
 have BE := Below.refl w.heap.size w
 refine Z10 (fun K1 hK1 => ?_)
 refine Z30 2 (by kernel_rfl) (fun Lk hLk => ?_)
 simp only [Z7, Z8]
 refine vAl ?_
 refine vAl ?_
 refine Z19 (hLk.out _ ?_)
 simp only [Z7, Z8]
 refine wpN_new (t := 80) (cs := (fel x).toArray) (by rfl) (fun W => ?_) (fun g3 Hg3 ng3 => ?_)
 ·
  (first | rfl | go_simp)
 refine wpN_new (t := 80) (cs := ([.int .u64 0, .int .u64 0, .int .u64 0, .int .u64 0]).toArray) (by rfl) (fun W => ?_) (fun g4 Hg4 ng4 => ?_)
 ·
  go_simp
 simp only [Z0, Z6]
 refine Z29 (fun w5 Sw5 hbs => ?_)
 have Bg3 : Blk w5 g3 80 (fel x).toArray := hbs _ (List.mem_cons_of_mem _ (List.mem_cons_self ..))
 have Bg4 : Blk w5 g4 80 ([.int .u64 0, .int .u64 0, .int .u64 0, .int .u64 0]).toArray := hbs _ (List.mem_cons_self ..)
 clear hbs
 have Gg3 : w.heap.size ≤ g3 := Z3 BE.size Hg3
 have Ng3_g4 : g3 ≠ g4 := ng4 (g3, _, _) (List.mem_cons_self ..)
 have Gg4 : w.heap.size ≤ g4 := Z3 BE.size Hg4
 replace BE := BE.trans (Sw5.2.2.mono BE.size)
 have Tg3 := blk_there Bg3 (n := 4) (by simp [flen])
 have Rg3_0 := blk_range Bg3 (l := fel x) rfl
 have Lg3 := Bg3.lt
 have Tg4 := blk_there Bg4 (n := 4) (by simp [flen])
 have Rg4_0 := blk_range Bg4 (l := [.int .u64 0, .int .u64 0, .int .u64 0, .int .u64 0]) rfl
 have Lg4 := Bg4.lt
 clear ng3 ng4 Bg3 Bg4
 refine lNp (hK1 _ _ ?_)
 refine Z10 (fun K6 hK6 => ?_)
 refine Z30 2 (by kernel_rfl) (fun Lk hLk => ?_)
 simp only [Z7, Z8]
 refine wpV_sliceA (n := 4) (by rfl) rfl rfl U980 info40 ?_
 simp only [Z0, Z6]
 refine Z25 (v := fe (restS x)) (args := #[.slice (some ⟨g3, 0, none⟩) 4 4]) (by rfl) rfl Tryd.func86 (by kernel_rfl) (by kernel_rfl) rfl (fun W hW => rest_c (n := 4) (N := x) (by decide) (by simpa using hx) (Z1 Lg3 hW.2.2.size) (Z26 (show World.rangeAt _ _ _ (wl 4 x) from Rg3_0) Lg3 hW)) ?_
 simp only [Z0, Z6]
 refine Z19 (hLk.out _ ?_)
 simp only [Z7, Z8]
 iterate 2 refine Z28 (by rfl) ?_
 refine Z29 (fun w8 Sw8 hbs => ?_)
 clear hbs
 replace Rg3_0 := Z26 Rg3_0 Lg3 Sw8
 replace Tg3 := Z27 Tg3 Lg3 Sw8
 replace Rg4_0 := Z26 Rg4_0 Lg4 Sw8
 replace Tg4 := Z27 Tg4 Lg4 Sw8
 replace Lg3 := Z1 Lg3 Sw8.2.2.size
 replace Lg4 := Z1 Lg4 Sw8.2.2.size
 replace BE := BE.trans (Sw8.2.2.mono BE.size)
 refine lSt (g := g4) (off := 0) (n := 4) (cs := fel (restS x)) Tg4 (by simp [flen]) info80 (fel_one _) (fun w9 Pw9 RR TT => ?_)
 replace Rg3_0 := Pw9.range Rg3_0 (.inl Ng3_g4)
 replace Tg3 := Pw9.other_there Tg3 Ng3_g4
 replace Rg4_0 := RR
 clear RR
 replace Tg4 := TT
 replace Lg3 := Pw9.lt Lg3
 replace Lg4 := Pw9.lt Lg4
 replace BE := Pw9.below BE Gg4
 refine lNp (hK6 _ _ ?_)
 refine wp_ret ?_
 repeat (first | with_reducible refine then_ret ?_ | with_reducible refine inblock_ret ?_)
 refine bodyPost_ret (v := fe (restS x)) (res1 rfl (.cell (by rfl) (run_loadVar_mid _ _ _ _ (fel (restS x)) _ Rg4_0 U980 rfl info80))) rfl ?_
 exact ⟨rfl, BE⟩
set_option maxHeartbeats 1000000 in
theorem sadd_c {x : Nat} (hx : x < 2 ^ 256) {y : Nat} (hy : y < 2 ^ 256) (w : World) :
  Calls Tryd.prog 49 #[fe x, fe y] w fun e w' => e = .returned (fe (sadd x y)) ∧ Below w.heap.size w w' := by
 go_enter Tryd.func49, Tryd.ntmps49
 have BE := Below.refl w.heap.size w
 refine Z10 (fun K1 hK1 => ?_)
 refine Z30 3 (by kernel_rfl) (fun Lk hLk => ?_)
 simp only [Z7, Z8]
 refine vAl ?_
 refine vAl ?_
 refine vAl ?_
 refine Z19 (hLk.out _ ?_)
 simp only [Z7, Z8]
 refine wpN_new (t := 80) (cs := (fel x).toArray) (by rfl) (fun W => ?_) (fun g3 Hg3 ng3 => ?_)
 ·
  (first | rfl | go_simp)
 refine wpN_new (t := 80) (cs := (fel y).toArray) (by rfl) (fun W => ?_) (fun g4 Hg4 ng4 => ?_)
 ·
  (first | rfl | go_simp)
 refine wpN_new (t := 80) (cs := ([.int .u64 0, .int .u64 0, .int .u64 0, .int .u64 0]).toArray) (by rfl) (fun W => ?_) (fun g5 Hg5 ng5 => ?_)
 ·
  go_simp
 simp only [Z0, Z6]
 refine Z29 (fun w6 Sw6 hbs => ?_)
 have Bg3 : Blk w6 g3 80 (fel x).toArray := hbs _ (List.mem_cons_of_mem _ (List.mem_cons_of_mem _ (List.mem_cons_self ..)))
 have Bg4 : Blk w6 g4 80 (fel y).toArray := hbs _ (List.mem_cons_of_mem _ (List.mem_cons_self ..))
 have Bg5 : Blk w6 g5 80 ([.int .u64 0, .int .u64 0, .int .u64 0, .int .u64 0]).toArray := hbs _ (List.mem_cons_self ..)
 clear hbs
 have Gg3 : w.heap.size ≤ g3 := Z3 BE.size Hg3
 have Ng3_g4 : g3 ≠ g4 := ng4 (g3, _, _) (List.mem_cons_self ..)
 have Gg4 : w.heap.size ≤ g4 := Z3 BE.size Hg4
 have Ng3_g5 : g3 ≠ g5 := ng5 (g3, _, _) (List.mem_cons_of_mem _ (List.mem_cons_self ..))
 have Ng4_g5 : g4 ≠ g5 := ng5 (g4, _, _) (List.mem_cons_self ..)
 have Gg5 : w.heap.size ≤ g5 := Z3 BE.size Hg5
 replace BE := BE.trans (Sw6.2.2.mono BE.size)
 have Tg3 := blk_there Bg3 (n := 4) (by simp [flen])
 have Rg3_0 := blk_range Bg3 (l := fel x) rfl
 have Lg3 := Bg3.lt
 have Tg4 := blk_there Bg4 (n := 4) (by simp [flen])
 have Rg4_0 := blk_range Bg4 (l := fel y) rfl
 have Lg4 := Bg4.lt
 have Tg5 := blk_there Bg5 (n := 4) (by simp [flen])
 have Rg5_0 := blk_range Bg5 (l := [.int .u64 0, .int .u64 0, .int .u64 0, .int .u64 0]) rfl
 have Lg5 := Bg5.lt
 clear ng3 ng4 ng5 Bg3 Bg4 Bg5
 refine lNp (hK1 _ _ ?_)
 refine Z10 (fun K7 hK7 => ?_)
 refine Z30 1 (by kernel_rfl) (fun Lk hLk => ?_)
 simp only [Z7, Z8]
 refine vAl ?_
 refine Z19 (hLk.out _ ?_)
 simp only [Z7, Z8]
 refine wpN_new (t := 124) (cs := ([.int .u64 0, .int .u64 0, .int .u64 0, .int .u64 0, .int .u64 0]).toArray) (by rfl) (fun W => ?_) (fun g9 Hg9 ng9 => ?_)
 ·
  go_simp
 simp only [Z0, Z6]
 refine Z29 (fun w10 Sw10 hbs => ?_)
 have Bg9 : Blk w10 g9 124 ([.int .u64 0, .int .u64 0, .int .u64 0, .int .u64 0, .int .u64 0]).toArray := hbs _ (List.mem_cons_self ..)
 clear hbs
 have Ng3_g9 : g3 ≠ g9 := Z4 (Z1 Lg3 Hg9)
 have Ng4_g9 : g4 ≠ g9 := Z4 (Z1 Lg4 Hg9)
 have Ng5_g9 : g5 ≠ g9 := Z4 (Z1 Lg5 Hg9)
 have Gg9 : w.heap.size ≤ g9 := Z3 BE.size Hg9
 replace Rg3_0 := Z26 Rg3_0 Lg3 Sw10
 replace Tg3 := Z27 Tg3 Lg3 Sw10
 replace Rg4_0 := Z26 Rg4_0 Lg4 Sw10
 replace Tg4 := Z27 Tg4 Lg4 Sw10
 replace Rg5_0 := Z26 Rg5_0 Lg5 Sw10
 replace Tg5 := Z27 Tg5 Lg5 Sw10
 replace Lg3 := Z1 Lg3 Sw10.2.2.size
 replace Lg4 := Z1 Lg4 Sw10.2.2.size
 replace Lg5 := Z1 Lg5 Sw10.2.2.size
 replace BE := BE.trans (Sw10.2.2.mono BE.size)
 have Tg9 := blk_there Bg9 (n := 5) (by simp [flen])
 have Rg9_0 := blk_range Bg9 (l := [.int .u64 0, .int .u64 0, .int .u64 0, .int .u64 0, .int .u64 0]) rfl
 have Lg9 := Bg9.lt
 clear ng9 Bg9
 refine lNp (hK7 _ _ ?_)
 refine Z10 (fun K11 hK11 => ?_)
 refine Z10 (fun K12 hK12 => ?_)
 refine Z30 1 (by kernel_rfl) (fun Lk hLk => ?_)
 simp only [Z7, Z8]
 refine vMv (v := .int .i64 0) ?_
 simp only [Z0, Z6]
 refine Z19 (hLk.out _ ?_)
 simp only [Z7, Z8]
 iterate 1 refine Z28 (by rfl) ?_
 refine Z29 (fun w14 Sw14 hbs => ?_)
 clear hbs
 replace Rg3_0 := Z26 Rg3_0 Lg3 Sw14
 replace Tg3 := Z27 Tg3 Lg3 Sw14
 replace Rg4_0 := Z26 Rg4_0 Lg4 Sw14
 replace Tg4 := Z27 Tg4 Lg4 Sw14
 replace Rg5_0 := Z26 Rg5_0 Lg5 Sw14
 replace Tg5 := Z27 Tg5 Lg5 Sw14
 replace Rg9_0 := Z26 Rg9_0 Lg9 Sw14
 replace Tg9 := Z27 Tg9 Lg9 Sw14
 replace Lg3 := Z1 Lg3 Sw14.2.2.size
 replace Lg4 := Z1 Lg4 Sw14.2.2.size
 replace Lg5 := Z1 Lg5 Sw14.2.2.size
 replace Lg9 := Z1 Lg9 Sw14.2.2.size
 replace BE := BE.trans (Sw14.2.2.mono BE.size)
 refine lNp (hK12 _ _ ?_)
 refine wp_block ?_
 refine wp_loop_ghost (fun n9 a9 W9 => ∃ (i : Nat) (M : Nat) (u15 : Nat → Value), n9 = 4 - i ∧ a9 = { tmps := #[fe x, fe y, .pointer (some ⟨g3, 0, none⟩), .pointer (some ⟨g4, 0, none⟩), .pointer (some ⟨g5, 0, none⟩), .pointer (some ⟨g9, 0, none⟩), u15 6, u15 7, u15 8, u15 9, u15 10, .int .i64 i, u15 12, u15 13, u15 14, u15 15, u15 16, u15 17, u15 18, u15 19, u15 20, u15 21, u15 22, u15 23, u15 24, u15 25, u15 26, u15 27, u15 28, u15 29, u15 30, u15 31, u15 32, u15 33, u15 34, u15 35, u15 36, u15 37, u15 38, u15 39, u15 40, u15 41, Z9, Z9], defers := [] } ∧ Below w.heap.size w W9 ∧ World.rangeAt W9 g3 0 (fel x) ∧ World.there W9 g3 0 4 ∧ g3 < W9.heap.size ∧ World.rangeAt W9 g4 0 (fel y) ∧ World.there W9 g4 0 4 ∧ g4 < W9.heap.size ∧ World.rangeAt W9 g5 0 ([.int .u64 0, .int .u64 0, .int .u64 0, .int .u64 0]) ∧ World.there W9 g5 0 4 ∧ g5 < W9.heap.size ∧ World.rangeAt W9 g9 0 (wl 5 M) ∧ World.there W9 g9 0 5 ∧ g9 < W9.heap.size ∧ (i ≤ 4) ∧ (SumInv x y i M)) (4 - (0)) ?_ (fun n9 a9 W9 hI => ?_)
 ·
  exact ⟨0, 0, (fun q9 => (#[Z9, Z9, Z9, Z9, Z9, Z9, Z9, Z9, Z9, Z9, Z9, Z9, Z9, Z9, Z9, Z9, Z9, Z9, Z9, Z9, Z9, Z9, Z9, Z9, Z9, Z9, Z9, Z9, Z9, Z9, Z9, Z9, Z9, Z9, Z9, Z9, Z9, Z9, Z9, Z9, Z9, Z9] : Array Value).getD q9 Z9), rfl, rfl, BE, Rg3_0, Tg3, Lg3, Rg4_0, Tg4, Lg4, Rg5_0, Tg5, Lg5, (by rw [wl_zero]; exact Rg9_0), Tg9, Lg9, (by omega), (sum_start x y)⟩
 clear BE Rg3_0 Rg4_0 Rg5_0 Rg9_0 Tg3 Tg4 Tg5 Tg9 Lg3 Lg4 Lg5 Lg9
 obtain ⟨i, M, u15, rfl, rfl, BE, Rg3_0, Tg3, Lg3, Rg4_0, Tg4, Lg4, Rg5_0, Tg5, Lg5, Rg9_0, Tg9, Lg9, hi4, HS⟩ := hI
 obtain ⟨w16, rfl⟩ : ∃ W8, W8 = W9 := ⟨_, rfl⟩
 refine Z10 (fun K17 hK17 => ?_)
 refine Z30 1 (by kernel_rfl) (fun Lk hLk => ?_)
 simp only [Z7, Z8]
 refine vBn (v := .bool (decide (i < 4))) (hr := fun W => run_lssN i 4 _ _ W) ?_
 simp only [Z0, Z6]
 refine Z19 (hLk.out _ ?_)
 simp only [Z7, Z8]
 iterate 1 refine Z28 (by rfl) ?_
 refine Z29 (fun w19 Sw19 hbs => ?_)
 clear hbs
 replace Rg3_0 := Z26 Rg3_0 Lg3 Sw19
 replace Tg3 := Z27 Tg3 Lg3 Sw19
 replace Rg4_0 := Z26 Rg4_0 Lg4 Sw19
 replace Tg4 := Z27 Tg4 Lg4 Sw19
 replace Rg5_0 := Z26 Rg5_0 Lg5 Sw19
 replace Tg5 := Z27 Tg5 Lg5 Sw19
 replace Rg9_0 := Z26 Rg9_0 Lg9 Sw19
 replace Tg9 := Z27 Tg9 Lg9 Sw19
 replace Lg3 := Z1 Lg3 Sw19.2.2.size
 replace Lg4 := Z1 Lg4 Sw19.2.2.size
 replace Lg5 := Z1 Lg5 Sw19.2.2.size
 replace Lg9 := Z1 Lg9 Sw19.2.2.size
 replace BE := BE.trans (Sw19.2.2.mono BE.size)
 refine lNp (hK17 _ _ ?_)
 refine Z10 (fun K20 hK20 => ?_)
 cases hc21 : (decide (i < 4))
 ·
  have ei : i = 4 := by have := of_decide_eq_false hc21; omega
  subst ei
  have eM := sum_end hx hy HS
  subst eM
  refine Z12 rfl ?_
  refine wp_exit ?_
  refine hK11 _ _ ?_
  refine Z10 (fun K22 hK22 => ?_)
  refine Z30 2 (by kernel_rfl) (fun Lk hLk => ?_)
  simp only [Z7, Z8]
  refine wpV_sliceA (n := 5) (by rfl) rfl rfl U9124 info40 ?_
  simp only [Z0, Z6]
  refine Z25 (v := fe (restS (x + y))) (args := #[.slice (some ⟨g9, 0, none⟩) 5 5]) (by rfl) rfl Tryd.func86 (by kernel_rfl) (by kernel_rfl) rfl (fun W hW => rest_c (n := 5) (N := (x + y)) (by decide) (by simp only [Nat.reducePow] at hx hy ⊢; omega) (Z1 Lg9 hW.2.2.size) (Z26 Rg9_0 Lg9 hW)) ?_
  simp only [Z0, Z6]
  refine Z19 (hLk.out _ ?_)
  simp only [Z7, Z8]
  iterate 2 refine Z28 (by rfl) ?_
  refine Z29 (fun w24 Sw24 hbs => ?_)
  clear hbs
  replace Rg3_0 := Z26 Rg3_0 Lg3 Sw24
  replace Tg3 := Z27 Tg3 Lg3 Sw24
  replace Rg4_0 := Z26 Rg4_0 Lg4 Sw24
  replace Tg4 := Z27 Tg4 Lg4 Sw24
  replace Rg5_0 := Z26 Rg5_0 Lg5 Sw24
  replace Tg5 := Z27 Tg5 Lg5 Sw24
  replace Rg9_0 := Z26 Rg9_0 Lg9 Sw24
  replace Tg9 := Z27 Tg9 Lg9 Sw24
  replace Lg3 := Z1 Lg3 Sw24.2.2.size
  replace Lg4 := Z1 Lg4 Sw24.2.2.size
  replace Lg5 := Z1 Lg5 Sw24.2.2.size
  replace Lg9 := Z1 Lg9 Sw24.2.2.size
  replace BE := BE.trans (Sw24.2.2.mono BE.size)
  refine lSt (g := g5) (off := 0) (n := 4) (cs := fel (restS (x + y))) Tg5 (by simp [flen]) info80 (fel_one _) (fun w25 Pw25 RR TT => ?_)
  replace Rg3_0 := Pw25.range Rg3_0 (.inl Ng3_g5)
  replace Tg3 := Pw25.other_there Tg3 Ng3_g5
  replace Rg4_0 := Pw25.range Rg4_0 (.inl Ng4_g5)
  replace Tg4 := Pw25.other_there Tg4 Ng4_g5
  replace Rg9_0 := Pw25.range Rg9_0 (.inl (Ne.symm Ng5_g9))
  replace Tg9 := Pw25.other_there Tg9 (Ne.symm Ng5_g9)
  replace Rg5_0 := RR
  clear RR
  replace Tg5 := TT
  replace Lg3 := Pw25.lt Lg3
  replace Lg4 := Pw25.lt Lg4
  replace Lg5 := Pw25.lt Lg5
  replace Lg9 := Pw25.lt Lg9
  replace BE := Pw25.below BE Gg5
  refine lNp (hK22 _ _ ?_)
  refine wp_ret ?_
  repeat (first | with_reducible refine then_ret ?_ | with_reducible refine inblock_ret ?_)
  refine bodyPost_ret (v := fe (restS (x + y))) (res1 rfl (.cell (by rfl) (run_loadVar_mid _ _ _ _ (fel (restS (x + y))) _ Rg5_0 U980 rfl info80))) rfl ?_
  exact ⟨rfl, BE⟩
 have hi : i < 4 := of_decide_eq_true hc21
 refine Z11 rfl ?_
 refine wp_skip ?_
 refine hK20 _ _ ?_
 refine Z10 (fun K26 hK26 => ?_)
 refine wp_block ?_
 refine Z10 (fun K27 hK27 => ?_)
 refine Z30 1 (by kernel_rfl) (fun Lk hLk => ?_)
 simp only [Z7, Z8]
 refine vMv (v := .int .i64 i) ?_
 simp only [Z0, Z6]
 refine Z19 (hLk.out _ ?_)
 simp only [Z7, Z8]
 iterate 1 refine Z28 (by rfl) ?_
 refine Z29 (fun w29 Sw29 hbs => ?_)
 clear hbs
 replace Rg3_0 := Z26 Rg3_0 Lg3 Sw29
 replace Tg3 := Z27 Tg3 Lg3 Sw29
 replace Rg4_0 := Z26 Rg4_0 Lg4 Sw29
 replace Tg4 := Z27 Tg4 Lg4 Sw29
 replace Rg5_0 := Z26 Rg5_0 Lg5 Sw29
 replace Tg5 := Z27 Tg5 Lg5 Sw29
 replace Rg9_0 := Z26 Rg9_0 Lg9 Sw29
 replace Tg9 := Z27 Tg9 Lg9 Sw29
 replace Lg3 := Z1 Lg3 Sw29.2.2.size
 replace Lg4 := Z1 Lg4 Sw29.2.2.size
 replace Lg5 := Z1 Lg5 Sw29.2.2.size
 replace Lg9 := Z1 Lg9 Sw29.2.2.size
 replace BE := BE.trans (Sw29.2.2.mono BE.size)
 refine lAs (v := .int .i64 i) ?_
 simp only [Z0, Z6]
 refine lNp (hK27 _ _ ?_)
 refine Z10 (fun K30 hK30 => ?_)
 refine wp_region_grow 10 [9] (by kernel_rfl) (by kernel_rfl) (by kernel_rfl) (fun Lk hLk => ?_)
 simp only [Z7, Z8]
 refine vMv (v := .int .i64 i) ?_
 simp only [Z0, Z6]
 refine wpV_idx (n := i) (by rfl) rfl rfl rfl U980 info40 (by omega) ?_
 simp only [Z2]
 simp only [Z0, Z6]
 refine Z34 (v := .int .u64 (limbN x i : Nat)) (by rfl) rfl rfl (by have := Rg3_0 _ _ (fel_get (j := i) x (by omega)); rwa [Z2] at this) Lg3 U940 rfl ?_
 simp only [Z0, Z6]
 refine vMv (v := .int .i64 i) ?_
 simp only [Z0, Z6]
 refine wpV_idx (n := i) (by rfl) rfl rfl rfl U980 info40 (by omega) ?_
 simp only [Z2]
 simp only [Z0, Z6]
 refine Z34 (v := .int .u64 (limbN y i : Nat)) (by rfl) rfl rfl (by have := Rg4_0 _ _ (fel_get (j := i) y (by omega)); rwa [Z2] at this) Lg4 U940 rfl ?_
 simp only [Z0, Z6]
 refine wpV_ext (v := .tuple #[.int .u64 ((limbN x i + limbN y i) % 18446744073709551616 : Nat), .int .u64 ((limbN x i + limbN y i) / 18446744073709551616 : Nat)]) (f := 85) (args := #[.int .u64 (limbN x i : Nat), .int .u64 (limbN y i : Nat), .int .u64 0]) (by rfl) rfl rfl (addN (x := limbN x i) (y := limbN y i) (c := 0) (limbN_lt _ _) (limbN_lt _ _) (by omega)) ?_
 simp only [Z0, Z6]
 refine vMv (v := .tuple #[.int .u64 ((limbN x i + limbN y i) % 18446744073709551616 : Nat), .int .u64 ((limbN x i + limbN y i) / 18446744073709551616 : Nat)]) ?_
 simp only [Z0, Z6]
 refine Z32 (v := .int .u64 ((limbN x i + limbN y i) % 18446744073709551616 : Nat)) (by rfl) rfl rfl rfl ?_
 simp only [Z0, Z6]
 refine Z32 (v := .int .u64 ((limbN x i + limbN y i) / 18446744073709551616 : Nat)) (by rfl) rfl rfl rfl ?_
 simp only [Z0, Z6]
 refine Z19 (hLk.out _ ?_)
 simp only [Z7, Z8]
 iterate 10 refine Z28 (by rfl) ?_
 refine Z29 (fun w32 Sw32 hbs => ?_)
 clear hbs
 replace Rg3_0 := Z26 Rg3_0 Lg3 Sw32
 replace Tg3 := Z27 Tg3 Lg3 Sw32
 replace Rg4_0 := Z26 Rg4_0 Lg4 Sw32
 replace Tg4 := Z27 Tg4 Lg4 Sw32
 replace Rg5_0 := Z26 Rg5_0 Lg5 Sw32
 replace Tg5 := Z27 Tg5 Lg5 Sw32
 replace Rg9_0 := Z26 Rg9_0 Lg9 Sw32
 replace Tg9 := Z27 Tg9 Lg9 Sw32
 replace Lg3 := Z1 Lg3 Sw32.2.2.size
 replace Lg4 := Z1 Lg4 Sw32.2.2.size
 replace Lg5 := Z1 Lg5 Sw32.2.2.size
 replace Lg9 := Z1 Lg9 Sw32.2.2.size
 replace BE := BE.trans (Sw32.2.2.mono BE.size)
 refine lAs (v := .int .u64 ((limbN x i + limbN y i) % 18446744073709551616 : Nat)) ?_
 refine lAs (v := .int .u64 ((limbN x i + limbN y i) / 18446744073709551616 : Nat)) ?_
 simp only [Z0, Z6]
 refine lNp (hK30 _ _ ?_)
 refine Z10 (fun K33 hK33 => ?_)
 refine Z30 8 (by kernel_rfl) (fun Lk hLk => ?_)
 simp only [Z7, Z8]
 refine vMv (v := .int .u64 ((limbN x i + limbN y i) % 18446744073709551616 : Nat)) ?_
 simp only [Z0, Z6]
 refine vMv (v := .int .i64 i) ?_
 simp only [Z0, Z6]
 refine wpV_idx (n := i) (by rfl) rfl rfl rfl U9124 info40 (by omega) ?_
 simp only [Z2]
 simp only [Z0, Z6]
 refine Z34 (v := .int .u64 (limbN M i : Nat)) (by rfl) rfl rfl (by have := Rg9_0 _ _ (wl_get (j := i) 5 M (by omega)); rwa [Z2] at this) Lg9 U940 rfl ?_
 simp only [Z0, Z6]
 refine wpV_ext (v := .tuple #[.int .u64 (((limbN x i + limbN y i) % 18446744073709551616 + limbN M i) % 18446744073709551616 : Nat), .int .u64 (((limbN x i + limbN y i) % 18446744073709551616 + limbN M i) / 18446744073709551616 : Nat)]) (f := 85) (args := #[.int .u64 ((limbN x i + limbN y i) % 18446744073709551616 : Nat), .int .u64 (limbN M i : Nat), .int .u64 0]) (by rfl) rfl rfl (addN (x := (limbN x i + limbN y i) % 18446744073709551616) (y := limbN M i) (c := 0) (Nat.mod_lt _ (by decide)) (limbN_lt _ _) (by omega)) ?_
 simp only [Z0, Z6]
 refine vMv (v := .tuple #[.int .u64 (((limbN x i + limbN y i) % 18446744073709551616 + limbN M i) % 18446744073709551616 : Nat), .int .u64 (((limbN x i + limbN y i) % 18446744073709551616 + limbN M i) / 18446744073709551616 : Nat)]) ?_
 simp only [Z0, Z6]
 refine Z32 (v := .int .u64 (((limbN x i + limbN y i) % 18446744073709551616 + limbN M i) % 18446744073709551616 : Nat)) (by rfl) rfl rfl rfl ?_
 simp only [Z0, Z6]
 refine Z32 (v := .int .u64 (((limbN x i + limbN y i) % 18446744073709551616 + limbN M i) / 18446744073709551616 : Nat)) (by rfl) rfl rfl rfl ?_
 simp only [Z0, Z6]
 refine Z19 (hLk.out _ ?_)
 simp only [Z7, Z8]
 iterate 8 refine Z28 (by rfl) ?_
 refine Z29 (fun w35 Sw35 hbs => ?_)
 clear hbs
 replace Rg3_0 := Z26 Rg3_0 Lg3 Sw35
 replace Tg3 := Z27 Tg3 Lg3 Sw35
 replace Rg4_0 := Z26 Rg4_0 Lg4 Sw35
 replace Tg4 := Z27 Tg4 Lg4 Sw35
 replace Rg5_0 := Z26 Rg5_0 Lg5 Sw35
 replace Tg5 := Z27 Tg5 Lg5 Sw35
 replace Rg9_0 := Z26 Rg9_0 Lg9 Sw35
 replace Tg9 := Z27 Tg9 Lg9 Sw35
 replace Lg3 := Z1 Lg3 Sw35.2.2.size
 replace Lg4 := Z1 Lg4 Sw35.2.2.size
 replace Lg5 := Z1 Lg5 Sw35.2.2.size
 replace Lg9 := Z1 Lg9 Sw35.2.2.size
 replace BE := BE.trans (Sw35.2.2.mono BE.size)
 refine lAs (v := .int .u64 (((limbN x i + limbN y i) % 18446744073709551616 + limbN M i) % 18446744073709551616 : Nat)) ?_
 refine lAs (v := .int .u64 (((limbN x i + limbN y i) % 18446744073709551616 + limbN M i) / 18446744073709551616 : Nat)) ?_
 simp only [Z0, Z6]
 refine lNp (hK33 _ _ ?_)
 refine Z30 8 (by kernel_rfl) (fun Lk hLk => ?_)
 simp only [Z7, Z8]
 refine vMv (v := .int .i64 i) ?_
 simp only [Z0, Z6]
 refine vMv (v := .int .i64 i) ?_
 simp only [Z0, Z6]
 refine vBn (v := .int .i64 (i + 1 : Nat)) (hr := fun W => run_add (by simp only [IntKind.wrap_i64]; omega) W) ?_
 simp only [Z0, Z6]
 refine vMv (v := .int .u64 (((limbN x i + limbN y i) % 18446744073709551616 + limbN M i) % 18446744073709551616 : Nat)) ?_
 simp only [Z0, Z6]
 refine vMv (v := .int .u64 ((limbN x i + limbN y i) / 18446744073709551616 : Nat)) ?_
 simp only [Z0, Z6]
 refine vMv (v := .int .u64 (((limbN x i + limbN y i) % 18446744073709551616 + limbN M i) / 18446744073709551616 : Nat)) ?_
 simp only [Z0, Z6]
 refine vBn (v := .int .u64 (sumC x y i M : Nat)) (hr := fun W => run_add (by have := sumC_lt x y i M; unfold sumC at this ⊢; rw [wrap_u64]; omega) W) ?_
 simp only [Z0, Z6]
 refine wpV_idx (n := i) (by rfl) rfl rfl rfl U9124 info40 (by omega) ?_
 simp only [Z2]
 simp only [Z0, Z6]
 refine Z19 (hLk.out _ ?_)
 simp only [Z7, Z8]
 iterate 8 refine Z28 (by rfl) ?_
 refine Z29 (fun w37 Sw37 hbs => ?_)
 clear hbs
 replace Rg3_0 := Z26 Rg3_0 Lg3 Sw37
 replace Tg3 := Z27 Tg3 Lg3 Sw37
 replace Rg4_0 := Z26 Rg4_0 Lg4 Sw37
 replace Tg4 := Z27 Tg4 Lg4 Sw37
 replace Rg5_0 := Z26 Rg5_0 Lg5 Sw37
 replace Tg5 := Z27 Tg5 Lg5 Sw37
 replace Rg9_0 := Z26 Rg9_0 Lg9 Sw37
 replace Tg9 := Z27 Tg9 Lg9 Sw37
 replace Lg3 := Z1 Lg3 Sw37.2.2.size
 replace Lg4 := Z1 Lg4 Sw37.2.2.size
 replace Lg5 := Z1 Lg5 Sw37.2.2.size
 replace Lg9 := Z1 Lg9 Sw37.2.2.size
 replace BE := BE.trans (Sw37.2.2.mono BE.size)
 refine lS1 (g := g9) (off := i) (n := 5) (v := .int .u64 (((limbN x i + limbN y i) % 18446744073709551616 + limbN M i) % 18446744073709551616 : Nat)) Tg9 (by omega) info40 rfl (fun w38 Pw38 RR TT => ?_)
 replace Rg3_0 := Pw38.range Rg3_0 (.inl Ng3_g9)
 replace Tg3 := Pw38.other_there Tg3 Ng3_g9
 replace Rg4_0 := Pw38.range Rg4_0 (.inl Ng4_g9)
 replace Tg4 := Pw38.other_there Tg4 Ng4_g9
 replace Rg5_0 := Pw38.range Rg5_0 (.inl Ng5_g9)
 replace Tg5 := Pw38.other_there Tg5 Ng5_g9
 replace Rg9_0 := range_set Rg9_0 Pw38 RR
 clear RR
 replace Tg9 := TT
 replace Lg3 := Pw38.lt Lg3
 replace Lg4 := Pw38.lt Lg4
 replace Lg5 := Pw38.lt Lg5
 replace Lg9 := Pw38.lt Lg9
 replace BE := Pw38.below BE Gg9
 rw [show (((limbN x i + limbN y i) % 18446744073709551616 + limbN M i) % 18446744073709551616) = sumT x y i M from rfl, wl_set (sumM_eq x y i M) (sumT_lt x y i M)] at Rg9_0
 refine wpL_idx (n := i + 1) (by rfl) (by rfl) (by rfl) (by rfl) U9124 info40 (by omega) ?_
 simp only [Z2]
 simp only [Z0, Z6]
 refine lS1 (g := g9) (off := i + 1) (n := 5) (v := .int .u64 (sumC x y i M : Nat)) Tg9 (by omega) info40 rfl (fun w39 Pw39 RR TT => ?_)
 replace Rg3_0 := Pw39.range Rg3_0 (.inl Ng3_g9)
 replace Tg3 := Pw39.other_there Tg3 Ng3_g9
 replace Rg4_0 := Pw39.range Rg4_0 (.inl Ng4_g9)
 replace Tg4 := Pw39.other_there Tg4 Ng4_g9
 replace Rg5_0 := Pw39.range Rg5_0 (.inl Ng5_g9)
 replace Tg5 := Pw39.other_there Tg5 Ng5_g9
 replace Rg9_0 := range_set Rg9_0 Pw39 RR
 clear RR
 replace Tg9 := TT
 replace Lg3 := Pw39.lt Lg3
 replace Lg4 := Pw39.lt Lg4
 replace Lg5 := Pw39.lt Lg5
 replace Lg9 := Pw39.lt Lg9
 replace BE := Pw39.below BE Gg9
 rw [show (sumC x y i M) = sumC x y i M from rfl, wl_set (sumN_eq HS) (sumC_lt x y i M)] at Rg9_0
 refine lNp (hK26 _ _ ?_)
 refine Z30 2 (by kernel_rfl) (fun Lk hLk => ?_)
 simp only [Z7, Z8]
 refine vBn (v := .int .i64 (i + 1 : Nat)) (hr := fun W => run_add (by simp only [IntKind.wrap_i64]; omega) W) ?_
 simp only [Z0, Z6]
 refine vMv (v := .int .i64 (i + 1 : Nat)) ?_
 simp only [Z0, Z6]
 refine Z19 (hLk.out _ ?_)
 simp only [Z7, Z8]
 iterate 2 refine Z28 (by rfl) ?_
 refine Z29 (fun w41 Sw41 hbs => ?_)
 clear hbs
 replace Rg3_0 := Z26 Rg3_0 Lg3 Sw41
 replace Tg3 := Z27 Tg3 Lg3 Sw41
 replace Rg4_0 := Z26 Rg4_0 Lg4 Sw41
 replace Tg4 := Z27 Tg4 Lg4 Sw41
 replace Rg5_0 := Z26 Rg5_0 Lg5 Sw41
 replace Tg5 := Z27 Tg5 Lg5 Sw41
 replace Rg9_0 := Z26 Rg9_0 Lg9 Sw41
 replace Tg9 := Z27 Tg9 Lg9 Sw41
 replace Lg3 := Z1 Lg3 Sw41.2.2.size
 replace Lg4 := Z1 Lg4 Sw41.2.2.size
 replace Lg5 := Z1 Lg5 Sw41.2.2.size
 replace Lg9 := Z1 Lg9 Sw41.2.2.size
 replace BE := BE.trans (Sw41.2.2.mono BE.size)
 refine Z14 (Z15 ?_)
 refine Exists.intro _ ⟨?_, (i + 1), (sumN x y i M), (fun q9 => (#[Z9, Z9, Z9, Z9, Z9, Z9, .int .i64 i, .int .u64 ((limbN x i + limbN y i) % 18446744073709551616 : Nat), .int .u64 ((limbN x i + limbN y i) / 18446744073709551616 : Nat), .int .u64 (((limbN x i + limbN y i) % 18446744073709551616 + limbN M i) % 18446744073709551616 : Nat), .int .u64 (((limbN x i + limbN y i) % 18446744073709551616 + limbN M i) / 18446744073709551616 : Nat), Z9, .bool true, .int .i64 i, .tuple #[.int .u64 ((limbN x i + limbN y i) % 18446744073709551616 : Nat), .int .u64 ((limbN x i + limbN y i) / 18446744073709551616 : Nat)], .int .i64 i, .pointer (some ⟨g3, i, none⟩), .int .u64 (limbN x i : Nat), .int .i64 i, .pointer (some ⟨g4, i, none⟩), .int .u64 (limbN y i : Nat), .tuple #[.int .u64 ((limbN x i + limbN y i) % 18446744073709551616 : Nat), .int .u64 ((limbN x i + limbN y i) / 18446744073709551616 : Nat)], .int .u64 ((limbN x i + limbN y i) % 18446744073709551616 : Nat), .int .u64 ((limbN x i + limbN y i) / 18446744073709551616 : Nat), .tuple #[.int .u64 (((limbN x i + limbN y i) % 18446744073709551616 + limbN M i) % 18446744073709551616 : Nat), .int .u64 (((limbN x i + limbN y i) % 18446744073709551616 + limbN M i) / 18446744073709551616 : Nat)], .int .u64 ((limbN x i + limbN y i) % 18446744073709551616 : Nat), .int .i64 i, .pointer (some ⟨g9, i, none⟩), .int .u64 (limbN M i : Nat), .tuple #[.int .u64 (((limbN x i + limbN y i) % 18446744073709551616 + limbN M i) % 18446744073709551616 : Nat), .int .u64 (((limbN x i + limbN y i) % 18446744073709551616 + limbN M i) / 18446744073709551616 : Nat)], .int .u64 (((limbN x i + limbN y i) % 18446744073709551616 + limbN M i) % 18446744073709551616 : Nat), .int .u64 (((limbN x i + limbN y i) % 18446744073709551616 + limbN M i) / 18446744073709551616 : Nat), .int .i64 i, .int .i64 i, .int .i64 (i + 1 : Nat), .int .u64 (((limbN x i + limbN y i) % 18446744073709551616 + limbN M i) % 18446744073709551616 : Nat), .int .u64 ((limbN x i + limbN y i) / 18446744073709551616 : Nat), .int .u64 (((limbN x i + limbN y i) % 18446744073709551616 + limbN M i) / 18446744073709551616 : Nat), .int .u64 (sumC x y i M : Nat), .pointer (some ⟨g9, i, none⟩), .pointer (some ⟨g9, i + 1, none⟩), .int .i64 (i + 1 : Nat)] : Array Value).getD q9 Z9), rfl, rfl, BE, Rg3_0, Tg3, Lg3, Rg4_0, Tg4, Lg4, Rg5_0, Tg5, Lg5, Rg9_0, Tg9, Lg9, (by omega), (sum_step HS)⟩
 omega
end Go.Proofs.Ya

