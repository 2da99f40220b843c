import Derived.Test.YtpgpjoldelobdaaDoorF7
import Derived.Test.YtpgpjoldelobdaaDoorShq
set_option linter.unusedSimpArgs false
set_option linter.unusedVariables false
namespace Go.Proofs.Ya
open Go Go.RowKit Go.Shelf Go.Proofs.Num
open Tryd renaming underlying129 → U9129, underlying29 → U929, underlying40 → U940, underlying5 → U95, underlying80 → U980, underlying9 → U99
open Go.Proofs.Num  renaming putT → Z0
open Nat renaming lt_of_lt_of_le → Z1, zero_add → Z2, le_trans → Z3, ne_of_lt → Z4, mod_eq_of_lt → Z5
open List renaming set → Z6, take → Z7, drop → Z8
open Go renaming undef → Z9, wp_seq_k → Z10, wp_cond_true → Z11, wp_cond_false → Z12
open Go.Proofs.Num renaming wpL_nil → Z14, no_panic → Z15, wpV_nil → Z19, wpV_callf → Z25, range_sees → Z26, there_sees → Z27, wpN_skip → Z28, wpN_nil → Z29, wp_region_plain → Z30, wpV_extract → Z32, wpV_load1 → Z34
theorem info5 : (Tryd.prog.info? 5).map (·.size) = some 1 := by kernel_rfl
set_option maxHeartbeats 1000000 in
theorem smul_c {x : Nat} (hx : x < 2 ^ 256) {y : Nat} (hy : y < 2 ^ 256) (w : World) :
  Calls Tryd.prog 50 #[fe x, fe y] w fun e w' => e = .returned (fe (smul x y)) ∧ Below w.heap.size w w' := by
 go_enter Tryd.func50, Tryd.ntmps50
 have BE := Below.refl w.heap.size w
 refine Z10 (fun K1 hK1 => ?_)
 refine Z30 3 (by kernel_rfl) (fun Lk hLk => ?_)
 simp only [Z7, Z8]
 refine vAl ?_
 refine vAl ?_
 refine vAl ?_
 refine Z19 (hLk.out _ ?_)
 simp only [Z7, Z8]
 refine wpN_new (t := 80) (cs := (fel x).toArray) (by rfl) (fun W => ?_) (fun g3 Hg3 ng3 => ?_)
 ·
  (first | rfl | go_simp)
 refine wpN_new (t := 80) (cs := (fel y).toArray) (by rfl) (fun W => ?_) (fun g4 Hg4 ng4 => ?_)
 ·
  (first | rfl | go_simp)
 refine wpN_new (t := 80) (cs := ([.int .u64 0, .int .u64 0, .int .u64 0, .int .u64 0]).toArray) (by rfl) (fun W => ?_) (fun g5 Hg5 ng5 => ?_)
 ·
  go_simp
 simp only [Z0, Z6]
 refine Z29 (fun w6 Sw6 hbs => ?_)
 have Bg3 : Blk w6 g3 80 (fel x).toArray := hbs _ (List.mem_cons_of_mem _ (List.mem_cons_of_mem _ (List.mem_cons_self ..)))
 have Bg4 : Blk w6 g4 80 (fel y).toArray := hbs _ (List.mem_cons_of_mem _ (List.mem_cons_self ..))
 have Bg5 : Blk w6 g5 80 ([.int .u64 0, .int .u64 0, .int .u64 0, .int .u64 0]).toArray := hbs _ (List.mem_cons_self ..)
 clear hbs
 have Gg3 : w.heap.size ≤ g3 := Z3 BE.size Hg3
 have Ng3_g4 : g3 ≠ g4 := ng4 (g3, _, _) (List.mem_cons_self ..)
 have Gg4 : w.heap.size ≤ g4 := Z3 BE.size Hg4
 have Ng3_g5 : g3 ≠ g5 := ng5 (g3, _, _) (List.mem_cons_of_mem _ (List.mem_cons_self ..))
 have Ng4_g5 : g4 ≠ g5 := ng5 (g4, _, _) (List.mem_cons_self ..)
 have Gg5 : w.heap.size ≤ g5 := Z3 BE.size Hg5
 replace BE := BE.trans (Sw6.2.2.mono BE.size)
 have Tg3 := blk_there Bg3 (n := 4) (by simp [flen])
 have Rg3_0 := blk_range Bg3 (l := fel x) rfl
 have Lg3 := Bg3.lt
 have Tg4 := blk_there Bg4 (n := 4) (by simp [flen])
 have Rg4_0 := blk_range Bg4 (l := fel y) rfl
 have Lg4 := Bg4.lt
 have Tg5 := blk_there Bg5 (n := 4) (by simp [flen])
 have Rg5_0 := blk_range Bg5 (l := [.int .u64 0, .int .u64 0, .int .u64 0, .int .u64 0]) rfl
 have Lg5 := Bg5.lt
 clear ng3 ng4 ng5 Bg3 Bg4 Bg5
 refine lNp (hK1 _ _ ?_)
 refine Z10 (fun K7 hK7 => ?_)
 refine Z30 1 (by kernel_rfl) (fun Lk hLk => ?_)
 simp only [Z7, Z8]
 refine vAl ?_
 refine Z19 (hLk.out _ ?_)
 simp only [Z7, Z8]
 refine wpN_new (t := 129) (cs := ([.int .u64 0, .int .u64 0, .int .u64 0, .int .u64 0, .int .u64 0, .int .u64 0, .int .u64 0, .int .u64 0]).toArray) (by rfl) (fun W => ?_) (fun g9 Hg9 ng9 => ?_)
 ·
  go_simp
 simp only [Z0, Z6]
 refine Z29 (fun w10 Sw10 hbs => ?_)
 have Bg9 : Blk w10 g9 129 ([.int .u64 0, .int .u64 0, .int .u64 0, .int .u64 0, .int .u64 0, .int .u64 0, .int .u64 0, .int .u64 0]).toArray := hbs _ (List.mem_cons_self ..)
 clear hbs
 have Ng3_g9 : g3 ≠ g9 := Z4 (Z1 Lg3 Hg9)
 have Ng4_g9 : g4 ≠ g9 := Z4 (Z1 Lg4 Hg9)
 have Ng5_g9 : g5 ≠ g9 := Z4 (Z1 Lg5 Hg9)
 have Gg9 : w.heap.size ≤ g9 := Z3 BE.size Hg9
 replace Rg3_0 := Z26 Rg3_0 Lg3 Sw10
 replace Tg3 := Z27 Tg3 Lg3 Sw10
 replace Rg4_0 := Z26 Rg4_0 Lg4 Sw10
 replace Tg4 := Z27 Tg4 Lg4 Sw10
 replace Rg5_0 := Z26 Rg5_0 Lg5 Sw10
 replace Tg5 := Z27 Tg5 Lg5 Sw10
 replace Lg3 := Z1 Lg3 Sw10.2.2.size
 replace Lg4 := Z1 Lg4 Sw10.2.2.size
 replace Lg5 := Z1 Lg5 Sw10.2.2.size
 replace BE := BE.trans (Sw10.2.2.mono BE.size)
 have Tg9 := blk_there Bg9 (n := 8) (by simp [flen])
 have Rg9_0 := blk_range Bg9 (l := [.int .u64 0, .int .u64 0, .int .u64 0, .int .u64 0, .int .u64 0, .int .u64 0, .int .u64 0, .int .u64 0]) rfl
 have Lg9 := Bg9.lt
 clear ng9 Bg9
 refine lNp (hK7 _ _ ?_)
 refine Z10 (fun K11 hK11 => ?_)
 refine Z10 (fun K12 hK12 => ?_)
 refine Z30 2 (by kernel_rfl) (fun Lk hLk => ?_)
 simp only [Z7, Z8]
 refine vLd (cs := fel x) Rg3_0 Lg3 U980 info80 ?_
 simp only [Z0, Z6]
 refine vMv (v := .int .i64 0) ?_
 simp only [Z0, Z6]
 refine Z19 (hLk.out _ ?_)
 simp only [Z7, Z8]
 iterate 2 refine Z28 (by rfl) ?_
 refine Z29 (fun w14 Sw14 hbs => ?_)
 clear hbs
 replace Rg3_0 := Z26 Rg3_0 Lg3 Sw14
 replace Tg3 := Z27 Tg3 Lg3 Sw14
 replace Rg4_0 := Z26 Rg4_0 Lg4 Sw14
 replace Tg4 := Z27 Tg4 Lg4 Sw14
 replace Rg5_0 := Z26 Rg5_0 Lg5 Sw14
 replace Tg5 := Z27 Tg5 Lg5 Sw14
 replace Rg9_0 := Z26 Rg9_0 Lg9 Sw14
 replace Tg9 := Z27 Tg9 Lg9 Sw14
 replace Lg3 := Z1 Lg3 Sw14.2.2.size
 replace Lg4 := Z1 Lg4 Sw14.2.2.size
 replace Lg5 := Z1 Lg5 Sw14.2.2.size
 replace Lg9 := Z1 Lg9 Sw14.2.2.size
 replace BE := BE.trans (Sw14.2.2.mono BE.size)
 refine lNp (hK12 _ _ ?_)
 refine wp_block ?_
 refine wp_loop_ghost (fun n9 a9 W9 => ∃ (i : Nat) (N : Nat) (u15 : Nat → Value), n9 = 4 - i ∧ a9 = { tmps := #[fe x, fe y, .pointer (some ⟨g3, 0, none⟩), .pointer (some ⟨g4, 0, none⟩), .pointer (some ⟨g5, 0, none⟩), .pointer (some ⟨g9, 0, none⟩), u15 6, u15 7, u15 8, u15 9, u15 10, u15 11, u15 12, u15 13, u15 14, u15 15, u15 16, fe x, .int .i64 i, u15 19, u15 20, u15 21, u15 22, u15 23, u15 24, u15 25, u15 26, u15 27, u15 28, u15 29, u15 30, u15 31, u15 32, u15 33, u15 34, u15 35, u15 36, u15 37, u15 38, u15 39, u15 40, u15 41, u15 42, u15 43, u15 44, u15 45, u15 46, u15 47, u15 48, u15 49, u15 50, u15 51, u15 52, u15 53, u15 54, u15 55, u15 56, u15 57, u15 58, u15 59, u15 60, u15 61, u15 62, u15 63, u15 64, Z9, Z9], defers := [] } ∧ Below w.heap.size w W9 ∧ World.rangeAt W9 g3 0 (fel x) ∧ World.there W9 g3 0 4 ∧ g3 < W9.heap.size ∧ World.rangeAt W9 g4 0 (fel y) ∧ World.there W9 g4 0 4 ∧ g4 < W9.heap.size ∧ World.rangeAt W9 g5 0 ([.int .u64 0, .int .u64 0, .int .u64 0, .int .u64 0]) ∧ World.there W9 g5 0 4 ∧ g5 < W9.heap.size ∧ World.rangeAt W9 g9 0 (wl 8 N) ∧ World.there W9 g9 0 8 ∧ g9 < W9.heap.size ∧ (i ≤ 4) ∧ (N = (x % 2 ^ (64 * i)) * y)) (4 - (0)) ?_ (fun n9 a9 W9 hI => ?_)
 ·
  exact ⟨0, 0, (fun q9 => (#[Z9, Z9, Z9, Z9, Z9, Z9, Z9, Z9, Z9, Z9, Z9, Z9, Z9, Z9, Z9, Z9, Z9, Z9, Z9, Z9, Z9, Z9, Z9, Z9, Z9, Z9, Z9, Z9, Z9, Z9, Z9, Z9, Z9, Z9, Z9, Z9, Z9, Z9, Z9, Z9, Z9, Z9, Z9, Z9, Z9, Z9, Z9, Z9, Z9, Z9, Z9, Z9, Z9, Z9, Z9, Z9, Z9, Z9, Z9, Z9, Z9, Z9, Z9, Z9, Z9] : Array Value).getD q9 Z9), rfl, rfl, BE, Rg3_0, Tg3, Lg3, Rg4_0, Tg4, Lg4, Rg5_0, Tg5, Lg5, (by rw [wl_zero]; exact Rg9_0), Tg9, Lg9, (by omega), (by simp [Nat.mod_one])⟩
 clear BE Rg3_0 Rg4_0 Rg5_0 Rg9_0 Tg3 Tg4 Tg5 Tg9 Lg3 Lg4 Lg5 Lg9
 obtain ⟨i, N, u15, rfl, rfl, BE, Rg3_0, Tg3, Lg3, Rg4_0, Tg4, Lg4, Rg5_0, Tg5, Lg5, Rg9_0, Tg9, Lg9, hi4, HN⟩ := hI
 obtain ⟨w16, rfl⟩ : ∃ W8, W8 = W9 := ⟨_, rfl⟩
 refine Z10 (fun K17 hK17 => ?_)
 refine Z30 1 (by kernel_rfl) (fun Lk hLk => ?_)
 simp only [Z7, Z8]
 refine vBn (v := .bool (decide (i < 4))) (hr := fun W => run_lssN i 4 _ _ W) ?_
 simp only [Z0, Z6]
 refine Z19 (hLk.out _ ?_)
 simp only [Z7, Z8]
 iterate 1 refine Z28 (by rfl) ?_
 refine Z29 (fun w19 Sw19 hbs => ?_)
 clear hbs
 replace Rg3_0 := Z26 Rg3_0 Lg3 Sw19
 replace Tg3 := Z27 Tg3 Lg3 Sw19
 replace Rg4_0 := Z26 Rg4_0 Lg4 Sw19
 replace Tg4 := Z27 Tg4 Lg4 Sw19
 replace Rg5_0 := Z26 Rg5_0 Lg5 Sw19
 replace Tg5 := Z27 Tg5 Lg5 Sw19
 replace Rg9_0 := Z26 Rg9_0 Lg9 Sw19
 replace Tg9 := Z27 Tg9 Lg9 Sw19
 replace Lg3 := Z1 Lg3 Sw19.2.2.size
 replace Lg4 := Z1 Lg4 Sw19.2.2.size
 replace Lg5 := Z1 Lg5 Sw19.2.2.size
 replace Lg9 := Z1 Lg9 Sw19.2.2.size
 replace BE := BE.trans (Sw19.2.2.mono BE.size)
 refine lNp (hK17 _ _ ?_)
 refine Z10 (fun K20 hK20 => ?_)
 cases hc21 : (decide (i < 4))
 ·
  have ei : i = 4 := by have := of_decide_eq_false hc21; omega
  subst ei
  refine Z12 rfl ?_
  refine wp_exit ?_
  refine hK11 _ _ ?_
  refine Z10 (fun K22 hK22 => ?_)
  have hN : N = x * y := by rw [HN, Z5 (by simpa using hx)]
  subst hN
  refine Z30 2 (by kernel_rfl) (fun Lk hLk => ?_)
  simp only [Z7, Z8]
  refine wpV_sliceA (n := 8) (by rfl) rfl rfl U9129 info40 ?_
  simp only [Z0, Z6]
  refine Z25 (v := fe (restS (x * y))) (args := #[.slice (some ⟨g9, 0, none⟩) 8 8]) (by rfl) rfl Tryd.func86 (by kernel_rfl) (by kernel_rfl) rfl (fun W hW => rest_c (n := 8) (N := (x * y)) (by decide) (mul_512 hx hy) (Z1 Lg9 hW.2.2.size) (Z26 Rg9_0 Lg9 hW)) ?_
  simp only [Z0, Z6]
  refine Z19 (hLk.out _ ?_)
  simp only [Z7, Z8]
  iterate 2 refine Z28 (by rfl) ?_
  refine Z29 (fun w24 Sw24 hbs => ?_)
  clear hbs
  replace Rg3_0 := Z26 Rg3_0 Lg3 Sw24
  replace Tg3 := Z27 Tg3 Lg3 Sw24
  replace Rg4_0 := Z26 Rg4_0 Lg4 Sw24
  replace Tg4 := Z27 Tg4 Lg4 Sw24
  replace Rg5_0 := Z26 Rg5_0 Lg5 Sw24
  replace Tg5 := Z27 Tg5 Lg5 Sw24
  replace Rg9_0 := Z26 Rg9_0 Lg9 Sw24
  replace Tg9 := Z27 Tg9 Lg9 Sw24
  replace Lg3 := Z1 Lg3 Sw24.2.2.size
  replace Lg4 := Z1 Lg4 Sw24.2.2.size
  replace Lg5 := Z1 Lg5 Sw24.2.2.size
  replace Lg9 := Z1 Lg9 Sw24.2.2.size
  replace BE := BE.trans (Sw24.2.2.mono BE.size)
  refine lSt (g := g5) (off := 0) (n := 4) (cs := fel (restS (x * y))) Tg5 (by simp [flen]) info80 (fel_one _) (fun w25 Pw25 RR TT => ?_)
  replace Rg3_0 := Pw25.range Rg3_0 (.inl Ng3_g5)
  replace Tg3 := Pw25.other_there Tg3 Ng3_g5
  replace Rg4_0 := Pw25.range Rg4_0 (.inl Ng4_g5)
  replace Tg4 := Pw25.other_there Tg4 Ng4_g5
  replace Rg9_0 := Pw25.range Rg9_0 (.inl (Ne.symm Ng5_g9))
  replace Tg9 := Pw25.other_there Tg9 (Ne.symm Ng5_g9)
  replace Rg5_0 := RR
  clear RR
  replace Tg5 := TT
  replace Lg3 := Pw25.lt Lg3
  replace Lg4 := Pw25.lt Lg4
  replace Lg5 := Pw25.lt Lg5
  replace Lg9 := Pw25.lt Lg9
  replace BE := Pw25.below BE Gg5
  refine lNp (hK22 _ _ ?_)
  refine wp_ret ?_
  repeat (first | with_reducible refine then_ret ?_ | with_reducible refine inblock_ret ?_)
  refine bodyPost_ret (v := fe (restS (x * y))) (res1 rfl (.cell (by rfl) (run_loadVar_mid _ _ _ _ (fel (restS (x * y))) _ Rg5_0 U980 rfl info80))) rfl ?_
  exact ⟨rfl, BE⟩
 have hi : i < 4 := of_decide_eq_true hc21
 refine Z11 rfl ?_
 refine wp_skip ?_
 refine hK20 _ _ ?_
 refine Z10 (fun K26 hK26 => ?_)
 refine wp_block ?_
 refine Z10 (fun K27 hK27 => ?_)
 refine Z30 2 (by kernel_rfl) (fun Lk hLk => ?_)
 simp only [Z7, Z8]
 refine vMv (v := .int .i64 i) ?_
 simp only [Z0, Z6]
 refine wpV_index (n := i) (v := .int .u64 (limbN x i : Nat)) (by rfl) rfl rfl rfl U980 info40 U940 rfl (by omega) (fel_get (j := i) x (by omega)) ?_
 simp only [Z0, Z6]
 refine Z19 (hLk.out _ ?_)
 simp only [Z7, Z8]
 iterate 2 refine Z28 (by rfl) ?_
 refine Z29 (fun w29 Sw29 hbs => ?_)
 clear hbs
 replace Rg3_0 := Z26 Rg3_0 Lg3 Sw29
 replace Tg3 := Z27 Tg3 Lg3 Sw29
 replace Rg4_0 := Z26 Rg4_0 Lg4 Sw29
 replace Tg4 := Z27 Tg4 Lg4 Sw29
 replace Rg5_0 := Z26 Rg5_0 Lg5 Sw29
 replace Tg5 := Z27 Tg5 Lg5 Sw29
 replace Rg9_0 := Z26 Rg9_0 Lg9 Sw29
 replace Tg9 := Z27 Tg9 Lg9 Sw29
 replace Lg3 := Z1 Lg3 Sw29.2.2.size
 replace Lg4 := Z1 Lg4 Sw29.2.2.size
 replace Lg5 := Z1 Lg5 Sw29.2.2.size
 replace Lg9 := Z1 Lg9 Sw29.2.2.size
 replace BE := BE.trans (Sw29.2.2.mono BE.size)
 refine lAs (v := .int .i64 i) ?_
 refine lAs (v := .int .u64 (limbN x i : Nat)) ?_
 simp only [Z0, Z6]
 refine lNp (hK27 _ _ ?_)
 refine Z10 (fun K30 hK30 => ?_)
 refine Z30 0 (by kernel_rfl) (fun Lk hLk => ?_)
 simp only [Z7, Z8]
 refine Z19 (hLk.out _ ?_)
 simp only [Z7, Z8]
 refine Z29 (fun w32 Sw32 hbs => ?_)
 clear hbs
 replace Rg3_0 := Z26 Rg3_0 Lg3 Sw32
 replace Tg3 := Z27 Tg3 Lg3 Sw32
 replace Rg4_0 := Z26 Rg4_0 Lg4 Sw32
 replace Tg4 := Z27 Tg4 Lg4 Sw32
 replace Rg5_0 := Z26 Rg5_0 Lg5 Sw32
 replace Tg5 := Z27 Tg5 Lg5 Sw32
 replace Rg9_0 := Z26 Rg9_0 Lg9 Sw32
 replace Tg9 := Z27 Tg9 Lg9 Sw32
 replace Lg3 := Z1 Lg3 Sw32.2.2.size
 replace Lg4 := Z1 Lg4 Sw32.2.2.size
 replace Lg5 := Z1 Lg5 Sw32.2.2.size
 replace Lg9 := Z1 Lg9 Sw32.2.2.size
 replace BE := BE.trans (Sw32.2.2.mono BE.size)
 refine lAs (v := .int .u64 0) ?_
 simp only [Z0, Z6]
 refine lNp (hK30 _ _ ?_)
 refine Z10 (fun K33 hK33 => ?_)
 refine Z10 (fun K34 hK34 => ?_)
 refine Z30 2 (by kernel_rfl) (fun Lk hLk => ?_)
 simp only [Z7, Z8]
 refine vLd (cs := fel y) Rg4_0 Lg4 U980 info80 ?_
 simp only [Z0, Z6]
 refine vMv (v := .int .i64 0) ?_
 simp only [Z0, Z6]
 refine Z19 (hLk.out _ ?_)
 simp only [Z7, Z8]
 iterate 2 refine Z28 (by rfl) ?_
 refine Z29 (fun w36 Sw36 hbs => ?_)
 clear hbs
 replace Rg3_0 := Z26 Rg3_0 Lg3 Sw36
 replace Tg3 := Z27 Tg3 Lg3 Sw36
 replace Rg4_0 := Z26 Rg4_0 Lg4 Sw36
 replace Tg4 := Z27 Tg4 Lg4 Sw36
 replace Rg5_0 := Z26 Rg5_0 Lg5 Sw36
 replace Tg5 := Z27 Tg5 Lg5 Sw36
 replace Rg9_0 := Z26 Rg9_0 Lg9 Sw36
 replace Tg9 := Z27 Tg9 Lg9 Sw36
 replace Lg3 := Z1 Lg3 Sw36.2.2.size
 replace Lg4 := Z1 Lg4 Sw36.2.2.size
 replace Lg5 := Z1 Lg5 Sw36.2.2.size
 replace Lg9 := Z1 Lg9 Sw36.2.2.size
 replace BE := BE.trans (Sw36.2.2.mono BE.size)
 refine lNp (hK34 _ _ ?_)
 refine wp_block ?_
 refine wp_loop_ghost (fun n9 a9 W9 => ∃ (k : Nat) (M : Nat) (c : Nat) (u37 : Nat → Value), n9 = 4 - k ∧ a9 = { tmps := #[fe x, fe y, .pointer (some ⟨g3, 0, none⟩), .pointer (some ⟨g4, 0, none⟩), .pointer (some ⟨g5, 0, none⟩), .pointer (some ⟨g9, 0, none⟩), .int .i64 i, .int .u64 (limbN x i : Nat), .int .u64 c, u37 9, u37 10, u37 11, u37 12, u37 13, u37 14, u37 15, u37 16, fe x, .int .i64 i, .bool true, .int .i64 i, .int .u64 (limbN x i : Nat), fe y, .int .i64 k, u37 24, u37 25, u37 26, u37 27, u37 28, u37 29, u37 30, u37 31, u37 32, u37 33, u37 34, u37 35, u37 36, u37 37, u37 38, u37 39, u37 40, u37 41, u37 42, u37 43, u37 44, u37 45, u37 46, u37 47, u37 48, u37 49, u37 50, u37 51, u37 52, u37 53, u37 54, u37 55, u37 56, u37 57, u37 58, u37 59, u15 60, u15 61, u15 62, u15 63, u15 64, Z9, Z9], defers := [] } ∧ Below w.heap.size w W9 ∧ World.rangeAt W9 g3 0 (fel x) ∧ World.there W9 g3 0 4 ∧ g3 < W9.heap.size ∧ World.rangeAt W9 g4 0 (fel y) ∧ World.there W9 g4 0 4 ∧ g4 < W9.heap.size ∧ World.rangeAt W9 g5 0 ([.int .u64 0, .int .u64 0, .int .u64 0, .int .u64 0]) ∧ World.there W9 g5 0 4 ∧ g5 < W9.heap.size ∧ World.rangeAt W9 g9 0 (wl 8 M) ∧ World.there W9 g9 0 8 ∧ g9 < W9.heap.size ∧ (k ≤ 4) ∧ (WideInv x y i k M c)) (4 - (0)) ?_ (fun n9 a9 W9 hI => ?_)
 ·
  exact ⟨0, N, 0, (fun q9 => (#[Z9, Z9, Z9, Z9, Z9, Z9, Z9, Z9, Z9, u15 9, u15 10, u15 11, u15 12, u15 13, u15 14, u15 15, u15 16, Z9, Z9, Z9, Z9, Z9, Z9, Z9, u15 24, u15 25, u15 26, u15 27, u15 28, u15 29, u15 30, u15 31, u15 32, u15 33, u15 34, u15 35, u15 36, u15 37, u15 38, u15 39, u15 40, u15 41, u15 42, u15 43, u15 44, u15 45, u15 46, u15 47, u15 48, u15 49, u15 50, u15 51, u15 52, u15 53, u15 54, u15 55, u15 56, u15 57, u15 58, u15 59] : Array Value).getD q9 Z9), rfl, rfl, BE, Rg3_0, Tg3, Lg3, Rg4_0, Tg4, Lg4, Rg5_0, Tg5, Lg5, Rg9_0, Tg9, Lg9, (by omega), (wide_start HN hy)⟩
 clear BE Rg3_0 Rg4_0 Rg5_0 Rg9_0 Tg3 Tg4 Tg5 Tg9 Lg3 Lg4 Lg5 Lg9
 obtain ⟨k, M, c, u37, rfl, rfl, BE, Rg3_0, Tg3, Lg3, Rg4_0, Tg4, Lg4, Rg5_0, Tg5, Lg5, Rg9_0, Tg9, Lg9, hk4, HW⟩ := hI
 obtain ⟨w38, rfl⟩ : ∃ W8, W8 = W9 := ⟨_, rfl⟩
 have hcw := HW.word
 refine Z10 (fun K39 hK39 => ?_)
 refine Z30 1 (by kernel_rfl) (fun Lk hLk => ?_)
 simp only [Z7, Z8]
 refine vBn (v := .bool (decide (k < 4))) (hr := fun W => run_lssN k 4 _ _ W) ?_
 simp only [Z0, Z6]
 refine Z19 (hLk.out _ ?_)
 simp only [Z7, Z8]
 iterate 1 refine Z28 (by rfl) ?_
 refine Z29 (fun w41 Sw41 hbs => ?_)
 clear hbs
 replace Rg3_0 := Z26 Rg3_0 Lg3 Sw41
 replace Tg3 := Z27 Tg3 Lg3 Sw41
 replace Rg4_0 := Z26 Rg4_0 Lg4 Sw41
 replace Tg4 := Z27 Tg4 Lg4 Sw41
 replace Rg5_0 := Z26 Rg5_0 Lg5 Sw41
 replace Tg5 := Z27 Tg5 Lg5 Sw41
 replace Rg9_0 := Z26 Rg9_0 Lg9 Sw41
 replace Tg9 := Z27 Tg9 Lg9 Sw41
 replace Lg3 := Z1 Lg3 Sw41.2.2.size
 replace Lg4 := Z1 Lg4 Sw41.2.2.size
 replace Lg5 := Z1 Lg5 Sw41.2.2.size
 replace Lg9 := Z1 Lg9 Sw41.2.2.size
 replace BE := BE.trans (Sw41.2.2.mono BE.size)
 refine lNp (hK39 _ _ ?_)
 refine Z10 (fun K42 hK42 => ?_)
 cases hc43 : (decide (k < 4))
 ·
  have ek : k = 4 := by have := of_decide_eq_false hc43; omega
  subst ek
  refine Z12 rfl ?_
  refine wp_exit ?_
  refine hK33 _ _ ?_
  refine Z30 4 (by kernel_rfl) (fun Lk hLk => ?_)
  simp only [Z7, Z8]
  refine vMv (v := .int .i64 i) ?_
  simp only [Z0, Z6]
  refine vBn (v := .int .i64 (i + 4 : Nat)) (hr := fun W => run_add (by simp only [IntKind.wrap_i64]; omega) W) ?_
  simp only [Z0, Z6]
  refine vMv (v := .int .u64 c) ?_
  simp only [Z0, Z6]
  refine wpV_idx (n := i + 4) (by rfl) rfl rfl rfl U9129 info40 (by omega) ?_
  simp only [Z2]
  simp only [Z0, Z6]
  refine Z19 (hLk.out _ ?_)
  simp only [Z7, Z8]
  iterate 4 refine Z28 (by rfl) ?_
  refine Z29 (fun w45 Sw45 hbs => ?_)
  clear hbs
  replace Rg3_0 := Z26 Rg3_0 Lg3 Sw45
  replace Tg3 := Z27 Tg3 Lg3 Sw45
  replace Rg4_0 := Z26 Rg4_0 Lg4 Sw45
  replace Tg4 := Z27 Tg4 Lg4 Sw45
  replace Rg5_0 := Z26 Rg5_0 Lg5 Sw45
  replace Tg5 := Z27 Tg5 Lg5 Sw45
  replace Rg9_0 := Z26 Rg9_0 Lg9 Sw45
  replace Tg9 := Z27 Tg9 Lg9 Sw45
  replace Lg3 := Z1 Lg3 Sw45.2.2.size
  replace Lg4 := Z1 Lg4 Sw45.2.2.size
  replace Lg5 := Z1 Lg5 Sw45.2.2.size
  replace Lg9 := Z1 Lg9 Sw45.2.2.size
  replace BE := BE.trans (Sw45.2.2.mono BE.size)
  refine lS1 (g := g9) (off := i + 4) (n := 8) (v := .int .u64 c) Tg9 (by omega) info40 rfl (fun w46 Pw46 RR TT => ?_)
  replace Rg3_0 := Pw46.range Rg3_0 (.inl Ng3_g9)
  replace Tg3 := Pw46.other_there Tg3 Ng3_g9
  replace Rg4_0 := Pw46.range Rg4_0 (.inl Ng4_g9)
  replace Tg4 := Pw46.other_there Tg4 Ng4_g9
  replace Rg5_0 := Pw46.range Rg5_0 (.inl Ng5_g9)
  replace Tg5 := Pw46.other_there Tg5 Ng5_g9
  replace Rg9_0 := range_set Rg9_0 Pw46 RR
  clear RR
  replace Tg9 := TT
  replace Lg3 := Pw46.lt Lg3
  replace Lg4 := Pw46.lt Lg4
  replace Lg5 := Pw46.lt Lg5
  replace Lg9 := Pw46.lt Lg9
  replace BE := Pw46.below BE Gg9
  rw [wl_set (wideN_eq hy HW) HW.word] at Rg9_0
  refine lNp (hK26 _ _ ?_)
  refine Z30 2 (by kernel_rfl) (fun Lk hLk => ?_)
  simp only [Z7, Z8]
  refine vBn (v := .int .i64 (i + 1 : Nat)) (hr := fun W => run_add (by simp only [IntKind.wrap_i64]; omega) W) ?_
  simp only [Z0, Z6]
  refine vMv (v := .int .i64 (i + 1 : Nat)) ?_
  simp only [Z0, Z6]
  refine Z19 (hLk.out _ ?_)
  simp only [Z7, Z8]
  iterate 2 refine Z28 (by rfl) ?_
  refine Z29 (fun w48 Sw48 hbs => ?_)
  clear hbs
  replace Rg3_0 := Z26 Rg3_0 Lg3 Sw48
  replace Tg3 := Z27 Tg3 Lg3 Sw48
  replace Rg4_0 := Z26 Rg4_0 Lg4 Sw48
  replace Tg4 := Z27 Tg4 Lg4 Sw48
  replace Rg5_0 := Z26 Rg5_0 Lg5 Sw48
  replace Tg5 := Z27 Tg5 Lg5 Sw48
  replace Rg9_0 := Z26 Rg9_0 Lg9 Sw48
  replace Tg9 := Z27 Tg9 Lg9 Sw48
  replace Lg3 := Z1 Lg3 Sw48.2.2.size
  replace Lg4 := Z1 Lg4 Sw48.2.2.size
  replace Lg5 := Z1 Lg5 Sw48.2.2.size
  replace Lg9 := Z1 Lg9 Sw48.2.2.size
  replace BE := BE.trans (Sw48.2.2.mono BE.size)
  refine Z14 (Z15 ?_)
  refine Exists.intro _ ⟨?_, (i + 1), (wideN M i c), (fun q9 => (#[Z9, Z9, Z9, Z9, Z9, Z9, .int .i64 i, .int .u64 (limbN x i : Nat), .int .u64 c, u37 9, u37 10, u37 11, u37 12, u37 13, u37 14, u37 15, u37 16, Z9, Z9, .bool true, .int .i64 i, .int .u64 (limbN x i : Nat), fe y, .int .i64 (4 : Nat), .bool false, u37 25, u37 26, u37 27, u37 28, u37 29, u37 30, u37 31, u37 32, u37 33, u37 34, u37 35, u37 36, u37 37, u37 38, u37 39, u37 40, u37 41, u37 42, u37 43, u37 44, u37 45, u37 46, u37 47, u37 48, u37 49, u37 50, u37 51, u37 52, u37 53, u37 54, u37 55, u37 56, u37 57, u37 58, u37 59, .int .i64 i, .int .i64 (i + 4 : Nat), .int .u64 c, .pointer (some ⟨g9, i + 4, none⟩), .int .i64 (i + 1 : Nat)] : Array Value).getD q9 Z9), rfl, rfl, BE, Rg3_0, Tg3, Lg3, Rg4_0, Tg4, Lg4, Rg5_0, Tg5, Lg5, Rg9_0, Tg9, Lg9, (by omega), (wide_end hy HW).1⟩
  omega
 have hk : k < 4 := of_decide_eq_true hc43
 refine Z11 rfl ?_
 refine wp_skip ?_
 refine hK42 _ _ ?_
 refine Z10 (fun K49 hK49 => ?_)
 refine wp_block ?_
 refine Z10 (fun K50 hK50 => ?_)
 refine Z30 2 (by kernel_rfl) (fun Lk hLk => ?_)
 simp only [Z7, Z8]
 refine vMv (v := .int .i64 k) ?_
 simp only [Z0, Z6]
 refine wpV_index (n := k) (v := .int .u64 (limbN y k : Nat)) (by rfl) rfl rfl rfl U980 info40 U940 rfl (by omega) (fel_get (j := k) y (by omega)) ?_
 simp only [Z0, Z6]
 refine Z19 (hLk.out _ ?_)
 simp only [Z7, Z8]
 iterate 2 refine Z28 (by rfl) ?_
 refine Z29 (fun w52 Sw52 hbs => ?_)
 clear hbs
 replace Rg3_0 := Z26 Rg3_0 Lg3 Sw52
 replace Tg3 := Z27 Tg3 Lg3 Sw52
 replace Rg4_0 := Z26 Rg4_0 Lg4 Sw52
 replace Tg4 := Z27 Tg4 Lg4 Sw52
 replace Rg5_0 := Z26 Rg5_0 Lg5 Sw52
 replace Tg5 := Z27 Tg5 Lg5 Sw52
 replace Rg9_0 := Z26 Rg9_0 Lg9 Sw52
 replace Tg9 := Z27 Tg9 Lg9 Sw52
 replace Lg3 := Z1 Lg3 Sw52.2.2.size
 replace Lg4 := Z1 Lg4 Sw52.2.2.size
 replace Lg5 := Z1 Lg5 Sw52.2.2.size
 replace Lg9 := Z1 Lg9 Sw52.2.2.size
 replace BE := BE.trans (Sw52.2.2.mono BE.size)
 refine lAs (v := .int .i64 k) ?_
 refine lAs (v := .int .u64 (limbN y k : Nat)) ?_
 simp only [Z0, Z6]
 refine lNp (hK50 _ _ ?_)
 refine Z10 (fun K53 hK53 => ?_)
 refine Z30 6 (by kernel_rfl) (fun Lk hLk => ?_)
 simp only [Z7, Z8]
 refine vMv (v := .int .u64 (limbN x i : Nat)) ?_
 simp only [Z0, Z6]
 refine vMv (v := .int .u64 (limbN y k : Nat)) ?_
 simp only [Z0, Z6]
 refine Z25 (v := .tuple #[.int .u64 ((limbN x i) * (limbN y k) / 18446744073709551616 : Nat), .int .u64 ((limbN x i) * (limbN y k) % 18446744073709551616 : Nat)]) (args := #[.int .u64 (limbN x i : Nat), .int .u64 (limbN y k : Nat)]) (by rfl) rfl Tryd.func87 (by kernel_rfl) (by kernel_rfl) rfl (fun W hW => mul64_c (limbN_lt _ _) (limbN_lt _ _) W) ?_
 simp only [Z0, Z6]
 refine vMv (v := .tuple #[.int .u64 ((limbN x i) * (limbN y k) / 18446744073709551616 : Nat), .int .u64 ((limbN x i) * (limbN y k) % 18446744073709551616 : Nat)]) ?_
 simp only [Z0, Z6]
 refine Z32 (v := .int .u64 ((limbN x i) * (limbN y k) / 18446744073709551616 : Nat)) (by rfl) rfl rfl rfl ?_
 simp only [Z0, Z6]
 refine Z32 (v := .int .u64 ((limbN x i) * (limbN y k) % 18446744073709551616 : Nat)) (by rfl) rfl rfl rfl ?_
 simp only [Z0, Z6]
 refine Z19 (hLk.out _ ?_)
 simp only [Z7, Z8]
 iterate 6 refine Z28 (by rfl) ?_
 refine Z29 (fun w55 Sw55 hbs => ?_)
 clear hbs
 replace Rg3_0 := Z26 Rg3_0 Lg3 Sw55
 replace Tg3 := Z27 Tg3 Lg3 Sw55
 replace Rg4_0 := Z26 Rg4_0 Lg4 Sw55
 replace Tg4 := Z27 Tg4 Lg4 Sw55
 replace Rg5_0 := Z26 Rg5_0 Lg5 Sw55
 replace Tg5 := Z27 Tg5 Lg5 Sw55
 replace Rg9_0 := Z26 Rg9_0 Lg9 Sw55
 replace Tg9 := Z27 Tg9 Lg9 Sw55
 replace Lg3 := Z1 Lg3 Sw55.2.2.size
 replace Lg4 := Z1 Lg4 Sw55.2.2.size
 replace Lg5 := Z1 Lg5 Sw55.2.2.size
 replace Lg9 := Z1 Lg9 Sw55.2.2.size
 replace BE := BE.trans (Sw55.2.2.mono BE.size)
 refine lAs (v := .int .u64 ((limbN x i) * (limbN y k) / 18446744073709551616 : Nat)) ?_
 refine lAs (v := .int .u64 ((limbN x i) * (limbN y k) % 18446744073709551616 : Nat)) ?_
 simp only [Z0, Z6]
 refine lNp (hK53 _ _ ?_)
 refine Z10 (fun K56 hK56 => ?_)
 refine Z30 10 (by kernel_rfl) (fun Lk hLk => ?_)
 simp only [Z7, Z8]
 refine vMv (v := .int .u64 ((limbN x i) * (limbN y k) % 18446744073709551616 : Nat)) ?_
 simp only [Z0, Z6]
 refine vMv (v := .int .i64 i) ?_
 simp only [Z0, Z6]
 refine vMv (v := .int .i64 k) ?_
 simp only [Z0, Z6]
 refine vBn (v := .int .i64 (i + k : Nat)) (hr := fun W => run_add (by simp only [IntKind.wrap_i64]; omega) W) ?_
 simp only [Z0, Z6]
 refine wpV_idx (n := i + k) (by rfl) rfl rfl rfl U9129 info40 (by omega) ?_
 simp only [Z2]
 simp only [Z0, Z6]
 refine Z34 (v := .int .u64 (limbN M (i + k) : Nat)) (by rfl) rfl rfl (by have := Rg9_0 _ _ (wl_get (j := i + k) 8 M (by omega)); rwa [Z2] at this) Lg9 U940 rfl ?_
 simp only [Z0, Z6]
 refine wpV_ext (v := .tuple #[.int .u64 (((limbN x i) * (limbN y k) % 18446744073709551616 + limbN M (i + k)) % 18446744073709551616 : Nat), .int .u64 (((limbN x i) * (limbN y k) % 18446744073709551616 + limbN M (i + k)) / 18446744073709551616 : Nat)]) (f := 85) (args := #[.int .u64 ((limbN x i) * (limbN y k) % 18446744073709551616 : Nat), .int .u64 (limbN M (i + k) : Nat), .int .u64 0]) (by rfl) rfl rfl (addN (x := (limbN x i) * (limbN y k) % 18446744073709551616) (y := limbN M (i + k)) (c := 0) (Nat.mod_lt _ (by decide)) (limbN_lt _ _) (by omega)) ?_
 simp only [Z0, Z6]
 refine vMv (v := .tuple #[.int .u64 (((limbN x i) * (limbN y k) % 18446744073709551616 + limbN M (i + k)) % 18446744073709551616 : Nat), .int .u64 (((limbN x i) * (limbN y k) % 18446744073709551616 + limbN M (i + k)) / 18446744073709551616 : Nat)]) ?_
 simp only [Z0, Z6]
 refine Z32 (v := .int .u64 (((limbN x i) * (limbN y k) % 18446744073709551616 + limbN M (i + k)) % 18446744073709551616 : Nat)) (by rfl) rfl rfl rfl ?_
 simp only [Z0, Z6]
 refine Z32 (v := .int .u64 (((limbN x i) * (limbN y k) % 18446744073709551616 + limbN M (i + k)) / 18446744073709551616 : Nat)) (by rfl) rfl rfl rfl ?_
 simp only [Z0, Z6]
 refine Z19 (hLk.out _ ?_)
 simp only [Z7, Z8]
 iterate 10 refine Z28 (by rfl) ?_
 refine Z29 (fun w58 Sw58 hbs => ?_)
 clear hbs
 replace Rg3_0 := Z26 Rg3_0 Lg3 Sw58
 replace Tg3 := Z27 Tg3 Lg3 Sw58
 replace Rg4_0 := Z26 Rg4_0 Lg4 Sw58
 replace Tg4 := Z27 Tg4 Lg4 Sw58
 replace Rg5_0 := Z26 Rg5_0 Lg5 Sw58
 replace Tg5 := Z27 Tg5 Lg5 Sw58
 replace Rg9_0 := Z26 Rg9_0 Lg9 Sw58
 replace Tg9 := Z27 Tg9 Lg9 Sw58
 replace Lg3 := Z1 Lg3 Sw58.2.2.size
 replace Lg4 := Z1 Lg4 Sw58.2.2.size
 replace Lg5 := Z1 Lg5 Sw58.2.2.size
 replace Lg9 := Z1 Lg9 Sw58.2.2.size
 replace BE := BE.trans (Sw58.2.2.mono BE.size)
 refine lAs (v := .int .u64 (((limbN x i) * (limbN y k) % 18446744073709551616 + limbN M (i + k)) % 18446744073709551616 : Nat)) ?_
 refine lAs (v := .int .u64 (((limbN x i) * (limbN y k) % 18446744073709551616 + limbN M (i + k)) / 18446744073709551616 : Nat)) ?_
 simp only [Z0, Z6]
 refine lNp (hK56 _ _ ?_)
 refine Z10 (fun K59 hK59 => ?_)
 refine Z30 6 (by kernel_rfl) (fun Lk hLk => ?_)
 simp only [Z7, Z8]
 refine vMv (v := .int .u64 (((limbN x i) * (limbN y k) % 18446744073709551616 + limbN M (i + k)) % 18446744073709551616 : Nat)) ?_
 simp only [Z0, Z6]
 refine vMv (v := .int .u64 c) ?_
 simp only [Z0, Z6]
 refine wpV_ext (v := .tuple #[.int .u64 (((((limbN x i) * (limbN y k) % 18446744073709551616 + limbN M (i + k)) % 18446744073709551616 + c) % 18446744073709551616 : Nat) : Int), .int .u64 (((((limbN x i) * (limbN y k) % 18446744073709551616 + limbN M (i + k)) % 18446744073709551616 + c) / 18446744073709551616 : Nat) : Int)]) (f := 85) (args := #[.int .u64 (((limbN x i) * (limbN y k) % 18446744073709551616 + limbN M (i + k)) % 18446744073709551616 : Nat), .int .u64 c, .int .u64 0]) (by rfl) rfl rfl (addN (x := ((limbN x i) * (limbN y k) % 18446744073709551616 + limbN M (i + k)) % 18446744073709551616) (y := c) (c := 0) (Nat.mod_lt _ (by decide)) (by omega) (by omega)) ?_
 simp only [Z0, Z6]
 refine vMv (v := .tuple #[.int .u64 (((((limbN x i) * (limbN y k) % 18446744073709551616 + limbN M (i + k)) % 18446744073709551616 + c) % 18446744073709551616 : Nat) : Int), .int .u64 (((((limbN x i) * (limbN y k) % 18446744073709551616 + limbN M (i + k)) % 18446744073709551616 + c) / 18446744073709551616 : Nat) : Int)]) ?_
 simp only [Z0, Z6]
 refine Z32 (v := .int .u64 (((((limbN x i) * (limbN y k) % 18446744073709551616 + limbN M (i + k)) % 18446744073709551616 + c) % 18446744073709551616 : Nat) : Int)) (by rfl) rfl rfl rfl ?_
 simp only [Z0, Z6]
 refine Z32 (v := .int .u64 (((((limbN x i) * (limbN y k) % 18446744073709551616 + limbN M (i + k)) % 18446744073709551616 + c) / 18446744073709551616 : Nat) : Int)) (by rfl) rfl rfl rfl ?_
 simp only [Z0, Z6]
 refine Z19 (hLk.out _ ?_)
 simp only [Z7, Z8]
 iterate 6 refine Z28 (by rfl) ?_
 refine Z29 (fun w61 Sw61 hbs => ?_)
 clear hbs
 replace Rg3_0 := Z26 Rg3_0 Lg3 Sw61
 replace Tg3 := Z27 Tg3 Lg3 Sw61
 replace Rg4_0 := Z26 Rg4_0 Lg4 Sw61
 replace Tg4 := Z27 Tg4 Lg4 Sw61
 replace Rg5_0 := Z26 Rg5_0 Lg5 Sw61
 replace Tg5 := Z27 Tg5 Lg5 Sw61
 replace Rg9_0 := Z26 Rg9_0 Lg9 Sw61
 replace Tg9 := Z27 Tg9 Lg9 Sw61
 replace Lg3 := Z1 Lg3 Sw61.2.2.size
 replace Lg4 := Z1 Lg4 Sw61.2.2.size
 replace Lg5 := Z1 Lg5 Sw61.2.2.size
 replace Lg9 := Z1 Lg9 Sw61.2.2.size
 replace BE := BE.trans (Sw61.2.2.mono BE.size)
 refine lAs (v := .int .u64 (((((limbN x i) * (limbN y k) % 18446744073709551616 + limbN M (i + k)) % 18446744073709551616 + c) % 18446744073709551616 : Nat) : Int)) ?_
 refine lAs (v := .int .u64 (((((limbN x i) * (limbN y k) % 18446744073709551616 + limbN M (i + k)) % 18446744073709551616 + c) / 18446744073709551616 : Nat) : Int)) ?_
 simp only [Z0, Z6]
 refine lNp (hK59 _ _ ?_)
 refine Z30 10 (by kernel_rfl) (fun Lk hLk => ?_)
 simp only [Z7, Z8]
 refine vMv (v := .int .i64 i) ?_
 simp only [Z0, Z6]
 refine vMv (v := .int .i64 k) ?_
 simp only [Z0, Z6]
 refine vBn (v := .int .i64 (i + k : Nat)) (hr := fun W => run_add (by simp only [IntKind.wrap_i64]; omega) W) ?_
 simp only [Z0, Z6]
 refine vMv (v := .int .u64 (((((limbN x i) * (limbN y k) % 18446744073709551616 + limbN M (i + k)) % 18446744073709551616 + c) % 18446744073709551616 : Nat) : Int)) ?_
 simp only [Z0, Z6]
 refine vMv (v := .int .u64 ((limbN x i) * (limbN y k) / 18446744073709551616 : Nat)) ?_
 simp only [Z0, Z6]
 refine vMv (v := .int .u64 (((limbN x i) * (limbN y k) % 18446744073709551616 + limbN M (i + k)) / 18446744073709551616 : Nat)) ?_
 simp only [Z0, Z6]
 refine vBn (v := .int .u64 (limbN x i * limbN y k / 18446744073709551616 + (limbN x i * limbN y k % 18446744073709551616 + limbN M (i + k)) / 18446744073709551616 : Nat)) (hr := fun W => run_add (by have := (wide_parts HW).2; unfold wideC at this; rw [wrap_u64]; omega) W) ?_
 simp only [Z0, Z6]
 refine vMv (v := .int .u64 (((((limbN x i) * (limbN y k) % 18446744073709551616 + limbN M (i + k)) % 18446744073709551616 + c) / 18446744073709551616 : Nat) : Int)) ?_
 simp only [Z0, Z6]
 refine vBn (v := .int .u64 (wideC x y i k M c : Nat)) (hr := fun W => run_add (by have := (wide_parts HW).2; unfold wideC at this ⊢; rw [wrap_u64]; omega) W) ?_
 simp only [Z0, Z6]
 refine wpV_idx (n := i + k) (by rfl) rfl rfl rfl U9129 info40 (by omega) ?_
 simp only [Z2]
 simp only [Z0, Z6]
 refine Z19 (hLk.out _ ?_)
 simp only [Z7, Z8]
 iterate 10 refine Z28 (by rfl) ?_
 refine Z29 (fun w63 Sw63 hbs => ?_)
 clear hbs
 replace Rg3_0 := Z26 Rg3_0 Lg3 Sw63
 replace Tg3 := Z27 Tg3 Lg3 Sw63
 replace Rg4_0 := Z26 Rg4_0 Lg4 Sw63
 replace Tg4 := Z27 Tg4 Lg4 Sw63
 replace Rg5_0 := Z26 Rg5_0 Lg5 Sw63
 replace Tg5 := Z27 Tg5 Lg5 Sw63
 replace Rg9_0 := Z26 Rg9_0 Lg9 Sw63
 replace Tg9 := Z27 Tg9 Lg9 Sw63
 replace Lg3 := Z1 Lg3 Sw63.2.2.size
 replace Lg4 := Z1 Lg4 Sw63.2.2.size
 replace Lg5 := Z1 Lg5 Sw63.2.2.size
 replace Lg9 := Z1 Lg9 Sw63.2.2.size
 replace BE := BE.trans (Sw63.2.2.mono BE.size)
 refine lS1 (g := g9) (off := i + k) (n := 8) (v := .int .u64 (((((limbN x i) * (limbN y k) % 18446744073709551616 + limbN M (i + k)) % 18446744073709551616 + c) % 18446744073709551616 : Nat) : Int)) Tg9 (by omega) info40 rfl (fun w64 Pw64 RR TT => ?_)
 replace Rg3_0 := Pw64.range Rg3_0 (.inl Ng3_g9)
 replace Tg3 := Pw64.other_there Tg3 Ng3_g9
 replace Rg4_0 := Pw64.range Rg4_0 (.inl Ng4_g9)
 replace Tg4 := Pw64.other_there Tg4 Ng4_g9
 replace Rg5_0 := Pw64.range Rg5_0 (.inl Ng5_g9)
 replace Tg5 := Pw64.other_there Tg5 Ng5_g9
 replace Rg9_0 := range_set Rg9_0 Pw64 RR
 clear RR
 replace Tg9 := TT
 replace Lg3 := Pw64.lt Lg3
 replace Lg4 := Pw64.lt Lg4
 replace Lg5 := Pw64.lt Lg5
 replace Lg9 := Pw64.lt Lg9
 replace BE := Pw64.below BE Gg9
 rw [show ((((limbN x i) * (limbN y k) % 18446744073709551616 + limbN M (i + k)) % 18446744073709551616 + c) % 18446744073709551616) = wideLo x y i k M c from rfl, wl_set (wideM_eq x y i k M c) (wideLo_lt x y i k M c)] at Rg9_0
 refine lAs (v := .int .u64 (wideC x y i k M c : Nat)) ?_
 simp only [Z0, Z6]
 refine lNp (hK49 _ _ ?_)
 refine Z30 2 (by kernel_rfl) (fun Lk hLk => ?_)
 simp only [Z7, Z8]
 refine vBn (v := .int .i64 (k + 1 : Nat)) (hr := fun W => run_add (by simp only [IntKind.wrap_i64]; omega) W) ?_
 simp only [Z0, Z6]
 refine vMv (v := .int .i64 (k + 1 : Nat)) ?_
 simp only [Z0, Z6]
 refine Z19 (hLk.out _ ?_)
 simp only [Z7, Z8]
 iterate 2 refine Z28 (by rfl) ?_
 refine Z29 (fun w66 Sw66 hbs => ?_)
 clear hbs
 replace Rg3_0 := Z26 Rg3_0 Lg3 Sw66
 replace Tg3 := Z27 Tg3 Lg3 Sw66
 replace Rg4_0 := Z26 Rg4_0 Lg4 Sw66
 replace Tg4 := Z27 Tg4 Lg4 Sw66
 replace Rg5_0 := Z26 Rg5_0 Lg5 Sw66
 replace Tg5 := Z27 Tg5 Lg5 Sw66
 replace Rg9_0 := Z26 Rg9_0 Lg9 Sw66
 replace Tg9 := Z27 Tg9 Lg9 Sw66
 replace Lg3 := Z1 Lg3 Sw66.2.2.size
 replace Lg4 := Z1 Lg4 Sw66.2.2.size
 replace Lg5 := Z1 Lg5 Sw66.2.2.size
 replace Lg9 := Z1 Lg9 Sw66.2.2.size
 replace BE := BE.trans (Sw66.2.2.mono BE.size)
 refine Z14 (Z15 ?_)
 refine Exists.intro _ ⟨?_, (k + 1), (wideM x y i k M c), (wideC x y i k M c), (fun q9 => (#[Z9, Z9, Z9, Z9, Z9, Z9, Z9, Z9, Z9, .int .i64 k, .int .u64 (limbN y k : Nat), .int .u64 ((limbN x i) * (limbN y k) / 18446744073709551616 : Nat), .int .u64 ((limbN x i) * (limbN y k) % 18446744073709551616 : Nat), .int .u64 (((limbN x i) * (limbN y k) % 18446744073709551616 + limbN M (i + k)) % 18446744073709551616 : Nat), .int .u64 (((limbN x i) * (limbN y k) % 18446744073709551616 + limbN M (i + k)) / 18446744073709551616 : Nat), .int .u64 (((((limbN x i) * (limbN y k) % 18446744073709551616 + limbN M (i + k)) % 18446744073709551616 + c) % 18446744073709551616 : Nat) : Int), .int .u64 (((((limbN x i) * (limbN y k) % 18446744073709551616 + limbN M (i + k)) % 18446744073709551616 + c) / 18446744073709551616 : Nat) : Int), Z9, Z9, Z9, Z9, Z9, Z9, Z9, .bool true, .int .i64 k, .int .u64 (limbN y k : Nat), .tuple #[.int .u64 ((limbN x i) * (limbN y k) / 18446744073709551616 : Nat), .int .u64 ((limbN x i) * (limbN y k) % 18446744073709551616 : Nat)], .int .u64 (limbN x i : Nat), .int .u64 (limbN y k : Nat), .tuple #[.int .u64 ((limbN x i) * (limbN y k) / 18446744073709551616 : Nat), .int .u64 ((limbN x i) * (limbN y k) % 18446744073709551616 : Nat)], .int .u64 ((limbN x i) * (limbN y k) / 18446744073709551616 : Nat), .int .u64 ((limbN x i) * (limbN y k) % 18446744073709551616 : Nat), .tuple #[.int .u64 (((limbN x i) * (limbN y k) % 18446744073709551616 + limbN M (i + k)) % 18446744073709551616 : Nat), .int .u64 (((limbN x i) * (limbN y k) % 18446744073709551616 + limbN M (i + k)) / 18446744073709551616 : Nat)], .int .u64 ((limbN x i) * (limbN y k) % 18446744073709551616 : Nat), .int .i64 i, .int .i64 k, .int .i64 (i + k : Nat), .pointer (some ⟨g9, i + k, none⟩), .int .u64 (limbN M (i + k) : Nat), .tuple #[.int .u64 (((limbN x i) * (limbN y k) % 18446744073709551616 + limbN M (i + k)) % 18446744073709551616 : Nat), .int .u64 (((limbN x i) * (limbN y k) % 18446744073709551616 + limbN M (i + k)) / 18446744073709551616 : Nat)], .int .u64 (((limbN x i) * (limbN y k) % 18446744073709551616 + limbN M (i + k)) % 18446744073709551616 : Nat), .int .u64 (((limbN x i) * (limbN y k) % 18446744073709551616 + limbN M (i + k)) / 18446744073709551616 : Nat), .tuple #[.int .u64 (((((limbN x i) * (limbN y k) % 18446744073709551616 + limbN M (i + k)) % 18446744073709551616 + c) % 18446744073709551616 : Nat) : Int), .int .u64 (((((limbN x i) * (limbN y k) % 18446744073709551616 + limbN M (i + k)) % 18446744073709551616 + c) / 18446744073709551616 : Nat) : Int)], .int .u64 (((limbN x i) * (limbN y k) % 18446744073709551616 + limbN M (i + k)) % 18446744073709551616 : Nat), .int .u64 c, .tuple #[.int .u64 (((((limbN x i) * (limbN y k) % 18446744073709551616 + limbN M (i + k)) % 18446744073709551616 + c) % 18446744073709551616 : Nat) : Int), .int .u64 (((((limbN x i) * (limbN y k) % 18446744073709551616 + limbN M (i + k)) % 18446744073709551616 + c) / 18446744073709551616 : Nat) : Int)], .int .u64 (((((limbN x i) * (limbN y k) % 18446744073709551616 + limbN M (i + k)) % 18446744073709551616 + c) % 18446744073709551616 : Nat) : Int), .int .u64 (((((limbN x i) * (limbN y k) % 18446744073709551616 + limbN M (i + k)) % 18446744073709551616 + c) / 18446744073709551616 : Nat) : Int), .int .i64 i, .int .i64 k, .int .i64 (i + k : Nat), .int .u64 (((((limbN x i) * (limbN y k) % 18446744073709551616 + limbN M (i + k)) % 18446744073709551616 + c) % 18446744073709551616 : Nat) : Int), .int .u64 ((limbN x i) * (limbN y k) / 18446744073709551616 : Nat), .int .u64 (((limbN x i) * (limbN y k) % 18446744073709551616 + limbN M (i + k)) / 18446744073709551616 : Nat), .int .u64 (limbN x i * limbN y k / 18446744073709551616 + (limbN x i * limbN y k % 18446744073709551616 + limbN M (i + k)) / 18446744073709551616 : Nat), .int .u64 (((((limbN x i) * (limbN y k) % 18446744073709551616 + limbN M (i + k)) % 18446744073709551616 + c) / 18446744073709551616 : Nat) : Int), .int .u64 (wideC x y i k M c : Nat), .pointer (some ⟨g9, i + k, none⟩), .int .i64 (k + 1 : Nat)] : Array Value).getD q9 Z9), rfl, rfl, BE, Rg3_0, Tg3, Lg3, Rg4_0, Tg4, Lg4, Rg5_0, Tg5, Lg5, Rg9_0, Tg9, Lg9, (by omega), (wide_step hk HW)⟩
 omega
set_option maxHeartbeats 1000000 in
theorem swide_c {l : List UInt8} (hl : ¬ 64 < l.length) (w : World) :
  Calls Tryd.prog 83 #[.string (bs l)] w fun e w' => e = .returned (.tuple #[fe (restS (leN l)), .int .i64 0]) ∧ Below w.heap.size w w' := by
 go_enter Tryd.func83, Tryd.ntmps83
 have BE := Below.refl w.heap.size w
 refine Z10 (fun K1 hK1 => ?_)
 refine Z30 1 (by kernel_rfl) (fun Lk hLk => ?_)
 simp only [Z7, Z8]
 refine vAl ?_
 refine Z19 (hLk.out _ ?_)
 simp only [Z7, Z8]
 refine wpN_new (t := 80) (cs := ([.int .u64 0, .int .u64 0, .int .u64 0, .int .u64 0]).toArray) (by rfl) (fun W => ?_) (fun g3 Hg3 ng3 => ?_)
 ·
  go_simp
 simp only [Z0, Z6]
 refine Z29 (fun w4 Sw4 hbs => ?_)
 have Bg3 : Blk w4 g3 80 ([.int .u64 0, .int .u64 0, .int .u64 0, .int .u64 0]).toArray := hbs _ (List.mem_cons_self ..)
 clear hbs
 have Gg3 : w.heap.size ≤ g3 := Z3 BE.size Hg3
 replace BE := BE.trans (Sw4.2.2.mono BE.size)
 have Tg3 := blk_there Bg3 (n := 4) (by simp [flen])
 have Rg3_0 := blk_range Bg3 (l := [.int .u64 0, .int .u64 0, .int .u64 0, .int .u64 0]) rfl
 have Lg3 := Bg3.lt
 clear ng3 Bg3
 refine lAs (v := .int .i64 0) ?_
 simp only [Z0, Z6]
 refine lNp (hK1 _ _ ?_)
 refine Z10 (fun K5 hK5 => ?_)
 refine Z10 (fun K6 hK6 => ?_)
 refine Z30 3 (by kernel_rfl) (fun Lk hLk => ?_)
 simp only [Z7, Z8]
 refine vMv (v := .string (bs l)) ?_
 simp only [Z0, Z6]
 refine wpV_lenS (by rfl) rfl rfl rfl U99 ?_
 simp only [Z0, Z6]
 refine vBn (v := .bool false) (hr := fun W => (run_gtrN l.length 64 _ _ W).trans (by rw [decide_eq_false hl])) ?_
 simp only [Z0, Z6]
 refine Z19 (hLk.out _ ?_)
 simp only [Z7, Z8]
 iterate 3 refine Z28 (by rfl) ?_
 refine Z29 (fun w8 Sw8 hbs => ?_)
 clear hbs
 replace Rg3_0 := Z26 Rg3_0 Lg3 Sw8
 replace Tg3 := Z27 Tg3 Lg3 Sw8
 replace Lg3 := Z1 Lg3 Sw8.2.2.size
 replace BE := BE.trans (Sw8.2.2.mono BE.size)
 refine lNp (hK6 _ _ ?_)
 refine Z12 rfl ?_
 refine wp_skip ?_
 refine hK5 _ _ ?_
 refine Z10 (fun K9 hK9 => ?_)
 refine Z30 1 (by kernel_rfl) (fun Lk hLk => ?_)
 simp only [Z7, Z8]
 refine vAl ?_
 refine Z19 (hLk.out _ ?_)
 simp only [Z7, Z8]
 refine wpN_new (t := 129) (cs := ([.int .u64 0, .int .u64 0, .int .u64 0, .int .u64 0, .int .u64 0, .int .u64 0, .int .u64 0, .int .u64 0]).toArray) (by rfl) (fun W => ?_) (fun g11 Hg11 ng11 => ?_)
 ·
  go_simp
 simp only [Z0, Z6]
 refine Z29 (fun w12 Sw12 hbs => ?_)
 have Bg11 : Blk w12 g11 129 ([.int .u64 0, .int .u64 0, .int .u64 0, .int .u64 0, .int .u64 0, .int .u64 0, .int .u64 0, .int .u64 0]).toArray := hbs _ (List.mem_cons_self ..)
 clear hbs
 have Ng3_g11 : g3 ≠ g11 := Z4 (Z1 Lg3 Hg11)
 have Gg11 : w.heap.size ≤ g11 := Z3 BE.size Hg11
 replace Rg3_0 := Z26 Rg3_0 Lg3 Sw12
 replace Tg3 := Z27 Tg3 Lg3 Sw12
 replace Lg3 := Z1 Lg3 Sw12.2.2.size
 replace BE := BE.trans (Sw12.2.2.mono BE.size)
 have Tg11 := blk_there Bg11 (n := 8) (by simp [flen])
 have Rg11_0 := blk_range Bg11 (l := [.int .u64 0, .int .u64 0, .int .u64 0, .int .u64 0, .int .u64 0, .int .u64 0, .int .u64 0, .int .u64 0]) rfl
 have Lg11 := Bg11.lt
 clear ng11 Bg11
 refine lNp (hK9 _ _ ?_)
 refine Z10 (fun K13 hK13 => ?_)
 refine Z10 (fun K14 hK14 => ?_)
 refine Z30 3 (by kernel_rfl) (fun Lk hLk => ?_)
 simp only [Z7, Z8]
 refine vMv (v := .string (bs l)) ?_
 simp only [Z0, Z6]
 refine wpV_lenS (by rfl) rfl rfl rfl U99 ?_
 simp only [Z0, Z6]
 refine vMv (v := .int .i64 0) ?_
 simp only [Z0, Z6]
 refine Z19 (hLk.out _ ?_)
 simp only [Z7, Z8]
 iterate 3 refine Z28 (by rfl) ?_
 refine Z29 (fun w16 Sw16 hbs => ?_)
 clear hbs
 replace Rg3_0 := Z26 Rg3_0 Lg3 Sw16
 replace Tg3 := Z27 Tg3 Lg3 Sw16
 replace Rg11_0 := Z26 Rg11_0 Lg11 Sw16
 replace Tg11 := Z27 Tg11 Lg11 Sw16
 replace Lg3 := Z1 Lg3 Sw16.2.2.size
 replace Lg11 := Z1 Lg11 Sw16.2.2.size
 replace BE := BE.trans (Sw16.2.2.mono BE.size)
 refine lNp (hK14 _ _ ?_)
 refine wp_block ?_
 refine wp_loop_ghost (fun n9 a9 W9 => ∃ (i : Nat) (u17 : Nat → Value), n9 = l.length - i ∧ a9 = { tmps := #[.string (bs l), Z9, .pointer (some ⟨g3, 0, none⟩), .int .i64 0, .pointer (some ⟨g11, 0, none⟩), u17 5, .string (bs l), .int .i64 l.length, .bool false, Z9, .string (bs l), .int .i64 l.length, .int .i64 i, u17 13, u17 14, u17 15, u17 16, u17 17, u17 18, u17 19, u17 20, u17 21, u17 22, u17 23, u17 24, u17 25, u17 26, u17 27, u17 28, u17 29, Z9, Z9], defers := [] } ∧ Below w.heap.size w W9 ∧ World.rangeAt W9 g3 0 ([.int .u64 0, .int .u64 0, .int .u64 0, .int .u64 0]) ∧ World.there W9 g3 0 4 ∧ g3 < W9.heap.size ∧ World.rangeAt W9 g11 0 (wl 8 (leN (l.take i))) ∧ World.there W9 g11 0 8 ∧ g11 < W9.heap.size ∧ (i ≤ l.length)) (l.length - (0)) ?_ (fun n9 a9 W9 hI => ?_)
 ·
  exact ⟨0, (fun q9 => (#[Z9, Z9, Z9, Z9, Z9, Z9, Z9, Z9, Z9, Z9, Z9, Z9, Z9, Z9, Z9, Z9, Z9, Z9, Z9, Z9, Z9, Z9, Z9, Z9, Z9, Z9, Z9, Z9, Z9, Z9] : Array Value).getD q9 Z9), rfl, rfl, BE, Rg3_0, Tg3, Lg3, (by rw [show leN (l.take 0) = 0 from rfl, wl_zero]; exact Rg11_0), Tg11, Lg11, (by omega)⟩
 clear BE Rg3_0 Rg11_0 Tg3 Tg11 Lg3 Lg11
 obtain ⟨i, u17, rfl, rfl, BE, Rg3_0, Tg3, Lg3, Rg11_0, Tg11, Lg11, hi4⟩ := hI
 obtain ⟨w18, rfl⟩ : ∃ W8, W8 = W9 := ⟨_, rfl⟩
 refine Z10 (fun K19 hK19 => ?_)
 refine Z30 1 (by kernel_rfl) (fun Lk hLk => ?_)
 simp only [Z7, Z8]
 refine vBn (v := .bool (decide (i < l.length))) (hr := fun W => run_lssN i l.length _ _ W) ?_
 simp only [Z0, Z6]
 refine Z19 (hLk.out _ ?_)
 simp only [Z7, Z8]
 iterate 1 refine Z28 (by rfl) ?_
 refine Z29 (fun w21 Sw21 hbs => ?_)
 clear hbs
 replace Rg3_0 := Z26 Rg3_0 Lg3 Sw21
 replace Tg3 := Z27 Tg3 Lg3 Sw21
 replace Rg11_0 := Z26 Rg11_0 Lg11 Sw21
 replace Tg11 := Z27 Tg11 Lg11 Sw21
 replace Lg3 := Z1 Lg3 Sw21.2.2.size
 replace Lg11 := Z1 Lg11 Sw21.2.2.size
 replace BE := BE.trans (Sw21.2.2.mono BE.size)
 refine lNp (hK19 _ _ ?_)
 refine Z10 (fun K22 hK22 => ?_)
 cases hc23 : (decide (i < l.length))
 ·
  have ei : i = l.length := by have := of_decide_eq_false hc23; omega
  subst ei
  rw [List.take_length] at Rg11_0
  refine Z12 rfl ?_
  refine wp_exit ?_
  refine hK13 _ _ ?_
  refine Z10 (fun K24 hK24 => ?_)
  refine Z30 2 (by kernel_rfl) (fun Lk hLk => ?_)
  simp only [Z7, Z8]
  refine wpV_sliceA (n := 8) (by rfl) rfl rfl U9129 info40 ?_
  simp only [Z0, Z6]
  refine Z25 (v := fe (restS (leN l))) (args := #[.slice (some ⟨g11, 0, none⟩) 8 8]) (by rfl) rfl Tryd.func86 (by kernel_rfl) (by kernel_rfl) rfl (fun W hW => rest_c (n := 8) (N := (leN l)) (by decide) (leN_512 (by omega)) (Z1 Lg11 hW.2.2.size) (Z26 Rg11_0 Lg11 hW)) ?_
  simp only [Z0, Z6]
  refine Z19 (hLk.out _ ?_)
  simp only [Z7, Z8]
  iterate 2 refine Z28 (by rfl) ?_
  refine Z29 (fun w26 Sw26 hbs => ?_)
  clear hbs
  replace Rg3_0 := Z26 Rg3_0 Lg3 Sw26
  replace Tg3 := Z27 Tg3 Lg3 Sw26
  replace Rg11_0 := Z26 Rg11_0 Lg11 Sw26
  replace Tg11 := Z27 Tg11 Lg11 Sw26
  replace Lg3 := Z1 Lg3 Sw26.2.2.size
  replace Lg11 := Z1 Lg11 Sw26.2.2.size
  replace BE := BE.trans (Sw26.2.2.mono BE.size)
  refine lSt (g := g3) (off := 0) (n := 4) (cs := fel (restS (leN l))) Tg3 (by simp [flen]) info80 (fel_one _) (fun w27 Pw27 RR TT => ?_)
  replace Rg11_0 := Pw27.range Rg11_0 (.inl (Ne.symm Ng3_g11))
  replace Tg11 := Pw27.other_there Tg11 (Ne.symm Ng3_g11)
  replace Rg3_0 := RR
  clear RR
  replace Tg3 := TT
  replace Lg3 := Pw27.lt Lg3
  replace Lg11 := Pw27.lt Lg11
  replace BE := Pw27.below BE Gg3
  refine lAs (v := .int .i64 0) ?_
  simp only [Z0, Z6]
  refine lNp (hK24 _ _ ?_)
  refine wp_ret ?_
  repeat (first | with_reducible refine then_ret ?_ | with_reducible refine inblock_ret ?_)
  refine bodyPost_ret (v := .tuple #[fe (restS (leN l)), .int .i64 0]) (res2 rfl (.cell (by rfl) (run_loadVar_mid _ _ _ _ (fel (restS (leN l))) _ Rg3_0 U980 rfl info80)) (.tmp (by rfl))) rfl ?_
  exact ⟨rfl, BE⟩
 have hi : i < l.length := of_decide_eq_true hc23
 have hpb := put_byte (leN_take_lt l i) (byteN_lt l i)
 refine Z11 rfl ?_
 refine wp_skip ?_
 refine hK22 _ _ ?_
 refine Z10 (fun K28 hK28 => ?_)
 refine wp_block ?_
 refine Z10 (fun K29 hK29 => ?_)
 refine Z30 1 (by kernel_rfl) (fun Lk hLk => ?_)
 simp only [Z7, Z8]
 refine vMv (v := .int .i64 i) ?_
 simp only [Z0, Z6]
 refine Z19 (hLk.out _ ?_)
 simp only [Z7, Z8]
 iterate 1 refine Z28 (by rfl) ?_
 refine Z29 (fun w31 Sw31 hbs => ?_)
 clear hbs
 replace Rg3_0 := Z26 Rg3_0 Lg3 Sw31
 replace Tg3 := Z27 Tg3 Lg3 Sw31
 replace Rg11_0 := Z26 Rg11_0 Lg11 Sw31
 replace Tg11 := Z27 Tg11 Lg11 Sw31
 replace Lg3 := Z1 Lg3 Sw31.2.2.size
 replace Lg11 := Z1 Lg11 Sw31.2.2.size
 replace BE := BE.trans (Sw31.2.2.mono BE.size)
 refine lAs (v := .int .i64 i) ?_
 simp only [Z0, Z6]
 refine lNp (hK29 _ _ ?_)
 refine wp_region_grow 14 [] (by kernel_rfl) (by kernel_rfl) (by kernel_rfl) (fun Lk hLk => ?_)
 simp only [Z7, Z8]
 refine vMv (v := .int .i64 i) ?_
 simp only [Z0, Z6]
 refine vBn (v := .int .i64 (i / 8 : Nat)) (hr := fun W => run_quo (by decide) ((congrArg _ (tdiv_nat i 8)).trans (wrap_nat _ (by omega))) W) ?_
 simp only [Z0, Z6]
 refine wpV_idx (n := i / 8) (by rfl) rfl rfl rfl U9129 info40 (by omega) ?_
 simp only [Z2]
 simp only [Z0, Z6]
 refine Z34 (v := .int .u64 (limbN (leN (l.take i)) (i / 8) : Nat)) (by rfl) rfl rfl (by have := Rg11_0 _ _ (wl_get (j := i / 8) 8 (leN (l.take i)) (by omega)); rwa [Z2] at this) Lg11 U940 rfl ?_
 simp only [Z0, Z6]
 refine vMv (v := .string (bs l)) ?_
 simp only [Z0, Z6]
 refine vMv (v := .int .i64 i) ?_
 simp only [Z0, Z6]
 refine wpV_indexb (n := i) (by omega) (by rfl) rfl rfl rfl U99 ?_
 simp only [Z0, Z6]
 refine wpV_conv (d := .bool) (e := ((byteN l i : Nat) : Int)) (by rfl) rfl rfl (run_conv_int U95 U940 (by have := byteN_lt l i; rw [wrap_u64]; omega)) ?_
 simp only [Z0, Z6]
 refine vMv (v := .int .i64 i) ?_
 simp only [Z0, Z6]
 refine vBn (v := .int .i64 (i % 8 : Nat)) (hr := fun W => run_rem (by decide) (tmod_nat i 8) W) ?_
 simp only [Z0, Z6]
 refine vBn (v := .int .i64 (8 * (i % 8) : Nat)) (hr := fun W => run_mul (by simp only [IntKind.wrap_i64]; omega) W) ?_
 simp only [Z0, Z6]
 refine vBn (v := .int .u64 (byteN l i * 2 ^ (8 * (i % 8)) : Nat)) (hr := fun W => run_shl (by show _ ≤ 64; omega) (by have := hpb.2.1; rw [wrap_u64]; omega) W) ?_
 simp only [Z0, Z6]
 refine vBn (v := .int .u64 (limbN (leN (l.take i)) (i / 8) + byteN l i * 2 ^ (8 * (i % 8)) : Nat)) (hr := fun W => run_or (((bits_nat64 _ _ (limbN_lt _ _) (by have := hpb.2.1; simp only [Nat.reducePow] at *; omega)).2).trans (congrArg _ hpb.1)) W) ?_
 simp only [Z0, Z6]
 refine wpV_idx (n := i / 8) (by rfl) rfl rfl rfl U9129 info40 (by omega) ?_
 simp only [Z2]
 simp only [Z0, Z6]
 refine Z19 (hLk.out _ ?_)
 simp only [Z7, Z8]
 iterate 14 refine Z28 (by rfl) ?_
 refine Z29 (fun w33 Sw33 hbs => ?_)
 clear hbs
 replace Rg3_0 := Z26 Rg3_0 Lg3 Sw33
 replace Tg3 := Z27 Tg3 Lg3 Sw33
 replace Rg11_0 := Z26 Rg11_0 Lg11 Sw33
 replace Tg11 := Z27 Tg11 Lg11 Sw33
 replace Lg3 := Z1 Lg3 Sw33.2.2.size
 replace Lg11 := Z1 Lg11 Sw33.2.2.size
 replace BE := BE.trans (Sw33.2.2.mono BE.size)
 refine lS1 (g := g11) (off := i / 8) (n := 8) (v := .int .u64 (limbN (leN (l.take i)) (i / 8) + byteN l i * 2 ^ (8 * (i % 8)) : Nat)) Tg11 (by omega) info40 rfl (fun w34 Pw34 RR TT => ?_)
 replace Rg3_0 := Pw34.range Rg3_0 (.inl Ng3_g11)
 replace Tg3 := Pw34.other_there Tg3 Ng3_g11
 replace Rg11_0 := range_set Rg11_0 Pw34 RR
 clear RR
 replace Tg11 := TT
 replace Lg3 := Pw34.lt Lg3
 replace Lg11 := Pw34.lt Lg11
 replace BE := Pw34.below BE Gg11
 rw [wl_set hpb.2.2 hpb.2.1, ← leN_take_succ l hi] at Rg11_0
 refine lNp (hK28 _ _ ?_)
 refine Z30 2 (by kernel_rfl) (fun Lk hLk => ?_)
 simp only [Z7, Z8]
 refine vBn (v := .int .i64 (i + 1 : Nat)) (hr := fun W => run_add (by simp only [IntKind.wrap_i64]; omega) W) ?_
 simp only [Z0, Z6]
 refine vMv (v := .int .i64 (i + 1 : Nat)) ?_
 simp only [Z0, Z6]
 refine Z19 (hLk.out _ ?_)
 simp only [Z7, Z8]
 iterate 2 refine Z28 (by rfl) ?_
 refine Z29 (fun w36 Sw36 hbs => ?_)
 clear hbs
 replace Rg3_0 := Z26 Rg3_0 Lg3 Sw36
 replace Tg3 := Z27 Tg3 Lg3 Sw36
 replace Rg11_0 := Z26 Rg11_0 Lg11 Sw36
 replace Tg11 := Z27 Tg11 Lg11 Sw36
 replace Lg3 := Z1 Lg3 Sw36.2.2.size
 replace Lg11 := Z1 Lg11 Sw36.2.2.size
 replace BE := BE.trans (Sw36.2.2.mono BE.size)
 refine Z14 (Z15 ?_)
 refine Exists.intro _ ⟨?_, (i + 1), (fun q9 => (#[Z9, Z9, Z9, Z9, Z9, .int .i64 i, Z9, Z9, Z9, Z9, Z9, Z9, Z9, .bool true, .int .i64 i, .int .i64 i, .int .i64 (i / 8 : Nat), .pointer (some ⟨g11, i / 8, none⟩), .int .u64 (limbN (leN (l.take i)) (i / 8) : Nat), .string (bs l), .int .i64 i, .int .u8 (byteN l i : Nat), .int .u64 (byteN l i : Nat), .int .i64 i, .int .i64 (i % 8 : Nat), .int .i64 (8 * (i % 8) : Nat), .int .u64 (byteN l i * 2 ^ (8 * (i % 8)) : Nat), .int .u64 (limbN (leN (l.take i)) (i / 8) + byteN l i * 2 ^ (8 * (i % 8)) : Nat), .pointer (some ⟨g11, i / 8, none⟩), .int .i64 (i + 1 : Nat)] : Array Value).getD q9 Z9), rfl, rfl, BE, Rg3_0, Tg3, Lg3, Rg11_0, Tg11, Lg11, (by omega)⟩
 omega
set_option maxHeartbeats 1000000 in
theorem sbytes_c {x : Nat} (hx : x < 2 ^ 256) (w : World) :
  Calls Tryd.prog 48 #[fe x] w fun e w' => e = .returned (.string (bs (bytesN 32 (restS x)))) ∧ Below w.heap.size w w' := by
 go_enter Tryd.func48, Tryd.ntmps48
 have BE := Below.refl w.heap.size w
 refine Z10 (fun K1 hK1 => ?_)
 refine Z30 1 (by kernel_rfl) (fun Lk hLk => ?_)
 simp only [Z7, Z8]
 refine vAl ?_
 refine Z19 (hLk.out _ ?_)
 simp only [Z7, Z8]
 refine wpN_new (t := 80) (cs := (fel x).toArray) (by rfl) (fun W => ?_) (fun g3 Hg3 ng3 => ?_)
 ·
  (first | rfl | go_simp)
 simp only [Z0, Z6]
 refine Z29 (fun w4 Sw4 hbs => ?_)
 have Bg3 : Blk w4 g3 80 (fel x).toArray := hbs _ (List.mem_cons_self ..)
 clear hbs
 have Gg3 : w.heap.size ≤ g3 := Z3 BE.size Hg3
 replace BE := BE.trans (Sw4.2.2.mono BE.size)
 have Tg3 := blk_there Bg3 (n := 4) (by simp [flen])
 have Rg3_0 := blk_range Bg3 (l := fel x) rfl
 have Lg3 := Bg3.lt
 clear ng3 Bg3
 refine lAs (v := .string (bs ([]))) ?_
 simp only [Z0, Z6]
 refine lNp (hK1 _ _ ?_)
 refine Z10 (fun K5 hK5 => ?_)
 refine Z30 2 (by kernel_rfl) (fun Lk hLk => ?_)
 simp only [Z7, Z8]
 refine vLd (cs := fel x) Rg3_0 Lg3 U980 info80 ?_
 simp only [Z0, Z6]
 refine Z25 (v := fe (restS x)) (args := #[fe x]) (by rfl) rfl Tryd.func84 (by kernel_rfl) (by kernel_rfl) rfl (fun W hW => sleast_c hx W) ?_
 simp only [Z0, Z6]
 refine Z19 (hLk.out _ ?_)
 simp only [Z7, Z8]
 iterate 2 refine Z28 (by rfl) ?_
 refine Z29 (fun w7 Sw7 hbs => ?_)
 clear hbs
 replace Rg3_0 := Z26 Rg3_0 Lg3 Sw7
 replace Tg3 := Z27 Tg3 Lg3 Sw7
 replace Lg3 := Z1 Lg3 Sw7.2.2.size
 replace BE := BE.trans (Sw7.2.2.mono BE.size)
 refine lSt (g := g3) (off := 0) (n := 4) (cs := fel (restS x)) Tg3 (by simp [flen]) info80 (fel_one _) (fun w8 Pw8 RR TT => ?_)
 replace Rg3_0 := RR
 clear RR
 replace Tg3 := TT
 replace Lg3 := Pw8.lt Lg3
 replace BE := Pw8.below BE Gg3
 refine lNp (hK5 _ _ ?_)
 refine Z10 (fun K9 hK9 => ?_)
 refine Z30 0 (by kernel_rfl) (fun Lk hLk => ?_)
 simp only [Z7, Z8]
 refine Z19 (hLk.out _ ?_)
 simp only [Z7, Z8]
 refine Z29 (fun w11 Sw11 hbs => ?_)
 clear hbs
 replace Rg3_0 := Z26 Rg3_0 Lg3 Sw11
 replace Tg3 := Z27 Tg3 Lg3 Sw11
 replace Lg3 := Z1 Lg3 Sw11.2.2.size
 replace BE := BE.trans (Sw11.2.2.mono BE.size)
 refine wpL_make (n := 32) (z := .int .u8 0) (bytes := 1) (by rfl) (by rfl) (by rfl) (by rfl) U929 (by kernel_rfl) rfl (by decide) (by decide) (fun g12 w13 Sw13 Hg12 Bg12 => ?_)
 have Ng3_g12 : g3 ≠ g12 := Z4 (Z1 Lg3 Hg12)
 have Gg12 : w.heap.size ≤ g12 := Z3 BE.size Hg12
 replace Rg3_0 := Z26 Rg3_0 Lg3 Sw13
 replace Tg3 := Z27 Tg3 Lg3 Sw13
 replace Lg3 := Z1 Lg3 Sw13.2.2.size
 replace BE := BE.trans (Sw13.2.2.mono BE.size)
 have Tg12 := blk_there Bg12 (n := 32) (by simp)
 have Rg12_0 := blk_range Bg12 (l := List.replicate 32 (.int .u8 0)) rfl
 rw [← bcells_zero] at Rg12_0
 have Lg12 := Bg12.lt
 clear Bg12
 simp only [Z0, Z6]
 refine lAs (v := .slice (some ⟨g12, 0, none⟩) 32 32) ?_
 simp only [Z0, Z6]
 refine lNp (hK9 _ _ ?_)
 refine Z10 (fun K14 hK14 => ?_)
 refine Z10 (fun K15 hK15 => ?_)
 refine Z30 3 (by kernel_rfl) (fun Lk hLk => ?_)
 simp only [Z7, Z8]
 refine vMv (v := .slice (some ⟨g12, 0, none⟩) 32 32) ?_
 simp only [Z0, Z6]
 refine wpV_lenA (n := 32) (by rfl) rfl rfl rfl U929 ?_
 simp only [Z0, Z6]
 refine vMv (v := .int .i64 0) ?_
 simp only [Z0, Z6]
 refine Z19 (hLk.out _ ?_)
 simp only [Z7, Z8]
 iterate 3 refine Z28 (by rfl) ?_
 refine Z29 (fun w17 Sw17 hbs => ?_)
 clear hbs
 replace Rg3_0 := Z26 Rg3_0 Lg3 Sw17
 replace Tg3 := Z27 Tg3 Lg3 Sw17
 replace Rg12_0 := Z26 Rg12_0 Lg12 Sw17
 replace Tg12 := Z27 Tg12 Lg12 Sw17
 replace Lg3 := Z1 Lg3 Sw17.2.2.size
 replace Lg12 := Z1 Lg12 Sw17.2.2.size
 replace BE := BE.trans (Sw17.2.2.mono BE.size)
 refine lNp (hK15 _ _ ?_)
 refine wp_block ?_
 refine wp_loop_ghost (fun n9 a9 W9 => ∃ (i : Nat) (u18 : Nat → Value), n9 = 32 - i ∧ a9 = { tmps := #[fe x, .pointer (some ⟨g3, 0, none⟩), .string (bs ([])), .slice (some ⟨g12, 0, none⟩) 32 32, u18 4, fe x, fe (restS x), .slice (some ⟨g12, 0, none⟩) 32 32, .slice (some ⟨g12, 0, none⟩) 32 32, .int .i64 32, .int .i64 i, u18 11, u18 12, u18 13, u18 14, u18 15, u18 16, u18 17, u18 18, u18 19, u18 20, u18 21, u18 22, u18 23, u18 24, u18 25, Z9, Z9], defers := [] } ∧ Below w.heap.size w W9 ∧ World.rangeAt W9 g3 0 (fel (restS x)) ∧ World.there W9 g3 0 4 ∧ g3 < W9.heap.size ∧ World.rangeAt W9 g12 0 (bcells (bytesN 32 ((restS x) % 256 ^ i))) ∧ World.there W9 g12 0 32 ∧ g12 < W9.heap.size ∧ (i ≤ 32)) (32 - (0)) ?_ (fun n9 a9 W9 hI => ?_)
 ·
  exact ⟨0, (fun q9 => (#[Z9, Z9, Z9, Z9, Z9, Z9, Z9, Z9, Z9, Z9, Z9, Z9, Z9, Z9, Z9, Z9, Z9, Z9, Z9, Z9, Z9, Z9, Z9, Z9, Z9, Z9] : Array Value).getD q9 Z9), rfl, rfl, BE, Rg3_0, Tg3, Lg3, (by rw [Nat.pow_zero, Nat.mod_one]; exact Rg12_0), Tg12, Lg12, (by omega)⟩
 clear BE Rg3_0 Rg12_0 Tg3 Tg12 Lg3 Lg12
 obtain ⟨i, u18, rfl, rfl, BE, Rg3_0, Tg3, Lg3, Rg12_0, Tg12, Lg12, hi4⟩ := hI
 obtain ⟨w19, rfl⟩ : ∃ W8, W8 = W9 := ⟨_, rfl⟩
 refine Z10 (fun K20 hK20 => ?_)
 refine Z30 1 (by kernel_rfl) (fun Lk hLk => ?_)
 simp only [Z7, Z8]
 refine vBn (v := .bool (decide (i < 32))) (hr := fun W => run_lssN i 32 _ _ W) ?_
 simp only [Z0, Z6]
 refine Z19 (hLk.out _ ?_)
 simp only [Z7, Z8]
 iterate 1 refine Z28 (by rfl) ?_
 refine Z29 (fun w22 Sw22 hbs => ?_)
 clear hbs
 replace Rg3_0 := Z26 Rg3_0 Lg3 Sw22
 replace Tg3 := Z27 Tg3 Lg3 Sw22
 replace Rg12_0 := Z26 Rg12_0 Lg12 Sw22
 replace Tg12 := Z27 Tg12 Lg12 Sw22
 replace Lg3 := Z1 Lg3 Sw22.2.2.size
 replace Lg12 := Z1 Lg12 Sw22.2.2.size
 replace BE := BE.trans (Sw22.2.2.mono BE.size)
 refine lNp (hK20 _ _ ?_)
 refine Z10 (fun K23 hK23 => ?_)
 cases hc24 : (decide (i < 32))
 ·
  have ei : i = 32 := by have := of_decide_eq_false hc24; omega
  subst ei
  rw [Z5 (show (restS x) < 256 ^ 32 from (restS_lt ..))] at Rg12_0
  refine Z12 rfl ?_
  refine wp_exit ?_
  refine hK14 _ _ ?_
  refine Z10 (fun K25 hK25 => ?_)
  refine Z30 2 (by kernel_rfl) (fun Lk hLk => ?_)
  simp only [Z7, Z8]
  refine vMv (v := .slice (some ⟨g12, 0, none⟩) 32 32) ?_
  simp only [Z0, Z6]
  refine wpV_b2s (l := (bytesN 32 (restS x))) (by rfl) rfl rfl (bytesN_len _ _).symm U929 U95 U99 Rg12_0 Lg12 ?_
  simp only [Z0, Z6]
  refine Z19 (hLk.out _ ?_)
  simp only [Z7, Z8]
  iterate 2 refine Z28 (by rfl) ?_
  refine Z29 (fun w27 Sw27 hbs => ?_)
  clear hbs
  replace Rg3_0 := Z26 Rg3_0 Lg3 Sw27
  replace Tg3 := Z27 Tg3 Lg3 Sw27
  replace Rg12_0 := Z26 Rg12_0 Lg12 Sw27
  replace Tg12 := Z27 Tg12 Lg12 Sw27
  replace Lg3 := Z1 Lg3 Sw27.2.2.size
  replace Lg12 := Z1 Lg12 Sw27.2.2.size
  replace BE := BE.trans (Sw27.2.2.mono BE.size)
  refine lAs (v := .string (bs (bytesN 32 (restS x)))) ?_
  simp only [Z0, Z6]
  refine lNp (hK25 _ _ ?_)
  refine wp_ret ?_
  repeat (first | with_reducible refine then_ret ?_ | with_reducible refine inblock_ret ?_)
  refine bodyPost_ret (v := .string (bs (bytesN 32 (restS x)))) (res1 rfl (.tmp (by rfl))) rfl ?_
  exact ⟨rfl, BE⟩
 have hi : i < 32 := of_decide_eq_true hc24
 refine Z11 rfl ?_
 refine wp_skip ?_
 refine hK23 _ _ ?_
 refine Z10 (fun K28 hK28 => ?_)
 refine wp_block ?_
 refine Z10 (fun K29 hK29 => ?_)
 refine Z30 1 (by kernel_rfl) (fun Lk hLk => ?_)
 simp only [Z7, Z8]
 refine vMv (v := .int .i64 i) ?_
 simp only [Z0, Z6]
 refine Z19 (hLk.out _ ?_)
 simp only [Z7, Z8]
 iterate 1 refine Z28 (by rfl) ?_
 refine Z29 (fun w31 Sw31 hbs => ?_)
 clear hbs
 replace Rg3_0 := Z26 Rg3_0 Lg3 Sw31
 replace Tg3 := Z27 Tg3 Lg3 Sw31
 replace Rg12_0 := Z26 Rg12_0 Lg12 Sw31
 replace Tg12 := Z27 Tg12 Lg12 Sw31
 replace Lg3 := Z1 Lg3 Sw31.2.2.size
 replace Lg12 := Z1 Lg12 Sw31.2.2.size
 replace BE := BE.trans (Sw31.2.2.mono BE.size)
 refine lAs (v := .int .i64 i) ?_
 simp only [Z0, Z6]
 refine lNp (hK29 _ _ ?_)
 refine Z30 12 (by kernel_rfl) (fun Lk hLk => ?_)
 simp only [Z7, Z8]
 refine vMv (v := .slice (some ⟨g12, 0, none⟩) 32 32) ?_
 simp only [Z0, Z6]
 refine vMv (v := .int .i64 i) ?_
 simp only [Z0, Z6]
 refine vMv (v := .int .i64 i) ?_
 simp only [Z0, Z6]
 refine vBn (v := .int .i64 (i / 8 : Nat)) (hr := fun W => run_quo (by decide) ((congrArg _ (tdiv_nat i 8)).trans (wrap_nat _ (by omega))) W) ?_
 simp only [Z0, Z6]
 refine wpV_idx (n := i / 8) (by rfl) rfl rfl rfl U980 info40 (by omega) ?_
 simp only [Z2]
 simp only [Z0, Z6]
 refine Z34 (v := .int .u64 (limbN (restS x) (i / 8) : Nat)) (by rfl) rfl rfl (by have := Rg3_0 _ _ (fel_get (j := i / 8) (restS x) (by omega)); rwa [Z2] at this) Lg3 U940 rfl ?_
 simp only [Z0, Z6]
 refine vMv (v := .int .i64 i) ?_
 simp only [Z0, Z6]
 refine vBn (v := .int .i64 (i % 8 : Nat)) (hr := fun W => run_rem (by decide) (tmod_nat i 8) W) ?_
 simp only [Z0, Z6]
 refine vBn (v := .int .i64 (8 * (i % 8) : Nat)) (hr := fun W => run_mul (by simp only [IntKind.wrap_i64]; omega) W) ?_
 simp only [Z0, Z6]
 refine vBn (v := .int .u64 (limbN (restS x) (i / 8) / 2 ^ (8 * (i % 8)) : Nat)) (hr := fun W => run_shr (by show _ ≤ 64; omega) rfl W) ?_
 simp only [Z0, Z6]
 refine wpV_conv (d := .bool) (e := (((restS x) / 256 ^ i % 256 : Nat) : Int)) (by rfl) rfl rfl (run_conv_int U940 U95 (by rw [← byte_of]; exact wrap_u8N _)) ?_
 simp only [Z0, Z6]
 refine wpV_idxs (n := i) (by rfl) rfl rfl rfl U929 info5 (by omega) ?_
 simp only [Z2]
 simp only [Z0, Z6]
 refine Z19 (hLk.out _ ?_)
 simp only [Z7, Z8]
 iterate 12 refine Z28 (by rfl) ?_
 refine Z29 (fun w33 Sw33 hbs => ?_)
 clear hbs
 replace Rg3_0 := Z26 Rg3_0 Lg3 Sw33
 replace Tg3 := Z27 Tg3 Lg3 Sw33
 replace Rg12_0 := Z26 Rg12_0 Lg12 Sw33
 replace Tg12 := Z27 Tg12 Lg12 Sw33
 replace Lg3 := Z1 Lg3 Sw33.2.2.size
 replace Lg12 := Z1 Lg12 Sw33.2.2.size
 replace BE := BE.trans (Sw33.2.2.mono BE.size)
 refine lS1 (g := g12) (off := i) (n := 32) (v := .int .u8 ((restS x) / 256 ^ i % 256 : Nat)) Tg12 (by omega) info5 rfl (fun w34 Pw34 RR TT => ?_)
 replace Rg3_0 := Pw34.range Rg3_0 (.inl Ng3_g12)
 replace Tg3 := Pw34.other_there Tg3 Ng3_g12
 replace Rg12_0 := range_set Rg12_0 Pw34 RR
 clear RR
 replace Tg12 := TT
 replace Lg3 := Pw34.lt Lg3
 replace Lg12 := Pw34.lt Lg12
 replace BE := Pw34.below BE Gg12
 rw [bytesN_set hi] at Rg12_0
 refine lNp (hK28 _ _ ?_)
 refine Z30 2 (by kernel_rfl) (fun Lk hLk => ?_)
 simp only [Z7, Z8]
 refine vBn (v := .int .i64 (i + 1 : Nat)) (hr := fun W => run_add (by simp only [IntKind.wrap_i64]; omega) W) ?_
 simp only [Z0, Z6]
 refine vMv (v := .int .i64 (i + 1 : Nat)) ?_
 simp only [Z0, Z6]
 refine Z19 (hLk.out _ ?_)
 simp only [Z7, Z8]
 iterate 2 refine Z28 (by rfl) ?_
 refine Z29 (fun w36 Sw36 hbs => ?_)
 clear hbs
 replace Rg3_0 := Z26 Rg3_0 Lg3 Sw36
 replace Tg3 := Z27 Tg3 Lg3 Sw36
 replace Rg12_0 := Z26 Rg12_0 Lg12 Sw36
 replace Tg12 := Z27 Tg12 Lg12 Sw36
 replace Lg3 := Z1 Lg3 Sw36.2.2.size
 replace Lg12 := Z1 Lg12 Sw36.2.2.size
 replace BE := BE.trans (Sw36.2.2.mono BE.size)
 refine Z14 (Z15 ?_)
 refine Exists.intro _ ⟨?_, (i + 1), (fun q9 => (#[Z9, Z9, Z9, Z9, .int .i64 i, Z9, Z9, Z9, Z9, Z9, Z9, .bool true, .int .i64 i, .slice (some ⟨g12, 0, none⟩) 32 32, .int .i64 i, .int .i64 i, .int .i64 (i / 8 : Nat), .pointer (some ⟨g3, i / 8, none⟩), .int .u64 (limbN (restS x) (i / 8) : Nat), .int .i64 i, .int .i64 (i % 8 : Nat), .int .i64 (8 * (i % 8) : Nat), .int .u64 (limbN (restS x) (i / 8) / 2 ^ (8 * (i % 8)) : Nat), .int .u8 ((restS x) / 256 ^ i % 256 : Nat), .pointer (some ⟨g12, i, none⟩), .int .i64 (i + 1 : Nat)] : Array Value).getD q9 Z9), rfl, rfl, BE, Rg3_0, Tg3, Lg3, Rg12_0, Tg12, Lg12, (by omega)⟩
 omega
end Go.Proofs.Ya

namespace Go.Proofs.Ya
open Go Go.RowKit Go.Shelf Go.Proofs.Num
open Tryd renaming func96 → G996, underlying29 → U929, underlying40 → U940, underlying5 → U95, underlying86 → U986
open Go.Proofs.Num  renaming putT → Z0
open Nat renaming lt_of_lt_of_le → Z1, zero_add → Z2, le_trans → Z3, ne_of_lt → Z4, mod_eq_of_lt → Z5
open List renaming set → Z6, take → Z7, drop → Z8
open Go renaming undef → Z9, wp_seq_k → Z10, wp_cond_true → Z11, wp_cond_false → Z12
open Go.Proofs.Num renaming wpL_nil → Z14, no_panic → Z15, wpV_nil → Z19, wpV_val → Z24, wpV_callf → Z25, range_sees → Z26, there_sees → Z27, wpN_skip → Z28, wpN_nil → Z29, wp_region_plain → Z30, wpV_load1 → Z34
set_option maxHeartbeats 1000000 in
theorem fbytes_c {x : Nat} (hx : x < 2 ^ 256) (w : World) :
  Calls Tryd.prog 98 #[fe x] w fun e w' => e = .returned (.string (bs (bytesN 32 (leastF x)))) ∧ Below w.heap.size w w' := by
 go_enter Tryd.func98, Tryd.ntmps98
 have BE := Below.refl w.heap.size w
 refine Z10 (fun K1 hK1 => ?_)
 refine Z30 1 (by kernel_rfl) (fun Lk hLk => ?_)
 simp only [Z7, Z8]
 refine vAl ?_
 refine Z19 (hLk.out _ ?_)
 simp only [Z7, Z8]
 refine wpN_new (t := 86) (cs := (fel x).toArray) (by rfl) (fun W => ?_) (fun g3 Hg3 ng3 => ?_)
 ·
  (first | rfl | go_simp)
 simp only [Z0, Z6]
 refine Z29 (fun w4 Sw4 hbs => ?_)
 have Bg3 : Blk w4 g3 86 (fel x).toArray := hbs _ (List.mem_cons_self ..)
 clear hbs
 have Gg3 : w.heap.size ≤ g3 := Z3 BE.size Hg3
 replace BE := BE.trans (Sw4.2.2.mono BE.size)
 have Tg3 := blk_there Bg3 (n := 4) (by simp [flen])
 have Rg3_0 := blk_range Bg3 (l := fel x) rfl
 have Lg3 := Bg3.lt
 clear ng3 Bg3
 refine lAs (v := .string (bs ([]))) ?_
 simp only [Z0, Z6]
 refine lNp (hK1 _ _ ?_)
 refine Z10 (fun K5 hK5 => ?_)
 refine Z30 2 (by kernel_rfl) (fun Lk hLk => ?_)
 simp only [Z7, Z8]
 refine vLd (cs := fel x) Rg3_0 Lg3 U986 info86 ?_
 simp only [Z0, Z6]
 refine Z25 (v := fe (leastF x)) (args := #[fe x]) (by rfl) rfl Tryd.func127 (by kernel_rfl) (by kernel_rfl) rfl (fun W hW => least_c hx W) ?_
 simp only [Z0, Z6]
 refine Z19 (hLk.out _ ?_)
 simp only [Z7, Z8]
 iterate 2 refine Z28 (by rfl) ?_
 refine Z29 (fun w7 Sw7 hbs => ?_)
 clear hbs
 replace Rg3_0 := Z26 Rg3_0 Lg3 Sw7
 replace Tg3 := Z27 Tg3 Lg3 Sw7
 replace Lg3 := Z1 Lg3 Sw7.2.2.size
 replace BE := BE.trans (Sw7.2.2.mono BE.size)
 refine lSt (g := g3) (off := 0) (n := 4) (cs := fel (leastF x)) Tg3 (by simp [flen]) info86 (fel_one _) (fun w8 Pw8 RR TT => ?_)
 replace Rg3_0 := RR
 clear RR
 replace Tg3 := TT
 replace Lg3 := Pw8.lt Lg3
 replace BE := Pw8.below BE Gg3
 refine lNp (hK5 _ _ ?_)
 refine Z10 (fun K9 hK9 => ?_)
 refine Z30 0 (by kernel_rfl) (fun Lk hLk => ?_)
 simp only [Z7, Z8]
 refine Z19 (hLk.out _ ?_)
 simp only [Z7, Z8]
 refine Z29 (fun w11 Sw11 hbs => ?_)
 clear hbs
 replace Rg3_0 := Z26 Rg3_0 Lg3 Sw11
 replace Tg3 := Z27 Tg3 Lg3 Sw11
 replace Lg3 := Z1 Lg3 Sw11.2.2.size
 replace BE := BE.trans (Sw11.2.2.mono BE.size)
 refine wpL_make (n := 32) (z := .int .u8 0) (bytes := 1) (by rfl) (by rfl) (by rfl) (by rfl) U929 (by kernel_rfl) rfl (by decide) (by decide) (fun g12 w13 Sw13 Hg12 Bg12 => ?_)
 have Ng3_g12 : g3 ≠ g12 := Z4 (Z1 Lg3 Hg12)
 have Gg12 : w.heap.size ≤ g12 := Z3 BE.size Hg12
 replace Rg3_0 := Z26 Rg3_0 Lg3 Sw13
 replace Tg3 := Z27 Tg3 Lg3 Sw13
 replace Lg3 := Z1 Lg3 Sw13.2.2.size
 replace BE := BE.trans (Sw13.2.2.mono BE.size)
 have Tg12 := blk_there Bg12 (n := 32) (by simp)
 have Rg12_0 := blk_range Bg12 (l := List.replicate 32 (.int .u8 0)) rfl
 rw [← bcells_zero] at Rg12_0
 have Lg12 := Bg12.lt
 clear Bg12
 simp only [Z0, Z6]
 refine lAs (v := .slice (some ⟨g12, 0, none⟩) 32 32) ?_
 simp only [Z0, Z6]
 refine lNp (hK9 _ _ ?_)
 refine Z10 (fun K14 hK14 => ?_)
 refine Z10 (fun K15 hK15 => ?_)
 refine Z30 3 (by kernel_rfl) (fun Lk hLk => ?_)
 simp only [Z7, Z8]
 refine vMv (v := .slice (some ⟨g12, 0, none⟩) 32 32) ?_
 simp only [Z0, Z6]
 refine wpV_lenA (n := 32) (by rfl) rfl rfl rfl U929 ?_
 simp only [Z0, Z6]
 refine vMv (v := .int .i64 0) ?_
 simp only [Z0, Z6]
 refine Z19 (hLk.out _ ?_)
 simp only [Z7, Z8]
 iterate 3 refine Z28 (by rfl) ?_
 refine Z29 (fun w17 Sw17 hbs => ?_)
 clear hbs
 replace Rg3_0 := Z26 Rg3_0 Lg3 Sw17
 replace Tg3 := Z27 Tg3 Lg3 Sw17
 replace Rg12_0 := Z26 Rg12_0 Lg12 Sw17
 replace Tg12 := Z27 Tg12 Lg12 Sw17
 replace Lg3 := Z1 Lg3 Sw17.2.2.size
 replace Lg12 := Z1 Lg12 Sw17.2.2.size
 replace BE := BE.trans (Sw17.2.2.mono BE.size)
 refine lNp (hK15 _ _ ?_)
 refine wp_block ?_
 refine wp_loop_ghost (fun n9 a9 W9 => ∃ (i : Nat) (u18 : Nat → Value), n9 = 32 - i ∧ a9 = { tmps := #[fe x, .pointer (some ⟨g3, 0, none⟩), .string (bs ([])), .slice (some ⟨g12, 0, none⟩) 32 32, u18 4, fe x, fe (leastF x), .slice (some ⟨g12, 0, none⟩) 32 32, .slice (some ⟨g12, 0, none⟩) 32 32, .int .i64 32, .int .i64 i, u18 11, u18 12, u18 13, u18 14, u18 15, u18 16, u18 17, u18 18, u18 19, u18 20, u18 21, u18 22, u18 23, u18 24, u18 25, Z9, Z9], defers := [] } ∧ Below w.heap.size w W9 ∧ World.rangeAt W9 g3 0 (fel (leastF x)) ∧ World.there W9 g3 0 4 ∧ g3 < W9.heap.size ∧ World.rangeAt W9 g12 0 (bcells (bytesN 32 ((leastF x) % 256 ^ i))) ∧ World.there W9 g12 0 32 ∧ g12 < W9.heap.size ∧ (i ≤ 32)) (32 - (0)) ?_ (fun n9 a9 W9 hI => ?_)
 ·
  exact ⟨0, (fun q9 => (#[Z9, Z9, Z9, Z9, Z9, Z9, Z9, Z9, Z9, Z9, Z9, Z9, Z9, Z9, Z9, Z9, Z9, Z9, Z9, Z9, Z9, Z9, Z9, Z9, Z9, Z9] : Array Value).getD q9 Z9), rfl, rfl, BE, Rg3_0, Tg3, Lg3, (by rw [Nat.pow_zero, Nat.mod_one]; exact Rg12_0), Tg12, Lg12, (by omega)⟩
 clear BE Rg3_0 Rg12_0 Tg3 Tg12 Lg3 Lg12
 obtain ⟨i, u18, rfl, rfl, BE, Rg3_0, Tg3, Lg3, Rg12_0, Tg12, Lg12, hi4⟩ := hI
 obtain ⟨w19, rfl⟩ : ∃ W8, W8 = W9 := ⟨_, rfl⟩
 refine Z10 (fun K20 hK20 => ?_)
 refine Z30 1 (by kernel_rfl) (fun Lk hLk => ?_)
 simp only [Z7, Z8]
 refine vBn (v := .bool (decide (i < 32))) (hr := fun W => run_lssN i 32 _ _ W) ?_
 simp only [Z0, Z6]
 refine Z19 (hLk.out _ ?_)
 simp only [Z7, Z8]
 iterate 1 refine Z28 (by rfl) ?_
 refine Z29 (fun w22 Sw22 hbs => ?_)
 clear hbs
 replace Rg3_0 := Z26 Rg3_0 Lg3 Sw22
 replace Tg3 := Z27 Tg3 Lg3 Sw22
 replace Rg12_0 := Z26 Rg12_0 Lg12 Sw22
 replace Tg12 := Z27 Tg12 Lg12 Sw22
 replace Lg3 := Z1 Lg3 Sw22.2.2.size
 replace Lg12 := Z1 Lg12 Sw22.2.2.size
 replace BE := BE.trans (Sw22.2.2.mono BE.size)
 refine lNp (hK20 _ _ ?_)
 refine Z10 (fun K23 hK23 => ?_)
 cases hc24 : (decide (i < 32))
 ·
  have ei : i = 32 := by have := of_decide_eq_false hc24; omega
  subst ei
  rw [Z5 (show (leastF x) < 256 ^ 32 from (leastF_lt ..))] at Rg12_0
  refine Z12 rfl ?_
  refine wp_exit ?_
  refine hK14 _ _ ?_
  refine Z10 (fun K25 hK25 => ?_)
  refine Z30 2 (by kernel_rfl) (fun Lk hLk => ?_)
  simp only [Z7, Z8]
  refine vMv (v := .slice (some ⟨g12, 0, none⟩) 32 32) ?_
  simp only [Z0, Z6]
  refine wpV_b2s (l := (bytesN 32 (leastF x))) (by rfl) rfl rfl (bytesN_len _ _).symm U929 U95 Tryd.underlying9 Rg12_0 Lg12 ?_
  simp only [Z0, Z6]
  refine Z19 (hLk.out _ ?_)
  simp only [Z7, Z8]
  iterate 2 refine Z28 (by rfl) ?_
  refine Z29 (fun w27 Sw27 hbs => ?_)
  clear hbs
  replace Rg3_0 := Z26 Rg3_0 Lg3 Sw27
  replace Tg3 := Z27 Tg3 Lg3 Sw27
  replace Rg12_0 := Z26 Rg12_0 Lg12 Sw27
  replace Tg12 := Z27 Tg12 Lg12 Sw27
  replace Lg3 := Z1 Lg3 Sw27.2.2.size
  replace Lg12 := Z1 Lg12 Sw27.2.2.size
  replace BE := BE.trans (Sw27.2.2.mono BE.size)
  refine lAs (v := .string (bs (bytesN 32 (leastF x)))) ?_
  simp only [Z0, Z6]
  refine lNp (hK25 _ _ ?_)
  refine wp_ret ?_
  repeat (first | with_reducible refine then_ret ?_ | with_reducible refine inblock_ret ?_)
  refine bodyPost_ret (v := .string (bs (bytesN 32 (leastF x)))) (res1 rfl (.tmp (by rfl))) rfl ?_
  exact ⟨rfl, BE⟩
 have hi : i < 32 := of_decide_eq_true hc24
 refine Z11 rfl ?_
 refine wp_skip ?_
 refine hK23 _ _ ?_
 refine Z10 (fun K28 hK28 => ?_)
 refine wp_block ?_
 refine Z10 (fun K29 hK29 => ?_)
 refine Z30 1 (by kernel_rfl) (fun Lk hLk => ?_)
 simp only [Z7, Z8]
 refine vMv (v := .int .i64 i) ?_
 simp only [Z0, Z6]
 refine Z19 (hLk.out _ ?_)
 simp only [Z7, Z8]
 iterate 1 refine Z28 (by rfl) ?_
 refine Z29 (fun w31 Sw31 hbs => ?_)
 clear hbs
 replace Rg3_0 := Z26 Rg3_0 Lg3 Sw31
 replace Tg3 := Z27 Tg3 Lg3 Sw31
 replace Rg12_0 := Z26 Rg12_0 Lg12 Sw31
 replace Tg12 := Z27 Tg12 Lg12 Sw31
 replace Lg3 := Z1 Lg3 Sw31.2.2.size
 replace Lg12 := Z1 Lg12 Sw31.2.2.size
 replace BE := BE.trans (Sw31.2.2.mono BE.size)
 refine lAs (v := .int .i64 i) ?_
 simp only [Z0, Z6]
 refine lNp (hK29 _ _ ?_)
 refine Z30 12 (by kernel_rfl) (fun Lk hLk => ?_)
 simp only [Z7, Z8]
 refine vMv (v := .slice (some ⟨g12, 0, none⟩) 32 32) ?_
 simp only [Z0, Z6]
 refine vMv (v := .int .i64 i) ?_
 simp only [Z0, Z6]
 refine vMv (v := .int .i64 i) ?_
 simp only [Z0, Z6]
 refine vBn (v := .int .i64 (i / 8 : Nat)) (hr := fun W => run_quo (by decide) ((congrArg _ (tdiv_nat i 8)).trans (wrap_nat _ (by omega))) W) ?_
 simp only [Z0, Z6]
 refine wpV_idx (n := i / 8) (by rfl) rfl rfl rfl U986 info40 (by omega) ?_
 simp only [Z2]
 simp only [Z0, Z6]
 refine Z34 (v := .int .u64 (limbN (leastF x) (i / 8) : Nat)) (by rfl) rfl rfl (by have := Rg3_0 _ _ (fel_get (j := i / 8) (leastF x) (by omega)); rwa [Z2] at this) Lg3 U940 rfl ?_
 simp only [Z0, Z6]
 refine vMv (v := .int .i64 i) ?_
 simp only [Z0, Z6]
 refine vBn (v := .int .i64 (i % 8 : Nat)) (hr := fun W => run_rem (by decide) (tmod_nat i 8) W) ?_
 simp only [Z0, Z6]
 refine vBn (v := .int .i64 (8 * (i % 8) : Nat)) (hr := fun W => run_mul (by simp only [IntKind.wrap_i64]; omega) W) ?_
 simp only [Z0, Z6]
 refine vBn (v := .int .u64 (limbN (leastF x) (i / 8) / 2 ^ (8 * (i % 8)) : Nat)) (hr := fun W => run_shr (by show _ ≤ 64; omega) rfl W) ?_
 simp only [Z0, Z6]
 refine wpV_conv (d := .bool) (e := (((leastF x) / 256 ^ i % 256 : Nat) : Int)) (by rfl) rfl rfl (run_conv_int U940 U95 (by rw [← byte_of]; exact wrap_u8N _)) ?_
 simp only [Z0, Z6]
 refine wpV_idxs (n := i) (by rfl) rfl rfl rfl U929 info5 (by omega) ?_
 simp only [Z2]
 simp only [Z0, Z6]
 refine Z19 (hLk.out _ ?_)
 simp only [Z7, Z8]
 iterate 12 refine Z28 (by rfl) ?_
 refine Z29 (fun w33 Sw33 hbs => ?_)
 clear hbs
 replace Rg3_0 := Z26 Rg3_0 Lg3 Sw33
 replace Tg3 := Z27 Tg3 Lg3 Sw33
 replace Rg12_0 := Z26 Rg12_0 Lg12 Sw33
 replace Tg12 := Z27 Tg12 Lg12 Sw33
 replace Lg3 := Z1 Lg3 Sw33.2.2.size
 replace Lg12 := Z1 Lg12 Sw33.2.2.size
 replace BE := BE.trans (Sw33.2.2.mono BE.size)
 refine lS1 (g := g12) (off := i) (n := 32) (v := .int .u8 ((leastF x) / 256 ^ i % 256 : Nat)) Tg12 (by omega) info5 rfl (fun w34 Pw34 RR TT => ?_)
 replace Rg3_0 := Pw34.range Rg3_0 (.inl Ng3_g12)
 replace Tg3 := Pw34.other_there Tg3 Ng3_g12
 replace Rg12_0 := range_set Rg12_0 Pw34 RR
 clear RR
 replace Tg12 := TT
 replace Lg3 := Pw34.lt Lg3
 replace Lg12 := Pw34.lt Lg12
 replace BE := Pw34.below BE Gg12
 rw [bytesN_set hi] at Rg12_0
 refine lNp (hK28 _ _ ?_)
 refine Z30 2 (by kernel_rfl) (fun Lk hLk => ?_)
 simp only [Z7, Z8]
 refine vBn (v := .int .i64 (i + 1 : Nat)) (hr := fun W => run_add (by simp only [IntKind.wrap_i64]; omega) W) ?_
 simp only [Z0, Z6]
 refine vMv (v := .int .i64 (i + 1 : Nat)) ?_
 simp only [Z0, Z6]
 refine Z19 (hLk.out _ ?_)
 simp only [Z7, Z8]
 iterate 2 refine Z28 (by rfl) ?_
 refine Z29 (fun w36 Sw36 hbs => ?_)
 clear hbs
 replace Rg3_0 := Z26 Rg3_0 Lg3 Sw36
 replace Tg3 := Z27 Tg3 Lg3 Sw36
 replace Rg12_0 := Z26 Rg12_0 Lg12 Sw36
 replace Tg12 := Z27 Tg12 Lg12 Sw36
 replace Lg3 := Z1 Lg3 Sw36.2.2.size
 replace Lg12 := Z1 Lg12 Sw36.2.2.size
 replace BE := BE.trans (Sw36.2.2.mono BE.size)
 refine Z14 (Z15 ?_)
 refine Exists.intro _ ⟨?_, (i + 1), (fun q9 => (#[Z9, Z9, Z9, Z9, .int .i64 i, Z9, Z9, Z9, Z9, Z9, Z9, .bool true, .int .i64 i, .slice (some ⟨g12, 0, none⟩) 32 32, .int .i64 i, .int .i64 i, .int .i64 (i / 8 : Nat), .pointer (some ⟨g3, i / 8, none⟩), .int .u64 (limbN (leastF x) (i / 8) : Nat), .int .i64 i, .int .i64 (i % 8 : Nat), .int .i64 (8 * (i % 8) : Nat), .int .u64 (limbN (leastF x) (i / 8) / 2 ^ (8 * (i % 8)) : Nat), .int .u8 ((leastF x) / 256 ^ i % 256 : Nat), .pointer (some ⟨g12, i, none⟩), .int .i64 (i + 1 : Nat)] : Array Value).getD q9 Z9), rfl, rfl, BE, Rg3_0, Tg3, Lg3, Rg12_0, Tg12, Lg12, (by omega)⟩
 omega
set_option maxHeartbeats 2000000 in
theorem fsqrt_c {x : Nat} (hx : x < 2 ^ 256) (w : World) :
  Calls Tryd.prog 130 #[fe x] w fun e w' => e = .returned (.tuple #[fe (fsqrt x).1, .bool (fsqrt x).2]) ∧ Below w.heap.size w w' := by
 go_enter Tryd.func130, Tryd.ntmps130
 have BE := Below.refl w.heap.size w
 refine Z10 (fun K1 hK1 => ?_)
 refine Z30 2 (by kernel_rfl) (fun Lk hLk => ?_)
 simp only [Z7, Z8]
 refine vAl ?_
 refine vAl ?_
 refine Z19 (hLk.out _ ?_)
 simp only [Z7, Z8]
 refine wpN_new (t := 86) (cs := (fel x).toArray) (by rfl) (fun W => ?_) (fun g3 Hg3 ng3 => ?_)
 ·
  (first | rfl | go_simp)
 refine wpN_new (t := 86) (cs := ([.int .u64 0, .int .u64 0, .int .u64 0, .int .u64 0]).toArray) (by rfl) (fun W => ?_) (fun g4 Hg4 ng4 => ?_)
 ·
  go_simp
 simp only [Z0, Z6]
 refine Z29 (fun w5 Sw5 hbs => ?_)
 have Bg3 : Blk w5 g3 86 (fel x).toArray := hbs _ (List.mem_cons_of_mem _ (List.mem_cons_self ..))
 have Bg4 : Blk w5 g4 86 ([.int .u64 0, .int .u64 0, .int .u64 0, .int .u64 0]).toArray := hbs _ (List.mem_cons_self ..)
 clear hbs
 have Gg3 : w.heap.size ≤ g3 := Z3 BE.size Hg3
 have Ng3_g4 : g3 ≠ g4 := ng4 (g3, _, _) (List.mem_cons_self ..)
 have Gg4 : w.heap.size ≤ g4 := Z3 BE.size Hg4
 replace BE := BE.trans (Sw5.2.2.mono BE.size)
 have Tg3 := blk_there Bg3 (n := 4) (by simp [flen])
 have Rg3_0 := blk_range Bg3 (l := fel x) rfl
 have Lg3 := Bg3.lt
 have Tg4 := blk_there Bg4 (n := 4) (by simp [flen])
 have Rg4_0 := blk_range Bg4 (l := [.int .u64 0, .int .u64 0, .int .u64 0, .int .u64 0]) rfl
 have Lg4 := Bg4.lt
 clear ng3 ng4 Bg3 Bg4
 refine lAs (v := .bool false) ?_
 simp only [Z0, Z6]
 refine lNp (hK1 _ _ ?_)
 refine Z10 (fun K6 hK6 => ?_)
 refine Z30 2 (by kernel_rfl) (fun Lk hLk => ?_)
 simp only [Z7, Z8]
 refine vLd (cs := fel x) Rg3_0 Lg3 U986 info86 ?_
 simp only [Z0, Z6]
 refine Z25 (v := fe (leastF x)) (args := #[fe x]) (by rfl) rfl Tryd.func127 (by kernel_rfl) (by kernel_rfl) rfl (fun W hW => least_c hx W) ?_
 simp only [Z0, Z6]
 refine Z19 (hLk.out _ ?_)
 simp only [Z7, Z8]
 iterate 2 refine Z28 (by rfl) ?_
 refine Z29 (fun w8 Sw8 hbs => ?_)
 clear hbs
 replace Rg3_0 := Z26 Rg3_0 Lg3 Sw8
 replace Tg3 := Z27 Tg3 Lg3 Sw8
 replace Rg4_0 := Z26 Rg4_0 Lg4 Sw8
 replace Tg4 := Z27 Tg4 Lg4 Sw8
 replace Lg3 := Z1 Lg3 Sw8.2.2.size
 replace Lg4 := Z1 Lg4 Sw8.2.2.size
 replace BE := BE.trans (Sw8.2.2.mono BE.size)
 refine lSt (g := g3) (off := 0) (n := 4) (cs := fel (leastF x)) Tg3 (by simp [flen]) info86 (fel_one _) (fun w9 Pw9 RR TT => ?_)
 replace Rg4_0 := Pw9.range Rg4_0 (.inl (Ne.symm Ng3_g4))
 replace Tg4 := Pw9.other_there Tg4 (Ne.symm Ng3_g4)
 replace Rg3_0 := RR
 clear RR
 replace Tg3 := TT
 replace Lg3 := Pw9.lt Lg3
 replace Lg4 := Pw9.lt Lg4
 replace BE := Pw9.below BE Gg3
 refine lNp (hK6 _ _ ?_)
 refine Z10 (fun K10 hK10 => ?_)
 refine Z30 2 (by kernel_rfl) (fun Lk hLk => ?_)
 simp only [Z7, Z8]
 refine Z24 (v := fe 7237005577332262213973186563042994240829374041602535252466099000494570602494) (by rfl) (by rfl) (fun W hW => ?_) ?_
 ·
  rw [show fe 7237005577332262213973186563042994240829374041602535252466099000494570602494 = .agg ([.int .u64 18446744073709551614, .int .u64 18446744073709551615, .int .u64 18446744073709551615, .int .u64 1152921504606846975]).toArray from (by kernel_rfl)]; unfold RunsVal; kernel_rfl
 simp only [Z0, Z6]
 refine vAl ?_
 refine Z19 (hLk.out _ ?_)
 simp only [Z7, Z8]
 iterate 1 refine Z28 (by rfl) ?_
 refine wpN_new (t := 86) (cs := ([.int .u64 0, .int .u64 0, .int .u64 0, .int .u64 0]).toArray) (by rfl) (fun W => ?_) (fun g12 Hg12 ng12 => ?_)
 ·
  go_simp
 simp only [Z0, Z6]
 refine Z29 (fun w13 Sw13 hbs => ?_)
 have Bg12 : Blk w13 g12 86 ([.int .u64 0, .int .u64 0, .int .u64 0, .int .u64 0]).toArray := hbs _ (List.mem_cons_self ..)
 clear hbs
 have Ng3_g12 : g3 ≠ g12 := Z4 (Z1 Lg3 Hg12)
 have Ng4_g12 : g4 ≠ g12 := Z4 (Z1 Lg4 Hg12)
 have Gg12 : w.heap.size ≤ g12 := Z3 BE.size Hg12
 replace Rg3_0 := Z26 Rg3_0 Lg3 Sw13
 replace Tg3 := Z27 Tg3 Lg3 Sw13
 replace Rg4_0 := Z26 Rg4_0 Lg4 Sw13
 replace Tg4 := Z27 Tg4 Lg4 Sw13
 replace Lg3 := Z1 Lg3 Sw13.2.2.size
 replace Lg4 := Z1 Lg4 Sw13.2.2.size
 replace BE := BE.trans (Sw13.2.2.mono BE.size)
 have Tg12 := blk_there Bg12 (n := 4) (by simp [flen])
 have Rg12_0 := blk_range Bg12 (l := [.int .u64 0, .int .u64 0, .int .u64 0, .int .u64 0]) rfl
 have Lg12 := Bg12.lt
 clear ng12 Bg12
 refine lSt (g := g12) (off := 0) (n := 4) (cs := fel 7237005577332262213973186563042994240829374041602535252466099000494570602494) Tg12 (by simp [flen]) info86 (fel_one _) (fun w14 Pw14 RR TT => ?_)
 replace Rg3_0 := Pw14.range Rg3_0 (.inl Ng3_g12)
 replace Tg3 := Pw14.other_there Tg3 Ng3_g12
 replace Rg4_0 := Pw14.range Rg4_0 (.inl Ng4_g12)
 replace Tg4 := Pw14.other_there Tg4 Ng4_g12
 replace Rg12_0 := RR
 clear RR
 replace Tg12 := TT
 replace Lg3 := Pw14.lt Lg3
 replace Lg4 := Pw14.lt Lg4
 replace Lg12 := Pw14.lt Lg12
 replace BE := Pw14.below BE Gg12
 refine lNp (hK10 _ _ ?_)
 refine Z10 (fun K15 hK15 => ?_)
 refine Z30 4 (by kernel_rfl) (fun Lk hLk => ?_)
 simp only [Z7, Z8]
 refine vLd (cs := fel (leastF x)) Rg3_0 Lg3 U986 info86 ?_
 simp only [Z0, Z6]
 refine vLd (cs := fel 7237005577332262213973186563042994240829374041602535252466099000494570602494) Rg12_0 Lg12 U986 info86 ?_
 simp only [Z0, Z6]
 refine Z25 (v := fe (fpow (leastF x) 7237005577332262213973186563042994240829374041602535252466099000494570602494)) (args := #[fe (leastF x), fe 7237005577332262213973186563042994240829374041602535252466099000494570602494]) (by rfl) rfl Tryd.func135 (by kernel_rfl) (by kernel_rfl) rfl (fun W hW => power_c (leastF_lt ..) (by decide) W) ?_
 simp only [Z0, Z6]
 refine vAl ?_
 refine Z19 (hLk.out _ ?_)
 simp only [Z7, Z8]
 iterate 3 refine Z28 (by rfl) ?_
 refine wpN_new (t := 86) (cs := ([.int .u64 0, .int .u64 0, .int .u64 0, .int .u64 0]).toArray) (by rfl) (fun W => ?_) (fun g17 Hg17 ng17 => ?_)
 ·
  go_simp
 simp only [Z0, Z6]
 refine Z29 (fun w18 Sw18 hbs => ?_)
 have Bg17 : Blk w18 g17 86 ([.int .u64 0, .int .u64 0, .int .u64 0, .int .u64 0]).toArray := hbs _ (List.mem_cons_self ..)
 clear hbs
 have Ng3_g17 : g3 ≠ g17 := Z4 (Z1 Lg3 Hg17)
 have Ng4_g17 : g4 ≠ g17 := Z4 (Z1 Lg4 Hg17)
 have Ng12_g17 : g12 ≠ g17 := Z4 (Z1 Lg12 Hg17)
 have Gg17 : w.heap.size ≤ g17 := Z3 BE.size Hg17
 replace Rg3_0 := Z26 Rg3_0 Lg3 Sw18
 replace Tg3 := Z27 Tg3 Lg3 Sw18
 replace Rg4_0 := Z26 Rg4_0 Lg4 Sw18
 replace Tg4 := Z27 Tg4 Lg4 Sw18
 replace Rg12_0 := Z26 Rg12_0 Lg12 Sw18
 replace Tg12 := Z27 Tg12 Lg12 Sw18
 replace Lg3 := Z1 Lg3 Sw18.2.2.size
 replace Lg4 := Z1 Lg4 Sw18.2.2.size
 replace Lg12 := Z1 Lg12 Sw18.2.2.size
 replace BE := BE.trans (Sw18.2.2.mono BE.size)
 have Tg17 := blk_there Bg17 (n := 4) (by simp [flen])
 have Rg17_0 := blk_range Bg17 (l := [.int .u64 0, .int .u64 0, .int .u64 0, .int .u64 0]) rfl
 have Lg17 := Bg17.lt
 clear ng17 Bg17
 refine lSt (g := g17) (off := 0) (n := 4) (cs := fel (fpow (leastF x) 7237005577332262213973186563042994240829374041602535252466099000494570602494)) Tg17 (by simp [flen]) info86 (fel_one _) (fun w19 Pw19 RR TT => ?_)
 replace Rg3_0 := Pw19.range Rg3_0 (.inl Ng3_g17)
 replace Tg3 := Pw19.other_there Tg3 Ng3_g17
 replace Rg4_0 := Pw19.range Rg4_0 (.inl Ng4_g17)
 replace Tg4 := Pw19.other_there Tg4 Ng4_g17
 replace Rg12_0 := Pw19.range Rg12_0 (.inl Ng12_g17)
 replace Tg12 := Pw19.other_there Tg12 Ng12_g17
 replace Rg17_0 := RR
 clear RR
 replace Tg17 := TT
 replace Lg3 := Pw19.lt Lg3
 replace Lg4 := Pw19.lt Lg4
 replace Lg12 := Pw19.lt Lg12
 replace Lg17 := Pw19.lt Lg17
 replace BE := Pw19.below BE Gg17
 refine lNp (hK15 _ _ ?_)
 refine Z10 (fun K20 hK20 => ?_)
 refine Z10 (fun K21 hK21 => ?_)
 refine wp_region_grow 5 [] (by kernel_rfl) (by kernel_rfl) (by kernel_rfl) (fun Lk hLk => ?_)
 simp only [Z7, Z8]
 refine vLd (cs := fel (fpow (leastF x) 7237005577332262213973186563042994240829374041602535252466099000494570602494)) Rg17_0 Lg17 U986 info86 ?_
 simp only [Z0, Z6]
 refine vLd (cs := fel (fpow (leastF x) 7237005577332262213973186563042994240829374041602535252466099000494570602494)) Rg17_0 Lg17 U986 info86 ?_
 simp only [Z0, Z6]
 refine Z25 (v := fe (fmul (fpow (leastF x) 7237005577332262213973186563042994240829374041602535252466099000494570602494) (fpow (leastF x) 7237005577332262213973186563042994240829374041602535252466099000494570602494))) (args := #[fe (fpow (leastF x) 7237005577332262213973186563042994240829374041602535252466099000494570602494), fe (fpow (leastF x) 7237005577332262213973186563042994240829374041602535252466099000494570602494)]) (by rfl) rfl G996 (by kernel_rfl) (by kernel_rfl) rfl (fun W hW => fmul_c (fpow_lt ..) (fpow_lt ..) W) ?_
 simp only [Z0, Z6]
 refine vLd (cs := fel (leastF x)) Rg3_0 Lg3 U986 info86 ?_
 simp only [Z0, Z6]
 refine Z24 (v := .bool (decide (fmul (fpow (leastF x) 7237005577332262213973186563042994240829374041602535252466099000494570602494) (fpow (leastF x) 7237005577332262213973186563042994240829374041602535252466099000494570602494) ≠ leastF x))) (by rfl) (by rfl) (fun W hW => ?_) ?_
 ·
  exact run_neq_fe (fmul_lt ..) (leastF_lt ..) U986 U940 info40 (by kernel_rfl) rfl rfl rfl W
 simp only [Z0, Z6]
 refine Z19 (hLk.out _ ?_)
 simp only [Z7, Z8]
 iterate 5 refine Z28 (by rfl) ?_
 refine Z29 (fun w23 Sw23 hbs => ?_)
 clear hbs
 replace Rg3_0 := Z26 Rg3_0 Lg3 Sw23
 replace Tg3 := Z27 Tg3 Lg3 Sw23
 replace Rg4_0 := Z26 Rg4_0 Lg4 Sw23
 replace Tg4 := Z27 Tg4 Lg4 Sw23
 replace Rg12_0 := Z26 Rg12_0 Lg12 Sw23
 replace Tg12 := Z27 Tg12 Lg12 Sw23
 replace Rg17_0 := Z26 Rg17_0 Lg17 Sw23
 replace Tg17 := Z27 Tg17 Lg17 Sw23
 replace Lg3 := Z1 Lg3 Sw23.2.2.size
 replace Lg4 := Z1 Lg4 Sw23.2.2.size
 replace Lg12 := Z1 Lg12 Sw23.2.2.size
 replace Lg17 := Z1 Lg17 Sw23.2.2.size
 replace BE := BE.trans (Sw23.2.2.mono BE.size)
 refine lNp (hK21 _ _ ?_)
 cases hc24 : (decide (fmul (fpow (leastF x) 7237005577332262213973186563042994240829374041602535252466099000494570602494) (fpow (leastF x) 7237005577332262213973186563042994240829374041602535252466099000494570602494) ≠ leastF x))
 ·
  have q1 : fmul (root1 x) (root1 x) = leastF x := Decidable.not_not.1 (of_decide_eq_false hc24)
  refine Z12 rfl ?_
  refine wp_skip ?_
  refine hK20 _ _ ?_
  refine Z10 (fun K25 hK25 => ?_)
  refine Z10 (fun K26 hK26 => ?_)
  refine wp_region_grow 5 [] (by kernel_rfl) (by kernel_rfl) (by kernel_rfl) (fun Lk hLk => ?_)
  simp only [Z7, Z8]
  refine vLd (cs := fel (fpow (leastF x) 7237005577332262213973186563042994240829374041602535252466099000494570602494)) Rg17_0 Lg17 U986 info86 ?_
  simp only [Z0, Z6]
  refine vLd (cs := fel (fpow (leastF x) 7237005577332262213973186563042994240829374041602535252466099000494570602494)) Rg17_0 Lg17 U986 info86 ?_
  simp only [Z0, Z6]
  refine Z25 (v := fe (fmul (fpow (leastF x) 7237005577332262213973186563042994240829374041602535252466099000494570602494) (fpow (leastF x) 7237005577332262213973186563042994240829374041602535252466099000494570602494))) (args := #[fe (fpow (leastF x) 7237005577332262213973186563042994240829374041602535252466099000494570602494), fe (fpow (leastF x) 7237005577332262213973186563042994240829374041602535252466099000494570602494)]) (by rfl) rfl G996 (by kernel_rfl) (by kernel_rfl) rfl (fun W hW => fmul_c (fpow_lt ..) (fpow_lt ..) W) ?_
  simp only [Z0, Z6]
  refine vLd (cs := fel (leastF x)) Rg3_0 Lg3 U986 info86 ?_
  simp only [Z0, Z6]
  refine Z24 (v := .bool false) (by rfl) (by rfl) (fun W hW => ?_) ?_
  ·
   exact hc24 ▸ run_neq_fe (fmul_lt ..) (leastF_lt ..) U986 U940 info40 (by kernel_rfl) rfl rfl rfl W
  simp only [Z0, Z6]
  refine Z19 (hLk.out _ ?_)
  simp only [Z7, Z8]
  iterate 5 refine Z28 (by rfl) ?_
  refine Z29 (fun w28 Sw28 hbs => ?_)
  clear hbs
  replace Rg3_0 := Z26 Rg3_0 Lg3 Sw28
  replace Tg3 := Z27 Tg3 Lg3 Sw28
  replace Rg4_0 := Z26 Rg4_0 Lg4 Sw28
  replace Tg4 := Z27 Tg4 Lg4 Sw28
  replace Rg12_0 := Z26 Rg12_0 Lg12 Sw28
  replace Tg12 := Z27 Tg12 Lg12 Sw28
  replace Rg17_0 := Z26 Rg17_0 Lg17 Sw28
  replace Tg17 := Z27 Tg17 Lg17 Sw28
  replace Lg3 := Z1 Lg3 Sw28.2.2.size
  replace Lg4 := Z1 Lg4 Sw28.2.2.size
  replace Lg12 := Z1 Lg12 Sw28.2.2.size
  replace Lg17 := Z1 Lg17 Sw28.2.2.size
  replace BE := BE.trans (Sw28.2.2.mono BE.size)
  refine lNp (hK26 _ _ ?_)
  refine Z12 rfl ?_
  refine wp_skip ?_
  refine hK25 _ _ ?_
  refine Z10 (fun K29 hK29 => ?_)
  refine Z10 (fun K30 hK30 => ?_)
  refine Z30 4 (by kernel_rfl) (fun Lk hLk => ?_)
  simp only [Z7, Z8]
  refine vGo (v := .pointer (some ⟨g17, 0, none⟩)) ?_
  simp only [Z0, Z6]
  refine vL1 (v := .int .u64 (limb (fpow (leastF x) 7237005577332262213973186563042994240829374041602535252466099000494570602494) 0)) (range_one (range_sub Rg17_0 0 1 0 (xs := [.int .u64 (limb (fpow (leastF x) 7237005577332262213973186563042994240829374041602535252466099000494570602494) 0)]) rfl rfl)) Lg17 U940 ?_
  simp only [Z0, Z6]
  refine vBn (v := .int .u64 ((fpow (leastF x) 7237005577332262213973186563042994240829374041602535252466099000494570602494) % 2 : Nat)) (hr := fun W => run_and (and_one _) W) ?_
  simp only [Z0, Z6]
  refine vBn (v := .bool ((((fpow (leastF x) 7237005577332262213973186563042994240829374041602535252466099000494570602494) % 2 : Nat) : Int) == 1)) (hr := fun W => run_eql _ _ _ _ W) ?_
  simp only [Z0, Z6]
  refine Z19 (hLk.out _ ?_)
  simp only [Z7, Z8]
  iterate 4 refine Z28 (by rfl) ?_
  refine Z29 (fun w32 Sw32 hbs => ?_)
  clear hbs
  replace Rg3_0 := Z26 Rg3_0 Lg3 Sw32
  replace Tg3 := Z27 Tg3 Lg3 Sw32
  replace Rg4_0 := Z26 Rg4_0 Lg4 Sw32
  replace Tg4 := Z27 Tg4 Lg4 Sw32
  replace Rg12_0 := Z26 Rg12_0 Lg12 Sw32
  replace Tg12 := Z27 Tg12 Lg12 Sw32
  replace Rg17_0 := Z26 Rg17_0 Lg17 Sw32
  replace Tg17 := Z27 Tg17 Lg17 Sw32
  replace Lg3 := Z1 Lg3 Sw32.2.2.size
  replace Lg4 := Z1 Lg4 Sw32.2.2.size
  replace Lg12 := Z1 Lg12 Sw32.2.2.size
  replace Lg17 := Z1 Lg17 Sw32.2.2.size
  replace BE := BE.trans (Sw32.2.2.mono BE.size)
  refine lNp (hK30 _ _ ?_)
  cases hc33 : ((((fpow (leastF x) 7237005577332262213973186563042994240829374041602535252466099000494570602494) % 2 : Nat) : Int) == 1)
  ·
   have e2 : root2 x = (fpow (leastF x) 7237005577332262213973186563042994240829374041602535252466099000494570602494) := root2_t q1
   have q2 : fmul (root2 x) (root2 x) = leastF x := by rw [e2]; exact q1
   have q3 : ¬ root2 x % 2 = 1 := by rw [e2]; intro e; rw [e] at hc33; simp at hc33
   refine Z12 rfl ?_
   refine wp_skip ?_
   refine hK29 _ _ ?_
   refine Z10 (fun K34 hK34 => ?_)
   refine Z30 1 (by kernel_rfl) (fun Lk hLk => ?_)
   simp only [Z7, Z8]
   refine vLd (cs := fel (fpow (leastF x) 7237005577332262213973186563042994240829374041602535252466099000494570602494)) Rg17_0 Lg17 U986 info86 ?_
   simp only [Z0, Z6]
   refine Z19 (hLk.out _ ?_)
   simp only [Z7, Z8]
   iterate 1 refine Z28 (by rfl) ?_
   refine Z29 (fun w36 Sw36 hbs => ?_)
   clear hbs
   replace Rg3_0 := Z26 Rg3_0 Lg3 Sw36
   replace Tg3 := Z27 Tg3 Lg3 Sw36
   replace Rg4_0 := Z26 Rg4_0 Lg4 Sw36
   replace Tg4 := Z27 Tg4 Lg4 Sw36
   replace Rg12_0 := Z26 Rg12_0 Lg12 Sw36
   replace Tg12 := Z27 Tg12 Lg12 Sw36
   replace Rg17_0 := Z26 Rg17_0 Lg17 Sw36
   replace Tg17 := Z27 Tg17 Lg17 Sw36
   replace Lg3 := Z1 Lg3 Sw36.2.2.size
   replace Lg4 := Z1 Lg4 Sw36.2.2.size
   replace Lg12 := Z1 Lg12 Sw36.2.2.size
   replace Lg17 := Z1 Lg17 Sw36.2.2.size
   replace BE := BE.trans (Sw36.2.2.mono BE.size)
   refine lSt (g := g4) (off := 0) (n := 4) (cs := fel (fpow (leastF x) 7237005577332262213973186563042994240829374041602535252466099000494570602494)) Tg4 (by simp [flen]) info86 (fel_one _) (fun w37 Pw37 RR TT => ?_)
   replace Rg3_0 := Pw37.range Rg3_0 (.inl Ng3_g4)
   replace Tg3 := Pw37.other_there Tg3 Ng3_g4
   replace Rg12_0 := Pw37.range Rg12_0 (.inl (Ne.symm Ng4_g12))
   replace Tg12 := Pw37.other_there Tg12 (Ne.symm Ng4_g12)
   replace Rg17_0 := Pw37.range Rg17_0 (.inl (Ne.symm Ng4_g17))
   replace Tg17 := Pw37.other_there Tg17 (Ne.symm Ng4_g17)
   replace Rg4_0 := RR
   clear RR
   replace Tg4 := TT
   replace Lg3 := Pw37.lt Lg3
   replace Lg4 := Pw37.lt Lg4
   replace Lg12 := Pw37.lt Lg12
   replace Lg17 := Pw37.lt Lg17
   replace BE := Pw37.below BE Gg4
   refine lAs (v := .bool true) ?_
   simp only [Z0, Z6]
   refine lNp (hK34 _ _ ?_)
   refine wp_ret ?_
   repeat (first | with_reducible refine then_ret ?_ | with_reducible refine inblock_ret ?_)
   refine bodyPost_ret (v := .tuple #[fe (fpow (leastF x) 7237005577332262213973186563042994240829374041602535252466099000494570602494), .bool true]) (res2 rfl (.cell (by rfl) (run_loadVar_mid _ _ _ _ (fel (fpow (leastF x) 7237005577332262213973186563042994240829374041602535252466099000494570602494)) _ Rg4_0 U986 rfl info86)) (.tmp (by rfl))) rfl ?_
   exact ⟨by simp only [sqrt_even q2 q3, e2], BE⟩
  have e2 : root2 x = (fpow (leastF x) 7237005577332262213973186563042994240829374041602535252466099000494570602494) := root2_t q1
  have q2 : fmul (root2 x) (root2 x) = leastF x := by rw [e2]; exact q1
  have q3 : root2 x % 2 = 1 := by rw [e2]; have := beq_iff_eq.1 hc33; omega
  refine Z11 rfl ?_
  refine Z30 3 (by kernel_rfl) (fun Lk hLk => ?_)
  simp only [Z7, Z8]
  refine Z24 (v := fe 0) (by rfl) (by rfl) (fun W hW => ?_) ?_
  ·
   rw [show fe 0 = .agg ([.int .u64 0, .int .u64 0, .int .u64 0, .int .u64 0]).toArray from (by kernel_rfl)]; unfold RunsVal; kernel_rfl
  simp only [Z0, Z6]
  refine vLd (cs := fel (fpow (leastF x) 7237005577332262213973186563042994240829374041602535252466099000494570602494)) Rg17_0 Lg17 U986 info86 ?_
  simp only [Z0, Z6]
  refine Z25 (v := fe (fsub 0 (fpow (leastF x) 7237005577332262213973186563042994240829374041602535252466099000494570602494))) (args := #[fe 0, fe (fpow (leastF x) 7237005577332262213973186563042994240829374041602535252466099000494570602494)]) (by rfl) rfl Tryd.func90 (by kernel_rfl) (by kernel_rfl) rfl (fun W hW => fsub_c (by decide) (fpow_lt ..) W) ?_
  simp only [Z0, Z6]
  refine Z19 (hLk.out _ ?_)
  simp only [Z7, Z8]
  iterate 3 refine Z28 (by rfl) ?_
  refine Z29 (fun w39 Sw39 hbs => ?_)
  clear hbs
  replace Rg3_0 := Z26 Rg3_0 Lg3 Sw39
  replace Tg3 := Z27 Tg3 Lg3 Sw39
  replace Rg4_0 := Z26 Rg4_0 Lg4 Sw39
  replace Tg4 := Z27 Tg4 Lg4 Sw39
  replace Rg12_0 := Z26 Rg12_0 Lg12 Sw39
  replace Tg12 := Z27 Tg12 Lg12 Sw39
  replace Rg17_0 := Z26 Rg17_0 Lg17 Sw39
  replace Tg17 := Z27 Tg17 Lg17 Sw39
  replace Lg3 := Z1 Lg3 Sw39.2.2.size
  replace Lg4 := Z1 Lg4 Sw39.2.2.size
  replace Lg12 := Z1 Lg12 Sw39.2.2.size
  replace Lg17 := Z1 Lg17 Sw39.2.2.size
  replace BE := BE.trans (Sw39.2.2.mono BE.size)
  refine lSt (g := g17) (off := 0) (n := 4) (cs := fel (fsub 0 (fpow (leastF x) 7237005577332262213973186563042994240829374041602535252466099000494570602494))) Tg17 (by simp [flen]) info86 (fel_one _) (fun w40 Pw40 RR TT => ?_)
  replace Rg3_0 := Pw40.range Rg3_0 (.inl Ng3_g17)
  replace Tg3 := Pw40.other_there Tg3 Ng3_g17
  replace Rg4_0 := Pw40.range Rg4_0 (.inl Ng4_g17)
  replace Tg4 := Pw40.other_there Tg4 Ng4_g17
  replace Rg12_0 := Pw40.range Rg12_0 (.inl Ng12_g17)
  replace Tg12 := Pw40.other_there Tg12 Ng12_g17
  replace Rg17_0 := RR
  clear RR
  replace Tg17 := TT
  replace Lg3 := Pw40.lt Lg3
  replace Lg4 := Pw40.lt Lg4
  replace Lg12 := Pw40.lt Lg12
  replace Lg17 := Pw40.lt Lg17
  replace BE := Pw40.below BE Gg17
  refine lNp (hK29 _ _ ?_)
  refine Z10 (fun K41 hK41 => ?_)
  refine Z30 1 (by kernel_rfl) (fun Lk hLk => ?_)
  simp only [Z7, Z8]
  refine vLd (cs := fel (fsub 0 (fpow (leastF x) 7237005577332262213973186563042994240829374041602535252466099000494570602494))) Rg17_0 Lg17 U986 info86 ?_
  simp only [Z0, Z6]
  refine Z19 (hLk.out _ ?_)
  simp only [Z7, Z8]
  iterate 1 refine Z28 (by rfl) ?_
  refine Z29 (fun w43 Sw43 hbs => ?_)
  clear hbs
  replace Rg3_0 := Z26 Rg3_0 Lg3 Sw43
  replace Tg3 := Z27 Tg3 Lg3 Sw43
  replace Rg4_0 := Z26 Rg4_0 Lg4 Sw43
  replace Tg4 := Z27 Tg4 Lg4 Sw43
  replace Rg12_0 := Z26 Rg12_0 Lg12 Sw43
  replace Tg12 := Z27 Tg12 Lg12 Sw43
  replace Rg17_0 := Z26 Rg17_0 Lg17 Sw43
  replace Tg17 := Z27 Tg17 Lg17 Sw43
  replace Lg3 := Z1 Lg3 Sw43.2.2.size
  replace Lg4 := Z1 Lg4 Sw43.2.2.size
  replace Lg12 := Z1 Lg12 Sw43.2.2.size
  replace Lg17 := Z1 Lg17 Sw43.2.2.size
  replace BE := BE.trans (Sw43.2.2.mono BE.size)
  refine lSt (g := g4) (off := 0) (n := 4) (cs := fel (fsub 0 (fpow (leastF x) 7237005577332262213973186563042994240829374041602535252466099000494570602494))) Tg4 (by simp [flen]) info86 (fel_one _) (fun w44 Pw44 RR TT => ?_)
  replace Rg3_0 := Pw44.range Rg3_0 (.inl Ng3_g4)
  replace Tg3 := Pw44.other_there Tg3 Ng3_g4
  replace Rg12_0 := Pw44.range Rg12_0 (.inl (Ne.symm Ng4_g12))
  replace Tg12 := Pw44.other_there Tg12 (Ne.symm Ng4_g12)
  replace Rg17_0 := Pw44.range Rg17_0 (.inl (Ne.symm Ng4_g17))
  replace Tg17 := Pw44.other_there Tg17 (Ne.symm Ng4_g17)
  replace Rg4_0 := RR
  clear RR
  replace Tg4 := TT
  replace Lg3 := Pw44.lt Lg3
  replace Lg4 := Pw44.lt Lg4
  replace Lg12 := Pw44.lt Lg12
  replace Lg17 := Pw44.lt Lg17
  replace BE := Pw44.below BE Gg4
  refine lAs (v := .bool true) ?_
  simp only [Z0, Z6]
  refine lNp (hK41 _ _ ?_)
  refine wp_ret ?_
  repeat (first | with_reducible refine then_ret ?_ | with_reducible refine inblock_ret ?_)
  refine bodyPost_ret (v := .tuple #[fe (fsub 0 (fpow (leastF x) 7237005577332262213973186563042994240829374041602535252466099000494570602494)), .bool true]) (res2 rfl (.cell (by rfl) (run_loadVar_mid _ _ _ _ (fel (fsub 0 (fpow (leastF x) 7237005577332262213973186563042994240829374041602535252466099000494570602494))) _ Rg4_0 U986 rfl info86)) (.tmp (by rfl))) rfl ?_
  exact ⟨by simp only [sqrt_odd q2 q3, e2], BE⟩
 have q1 : ¬ fmul (root1 x) (root1 x) = leastF x := of_decide_eq_true hc24
 refine Z11 rfl ?_
 refine Z10 (fun K45 hK45 => ?_)
 refine Z30 2 (by kernel_rfl) (fun Lk hLk => ?_)
 simp only [Z7, Z8]
 refine Z24 (v := fe 14474011154664524427946373126085988481658748083205070504932198000989141204987) (by rfl) (by rfl) (fun W hW => ?_) ?_
 ·
  rw [show fe 14474011154664524427946373126085988481658748083205070504932198000989141204987 = .agg ([.int .u64 18446744073709551611, .int .u64 18446744073709551615, .int .u64 18446744073709551615, .int .u64 2305843009213693951]).toArray from (by kernel_rfl)]; unfold RunsVal; kernel_rfl
 simp only [Z0, Z6]
 refine vAl ?_
 refine Z19 (hLk.out _ ?_)
 simp only [Z7, Z8]
 iterate 1 refine Z28 (by rfl) ?_
 refine wpN_new (t := 86) (cs := ([.int .u64 0, .int .u64 0, .int .u64 0, .int .u64 0]).toArray) (by rfl) (fun W => ?_) (fun g47 Hg47 ng47 => ?_)
 ·
  go_simp
 simp only [Z0, Z6]
 refine Z29 (fun w48 Sw48 hbs => ?_)
 have Bg47 : Blk w48 g47 86 ([.int .u64 0, .int .u64 0, .int .u64 0, .int .u64 0]).toArray := hbs _ (List.mem_cons_self ..)
 clear hbs
 have Ng3_g47 : g3 ≠ g47 := Z4 (Z1 Lg3 Hg47)
 have Ng4_g47 : g4 ≠ g47 := Z4 (Z1 Lg4 Hg47)
 have Ng12_g47 : g12 ≠ g47 := Z4 (Z1 Lg12 Hg47)
 have Ng17_g47 : g17 ≠ g47 := Z4 (Z1 Lg17 Hg47)
 have Gg47 : w.heap.size ≤ g47 := Z3 BE.size Hg47
 replace Rg3_0 := Z26 Rg3_0 Lg3 Sw48
 replace Tg3 := Z27 Tg3 Lg3 Sw48
 replace Rg4_0 := Z26 Rg4_0 Lg4 Sw48
 replace Tg4 := Z27 Tg4 Lg4 Sw48
 replace Rg12_0 := Z26 Rg12_0 Lg12 Sw48
 replace Tg12 := Z27 Tg12 Lg12 Sw48
 replace Rg17_0 := Z26 Rg17_0 Lg17 Sw48
 replace Tg17 := Z27 Tg17 Lg17 Sw48
 replace Lg3 := Z1 Lg3 Sw48.2.2.size
 replace Lg4 := Z1 Lg4 Sw48.2.2.size
 replace Lg12 := Z1 Lg12 Sw48.2.2.size
 replace Lg17 := Z1 Lg17 Sw48.2.2.size
 replace BE := BE.trans (Sw48.2.2.mono BE.size)
 have Tg47 := blk_there Bg47 (n := 4) (by simp [flen])
 have Rg47_0 := blk_range Bg47 (l := [.int .u64 0, .int .u64 0, .int .u64 0, .int .u64 0]) rfl
 have Lg47 := Bg47.lt
 clear ng47 Bg47
 refine lSt (g := g47) (off := 0) (n := 4) (cs := fel 14474011154664524427946373126085988481658748083205070504932198000989141204987) Tg47 (by simp [flen]) info86 (fel_one _) (fun w49 Pw49 RR TT => ?_)
 replace Rg3_0 := Pw49.range Rg3_0 (.inl Ng3_g47)
 replace Tg3 := Pw49.other_there Tg3 Ng3_g47
 replace Rg4_0 := Pw49.range Rg4_0 (.inl Ng4_g47)
 replace Tg4 := Pw49.other_there Tg4 Ng4_g47
 replace Rg12_0 := Pw49.range Rg12_0 (.inl Ng12_g47)
 replace Tg12 := Pw49.other_there Tg12 Ng12_g47
 replace Rg17_0 := Pw49.range Rg17_0 (.inl Ng17_g47)
 replace Tg17 := Pw49.other_there Tg17 Ng17_g47
 replace Rg47_0 := RR
 clear RR
 replace Tg47 := TT
 replace Lg3 := Pw49.lt Lg3
 replace Lg4 := Pw49.lt Lg4
 replace Lg12 := Pw49.lt Lg12
 replace Lg17 := Pw49.lt Lg17
 replace Lg47 := Pw49.lt Lg47
 replace BE := Pw49.below BE Gg47
 refine lNp (hK45 _ _ ?_)
 refine wp_region_grow 5 [] (by kernel_rfl) (by kernel_rfl) (by kernel_rfl) (fun Lk hLk => ?_)
 simp only [Z7, Z8]
 refine vLd (cs := fel (fpow (leastF x) 7237005577332262213973186563042994240829374041602535252466099000494570602494)) Rg17_0 Lg17 U986 info86 ?_
 simp only [Z0, Z6]
 refine Z25 (v := fe 2) (args := #[.int .u64 2]) (by rfl) rfl Tryd.func91 (by kernel_rfl) (by kernel_rfl) rfl (fun W hW => of_c (n := 2) (by decide) W) ?_
 simp only [Z0, Z6]
 refine vLd (cs := fel 14474011154664524427946373126085988481658748083205070504932198000989141204987) Rg47_0 Lg47 U986 info86 ?_
 simp only [Z0, Z6]
 refine Z25 (v := fe (fpow 2 14474011154664524427946373126085988481658748083205070504932198000989141204987)) (args := #[fe 2, fe 14474011154664524427946373126085988481658748083205070504932198000989141204987]) (by rfl) rfl Tryd.func135 (by kernel_rfl) (by kernel_rfl) rfl (fun W hW => power_c (by decide) (by decide) W) ?_
 simp only [Z0, Z6]
 refine Z25 (v := fe (fmul (fpow (leastF x) 7237005577332262213973186563042994240829374041602535252466099000494570602494) (fpow 2 14474011154664524427946373126085988481658748083205070504932198000989141204987))) (args := #[fe (fpow (leastF x) 7237005577332262213973186563042994240829374041602535252466099000494570602494), fe (fpow 2 14474011154664524427946373126085988481658748083205070504932198000989141204987)]) (by rfl) rfl G996 (by kernel_rfl) (by kernel_rfl) rfl (fun W hW => fmul_c (fpow_lt ..) (fpow_lt ..) W) ?_
 simp only [Z0, Z6]
 refine Z19 (hLk.out _ ?_)
 simp only [Z7, Z8]
 iterate 5 refine Z28 (by rfl) ?_
 refine Z29 (fun w51 Sw51 hbs => ?_)
 clear hbs
 replace Rg3_0 := Z26 Rg3_0 Lg3 Sw51
 replace Tg3 := Z27 Tg3 Lg3 Sw51
 replace Rg4_0 := Z26 Rg4_0 Lg4 Sw51
 replace Tg4 := Z27 Tg4 Lg4 Sw51
 replace Rg12_0 := Z26 Rg12_0 Lg12 Sw51
 replace Tg12 := Z27 Tg12 Lg12 Sw51
 replace Rg17_0 := Z26 Rg17_0 Lg17 Sw51
 replace Tg17 := Z27 Tg17 Lg17 Sw51
 replace Rg47_0 := Z26 Rg47_0 Lg47 Sw51
 replace Tg47 := Z27 Tg47 Lg47 Sw51
 replace Lg3 := Z1 Lg3 Sw51.2.2.size
 replace Lg4 := Z1 Lg4 Sw51.2.2.size
 replace Lg12 := Z1 Lg12 Sw51.2.2.size
 replace Lg17 := Z1 Lg17 Sw51.2.2.size
 replace Lg47 := Z1 Lg47 Sw51.2.2.size
 replace BE := BE.trans (Sw51.2.2.mono BE.size)
 refine lSt (g := g17) (off := 0) (n := 4) (cs := fel (fmul (fpow (leastF x) 7237005577332262213973186563042994240829374041602535252466099000494570602494) (fpow 2 14474011154664524427946373126085988481658748083205070504932198000989141204987))) Tg17 (by simp [flen]) info86 (fel_one _) (fun w52 Pw52 RR TT => ?_)
 replace Rg3_0 := Pw52.range Rg3_0 (.inl Ng3_g17)
 replace Tg3 := Pw52.other_there Tg3 Ng3_g17
 replace Rg4_0 := Pw52.range Rg4_0 (.inl Ng4_g17)
 replace Tg4 := Pw52.other_there Tg4 Ng4_g17
 replace Rg12_0 := Pw52.range Rg12_0 (.inl Ng12_g17)
 replace Tg12 := Pw52.other_there Tg12 Ng12_g17
 replace Rg47_0 := Pw52.range Rg47_0 (.inl (Ne.symm Ng17_g47))
 replace Tg47 := Pw52.other_there Tg47 (Ne.symm Ng17_g47)
 replace Rg17_0 := RR
 clear RR
 replace Tg17 := TT
 replace Lg3 := Pw52.lt Lg3
 replace Lg4 := Pw52.lt Lg4
 replace Lg12 := Pw52.lt Lg12
 replace Lg17 := Pw52.lt Lg17
 replace Lg47 := Pw52.lt Lg47
 replace BE := Pw52.below BE Gg17
 refine lNp (hK20 _ _ ?_)
 refine Z10 (fun K53 hK53 => ?_)
 refine Z10 (fun K54 hK54 => ?_)
 refine wp_region_grow 5 [] (by kernel_rfl) (by kernel_rfl) (by kernel_rfl) (fun Lk hLk => ?_)
 simp only [Z7, Z8]
 refine vLd (cs := fel (fmul (fpow (leastF x) 7237005577332262213973186563042994240829374041602535252466099000494570602494) (fpow 2 14474011154664524427946373126085988481658748083205070504932198000989141204987))) Rg17_0 Lg17 U986 info86 ?_
 simp only [Z0, Z6]
 refine vLd (cs := fel (fmul (fpow (leastF x) 7237005577332262213973186563042994240829374041602535252466099000494570602494) (fpow 2 14474011154664524427946373126085988481658748083205070504932198000989141204987))) Rg17_0 Lg17 U986 info86 ?_
 simp only [Z0, Z6]
 refine Z25 (v := fe (fmul (fmul (fpow (leastF x) 7237005577332262213973186563042994240829374041602535252466099000494570602494) (fpow 2 14474011154664524427946373126085988481658748083205070504932198000989141204987)) (fmul (fpow (leastF x) 7237005577332262213973186563042994240829374041602535252466099000494570602494) (fpow 2 14474011154664524427946373126085988481658748083205070504932198000989141204987)))) (args := #[fe (fmul (fpow (leastF x) 7237005577332262213973186563042994240829374041602535252466099000494570602494) (fpow 2 14474011154664524427946373126085988481658748083205070504932198000989141204987)), fe (fmul (fpow (leastF x) 7237005577332262213973186563042994240829374041602535252466099000494570602494) (fpow 2 14474011154664524427946373126085988481658748083205070504932198000989141204987))]) (by rfl) rfl G996 (by kernel_rfl) (by kernel_rfl) rfl (fun W hW => fmul_c (fmul_lt ..) (fmul_lt ..) W) ?_
 simp only [Z0, Z6]
 refine vLd (cs := fel (leastF x)) Rg3_0 Lg3 U986 info86 ?_
 simp only [Z0, Z6]
 refine Z24 (v := .bool (decide (fmul (fmul (fpow (leastF x) 7237005577332262213973186563042994240829374041602535252466099000494570602494) (fpow 2 14474011154664524427946373126085988481658748083205070504932198000989141204987)) (fmul (fpow (leastF x) 7237005577332262213973186563042994240829374041602535252466099000494570602494) (fpow 2 14474011154664524427946373126085988481658748083205070504932198000989141204987)) ≠ leastF x))) (by rfl) (by rfl) (fun W hW => ?_) ?_
 ·
  exact run_neq_fe (fmul_lt ..) (leastF_lt ..) U986 U940 info40 (by kernel_rfl) rfl rfl rfl W
 simp only [Z0, Z6]
 refine Z19 (hLk.out _ ?_)
 simp only [Z7, Z8]
 iterate 5 refine Z28 (by rfl) ?_
 refine Z29 (fun w56 Sw56 hbs => ?_)
 clear hbs
 replace Rg3_0 := Z26 Rg3_0 Lg3 Sw56
 replace Tg3 := Z27 Tg3 Lg3 Sw56
 replace Rg4_0 := Z26 Rg4_0 Lg4 Sw56
 replace Tg4 := Z27 Tg4 Lg4 Sw56
 replace Rg12_0 := Z26 Rg12_0 Lg12 Sw56
 replace Tg12 := Z27 Tg12 Lg12 Sw56
 replace Rg17_0 := Z26 Rg17_0 Lg17 Sw56
 replace Tg17 := Z27 Tg17 Lg17 Sw56
 replace Rg47_0 := Z26 Rg47_0 Lg47 Sw56
 replace Tg47 := Z27 Tg47 Lg47 Sw56
 replace Lg3 := Z1 Lg3 Sw56.2.2.size
 replace Lg4 := Z1 Lg4 Sw56.2.2.size
 replace Lg12 := Z1 Lg12 Sw56.2.2.size
 replace Lg17 := Z1 Lg17 Sw56.2.2.size
 replace Lg47 := Z1 Lg47 Sw56.2.2.size
 replace BE := BE.trans (Sw56.2.2.mono BE.size)
 refine lNp (hK54 _ _ ?_)
 cases hc57 : (decide (fmul (fmul (fpow (leastF x) 7237005577332262213973186563042994240829374041602535252466099000494570602494) (fpow 2 14474011154664524427946373126085988481658748083205070504932198000989141204987)) (fmul (fpow (leastF x) 7237005577332262213973186563042994240829374041602535252466099000494570602494) (fpow 2 14474011154664524427946373126085988481658748083205070504932198000989141204987)) ≠ leastF x))
 ·
  have e2 : root2 x = (fmul (fpow (leastF x) 7237005577332262213973186563042994240829374041602535252466099000494570602494) (fpow 2 14474011154664524427946373126085988481658748083205070504932198000989141204987)) := root2_f q1
  have q2 : fmul (root2 x) (root2 x) = leastF x := by rw [e2]; exact Decidable.not_not.1 (of_decide_eq_false hc57)
  refine Z12 rfl ?_
  refine wp_skip ?_
  refine hK53 _ _ ?_
  refine Z10 (fun K58 hK58 => ?_)
  refine Z10 (fun K59 hK59 => ?_)
  refine Z30 4 (by kernel_rfl) (fun Lk hLk => ?_)
  simp only [Z7, Z8]
  refine vGo (v := .pointer (some ⟨g17, 0, none⟩)) ?_
  simp only [Z0, Z6]
  refine vL1 (v := .int .u64 (limb (fmul (fpow (leastF x) 7237005577332262213973186563042994240829374041602535252466099000494570602494) (fpow 2 14474011154664524427946373126085988481658748083205070504932198000989141204987)) 0)) (range_one (range_sub Rg17_0 0 1 0 (xs := [.int .u64 (limb (fmul (fpow (leastF x) 7237005577332262213973186563042994240829374041602535252466099000494570602494) (fpow 2 14474011154664524427946373126085988481658748083205070504932198000989141204987)) 0)]) rfl rfl)) Lg17 U940 ?_
  simp only [Z0, Z6]
  refine vBn (v := .int .u64 (((fmul (fpow (leastF x) 7237005577332262213973186563042994240829374041602535252466099000494570602494) (fpow 2 14474011154664524427946373126085988481658748083205070504932198000989141204987)) % 2 : Nat) : Int)) (hr := fun W => run_and (and_one _) W) ?_
  simp only [Z0, Z6]
  refine vBn (v := .bool ((((fmul (fpow (leastF x) 7237005577332262213973186563042994240829374041602535252466099000494570602494) (fpow 2 14474011154664524427946373126085988481658748083205070504932198000989141204987)) % 2 : Nat) : Int) == 1)) (hr := fun W => run_eql _ _ _ _ W) ?_
  simp only [Z0, Z6]
  refine Z19 (hLk.out _ ?_)
  simp only [Z7, Z8]
  iterate 4 refine Z28 (by rfl) ?_
  refine Z29 (fun w61 Sw61 hbs => ?_)
  clear hbs
  replace Rg3_0 := Z26 Rg3_0 Lg3 Sw61
  replace Tg3 := Z27 Tg3 Lg3 Sw61
  replace Rg4_0 := Z26 Rg4_0 Lg4 Sw61
  replace Tg4 := Z27 Tg4 Lg4 Sw61
  replace Rg12_0 := Z26 Rg12_0 Lg12 Sw61
  replace Tg12 := Z27 Tg12 Lg12 Sw61
  replace Rg17_0 := Z26 Rg17_0 Lg17 Sw61
  replace Tg17 := Z27 Tg17 Lg17 Sw61
  replace Rg47_0 := Z26 Rg47_0 Lg47 Sw61
  replace Tg47 := Z27 Tg47 Lg47 Sw61
  replace Lg3 := Z1 Lg3 Sw61.2.2.size
  replace Lg4 := Z1 Lg4 Sw61.2.2.size
  replace Lg12 := Z1 Lg12 Sw61.2.2.size
  replace Lg17 := Z1 Lg17 Sw61.2.2.size
  replace Lg47 := Z1 Lg47 Sw61.2.2.size
  replace BE := BE.trans (Sw61.2.2.mono BE.size)
  refine lNp (hK59 _ _ ?_)
  cases hc62 : ((((fmul (fpow (leastF x) 7237005577332262213973186563042994240829374041602535252466099000494570602494) (fpow 2 14474011154664524427946373126085988481658748083205070504932198000989141204987)) % 2 : Nat) : Int) == 1)
  ·
   have q3 : ¬ root2 x % 2 = 1 := by rw [e2]; intro e; rw [e] at hc62; simp at hc62
   refine Z12 rfl ?_
   refine wp_skip ?_
   refine hK58 _ _ ?_
   refine Z10 (fun K63 hK63 => ?_)
   refine Z30 1 (by kernel_rfl) (fun Lk hLk => ?_)
   simp only [Z7, Z8]
   refine vLd (cs := fel (fmul (fpow (leastF x) 7237005577332262213973186563042994240829374041602535252466099000494570602494) (fpow 2 14474011154664524427946373126085988481658748083205070504932198000989141204987))) Rg17_0 Lg17 U986 info86 ?_
   simp only [Z0, Z6]
   refine Z19 (hLk.out _ ?_)
   simp only [Z7, Z8]
   iterate 1 refine Z28 (by rfl) ?_
   refine Z29 (fun w65 Sw65 hbs => ?_)
   clear hbs
   replace Rg3_0 := Z26 Rg3_0 Lg3 Sw65
   replace Tg3 := Z27 Tg3 Lg3 Sw65
   replace Rg4_0 := Z26 Rg4_0 Lg4 Sw65
   replace Tg4 := Z27 Tg4 Lg4 Sw65
   replace Rg12_0 := Z26 Rg12_0 Lg12 Sw65
   replace Tg12 := Z27 Tg12 Lg12 Sw65
   replace Rg17_0 := Z26 Rg17_0 Lg17 Sw65
   replace Tg17 := Z27 Tg17 Lg17 Sw65
   replace Rg47_0 := Z26 Rg47_0 Lg47 Sw65
   replace Tg47 := Z27 Tg47 Lg47 Sw65
   replace Lg3 := Z1 Lg3 Sw65.2.2.size
   replace Lg4 := Z1 Lg4 Sw65.2.2.size
   replace Lg12 := Z1 Lg12 Sw65.2.2.size
   replace Lg17 := Z1 Lg17 Sw65.2.2.size
   replace Lg47 := Z1 Lg47 Sw65.2.2.size
   replace BE := BE.trans (Sw65.2.2.mono BE.size)
   refine lSt (g := g4) (off := 0) (n := 4) (cs := fel (fmul (fpow (leastF x) 7237005577332262213973186563042994240829374041602535252466099000494570602494) (fpow 2 14474011154664524427946373126085988481658748083205070504932198000989141204987))) Tg4 (by simp [flen]) info86 (fel_one _) (fun w66 Pw66 RR TT => ?_)
   replace Rg3_0 := Pw66.range Rg3_0 (.inl Ng3_g4)
   replace Tg3 := Pw66.other_there Tg3 Ng3_g4
   replace Rg12_0 := Pw66.range Rg12_0 (.inl (Ne.symm Ng4_g12))
   replace Tg12 := Pw66.other_there Tg12 (Ne.symm Ng4_g12)
   replace Rg17_0 := Pw66.range Rg17_0 (.inl (Ne.symm Ng4_g17))
   replace Tg17 := Pw66.other_there Tg17 (Ne.symm Ng4_g17)
   replace Rg47_0 := Pw66.range Rg47_0 (.inl (Ne.symm Ng4_g47))
   replace Tg47 := Pw66.other_there Tg47 (Ne.symm Ng4_g47)
   replace Rg4_0 := RR
   clear RR
   replace Tg4 := TT
   replace Lg3 := Pw66.lt Lg3
   replace Lg4 := Pw66.lt Lg4
   replace Lg12 := Pw66.lt Lg12
   replace Lg17 := Pw66.lt Lg17
   replace Lg47 := Pw66.lt Lg47
   replace BE := Pw66.below BE Gg4
   refine lAs (v := .bool true) ?_
   simp only [Z0, Z6]
   refine lNp (hK63 _ _ ?_)
   refine wp_ret ?_
   repeat (first | with_reducible refine then_ret ?_ | with_reducible refine inblock_ret ?_)
   refine bodyPost_ret (v := .tuple #[fe (fmul (fpow (leastF x) 7237005577332262213973186563042994240829374041602535252466099000494570602494) (fpow 2 14474011154664524427946373126085988481658748083205070504932198000989141204987)), .bool true]) (res2 rfl (.cell (by rfl) (run_loadVar_mid _ _ _ _ (fel (fmul (fpow (leastF x) 7237005577332262213973186563042994240829374041602535252466099000494570602494) (fpow 2 14474011154664524427946373126085988481658748083205070504932198000989141204987))) _ Rg4_0 U986 rfl info86)) (.tmp (by rfl))) rfl ?_
   exact ⟨by simp only [sqrt_even q2 q3, e2], BE⟩
  have q3 : root2 x % 2 = 1 := by rw [e2]; have := beq_iff_eq.1 hc62; omega
  refine Z11 rfl ?_
  refine Z30 3 (by kernel_rfl) (fun Lk hLk => ?_)
  simp only [Z7, Z8]
  refine Z24 (v := fe 0) (by rfl) (by rfl) (fun W hW => ?_) ?_
  ·
   rw [show fe 0 = .agg ([.int .u64 0, .int .u64 0, .int .u64 0, .int .u64 0]).toArray from (by kernel_rfl)]; unfold RunsVal; kernel_rfl
  simp only [Z0, Z6]
  refine vLd (cs := fel (fmul (fpow (leastF x) 7237005577332262213973186563042994240829374041602535252466099000494570602494) (fpow 2 14474011154664524427946373126085988481658748083205070504932198000989141204987))) Rg17_0 Lg17 U986 info86 ?_
  simp only [Z0, Z6]
  refine Z25 (v := fe (fsub 0 (fmul (fpow (leastF x) 7237005577332262213973186563042994240829374041602535252466099000494570602494) (fpow 2 14474011154664524427946373126085988481658748083205070504932198000989141204987)))) (args := #[fe 0, fe (fmul (fpow (leastF x) 7237005577332262213973186563042994240829374041602535252466099000494570602494) (fpow 2 14474011154664524427946373126085988481658748083205070504932198000989141204987))]) (by rfl) rfl Tryd.func90 (by kernel_rfl) (by kernel_rfl) rfl (fun W hW => fsub_c (by decide) (fmul_lt ..) W) ?_
  simp only [Z0, Z6]
  refine Z19 (hLk.out _ ?_)
  simp only [Z7, Z8]
  iterate 3 refine Z28 (by rfl) ?_
  refine Z29 (fun w68 Sw68 hbs => ?_)
  clear hbs
  replace Rg3_0 := Z26 Rg3_0 Lg3 Sw68
  replace Tg3 := Z27 Tg3 Lg3 Sw68
  replace Rg4_0 := Z26 Rg4_0 Lg4 Sw68
  replace Tg4 := Z27 Tg4 Lg4 Sw68
  replace Rg12_0 := Z26 Rg12_0 Lg12 Sw68
  replace Tg12 := Z27 Tg12 Lg12 Sw68
  replace Rg17_0 := Z26 Rg17_0 Lg17 Sw68
  replace Tg17 := Z27 Tg17 Lg17 Sw68
  replace Rg47_0 := Z26 Rg47_0 Lg47 Sw68
  replace Tg47 := Z27 Tg47 Lg47 Sw68
  replace Lg3 := Z1 Lg3 Sw68.2.2.size
  replace Lg4 := Z1 Lg4 Sw68.2.2.size
  replace Lg12 := Z1 Lg12 Sw68.2.2.size
  replace Lg17 := Z1 Lg17 Sw68.2.2.size
  replace Lg47 := Z1 Lg47 Sw68.2.2.size
  replace BE := BE.trans (Sw68.2.2.mono BE.size)
  refine lSt (g := g17) (off := 0) (n := 4) (cs := fel (fsub 0 (fmul (fpow (leastF x) 7237005577332262213973186563042994240829374041602535252466099000494570602494) (fpow 2 14474011154664524427946373126085988481658748083205070504932198000989141204987)))) Tg17 (by simp [flen]) info86 (fel_one _) (fun w69 Pw69 RR TT => ?_)
  replace Rg3_0 := Pw69.range Rg3_0 (.inl Ng3_g17)
  replace Tg3 := Pw69.other_there Tg3 Ng3_g17
  replace Rg4_0 := Pw69.range Rg4_0 (.inl Ng4_g17)
  replace Tg4 := Pw69.other_there Tg4 Ng4_g17
  replace Rg12_0 := Pw69.range Rg12_0 (.inl Ng12_g17)
  replace Tg12 := Pw69.other_there Tg12 Ng12_g17
  replace Rg47_0 := Pw69.range Rg47_0 (.inl (Ne.symm Ng17_g47))
  replace Tg47 := Pw69.other_there Tg47 (Ne.symm Ng17_g47)
  replace Rg17_0 := RR
  clear RR
  replace Tg17 := TT
  replace Lg3 := Pw69.lt Lg3
  replace Lg4 := Pw69.lt Lg4
  replace Lg12 := Pw69.lt Lg12
  replace Lg17 := Pw69.lt Lg17
  replace Lg47 := Pw69.lt Lg47
  replace BE := Pw69.below BE Gg17
  refine lNp (hK58 _ _ ?_)
  refine Z10 (fun K70 hK70 => ?_)
  refine Z30 1 (by kernel_rfl) (fun Lk hLk => ?_)
  simp only [Z7, Z8]
  refine vLd (cs := fel (fsub 0 (fmul (fpow (leastF x) 7237005577332262213973186563042994240829374041602535252466099000494570602494) (fpow 2 14474011154664524427946373126085988481658748083205070504932198000989141204987)))) Rg17_0 Lg17 U986 info86 ?_
  simp only [Z0, Z6]
  refine Z19 (hLk.out _ ?_)
  simp only [Z7, Z8]
  iterate 1 refine Z28 (by rfl) ?_
  refine Z29 (fun w72 Sw72 hbs => ?_)
  clear hbs
  replace Rg3_0 := Z26 Rg3_0 Lg3 Sw72
  replace Tg3 := Z27 Tg3 Lg3 Sw72
  replace Rg4_0 := Z26 Rg4_0 Lg4 Sw72
  replace Tg4 := Z27 Tg4 Lg4 Sw72
  replace Rg12_0 := Z26 Rg12_0 Lg12 Sw72
  replace Tg12 := Z27 Tg12 Lg12 Sw72
  replace Rg17_0 := Z26 Rg17_0 Lg17 Sw72
  replace Tg17 := Z27 Tg17 Lg17 Sw72
  replace Rg47_0 := Z26 Rg47_0 Lg47 Sw72
  replace Tg47 := Z27 Tg47 Lg47 Sw72
  replace Lg3 := Z1 Lg3 Sw72.2.2.size
  replace Lg4 := Z1 Lg4 Sw72.2.2.size
  replace Lg12 := Z1 Lg12 Sw72.2.2.size
  replace Lg17 := Z1 Lg17 Sw72.2.2.size
  replace Lg47 := Z1 Lg47 Sw72.2.2.size
  replace BE := BE.trans (Sw72.2.2.mono BE.size)
  refine lSt (g := g4) (off := 0) (n := 4) (cs := fel (fsub 0 (fmul (fpow (leastF x) 7237005577332262213973186563042994240829374041602535252466099000494570602494) (fpow 2 14474011154664524427946373126085988481658748083205070504932198000989141204987)))) Tg4 (by simp [flen]) info86 (fel_one _) (fun w73 Pw73 RR TT => ?_)
  replace Rg3_0 := Pw73.range Rg3_0 (.inl Ng3_g4)
  replace Tg3 := Pw73.other_there Tg3 Ng3_g4
  replace Rg12_0 := Pw73.range Rg12_0 (.inl (Ne.symm Ng4_g12))
  replace Tg12 := Pw73.other_there Tg12 (Ne.symm Ng4_g12)
  replace Rg17_0 := Pw73.range Rg17_0 (.inl (Ne.symm Ng4_g17))
  replace Tg17 := Pw73.other_there Tg17 (Ne.symm Ng4_g17)
  replace Rg47_0 := Pw73.range Rg47_0 (.inl (Ne.symm Ng4_g47))
  replace Tg47 := Pw73.other_there Tg47 (Ne.symm Ng4_g47)
  replace Rg4_0 := RR
  clear RR
  replace Tg4 := TT
  replace Lg3 := Pw73.lt Lg3
  replace Lg4 := Pw73.lt Lg4
  replace Lg12 := Pw73.lt Lg12
  replace Lg17 := Pw73.lt Lg17
  replace Lg47 := Pw73.lt Lg47
  replace BE := Pw73.below BE Gg4
  refine lAs (v := .bool true) ?_
  simp only [Z0, Z6]
  refine lNp (hK70 _ _ ?_)
  refine wp_ret ?_
  repeat (first | with_reducible refine then_ret ?_ | with_reducible refine inblock_ret ?_)
  refine bodyPost_ret (v := .tuple #[fe (fsub 0 (fmul (fpow (leastF x) 7237005577332262213973186563042994240829374041602535252466099000494570602494) (fpow 2 14474011154664524427946373126085988481658748083205070504932198000989141204987))), .bool true]) (res2 rfl (.cell (by rfl) (run_loadVar_mid _ _ _ _ (fel (fsub 0 (fmul (fpow (leastF x) 7237005577332262213973186563042994240829374041602535252466099000494570602494) (fpow 2 14474011154664524427946373126085988481658748083205070504932198000989141204987)))) _ Rg4_0 U986 rfl info86)) (.tmp (by rfl))) rfl ?_
  exact ⟨by simp only [sqrt_odd q2 q3, e2], BE⟩
 have e2 : root2 x = (fmul (fpow (leastF x) 7237005577332262213973186563042994240829374041602535252466099000494570602494) (fpow 2 14474011154664524427946373126085988481658748083205070504932198000989141204987)) := root2_f q1
 have q2 : ¬ fmul (root2 x) (root2 x) = leastF x := by rw [e2]; exact of_decide_eq_true hc57
 refine Z11 rfl ?_
 refine Z10 (fun K74 hK74 => ?_)
 refine Z30 1 (by kernel_rfl) (fun Lk hLk => ?_)
 simp only [Z7, Z8]
 refine Z24 (v := fe 0) (by rfl) (by rfl) (fun W hW => ?_) ?_
 ·
  rw [show fe 0 = .agg ([.int .u64 0, .int .u64 0, .int .u64 0, .int .u64 0]).toArray from (by kernel_rfl)]; unfold RunsVal; kernel_rfl
 simp only [Z0, Z6]
 refine Z19 (hLk.out _ ?_)
 simp only [Z7, Z8]
 iterate 1 refine Z28 (by rfl) ?_
 refine Z29 (fun w76 Sw76 hbs => ?_)
 clear hbs
 replace Rg3_0 := Z26 Rg3_0 Lg3 Sw76
 replace Tg3 := Z27 Tg3 Lg3 Sw76
 replace Rg4_0 := Z26 Rg4_0 Lg4 Sw76
 replace Tg4 := Z27 Tg4 Lg4 Sw76
 replace Rg12_0 := Z26 Rg12_0 Lg12 Sw76
 replace Tg12 := Z27 Tg12 Lg12 Sw76
 replace Rg17_0 := Z26 Rg17_0 Lg17 Sw76
 replace Tg17 := Z27 Tg17 Lg17 Sw76
 replace Rg47_0 := Z26 Rg47_0 Lg47 Sw76
 replace Tg47 := Z27 Tg47 Lg47 Sw76
 replace Lg3 := Z1 Lg3 Sw76.2.2.size
 replace Lg4 := Z1 Lg4 Sw76.2.2.size
 replace Lg12 := Z1 Lg12 Sw76.2.2.size
 replace Lg17 := Z1 Lg17 Sw76.2.2.size
 replace Lg47 := Z1 Lg47 Sw76.2.2.size
 replace BE := BE.trans (Sw76.2.2.mono BE.size)
 refine lSt (g := g4) (off := 0) (n := 4) (cs := fel 0) Tg4 (by simp [flen]) info86 (fel_one _) (fun w77 Pw77 RR TT => ?_)
 replace Rg3_0 := Pw77.range Rg3_0 (.inl Ng3_g4)
 replace Tg3 := Pw77.other_there Tg3 Ng3_g4
 replace Rg12_0 := Pw77.range Rg12_0 (.inl (Ne.symm Ng4_g12))
 replace Tg12 := Pw77.other_there Tg12 (Ne.symm Ng4_g12)
 replace Rg17_0 := Pw77.range Rg17_0 (.inl (Ne.symm Ng4_g17))
 replace Tg17 := Pw77.other_there Tg17 (Ne.symm Ng4_g17)
 replace Rg47_0 := Pw77.range Rg47_0 (.inl (Ne.symm Ng4_g47))
 replace Tg47 := Pw77.other_there Tg47 (Ne.symm Ng4_g47)
 replace Rg4_0 := RR
 clear RR
 replace Tg4 := TT
 replace Lg3 := Pw77.lt Lg3
 replace Lg4 := Pw77.lt Lg4
 replace Lg12 := Pw77.lt Lg12
 replace Lg17 := Pw77.lt Lg17
 replace Lg47 := Pw77.lt Lg47
 replace BE := Pw77.below BE Gg4
 refine lAs (v := .bool false) ?_
 simp only [Z0, Z6]
 refine lNp (hK74 _ _ ?_)
 refine wp_ret ?_
 repeat (first | with_reducible refine then_ret ?_ | with_reducible refine inblock_ret ?_)
 refine bodyPost_ret (v := .tuple #[fe 0, .bool false]) (res2 rfl (.cell (by rfl) (run_loadVar_mid _ _ _ _ (fel 0) _ Rg4_0 U986 rfl info86)) (.tmp (by rfl))) rfl ?_
 exact ⟨by simp only [sqrt_no q2], BE⟩
end Go.Proofs.Ya

