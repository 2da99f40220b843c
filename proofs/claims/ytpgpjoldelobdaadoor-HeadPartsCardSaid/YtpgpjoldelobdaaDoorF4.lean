import Derived.Test.YtpgpjoldelobdaaDoorF3
import Derived.Test.YtpgpjoldelobdaaDoorSteps4
import Derived.Test.YtpgpjoldelobdaaDoorEq
import Derived.Test.YtpgpjoldelobdaaDoorShq
set_option linter.unusedSimpArgs false
set_option linter.unusedVariables false
namespace Go.Proofs.Ya
open Go Go.RowKit Go.Shelf Go.Proofs.Num
open Tryd renaming underlying86 → U986
open Go.Proofs.Num  renaming putT → Z0
open Nat renaming lt_of_lt_of_le → Z1, le_trans → Z3, ne_of_lt → Z4
open List renaming set → Z6, take → Z7, drop → Z8
open Go renaming undef → Z9, wp_seq_k → Z10, wp_cond_true → Z11, wp_cond_false → Z12
open Go.Proofs.Num renaming wpL_nil → Z14, no_panic → Z15, wpV_nil → Z19, wpV_val → Z24, wpV_callf → Z25, range_sees → Z26, there_sees → Z27, wpN_skip → Z28, wpN_nil → Z29, wp_region_plain → Z30, wpV_extract → Z32
set_option maxHeartbeats 1000000 in
theorem of_c {n : Nat} (hn : n < 18446744073709551616) (w : World) :
  Calls Tryd.prog 91 #[.int .u64 n] w fun e w' => e = .returned (fe n) ∧ Below w.heap.size w w' := by
 go_enter Tryd.func91, Tryd.ntmps91
 have BE := Below.refl w.heap.size w
 refine Z10 (fun K1 hK1 => ?_)
 refine Z30 1 (by kernel_rfl) (fun Lk hLk => ?_)
 simp only [Z7, Z8]
 refine vAl ?_
 refine Z19 (hLk.out _ ?_)
 simp only [Z7, Z8]
 refine wpN_new (t := 86) (cs := ([.int .u64 0, .int .u64 0, .int .u64 0, .int .u64 0]).toArray) (by rfl) (fun W => ?_) (fun g3 Hg3 ng3 => ?_)
 ·
  go_simp
 simp only [Z0, Z6]
 refine Z29 (fun w4 Sw4 hbs => ?_)
 have Bg3 : Blk w4 g3 86 ([.int .u64 0, .int .u64 0, .int .u64 0, .int .u64 0]).toArray := hbs _ (List.mem_cons_self ..)
 clear hbs
 have Gg3 : w.heap.size ≤ g3 := Z3 BE.size Hg3
 replace BE := BE.trans (Sw4.2.2.mono BE.size)
 have Tg3 := blk_there Bg3 (n := 4) (by simp [flen])
 have Rg3_0 := blk_range Bg3 (l := [.int .u64 0, .int .u64 0, .int .u64 0, .int .u64 0]) rfl
 have Lg3 := Bg3.lt
 clear ng3 Bg3
 refine lNp (hK1 _ _ ?_)
 refine Z10 (fun K5 hK5 => ?_)
 refine Z30 2 (by kernel_rfl) (fun Lk hLk => ?_)
 simp only [Z7, Z8]
 refine vMv (v := .int .u64 n) ?_
 simp only [Z0, Z6]
 refine Z24 (v := fe n) (by rfl) (by rfl) (fun W hW => ?_) ?_
 ·
  rw [show fe n = .agg ([.int .u64 n, .int .u64 0, .int .u64 0, .int .u64 0]).toArray from (congrArg (fun l => Value.agg (List.toArray l)) (fel_of hn))]; unfold RunsVal; kernel_rfl
 simp only [Z0, Z6]
 refine Z19 (hLk.out _ ?_)
 simp only [Z7, Z8]
 iterate 2 refine Z28 (by rfl) ?_
 refine Z29 (fun w7 Sw7 hbs => ?_)
 clear hbs
 replace Rg3_0 := Z26 Rg3_0 Lg3 Sw7
 replace Tg3 := Z27 Tg3 Lg3 Sw7
 replace Lg3 := Z1 Lg3 Sw7.2.2.size
 replace BE := BE.trans (Sw7.2.2.mono BE.size)
 refine lSt (g := g3) (off := 0) (n := 4) (cs := fel n) Tg3 (by simp [flen]) info86 (fel_one _) (fun w8 Pw8 RR TT => ?_)
 replace Rg3_0 := RR
 clear RR
 replace Tg3 := TT
 replace Lg3 := Pw8.lt Lg3
 replace BE := Pw8.below BE Gg3
 refine lNp (hK5 _ _ ?_)
 refine wp_ret ?_
 repeat (first | with_reducible refine then_ret ?_ | with_reducible refine inblock_ret ?_)
 refine bodyPost_ret (v := fe n) (res1 rfl (.cell (by rfl) (run_loadVar_mid _ _ _ _ (fel n) _ Rg3_0 U986 rfl info86))) rfl ?_
 exact ⟨rfl, BE⟩
set_option maxHeartbeats 1000000 in
theorem folds_c {x a0 : Nat} (hx : x < 2 ^ 256) (ha : a0 < 2 ^ 64) (w : World) :
  Calls Tryd.prog 134 #[fe x, .int .u64 (a0 : Nat)] w fun e w' => e = .returned (fe (foldF x a0)) ∧ Below w.heap.size w w' := by
 go_enter Tryd.func134, Tryd.ntmps134
 have BE := Below.refl w.heap.size w
 refine Z10 (fun K1 hK1 => ?_)
 refine Z30 2 (by kernel_rfl) (fun Lk hLk => ?_)
 simp only [Z7, Z8]
 refine vAl ?_
 refine vAl ?_
 refine Z19 (hLk.out _ ?_)
 simp only [Z7, Z8]
 refine wpN_new (t := 86) (cs := (fel x).toArray) (by rfl) (fun W => ?_) (fun g3 Hg3 ng3 => ?_)
 ·
  (first | rfl | go_simp)
 refine wpN_new (t := 86) (cs := ([.int .u64 0, .int .u64 0, .int .u64 0, .int .u64 0]).toArray) (by rfl) (fun W => ?_) (fun g4 Hg4 ng4 => ?_)
 ·
  go_simp
 simp only [Z0, Z6]
 refine Z29 (fun w5 Sw5 hbs => ?_)
 have Bg3 : Blk w5 g3 86 (fel x).toArray := hbs _ (List.mem_cons_of_mem _ (List.mem_cons_self ..))
 have Bg4 : Blk w5 g4 86 ([.int .u64 0, .int .u64 0, .int .u64 0, .int .u64 0]).toArray := hbs _ (List.mem_cons_self ..)
 clear hbs
 have Gg3 : w.heap.size ≤ g3 := Z3 BE.size Hg3
 have Ng3_g4 : g3 ≠ g4 := ng4 (g3, _, _) (List.mem_cons_self ..)
 have Gg4 : w.heap.size ≤ g4 := Z3 BE.size Hg4
 replace BE := BE.trans (Sw5.2.2.mono BE.size)
 have Tg3 := blk_there Bg3 (n := 4) (by simp [flen])
 have Rg3_0 := blk_range Bg3 (l := fel x) rfl
 have Lg3 := Bg3.lt
 have Tg4 := blk_there Bg4 (n := 4) (by simp [flen])
 have Rg4_0 := blk_range Bg4 (l := [.int .u64 0, .int .u64 0, .int .u64 0, .int .u64 0]) rfl
 have Lg4 := Bg4.lt
 clear ng3 ng4 Bg3 Bg4
 refine lNp (hK1 _ _ ?_)
 refine Z10 (fun K6 hK6 => ?_)
 refine wp_block ?_
 refine wp_loop_ghost (fun n9 a9 W9 => ∃ (X : Nat) (a : Nat) (u7 : Nat → Value), n9 = foldM X a ∧ a9 = { tmps := #[fe x, .int .u64 a, .pointer (some ⟨g3, 0, none⟩), Z9, .pointer (some ⟨g4, 0, none⟩), u7 5, u7 6, u7 7, u7 8, u7 9, u7 10, u7 11, u7 12, u7 13, u7 14, u7 15, u7 16, u7 17, u7 18, u7 19, u7 20, u7 21, u7 22, u7 23, u7 24, u7 25, Z9, Z9], defers := [] } ∧ Below w.heap.size w W9 ∧ World.rangeAt W9 g3 0 (fel X) ∧ World.there W9 g3 0 4 ∧ g3 < W9.heap.size ∧ World.rangeAt W9 g4 0 ([.int .u64 0, .int .u64 0, .int .u64 0, .int .u64 0]) ∧ World.there W9 g4 0 4 ∧ g4 < W9.heap.size ∧ (X < 2 ^ 256) ∧ (a < 2 ^ 64) ∧ (foldF X a = foldF x a0)) (foldM (x) (a0)) ?_ (fun n9 a9 W9 hI => ?_)
 ·
  exact ⟨x, a0, (fun q9 => (#[Z9, Z9, Z9, Z9, Z9, Z9, Z9, Z9, Z9, Z9, Z9, Z9, Z9, Z9, Z9, Z9, Z9, Z9, Z9, Z9, Z9, Z9, Z9, Z9, Z9, Z9] : Array Value).getD q9 Z9), rfl, rfl, BE, Rg3_0, Tg3, Lg3, Rg4_0, Tg4, Lg4, hx, ha, rfl⟩
 clear BE Rg3_0 Rg4_0 Tg3 Tg4 Lg3 Lg4
 obtain ⟨X, a, u7, rfl, rfl, BE, Rg3_0, Tg3, Lg3, Rg4_0, Tg4, Lg4, hX, ha, hF⟩ := hI
 obtain ⟨w8, rfl⟩ : ∃ W8, W8 = W9 := ⟨_, rfl⟩
 have ha9 : a < 18446744073709551616 := ha
 refine Z10 (fun K9 hK9 => ?_)
 refine Z10 (fun K10 hK10 => ?_)
 refine Z30 2 (by kernel_rfl) (fun Lk hLk => ?_)
 simp only [Z7, Z8]
 refine vMv (v := .int .u64 a) ?_
 simp only [Z0, Z6]
 refine vBn (v := .bool (((a : Nat) : Int) != 0)) (hr := fun W => run_neq _ _ _ _ W) ?_
 simp only [Z0, Z6]
 refine Z19 (hLk.out _ ?_)
 simp only [Z7, Z8]
 iterate 2 refine Z28 (by rfl) ?_
 refine Z29 (fun w12 Sw12 hbs => ?_)
 clear hbs
 replace Rg3_0 := Z26 Rg3_0 Lg3 Sw12
 replace Tg3 := Z27 Tg3 Lg3 Sw12
 replace Rg4_0 := Z26 Rg4_0 Lg4 Sw12
 replace Tg4 := Z27 Tg4 Lg4 Sw12
 replace Lg3 := Z1 Lg3 Sw12.2.2.size
 replace Lg4 := Z1 Lg4 Sw12.2.2.size
 replace BE := BE.trans (Sw12.2.2.mono BE.size)
 refine lNp (hK10 _ _ ?_)
 cases hc13 : (((a : Nat) : Int) != 0)
 ·
  have ha0 : a = 0 := by simpa using hc13
  subst ha0
  refine Z12 rfl ?_
  refine wp_exit ?_
  refine hK6 _ _ ?_
  refine Z10 (fun K14 hK14 => ?_)
  refine Z30 2 (by kernel_rfl) (fun Lk hLk => ?_)
  simp only [Z7, Z8]
  refine vLd (cs := fel X) Rg3_0 Lg3 U986 info86 ?_
  simp only [Z0, Z6]
  refine Z25 (v := fe (leastF X)) (args := #[fe X]) (by rfl) rfl Tryd.func127 (by kernel_rfl) (by kernel_rfl) rfl (fun W hW => least_c hX W) ?_
  simp only [Z0, Z6]
  refine Z19 (hLk.out _ ?_)
  simp only [Z7, Z8]
  iterate 2 refine Z28 (by rfl) ?_
  refine Z29 (fun w16 Sw16 hbs => ?_)
  clear hbs
  replace Rg3_0 := Z26 Rg3_0 Lg3 Sw16
  replace Tg3 := Z27 Tg3 Lg3 Sw16
  replace Rg4_0 := Z26 Rg4_0 Lg4 Sw16
  replace Tg4 := Z27 Tg4 Lg4 Sw16
  replace Lg3 := Z1 Lg3 Sw16.2.2.size
  replace Lg4 := Z1 Lg4 Sw16.2.2.size
  replace BE := BE.trans (Sw16.2.2.mono BE.size)
  refine lSt (g := g4) (off := 0) (n := 4) (cs := fel (leastF X)) Tg4 (by simp [flen]) info86 (fel_one _) (fun w17 Pw17 RR TT => ?_)
  replace Rg3_0 := Pw17.range Rg3_0 (.inl Ng3_g4)
  replace Tg3 := Pw17.other_there Tg3 Ng3_g4
  replace Rg4_0 := RR
  clear RR
  replace Tg4 := TT
  replace Lg3 := Pw17.lt Lg3
  replace Lg4 := Pw17.lt Lg4
  replace BE := Pw17.below BE Gg4
  refine lNp (hK14 _ _ ?_)
  refine wp_ret ?_
  repeat (first | with_reducible refine then_ret ?_ | with_reducible refine inblock_ret ?_)
  refine bodyPost_ret (v := fe (leastF X)) (res1 rfl (.cell (by rfl) (run_loadVar_mid _ _ _ _ (fel (leastF X)) _ Rg4_0 U986 rfl info86))) rfl ?_
  exact ⟨by rw [← hF, foldF_zero], BE⟩
 have ha0 : a ≠ 0 := by intro e; subst e; simp at hc13
 refine Z11 rfl ?_
 refine wp_skip ?_
 refine hK9 _ _ ?_
 refine wp_block ?_
 refine Z10 (fun K18 hK18 => ?_)
 refine Z30 5 (by kernel_rfl) (fun Lk hLk => ?_)
 simp only [Z7, Z8]
 refine vMv (v := .int .u64 a) ?_
 simp only [Z0, Z6]
 refine Z25 (v := .tuple #[.int .u64 (a * 38 / 18446744073709551616 : Nat), .int .u64 (a * 38 % 18446744073709551616 : Nat)]) (args := #[.int .u64 a, .int .u64 38]) (by rfl) rfl Tryd.func87 (by kernel_rfl) (by kernel_rfl) rfl (fun W hW => mul64_c ha (by decide) W) ?_
 simp only [Z0, Z6]
 refine vMv (v := .tuple #[.int .u64 (a * 38 / 18446744073709551616 : Nat), .int .u64 (a * 38 % 18446744073709551616 : Nat)]) ?_
 simp only [Z0, Z6]
 refine Z32 (v := .int .u64 (a * 38 / 18446744073709551616 : Nat)) (by rfl) rfl rfl rfl ?_
 simp only [Z0, Z6]
 refine Z32 (v := .int .u64 (a * 38 % 18446744073709551616 : Nat)) (by rfl) rfl rfl rfl ?_
 simp only [Z0, Z6]
 refine Z19 (hLk.out _ ?_)
 simp only [Z7, Z8]
 iterate 5 refine Z28 (by rfl) ?_
 refine Z29 (fun w20 Sw20 hbs => ?_)
 clear hbs
 replace Rg3_0 := Z26 Rg3_0 Lg3 Sw20
 replace Tg3 := Z27 Tg3 Lg3 Sw20
 replace Rg4_0 := Z26 Rg4_0 Lg4 Sw20
 replace Tg4 := Z27 Tg4 Lg4 Sw20
 replace Lg3 := Z1 Lg3 Sw20.2.2.size
 replace Lg4 := Z1 Lg4 Sw20.2.2.size
 replace BE := BE.trans (Sw20.2.2.mono BE.size)
 refine lAs (v := .int .u64 (a * 38 / 18446744073709551616 : Nat)) ?_
 refine lAs (v := .int .u64 (a * 38 % 18446744073709551616 : Nat)) ?_
 simp only [Z0, Z6]
 refine lNp (hK18 _ _ ?_)
 refine Z10 (fun K21 hK21 => ?_)
 refine Z30 9 (by kernel_rfl) (fun Lk hLk => ?_)
 simp only [Z7, Z8]
 refine vLd (cs := fel X) Rg3_0 Lg3 U986 info86 ?_
 simp only [Z0, Z6]
 refine vMv (v := .int .u64 (a * 38 % 18446744073709551616 : Nat)) ?_
 simp only [Z0, Z6]
 refine vMv (v := .int .u64 (a * 38 / 18446744073709551616 : Nat)) ?_
 simp only [Z0, Z6]
 refine Z24 (v := fe (a * 38)) (by rfl) (by rfl) (fun W hW => ?_) ?_
 ·
  rw [show fe (a * 38) = .agg ([.int .u64 (a * 38 % 18446744073709551616 : Nat), .int .u64 (a * 38 / 18446744073709551616 : Nat), .int .u64 0, .int .u64 0]).toArray from (congrArg (fun l => Value.agg (List.toArray l)) (fel_38 ha))]; unfold RunsVal; kernel_rfl
 simp only [Z0, Z6]
 refine Z25 (v := .tuple #[fe (addW X (a * 38)), .int .u64 (addC X (a * 38) : Nat)]) (args := #[fe X, fe (a * 38)]) (by rfl) rfl Tryd.func150 (by kernel_rfl) (by kernel_rfl) rfl (fun W hW => plus_c hX (mul38_lt ha) W) ?_
 simp only [Z0, Z6]
 refine vMv (v := .tuple #[fe (addW X (a * 38)), .int .u64 (addC X (a * 38) : Nat)]) ?_
 simp only [Z0, Z6]
 refine Z32 (v := fe (addW X (a * 38))) (by rfl) rfl rfl rfl ?_
 simp only [Z0, Z6]
 refine Z32 (v := .int .u64 (addC X (a * 38) : Nat)) (by rfl) rfl rfl rfl ?_
 simp only [Z0, Z6]
 refine vAl ?_
 refine Z19 (hLk.out _ ?_)
 simp only [Z7, Z8]
 iterate 8 refine Z28 (by rfl) ?_
 refine wpN_new (t := 86) (cs := ([.int .u64 0, .int .u64 0, .int .u64 0, .int .u64 0]).toArray) (by rfl) (fun W => ?_) (fun g23 Hg23 ng23 => ?_)
 ·
  go_simp
 simp only [Z0, Z6]
 refine Z29 (fun w24 Sw24 hbs => ?_)
 have Bg23 : Blk w24 g23 86 ([.int .u64 0, .int .u64 0, .int .u64 0, .int .u64 0]).toArray := hbs _ (List.mem_cons_self ..)
 clear hbs
 have Ng3_g23 : g3 ≠ g23 := Z4 (Z1 Lg3 Hg23)
 have Ng4_g23 : g4 ≠ g23 := Z4 (Z1 Lg4 Hg23)
 have Gg23 : w.heap.size ≤ g23 := Z3 BE.size Hg23
 replace Rg3_0 := Z26 Rg3_0 Lg3 Sw24
 replace Tg3 := Z27 Tg3 Lg3 Sw24
 replace Rg4_0 := Z26 Rg4_0 Lg4 Sw24
 replace Tg4 := Z27 Tg4 Lg4 Sw24
 replace Lg3 := Z1 Lg3 Sw24.2.2.size
 replace Lg4 := Z1 Lg4 Sw24.2.2.size
 replace BE := BE.trans (Sw24.2.2.mono BE.size)
 have Tg23 := blk_there Bg23 (n := 4) (by simp [flen])
 have Rg23_0 := blk_range Bg23 (l := [.int .u64 0, .int .u64 0, .int .u64 0, .int .u64 0]) rfl
 have Lg23 := Bg23.lt
 clear ng23 Bg23
 refine lSt (g := g23) (off := 0) (n := 4) (cs := fel (addW X (a * 38))) Tg23 (by simp [flen]) info86 (fel_one _) (fun w25 Pw25 RR TT => ?_)
 replace Rg3_0 := Pw25.range Rg3_0 (.inl Ng3_g23)
 replace Tg3 := Pw25.other_there Tg3 Ng3_g23
 replace Rg4_0 := Pw25.range Rg4_0 (.inl Ng4_g23)
 replace Tg4 := Pw25.other_there Tg4 Ng4_g23
 replace Rg23_0 := RR
 clear RR
 replace Tg23 := TT
 replace Lg3 := Pw25.lt Lg3
 replace Lg4 := Pw25.lt Lg4
 replace Lg23 := Pw25.lt Lg23
 replace BE := Pw25.below BE Gg23
 refine lAs (v := .int .u64 (addC X (a * 38) : Nat)) ?_
 simp only [Z0, Z6]
 refine lNp (hK21 _ _ ?_)
 refine Z30 2 (by kernel_rfl) (fun Lk hLk => ?_)
 simp only [Z7, Z8]
 refine vLd (cs := fel (addW X (a * 38))) Rg23_0 Lg23 U986 info86 ?_
 simp only [Z0, Z6]
 refine vMv (v := .int .u64 (addC X (a * 38) : Nat)) ?_
 simp only [Z0, Z6]
 refine Z19 (hLk.out _ ?_)
 simp only [Z7, Z8]
 iterate 2 refine Z28 (by rfl) ?_
 refine Z29 (fun w27 Sw27 hbs => ?_)
 clear hbs
 replace Rg3_0 := Z26 Rg3_0 Lg3 Sw27
 replace Tg3 := Z27 Tg3 Lg3 Sw27
 replace Rg4_0 := Z26 Rg4_0 Lg4 Sw27
 replace Tg4 := Z27 Tg4 Lg4 Sw27
 replace Rg23_0 := Z26 Rg23_0 Lg23 Sw27
 replace Tg23 := Z27 Tg23 Lg23 Sw27
 replace Lg3 := Z1 Lg3 Sw27.2.2.size
 replace Lg4 := Z1 Lg4 Sw27.2.2.size
 replace Lg23 := Z1 Lg23 Sw27.2.2.size
 replace BE := BE.trans (Sw27.2.2.mono BE.size)
 refine lSt (g := g3) (off := 0) (n := 4) (cs := fel (addW X (a * 38))) Tg3 (by simp [flen]) info86 (fel_one _) (fun w28 Pw28 RR TT => ?_)
 replace Rg4_0 := Pw28.range Rg4_0 (.inl (Ne.symm Ng3_g4))
 replace Tg4 := Pw28.other_there Tg4 (Ne.symm Ng3_g4)
 replace Rg23_0 := Pw28.range Rg23_0 (.inl (Ne.symm Ng3_g23))
 replace Tg23 := Pw28.other_there Tg23 (Ne.symm Ng3_g23)
 replace Rg3_0 := RR
 clear RR
 replace Tg3 := TT
 replace Lg3 := Pw28.lt Lg3
 replace Lg4 := Pw28.lt Lg4
 replace Lg23 := Pw28.lt Lg23
 replace BE := Pw28.below BE Gg3
 refine lAs (v := .int .u64 (addC X (a * 38) : Nat)) ?_
 simp only [Z0, Z6]
 refine Z14 (Z15 ?_)
 refine Exists.intro _ ⟨?_, (addW X (a * 38)), (addC X (a * 38)), (fun q9 => (#[Z9, Z9, Z9, Z9, Z9, .int .u64 (a * 38 / 18446744073709551616 : Nat), .int .u64 (a * 38 % 18446744073709551616 : Nat), .pointer (some ⟨g23, 0, none⟩), .int .u64 (addC X (a * 38) : Nat), .int .u64 a, .bool true, .tuple #[.int .u64 (a * 38 / 18446744073709551616 : Nat), .int .u64 (a * 38 % 18446744073709551616 : Nat)], .int .u64 a, .tuple #[.int .u64 (a * 38 / 18446744073709551616 : Nat), .int .u64 (a * 38 % 18446744073709551616 : Nat)], .int .u64 (a * 38 / 18446744073709551616 : Nat), .int .u64 (a * 38 % 18446744073709551616 : Nat), .tuple #[fe (addW X (a * 38)), .int .u64 (addC X (a * 38) : Nat)], fe X, .int .u64 (a * 38 % 18446744073709551616 : Nat), .int .u64 (a * 38 / 18446744073709551616 : Nat), fe (a * 38), .tuple #[fe (addW X (a * 38)), .int .u64 (addC X (a * 38) : Nat)], fe (addW X (a * 38)), .int .u64 (addC X (a * 38) : Nat), fe (addW X (a * 38)), .int .u64 (addC X (a * 38) : Nat)] : Array Value).getD q9 Z9), rfl, rfl, BE, Rg3_0, Tg3, Lg3, Rg4_0, Tg4, Lg4, (addW_lt ..), (addC_lt hX ha), ((foldF_step hX ha).trans hF)⟩
 exact foldM_step hX ha ha0
set_option maxHeartbeats 1000000 in
theorem fadd_c {x : Nat} (hx : x < 2 ^ 256) {y : Nat} (hy : y < 2 ^ 256) (w : World) :
  Calls Tryd.prog 128 #[fe x, fe y] w fun e w' => e = .returned (fe (fadd x y)) ∧ Below w.heap.size w w' := by
 go_enter Tryd.func128, Tryd.ntmps128
 have BE := Below.refl w.heap.size w
 refine Z10 (fun K1 hK1 => ?_)
 refine Z30 3 (by kernel_rfl) (fun Lk hLk => ?_)
 simp only [Z7, Z8]
 refine vAl ?_
 refine vAl ?_
 refine vAl ?_
 refine Z19 (hLk.out _ ?_)
 simp only [Z7, Z8]
 refine wpN_new (t := 86) (cs := (fel x).toArray) (by rfl) (fun W => ?_) (fun g3 Hg3 ng3 => ?_)
 ·
  (first | rfl | go_simp)
 refine wpN_new (t := 86) (cs := (fel y).toArray) (by rfl) (fun W => ?_) (fun g4 Hg4 ng4 => ?_)
 ·
  (first | rfl | go_simp)
 refine wpN_new (t := 86) (cs := ([.int .u64 0, .int .u64 0, .int .u64 0, .int .u64 0]).toArray) (by rfl) (fun W => ?_) (fun g5 Hg5 ng5 => ?_)
 ·
  go_simp
 simp only [Z0, Z6]
 refine Z29 (fun w6 Sw6 hbs => ?_)
 have Bg3 : Blk w6 g3 86 (fel x).toArray := hbs _ (List.mem_cons_of_mem _ (List.mem_cons_of_mem _ (List.mem_cons_self ..)))
 have Bg4 : Blk w6 g4 86 (fel y).toArray := hbs _ (List.mem_cons_of_mem _ (List.mem_cons_self ..))
 have Bg5 : Blk w6 g5 86 ([.int .u64 0, .int .u64 0, .int .u64 0, .int .u64 0]).toArray := hbs _ (List.mem_cons_self ..)
 clear hbs
 have Gg3 : w.heap.size ≤ g3 := Z3 BE.size Hg3
 have Ng3_g4 : g3 ≠ g4 := ng4 (g3, _, _) (List.mem_cons_self ..)
 have Gg4 : w.heap.size ≤ g4 := Z3 BE.size Hg4
 have Ng3_g5 : g3 ≠ g5 := ng5 (g3, _, _) (List.mem_cons_of_mem _ (List.mem_cons_self ..))
 have Ng4_g5 : g4 ≠ g5 := ng5 (g4, _, _) (List.mem_cons_self ..)
 have Gg5 : w.heap.size ≤ g5 := Z3 BE.size Hg5
 replace BE := BE.trans (Sw6.2.2.mono BE.size)
 have Tg3 := blk_there Bg3 (n := 4) (by simp [flen])
 have Rg3_0 := blk_range Bg3 (l := fel x) rfl
 have Lg3 := Bg3.lt
 have Tg4 := blk_there Bg4 (n := 4) (by simp [flen])
 have Rg4_0 := blk_range Bg4 (l := fel y) rfl
 have Lg4 := Bg4.lt
 have Tg5 := blk_there Bg5 (n := 4) (by simp [flen])
 have Rg5_0 := blk_range Bg5 (l := [.int .u64 0, .int .u64 0, .int .u64 0, .int .u64 0]) rfl
 have Lg5 := Bg5.lt
 clear ng3 ng4 ng5 Bg3 Bg4 Bg5
 refine lNp (hK1 _ _ ?_)
 refine Z10 (fun K7 hK7 => ?_)
 refine Z30 7 (by kernel_rfl) (fun Lk hLk => ?_)
 simp only [Z7, Z8]
 refine vLd (cs := fel x) Rg3_0 Lg3 U986 info86 ?_
 simp only [Z0, Z6]
 refine vLd (cs := fel y) Rg4_0 Lg4 U986 info86 ?_
 simp only [Z0, Z6]
 refine Z25 (v := .tuple #[fe (addW x y), .int .u64 (addC x y : Nat)]) (args := #[fe x, fe y]) (by rfl) rfl Tryd.func150 (by kernel_rfl) (by kernel_rfl) rfl (fun W hW => plus_c hx hy W) ?_
 simp only [Z0, Z6]
 refine vMv (v := .tuple #[fe (addW x y), .int .u64 (addC x y : Nat)]) ?_
 simp only [Z0, Z6]
 refine Z32 (v := fe (addW x y)) (by rfl) rfl rfl rfl ?_
 simp only [Z0, Z6]
 refine Z32 (v := .int .u64 (addC x y : Nat)) (by rfl) rfl rfl rfl ?_
 simp only [Z0, Z6]
 refine vAl ?_
 refine Z19 (hLk.out _ ?_)
 simp only [Z7, Z8]
 iterate 6 refine Z28 (by rfl) ?_
 refine wpN_new (t := 86) (cs := ([.int .u64 0, .int .u64 0, .int .u64 0, .int .u64 0]).toArray) (by rfl) (fun W => ?_) (fun g9 Hg9 ng9 => ?_)
 ·
  go_simp
 simp only [Z0, Z6]
 refine Z29 (fun w10 Sw10 hbs => ?_)
 have Bg9 : Blk w10 g9 86 ([.int .u64 0, .int .u64 0, .int .u64 0, .int .u64 0]).toArray := hbs _ (List.mem_cons_self ..)
 clear hbs
 have Ng3_g9 : g3 ≠ g9 := Z4 (Z1 Lg3 Hg9)
 have Ng4_g9 : g4 ≠ g9 := Z4 (Z1 Lg4 Hg9)
 have Ng5_g9 : g5 ≠ g9 := Z4 (Z1 Lg5 Hg9)
 have Gg9 : w.heap.size ≤ g9 := Z3 BE.size Hg9
 replace Rg3_0 := Z26 Rg3_0 Lg3 Sw10
 replace Tg3 := Z27 Tg3 Lg3 Sw10
 replace Rg4_0 := Z26 Rg4_0 Lg4 Sw10
 replace Tg4 := Z27 Tg4 Lg4 Sw10
 replace Rg5_0 := Z26 Rg5_0 Lg5 Sw10
 replace Tg5 := Z27 Tg5 Lg5 Sw10
 replace Lg3 := Z1 Lg3 Sw10.2.2.size
 replace Lg4 := Z1 Lg4 Sw10.2.2.size
 replace Lg5 := Z1 Lg5 Sw10.2.2.size
 replace BE := BE.trans (Sw10.2.2.mono BE.size)
 have Tg9 := blk_there Bg9 (n := 4) (by simp [flen])
 have Rg9_0 := blk_range Bg9 (l := [.int .u64 0, .int .u64 0, .int .u64 0, .int .u64 0]) rfl
 have Lg9 := Bg9.lt
 clear ng9 Bg9
 refine lSt (g := g9) (off := 0) (n := 4) (cs := fel (addW x y)) Tg9 (by simp [flen]) info86 (fel_one _) (fun w11 Pw11 RR TT => ?_)
 replace Rg3_0 := Pw11.range Rg3_0 (.inl Ng3_g9)
 replace Tg3 := Pw11.other_there Tg3 Ng3_g9
 replace Rg4_0 := Pw11.range Rg4_0 (.inl Ng4_g9)
 replace Tg4 := Pw11.other_there Tg4 Ng4_g9
 replace Rg5_0 := Pw11.range Rg5_0 (.inl Ng5_g9)
 replace Tg5 := Pw11.other_there Tg5 Ng5_g9
 replace Rg9_0 := RR
 clear RR
 replace Tg9 := TT
 replace Lg3 := Pw11.lt Lg3
 replace Lg4 := Pw11.lt Lg4
 replace Lg5 := Pw11.lt Lg5
 replace Lg9 := Pw11.lt Lg9
 replace BE := Pw11.below BE Gg9
 refine lAs (v := .int .u64 (addC x y : Nat)) ?_
 simp only [Z0, Z6]
 refine lNp (hK7 _ _ ?_)
 refine Z10 (fun K12 hK12 => ?_)
 refine Z30 3 (by kernel_rfl) (fun Lk hLk => ?_)
 simp only [Z7, Z8]
 refine vLd (cs := fel (addW x y)) Rg9_0 Lg9 U986 info86 ?_
 simp only [Z0, Z6]
 refine vMv (v := .int .u64 (addC x y : Nat)) ?_
 simp only [Z0, Z6]
 refine Z25 (v := fe (foldF (addW x y) (addC x y))) (args := #[fe (addW x y), .int .u64 (addC x y : Nat)]) (by rfl) rfl Tryd.func134 (by kernel_rfl) (by kernel_rfl) rfl (fun W hW => folds_c (addW_lt ..) (Nat.lt_of_le_of_lt (addC_le hx hy) (by decide)) W) ?_
 simp only [Z0, Z6]
 refine Z19 (hLk.out _ ?_)
 simp only [Z7, Z8]
 iterate 3 refine Z28 (by rfl) ?_
 refine Z29 (fun w14 Sw14 hbs => ?_)
 clear hbs
 replace Rg3_0 := Z26 Rg3_0 Lg3 Sw14
 replace Tg3 := Z27 Tg3 Lg3 Sw14
 replace Rg4_0 := Z26 Rg4_0 Lg4 Sw14
 replace Tg4 := Z27 Tg4 Lg4 Sw14
 replace Rg5_0 := Z26 Rg5_0 Lg5 Sw14
 replace Tg5 := Z27 Tg5 Lg5 Sw14
 replace Rg9_0 := Z26 Rg9_0 Lg9 Sw14
 replace Tg9 := Z27 Tg9 Lg9 Sw14
 replace Lg3 := Z1 Lg3 Sw14.2.2.size
 replace Lg4 := Z1 Lg4 Sw14.2.2.size
 replace Lg5 := Z1 Lg5 Sw14.2.2.size
 replace Lg9 := Z1 Lg9 Sw14.2.2.size
 replace BE := BE.trans (Sw14.2.2.mono BE.size)
 refine lSt (g := g5) (off := 0) (n := 4) (cs := fel (foldF (addW x y) (addC x y))) Tg5 (by simp [flen]) info86 (fel_one _) (fun w15 Pw15 RR TT => ?_)
 replace Rg3_0 := Pw15.range Rg3_0 (.inl Ng3_g5)
 replace Tg3 := Pw15.other_there Tg3 Ng3_g5
 replace Rg4_0 := Pw15.range Rg4_0 (.inl Ng4_g5)
 replace Tg4 := Pw15.other_there Tg4 Ng4_g5
 replace Rg9_0 := Pw15.range Rg9_0 (.inl (Ne.symm Ng5_g9))
 replace Tg9 := Pw15.other_there Tg9 (Ne.symm Ng5_g9)
 replace Rg5_0 := RR
 clear RR
 replace Tg5 := TT
 replace Lg3 := Pw15.lt Lg3
 replace Lg4 := Pw15.lt Lg4
 replace Lg5 := Pw15.lt Lg5
 replace Lg9 := Pw15.lt Lg9
 replace BE := Pw15.below BE Gg5
 refine lNp (hK12 _ _ ?_)
 refine wp_ret ?_
 repeat (first | with_reducible refine then_ret ?_ | with_reducible refine inblock_ret ?_)
 refine bodyPost_ret (v := fe (foldF (addW x y) (addC x y))) (res1 rfl (.cell (by rfl) (run_loadVar_mid _ _ _ _ (fel (foldF (addW x y) (addC x y))) _ Rg5_0 U986 rfl info86))) rfl ?_
 exact ⟨by rw [fadd_eq], BE⟩
set_option maxHeartbeats 1000000 in
theorem fsub_c {x : Nat} (hx : x < 2 ^ 256) {y : Nat} (hy : y < 2 ^ 256) (w : World) :
  Calls Tryd.prog 90 #[fe x, fe y] w fun e w' => e = .returned (fe (fsub x y)) ∧ Below w.heap.size w w' := by
 go_enter Tryd.func90, Tryd.ntmps90
 have BE := Below.refl w.heap.size w
 refine Z10 (fun K1 hK1 => ?_)
 refine Z30 3 (by kernel_rfl) (fun Lk hLk => ?_)
 simp only [Z7, Z8]
 refine vAl ?_
 refine vAl ?_
 refine vAl ?_
 refine Z19 (hLk.out _ ?_)
 simp only [Z7, Z8]
 refine wpN_new (t := 86) (cs := (fel x).toArray) (by rfl) (fun W => ?_) (fun g3 Hg3 ng3 => ?_)
 ·
  (first | rfl | go_simp)
 refine wpN_new (t := 86) (cs := (fel y).toArray) (by rfl) (fun W => ?_) (fun g4 Hg4 ng4 => ?_)
 ·
  (first | rfl | go_simp)
 refine wpN_new (t := 86) (cs := ([.int .u64 0, .int .u64 0, .int .u64 0, .int .u64 0]).toArray) (by rfl) (fun W => ?_) (fun g5 Hg5 ng5 => ?_)
 ·
  go_simp
 simp only [Z0, Z6]
 refine Z29 (fun w6 Sw6 hbs => ?_)
 have Bg3 : Blk w6 g3 86 (fel x).toArray := hbs _ (List.mem_cons_of_mem _ (List.mem_cons_of_mem _ (List.mem_cons_self ..)))
 have Bg4 : Blk w6 g4 86 (fel y).toArray := hbs _ (List.mem_cons_of_mem _ (List.mem_cons_self ..))
 have Bg5 : Blk w6 g5 86 ([.int .u64 0, .int .u64 0, .int .u64 0, .int .u64 0]).toArray := hbs _ (List.mem_cons_self ..)
 clear hbs
 have Gg3 : w.heap.size ≤ g3 := Z3 BE.size Hg3
 have Ng3_g4 : g3 ≠ g4 := ng4 (g3, _, _) (List.mem_cons_self ..)
 have Gg4 : w.heap.size ≤ g4 := Z3 BE.size Hg4
 have Ng3_g5 : g3 ≠ g5 := ng5 (g3, _, _) (List.mem_cons_of_mem _ (List.mem_cons_self ..))
 have Ng4_g5 : g4 ≠ g5 := ng5 (g4, _, _) (List.mem_cons_self ..)
 have Gg5 : w.heap.size ≤ g5 := Z3 BE.size Hg5
 replace BE := BE.trans (Sw6.2.2.mono BE.size)
 have Tg3 := blk_there Bg3 (n := 4) (by simp [flen])
 have Rg3_0 := blk_range Bg3 (l := fel x) rfl
 have Lg3 := Bg3.lt
 have Tg4 := blk_there Bg4 (n := 4) (by simp [flen])
 have Rg4_0 := blk_range Bg4 (l := fel y) rfl
 have Lg4 := Bg4.lt
 have Tg5 := blk_there Bg5 (n := 4) (by simp [flen])
 have Rg5_0 := blk_range Bg5 (l := [.int .u64 0, .int .u64 0, .int .u64 0, .int .u64 0]) rfl
 have Lg5 := Bg5.lt
 clear ng3 ng4 ng5 Bg3 Bg4 Bg5
 refine lNp (hK1 _ _ ?_)
 refine Z10 (fun K7 hK7 => ?_)
 refine wp_region_grow 8 [6] (by kernel_rfl) (by kernel_rfl) (by kernel_rfl) (fun Lk hLk => ?_)
 simp only [Z7, Z8]
 refine Z25 (v := fe pF) (args := #[]) (by rfl) rfl Tryd.func132 (by kernel_rfl) (by kernel_rfl) rfl (fun W hW => prime_c W) ?_
 simp only [Z0, Z6]
 refine vLd (cs := fel y) Rg4_0 Lg4 U986 info86 ?_
 simp only [Z0, Z6]
 refine Z25 (v := fe (leastF y)) (args := #[fe y]) (by rfl) rfl Tryd.func127 (by kernel_rfl) (by kernel_rfl) rfl (fun W hW => least_c hy W) ?_
 simp only [Z0, Z6]
 refine Z25 (v := .tuple #[fe (subW pF (leastF y)), .int .u64 (subB pF (leastF y))]) (args := #[fe pF, fe (leastF y)]) (by rfl) rfl Tryd.func131 (by kernel_rfl) (by kernel_rfl) rfl (fun W hW => minus_c pF_lt (leastF_lt ..) W) ?_
 simp only [Z0, Z6]
 refine vMv (v := .tuple #[fe (subW pF (leastF y)), .int .u64 (subB pF (leastF y))]) ?_
 simp only [Z0, Z6]
 refine Z32 (v := fe (subW pF (leastF y))) (by rfl) rfl rfl rfl ?_
 simp only [Z0, Z6]
 refine Z32 (v := .int .u64 (subB pF (leastF y))) (by rfl) rfl rfl rfl ?_
 simp only [Z0, Z6]
 refine vAl ?_
 refine Z19 (hLk.out _ ?_)
 simp only [Z7, Z8]
 iterate 7 refine Z28 (by rfl) ?_
 refine wpN_new (t := 86) (cs := ([.int .u64 0, .int .u64 0, .int .u64 0, .int .u64 0]).toArray) (by rfl) (fun W => ?_) (fun g9 Hg9 ng9 => ?_)
 ·
  go_simp
 simp only [Z0, Z6]
 refine Z29 (fun w10 Sw10 hbs => ?_)
 have Bg9 : Blk w10 g9 86 ([.int .u64 0, .int .u64 0, .int .u64 0, .int .u64 0]).toArray := hbs _ (List.mem_cons_self ..)
 clear hbs
 have Ng3_g9 : g3 ≠ g9 := Z4 (Z1 Lg3 Hg9)
 have Ng4_g9 : g4 ≠ g9 := Z4 (Z1 Lg4 Hg9)
 have Ng5_g9 : g5 ≠ g9 := Z4 (Z1 Lg5 Hg9)
 have Gg9 : w.heap.size ≤ g9 := Z3 BE.size Hg9
 replace Rg3_0 := Z26 Rg3_0 Lg3 Sw10
 replace Tg3 := Z27 Tg3 Lg3 Sw10
 replace Rg4_0 := Z26 Rg4_0 Lg4 Sw10
 replace Tg4 := Z27 Tg4 Lg4 Sw10
 replace Rg5_0 := Z26 Rg5_0 Lg5 Sw10
 replace Tg5 := Z27 Tg5 Lg5 Sw10
 replace Lg3 := Z1 Lg3 Sw10.2.2.size
 replace Lg4 := Z1 Lg4 Sw10.2.2.size
 replace Lg5 := Z1 Lg5 Sw10.2.2.size
 replace BE := BE.trans (Sw10.2.2.mono BE.size)
 have Tg9 := blk_there Bg9 (n := 4) (by simp [flen])
 have Rg9_0 := blk_range Bg9 (l := [.int .u64 0, .int .u64 0, .int .u64 0, .int .u64 0]) rfl
 have Lg9 := Bg9.lt
 clear ng9 Bg9
 refine lSt (g := g9) (off := 0) (n := 4) (cs := fel (subW pF (leastF y))) Tg9 (by simp [flen]) info86 (fel_one _) (fun w11 Pw11 RR TT => ?_)
 replace Rg3_0 := Pw11.range Rg3_0 (.inl Ng3_g9)
 replace Tg3 := Pw11.other_there Tg3 Ng3_g9
 replace Rg4_0 := Pw11.range Rg4_0 (.inl Ng4_g9)
 replace Tg4 := Pw11.other_there Tg4 Ng4_g9
 replace Rg5_0 := Pw11.range Rg5_0 (.inl Ng5_g9)
 replace Tg5 := Pw11.other_there Tg5 Ng5_g9
 replace Rg9_0 := RR
 clear RR
 replace Tg9 := TT
 replace Lg3 := Pw11.lt Lg3
 replace Lg4 := Pw11.lt Lg4
 replace Lg5 := Pw11.lt Lg5
 replace Lg9 := Pw11.lt Lg9
 replace BE := Pw11.below BE Gg9
 refine lAs (v := .int .u64 (subB pF (leastF y))) ?_
 simp only [Z0, Z6]
 refine lNp (hK7 _ _ ?_)
 refine Z10 (fun K12 hK12 => ?_)
 refine Z30 3 (by kernel_rfl) (fun Lk hLk => ?_)
 simp only [Z7, Z8]
 refine vLd (cs := fel x) Rg3_0 Lg3 U986 info86 ?_
 simp only [Z0, Z6]
 refine vLd (cs := fel (subW pF (leastF y))) Rg9_0 Lg9 U986 info86 ?_
 simp only [Z0, Z6]
 refine Z25 (v := fe (fadd x (subW pF (leastF y)))) (args := #[fe x, fe (subW pF (leastF y))]) (by rfl) rfl Tryd.func128 (by kernel_rfl) (by kernel_rfl) rfl (fun W hW => fadd_c hx (subW_lt ..) W) ?_
 simp only [Z0, Z6]
 refine Z19 (hLk.out _ ?_)
 simp only [Z7, Z8]
 iterate 3 refine Z28 (by rfl) ?_
 refine Z29 (fun w14 Sw14 hbs => ?_)
 clear hbs
 replace Rg3_0 := Z26 Rg3_0 Lg3 Sw14
 replace Tg3 := Z27 Tg3 Lg3 Sw14
 replace Rg4_0 := Z26 Rg4_0 Lg4 Sw14
 replace Tg4 := Z27 Tg4 Lg4 Sw14
 replace Rg5_0 := Z26 Rg5_0 Lg5 Sw14
 replace Tg5 := Z27 Tg5 Lg5 Sw14
 replace Rg9_0 := Z26 Rg9_0 Lg9 Sw14
 replace Tg9 := Z27 Tg9 Lg9 Sw14
 replace Lg3 := Z1 Lg3 Sw14.2.2.size
 replace Lg4 := Z1 Lg4 Sw14.2.2.size
 replace Lg5 := Z1 Lg5 Sw14.2.2.size
 replace Lg9 := Z1 Lg9 Sw14.2.2.size
 replace BE := BE.trans (Sw14.2.2.mono BE.size)
 refine lSt (g := g5) (off := 0) (n := 4) (cs := fel (fadd x (subW pF (leastF y)))) Tg5 (by simp [flen]) info86 (fel_one _) (fun w15 Pw15 RR TT => ?_)
 replace Rg3_0 := Pw15.range Rg3_0 (.inl Ng3_g5)
 replace Tg3 := Pw15.other_there Tg3 Ng3_g5
 replace Rg4_0 := Pw15.range Rg4_0 (.inl Ng4_g5)
 replace Tg4 := Pw15.other_there Tg4 Ng4_g5
 replace Rg9_0 := Pw15.range Rg9_0 (.inl (Ne.symm Ng5_g9))
 replace Tg9 := Pw15.other_there Tg9 (Ne.symm Ng5_g9)
 replace Rg5_0 := RR
 clear RR
 replace Tg5 := TT
 replace Lg3 := Pw15.lt Lg3
 replace Lg4 := Pw15.lt Lg4
 replace Lg5 := Pw15.lt Lg5
 replace Lg9 := Pw15.lt Lg9
 replace BE := Pw15.below BE Gg5
 refine lNp (hK12 _ _ ?_)
 refine wp_ret ?_
 repeat (first | with_reducible refine then_ret ?_ | with_reducible refine inblock_ret ?_)
 refine bodyPost_ret (v := fe (fadd x (subW pF (leastF y)))) (res1 rfl (.cell (by rfl) (run_loadVar_mid _ _ _ _ (fel (fadd x (subW pF (leastF y)))) _ Rg5_0 U986 rfl info86))) rfl ?_
 exact ⟨by rw [fsub_eq], BE⟩
end Go.Proofs.Ya

