import Derived.Test.YtpgpjoldelobdaaDoorF4
import Derived.Test.YtpgpjoldelobdaaDoorNumE
import Derived.Test.YtpgpjoldelobdaaDoorF3
import Derived.Test.YtpgpjoldelobdaaDoorSteps8
import Derived.Test.YtpgpjoldelobdaaDoorShq
set_option linter.unusedSimpArgs false
set_option linter.unusedVariables false
namespace Go.Proofs.Ya
open Go Go.RowKit Go.Shelf Go.Proofs.Num
open Tryd renaming underlying86 → U986
open Go.Proofs.Num  renaming putT → Z0
open Nat renaming zero_add → Z2
open List renaming set → Z6
open Go renaming undef → Z9
open Go.Proofs.Num renaming wp_region_seq → Z13, wpL_nil → Z14, no_panic → Z15
attribute [local irreducible] wpV wpN wpList
set_option maxHeartbeats 1000000 in
theorem fmul_c {x : Nat} (hx : x < 2 ^ 256) {y : Nat} (hy : y < 2 ^ 256) (w : World) :
  Calls Tryd.prog 96 #[fe x, fe y] w fun e w' => e = .returned (fe (fmul x y)) ∧ Below w.heap.size w w' := by
 go_enter Tryd.func96, Tryd.ntmps96
 have M := Mem.start w
 refine qS fun _ k1 => ?_
 refine nV 4 fun g3 w4 M => ?_
 refine nV 4 fun g5 w6 M => ?_
 refine nV 4 fun g7 w8 M => ?_
 refine lZ k1 ?_
 refine qS fun _ k9 => ?_
 refine lL ?_; refine lL ?_
 refine cM 4 fun Lk hLk => ?_
 refine vC (wide_c hx hy) ?_
 refine vM ?_; refine vE ?_; refine vE ?_
 refine hLk _ fun w11 M => ?_
 refine nV 4 fun g12 w13 M => ?_
 refine nV 4 fun g14 w15 M => ?_
 refine sT 1 0 fun w16 M => ?_
 refine sT 0 0 fun w17 M => ?_
 refine lZ k9 ?_
 refine qS fun _ k18 => ?_
 refine lg ?_; refine lZ k18 ?_
 refine sk fun _ k20 => ?_
 refine qS fun _ k21 => ?_
 refine lL ?_; refine lM ?_; refine lZ k21 ?_; refine wp_block ?_
 refine wp_loop_ghost (fun n9 a9 W9 => ∃ (i : Nat) (Z : Nat) (c : Nat) (u24 : Nat → Value), n9 = 4 - i ∧ a9 = { tmps := #[fe x, fe y, .pointer (some ⟨g3, 0, none⟩), .pointer (some ⟨g5, 0, none⟩), .pointer (some ⟨g7, 0, none⟩), .pointer (some ⟨g12, 0, none⟩), .pointer (some ⟨g14, 0, none⟩), .int .u64 c, u24 8, u24 9, u24 10, u24 11, u24 12, u24 13, u24 14, u24 15, .tuple #[fe (mulLo x y), fe (mulHi x y)], fe x, fe y, .tuple #[fe (mulLo x y), fe (mulHi x y)], fe (mulLo x y), fe (mulHi x y), fe (mulHi x y), .int .i64 i, u24 24, u24 25, u24 26, u24 27, u24 28, u24 29, u24 30, u24 31, u24 32, u24 33, u24 34, u24 35, u24 36, u24 37, u24 38, u24 39, u24 40, u24 41, u24 42, u24 43, u24 44, u24 45, u24 46, u24 47, u24 48, u24 49, u24 50, u24 51, u24 52, u24 53, u24 54, Z9, Z9, Z9], defers := [] } ∧ Mem [] w W9 [⟨g14, 4, [(0, fel (mulHi x y))]⟩, ⟨g12, 4, [(0, fel Z)]⟩, ⟨g7, 4, [(0, [.int .u64 0, .int .u64 0, .int .u64 0, .int .u64 0])]⟩, ⟨g5, 4, [(0, fel y)]⟩, ⟨g3, 4, [(0, fel x)]⟩] ∧ (i ≤ 4) ∧ (BackInv (mulLo x y) (mulHi x y) i Z c)) (4 - (0)) ?_ (fun n9 a9 W9 hI => ?_)
 ·
  exact ⟨0, (mulLo x y), 0, (fun q9 => (#[Z9, Z9, Z9, Z9, Z9, Z9, Z9, Z9, Z9, Z9, Z9, Z9, Z9, Z9, Z9, Z9, Z9, Z9, Z9, Z9, Z9, Z9, Z9, Z9, Z9, Z9, Z9, Z9, Z9, Z9, Z9, Z9, Z9, Z9, Z9, Z9, Z9, Z9, Z9, Z9, Z9, Z9, Z9, Z9, Z9, Z9, Z9, Z9, Z9, Z9, Z9, Z9, Z9, Z9, Z9] : Array Value).getD q9 Z9), rfl, rfl, M, (by omega), (back_start (mulLo_lt ..))⟩
 clear M
 obtain ⟨i, Z, c, u24, rfl, rfl, M, hi4, HW⟩ := hI
 obtain ⟨w25, rfl⟩ : ∃ W8, W8 = W9 := ⟨_, rfl⟩
 have hcw := HW.word
 refine qS fun _ k26 => ?_
 refine cM 1 fun Lk hLk => ?_
 refine vB (v := .bool (decide (i < 4))) (hr := run_lssN i 4 _ _) ?_
 refine hLk _ fun w28 M => ?_
 refine lZ k26 ?_
 refine sk fun _ k29 => ?_
 cases hc30 : (decide (i < 4))
 ·
  have ei : i = 4 := by have := of_decide_eq_false hc30; omega
  subst ei
  refine cF ?_; refine eZ k20 ?_
  refine qS fun _ k31 => ?_
  refine lL ?_; refine lM ?_
  refine cM 1 fun Lk hLk => ?_
  refine vC (folds_c HW.top HW.word) ?_
  refine hLk _ fun w33 M => ?_
  refine sT 2 0 fun w34 M => ?_
  refine lZ k31 ?_; refine rt ?_
  refine bodyPost_ret (v := fe (foldF Z c)) (res1 rfl (.cell (by rfl) (run_loadVar_mid _ _ _ _ (fel (foldF Z c)) _ (M.r 2 0 rfl rfl) U986 rfl info86))) rfl ?_
  have BE := M.below
  exact ⟨by (rw [back_end hx hy HW]; try rfl), BE⟩
 have hi : i < 4 := of_decide_eq_true hc30
 refine cT ?_; refine sZ k29 ?_
 refine sk fun _ k35 => ?_
 refine wp_block ?_
 refine qS fun _ k36 => ?_
 refine lM ?_
 refine cM 1 fun Lk hLk => ?_
 refine wpV_index (n := i) (v := .int .u64 (limbN (mulHi x y) i : Nat)) (by rfl) rfl rfl rfl U986 info40 Tryd.underlying40 rfl (by omega) (fel_get (j := i) (mulHi x y) (by omega)) ?_
 simp only [Z0, Z6]
 refine hLk _ fun w38 M => ?_
 refine lg ?_; refine lg ?_; refine lZ k36 ?_
 refine qS fun _ k39 => ?_
 refine lM ?_
 refine cM 4 fun Lk hLk => ?_
 refine vC (v := .tuple #[.int .u64 ((limbN (mulHi x y) i) * 38 / 18446744073709551616 : Nat), .int .u64 ((limbN (mulHi x y) i) * 38 % 18446744073709551616 : Nat)]) (fun W => mul64_c (limbN_lt ..) (by decide) W) ?_
 refine vM ?_; refine vE ?_; refine vE ?_
 refine hLk _ fun w41 M => ?_
 refine lg ?_; refine lg ?_; refine lZ k39 ?_
 refine qS fun _ k42 => ?_
 refine lM ?_
 refine cM 7 fun Lk hLk => ?_
 refine wpV_idx (n := i) (by rfl) rfl rfl rfl U986 info40 (by omega) ?_
 simp only [Z2]
 simp only [Z0, Z6]
 refine vQ (v := .int .u64 (limbN Z i : Nat)) (hc := (zadd ((M.r 1 0 rfl rfl) _ _ (fel_get (j := i) Z (by omega))))) (hb := (M.lt 1 rfl)) ?_
 refine vM ?_
 refine wpV_ext (v := .tuple #[.int .u64 (((limbN Z i + (limbN (mulHi x y) i) * 38 % 18446744073709551616) % 18446744073709551616 : Nat) : Int), .int .u64 (((limbN Z i + (limbN (mulHi x y) i) * 38 % 18446744073709551616) / 18446744073709551616 : Nat) : Int)]) (f := 85) (args := #[.int .u64 (limbN Z i : Nat), .int .u64 ((limbN (mulHi x y) i) * 38 % 18446744073709551616 : Nat), .int .u64 0]) (by rfl) rfl rfl (addN (x := limbN Z i) (y := (limbN (mulHi x y) i) * 38 % 18446744073709551616) (c := 0) (limbN_lt ..) (Nat.mod_lt _ (by decide)) (by omega)) ?_
 simp only [Z0, Z6]
 refine vM ?_; refine vE ?_; refine vE ?_
 refine hLk _ fun w44 M => ?_
 refine lg ?_; refine lg ?_; refine lZ k42 ?_
 refine qS fun _ k45 => ?_
 refine lM ?_; refine lM ?_
 refine cM 4 fun Lk hLk => ?_
 refine wpV_ext (v := .tuple #[.int .u64 ((((limbN Z i + (limbN (mulHi x y) i) * 38 % 18446744073709551616) % 18446744073709551616 + c) % 18446744073709551616 : Nat) : Int), .int .u64 ((((limbN Z i + (limbN (mulHi x y) i) * 38 % 18446744073709551616) % 18446744073709551616 + c) / 18446744073709551616 : Nat) : Int)]) (f := 85) (args := #[.int .u64 (((limbN Z i + (limbN (mulHi x y) i) * 38 % 18446744073709551616) % 18446744073709551616 : Nat) : Int), .int .u64 c, .int .u64 0]) (by rfl) rfl rfl (addN (x := (limbN Z i + (limbN (mulHi x y) i) * 38 % 18446744073709551616) % 18446744073709551616) (y := c) (c := 0) (Nat.mod_lt _ (by decide)) (by omega) (by omega)) ?_
 simp only [Z0, Z6]
 refine vM ?_; refine vE ?_; refine vE ?_
 refine hLk _ fun w47 M => ?_
 refine lg ?_; refine lg ?_; refine lZ k45 ?_; refine Z13 ?_; refine lM ?_; refine lM ?_; refine lM ?_; refine lM ?_
 refine cM 4 fun Lk hLk => ?_
 refine vB (v := .int .u64 (limbN (mulHi x y) i * 38 / 18446744073709551616 + (limbN Z i + limbN (mulHi x y) i * 38 % 18446744073709551616) / 18446744073709551616 : Nat)) (hr := run_add (by have := (back_parts HW).2; unfold backC at this; rw [wrap_u64]; omega)) ?_
 refine vM ?_
 refine vB (v := .int .u64 (backC (mulHi x y) i Z c : Nat)) (hr := run_add (by have := (back_parts HW).2; unfold backC at this ⊢; rw [wrap_u64]; omega)) ?_
 refine wpV_idx (n := i) (by rfl) rfl rfl rfl U986 info40 (by omega) ?_
 simp only [Z2]
 simp only [Z0, Z6]
 refine hLk _ fun w49 M => ?_
 refine lS1 (g := g12) (off := i) (n := 4) (v := .int .u64 ((((limbN Z i + (limbN (mulHi x y) i) * 38 % 18446744073709551616) % 18446744073709551616 + c) % 18446744073709551616 : Nat) : Int)) (M.t 1 rfl) (by omega) info40 rfl (fun w50 P R T => ?_)
 replace M := M.put1 (j := i) 1 rfl P R T (Z2 _).symm
 simp only [Z6] at M
 rw [← wl_fel Z, show (((limbN Z i + (limbN (mulHi x y) i) * 38 % 18446744073709551616) % 18446744073709551616 + c) % 18446744073709551616) = backLo (mulHi x y) i Z c from rfl, wl_set (backM_eq (mulHi x y) i Z c) (backLo_lt ..), wl_fel] at M
 refine lg ?_; refine lZ k35 ?_; refine Z13 ?_
 refine cM 1 fun Lk hLk => ?_
 refine vB (v := .int .i64 (i + 1 : Nat)) (hr := run_add (by simp only [IntKind.wrap_i64]; omega)) ?_
 refine hLk _ fun w52 M => ?_
 refine lM ?_
 refine Z14 (Z15 ?_)
 refine Exists.intro _ ⟨?_, (i + 1), (backM (mulHi x y) i Z c), (backC (mulHi x y) i Z c), (fun q9 => (#[Z9, Z9, Z9, Z9, Z9, Z9, Z9, Z9, .int .i64 i, .int .u64 (limbN (mulHi x y) i : Nat), .int .u64 ((limbN (mulHi x y) i) * 38 / 18446744073709551616 : Nat), .int .u64 ((limbN (mulHi x y) i) * 38 % 18446744073709551616 : Nat), .int .u64 (((limbN Z i + (limbN (mulHi x y) i) * 38 % 18446744073709551616) % 18446744073709551616 : Nat) : Int), .int .u64 (((limbN Z i + (limbN (mulHi x y) i) * 38 % 18446744073709551616) / 18446744073709551616 : Nat) : Int), .int .u64 ((((limbN Z i + (limbN (mulHi x y) i) * 38 % 18446744073709551616) % 18446744073709551616 + c) % 18446744073709551616 : Nat) : Int), .int .u64 ((((limbN Z i + (limbN (mulHi x y) i) * 38 % 18446744073709551616) % 18446744073709551616 + c) / 18446744073709551616 : Nat) : Int), Z9, Z9, Z9, Z9, Z9, Z9, Z9, Z9, .bool true, .int .i64 i, .int .u64 (limbN (mulHi x y) i : Nat), .tuple #[.int .u64 ((limbN (mulHi x y) i) * 38 / 18446744073709551616 : Nat), .int .u64 ((limbN (mulHi x y) i) * 38 % 18446744073709551616 : Nat)], .int .u64 (limbN (mulHi x y) i : Nat), .tuple #[.int .u64 ((limbN (mulHi x y) i) * 38 / 18446744073709551616 : Nat), .int .u64 ((limbN (mulHi x y) i) * 38 % 18446744073709551616 : Nat)], .int .u64 ((limbN (mulHi x y) i) * 38 / 18446744073709551616 : Nat), .int .u64 ((limbN (mulHi x y) i) * 38 % 18446744073709551616 : Nat), .tuple #[.int .u64 (((limbN Z i + (limbN (mulHi x y) i) * 38 % 18446744073709551616) % 18446744073709551616 : Nat) : Int), .int .u64 (((limbN Z i + (limbN (mulHi x y) i) * 38 % 18446744073709551616) / 18446744073709551616 : Nat) : Int)], .int .i64 i, .pointer (some ⟨g12, i, none⟩), .int .u64 (limbN Z i : Nat), .int .u64 ((limbN (mulHi x y) i) * 38 % 18446744073709551616 : Nat), .tuple #[.int .u64 (((limbN Z i + (limbN (mulHi x y) i) * 38 % 18446744073709551616) % 18446744073709551616 : Nat) : Int), .int .u64 (((limbN Z i + (limbN (mulHi x y) i) * 38 % 18446744073709551616) / 18446744073709551616 : Nat) : Int)], .int .u64 (((limbN Z i + (limbN (mulHi x y) i) * 38 % 18446744073709551616) % 18446744073709551616 : Nat) : Int), .int .u64 (((limbN Z i + (limbN (mulHi x y) i) * 38 % 18446744073709551616) / 18446744073709551616 : Nat) : Int), .tuple #[.int .u64 ((((limbN Z i + (limbN (mulHi x y) i) * 38 % 18446744073709551616) % 18446744073709551616 + c) % 18446744073709551616 : Nat) : Int), .int .u64 ((((limbN Z i + (limbN (mulHi x y) i) * 38 % 18446744073709551616) % 18446744073709551616 + c) / 18446744073709551616 : Nat) : Int)], .int .u64 (((limbN Z i + (limbN (mulHi x y) i) * 38 % 18446744073709551616) % 18446744073709551616 : Nat) : Int), .int .u64 c, .tuple #[.int .u64 ((((limbN Z i + (limbN (mulHi x y) i) * 38 % 18446744073709551616) % 18446744073709551616 + c) % 18446744073709551616 : Nat) : Int), .int .u64 ((((limbN Z i + (limbN (mulHi x y) i) * 38 % 18446744073709551616) % 18446744073709551616 + c) / 18446744073709551616 : Nat) : Int)], .int .u64 ((((limbN Z i + (limbN (mulHi x y) i) * 38 % 18446744073709551616) % 18446744073709551616 + c) % 18446744073709551616 : Nat) : Int), .int .u64 ((((limbN Z i + (limbN (mulHi x y) i) * 38 % 18446744073709551616) % 18446744073709551616 + c) / 18446744073709551616 : Nat) : Int), .int .i64 i, .int .u64 ((((limbN Z i + (limbN (mulHi x y) i) * 38 % 18446744073709551616) % 18446744073709551616 + c) % 18446744073709551616 : Nat) : Int), .int .u64 ((limbN (mulHi x y) i) * 38 / 18446744073709551616 : Nat), .int .u64 (((limbN Z i + (limbN (mulHi x y) i) * 38 % 18446744073709551616) / 18446744073709551616 : Nat) : Int), .int .u64 (limbN (mulHi x y) i * 38 / 18446744073709551616 + (limbN Z i + limbN (mulHi x y) i * 38 % 18446744073709551616) / 18446744073709551616 : Nat), .int .u64 ((((limbN Z i + (limbN (mulHi x y) i) * 38 % 18446744073709551616) % 18446744073709551616 + c) / 18446744073709551616 : Nat) : Int), .int .u64 (backC (mulHi x y) i Z c : Nat), .pointer (some ⟨g12, i, none⟩), .int .i64 (i + 1 : Nat)] : Array Value).getD q9 Z9), rfl, rfl, M, (by omega), (back_step hi HW)⟩
 omega
set_option maxHeartbeats 1000000 in
theorem power_c {x : Nat} (hx : x < 2 ^ 256) {n : Nat} (hn : n < 2 ^ 256) (w : World) :
  Calls Tryd.prog 135 #[fe x, fe n] w fun e w' => e = .returned (fe (fpow x n)) ∧ Below w.heap.size w w' := by
 go_enter Tryd.func135, Tryd.ntmps135
 have M := Mem.start w
 refine qS fun _ k1 => ?_
 refine nV 4 fun g3 w4 M => ?_
 refine nV 4 fun g5 w6 M => ?_
 refine nV 4 fun g7 w8 M => ?_
 refine lZ k1 ?_
 refine qS fun _ k9 => ?_
 refine cM 1 fun Lk hLk => ?_
 refine vC (v := fe 1) (fun W => of_c (n := 1) (by decide) W) ?_
 refine hLk _ fun w11 M => ?_
 refine nV 4 fun g12 w13 M => ?_
 refine sT 0 0 fun w14 M => ?_
 refine lZ k9 ?_
 refine sk fun _ k15 => ?_
 refine qS fun _ k16 => ?_
 refine lM ?_; refine lZ k16 ?_; refine wp_block ?_
 replace M := M.read1 (cs := fel (fpow x (n / 2 ^ (256 - 0)))) (o := 0) 0 rfl (by rw [Nat.div_eq_of_lt hn, fpow_zero]; exact (M.r 0 0 rfl rfl))
 simp only [Z6] at M
 refine wp_loop_ghost (fun n9 a9 W9 => ∃ (k : Nat) (u18_6 u18_7 u18_10 u18_11 u18_12 u18_13 u18_14 u18_15 u18_16 u18_17 u18_18 u18_19 u18_20 u18_21 u18_22 u18_23 u18_24 u18_25 u18_26 u18_27 u18_28 u18_29 : Value), n9 = 256 - k ∧ a9 = { tmps := #[fe x, fe n, .pointer (some ⟨g3, 0, none⟩), .pointer (some ⟨g5, 0, none⟩), .pointer (some ⟨g7, 0, none⟩), .pointer (some ⟨g12, 0, none⟩), u18_6, u18_7, fe 1, .int .i64 k, u18_10, u18_11, u18_12, u18_13, u18_14, u18_15, u18_16, u18_17, u18_18, u18_19, u18_20, u18_21, u18_22, u18_23, u18_24, u18_25, u18_26, u18_27, u18_28, u18_29, Z9], defers := [] } ∧ Mem [] w W9 [⟨g12, 4, [(0, fel (fpow x (n / 2 ^ (256 - k))))]⟩, ⟨g7, 4, [(0, [.int .u64 0, .int .u64 0, .int .u64 0, .int .u64 0])]⟩, ⟨g5, 4, [(0, fel n)]⟩, ⟨g3, 4, [(0, fel x)]⟩] ∧ (k ≤ 256)) (256 - (0)) ?_ (fun n9 a9 W9 hI => ?_)
 ·
  exact ⟨0, _, _, _, _, _, _, _, _, _, _, _, _, _, _, _, _, _, _, _, _, _, _, rfl, rfl, M, (by omega)⟩
 clear M
 obtain ⟨k, u18_6, u18_7, u18_10, u18_11, u18_12, u18_13, u18_14, u18_15, u18_16, u18_17, u18_18, u18_19, u18_20, u18_21, u18_22, u18_23, u18_24, u18_25, u18_26, u18_27, u18_28, u18_29, rfl, rfl, M, hk6⟩ := hI
 obtain ⟨w19, rfl⟩ : ∃ W8, W8 = W9 := ⟨_, rfl⟩
 refine qS fun _ k20 => ?_
 refine cM 1 fun Lk hLk => ?_
 refine vB (v := .bool (decide (k < 256))) (hr := run_lssN k 256 _ _) ?_
 refine hLk _ fun w22 M => ?_
 refine lZ k20 ?_
 refine sk fun _ k23 => ?_
 cases hc24 : (decide (k < 256))
 ·
  have ek : k = 256 := by have := of_decide_eq_false hc24; omega
  subst ek
  refine cF ?_; refine eZ k15 ?_
  refine qS fun _ k25 => ?_
  refine lL ?_
  refine sT 1 0 fun w28 M => ?_
  refine lZ k25 ?_; refine rt ?_
  refine bodyPost_ret (v := fe (fpow x (n / 2 ^ (256 - 256)))) (res1 rfl (.cell (by rfl) (run_loadVar_mid _ _ _ _ (fel (fpow x (n / 2 ^ (256 - 256)))) _ (M.r 1 0 rfl rfl) U986 rfl info86))) rfl ?_
  have BE := M.below
  exact ⟨by (rw [show n / 2 ^ (256 - 256) = n by simp]; try rfl), BE⟩
 have hk : k < 256 := of_decide_eq_true hc24
 refine cT ?_; refine sZ k23 ?_
 refine sk fun _ k29 => ?_
 refine wp_block ?_
 refine qS fun _ k30 => ?_
 refine lM ?_; refine lg ?_; refine lZ k30 ?_
 refine qS fun _ k32 => ?_
 refine lM ?_
 refine cM 1 fun Lk hLk => ?_
 refine vB (v := .int .i64 (255 - k : Nat)) (hr := run_sub (by simp only [IntKind.wrap_i64]; omega)) ?_
 refine hLk _ fun w34 M => ?_
 refine lg ?_; refine lZ k32 ?_
 refine qS fun _ k35 => ?_
 refine lL ?_; refine lL ?_
 refine cM 1 fun Lk hLk => ?_
 refine vC (fmul_c (fpow_lt ..) (fpow_lt ..)) ?_
 refine hLk _ fun w37 M => ?_
 refine sT 0 0 fun w38 M => ?_
 refine lZ k35 ?_
 refine qS fun _ k39 => ?_
 refine lM ?_
 refine cM 8 fun Lk hLk => ?_
 refine vB (v := .int .i64 ((255 - k) / 64 : Nat)) (hr := run_quo (by decide) ((congrArg _ (tdiv_nat (255 - k) 64)).trans (wrap_nat _ (by omega)))) ?_
 refine wpV_idx (n := (255 - k) / 64) (by rfl) rfl rfl rfl U986 info40 (by omega) ?_
 simp only [Z2]
 simp only [Z0, Z6]
 refine vQ (v := .int .u64 (limbN n ((255 - k) / 64) : Nat)) (hc := (zadd ((M.r 2 0 rfl rfl) _ _ (fel_get (j := (255 - k) / 64) n (by omega))))) (hb := (M.lt 2 rfl)) ?_
 refine vM ?_
 refine vB (v := .int .i64 ((255 - k) % 64 : Nat)) (hr := run_rem (by decide) (tmod_nat (255 - k) 64)) ?_
 refine vB (v := .int .u64 (limbN n ((255 - k) / 64) / 2 ^ ((255 - k) % 64) : Nat)) (hr := run_shr (m := limbN n ((255 - k) / 64)) (n := (255 - k) % 64) (by show _ ≤ 64; omega) rfl) ?_
 refine vB (v := .int .u64 (n / 2 ^ (255 - k) % 2 : Nat)) (hr := run_and (bitN_of n (255 - k))) ?_
 refine vB (v := .bool (((n / 2 ^ (255 - k) % 2 : Nat) : Int) == 1)) (hr := run_eql _ _ _ _) ?_
 refine hLk _ fun w41 M => ?_
 refine lZ k39 ?_
 cases hc42 : (((n / 2 ^ (255 - k) % 2 : Nat) : Int) == 1)
 ·
  have hbit : n / 2 ^ (255 - k) % 2 ≠ 1 := by intro e; rw [e] at hc42; simp at hc42
  refine cF ?_; refine sZ k29 ?_; refine Z13 ?_
  refine cM 1 fun Lk hLk => ?_
  refine vB (v := .int .i64 (k + 1 : Nat)) (hr := run_add (by simp only [IntKind.wrap_i64]; omega)) ?_
  refine hLk _ fun w44 M => ?_
  refine lM ?_
  refine Z14 (Z15 ?_)
  replace M := M.read1 (cs := fel (fpow x (n / 2 ^ (256 - (k + 1))))) (o := 0) 0 rfl (by rw [← (fpow_step x n k hk).2 hbit]; exact (M.r 0 0 rfl rfl))
  simp only [Z6] at M
  refine Exists.intro _ ⟨?_, (k + 1), _, _, _, _, _, _, _, _, _, _, _, _, _, _, _, _, _, _, _, _, _, _, rfl, rfl, M, (by omega)⟩
  omega
 have hbit : n / 2 ^ (255 - k) % 2 = 1 := by have := beq_iff_eq.1 hc42; omega
 refine cT ?_; refine Z13 ?_; refine lL ?_; refine lL ?_
 refine cM 1 fun Lk hLk => ?_
 refine vC (fmul_c (fmul_lt ..) hx) ?_
 refine hLk _ fun w46 M => ?_
 refine sT 0 0 fun w47 M => ?_
 refine lZ k29 ?_; refine Z13 ?_
 refine cM 1 fun Lk hLk => ?_
 refine vB (v := .int .i64 (k + 1 : Nat)) (hr := run_add (by simp only [IntKind.wrap_i64]; omega)) ?_
 refine hLk _ fun w49 M => ?_
 refine lM ?_
 refine Z14 (Z15 ?_)
 replace M := M.read1 (cs := fel (fpow x (n / 2 ^ (256 - (k + 1))))) (o := 0) 0 rfl (by rw [← (fpow_step x n k hk).1 hbit]; exact (M.r 0 0 rfl rfl))
 simp only [Z6] at M
 refine Exists.intro _ ⟨?_, (k + 1), _, _, _, _, _, _, _, _, _, _, _, _, _, _, _, _, _, _, _, _, _, _, rfl, rfl, M, (by omega)⟩
 omega
set_option maxHeartbeats 1000000 in
theorem finv_c {x : Nat} (hx : x < 2 ^ 256) (w : World) :
  Calls Tryd.prog 97 #[fe x] w fun e w' => e = .returned (fe (finv x)) ∧ Below w.heap.size w w' := by
 go_enter Tryd.func97, Tryd.ntmps97
 have M := Mem.start w
 refine qS fun _ k1 => ?_
 refine nV 4 fun g3 w4 M => ?_
 refine nV 4 fun g5 w6 M => ?_
 refine lZ k1 ?_
 refine qS fun _ k7 => ?_
 refine cM 6 fun Lk hLk => ?_
 refine vC prime_c ?_
 refine vC (v := fe 2) (fun W => of_c (n := 2) (by decide) W) ?_
 refine vC (v := .tuple #[fe (subW pF 2), .int .u64 (subB pF 2)]) (fun W => minus_c pF_lt (by decide) W) ?_
 refine vM ?_; refine vE ?_; refine vE ?_
 refine hLk _ fun w9 M => ?_
 refine nV 4 fun g10 w11 M => ?_
 refine sT 0 0 fun w12 M => ?_
 refine lg ?_; refine lZ k7 ?_
 refine qS fun _ k13 => ?_
 refine lL ?_; refine lL ?_
 refine cM 1 fun Lk hLk => ?_
 refine vC (power_c hx (subW_lt ..)) ?_
 refine hLk _ fun w15 M => ?_
 refine sT 1 0 fun w16 M => ?_
 refine lZ k13 ?_; refine rt ?_
 refine bodyPost_ret (v := fe (fpow x (subW pF 2))) (res1 rfl (.cell (by rfl) (run_loadVar_mid _ _ _ _ (fel (fpow x (subW pF 2))) _ (M.r 1 0 rfl rfl) U986 rfl info86))) rfl ?_
 have BE := M.below
 exact ⟨by rw [inv_exp]; rfl, BE⟩
end Go.Proofs.Ya

namespace Go.Proofs.Ya
open Go Go.RowKit Go.Shelf Go.Proofs.Num
open Tryd renaming underlying128 → U9128
open Go.Proofs.Num  renaming putT → Z0
open Nat renaming zero_add → Z2
open List renaming set → Z6
open Go renaming undef → Z9
open Go.Proofs.Num renaming wp_region_seq → Z13, wpL_nil → Z14, no_panic → Z15, then_normal → Z22
attribute [local irreducible] wpV wpN wpList
theorem info80 : (Tryd.prog.info? 80).map (·.size) = some 4 := by kernel_rfl
set_option maxHeartbeats 2000000 in
theorem rest_c {n N gp cap : Nat} (hn : n ≤ 8) (hN : N < 2 ^ (64 * n)) {w : World} (Lgp : gp < w.heap.size) (Rgp_0 : w.rangeAt gp 0 (wl n N)) :
  Calls Tryd.prog 86 #[.slice (some ⟨gp, 0, none⟩) n cap] w fun e w' => e = .returned (fe (restS N)) ∧ Below w.heap.size w w' := by
 go_enter Tryd.func86, Tryd.ntmps86
 have M := Mem.start w
 refine qS fun _ k1 => ?_
 refine nV 4 fun g3 w4 M => ?_
 refine lZ k1 ?_
 refine qS fun _ k5 => ?_
 refine nV 4 fun g7 w8 M => ?_
 refine lZ k5 ?_
 refine sk fun _ k9 => ?_
 refine qS fun _ k10 => ?_
 refine lM ?_
 refine cM 3 fun Lk hLk => ?_
 refine wpV_lenA (n := n) (by rfl) rfl rfl rfl U9128 ?_
 simp only [Z0, Z6]
 refine vB (v := .int .i64 (64 * n : Nat)) (hr := run_mul (by simp only [IntKind.wrap_i64]; omega)) ?_
 refine vB (v := .int .i64 (((64 * n : Nat) : Int) - 1)) (hr := run_sub (by simp only [IntKind.wrap_i64]; omega)) ?_
 refine hLk _ fun w12 M => ?_
 refine lg ?_; refine lZ k10 ?_; refine wp_block ?_
 replace M := M.read1 (cs := fel (N / 2 ^ (64 * n) % ordL)) (o := 0) 0 rfl (by rw [Nat.div_eq_of_lt hN]; exact (M.r 0 0 rfl rfl))
 simp only [Z6] at M
 refine wp_loop_ghost (fun n9 a9 W9 => ∃ (k : Nat) (u13 : Nat → Value), n9 = 2 * k ∧ a9 = { tmps := #[.slice (some ⟨gp, 0, none⟩) n cap, Z9, .pointer (some ⟨g3, 0, none⟩), .pointer (some ⟨g7, 0, none⟩), .int .i64 (((k : Nat) : Int) - 1), u13 5, u13 6, u13 7, u13 8, u13 9, .slice (some ⟨gp, 0, none⟩) n cap, .int .i64 n, .int .i64 (64 * n : Nat), .int .i64 (((64 * n : Nat) : Int) - 1), u13 14, u13 15, u13 16, u13 17, u13 18, u13 19, u13 20, u13 21, u13 22, u13 23, u13 24, u13 25, u13 26, u13 27, u13 28, u13 29, u13 30, u13 31, u13 32, u13 33, u13 34, u13 35, u13 36, u13 37, u13 38, u13 39, u13 40, u13 41, u13 42, u13 43, u13 44, u13 45, u13 46, u13 47, u13 48, u13 49, u13 50, u13 51, u13 52, Z9], defers := [] } ∧ Mem [] w W9 [⟨g7, 4, [(0, fel (N / 2 ^ k % ordL))]⟩, ⟨g3, 4, [(0, [.int .u64 0, .int .u64 0, .int .u64 0, .int .u64 0])]⟩] ∧ (k ≤ 64 * n)) (2 * (64 * n)) ?_ (fun n9 a9 W9 hI => ?_)
 ·
  exact ⟨(64 * n), (fun q9 => (#[Z9, Z9, Z9, Z9, Z9, Z9, Z9, Z9, Z9, Z9, Z9, Z9, Z9, Z9, Z9, Z9, Z9, Z9, Z9, Z9, Z9, Z9, Z9, Z9, Z9, Z9, Z9, Z9, Z9, Z9, Z9, Z9, Z9, Z9, Z9, Z9, Z9, Z9, Z9, Z9, Z9, Z9, Z9, Z9, Z9, Z9, Z9, Z9, Z9, Z9, Z9, Z9, Z9] : Array Value).getD q9 Z9), rfl, rfl, M, (by omega)⟩
 clear M
 obtain ⟨k, u13, rfl, rfl, M, hk8⟩ := hI
 obtain ⟨w14, rfl⟩ : ∃ W8, W8 = W9 := ⟨_, rfl⟩
 refine sk fun _ k15 => ?_
 refine qS fun _ k16 => ?_
 refine lM ?_
 refine cM 1 fun Lk hLk => ?_
 refine vB (v := .bool (decide (0 ≤ ((k : Nat) : Int) - 1))) (hr := run_geq _ _ _ _) ?_
 refine hLk _ fun w18 M => ?_
 refine lZ k16 ?_
 cases hc19 : (decide (0 ≤ ((k : Nat) : Int) - 1))
 ·
  have ek : k = 0 := by have := of_decide_eq_false hc19; omega
  subst ek
  refine cF ?_; refine eZ k9 ?_
  refine qS fun _ k20 => ?_
  refine lL ?_
  refine sT 1 0 fun w23 M => ?_
  refine lZ k20 ?_; refine rt ?_
  refine bodyPost_ret (v := fe (N / 2 ^ 0 % ordL)) (res1 rfl (.cell (by rfl) (run_loadVar_mid _ _ _ _ (fel (N / 2 ^ 0 % ordL)) _ (M.r 1 0 rfl rfl) Tryd.underlying80 rfl info80))) rfl ?_
  have BE := M.below
  exact ⟨by rw [show N / 2 ^ 0 = N by simp]; rfl, BE⟩
 obtain ⟨j, rfl⟩ : ∃ j, k = j + 1 := ⟨k - 1, by have := of_decide_eq_true hc19; omega⟩
 rw [show (((j + 1 : Nat) : Int) - 1) = ((j : Nat) : Int) by omega]
 refine cT ?_; refine sZ k15 ?_
 refine sk fun _ k24 => ?_
 refine wp_block ?_
 refine qS fun _ k25 => ?_
 refine lM ?_; refine lM ?_
 refine cM 7 fun Lk hLk => ?_
 refine vB (v := .int .i64 (j / 64 : Nat)) (hr := run_quo (by decide) ((congrArg _ (tdiv_nat j 64)).trans (wrap_nat _ (by omega)))) ?_
 refine wpV_idxs (n := j / 64) (by rfl) rfl rfl rfl U9128 info40 (by omega) ?_
 simp only [Z2]
 simp only [Z0, Z6]
 refine vQ (v := .int .u64 (limbN N (j / 64) : Nat)) (hc := (zadd ((M.oldR Rgp_0 Lgp) _ _ (wl_get (j := j / 64) n N (by omega))))) (hb := (M.oldL Lgp)) ?_
 refine vM ?_
 refine vB (v := .int .i64 (j % 64 : Nat)) (hr := run_rem (by decide) (tmod_nat j 64)) ?_
 refine vB (v := .int .u64 (limbN N (j / 64) / 2 ^ (j % 64) : Nat)) (hr := run_shr (m := limbN N (j / 64)) (n := j % 64) (by show _ ≤ 64; omega) rfl) ?_
 refine vB (v := .int .u64 (N / 2 ^ j % 2 : Nat)) (hr := run_and (bitN_of N j)) ?_
 refine hLk _ fun w27 M => ?_
 refine lg ?_; refine lZ k25 ?_
 refine sk fun _ k28 => ?_
 refine sk fun _ k29 => ?_
 replace M := M.read1 (cs := [.int .u64 (limb (N / 2 ^ (j + 1) % ordL) 0), .int .u64 (limb (N / 2 ^ (j + 1) % ordL) 1), .int .u64 (limb (N / 2 ^ (j + 1) % ordL) 2), .int .u64 (limb (N / 2 ^ (j + 1) % ordL) 3)]) 0 rfl ((M.r 0 0 rfl rfl))
 simp only [Z6] at M
 refine Z13 ?_; refine lM ?_; refine lZ k29 ?_; refine wp_block ?_; refine wp_loop_rounds 5 ?_
 rw [rounds_succ]
 refine qS fun _ k31 => ?_
 refine cM 1 fun Lk hLk => ?_
 refine vB (v := .bool true) (hr := run_lss _ _ _ _) ?_
 refine hLk _ fun w33 M => ?_
 refine lZ k31 ?_
 refine sk fun _ k34 => ?_
 refine cT ?_; refine sZ k34 ?_
 refine sk fun _ k35 => ?_
 refine wp_block ?_
 refine qS fun _ k36 => ?_
 refine lM ?_; refine lg ?_; refine lZ k36 ?_
 refine qS fun _ k38 => ?_
 refine lM ?_; refine lF ?_
 refine cM 2 fun Lk hLk => ?_
 refine vP (pvLc (v := .int .u64 (limb (N / 2 ^ (j + 1) % ordL) 0)) (range_one (range_sub (M.r 0 0 rfl rfl) 0 1 0 (xs := [.int .u64 (limb (N / 2 ^ (j + 1) % ordL) 0)]) rfl rfl)) (M.lt 0 rfl)) ?_
 refine vB (v := .int .u64 (top (limb (N / 2 ^ (j + 1) % ordL) 0))) (hr := run_top (limb_nn _ _)) ?_
 refine hLk _ fun w40 M => ?_
 refine lg ?_; refine lZ k38 ?_; refine Z13 ?_; refine lM ?_; refine lM ?_; refine lF ?_
 refine cM 6 fun Lk hLk => ?_
 refine vP (pvLc (v := .int .u64 (limb (N / 2 ^ (j + 1) % ordL) 0)) (range_one (range_sub (M.r 0 0 rfl rfl) 0 1 0 (xs := [.int .u64 (limb (N / 2 ^ (j + 1) % ordL) 0)]) rfl rfl)) (M.lt 0 rfl)) ?_
 refine vB (v := .int .u64 (IntKind.u64.wrap ((limb (N / 2 ^ (j + 1) % ordL) 0) * 2))) (hr := run_shl1 (limb_nn _ _)) ?_
 refine vM ?_
 refine vB (v := .int .u64 (shb (limb (N / 2 ^ (j + 1) % ordL) 0) ((N / 2 ^ j % 2 : Nat) : Int))) (hr := run_or rfl) ?_
 refine vM ?_; refine vF ?_
 refine hLk _ fun w42 M => ?_
 refine lS1 (g := g7) (off := 0) (n := 4) (v := .int .u64 (shb (limb (N / 2 ^ (j + 1) % ordL) 0) ((N / 2 ^ j % 2 : Nat) : Int))) (M.t 0 rfl) (by decide) info40 rfl (fun w43 P R T => ?_)
 replace M := M.put1 (j := 0) 0 rfl P R T rfl
 simp only [Z6] at M
 refine lg ?_; refine lZ k35 ?_; refine Z13 ?_
 refine cM 1 fun Lk hLk => ?_
 refine vB (v := .int .i64 1) (hr := run_add (by decide)) ?_
 refine hLk _ fun w45 M => ?_
 refine lM ?_
 refine Z14 (Z15 ?_)
 refine Z22 (Q := fun _ _ _ => True) ?_
 rw [rounds_succ]
 refine qS fun _ k46 => ?_
 refine cM 1 fun Lk hLk => ?_
 refine vB (v := .bool true) (hr := run_lss _ _ _ _) ?_
 refine hLk _ fun w48 M => ?_
 refine lZ k46 ?_
 refine sk fun _ k49 => ?_
 refine cT ?_; refine sZ k49 ?_
 refine sk fun _ k50 => ?_
 refine wp_block ?_
 refine qS fun _ k51 => ?_
 refine lM ?_; refine lg ?_; refine lZ k51 ?_
 refine qS fun _ k53 => ?_
 refine lM ?_; refine lF ?_
 refine cM 2 fun Lk hLk => ?_
 refine vP (pvLc (v := .int .u64 (limb (N / 2 ^ (j + 1) % ordL) 1)) (range_one (range_sub (M.r 0 0 rfl rfl) 1 1 1 (xs := [.int .u64 (limb (N / 2 ^ (j + 1) % ordL) 1)]) rfl rfl)) (M.lt 0 rfl)) ?_
 refine vB (v := .int .u64 (top (limb (N / 2 ^ (j + 1) % ordL) 1))) (hr := run_top (limb_nn _ _)) ?_
 refine hLk _ fun w55 M => ?_
 refine lg ?_; refine lZ k53 ?_; refine Z13 ?_; refine lM ?_; refine lM ?_; refine lF ?_
 refine cM 6 fun Lk hLk => ?_
 refine vP (pvLc (v := .int .u64 (limb (N / 2 ^ (j + 1) % ordL) 1)) (range_one (range_sub (M.r 0 0 rfl rfl) 1 1 1 (xs := [.int .u64 (limb (N / 2 ^ (j + 1) % ordL) 1)]) rfl rfl)) (M.lt 0 rfl)) ?_
 refine vB (v := .int .u64 (IntKind.u64.wrap ((limb (N / 2 ^ (j + 1) % ordL) 1) * 2))) (hr := run_shl1 (limb_nn _ _)) ?_
 refine vM ?_
 refine vB (v := .int .u64 (shb (limb (N / 2 ^ (j + 1) % ordL) 1) (top (limb (N / 2 ^ (j + 1) % ordL) 0)))) (hr := run_or rfl) ?_
 refine vM ?_; refine vF ?_
 refine hLk _ fun w57 M => ?_
 refine lS1 (g := g7) (off := 1) (n := 4) (v := .int .u64 (shb (limb (N / 2 ^ (j + 1) % ordL) 1) (top (limb (N / 2 ^ (j + 1) % ordL) 0)))) (M.t 0 rfl) (by decide) info40 rfl (fun w58 P R T => ?_)
 replace M := M.put1 (j := 1) 0 rfl P R T rfl
 simp only [Z6] at M
 refine lg ?_; refine lZ k50 ?_; refine Z13 ?_
 refine cM 1 fun Lk hLk => ?_
 refine vB (v := .int .i64 2) (hr := run_add (by decide)) ?_
 refine hLk _ fun w60 M => ?_
 refine lM ?_
 refine Z14 (Z15 ?_)
 refine Z22 (Q := fun _ _ _ => True) ?_
 rw [rounds_succ]
 refine qS fun _ k61 => ?_
 refine cM 1 fun Lk hLk => ?_
 refine vB (v := .bool true) (hr := run_lss _ _ _ _) ?_
 refine hLk _ fun w63 M => ?_
 refine lZ k61 ?_
 refine sk fun _ k64 => ?_
 refine cT ?_; refine sZ k64 ?_
 refine sk fun _ k65 => ?_
 refine wp_block ?_
 refine qS fun _ k66 => ?_
 refine lM ?_; refine lg ?_; refine lZ k66 ?_
 refine qS fun _ k68 => ?_
 refine lM ?_; refine lF ?_
 refine cM 2 fun Lk hLk => ?_
 refine vP (pvLc (v := .int .u64 (limb (N / 2 ^ (j + 1) % ordL) 2)) (range_one (range_sub (M.r 0 0 rfl rfl) 2 1 2 (xs := [.int .u64 (limb (N / 2 ^ (j + 1) % ordL) 2)]) rfl rfl)) (M.lt 0 rfl)) ?_
 refine vB (v := .int .u64 (top (limb (N / 2 ^ (j + 1) % ordL) 2))) (hr := run_top (limb_nn _ _)) ?_
 refine hLk _ fun w70 M => ?_
 refine lg ?_; refine lZ k68 ?_; refine Z13 ?_; refine lM ?_; refine lM ?_; refine lF ?_
 refine cM 6 fun Lk hLk => ?_
 refine vP (pvLc (v := .int .u64 (limb (N / 2 ^ (j + 1) % ordL) 2)) (range_one (range_sub (M.r 0 0 rfl rfl) 2 1 2 (xs := [.int .u64 (limb (N / 2 ^ (j + 1) % ordL) 2)]) rfl rfl)) (M.lt 0 rfl)) ?_
 refine vB (v := .int .u64 (IntKind.u64.wrap ((limb (N / 2 ^ (j + 1) % ordL) 2) * 2))) (hr := run_shl1 (limb_nn _ _)) ?_
 refine vM ?_
 refine vB (v := .int .u64 (shb (limb (N / 2 ^ (j + 1) % ordL) 2) (top (limb (N / 2 ^ (j + 1) % ordL) 1)))) (hr := run_or rfl) ?_
 refine vM ?_; refine vF ?_
 refine hLk _ fun w72 M => ?_
 refine lS1 (g := g7) (off := 2) (n := 4) (v := .int .u64 (shb (limb (N / 2 ^ (j + 1) % ordL) 2) (top (limb (N / 2 ^ (j + 1) % ordL) 1)))) (M.t 0 rfl) (by decide) info40 rfl (fun w73 P R T => ?_)
 replace M := M.put1 (j := 2) 0 rfl P R T rfl
 simp only [Z6] at M
 refine lg ?_; refine lZ k65 ?_; refine Z13 ?_
 refine cM 1 fun Lk hLk => ?_
 refine vB (v := .int .i64 3) (hr := run_add (by decide)) ?_
 refine hLk _ fun w75 M => ?_
 refine lM ?_
 refine Z14 (Z15 ?_)
 refine Z22 (Q := fun _ _ _ => True) ?_
 rw [rounds_succ]
 refine qS fun _ k76 => ?_
 refine cM 1 fun Lk hLk => ?_
 refine vB (v := .bool true) (hr := run_lss _ _ _ _) ?_
 refine hLk _ fun w78 M => ?_
 refine lZ k76 ?_
 refine sk fun _ k79 => ?_
 refine cT ?_; refine sZ k79 ?_
 refine sk fun _ k80 => ?_
 refine wp_block ?_
 refine qS fun _ k81 => ?_
 refine lM ?_; refine lg ?_; refine lZ k81 ?_
 refine qS fun _ k83 => ?_
 refine lM ?_; refine lF ?_
 refine cM 2 fun Lk hLk => ?_
 refine vP (pvLc (v := .int .u64 (limb (N / 2 ^ (j + 1) % ordL) 3)) (range_one (range_sub (M.r 0 0 rfl rfl) 3 1 3 (xs := [.int .u64 (limb (N / 2 ^ (j + 1) % ordL) 3)]) rfl rfl)) (M.lt 0 rfl)) ?_
 refine vB (v := .int .u64 (top (limb (N / 2 ^ (j + 1) % ordL) 3))) (hr := run_top (limb_nn _ _)) ?_
 refine hLk _ fun w85 M => ?_
 refine lg ?_; refine lZ k83 ?_; refine Z13 ?_; refine lM ?_; refine lM ?_; refine lF ?_
 refine cM 6 fun Lk hLk => ?_
 refine vP (pvLc (v := .int .u64 (limb (N / 2 ^ (j + 1) % ordL) 3)) (range_one (range_sub (M.r 0 0 rfl rfl) 3 1 3 (xs := [.int .u64 (limb (N / 2 ^ (j + 1) % ordL) 3)]) rfl rfl)) (M.lt 0 rfl)) ?_
 refine vB (v := .int .u64 (IntKind.u64.wrap ((limb (N / 2 ^ (j + 1) % ordL) 3) * 2))) (hr := run_shl1 (limb_nn _ _)) ?_
 refine vM ?_
 refine vB (v := .int .u64 (shb (limb (N / 2 ^ (j + 1) % ordL) 3) (top (limb (N / 2 ^ (j + 1) % ordL) 2)))) (hr := run_or rfl) ?_
 refine vM ?_; refine vF ?_
 refine hLk _ fun w87 M => ?_
 refine lS1 (g := g7) (off := 3) (n := 4) (v := .int .u64 (shb (limb (N / 2 ^ (j + 1) % ordL) 3) (top (limb (N / 2 ^ (j + 1) % ordL) 2)))) (M.t 0 rfl) (by decide) info40 rfl (fun w88 P R T => ?_)
 replace M := M.put1 (j := 3) 0 rfl P R T rfl
 simp only [Z6] at M
 refine lg ?_; refine lZ k80 ?_; refine Z13 ?_
 refine cM 1 fun Lk hLk => ?_
 refine vB (v := .int .i64 4) (hr := run_add (by decide)) ?_
 refine hLk _ fun w90 M => ?_
 refine lM ?_
 refine Z14 (Z15 ?_)
 refine Z22 (Q := fun _ _ _ => True) ?_
 rw [rounds_succ]
 refine qS fun _ k91 => ?_
 refine cM 1 fun Lk hLk => ?_
 refine vB (v := .bool false) (hr := run_lss _ _ _ _) ?_
 refine hLk _ fun w93 M => ?_
 refine lZ k91 ?_
 refine sk fun _ _ => ?_
 refine cF ?_; refine eZ k28 ?_
 refine sk fun _ k95 => ?_
 replace M := M.read1 (cs := fel (restR N j)) 0 rfl (by rw [← restR_chain]; exact (M.r 0 0 rfl rfl))
 simp only [Z6] at M
 refine rH 7 [5] fun Lk hLk => ?_
 refine vL ?_; refine vC order_c ?_
 refine vC (sminus_c (restR_256 N j) ordL_lt) ?_
 refine vM ?_; refine vE ?_; refine vE ?_; refine vW ?_; refine hLk _ ?_; refine nA ?_
 refine n1 4 fun g97 w98 M => ?_
 refine sT 0 0 fun w99 M => ?_
 refine lg ?_; refine lZ k95 ?_
 refine qS fun _ k100 => ?_
 refine lM ?_
 refine cM 1 fun Lk hLk => ?_
 refine vB (v := .bool ((subB (restR N j) ordL) == 0)) (hr := run_eql _ _ _ _) ?_
 refine hLk _ fun w102 M => ?_
 refine lZ k100 ?_
 cases hc103 : ((subB (restR N j) ordL) == 0)
 ·
  have hq := restR_f hc103
  refine cF ?_; refine sZ k24 ?_; refine Z13 ?_; refine lM ?_
  refine cM 1 fun Lk hLk => ?_
  refine vB (v := .int .i64 (((j : Nat) : Int) - 1)) (hr := run_sub (by simp only [IntKind.wrap_i64]; omega)) ?_
  refine hLk _ fun w105 M => ?_
  refine lg ?_
  refine Z14 (Z15 ?_)
  replace M := M.read1 (cs := fel (N / 2 ^ j % ordL)) (o := 0) 1 rfl (by rw [← hq]; exact (M.r 1 0 rfl rfl))
  simp only [Z6] at M
  refine Exists.intro _ ⟨?_, j, (fun q9 => (#[Z9, Z9, Z9, Z9, Z9, .int .u64 (top (limb (N / 2 ^ (j + 1) % ordL) 3)), .int .i64 3, .int .u64 (top (limb (N / 2 ^ (j + 1) % ordL) 3)), .pointer (some ⟨g97, 0, none⟩), .int .u64 (subB (restR N j) ordL), Z9, Z9, Z9, Z9, .int .i64 j, .bool true, .int .i64 j, .int .i64 (((j : Nat) : Int) - 1), .slice (some ⟨gp, 0, none⟩) n cap, .int .i64 j, .int .i64 (j / 64 : Nat), .pointer (some ⟨gp, j / 64, none⟩), .int .u64 (limbN N (j / 64) : Nat), .int .i64 j, .int .i64 (j % 64 : Nat), .int .u64 (limbN N (j / 64) / 2 ^ (j % 64) : Nat), .int .u64 (N / 2 ^ j % 2 : Nat), .int .i64 4, .bool false, .int .i64 3, .int .i64 3, .pointer (some ⟨g7, 3, none⟩), .int .u64 (limb (N / 2 ^ (j + 1) % ordL) 3), .int .u64 (top (limb (N / 2 ^ (j + 1) % ordL) 3)), .int .i64 3, .int .i64 3, .pointer (some ⟨g7, 3, none⟩), .int .u64 (limb (N / 2 ^ (j + 1) % ordL) 3), .int .u64 (IntKind.u64.wrap ((limb (N / 2 ^ (j + 1) % ordL) 3) * 2)), .int .u64 (top (limb (N / 2 ^ (j + 1) % ordL) 2)), .int .u64 (shb (limb (N / 2 ^ (j + 1) % ordL) 3) (top (limb (N / 2 ^ (j + 1) % ordL) 2))), .int .u64 (top (limb (N / 2 ^ (j + 1) % ordL) 3)), .pointer (some ⟨g7, 3, none⟩), .int .i64 4, .tuple #[fe (subW (restR N j) ordL), .int .u64 (subB (restR N j) ordL)], fe (restR N j), fe ordL, .tuple #[fe (subW (restR N j) ordL), .int .u64 (subB (restR N j) ordL)], fe (subW (restR N j) ordL), .int .u64 (subB (restR N j) ordL), .int .u64 (subB (restR N j) ordL), .bool false, u13 52] : Array Value).getD q9 Z9), rfl, rfl, (M.pick [1, 2] (by decide) rfl), (by omega)⟩
  omega
 have hq := restR_t hc103
 refine cT ?_; refine Z13 ?_; refine lL ?_
 refine sT 1 0 fun w108 M => ?_
 refine lZ k24 ?_; refine Z13 ?_; refine lM ?_
 refine cM 1 fun Lk hLk => ?_
 refine vB (v := .int .i64 (((j : Nat) : Int) - 1)) (hr := run_sub (by simp only [IntKind.wrap_i64]; omega)) ?_
 refine hLk _ fun w110 M => ?_
 refine lg ?_
 refine Z14 (Z15 ?_)
 replace M := M.read1 (cs := fel (N / 2 ^ j % ordL)) (o := 0) 1 rfl (by rw [← hq]; exact (M.r 1 0 rfl rfl))
 simp only [Z6] at M
 refine Exists.intro _ ⟨?_, j, (fun q9 => (#[Z9, Z9, Z9, Z9, Z9, .int .u64 (top (limb (N / 2 ^ (j + 1) % ordL) 3)), .int .i64 3, .int .u64 (top (limb (N / 2 ^ (j + 1) % ordL) 3)), .pointer (some ⟨g97, 0, none⟩), .int .u64 (subB (restR N j) ordL), Z9, Z9, Z9, Z9, .int .i64 j, .bool true, .int .i64 j, .int .i64 (((j : Nat) : Int) - 1), .slice (some ⟨gp, 0, none⟩) n cap, .int .i64 j, .int .i64 (j / 64 : Nat), .pointer (some ⟨gp, j / 64, none⟩), .int .u64 (limbN N (j / 64) : Nat), .int .i64 j, .int .i64 (j % 64 : Nat), .int .u64 (limbN N (j / 64) / 2 ^ (j % 64) : Nat), .int .u64 (N / 2 ^ j % 2 : Nat), .int .i64 4, .bool false, .int .i64 3, .int .i64 3, .pointer (some ⟨g7, 3, none⟩), .int .u64 (limb (N / 2 ^ (j + 1) % ordL) 3), .int .u64 (top (limb (N / 2 ^ (j + 1) % ordL) 3)), .int .i64 3, .int .i64 3, .pointer (some ⟨g7, 3, none⟩), .int .u64 (limb (N / 2 ^ (j + 1) % ordL) 3), .int .u64 (IntKind.u64.wrap ((limb (N / 2 ^ (j + 1) % ordL) 3) * 2)), .int .u64 (top (limb (N / 2 ^ (j + 1) % ordL) 2)), .int .u64 (shb (limb (N / 2 ^ (j + 1) % ordL) 3) (top (limb (N / 2 ^ (j + 1) % ordL) 2))), .int .u64 (top (limb (N / 2 ^ (j + 1) % ordL) 3)), .pointer (some ⟨g7, 3, none⟩), .int .i64 4, .tuple #[fe (subW (restR N j) ordL), .int .u64 (subB (restR N j) ordL)], fe (restR N j), fe ordL, .tuple #[fe (subW (restR N j) ordL), .int .u64 (subB (restR N j) ordL)], fe (subW (restR N j) ordL), .int .u64 (subB (restR N j) ordL), .int .u64 (subB (restR N j) ordL), .bool true, fe (subW (restR N j) ordL)] : Array Value).getD q9 Z9), rfl, rfl, (M.pick [1, 2] (by decide) rfl), (by omega)⟩
 omega
end Go.Proofs.Ya

namespace Go.Proofs.Ya
open Go Go.RowKit Go.Shelf Go.Proofs.Num
open Tryd renaming underlying124 → U9124, underlying80 → U980
open Go.Proofs.Num  renaming putT → Z0
open Nat renaming lt_of_lt_of_le → Z1, zero_add → Z2
open List renaming set → Z6
open Go renaming undef → Z9
open Go.Proofs.Num renaming wp_region_seq → Z13, wpL_nil → Z14, no_panic → Z15, range_sees → Z26
attribute [local irreducible] wpV wpN wpList
set_option maxHeartbeats 1000000 in
theorem sleast_c {x : Nat} (hx : x < 2 ^ 256) (w : World) :
  Calls Tryd.prog 84 #[fe x] w fun e w' => e = .returned (fe (restS x)) ∧ Below w.heap.size w w' := by
 go_enter Tryd.func84, Tryd.ntmps84
 have M := Mem.start w
 refine qS fun _ k1 => ?_
 refine nV 4 fun g3 w4 M => ?_
 refine nV 4 fun g5 w6 M => ?_
 refine lZ k1 ?_
 refine qS fun _ k7 => ?_
 refine cM 2 fun Lk hLk => ?_
 refine wpV_sliceA (n := 4) (by rfl) rfl rfl U980 info40 ?_
 simp only [Z0, Z6]
 refine vCh (v := fe (restS x)) (fun W hW => rest_c (n := 4) (N := x) (by decide) (by simpa using hx) (Z1 (M.lt 1 rfl) hW.2.2.size) (Z26 (show World.rangeAt _ _ _ (wl 4 x) from (M.r 1 0 rfl rfl)) (M.lt 1 rfl) hW)) ?_
 refine hLk _ fun w9 M => ?_
 refine sT 0 0 fun w10 M => ?_
 refine lZ k7 ?_; refine rt ?_
 refine bodyPost_ret (v := fe (restS x)) (res1 rfl (.cell (by rfl) (run_loadVar_mid _ _ _ _ (fel (restS x)) _ (M.r 0 0 rfl rfl) U980 rfl info80))) rfl ?_
 exact ⟨rfl, M.below⟩
set_option maxHeartbeats 1000000 in
theorem sadd_c {x : Nat} (hx : x < 2 ^ 256) {y : Nat} (hy : y < 2 ^ 256) (w : World) :
  Calls Tryd.prog 49 #[fe x, fe y] w fun e w' => e = .returned (fe (sadd x y)) ∧ Below w.heap.size w w' := by
 go_enter Tryd.func49, Tryd.ntmps49
 have M := Mem.start w
 refine qS fun _ k1 => ?_
 refine nV 4 fun g3 w4 M => ?_
 refine nV 4 fun g5 w6 M => ?_
 refine nV 4 fun g7 w8 M => ?_
 refine lZ k1 ?_
 refine qS fun _ k9 => ?_
 refine nV 5 fun g11 w12 M => ?_
 refine lZ k9 ?_
 refine sk fun _ k13 => ?_
 refine qS fun _ k14 => ?_
 refine lM ?_; refine lZ k14 ?_; refine wp_block ?_
 replace M := M.read1 (cs := wl 5 0) (o := 0) 0 rfl (by rw [wl_zero]; exact (M.r 0 0 rfl rfl))
 simp only [Z6] at M
 refine wp_loop_ghost (fun n9 a9 W9 => ∃ (i : Nat) (Z : Nat) (u16 : Nat → Value), n9 = 4 - i ∧ a9 = { tmps := #[fe x, fe y, .pointer (some ⟨g3, 0, none⟩), .pointer (some ⟨g5, 0, none⟩), .pointer (some ⟨g7, 0, none⟩), .pointer (some ⟨g11, 0, none⟩), u16 6, u16 7, u16 8, u16 9, u16 10, .int .i64 i, u16 12, u16 13, u16 14, u16 15, u16 16, u16 17, u16 18, u16 19, u16 20, u16 21, u16 22, u16 23, u16 24, u16 25, u16 26, u16 27, u16 28, u16 29, u16 30, u16 31, u16 32, u16 33, u16 34, u16 35, u16 36, u16 37, u16 38, u16 39, u16 40, u16 41, Z9, Z9], defers := [] } ∧ Mem [] w W9 [⟨g11, 5, [(0, wl 5 Z)]⟩, ⟨g7, 4, [(0, [.int .u64 0, .int .u64 0, .int .u64 0, .int .u64 0])]⟩, ⟨g5, 4, [(0, fel y)]⟩, ⟨g3, 4, [(0, fel x)]⟩] ∧ (i ≤ 4) ∧ (SumInv x y i Z)) (4 - (0)) ?_ (fun n9 a9 W9 hI => ?_)
 ·
  exact ⟨0, 0, (fun q9 => (#[Z9, Z9, Z9, Z9, Z9, Z9, Z9, Z9, Z9, Z9, Z9, Z9, Z9, Z9, Z9, Z9, Z9, Z9, Z9, Z9, Z9, Z9, Z9, Z9, Z9, Z9, Z9, Z9, Z9, Z9, Z9, Z9, Z9, Z9, Z9, Z9, Z9, Z9, Z9, Z9, Z9, Z9] : Array Value).getD q9 Z9), rfl, rfl, M, (by omega), (sum_start x y)⟩
 clear M
 obtain ⟨i, Z, u16, rfl, rfl, M, hi4, HS⟩ := hI
 obtain ⟨w17, rfl⟩ : ∃ W8, W8 = W9 := ⟨_, rfl⟩
 refine qS fun _ k18 => ?_
 refine cM 1 fun Lk hLk => ?_
 refine vB (v := .bool (decide (i < 4))) (hr := run_lssN i 4 _ _) ?_
 refine hLk _ fun w20 M => ?_
 refine lZ k18 ?_
 refine sk fun _ k21 => ?_
 cases hc22 : (decide (i < 4))
 ·
  have ei : i = 4 := by have := of_decide_eq_false hc22; omega
  subst ei
  have eM := sum_end hx hy HS
  subst eM
  refine cF ?_; refine eZ k13 ?_
  refine qS fun _ k23 => ?_
  refine cM 2 fun Lk hLk => ?_
  refine wpV_sliceA (n := 5) (by rfl) rfl rfl U9124 info40 ?_
  simp only [Z0, Z6]
  refine vCh (v := fe (restS (x + y))) (fun W hW => rest_c (n := 5) (N := (x + y)) (by decide) (by simp only [Nat.reducePow] at hx hy ⊢; omega) (Z1 (M.lt 0 rfl) hW.2.2.size) (Z26 (M.r 0 0 rfl rfl) (M.lt 0 rfl) hW)) ?_
  refine hLk _ fun w25 M => ?_
  refine sT 1 0 fun w26 M => ?_
  refine lZ k23 ?_; refine rt ?_
  refine bodyPost_ret (v := fe (restS (x + y))) (res1 rfl (.cell (by rfl) (run_loadVar_mid _ _ _ _ (fel (restS (x + y))) _ (M.r 1 0 rfl rfl) U980 rfl info80))) rfl ?_
  exact ⟨rfl, M.below⟩
 have hi : i < 4 := of_decide_eq_true hc22
 refine cT ?_; refine sZ k21 ?_
 refine sk fun _ k27 => ?_
 refine wp_block ?_
 refine qS fun _ k28 => ?_
 refine lM ?_; refine lg ?_; refine lZ k28 ?_
 refine sk fun _ k30 => ?_
 refine rG 10 [9] fun Lk hLk => ?_
 refine vM ?_
 refine wpV_idx (n := i) (by rfl) rfl rfl rfl U980 info40 (by omega) ?_
 simp only [Z2]
 simp only [Z0, Z6]
 refine vQ (v := .int .u64 (limbN x i : Nat)) (hc := (zadd ((M.r 3 0 rfl rfl) _ _ (fel_get (j := i) x (by omega))))) (hb := (M.lt 3 rfl)) ?_
 refine vM ?_
 refine wpV_idx (n := i) (by rfl) rfl rfl rfl U980 info40 (by omega) ?_
 simp only [Z2]
 simp only [Z0, Z6]
 refine vQ (v := .int .u64 (limbN y i : Nat)) (hc := (zadd ((M.r 2 0 rfl rfl) _ _ (fel_get (j := i) y (by omega))))) (hb := (M.lt 2 rfl)) ?_
 refine wpV_ext (v := .tuple #[.int .u64 ((limbN x i + limbN y i) % 18446744073709551616 : Nat), .int .u64 ((limbN x i + limbN y i) / 18446744073709551616 : Nat)]) (f := 85) (args := #[.int .u64 (limbN x i : Nat), .int .u64 (limbN y i : Nat), .int .u64 0]) (by rfl) rfl rfl (addN (x := limbN x i) (y := limbN y i) (c := 0) (limbN_lt _ _) (limbN_lt _ _) (by omega)) ?_
 simp only [Z0, Z6]
 refine vM ?_; refine vE ?_; refine vE ?_
 refine hLk _ fun w32 M => ?_
 refine lg ?_; refine lg ?_; refine lZ k30 ?_
 refine qS fun _ k33 => ?_
 refine lM ?_; refine lM ?_
 refine cM 6 fun Lk hLk => ?_
 refine wpV_idx (n := i) (by rfl) rfl rfl rfl U9124 info40 (by omega) ?_
 simp only [Z2]
 simp only [Z0, Z6]
 refine vQ (v := .int .u64 (limbN Z i : Nat)) (hc := (zadd ((M.r 0 0 rfl rfl) _ _ (wl_get (j := i) 5 Z (by omega))))) (hb := (M.lt 0 rfl)) ?_
 refine wpV_ext (v := .tuple #[.int .u64 (((limbN x i + limbN y i) % 18446744073709551616 + limbN Z i) % 18446744073709551616 : Nat), .int .u64 (((limbN x i + limbN y i) % 18446744073709551616 + limbN Z i) / 18446744073709551616 : Nat)]) (f := 85) (args := #[.int .u64 ((limbN x i + limbN y i) % 18446744073709551616 : Nat), .int .u64 (limbN Z i : Nat), .int .u64 0]) (by rfl) rfl rfl (addN (x := (limbN x i + limbN y i) % 18446744073709551616) (y := limbN Z i) (c := 0) (Nat.mod_lt _ (by decide)) (limbN_lt _ _) (by omega)) ?_
 simp only [Z0, Z6]
 refine vM ?_; refine vE ?_; refine vE ?_
 refine hLk _ fun w35 M => ?_
 refine lg ?_; refine lg ?_; refine lZ k33 ?_; refine Z13 ?_; refine lM ?_; refine lM ?_
 refine cM 6 fun Lk hLk => ?_
 refine vB (v := .int .i64 (i + 1 : Nat)) (hr := run_add (by simp only [IntKind.wrap_i64]; omega)) ?_
 refine vM ?_; refine vM ?_; refine vM ?_
 refine vB (v := .int .u64 (sumC x y i Z : Nat)) (hr := run_add (by have := sumC_lt x y i Z; unfold sumC at this ⊢; rw [wrap_u64]; omega)) ?_
 refine wpV_idx (n := i) (by rfl) rfl rfl rfl U9124 info40 (by omega) ?_
 simp only [Z2]
 simp only [Z0, Z6]
 refine hLk _ fun w37 M => ?_
 refine lS1 (g := g11) (off := i) (n := 5) (v := .int .u64 (((limbN x i + limbN y i) % 18446744073709551616 + limbN Z i) % 18446744073709551616 : Nat)) (M.t 0 rfl) (by omega) info40 rfl (fun w38 P R T => ?_)
 replace M := M.put1 (j := i) 0 rfl P R T (Z2 _).symm
 simp only [Z6] at M
 rw [show (((limbN x i + limbN y i) % 18446744073709551616 + limbN Z i) % 18446744073709551616) = sumT x y i Z from rfl, wl_set (sumM_eq x y i Z) (sumT_lt x y i Z)] at M
 refine cM 1 fun Lk hLk => ?_
 refine wpV_idx (n := i + 1) (by rfl) rfl rfl rfl U9124 info40 (by omega) ?_
 simp only [Z2]
 simp only [Z0, Z6]
 refine hLk _ fun w39 M => ?_
 refine lS1 (g := g11) (off := i + 1) (n := 5) (v := .int .u64 (sumC x y i Z : Nat)) (M.t 0 rfl) (by omega) info40 rfl (fun w40 P R T => ?_)
 replace M := M.put1 (j := i + 1) 0 rfl P R T (Z2 _).symm
 simp only [Z6] at M
 rw [show (sumC x y i Z) = sumC x y i Z from rfl, wl_set (sumN_eq HS) (sumC_lt x y i Z)] at M
 refine lZ k27 ?_; refine Z13 ?_
 refine cM 1 fun Lk hLk => ?_
 refine vB (v := .int .i64 (i + 1 : Nat)) (hr := run_add (by simp only [IntKind.wrap_i64]; omega)) ?_
 refine hLk _ fun w42 M => ?_
 refine lM ?_
 refine Z14 (Z15 ?_)
 refine Exists.intro _ ⟨?_, (i + 1), (sumN x y i Z), (fun q9 => (#[Z9, Z9, Z9, Z9, Z9, Z9, .int .i64 i, .int .u64 ((limbN x i + limbN y i) % 18446744073709551616 : Nat), .int .u64 ((limbN x i + limbN y i) / 18446744073709551616 : Nat), .int .u64 (((limbN x i + limbN y i) % 18446744073709551616 + limbN Z i) % 18446744073709551616 : Nat), .int .u64 (((limbN x i + limbN y i) % 18446744073709551616 + limbN Z i) / 18446744073709551616 : Nat), Z9, .bool true, .int .i64 i, .tuple #[.int .u64 ((limbN x i + limbN y i) % 18446744073709551616 : Nat), .int .u64 ((limbN x i + limbN y i) / 18446744073709551616 : Nat)], .int .i64 i, .pointer (some ⟨g3, i, none⟩), .int .u64 (limbN x i : Nat), .int .i64 i, .pointer (some ⟨g5, i, none⟩), .int .u64 (limbN y i : Nat), .tuple #[.int .u64 ((limbN x i + limbN y i) % 18446744073709551616 : Nat), .int .u64 ((limbN x i + limbN y i) / 18446744073709551616 : Nat)], .int .u64 ((limbN x i + limbN y i) % 18446744073709551616 : Nat), .int .u64 ((limbN x i + limbN y i) / 18446744073709551616 : Nat), .tuple #[.int .u64 (((limbN x i + limbN y i) % 18446744073709551616 + limbN Z i) % 18446744073709551616 : Nat), .int .u64 (((limbN x i + limbN y i) % 18446744073709551616 + limbN Z i) / 18446744073709551616 : Nat)], .int .u64 ((limbN x i + limbN y i) % 18446744073709551616 : Nat), .int .i64 i, .pointer (some ⟨g11, i, none⟩), .int .u64 (limbN Z i : Nat), .tuple #[.int .u64 (((limbN x i + limbN y i) % 18446744073709551616 + limbN Z i) % 18446744073709551616 : Nat), .int .u64 (((limbN x i + limbN y i) % 18446744073709551616 + limbN Z i) / 18446744073709551616 : Nat)], .int .u64 (((limbN x i + limbN y i) % 18446744073709551616 + limbN Z i) % 18446744073709551616 : Nat), .int .u64 (((limbN x i + limbN y i) % 18446744073709551616 + limbN Z i) / 18446744073709551616 : Nat), .int .i64 i, .int .i64 i, .int .i64 (i + 1 : Nat), .int .u64 (((limbN x i + limbN y i) % 18446744073709551616 + limbN Z i) % 18446744073709551616 : Nat), .int .u64 ((limbN x i + limbN y i) / 18446744073709551616 : Nat), .int .u64 (((limbN x i + limbN y i) % 18446744073709551616 + limbN Z i) / 18446744073709551616 : Nat), .int .u64 (sumC x y i Z : Nat), .pointer (some ⟨g11, i, none⟩), .pointer (some ⟨g11, i + 1, none⟩), .int .i64 (i + 1 : Nat)] : Array Value).getD q9 Z9), rfl, rfl, M, (by omega), (sum_step HS)⟩
 omega
end Go.Proofs.Ya

namespace Go.Proofs.Ya
open Go Go.RowKit Go.Shelf Go.Proofs.Num
open Tryd renaming underlying129 → U9129, underlying29 → U929, underlying40 → U940, underlying5 → U95, underlying80 → U980, underlying9 → U99
open Go.Proofs.Num  renaming putT → Z0
open Nat renaming lt_of_lt_of_le → Z1, zero_add → Z2, mod_eq_of_lt → Z5
open List renaming set → Z6
open Go renaming undef → Z9
open Go.Proofs.Num renaming wp_region_seq → Z13, wpL_nil → Z14, no_panic → Z15, range_sees → Z26
attribute [local irreducible] wpV wpN wpList
theorem info5 : (Tryd.prog.info? 5).map (·.size) = some 1 := by kernel_rfl
set_option maxHeartbeats 1000000 in
theorem smul_c {x : Nat} (hx : x < 2 ^ 256) {y : Nat} (hy : y < 2 ^ 256) (w : World) :
  Calls Tryd.prog 50 #[fe x, fe y] w fun e w' => e = .returned (fe (smul x y)) ∧ Below w.heap.size w w' := by
 go_enter Tryd.func50, Tryd.ntmps50
 have M := Mem.start w
 refine qS fun _ k1 => ?_
 refine nV 4 fun g3 w4 M => ?_
 refine nV 4 fun g5 w6 M => ?_
 refine nV 4 fun g7 w8 M => ?_
 refine lZ k1 ?_
 refine qS fun _ k9 => ?_
 refine nV 8 fun g11 w12 M => ?_
 refine lZ k9 ?_
 refine sk fun _ k13 => ?_
 refine qS fun _ k14 => ?_
 refine lL ?_; refine lM ?_; refine lZ k14 ?_; refine wp_block ?_
 replace M := M.read1 (cs := wl 8 0) (o := 0) 0 rfl (by rw [wl_zero]; exact (M.r 0 0 rfl rfl))
 simp only [Z6] at M
 refine wp_loop_ghost (fun n9 a9 W9 => ∃ (i : Nat) (N : Nat) (u17 : Nat → Value), n9 = 4 - i ∧ a9 = { tmps := #[fe x, fe y, .pointer (some ⟨g3, 0, none⟩), .pointer (some ⟨g5, 0, none⟩), .pointer (some ⟨g7, 0, none⟩), .pointer (some ⟨g11, 0, none⟩), u17 6, u17 7, u17 8, u17 9, u17 10, u17 11, u17 12, u17 13, u17 14, u17 15, u17 16, fe x, .int .i64 i, u17 19, u17 20, u17 21, u17 22, u17 23, u17 24, u17 25, u17 26, u17 27, u17 28, u17 29, u17 30, u17 31, u17 32, u17 33, u17 34, u17 35, u17 36, u17 37, u17 38, u17 39, u17 40, u17 41, u17 42, u17 43, u17 44, u17 45, u17 46, u17 47, u17 48, u17 49, u17 50, u17 51, u17 52, u17 53, u17 54, u17 55, u17 56, u17 57, u17 58, u17 59, u17 60, u17 61, u17 62, u17 63, u17 64, Z9, Z9], defers := [] } ∧ Mem [] w W9 [⟨g11, 8, [(0, wl 8 N)]⟩, ⟨g7, 4, [(0, [.int .u64 0, .int .u64 0, .int .u64 0, .int .u64 0])]⟩, ⟨g5, 4, [(0, fel y)]⟩, ⟨g3, 4, [(0, fel x)]⟩] ∧ (i ≤ 4) ∧ (N = (x % 2 ^ (64 * i)) * y)) (4 - (0)) ?_ (fun n9 a9 W9 hI => ?_)
 ·
  exact ⟨0, 0, (fun q9 => (#[Z9, Z9, Z9, Z9, Z9, Z9, Z9, Z9, Z9, Z9, Z9, Z9, Z9, Z9, Z9, Z9, Z9, Z9, Z9, Z9, Z9, Z9, Z9, Z9, Z9, Z9, Z9, Z9, Z9, Z9, Z9, Z9, Z9, Z9, Z9, Z9, Z9, Z9, Z9, Z9, Z9, Z9, Z9, Z9, Z9, Z9, Z9, Z9, Z9, Z9, Z9, Z9, Z9, Z9, Z9, Z9, Z9, Z9, Z9, Z9, Z9, Z9, Z9, Z9, Z9] : Array Value).getD q9 Z9), rfl, rfl, M, (by omega), (by simp [Nat.mod_one])⟩
 clear M
 obtain ⟨i, N, u17, rfl, rfl, M, hi4, HN⟩ := hI
 obtain ⟨w18, rfl⟩ : ∃ W8, W8 = W9 := ⟨_, rfl⟩
 refine qS fun _ k19 => ?_
 refine cM 1 fun Lk hLk => ?_
 refine vB (v := .bool (decide (i < 4))) (hr := run_lssN i 4 _ _) ?_
 refine hLk _ fun w21 M => ?_
 refine lZ k19 ?_
 refine sk fun _ k22 => ?_
 cases hc23 : (decide (i < 4))
 ·
  have ei : i = 4 := by have := of_decide_eq_false hc23; omega
  subst ei
  refine cF ?_; refine eZ k13 ?_
  refine sk fun _ k24 => ?_
  have hN : N = x * y := by rw [HN, Z5 (by simpa using hx)]
  subst hN
  refine Z13 ?_
  refine cM 2 fun Lk hLk => ?_
  refine wpV_sliceA (n := 8) (by rfl) rfl rfl U9129 info40 ?_
  simp only [Z0, Z6]
  refine vCh (v := fe (restS (x * y))) (fun W hW => rest_c (n := 8) (N := (x * y)) (by decide) (mul_512 hx hy) (Z1 (M.lt 0 rfl) hW.2.2.size) (Z26 (M.r 0 0 rfl rfl) (M.lt 0 rfl) hW)) ?_
  refine hLk _ fun w26 M => ?_
  refine sT 1 0 fun w27 M => ?_
  refine lZ k24 ?_; refine rt ?_
  refine bodyPost_ret (v := fe (restS (x * y))) (res1 rfl (.cell (by rfl) (run_loadVar_mid _ _ _ _ (fel (restS (x * y))) _ (M.r 1 0 rfl rfl) U980 rfl info80))) rfl ?_
  exact ⟨rfl, M.below⟩
 have hi : i < 4 := of_decide_eq_true hc23
 refine cT ?_; refine sZ k22 ?_
 refine sk fun _ k28 => ?_
 refine wp_block ?_
 refine qS fun _ k29 => ?_
 refine lM ?_
 refine cM 1 fun Lk hLk => ?_
 refine wpV_index (n := i) (v := .int .u64 (limbN x i : Nat)) (by rfl) rfl rfl rfl U980 info40 U940 rfl (by omega) (fel_get (j := i) x (by omega)) ?_
 simp only [Z0, Z6]
 refine hLk _ fun w31 M => ?_
 refine lg ?_; refine lg ?_; refine lZ k29 ?_
 refine qS fun _ k32 => ?_
 refine lg ?_; refine lZ k32 ?_
 refine sk fun _ k34 => ?_
 refine qS fun _ k35 => ?_
 refine lL ?_; refine lM ?_; refine lZ k35 ?_; refine wp_block ?_
 refine wp_loop_ghost (fun n9 a9 W9 => ∃ (k : Nat) (Z : Nat) (c : Nat) (u38 : Nat → Value), n9 = 4 - k ∧ a9 = { tmps := #[fe x, fe y, .pointer (some ⟨g3, 0, none⟩), .pointer (some ⟨g5, 0, none⟩), .pointer (some ⟨g7, 0, none⟩), .pointer (some ⟨g11, 0, none⟩), .int .i64 i, .int .u64 (limbN x i : Nat), .int .u64 c, u38 9, u38 10, u38 11, u38 12, u38 13, u38 14, u38 15, u38 16, fe x, .int .i64 i, .bool true, .int .i64 i, .int .u64 (limbN x i : Nat), fe y, .int .i64 k, u38 24, u38 25, u38 26, u38 27, u38 28, u38 29, u38 30, u38 31, u38 32, u38 33, u38 34, u38 35, u38 36, u38 37, u38 38, u38 39, u38 40, u38 41, u38 42, u38 43, u38 44, u38 45, u38 46, u38 47, u38 48, u38 49, u38 50, u38 51, u38 52, u38 53, u38 54, u38 55, u38 56, u38 57, u38 58, u38 59, u17 60, u17 61, u17 62, u17 63, u17 64, Z9, Z9], defers := [] } ∧ Mem [] w W9 [⟨g11, 8, [(0, wl 8 Z)]⟩, ⟨g7, 4, [(0, [.int .u64 0, .int .u64 0, .int .u64 0, .int .u64 0])]⟩, ⟨g5, 4, [(0, fel y)]⟩, ⟨g3, 4, [(0, fel x)]⟩] ∧ (k ≤ 4) ∧ (WideInv x y i k Z c)) (4 - (0)) ?_ (fun n9 a9 W9 hI => ?_)
 ·
  exact ⟨0, N, 0, (fun q9 => (#[Z9, Z9, Z9, Z9, Z9, Z9, Z9, Z9, Z9, u17 9, u17 10, u17 11, u17 12, u17 13, u17 14, u17 15, u17 16, Z9, Z9, Z9, Z9, Z9, Z9, Z9, u17 24, u17 25, u17 26, u17 27, u17 28, u17 29, u17 30, u17 31, u17 32, u17 33, u17 34, u17 35, u17 36, u17 37, u17 38, u17 39, u17 40, u17 41, u17 42, u17 43, u17 44, u17 45, u17 46, u17 47, u17 48, u17 49, u17 50, u17 51, u17 52, u17 53, u17 54, u17 55, u17 56, u17 57, u17 58, u17 59] : Array Value).getD q9 Z9), rfl, rfl, M, (by omega), (wide_start HN hy)⟩
 clear M
 obtain ⟨k, Z, c, u38, rfl, rfl, M, hk4, HW⟩ := hI
 obtain ⟨w39, rfl⟩ : ∃ W8, W8 = W9 := ⟨_, rfl⟩
 have hcw := HW.word
 refine qS fun _ k40 => ?_
 refine cM 1 fun Lk hLk => ?_
 refine vB (v := .bool (decide (k < 4))) (hr := run_lssN k 4 _ _) ?_
 refine hLk _ fun w42 M => ?_
 refine lZ k40 ?_
 refine sk fun _ k43 => ?_
 cases hc44 : (decide (k < 4))
 ·
  have ek : k = 4 := by have := of_decide_eq_false hc44; omega
  subst ek
  refine cF ?_; refine eZ k34 ?_; refine Z13 ?_; refine lM ?_
  refine cM 3 fun Lk hLk => ?_
  refine vB (v := .int .i64 (i + 4 : Nat)) (hr := run_add (by simp only [IntKind.wrap_i64]; omega)) ?_
  refine vM ?_
  refine wpV_idx (n := i + 4) (by rfl) rfl rfl rfl U9129 info40 (by omega) ?_
  simp only [Z2]
  simp only [Z0, Z6]
  refine hLk _ fun w46 M => ?_
  refine lS1 (g := g11) (off := i + 4) (n := 8) (v := .int .u64 c) (M.t 0 rfl) (by omega) info40 rfl (fun w47 P R T => ?_)
  replace M := M.put1 (j := i + 4) 0 rfl P R T (Z2 _).symm
  simp only [Z6] at M
  rw [wl_set (wideN_eq hy HW) HW.word] at M
  refine lZ k28 ?_; refine Z13 ?_
  refine cM 1 fun Lk hLk => ?_
  refine vB (v := .int .i64 (i + 1 : Nat)) (hr := run_add (by simp only [IntKind.wrap_i64]; omega)) ?_
  refine hLk _ fun w49 M => ?_
  refine lM ?_
  refine Z14 (Z15 ?_)
  refine Exists.intro _ ⟨?_, (i + 1), (wideN Z i c), (fun q9 => (#[Z9, Z9, Z9, Z9, Z9, Z9, .int .i64 i, .int .u64 (limbN x i : Nat), .int .u64 c, u38 9, u38 10, u38 11, u38 12, u38 13, u38 14, u38 15, u38 16, Z9, Z9, .bool true, .int .i64 i, .int .u64 (limbN x i : Nat), fe y, .int .i64 (4 : Nat), .bool false, u38 25, u38 26, u38 27, u38 28, u38 29, u38 30, u38 31, u38 32, u38 33, u38 34, u38 35, u38 36, u38 37, u38 38, u38 39, u38 40, u38 41, u38 42, u38 43, u38 44, u38 45, u38 46, u38 47, u38 48, u38 49, u38 50, u38 51, u38 52, u38 53, u38 54, u38 55, u38 56, u38 57, u38 58, u38 59, .int .i64 i, .int .i64 (i + 4 : Nat), .int .u64 c, .pointer (some ⟨g11, i + 4, none⟩), .int .i64 (i + 1 : Nat)] : Array Value).getD q9 Z9), rfl, rfl, M, (by omega), (wide_end hy HW).1⟩
  omega
 have hk : k < 4 := of_decide_eq_true hc44
 refine cT ?_; refine sZ k43 ?_
 refine sk fun _ k50 => ?_
 refine wp_block ?_
 refine qS fun _ k51 => ?_
 refine lM ?_
 refine cM 1 fun Lk hLk => ?_
 refine wpV_index (n := k) (v := .int .u64 (limbN y k : Nat)) (by rfl) rfl rfl rfl U980 info40 U940 rfl (by omega) (fel_get (j := k) y (by omega)) ?_
 simp only [Z0, Z6]
 refine hLk _ fun w53 M => ?_
 refine lg ?_; refine lg ?_; refine lZ k51 ?_
 refine qS fun _ k54 => ?_
 refine lM ?_; refine lM ?_
 refine cM 4 fun Lk hLk => ?_
 refine vC (mul64_c (limbN_lt _ _) (limbN_lt _ _)) ?_
 refine vM ?_; refine vE ?_; refine vE ?_
 refine hLk _ fun w56 M => ?_
 refine lg ?_; refine lg ?_; refine lZ k54 ?_
 refine qS fun _ k57 => ?_
 refine lM ?_; refine lM ?_; refine lM ?_
 refine cM 7 fun Lk hLk => ?_
 refine vB (v := .int .i64 (i + k : Nat)) (hr := run_add (by simp only [IntKind.wrap_i64]; omega)) ?_
 refine wpV_idx (n := i + k) (by rfl) rfl rfl rfl U9129 info40 (by omega) ?_
 simp only [Z2]
 simp only [Z0, Z6]
 refine vQ (v := .int .u64 (limbN Z (i + k) : Nat)) (hc := (zadd ((M.r 0 0 rfl rfl) _ _ (wl_get (j := i + k) 8 Z (by omega))))) (hb := (M.lt 0 rfl)) ?_
 refine wpV_ext (v := .tuple #[.int .u64 (((limbN x i) * (limbN y k) % 18446744073709551616 + limbN Z (i + k)) % 18446744073709551616 : Nat), .int .u64 (((limbN x i) * (limbN y k) % 18446744073709551616 + limbN Z (i + k)) / 18446744073709551616 : Nat)]) (f := 85) (args := #[.int .u64 ((limbN x i) * (limbN y k) % 18446744073709551616 : Nat), .int .u64 (limbN Z (i + k) : Nat), .int .u64 0]) (by rfl) rfl rfl (addN (x := (limbN x i) * (limbN y k) % 18446744073709551616) (y := limbN Z (i + k)) (c := 0) (Nat.mod_lt _ (by decide)) (limbN_lt _ _) (by omega)) ?_
 simp only [Z0, Z6]
 refine vM ?_; refine vE ?_; refine vE ?_
 refine hLk _ fun w59 M => ?_
 refine lg ?_; refine lg ?_; refine lZ k57 ?_
 refine qS fun _ k60 => ?_
 refine lM ?_; refine lM ?_
 refine cM 4 fun Lk hLk => ?_
 refine wpV_ext (v := .tuple #[.int .u64 (((((limbN x i) * (limbN y k) % 18446744073709551616 + limbN Z (i + k)) % 18446744073709551616 + c) % 18446744073709551616 : Nat) : Int), .int .u64 (((((limbN x i) * (limbN y k) % 18446744073709551616 + limbN Z (i + k)) % 18446744073709551616 + c) / 18446744073709551616 : Nat) : Int)]) (f := 85) (args := #[.int .u64 (((limbN x i) * (limbN y k) % 18446744073709551616 + limbN Z (i + k)) % 18446744073709551616 : Nat), .int .u64 c, .int .u64 0]) (by rfl) rfl rfl (addN (x := ((limbN x i) * (limbN y k) % 18446744073709551616 + limbN Z (i + k)) % 18446744073709551616) (y := c) (c := 0) (Nat.mod_lt _ (by decide)) (by omega) (by omega)) ?_
 simp only [Z0, Z6]
 refine vM ?_; refine vE ?_; refine vE ?_
 refine hLk _ fun w62 M => ?_
 refine lg ?_; refine lg ?_; refine lZ k60 ?_; refine Z13 ?_; refine lM ?_; refine lM ?_
 refine cM 8 fun Lk hLk => ?_
 refine vB (v := .int .i64 (i + k : Nat)) (hr := run_add (by simp only [IntKind.wrap_i64]; omega)) ?_
 refine vM ?_; refine vM ?_; refine vM ?_
 refine vB (v := .int .u64 (limbN x i * limbN y k / 18446744073709551616 + (limbN x i * limbN y k % 18446744073709551616 + limbN Z (i + k)) / 18446744073709551616 : Nat)) (hr := run_add (by have := (wide_parts HW).2; unfold wideC at this; rw [wrap_u64]; omega)) ?_
 refine vM ?_
 refine vB (v := .int .u64 (wideC x y i k Z c : Nat)) (hr := run_add (by have := (wide_parts HW).2; unfold wideC at this ⊢; rw [wrap_u64]; omega)) ?_
 refine wpV_idx (n := i + k) (by rfl) rfl rfl rfl U9129 info40 (by omega) ?_
 simp only [Z2]
 simp only [Z0, Z6]
 refine hLk _ fun w64 M => ?_
 refine lS1 (g := g11) (off := i + k) (n := 8) (v := .int .u64 (((((limbN x i) * (limbN y k) % 18446744073709551616 + limbN Z (i + k)) % 18446744073709551616 + c) % 18446744073709551616 : Nat) : Int)) (M.t 0 rfl) (by omega) info40 rfl (fun w65 P R T => ?_)
 replace M := M.put1 (j := i + k) 0 rfl P R T (Z2 _).symm
 simp only [Z6] at M
 rw [show ((((limbN x i) * (limbN y k) % 18446744073709551616 + limbN Z (i + k)) % 18446744073709551616 + c) % 18446744073709551616) = wideLo x y i k Z c from rfl, wl_set (wideM_eq x y i k Z c) (wideLo_lt x y i k Z c)] at M
 refine lg ?_; refine lZ k50 ?_; refine Z13 ?_
 refine cM 1 fun Lk hLk => ?_
 refine vB (v := .int .i64 (k + 1 : Nat)) (hr := run_add (by simp only [IntKind.wrap_i64]; omega)) ?_
 refine hLk _ fun w67 M => ?_
 refine lM ?_
 refine Z14 (Z15 ?_)
 refine Exists.intro _ ⟨?_, (k + 1), (wideM x y i k Z c), (wideC x y i k Z c), (fun q9 => (#[Z9, Z9, Z9, Z9, Z9, Z9, Z9, Z9, Z9, .int .i64 k, .int .u64 (limbN y k : Nat), .int .u64 ((limbN x i) * (limbN y k) / 18446744073709551616 : Nat), .int .u64 ((limbN x i) * (limbN y k) % 18446744073709551616 : Nat), .int .u64 (((limbN x i) * (limbN y k) % 18446744073709551616 + limbN Z (i + k)) % 18446744073709551616 : Nat), .int .u64 (((limbN x i) * (limbN y k) % 18446744073709551616 + limbN Z (i + k)) / 18446744073709551616 : Nat), .int .u64 (((((limbN x i) * (limbN y k) % 18446744073709551616 + limbN Z (i + k)) % 18446744073709551616 + c) % 18446744073709551616 : Nat) : Int), .int .u64 (((((limbN x i) * (limbN y k) % 18446744073709551616 + limbN Z (i + k)) % 18446744073709551616 + c) / 18446744073709551616 : Nat) : Int), Z9, Z9, Z9, Z9, Z9, Z9, Z9, .bool true, .int .i64 k, .int .u64 (limbN y k : Nat), .tuple #[.int .u64 ((limbN x i) * (limbN y k) / 18446744073709551616 : Nat), .int .u64 ((limbN x i) * (limbN y k) % 18446744073709551616 : Nat)], .int .u64 (limbN x i : Nat), .int .u64 (limbN y k : Nat), .tuple #[.int .u64 ((limbN x i) * (limbN y k) / 18446744073709551616 : Nat), .int .u64 ((limbN x i) * (limbN y k) % 18446744073709551616 : Nat)], .int .u64 ((limbN x i) * (limbN y k) / 18446744073709551616 : Nat), .int .u64 ((limbN x i) * (limbN y k) % 18446744073709551616 : Nat), .tuple #[.int .u64 (((limbN x i) * (limbN y k) % 18446744073709551616 + limbN Z (i + k)) % 18446744073709551616 : Nat), .int .u64 (((limbN x i) * (limbN y k) % 18446744073709551616 + limbN Z (i + k)) / 18446744073709551616 : Nat)], .int .u64 ((limbN x i) * (limbN y k) % 18446744073709551616 : Nat), .int .i64 i, .int .i64 k, .int .i64 (i + k : Nat), .pointer (some ⟨g11, i + k, none⟩), .int .u64 (limbN Z (i + k) : Nat), .tuple #[.int .u64 (((limbN x i) * (limbN y k) % 18446744073709551616 + limbN Z (i + k)) % 18446744073709551616 : Nat), .int .u64 (((limbN x i) * (limbN y k) % 18446744073709551616 + limbN Z (i + k)) / 18446744073709551616 : Nat)], .int .u64 (((limbN x i) * (limbN y k) % 18446744073709551616 + limbN Z (i + k)) % 18446744073709551616 : Nat), .int .u64 (((limbN x i) * (limbN y k) % 18446744073709551616 + limbN Z (i + k)) / 18446744073709551616 : Nat), .tuple #[.int .u64 (((((limbN x i) * (limbN y k) % 18446744073709551616 + limbN Z (i + k)) % 18446744073709551616 + c) % 18446744073709551616 : Nat) : Int), .int .u64 (((((limbN x i) * (limbN y k) % 18446744073709551616 + limbN Z (i + k)) % 18446744073709551616 + c) / 18446744073709551616 : Nat) : Int)], .int .u64 (((limbN x i) * (limbN y k) % 18446744073709551616 + limbN Z (i + k)) % 18446744073709551616 : Nat), .int .u64 c, .tuple #[.int .u64 (((((limbN x i) * (limbN y k) % 18446744073709551616 + limbN Z (i + k)) % 18446744073709551616 + c) % 18446744073709551616 : Nat) : Int), .int .u64 (((((limbN x i) * (limbN y k) % 18446744073709551616 + limbN Z (i + k)) % 18446744073709551616 + c) / 18446744073709551616 : Nat) : Int)], .int .u64 (((((limbN x i) * (limbN y k) % 18446744073709551616 + limbN Z (i + k)) % 18446744073709551616 + c) % 18446744073709551616 : Nat) : Int), .int .u64 (((((limbN x i) * (limbN y k) % 18446744073709551616 + limbN Z (i + k)) % 18446744073709551616 + c) / 18446744073709551616 : Nat) : Int), .int .i64 i, .int .i64 k, .int .i64 (i + k : Nat), .int .u64 (((((limbN x i) * (limbN y k) % 18446744073709551616 + limbN Z (i + k)) % 18446744073709551616 + c) % 18446744073709551616 : Nat) : Int), .int .u64 ((limbN x i) * (limbN y k) / 18446744073709551616 : Nat), .int .u64 (((limbN x i) * (limbN y k) % 18446744073709551616 + limbN Z (i + k)) / 18446744073709551616 : Nat), .int .u64 (limbN x i * limbN y k / 18446744073709551616 + (limbN x i * limbN y k % 18446744073709551616 + limbN Z (i + k)) / 18446744073709551616 : Nat), .int .u64 (((((limbN x i) * (limbN y k) % 18446744073709551616 + limbN Z (i + k)) % 18446744073709551616 + c) / 18446744073709551616 : Nat) : Int), .int .u64 (wideC x y i k Z c : Nat), .pointer (some ⟨g11, i + k, none⟩), .int .i64 (k + 1 : Nat)] : Array Value).getD q9 Z9), rfl, rfl, M, (by omega), (wide_step hk HW)⟩
 omega
set_option maxHeartbeats 1000000 in
theorem swide_c {l : List UInt8} (hl : ¬ 64 < l.length) (w : World) :
  Calls Tryd.prog 83 #[.string (bs l)] w fun e w' => e = .returned (.tuple #[fe (restS (leN l)), .int .i64 0]) ∧ Below w.heap.size w w' := by
 go_enter Tryd.func83, Tryd.ntmps83
 have M := Mem.start w
 refine qS fun _ k1 => ?_
 refine nV 4 fun g3 w4 M => ?_
 refine lg ?_; refine lZ k1 ?_
 refine sk fun _ k5 => ?_
 refine qS fun _ k6 => ?_
 refine lM ?_
 refine cM 2 fun Lk hLk => ?_
 refine wpV_lenS (by rfl) rfl rfl rfl U99 ?_
 simp only [Z0, Z6]
 refine vB (v := .bool false) (hr := fun W => (run_gtrN l.length 64 _ _ W).trans (by rw [decide_eq_false hl])) ?_
 refine hLk _ fun w8 M => ?_
 refine lZ k6 ?_; refine cF ?_; refine sZ k5 ?_
 refine qS fun _ k9 => ?_
 refine nV 8 fun g11 w12 M => ?_
 refine lZ k9 ?_
 refine sk fun _ k13 => ?_
 refine qS fun _ k14 => ?_
 refine lM ?_
 refine cM 1 fun Lk hLk => ?_
 refine wpV_lenS (by rfl) rfl rfl rfl U99 ?_
 simp only [Z0, Z6]
 refine hLk _ fun w16 M => ?_
 refine lM ?_; refine lZ k14 ?_; refine wp_block ?_
 replace M := M.read1 (cs := wl 8 (leN (l.take 0))) (o := 0) 0 rfl (by rw [show leN (l.take 0) = 0 from rfl, wl_zero]; exact (M.r 0 0 rfl rfl))
 simp only [Z6] at M
 refine wp_loop_ghost (fun n9 a9 W9 => ∃ (i : Nat) (u17_5 u17_13 u17_14 u17_15 u17_16 u17_17 u17_18 u17_19 u17_20 u17_21 u17_22 u17_23 u17_24 u17_25 u17_26 u17_27 u17_28 u17_29 : Value), n9 = l.length - i ∧ a9 = { tmps := #[.string (bs l), Z9, .pointer (some ⟨g3, 0, none⟩), .int .i64 0, .pointer (some ⟨g11, 0, none⟩), u17_5, .string (bs l), .int .i64 l.length, .bool false, Z9, .string (bs l), .int .i64 l.length, .int .i64 i, u17_13, u17_14, u17_15, u17_16, u17_17, u17_18, u17_19, u17_20, u17_21, u17_22, u17_23, u17_24, u17_25, u17_26, u17_27, u17_28, u17_29, Z9, Z9], defers := [] } ∧ Mem [] w W9 [⟨g11, 8, [(0, wl 8 (leN (l.take i)))]⟩, ⟨g3, 4, [(0, [.int .u64 0, .int .u64 0, .int .u64 0, .int .u64 0])]⟩] ∧ (i ≤ l.length)) (l.length - (0)) ?_ (fun n9 a9 W9 hI => ?_)
 ·
  exact ⟨0, _, _, _, _, _, _, _, _, _, _, _, _, _, _, _, _, _, _, rfl, rfl, M, (by omega)⟩
 clear M
 obtain ⟨i, u17_5, u17_13, u17_14, u17_15, u17_16, u17_17, u17_18, u17_19, u17_20, u17_21, u17_22, u17_23, u17_24, u17_25, u17_26, u17_27, u17_28, u17_29, rfl, rfl, M, hi4⟩ := hI
 obtain ⟨w18, rfl⟩ : ∃ W8, W8 = W9 := ⟨_, rfl⟩
 refine qS fun _ k19 => ?_
 refine cM 1 fun Lk hLk => ?_
 refine vB (v := .bool (decide (i < l.length))) (hr := run_lssN i l.length _ _) ?_
 refine hLk _ fun w21 M => ?_
 refine lZ k19 ?_
 refine sk fun _ k22 => ?_
 cases hc23 : (decide (i < l.length))
 ·
  have ei : i = l.length := by have := of_decide_eq_false hc23; omega
  subst ei
  rw [List.take_length] at M
  refine cF ?_; refine eZ k13 ?_
  refine qS fun _ k24 => ?_
  refine cM 2 fun Lk hLk => ?_
  refine wpV_sliceA (n := 8) (by rfl) rfl rfl U9129 info40 ?_
  simp only [Z0, Z6]
  refine vCh (v := fe (restS (leN l))) (fun W hW => rest_c (n := 8) (N := (leN l)) (by decide) (leN_512 (by omega)) (Z1 (M.lt 0 rfl) hW.2.2.size) (Z26 (M.r 0 0 rfl rfl) (M.lt 0 rfl) hW)) ?_
  refine hLk _ fun w26 M => ?_
  refine sT 1 0 fun w27 M => ?_
  refine lg ?_; refine lZ k24 ?_; refine rt ?_
  refine bodyPost_ret (v := .tuple #[fe (restS (leN l)), .int .i64 0]) (res2 rfl (.cell (by rfl) (run_loadVar_mid _ _ _ _ (fel (restS (leN l))) _ (M.r 1 0 rfl rfl) U980 rfl info80)) (.tmp (by rfl))) rfl ?_
  exact ⟨rfl, M.below⟩
 have hi : i < l.length := of_decide_eq_true hc23
 have hpb := put_byte (leN_take_lt l i) (byteN_lt l i)
 refine cT ?_; refine sZ k22 ?_
 refine sk fun _ k28 => ?_
 refine wp_block ?_
 refine qS fun _ k29 => ?_
 refine lM ?_; refine lg ?_; refine lZ k29 ?_
 refine rG 14 [] fun Lk hLk => ?_
 refine vM ?_
 refine vB (v := .int .i64 (i / 8 : Nat)) (hr := run_quo (by decide) ((congrArg _ (tdiv_nat i 8)).trans (wrap_nat _ (by omega)))) ?_
 refine wpV_idx (n := i / 8) (by rfl) rfl rfl rfl U9129 info40 (by omega) ?_
 simp only [Z2]
 simp only [Z0, Z6]
 refine vQ (v := .int .u64 (limbN (leN (l.take i)) (i / 8) : Nat)) (hc := (zadd ((M.r 0 0 rfl rfl) _ _ (wl_get (j := i / 8) 8 (leN (l.take i)) (by omega))))) (hb := (M.lt 0 rfl)) ?_
 refine vM ?_; refine vM ?_
 refine wpV_indexb (n := i) (by omega) (by rfl) rfl rfl rfl U99 ?_
 simp only [Z0, Z6]
 refine wpV_conv (d := .bool) (e := ((byteN l i : Nat) : Int)) (by rfl) rfl rfl (run_conv_int U95 U940 (by have := byteN_lt l i; rw [wrap_u64]; omega)) ?_
 simp only [Z0, Z6]
 refine vM ?_
 refine vB (v := .int .i64 (i % 8 : Nat)) (hr := run_rem (by decide) (tmod_nat i 8)) ?_
 refine vB (v := .int .i64 (8 * (i % 8) : Nat)) (hr := run_mul (by simp only [IntKind.wrap_i64]; omega)) ?_
 refine vB (v := .int .u64 (byteN l i * 2 ^ (8 * (i % 8)) : Nat)) (hr := run_shl (by show _ ≤ 64; omega) (by have := hpb.2.1; rw [wrap_u64]; omega)) ?_
 refine vB (v := .int .u64 (limbN (leN (l.take i)) (i / 8) + byteN l i * 2 ^ (8 * (i % 8)) : Nat)) (hr := run_or (((bits_nat64 _ _ (limbN_lt _ _) (by have := hpb.2.1; simp only [Nat.reducePow] at *; omega)).2).trans (congrArg _ hpb.1))) ?_
 refine wpV_idx (n := i / 8) (by rfl) rfl rfl rfl U9129 info40 (by omega) ?_
 simp only [Z2]
 simp only [Z0, Z6]
 refine hLk _ fun w32 M => ?_
 refine lS1 (g := g11) (off := i / 8) (n := 8) (v := .int .u64 (limbN (leN (l.take i)) (i / 8) + byteN l i * 2 ^ (8 * (i % 8)) : Nat)) (M.t 0 rfl) (by omega) info40 rfl (fun w33 P R T => ?_)
 replace M := M.put1 (j := i / 8) 0 rfl P R T (Z2 _).symm
 simp only [Z6] at M
 rw [wl_set hpb.2.2 hpb.2.1, ← leN_take_succ l hi] at M
 refine lZ k28 ?_; refine Z13 ?_
 refine cM 1 fun Lk hLk => ?_
 refine vB (v := .int .i64 (i + 1 : Nat)) (hr := run_add (by simp only [IntKind.wrap_i64]; omega)) ?_
 refine hLk _ fun w35 M => ?_
 refine lM ?_
 refine Z14 (Z15 ?_)
 refine Exists.intro _ ⟨?_, (i + 1), _, _, _, _, _, _, _, _, _, _, _, _, _, _, _, _, _, _, rfl, rfl, M, (by omega)⟩
 omega
set_option maxHeartbeats 1000000 in
theorem sbytes_c {x : Nat} (hx : x < 2 ^ 256) (w : World) :
  Calls Tryd.prog 48 #[fe x] w fun e w' => e = .returned (.string (bs (bytesN 32 (restS x)))) ∧ Below w.heap.size w w' := by
 go_enter Tryd.func48, Tryd.ntmps48
 have M := Mem.start w
 refine qS fun _ k1 => ?_
 refine nV 4 fun g3 w4 M => ?_
 refine lg ?_; refine lZ k1 ?_
 refine qS fun _ k5 => ?_
 refine lL ?_
 refine cM 1 fun Lk hLk => ?_
 refine vC (sleast_c hx) ?_
 refine hLk _ fun w7 M => ?_
 refine sT 0 0 fun w8 M => ?_
 refine lZ k5 ?_
 refine qS fun _ k9 => ?_
 refine wpL_make (n := 32) (z := .int .u8 0) (bytes := 1) (by rfl) (by rfl) (by rfl) (by rfl) U929 (by kernel_rfl) rfl (by decide) (by decide) (fun g11 w12 Sw12 Hg11 Bg11 => ?_)
 replace M := ((M.sees Sw12).add (N := 32) (cs := List.replicate 32 (.int .u8 0)) (M.ge Hg11) (M.fresh Hg11) Bg11 (by simp [flen]))
 clear Bg11
 rw [← bcells_zero] at M
 simp only [Z0, Z6]
 refine lg ?_; refine lZ k9 ?_
 refine sk fun _ k13 => ?_
 refine qS fun _ k14 => ?_
 refine lM ?_
 refine cM 1 fun Lk hLk => ?_
 refine wpV_lenA (n := 32) (by rfl) rfl rfl rfl U929 ?_
 simp only [Z0, Z6]
 refine hLk _ fun w16 M => ?_
 refine lM ?_; refine lZ k14 ?_; refine wp_block ?_
 replace M := M.read1 (cs := bcells (bytesN 32 ((restS x) % 256 ^ 0))) (o := 0) 0 rfl (by rw [Nat.pow_zero, Nat.mod_one]; exact (M.r 0 0 rfl rfl))
 simp only [Z6] at M
 refine wp_loop_ghost (fun n9 a9 W9 => ∃ (i : Nat) (u17_4 u17_11 u17_12 u17_13 u17_14 u17_15 u17_16 u17_17 u17_18 u17_19 u17_20 u17_21 u17_22 u17_23 u17_24 u17_25 : Value), n9 = 32 - i ∧ a9 = { tmps := #[fe x, .pointer (some ⟨g3, 0, none⟩), .string (bs ([])), .slice (some ⟨g11, 0, none⟩) 32 32, u17_4, fe x, fe (restS x), .slice (some ⟨g11, 0, none⟩) 32 32, .slice (some ⟨g11, 0, none⟩) 32 32, .int .i64 32, .int .i64 i, u17_11, u17_12, u17_13, u17_14, u17_15, u17_16, u17_17, u17_18, u17_19, u17_20, u17_21, u17_22, u17_23, u17_24, u17_25, Z9, Z9], defers := [] } ∧ Mem [] w W9 [⟨g11, 32, [(0, bcells (bytesN 32 ((restS x) % 256 ^ i)))]⟩, ⟨g3, 4, [(0, fel (restS x))]⟩] ∧ (i ≤ 32)) (32 - (0)) ?_ (fun n9 a9 W9 hI => ?_)
 ·
  exact ⟨0, _, _, _, _, _, _, _, _, _, _, _, _, _, _, _, _, rfl, rfl, M, (by omega)⟩
 clear M
 obtain ⟨i, u17_4, u17_11, u17_12, u17_13, u17_14, u17_15, u17_16, u17_17, u17_18, u17_19, u17_20, u17_21, u17_22, u17_23, u17_24, u17_25, rfl, rfl, M, hi4⟩ := hI
 obtain ⟨w18, rfl⟩ : ∃ W8, W8 = W9 := ⟨_, rfl⟩
 refine qS fun _ k19 => ?_
 refine cM 1 fun Lk hLk => ?_
 refine vB (v := .bool (decide (i < 32))) (hr := run_lssN i 32 _ _) ?_
 refine hLk _ fun w21 M => ?_
 refine lZ k19 ?_
 refine sk fun _ k22 => ?_
 cases hc23 : (decide (i < 32))
 ·
  have ei : i = 32 := by have := of_decide_eq_false hc23; omega
  subst ei
  rw [Z5 (show (restS x) < 256 ^ 32 from (restS_lt ..))] at M
  refine cF ?_; refine eZ k13 ?_
  refine qS fun _ k24 => ?_
  refine lM ?_
  refine cM 1 fun Lk hLk => ?_
  refine wpV_b2s (l := (bytesN 32 (restS x))) (by rfl) rfl rfl (bytesN_len _ _).symm U929 U95 U99 (M.r 0 0 rfl rfl) (M.lt 0 rfl) ?_
  simp only [Z0, Z6]
  refine hLk _ fun w26 M => ?_
  refine lg ?_; refine lZ k24 ?_; refine rt1 ?_
  exact ⟨rfl, M.below⟩
 have hi : i < 32 := of_decide_eq_true hc23
 refine cT ?_; refine sZ k22 ?_
 refine sk fun _ k27 => ?_
 refine wp_block ?_
 refine qS fun _ k28 => ?_
 refine lM ?_; refine lg ?_; refine lZ k28 ?_; refine Z13 ?_; refine lM ?_; refine lM ?_; refine lM ?_
 refine cM 9 fun Lk hLk => ?_
 refine vB (v := .int .i64 (i / 8 : Nat)) (hr := run_quo (by decide) ((congrArg _ (tdiv_nat i 8)).trans (wrap_nat _ (by omega)))) ?_
 refine wpV_idx (n := i / 8) (by rfl) rfl rfl rfl U980 info40 (by omega) ?_
 simp only [Z2]
 simp only [Z0, Z6]
 refine vQ (v := .int .u64 (limbN (restS x) (i / 8) : Nat)) (hc := (zadd ((M.r 1 0 rfl rfl) _ _ (fel_get (j := i / 8) (restS x) (by omega))))) (hb := (M.lt 1 rfl)) ?_
 refine vM ?_
 refine vB (v := .int .i64 (i % 8 : Nat)) (hr := run_rem (by decide) (tmod_nat i 8)) ?_
 refine vB (v := .int .i64 (8 * (i % 8) : Nat)) (hr := run_mul (by simp only [IntKind.wrap_i64]; omega)) ?_
 refine vB (v := .int .u64 (limbN (restS x) (i / 8) / 2 ^ (8 * (i % 8)) : Nat)) (hr := run_shr (by show _ ≤ 64; omega) rfl) ?_
 refine wpV_conv (d := .bool) (e := (((restS x) / 256 ^ i % 256 : Nat) : Int)) (by rfl) rfl rfl (run_conv_int U940 U95 (by rw [← byte_of]; exact wrap_u8N _)) ?_
 simp only [Z0, Z6]
 refine wpV_idxs (n := i) (by rfl) rfl rfl rfl U929 info5 (by omega) ?_
 simp only [Z2]
 simp only [Z0, Z6]
 refine hLk _ fun w31 M => ?_
 refine lS1 (g := g11) (off := i) (n := 32) (v := .int .u8 ((restS x) / 256 ^ i % 256 : Nat)) (M.t 0 rfl) (by omega) info5 rfl (fun w32 P R T => ?_)
 replace M := M.put1 (j := i) 0 rfl P R T (Z2 _).symm
 simp only [Z6] at M
 rw [bytesN_set hi] at M
 refine lZ k27 ?_; refine Z13 ?_
 refine cM 1 fun Lk hLk => ?_
 refine vB (v := .int .i64 (i + 1 : Nat)) (hr := run_add (by simp only [IntKind.wrap_i64]; omega)) ?_
 refine hLk _ fun w34 M => ?_
 refine lM ?_
 refine Z14 (Z15 ?_)
 refine Exists.intro _ ⟨?_, (i + 1), _, _, _, _, _, _, _, _, _, _, _, _, _, _, _, _, rfl, rfl, M, (by omega)⟩
 omega
end Go.Proofs.Ya

namespace Go.Proofs.Ya
open Go Go.RowKit Go.Shelf Go.Proofs.Num
open Tryd renaming underlying29 → U929, underlying40 → U940, underlying5 → U95, underlying86 → U986
open Go.Proofs.Num  renaming putT → Z0
open Nat renaming zero_add → Z2, mod_eq_of_lt → Z5
open List renaming set → Z6
open Go renaming undef → Z9
open Go.Proofs.Num renaming wp_region_seq → Z13, wpL_nil → Z14, no_panic → Z15, wpV_val → Z24
attribute [local irreducible] wpV wpN wpList
set_option maxHeartbeats 1000000 in
theorem fbytes_c {x : Nat} (hx : x < 2 ^ 256) (w : World) :
  Calls Tryd.prog 98 #[fe x] w fun e w' => e = .returned (.string (bs (bytesN 32 (leastF x)))) ∧ Below w.heap.size w w' := by
 go_enter Tryd.func98, Tryd.ntmps98
 have M := Mem.start w
 refine qS fun _ k1 => ?_
 refine nV 4 fun g3 w4 M => ?_
 refine lg ?_; refine lZ k1 ?_
 refine qS fun _ k5 => ?_
 refine lL ?_
 refine cM 1 fun Lk hLk => ?_
 refine vC (least_c hx) ?_
 refine hLk _ fun w7 M => ?_
 refine sT 0 0 fun w8 M => ?_
 refine lZ k5 ?_
 refine qS fun _ k9 => ?_
 refine wpL_make (n := 32) (z := .int .u8 0) (bytes := 1) (by rfl) (by rfl) (by rfl) (by rfl) U929 (by kernel_rfl) rfl (by decide) (by decide) (fun g11 w12 Sw12 Hg11 Bg11 => ?_)
 replace M := ((M.sees Sw12).add (N := 32) (cs := List.replicate 32 (.int .u8 0)) (M.ge Hg11) (M.fresh Hg11) Bg11 (by simp [flen]))
 clear Bg11
 rw [← bcells_zero] at M
 simp only [Z0, Z6]
 refine lg ?_; refine lZ k9 ?_
 refine sk fun _ k13 => ?_
 refine qS fun _ k14 => ?_
 refine lM ?_
 refine cM 1 fun Lk hLk => ?_
 refine wpV_lenA (n := 32) (by rfl) rfl rfl rfl U929 ?_
 simp only [Z0, Z6]
 refine hLk _ fun w16 M => ?_
 refine lM ?_; refine lZ k14 ?_; refine wp_block ?_
 replace M := M.read1 (cs := bcells (bytesN 32 ((leastF x) % 256 ^ 0))) (o := 0) 0 rfl (by rw [Nat.pow_zero, Nat.mod_one]; exact (M.r 0 0 rfl rfl))
 simp only [Z6] at M
 refine wp_loop_ghost (fun n9 a9 W9 => ∃ (i : Nat) (u17_4 u17_11 u17_12 u17_13 u17_14 u17_15 u17_16 u17_17 u17_18 u17_19 u17_20 u17_21 u17_22 u17_23 u17_24 u17_25 : Value), n9 = 32 - i ∧ a9 = { tmps := #[fe x, .pointer (some ⟨g3, 0, none⟩), .string (bs ([])), .slice (some ⟨g11, 0, none⟩) 32 32, u17_4, fe x, fe (leastF x), .slice (some ⟨g11, 0, none⟩) 32 32, .slice (some ⟨g11, 0, none⟩) 32 32, .int .i64 32, .int .i64 i, u17_11, u17_12, u17_13, u17_14, u17_15, u17_16, u17_17, u17_18, u17_19, u17_20, u17_21, u17_22, u17_23, u17_24, u17_25, Z9, Z9], defers := [] } ∧ Mem [] w W9 [⟨g11, 32, [(0, bcells (bytesN 32 ((leastF x) % 256 ^ i)))]⟩, ⟨g3, 4, [(0, fel (leastF x))]⟩] ∧ (i ≤ 32)) (32 - (0)) ?_ (fun n9 a9 W9 hI => ?_)
 ·
  exact ⟨0, _, _, _, _, _, _, _, _, _, _, _, _, _, _, _, _, rfl, rfl, M, (by omega)⟩
 clear M
 obtain ⟨i, u17_4, u17_11, u17_12, u17_13, u17_14, u17_15, u17_16, u17_17, u17_18, u17_19, u17_20, u17_21, u17_22, u17_23, u17_24, u17_25, rfl, rfl, M, hi4⟩ := hI
 obtain ⟨w18, rfl⟩ : ∃ W8, W8 = W9 := ⟨_, rfl⟩
 refine qS fun _ k19 => ?_
 refine cM 1 fun Lk hLk => ?_
 refine vB (v := .bool (decide (i < 32))) (hr := run_lssN i 32 _ _) ?_
 refine hLk _ fun w21 M => ?_
 refine lZ k19 ?_
 refine sk fun _ k22 => ?_
 cases hc23 : (decide (i < 32))
 ·
  have ei : i = 32 := by have := of_decide_eq_false hc23; omega
  subst ei
  rw [Z5 (show (leastF x) < 256 ^ 32 from (leastF_lt ..))] at M
  refine cF ?_; refine eZ k13 ?_
  refine qS fun _ k24 => ?_
  refine lM ?_
  refine cM 1 fun Lk hLk => ?_
  refine wpV_b2s (l := (bytesN 32 (leastF x))) (by rfl) rfl rfl (bytesN_len _ _).symm U929 U95 Tryd.underlying9 (M.r 0 0 rfl rfl) (M.lt 0 rfl) ?_
  simp only [Z0, Z6]
  refine hLk _ fun w26 M => ?_
  refine lg ?_; refine lZ k24 ?_; refine rt1 ?_
  exact ⟨rfl, M.below⟩
 have hi : i < 32 := of_decide_eq_true hc23
 refine cT ?_; refine sZ k22 ?_
 refine sk fun _ k27 => ?_
 refine wp_block ?_
 refine qS fun _ k28 => ?_
 refine lM ?_; refine lg ?_; refine lZ k28 ?_; refine Z13 ?_; refine lM ?_; refine lM ?_; refine lM ?_
 refine cM 9 fun Lk hLk => ?_
 refine vB (v := .int .i64 (i / 8 : Nat)) (hr := run_quo (by decide) ((congrArg _ (tdiv_nat i 8)).trans (wrap_nat _ (by omega)))) ?_
 refine wpV_idx (n := i / 8) (by rfl) rfl rfl rfl U986 info40 (by omega) ?_
 simp only [Z2]
 simp only [Z0, Z6]
 refine vQ (v := .int .u64 (limbN (leastF x) (i / 8) : Nat)) (hc := (zadd ((M.r 1 0 rfl rfl) _ _ (fel_get (j := i / 8) (leastF x) (by omega))))) (hb := (M.lt 1 rfl)) ?_
 refine vM ?_
 refine vB (v := .int .i64 (i % 8 : Nat)) (hr := run_rem (by decide) (tmod_nat i 8)) ?_
 refine vB (v := .int .i64 (8 * (i % 8) : Nat)) (hr := run_mul (by simp only [IntKind.wrap_i64]; omega)) ?_
 refine vB (v := .int .u64 (limbN (leastF x) (i / 8) / 2 ^ (8 * (i % 8)) : Nat)) (hr := run_shr (by show _ ≤ 64; omega) rfl) ?_
 refine wpV_conv (d := .bool) (e := (((leastF x) / 256 ^ i % 256 : Nat) : Int)) (by rfl) rfl rfl (run_conv_int U940 U95 (by rw [← byte_of]; exact wrap_u8N _)) ?_
 simp only [Z0, Z6]
 refine wpV_idxs (n := i) (by rfl) rfl rfl rfl U929 info5 (by omega) ?_
 simp only [Z2]
 simp only [Z0, Z6]
 refine hLk _ fun w31 M => ?_
 refine lS1 (g := g11) (off := i) (n := 32) (v := .int .u8 ((leastF x) / 256 ^ i % 256 : Nat)) (M.t 0 rfl) (by omega) info5 rfl (fun w32 P R T => ?_)
 replace M := M.put1 (j := i) 0 rfl P R T (Z2 _).symm
 simp only [Z6] at M
 rw [bytesN_set hi] at M
 refine lZ k27 ?_; refine Z13 ?_
 refine cM 1 fun Lk hLk => ?_
 refine vB (v := .int .i64 (i + 1 : Nat)) (hr := run_add (by simp only [IntKind.wrap_i64]; omega)) ?_
 refine hLk _ fun w34 M => ?_
 refine lM ?_
 refine Z14 (Z15 ?_)
 refine Exists.intro _ ⟨?_, (i + 1), _, _, _, _, _, _, _, _, _, _, _, _, _, _, _, _, rfl, rfl, M, (by omega)⟩
 omega
set_option maxHeartbeats 2000000 in
theorem fsqrt_c {x : Nat} (hx : x < 2 ^ 256) (w : World) :
  Calls Tryd.prog 130 #[fe x] w fun e w' => e = .returned (.tuple #[fe (fsqrt x).1, .bool (fsqrt x).2]) ∧ Below w.heap.size w w' := by
 go_enter Tryd.func130, Tryd.ntmps130
 have M := Mem.start w
 refine qS fun _ k1 => ?_
 refine nV 4 fun g3 w4 M => ?_
 refine nV 4 fun g5 w6 M => ?_
 refine lg ?_; refine lZ k1 ?_
 refine qS fun _ k7 => ?_
 refine lL ?_
 refine cM 1 fun Lk hLk => ?_
 refine vC (least_c hx) ?_
 refine hLk _ fun w9 M => ?_
 refine sT 1 0 fun w10 M => ?_
 refine lZ k7 ?_
 refine qS fun _ k11 => ?_
 refine cM 1 fun Lk hLk => ?_
 refine Z24 (v := fe 7237005577332262213973186563042994240829374041602535252466099000494570602494) (by rfl) (by rfl) (fun W hW => ?_) ?_
 ·
  rw [show fe 7237005577332262213973186563042994240829374041602535252466099000494570602494 = .agg ([.int .u64 18446744073709551614, .int .u64 18446744073709551615, .int .u64 18446744073709551615, .int .u64 1152921504606846975]).toArray from (by kernel_rfl)]; unfold RunsVal; kernel_rfl
 simp only [Z0, Z6]
 refine hLk _ fun w13 M => ?_
 refine nV 4 fun g14 w15 M => ?_
 refine sT 0 0 fun w16 M => ?_
 refine lZ k11 ?_
 refine qS fun _ k17 => ?_
 refine lL ?_; refine lL ?_
 refine cM 1 fun Lk hLk => ?_
 refine vC (v := fe (fpow (leastF x) 7237005577332262213973186563042994240829374041602535252466099000494570602494)) (fun W => power_c (leastF_lt ..) (by decide) W) ?_
 refine hLk _ fun w19 M => ?_
 refine nV 4 fun g20 w21 M => ?_
 refine sT 0 0 fun w22 M => ?_
 refine lZ k17 ?_
 refine sk fun _ k23 => ?_
 refine sk fun _ k24 => ?_
 refine rG 5 [] fun Lk hLk => ?_
 refine vL ?_; refine vL ?_
 refine vC (fmul_c (fpow_lt ..) (fpow_lt ..)) ?_
 refine vL ?_
 refine Z24 (v := .bool (decide (fmul (fpow (leastF x) 7237005577332262213973186563042994240829374041602535252466099000494570602494) (fpow (leastF x) 7237005577332262213973186563042994240829374041602535252466099000494570602494) ≠ leastF x))) (by rfl) (by rfl) (fun W hW => ?_) ?_
 ·
  exact run_neq_fe (fmul_lt ..) (leastF_lt ..) U986 U940 info40 (by kernel_rfl) rfl rfl rfl W
 simp only [Z0, Z6]
 refine hLk _ fun w26 M => ?_
 refine lZ k24 ?_
 cases hc27 : (decide (fmul (fpow (leastF x) 7237005577332262213973186563042994240829374041602535252466099000494570602494) (fpow (leastF x) 7237005577332262213973186563042994240829374041602535252466099000494570602494) ≠ leastF x))
 ·
  have q1 : fmul (root1 x) (root1 x) = leastF x := Decidable.not_not.1 (of_decide_eq_false hc27)
  refine cF ?_; refine sZ k23 ?_
  refine sk fun _ k28 => ?_
  refine sk fun _ k29 => ?_
  refine rG 5 [] fun Lk hLk => ?_
  refine vL ?_; refine vL ?_
  refine vC (fmul_c (fpow_lt ..) (fpow_lt ..)) ?_
  refine vL ?_
  refine Z24 (v := .bool false) (by rfl) (by rfl) (fun W hW => ?_) ?_
  ·
   exact hc27 ▸ run_neq_fe (fmul_lt ..) (leastF_lt ..) U986 U940 info40 (by kernel_rfl) rfl rfl rfl W
  simp only [Z0, Z6]
  refine hLk _ fun w31 M => ?_
  refine lZ k29 ?_; refine cF ?_; refine sZ k28 ?_
  refine sk fun _ k32 => ?_
  refine qS fun _ k33 => ?_
  refine lF ?_
  refine cM 3 fun Lk hLk => ?_
  refine vP (pvLc (v := .int .u64 (limb (fpow (leastF x) 7237005577332262213973186563042994240829374041602535252466099000494570602494) 0)) (range_one (range_sub (M.r 0 0 rfl rfl) 0 1 0 (xs := [.int .u64 (limb (fpow (leastF x) 7237005577332262213973186563042994240829374041602535252466099000494570602494) 0)]) rfl rfl)) (M.lt 0 rfl)) ?_
  refine vB (v := .int .u64 ((fpow (leastF x) 7237005577332262213973186563042994240829374041602535252466099000494570602494) % 2 : Nat)) (hr := run_and (and_one _)) ?_
  refine vB (v := .bool ((((fpow (leastF x) 7237005577332262213973186563042994240829374041602535252466099000494570602494) % 2 : Nat) : Int) == 1)) (hr := run_eql _ _ _ _) ?_
  refine hLk _ fun w35 M => ?_
  refine lZ k33 ?_
  cases hc36 : ((((fpow (leastF x) 7237005577332262213973186563042994240829374041602535252466099000494570602494) % 2 : Nat) : Int) == 1)
  ·
   have e2 : root2 x = (fpow (leastF x) 7237005577332262213973186563042994240829374041602535252466099000494570602494) := root2_t q1
   have q2 : fmul (root2 x) (root2 x) = leastF x := by rw [e2]; exact q1
   have q3 : ¬ root2 x % 2 = 1 := by rw [e2]; intro e; rw [e] at hc36; simp at hc36
   refine cF ?_; refine sZ k32 ?_
   refine qS fun _ k37 => ?_
   refine lL ?_
   refine sT 2 0 fun w40 M => ?_
   refine lg ?_; refine lZ k37 ?_; refine rt ?_
   refine bodyPost_ret (v := .tuple #[fe (fpow (leastF x) 7237005577332262213973186563042994240829374041602535252466099000494570602494), .bool true]) (res2 rfl (.cell (by rfl) (run_loadVar_mid _ _ _ _ (fel (fpow (leastF x) 7237005577332262213973186563042994240829374041602535252466099000494570602494)) _ (M.r 2 0 rfl rfl) U986 rfl info86)) (.tmp (by rfl))) rfl ?_
   have BE := M.below
   exact ⟨by simp only [sqrt_even q2 q3, e2], BE⟩
  have e2 : root2 x = (fpow (leastF x) 7237005577332262213973186563042994240829374041602535252466099000494570602494) := root2_t q1
  have q2 : fmul (root2 x) (root2 x) = leastF x := by rw [e2]; exact q1
  have q3 : root2 x % 2 = 1 := by rw [e2]; have := beq_iff_eq.1 hc36; omega
  refine cT ?_; refine Z13 ?_
  refine cM 3 fun Lk hLk => ?_
  refine Z24 (v := fe 0) (by rfl) (by rfl) (fun W hW => ?_) ?_
  ·
   rw [show fe 0 = .agg ([.int .u64 0, .int .u64 0, .int .u64 0, .int .u64 0]).toArray from (by kernel_rfl)]; unfold RunsVal; kernel_rfl
  simp only [Z0, Z6]
  refine vL ?_
  refine vC (v := fe (fsub 0 (fpow (leastF x) 7237005577332262213973186563042994240829374041602535252466099000494570602494))) (fun W => fsub_c (by decide) (fpow_lt ..) W) ?_
  refine hLk _ fun w42 M => ?_
  refine sT 0 0 fun w43 M => ?_
  refine lZ k32 ?_
  refine qS fun _ k44 => ?_
  refine lL ?_
  refine sT 2 0 fun w47 M => ?_
  refine lg ?_; refine lZ k44 ?_; refine rt ?_
  refine bodyPost_ret (v := .tuple #[fe (fsub 0 (fpow (leastF x) 7237005577332262213973186563042994240829374041602535252466099000494570602494)), .bool true]) (res2 rfl (.cell (by rfl) (run_loadVar_mid _ _ _ _ (fel (fsub 0 (fpow (leastF x) 7237005577332262213973186563042994240829374041602535252466099000494570602494))) _ (M.r 2 0 rfl rfl) U986 rfl info86)) (.tmp (by rfl))) rfl ?_
  have BE := M.below
  exact ⟨by simp only [sqrt_odd q2 q3, e2], BE⟩
 have q1 : ¬ fmul (root1 x) (root1 x) = leastF x := of_decide_eq_true hc27
 refine cT ?_
 refine qS fun _ k48 => ?_
 refine cM 1 fun Lk hLk => ?_
 refine Z24 (v := fe 14474011154664524427946373126085988481658748083205070504932198000989141204987) (by rfl) (by rfl) (fun W hW => ?_) ?_
 ·
  rw [show fe 14474011154664524427946373126085988481658748083205070504932198000989141204987 = .agg ([.int .u64 18446744073709551611, .int .u64 18446744073709551615, .int .u64 18446744073709551615, .int .u64 2305843009213693951]).toArray from (by kernel_rfl)]; unfold RunsVal; kernel_rfl
 simp only [Z0, Z6]
 refine hLk _ fun w50 M => ?_
 refine nV 4 fun g51 w52 M => ?_
 refine sT 0 0 fun w53 M => ?_
 refine lZ k48 ?_
 refine rG 5 [] fun Lk hLk => ?_
 refine vL ?_
 refine vC (v := fe 2) (fun W => of_c (n := 2) (by decide) W) ?_
 refine vL ?_
 refine vC (v := fe (fpow 2 14474011154664524427946373126085988481658748083205070504932198000989141204987)) (fun W => power_c (by decide) (by decide) W) ?_
 refine vC (fmul_c (fpow_lt ..) (fpow_lt ..)) ?_
 refine hLk _ fun w55 M => ?_
 refine sT 1 0 fun w56 M => ?_
 refine lZ k23 ?_
 refine sk fun _ k57 => ?_
 refine sk fun _ k58 => ?_
 refine rG 5 [] fun Lk hLk => ?_
 refine vL ?_; refine vL ?_
 refine vC (fmul_c (fmul_lt ..) (fmul_lt ..)) ?_
 refine vL ?_
 refine Z24 (v := .bool (decide (fmul (fmul (fpow (leastF x) 7237005577332262213973186563042994240829374041602535252466099000494570602494) (fpow 2 14474011154664524427946373126085988481658748083205070504932198000989141204987)) (fmul (fpow (leastF x) 7237005577332262213973186563042994240829374041602535252466099000494570602494) (fpow 2 14474011154664524427946373126085988481658748083205070504932198000989141204987)) ≠ leastF x))) (by rfl) (by rfl) (fun W hW => ?_) ?_
 ·
  exact run_neq_fe (fmul_lt ..) (leastF_lt ..) U986 U940 info40 (by kernel_rfl) rfl rfl rfl W
 simp only [Z0, Z6]
 refine hLk _ fun w60 M => ?_
 refine lZ k58 ?_
 cases hc61 : (decide (fmul (fmul (fpow (leastF x) 7237005577332262213973186563042994240829374041602535252466099000494570602494) (fpow 2 14474011154664524427946373126085988481658748083205070504932198000989141204987)) (fmul (fpow (leastF x) 7237005577332262213973186563042994240829374041602535252466099000494570602494) (fpow 2 14474011154664524427946373126085988481658748083205070504932198000989141204987)) ≠ leastF x))
 ·
  have e2 : root2 x = (fmul (fpow (leastF x) 7237005577332262213973186563042994240829374041602535252466099000494570602494) (fpow 2 14474011154664524427946373126085988481658748083205070504932198000989141204987)) := root2_f q1
  have q2 : fmul (root2 x) (root2 x) = leastF x := by rw [e2]; exact Decidable.not_not.1 (of_decide_eq_false hc61)
  refine cF ?_; refine sZ k57 ?_
  refine sk fun _ k62 => ?_
  refine qS fun _ k63 => ?_
  refine lF ?_
  refine cM 3 fun Lk hLk => ?_
  refine vP (pvLc (v := .int .u64 (limb (fmul (fpow (leastF x) 7237005577332262213973186563042994240829374041602535252466099000494570602494) (fpow 2 14474011154664524427946373126085988481658748083205070504932198000989141204987)) 0)) (range_one (range_sub (M.r 1 0 rfl rfl) 0 1 0 (xs := [.int .u64 (limb (fmul (fpow (leastF x) 7237005577332262213973186563042994240829374041602535252466099000494570602494) (fpow 2 14474011154664524427946373126085988481658748083205070504932198000989141204987)) 0)]) rfl rfl)) (M.lt 1 rfl)) ?_
  refine vB (v := .int .u64 (((fmul (fpow (leastF x) 7237005577332262213973186563042994240829374041602535252466099000494570602494) (fpow 2 14474011154664524427946373126085988481658748083205070504932198000989141204987)) % 2 : Nat) : Int)) (hr := run_and (and_one _)) ?_
  refine vB (v := .bool ((((fmul (fpow (leastF x) 7237005577332262213973186563042994240829374041602535252466099000494570602494) (fpow 2 14474011154664524427946373126085988481658748083205070504932198000989141204987)) % 2 : Nat) : Int) == 1)) (hr := run_eql _ _ _ _) ?_
  refine hLk _ fun w65 M => ?_
  refine lZ k63 ?_
  cases hc66 : ((((fmul (fpow (leastF x) 7237005577332262213973186563042994240829374041602535252466099000494570602494) (fpow 2 14474011154664524427946373126085988481658748083205070504932198000989141204987)) % 2 : Nat) : Int) == 1)
  ·
   have q3 : ¬ root2 x % 2 = 1 := by rw [e2]; intro e; rw [e] at hc66; simp at hc66
   refine cF ?_; refine sZ k62 ?_
   refine qS fun _ k67 => ?_
   refine lL ?_
   refine sT 3 0 fun w70 M => ?_
   refine lg ?_; refine lZ k67 ?_; refine rt ?_
   refine bodyPost_ret (v := .tuple #[fe (fmul (fpow (leastF x) 7237005577332262213973186563042994240829374041602535252466099000494570602494) (fpow 2 14474011154664524427946373126085988481658748083205070504932198000989141204987)), .bool true]) (res2 rfl (.cell (by rfl) (run_loadVar_mid _ _ _ _ (fel (fmul (fpow (leastF x) 7237005577332262213973186563042994240829374041602535252466099000494570602494) (fpow 2 14474011154664524427946373126085988481658748083205070504932198000989141204987))) _ (M.r 3 0 rfl rfl) U986 rfl info86)) (.tmp (by rfl))) rfl ?_
   have BE := M.below
   exact ⟨by simp only [sqrt_even q2 q3, e2], BE⟩
  have q3 : root2 x % 2 = 1 := by rw [e2]; have := beq_iff_eq.1 hc66; omega
  refine cT ?_; refine Z13 ?_
  refine cM 3 fun Lk hLk => ?_
  refine Z24 (v := fe 0) (by rfl) (by rfl) (fun W hW => ?_) ?_
  ·
   rw [show fe 0 = .agg ([.int .u64 0, .int .u64 0, .int .u64 0, .int .u64 0]).toArray from (by kernel_rfl)]; unfold RunsVal; kernel_rfl
  simp only [Z0, Z6]
  refine vL ?_
  refine vC (v := fe (fsub 0 (fmul (fpow (leastF x) 7237005577332262213973186563042994240829374041602535252466099000494570602494) (fpow 2 14474011154664524427946373126085988481658748083205070504932198000989141204987)))) (fun W => fsub_c (by decide) (fmul_lt ..) W) ?_
  refine hLk _ fun w72 M => ?_
  refine sT 1 0 fun w73 M => ?_
  refine lZ k62 ?_
  refine qS fun _ k74 => ?_
  refine lL ?_
  refine sT 3 0 fun w77 M => ?_
  refine lg ?_; refine lZ k74 ?_; refine rt ?_
  refine bodyPost_ret (v := .tuple #[fe (fsub 0 (fmul (fpow (leastF x) 7237005577332262213973186563042994240829374041602535252466099000494570602494) (fpow 2 14474011154664524427946373126085988481658748083205070504932198000989141204987))), .bool true]) (res2 rfl (.cell (by rfl) (run_loadVar_mid _ _ _ _ (fel (fsub 0 (fmul (fpow (leastF x) 7237005577332262213973186563042994240829374041602535252466099000494570602494) (fpow 2 14474011154664524427946373126085988481658748083205070504932198000989141204987)))) _ (M.r 3 0 rfl rfl) U986 rfl info86)) (.tmp (by rfl))) rfl ?_
  have BE := M.below
  exact ⟨by simp only [sqrt_odd q2 q3, e2], BE⟩
 have e2 : root2 x = (fmul (fpow (leastF x) 7237005577332262213973186563042994240829374041602535252466099000494570602494) (fpow 2 14474011154664524427946373126085988481658748083205070504932198000989141204987)) := root2_f q1
 have q2 : ¬ fmul (root2 x) (root2 x) = leastF x := by rw [e2]; exact of_decide_eq_true hc61
 refine cT ?_
 refine qS fun _ k78 => ?_
 refine cM 1 fun Lk hLk => ?_
 refine Z24 (v := fe 0) (by rfl) (by rfl) (fun W hW => ?_) ?_
 ·
  rw [show fe 0 = .agg ([.int .u64 0, .int .u64 0, .int .u64 0, .int .u64 0]).toArray from (by kernel_rfl)]; unfold RunsVal; kernel_rfl
 simp only [Z0, Z6]
 refine hLk _ fun w80 M => ?_
 refine sT 3 0 fun w81 M => ?_
 refine lg ?_; refine lZ k78 ?_; refine rt ?_
 refine bodyPost_ret (v := .tuple #[fe 0, .bool false]) (res2 rfl (.cell (by rfl) (run_loadVar_mid _ _ _ _ (fel 0) _ (M.r 3 0 rfl rfl) U986 rfl info86)) (.tmp (by rfl))) rfl ?_
 have BE := M.below
 exact ⟨by simp only [sqrt_no q2], BE⟩
end Go.Proofs.Ya

