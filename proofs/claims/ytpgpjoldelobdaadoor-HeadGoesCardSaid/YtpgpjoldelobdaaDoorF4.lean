import Derived.Test.YtpgpjoldelobdaaDoorF3
import Derived.Test.YtpgpjoldelobdaaDoorSteps8
import Derived.Test.YtpgpjoldelobdaaDoorEq
import Derived.Test.YtpgpjoldelobdaaDoorShq
set_option linter.unusedSimpArgs false
set_option linter.unusedVariables false
namespace Go.Proofs.Ya
open Go Go.RowKit Go.Shelf Go.Proofs.Num
open Tryd renaming underlying86 → U986
open Go.Proofs.Num  renaming putT → Z0
open List renaming set → Z6
open Go renaming undef → Z9
open Go.Proofs.Num renaming wp_region_seq → Z13, wpL_nil → Z14, no_panic → Z15, wpV_val → Z24
attribute [local irreducible] wpV wpN wpList
set_option maxHeartbeats 1000000 in
theorem of_c {n : Nat} (hn : n < 18446744073709551616) (w : World) :
  Calls Tryd.prog 91 #[.int .u64 n] w fun e w' => e = .returned (fe n) ∧ Below w.heap.size w w' := by
 go_enter Tryd.func91, Tryd.ntmps91
 have M := Mem.start w
 refine qS fun _ k1 => ?_
 refine nV 4 fun g3 w4 M => ?_
 refine lZ k1 ?_
 refine qS fun _ k5 => ?_
 refine lM ?_
 refine cM 1 fun Lk hLk => ?_
 refine Z24 (v := fe n) (by rfl) (by rfl) (fun W hW => ?_) ?_
 ·
  rw [show fe n = .agg ([.int .u64 n, .int .u64 0, .int .u64 0, .int .u64 0]).toArray from (congrArg (fun l => Value.agg (List.toArray l)) (fel_of hn))]; unfold RunsVal; kernel_rfl
 simp only [Z0, Z6]
 refine hLk _ fun w7 M => ?_
 refine sT 0 0 fun w8 M => ?_
 refine lZ k5 ?_; refine rt ?_
 refine bodyPost_ret (v := fe n) (res1 rfl (.cell (by rfl) (run_loadVar_mid _ _ _ _ (fel n) _ (M.r 0 0 rfl rfl) U986 rfl info86))) rfl ?_
 exact ⟨rfl, M.below⟩
set_option maxHeartbeats 1000000 in
theorem folds_c {x a0 : Nat} (hx : x < 2 ^ 256) (ha : a0 < 2 ^ 64) (w : World) :
  Calls Tryd.prog 134 #[fe x, .int .u64 (a0 : Nat)] w fun e w' => e = .returned (fe (foldF x a0)) ∧ Below w.heap.size w w' := by
 go_enter Tryd.func134, Tryd.ntmps134
 have M := Mem.start w
 refine qS fun _ k1 => ?_
 refine nV 4 fun g3 w4 M => ?_
 refine nV 4 fun g5 w6 M => ?_
 refine lZ k1 ?_
 refine sk fun _ k7 => ?_
 refine wp_block ?_
 refine wp_loop_ghost (fun n9 a9 W9 => ∃ (X : Nat) (a : Nat) (u8_5 u8_6 u8_7 u8_8 u8_9 u8_10 u8_11 u8_12 u8_13 u8_14 u8_15 u8_16 u8_17 u8_18 u8_19 u8_20 u8_21 u8_22 u8_23 u8_24 u8_25 : Value), n9 = foldM X a ∧ a9 = { tmps := #[fe x, .int .u64 a, .pointer (some ⟨g3, 0, none⟩), Z9, .pointer (some ⟨g5, 0, none⟩), u8_5, u8_6, u8_7, u8_8, u8_9, u8_10, u8_11, u8_12, u8_13, u8_14, u8_15, u8_16, u8_17, u8_18, u8_19, u8_20, u8_21, u8_22, u8_23, u8_24, u8_25, Z9, Z9], defers := [] } ∧ Mem [] w W9 [⟨g5, 4, [(0, [.int .u64 0, .int .u64 0, .int .u64 0, .int .u64 0])]⟩, ⟨g3, 4, [(0, fel X)]⟩] ∧ (X < 2 ^ 256) ∧ (a < 2 ^ 64) ∧ (foldF X a = foldF x a0)) (foldM (x) (a0)) ?_ (fun n9 a9 W9 hI => ?_)
 ·
  exact ⟨x, a0, _, _, _, _, _, _, _, _, _, _, _, _, _, _, _, _, _, _, _, _, _, rfl, rfl, M, hx, ha, rfl⟩
 clear M
 obtain ⟨X, a, u8_5, u8_6, u8_7, u8_8, u8_9, u8_10, u8_11, u8_12, u8_13, u8_14, u8_15, u8_16, u8_17, u8_18, u8_19, u8_20, u8_21, u8_22, u8_23, u8_24, u8_25, rfl, rfl, M, hX, ha, hF⟩ := hI
 obtain ⟨w9, rfl⟩ : ∃ W8, W8 = W9 := ⟨_, rfl⟩
 have ha9 : a < 18446744073709551616 := ha
 refine sk fun _ k10 => ?_
 refine qS fun _ k11 => ?_
 refine lM ?_
 refine cM 1 fun Lk hLk => ?_
 refine vB (v := .bool (((a : Nat) : Int) != 0)) (hr := run_neq _ _ _ _) ?_
 refine hLk _ fun w13 M => ?_
 refine lZ k11 ?_
 cases hc14 : (((a : Nat) : Int) != 0)
 ·
  have ha0 : a = 0 := by simpa using hc14
  subst ha0
  refine cF ?_; refine eZ k7 ?_
  refine qS fun _ k15 => ?_
  refine lL ?_
  refine cM 1 fun Lk hLk => ?_
  refine vC (least_c hX) ?_
  refine hLk _ fun w17 M => ?_
  refine sT 0 0 fun w18 M => ?_
  refine lZ k15 ?_; refine rt ?_
  refine bodyPost_ret (v := fe (leastF X)) (res1 rfl (.cell (by rfl) (run_loadVar_mid _ _ _ _ (fel (leastF X)) _ (M.r 0 0 rfl rfl) U986 rfl info86))) rfl ?_
  have BE := M.below
  exact ⟨by (rw [← hF, foldF_zero]; try rfl), BE⟩
 have ha0 : a ≠ 0 := by intro e; subst e; simp at hc14
 refine cT ?_; refine sZ k10 ?_; refine wp_block ?_
 refine qS fun _ k19 => ?_
 refine lM ?_
 refine cM 4 fun Lk hLk => ?_
 refine vC (v := .tuple #[.int .u64 (a * 38 / 18446744073709551616 : Nat), .int .u64 (a * 38 % 18446744073709551616 : Nat)]) (fun W => mul64_c ha (by decide) W) ?_
 refine vM ?_; refine vE ?_; refine vE ?_
 refine hLk _ fun w21 M => ?_
 refine lg ?_; refine lg ?_; refine lZ k19 ?_
 refine qS fun _ k22 => ?_
 refine lL ?_; refine lM ?_; refine lM ?_
 refine cM 5 fun Lk hLk => ?_
 refine Z24 (v := fe (a * 38)) (by rfl) (by rfl) (fun W hW => ?_) ?_
 ·
  rw [show fe (a * 38) = .agg ([.int .u64 (a * 38 % 18446744073709551616 : Nat), .int .u64 (a * 38 / 18446744073709551616 : Nat), .int .u64 0, .int .u64 0]).toArray from (congrArg (fun l => Value.agg (List.toArray l)) (fel_38 ha))]; unfold RunsVal; kernel_rfl
 simp only [Z0, Z6]
 refine vC (plus_c hX (mul38_lt ha)) ?_
 refine vM ?_; refine vE ?_; refine vE ?_
 refine hLk _ fun w24 M => ?_
 refine nV 4 fun g25 w26 M => ?_
 refine sT 0 0 fun w27 M => ?_
 refine lg ?_; refine lZ k22 ?_; refine Z13 ?_; refine lL ?_; refine lM ?_
 refine sT 2 0 fun w30 M => ?_
 refine lg ?_
 refine Z14 (Z15 ?_)
 refine Exists.intro _ ⟨?_, (addW X (a * 38)), (addC X (a * 38)), _, _, _, _, _, _, _, _, _, _, _, _, _, _, _, _, _, _, _, _, _, rfl, rfl, (M.pick [1, 2] (by decide) rfl), (addW_lt ..), (addC_lt hX ha), ((foldF_step hX ha).trans hF)⟩
 exact foldM_step hX ha ha0
set_option maxHeartbeats 1000000 in
theorem fadd_c {x : Nat} (hx : x < 2 ^ 256) {y : Nat} (hy : y < 2 ^ 256) (w : World) :
  Calls Tryd.prog 128 #[fe x, fe y] w fun e w' => e = .returned (fe (fadd x y)) ∧ Below w.heap.size w w' := by
 go_enter Tryd.func128, Tryd.ntmps128
 have M := Mem.start w
 refine qS fun _ k1 => ?_
 refine nV 4 fun g3 w4 M => ?_
 refine nV 4 fun g5 w6 M => ?_
 refine nV 4 fun g7 w8 M => ?_
 refine lZ k1 ?_
 refine qS fun _ k9 => ?_
 refine lL ?_; refine lL ?_
 refine cM 4 fun Lk hLk => ?_
 refine vC (plus_c hx hy) ?_
 refine vM ?_; refine vE ?_; refine vE ?_
 refine hLk _ fun w11 M => ?_
 refine nV 4 fun g12 w13 M => ?_
 refine sT 0 0 fun w14 M => ?_
 refine lg ?_; refine lZ k9 ?_
 refine qS fun _ k15 => ?_
 refine lL ?_; refine lM ?_
 refine cM 1 fun Lk hLk => ?_
 refine vC (v := fe (foldF (addW x y) (addC x y))) (fun W => folds_c (addW_lt ..) (Nat.lt_of_le_of_lt (addC_le hx hy) (by decide)) W) ?_
 refine hLk _ fun w17 M => ?_
 refine sT 1 0 fun w18 M => ?_
 refine lZ k15 ?_; refine rt ?_
 refine bodyPost_ret (v := fe (foldF (addW x y) (addC x y))) (res1 rfl (.cell (by rfl) (run_loadVar_mid _ _ _ _ (fel (foldF (addW x y) (addC x y))) _ (M.r 1 0 rfl rfl) U986 rfl info86))) rfl ?_
 have BE := M.below
 exact ⟨by (rw [fadd_eq]; try rfl), BE⟩
set_option maxHeartbeats 1000000 in
theorem fsub_c {x : Nat} (hx : x < 2 ^ 256) {y : Nat} (hy : y < 2 ^ 256) (w : World) :
  Calls Tryd.prog 90 #[fe x, fe y] w fun e w' => e = .returned (fe (fsub x y)) ∧ Below w.heap.size w w' := by
 go_enter Tryd.func90, Tryd.ntmps90
 have M := Mem.start w
 refine qS fun _ k1 => ?_
 refine nV 4 fun g3 w4 M => ?_
 refine nV 4 fun g5 w6 M => ?_
 refine nV 4 fun g7 w8 M => ?_
 refine lZ k1 ?_
 refine sk fun _ k9 => ?_
 refine rH 8 [6] fun Lk hLk => ?_
 refine vC prime_c ?_; refine vL ?_
 refine vC (least_c hy) ?_
 refine vC (minus_c pF_lt (leastF_lt ..)) ?_
 refine vM ?_; refine vE ?_; refine vE ?_; refine vW ?_; refine hLk _ ?_; refine nA ?_
 refine n1 4 fun g11 w12 M => ?_
 refine sT 0 0 fun w13 M => ?_
 refine lg ?_; refine lZ k9 ?_
 refine qS fun _ k14 => ?_
 refine lL ?_; refine lL ?_
 refine cM 1 fun Lk hLk => ?_
 refine vC (fadd_c hx (subW_lt ..)) ?_
 refine hLk _ fun w16 M => ?_
 refine sT 1 0 fun w17 M => ?_
 refine lZ k14 ?_; refine rt ?_
 refine bodyPost_ret (v := fe (fadd x (subW pF (leastF y)))) (res1 rfl (.cell (by rfl) (run_loadVar_mid _ _ _ _ (fel (fadd x (subW pF (leastF y)))) _ (M.r 1 0 rfl rfl) U986 rfl info86))) rfl ?_
 have BE := M.below
 exact ⟨by (rw [fsub_eq]; try rfl), BE⟩
end Go.Proofs.Ya

