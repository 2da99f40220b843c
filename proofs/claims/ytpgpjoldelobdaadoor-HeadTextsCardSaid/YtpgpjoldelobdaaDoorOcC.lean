import Derived.Test.YtpgpjoldelobdaaDoorSq4
import Derived.Lib.AppendStr
import Derived.Test.YtpgpjoldelobdaaDoorF3
import Derived.WalkKit
import Derived.WalkSpells
import Derived.Laws.Pointers
import Derived.RowKit3
import Derived.Below
import Derived.Outline
import Derived.LoopN
import Derived.Lib.Hide
import Derived.Handy
import Derived.Laws.Bits64b
import Derived.Lib.Bytealg
import Derived.Test.YtpgpjoldelobdaaDoorSteps13
import Derived.Test.YtpgpjoldelobdaaDoorSteps7
import Derived.Test.YtpgpjoldelobdaaDoorAdds2
import Derived.Test.YtpgpjoldelobdaaDoorEdB
import Derived.Test.YtpgpjoldelobdaaDoorOctA
import Derived.Test.YtpgpjoldelobdaaDoorEqS
import Derived.Test.YtpgpjoldelobdaaDoorShq
set_option linter.unusedSimpArgs false
set_option linter.unusedVariables false
namespace Go.Proofs.Yc
open Go Go.RowKit Go.Shelf Go.Proofs.Num
open Tryd renaming underlying105 → U9105, underlying107 → U9107, underlying185 → U9185, underlying29 → U929, underlying3 → U93, underlying4 → U94, underlying5 → U95, underlying9 → U99
set_option maxHeartbeats 2000000 in
set_option maxRecDepth 100000 in
theorem writeString_c (B b : Nat) (bs : List Value) (s : ByteArray) (w : World) (h : Lib.IsBuilder 107 5 B b bs w) (hlen : bs.length + s.size ≤ 140737488355328) (hBw : B ≤ w.heap.size) :
  Calls Tryd.prog 69 #[.pointer (some ⟨b, 0, none⟩), .string s] w fun e w' => e = .returned (.tuple #[.int .i64 s.size, .nilIface]) ∧ (Lib.BuilderAt 107 5 B b (.pointer (some ⟨b, 0, none⟩)) (bs ++ Lib.strCells s) w' ∧ Below B w w') := by
 obtain ⟨i0, hi, hz0, hz1, hz2⟩ := info_parts (show (Tryd.prog.info? 5).map (fun i => (i.zero, i.size, i.bytes)) = some (some (.int .u8 0), 1, 1) by kernel_rfl)
 have mixed : Tryd.prog.follows .mixedOrders = true := by kernel_rfl
 have t107 := U9107; have a107 := Tryd.isAgg107; have z107 := Tryd.sizeOf107; have v107 := Tryd.zeroValue107; have u107 := run_underlying U9107
 have t105 := U9105; have a105 := Tryd.isAgg105; have z105 := Tryd.sizeOf105; have v105 := Tryd.zeroValue105; have u105 := run_underlying U9105
 have t5 := U95; have a5 := Tryd.isAgg5; have z5 := Tryd.sizeOf5; have v5 := Tryd.zeroValue5; have u5 := run_underlying U95
 have t29 := U929; have a29 := Tryd.isAgg29; have z29 := Tryd.sizeOf29; have v29 := Tryd.zeroValue29; have u29 := run_underlying U929
 have t3 := U93; have a3 := Tryd.isAgg3; have z3 := Tryd.sizeOf3; have v3 := Tryd.zeroValue3; have u3 := run_underlying U93
 have t9 := U99; have a9 := Tryd.isAgg9; have z9 := Tryd.sizeOf9; have v9 := Tryd.zeroValue9; have u9 := run_underlying U99
 have t4 := U94; have a4 := Tryd.isAgg4; have z4 := Tryd.sizeOf4; have v4 := Tryd.zeroValue4; have u4 := run_underlying U94
 have t185 := U9185; have a185 := Tryd.isAgg185; have z185 := Tryd.sizeOf185; have v185 := Tryd.zeroValue185; have u185 := run_underlying U9185
 have ecc : ∀ args w, (callFunc 103 args).run Tryd.prog w = .ok (.enter 103 args) w := enters_of Tryd.func103 (by kernel_rfl) rfl
 go_enter Tryd.func69, Tryd.ntmps69
 go_wp2_with (go_at_fn 103; refine (copyCheck_c B b bs _ h).mono ?_)
 rintro e w1 ⟨rfl, h1, hb1⟩
 obtain ⟨hB, v, hbk, hown, hne⟩ := h1
 have c0 : w1.cell? ⟨b, 0, none⟩ = some (.pointer (some ⟨b, 0, none⟩)) := by rw [Lib.cell_of_heap hbk]; rfl
 have c1 : w1.cell? ⟨b, 1, none⟩ = some v := by rw [Lib.cell_of_heap hbk]; rfl
 go_wp2_with (at_builtin; refine Lib.wpList_append_own_string _ rfl _ _ 29 9 rfl B 5 i0 U929 U99 hi hz0 hz1 hz2 _ _ _ rfl hown s rfl ?c3 ?c4 ?c5 ?_)
 case c3 => unfold maxLen; omega
 case c4 => omega
 case c5 => have := hb1.size; omega
 intro v' w2 hown' hgrow _
 have hlt : b < w1.heap.size := by
  rcases Nat.lt_or_ge b w1.heap.size with h' | h'
  ·
   exact h'
  simp [Array.getElem?_eq_none h'] at hbk
 have hb2 : w2.heap[b]? = some (.cells #[.pointer (some ⟨b, 0, none⟩), v] 107 (0, 0)) := by
  rw [hgrow.block b hlt (fun e => hne e.symm)]
  exact hbk
 have d0 : w2.cell? ⟨b, 0, none⟩ = some (.pointer (some ⟨b, 0, none⟩)) := by rw [Lib.cell_of_heap hb2]; rfl
 have d1 : w2.cell? ⟨b, 1, none⟩ = some v := by rw [Lib.cell_of_heap hb2]; rfl
 have f1 : w2.frozen? ⟨b, 1, none⟩ = false := Lib.frozen_of_heap hb2 1
 obtain ⟨ao, n', cap, rfl⟩ : ∃ ao n' cap, v' = .slice ao n' cap := by
  rcases hown'.2 with ⟨hv, _⟩ | ⟨g, cap, cur, hv, _⟩
  ·
   exact ⟨_, _, _, hv⟩
  exact ⟨_, _, _, hv⟩
 go_wp2
 go_ret2
 refine ⟨rfl, ?_, ?_⟩
 ·
  exact Lib.BuilderAt.put (T := 107) (e := 5) hB hb2 (bs' := bs ++ Lib.strCells s) (by simpa [Lib.strCells_length] using hown') (by decide)
 exact (hb1.grown hgrow (by have := hb1.size; omega) (fun k hk => (hown.lt k hk).1)).setCell (p := ⟨b, 1, none⟩) hB _
end Go.Proofs.Yc

namespace Go.Proofs.Yc
open Go Go.RowKit Go.Proofs.Num
open Tryd renaming underlying29 → U929, underlying37 → U937, underlying40 → U940, underlying5 → U95, underlying9 → U99
open Go.Proofs.Num  renaming putT → Z0
open Nat renaming lt_of_lt_of_le → Z1, zero_add → Z2, le_trans → Z3, mod_eq_of_lt → Z5
open List renaming set → Z6, take → Z7, drop → Z8
open Go renaming undef → Z9
open Go.Proofs.Num renaming wp_region_seq → Z13, wpL_nil → Z14, no_panic → Z15, wpV_nil → Z19, wpL_var → Z36
attribute [local irreducible] wpV wpN wpList
open Go.Proofs.Ya
theorem pack_cells {ps : List (List UInt8)} {k : Nat} (h : k < ps.length) : Lib.byteCells (packL (ps.take k)) ++ Lib.byteCells (beL 4 (ps.getD k []).length) ++ Lib.byteCells (ps.getD k []) = Lib.byteCells (packL (ps.take (k + 1))) := by
 rw [packL_take h]
 simp [Lib.byteCells]
theorem packN_take {ps : List (List UInt8)} {k : Nat} (h : k < ps.length) : packN (ps.take k) + 4 + (ps.getD k []).length ≤ packN ps := by
 induction ps generalizing k with
 | nil => exact absurd h (by simp)
 | cons s ps ih =>
  cases k with
  | zero => simp [packN, List.getD_eq_getElem?_getD]
  | succ k =>
   have := ih (k := k) (by simpa using h)
   simp only [List.take_succ_cons, packN, List.getD_cons_succ]
   omega
set_option maxHeartbeats 2000000 in
theorem big4_c {n : Nat} {w : World} (hn : n < 4294967296) :
  Calls Tryd.prog 100 #[.int .u64 n, .int .i64 4] w fun e w' => e = .returned (.tuple #[.string (bs (beL 4 n)), .int .i64 0]) ∧ Below w.heap.size w w' := by
 have hn64 : n < 18446744073709551616 := Z1 hn (by decide)
 go_enter Tryd.func100, Tryd.ntmps100
 have M := Mem.start w
 refine qS fun _ k1 => ?_
 refine lg ?_; refine lg ?_; refine lZ k1 ?_
 refine sk fun _ k3 => ?_
 refine qS fun _ k4 => ?_
 refine lM ?_
 refine cM 16 fun Lk hLk => ?_
 refine vB (v := .bool false) (hr := run_lss _ _ _ _) ?_
 refine vM ?_; refine vM ?_
 refine vB (v := .bool false) (hr := run_gtr _ _ _ _) ?_
 refine vK ?_; refine vM ?_; refine vM ?_
 refine vB (v := .bool true) (hr := run_lss _ _ _ _) ?_
 refine vM ?_; refine vM ?_; refine vM ?_
 refine vB (v := .int .i64 32) (hr := run_mul (by decide)) ?_
 refine vB (v := .int .u64 (n / 2 ^ 32 : Nat)) (hr := nr_shr64 (n := 32) (by decide)) ?_
 refine vB (v := .bool false) (hr := fun W => (run_neqN (n / 2 ^ 32) 0 _ _ W).trans (by rw [(decide_eq_false (fun h => h (Nat.div_eq_of_lt (Nat.lt_of_lt_of_eq hn (by decide)))))])) ?_
 refine vK ?_; refine vK ?_
 refine hLk _ fun w6 M => ?_
 refine lZ k4 ?_; refine cF ?_; refine sZ k3 ?_
 refine qS fun _ k7 => ?_
 refine lM ?_
 refine wpL_make (n := 4) (z := .int .u8 0) (bytes := 1) (by rfl) (by rfl) (by rfl) (by rfl) U929 (by kernel_rfl) rfl (by decide) (by decide) (fun g9 w10 Sw10 Hg9 Bg9 => ?_)
 replace M := ((M.sees Sw10).add (N := 4) (cs := List.replicate 4 (.int .u8 0)) (M.ge Hg9) (M.fresh Hg9) Bg9 (by simp [flen]))
 clear Bg9
 rw [beF_zero 4 n] at M
 simp only [Z0, Z6]
 refine lg ?_; refine lZ k7 ?_
 refine sk fun _ k11 => ?_
 refine qS fun _ k12 => ?_
 refine lM ?_
 refine cM 1 fun Lk hLk => ?_
 refine wpV_lenA (n := 4) (by rfl) rfl rfl rfl U929 ?_
 simp only [Z0, Z6]
 refine hLk _ fun w14 M => ?_
 refine lM ?_; refine lZ k12 ?_; refine wp_block ?_
 refine wp_loop_ghost (fun n9 a9 W9 => ∃ (i : Nat) (u15_7 u15_30 u15_31 u15_32 u15_33 u15_34 u15_35 u15_36 u15_37 u15_38 u15_39 u15_40 u15_41 u15_42 u15_43 : Value), n9 = 2 * (4 - i) ∧ a9 = { tmps := #[.int .u64 n, .int .i64 4, Z9, Z9, .string (bs ([])), .int .i64 0, .slice (some ⟨g9, 0, none⟩) 4 4, u15_7, .int .i64 4, .bool false, .bool false, .int .i64 4, .bool false, .bool false, .bool false, .int .i64 4, .bool true, .bool true, .int .u64 n, .int .i64 4, .int .i64 32, .int .u64 (n / 2 ^ 32 : Nat), .bool false, .bool false, .bool false, .int .i64 4, .slice (some ⟨g9, 0, none⟩) 4 4, .slice (some ⟨g9, 0, none⟩) 4 4, .int .i64 4, .int .i64 i, u15_30, u15_31, u15_32, u15_33, u15_34, u15_35, u15_36, u15_37, u15_38, u15_39, u15_40, u15_41, u15_42, u15_43, Z9, Z9], defers := [] } ∧ Mem [] w W9 [⟨g9, 4, [(0, bl 4 (beF 4 n i))]⟩] ∧ (i ≤ 4)) (2 * (4 - (0))) ?_ (fun n9 a9 W9 hI => ?_)
 ·
  exact ⟨0, _, _, _, _, _, _, _, _, _, _, _, _, _, _, _, rfl, rfl, M, (Nat.zero_le _)⟩
 clear M
 obtain ⟨i, u15_7, u15_30, u15_31, u15_32, u15_33, u15_34, u15_35, u15_36, u15_37, u15_38, u15_39, u15_40, u15_41, u15_42, u15_43, rfl, rfl, M, hi4⟩ := hI
 obtain ⟨w16, rfl⟩ : ∃ W8, W8 = W9 := ⟨_, rfl⟩
 refine qS fun _ k17 => ?_
 refine cM 1 fun Lk hLk => ?_
 refine vB (v := .bool (decide (i < 4))) (hr := run_lssN i 4 _ _) ?_
 refine hLk _ fun w19 M => ?_
 refine lZ k17 ?_
 refine sk fun _ k20 => ?_
 cases hc21 : (decide (i < 4))
 ·
  have ei : i = 4 := by have := of_decide_eq_false hc21; omega
  subst ei
  rw [beF_end] at M
  refine cF ?_; refine eZ k11 ?_
  refine qS fun _ k22 => ?_
  refine lM ?_
  refine cM 1 fun Lk hLk => ?_
  refine wpV_b2s (l := (beL 4 n)) (by rfl) rfl rfl (beL_len _ _).symm U929 U95 U99 (M.r 0 0 rfl rfl) (M.lt 0 rfl) ?_
  simp only [Z0, Z6]
  refine hLk _ fun w24 M => ?_
  refine lg ?_; refine lg ?_; refine lZ k22 ?_; refine rt2 ?_
  exact ⟨rfl, M.below⟩
 have hi : i < 4 := of_decide_eq_true hc21
 refine cT ?_; refine sZ k20 ?_
 refine sk fun _ k25 => ?_
 refine wp_block ?_
 refine qS fun _ k26 => ?_
 refine lM ?_; refine lg ?_; refine lZ k26 ?_; refine Z13 ?_; refine lM ?_; refine lM ?_
 refine cM 9 fun Lk hLk => ?_
 refine vB (v := .int .i64 3) (hr := run_sub (by decide)) ?_
 refine vM ?_
 refine vB (v := .int .i64 (4 - 1 - i : Nat)) (hr := run_sub (by simp only [IntKind.wrap_i64]; omega)) ?_
 refine vM ?_; refine vM ?_
 refine vB (v := .int .i64 (8 * i : Nat)) (hr := run_mul (by simp only [IntKind.wrap_i64]; omega)) ?_
 refine vB (v := .int .u64 (n / 2 ^ (8 * i) : Nat)) (hr := nr_shr64 (n := 8 * i) (by omega)) ?_
 refine wpV_conv (d := .bool) (e := (((n / 2 ^ (8 * i)) % 256 : Nat) : Int)) (by rfl) rfl rfl (run_conv_int U940 U95 (wrap_u8N _)) ?_
 simp only [Z0, Z6]
 refine wpV_idxs (n := 4 - 1 - i) (by rfl) rfl rfl rfl U929 info5 (by omega) ?_
 simp only [Z2]
 simp only [Z0, Z6]
 refine hLk _ fun w29 M => ?_
 refine lS1 (g := g9) (off := 4 - 1 - i) (n := 4) (v := .int .u8 ((n / 2 ^ (8 * i)) % 256 : Nat)) (M.t 0 rfl) (by omega) info5 rfl (fun w30 P R T => ?_)
 replace M := M.put1 (j := 4 - 1 - i) 0 rfl P R T (Z2 _).symm
 simp only [Z6] at M
 rw [beF_step 4 n hi] at M
 refine lZ k25 ?_; refine Z13 ?_
 refine cM 1 fun Lk hLk => ?_
 refine vB (v := .int .i64 (i + 1 : Nat)) (hr := run_add (by simp only [IntKind.wrap_i64]; omega)) ?_
 refine hLk _ fun w32 M => ?_
 refine lM ?_
 refine Z14 (Z15 ?_)
 refine Exists.intro _ ⟨?_, (i + 1), _, _, _, _, _, _, _, _, _, _, _, _, _, _, _, rfl, rfl, M, (by omega)⟩
 omega
set_option maxHeartbeats 2000000 in
theorem big8_c {n : Nat} {w : World} (hn : n < 18446744073709551616) :
  Calls Tryd.prog 100 #[.int .u64 n, .int .i64 8] w fun e w' => e = .returned (.tuple #[.string (bs (beL 8 n)), .int .i64 0]) ∧ Below w.heap.size w w' := by
 have hn64 : n < 18446744073709551616 := Z1 hn (by decide)
 go_enter Tryd.func100, Tryd.ntmps100
 have M := Mem.start w
 refine qS fun _ k1 => ?_
 refine lg ?_; refine lg ?_; refine lZ k1 ?_
 refine sk fun _ k3 => ?_
 refine qS fun _ k4 => ?_
 refine lM ?_
 refine cM 16 fun Lk hLk => ?_
 refine vB (v := .bool false) (hr := run_lss _ _ _ _) ?_
 refine vM ?_; refine vM ?_
 refine vB (v := .bool false) (hr := run_gtr _ _ _ _) ?_
 refine vK ?_; refine vM ?_; refine vM ?_
 refine vB (v := .bool false) (hr := run_lss _ _ _ _) ?_
 refine vM ?_; refine vS ?_; refine vS ?_; refine vS ?_; refine vS ?_; refine vS ?_; refine vK ?_; refine vK ?_
 refine hLk _ fun w6 M => ?_
 refine lZ k4 ?_; refine cF ?_; refine sZ k3 ?_
 refine qS fun _ k7 => ?_
 refine lM ?_
 refine wpL_make (n := 8) (z := .int .u8 0) (bytes := 1) (by rfl) (by rfl) (by rfl) (by rfl) U929 (by kernel_rfl) rfl (by decide) (by decide) (fun g9 w10 Sw10 Hg9 Bg9 => ?_)
 replace M := ((M.sees Sw10).add (N := 8) (cs := List.replicate 8 (.int .u8 0)) (M.ge Hg9) (M.fresh Hg9) Bg9 (by simp [flen]))
 clear Bg9
 rw [beF_zero 8 n] at M
 simp only [Z0, Z6]
 refine lg ?_; refine lZ k7 ?_
 refine sk fun _ k11 => ?_
 refine qS fun _ k12 => ?_
 refine lM ?_
 refine cM 1 fun Lk hLk => ?_
 refine wpV_lenA (n := 8) (by rfl) rfl rfl rfl U929 ?_
 simp only [Z0, Z6]
 refine hLk _ fun w14 M => ?_
 refine lM ?_; refine lZ k12 ?_; refine wp_block ?_
 refine wp_loop_ghost (fun n9 a9 W9 => ∃ (i : Nat) (u15_7 u15_30 u15_31 u15_32 u15_33 u15_34 u15_35 u15_36 u15_37 u15_38 u15_39 u15_40 u15_41 u15_42 u15_43 : Value), n9 = 2 * (8 - i) ∧ a9 = { tmps := #[.int .u64 n, .int .i64 8, Z9, Z9, .string (bs ([])), .int .i64 0, .slice (some ⟨g9, 0, none⟩) 8 8, u15_7, .int .i64 8, .bool false, .bool false, .int .i64 8, .bool false, .bool false, .bool false, .int .i64 8, .bool false, .bool false, Z9, Z9, Z9, Z9, Z9, .bool false, .bool false, .int .i64 8, .slice (some ⟨g9, 0, none⟩) 8 8, .slice (some ⟨g9, 0, none⟩) 8 8, .int .i64 8, .int .i64 i, u15_30, u15_31, u15_32, u15_33, u15_34, u15_35, u15_36, u15_37, u15_38, u15_39, u15_40, u15_41, u15_42, u15_43, Z9, Z9], defers := [] } ∧ Mem [] w W9 [⟨g9, 8, [(0, bl 8 (beF 8 n i))]⟩] ∧ (i ≤ 8)) (2 * (8 - (0))) ?_ (fun n9 a9 W9 hI => ?_)
 ·
  exact ⟨0, _, _, _, _, _, _, _, _, _, _, _, _, _, _, _, rfl, rfl, M, (Nat.zero_le _)⟩
 clear M
 obtain ⟨i, u15_7, u15_30, u15_31, u15_32, u15_33, u15_34, u15_35, u15_36, u15_37, u15_38, u15_39, u15_40, u15_41, u15_42, u15_43, rfl, rfl, M, hi4⟩ := hI
 obtain ⟨w16, rfl⟩ : ∃ W8, W8 = W9 := ⟨_, rfl⟩
 refine qS fun _ k17 => ?_
 refine cM 1 fun Lk hLk => ?_
 refine vB (v := .bool (decide (i < 8))) (hr := run_lssN i 8 _ _) ?_
 refine hLk _ fun w19 M => ?_
 refine lZ k17 ?_
 refine sk fun _ k20 => ?_
 cases hc21 : (decide (i < 8))
 ·
  have ei : i = 8 := by have := of_decide_eq_false hc21; omega
  subst ei
  rw [beF_end] at M
  refine cF ?_; refine eZ k11 ?_
  refine qS fun _ k22 => ?_
  refine lM ?_
  refine cM 1 fun Lk hLk => ?_
  refine wpV_b2s (l := (beL 8 n)) (by rfl) rfl rfl (beL_len _ _).symm U929 U95 U99 (M.r 0 0 rfl rfl) (M.lt 0 rfl) ?_
  simp only [Z0, Z6]
  refine hLk _ fun w24 M => ?_
  refine lg ?_; refine lg ?_; refine lZ k22 ?_; refine rt2 ?_
  exact ⟨rfl, M.below⟩
 have hi : i < 8 := of_decide_eq_true hc21
 refine cT ?_; refine sZ k20 ?_
 refine sk fun _ k25 => ?_
 refine wp_block ?_
 refine qS fun _ k26 => ?_
 refine lM ?_; refine lg ?_; refine lZ k26 ?_; refine Z13 ?_; refine lM ?_; refine lM ?_
 refine cM 9 fun Lk hLk => ?_
 refine vB (v := .int .i64 7) (hr := run_sub (by decide)) ?_
 refine vM ?_
 refine vB (v := .int .i64 (8 - 1 - i : Nat)) (hr := run_sub (by simp only [IntKind.wrap_i64]; omega)) ?_
 refine vM ?_; refine vM ?_
 refine vB (v := .int .i64 (8 * i : Nat)) (hr := run_mul (by simp only [IntKind.wrap_i64]; omega)) ?_
 refine vB (v := .int .u64 (n / 2 ^ (8 * i) : Nat)) (hr := nr_shr64 (n := 8 * i) (by omega)) ?_
 refine wpV_conv (d := .bool) (e := (((n / 2 ^ (8 * i)) % 256 : Nat) : Int)) (by rfl) rfl rfl (run_conv_int U940 U95 (wrap_u8N _)) ?_
 simp only [Z0, Z6]
 refine wpV_idxs (n := 8 - 1 - i) (by rfl) rfl rfl rfl U929 info5 (by omega) ?_
 simp only [Z2]
 simp only [Z0, Z6]
 refine hLk _ fun w29 M => ?_
 refine lS1 (g := g9) (off := 8 - 1 - i) (n := 8) (v := .int .u8 ((n / 2 ^ (8 * i)) % 256 : Nat)) (M.t 0 rfl) (by omega) info5 rfl (fun w30 P R T => ?_)
 replace M := M.put1 (j := 8 - 1 - i) 0 rfl P R T (Z2 _).symm
 simp only [Z6] at M
 rw [beF_step 8 n hi] at M
 refine lZ k25 ?_; refine Z13 ?_
 refine cM 1 fun Lk hLk => ?_
 refine vB (v := .int .i64 (i + 1 : Nat)) (hr := run_add (by simp only [IntKind.wrap_i64]; omega)) ?_
 refine hLk _ fun w32 M => ?_
 refine lM ?_
 refine Z14 (Z15 ?_)
 refine Exists.intro _ ⟨?_, (i + 1), _, _, _, _, _, _, _, _, _, _, _, _, _, _, _, rfl, rfl, M, (by omega)⟩
 omega
set_option maxHeartbeats 2000000 in
theorem number_c {l : List UInt8} {w : World} (hl : l.length ≤ 8) :
  Calls Tryd.prog 25 #[.string (bs l)] w fun e w' => e = .returned (.tuple #[.int .u64 (numN l : Nat), .int .i64 0]) ∧ Below w.heap.size w w' := by
 go_enter Tryd.func25, Tryd.ntmps25
 have M := Mem.start w
 refine qS fun _ k1 => ?_
 refine lg ?_; refine lg ?_; refine lZ k1 ?_
 refine sk fun _ k3 => ?_
 refine qS fun _ k4 => ?_
 refine lM ?_
 refine cM 2 fun Lk hLk => ?_
 refine wpV_lenS (by rfl) rfl rfl rfl U99 ?_
 simp only [Z0, Z6]
 refine vB (v := .bool false) (hr := fun W => (run_gtrN l.length 8 _ _ W).trans (by rw [(decide_eq_false (by omega))])) ?_
 refine hLk _ fun w6 M => ?_
 refine lZ k4 ?_; refine cF ?_; refine sZ k3 ?_
 refine qS fun _ k7 => ?_
 refine lg ?_; refine lZ k7 ?_
 refine sk fun _ k9 => ?_
 refine qS fun _ k10 => ?_
 refine lM ?_
 refine cM 1 fun Lk hLk => ?_
 refine wpV_lenS (by rfl) rfl rfl rfl U99 ?_
 simp only [Z0, Z6]
 refine hLk _ fun w12 M => ?_
 refine lM ?_; refine lZ k10 ?_; refine wp_block ?_
 refine wp_loop_ghost (fun n9 a9 W9 => ∃ (i : Nat) (u13_5 u13_12 u13_13 u13_14 u13_15 u13_16 u13_17 u13_18 u13_19 u13_20 u13_21 : Value), n9 = 2 * (l.length - i) ∧ a9 = { tmps := #[.string (bs l), Z9, .int .u64 0, .int .i64 0, .int .u64 (numN (l.take i) : Nat), u13_5, .string (bs l), .int .i64 l.length, .bool false, .string (bs l), .int .i64 l.length, .int .i64 i, u13_12, u13_13, u13_14, u13_15, u13_16, u13_17, u13_18, u13_19, u13_20, u13_21, Z9], defers := [] } ∧ Mem [] w W9 [] ∧ (i ≤ l.length)) (2 * (l.length - (0))) ?_ (fun n9 a9 W9 hI => ?_)
 ·
  exact ⟨0, _, _, _, _, _, _, _, _, _, _, _, rfl, rfl, M, (Nat.zero_le _)⟩
 clear M
 obtain ⟨i, u13_5, u13_12, u13_13, u13_14, u13_15, u13_16, u13_17, u13_18, u13_19, u13_20, u13_21, rfl, rfl, M, hi4⟩ := hI
 obtain ⟨w14, rfl⟩ : ∃ W8, W8 = W9 := ⟨_, rfl⟩
 refine qS fun _ k15 => ?_
 refine cM 1 fun Lk hLk => ?_
 refine vB (v := .bool (decide (i < l.length))) (hr := run_lssN i l.length _ _) ?_
 refine hLk _ fun w17 M => ?_
 refine lZ k15 ?_
 refine sk fun _ k18 => ?_
 cases hc19 : (decide (i < l.length))
 ·
  have ei : i = l.length := by have := of_decide_eq_false hc19; omega
  subst ei
  refine cF ?_; refine eZ k9 ?_
  refine qS fun _ k20 => ?_
  refine lM ?_; refine lg ?_; refine lg ?_; refine lZ k20 ?_; refine rt2 ?_
  have BE := M.below
  exact ⟨by (rw [List.take_length]; try rfl), BE⟩
 have hi : i < l.length := of_decide_eq_true hc19
 have hb9 := byteN_lt l i
 have hN9 : numN (l.take i) < 72057594037927936 := Z1 (numN_lt _) (by rw [List.length_take]; exact Z3 (Nat.pow_le_pow_right (by decide) (show min i l.length ≤ 7 by omega)) (by decide))
 refine cT ?_; refine sZ k18 ?_
 refine sk fun _ k22 => ?_
 refine wp_block ?_
 refine qS fun _ k23 => ?_
 refine lM ?_; refine lg ?_; refine lZ k23 ?_; refine Z13 ?_; refine lM ?_
 refine cM 6 fun Lk hLk => ?_
 refine vB (v := .int .u64 (numN (l.take i) * 256 : Nat)) (hr := run_shl (n := 8) (by decide) (by rw [wrap64N]; congr 1; omega)) ?_
 refine vM ?_; refine vM ?_
 refine wpV_indexb (n := i) (by omega) (by rfl) rfl rfl rfl U99 ?_
 simp only [Z0, Z6]
 refine wpV_conv (d := .bool) (e := ((byteN l i : Nat) : Int)) (by rfl) rfl rfl (run_conv_int U95 U940 (by have := (byteN_lt l i); rw [wrap_u64]; omega)) ?_
 simp only [Z0, Z6]
 refine vB (v := .int .u64 (numN (l.take (i + 1)) : Nat)) (hr := run_or ((or8q hN9 hb9).trans (congrArg _ (by rw [numN_take l hi, Nat.mul_comm])))) ?_
 refine hLk _ fun w26 M => ?_
 refine lg ?_; refine lZ k22 ?_; refine Z13 ?_
 refine cM 1 fun Lk hLk => ?_
 refine vB (v := .int .i64 (i + 1 : Nat)) (hr := run_add (by simp only [IntKind.wrap_i64]; omega)) ?_
 refine hLk _ fun w28 M => ?_
 refine lM ?_
 refine Z14 (Z15 ?_)
 refine Exists.intro _ ⟨?_, (i + 1), _, _, _, _, _, _, _, _, _, _, _, rfl, rfl, M, (by omega)⟩
 omega
set_option maxHeartbeats 1000000 in
theorem number_no {l : List UInt8} {w : World} (hl : 8 < l.length) :
  Calls Tryd.prog 25 #[.string (bs l)] w fun e w' => e = .returned (.tuple #[.int .u64 0, .int .i64 1]) ∧ Below w.heap.size w w' := by
 go_enter Tryd.func25, Tryd.ntmps25
 have M := Mem.start w
 refine qS fun _ k1 => ?_
 refine lg ?_; refine lg ?_; refine lZ k1 ?_
 refine sk fun _ _ => ?_
 refine qS fun _ k4 => ?_
 refine lM ?_
 refine cM 2 fun Lk hLk => ?_
 refine wpV_lenS (by rfl) rfl rfl rfl U99 ?_
 simp only [Z0, Z6]
 refine vB (v := .bool true) (hr := fun W => (run_gtrN l.length 8 _ _ W).trans (by rw [(decide_eq_true hl)])) ?_
 refine hLk _ fun w6 M => ?_
 refine lZ k4 ?_; refine cT ?_
 refine qS fun _ k7 => ?_
 refine lg ?_; refine lg ?_; refine lZ k7 ?_; refine rt2 ?_
 exact ⟨rfl, M.below⟩
set_option maxHeartbeats 2000000 in
theorem pack_c {ps : List (List UInt8)} {g0 cg0 : Nat} {w : World} (hq : ps.length ≤ 64) (hp : packN ps ≤ 65536) (hcg0 : ps.length ≤ cg0) (Lg0 : g0 < w.heap.size) (Rg0_0 : w.rangeAt g0 0 (scells ps)) :
  Calls Tryd.prog 59 #[.slice (some ⟨g0, 0, none⟩) ps.length cg0] w fun e w' => e = .returned (.tuple #[.string (bs (packL ps)), .int .i64 0]) ∧ Below w.heap.size w w' := by
 go_enter Tryd.func59, Tryd.ntmps59
 have M := Mem.start w
 refine qS fun _ k1 => ?_
 refine lg ?_; refine lg ?_; refine lZ k1 ?_
 refine sk fun _ k3 => ?_
 refine qS fun _ k4 => ?_
 refine lM ?_
 refine cM 2 fun Lk hLk => ?_
 refine wpV_lenA (n := ps.length) (by rfl) rfl rfl rfl U937 ?_
 simp only [Z0, Z6]
 refine vB (v := .bool false) (hr := fun W => (run_gtrN ps.length 64 _ _ W).trans (by rw [(decide_eq_false (by omega))])) ?_
 refine hLk _ fun w6 M => ?_
 refine lZ k4 ?_; refine cF ?_; refine sZ k3 ?_
 refine qS fun _ k7 => ?_
 refine Z36 (t := 107) (cs := [.pointer none, .slice none 0 0]) (by rfl) (fun W => ?_) (fun g9 w8 SB HB BB => ?_)
 ·
  go_simp
 have IB : Lib.IsBuilder 107 5 w6.heap.size g9 [] w8 := .inl ⟨HB, _, BB, World.ownsRow_nil _ _ _ _, by simp [Value.ownBlock]⟩
 have HB9 := SB.2.2.size
 have hsz := M.size
 have hl9 : ∀ b9 ∈ ([] : List Bk), b9.g < w6.heap.size := fun b9 hb9 => nomatch hb9
 replace M := M.sees SB
 simp only [Z0, Z6]
 refine lZ k7 ?_
 refine sk fun _ k10 => ?_
 refine qS fun _ k11 => ?_
 refine lM ?_
 refine lCh 1 (fun Lk hLk => ?_)
 refine wpV_lenA (n := ps.length) (by rfl) rfl rfl rfl U937 ?_
 simp only [Z0, Z6]
 refine Z19 (hLk _ (fun w13 Sw13 => ?_))
 simp only [Z7, Z8]
 replace M := M.sees Sw13
 replace IB := isB_sees IB Sw13; replace HB9 := Z3 HB9 Sw13.2.2.size
 refine lM ?_; refine lZ k11 ?_; refine wp_block ?_
 refine wp_loop_ghost (fun n9 a9 W9 => ∃ (k : Nat) (u14 : Nat → Value), n9 = 2 * (ps.length - k) ∧ a9 = { tmps := #[.slice (some ⟨g0, 0, none⟩) ps.length cg0, Z9, u14 2, u14 3, .pointer (some ⟨g9, 0, none⟩), Z9, u14 6, u14 7, u14 8, .slice (some ⟨g0, 0, none⟩) ps.length cg0, .int .i64 ps.length, .bool false, .slice (some ⟨g0, 0, none⟩) ps.length cg0, .int .i64 ps.length, .int .i64 k, u14 15, u14 16, u14 17, u14 18, u14 19, u14 20, u14 21, u14 22, u14 23, u14 24, u14 25, u14 26, u14 27, u14 28, u14 29, u14 30, u14 31, u14 32, u14 33, u14 34, u14 35, u14 36, u14 37, u14 38, u14 39, u14 40, Z9], defers := [] } ∧ Mem [] w W9 [] ∧ (k ≤ ps.length) ∧ (Lib.IsBuilder 107 5 w6.heap.size g9 (Lib.byteCells (packL (ps.take k))) W9) ∧ (w6.heap.size ≤ W9.heap.size)) (2 * (ps.length - (0))) ?_ (fun n9 a9 W9 hI => ?_)
 ·
  exact ⟨0, (fun q9 => (#[Z9, Z9, .string (bs ([])), .int .i64 0, Z9, Z9, Z9, Z9, Z9, Z9, Z9, Z9, Z9, Z9, Z9, Z9, Z9, Z9, Z9, Z9, Z9, Z9, Z9, Z9, Z9, Z9, Z9, Z9, Z9, Z9, Z9, Z9, Z9, Z9, Z9, Z9, Z9, Z9, Z9, Z9, Z9] : Array Value).getD q9 Z9), rfl, rfl, M, (Nat.zero_le _), IB, HB9⟩
 clear M
 obtain ⟨k, u14, rfl, rfl, M, hk4, IB, HB9⟩ := hI
 obtain ⟨w15, rfl⟩ : ∃ W8, W8 = W9 := ⟨_, rfl⟩
 refine qS fun _ k16 => ?_
 refine lCh 1 (fun Lk hLk => ?_)
 refine vB (v := .bool (decide (k < ps.length))) (hr := run_lssN k ps.length _ _) ?_
 refine Z19 (hLk _ (fun w18 Sw18 => ?_))
 simp only [Z7, Z8]
 replace M := M.sees Sw18
 replace IB := isB_sees IB Sw18; replace HB9 := Z3 HB9 Sw18.2.2.size
 refine lZ k16 ?_
 refine sk fun _ k19 => ?_
 cases hc20 : (decide (k < ps.length))
 ·
  have ek : k = ps.length := by have := of_decide_eq_false hc20; omega
  subst ek
  refine cF ?_; refine eZ k10 ?_
  refine qS fun _ k21 => ?_
  refine wpL_callM (f := 71) (args := #[.pointer (some ⟨g9, 0, none⟩)]) (R := fun v9 W9 => v9 = .string (bs (packL ps)) ∧ Below w6.heap.size w18 W9) (by rfl) (by rfl) rfl Tryd.func71 (by kernel_rfl) (by kernel_rfl) ((Tryd.Builder_String_any w6.heap.size g9 (packL ps) w18 (by rw [List.take_length] at IB; exact IB) HB9).mono fun e W9 h => ⟨_, h.1, rfl, h.2⟩) (fun v9 w23 h9 => ?_)
  obtain ⟨rfl, hBw⟩ := h9
  replace M := M.belowB hBw hsz hl9
  simp only [Z0, Z6]
  refine lg ?_; refine lg ?_; refine lZ k21 ?_; refine rt2 ?_
  have BE := M.below
  exact ⟨rfl, M.below⟩
 have hk : k < ps.length := of_decide_eq_true hc20
 have hpk := packN_take hk
 have hg9 : (ps.getD k []).length < 18446744073709551616 := by omega
 refine cT ?_; refine sZ k19 ?_
 refine sk fun _ k24 => ?_
 refine wp_block ?_
 refine qS fun _ k25 => ?_
 refine lCh 2 (fun Lk hLk => ?_)
 refine wpV_idxs (n := k) (by rfl) rfl rfl rfl U937 info9 (by omega) ?_
 simp only [Z2]
 simp only [Z0, Z6]
 refine vQ (v := .string (bs (ps.getD k []))) (hc := (zadd ((M.oldR Rg0_0 Lg0) _ _ (scells_get (ps := ps) (by omega))))) (hb := (M.oldL Lg0)) ?_
 refine Z19 (hLk _ (fun w27 Sw27 => ?_))
 simp only [Z7, Z8]
 replace M := M.sees Sw27
 replace IB := isB_sees IB Sw27; replace HB9 := Z3 HB9 Sw27.2.2.size
 refine lg ?_; refine lZ k25 ?_
 refine sk fun _ k28 => ?_
 refine qS fun _ k29 => ?_
 refine lM ?_
 refine lCh 10 (fun Lk hLk => ?_)
 refine wpV_lenS (by rfl) rfl rfl rfl U99 ?_
 simp only [Z0, Z6]
 refine vB (v := .bool false) (hr := fun W => (run_gtrN ((ps.getD k []).length) 65536 _ _ W).trans (by rw [(decide_eq_false (by omega))])) ?_
 refine vM ?_
 refine vCh (v := .int .i64 (packN (ps.take k) : Nat)) (fun W hW => ((Tryd.Builder_Len w6.heap.size g9 _ W (isB_sees IB hW)).mono fun e w' h => ⟨by rw [h.1, Lib.byteCells_length, packL_len], h.2 ▸ Below.refl _ _⟩)) ?_
 refine vB (v := .int .i64 (packN (ps.take k) + 4 : Nat)) (hr := run_add (by simp only [IntKind.wrap_i64]; omega)) ?_
 refine vM ?_
 refine wpV_lenS (by rfl) rfl rfl rfl U99 ?_
 simp only [Z0, Z6]
 refine vB (v := .int .i64 (packN (ps.take k) + 4 + (ps.getD k []).length : Nat)) (hr := run_add (by simp only [IntKind.wrap_i64]; omega)) ?_
 refine vB (v := .bool false) (hr := fun W => (run_gtrN (packN (ps.take k) + 4 + (ps.getD k []).length) 65536 _ _ W).trans (by rw [(decide_eq_false (by omega))])) ?_
 refine vK ?_
 refine Z19 (hLk _ (fun w31 Sw31 => ?_))
 simp only [Z7, Z8]
 replace M := M.sees Sw31
 replace IB := isB_sees IB Sw31; replace HB9 := Z3 HB9 Sw31.2.2.size
 refine lZ k29 ?_; refine cF ?_; refine sZ k28 ?_
 refine qS fun _ k32 => ?_
 refine lM ?_
 refine lCh 6 (fun Lk hLk => ?_)
 refine wpV_lenS (by rfl) rfl rfl rfl U99 ?_
 simp only [Z0, Z6]
 refine wpV_conv (d := .bool) (e := (((ps.getD k []).length : Nat) : Int)) (by rfl) rfl rfl (run_conv_int Tryd.underlying3 U940 ((wrap64N _).trans (congrArg _ (Z5 (by omega))))) ?_
 simp only [Z0, Z6]
 refine vC (v := .tuple #[.string (bs (beL 4 ((ps.getD k []).length))), .int .i64 0]) (fun W => big4_c (n := (ps.getD k []).length) (by omega)) ?_
 refine vM ?_; refine vE ?_; refine vE ?_
 refine Z19 (hLk _ (fun w34 Sw34 => ?_))
 simp only [Z7, Z8]
 replace M := M.sees Sw34
 replace IB := isB_sees IB Sw34; replace HB9 := Z3 HB9 Sw34.2.2.size
 refine lg ?_; refine lg ?_; refine lZ k32 ?_
 refine qS fun _ k35 => ?_
 refine lM ?_
 refine wpL_callM (f := 69) (args := #[.pointer (some ⟨g9, 0, none⟩), .string (bs (beL 4 ((ps.getD k []).length)))]) (R := fun v9 W9 => v9 = .tuple #[.int .i64 (((beL 4 ((ps.getD k []).length)).length : Nat) : Int), .nilIface] ∧ Lib.IsBuilder 107 5 w6.heap.size g9 ((Lib.byteCells (packL (ps.take k))) ++ Lib.byteCells (beL 4 ((ps.getD k []).length))) W9 ∧ Below w6.heap.size w34 W9) (by rfl) (by rfl) rfl Tryd.func69 (by kernel_rfl) (by kernel_rfl) ((writeString_c w6.heap.size g9 _ (bs (beL 4 ((ps.getD k []).length))) w34 IB (by simp only [Lib.byteCells_length, List.length_append, packL_len, beL_len, bs_size]; omega) HB9).mono fun e W9 h => ⟨_, h.1, rfl, .inr h.2.1, h.2.2⟩) (fun v9 w37 h9 => ?_)
 obtain ⟨rfl, IB2, hBw⟩ := h9
 replace IB := IB2; clear IB2
 replace M := M.belowB hBw hsz hl9
 replace HB9 := Z3 HB9 hBw.size
 simp only [Z0, Z6]
 refine lZ k35 ?_; refine Z13 ?_; refine lM ?_
 refine wpL_callM (f := 69) (args := #[.pointer (some ⟨g9, 0, none⟩), .string (bs (ps.getD k []))]) (R := fun v9 W9 => v9 = .tuple #[.int .i64 ((ps.getD k []).length : Nat), .nilIface] ∧ Lib.IsBuilder 107 5 w6.heap.size g9 (((Lib.byteCells (packL (ps.take k))) ++ Lib.byteCells (beL 4 ((ps.getD k []).length))) ++ Lib.byteCells (ps.getD k [])) W9 ∧ Below w6.heap.size w37 W9) (by rfl) (by rfl) rfl Tryd.func69 (by kernel_rfl) (by kernel_rfl) ((writeString_c w6.heap.size g9 _ (bs (ps.getD k [])) w37 IB (by simp only [Lib.byteCells_length, List.length_append, packL_len, beL_len, bs_size]; omega) HB9).mono fun e W9 h => ⟨_, h.1, rfl, .inr h.2.1, h.2.2⟩) (fun v9 w39 h9 => ?_)
 obtain ⟨rfl, IB2, hBw⟩ := h9
 replace IB := IB2; clear IB2
 replace M := M.belowB hBw hsz hl9
 replace HB9 := Z3 HB9 hBw.size
 simp only [Z0, Z6]
 refine lZ k24 ?_; refine Z13 ?_
 refine lCh 1 (fun Lk hLk => ?_)
 refine vB (v := .int .i64 (k + 1 : Nat)) (hr := run_add (by simp only [IntKind.wrap_i64]; omega)) ?_
 refine Z19 (hLk _ (fun w41 Sw41 => ?_))
 simp only [Z7, Z8]
 replace M := M.sees Sw41
 replace IB := isB_sees IB Sw41; replace HB9 := Z3 HB9 Sw41.2.2.size
 refine lM ?_
 refine Z14 (Z15 ?_)
 refine Exists.intro _ ⟨?_, (k + 1), (fun q9 => (#[Z9, Z9, u14 2, u14 3, Z9, Z9, .string (bs (ps.getD k [])), .string (bs (beL 4 ((ps.getD k []).length))), .int .i64 0, Z9, Z9, Z9, Z9, Z9, Z9, .bool true, .pointer (some ⟨g0, k, none⟩), .string (bs (ps.getD k [])), .string (bs (ps.getD k [])), .int .i64 ((ps.getD k []).length : Nat), .bool false, .bool false, .int .i64 (packN (ps.take k) : Nat), .int .i64 (packN (ps.take k) + 4 : Nat), .string (bs (ps.getD k [])), .int .i64 ((ps.getD k []).length : Nat), .int .i64 (packN (ps.take k) + 4 + (ps.getD k []).length : Nat), .bool false, .bool false, .tuple #[.string (bs (beL 4 ((ps.getD k []).length))), .int .i64 0], .string (bs (ps.getD k [])), .int .i64 ((ps.getD k []).length : Nat), .int .u64 ((ps.getD k []).length : Nat), .tuple #[.string (bs (beL 4 ((ps.getD k []).length))), .int .i64 0], .string (bs (beL 4 ((ps.getD k []).length))), .int .i64 0, .string (bs (beL 4 ((ps.getD k []).length))), .tuple #[.int .i64 (((beL 4 ((ps.getD k []).length)).length : Nat) : Int), .nilIface], .string (bs (ps.getD k [])), .tuple #[.int .i64 ((ps.getD k []).length : Nat), .nilIface], .int .i64 (k + 1 : Nat)] : Array Value).getD q9 Z9), rfl, rfl, M, (by omega), (by rw [pack_cells hk] at IB; exact IB), HB9⟩
 omega
end Go.Proofs.Yc

namespace Go.Proofs.Yc
open Go Go.RowKit Go.Proofs.Num
open Tryd renaming underlying3 → U93, underlying37 → U937, underlying40 → U940, underlying9 → U99
open Go.Proofs.Num  renaming putT → Z0
open Nat renaming mod_eq_of_lt → Z5
open List renaming set → Z6, take → Z7, drop → Z8
open Go renaming undef → Z9
open Go.Proofs.Num renaming wpL_nil → Z14, no_panic → Z15, then_normal → Z22
attribute [local irreducible] wpV wpN wpList
open Go.Proofs.Ya
/-- The parts of a text; none if it is not one of parts. -/
def unpV (l : List UInt8) : List (List UInt8) := (unpL 64 l).getD []
def appO (ps : List (List UInt8)) (o : Option (List (List UInt8))) : Option (List (List UInt8)) := o.map (ps ++ ·)
theorem appO_nil (o : Option (List (List UInt8))) : appO [] o = o := by cases o <;> rfl
theorem unp_next {k : Nat} {r : List UInt8} (hr : r ≠ []) (h4 : ¬ r.length < 4) (hn : ¬ (r.drop 4).length < numN (r.take 4)) : unpL (k + 1) r = appO [(r.drop 4).take (numN (r.take 4))] (unpL k ((r.drop 4).drop (numN (r.take 4)))) := by
 rw [unpL, if_neg hr]
 rw [if_neg h4, if_neg hn]
 cases unpL k ((r.drop 4).drop (numN (r.take 4))) <;> rfl
theorem unp_step {k : Nat} {l r : List UInt8} {ps : List (List UInt8)} (h : unpL 64 l = appO ps (unpL (64 - k) r)) (hk : k < 64) (hr : r ≠ []) (h4 : ¬ r.length < 4) (hn : ¬ (r.drop 4).length < numN (r.take 4)) :
  unpL 64 l = appO (ps ++ [(r.drop 4).take (numN (r.take 4))]) (unpL (64 - (k + 1)) ((r.drop 4).drop (numN (r.take 4)))) := by
 rw [h, show 64 - k = (64 - (k + 1)) + 1 by omega, unp_next hr h4 hn]
 cases unpL (64 - (k + 1)) ((r.drop 4).drop (numN (r.take 4))) <;> simp [appO]
theorem unp_done {k : Nat} {l : List UInt8} {ps : List (List UInt8)} (h : unpL 64 l = appO ps (unpL k [])) : unpL 64 l = some ps := by
 rw [h]
 have e : unpL k [] = some [] := by
  unfold unpL
  exact if_pos rfl
 rw [e]
 simp [appO]
theorem unp_many {l r : List UInt8} {ps : List (List UInt8)} (h : unpL 64 l = appO ps (unpL (64 - 64) r)) (hr : r ≠ []) : unpL 64 l = none := by
 rw [h, Nat.sub_self, unpL, if_neg hr]
 rfl
theorem unp_short {k : Nat} {l r : List UInt8} {ps : List (List UInt8)} (h : unpL 64 l = appO ps (unpL (64 - k) r)) (hk : k < 64) (hr : r ≠ []) (h4 : r.length < 4) : unpL 64 l = none := by
 rw [h, show 64 - k = (64 - (k + 1)) + 1 by omega, unpL, if_neg hr]
 rw [if_pos h4]
 rfl
theorem unp_over {k : Nat} {l r : List UInt8} {ps : List (List UInt8)} (h : unpL 64 l = appO ps (unpL (64 - k) r)) (hk : k < 64) (hr : r ≠ []) (h4 : ¬ r.length < 4) (hn : (r.drop 4).length < numN (r.take 4)) : unpL 64 l = none := by
 rw [h, show 64 - k = (64 - (k + 1)) + 1 by omega, unpL, if_neg hr]
 rw [if_neg h4, if_pos hn]
 rfl
theorem unp_out {l : List UInt8} {v : Value} {x : Int} {w w' : World} {ps : List (List UInt8)} {a : Option Addr} {c : Nat} (h : unpL 64 l = some ps) (hx : x = 0) (hv : v = .tuple #[.slice a ps.length c, .int .i64 x]) (hR : RowA w' a ps.length c (scells ps)) :
  ∃ a c x, v = .tuple #[.slice a (unpV l).length c, .int .i64 x] ∧ RowA w' a (unpV l).length c (scells (unpV l)) ∧ (x = 0 ↔ (unpL 64 l).isSome = true) := by
 have e : unpV l = ps := by unfold unpV; rw [h]; rfl
 rw [e, h]
 exact ⟨a, c, x, hv, hR, by simp [hx]⟩
theorem unp_err {l : List UInt8} {v : Value} {x : Int} {w' : World} (h : unpL 64 l = none) (hx : x ≠ 0) (hv : v = .tuple #[.slice none 0 0, .int .i64 x]) :
  ∃ a c x, v = .tuple #[.slice a (unpV l).length c, .int .i64 x] ∧ RowA w' a (unpV l).length c (scells (unpV l)) ∧ (x = 0 ↔ (unpL 64 l).isSome = true) := by
 have e : unpV l = [] := by unfold unpV; rw [h]; rfl
 rw [e, h]
 exact ⟨none, 0, x, hv, RowA.nil, by simp [hx]⟩
set_option maxHeartbeats 4000000 in
theorem unpack_c {l : List UInt8} {w : World} (hl : l.length ≤ 65536) :
  Calls Tryd.prog 24 #[.string (bs l)] w fun e w' => ∃ v, e = .returned v ∧ (∃ a c x, v = .tuple #[.slice a (unpV l).length c, .int .i64 x] ∧ RowA w' a (unpV l).length c (scells (unpV l)) ∧ (x = 0 ↔ (unpL 64 l).isSome = true)) ∧ Below w.heap.size w w' := by
 go_enter Tryd.func24, Tryd.ntmps24
 have M := Mem.start w
 refine qS fun _ k1 => ?_
 refine lg ?_; refine lg ?_; refine lZ k1 ?_
 refine sk fun _ k3 => ?_
 refine qS fun _ k4 => ?_
 refine lM ?_
 refine cM 2 fun Lk hLk => ?_
 refine wpV_lenS (by rfl) rfl rfl rfl U99 ?_
 simp only [Z0, Z6]
 refine vB (v := .bool false) (hr := fun W => (run_gtrN l.length 65536 _ _ W).trans (by rw [(decide_eq_false (by omega))])) ?_
 refine hLk _ fun w6 M => ?_
 refine lZ k4 ?_; refine cF ?_; refine sZ k3 ?_
 refine qS fun _ k7 => ?_
 refine lg ?_; refine lZ k7 ?_
 refine sk fun _ k9 => ?_
 refine wp_block ?_
 have hU0 : unpL 64 l = appO [] (unpL (64 - 0) l) := (appO_nil _).symm
 refine wp_loop_peel (fun n9 a9 W9 => ∃ (k : Nat) (r : List UInt8) (ps : List (List UInt8)) (rb : Nat) (rbc : Nat) (u10 : Nat → Value), n9 = 2 * r.length ∧ a9 = { tmps := #[.string (bs r), Z9, u10 2, u10 3, .slice (some ⟨rb, 0, none⟩) k rbc, u10 5, u10 6, .string (bs l), .int .i64 l.length, .bool false, u10 10, u10 11, u10 12, u10 13, u10 14, u10 15, u10 16, u10 17, u10 18, u10 19, u10 20, u10 21, u10 22, u10 23, u10 24, u10 25, u10 26, u10 27, u10 28, u10 29, u10 30, u10 31, u10 32, u10 33, u10 34, u10 35, u10 36, u10 37, u10 38, u10 39, u10 40, u10 41, Z9], defers := [] } ∧ Mem [] w W9 [⟨rb, rbc, [(0, scells ps)]⟩] ∧ k ≤ rbc ∧ (1 ≤ k) ∧ (k ≤ 64) ∧ (ps.length = k) ∧ (r.length ≤ 65536) ∧ (unpL 64 l = appO ps (unpL (64 - k) r))) (2 * (((l.drop 4).drop (numN (l.take 4)))).length + 1) ?_ (fun n9 a9 W9 hI => ?_)
 ·
  refine sk fun _ k11 => ?_
  refine qS fun _ k12 => ?_
  refine lM ?_
  refine cM 1 fun Lk hLk => ?_
  refine wpV_binS (v := .bool (decide (l ≠ []))) (by rfl) rfl rfl rfl (run_neq_bs _ _ _) ?_
  simp only [Z0, Z6]
  refine hLk _ fun w14 M => ?_
  refine lZ k12 ?_
  cases hc15 : (decide (l ≠ []))
  ·
   have er : l = [] := Decidable.not_not.1 (of_decide_eq_false hc15)
   refine cF ?_; refine eZ k9 ?_
   refine qS fun _ k16 => ?_
   refine lM ?_; refine lg ?_; refine lg ?_; refine lZ k16 ?_; refine rt2 ?_
   have BE := M.below
   exact ⟨_, rfl, unp_out (w := w) (unp_done (k := 64) (ps := []) (by rw [appO_nil, er])) rfl rfl RowA.nil, BE⟩
  have hr0 : l ≠ [] := of_decide_eq_true hc15
  refine cT ?_; refine sZ k11 ?_; refine wp_block ?_
  refine sk fun _ k18 => ?_
  refine wp_block ?_
  refine qS fun _ k19 => ?_
  refine lM ?_
  refine cM 2 fun Lk hLk => ?_
  refine wpV_lenA (n := 0) (by rfl) rfl rfl rfl U937 ?_
  simp only [Z0, Z6]
  refine vB (v := .bool false) (hr := fun W => (run_eqlN 0 64 _ _ W).trans (by rw [(show decide ((0 : Nat) = 64) = false from rfl)])) ?_
  refine hLk _ fun w21 M => ?_
  refine lg ?_; refine lZ k19 ?_; refine cF ?_
  refine qS fun _ k22 => ?_
  refine lM ?_
  refine cM 2 fun Lk hLk => ?_
  refine wpV_lenS (by rfl) rfl rfl rfl U99 ?_
  simp only [Z0, Z6]
  refine vB (v := .bool (decide (l.length < 4))) (hr := run_lssN l.length 4 _ _) ?_
  refine hLk _ fun w24 M => ?_
  refine lg ?_; refine lZ k22 ?_
  cases hc25 : (decide (l.length < 4))
  ·
   have hr4 := of_decide_eq_false hc25
   have h4l : 4 ≤ l.length := by omega
   have hd9 : (l.drop 4).length ≤ 65536 := by rw [List.length_drop]; omega
   have hN4 : numN (l.take 4) < 4294967296 := Nat.lt_of_lt_of_eq (numN_lt _) (by rw [List.length_take, Nat.min_eq_left h4l])
   refine cF ?_; refine sZ k18 ?_
   refine qS fun _ k26 => ?_
   refine lM ?_
   refine cM 5 fun Lk hLk => ?_
   refine wpV_takeS (l := l) (hi := 4) (by rfl) rfl rfl rfl U99 (by omega) ?_
   simp only [Z0, Z6]
   refine vC (v := .tuple #[.int .u64 (numN (l.take 4) : Nat), .int .i64 0]) (fun W => number_c (l := l.take 4) (by rw [List.length_take]; omega)) ?_
   refine vM ?_; refine vE ?_; refine vE ?_
   refine hLk _ fun w28 M => ?_
   refine lg ?_; refine lg ?_; refine lZ k26 ?_
   refine sk fun _ k29 => ?_
   refine qS fun _ k30 => ?_
   refine lM ?_
   refine cM 1 fun Lk hLk => ?_
   refine wpV_drop (l := l) (lo := 4) (by rfl) rfl rfl rfl U99 (by omega) ?_
   simp only [Z0, Z6]
   refine hLk _ fun w32 M => ?_
   refine lg ?_; refine lZ k30 ?_
   refine qS fun _ k33 => ?_
   refine lM ?_; refine lM ?_
   refine cM 3 fun Lk hLk => ?_
   refine wpV_lenS (by rfl) rfl rfl rfl U99 ?_
   simp only [Z0, Z6]
   refine wpV_conv (d := .bool) (e := (((l.drop 4).length : Nat) : Int)) (by rfl) rfl rfl (run_conv_int U93 U940 ((wrap64N _).trans (congrArg _ (Z5 (by omega))))) ?_
   simp only [Z0, Z6]
   refine vB (v := .bool (decide ((l.drop 4).length < numN (l.take 4)))) (hr := run_gtrN (numN (l.take 4)) ((l.drop 4).length) _ _) ?_
   refine hLk _ fun w35 M => ?_
   refine lZ k33 ?_
   cases hc36 : (decide ((l.drop 4).length < numN (l.take 4)))
   ·
    have hrn := of_decide_eq_false hc36
    have hrN : numN (l.take 4) ≤ (l.drop 4).length := by omega
    refine cF ?_; refine sZ k29 ?_
    refine wp_region_treeN (by kernel_rfl) (fun w38 Sw38 => ?_)
    replace M := M.sees Sw38
    refine any_first 0 (v := (.slice none 0 0)) (by rfl) (by kernel_rfl) nopanic_not (by rfl) (by exact yl_move rfl rfl) ?_
    simp only [Z0, Z6]
    refine any_first 1 (v := .string (bs (l.drop 4))) (by rfl) (by kernel_rfl) nopanic_not (by rfl) (by exact yl_move rfl rfl) ?_
    simp only [Z0, Z6]
    refine any_first 2 (v := .int .u64 (numN (l.take 4) : Nat)) (by rfl) (by kernel_rfl) nopanic_not (by rfl) (by exact yl_move rfl rfl) ?_
    simp only [Z0, Z6]
    refine any_first 6 (v := .string (bs (l.drop 4))) (by rfl) (by kernel_rfl) nopanic_not (by rfl) (by exact yl_move rfl rfl) ?_
    simp only [Z0, Z6]
    refine any_first 7 (v := .int .u64 (numN (l.take 4) : Nat)) (by rfl) (by kernel_rfl) nopanic_not (by rfl) (by exact yl_move rfl rfl) ?_
    simp only [Z0, Z6]
    refine any_step [3, 8] (by kernel_rfl) rfl (any_two ?_ (any_one ?_))
    ·
     refine any_opL 3 (by rfl) ?_
     simp only [Z7, Z8]
     refine cM 1 fun Lk hLk => ?_
     refine wpV_takeS (l := l.drop 4) (hi := numN (l.take 4)) (by rfl) rfl rfl rfl U99 hrN ?_
     simp only [Z0, Z6]
     refine hLk _ fun w39 M => ?_
     refine Z14 (Z22 ?_)
     refine any_step [4, 8] (by kernel_rfl) rfl (any_two ?_ (any_one ?_))
     ·
      refine any_opL 4 (by rfl) ?_
      simp only [Z7, Z8]
      refine wpL_rowN (vs := [.string (bs ((l.drop 4).take (numN (l.take 4))))]) (z := .string { data := #[] }) (bytes := 16) (by rfl) (by rfl) U937 (by kernel_rfl) (by decide) (by kernel_rfl) (fun g40 w41 Sw41 Hg40 Bg40 => ?_)
      replace M := ((M.sees Sw41).add (N := 1) (cs := [.string (bs ((l.drop 4).take (numN (l.take 4))))]) (M.ge Hg40) (M.fresh Hg40) Bg40 rfl)
      clear Bg40
      simp only [Z0, Z6]
      refine Z14 (Z22 ?_)
      refine any_step [5, 8] (by kernel_rfl) rfl (any_two ?_ (any_one ?_))
      ·
       refine any_opL 5 (by rfl) ?_
       simp only [Z7, Z8]
       refine wpL_append0 (m := 1) (news := [.string (bs ((l.drop 4).take (numN (l.take 4))))]) (z := .string { data := #[] }) (bytes := 16) (by rfl) (by rfl) (by rfl) (by rfl) U937 (by kernel_rfl) rfl rfl (by decide) (M.r 0 0 rfl rfl) (by decide) (by decide) (fun g42 g42c w43 Sw43 Hg42 Cg42 R T L => ?_)
       replace M := (M.sees Sw43).addR (M.ge Hg42) (M.fresh Hg42) T R L
       clear T R L
       rw [show [.string (bs ((l.drop 4).take (numN (l.take 4))))] = scells [((l.drop 4).take (numN (l.take 4)))] from rfl] at M
       simp only [Z0, Z6]
       refine Z14 (Z22 ?_)
       refine any_first 9 (v := .slice (some ⟨g42, 0, none⟩) 1 g42c) (by rfl) (by kernel_rfl) nopanic_not (by rfl) (by exact yl_assign rfl rfl) ?_
       simp only [Z0, Z6]
       refine any_step [8] (by kernel_rfl) rfl (any_one ?_)
       refine any_opL 8 (by rfl) ?_
       simp only [Z7, Z8]
       refine cM 1 fun Lk hLk => ?_
       refine wpV_drop (l := l.drop 4) (lo := numN (l.take 4)) (by rfl) rfl rfl rfl U99 hrN ?_
       simp only [Z0, Z6]
       refine hLk _ fun w44 M => ?_
       refine Z14 (Z22 ?_)
       refine any_first 10 (v := .string (bs ((l.drop 4).drop (numN (l.take 4))))) (by rfl) (by kernel_rfl) nopanic_not (by rfl) (by exact yl_assign rfl rfl) ?_
       simp only [Z0, Z6]
       refine any_end (by kernel_rfl) (Z15 ?_)
       refine Exists.intro _ ⟨Nat.lt_succ_self _, 1, ((l.drop 4).drop (numN (l.take 4))), ([((l.drop 4).take (numN (l.take 4)))]), g42, g42c, (fun q9 => (#[Z9, Z9, (.slice none 0 0), .int .i64 0, Z9, .int .u64 (numN (l.take 4) : Nat), .int .i64 0, Z9, Z9, Z9, .string (bs l), .bool true, .bool false, (.slice none 0 0), .int .i64 0, .bool false, .bool false, .string (bs l), .int .i64 l.length, .bool false, .tuple #[.int .u64 (numN (l.take 4) : Nat), .int .i64 0], .string (bs l), .string (bs (l.take 4)), .tuple #[.int .u64 (numN (l.take 4) : Nat), .int .i64 0], .int .u64 (numN (l.take 4) : Nat), .int .i64 0, .string (bs l), .string (bs (l.drop 4)), .int .u64 (numN (l.take 4) : Nat), .string (bs (l.drop 4)), .int .i64 ((l.drop 4).length : Nat), .int .u64 ((l.drop 4).length : Nat), .bool false, (.slice none 0 0), .string (bs (l.drop 4)), .int .u64 (numN (l.take 4) : Nat), .string (bs ((l.drop 4).take (numN (l.take 4)))), .slice (some ⟨g40, 0, none⟩) 1 1, .slice (some ⟨g42, 0, none⟩) 1 g42c, .string (bs (l.drop 4)), .int .u64 (numN (l.take 4) : Nat), .string (bs ((l.drop 4).drop (numN (l.take 4))))] : Array Value).getD q9 Z9), rfl, rfl, (M.pick [0] (by decide) rfl), Cg42, (by decide), (by decide), rfl, (by rw [List.length_drop, List.length_drop]; omega), (unp_step hU0 (by decide) hr0 hr4 hrn)⟩
      refine any_opL 8 (by rfl) ?_
      simp only [Z7, Z8]
      refine cM 1 fun Lk hLk => ?_
      refine wpV_drop (l := l.drop 4) (lo := numN (l.take 4)) (by rfl) rfl rfl rfl U99 hrN ?_
      simp only [Z0, Z6]
      refine hLk _ fun w45 M => ?_
      refine Z14 (Z22 ?_)
      refine any_step [5] (by kernel_rfl) rfl (any_one ?_)
      refine any_opL 5 (by rfl) ?_
      simp only [Z7, Z8]
      refine wpL_append0 (m := 1) (news := [.string (bs ((l.drop 4).take (numN (l.take 4))))]) (z := .string { data := #[] }) (bytes := 16) (by rfl) (by rfl) (by rfl) (by rfl) U937 (by kernel_rfl) rfl rfl (by decide) (M.r 0 0 rfl rfl) (by decide) (by decide) (fun g46 g46c w47 Sw47 Hg46 Cg46 R T L => ?_)
      replace M := (M.sees Sw47).addR (M.ge Hg46) (M.fresh Hg46) T R L
      clear T R L
      rw [show [.string (bs ((l.drop 4).take (numN (l.take 4))))] = scells [((l.drop 4).take (numN (l.take 4)))] from rfl] at M
      simp only [Z0, Z6]
      refine Z14 (Z22 ?_)
      refine any_first 9 (v := .slice (some ⟨g46, 0, none⟩) 1 g46c) (by rfl) (by kernel_rfl) nopanic_not (by rfl) (by exact yl_assign rfl rfl) ?_
      simp only [Z0, Z6]
      refine any_first 10 (v := .string (bs ((l.drop 4).drop (numN (l.take 4))))) (by rfl) (by kernel_rfl) nopanic_not (by rfl) (by exact yl_assign rfl rfl) ?_
      simp only [Z0, Z6]
      refine any_end (by kernel_rfl) (Z15 ?_)
      refine Exists.intro _ ⟨Nat.lt_succ_self _, 1, ((l.drop 4).drop (numN (l.take 4))), ([((l.drop 4).take (numN (l.take 4)))]), g46, g46c, (fun q9 => (#[Z9, Z9, (.slice none 0 0), .int .i64 0, Z9, .int .u64 (numN (l.take 4) : Nat), .int .i64 0, Z9, Z9, Z9, .string (bs l), .bool true, .bool false, (.slice none 0 0), .int .i64 0, .bool false, .bool false, .string (bs l), .int .i64 l.length, .bool false, .tuple #[.int .u64 (numN (l.take 4) : Nat), .int .i64 0], .string (bs l), .string (bs (l.take 4)), .tuple #[.int .u64 (numN (l.take 4) : Nat), .int .i64 0], .int .u64 (numN (l.take 4) : Nat), .int .i64 0, .string (bs l), .string (bs (l.drop 4)), .int .u64 (numN (l.take 4) : Nat), .string (bs (l.drop 4)), .int .i64 ((l.drop 4).length : Nat), .int .u64 ((l.drop 4).length : Nat), .bool false, (.slice none 0 0), .string (bs (l.drop 4)), .int .u64 (numN (l.take 4) : Nat), .string (bs ((l.drop 4).take (numN (l.take 4)))), .slice (some ⟨g40, 0, none⟩) 1 1, .slice (some ⟨g46, 0, none⟩) 1 g46c, .string (bs (l.drop 4)), .int .u64 (numN (l.take 4) : Nat), .string (bs ((l.drop 4).drop (numN (l.take 4))))] : Array Value).getD q9 Z9), rfl, rfl, (M.pick [0] (by decide) rfl), Cg46, (by decide), (by decide), rfl, (by rw [List.length_drop, List.length_drop]; omega), (unp_step hU0 (by decide) hr0 hr4 hrn)⟩
     refine any_opL 8 (by rfl) ?_
     simp only [Z7, Z8]
     refine cM 1 fun Lk hLk => ?_
     refine wpV_drop (l := l.drop 4) (lo := numN (l.take 4)) (by rfl) rfl rfl rfl U99 hrN ?_
     simp only [Z0, Z6]
     refine hLk _ fun w48 M => ?_
     refine Z14 (Z22 ?_)
     refine any_step [4] (by kernel_rfl) rfl (any_one ?_)
     refine any_opL 4 (by rfl) ?_
     simp only [Z7, Z8]
     refine wpL_rowN (vs := [.string (bs ((l.drop 4).take (numN (l.take 4))))]) (z := .string { data := #[] }) (bytes := 16) (by rfl) (by rfl) U937 (by kernel_rfl) (by decide) (by kernel_rfl) (fun g49 w50 Sw50 Hg49 Bg49 => ?_)
     replace M := ((M.sees Sw50).add (N := 1) (cs := [.string (bs ((l.drop 4).take (numN (l.take 4))))]) (M.ge Hg49) (M.fresh Hg49) Bg49 rfl)
     clear Bg49
     simp only [Z0, Z6]
     refine Z14 (Z22 ?_)
     refine any_step [5] (by kernel_rfl) rfl (any_one ?_)
     refine any_opL 5 (by rfl) ?_
     simp only [Z7, Z8]
     refine wpL_append0 (m := 1) (news := [.string (bs ((l.drop 4).take (numN (l.take 4))))]) (z := .string { data := #[] }) (bytes := 16) (by rfl) (by rfl) (by rfl) (by rfl) U937 (by kernel_rfl) rfl rfl (by decide) (M.r 0 0 rfl rfl) (by decide) (by decide) (fun g51 g51c w52 Sw52 Hg51 Cg51 R T L => ?_)
     replace M := (M.sees Sw52).addR (M.ge Hg51) (M.fresh Hg51) T R L
     clear T R L
     rw [show [.string (bs ((l.drop 4).take (numN (l.take 4))))] = scells [((l.drop 4).take (numN (l.take 4)))] from rfl] at M
     simp only [Z0, Z6]
     refine Z14 (Z22 ?_)
     refine any_first 9 (v := .slice (some ⟨g51, 0, none⟩) 1 g51c) (by rfl) (by kernel_rfl) nopanic_not (by rfl) (by exact yl_assign rfl rfl) ?_
     simp only [Z0, Z6]
     refine any_first 10 (v := .string (bs ((l.drop 4).drop (numN (l.take 4))))) (by rfl) (by kernel_rfl) nopanic_not (by rfl) (by exact yl_assign rfl rfl) ?_
     simp only [Z0, Z6]
     refine any_end (by kernel_rfl) (Z15 ?_)
     refine Exists.intro _ ⟨Nat.lt_succ_self _, 1, ((l.drop 4).drop (numN (l.take 4))), ([((l.drop 4).take (numN (l.take 4)))]), g51, g51c, (fun q9 => (#[Z9, Z9, (.slice none 0 0), .int .i64 0, Z9, .int .u64 (numN (l.take 4) : Nat), .int .i64 0, Z9, Z9, Z9, .string (bs l), .bool true, .bool false, (.slice none 0 0), .int .i64 0, .bool false, .bool false, .string (bs l), .int .i64 l.length, .bool false, .tuple #[.int .u64 (numN (l.take 4) : Nat), .int .i64 0], .string (bs l), .string (bs (l.take 4)), .tuple #[.int .u64 (numN (l.take 4) : Nat), .int .i64 0], .int .u64 (numN (l.take 4) : Nat), .int .i64 0, .string (bs l), .string (bs (l.drop 4)), .int .u64 (numN (l.take 4) : Nat), .string (bs (l.drop 4)), .int .i64 ((l.drop 4).length : Nat), .int .u64 ((l.drop 4).length : Nat), .bool false, (.slice none 0 0), .string (bs (l.drop 4)), .int .u64 (numN (l.take 4) : Nat), .string (bs ((l.drop 4).take (numN (l.take 4)))), .slice (some ⟨g49, 0, none⟩) 1 1, .slice (some ⟨g51, 0, none⟩) 1 g51c, .string (bs (l.drop 4)), .int .u64 (numN (l.take 4) : Nat), .string (bs ((l.drop 4).drop (numN (l.take 4))))] : Array Value).getD q9 Z9), rfl, rfl, (M.pick [0] (by decide) rfl), Cg51, (by decide), (by decide), rfl, (by rw [List.length_drop, List.length_drop]; omega), (unp_step hU0 (by decide) hr0 hr4 hrn)⟩
    refine any_opL 8 (by rfl) ?_
    simp only [Z7, Z8]
    refine cM 1 fun Lk hLk => ?_
    refine wpV_drop (l := l.drop 4) (lo := numN (l.take 4)) (by rfl) rfl rfl rfl U99 hrN ?_
    simp only [Z0, Z6]
    refine hLk _ fun w53 M => ?_
    refine Z14 (Z22 ?_)
    refine any_step [3] (by kernel_rfl) rfl (any_one ?_)
    refine any_opL 3 (by rfl) ?_
    simp only [Z7, Z8]
    refine cM 1 fun Lk hLk => ?_
    refine wpV_takeS (l := l.drop 4) (hi := numN (l.take 4)) (by rfl) rfl rfl rfl U99 hrN ?_
    simp only [Z0, Z6]
    refine hLk _ fun w54 M => ?_
    refine Z14 (Z22 ?_)
    refine any_step [4] (by kernel_rfl) rfl (any_one ?_)
    refine any_opL 4 (by rfl) ?_
    simp only [Z7, Z8]
    refine wpL_rowN (vs := [.string (bs ((l.drop 4).take (numN (l.take 4))))]) (z := .string { data := #[] }) (bytes := 16) (by rfl) (by rfl) U937 (by kernel_rfl) (by decide) (by kernel_rfl) (fun g55 w56 Sw56 Hg55 Bg55 => ?_)
    replace M := ((M.sees Sw56).add (N := 1) (cs := [.string (bs ((l.drop 4).take (numN (l.take 4))))]) (M.ge Hg55) (M.fresh Hg55) Bg55 rfl)
    clear Bg55
    simp only [Z0, Z6]
    refine Z14 (Z22 ?_)
    refine any_step [5] (by kernel_rfl) rfl (any_one ?_)
    refine any_opL 5 (by rfl) ?_
    simp only [Z7, Z8]
    refine wpL_append0 (m := 1) (news := [.string (bs ((l.drop 4).take (numN (l.take 4))))]) (z := .string { data := #[] }) (bytes := 16) (by rfl) (by rfl) (by rfl) (by rfl) U937 (by kernel_rfl) rfl rfl (by decide) (M.r 0 0 rfl rfl) (by decide) (by decide) (fun g57 g57c w58 Sw58 Hg57 Cg57 R T L => ?_)
    replace M := (M.sees Sw58).addR (M.ge Hg57) (M.fresh Hg57) T R L
    clear T R L
    rw [show [.string (bs ((l.drop 4).take (numN (l.take 4))))] = scells [((l.drop 4).take (numN (l.take 4)))] from rfl] at M
    simp only [Z0, Z6]
    refine Z14 (Z22 ?_)
    refine any_first 9 (v := .slice (some ⟨g57, 0, none⟩) 1 g57c) (by rfl) (by kernel_rfl) nopanic_not (by rfl) (by exact yl_assign rfl rfl) ?_
    simp only [Z0, Z6]
    refine any_first 10 (v := .string (bs ((l.drop 4).drop (numN (l.take 4))))) (by rfl) (by kernel_rfl) nopanic_not (by rfl) (by exact yl_assign rfl rfl) ?_
    simp only [Z0, Z6]
    refine any_end (by kernel_rfl) (Z15 ?_)
    refine Exists.intro _ ⟨Nat.lt_succ_self _, 1, ((l.drop 4).drop (numN (l.take 4))), ([((l.drop 4).take (numN (l.take 4)))]), g57, g57c, (fun q9 => (#[Z9, Z9, (.slice none 0 0), .int .i64 0, Z9, .int .u64 (numN (l.take 4) : Nat), .int .i64 0, Z9, Z9, Z9, .string (bs l), .bool true, .bool false, (.slice none 0 0), .int .i64 0, .bool false, .bool false, .string (bs l), .int .i64 l.length, .bool false, .tuple #[.int .u64 (numN (l.take 4) : Nat), .int .i64 0], .string (bs l), .string (bs (l.take 4)), .tuple #[.int .u64 (numN (l.take 4) : Nat), .int .i64 0], .int .u64 (numN (l.take 4) : Nat), .int .i64 0, .string (bs l), .string (bs (l.drop 4)), .int .u64 (numN (l.take 4) : Nat), .string (bs (l.drop 4)), .int .i64 ((l.drop 4).length : Nat), .int .u64 ((l.drop 4).length : Nat), .bool false, (.slice none 0 0), .string (bs (l.drop 4)), .int .u64 (numN (l.take 4) : Nat), .string (bs ((l.drop 4).take (numN (l.take 4)))), .slice (some ⟨g55, 0, none⟩) 1 1, .slice (some ⟨g57, 0, none⟩) 1 g57c, .string (bs (l.drop 4)), .int .u64 (numN (l.take 4) : Nat), .string (bs ((l.drop 4).drop (numN (l.take 4))))] : Array Value).getD q9 Z9), rfl, rfl, (M.pick [0] (by decide) rfl), Cg57, (by decide), (by decide), rfl, (by rw [List.length_drop, List.length_drop]; omega), (unp_step hU0 (by decide) hr0 hr4 hrn)⟩
   have hrn := of_decide_eq_true hc36
   refine cT ?_
   refine qS fun _ k59 => ?_
   refine lg ?_; refine lg ?_; refine lZ k59 ?_; refine rt2 ?_
   have BE := M.below
   exact ⟨_, rfl, unp_err (unp_over hU0 (by decide) hr0 hr4 hrn) (by decide) rfl, BE⟩
  have hr4 := of_decide_eq_true hc25
  refine cT ?_
  refine qS fun _ k61 => ?_
  refine lg ?_; refine lg ?_; refine lZ k61 ?_; refine rt2 ?_
  have BE := M.below
  exact ⟨_, rfl, unp_err (unp_short hU0 (by decide) hr0 hr4) (by decide) rfl, BE⟩
 clear M
 obtain ⟨k, r, ps, rb, rbc, u10, rfl, rfl, M, Crb, hk1, hk4, hps, hrl, hU⟩ := hI
 obtain ⟨w63, rfl⟩ : ∃ W8, W8 = W9 := ⟨_, rfl⟩
 refine sk fun _ k64 => ?_
 refine qS fun _ k65 => ?_
 refine lM ?_
 refine cM 1 fun Lk hLk => ?_
 refine wpV_binS (v := .bool (decide (r ≠ []))) (by rfl) rfl rfl rfl (run_neq_bs _ _ _) ?_
 simp only [Z0, Z6]
 refine hLk _ fun w67 M => ?_
 refine lZ k65 ?_
 cases hc68 : (decide (r ≠ []))
 ·
  have er : r = [] := Decidable.not_not.1 (of_decide_eq_false hc68)
  rw [er] at hU
  refine cF ?_; refine eZ k9 ?_
  refine qS fun _ k69 => ?_
  refine lM ?_; refine lg ?_; refine lg ?_; refine lZ k69 ?_; refine rt2 ?_
  have BE := M.below
  exact ⟨_, rfl, unp_out (w := w) (unp_done hU) rfl (by rw [hps]) (by rw [hps]; exact (RowA.of (M.r 0 0 rfl rfl) (M.lt 0 rfl) (by rw [scells_len, hps]) Crb)), BE⟩
 have hr0 : r ≠ [] := of_decide_eq_true hc68
 refine cT ?_; refine sZ k64 ?_; refine wp_block ?_
 refine sk fun _ k71 => ?_
 refine wp_block ?_
 refine qS fun _ k72 => ?_
 refine lM ?_
 refine cM 2 fun Lk hLk => ?_
 refine wpV_lenA (n := k) (by rfl) rfl rfl rfl U937 ?_
 simp only [Z0, Z6]
 refine vB (v := .bool (decide (k = 64))) (hr := run_eqlN k 64 _ _) ?_
 refine hLk _ fun w74 M => ?_
 refine lg ?_; refine lZ k72 ?_
 cases hc75 : (decide (k = 64))
 ·
  have hk : k < 64 := by have := of_decide_eq_false hc75; omega
  refine cF ?_
  refine qS fun _ k76 => ?_
  refine lM ?_
  refine cM 2 fun Lk hLk => ?_
  refine wpV_lenS (by rfl) rfl rfl rfl U99 ?_
  simp only [Z0, Z6]
  refine vB (v := .bool (decide (r.length < 4))) (hr := run_lssN r.length 4 _ _) ?_
  refine hLk _ fun w78 M => ?_
  refine lg ?_; refine lZ k76 ?_
  cases hc79 : (decide (r.length < 4))
  ·
   have hr4 := of_decide_eq_false hc79
   have h4l : 4 ≤ r.length := by omega
   have hd9 : (r.drop 4).length ≤ 65536 := by rw [List.length_drop]; omega
   have hN4 : numN (r.take 4) < 4294967296 := Nat.lt_of_lt_of_eq (numN_lt _) (by rw [List.length_take, Nat.min_eq_left h4l])
   refine cF ?_; refine sZ k71 ?_
   refine qS fun _ k80 => ?_
   refine lM ?_
   refine cM 5 fun Lk hLk => ?_
   refine wpV_takeS (l := r) (hi := 4) (by rfl) rfl rfl rfl U99 (by omega) ?_
   simp only [Z0, Z6]
   refine vC (v := .tuple #[.int .u64 (numN (r.take 4) : Nat), .int .i64 0]) (fun W => number_c (l := r.take 4) (by rw [List.length_take]; omega)) ?_
   refine vM ?_; refine vE ?_; refine vE ?_
   refine hLk _ fun w82 M => ?_
   refine lg ?_; refine lg ?_; refine lZ k80 ?_
   refine sk fun _ k83 => ?_
   refine qS fun _ k84 => ?_
   refine lM ?_
   refine cM 1 fun Lk hLk => ?_
   refine wpV_drop (l := r) (lo := 4) (by rfl) rfl rfl rfl U99 (by omega) ?_
   simp only [Z0, Z6]
   refine hLk _ fun w86 M => ?_
   refine lg ?_; refine lZ k84 ?_
   refine qS fun _ k87 => ?_
   refine lM ?_; refine lM ?_
   refine cM 3 fun Lk hLk => ?_
   refine wpV_lenS (by rfl) rfl rfl rfl U99 ?_
   simp only [Z0, Z6]
   refine wpV_conv (d := .bool) (e := (((r.drop 4).length : Nat) : Int)) (by rfl) rfl rfl (run_conv_int U93 U940 ((wrap64N _).trans (congrArg _ (Z5 (by omega))))) ?_
   simp only [Z0, Z6]
   refine vB (v := .bool (decide ((r.drop 4).length < numN (r.take 4)))) (hr := run_gtrN (numN (r.take 4)) ((r.drop 4).length) _ _) ?_
   refine hLk _ fun w89 M => ?_
   refine lZ k87 ?_
   cases hc90 : (decide ((r.drop 4).length < numN (r.take 4)))
   ·
    have hrn := of_decide_eq_false hc90
    have hrN : numN (r.take 4) ≤ (r.drop 4).length := by omega
    refine cF ?_; refine sZ k83 ?_
    refine wp_region_treeN (by kernel_rfl) (fun w92 Sw92 => ?_)
    replace M := M.sees Sw92
    refine any_first 0 (v := .slice (some ⟨rb, 0, none⟩) k rbc) (by rfl) (by kernel_rfl) nopanic_not (by rfl) (by exact yl_move rfl rfl) ?_
    simp only [Z0, Z6]
    refine any_first 1 (v := .string (bs (r.drop 4))) (by rfl) (by kernel_rfl) nopanic_not (by rfl) (by exact yl_move rfl rfl) ?_
    simp only [Z0, Z6]
    refine any_first 2 (v := .int .u64 (numN (r.take 4) : Nat)) (by rfl) (by kernel_rfl) nopanic_not (by rfl) (by exact yl_move rfl rfl) ?_
    simp only [Z0, Z6]
    refine any_first 6 (v := .string (bs (r.drop 4))) (by rfl) (by kernel_rfl) nopanic_not (by rfl) (by exact yl_move rfl rfl) ?_
    simp only [Z0, Z6]
    refine any_first 7 (v := .int .u64 (numN (r.take 4) : Nat)) (by rfl) (by kernel_rfl) nopanic_not (by rfl) (by exact yl_move rfl rfl) ?_
    simp only [Z0, Z6]
    refine any_step [3, 8] (by kernel_rfl) rfl (any_two ?_ (any_one ?_))
    ·
     refine any_opL 3 (by rfl) ?_
     simp only [Z7, Z8]
     refine cM 1 fun Lk hLk => ?_
     refine wpV_takeS (l := r.drop 4) (hi := numN (r.take 4)) (by rfl) rfl rfl rfl U99 hrN ?_
     simp only [Z0, Z6]
     refine hLk _ fun w93 M => ?_
     refine Z14 (Z22 ?_)
     refine any_step [4, 8] (by kernel_rfl) rfl (any_two ?_ (any_one ?_))
     ·
      refine any_opL 4 (by rfl) ?_
      simp only [Z7, Z8]
      refine wpL_rowN (vs := [.string (bs ((r.drop 4).take (numN (r.take 4))))]) (z := .string { data := #[] }) (bytes := 16) (by rfl) (by rfl) U937 (by kernel_rfl) (by decide) (by kernel_rfl) (fun g94 w95 Sw95 Hg94 Bg94 => ?_)
      replace M := ((M.sees Sw95).add (N := 1) (cs := [.string (bs ((r.drop 4).take (numN (r.take 4))))]) (M.ge Hg94) (M.fresh Hg94) Bg94 rfl)
      clear Bg94
      simp only [Z0, Z6]
      refine Z14 (Z22 ?_)
      refine any_step [5, 8] (by kernel_rfl) rfl (any_two ?_ (any_one ?_))
      ·
       refine any_opL 5 (by rfl) ?_
       simp only [Z7, Z8]
       refine wpL_append (n := k) (m := 1) (olds := scells ps) (news := [.string (bs ((r.drop 4).take (numN (r.take 4))))]) (z := .string { data := #[] }) (bytes := 16) (by rfl) (by rfl) (by rfl) (by rfl) U937 (by kernel_rfl) rfl rfl (by rw [scells_len, hps]) rfl (M.r 1 0 rfl rfl) (M.t 1 rfl) (M.lt 1 rfl) (M.r 0 0 rfl rfl) (by intro u hu; rw [List.mem_singleton.1 hu]; rfl) (by omega) (by simp only [maxLen]; omega) (fun g96 g96c w97 Sw97 Q Cg96 R T L => ?_)
       replace M := M.grow 1 rfl Sw97 Q R T L
       simp only [Z6] at M
       clear Q R T L
       rw [show scells ps ++ [.string (bs ((r.drop 4).take (numN (r.take 4))))] = scells (ps ++ [((r.drop 4).take (numN (r.take 4)))]) from scells_app ps [((r.drop 4).take (numN (r.take 4)))]] at M
       simp only [Z0, Z6]
       refine Z14 (Z22 ?_)
       refine any_first 9 (v := .slice (some ⟨g96, 0, none⟩) (k + 1) g96c) (by rfl) (by kernel_rfl) nopanic_not (by rfl) (by exact yl_assign rfl rfl) ?_
       simp only [Z0, Z6]
       refine any_step [8] (by kernel_rfl) rfl (any_one ?_)
       refine any_opL 8 (by rfl) ?_
       simp only [Z7, Z8]
       refine cM 1 fun Lk hLk => ?_
       refine wpV_drop (l := r.drop 4) (lo := numN (r.take 4)) (by rfl) rfl rfl rfl U99 hrN ?_
       simp only [Z0, Z6]
       refine hLk _ fun w98 M => ?_
       refine Z14 (Z22 ?_)
       refine any_first 10 (v := .string (bs ((r.drop 4).drop (numN (r.take 4))))) (by rfl) (by kernel_rfl) nopanic_not (by rfl) (by exact yl_assign rfl rfl) ?_
       simp only [Z0, Z6]
       refine any_end (by kernel_rfl) (Z15 ?_)
       refine Exists.intro _ ⟨?_, (k + 1), ((r.drop 4).drop (numN (r.take 4))), (ps ++ [((r.drop 4).take (numN (r.take 4)))]), g96, g96c, (fun q9 => (#[Z9, Z9, u10 2, u10 3, Z9, .int .u64 (numN (r.take 4) : Nat), .int .i64 0, Z9, Z9, Z9, .string (bs r), .bool true, .bool false, .slice (some ⟨rb, 0, none⟩) k rbc, .int .i64 k, .bool false, .bool false, .string (bs r), .int .i64 r.length, .bool false, .tuple #[.int .u64 (numN (r.take 4) : Nat), .int .i64 0], .string (bs r), .string (bs (r.take 4)), .tuple #[.int .u64 (numN (r.take 4) : Nat), .int .i64 0], .int .u64 (numN (r.take 4) : Nat), .int .i64 0, .string (bs r), .string (bs (r.drop 4)), .int .u64 (numN (r.take 4) : Nat), .string (bs (r.drop 4)), .int .i64 ((r.drop 4).length : Nat), .int .u64 ((r.drop 4).length : Nat), .bool false, .slice (some ⟨rb, 0, none⟩) k rbc, .string (bs (r.drop 4)), .int .u64 (numN (r.take 4) : Nat), .string (bs ((r.drop 4).take (numN (r.take 4)))), .slice (some ⟨g94, 0, none⟩) 1 1, .slice (some ⟨g96, 0, none⟩) (k + 1) g96c, .string (bs (r.drop 4)), .int .u64 (numN (r.take 4) : Nat), .string (bs ((r.drop 4).drop (numN (r.take 4))))] : Array Value).getD q9 Z9), rfl, rfl, (M.pick [1] (by decide) rfl), Cg96, (by omega), (by omega), (by rw [List.length_append, hps]; rfl), (by rw [List.length_drop, List.length_drop]; omega), (unp_step hU (by omega) hr0 hr4 hrn)⟩
       rw [List.length_drop, List.length_drop]; omega
      refine any_opL 8 (by rfl) ?_
      simp only [Z7, Z8]
      refine cM 1 fun Lk hLk => ?_
      refine wpV_drop (l := r.drop 4) (lo := numN (r.take 4)) (by rfl) rfl rfl rfl U99 hrN ?_
      simp only [Z0, Z6]
      refine hLk _ fun w99 M => ?_
      refine Z14 (Z22 ?_)
      refine any_step [5] (by kernel_rfl) rfl (any_one ?_)
      refine any_opL 5 (by rfl) ?_
      simp only [Z7, Z8]
      refine wpL_append (n := k) (m := 1) (olds := scells ps) (news := [.string (bs ((r.drop 4).take (numN (r.take 4))))]) (z := .string { data := #[] }) (bytes := 16) (by rfl) (by rfl) (by rfl) (by rfl) U937 (by kernel_rfl) rfl rfl (by rw [scells_len, hps]) rfl (M.r 1 0 rfl rfl) (M.t 1 rfl) (M.lt 1 rfl) (M.r 0 0 rfl rfl) (by intro u hu; rw [List.mem_singleton.1 hu]; rfl) (by omega) (by simp only [maxLen]; omega) (fun g100 g100c w101 Sw101 Q Cg100 R T L => ?_)
      replace M := M.grow 1 rfl Sw101 Q R T L
      simp only [Z6] at M
      clear Q R T L
      rw [show scells ps ++ [.string (bs ((r.drop 4).take (numN (r.take 4))))] = scells (ps ++ [((r.drop 4).take (numN (r.take 4)))]) from scells_app ps [((r.drop 4).take (numN (r.take 4)))]] at M
      simp only [Z0, Z6]
      refine Z14 (Z22 ?_)
      refine any_first 9 (v := .slice (some ⟨g100, 0, none⟩) (k + 1) g100c) (by rfl) (by kernel_rfl) nopanic_not (by rfl) (by exact yl_assign rfl rfl) ?_
      simp only [Z0, Z6]
      refine any_first 10 (v := .string (bs ((r.drop 4).drop (numN (r.take 4))))) (by rfl) (by kernel_rfl) nopanic_not (by rfl) (by exact yl_assign rfl rfl) ?_
      simp only [Z0, Z6]
      refine any_end (by kernel_rfl) (Z15 ?_)
      refine Exists.intro _ ⟨?_, (k + 1), ((r.drop 4).drop (numN (r.take 4))), (ps ++ [((r.drop 4).take (numN (r.take 4)))]), g100, g100c, (fun q9 => (#[Z9, Z9, u10 2, u10 3, Z9, .int .u64 (numN (r.take 4) : Nat), .int .i64 0, Z9, Z9, Z9, .string (bs r), .bool true, .bool false, .slice (some ⟨rb, 0, none⟩) k rbc, .int .i64 k, .bool false, .bool false, .string (bs r), .int .i64 r.length, .bool false, .tuple #[.int .u64 (numN (r.take 4) : Nat), .int .i64 0], .string (bs r), .string (bs (r.take 4)), .tuple #[.int .u64 (numN (r.take 4) : Nat), .int .i64 0], .int .u64 (numN (r.take 4) : Nat), .int .i64 0, .string (bs r), .string (bs (r.drop 4)), .int .u64 (numN (r.take 4) : Nat), .string (bs (r.drop 4)), .int .i64 ((r.drop 4).length : Nat), .int .u64 ((r.drop 4).length : Nat), .bool false, .slice (some ⟨rb, 0, none⟩) k rbc, .string (bs (r.drop 4)), .int .u64 (numN (r.take 4) : Nat), .string (bs ((r.drop 4).take (numN (r.take 4)))), .slice (some ⟨g94, 0, none⟩) 1 1, .slice (some ⟨g100, 0, none⟩) (k + 1) g100c, .string (bs (r.drop 4)), .int .u64 (numN (r.take 4) : Nat), .string (bs ((r.drop 4).drop (numN (r.take 4))))] : Array Value).getD q9 Z9), rfl, rfl, (M.pick [1] (by decide) rfl), Cg100, (by omega), (by omega), (by rw [List.length_append, hps]; rfl), (by rw [List.length_drop, List.length_drop]; omega), (unp_step hU (by omega) hr0 hr4 hrn)⟩
      rw [List.length_drop, List.length_drop]; omega
     refine any_opL 8 (by rfl) ?_
     simp only [Z7, Z8]
     refine cM 1 fun Lk hLk => ?_
     refine wpV_drop (l := r.drop 4) (lo := numN (r.take 4)) (by rfl) rfl rfl rfl U99 hrN ?_
     simp only [Z0, Z6]
     refine hLk _ fun w102 M => ?_
     refine Z14 (Z22 ?_)
     refine any_step [4] (by kernel_rfl) rfl (any_one ?_)
     refine any_opL 4 (by rfl) ?_
     simp only [Z7, Z8]
     refine wpL_rowN (vs := [.string (bs ((r.drop 4).take (numN (r.take 4))))]) (z := .string { data := #[] }) (bytes := 16) (by rfl) (by rfl) U937 (by kernel_rfl) (by decide) (by kernel_rfl) (fun g103 w104 Sw104 Hg103 Bg103 => ?_)
     replace M := ((M.sees Sw104).add (N := 1) (cs := [.string (bs ((r.drop 4).take (numN (r.take 4))))]) (M.ge Hg103) (M.fresh Hg103) Bg103 rfl)
     clear Bg103
     simp only [Z0, Z6]
     refine Z14 (Z22 ?_)
     refine any_step [5] (by kernel_rfl) rfl (any_one ?_)
     refine any_opL 5 (by rfl) ?_
     simp only [Z7, Z8]
     refine wpL_append (n := k) (m := 1) (olds := scells ps) (news := [.string (bs ((r.drop 4).take (numN (r.take 4))))]) (z := .string { data := #[] }) (bytes := 16) (by rfl) (by rfl) (by rfl) (by rfl) U937 (by kernel_rfl) rfl rfl (by rw [scells_len, hps]) rfl (M.r 1 0 rfl rfl) (M.t 1 rfl) (M.lt 1 rfl) (M.r 0 0 rfl rfl) (by intro u hu; rw [List.mem_singleton.1 hu]; rfl) (by omega) (by simp only [maxLen]; omega) (fun g105 g105c w106 Sw106 Q Cg105 R T L => ?_)
     replace M := M.grow 1 rfl Sw106 Q R T L
     simp only [Z6] at M
     clear Q R T L
     rw [show scells ps ++ [.string (bs ((r.drop 4).take (numN (r.take 4))))] = scells (ps ++ [((r.drop 4).take (numN (r.take 4)))]) from scells_app ps [((r.drop 4).take (numN (r.take 4)))]] at M
     simp only [Z0, Z6]
     refine Z14 (Z22 ?_)
     refine any_first 9 (v := .slice (some ⟨g105, 0, none⟩) (k + 1) g105c) (by rfl) (by kernel_rfl) nopanic_not (by rfl) (by exact yl_assign rfl rfl) ?_
     simp only [Z0, Z6]
     refine any_first 10 (v := .string (bs ((r.drop 4).drop (numN (r.take 4))))) (by rfl) (by kernel_rfl) nopanic_not (by rfl) (by exact yl_assign rfl rfl) ?_
     simp only [Z0, Z6]
     refine any_end (by kernel_rfl) (Z15 ?_)
     refine Exists.intro _ ⟨?_, (k + 1), ((r.drop 4).drop (numN (r.take 4))), (ps ++ [((r.drop 4).take (numN (r.take 4)))]), g105, g105c, (fun q9 => (#[Z9, Z9, u10 2, u10 3, Z9, .int .u64 (numN (r.take 4) : Nat), .int .i64 0, Z9, Z9, Z9, .string (bs r), .bool true, .bool false, .slice (some ⟨rb, 0, none⟩) k rbc, .int .i64 k, .bool false, .bool false, .string (bs r), .int .i64 r.length, .bool false, .tuple #[.int .u64 (numN (r.take 4) : Nat), .int .i64 0], .string (bs r), .string (bs (r.take 4)), .tuple #[.int .u64 (numN (r.take 4) : Nat), .int .i64 0], .int .u64 (numN (r.take 4) : Nat), .int .i64 0, .string (bs r), .string (bs (r.drop 4)), .int .u64 (numN (r.take 4) : Nat), .string (bs (r.drop 4)), .int .i64 ((r.drop 4).length : Nat), .int .u64 ((r.drop 4).length : Nat), .bool false, .slice (some ⟨rb, 0, none⟩) k rbc, .string (bs (r.drop 4)), .int .u64 (numN (r.take 4) : Nat), .string (bs ((r.drop 4).take (numN (r.take 4)))), .slice (some ⟨g103, 0, none⟩) 1 1, .slice (some ⟨g105, 0, none⟩) (k + 1) g105c, .string (bs (r.drop 4)), .int .u64 (numN (r.take 4) : Nat), .string (bs ((r.drop 4).drop (numN (r.take 4))))] : Array Value).getD q9 Z9), rfl, rfl, (M.pick [1] (by decide) rfl), Cg105, (by omega), (by omega), (by rw [List.length_append, hps]; rfl), (by rw [List.length_drop, List.length_drop]; omega), (unp_step hU (by omega) hr0 hr4 hrn)⟩
     rw [List.length_drop, List.length_drop]; omega
    refine any_opL 8 (by rfl) ?_
    simp only [Z7, Z8]
    refine cM 1 fun Lk hLk => ?_
    refine wpV_drop (l := r.drop 4) (lo := numN (r.take 4)) (by rfl) rfl rfl rfl U99 hrN ?_
    simp only [Z0, Z6]
    refine hLk _ fun w107 M => ?_
    refine Z14 (Z22 ?_)
    refine any_step [3] (by kernel_rfl) rfl (any_one ?_)
    refine any_opL 3 (by rfl) ?_
    simp only [Z7, Z8]
    refine cM 1 fun Lk hLk => ?_
    refine wpV_takeS (l := r.drop 4) (hi := numN (r.take 4)) (by rfl) rfl rfl rfl U99 hrN ?_
    simp only [Z0, Z6]
    refine hLk _ fun w108 M => ?_
    refine Z14 (Z22 ?_)
    refine any_step [4] (by kernel_rfl) rfl (any_one ?_)
    refine any_opL 4 (by rfl) ?_
    simp only [Z7, Z8]
    refine wpL_rowN (vs := [.string (bs ((r.drop 4).take (numN (r.take 4))))]) (z := .string { data := #[] }) (bytes := 16) (by rfl) (by rfl) U937 (by kernel_rfl) (by decide) (by kernel_rfl) (fun g109 w110 Sw110 Hg109 Bg109 => ?_)
    replace M := ((M.sees Sw110).add (N := 1) (cs := [.string (bs ((r.drop 4).take (numN (r.take 4))))]) (M.ge Hg109) (M.fresh Hg109) Bg109 rfl)
    clear Bg109
    simp only [Z0, Z6]
    refine Z14 (Z22 ?_)
    refine any_step [5] (by kernel_rfl) rfl (any_one ?_)
    refine any_opL 5 (by rfl) ?_
    simp only [Z7, Z8]
    refine wpL_append (n := k) (m := 1) (olds := scells ps) (news := [.string (bs ((r.drop 4).take (numN (r.take 4))))]) (z := .string { data := #[] }) (bytes := 16) (by rfl) (by rfl) (by rfl) (by rfl) U937 (by kernel_rfl) rfl rfl (by rw [scells_len, hps]) rfl (M.r 1 0 rfl rfl) (M.t 1 rfl) (M.lt 1 rfl) (M.r 0 0 rfl rfl) (by intro u hu; rw [List.mem_singleton.1 hu]; rfl) (by omega) (by simp only [maxLen]; omega) (fun g111 g111c w112 Sw112 Q Cg111 R T L => ?_)
    replace M := M.grow 1 rfl Sw112 Q R T L
    simp only [Z6] at M
    clear Q R T L
    rw [show scells ps ++ [.string (bs ((r.drop 4).take (numN (r.take 4))))] = scells (ps ++ [((r.drop 4).take (numN (r.take 4)))]) from scells_app ps [((r.drop 4).take (numN (r.take 4)))]] at M
    simp only [Z0, Z6]
    refine Z14 (Z22 ?_)
    refine any_first 9 (v := .slice (some ⟨g111, 0, none⟩) (k + 1) g111c) (by rfl) (by kernel_rfl) nopanic_not (by rfl) (by exact yl_assign rfl rfl) ?_
    simp only [Z0, Z6]
    refine any_first 10 (v := .string (bs ((r.drop 4).drop (numN (r.take 4))))) (by rfl) (by kernel_rfl) nopanic_not (by rfl) (by exact yl_assign rfl rfl) ?_
    simp only [Z0, Z6]
    refine any_end (by kernel_rfl) (Z15 ?_)
    refine Exists.intro _ ⟨?_, (k + 1), ((r.drop 4).drop (numN (r.take 4))), (ps ++ [((r.drop 4).take (numN (r.take 4)))]), g111, g111c, (fun q9 => (#[Z9, Z9, u10 2, u10 3, Z9, .int .u64 (numN (r.take 4) : Nat), .int .i64 0, Z9, Z9, Z9, .string (bs r), .bool true, .bool false, .slice (some ⟨rb, 0, none⟩) k rbc, .int .i64 k, .bool false, .bool false, .string (bs r), .int .i64 r.length, .bool false, .tuple #[.int .u64 (numN (r.take 4) : Nat), .int .i64 0], .string (bs r), .string (bs (r.take 4)), .tuple #[.int .u64 (numN (r.take 4) : Nat), .int .i64 0], .int .u64 (numN (r.take 4) : Nat), .int .i64 0, .string (bs r), .string (bs (r.drop 4)), .int .u64 (numN (r.take 4) : Nat), .string (bs (r.drop 4)), .int .i64 ((r.drop 4).length : Nat), .int .u64 ((r.drop 4).length : Nat), .bool false, .slice (some ⟨rb, 0, none⟩) k rbc, .string (bs (r.drop 4)), .int .u64 (numN (r.take 4) : Nat), .string (bs ((r.drop 4).take (numN (r.take 4)))), .slice (some ⟨g109, 0, none⟩) 1 1, .slice (some ⟨g111, 0, none⟩) (k + 1) g111c, .string (bs (r.drop 4)), .int .u64 (numN (r.take 4) : Nat), .string (bs ((r.drop 4).drop (numN (r.take 4))))] : Array Value).getD q9 Z9), rfl, rfl, (M.pick [1] (by decide) rfl), Cg111, (by omega), (by omega), (by rw [List.length_append, hps]; rfl), (by rw [List.length_drop, List.length_drop]; omega), (unp_step hU (by omega) hr0 hr4 hrn)⟩
    rw [List.length_drop, List.length_drop]; omega
   have hrn := of_decide_eq_true hc90
   refine cT ?_
   refine qS fun _ k113 => ?_
   refine lg ?_; refine lg ?_; refine lZ k113 ?_; refine rt2 ?_
   have BE := M.below
   exact ⟨_, rfl, unp_err (unp_over hU hk hr0 hr4 hrn) (by decide) rfl, BE⟩
  have hr4 := of_decide_eq_true hc79
  refine cT ?_
  refine qS fun _ k115 => ?_
  refine lg ?_; refine lg ?_; refine lZ k115 ?_; refine rt2 ?_
  have BE := M.below
  exact ⟨_, rfl, unp_err (unp_short hU hk hr0 hr4) (by decide) rfl, BE⟩
 have ek := of_decide_eq_true hc75
 subst ek
 refine cT ?_
 refine qS fun _ k117 => ?_
 refine lg ?_; refine lg ?_; refine lZ k117 ?_; refine rt2 ?_
 have BE := M.below
 exact ⟨_, rfl, unp_err (unp_many hU hr0) (by decide) rfl, BE⟩
end Go.Proofs.Yc

