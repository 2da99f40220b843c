import Derived.Test.YtpgpjoldelobdaaDoorSq4
import Derived.Lib.AppendStr
import Derived.Test.YtpgpjoldelobdaaDoorF3
import Derived.WalkKit
import Derived.WalkSpells
import Derived.Laws.Pointers
import Derived.RowKit3
import Derived.Below
import Derived.Outline
import Derived.LoopN
import Derived.Lib.Hide
import Derived.Handy
import Derived.Laws.Bits64b
import Derived.Lib.Bytealg
import Derived.Test.YtpgpjoldelobdaaDoorSteps13
import Derived.Test.YtpgpjoldelobdaaDoorSteps8
import Derived.Test.YtpgpjoldelobdaaDoorAdds2
import Derived.Test.YtpgpjoldelobdaaDoorEdB
import Derived.Test.YtpgpjoldelobdaaDoorOctA
import Derived.Test.YtpgpjoldelobdaaDoorShq
set_option linter.unusedSimpArgs false
set_option linter.unusedVariables false
namespace Go.Proofs.Yc
open Go Go.RowKit Go.Shelf Go.Proofs.Num
open Tryd renaming underlying105 → U9105, underlying107 → U9107, underlying185 → U9185, underlying29 → U929, underlying3 → U93, underlying4 → U94, underlying5 → U95, underlying9 → U99
set_option maxHeartbeats 2000000 in
set_option maxRecDepth 100000 in
theorem writeString_c (B b : Nat) (bs : List Value) (s : ByteArray) (w : World) (h : Lib.IsBuilder 107 5 B b bs w) (hlen : bs.length + s.size ≤ 140737488355328) (hBw : B ≤ w.heap.size) :
  Calls Tryd.prog 69 #[.pointer (some ⟨b, 0, none⟩), .string s] w fun e w' => e = .returned (.tuple #[.int .i64 s.size, .nilIface]) ∧ (Lib.BuilderAt 107 5 B b (.pointer (some ⟨b, 0, none⟩)) (bs ++ Lib.strCells s) w' ∧ Below B w w') := by
 obtain ⟨i0, hi, hz0, hz1, hz2⟩ := info_parts (show (Tryd.prog.info? 5).map (fun i => (i.zero, i.size, i.bytes)) = some (some (.int .u8 0), 1, 1) by kernel_rfl)
 have mixed : Tryd.prog.follows .mixedOrders = true := by kernel_rfl
 have t107 := U9107; have a107 := Tryd.isAgg107; have z107 := Tryd.sizeOf107; have v107 := Tryd.zeroValue107; have u107 := run_underlying U9107
 have t105 := U9105; have a105 := Tryd.isAgg105; have z105 := Tryd.sizeOf105; have v105 := Tryd.zeroValue105; have u105 := run_underlying U9105
 have t5 := U95; have a5 := Tryd.isAgg5; have z5 := Tryd.sizeOf5; have v5 := Tryd.zeroValue5; have u5 := run_underlying U95
 have t29 := U929; have a29 := Tryd.isAgg29; have z29 := Tryd.sizeOf29; have v29 := Tryd.zeroValue29; have u29 := run_underlying U929
 have t3 := U93; have a3 := Tryd.isAgg3; have z3 := Tryd.sizeOf3; have v3 := Tryd.zeroValue3; have u3 := run_underlying U93
 have t9 := U99; have a9 := Tryd.isAgg9; have z9 := Tryd.sizeOf9; have v9 := Tryd.zeroValue9; have u9 := run_underlying U99
 have t4 := U94; have a4 := Tryd.isAgg4; have z4 := Tryd.sizeOf4; have v4 := Tryd.zeroValue4; have u4 := run_underlying U94
 have t185 := U9185; have a185 := Tryd.isAgg185; have z185 := Tryd.sizeOf185; have v185 := Tryd.zeroValue185; have u185 := run_underlying U9185
 have ecc : ∀ args w, (callFunc 103 args).run Tryd.prog w = .ok (.enter 103 args) w := enters_of Tryd.func103 (by kernel_rfl) rfl
 go_enter Tryd.func69, Tryd.ntmps69
 go_wp2_with (go_at_fn 103; refine (copyCheck_c B b bs _ h).mono ?_)
 rintro e w1 ⟨rfl, h1, hb1⟩
 obtain ⟨hB, v, hbk, hown, hne⟩ := h1
 have c0 : w1.cell? ⟨b, 0, none⟩ = some (.pointer (some ⟨b, 0, none⟩)) := by rw [Lib.cell_of_heap hbk]; rfl
 have c1 : w1.cell? ⟨b, 1, none⟩ = some v := by rw [Lib.cell_of_heap hbk]; rfl
 go_wp2_with (at_builtin; refine Lib.wpList_append_own_string _ rfl _ _ 29 9 rfl B 5 i0 U929 U99 hi hz0 hz1 hz2 _ _ _ rfl hown s rfl ?c3 ?c4 ?c5 ?_)
 case c3 => unfold maxLen; omega
 case c4 => omega
 case c5 => have := hb1.size; omega
 intro v' w2 hown' hgrow _
 have hlt : b < w1.heap.size := by
  rcases Nat.lt_or_ge b w1.heap.size with h' | h'
  ·
   exact h'
  simp [Array.getElem?_eq_none h'] at hbk
 have hb2 : w2.heap[b]? = some (.cells #[.pointer (some ⟨b, 0, none⟩), v] 107 (0, 0)) := by
  rw [hgrow.block b hlt (fun e => hne e.symm)]
  exact hbk
 have d0 : w2.cell? ⟨b, 0, none⟩ = some (.pointer (some ⟨b, 0, none⟩)) := by rw [Lib.cell_of_heap hb2]; rfl
 have d1 : w2.cell? ⟨b, 1, none⟩ = some v := by rw [Lib.cell_of_heap hb2]; rfl
 have f1 : w2.frozen? ⟨b, 1, none⟩ = false := Lib.frozen_of_heap hb2 1
 obtain ⟨ao, n', cap, rfl⟩ : ∃ ao n' cap, v' = .slice ao n' cap := by
  rcases hown'.2 with ⟨hv, _⟩ | ⟨g, cap, cur, hv, _⟩
  ·
   exact ⟨_, _, _, hv⟩
  exact ⟨_, _, _, hv⟩
 go_wp2
 go_ret2
 refine ⟨rfl, ?_, ?_⟩
 ·
  exact Lib.BuilderAt.put (T := 107) (e := 5) hB hb2 (bs' := bs ++ Lib.strCells s) (by simpa [Lib.strCells_length] using hown') (by decide)
 exact (hb1.grown hgrow (by have := hb1.size; omega) (fun k hk => (hown.lt k hk).1)).setCell (p := ⟨b, 1, none⟩) hB _
end Go.Proofs.Yc

namespace Go.Proofs.Yc
open Go Go.RowKit Go.Proofs.Num
open Tryd renaming underlying29 → U929, underlying37 → U937, underlying40 → U940, underlying5 → U95, underlying9 → U99
open Go.Proofs.Num  renaming putT → Z0
open Nat renaming lt_of_lt_of_le → Z1, zero_add → Z2, le_trans → Z3, mod_eq_of_lt → Z5
open List renaming set → Z6, take → Z7, drop → Z8
open Go renaming undef → Z9
open Go.Proofs.Num renaming wp_region_seq → Z13, wpL_nil → Z14, no_panic → Z15, wpV_nil → Z19, wpL_var → Z36
attribute [local irreducible] wpV wpN wpList
open Go.Proofs.Ya
theorem pack_cells {ps : List (List UInt8)} {k : Nat} (h : k < ps.length) : Lib.byteCells (packL (ps.take k)) ++ Lib.byteCells (beL 4 (ps.getD k []).length) ++ Lib.byteCells (ps.getD k []) = Lib.byteCells (packL (ps.take (k + 1))) := by
 rw [packL_take h]
 simp [Lib.byteCells]
theorem packN_take {ps : List (List UInt8)} {k : Nat} (h : k < ps.length) : packN (ps.take k) + 4 + (ps.getD k []).length ≤ packN ps := by
 induction ps generalizing k with
 | nil => exact absurd h (by simp)
 | cons s ps ih =>
  cases k with
  | zero => simp [packN, List.getD_eq_getElem?_getD]
  | succ k =>
   have := ih (k := k) (by simpa using h)
   simp only [List.take_succ_cons, packN, List.getD_cons_succ]
   omega
set_option maxHeartbeats 2000000 in
theorem big4_c {n : Nat} {w : World} (hn : n < 4294967296) :
  Calls Tryd.prog 100 #[.int .u64 n, .int .i64 4] w fun e w' => e = .returned (.tuple #[.string (bs (beL 4 n)), .int .i64 0]) ∧ Below w.heap.size w w' := by
 have hn64 : n < 18446744073709551616 := Z1 hn (by decide)
 go_enter Tryd.func100, Tryd.ntmps100
 have M := Mem.start w
 refine qS fun _ k1 => ?_
 refine lg ?_; refine lg ?_; refine lZ k1 ?_
 refine sk fun _ k3 => ?_
 refine qS fun _ k4 => ?_
 refine lM ?_
 refine cM 16 fun Lk hLk => ?_
 refine vB (v := .bool false) (hr := run_lss _ _ _ _) ?_
 refine vM ?_; refine vM ?_
 refine vB (v := .bool false) (hr := run_gtr _ _ _ _) ?_
 refine vK ?_; refine vM ?_; refine vM ?_
 refine vB (v := .bool true) (hr := run_lss _ _ _ _) ?_
 refine vM ?_; refine vM ?_; refine vM ?_
 refine vB (v := .int .i64 32) (hr := run_mul (by decide)) ?_
 refine vB (v := .int .u64 (n / 2 ^ 32 : Nat)) (hr := nr_shr64 (n := 32) (by decide)) ?_
 refine vB (v := .bool false) (hr := fun W => (run_neqN (n / 2 ^ 32) 0 _ _ W).trans (by rw [(decide_eq_false (fun h => h (Nat.div_eq_of_lt (Nat.lt_of_lt_of_eq hn (by decide)))))])) ?_
 refine vK ?_; refine vK ?_
 refine hLk _ fun w6 M => ?_
 refine lZ k4 ?_; refine cF ?_; refine sZ k3 ?_
 refine qS fun _ k7 => ?_
 refine lM ?_
 refine wpL_make (n := 4) (z := .int .u8 0) (bytes := 1) (by rfl) (by rfl) (by rfl) (by rfl) U929 (by kernel_rfl) rfl (by decide) (by decide) (fun g9 w10 Sw10 Hg9 Bg9 => ?_)
 replace M := ((M.sees Sw10).add (N := 4) (cs := List.replicate 4 (.int .u8 0)) (M.ge Hg9) (M.fresh Hg9) Bg9 (by simp [flen]))
 clear Bg9
 rw [beF_zero 4 n] at M
 simp only [Z0, Z6]
 refine lg ?_; refine lZ k7 ?_
 refine sk fun _ k11 => ?_
 refine qS fun _ k12 => ?_
 refine lM ?_
 refine cM 1 fun Lk hLk => ?_
 refine wpV_lenA (n := 4) (by rfl) rfl rfl rfl U929 ?_
 simp only [Z0, Z6]
 refine hLk _ fun w14 M => ?_
 refine lM ?_; refine lZ k12 ?_; refine wp_block ?_
 refine wp_loop_ghost (fun n9 a9 W9 => ∃ (i : Nat) (u15_7 u15_30 u15_31 u15_32 u15_33 u15_34 u15_35 u15_36 u15_37 u15_38 u15_39 u15_40 u15_41 u15_42 u15_43 : Value), n9 = 2 * (4 - i) ∧ a9 = { tmps := #[.int .u64 n, .int .i64 4, Z9, Z9, .string (bs ([])), .int .i64 0, .slice (some ⟨g9, 0, none⟩) 4 4, u15_7, .int .i64 4, .bool false, .bool false, .int .i64 4, .bool false, .bool false, .bool false, .int .i64 4, .bool true, .bool true, .int .u64 n, .int .i64 4, .int .i64 32, .int .u64 (n / 2 ^ 32 : Nat), .bool false, .bool false, .bool false, .int .i64 4, .slice (some ⟨g9, 0, none⟩) 4 4, .slice (some ⟨g9, 0, none⟩) 4 4, .int .i64 4, .int .i64 i, u15_30, u15_31, u15_32, u15_33, u15_34, u15_35, u15_36, u15_37, u15_38, u15_39, u15_40, u15_41, u15_42, u15_43, Z9, Z9], defers := [] } ∧ Mem [] w W9 [⟨g9, 4, [(0, bl 4 (beF 4 n i))]⟩] ∧ (i ≤ 4)) (2 * (4 - (0))) ?_ (fun n9 a9 W9 hI => ?_)
 ·
  exact ⟨0, _, _, _, _, _, _, _, _, _, _, _, _, _, _, _, rfl, rfl, M, (Nat.zero_le _)⟩
 clear M
 obtain ⟨i, u15_7, u15_30, u15_31, u15_32, u15_33, u15_34, u15_35, u15_36, u15_37, u15_38, u15_39, u15_40, u15_41, u15_42, u15_43, rfl, rfl, M, hi4⟩ := hI
 obtain ⟨w16, rfl⟩ : ∃ W8, W8 = W9 := ⟨_, rfl⟩
 refine qS fun _ k17 => ?_
 refine cM 1 fun Lk hLk => ?_
 refine vB (v := .bool (decide (i < 4))) (hr := run_lssN i 4 _ _) ?_
 refine hLk _ fun w19 M => ?_
 refine lZ k17 ?_
 refine sk fun _ k20 => ?_
 cases hc21 : (decide (i < 4))
 ·
  have ei : i = 4 := by have := of_decide_eq_false hc21; omega
  subst ei
  rw [beF_end] at M
  refine cF ?_; refine eZ k11 ?_
  refine qS fun _ k22 => ?_
  refine lM ?_
  refine cM 1 fun Lk hLk => ?_
  refine wpV_b2s (l := (beL 4 n)) (by rfl) rfl rfl (beL_len _ _).symm U929 U95 U99 (M.r 0 0 rfl rfl) (M.lt 0 rfl) ?_
  simp only [Z0, Z6]
  refine hLk _ fun w24 M => ?_
  refine lg ?_; refine lg ?_; refine lZ k22 ?_; refine rt2 ?_
  exact ⟨rfl, M.below⟩
 have hi : i < 4 := of_decide_eq_true hc21
 refine cT ?_; refine sZ k20 ?_
 refine sk fun _ k25 => ?_
 refine wp_block ?_
 refine qS fun _ k26 => ?_
 refine lM ?_; refine lg ?_; refine lZ k26 ?_; refine Z13 ?_; refine lM ?_; refine lM ?_
 refine cM 9 fun Lk hLk => ?_
 refine vB (v := .int .i64 3) (hr := run_sub (by decide)) ?_
 refine vM ?_
 refine vB (v := .int .i64 (4 - 1 - i : Nat)) (hr := run_sub (by simp only [IntKind.wrap_i64]; omega)) ?_
 refine vM ?_; refine vM ?_
 refine vB (v := .int .i64 (8 * i : Nat)) (hr := run_mul (by simp only [IntKind.wrap_i64]; omega)) ?_
 refine vB (v := .int .u64 (n / 2 ^ (8 * i) : Nat)) (hr := nr_shr64 (n := 8 * i) (by omega)) ?_
 refine wpV_conv (d := .bool) (e := (((n / 2 ^ (8 * i)) % 256 : Nat) : Int)) (by rfl) rfl rfl (run_conv_int U940 U95 (wrap_u8N _)) ?_
 simp only [Z0, Z6]
 refine wpV_idxs (n := 4 - 1 - i) (by rfl) rfl rfl rfl U929 info5 (by omega) ?_
 simp only [Z2]
 simp only [Z0, Z6]
 refine hLk _ fun w29 M => ?_
 refine lS1 (g := g9) (off := 4 - 1 - i) (n := 4) (v := .int .u8 ((n / 2 ^ (8 * i)) % 256 : Nat)) (M.t 0 rfl) (by omega) info5 rfl (fun w30 P R T => ?_)
 replace M := M.put1 (j := 4 - 1 - i) 0 rfl P R T (Z2 _).symm
 simp only [Z6] at M
 rw [beF_step 4 n hi] at M
 refine lZ k25 ?_; refine Z13 ?_
 refine cM 1 fun Lk hLk => ?_
 refine vB (v := .int .i64 (i + 1 : Nat)) (hr := run_add (by simp only [IntKind.wrap_i64]; omega)) ?_
 refine hLk _ fun w32 M => ?_
 refine lM ?_
 refine Z14 (Z15 ?_)
 refine Exists.intro _ ⟨?_, (i + 1), _, _, _, _, _, _, _, _, _, _, _, _, _, _, _, rfl, rfl, M, (by omega)⟩
 omega
set_option maxHeartbeats 2000000 in
theorem big8_c {n : Nat} {w : World} (hn : n < 18446744073709551616) :
  Calls Tryd.prog 100 #[.int .u64 n, .int .i64 8] w fun e w' => e = .returned (.tuple #[.string (bs (beL 8 n)), .int .i64 0]) ∧ Below w.heap.size w w' := by
 have hn64 : n < 18446744073709551616 := Z1 hn (by decide)
 go_enter Tryd.func100, Tryd.ntmps100
 have M := Mem.start w
 refine qS fun _ k1 => ?_
 refine lg ?_; refine lg ?_; refine lZ k1 ?_
 refine sk fun _ k3 => ?_
 refine qS fun _ k4 => ?_
 refine lM ?_
 refine cM 16 fun Lk hLk => ?_
 refine vB (v := .bool false) (hr := run_lss _ _ _ _) ?_
 refine vM ?_; refine vM ?_
 refine vB (v := .bool false) (hr := run_gtr _ _ _ _) ?_
 refine vK ?_; refine vM ?_; refine vM ?_
 refine vB (v := .bool false) (hr := run_lss _ _ _ _) ?_
 refine vM ?_; refine vS ?_; refine vS ?_; refine vS ?_; refine vS ?_; refine vS ?_; refine vK ?_; refine vK ?_
 refine hLk _ fun w6 M => ?_
 refine lZ k4 ?_; refine cF ?_; refine sZ k3 ?_
 refine qS fun _ k7 => ?_
 refine lM ?_
 refine wpL_make (n := 8) (z := .int .u8 0) (bytes := 1) (by rfl) (by rfl) (by rfl) (by rfl) U929 (by kernel_rfl) rfl (by decide) (by decide) (fun g9 w10 Sw10 Hg9 Bg9 => ?_)
 replace M := ((M.sees Sw10).add (N := 8) (cs := List.replicate 8 (.int .u8 0)) (M.ge Hg9) (M.fresh Hg9) Bg9 (by simp [flen]))
 clear Bg9
 rw [beF_zero 8 n] at M
 simp only [Z0, Z6]
 refine lg ?_; refine lZ k7 ?_
 refine sk fun _ k11 => ?_
 refine qS fun _ k12 => ?_
 refine lM ?_
 refine cM 1 fun Lk hLk => ?_
 refine wpV_lenA (n := 8) (by rfl) rfl rfl rfl U929 ?_
 simp only [Z0, Z6]
 refine hLk _ fun w14 M => ?_
 refine lM ?_; refine lZ k12 ?_; refine wp_block ?_
 refine wp_loop_ghost (fun n9 a9 W9 => ∃ (i : Nat) (u15_7 u15_30 u15_31 u15_32 u15_33 u15_34 u15_35 u15_36 u15_37 u15_38 u15_39 u15_40 u15_41 u15_42 u15_43 : Value), n9 = 2 * (8 - i) ∧ a9 = { tmps := #[.int .u64 n, .int .i64 8, Z9, Z9, .string (bs ([])), .int .i64 0, .slice (some ⟨g9, 0, none⟩) 8 8, u15_7, .int .i64 8, .bool false, .bool false, .int .i64 8, .bool false, .bool false, .bool false, .int .i64 8, .bool false, .bool false, Z9, Z9, Z9, Z9, Z9, .bool false, .bool false, .int .i64 8, .slice (some ⟨g9, 0, none⟩) 8 8, .slice (some ⟨g9, 0, none⟩) 8 8, .int .i64 8, .int .i64 i, u15_30, u15_31, u15_32, u15_33, u15_34, u15_35, u15_36, u15_37, u15_38, u15_39, u15_40, u15_41, u15_42, u15_43, Z9, Z9], defers := [] } ∧ Mem [] w W9 [⟨g9, 8, [(0, bl 8 (beF 8 n i))]⟩] ∧ (i ≤ 8)) (2 * (8 - (0))) ?_ (fun n9 a9 W9 hI => ?_)
 ·
  exact ⟨0, _, _, _, _, _, _, _, _, _, _, _, _, _, _, _, rfl, rfl, M, (Nat.zero_le _)⟩
 clear M
 obtain ⟨i, u15_7, u15_30, u15_31, u15_32, u15_33, u15_34, u15_35, u15_36, u15_37, u15_38, u15_39, u15_40, u15_41, u15_42, u15_43, rfl, rfl, M, hi4⟩ := hI
 obtain ⟨w16, rfl⟩ : ∃ W8, W8 = W9 := ⟨_, rfl⟩
 refine qS fun _ k17 => ?_
 refine cM 1 fun Lk hLk => ?_
 refine vB (v := .bool (decide (i < 8))) (hr := run_lssN i 8 _ _) ?_
 refine hLk _ fun w19 M => ?_
 refine lZ k17 ?_
 refine sk fun _ k20 => ?_
 cases hc21 : (decide (i < 8))
 ·
  have ei : i = 8 := by have := of_decide_eq_false hc21; omega
  subst ei
  rw [beF_end] at M
  refine cF ?_; refine eZ k11 ?_
  refine qS fun _ k22 => ?_
  refine lM ?_
  refine cM 1 fun Lk hLk => ?_
  refine wpV_b2s (l := (beL 8 n)) (by rfl) rfl rfl (beL_len _ _).symm U929 U95 U99 (M.r 0 0 rfl rfl) (M.lt 0 rfl) ?_
  simp only [Z0, Z6]
  refine hLk _ fun w24 M => ?_
  refine lg ?_; refine lg ?_; refine lZ k22 ?_; refine rt2 ?_
  exact ⟨rfl, M.below⟩
 have hi : i < 8 := of_decide_eq_true hc21
 refine cT ?_; refine sZ k20 ?_
 refine sk fun _ k25 => ?_
 refine wp_block ?_
 refine qS fun _ k26 => ?_
 refine lM ?_; refine lg ?_; refine lZ k26 ?_; refine Z13 ?_; refine lM ?_; refine lM ?_
 refine cM 9 fun Lk hLk => ?_
 refine vB (v := .int .i64 7) (hr := run_sub (by decide)) ?_
 refine vM ?_
 refine vB (v := .int .i64 (8 - 1 - i : Nat)) (hr := run_sub (by simp only [IntKind.wrap_i64]; omega)) ?_
 refine vM ?_; refine vM ?_
 refine vB (v := .int .i64 (8 * i : Nat)) (hr := run_mul (by simp only [IntKind.wrap_i64]; omega)) ?_
 refine vB (v := .int .u64 (n / 2 ^ (8 * i) : Nat)) (hr := nr_shr64 (n := 8 * i) (by omega)) ?_
 refine wpV_conv (d := .bool) (e := (((n / 2 ^ (8 * i)) % 256 : Nat) : Int)) (by rfl) rfl rfl (run_conv_int U940 U95 (wrap_u8N _)) ?_
 simp only [Z0, Z6]
 refine wpV_idxs (n := 8 - 1 - i) (by rfl) rfl rfl rfl U929 info5 (by omega) ?_
 simp only [Z2]
 simp only [Z0, Z6]
 refine hLk _ fun w29 M => ?_
 refine lS1 (g := g9) (off := 8 - 1 - i) (n := 8) (v := .int .u8 ((n / 2 ^ (8 * i)) % 256 : Nat)) (M.t 0 rfl) (by omega) info5 rfl (fun w30 P R T => ?_)
 replace M := M.put1 (j := 8 - 1 - i) 0 rfl P R T (Z2 _).symm
 simp only [Z6] at M
 rw [beF_step 8 n hi] at M
 refine lZ k25 ?_; refine Z13 ?_
 refine cM 1 fun Lk hLk => ?_
 refine vB (v := .int .i64 (i + 1 : Nat)) (hr := run_add (by simp only [IntKind.wrap_i64]; omega)) ?_
 refine hLk _ fun w32 M => ?_
 refine lM ?_
 refine Z14 (Z15 ?_)
 refine Exists.intro _ ⟨?_, (i + 1), _, _, _, _, _, _, _, _, _, _, _, _, _, _, _, rfl, rfl, M, (by omega)⟩
 omega
set_option maxHeartbeats 2000000 in
theorem pack_c {ps : List (List UInt8)} {g0 cg0 : Nat} {w : World} (hq : ps.length ≤ 64) (hp : packN ps ≤ 65536) (hcg0 : ps.length ≤ cg0) (Lg0 : g0 < w.heap.size) (Rg0_0 : w.rangeAt g0 0 (scells ps)) :
  Calls Tryd.prog 59 #[.slice (some ⟨g0, 0, none⟩) ps.length cg0] w fun e w' => e = .returned (.tuple #[.string (bs (packL ps)), .int .i64 0]) ∧ Below w.heap.size w w' := by
 go_enter Tryd.func59, Tryd.ntmps59
 have M := Mem.start w
 refine qS fun _ k1 => ?_
 refine lg ?_; refine lg ?_; refine lZ k1 ?_
 refine sk fun _ k3 => ?_
 refine qS fun _ k4 => ?_
 refine lM ?_
 refine cM 2 fun Lk hLk => ?_
 refine wpV_lenA (n := ps.length) (by rfl) rfl rfl rfl U937 ?_
 simp only [Z0, Z6]
 refine vB (v := .bool false) (hr := fun W => (run_gtrN ps.length 64 _ _ W).trans (by rw [(decide_eq_false (by omega))])) ?_
 refine hLk _ fun w6 M => ?_
 refine lZ k4 ?_; refine cF ?_; refine sZ k3 ?_
 refine qS fun _ k7 => ?_
 refine Z36 (t := 107) (cs := [.pointer none, .slice none 0 0]) (by rfl) (fun W => ?_) (fun g9 w8 SB HB BB => ?_)
 ·
  go_simp
 have IB : Lib.IsBuilder 107 5 w6.heap.size g9 [] w8 := .inl ⟨HB, _, BB, World.ownsRow_nil _ _ _ _, by simp [Value.ownBlock]⟩
 have HB9 := SB.2.2.size
 have hsz := M.size
 have hl9 : ∀ b9 ∈ ([] : List Bk), b9.g < w6.heap.size := fun b9 hb9 => nomatch hb9
 replace M := M.sees SB
 simp only [Z0, Z6]
 refine lZ k7 ?_
 refine sk fun _ k10 => ?_
 refine qS fun _ k11 => ?_
 refine lM ?_
 refine lCh 1 (fun Lk hLk => ?_)
 refine wpV_lenA (n := ps.length) (by rfl) rfl rfl rfl U937 ?_
 simp only [Z0, Z6]
 refine Z19 (hLk _ (fun w13 Sw13 => ?_))
 simp only [Z7, Z8]
 replace M := M.sees Sw13
 replace IB := isB_sees IB Sw13; replace HB9 := Z3 HB9 Sw13.2.2.size
 refine lM ?_; refine lZ k11 ?_; refine wp_block ?_
 refine wp_loop_ghost (fun n9 a9 W9 => ∃ (k : Nat) (u14 : Nat → Value), n9 = 2 * (ps.length - k) ∧ a9 = { tmps := #[.slice (some ⟨g0, 0, none⟩) ps.length cg0, Z9, u14 2, u14 3, .pointer (some ⟨g9, 0, none⟩), Z9, u14 6, u14 7, u14 8, .slice (some ⟨g0, 0, none⟩) ps.length cg0, .int .i64 ps.length, .bool false, .slice (some ⟨g0, 0, none⟩) ps.length cg0, .int .i64 ps.length, .int .i64 k, u14 15, u14 16, u14 17, u14 18, u14 19, u14 20, u14 21, u14 22, u14 23, u14 24, u14 25, u14 26, u14 27, u14 28, u14 29, u14 30, u14 31, u14 32, u14 33, u14 34, u14 35, u14 36, u14 37, u14 38, u14 39, u14 40, Z9], defers := [] } ∧ Mem [] w W9 [] ∧ (k ≤ ps.length) ∧ (Lib.IsBuilder 107 5 w6.heap.size g9 (Lib.byteCells (packL (ps.take k))) W9) ∧ (w6.heap.size ≤ W9.heap.size)) (2 * (ps.length - (0))) ?_ (fun n9 a9 W9 hI => ?_)
 ·
  exact ⟨0, (fun q9 => (#[Z9, Z9, .string (bs ([])), .int .i64 0, Z9, Z9, Z9, Z9, Z9, Z9, Z9, Z9, Z9, Z9, Z9, Z9, Z9, Z9, Z9, Z9, Z9, Z9, Z9, Z9, Z9, Z9, Z9, Z9, Z9, Z9, Z9, Z9, Z9, Z9, Z9, Z9, Z9, Z9, Z9, Z9, Z9] : Array Value).getD q9 Z9), rfl, rfl, M, (Nat.zero_le _), IB, HB9⟩
 clear M
 obtain ⟨k, u14, rfl, rfl, M, hk4, IB, HB9⟩ := hI
 obtain ⟨w15, rfl⟩ : ∃ W8, W8 = W9 := ⟨_, rfl⟩
 refine qS fun _ k16 => ?_
 refine lCh 1 (fun Lk hLk => ?_)
 refine vB (v := .bool (decide (k < ps.length))) (hr := run_lssN k ps.length _ _) ?_
 refine Z19 (hLk _ (fun w18 Sw18 => ?_))
 simp only [Z7, Z8]
 replace M := M.sees Sw18
 replace IB := isB_sees IB Sw18; replace HB9 := Z3 HB9 Sw18.2.2.size
 refine lZ k16 ?_
 refine sk fun _ k19 => ?_
 cases hc20 : (decide (k < ps.length))
 ·
  have ek : k = ps.length := by have := of_decide_eq_false hc20; omega
  subst ek
  refine cF ?_; refine eZ k10 ?_
  refine qS fun _ k21 => ?_
  refine wpL_callM (f := 71) (args := #[.pointer (some ⟨g9, 0, none⟩)]) (R := fun v9 W9 => v9 = .string (bs (packL ps)) ∧ Below w6.heap.size w18 W9) (by rfl) (by rfl) rfl Tryd.func71 (by kernel_rfl) (by kernel_rfl) ((Tryd.Builder_String_any w6.heap.size g9 (packL ps) w18 (by rw [List.take_length] at IB; exact IB) HB9).mono fun e W9 h => ⟨_, h.1, rfl, h.2⟩) (fun v9 w23 h9 => ?_)
  obtain ⟨rfl, hBw⟩ := h9
  replace M := M.belowB hBw hsz hl9
  simp only [Z0, Z6]
  refine lg ?_; refine lg ?_; refine lZ k21 ?_; refine rt2 ?_
  have BE := M.below
  exact ⟨rfl, M.below⟩
 have hk : k < ps.length := of_decide_eq_true hc20
 have hpk := packN_take hk
 have hg9 : (ps.getD k []).length < 18446744073709551616 := by omega
 refine cT ?_; refine sZ k19 ?_
 refine sk fun _ k24 => ?_
 refine wp_block ?_
 refine qS fun _ k25 => ?_
 refine lCh 2 (fun Lk hLk => ?_)
 refine wpV_idxs (n := k) (by rfl) rfl rfl rfl U937 info9 (by omega) ?_
 simp only [Z2]
 simp only [Z0, Z6]
 refine vQ (v := .string (bs (ps.getD k []))) (hc := (zadd ((M.oldR Rg0_0 Lg0) _ _ (scells_get (ps := ps) (by omega))))) (hb := (M.oldL Lg0)) ?_
 refine Z19 (hLk _ (fun w27 Sw27 => ?_))
 simp only [Z7, Z8]
 replace M := M.sees Sw27
 replace IB := isB_sees IB Sw27; replace HB9 := Z3 HB9 Sw27.2.2.size
 refine lg ?_; refine lZ k25 ?_
 refine sk fun _ k28 => ?_
 refine qS fun _ k29 => ?_
 refine lM ?_
 refine lCh 10 (fun Lk hLk => ?_)
 refine wpV_lenS (by rfl) rfl rfl rfl U99 ?_
 simp only [Z0, Z6]
 refine vB (v := .bool false) (hr := fun W => (run_gtrN ((ps.getD k []).length) 65536 _ _ W).trans (by rw [(decide_eq_false (by omega))])) ?_
 refine vM ?_
 refine vCh (v := .int .i64 (packN (ps.take k) : Nat)) (fun W hW => ((Tryd.Builder_Len w6.heap.size g9 _ W (isB_sees IB hW)).mono fun e w' h => ⟨by rw [h.1, Lib.byteCells_length, packL_len], h.2 ▸ Below.refl _ _⟩)) ?_
 refine vB (v := .int .i64 (packN (ps.take k) + 4 : Nat)) (hr := run_add (by simp only [IntKind.wrap_i64]; omega)) ?_
 refine vM ?_
 refine wpV_lenS (by rfl) rfl rfl rfl U99 ?_
 simp only [Z0, Z6]
 refine vB (v := .int .i64 (packN (ps.take k) + 4 + (ps.getD k []).length : Nat)) (hr := run_add (by simp only [IntKind.wrap_i64]; omega)) ?_
 refine vB (v := .bool false) (hr := fun W => (run_gtrN (packN (ps.take k) + 4 + (ps.getD k []).length) 65536 _ _ W).trans (by rw [(decide_eq_false (by omega))])) ?_
 refine vK ?_
 refine Z19 (hLk _ (fun w31 Sw31 => ?_))
 simp only [Z7, Z8]
 replace M := M.sees Sw31
 replace IB := isB_sees IB Sw31; replace HB9 := Z3 HB9 Sw31.2.2.size
 refine lZ k29 ?_; refine cF ?_; refine sZ k28 ?_
 refine qS fun _ k32 => ?_
 refine lM ?_
 refine lCh 6 (fun Lk hLk => ?_)
 refine wpV_lenS (by rfl) rfl rfl rfl U99 ?_
 simp only [Z0, Z6]
 refine wpV_conv (d := .bool) (e := (((ps.getD k []).length : Nat) : Int)) (by rfl) rfl rfl (run_conv_int Tryd.underlying3 U940 ((wrap64N _).trans (congrArg _ (Z5 (by omega))))) ?_
 simp only [Z0, Z6]
 refine vC (v := .tuple #[.string (bs (beL 4 ((ps.getD k []).length))), .int .i64 0]) (fun W => big4_c (n := (ps.getD k []).length) (by omega)) ?_
 refine vM ?_; refine vE ?_; refine vE ?_
 refine Z19 (hLk _ (fun w34 Sw34 => ?_))
 simp only [Z7, Z8]
 replace M := M.sees Sw34
 replace IB := isB_sees IB Sw34; replace HB9 := Z3 HB9 Sw34.2.2.size
 refine lg ?_; refine lg ?_; refine lZ k32 ?_
 refine qS fun _ k35 => ?_
 refine lM ?_
 refine wpL_callM (f := 69) (args := #[.pointer (some ⟨g9, 0, none⟩), .string (bs (beL 4 ((ps.getD k []).length)))]) (R := fun v9 W9 => v9 = .tuple #[.int .i64 (((beL 4 ((ps.getD k []).length)).length : Nat) : Int), .nilIface] ∧ Lib.IsBuilder 107 5 w6.heap.size g9 ((Lib.byteCells (packL (ps.take k))) ++ Lib.byteCells (beL 4 ((ps.getD k []).length))) W9 ∧ Below w6.heap.size w34 W9) (by rfl) (by rfl) rfl Tryd.func69 (by kernel_rfl) (by kernel_rfl) ((writeString_c w6.heap.size g9 _ (bs (beL 4 ((ps.getD k []).length))) w34 IB (by simp only [Lib.byteCells_length, List.length_append, packL_len, beL_len, bs_size]; omega) HB9).mono fun e W9 h => ⟨_, h.1, rfl, .inr h.2.1, h.2.2⟩) (fun v9 w37 h9 => ?_)
 obtain ⟨rfl, IB2, hBw⟩ := h9
 replace IB := IB2; clear IB2
 replace M := M.belowB hBw hsz hl9
 replace HB9 := Z3 HB9 hBw.size
 simp only [Z0, Z6]
 refine lZ k35 ?_; refine Z13 ?_; refine lM ?_
 refine wpL_callM (f := 69) (args := #[.pointer (some ⟨g9, 0, none⟩), .string (bs (ps.getD k []))]) (R := fun v9 W9 => v9 = .tuple #[.int .i64 ((ps.getD k []).length : Nat), .nilIface] ∧ Lib.IsBuilder 107 5 w6.heap.size g9 (((Lib.byteCells (packL (ps.take k))) ++ Lib.byteCells (beL 4 ((ps.getD k []).length))) ++ Lib.byteCells (ps.getD k [])) W9 ∧ Below w6.heap.size w37 W9) (by rfl) (by rfl) rfl Tryd.func69 (by kernel_rfl) (by kernel_rfl) ((writeString_c w6.heap.size g9 _ (bs (ps.getD k [])) w37 IB (by simp only [Lib.byteCells_length, List.length_append, packL_len, beL_len, bs_size]; omega) HB9).mono fun e W9 h => ⟨_, h.1, rfl, .inr h.2.1, h.2.2⟩) (fun v9 w39 h9 => ?_)
 obtain ⟨rfl, IB2, hBw⟩ := h9
 replace IB := IB2; clear IB2
 replace M := M.belowB hBw hsz hl9
 replace HB9 := Z3 HB9 hBw.size
 simp only [Z0, Z6]
 refine lZ k24 ?_; refine Z13 ?_
 refine lCh 1 (fun Lk hLk => ?_)
 refine vB (v := .int .i64 (k + 1 : Nat)) (hr := run_add (by simp only [IntKind.wrap_i64]; omega)) ?_
 refine Z19 (hLk _ (fun w41 Sw41 => ?_))
 simp only [Z7, Z8]
 replace M := M.sees Sw41
 replace IB := isB_sees IB Sw41; replace HB9 := Z3 HB9 Sw41.2.2.size
 refine lM ?_
 refine Z14 (Z15 ?_)
 refine Exists.intro _ ⟨?_, (k + 1), (fun q9 => (#[Z9, Z9, u14 2, u14 3, Z9, Z9, .string (bs (ps.getD k [])), .string (bs (beL 4 ((ps.getD k []).length))), .int .i64 0, Z9, Z9, Z9, Z9, Z9, Z9, .bool true, .pointer (some ⟨g0, k, none⟩), .string (bs (ps.getD k [])), .string (bs (ps.getD k [])), .int .i64 ((ps.getD k []).length : Nat), .bool false, .bool false, .int .i64 (packN (ps.take k) : Nat), .int .i64 (packN (ps.take k) + 4 : Nat), .string (bs (ps.getD k [])), .int .i64 ((ps.getD k []).length : Nat), .int .i64 (packN (ps.take k) + 4 + (ps.getD k []).length : Nat), .bool false, .bool false, .tuple #[.string (bs (beL 4 ((ps.getD k []).length))), .int .i64 0], .string (bs (ps.getD k [])), .int .i64 ((ps.getD k []).length : Nat), .int .u64 ((ps.getD k []).length : Nat), .tuple #[.string (bs (beL 4 ((ps.getD k []).length))), .int .i64 0], .string (bs (beL 4 ((ps.getD k []).length))), .int .i64 0, .string (bs (beL 4 ((ps.getD k []).length))), .tuple #[.int .i64 (((beL 4 ((ps.getD k []).length)).length : Nat) : Int), .nilIface], .string (bs (ps.getD k [])), .tuple #[.int .i64 ((ps.getD k []).length : Nat), .nilIface], .int .i64 (k + 1 : Nat)] : Array Value).getD q9 Z9), rfl, rfl, M, (by omega), (by rw [pack_cells hk] at IB; exact IB), HB9⟩
 omega
end Go.Proofs.Yc

