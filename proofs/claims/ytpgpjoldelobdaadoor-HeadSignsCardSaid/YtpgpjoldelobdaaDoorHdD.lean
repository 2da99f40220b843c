import Derived.WalkKit
import Derived.WalkSpells
import Derived.Laws.Pointers
import Derived.RowKit3
import Derived.Below
import Derived.Outline
import Derived.LoopN
import Derived.Lib.Hide
import Derived.Handy
import Derived.Laws.Bits64b
import Derived.Test.YtpgpjoldelobdaaDoorHdB
import Derived.Test.YtpgpjoldelobdaaDoorF3
import Derived.Test.YtpgpjoldelobdaaDoorShq
set_option linter.unusedSimpArgs false
set_option linter.unusedVariables false
namespace Go.Proofs.Yc
open Go Go.RowKit Go.Proofs.Num
open Tryd renaming underlying29 → U929, underlying3 → U93, underlying37 → U937, underlying40 → U940, underlying5 → U95, underlying9 → U99
open Go.Proofs.Num  renaming putT → Z0
open Nat renaming zero_add → Z2, mod_eq_of_lt → Z5
open List renaming set → Z6, take → Z7, drop → Z8
open Go renaming undef → Z9
open Go.Proofs.Num renaming wp_region_seq → Z13, wpL_nil → Z14, no_panic → Z15, wpV_nil → Z19, then_normal → Z22
attribute [local irreducible] wpV wpN wpList
open Go.Proofs.Ya
theorem beL_succ (i n : Nat) : beL (i + 1) n = [UInt8.ofNat (n / 256 ^ i % 256)] ++ beL i n := by
 unfold beL
 rw [List.range_succ_eq_map, List.map_cons, List.map_map, List.singleton_append]
 congr 1
 ·
  rw [show i + 1 - 1 - 0 = i by omega]
  apply UInt8.toNat_inj.1
  simp
 refine List.map_congr_left fun j hj => ?_
 have := List.mem_range.1 hj
 simp only [Function.comp, Nat.succ_eq_add_one]
 rw [show i + 1 - 1 - (j + 1) = i - 1 - j by omega]
set_option maxHeartbeats 2000000 in
theorem rbig_c {n v : Nat} {w : World} (hn : n < 18446744073709551616) (hv : v ≤ 64) :
  Calls Tryd.prog 72 #[.int .u64 n, .int .i64 v] w fun e w' => e = .returned (.string (bs (beL v n))) ∧ Below w.heap.size w w' := by
 go_enter Tryd.func72, Tryd.ntmps72
 have M := Mem.start w
 refine qS fun _ k1 => ?_
 refine lg ?_; refine lZ k1 ?_
 refine qS fun _ k3 => ?_
 refine lg ?_; refine lZ k3 ?_
 refine sk fun _ k5 => ?_
 refine qS fun _ k6 => ?_
 refine lg ?_; refine lZ k6 ?_; refine wp_block ?_
 refine wp_loop_ghost (fun n9 a9 W9 => ∃ (i : Nat) (m : Nat) (o : List UInt8) (u8 : Nat → Value), n9 = 2 * (v - i) ∧ a9 = { tmps := #[.int .u64 m, .int .i64 v, Z9, Z9, .string (bs ([])), .string (bs o), .int .i64 i, u8 7, u8 8, u8 9, u8 10, u8 11, u8 12, u8 13, u8 14, u8 15, u8 16, u8 17, u8 18, u8 19, u8 20, Z9], defers := [] } ∧ Mem [] w W9 [] ∧ (i ≤ v) ∧ (m = n / 256 ^ i) ∧ (o = beL i n)) (2 * (v - (0))) ?_ (fun n9 a9 W9 hI => ?_)
 ·
  exact ⟨0, n, ([]), (fun q9 => (#[Z9, Z9, Z9, Z9, Z9, Z9, Z9, Z9, Z9, Z9, Z9, Z9, Z9, Z9, Z9, Z9, Z9, Z9, Z9, Z9, Z9] : Array Value).getD q9 Z9), rfl, rfl, M, (Nat.zero_le _), (by rw [Nat.pow_zero, Nat.div_one]), rfl⟩
 clear M
 obtain ⟨i, m, o, u8, rfl, rfl, M, hi4, hm, ho⟩ := hI
 obtain ⟨w9, rfl⟩ : ∃ W8, W8 = W9 := ⟨_, rfl⟩
 refine sk fun _ k10 => ?_
 refine qS fun _ k11 => ?_
 refine lM ?_; refine lM ?_
 refine cM 1 fun Lk hLk => ?_
 refine vB (v := .bool (decide (i < v))) (hr := run_lssN i v _ _) ?_
 refine hLk _ fun w13 M => ?_
 refine lZ k11 ?_
 cases hc14 : (decide (i < v))
 ·
  have ei : v = i := by have := of_decide_eq_false hc14; omega
  subst ei
  refine cF ?_; refine eZ k5 ?_
  refine qS fun _ k15 => ?_
  refine lM ?_; refine lg ?_; refine lZ k15 ?_; refine rt1 ?_
  have BE := M.below
  exact ⟨by (rw [ho]; try rfl), BE⟩
 have hi : i < v := of_decide_eq_true hc14
 have hm9 : m < 18446744073709551616 := by rw [hm]; exact Nat.lt_of_le_of_lt (Nat.div_le_self _ _) hn
 refine cT ?_; refine sZ k10 ?_
 refine sk fun _ k17 => ?_
 refine wp_block ?_
 refine qS fun _ k18 => ?_
 refine lM ?_
 refine cM 2 fun Lk hLk => ?_
 refine vB (v := .int .u64 (m % 256 : Nat)) (hr := nr_rem64 (x := m) (y := 256) (by decide)) ?_
 refine wpV_conv (d := .bool) (e := ((m % 256 : Nat) : Int)) (by rfl) rfl rfl (run_conv_int U940 U95 (by rw [wrap_u8N]; omega)) ?_
 simp only [Z0, Z6]
 refine hLk _ fun w20 M => ?_
 refine wpL_rowN (vs := [.int .u8 (m % 256 : Nat)]) (z := .int .u8 0) (bytes := 1) (by rfl) (by rfl) U929 (by kernel_rfl) (by decide) (by kernel_rfl) (fun g21 w22 Sw22 Hg21 Bg21 => ?_)
 replace M := ((M.sees Sw22).add (N := 1) (cs := [.int .u8 (m % 256 : Nat)]) (M.ge Hg21) (M.fresh Hg21) Bg21 rfl)
 clear Bg21
 simp only [Z0, Z6]
 refine cM 3 fun Lk hLk => ?_
 replace M := M.read1 (cs := bcells [UInt8.ofNat (m % 256)]) 0 rfl (by rw [bcells_one9 (Nat.mod_lt _ (by decide))]; exact (M.r 0 0 rfl rfl))
 simp only [Z6] at M
 refine wpV_b2s (l := [UInt8.ofNat (m % 256)]) (by rfl) rfl rfl rfl U929 U95 U99 (M.r 0 0 rfl rfl) (M.lt 0 rfl) ?_
 simp only [Z0, Z6]
 refine vM ?_
 refine wpV_binS (v := .string (bs (([UInt8.ofNat (m % 256)]) ++ o))) (by rfl) rfl rfl rfl (run_add_bs _ _ _ (by rw [ho, beL_len, List.length_singleton]; omega)) ?_
 simp only [Z0, Z6]
 refine hLk _ fun w23 M => ?_
 refine lg ?_; refine lZ k18 ?_; refine Z13 ?_; refine lM ?_
 refine cM 1 fun Lk hLk => ?_
 refine vB (v := .int .u64 (m / 256 : Nat)) (hr := nr_quo64 (x := m) (y := 256) (by decide) (by omega)) ?_
 refine hLk _ fun w25 M => ?_
 refine lg ?_; refine lZ k17 ?_; refine Z13 ?_; refine lM ?_
 refine cM 1 fun Lk hLk => ?_
 refine vB (v := .int .i64 (i + 1 : Nat)) (hr := run_add (by simp only [IntKind.wrap_i64]; omega)) ?_
 refine hLk _ fun w27 M => ?_
 refine lg ?_
 refine Z14 (Z15 ?_)
 refine Exists.intro _ ⟨?_, (i + 1), (m / 256), ([UInt8.ofNat (m % 256)] ++ o), (fun q9 => (#[Z9, Z9, Z9, Z9, Z9, Z9, Z9, .int .i64 i, .int .i64 v, .bool true, .int .i64 i, .int .i64 (i + 1 : Nat), .int .u64 m, .int .u64 (m % 256 : Nat), .int .u8 (m % 256 : Nat), .slice (some ⟨g21, 0, none⟩) 1 1, .string (bs ([UInt8.ofNat (m % 256)])), .string (bs o), .string (bs (([UInt8.ofNat (m % 256)]) ++ o)), .int .u64 m, .int .u64 (m / 256 : Nat)] : Array Value).getD q9 Z9), rfl, rfl, (M.pick [] (by decide) rfl), (by omega), (by rw [hm, Nat.pow_succ, ← Nat.div_div_eq_div_mul]), (by rw [hm, ho, beL_succ])⟩
 omega
set_option maxHeartbeats 2000000 in
theorem rpack_c {ps : List (List UInt8)} {g0 cg0 : Nat} {w : World} (hq : ps.length ≤ 64) (hp : packN ps ≤ 65536) (hcg0 : ps.length ≤ cg0) (Lg0 : g0 < w.heap.size) (Rg0_0 : w.rangeAt g0 0 (scells ps)) :
  Calls Tryd.prog 64 #[.slice (some ⟨g0, 0, none⟩) ps.length cg0] w fun e w' => e = .returned (.tuple #[.string (bs (packL ps)), .int .i64 0]) ∧ Below w.heap.size w w' := by
 go_enter Tryd.func64, Tryd.ntmps64
 have M := Mem.start w
 refine qS fun _ k1 => ?_
 refine lg ?_; refine lg ?_; refine lZ k1 ?_
 refine sk fun _ k3 => ?_
 refine qS fun _ k4 => ?_
 refine lM ?_
 refine cM 2 fun Lk hLk => ?_
 refine wpV_lenA (n := ps.length) (by rfl) rfl rfl rfl U937 ?_
 simp only [Z0, Z6]
 refine vB (v := .bool false) (hr := fun W => (run_gtrN ps.length 64 _ _ W).trans (by rw [(decide_eq_false (by omega))])) ?_
 refine hLk _ fun w6 M => ?_
 refine lZ k4 ?_; refine cF ?_; refine sZ k3 ?_
 refine qS fun _ k7 => ?_
 refine lg ?_; refine lZ k7 ?_
 refine sk fun _ k9 => ?_
 refine qS fun _ k10 => ?_
 refine lM ?_
 refine cM 1 fun Lk hLk => ?_
 refine wpV_lenA (n := ps.length) (by rfl) rfl rfl rfl U937 ?_
 simp only [Z0, Z6]
 refine hLk _ fun w12 M => ?_
 refine lM ?_; refine lZ k10 ?_; refine wp_block ?_
 refine wp_loop_ghost (fun n9 a9 W9 => ∃ (k : Nat) (o : List UInt8) (u13 : Nat → Value), n9 = 2 * (ps.length - k) ∧ a9 = { tmps := #[.slice (some ⟨g0, 0, none⟩) ps.length cg0, Z9, u13 2, u13 3, .string (bs o), Z9, u13 6, .slice (some ⟨g0, 0, none⟩) ps.length cg0, .int .i64 ps.length, .bool false, .slice (some ⟨g0, 0, none⟩) ps.length cg0, .int .i64 ps.length, .int .i64 k, u13 13, u13 14, u13 15, u13 16, u13 17, u13 18, u13 19, u13 20, u13 21, u13 22, u13 23, u13 24, u13 25, u13 26, u13 27, u13 28, u13 29, u13 30, u13 31, u13 32, u13 33, u13 34, u13 35, u13 36, Z9], defers := [] } ∧ Mem [] w W9 [] ∧ (k ≤ ps.length) ∧ (o = packL (ps.take k))) (2 * (ps.length - (0))) ?_ (fun n9 a9 W9 hI => ?_)
 ·
  exact ⟨0, ([]), (fun q9 => (#[Z9, Z9, .string (bs ([])), .int .i64 0, Z9, Z9, Z9, Z9, Z9, Z9, Z9, Z9, Z9, Z9, Z9, Z9, Z9, Z9, Z9, Z9, Z9, Z9, Z9, Z9, Z9, Z9, Z9, Z9, Z9, Z9, Z9, Z9, Z9, Z9, Z9, Z9, Z9] : Array Value).getD q9 Z9), rfl, rfl, M, (Nat.zero_le _), rfl⟩
 clear M
 obtain ⟨k, o, u13, rfl, rfl, M, hk4, ho⟩ := hI
 obtain ⟨w14, rfl⟩ : ∃ W8, W8 = W9 := ⟨_, rfl⟩
 refine qS fun _ k15 => ?_
 refine cM 1 fun Lk hLk => ?_
 refine vB (v := .bool (decide (k < ps.length))) (hr := run_lssN k ps.length _ _) ?_
 refine hLk _ fun w17 M => ?_
 refine lZ k15 ?_
 refine sk fun _ k18 => ?_
 cases hc19 : (decide (k < ps.length))
 ·
  have ek : k = ps.length := by have := of_decide_eq_false hc19; omega
  subst ek
  refine cF ?_; refine eZ k9 ?_
  refine qS fun _ k20 => ?_
  refine lM ?_; refine lg ?_; refine lg ?_; refine lZ k20 ?_; refine rt2 ?_
  have BE := M.below
  exact ⟨by (rw [ho, List.take_length]; try rfl), BE⟩
 have hk : k < ps.length := of_decide_eq_true hc19
 have hpk := packN_take hk
 have hol : o.length = packN (ps.take k) := by rw [ho, packL_len]
 have hg9 : (ps.getD k []).length < 18446744073709551616 := by omega
 refine cT ?_; refine sZ k18 ?_
 refine sk fun _ k22 => ?_
 refine wp_block ?_
 refine qS fun _ k23 => ?_
 refine cM 2 fun Lk hLk => ?_
 refine wpV_idxs (n := k) (by rfl) rfl rfl rfl U937 info9 (by omega) ?_
 simp only [Z2]
 simp only [Z0, Z6]
 refine vQ (v := .string (bs (ps.getD k []))) (hc := (zadd ((M.oldR Rg0_0 Lg0) _ _ (scells_get (ps := ps) (by omega))))) (hb := (M.oldL Lg0)) ?_
 refine hLk _ fun w25 M => ?_
 refine lg ?_; refine lZ k23 ?_
 refine sk fun _ k26 => ?_
 refine qS fun _ k27 => ?_
 refine lM ?_
 refine cM 11 fun Lk hLk => ?_
 refine wpV_lenS (by rfl) rfl rfl rfl U99 ?_
 simp only [Z0, Z6]
 refine vB (v := .bool false) (hr := fun W => (run_gtrN ((ps.getD k []).length) 65536 _ _ W).trans (by rw [(decide_eq_false (by omega))])) ?_
 refine vM ?_; refine vM ?_
 refine wpV_lenS (by rfl) rfl rfl rfl U99 ?_
 simp only [Z0, Z6]
 refine vB (v := .int .i64 (o.length + 4 : Nat)) (hr := run_add (by simp only [IntKind.wrap_i64]; omega)) ?_
 refine vM ?_
 refine wpV_lenS (by rfl) rfl rfl rfl U99 ?_
 simp only [Z0, Z6]
 refine vB (v := .int .i64 (o.length + 4 + (ps.getD k []).length : Nat)) (hr := run_add (by simp only [IntKind.wrap_i64]; omega)) ?_
 refine vB (v := .bool false) (hr := fun W => (run_gtrN (o.length + 4 + (ps.getD k []).length) 65536 _ _ W).trans (by rw [(decide_eq_false (by omega))])) ?_
 refine vK ?_
 refine hLk _ fun w29 M => ?_
 refine lZ k27 ?_; refine cF ?_; refine sZ k26 ?_; refine Z13 ?_; refine lM ?_; refine lM ?_
 refine cM 6 fun Lk hLk => ?_
 refine wpV_lenS (by rfl) rfl rfl rfl U99 ?_
 simp only [Z0, Z6]
 refine wpV_conv (d := .bool) (e := (((ps.getD k []).length : Nat) : Int)) (by rfl) rfl rfl (run_conv_int U93 U940 ((wrap64N _).trans (congrArg _ (Z5 (by omega))))) ?_
 simp only [Z0, Z6]
 refine vC (v := .string (bs (beL 4 ((ps.getD k []).length)))) (args := #[.int .u64 ((ps.getD k []).length : Nat), .int .i64 4]) (fun W => (by have h9 := rbig_c (n := (ps.getD k []).length) (v := 4) (w := W) (by omega) (by decide); exact h9)) ?_
 refine wpV_binS (v := .string (bs (o ++ (beL 4 ((ps.getD k []).length))))) (by rfl) rfl rfl rfl (run_add_bs _ _ _ (by simp only [List.length_append, beL_len]; omega)) ?_
 simp only [Z0, Z6]
 refine vM ?_
 refine wpV_binS (v := .string (bs ((o ++ (beL 4 ((ps.getD k []).length))) ++ (ps.getD k [])))) (by rfl) rfl rfl rfl (run_add_bs _ _ _ (by simp only [List.length_append, beL_len]; omega)) ?_
 simp only [Z0, Z6]
 refine hLk _ fun w31 M => ?_
 refine lg ?_; refine lZ k22 ?_; refine Z13 ?_
 refine cM 1 fun Lk hLk => ?_
 refine vB (v := .int .i64 (k + 1 : Nat)) (hr := run_add (by simp only [IntKind.wrap_i64]; omega)) ?_
 refine hLk _ fun w33 M => ?_
 refine lM ?_
 refine Z14 (Z15 ?_)
 refine Exists.intro _ ⟨?_, (k + 1), ((o ++ beL 4 (ps.getD k []).length) ++ (ps.getD k [])), (fun q9 => (#[Z9, Z9, u13 2, u13 3, Z9, Z9, .string (bs (ps.getD k [])), Z9, Z9, Z9, Z9, Z9, Z9, .bool true, .pointer (some ⟨g0, k, none⟩), .string (bs (ps.getD k [])), .string (bs (ps.getD k [])), .int .i64 ((ps.getD k []).length : Nat), .bool false, .bool false, .string (bs o), .int .i64 o.length, .int .i64 (o.length + 4 : Nat), .string (bs (ps.getD k [])), .int .i64 ((ps.getD k []).length : Nat), .int .i64 (o.length + 4 + (ps.getD k []).length : Nat), .bool false, .bool false, .string (bs o), .string (bs (ps.getD k [])), .int .i64 ((ps.getD k []).length : Nat), .int .u64 ((ps.getD k []).length : Nat), .string (bs (beL 4 ((ps.getD k []).length))), .string (bs (o ++ (beL 4 ((ps.getD k []).length)))), .string (bs (ps.getD k [])), .string (bs ((o ++ (beL 4 ((ps.getD k []).length))) ++ (ps.getD k []))), .int .i64 (k + 1 : Nat)] : Array Value).getD q9 Z9), rfl, rfl, M, (by omega), (by rw [ho, packL_take hk])⟩
 omega
set_option maxHeartbeats 2000000 in
theorem rsigned_c {a b : Nat} {r g : List UInt8} {w : World} (ha : a ≤ 4096) (hb : b ≤ 1099511627776) (hr : r.length = 32) :
  Calls Tryd.prog 32 #[.agg ([.int .i64 a, .string (bs r), .int .i64 b, .string (bs g)]).toArray] w fun e w' => e = .returned (.string (bs (sgnL a b r))) ∧ Below w.heap.size w w' := by
 go_enter Tryd.func32, Tryd.ntmps32
 have M := Mem.start w
 refine qS fun _ k1 => ?_
 refine nVs (segs := [(0, [.int .i64 a]), (1, [.string (bs r)]), (2, [.int .i64 b]), (3, [.string (bs g)])]) 4 fun g3 w4 M => ?_
 refine lg ?_; refine lZ k1 ?_
 refine sk fun _ k5 => ?_
 refine wp_region_addsF 15 [14] [10] [ValRel (.pointer (some ⟨g3, 0, none⟩)), ValRel (.int .i64 a), ValRel (.int .u64 a), ValRel (.string (bs (beL 8 a))), ValRel (.pointer (some ⟨g3, 2, none⟩)), ValRel (.int .i64 b), ValRel (.int .u64 b), ValRel (.string (bs (beL 8 b))), ValRel (.pointer (some ⟨g3, 1, none⟩)), ValRel (.string (bs r)), BoxRel w4 (fun gA => .slice (some ⟨gA, 0, none⟩) 4 4) 4 [(0, [.string (bs headL), .string (bs (beL 8 a)), .string (bs (beL 8 b)), .string (bs r)])], ValRel (.tuple #[.string (bs (sgnL a b r)), .int .i64 0]), ValRel (.tuple #[.string (bs (sgnL a b r)), .int .i64 0]), ValRel (.string (bs (sgnL a b r))), ValRel (.int .i64 0)] [[], [0], [1], [2], [], [4], [5], [6], [], [8], [3, 7, 9], [10], [11], [12], [12]] (fun vs => { tmps := #[.agg ([.int .i64 a, .string (bs r), .int .i64 b, .string (bs g)]).toArray, .pointer (some ⟨g3, 0, none⟩), .string (bs ([])), Z9, Z9, vs 12, vs 0, vs 1, vs 2, vs 3, vs 4, vs 5, vs 6, vs 7, vs 8, vs 9, vs 10, vs 11, vs 13, vs 14, Z9], defers := [] }) (by kernel_rfl) (by kernel_rfl) (by kernel_rfl) (by kernel_rfl) (.cons keep_val (.cons keep_val (.cons keep_val (.cons keep_val (.cons keep_val (.cons keep_val (.cons keep_val (.cons keep_val (.cons keep_val (.cons keep_val (.cons keep_box (.cons keep_val (.cons keep_val (.cons keep_val (.cons keep_val AllKeep.nil))))))))))))))) (.free free_val (.free free_val (.free free_val (.free free_val (.free free_val (.free free_val (.free free_val (.free free_val (.free free_val (.free free_val (.free free_box (.free free_val (.free free_val (.free free_val (.free free_val AllLoc.nil))))))))))))))) (.cons own_box AllOwn.nil) (by kernel_rfl) ?_ ?_
 ·
  simp only [Z7]
  refine RulesL.cons (fun vs => { tmps := #[.agg ([.int .i64 a, .string (bs r), .int .i64 b, .string (bs g)]).toArray, .pointer (some ⟨g3, 0, none⟩), .string (bs ([])), Z9, Z9, Z9, Z9, Z9, Z9, Z9, Z9, Z9, Z9, Z9, Z9, Z9, Z9, Z9, Z9, Z9, Z9], defers := [] }) (by kernel_rfl) ?_ ?_
  ·
   intro vs gs W8 SW8 D K9 k9
   replace M := M.sees SW8
   dsimp only at k9
   try dsimp only
   refine lCh 1 (fun Lk hLk => ?_)
   refine vF ?_
   refine Z19 (hLk _ (fun w9 Sw9 => ?_))
   simp only [Z7, Z8]
   replace M := M.sees Sw9
   refine Z14 (Z22 ?_)
   have h8 := k9 (.pointer (some ⟨g3, 0, none⟩))
   have h9 := h8 0 _ Sw9 rfl (fun h => absurd h (by decide))
   simp only [Z0, Z6] at h9
   exact h9
  refine RulesL.cons (fun vs => { tmps := #[.agg ([.int .i64 a, .string (bs r), .int .i64 b, .string (bs g)]).toArray, .pointer (some ⟨g3, 0, none⟩), .string (bs ([])), Z9, Z9, Z9, vs 0, Z9, Z9, Z9, Z9, Z9, Z9, Z9, Z9, Z9, Z9, Z9, Z9, Z9, Z9], defers := [] }) (by kernel_rfl) ?_ ?_
  ·
   intro vs gs W10 SW10 D K9 k9
   replace M := M.sees SW10
   obtain ⟨D0, _⟩ := D
   have e0 : vs 0 = .pointer (some ⟨g3, 0, none⟩) := D0
   dsimp only at k9
   try dsimp only
   rw [e0] at k9 ⊢
   refine lCh 1 (fun Lk hLk => ?_)
   refine vc ?_
   refine Z19 (hLk _ (fun w11 Sw11 => ?_))
   simp only [Z7, Z8]
   replace M := M.sees Sw11
   refine Z14 (Z22 ?_)
   have h8 := k9 (.int .i64 a)
   have h9 := h8 0 _ Sw11 rfl (fun h => absurd h (by decide))
   simp only [Z0, Z6] at h9
   exact h9
  refine RulesL.cons (fun vs => { tmps := #[.agg ([.int .i64 a, .string (bs r), .int .i64 b, .string (bs g)]).toArray, .pointer (some ⟨g3, 0, none⟩), .string (bs ([])), Z9, Z9, Z9, Z9, vs 1, Z9, Z9, Z9, Z9, Z9, Z9, Z9, Z9, Z9, Z9, Z9, Z9, Z9], defers := [] }) (by kernel_rfl) ?_ ?_
  ·
   intro vs gs W12 SW12 D K9 k9
   replace M := M.sees SW12
   obtain ⟨D1, _⟩ := D
   have e1 : vs 1 = .int .i64 a := D1
   dsimp only at k9
   try dsimp only
   rw [e1] at k9 ⊢
   refine lCh 1 (fun Lk hLk => ?_)
   refine wpV_conv (d := .bool) (e := ((a : Nat) : Int)) (by rfl) rfl rfl (run_conv_int U93 U940 ((wrap64N _).trans (congrArg _ (Z5 (by omega))))) ?_
   simp only [Z0, Z6]
   refine Z19 (hLk _ (fun w13 Sw13 => ?_))
   simp only [Z7, Z8]
   replace M := M.sees Sw13
   refine Z14 (Z22 ?_)
   have h8 := k9 (.int .u64 a)
   have h9 := h8 0 _ Sw13 rfl (fun h => absurd h (by decide))
   simp only [Z0, Z6] at h9
   exact h9
  refine RulesL.cons (fun vs => { tmps := #[.agg ([.int .i64 a, .string (bs r), .int .i64 b, .string (bs g)]).toArray, .pointer (some ⟨g3, 0, none⟩), .string (bs ([])), Z9, Z9, Z9, Z9, Z9, vs 2, Z9, Z9, Z9, Z9, Z9, Z9, Z9, Z9, Z9, Z9, Z9, Z9], defers := [] }) (by kernel_rfl) ?_ ?_
  ·
   intro vs gs W14 SW14 D K9 k9
   replace M := M.sees SW14
   obtain ⟨D2, _⟩ := D
   have e2 : vs 2 = .int .u64 a := D2
   dsimp only at k9
   try dsimp only
   rw [e2] at k9 ⊢
   refine lCh 1 (fun Lk hLk => ?_)
   refine vC (v := .string (bs (beL 8 a))) (args := #[.int .u64 a, .int .i64 8]) (fun W => (by have h9 := rbig_c (n := a) (v := 8) (w := W) (by omega) (by decide); exact h9)) ?_
   refine Z19 (hLk _ (fun w15 Sw15 => ?_))
   simp only [Z7, Z8]
   replace M := M.sees Sw15
   refine Z14 (Z22 ?_)
   have h8 := k9 (.string (bs (beL 8 a)))
   have h9 := h8 0 _ Sw15 rfl (fun h => absurd h (by decide))
   simp only [Z0, Z6] at h9
   exact h9
  refine RulesL.cons (fun vs => { tmps := #[.agg ([.int .i64 a, .string (bs r), .int .i64 b, .string (bs g)]).toArray, .pointer (some ⟨g3, 0, none⟩), .string (bs ([])), Z9, Z9, Z9, Z9, Z9, Z9, Z9, Z9, Z9, Z9, Z9, Z9, Z9, Z9, Z9, Z9, Z9, Z9], defers := [] }) (by kernel_rfl) ?_ ?_
  ·
   intro vs gs W16 SW16 D K9 k9
   replace M := M.sees SW16
   dsimp only at k9
   try dsimp only
   refine lCh 1 (fun Lk hLk => ?_)
   refine vF ?_
   refine Z19 (hLk _ (fun w17 Sw17 => ?_))
   simp only [Z7, Z8]
   replace M := M.sees Sw17
   refine Z14 (Z22 ?_)
   have h8 := k9 (.pointer (some ⟨g3, 2, none⟩))
   have h9 := h8 0 _ Sw17 rfl (fun h => absurd h (by decide))
   simp only [Z0, Z6] at h9
   exact h9
  refine RulesL.cons (fun vs => { tmps := #[.agg ([.int .i64 a, .string (bs r), .int .i64 b, .string (bs g)]).toArray, .pointer (some ⟨g3, 0, none⟩), .string (bs ([])), Z9, Z9, Z9, Z9, Z9, Z9, Z9, vs 4, Z9, Z9, Z9, Z9, Z9, Z9, Z9, Z9, Z9, Z9], defers := [] }) (by kernel_rfl) ?_ ?_
  ·
   intro vs gs W18 SW18 D K9 k9
   replace M := M.sees SW18
   obtain ⟨D4, _⟩ := D
   have e4 : vs 4 = .pointer (some ⟨g3, 2, none⟩) := D4
   dsimp only at k9
   try dsimp only
   rw [e4] at k9 ⊢
   refine lCh 1 (fun Lk hLk => ?_)
   refine vc ?_
   refine Z19 (hLk _ (fun w19 Sw19 => ?_))
   simp only [Z7, Z8]
   replace M := M.sees Sw19
   refine Z14 (Z22 ?_)
   have h8 := k9 (.int .i64 b)
   have h9 := h8 0 _ Sw19 rfl (fun h => absurd h (by decide))
   simp only [Z0, Z6] at h9
   exact h9
  refine RulesL.cons (fun vs => { tmps := #[.agg ([.int .i64 a, .string (bs r), .int .i64 b, .string (bs g)]).toArray, .pointer (some ⟨g3, 0, none⟩), .string (bs ([])), Z9, Z9, Z9, Z9, Z9, Z9, Z9, Z9, vs 5, Z9, Z9, Z9, Z9, Z9, Z9, Z9, Z9, Z9], defers := [] }) (by kernel_rfl) ?_ ?_
  ·
   intro vs gs W20 SW20 D K9 k9
   replace M := M.sees SW20
   obtain ⟨D5, _⟩ := D
   have e5 : vs 5 = .int .i64 b := D5
   dsimp only at k9
   try dsimp only
   rw [e5] at k9 ⊢
   refine lCh 1 (fun Lk hLk => ?_)
   refine wpV_conv (d := .bool) (e := ((b : Nat) : Int)) (by rfl) rfl rfl (run_conv_int U93 U940 ((wrap64N _).trans (congrArg _ (Z5 (by omega))))) ?_
   simp only [Z0, Z6]
   refine Z19 (hLk _ (fun w21 Sw21 => ?_))
   simp only [Z7, Z8]
   replace M := M.sees Sw21
   refine Z14 (Z22 ?_)
   have h8 := k9 (.int .u64 b)
   have h9 := h8 0 _ Sw21 rfl (fun h => absurd h (by decide))
   simp only [Z0, Z6] at h9
   exact h9
  refine RulesL.cons (fun vs => { tmps := #[.agg ([.int .i64 a, .string (bs r), .int .i64 b, .string (bs g)]).toArray, .pointer (some ⟨g3, 0, none⟩), .string (bs ([])), Z9, Z9, Z9, Z9, Z9, Z9, Z9, Z9, Z9, vs 6, Z9, Z9, Z9, Z9, Z9, Z9, Z9, Z9], defers := [] }) (by kernel_rfl) ?_ ?_
  ·
   intro vs gs W22 SW22 D K9 k9
   replace M := M.sees SW22
   obtain ⟨D6, _⟩ := D
   have e6 : vs 6 = .int .u64 b := D6
   dsimp only at k9
   try dsimp only
   rw [e6] at k9 ⊢
   refine lCh 1 (fun Lk hLk => ?_)
   refine vC (v := .string (bs (beL 8 b))) (args := #[.int .u64 b, .int .i64 8]) (fun W => (by have h9 := rbig_c (n := b) (v := 8) (w := W) (by omega) (by decide); exact h9)) ?_
   refine Z19 (hLk _ (fun w23 Sw23 => ?_))
   simp only [Z7, Z8]
   replace M := M.sees Sw23
   refine Z14 (Z22 ?_)
   have h8 := k9 (.string (bs (beL 8 b)))
   have h9 := h8 0 _ Sw23 rfl (fun h => absurd h (by decide))
   simp only [Z0, Z6] at h9
   exact h9
  refine RulesL.cons (fun vs => { tmps := #[.agg ([.int .i64 a, .string (bs r), .int .i64 b, .string (bs g)]).toArray, .pointer (some ⟨g3, 0, none⟩), .string (bs ([])), Z9, Z9, Z9, Z9, Z9, Z9, Z9, Z9, Z9, Z9, Z9, Z9, Z9, Z9, Z9, Z9, Z9, Z9], defers := [] }) (by kernel_rfl) ?_ ?_
  ·
   intro vs gs W24 SW24 D K9 k9
   replace M := M.sees SW24
   dsimp only at k9
   try dsimp only
   refine lCh 1 (fun Lk hLk => ?_)
   refine vF ?_
   refine Z19 (hLk _ (fun w25 Sw25 => ?_))
   simp only [Z7, Z8]
   replace M := M.sees Sw25
   refine Z14 (Z22 ?_)
   have h8 := k9 (.pointer (some ⟨g3, 1, none⟩))
   have h9 := h8 0 _ Sw25 rfl (fun h => absurd h (by decide))
   simp only [Z0, Z6] at h9
   exact h9
  refine RulesL.cons (fun vs => { tmps := #[.agg ([.int .i64 a, .string (bs r), .int .i64 b, .string (bs g)]).toArray, .pointer (some ⟨g3, 0, none⟩), .string (bs ([])), Z9, Z9, Z9, Z9, Z9, Z9, Z9, Z9, Z9, Z9, Z9, vs 8, Z9, Z9, Z9, Z9, Z9, Z9], defers := [] }) (by kernel_rfl) ?_ ?_
  ·
   intro vs gs W26 SW26 D K9 k9
   replace M := M.sees SW26
   obtain ⟨D8, _⟩ := D
   have e8 : vs 8 = .pointer (some ⟨g3, 1, none⟩) := D8
   dsimp only at k9
   try dsimp only
   rw [e8] at k9 ⊢
   refine lCh 1 (fun Lk hLk => ?_)
   refine vc ?_
   refine Z19 (hLk _ (fun w27 Sw27 => ?_))
   simp only [Z7, Z8]
   replace M := M.sees Sw27
   refine Z14 (Z22 ?_)
   have h8 := k9 (.string (bs r))
   have h9 := h8 0 _ Sw27 rfl (fun h => absurd h (by decide))
   simp only [Z0, Z6] at h9
   exact h9
  refine RulesL.cons (fun vs => { tmps := #[.agg ([.int .i64 a, .string (bs r), .int .i64 b, .string (bs g)]).toArray, .pointer (some ⟨g3, 0, none⟩), .string (bs ([])), Z9, Z9, Z9, Z9, Z9, Z9, vs 3, Z9, Z9, Z9, vs 7, Z9, vs 9, Z9, Z9, Z9, Z9, Z9], defers := [] }) (by kernel_rfl) ?_ ?_
  ·
   intro vs gs W28 SW28 D K9 k9
   replace M := M.sees SW28
   have Rg3_0 := M.r 0 0 rfl rfl
   have Rg3_1 := M.r 0 1 rfl rfl
   have Rg3_2 := M.r 0 2 rfl rfl
   have Rg3_3 := M.r 0 3 rfl rfl
   have Lg3 := M.lt 0 rfl
   have BB := M.below
   replace M := Mem.start W28
   obtain ⟨D3, D7, D9, _⟩ := D
   have e3 : vs 3 = .string (bs (beL 8 a)) := D3
   have e7 : vs 7 = .string (bs (beL 8 b)) := D7
   have e9 : vs 9 = .string (bs r) := D9
   dsimp only at k9
   try dsimp only
   rw [e3, e7, e9] at k9 ⊢
   refine wpL_rowN (vs := [.string (bs headL), .string (bs (beL 8 a)), .string (bs (beL 8 b)), .string (bs r)]) (z := .string { data := #[] }) (bytes := 16) (by rfl) (by rfl) U937 (by kernel_rfl) (by decide) (by kernel_rfl) (fun g29 w30 Sw30 Hg29 Bg29 => ?_)
   replace M := ((M.sees Sw30).add (N := 4) (cs := [.string (bs headL), .string (bs (beL 8 a)), .string (bs (beL 8 b)), .string (bs r)]) (M.ge Hg29) (M.fresh Hg29) Bg29 rfl)
   clear Bg29
   simp only [Z0, Z6]
   refine Z14 (Z22 ?_)
   have h8 := k9 (.slice (some ⟨g29, 0, none⟩) 4 4)
   have h9 := h8 g29 _ M.seesAll ⟨rfl, (M.ok _ (.head _)).up SW28⟩ (fun _ => (M.ok _ (.head _)).ge)
   simp only [Z0, Z6] at h9
   exact h9
  refine RulesL.cons (fun vs => { tmps := #[.agg ([.int .i64 a, .string (bs r), .int .i64 b, .string (bs g)]).toArray, .pointer (some ⟨g3, 0, none⟩), .string (bs ([])), Z9, Z9, Z9, Z9, Z9, Z9, Z9, Z9, Z9, Z9, Z9, Z9, Z9, vs 10, Z9, Z9, Z9, Z9], defers := [] }) (by kernel_rfl) ?_ ?_
  ·
   intro vs gs W31 SW31 D K9 k9
   replace M := M.sees SW31
   have Rg3_0 := M.r 0 0 rfl rfl
   have Rg3_1 := M.r 0 1 rfl rfl
   have Rg3_2 := M.r 0 2 rfl rfl
   have Rg3_3 := M.r 0 3 rfl rfl
   have Lg3 := M.lt 0 rfl
   have BB := M.below
   replace M := Mem.start W31
   obtain ⟨D10, _⟩ := D
   obtain ⟨e10, Og32⟩ := D10
   generalize gs 10 = g32 at *
   replace e10 : vs 10 = .slice (some ⟨g32, 0, none⟩) 4 4 := e10
   have Rg32_0 := Og32.range (0, [.string (bs headL), .string (bs (beL 8 a)), .string (bs (beL 8 b)), .string (bs r)]) (by simp only [List.mem_cons, true_or, or_true])
   have Lg32 := Og32.lt
   dsimp only at k9
   try dsimp only
   rw [e10] at k9 ⊢
   refine cM 1 fun Lk hLk => ?_
   refine vCh (v := .tuple #[.string (bs (sgnL a b r)), .int .i64 0]) (args := #[.slice (some ⟨g32, 0, none⟩) 4 4]) (fun W hW => (by have h9 := rpack_c (ps := [headL, beL 8 a, beL 8 b, r]) (w := W) (by simp) (by rw [packN_sgn a b hr]; decide) (Nat.le_refl _) ((M.sees hW).oldL Lg32) ((M.sees hW).oldR Rg32_0 Lg32); exact h9)) ?_
   refine hLk _ fun w33 M => ?_
   refine Z14 (Z22 ?_)
   have h8 := k9 (.tuple #[.string (bs (sgnL a b r)), .int .i64 0])
   have h9 := h8 0 _ M.seesAll rfl (fun h => absurd h (by decide))
   simp only [Z0, Z6] at h9
   exact h9
  refine RulesL.cons (fun vs => { tmps := #[.agg ([.int .i64 a, .string (bs r), .int .i64 b, .string (bs g)]).toArray, .pointer (some ⟨g3, 0, none⟩), .string (bs ([])), Z9, Z9, Z9, Z9, Z9, Z9, Z9, Z9, Z9, Z9, Z9, Z9, Z9, Z9, vs 11, Z9, Z9, Z9], defers := [] }) (by kernel_rfl) ?_ ?_
  ·
   intro vs gs W34 SW34 D K9 k9
   replace M := M.sees SW34
   obtain ⟨D11, _⟩ := D
   have e11 : vs 11 = .tuple #[.string (bs (sgnL a b r)), .int .i64 0] := D11
   dsimp only at k9
   try dsimp only
   rw [e11] at k9 ⊢
   refine lM ?_
   refine Z14 (Z22 ?_)
   have h8 := k9 (.tuple #[.string (bs (sgnL a b r)), .int .i64 0])
   have h9 := h8 0 _ (sees_refl _) rfl (fun h => absurd h (by decide))
   simp only [Z0, Z6] at h9
   exact h9
  refine RulesL.cons (fun vs => { tmps := #[.agg ([.int .i64 a, .string (bs r), .int .i64 b, .string (bs g)]).toArray, .pointer (some ⟨g3, 0, none⟩), .string (bs ([])), Z9, Z9, vs 12, Z9, Z9, Z9, Z9, Z9, Z9, Z9, Z9, Z9, Z9, Z9, Z9, Z9, Z9, Z9], defers := [] }) (by kernel_rfl) ?_ ?_
  ·
   intro vs gs W35 SW35 D K9 k9
   replace M := M.sees SW35
   obtain ⟨D12, _⟩ := D
   have e12 : vs 12 = .tuple #[.string (bs (sgnL a b r)), .int .i64 0] := D12
   dsimp only at k9
   try dsimp only
   rw [e12] at k9 ⊢
   refine lCh 1 (fun Lk hLk => ?_)
   refine vE ?_
   refine Z19 (hLk _ (fun w36 Sw36 => ?_))
   simp only [Z7, Z8]
   replace M := M.sees Sw36
   refine Z14 (Z22 ?_)
   have h8 := k9 (.string (bs (sgnL a b r)))
   have h9 := h8 0 _ Sw36 rfl (fun h => absurd h (by decide))
   simp only [Z0, Z6] at h9
   exact h9
  refine RulesL.cons (fun vs => { tmps := #[.agg ([.int .i64 a, .string (bs r), .int .i64 b, .string (bs g)]).toArray, .pointer (some ⟨g3, 0, none⟩), .string (bs ([])), Z9, Z9, vs 12, Z9, Z9, Z9, Z9, Z9, Z9, Z9, Z9, Z9, Z9, Z9, Z9, Z9, Z9, Z9], defers := [] }) (by kernel_rfl) ?_ ?_
  ·
   intro vs gs W37 SW37 D K9 k9
   replace M := M.sees SW37
   obtain ⟨D12, _⟩ := D
   have e12 : vs 12 = .tuple #[.string (bs (sgnL a b r)), .int .i64 0] := D12
   dsimp only at k9
   try dsimp only
   rw [e12] at k9 ⊢
   refine lCh 1 (fun Lk hLk => ?_)
   refine vE ?_
   refine Z19 (hLk _ (fun w38 Sw38 => ?_))
   simp only [Z7, Z8]
   replace M := M.sees Sw38
   refine Z14 (Z22 ?_)
   have h8 := k9 (.int .i64 0)
   have h9 := h8 0 _ Sw38 rfl (fun h => absurd h (by decide))
   simp only [Z0, Z6] at h9
   exact h9
  exact RulesL.nil
 intro vs gs W39 SW39 D A9
 obtain ⟨D0, D1, D2, D3, D4, D5, D6, D7, D8, D9, D10, D11, D12, D13, D14, _⟩ := (show DepRel _ vs gs W39 [0, 1, 2, 3, 4, 5, 6, 7, 8, 9, 10, 11, 12, 13, 14] from D)
 clear A9 D
 have e0 : vs 0 = .pointer (some ⟨g3, 0, none⟩) := D0
 have e1 : vs 1 = .int .i64 a := D1
 have e2 : vs 2 = .int .u64 a := D2
 have e3 : vs 3 = .string (bs (beL 8 a)) := D3
 have e4 : vs 4 = .pointer (some ⟨g3, 2, none⟩) := D4
 have e5 : vs 5 = .int .i64 b := D5
 have e6 : vs 6 = .int .u64 b := D6
 have e7 : vs 7 = .string (bs (beL 8 b)) := D7
 have e8 : vs 8 = .pointer (some ⟨g3, 1, none⟩) := D8
 have e9 : vs 9 = .string (bs r) := D9
 obtain ⟨e10, Og40⟩ := D10
 generalize gs 10 = g40 at *
 replace e10 : vs 10 = .slice (some ⟨g40, 0, none⟩) 4 4 := e10
 have e11 : vs 11 = .tuple #[.string (bs (sgnL a b r)), .int .i64 0] := D11
 have e12 : vs 12 = .tuple #[.string (bs (sgnL a b r)), .int .i64 0] := D12
 have e13 : vs 13 = .string (bs (sgnL a b r)) := D13
 have e14 : vs 14 = .int .i64 0 := D14
 replace M := M.addOks SW39 [⟨g40, 4, [(0, [.string (bs headL), .string (bs (beL 8 a)), .string (bs (beL 8 b)), .string (bs r)])]⟩] (List.forall_mem_cons.2 ⟨Og40, (fun _ h => nomatch h)⟩) (.cons (fun _ h => nomatch h) .nil)
 simp only [List.cons_append, List.nil_append] at M
 try dsimp only
 simp only [e0, e1, e2, e3, e4, e5, e6, e7, e8, e9, e10, e11, e12, e13, e14, Z8]
 refine lg ?_; refine lg ?_; refine lZ k5 ?_
 refine qS fun _ k41 => ?_
 refine lM ?_; refine lg ?_; refine lZ k41 ?_; refine rt1 ?_
 exact ⟨rfl, M.below⟩
end Go.Proofs.Yc

namespace Go.Proofs.Yc
open Go Go.RowKit Go.Proofs.Num
open Tryd renaming func7 → G97, ntmps7 → T97, underlying29 → U929, underlying3 → U93, underlying33 → U933, underlying5 → U95, underlying9 → U99
open Go.Proofs.Num  renaming putT → Z0
open List renaming set → Z6
open Go.Proofs.Num renaming no_panic → Z15
attribute [local irreducible] wpV wpN wpList
open Go.Proofs.Ya
theorem hSign_bad {l r : List UInt8} {z t : Int} {w : World} (h : l.length ≠ 32) : Calls Tryd.prog 31 #[.string (bs l), .int .i64 z, .string (bs r), .int .i64 t] w fun e w' => e = .returned (.tuple #[.agg ([.int .i64 0, .string (bs ([])), .int .i64 0, .string (bs ([]))]).toArray, .int .i64 1]) ∧ Below w.heap.size w w' := by
 cases h0 : rightH z r t (List.replicate 64 0)
 ·
  have h9 := hSign_no (w := w) (l := l) h0
  exact h9
 obtain ⟨a, b, rfl, rfl, ha, hb, hr, -⟩ := rightH_parts h0
 have h9 := hSign_len (w := w) (l := l) ha hb hr h
 exact h9
set_option maxRecDepth 100000 in
set_option maxHeartbeats 4000000 in
theorem signs_len {z t : Int} {l r ll rr : List UInt8} {w : World} (hll : cut l 40 = ll) (hrr : cut r 40 = rr) (hl : ll.length ≠ 32) (L1 : 1 < w.heap.size) (R1_0 : w.rangeAt 1 0 kcells) (L2 : 2 < w.heap.size) (R2_0 : w.rangeAt 2 0 kcellsq) :
  Calls Tryd.prog 7 #[.string (bs l), .int .i64 z, .string (bs r), .int .i64 t] w fun e w' => e = .returned (.bool true) ∧ Below w.heap.size w w' := by
 go_enter G97, T97
 have M := Mem.start w
 refine qS fun _ k1 => ?_
 refine lg ?_; refine lZ k1 ?_
 refine sk fun _ k3 => ?_
 refine wp_region_treeN (by kernel_rfl) (fun w5 Sw5 => ?_)
 replace M := M.sees Sw5
 refine aF 0 (v := .string (bs l)) (hv := by exact yl_move rfl rfl) ?_
 simp only [Z0, Z6]
 refine aF 1 (v := .string (bs l)) (hv := by exact yl_move rfl rfl) ?_
 simp only [Z0, Z6]
 refine aF 2 (v := .int .i64 l.length) (hv := by exact yl_lenS rfl rfl rfl U99) ?_
 simp only [Z0, Z6]
 refine aF 3 (v := .int .i64 (min l.length 40 : Nat)) (hv := by exact yl_min (n := l.length) (m := 40) rfl rfl rfl) ?_
 simp only [Z0, Z6]
 refine aF 4 (v := .string (bs (cut l 40))) (hv := by exact yl_cut (l := l) (m := 40) rfl rfl rfl U99) ?_
 simp only [Z0, Z6]
 refine aF 5 (v := .string (bs r)) (hv := by exact yl_move rfl rfl) ?_
 simp only [Z0, Z6]
 refine aF 6 (v := .string (bs r)) (hv := by exact yl_move rfl rfl) ?_
 simp only [Z0, Z6]
 refine aF 7 (v := .int .i64 r.length) (hv := by exact yl_lenS rfl rfl rfl U99) ?_
 simp only [Z0, Z6]
 refine aF 8 (v := .int .i64 (min r.length 40 : Nat)) (hv := by exact yl_min (n := r.length) (m := 40) rfl rfl rfl) ?_
 simp only [Z0, Z6]
 refine aF 9 (v := .string (bs (cut r 40))) (hv := by exact yl_cut (l := r) (m := 40) rfl rfl rfl U99) ?_
 simp only [Z0, Z6]
 refine aF 10 (v := .string (bs (cut l 40))) (hv := by exact yl_assign rfl rfl) ?_
 simp only [Z0, Z6]
 refine aF 11 (v := .string (bs (cut r 40))) (hv := by exact yl_assign rfl rfl) ?_
 simp only [Z0, Z6]
 refine any_end (by kernel_rfl) (Z15 ?_)
 simp only [hll, hrr]
 refine k3 _ _ ?_
 refine qS fun _ k6 => ?_
 refine lM ?_; refine lM ?_; refine lM ?_; refine lM ?_
 refine cM 4 fun Lk hLk => ?_
 refine vC (v := .tuple #[.agg ([.int .i64 0, .string (bs ([])), .int .i64 0, .string (bs ([]))]).toArray, .int .i64 1]) (args := #[.string (bs ll), .int .i64 z, .string (bs rr), .int .i64 t]) (fun W => (by have h9 := hSign_bad (l := ll) (r := rr) (z := z) (t := t) (w := W) hl; exact h9)) ?_
 refine vM ?_; refine vE ?_; refine vE ?_
 refine hLk _ fun w8 M => ?_
 refine nV 4 fun g9 w10 M => ?_
 refine sTs (segs' := [(0, [.int .i64 0]), (1, [.string (bs ([]))]), (2, [.int .i64 0]), (3, [.string (bs ([]))])]) 0 fun w11 M => ?_
 refine lg ?_; refine lZ k6 ?_
 refine qS fun _ k12 => ?_
 refine lM ?_; refine lM ?_; refine lM ?_
 refine wpL_make (n := 64) (z := .int .u8 0) (bytes := 1) (by rfl) (by rfl) (by rfl) (by rfl) U929 (by kernel_rfl) rfl (by decide) (by decide) (fun g14 w15 Sw15 Hg14 Bg14 => ?_)
 replace M := ((M.sees Sw15).add (N := 64) (cs := List.replicate 64 (.int .u8 0)) (M.ge Hg14) (M.fresh Hg14) Bg14 (by simp [flen]))
 clear Bg14
 rw [show List.replicate 64 (Value.int .u8 0) = bcells (List.replicate 64 0) from rfl] at M
 simp only [Z0, Z6]
 refine cM 2 fun Lk hLk => ?_
 refine wpV_b2s (l := (List.replicate 64 0)) (by rfl) rfl rfl (List.length_replicate ..).symm U929 U95 U99 (M.r 0 0 rfl rfl) (M.lt 0 rfl) ?_
 simp only [Z0, Z6]
 refine vGk (v := .agg ([.int .i64 z, .string (bs rr), .int .i64 t, .string (bs (List.replicate 64 0))]).toArray) ?_
 simp only [Z0, Z6]
 refine hLk _ fun w16 M => ?_
 refine nV 4 fun g17 w18 M => ?_
 refine sT 0 0 fun w19 M => ?_
 refine lZ k12 ?_
 refine sk fun _ _ => ?_
 refine qS fun _ k21 => ?_
 refine lM ?_
 refine cM 7 fun Lk hLk => ?_
 refine wpV_lenS (by rfl) rfl rfl rfl U99 ?_
 simp only [Z0, Z6]
 refine vB (v := .bool true) (hr := fun W => (run_neqN ll.length 32 _ _ W).trans (by rw [(decide_eq_true hl)])) ?_
 refine vM ?_; refine vS ?_; refine vS ?_; refine vS ?_; refine vK ?_
 refine hLk _ fun w23 M => ?_
 refine lZ k21 ?_; refine cT ?_
 refine qS fun _ k24 => ?_
 refine cM 10 fun Lk hLk => ?_
 refine vCh (fun W hW => (alive10_c ((M.sees hW).oldL L1) ((M.sees hW).oldR R1_0 L1) ((M.sees hW).oldL L2) ((M.sees hW).oldR R2_0 L2))) ?_
 refine vM ?_; refine vM ?_
 refine vB (v := .bool true) (hr := run_eql _ _ _ _) ?_
 refine vK ?_; refine vM ?_
 refine vP (pvLf (cs := [.int .i64 0] ++ [.string (bs ([]))] ++ [.int .i64 0] ++ [.string (bs ([]))]) (range_join (range_join (range_join (M.r 2 0 rfl rfl) (M.r 2 1 rfl rfl) (by simp [flen])) (M.r 2 2 rfl rfl) (by simp [flen])) (M.r 2 3 rfl rfl) (by simp [flen])) (M.lt 2 rfl)) ?_
 refine vGk (v := .agg ([.int .i64 0, .string { data := #[] }, .int .i64 0, .string { data := #[] }]).toArray) ?_
 simp only [Z0, Z6]
 have fE26 : FieldsEq Tryd.prog 1 ([Value.int .i64 0] ++ [Value.string (bs ([]))] ++ [Value.int .i64 0] ++ [Value.string (bs ([]))]).toArray ([Value.int .i64 0, Value.string { data := #[] }, Value.int .i64 0, Value.string { data := #[] }]).toArray [(false, 3, 0), (false, 9, 1), (false, 3, 2), (false, 9, 3)] [true, true, true, true] := ⟨rfl, ⟨_, _, (fun W => run_part_one U93 rfl rfl W), (fun W => run_part_one U93 rfl rfl W), ((eq_int U93 0 0).bool (decide_eq_true rfl))⟩, rfl, ⟨_, _, (fun W => run_part_one U99 rfl rfl W), (fun W => run_part_one U99 rfl rfl W), ((eq_str U99 ([]) ([])).bool (decide_eq_true rfl))⟩, rfl, ⟨_, _, (fun W => run_part_one U93 rfl rfl W), (fun W => run_part_one U93 rfl rfl W), ((eq_int U93 0 0).bool (decide_eq_true rfl))⟩, rfl, ⟨_, _, (fun W => run_part_one U99 rfl rfl W), (fun W => run_part_one U99 rfl rfl W), ((eq_str U99 ([]) ([])).bool (decide_eq_true rfl))⟩, trivial⟩
 have fT27 : EqD Tryd.prog 2 33 (.agg ([Value.int .i64 0] ++ [Value.string (bs ([]))] ++ [Value.int .i64 0] ++ [Value.string (bs ([]))]).toArray) (.agg ([Value.int .i64 0, Value.string { data := #[] }, Value.int .i64 0, Value.string { data := #[] }]).toArray) true := (eq_struct (k := 1) (P := Tryd.prog) (T := 33) (xs := [Value.int .i64 0] ++ [Value.string (bs ([]))] ++ [Value.int .i64 0] ++ [Value.string (bs ([]))]) (ys := [Value.int .i64 0, Value.string { data := #[] }, Value.int .i64 0, Value.string { data := #[] }]) (fs := [(false, 3, 0), (false, 9, 1), (false, 3, 2), (false, 9, 3)]) (bs := [true, true, true, true]) U933 (by kernel_rfl) (by kernel_rfl) fE26).bool (by simp only [List.all_cons, List.all_nil, id, Bool.and_true, Bool.true_and])
 refine wpV_eqlT (k := 2) (u := [Value.int .i64 0] ++ [Value.string (bs ([]))] ++ [Value.int .i64 0] ++ [Value.string (bs ([]))]) (v := [Value.int .i64 0, Value.string { data := #[] }, Value.int .i64 0, Value.string { data := #[] }]) (b := true) (by rfl) rfl rfl rfl (by kernel_rfl) fT27 (by decide) ?_
 simp only [Z0, Z6]
 refine vK ?_
 refine hLk _ fun w28 M => ?_
 refine lg ?_; refine lZ k24 ?_; refine rt1 ?_
 exact ⟨rfl, M.below⟩
set_option maxRecDepth 100000 in
set_option maxHeartbeats 4000000 in
theorem signs_no {z t : Int} {l r ll rr : List UInt8} {w : World} (hll : cut l 40 = ll) (hrr : cut r 40 = rr) (hl : ll.length = 32) (h0 : rightH z rr t (List.replicate 64 0) = false) (L1 : 1 < w.heap.size) (R1_0 : w.rangeAt 1 0 kcells) (L2 : 2 < w.heap.size) (R2_0 : w.rangeAt 2 0 kcellsq) :
  Calls Tryd.prog 7 #[.string (bs l), .int .i64 z, .string (bs r), .int .i64 t] w fun e w' => e = .returned (.bool true) ∧ Below w.heap.size w w' := by
 go_enter G97, T97
 have M := Mem.start w
 refine qS fun _ k1 => ?_
 refine lg ?_; refine lZ k1 ?_
 refine sk fun _ k3 => ?_
 refine wp_region_treeN (by kernel_rfl) (fun w5 Sw5 => ?_)
 replace M := M.sees Sw5
 refine aF 0 (v := .string (bs l)) (hv := by exact yl_move rfl rfl) ?_
 simp only [Z0, Z6]
 refine aF 1 (v := .string (bs l)) (hv := by exact yl_move rfl rfl) ?_
 simp only [Z0, Z6]
 refine aF 2 (v := .int .i64 l.length) (hv := by exact yl_lenS rfl rfl rfl U99) ?_
 simp only [Z0, Z6]
 refine aF 3 (v := .int .i64 (min l.length 40 : Nat)) (hv := by exact yl_min (n := l.length) (m := 40) rfl rfl rfl) ?_
 simp only [Z0, Z6]
 refine aF 4 (v := .string (bs (cut l 40))) (hv := by exact yl_cut (l := l) (m := 40) rfl rfl rfl U99) ?_
 simp only [Z0, Z6]
 refine aF 5 (v := .string (bs r)) (hv := by exact yl_move rfl rfl) ?_
 simp only [Z0, Z6]
 refine aF 6 (v := .string (bs r)) (hv := by exact yl_move rfl rfl) ?_
 simp only [Z0, Z6]
 refine aF 7 (v := .int .i64 r.length) (hv := by exact yl_lenS rfl rfl rfl U99) ?_
 simp only [Z0, Z6]
 refine aF 8 (v := .int .i64 (min r.length 40 : Nat)) (hv := by exact yl_min (n := r.length) (m := 40) rfl rfl rfl) ?_
 simp only [Z0, Z6]
 refine aF 9 (v := .string (bs (cut r 40))) (hv := by exact yl_cut (l := r) (m := 40) rfl rfl rfl U99) ?_
 simp only [Z0, Z6]
 refine aF 10 (v := .string (bs (cut l 40))) (hv := by exact yl_assign rfl rfl) ?_
 simp only [Z0, Z6]
 refine aF 11 (v := .string (bs (cut r 40))) (hv := by exact yl_assign rfl rfl) ?_
 simp only [Z0, Z6]
 refine any_end (by kernel_rfl) (Z15 ?_)
 simp only [hll, hrr]
 refine k3 _ _ ?_
 refine qS fun _ k6 => ?_
 refine lM ?_; refine lM ?_; refine lM ?_; refine lM ?_
 refine cM 4 fun Lk hLk => ?_
 refine vC (v := .tuple #[.agg ([.int .i64 0, .string (bs ([])), .int .i64 0, .string (bs ([]))]).toArray, .int .i64 1]) (args := #[.string (bs ll), .int .i64 z, .string (bs rr), .int .i64 t]) (fun W => (by have h9 := hSign_no (l := ll) (r := rr) (z := z) (t := t) (w := W) h0; exact h9)) ?_
 refine vM ?_; refine vE ?_; refine vE ?_
 refine hLk _ fun w8 M => ?_
 refine nV 4 fun g9 w10 M => ?_
 refine sTs (segs' := [(0, [.int .i64 0]), (1, [.string (bs ([]))]), (2, [.int .i64 0]), (3, [.string (bs ([]))])]) 0 fun w11 M => ?_
 refine lg ?_; refine lZ k6 ?_
 refine qS fun _ k12 => ?_
 refine lM ?_; refine lM ?_; refine lM ?_
 refine wpL_make (n := 64) (z := .int .u8 0) (bytes := 1) (by rfl) (by rfl) (by rfl) (by rfl) U929 (by kernel_rfl) rfl (by decide) (by decide) (fun g14 w15 Sw15 Hg14 Bg14 => ?_)
 replace M := ((M.sees Sw15).add (N := 64) (cs := List.replicate 64 (.int .u8 0)) (M.ge Hg14) (M.fresh Hg14) Bg14 (by simp [flen]))
 clear Bg14
 rw [show List.replicate 64 (Value.int .u8 0) = bcells (List.replicate 64 0) from rfl] at M
 simp only [Z0, Z6]
 refine cM 2 fun Lk hLk => ?_
 refine wpV_b2s (l := (List.replicate 64 0)) (by rfl) rfl rfl (List.length_replicate ..).symm U929 U95 U99 (M.r 0 0 rfl rfl) (M.lt 0 rfl) ?_
 simp only [Z0, Z6]
 refine vGk (v := .agg ([.int .i64 z, .string (bs rr), .int .i64 t, .string (bs (List.replicate 64 0))]).toArray) ?_
 simp only [Z0, Z6]
 refine hLk _ fun w16 M => ?_
 refine nV 4 fun g17 w18 M => ?_
 refine sT 0 0 fun w19 M => ?_
 refine lZ k12 ?_
 refine sk fun _ _ => ?_
 refine qS fun _ k21 => ?_
 refine lM ?_
 refine cM 7 fun Lk hLk => ?_
 refine wpV_lenS (by rfl) rfl rfl rfl U99 ?_
 simp only [Z0, Z6]
 refine vB (v := .bool false) (hr := fun W => (run_neqN ll.length 32 _ _ W).trans (by rw [(decide_eq_false (fun h => h hl))])) ?_
 refine vM ?_; refine vL ?_
 refine vC (v := .bool false) (args := #[.agg ([.int .i64 z, .string (bs rr), .int .i64 t, .string (bs (List.replicate 64 0))]).toArray]) (fun W => (by have h9 := rhright_c (z := z) (r := rr) (t := t) (g := List.replicate 64 0) (w := W); rw [h0] at h9; exact h9)) ?_
 refine vu ?_; refine vK ?_
 refine hLk _ fun w23 M => ?_
 refine lZ k21 ?_; refine cT ?_
 refine qS fun _ k24 => ?_
 refine cM 10 fun Lk hLk => ?_
 refine vCh (fun W hW => (alive10_c ((M.sees hW).oldL L1) ((M.sees hW).oldR R1_0 L1) ((M.sees hW).oldL L2) ((M.sees hW).oldR R2_0 L2))) ?_
 refine vM ?_; refine vM ?_
 refine vB (v := .bool true) (hr := run_eql _ _ _ _) ?_
 refine vK ?_; refine vM ?_
 refine vP (pvLf (cs := [.int .i64 0] ++ [.string (bs ([]))] ++ [.int .i64 0] ++ [.string (bs ([]))]) (range_join (range_join (range_join (M.r 2 0 rfl rfl) (M.r 2 1 rfl rfl) (by simp [flen])) (M.r 2 2 rfl rfl) (by simp [flen])) (M.r 2 3 rfl rfl) (by simp [flen])) (M.lt 2 rfl)) ?_
 refine vGk (v := .agg ([.int .i64 0, .string { data := #[] }, .int .i64 0, .string { data := #[] }]).toArray) ?_
 simp only [Z0, Z6]
 have fE26 : FieldsEq Tryd.prog 1 ([Value.int .i64 0] ++ [Value.string (bs ([]))] ++ [Value.int .i64 0] ++ [Value.string (bs ([]))]).toArray ([Value.int .i64 0, Value.string { data := #[] }, Value.int .i64 0, Value.string { data := #[] }]).toArray [(false, 3, 0), (false, 9, 1), (false, 3, 2), (false, 9, 3)] [true, true, true, true] := ⟨rfl, ⟨_, _, (fun W => run_part_one U93 rfl rfl W), (fun W => run_part_one U93 rfl rfl W), ((eq_int U93 0 0).bool (decide_eq_true rfl))⟩, rfl, ⟨_, _, (fun W => run_part_one U99 rfl rfl W), (fun W => run_part_one U99 rfl rfl W), ((eq_str U99 ([]) ([])).bool (decide_eq_true rfl))⟩, rfl, ⟨_, _, (fun W => run_part_one U93 rfl rfl W), (fun W => run_part_one U93 rfl rfl W), ((eq_int U93 0 0).bool (decide_eq_true rfl))⟩, rfl, ⟨_, _, (fun W => run_part_one U99 rfl rfl W), (fun W => run_part_one U99 rfl rfl W), ((eq_str U99 ([]) ([])).bool (decide_eq_true rfl))⟩, trivial⟩
 have fT27 : EqD Tryd.prog 2 33 (.agg ([Value.int .i64 0] ++ [Value.string (bs ([]))] ++ [Value.int .i64 0] ++ [Value.string (bs ([]))]).toArray) (.agg ([Value.int .i64 0, Value.string { data := #[] }, Value.int .i64 0, Value.string { data := #[] }]).toArray) true := (eq_struct (k := 1) (P := Tryd.prog) (T := 33) (xs := [Value.int .i64 0] ++ [Value.string (bs ([]))] ++ [Value.int .i64 0] ++ [Value.string (bs ([]))]) (ys := [Value.int .i64 0, Value.string { data := #[] }, Value.int .i64 0, Value.string { data := #[] }]) (fs := [(false, 3, 0), (false, 9, 1), (false, 3, 2), (false, 9, 3)]) (bs := [true, true, true, true]) U933 (by kernel_rfl) (by kernel_rfl) fE26).bool (by simp only [List.all_cons, List.all_nil, id, Bool.and_true, Bool.true_and])
 refine wpV_eqlT (k := 2) (u := [Value.int .i64 0] ++ [Value.string (bs ([]))] ++ [Value.int .i64 0] ++ [Value.string (bs ([]))]) (v := [Value.int .i64 0, Value.string { data := #[] }, Value.int .i64 0, Value.string { data := #[] }]) (b := true) (by rfl) rfl rfl rfl (by kernel_rfl) fT27 (by decide) ?_
 simp only [Z0, Z6]
 refine vK ?_
 refine hLk _ fun w28 M => ?_
 refine lg ?_; refine lZ k24 ?_; refine rt1 ?_
 exact ⟨rfl, M.below⟩
set_option maxRecDepth 100000 in
set_option maxHeartbeats 4000000 in
theorem signs_ok {a b : Nat} {l r ll rr : List UInt8} {w : World} (hll : cut l 40 = ll) (hrr : cut r 40 = rr) (hl : ll.length = 32) (ha : a ≤ 4096) (hb : b ≤ 1099511627776) (hr : rr.length = 32) (L1 : 1 < w.heap.size) (R1_0 : w.rangeAt 1 0 kcells) (L2 : 2 < w.heap.size) (R2_0 : w.rangeAt 2 0 kcellsq) :
  Calls Tryd.prog 7 #[.string (bs l), .int .i64 a, .string (bs r), .int .i64 b] w fun e w' => e = .returned (.bool true) ∧ Below w.heap.size w w' := by
 obtain ⟨kt, hkt⟩ : ∃ kt, kt = edT (edN ll) := ⟨_, rfl⟩
 obtain ⟨sg, hsg⟩ : ∃ sg, sg = edS ll (sgnL a b rr) := ⟨_, rfl⟩
 obtain ⟨x9, hx9⟩ : ∃ x, x = edVf kt (sgnL a ((b + 1) % 1000) rr) sg := ⟨_, rfl⟩
 have hk : kt.length = 32 := by rw [hkt]; exact edT_len _
 have hg : sg.length = 64 := by rw [hsg]; exact edS_len _ _
 have hb2 : (b + 1) % 1000 ≤ 1099511627776 := by omega
 have hv : edVf kt (sgnL a b rr) sg = 0 := by rw [hkt, hsg]; exact edVf_right _ _
 go_enter G97, T97
 have M := Mem.start w
 refine qS fun _ k1 => ?_
 refine lg ?_; refine lZ k1 ?_
 refine sk fun _ k3 => ?_
 refine wp_region_treeN (by kernel_rfl) (fun w5 Sw5 => ?_)
 replace M := M.sees Sw5
 refine aF 0 (v := .string (bs l)) (hv := by exact yl_move rfl rfl) ?_
 simp only [Z0, Z6]
 refine aF 1 (v := .string (bs l)) (hv := by exact yl_move rfl rfl) ?_
 simp only [Z0, Z6]
 refine aF 2 (v := .int .i64 l.length) (hv := by exact yl_lenS rfl rfl rfl U99) ?_
 simp only [Z0, Z6]
 refine aF 3 (v := .int .i64 (min l.length 40 : Nat)) (hv := by exact yl_min (n := l.length) (m := 40) rfl rfl rfl) ?_
 simp only [Z0, Z6]
 refine aF 4 (v := .string (bs (cut l 40))) (hv := by exact yl_cut (l := l) (m := 40) rfl rfl rfl U99) ?_
 simp only [Z0, Z6]
 refine aF 5 (v := .string (bs r)) (hv := by exact yl_move rfl rfl) ?_
 simp only [Z0, Z6]
 refine aF 6 (v := .string (bs r)) (hv := by exact yl_move rfl rfl) ?_
 simp only [Z0, Z6]
 refine aF 7 (v := .int .i64 r.length) (hv := by exact yl_lenS rfl rfl rfl U99) ?_
 simp only [Z0, Z6]
 refine aF 8 (v := .int .i64 (min r.length 40 : Nat)) (hv := by exact yl_min (n := r.length) (m := 40) rfl rfl rfl) ?_
 simp only [Z0, Z6]
 refine aF 9 (v := .string (bs (cut r 40))) (hv := by exact yl_cut (l := r) (m := 40) rfl rfl rfl U99) ?_
 simp only [Z0, Z6]
 refine aF 10 (v := .string (bs (cut l 40))) (hv := by exact yl_assign rfl rfl) ?_
 simp only [Z0, Z6]
 refine aF 11 (v := .string (bs (cut r 40))) (hv := by exact yl_assign rfl rfl) ?_
 simp only [Z0, Z6]
 refine any_end (by kernel_rfl) (Z15 ?_)
 simp only [hll, hrr]
 refine k3 _ _ ?_
 refine qS fun _ k6 => ?_
 refine lM ?_; refine lM ?_; refine lM ?_; refine lM ?_
 refine cM 4 fun Lk hLk => ?_
 refine vCh (v := .tuple #[.agg ([.int .i64 a, .string (bs rr), .int .i64 b, .string (bs sg)]).toArray, .int .i64 0]) (args := #[.string (bs ll), .int .i64 a, .string (bs rr), .int .i64 b]) (fun W hW => (by have h9 := hSign_ok (l := ll) (r := rr) (a := a) (b := b) (w := W) ha hb hr hl ((M.sees hW).oldL L2) ((M.sees hW).oldR R2_0 L2); rw [← hsg] at h9; exact h9)) ?_
 refine vM ?_; refine vE ?_; refine vE ?_
 refine hLk _ fun w8 M => ?_
 refine nV 4 fun g9 w10 M => ?_
 refine sTs (segs' := [(0, [.int .i64 a]), (1, [.string (bs rr)]), (2, [.int .i64 b]), (3, [.string (bs sg)])]) 0 fun w11 M => ?_
 refine lg ?_; refine lZ k6 ?_
 refine qS fun _ k12 => ?_
 refine lM ?_; refine lM ?_; refine lM ?_
 refine wpL_make (n := 64) (z := .int .u8 0) (bytes := 1) (by rfl) (by rfl) (by rfl) (by rfl) U929 (by kernel_rfl) rfl (by decide) (by decide) (fun g14 w15 Sw15 Hg14 Bg14 => ?_)
 replace M := ((M.sees Sw15).add (N := 64) (cs := List.replicate 64 (.int .u8 0)) (M.ge Hg14) (M.fresh Hg14) Bg14 (by simp [flen]))
 clear Bg14
 rw [show List.replicate 64 (Value.int .u8 0) = bcells (List.replicate 64 0) from rfl] at M
 simp only [Z0, Z6]
 refine cM 2 fun Lk hLk => ?_
 refine wpV_b2s (l := (List.replicate 64 0)) (by rfl) rfl rfl (List.length_replicate ..).symm U929 U95 U99 (M.r 0 0 rfl rfl) (M.lt 0 rfl) ?_
 simp only [Z0, Z6]
 refine vGk (v := .agg ([.int .i64 a, .string (bs rr), .int .i64 b, .string (bs (List.replicate 64 0))]).toArray) ?_
 simp only [Z0, Z6]
 refine hLk _ fun w16 M => ?_
 refine nV 4 fun g17 w18 M => ?_
 refine sT 0 0 fun w19 M => ?_
 refine lZ k12 ?_
 refine sk fun _ k20 => ?_
 refine qS fun _ k21 => ?_
 refine lM ?_
 refine cM 7 fun Lk hLk => ?_
 refine wpV_lenS (by rfl) rfl rfl rfl U99 ?_
 simp only [Z0, Z6]
 refine vB (v := .bool false) (hr := fun W => (run_neqN ll.length 32 _ _ W).trans (by rw [(decide_eq_false (fun h => h hl))])) ?_
 refine vM ?_; refine vL ?_
 refine vC (v := .bool true) (args := #[.agg ([.int .i64 a, .string (bs rr), .int .i64 b, .string (bs (List.replicate 64 0))]).toArray]) (fun W => (by have h9 := rhright_c (z := (a : Int)) (r := rr) (t := (b : Int)) (g := List.replicate 64 0) (w := W); rw [show rightH (a : Int) rr (b : Int) (List.replicate 64 0) = true from rightH_of ha hb hr (List.length_replicate ..)] at h9; exact h9)) ?_
 refine vt ?_; refine vK ?_
 refine hLk _ fun w23 M => ?_
 refine lZ k21 ?_; refine cF ?_; refine sZ k20 ?_
 refine qS fun _ k24 => ?_
 refine lM ?_; refine lL ?_
 refine cM 5 fun Lk hLk => ?_
 refine vC (v := .string (bs (sgnL a b rr))) (args := #[.agg ([.int .i64 a, .string (bs rr), .int .i64 b, .string (bs (List.replicate 64 0))]).toArray]) (fun W => (by have h9 := rsigned_c (a := a) (b := b) (r := rr) (g := List.replicate 64 0) (w := W) ha hb hr; exact h9)) ?_
 refine vCh (v := .tuple #[.string (bs sg), .int .i64 0]) (args := #[.string (bs ll), .string (bs (sgnL a b rr))]) (fun W hW => (by have h9 := Sign_ok (l := ll) (m := sgnL a b rr) (w := W) hl (by rw [sgnL_len a b hr]; decide) ((M.sees hW).oldL L2) ((M.sees hW).oldR R2_0 L2); rw [← hsg] at h9; exact h9)) ?_
 refine vM ?_; refine vE ?_; refine vE ?_
 refine hLk _ fun w26 M => ?_
 refine lg ?_; refine lg ?_; refine lZ k24 ?_
 refine qS fun _ k27 => ?_
 refine lM ?_; refine lF ?_
 refine lS1 (g := g17) (off := 3) (n := 4) (v := .string (bs sg)) (M.t 0 rfl) (by decide) info9 rfl (fun w30 P R T => ?_)
 replace M := M.put1 (j := 3) 0 rfl P R T rfl
 simp only [Z6] at M
 refine lZ k27 ?_
 refine qS fun _ k31 => ?_
 refine lM ?_
 refine cM 4 fun Lk hLk => ?_
 refine vCh (v := .tuple #[.string (bs kt), .int .i64 0]) (args := #[.string (bs ll)]) (fun W hW => (by have h9 := Public_ok (l := ll) (w := W) hl ((M.sees hW).oldL L2) ((M.sees hW).oldR R2_0 L2); rw [← hkt] at h9; exact h9)) ?_
 refine vM ?_; refine vE ?_; refine vE ?_
 refine hLk _ fun w33 M => ?_
 refine lg ?_; refine lg ?_; refine lZ k31 ?_
 refine sk fun _ k34 => ?_
 refine qS fun _ k35 => ?_
 refine lM ?_
 refine cM 24 fun Lk hLk => ?_
 refine vB (v := .bool false) (hr := run_neq _ _ _ _) ?_
 refine vM ?_; refine vM ?_
 refine vB (v := .bool false) (hr := run_neq _ _ _ _) ?_
 refine vK ?_; refine vM ?_; refine vM ?_
 refine vB (v := .bool false) (hr := run_neq _ _ _ _) ?_
 refine vK ?_; refine vM ?_
 refine vP (pvLf (cs := [.int .i64 a] ++ [.string (bs rr)] ++ [.int .i64 b] ++ [.string (bs sg)]) (range_join (range_join (range_join (M.r 2 0 rfl rfl) (M.r 2 1 rfl rfl) (by simp [flen])) (M.r 2 2 rfl rfl) (by simp [flen])) (M.r 2 3 rfl rfl) (by simp [flen])) (M.lt 2 rfl)) ?_
 refine vL ?_
 have fE37 : FieldsEq Tryd.prog 1 ([Value.int .i64 a] ++ [Value.string (bs rr)] ++ [Value.int .i64 b] ++ [Value.string (bs sg)]).toArray ([Value.int .i64 a, Value.string (bs rr), Value.int .i64 b, Value.string (bs sg)]).toArray [(false, 3, 0), (false, 9, 1), (false, 3, 2), (false, 9, 3)] [true, true, true, true] := ⟨rfl, ⟨_, _, (fun W => run_part_one U93 rfl rfl W), (fun W => run_part_one U93 rfl rfl W), ((eq_int U93 a a).bool (decide_eq_true rfl))⟩, rfl, ⟨_, _, (fun W => run_part_one U99 rfl rfl W), (fun W => run_part_one U99 rfl rfl W), ((eq_str U99 rr rr).bool (decide_eq_true rfl))⟩, rfl, ⟨_, _, (fun W => run_part_one U93 rfl rfl W), (fun W => run_part_one U93 rfl rfl W), ((eq_int U93 b b).bool (decide_eq_true rfl))⟩, rfl, ⟨_, _, (fun W => run_part_one U99 rfl rfl W), (fun W => run_part_one U99 rfl rfl W), ((eq_str U99 sg sg).bool (decide_eq_true rfl))⟩, trivial⟩
 have fT38 : EqD Tryd.prog 2 33 (.agg ([Value.int .i64 a] ++ [Value.string (bs rr)] ++ [Value.int .i64 b] ++ [Value.string (bs sg)]).toArray) (.agg ([Value.int .i64 a, Value.string (bs rr), Value.int .i64 b, Value.string (bs sg)]).toArray) true := (eq_struct (k := 1) (P := Tryd.prog) (T := 33) (xs := [Value.int .i64 a] ++ [Value.string (bs rr)] ++ [Value.int .i64 b] ++ [Value.string (bs sg)]) (ys := [Value.int .i64 a, Value.string (bs rr), Value.int .i64 b, Value.string (bs sg)]) (fs := [(false, 3, 0), (false, 9, 1), (false, 3, 2), (false, 9, 3)]) (bs := [true, true, true, true]) U933 (by kernel_rfl) (by kernel_rfl) fE37).bool (by simp only [List.all_cons, List.all_nil, id, Bool.and_true, Bool.true_and])
 refine wpV_neqT (k := 2) (u := [Value.int .i64 a] ++ [Value.string (bs rr)] ++ [Value.int .i64 b] ++ [Value.string (bs sg)]) (v := [Value.int .i64 a, Value.string (bs rr), Value.int .i64 b, Value.string (bs sg)]) (b := true) (by rfl) rfl rfl rfl (by kernel_rfl) fT38 (by decide) ?_
 simp only [Bool.not_true, Bool.not_false]
 simp only [Z0, Z6]
 refine vK ?_; refine vM ?_; refine vM ?_
 refine vP (pvLf (cs := [.int .i64 a] ++ [.string (bs rr)] ++ [.int .i64 b] ++ [.string (bs sg)]) (range_join (range_join (range_join (M.r 2 0 rfl rfl) (M.r 2 1 rfl rfl) (by simp [flen])) (M.r 2 2 rfl rfl) (by simp [flen])) (M.r 2 3 rfl rfl) (by simp [flen])) (M.lt 2 rfl)) ?_
 refine vCh (v := .int .i64 0) (args := #[.string (bs kt), .agg ([.int .i64 a] ++ [.string (bs rr)] ++ [.int .i64 b] ++ [.string (bs sg)] : List Value).toArray]) (fun W hW => (by have h9 := Check_ok (a := a) (b := b) (r := rr) (g := sg) (key := kt) (w := W) ha hb hr hg hk ((M.sees hW).oldL L2) ((M.sees hW).oldR R2_0 L2); rw [hv] at h9; exact h9)) ?_
 refine vB (v := .bool false) (hr := run_neq _ _ _ _) ?_
 refine vK ?_; refine vM ?_
 refine vCh (fun W hW => (alive10_c ((M.sees hW).oldL L1) ((M.sees hW).oldR R1_0 L1) ((M.sees hW).oldL L2) ((M.sees hW).oldR R2_0 L2))) ?_
 refine vt ?_; refine vK ?_
 refine hLk _ fun w39 M => ?_
 refine lZ k35 ?_; refine cF ?_; refine sZ k34 ?_
 refine qS fun _ k40 => ?_
 refine cM 1 fun Lk hLk => ?_
 refine vP (pvLf (cs := [.int .i64 a] ++ [.string (bs rr)] ++ [.int .i64 b] ++ [.string (bs sg)]) (range_join (range_join (range_join (M.r 2 0 rfl rfl) (M.r 2 1 rfl rfl) (by simp [flen])) (M.r 2 2 rfl rfl) (by simp [flen])) (M.r 2 3 rfl rfl) (by simp [flen])) (M.lt 2 rfl)) ?_
 refine hLk _ fun w42 M => ?_
 refine nV 4 fun g43 w44 M => ?_
 refine sTs (segs' := [(0, [.int .i64 a]), (1, [.string (bs rr)]), (2, [.int .i64 b]), (3, [.string (bs sg)])]) 0 fun w45 M => ?_
 refine lZ k40 ?_
 refine qS fun _ k46 => ?_
 refine lF ?_; refine lc ?_
 refine cM 3 fun Lk hLk => ?_
 refine vB (v := .int .i64 (b + 1 : Nat)) (hr := run_add (by simp only [IntKind.wrap_i64]; omega)) ?_
 refine vB (v := .int .i64 ((b + 1) % 1000 : Nat)) (hr := run_rem (by decide) (tmod_nat (b + 1) 1000)) ?_
 refine vF ?_
 refine hLk _ fun w48 M => ?_
 refine sT1 0 2 fun w49 M => ?_
 refine lZ k46 ?_
 refine sk fun _ k50 => ?_
 refine rG 16 [] fun Lk hLk => ?_
 refine vM ?_
 refine vP (pvLf (cs := [.int .i64 a] ++ [.string (bs rr)] ++ [.int .i64 ((b + 1) % 1000 : Nat)] ++ [.string (bs sg)]) (range_join (range_join (range_join (M.r 0 0 rfl rfl) (M.r 0 1 rfl rfl) (by simp [flen])) (M.r 0 2 rfl rfl) (by simp [flen])) (M.r 0 3 rfl rfl) (by simp [flen])) (M.lt 0 rfl)) ?_
 refine vCh (v := .int .i64 x9) (args := #[.string (bs kt), .agg ([.int .i64 a] ++ [.string (bs rr)] ++ [.int .i64 ((b + 1) % 1000 : Nat)] ++ [.string (bs sg)] : List Value).toArray]) (fun W hW => (by have h9 := Check_ok (a := a) (b := ((b + 1) % 1000)) (r := rr) (g := sg) (key := kt) (w := W) ha hb2 hr hg hk ((M.sees hW).oldL L2) ((M.sees hW).oldR R2_0 L2); rw [← hx9] at h9; exact h9)) ?_
 refine vM ?_
 refine vP (pvLf (cs := [.int .i64 a] ++ [.string (bs rr)] ++ [.int .i64 ((b + 1) % 1000 : Nat)] ++ [.string (bs sg)]) (range_join (range_join (range_join (M.r 0 0 rfl rfl) (M.r 0 1 rfl rfl) (by simp [flen])) (M.r 0 2 rfl rfl) (by simp [flen])) (M.r 0 3 rfl rfl) (by simp [flen])) (M.lt 0 rfl)) ?_
 refine vC (v := .string (bs (sgnL a ((b + 1) % 1000) rr))) (args := #[.agg ([.int .i64 a] ++ [.string (bs rr)] ++ [.int .i64 ((b + 1) % 1000 : Nat)] ++ [.string (bs sg)] : List Value).toArray]) (fun W => (by have h9 := rsigned_c (a := a) (b := ((b + 1) % 1000)) (r := rr) (g := sg) (w := W) ha hb2 hr; exact h9)) ?_
 refine vF ?_; refine vc ?_
 refine vCh (v := .int .i64 x9) (args := #[.string (bs kt), .string (bs (sgnL a ((b + 1) % 1000) rr)), .string (bs sg)]) (fun W hW => (by have h9 := Verify_c (key := kt) (m := sgnL a ((b + 1) % 1000) rr) (sig := sg) (w := W) hk hg (by rw [sgnL_len a _ hr]; decide) ((M.sees hW).oldL L2) ((M.sees hW).oldR R2_0 L2); rw [show edVf kt (sgnL a ((b + 1) % 1000) rr) sg = x9 from hx9.symm] at h9; exact h9)) ?_
 refine vB (v := .bool true) (hr := fun W => (run_eql _ _ _ _ W).trans (by rw [(beq_self_eq_true x9)])) ?_
 refine vM ?_; refine vM ?_
 refine vGk (v := .agg ([.int .i64 0, .string { data := #[] }, .int .i64 0, .string { data := #[] }]).toArray) ?_
 simp only [Z0, Z6]
 refine vC (v := .int .i64 1) (args := #[.string (bs kt), .agg ([.int .i64 0, .string { data := #[] }, .int .i64 0, .string { data := #[] }]).toArray]) (fun W => (by have h9 := Check_no (z := 0) (r := []) (t := 0) (g := []) (key := kt) (w := W) (by decide); exact h9)) ?_
 refine vB (v := .bool true) (hr := run_eql _ _ _ _) ?_
 refine vK ?_
 refine hLk _ fun w52 M => ?_
 refine lg ?_; refine lZ k50 ?_; refine rt1 ?_
 exact ⟨rfl, M.below⟩
theorem signs_c {z t : Int} {l r : List UInt8} {w : World} (L1 : 1 < w.heap.size) (R1_0 : w.rangeAt 1 0 kcells) (L2 : 2 < w.heap.size) (R2_0 : w.rangeAt 2 0 kcellsq) :
  Calls Tryd.prog 7 #[.string (bs l), .int .i64 z, .string (bs r), .int .i64 t] w fun e w' => e = .returned (.bool true) ∧ Below w.heap.size w w' := by
 by_cases hl : (cut l 40).length = 32
 ·
  cases h : rightH z (cut r 40) t (List.replicate 64 0)
  ·
   exact signs_no rfl rfl hl h L1 R1_0 L2 R2_0
  obtain ⟨a, b, rfl, rfl, ha, hb, hr, -⟩ := rightH_parts h
  exact signs_ok rfl rfl hl ha hb hr L1 R1_0 L2 R2_0
 exact signs_len rfl rfl hl L1 R1_0 L2 R2_0
end Go.Proofs.Yc

