import Derived.WalkKit
import Derived.WalkSpells
import Derived.Laws.Pointers
import Derived.RowKit3
import Derived.Below
import Derived.Outline
import Derived.LoopN
import Derived.Lib.Hide
import Derived.Handy
import Derived.Laws.Bits64b
import Derived.Test.YtpgpjoldelobdaaDoorSq4
import Derived.Test.YtpgpjoldelobdaaDoorSteps13
import Derived.Test.YtpgpjoldelobdaaDoorAdds2
import Derived.Test.YtpgpjoldelobdaaDoorEqS
import Derived.Test.YtpgpjoldelobdaaDoorF3
import Derived.Test.YtpgpjoldelobdaaDoorShq
set_option linter.unusedSimpArgs false
set_option linter.unusedVariables false
namespace Go.Proofs.Yc
open Go Go.RowKit Go.Proofs.Num
open Tryd renaming underlying29 → U929, underlying37 → U937, underlying5 → U95, underlying80 → U980, underlying9 → U99
open Go.Proofs.Num  renaming putT → Z0
open Nat renaming zero_add → Z2
open List renaming set → Z6, take → Z7, drop → Z8
open Go renaming undef → Z9
open Go.Proofs.Num renaming wp_region_seq → Z13, wpL_nil → Z14, no_panic → Z15, then_normal → Z22
attribute [local irreducible] wpV wpN wpList
open Go.Proofs.Ya
theorem rightP_base : rightP baseP = true := by decide +kernel
theorem andNot7_fin : ∀ b : Fin 256, bits .andNot .u8 (b.val : Int) 7 = ((b.val / 8 * 8 : Nat) : Int) := by decide +kernel
theorem andNot_7 {b : Nat} (h : b < 256) : bits .andNot .u8 (b : Int) 7 = ((b / 8 * 8 : Nat) : Int) := andNot7_fin ⟨b, h⟩
theorem or64_fin : ∀ b : Fin 256, bits .or .u8 ((b.val % 128 : Nat) : Int) 64 = ((b.val % 64 + 64 : Nat) : Int) := by decide +kernel
theorem or_64 {b : Nat} (h : b < 256) : bits .or .u8 ((b % 128 : Nat) : Int) 64 = ((b % 64 + 64 : Nat) : Int) := or64_fin ⟨b, h⟩
theorem flat1q (a : List UInt8) : [a].flatten = a := by simp
theorem all1 {a : List UInt8} {B : Nat} (h : a.length ≤ B) : ∀ l ∈ [a], l.length ≤ B := fun l hl => by rw [List.mem_singleton.1 hl]; exact h
theorem all2 {a b : List UInt8} {B : Nat} (h : a.length ≤ B) (k : b.length ≤ B) : ∀ l ∈ [a, b], l.length ≤ B := fun l hl => by
 rcases List.mem_cons.1 hl with rfl | hl
 ·
  exact h
 exact all1 k l hl
theorem all3 {a b c : List UInt8} {B : Nat} (h : a.length ≤ B) (k : b.length ≤ B) (m : c.length ≤ B) : ∀ l ∈ [a, b, c], l.length ≤ B := fun l hl => by
 rcases List.mem_cons.1 hl with rfl | hl
 ·
  exact h
 exact all2 k m l hl
set_option maxHeartbeats 2000000 in
theorem secret_a {l S : List UInt8} {w : World} (hll : l.length ≤ 9223372036854775680) (hS : shaq l = S) (hl : S.length = 64) (L2 : 2 < w.heap.size) (R2_0 : w.rangeAt 2 0 kcellsq) :
  Calls Tryd.prog 45 #[.string (bs l)] w fun e w' => e = .returned (.tuple #[fe (leN ((clampL S).take 32)), .string (bs (S.drop 32))]) ∧ Below w.heap.size w w' := by
 have hb0 := byteN_lt S 0; have hb31 := byteN_lt S 31
 have hcl : (clampL S).length = 64 := by rw [clampL_len]; exact hl
 have hnum : leN ((clampL S).take 32) < 2 ^ 256 := Nat.lt_of_lt_of_eq (leN_take_lt (clampL S) 32) (by decide)
 go_enter Tryd.func45, Tryd.ntmps45
 have M := Mem.start w
 refine qS fun _ k1 => ?_
 refine nV 4 fun g3 w4 M => ?_
 refine lg ?_; refine lZ k1 ?_
 refine qS fun _ k5 => ?_
 refine lM ?_
 refine wpL_rowN (vs := [.string (bs l)]) (z := .string { data := #[] }) (bytes := 16) (by rfl) (by rfl) U937 (by kernel_rfl) (by decide) (by kernel_rfl) (fun g7 w8 Sw8 Hg7 Bg7 => ?_)
 replace M := ((M.sees Sw8).add (N := 1) (cs := [.string (bs l)]) (M.ge Hg7) (M.fresh Hg7) Bg7 rfl)
 clear Bg7
 simp only [Z0, Z6]
 refine cM 1 fun Lk hLk => ?_
 refine vCh (v := .string (bs S)) (args := #[.slice (some ⟨g7, 0, none⟩) 1 1]) (fun W hW => (by have h := sum_cq (ps := [l]) (w := W) (by simp) (getD_all (all1 hll)) ((M.sees hW).oldL L2) ((M.sees hW).oldR R2_0 L2) (Nat.le_refl _) ((M.sees hW).lt 0 rfl) ((M.sees hW).r 0 0 rfl rfl); rw [flat1q] at h; rw [hS] at h; exact h)) ?_
 refine hLk _ fun w9 M => ?_
 refine wpL_s2b (l := S) (by rfl) (by rfl) (by rfl) U99 U929 U95 (by rw [hl]; decide) (fun g10 g10c w11 Sw11 Hg10 Cg10 R T L => ?_)
 replace M := (M.sees Sw11).addR (M.ge Hg10) (M.fresh Hg10) T R L
 clear T R L
 rw [show S.length = 64 from hl] at Cg10
 rw [show S.length = 64 from hl]
 simp only [Z0, Z6]
 refine lg ?_; refine lZ k5 ?_
 refine qS fun _ k12 => ?_
 refine lM ?_
 refine cM 4 fun Lk hLk => ?_
 refine wpV_idxs (n := 0) (by rfl) rfl rfl rfl U929 info5 (by omega) ?_
 simp only [Z2]
 simp only [Z0, Z6]
 refine vQ (v := .int .u8 (byteN S 0 : Nat)) (hc := (zadd ((M.r 0 0 rfl rfl) _ _ (bcells_at (by omega))))) (hb := (M.lt 0 rfl)) ?_
 refine vB (v := .int .u8 (byteN S 0 / 8 * 8 : Nat)) (hr := run_andNot (andNot_7 hb0)) ?_
 refine wpV_idxs (n := 0) (by rfl) rfl rfl rfl U929 info5 (by omega) ?_
 simp only [Z2]
 simp only [Z0, Z6]
 refine hLk _ fun w14 M => ?_
 refine lS1 (g := g10) (off := 0) (n := g10c) (v := .int .u8 (byteN S 0 / 8 * 8 : Nat)) (M.t 0 rfl) (by omega) info5 rfl (fun w15 P R T => ?_)
 replace M := M.put1 (j := 0) 0 rfl P R T (Z2 _).symm
 simp only [Z6] at M
 rw [bcells_put _ 0 (by omega)] at M
 refine lZ k12 ?_
 refine qS fun _ k16 => ?_
 refine lM ?_; refine lM ?_
 refine cM 5 fun Lk hLk => ?_
 refine wpV_idxs (n := 31) (by rfl) rfl rfl rfl U929 info5 (by omega) ?_
 simp only [Z2]
 simp only [Z0, Z6]
 refine vQ (v := .int .u8 (byteN S 31 : Nat)) (hc := (zadd ((M.r 0 0 rfl rfl) _ _ (by rw [bcells_at (by rw [List.length_set]; omega), byteN_set_ne _ _ (by decide)])))) (hb := (M.lt 0 rfl)) ?_
 refine vB (v := .int .u8 (byteN S 31 % 128 : Nat)) (hr := run_andNot (andNot_128 hb31)) ?_
 refine vB (v := .int .u8 (byteN S 31 % 64 + 64 : Nat)) (hr := run_or (or_64 hb31)) ?_
 refine wpV_idxs (n := 31) (by rfl) rfl rfl rfl U929 info5 (by omega) ?_
 simp only [Z2]
 simp only [Z0, Z6]
 refine hLk _ fun w18 M => ?_
 refine lS1 (g := g10) (off := 31) (n := g10c) (v := .int .u8 (byteN S 31 % 64 + 64 : Nat)) (M.t 0 rfl) (by omega) info5 rfl (fun w19 P R T => ?_)
 replace M := M.put1 (j := 31) 0 rfl P R T (Z2 _).symm
 simp only [Z6] at M
 rw [show (bcells (S.set 0 (UInt8.ofNat (byteN S 0 / 8 * 8)))).set 31 (.int .u8 (byteN S 31 % 64 + 64 : Nat)) = bcells (clampL S) from bcells_put _ 31 (by omega)] at M
 refine lZ k16 ?_
 refine qS fun _ k20 => ?_
 refine nV 4 fun g22 w23 M => ?_
 refine lZ k20 ?_
 refine sk fun _ k24 => ?_
 refine qS fun _ k25 => ?_
 refine lM ?_; refine lZ k25 ?_; refine wp_block ?_
 replace M := M.read1 (cs := wl 4 (leN ((clampL S).take 0))) (o := 0) 0 rfl (by rw [show leN ((clampL S).take 0) = 0 from rfl, wl_zero]; exact (M.r 0 0 rfl rfl))
 simp only [Z6] at M
 refine wp_loop_ghost (fun n9 a9 W9 => ∃ (i : Nat) (u27_6 u27_24 u27_25 u27_26 u27_27 u27_28 u27_29 u27_30 u27_31 u27_32 u27_33 u27_34 u27_35 u27_36 u27_37 u27_38 u27_39 u27_40 u27_41 : Value), n9 = 32 - i ∧ a9 = { tmps := #[.string (bs l), Z9, .pointer (some ⟨g3, 0, none⟩), .string (bs ([])), .slice (some ⟨g10, 0, none⟩) 64 g10c, .pointer (some ⟨g22, 0, none⟩), u27_6, .string (bs l), .slice (some ⟨g7, 0, none⟩) 1 1, .string (bs S), .slice (some ⟨g10, 0, none⟩) 64 g10c, .slice (some ⟨g10, 0, none⟩) 64 g10c, .pointer (some ⟨g10, 0, none⟩), .int .u8 (byteN S 0 : Nat), .int .u8 (byteN S 0 / 8 * 8 : Nat), .pointer (some ⟨g10, 0, none⟩), .slice (some ⟨g10, 0, none⟩) 64 g10c, .slice (some ⟨g10, 0, none⟩) 64 g10c, .pointer (some ⟨g10, 31, none⟩), .int .u8 (byteN S 31 : Nat), .int .u8 (byteN S 31 % 128 : Nat), .int .u8 (byteN S 31 % 64 + 64 : Nat), .pointer (some ⟨g10, 31, none⟩), .int .i64 i, u27_24, u27_25, u27_26, u27_27, u27_28, u27_29, u27_30, u27_31, u27_32, u27_33, u27_34, u27_35, u27_36, u27_37, u27_38, u27_39, u27_40, u27_41, Z9, Z9, Z9, Z9], defers := [] } ∧ Mem [] w W9 [⟨g22, 4, [(0, wl 4 (leN ((clampL S).take i)))]⟩, ⟨g10, g10c, [(0, bcells (clampL S))]⟩, ⟨g7, 1, [(0, [.string (bs l)])]⟩, ⟨g3, 4, [(0, [.int .u64 0, .int .u64 0, .int .u64 0, .int .u64 0])]⟩] ∧ (i ≤ 32)) (32 - (0)) ?_ (fun n9 a9 W9 hI => ?_)
 ·
  exact ⟨0, _, _, _, _, _, _, _, _, _, _, _, _, _, _, _, _, _, _, _, rfl, rfl, M, (by omega)⟩
 clear M
 obtain ⟨i, u27_6, u27_24, u27_25, u27_26, u27_27, u27_28, u27_29, u27_30, u27_31, u27_32, u27_33, u27_34, u27_35, u27_36, u27_37, u27_38, u27_39, u27_40, u27_41, rfl, rfl, M, hi4⟩ := hI
 obtain ⟨w28, rfl⟩ : ∃ W8, W8 = W9 := ⟨_, rfl⟩
 refine qS fun _ k29 => ?_
 refine cM 1 fun Lk hLk => ?_
 refine vB (v := .bool (decide (i < 32))) (hr := run_lssN i 32 _ _) ?_
 refine hLk _ fun w31 M => ?_
 refine lZ k29 ?_
 refine sk fun _ k32 => ?_
 cases hc33 : (decide (i < 32))
 ·
  have ei : i = 32 := by have := of_decide_eq_false hc33; omega
  subst ei
  rw [wl_fel] at M
  refine cF ?_; refine eZ k24 ?_
  refine sk fun _ k34 => ?_
  refine wp_region_treeN (by kernel_rfl) (fun w36 Sw36 => ?_)
  replace M := M.sees Sw36
  refine any_first 1 (v := .slice (some ⟨g10, 0, none⟩) 64 g10c) (by rfl) (by kernel_rfl) nopanic_not (by rfl) (by exact yl_move rfl rfl) ?_
  simp only [Z0, Z6]
  refine any_step [0, 2] (by kernel_rfl) rfl (any_two ?_ (any_one ?_))
  ·
   refine any_opL 0 (by rfl) ?_
   simp only [Z7, Z8]
   refine lL ?_
   refine Z14 (Z22 ?_)
   refine any_step [2, 4] (by kernel_rfl) rfl (any_two ?_ (any_one ?_))
   ·
    refine any_opL 2 (by rfl) ?_
    simp only [Z7, Z8]
    refine cM 1 fun Lk hLk => ?_
    refine wpV_sliceL (lo := 32) (by rfl) rfl rfl rfl U929 info5 (by omega) Cg10 (by have := Cg10; omega) ?_
    simp only [Z2]
    simp only [Z0, Z6]
    refine hLk _ fun w38 M => ?_
    refine Z14 (Z22 ?_)
    refine any_step [3, 4] (by kernel_rfl) rfl (any_two ?_ (any_one ?_))
    ·
     refine any_opL 3 (by rfl) ?_
     simp only [Z7, Z8]
     refine cM 1 fun Lk hLk => ?_
     refine wpV_b2sD (off := 32) (l := (clampL S)) (by rfl) rfl rfl (by rw [hcl]) U929 U95 U99 (M.r 1 0 rfl rfl) (M.lt 1 rfl) ?_
     simp only [Z0, Z6]
     refine hLk _ fun w39 M => ?_
     refine Z14 (Z22 ?_)
     refine any_step [4] (by kernel_rfl) rfl (any_one ?_)
     refine any_opL 4 (by rfl) ?_
     simp only [Z7, Z8]
     refine sT 3 0 fun w40 M => ?_
     refine Z14 (Z22 ?_)
     refine any_first 5 (v := .string (bs ((clampL S).drop 32))) (by rfl) (by kernel_rfl) nopanic_not (by rfl) (by exact yl_assign rfl rfl) ?_
     simp only [Z0, Z6]
     refine any_end (by kernel_rfl) (Z15 ?_)
     refine k34 _ _ ?_; refine rt ?_
     refine bodyPost_ret (v := .tuple #[fe (leN ((clampL S).take 32)), .string (bs ((clampL S).drop 32))]) (res2 rfl (.cell (by rfl) (run_loadVar_mid _ _ _ _ (fel (leN ((clampL S).take 32))) _ (M.r 3 0 rfl rfl) U980 rfl info80)) (.tmp (by rfl))) rfl ?_
     have BE := M.below
     exact ⟨by (rw [clampL_drop]; try rfl), BE⟩
    refine any_opL 4 (by rfl) ?_
    simp only [Z7, Z8]
    refine sT 3 0 fun w41 M => ?_
    refine Z14 (Z22 ?_)
    refine any_step [3] (by kernel_rfl) rfl (any_one ?_)
    refine any_opL 3 (by rfl) ?_
    simp only [Z7, Z8]
    refine cM 1 fun Lk hLk => ?_
    refine wpV_b2sD (off := 32) (l := (clampL S)) (by rfl) rfl rfl (by rw [hcl]) U929 U95 U99 (M.r 1 0 rfl rfl) (M.lt 1 rfl) ?_
    simp only [Z0, Z6]
    refine hLk _ fun w42 M => ?_
    refine Z14 (Z22 ?_)
    refine any_first 5 (v := .string (bs ((clampL S).drop 32))) (by rfl) (by kernel_rfl) nopanic_not (by rfl) (by exact yl_assign rfl rfl) ?_
    simp only [Z0, Z6]
    refine any_end (by kernel_rfl) (Z15 ?_)
    refine k34 _ _ ?_; refine rt ?_
    refine bodyPost_ret (v := .tuple #[fe (leN ((clampL S).take 32)), .string (bs ((clampL S).drop 32))]) (res2 rfl (.cell (by rfl) (run_loadVar_mid _ _ _ _ (fel (leN ((clampL S).take 32))) _ (M.r 3 0 rfl rfl) U980 rfl info80)) (.tmp (by rfl))) rfl ?_
    have BE := M.below
    exact ⟨by (rw [clampL_drop]; try rfl), BE⟩
   refine any_opL 4 (by rfl) ?_
   simp only [Z7, Z8]
   refine sT 3 0 fun w43 M => ?_
   refine Z14 (Z22 ?_)
   refine any_step [2] (by kernel_rfl) rfl (any_one ?_)
   refine any_opL 2 (by rfl) ?_
   simp only [Z7, Z8]
   refine cM 1 fun Lk hLk => ?_
   refine wpV_sliceL (lo := 32) (by rfl) rfl rfl rfl U929 info5 (by omega) Cg10 (by have := Cg10; omega) ?_
   simp only [Z2]
   simp only [Z0, Z6]
   refine hLk _ fun w44 M => ?_
   refine Z14 (Z22 ?_)
   refine any_step [3] (by kernel_rfl) rfl (any_one ?_)
   refine any_opL 3 (by rfl) ?_
   simp only [Z7, Z8]
   refine cM 1 fun Lk hLk => ?_
   refine wpV_b2sD (off := 32) (l := (clampL S)) (by rfl) rfl rfl (by rw [hcl]) U929 U95 U99 (M.r 1 0 rfl rfl) (M.lt 1 rfl) ?_
   simp only [Z0, Z6]
   refine hLk _ fun w45 M => ?_
   refine Z14 (Z22 ?_)
   refine any_first 5 (v := .string (bs ((clampL S).drop 32))) (by rfl) (by kernel_rfl) nopanic_not (by rfl) (by exact yl_assign rfl rfl) ?_
   simp only [Z0, Z6]
   refine any_end (by kernel_rfl) (Z15 ?_)
   refine k34 _ _ ?_; refine rt ?_
   refine bodyPost_ret (v := .tuple #[fe (leN ((clampL S).take 32)), .string (bs ((clampL S).drop 32))]) (res2 rfl (.cell (by rfl) (run_loadVar_mid _ _ _ _ (fel (leN ((clampL S).take 32))) _ (M.r 3 0 rfl rfl) U980 rfl info80)) (.tmp (by rfl))) rfl ?_
   have BE := M.below
   exact ⟨by (rw [clampL_drop]; try rfl), BE⟩
  refine any_opL 2 (by rfl) ?_
  simp only [Z7, Z8]
  refine cM 1 fun Lk hLk => ?_
  refine wpV_sliceL (lo := 32) (by rfl) rfl rfl rfl U929 info5 (by omega) Cg10 (by have := Cg10; omega) ?_
  simp only [Z2]
  simp only [Z0, Z6]
  refine hLk _ fun w46 M => ?_
  refine Z14 (Z22 ?_)
  refine any_step [0, 3] (by kernel_rfl) rfl (any_two ?_ (any_one ?_))
  ·
   refine any_opL 0 (by rfl) ?_
   simp only [Z7, Z8]
   refine lL ?_
   refine Z14 (Z22 ?_)
   refine any_step [3, 4] (by kernel_rfl) rfl (any_two ?_ (any_one ?_))
   ·
    refine any_opL 3 (by rfl) ?_
    simp only [Z7, Z8]
    refine cM 1 fun Lk hLk => ?_
    refine wpV_b2sD (off := 32) (l := (clampL S)) (by rfl) rfl rfl (by rw [hcl]) U929 U95 U99 (M.r 1 0 rfl rfl) (M.lt 1 rfl) ?_
    simp only [Z0, Z6]
    refine hLk _ fun w48 M => ?_
    refine Z14 (Z22 ?_)
    refine any_step [4] (by kernel_rfl) rfl (any_one ?_)
    refine any_opL 4 (by rfl) ?_
    simp only [Z7, Z8]
    refine sT 3 0 fun w49 M => ?_
    refine Z14 (Z22 ?_)
    refine any_first 5 (v := .string (bs ((clampL S).drop 32))) (by rfl) (by kernel_rfl) nopanic_not (by rfl) (by exact yl_assign rfl rfl) ?_
    simp only [Z0, Z6]
    refine any_end (by kernel_rfl) (Z15 ?_)
    refine k34 _ _ ?_; refine rt ?_
    refine bodyPost_ret (v := .tuple #[fe (leN ((clampL S).take 32)), .string (bs ((clampL S).drop 32))]) (res2 rfl (.cell (by rfl) (run_loadVar_mid _ _ _ _ (fel (leN ((clampL S).take 32))) _ (M.r 3 0 rfl rfl) U980 rfl info80)) (.tmp (by rfl))) rfl ?_
    have BE := M.below
    exact ⟨by (rw [clampL_drop]; try rfl), BE⟩
   refine any_opL 4 (by rfl) ?_
   simp only [Z7, Z8]
   refine sT 3 0 fun w50 M => ?_
   refine Z14 (Z22 ?_)
   refine any_step [3] (by kernel_rfl) rfl (any_one ?_)
   refine any_opL 3 (by rfl) ?_
   simp only [Z7, Z8]
   refine cM 1 fun Lk hLk => ?_
   refine wpV_b2sD (off := 32) (l := (clampL S)) (by rfl) rfl rfl (by rw [hcl]) U929 U95 U99 (M.r 1 0 rfl rfl) (M.lt 1 rfl) ?_
   simp only [Z0, Z6]
   refine hLk _ fun w51 M => ?_
   refine Z14 (Z22 ?_)
   refine any_first 5 (v := .string (bs ((clampL S).drop 32))) (by rfl) (by kernel_rfl) nopanic_not (by rfl) (by exact yl_assign rfl rfl) ?_
   simp only [Z0, Z6]
   refine any_end (by kernel_rfl) (Z15 ?_)
   refine k34 _ _ ?_; refine rt ?_
   refine bodyPost_ret (v := .tuple #[fe (leN ((clampL S).take 32)), .string (bs ((clampL S).drop 32))]) (res2 rfl (.cell (by rfl) (run_loadVar_mid _ _ _ _ (fel (leN ((clampL S).take 32))) _ (M.r 3 0 rfl rfl) U980 rfl info80)) (.tmp (by rfl))) rfl ?_
   have BE := M.below
   exact ⟨by (rw [clampL_drop]; try rfl), BE⟩
  refine any_opL 3 (by rfl) ?_
  simp only [Z7, Z8]
  refine cM 1 fun Lk hLk => ?_
  refine wpV_b2sD (off := 32) (l := (clampL S)) (by rfl) rfl rfl (by rw [hcl]) U929 U95 U99 (M.r 1 0 rfl rfl) (M.lt 1 rfl) ?_
  simp only [Z0, Z6]
  refine hLk _ fun w52 M => ?_
  refine Z14 (Z22 ?_)
  refine any_step [0] (by kernel_rfl) rfl (any_one ?_)
  refine any_opL 0 (by rfl) ?_
  simp only [Z7, Z8]
  refine lL ?_
  refine Z14 (Z22 ?_)
  refine any_step [4] (by kernel_rfl) rfl (any_one ?_)
  refine any_opL 4 (by rfl) ?_
  simp only [Z7, Z8]
  refine sT 3 0 fun w54 M => ?_
  refine Z14 (Z22 ?_)
  refine any_first 5 (v := .string (bs ((clampL S).drop 32))) (by rfl) (by kernel_rfl) nopanic_not (by rfl) (by exact yl_assign rfl rfl) ?_
  simp only [Z0, Z6]
  refine any_end (by kernel_rfl) (Z15 ?_)
  refine k34 _ _ ?_; refine rt ?_
  refine bodyPost_ret (v := .tuple #[fe (leN ((clampL S).take 32)), .string (bs ((clampL S).drop 32))]) (res2 rfl (.cell (by rfl) (run_loadVar_mid _ _ _ _ (fel (leN ((clampL S).take 32))) _ (M.r 3 0 rfl rfl) U980 rfl info80)) (.tmp (by rfl))) rfl ?_
  have BE := M.below
  exact ⟨by (rw [clampL_drop]; try rfl), BE⟩
 have hi : i < 32 := of_decide_eq_true hc33
 have hi9 : i < (clampL S).length := by omega
 have hpb := put_byte (leN_take_lt (clampL S) i) (byteN_lt (clampL S) i)
 refine cT ?_; refine sZ k32 ?_
 refine sk fun _ k55 => ?_
 refine wp_block ?_
 refine qS fun _ k56 => ?_
 refine lM ?_; refine lg ?_; refine lZ k56 ?_
 refine rG 15 [] fun Lk hLk => ?_
 refine vM ?_
 refine vB (v := .int .i64 (i / 8 : Nat)) (hr := run_quo (by decide) ((congrArg _ (tdiv_nat i 8)).trans (wrap_nat _ (by omega)))) ?_
 refine wpV_idx (n := i / 8) (by rfl) rfl rfl rfl U980 info40 (by omega) ?_
 simp only [Z2]
 simp only [Z0, Z6]
 refine vQ (v := .int .u64 ((limbN (leN ((clampL S).take i)) (i / 8) : Nat) : Int)) (hc := (zadd ((M.r 0 0 rfl rfl) _ _ (wl_get _ _ (by omega))))) (hb := (M.lt 0 rfl)) ?_
 refine vM ?_; refine vM ?_
 refine wpV_idxs (n := i) (by rfl) rfl rfl rfl U929 info5 (by omega) ?_
 simp only [Z2]
 simp only [Z0, Z6]
 refine vQ (v := .int .u8 (byteN (clampL S) i : Nat)) (hc := (zadd ((M.r 1 0 rfl rfl) _ _ (bcells_at (by omega))))) (hb := (M.lt 1 rfl)) ?_
 refine wpV_conv (d := .bool) (e := ((byteN (clampL S) i : Nat) : Int)) (by rfl) rfl rfl (run_conv_int U95 Tryd.underlying40 (by have := byteN_lt (clampL S) i; rw [wrap_u64]; omega)) ?_
 simp only [Z0, Z6]
 refine vM ?_
 refine vB (v := .int .i64 (i % 8 : Nat)) (hr := run_rem (by decide) (tmod_nat i 8)) ?_
 refine vB (v := .int .i64 (8 * (i % 8) : Nat)) (hr := run_mul (by simp only [IntKind.wrap_i64]; omega)) ?_
 refine vB (v := .int .u64 (byteN (clampL S) i * 2 ^ (8 * (i % 8)) : Nat)) (hr := run_shl (by show _ ≤ 64; omega) (by have := hpb.2.1; rw [wrap_u64]; omega)) ?_
 refine vB (v := .int .u64 ((limbN (leN ((clampL S).take i)) (i / 8) + byteN (clampL S) i * 2 ^ (8 * (i % 8)) : Nat) : Int)) (hr := run_or (((bits_nat64 _ _ (limbN_lt _ _) (by have := hpb.2.1; simp only [Nat.reducePow] at *; omega)).2).trans (congrArg _ hpb.1))) ?_
 refine wpV_idx (n := i / 8) (by rfl) rfl rfl rfl U980 info40 (by omega) ?_
 simp only [Z2]
 simp only [Z0, Z6]
 refine hLk _ fun w59 M => ?_
 refine lS1 (g := g22) (off := i / 8) (n := 4) (v := .int .u64 ((limbN (leN ((clampL S).take i)) (i / 8) + byteN (clampL S) i * 2 ^ (8 * (i % 8)) : Nat) : Int)) (M.t 0 rfl) (by omega) info40 rfl (fun w60 P R T => ?_)
 replace M := M.put1 (j := i / 8) 0 rfl P R T (Z2 _).symm
 simp only [Z6] at M
 rw [wl_set hpb.2.2 hpb.2.1, ← leN_take_succ (clampL S) hi9] at M
 refine lZ k55 ?_; refine Z13 ?_
 refine cM 1 fun Lk hLk => ?_
 refine vB (v := .int .i64 (i + 1 : Nat)) (hr := run_add (by simp only [IntKind.wrap_i64]; omega)) ?_
 refine hLk _ fun w62 M => ?_
 refine lM ?_
 refine Z14 (Z15 ?_)
 refine Exists.intro _ ⟨?_, (i + 1), _, _, _, _, _, _, _, _, _, _, _, _, _, _, _, _, _, _, _, rfl, rfl, M, (by omega)⟩
 omega
theorem secret_c {l : List UInt8} {w : World} (hll : l.length ≤ 9223372036854775680) (L2 : 2 < w.heap.size) (R2_0 : w.rangeAt 2 0 kcellsq) :
  Calls Tryd.prog 45 #[.string (bs l)] w fun e w' => e = .returned (.tuple #[fe (edN l), .string (bs (edP l))]) ∧ Below w.heap.size w w' :=
 secret_a hll rfl (sha_lenq l) L2 R2_0
set_option maxHeartbeats 2000000 in
theorem times_c {n : Nat} {w : World} (hn : n < 2 ^ 256) :
  Calls Tryd.prog 46 #[fe n] w fun e w' => e = .returned (.string (bs (edT n))) ∧ Below w.heap.size w w' := by
 go_enter Tryd.func46, Tryd.ntmps46
 have M := Mem.start w
 refine qS fun _ k1 => ?_
 refine nV 4 fun g3 w4 M => ?_
 refine lg ?_; refine lZ k1 ?_
 refine sk fun _ k5 => ?_
 refine rH 7 [5] fun Lk hLk => ?_
 refine vL ?_
 refine vC (fun W => Base_c) ?_
 refine vC (fun W => Mul_ok hn baseP_ok rightP_base) ?_
 refine vM ?_; refine vE ?_; refine vE ?_; refine vW ?_; refine hLk _ ?_; refine nA ?_
 refine n1s (segs := [(0, [.int .u64 0, .int .u64 0, .int .u64 0, .int .u64 0]), (4, [.int .u64 0, .int .u64 0, .int .u64 0, .int .u64 0]), (8, [.int .u64 0, .int .u64 0, .int .u64 0, .int .u64 0]), (12, [.int .u64 0, .int .u64 0, .int .u64 0, .int .u64 0])]) 16 fun g7 w8 M => ?_
 refine sTs (segs' := [(0, fel (mulR n baseP 256).x), (4, fel (mulR n baseP 256).y), (8, fel (mulR n baseP 256).z), (12, fel (mulR n baseP 256).t)]) 0 fun w9 M => ?_
 refine lg ?_; refine lZ k5 ?_
 refine qS fun _ k10 => ?_
 refine cM 5 fun Lk hLk => ?_
 refine vP (pvLf (cs := fel (mulR n baseP 256).x ++ (fel (mulR n baseP 256).y) ++ (fel (mulR n baseP 256).z) ++ (fel (mulR n baseP 256).t)) (range_join (range_join (range_join (M.r 0 0 rfl rfl) (M.r 0 1 rfl rfl) (by simp [flen])) (M.r 0 2 rfl rfl) (by simp [flen])) (M.r 0 3 rfl rfl) (by simp [flen])) (M.lt 0 rfl)) ?_
 refine vC (fun W => Bytes_ok (mulR_ok ..) (right_mulR rightP_base 256)) ?_
 refine vM ?_; refine vE ?_; refine vE ?_
 refine hLk _ fun w12 M => ?_
 refine lg ?_; refine lg ?_; refine lZ k10 ?_
 refine qS fun _ k13 => ?_
 refine lM ?_; refine lg ?_; refine lZ k13 ?_; refine rt1 ?_
 exact ⟨rfl, M.below⟩
set_option maxHeartbeats 1000000 in
theorem wide_q {ps : List (List UInt8)} {g0 cg0 : Nat} {w : World} (hq : ps.length ≤ 4611686018427387904) (hp : ∀ k, (ps.getD k []).length ≤ 9223372036854775680) (L2 : 2 < w.heap.size) (R2_0 : w.rangeAt 2 0 kcellsq) (hcg0 : ps.length ≤ cg0) (Lg0 : g0 < w.heap.size) (Rg0_0 : w.rangeAt g0 0 (scells ps)) :
  Calls Tryd.prog 47 #[.slice (some ⟨g0, 0, none⟩) ps.length cg0] w fun e w' => e = .returned (fe (edR ps)) ∧ Below w.heap.size w w' := by
 go_enter Tryd.func47, Tryd.ntmps47
 have M := Mem.start w
 refine qS fun _ k1 => ?_
 refine nV 4 fun g3 w4 M => ?_
 refine lZ k1 ?_
 refine qS fun _ k5 => ?_
 refine lM ?_
 refine cM 5 fun Lk hLk => ?_
 refine vCh (v := .string (bs (shaq ps.flatten))) (args := #[.slice (some ⟨g0, 0, none⟩) ps.length cg0]) (fun W hW => (by have h := sum_cq (ps := ps) (w := W) hq hp ((M.sees hW).oldL L2) ((M.sees hW).oldR R2_0 L2) hcg0 ((M.sees hW).oldL Lg0) ((M.sees hW).oldR Rg0_0 Lg0); exact h)) ?_
 refine vC (v := .tuple #[fe (edR ps), .int .i64 0]) (fun W => swide_c (l := shaq ps.flatten) (by rw [sha_lenq]; decide) W) ?_
 refine vM ?_; refine vE ?_; refine vE ?_
 refine hLk _ fun w7 M => ?_
 refine nV 4 fun g8 w9 M => ?_
 refine sT 0 0 fun w10 M => ?_
 refine lg ?_; refine lZ k5 ?_
 refine qS fun _ k11 => ?_
 refine lL ?_
 refine sT 1 0 fun w14 M => ?_
 refine lZ k11 ?_; refine rt ?_
 refine bodyPost_ret (v := fe (edR ps)) (res1 rfl (.cell (by rfl) (run_loadVar_mid _ _ _ _ (fel (edR ps)) _ (M.r 1 0 rfl rfl) U980 rfl info80))) rfl ?_
 exact ⟨rfl, M.below⟩
set_option maxHeartbeats 2000000 in
theorem Sign_ok {l m : List UInt8} {w : World} (hl : l.length = 32) (hm : m.length ≤ 9223372036854775680) (L2 : 2 < w.heap.size) (R2_0 : w.rangeAt 2 0 kcellsq) :
  Calls Tryd.prog 17 #[.string (bs l), .string (bs m)] w fun e w' => e = .returned (.tuple #[.string (bs (edS l m)), .int .i64 0]) ∧ Below w.heap.size w w' := by
 go_enter Tryd.func17, Tryd.ntmps17
 have M := Mem.start w
 refine qS fun _ k1 => ?_
 refine lg ?_; refine lg ?_; refine lZ k1 ?_
 refine sk fun _ k3 => ?_
 refine qS fun _ k4 => ?_
 refine lM ?_
 refine cM 2 fun Lk hLk => ?_
 refine wpV_lenS (by rfl) rfl rfl rfl U99 ?_
 simp only [Z0, Z6]
 refine vB (v := .bool false) (hr := fun W => (run_neqN l.length 32 _ _ W).trans (by rw [(decide_eq_false (fun h => h hl))])) ?_
 refine hLk _ fun w6 M => ?_
 refine lZ k4 ?_; refine cF ?_; refine sZ k3 ?_
 refine qS fun _ k7 => ?_
 refine lM ?_
 refine cM 4 fun Lk hLk => ?_
 refine vCh (v := .tuple #[fe (edN l), .string (bs (edP l))]) (fun W hW => secret_c (l := l) (by omega) ((M.sees hW).oldL L2) ((M.sees hW).oldR R2_0 L2)) ?_
 refine vM ?_; refine vE ?_; refine vE ?_
 refine hLk _ fun w9 M => ?_
 refine nV 4 fun g10 w11 M => ?_
 refine sT 0 0 fun w12 M => ?_
 refine lg ?_; refine lZ k7 ?_
 refine qS fun _ k13 => ?_
 refine lM ?_; refine lM ?_
 refine wpL_rowN (vs := [.string (bs (edP l)), .string (bs m)]) (z := .string { data := #[] }) (bytes := 16) (by rfl) (by rfl) U937 (by kernel_rfl) (by decide) (by kernel_rfl) (fun g15 w16 Sw16 Hg15 Bg15 => ?_)
 replace M := ((M.sees Sw16).add (N := 2) (cs := [.string (bs (edP l)), .string (bs m)]) (M.ge Hg15) (M.fresh Hg15) Bg15 rfl)
 clear Bg15
 simp only [Z0, Z6]
 refine cM 1 fun Lk hLk => ?_
 refine vCh (v := fe (edR [edP l, m])) (fun W hW => wide_q (ps := [edP l, m]) (w := W) (by simp) (getD_all (all2 (by rw [edP_len]; decide) hm)) ((M.sees hW).oldL L2) ((M.sees hW).oldR R2_0 L2) (Nat.le_refl _) ((M.sees hW).lt 0 rfl) ((M.sees hW).r 0 0 rfl rfl)) ?_
 refine hLk _ fun w17 M => ?_
 refine nV 4 fun g18 w19 M => ?_
 refine sT 0 0 fun w20 M => ?_
 refine lZ k13 ?_
 refine qS fun _ k21 => ?_
 refine lL ?_
 refine cM 1 fun Lk hLk => ?_
 refine vC (fun W => times_c (edR_lt ..)) ?_
 refine hLk _ fun w23 M => ?_
 refine lg ?_; refine lZ k21 ?_
 refine qS fun _ k24 => ?_
 refine lM ?_; refine lL ?_
 refine cM 1 fun Lk hLk => ?_
 refine vC (fun W => times_c (edN_lt ..)) ?_
 refine hLk _ fun w26 M => ?_
 refine lM ?_
 refine wpL_rowN (vs := [.string (bs (edT (edR [edP l, m]))), .string (bs (edT (edN l))), .string (bs m)]) (z := .string { data := #[] }) (bytes := 16) (by rfl) (by rfl) U937 (by kernel_rfl) (by decide) (by kernel_rfl) (fun g27 w28 Sw28 Hg27 Bg27 => ?_)
 replace M := ((M.sees Sw28).add (N := 3) (cs := [.string (bs (edT (edR [edP l, m]))), .string (bs (edT (edN l))), .string (bs m)]) (M.ge Hg27) (M.fresh Hg27) Bg27 rfl)
 clear Bg27
 simp only [Z0, Z6]
 refine cM 1 fun Lk hLk => ?_
 refine vCh (v := fe (edR [edT (edR [edP l, m]), edT (edN l), m])) (fun W hW => wide_q (ps := [edT (edR [edP l, m]), edT (edN l), m]) (w := W) (by simp) (getD_all (all3 (by rw [edT_len]; decide) (by rw [edT_len]; decide) hm)) ((M.sees hW).oldL L2) ((M.sees hW).oldR R2_0 L2) (Nat.le_refl _) ((M.sees hW).lt 0 rfl) ((M.sees hW).r 0 0 rfl rfl)) ?_
 refine hLk _ fun w29 M => ?_
 refine nV 4 fun g30 w31 M => ?_
 refine sT 0 0 fun w32 M => ?_
 refine lZ k24 ?_
 refine sk fun _ k33 => ?_
 refine rG 8 [] fun Lk hLk => ?_
 refine vM ?_; refine vL ?_; refine vL ?_; refine vL ?_
 refine vC (smul_c (edR_lt ..) (edN_lt ..)) ?_
 refine vC (sadd_c (edR_lt ..) (smul_lt ..)) ?_
 refine vC (sbytes_c (sadd_lt ..)) ?_
 refine wpV_binS (v := .string (bs ((edT (edR [edP l, m])) ++ (bytesN 32 (restS (sadd (edR [edP l, m]) (smul (edR [edT (edR [edP l, m]), edT (edN l), m]) (edN l)))))))) (by rfl) rfl rfl rfl (run_add_bs _ _ _ (by rw [edT_len, bytesN_len]; decide)) ?_
 simp only [Z0, Z6]
 refine hLk _ fun w35 M => ?_
 refine lg ?_; refine lg ?_; refine lZ k33 ?_; refine rt2 ?_
 exact ⟨rfl, M.below⟩
end Go.Proofs.Yc

