import Derived.WalkKit
import Derived.WalkSpells
import Derived.Laws.Pointers
import Derived.RowKit3
import Derived.Below
import Derived.Outline
import Derived.LoopN
import Derived.Lib.Hide
import Derived.Handy
import Derived.Laws.Bits64b
import Derived.Test.YtpgpjoldelobdaaDoorSq4
import Derived.Test.YtpgpjoldelobdaaDoorSteps13
import Derived.Test.YtpgpjoldelobdaaDoorBld
import Derived.Test.YtpgpjoldelobdaaDoorAdds2
import Derived.Test.YtpgpjoldelobdaaDoorEqS
import Derived.Test.YtpgpjoldelobdaaDoorShq
set_option linter.unusedSimpArgs false
set_option linter.unusedVariables false
namespace Go.Proofs.Yc
open Go Go.RowKit Go.Proofs.Num
open Tryd renaming func46 → G946, func47 → G947, underlying29 → U929, underlying37 → U937, underlying40 → U940, underlying5 → U95, underlying80 → U980, underlying9 → U99
open Go.Proofs.Num  renaming putT → Z0
open Nat renaming zero_add → Z2
open List renaming set → Z6, take → Z7, drop → Z8
open Go renaming undef → Z9, wp_seq_k → Z10, wp_cond_true → Z11, wp_cond_false → Z12
open Go.Proofs.Num renaming wp_region_seq → Z13, wpL_nil → Z14, no_panic → Z15, wpV_nil → Z19, then_normal → Z22, wpV_callf → Z25, wpN_skip → Z28, wpN_nil → Z29, wpV_extract → Z32, wpV_load1 → Z34, wpL_var → Z36
attribute [local irreducible] wpV wpN wpList
open Go.Proofs.Ya
theorem rightP_base : rightP baseP = true := by decide +kernel
theorem andNot7_fin : ∀ b : Fin 256, bits .andNot .u8 (b.val : Int) 7 = ((b.val / 8 * 8 : Nat) : Int) := by decide +kernel
theorem andNot_7 {b : Nat} (h : b < 256) : bits .andNot .u8 (b : Int) 7 = ((b / 8 * 8 : Nat) : Int) := andNot7_fin ⟨b, h⟩
theorem or64_fin : ∀ b : Fin 256, bits .or .u8 ((b.val % 128 : Nat) : Int) 64 = ((b.val % 64 + 64 : Nat) : Int) := by decide +kernel
theorem or_64 {b : Nat} (h : b < 256) : bits .or .u8 ((b % 128 : Nat) : Int) 64 = ((b % 64 + 64 : Nat) : Int) := or64_fin ⟨b, h⟩
theorem flat1q (a : List UInt8) : [a].flatten = a := by simp
theorem all1 {a : List UInt8} {B : Nat} (h : a.length ≤ B) : ∀ l ∈ [a], l.length ≤ B := fun l hl => by rw [List.mem_singleton.1 hl]; exact h
theorem all2 {a b : List UInt8} {B : Nat} (h : a.length ≤ B) (k : b.length ≤ B) : ∀ l ∈ [a, b], l.length ≤ B := fun l hl => by
 rcases List.mem_cons.1 hl with rfl | hl
 ·
  exact h
 exact all1 k l hl
theorem all3 {a b c : List UInt8} {B : Nat} (h : a.length ≤ B) (k : b.length ≤ B) (m : c.length ≤ B) : ∀ l ∈ [a, b, c], l.length ≤ B := fun l hl => by
 rcases List.mem_cons.1 hl with rfl | hl
 ·
  exact h
 exact all2 k m l hl
set_option maxHeartbeats 2000000 in
theorem secret_a {l S : List UInt8} {w : World} (hll : l.length ≤ 9223372036854775680) (hS : shaq l = S) (hl : S.length = 64) (L2 : 2 < w.heap.size) (R2_0 : w.rangeAt 2 0 kcellsq) :
  Calls Tryd.prog 45 #[.string (bs l)] w fun e w' => e = .returned (.tuple #[fe (leN ((clampL S).take 32)), .string (bs (S.drop 32))]) ∧ Below w.heap.size w w' := by
 have hb0 := byteN_lt S 0; have hb31 := byteN_lt S 31
 have hcl : (clampL S).length = 64 := by rw [clampL_len]; exact hl
 have hnum : leN ((clampL S).take 32) < 2 ^ 256 := Nat.lt_of_lt_of_eq (leN_take_lt (clampL S) 32) (by decide)
 go_enter Tryd.func45, Tryd.ntmps45
 have M := Mem.start w
 refine Z10 (fun K1 hK1 => Z13 ?_)
 refine Z36 (t := 80) (cs := [.int .u64 0, .int .u64 0, .int .u64 0, .int .u64 0]) (by rfl) (fun W => ?_) (fun g3 w4 Sw4 Hg3 Bg3 => ?_)
 ·
  go_simp
 replace M := ((M.sees Sw4).add (N := 4) (cs := [.int .u64 0, .int .u64 0, .int .u64 0, .int .u64 0]) (M.ge Hg3) (M.fresh Hg3) Bg3 rfl)
 clear Bg3
 simp only [Z0, Z6]
 refine lAs (v := .string (bs ([]))) ?_
 simp only [Z0, Z6]
 refine lNp (hK1 _ _ ?_)
 refine Z10 (fun K5 hK5 => Z13 ?_)
 refine lMv (v := .string (bs l)) ?_
 simp only [Z0, Z6]
 refine wpL_rowN (vs := [.string (bs l)]) (z := .string { data := #[] }) (bytes := 16) (by rfl) (by rfl) U937 (by kernel_rfl) (by decide) (by kernel_rfl) (fun g7 w8 Sw8 Hg7 Bg7 => ?_)
 replace M := ((M.sees Sw8).add (N := 1) (cs := [.string (bs l)]) (M.ge Hg7) (M.fresh Hg7) Bg7 rfl)
 clear Bg7
 simp only [Z0, Z6]
 refine lCh 1 (fun Lk hLk => ?_)
 refine Z25 (v := .string (bs S)) (args := #[.slice (some ⟨g7, 0, none⟩) 1 1]) (by rfl) rfl Tryd.func82 (by kernel_rfl) (by kernel_rfl) rfl (fun W hW => (by have h := sum_cq (ps := [l]) (w := W) (by simp) (getD_all (all1 hll)) ((M.sees hW).oldL L2) ((M.sees hW).oldR R2_0 L2) (Nat.le_refl _) ((M.sees hW).lt 0 rfl) ((M.sees hW).r 0 0 rfl rfl); rw [flat1q] at h; rw [hS] at h; exact h)) ?_
 simp only [Z0, Z6]
 refine Z19 (hLk _ (fun w9 Sw9 => ?_))
 simp only [Z7, Z8]
 replace M := M.sees Sw9
 refine wpL_s2b (l := S) (by rfl) (by rfl) (by rfl) U99 U929 U95 (by rw [hl]; decide) (fun g10 g10c w11 Sw11 Hg10 Cg10 R T L => ?_)
 replace M := (M.sees Sw11).addR (M.ge Hg10) (M.fresh Hg10) T R L
 clear T R L
 rw [show S.length = 64 from hl] at Cg10
 rw [show S.length = 64 from hl]
 simp only [Z0, Z6]
 refine lAs (v := .slice (some ⟨g10, 0, none⟩) 64 g10c) ?_
 simp only [Z0, Z6]
 refine lNp (hK5 _ _ ?_)
 refine Z10 (fun K12 hK12 => Z13 ?_)
 refine lMv (v := .slice (some ⟨g10, 0, none⟩) 64 g10c) ?_
 simp only [Z0, Z6]
 refine lCh 4 (fun Lk hLk => ?_)
 refine wpV_idxs (n := 0) (by rfl) rfl rfl rfl U929 info5 (by omega) ?_
 simp only [Z2]
 simp only [Z0, Z6]
 refine Z34 (v := .int .u8 (byteN S 0 : Nat)) (by rfl) rfl rfl (zadd ((M.r 0 0 rfl rfl) _ _ (bcells_at (by omega)))) (M.lt 0 rfl) U95 rfl ?_
 simp only [Z0, Z6]
 refine vBn (v := .int .u8 (byteN S 0 / 8 * 8 : Nat)) (hr := fun W => run_andNot (andNot_7 hb0) W) ?_
 simp only [Z0, Z6]
 refine wpV_idxs (n := 0) (by rfl) rfl rfl rfl U929 info5 (by omega) ?_
 simp only [Z2]
 simp only [Z0, Z6]
 refine Z19 (hLk _ (fun w14 Sw14 => ?_))
 simp only [Z7, Z8]
 replace M := M.sees Sw14
 refine lS1 (g := g10) (off := 0) (n := g10c) (v := .int .u8 (byteN S 0 / 8 * 8 : Nat)) (M.t 0 rfl) (by omega) info5 rfl (fun w15 P R T => ?_)
 replace M := M.put1 (j := 0) 0 rfl P R T (Z2 _).symm
 simp only [Z6] at M
 rw [bcells_put _ 0 (by omega)] at M
 refine lNp (hK12 _ _ ?_)
 refine Z10 (fun K16 hK16 => Z13 ?_)
 refine lMv (v := .slice (some ⟨g10, 0, none⟩) 64 g10c) ?_
 refine lMv (v := .slice (some ⟨g10, 0, none⟩) 64 g10c) ?_
 simp only [Z0, Z6]
 refine lCh 5 (fun Lk hLk => ?_)
 refine wpV_idxs (n := 31) (by rfl) rfl rfl rfl U929 info5 (by omega) ?_
 simp only [Z2]
 simp only [Z0, Z6]
 refine Z34 (v := .int .u8 (byteN S 31 : Nat)) (by rfl) rfl rfl (zadd ((M.r 0 0 rfl rfl) _ _ (by rw [bcells_at (by rw [List.length_set]; omega), byteN_set_ne _ _ (by decide)]))) (M.lt 0 rfl) U95 rfl ?_
 simp only [Z0, Z6]
 refine vBn (v := .int .u8 (byteN S 31 % 128 : Nat)) (hr := fun W => run_andNot (andNot_128 hb31) W) ?_
 simp only [Z0, Z6]
 refine vBn (v := .int .u8 (byteN S 31 % 64 + 64 : Nat)) (hr := fun W => run_or (or_64 hb31) W) ?_
 simp only [Z0, Z6]
 refine wpV_idxs (n := 31) (by rfl) rfl rfl rfl U929 info5 (by omega) ?_
 simp only [Z2]
 simp only [Z0, Z6]
 refine Z19 (hLk _ (fun w18 Sw18 => ?_))
 simp only [Z7, Z8]
 replace M := M.sees Sw18
 refine lS1 (g := g10) (off := 31) (n := g10c) (v := .int .u8 (byteN S 31 % 64 + 64 : Nat)) (M.t 0 rfl) (by omega) info5 rfl (fun w19 P R T => ?_)
 replace M := M.put1 (j := 31) 0 rfl P R T (Z2 _).symm
 simp only [Z6] at M
 rw [show (bcells (S.set 0 (UInt8.ofNat (byteN S 0 / 8 * 8)))).set 31 (.int .u8 (byteN S 31 % 64 + 64 : Nat)) = bcells (clampL S) from bcells_put _ 31 (by omega)] at M
 refine lNp (hK16 _ _ ?_)
 refine Z10 (fun K20 hK20 => Z13 ?_)
 refine Z36 (t := 80) (cs := [.int .u64 0, .int .u64 0, .int .u64 0, .int .u64 0]) (by rfl) (fun W => ?_) (fun g22 w23 Sw23 Hg22 Bg22 => ?_)
 ·
  go_simp
 replace M := ((M.sees Sw23).add (N := 4) (cs := [.int .u64 0, .int .u64 0, .int .u64 0, .int .u64 0]) (M.ge Hg22) (M.fresh Hg22) Bg22 rfl)
 clear Bg22
 simp only [Z0, Z6]
 refine lNp (hK20 _ _ ?_)
 refine Z10 (fun K24 hK24 => ?_)
 refine Z10 (fun K25 hK25 => Z13 ?_)
 refine lMv (v := .int .i64 0) ?_
 simp only [Z0, Z6]
 refine lNp (hK25 _ _ ?_)
 refine wp_block ?_
 replace M := M.read1 (cs := wl 4 (leN ((clampL S).take 0))) (o := 0) 0 rfl (by rw [show leN ((clampL S).take 0) = 0 from rfl, wl_zero]; exact (M.r 0 0 rfl rfl))
 simp only [Z6] at M
 refine wp_loop_ghost (fun n9 a9 W9 => ∃ (i : Nat) (u27 : Nat → Value), n9 = 32 - i ∧ a9 = { tmps := #[.string (bs l), Z9, .pointer (some ⟨g3, 0, none⟩), .string (bs ([])), .slice (some ⟨g10, 0, none⟩) 64 g10c, .pointer (some ⟨g22, 0, none⟩), u27 6, .string (bs l), .slice (some ⟨g7, 0, none⟩) 1 1, .string (bs S), .slice (some ⟨g10, 0, none⟩) 64 g10c, .slice (some ⟨g10, 0, none⟩) 64 g10c, .pointer (some ⟨g10, 0, none⟩), .int .u8 (byteN S 0 : Nat), .int .u8 (byteN S 0 / 8 * 8 : Nat), .pointer (some ⟨g10, 0, none⟩), .slice (some ⟨g10, 0, none⟩) 64 g10c, .slice (some ⟨g10, 0, none⟩) 64 g10c, .pointer (some ⟨g10, 31, none⟩), .int .u8 (byteN S 31 : Nat), .int .u8 (byteN S 31 % 128 : Nat), .int .u8 (byteN S 31 % 64 + 64 : Nat), .pointer (some ⟨g10, 31, none⟩), .int .i64 i, u27 24, u27 25, u27 26, u27 27, u27 28, u27 29, u27 30, u27 31, u27 32, u27 33, u27 34, u27 35, u27 36, u27 37, u27 38, u27 39, u27 40, u27 41, Z9, Z9, Z9, Z9], defers := [] } ∧ Mem [] w W9 [⟨g22, 4, [(0, wl 4 (leN ((clampL S).take i)))]⟩, ⟨g10, g10c, [(0, bcells (clampL S))]⟩, ⟨g7, 1, [(0, [.string (bs l)])]⟩, ⟨g3, 4, [(0, [.int .u64 0, .int .u64 0, .int .u64 0, .int .u64 0])]⟩] ∧ (i ≤ 32)) (32 - (0)) ?_ (fun n9 a9 W9 hI => ?_)
 ·
  exact ⟨0, (fun q9 => (#[Z9, Z9, Z9, Z9, Z9, Z9, Z9, Z9, Z9, Z9, Z9, Z9, Z9, Z9, Z9, Z9, Z9, Z9, Z9, Z9, Z9, Z9, Z9, Z9, Z9, Z9, Z9, Z9, Z9, Z9, Z9, Z9, Z9, Z9, Z9, Z9, Z9, Z9, Z9, Z9, Z9, Z9] : Array Value).getD q9 Z9), rfl, rfl, M, (by omega)⟩
 clear M
 obtain ⟨i, u27, rfl, rfl, M, hi4⟩ := hI
 obtain ⟨w28, rfl⟩ : ∃ W8, W8 = W9 := ⟨_, rfl⟩
 refine Z10 (fun K29 hK29 => Z13 ?_)
 refine lCh 1 (fun Lk hLk => ?_)
 refine vBn (v := .bool (decide (i < 32))) (hr := fun W => run_lssN i 32 _ _ W) ?_
 simp only [Z0, Z6]
 refine Z19 (hLk _ (fun w31 Sw31 => ?_))
 simp only [Z7, Z8]
 replace M := M.sees Sw31
 refine lNp (hK29 _ _ ?_)
 refine Z10 (fun K32 hK32 => ?_)
 cases hc33 : (decide (i < 32))
 ·
  have ei : i = 32 := by have := of_decide_eq_false hc33; omega
  subst ei
  rw [wl_fel] at M
  refine Z12 rfl ?_
  refine wp_exit ?_
  refine hK24 _ _ ?_
  refine Z10 (fun K34 hK34 => ?_)
  refine wp_region_treeN (by kernel_rfl) (fun w36 Sw36 => ?_)
  replace M := M.sees Sw36
  refine any_first 1 (v := .slice (some ⟨g10, 0, none⟩) 64 g10c) (by rfl) (by kernel_rfl) nopanic_not (by rfl) (by exact yl_move rfl rfl) ?_
  simp only [Z0, Z6]
  refine any_step [0, 2] (by kernel_rfl) rfl (any_two ?_ (any_one ?_))
  ·
   refine any_opL 0 (by rfl) ?_
   simp only [Z7, Z8]
   refine lCh 1 (fun Lk hLk => ?_)
   refine vLd (cs := fel (leN ((clampL S).take 32))) (M.r 0 0 rfl rfl) (M.lt 0 rfl) U980 info80 ?_
   simp only [Z0, Z6]
   refine Z19 (hLk _ (fun w37 Sw37 => ?_))
   simp only [Z7, Z8]
   replace M := M.sees Sw37
   refine Z14 (Z22 ?_)
   refine any_step [2, 4] (by kernel_rfl) rfl (any_two ?_ (any_one ?_))
   ·
    refine any_opL 2 (by rfl) ?_
    simp only [Z7, Z8]
    refine lCh 1 (fun Lk hLk => ?_)
    refine wpV_sliceL (lo := 32) (by rfl) rfl rfl rfl U929 info5 (by omega) Cg10 (by have := Cg10; omega) ?_
    simp only [Z2]
    simp only [Z0, Z6]
    refine Z19 (hLk _ (fun w38 Sw38 => ?_))
    simp only [Z7, Z8]
    replace M := M.sees Sw38
    refine Z14 (Z22 ?_)
    refine any_step [3, 4] (by kernel_rfl) rfl (any_two ?_ (any_one ?_))
    ·
     refine any_opL 3 (by rfl) ?_
     simp only [Z7, Z8]
     refine lCh 1 (fun Lk hLk => ?_)
     refine wpV_b2sD (off := 32) (l := (clampL S)) (by rfl) rfl rfl (by rw [hcl]) U929 U95 U99 (M.r 1 0 rfl rfl) (M.lt 1 rfl) ?_
     simp only [Z0, Z6]
     refine Z19 (hLk _ (fun w39 Sw39 => ?_))
     simp only [Z7, Z8]
     replace M := M.sees Sw39
     refine Z14 (Z22 ?_)
     refine any_step [4] (by kernel_rfl) rfl (any_one ?_)
     refine any_opL 4 (by rfl) ?_
     simp only [Z7, Z8]
     refine lSt (g := g3) (off := 0) (n := 4) (cs := fel (leN ((clampL S).take 32))) (M.t 3 rfl) (by simp [flen]) info80 (fel_one _) (fun w40 P R T => ?_)
     replace M := M.putS 3 0 rfl P R T rfl ⟨.inl rfl, trivial⟩
     simp only [Z6] at M
     refine Z14 (Z22 ?_)
     refine any_first 5 (v := .string (bs ((clampL S).drop 32))) (by rfl) (by kernel_rfl) nopanic_not (by rfl) (by exact yl_assign rfl rfl) ?_
     simp only [Z0, Z6]
     refine any_end (by kernel_rfl) (Z15 ?_)
     refine hK34 _ _ ?_
     refine wp_ret ?_
     repeat (first | with_reducible refine then_ret ?_ | with_reducible refine inblock_ret ?_)
     refine bodyPost_ret (v := .tuple #[fe (leN ((clampL S).take 32)), .string (bs ((clampL S).drop 32))]) (res2 rfl (.cell (by rfl) (run_loadVar_mid _ _ _ _ (fel (leN ((clampL S).take 32))) _ (M.r 3 0 rfl rfl) U980 rfl info80)) (.tmp (by rfl))) rfl ?_
     have BE := M.below
     exact ⟨by rw [clampL_drop], BE⟩
    refine any_opL 4 (by rfl) ?_
    simp only [Z7, Z8]
    refine lSt (g := g3) (off := 0) (n := 4) (cs := fel (leN ((clampL S).take 32))) (M.t 3 rfl) (by simp [flen]) info80 (fel_one _) (fun w41 P R T => ?_)
    replace M := M.putS 3 0 rfl P R T rfl ⟨.inl rfl, trivial⟩
    simp only [Z6] at M
    refine Z14 (Z22 ?_)
    refine any_step [3] (by kernel_rfl) rfl (any_one ?_)
    refine any_opL 3 (by rfl) ?_
    simp only [Z7, Z8]
    refine lCh 1 (fun Lk hLk => ?_)
    refine wpV_b2sD (off := 32) (l := (clampL S)) (by rfl) rfl rfl (by rw [hcl]) U929 U95 U99 (M.r 1 0 rfl rfl) (M.lt 1 rfl) ?_
    simp only [Z0, Z6]
    refine Z19 (hLk _ (fun w42 Sw42 => ?_))
    simp only [Z7, Z8]
    replace M := M.sees Sw42
    refine Z14 (Z22 ?_)
    refine any_first 5 (v := .string (bs ((clampL S).drop 32))) (by rfl) (by kernel_rfl) nopanic_not (by rfl) (by exact yl_assign rfl rfl) ?_
    simp only [Z0, Z6]
    refine any_end (by kernel_rfl) (Z15 ?_)
    refine hK34 _ _ ?_
    refine wp_ret ?_
    repeat (first | with_reducible refine then_ret ?_ | with_reducible refine inblock_ret ?_)
    refine bodyPost_ret (v := .tuple #[fe (leN ((clampL S).take 32)), .string (bs ((clampL S).drop 32))]) (res2 rfl (.cell (by rfl) (run_loadVar_mid _ _ _ _ (fel (leN ((clampL S).take 32))) _ (M.r 3 0 rfl rfl) U980 rfl info80)) (.tmp (by rfl))) rfl ?_
    have BE := M.below
    exact ⟨by rw [clampL_drop], BE⟩
   refine any_opL 4 (by rfl) ?_
   simp only [Z7, Z8]
   refine lSt (g := g3) (off := 0) (n := 4) (cs := fel (leN ((clampL S).take 32))) (M.t 3 rfl) (by simp [flen]) info80 (fel_one _) (fun w43 P R T => ?_)
   replace M := M.putS 3 0 rfl P R T rfl ⟨.inl rfl, trivial⟩
   simp only [Z6] at M
   refine Z14 (Z22 ?_)
   refine any_step [2] (by kernel_rfl) rfl (any_one ?_)
   refine any_opL 2 (by rfl) ?_
   simp only [Z7, Z8]
   refine lCh 1 (fun Lk hLk => ?_)
   refine wpV_sliceL (lo := 32) (by rfl) rfl rfl rfl U929 info5 (by omega) Cg10 (by have := Cg10; omega) ?_
   simp only [Z2]
   simp only [Z0, Z6]
   refine Z19 (hLk _ (fun w44 Sw44 => ?_))
   simp only [Z7, Z8]
   replace M := M.sees Sw44
   refine Z14 (Z22 ?_)
   refine any_step [3] (by kernel_rfl) rfl (any_one ?_)
   refine any_opL 3 (by rfl) ?_
   simp only [Z7, Z8]
   refine lCh 1 (fun Lk hLk => ?_)
   refine wpV_b2sD (off := 32) (l := (clampL S)) (by rfl) rfl rfl (by rw [hcl]) U929 U95 U99 (M.r 1 0 rfl rfl) (M.lt 1 rfl) ?_
   simp only [Z0, Z6]
   refine Z19 (hLk _ (fun w45 Sw45 => ?_))
   simp only [Z7, Z8]
   replace M := M.sees Sw45
   refine Z14 (Z22 ?_)
   refine any_first 5 (v := .string (bs ((clampL S).drop 32))) (by rfl) (by kernel_rfl) nopanic_not (by rfl) (by exact yl_assign rfl rfl) ?_
   simp only [Z0, Z6]
   refine any_end (by kernel_rfl) (Z15 ?_)
   refine hK34 _ _ ?_
   refine wp_ret ?_
   repeat (first | with_reducible refine then_ret ?_ | with_reducible refine inblock_ret ?_)
   refine bodyPost_ret (v := .tuple #[fe (leN ((clampL S).take 32)), .string (bs ((clampL S).drop 32))]) (res2 rfl (.cell (by rfl) (run_loadVar_mid _ _ _ _ (fel (leN ((clampL S).take 32))) _ (M.r 3 0 rfl rfl) U980 rfl info80)) (.tmp (by rfl))) rfl ?_
   have BE := M.below
   exact ⟨by rw [clampL_drop], BE⟩
  refine any_opL 2 (by rfl) ?_
  simp only [Z7, Z8]
  refine lCh 1 (fun Lk hLk => ?_)
  refine wpV_sliceL (lo := 32) (by rfl) rfl rfl rfl U929 info5 (by omega) Cg10 (by have := Cg10; omega) ?_
  simp only [Z2]
  simp only [Z0, Z6]
  refine Z19 (hLk _ (fun w46 Sw46 => ?_))
  simp only [Z7, Z8]
  replace M := M.sees Sw46
  refine Z14 (Z22 ?_)
  refine any_step [0, 3] (by kernel_rfl) rfl (any_two ?_ (any_one ?_))
  ·
   refine any_opL 0 (by rfl) ?_
   simp only [Z7, Z8]
   refine lCh 1 (fun Lk hLk => ?_)
   refine vLd (cs := fel (leN ((clampL S).take 32))) (M.r 0 0 rfl rfl) (M.lt 0 rfl) U980 info80 ?_
   simp only [Z0, Z6]
   refine Z19 (hLk _ (fun w47 Sw47 => ?_))
   simp only [Z7, Z8]
   replace M := M.sees Sw47
   refine Z14 (Z22 ?_)
   refine any_step [3, 4] (by kernel_rfl) rfl (any_two ?_ (any_one ?_))
   ·
    refine any_opL 3 (by rfl) ?_
    simp only [Z7, Z8]
    refine lCh 1 (fun Lk hLk => ?_)
    refine wpV_b2sD (off := 32) (l := (clampL S)) (by rfl) rfl rfl (by rw [hcl]) U929 U95 U99 (M.r 1 0 rfl rfl) (M.lt 1 rfl) ?_
    simp only [Z0, Z6]
    refine Z19 (hLk _ (fun w48 Sw48 => ?_))
    simp only [Z7, Z8]
    replace M := M.sees Sw48
    refine Z14 (Z22 ?_)
    refine any_step [4] (by kernel_rfl) rfl (any_one ?_)
    refine any_opL 4 (by rfl) ?_
    simp only [Z7, Z8]
    refine lSt (g := g3) (off := 0) (n := 4) (cs := fel (leN ((clampL S).take 32))) (M.t 3 rfl) (by simp [flen]) info80 (fel_one _) (fun w49 P R T => ?_)
    replace M := M.putS 3 0 rfl P R T rfl ⟨.inl rfl, trivial⟩
    simp only [Z6] at M
    refine Z14 (Z22 ?_)
    refine any_first 5 (v := .string (bs ((clampL S).drop 32))) (by rfl) (by kernel_rfl) nopanic_not (by rfl) (by exact yl_assign rfl rfl) ?_
    simp only [Z0, Z6]
    refine any_end (by kernel_rfl) (Z15 ?_)
    refine hK34 _ _ ?_
    refine wp_ret ?_
    repeat (first | with_reducible refine then_ret ?_ | with_reducible refine inblock_ret ?_)
    refine bodyPost_ret (v := .tuple #[fe (leN ((clampL S).take 32)), .string (bs ((clampL S).drop 32))]) (res2 rfl (.cell (by rfl) (run_loadVar_mid _ _ _ _ (fel (leN ((clampL S).take 32))) _ (M.r 3 0 rfl rfl) U980 rfl info80)) (.tmp (by rfl))) rfl ?_
    have BE := M.below
    exact ⟨by rw [clampL_drop], BE⟩
   refine any_opL 4 (by rfl) ?_
   simp only [Z7, Z8]
   refine lSt (g := g3) (off := 0) (n := 4) (cs := fel (leN ((clampL S).take 32))) (M.t 3 rfl) (by simp [flen]) info80 (fel_one _) (fun w50 P R T => ?_)
   replace M := M.putS 3 0 rfl P R T rfl ⟨.inl rfl, trivial⟩
   simp only [Z6] at M
   refine Z14 (Z22 ?_)
   refine any_step [3] (by kernel_rfl) rfl (any_one ?_)
   refine any_opL 3 (by rfl) ?_
   simp only [Z7, Z8]
   refine lCh 1 (fun Lk hLk => ?_)
   refine wpV_b2sD (off := 32) (l := (clampL S)) (by rfl) rfl rfl (by rw [hcl]) U929 U95 U99 (M.r 1 0 rfl rfl) (M.lt 1 rfl) ?_
   simp only [Z0, Z6]
   refine Z19 (hLk _ (fun w51 Sw51 => ?_))
   simp only [Z7, Z8]
   replace M := M.sees Sw51
   refine Z14 (Z22 ?_)
   refine any_first 5 (v := .string (bs ((clampL S).drop 32))) (by rfl) (by kernel_rfl) nopanic_not (by rfl) (by exact yl_assign rfl rfl) ?_
   simp only [Z0, Z6]
   refine any_end (by kernel_rfl) (Z15 ?_)
   refine hK34 _ _ ?_
   refine wp_ret ?_
   repeat (first | with_reducible refine then_ret ?_ | with_reducible refine inblock_ret ?_)
   refine bodyPost_ret (v := .tuple #[fe (leN ((clampL S).take 32)), .string (bs ((clampL S).drop 32))]) (res2 rfl (.cell (by rfl) (run_loadVar_mid _ _ _ _ (fel (leN ((clampL S).take 32))) _ (M.r 3 0 rfl rfl) U980 rfl info80)) (.tmp (by rfl))) rfl ?_
   have BE := M.below
   exact ⟨by rw [clampL_drop], BE⟩
  refine any_opL 3 (by rfl) ?_
  simp only [Z7, Z8]
  refine lCh 1 (fun Lk hLk => ?_)
  refine wpV_b2sD (off := 32) (l := (clampL S)) (by rfl) rfl rfl (by rw [hcl]) U929 U95 U99 (M.r 1 0 rfl rfl) (M.lt 1 rfl) ?_
  simp only [Z0, Z6]
  refine Z19 (hLk _ (fun w52 Sw52 => ?_))
  simp only [Z7, Z8]
  replace M := M.sees Sw52
  refine Z14 (Z22 ?_)
  refine any_step [0] (by kernel_rfl) rfl (any_one ?_)
  refine any_opL 0 (by rfl) ?_
  simp only [Z7, Z8]
  refine lCh 1 (fun Lk hLk => ?_)
  refine vLd (cs := fel (leN ((clampL S).take 32))) (M.r 0 0 rfl rfl) (M.lt 0 rfl) U980 info80 ?_
  simp only [Z0, Z6]
  refine Z19 (hLk _ (fun w53 Sw53 => ?_))
  simp only [Z7, Z8]
  replace M := M.sees Sw53
  refine Z14 (Z22 ?_)
  refine any_step [4] (by kernel_rfl) rfl (any_one ?_)
  refine any_opL 4 (by rfl) ?_
  simp only [Z7, Z8]
  refine lSt (g := g3) (off := 0) (n := 4) (cs := fel (leN ((clampL S).take 32))) (M.t 3 rfl) (by simp [flen]) info80 (fel_one _) (fun w54 P R T => ?_)
  replace M := M.putS 3 0 rfl P R T rfl ⟨.inl rfl, trivial⟩
  simp only [Z6] at M
  refine Z14 (Z22 ?_)
  refine any_first 5 (v := .string (bs ((clampL S).drop 32))) (by rfl) (by kernel_rfl) nopanic_not (by rfl) (by exact yl_assign rfl rfl) ?_
  simp only [Z0, Z6]
  refine any_end (by kernel_rfl) (Z15 ?_)
  refine hK34 _ _ ?_
  refine wp_ret ?_
  repeat (first | with_reducible refine then_ret ?_ | with_reducible refine inblock_ret ?_)
  refine bodyPost_ret (v := .tuple #[fe (leN ((clampL S).take 32)), .string (bs ((clampL S).drop 32))]) (res2 rfl (.cell (by rfl) (run_loadVar_mid _ _ _ _ (fel (leN ((clampL S).take 32))) _ (M.r 3 0 rfl rfl) U980 rfl info80)) (.tmp (by rfl))) rfl ?_
  have BE := M.below
  exact ⟨by rw [clampL_drop], BE⟩
 have hi : i < 32 := of_decide_eq_true hc33
 have hi9 : i < (clampL S).length := by omega
 have hpb := put_byte (leN_take_lt (clampL S) i) (byteN_lt (clampL S) i)
 refine Z11 rfl ?_
 refine wp_skip ?_
 refine hK32 _ _ ?_
 refine Z10 (fun K55 hK55 => ?_)
 refine wp_block ?_
 refine Z10 (fun K56 hK56 => Z13 ?_)
 refine lMv (v := .int .i64 i) ?_
 refine lAs (v := .int .i64 i) ?_
 simp only [Z0, Z6]
 refine lNp (hK56 _ _ ?_)
 refine wp_region_grow 15 [] (by kernel_rfl) (by kernel_rfl) (by kernel_rfl) (fun Lk hLk => ?_)
 simp only [Z7, Z8]
 refine vMv (v := .int .i64 i) ?_
 simp only [Z0, Z6]
 refine vBn (v := .int .i64 (i / 8 : Nat)) (hr := fun W => run_quo (by decide) ((congrArg _ (tdiv_nat i 8)).trans (wrap_nat _ (by omega))) W) ?_
 simp only [Z0, Z6]
 refine wpV_idx (n := i / 8) (by rfl) rfl rfl rfl U980 info40 (by omega) ?_
 simp only [Z2]
 simp only [Z0, Z6]
 refine Z34 (v := .int .u64 ((limbN (leN ((clampL S).take i)) (i / 8) : Nat) : Int)) (by rfl) rfl rfl (zadd ((M.r 0 0 rfl rfl) _ _ (wl_get _ _ (by omega)))) (M.lt 0 rfl) U940 rfl ?_
 simp only [Z0, Z6]
 refine vMv (v := .slice (some ⟨g10, 0, none⟩) 64 g10c) ?_
 simp only [Z0, Z6]
 refine vMv (v := .int .i64 i) ?_
 simp only [Z0, Z6]
 refine wpV_idxs (n := i) (by rfl) rfl rfl rfl U929 info5 (by omega) ?_
 simp only [Z2]
 simp only [Z0, Z6]
 refine Z34 (v := .int .u8 (byteN (clampL S) i : Nat)) (by rfl) rfl rfl (zadd ((M.r 1 0 rfl rfl) _ _ (bcells_at (by omega)))) (M.lt 1 rfl) U95 rfl ?_
 simp only [Z0, Z6]
 refine wpV_conv (d := .bool) (e := ((byteN (clampL S) i : Nat) : Int)) (by rfl) rfl rfl (run_conv_int U95 U940 (by have := byteN_lt (clampL S) i; rw [wrap_u64]; omega)) ?_
 simp only [Z0, Z6]
 refine vMv (v := .int .i64 i) ?_
 simp only [Z0, Z6]
 refine vBn (v := .int .i64 (i % 8 : Nat)) (hr := fun W => run_rem (by decide) (tmod_nat i 8) W) ?_
 simp only [Z0, Z6]
 refine vBn (v := .int .i64 (8 * (i % 8) : Nat)) (hr := fun W => run_mul (by simp only [IntKind.wrap_i64]; omega) W) ?_
 simp only [Z0, Z6]
 refine vBn (v := .int .u64 (byteN (clampL S) i * 2 ^ (8 * (i % 8)) : Nat)) (hr := fun W => run_shl (by show _ ≤ 64; omega) (by have := hpb.2.1; rw [wrap_u64]; omega) W) ?_
 simp only [Z0, Z6]
 refine vBn (v := .int .u64 ((limbN (leN ((clampL S).take i)) (i / 8) + byteN (clampL S) i * 2 ^ (8 * (i % 8)) : Nat) : Int)) (hr := fun W => run_or (((bits_nat64 _ _ (limbN_lt _ _) (by have := hpb.2.1; simp only [Nat.reducePow] at *; omega)).2).trans (congrArg _ hpb.1)) W) ?_
 simp only [Z0, Z6]
 refine wpV_idx (n := i / 8) (by rfl) rfl rfl rfl U980 info40 (by omega) ?_
 simp only [Z2]
 simp only [Z0, Z6]
 refine Z19 (hLk.out _ ?_)
 simp only [Z7, Z8]
 iterate 15 refine Z28 (by rfl) ?_
 refine Z29 (fun w59 Sw59 hbs => ?_)
 clear hbs
 replace M := M.sees Sw59
 refine lS1 (g := g22) (off := i / 8) (n := 4) (v := .int .u64 ((limbN (leN ((clampL S).take i)) (i / 8) + byteN (clampL S) i * 2 ^ (8 * (i % 8)) : Nat) : Int)) (M.t 0 rfl) (by omega) info40 rfl (fun w60 P R T => ?_)
 replace M := M.put1 (j := i / 8) 0 rfl P R T (Z2 _).symm
 simp only [Z6] at M
 rw [wl_set hpb.2.2 hpb.2.1, ← leN_take_succ (clampL S) hi9] at M
 refine lNp (hK55 _ _ ?_)
 refine Z13 ?_
 refine lCh 1 (fun Lk hLk => ?_)
 refine vBn (v := .int .i64 (i + 1 : Nat)) (hr := fun W => run_add (by simp only [IntKind.wrap_i64]; omega) W) ?_
 simp only [Z0, Z6]
 refine Z19 (hLk _ (fun w62 Sw62 => ?_))
 simp only [Z7, Z8]
 replace M := M.sees Sw62
 refine lMv (v := .int .i64 (i + 1 : Nat)) ?_
 simp only [Z0, Z6]
 refine Z14 (Z15 ?_)
 refine Exists.intro _ ⟨?_, (i + 1), (fun q9 => (#[Z9, Z9, Z9, Z9, Z9, Z9, .int .i64 i, Z9, Z9, Z9, Z9, Z9, Z9, Z9, Z9, Z9, Z9, Z9, Z9, Z9, Z9, Z9, Z9, Z9, .bool true, .int .i64 i, .int .i64 i, .int .i64 (i / 8 : Nat), .pointer (some ⟨g22, i / 8, none⟩), .int .u64 ((limbN (leN ((clampL S).take i)) (i / 8) : Nat) : Int), .slice (some ⟨g10, 0, none⟩) 64 g10c, .int .i64 i, .pointer (some ⟨g10, i, none⟩), .int .u8 (byteN (clampL S) i : Nat), .int .u64 (byteN (clampL S) i : Nat), .int .i64 i, .int .i64 (i % 8 : Nat), .int .i64 (8 * (i % 8) : Nat), .int .u64 (byteN (clampL S) i * 2 ^ (8 * (i % 8)) : Nat), .int .u64 ((limbN (leN ((clampL S).take i)) (i / 8) + byteN (clampL S) i * 2 ^ (8 * (i % 8)) : Nat) : Int), .pointer (some ⟨g22, i / 8, none⟩), .int .i64 (i + 1 : Nat)] : Array Value).getD q9 Z9), rfl, rfl, M, (by omega)⟩
 omega
theorem secret_c {l : List UInt8} {w : World} (hll : l.length ≤ 9223372036854775680) (L2 : 2 < w.heap.size) (R2_0 : w.rangeAt 2 0 kcellsq) :
  Calls Tryd.prog 45 #[.string (bs l)] w fun e w' => e = .returned (.tuple #[fe (edN l), .string (bs (edP l))]) ∧ Below w.heap.size w w' :=
 secret_a hll rfl (sha_lenq l) L2 R2_0
set_option maxHeartbeats 2000000 in
theorem times_c {n : Nat} {w : World} (hn : n < 2 ^ 256) :
  Calls Tryd.prog 46 #[fe n] w fun e w' => e = .returned (.string (bs (edT n))) ∧ Below w.heap.size w w' := by
 go_enter G946, Tryd.ntmps46
 have M := Mem.start w
 refine Z10 (fun K1 hK1 => Z13 ?_)
 refine Z36 (t := 80) (cs := fel n) (by rfl) (fun W => ?_) (fun g3 w4 Sw4 Hg3 Bg3 => ?_)
 ·
  (first | rfl | go_simp)
 replace M := ((M.sees Sw4).add (N := 4) (cs := fel n) (M.ge Hg3) (M.fresh Hg3) Bg3 rfl)
 clear Bg3
 simp only [Z0, Z6]
 refine lAs (v := .string (bs ([]))) ?_
 simp only [Z0, Z6]
 refine lNp (hK1 _ _ ?_)
 refine Z10 (fun K5 hK5 => ?_)
 refine wp_region_grow 7 [5] (by kernel_rfl) (by kernel_rfl) (by kernel_rfl) (fun Lk hLk => ?_)
 simp only [Z7, Z8]
 refine vLd (cs := fel n) (M.r 0 0 rfl rfl) (M.lt 0 rfl) U980 info80 ?_
 simp only [Z0, Z6]
 refine Z25 (v := .agg (fel baseP.x ++ fel baseP.y ++ fel baseP.z ++ fel baseP.t : List Value).toArray) (args := #[]) (by rfl) rfl Tryd.func55 (by kernel_rfl) (by kernel_rfl) rfl (fun W hW => Base_c) ?_
 simp only [Z0, Z6]
 refine Z25 (v := .tuple #[.agg (fel (mulR n baseP 256).x ++ fel (mulR n baseP 256).y ++ fel (mulR n baseP 256).z ++ fel (mulR n baseP 256).t : List Value).toArray, .int .i64 0]) (args := #[fe n, .agg (fel baseP.x ++ fel baseP.y ++ fel baseP.z ++ fel baseP.t : List Value).toArray]) (by rfl) rfl Tryd.func53 (by kernel_rfl) (by kernel_rfl) rfl (fun W hW => Mul_ok hn baseP_ok rightP_base) ?_
 simp only [Z0, Z6]
 refine vMv (v := .tuple #[.agg (fel (mulR n baseP 256).x ++ fel (mulR n baseP 256).y ++ fel (mulR n baseP 256).z ++ fel (mulR n baseP 256).t : List Value).toArray, .int .i64 0]) ?_
 simp only [Z0, Z6]
 refine Z32 (v := .agg (fel (mulR n baseP 256).x ++ fel (mulR n baseP 256).y ++ fel (mulR n baseP 256).z ++ fel (mulR n baseP 256).t : List Value).toArray) (by rfl) rfl rfl rfl ?_
 simp only [Z0, Z6]
 refine Z32 (v := .int .i64 0) (by rfl) rfl rfl rfl ?_
 simp only [Z0, Z6]
 refine vAl ?_
 refine Z19 (hLk.out _ ?_)
 simp only [Z7, Z8]
 iterate 6 refine Z28 (by rfl) ?_
 refine wpN_new (t := 88) (cs := ([.int .u64 0, .int .u64 0, .int .u64 0, .int .u64 0, .int .u64 0, .int .u64 0, .int .u64 0, .int .u64 0, .int .u64 0, .int .u64 0, .int .u64 0, .int .u64 0, .int .u64 0, .int .u64 0, .int .u64 0, .int .u64 0]).toArray) (by rfl) (fun W => ?_) (fun g7 Hg7 ng7 => ?_)
 ·
  go_simp
 simp only [Z0, Z6]
 refine Z29 (fun w8 Sw8 hbs => ?_)
 replace M := ((M.sees Sw8).addS (N := 16) (cs := [.int .u64 0, .int .u64 0, .int .u64 0, .int .u64 0, .int .u64 0, .int .u64 0, .int .u64 0, .int .u64 0, .int .u64 0, .int .u64 0, .int .u64 0, .int .u64 0, .int .u64 0, .int .u64 0, .int .u64 0, .int .u64 0]) (segs := [(0, [.int .u64 0, .int .u64 0, .int .u64 0, .int .u64 0]), (4, [.int .u64 0, .int .u64 0, .int .u64 0, .int .u64 0]), (8, [.int .u64 0, .int .u64 0, .int .u64 0, .int .u64 0]), (12, [.int .u64 0, .int .u64 0, .int .u64 0, .int .u64 0])]) (M.ge Hg7) (M.fresh Hg7) (hbs _ (.head _)) rfl ⟨rfl, rfl, rfl, rfl, trivial⟩)
 clear hbs ng7
 refine lSt (g := g7) (off := 0) (n := 16) (cs := fel (mulR n baseP 256).x ++ fel (mulR n baseP 256).y ++ fel (mulR n baseP 256).z ++ fel (mulR n baseP 256).t) (M.t 0 rfl) (by simp [flen]) info88 (one4 _ _ _ _) (fun w9 P R T => ?_)
 replace M := M.put (segs' := [(0, fel (mulR n baseP 256).x), (4, fel (mulR n baseP 256).y), (8, fel (mulR n baseP 256).z), (12, fel (mulR n baseP 256).t)]) 0 rfl P T (SegsOf.at R ⟨rfl, rfl, rfl, rfl, trivial⟩)
 simp only [Z6] at M
 refine lAs (v := .int .i64 0) ?_
 simp only [Z0, Z6]
 refine lNp (hK5 _ _ ?_)
 refine Z10 (fun K10 hK10 => Z13 ?_)
 refine lCh 5 (fun Lk hLk => ?_)
 refine vLd (cs := fel (mulR n baseP 256).x ++ (fel (mulR n baseP 256).y) ++ (fel (mulR n baseP 256).z) ++ (fel (mulR n baseP 256).t)) (range_join (range_join (range_join (M.r 0 0 rfl rfl) (M.r 0 1 rfl rfl) (by simp [flen])) (M.r 0 2 rfl rfl) (by simp [flen])) (M.r 0 3 rfl rfl) (by simp [flen])) (M.lt 0 rfl) Tryd.underlying88 info88 ?_
 simp only [Z0, Z6]
 refine Z25 (v := .tuple #[.string (bs (edT n)), .int .i64 0]) (args := #[.agg (fel (mulR n baseP 256).x ++ (fel (mulR n baseP 256).y) ++ (fel (mulR n baseP 256).z) ++ (fel (mulR n baseP 256).t) : List Value).toArray]) (by rfl) rfl Tryd.func57 (by kernel_rfl) (by kernel_rfl) rfl (fun W hW => Bytes_ok (mulR_ok ..) (right_mulR rightP_base 256)) ?_
 simp only [Z0, Z6]
 refine vMv (v := .tuple #[.string (bs (edT n)), .int .i64 0]) ?_
 simp only [Z0, Z6]
 refine Z32 (v := .string (bs (edT n))) (by rfl) rfl rfl rfl ?_
 simp only [Z0, Z6]
 refine Z32 (v := .int .i64 0) (by rfl) rfl rfl rfl ?_
 simp only [Z0, Z6]
 refine Z19 (hLk _ (fun w12 Sw12 => ?_))
 simp only [Z7, Z8]
 replace M := M.sees Sw12
 refine lAs (v := .string (bs (edT n))) ?_
 refine lAs (v := .int .i64 0) ?_
 simp only [Z0, Z6]
 refine lNp (hK10 _ _ ?_)
 refine Z10 (fun K13 hK13 => Z13 ?_)
 refine lMv (v := .string (bs (edT n))) ?_
 refine lAs (v := .string (bs (edT n))) ?_
 simp only [Z0, Z6]
 refine lNp (hK13 _ _ ?_)
 refine wp_ret ?_
 repeat (first | with_reducible refine then_ret ?_ | with_reducible refine inblock_ret ?_)
 refine bodyPost_ret (v := .string (bs (edT n))) (res1 rfl (.tmp (by rfl))) rfl ?_
 have BE := M.below
 exact ⟨rfl, BE⟩
set_option maxHeartbeats 1000000 in
theorem wide_q {ps : List (List UInt8)} {g0 cg0 : Nat} {w : World} (hq : ps.length ≤ 4611686018427387904) (hp : ∀ k, (ps.getD k []).length ≤ 9223372036854775680) (L2 : 2 < w.heap.size) (R2_0 : w.rangeAt 2 0 kcellsq) (hcg0 : ps.length ≤ cg0) (Lg0 : g0 < w.heap.size) (Rg0_0 : w.rangeAt g0 0 (scells ps)) :
  Calls Tryd.prog 47 #[.slice (some ⟨g0, 0, none⟩) ps.length cg0] w fun e w' => e = .returned (fe (edR ps)) ∧ Below w.heap.size w w' := by
 go_enter G947, Tryd.ntmps47
 have M := Mem.start w
 refine Z10 (fun K1 hK1 => Z13 ?_)
 refine Z36 (t := 80) (cs := [.int .u64 0, .int .u64 0, .int .u64 0, .int .u64 0]) (by rfl) (fun W => ?_) (fun g3 w4 Sw4 Hg3 Bg3 => ?_)
 ·
  go_simp
 replace M := ((M.sees Sw4).add (N := 4) (cs := [.int .u64 0, .int .u64 0, .int .u64 0, .int .u64 0]) (M.ge Hg3) (M.fresh Hg3) Bg3 rfl)
 clear Bg3
 simp only [Z0, Z6]
 refine lNp (hK1 _ _ ?_)
 refine Z10 (fun K5 hK5 => Z13 ?_)
 refine lMv (v := .slice (some ⟨g0, 0, none⟩) ps.length cg0) ?_
 simp only [Z0, Z6]
 refine lCh 5 (fun Lk hLk => ?_)
 refine Z25 (v := .string (bs (shaq ps.flatten))) (args := #[.slice (some ⟨g0, 0, none⟩) ps.length cg0]) (by rfl) rfl Tryd.func82 (by kernel_rfl) (by kernel_rfl) rfl (fun W hW => (by have h := sum_cq (ps := ps) (w := W) hq hp ((M.sees hW).oldL L2) ((M.sees hW).oldR R2_0 L2) hcg0 ((M.sees hW).oldL Lg0) ((M.sees hW).oldR Rg0_0 Lg0); exact h)) ?_
 simp only [Z0, Z6]
 refine Z25 (v := .tuple #[fe (edR ps), .int .i64 0]) (args := #[.string (bs (shaq ps.flatten))]) (by rfl) rfl Tryd.func83 (by kernel_rfl) (by kernel_rfl) rfl (fun W hW => swide_c (l := shaq ps.flatten) (by rw [sha_lenq]; decide) W) ?_
 simp only [Z0, Z6]
 refine vMv (v := .tuple #[fe (edR ps), .int .i64 0]) ?_
 simp only [Z0, Z6]
 refine Z32 (v := fe (edR ps)) (by rfl) rfl rfl rfl ?_
 simp only [Z0, Z6]
 refine Z32 (v := .int .i64 0) (by rfl) rfl rfl rfl ?_
 simp only [Z0, Z6]
 refine Z19 (hLk _ (fun w7 Sw7 => ?_))
 simp only [Z7, Z8]
 replace M := M.sees Sw7
 refine Z36 (t := 80) (cs := [.int .u64 0, .int .u64 0, .int .u64 0, .int .u64 0]) (by rfl) (fun W => ?_) (fun g8 w9 Sw9 Hg8 Bg8 => ?_)
 ·
  go_simp
 replace M := ((M.sees Sw9).add (N := 4) (cs := [.int .u64 0, .int .u64 0, .int .u64 0, .int .u64 0]) (M.ge Hg8) (M.fresh Hg8) Bg8 rfl)
 clear Bg8
 simp only [Z0, Z6]
 refine lSt (g := g8) (off := 0) (n := 4) (cs := fel (edR ps)) (M.t 0 rfl) (by simp [flen]) info80 (fel_one _) (fun w10 P R T => ?_)
 replace M := M.putS 0 0 rfl P R T rfl ⟨.inl rfl, trivial⟩
 simp only [Z6] at M
 refine lAs (v := .int .i64 0) ?_
 simp only [Z0, Z6]
 refine lNp (hK5 _ _ ?_)
 refine Z10 (fun K11 hK11 => Z13 ?_)
 refine lCh 1 (fun Lk hLk => ?_)
 refine vLd (cs := fel (edR ps)) (M.r 0 0 rfl rfl) (M.lt 0 rfl) U980 info80 ?_
 simp only [Z0, Z6]
 refine Z19 (hLk _ (fun w13 Sw13 => ?_))
 simp only [Z7, Z8]
 replace M := M.sees Sw13
 refine lSt (g := g3) (off := 0) (n := 4) (cs := fel (edR ps)) (M.t 1 rfl) (by simp [flen]) info80 (fel_one _) (fun w14 P R T => ?_)
 replace M := M.putS 1 0 rfl P R T rfl ⟨.inl rfl, trivial⟩
 simp only [Z6] at M
 refine lNp (hK11 _ _ ?_)
 refine wp_ret ?_
 repeat (first | with_reducible refine then_ret ?_ | with_reducible refine inblock_ret ?_)
 refine bodyPost_ret (v := fe (edR ps)) (res1 rfl (.cell (by rfl) (run_loadVar_mid _ _ _ _ (fel (edR ps)) _ (M.r 1 0 rfl rfl) U980 rfl info80))) rfl ?_
 have BE := M.below
 exact ⟨rfl, BE⟩
set_option maxHeartbeats 2000000 in
theorem Sign_ok {l m : List UInt8} {w : World} (hl : l.length = 32) (hm : m.length ≤ 9223372036854775680) (L2 : 2 < w.heap.size) (R2_0 : w.rangeAt 2 0 kcellsq) :
  Calls Tryd.prog 17 #[.string (bs l), .string (bs m)] w fun e w' => e = .returned (.tuple #[.string (bs (edS l m)), .int .i64 0]) ∧ Below w.heap.size w w' := by
 go_enter Tryd.func17, Tryd.ntmps17
 have M := Mem.start w
 refine Z10 (fun K1 hK1 => Z13 ?_)
 refine lAs (v := .string (bs ([]))) ?_
 refine lAs (v := .int .i64 0) ?_
 simp only [Z0, Z6]
 refine lNp (hK1 _ _ ?_)
 refine Z10 (fun K3 hK3 => ?_)
 refine Z10 (fun K4 hK4 => Z13 ?_)
 refine lMv (v := .string (bs l)) ?_
 simp only [Z0, Z6]
 refine lCh 2 (fun Lk hLk => ?_)
 refine wpV_lenS (by rfl) rfl rfl rfl U99 ?_
 simp only [Z0, Z6]
 refine vBn (v := .bool false) (hr := fun W => (run_neqN l.length 32 _ _ W).trans (by rw [(decide_eq_false (fun h => h hl))])) ?_
 simp only [Z0, Z6]
 refine Z19 (hLk _ (fun w6 Sw6 => ?_))
 simp only [Z7, Z8]
 replace M := M.sees Sw6
 refine lNp (hK4 _ _ ?_)
 refine Z12 rfl ?_
 refine wp_skip ?_
 refine hK3 _ _ ?_
 refine Z10 (fun K7 hK7 => Z13 ?_)
 refine lMv (v := .string (bs l)) ?_
 simp only [Z0, Z6]
 refine lCh 4 (fun Lk hLk => ?_)
 refine Z25 (v := .tuple #[fe (edN l), .string (bs (edP l))]) (args := #[.string (bs l)]) (by rfl) rfl Tryd.func45 (by kernel_rfl) (by kernel_rfl) rfl (fun W hW => secret_c (l := l) (by omega) ((M.sees hW).oldL L2) ((M.sees hW).oldR R2_0 L2)) ?_
 simp only [Z0, Z6]
 refine vMv (v := .tuple #[fe (edN l), .string (bs (edP l))]) ?_
 simp only [Z0, Z6]
 refine Z32 (v := fe (edN l)) (by rfl) rfl rfl rfl ?_
 simp only [Z0, Z6]
 refine Z32 (v := .string (bs (edP l))) (by rfl) rfl rfl rfl ?_
 simp only [Z0, Z6]
 refine Z19 (hLk _ (fun w9 Sw9 => ?_))
 simp only [Z7, Z8]
 replace M := M.sees Sw9
 refine Z36 (t := 80) (cs := [.int .u64 0, .int .u64 0, .int .u64 0, .int .u64 0]) (by rfl) (fun W => ?_) (fun g10 w11 Sw11 Hg10 Bg10 => ?_)
 ·
  go_simp
 replace M := ((M.sees Sw11).add (N := 4) (cs := [.int .u64 0, .int .u64 0, .int .u64 0, .int .u64 0]) (M.ge Hg10) (M.fresh Hg10) Bg10 rfl)
 clear Bg10
 simp only [Z0, Z6]
 refine lSt (g := g10) (off := 0) (n := 4) (cs := fel (edN l)) (M.t 0 rfl) (by simp [flen]) info80 (fel_one _) (fun w12 P R T => ?_)
 replace M := M.putS 0 0 rfl P R T rfl ⟨.inl rfl, trivial⟩
 simp only [Z6] at M
 refine lAs (v := .string (bs (edP l))) ?_
 simp only [Z0, Z6]
 refine lNp (hK7 _ _ ?_)
 refine Z10 (fun K13 hK13 => Z13 ?_)
 refine lMv (v := .string (bs (edP l))) ?_
 refine lMv (v := .string (bs m)) ?_
 simp only [Z0, Z6]
 refine wpL_rowN (vs := [.string (bs (edP l)), .string (bs m)]) (z := .string { data := #[] }) (bytes := 16) (by rfl) (by rfl) U937 (by kernel_rfl) (by decide) (by kernel_rfl) (fun g15 w16 Sw16 Hg15 Bg15 => ?_)
 replace M := ((M.sees Sw16).add (N := 2) (cs := [.string (bs (edP l)), .string (bs m)]) (M.ge Hg15) (M.fresh Hg15) Bg15 rfl)
 clear Bg15
 simp only [Z0, Z6]
 refine lCh 1 (fun Lk hLk => ?_)
 refine Z25 (v := fe (edR [edP l, m])) (args := #[.slice (some ⟨g15, 0, none⟩) 2 2]) (by rfl) rfl G947 (by kernel_rfl) (by kernel_rfl) rfl (fun W hW => wide_q (ps := [edP l, m]) (w := W) (by simp) (getD_all (all2 (by rw [edP_len]; decide) hm)) ((M.sees hW).oldL L2) ((M.sees hW).oldR R2_0 L2) (Nat.le_refl _) ((M.sees hW).lt 0 rfl) ((M.sees hW).r 0 0 rfl rfl)) ?_
 simp only [Z0, Z6]
 refine Z19 (hLk _ (fun w17 Sw17 => ?_))
 simp only [Z7, Z8]
 replace M := M.sees Sw17
 refine Z36 (t := 80) (cs := [.int .u64 0, .int .u64 0, .int .u64 0, .int .u64 0]) (by rfl) (fun W => ?_) (fun g18 w19 Sw19 Hg18 Bg18 => ?_)
 ·
  go_simp
 replace M := ((M.sees Sw19).add (N := 4) (cs := [.int .u64 0, .int .u64 0, .int .u64 0, .int .u64 0]) (M.ge Hg18) (M.fresh Hg18) Bg18 rfl)
 clear Bg18
 simp only [Z0, Z6]
 refine lSt (g := g18) (off := 0) (n := 4) (cs := fel (edR [edP l, m])) (M.t 0 rfl) (by simp [flen]) info80 (fel_one _) (fun w20 P R T => ?_)
 replace M := M.putS 0 0 rfl P R T rfl ⟨.inl rfl, trivial⟩
 simp only [Z6] at M
 refine lNp (hK13 _ _ ?_)
 refine Z10 (fun K21 hK21 => Z13 ?_)
 refine lCh 2 (fun Lk hLk => ?_)
 refine vLd (cs := fel (edR [edP l, m])) (M.r 0 0 rfl rfl) (M.lt 0 rfl) U980 info80 ?_
 simp only [Z0, Z6]
 refine Z25 (v := .string (bs (edT (edR [edP l, m])))) (args := #[fe (edR [edP l, m])]) (by rfl) rfl G946 (by kernel_rfl) (by kernel_rfl) rfl (fun W hW => times_c (edR_lt ..)) ?_
 simp only [Z0, Z6]
 refine Z19 (hLk _ (fun w23 Sw23 => ?_))
 simp only [Z7, Z8]
 replace M := M.sees Sw23
 refine lAs (v := .string (bs (edT (edR [edP l, m])))) ?_
 simp only [Z0, Z6]
 refine lNp (hK21 _ _ ?_)
 refine Z10 (fun K24 hK24 => Z13 ?_)
 refine lMv (v := .string (bs (edT (edR [edP l, m])))) ?_
 simp only [Z0, Z6]
 refine lCh 2 (fun Lk hLk => ?_)
 refine vLd (cs := fel (edN l)) (M.r 2 0 rfl rfl) (M.lt 2 rfl) U980 info80 ?_
 simp only [Z0, Z6]
 refine Z25 (v := .string (bs (edT (edN l)))) (args := #[fe (edN l)]) (by rfl) rfl G946 (by kernel_rfl) (by kernel_rfl) rfl (fun W hW => times_c (edN_lt ..)) ?_
 simp only [Z0, Z6]
 refine Z19 (hLk _ (fun w26 Sw26 => ?_))
 simp only [Z7, Z8]
 replace M := M.sees Sw26
 refine lMv (v := .string (bs m)) ?_
 simp only [Z0, Z6]
 refine wpL_rowN (vs := [.string (bs (edT (edR [edP l, m]))), .string (bs (edT (edN l))), .string (bs m)]) (z := .string { data := #[] }) (bytes := 16) (by rfl) (by rfl) U937 (by kernel_rfl) (by decide) (by kernel_rfl) (fun g27 w28 Sw28 Hg27 Bg27 => ?_)
 replace M := ((M.sees Sw28).add (N := 3) (cs := [.string (bs (edT (edR [edP l, m]))), .string (bs (edT (edN l))), .string (bs m)]) (M.ge Hg27) (M.fresh Hg27) Bg27 rfl)
 clear Bg27
 simp only [Z0, Z6]
 refine lCh 1 (fun Lk hLk => ?_)
 refine Z25 (v := fe (edR [edT (edR [edP l, m]), edT (edN l), m])) (args := #[.slice (some ⟨g27, 0, none⟩) 3 3]) (by rfl) rfl G947 (by kernel_rfl) (by kernel_rfl) rfl (fun W hW => wide_q (ps := [edT (edR [edP l, m]), edT (edN l), m]) (w := W) (by simp) (getD_all (all3 (by rw [edT_len]; decide) (by rw [edT_len]; decide) hm)) ((M.sees hW).oldL L2) ((M.sees hW).oldR R2_0 L2) (Nat.le_refl _) ((M.sees hW).lt 0 rfl) ((M.sees hW).r 0 0 rfl rfl)) ?_
 simp only [Z0, Z6]
 refine Z19 (hLk _ (fun w29 Sw29 => ?_))
 simp only [Z7, Z8]
 replace M := M.sees Sw29
 refine Z36 (t := 80) (cs := [.int .u64 0, .int .u64 0, .int .u64 0, .int .u64 0]) (by rfl) (fun W => ?_) (fun g30 w31 Sw31 Hg30 Bg30 => ?_)
 ·
  go_simp
 replace M := ((M.sees Sw31).add (N := 4) (cs := [.int .u64 0, .int .u64 0, .int .u64 0, .int .u64 0]) (M.ge Hg30) (M.fresh Hg30) Bg30 rfl)
 clear Bg30
 simp only [Z0, Z6]
 refine lSt (g := g30) (off := 0) (n := 4) (cs := fel (edR [edT (edR [edP l, m]), edT (edN l), m])) (M.t 0 rfl) (by simp [flen]) info80 (fel_one _) (fun w32 P R T => ?_)
 replace M := M.putS 0 0 rfl P R T rfl ⟨.inl rfl, trivial⟩
 simp only [Z6] at M
 refine lNp (hK24 _ _ ?_)
 refine Z10 (fun K33 hK33 => ?_)
 refine wp_region_grow 8 [] (by kernel_rfl) (by kernel_rfl) (by kernel_rfl) (fun Lk hLk => ?_)
 simp only [Z7, Z8]
 refine vMv (v := .string (bs (edT (edR [edP l, m])))) ?_
 simp only [Z0, Z6]
 refine vLd (cs := fel (edR [edP l, m])) (M.r 2 0 rfl rfl) (M.lt 2 rfl) U980 info80 ?_
 simp only [Z0, Z6]
 refine vLd (cs := fel (edR [edT (edR [edP l, m]), edT (edN l), m])) (M.r 0 0 rfl rfl) (M.lt 0 rfl) U980 info80 ?_
 simp only [Z0, Z6]
 refine vLd (cs := fel (edN l)) (M.r 4 0 rfl rfl) (M.lt 4 rfl) U980 info80 ?_
 simp only [Z0, Z6]
 refine Z25 (v := fe (smul (edR [edT (edR [edP l, m]), edT (edN l), m]) (edN l))) (args := #[fe (edR [edT (edR [edP l, m]), edT (edN l), m]), fe (edN l)]) (by rfl) rfl Tryd.func50 (by kernel_rfl) (by kernel_rfl) rfl (fun W hW => smul_c (edR_lt ..) (edN_lt ..) W) ?_
 simp only [Z0, Z6]
 refine Z25 (v := fe (sadd (edR [edP l, m]) (smul (edR [edT (edR [edP l, m]), edT (edN l), m]) (edN l)))) (args := #[fe (edR [edP l, m]), fe (smul (edR [edT (edR [edP l, m]), edT (edN l), m]) (edN l))]) (by rfl) rfl Tryd.func49 (by kernel_rfl) (by kernel_rfl) rfl (fun W hW => sadd_c (edR_lt ..) (smul_lt ..) W) ?_
 simp only [Z0, Z6]
 refine Z25 (v := .string (bs (bytesN 32 (restS (sadd (edR [edP l, m]) (smul (edR [edT (edR [edP l, m]), edT (edN l), m]) (edN l))))))) (args := #[fe (sadd (edR [edP l, m]) (smul (edR [edT (edR [edP l, m]), edT (edN l), m]) (edN l)))]) (by rfl) rfl Tryd.func48 (by kernel_rfl) (by kernel_rfl) rfl (fun W hW => sbytes_c (sadd_lt ..) W) ?_
 simp only [Z0, Z6]
 refine wpV_binS (v := .string (bs ((edT (edR [edP l, m])) ++ (bytesN 32 (restS (sadd (edR [edP l, m]) (smul (edR [edT (edR [edP l, m]), edT (edN l), m]) (edN l)))))))) (by rfl) rfl rfl rfl (run_add_bs _ _ _ (by rw [edT_len, bytesN_len]; decide)) ?_
 simp only [Z0, Z6]
 refine Z19 (hLk.out _ ?_)
 simp only [Z7, Z8]
 iterate 8 refine Z28 (by rfl) ?_
 refine Z29 (fun w35 Sw35 hbs => ?_)
 clear hbs
 replace M := M.sees Sw35
 refine lAs (v := .string (bs ((edT (edR [edP l, m])) ++ (bytesN 32 (restS (sadd (edR [edP l, m]) (smul (edR [edT (edR [edP l, m]), edT (edN l), m]) (edN l)))))))) ?_
 refine lAs (v := .int .i64 0) ?_
 simp only [Z0, Z6]
 refine lNp (hK33 _ _ ?_)
 refine wp_ret ?_
 repeat (first | with_reducible refine then_ret ?_ | with_reducible refine inblock_ret ?_)
 refine bodyPost_ret (v := .tuple #[.string (bs ((edT (edR [edP l, m])) ++ (bytesN 32 (restS (sadd (edR [edP l, m]) (smul (edR [edT (edR [edP l, m]), edT (edN l), m]) (edN l))))))), .int .i64 0]) (res2 rfl (.tmp (by rfl)) (.tmp (by rfl))) rfl ?_
 have BE := M.below
 exact ⟨rfl, BE⟩
end Go.Proofs.Yc

