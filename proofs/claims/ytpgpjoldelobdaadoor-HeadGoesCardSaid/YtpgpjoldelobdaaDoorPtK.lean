import Derived.WalkKit
import Derived.WalkSpells
import Derived.Laws.Pointers
import Derived.RowKit3
import Derived.Below
import Derived.Outline
import Derived.LoopN
import Derived.Lib.Hide
import Derived.Handy
import Derived.Laws.Bits64b
import Derived.Test.YtpgpjoldelobdaaDoorPtJ
import Derived.Test.YtpgpjoldelobdaaDoorSteps12
import Derived.Test.YtpgpjoldelobdaaDoorF3
import Derived.Test.YtpgpjoldelobdaaDoorShq
set_option linter.unusedSimpArgs false
set_option linter.unusedVariables false
namespace Go.Proofs.Yc
open Go Go.RowKit Go.Proofs.Num
open Tryd renaming underlying29 → U929, underlying5 → U95, underlying9 → U99
open Go.Proofs.Num  renaming putT → Z0
open Nat renaming zero_add → Z2, mod_eq_of_lt → Z5
open List renaming set → Z6, take → Z7, drop → Z8
open Go.Proofs.Num renaming wpV_nil → Z19, wpN_skip → Z28, wpN_nil → Z29
attribute [local irreducible] wpV wpN wpList
open Go.Proofs.Ya
theorem leastF_fmul (x y : Nat) : leastF (fmul x y) = fmul x y := Nat.mod_mod _ _
theorem and_limb0 (x : Nat) : bits .and .u64 ((limbN x 0 : Nat) : Int) 1 = ((x % 2 : Nat) : Int) := by
 have h := bitN_of x 0
 simpa using h
theorem nr_shl8 {P : Program} {T : TypeId} {k' : IntKind} {x n : Nat} (h : n ≤ 8) (W : World) : (binOp .shl T (.int .u8 (x : Nat)) (.int k' (n : Nat))).run P W = .ok (.int .u8 (x * 2 ^ n % 256 : Nat)) W :=
 run_shl h (wrap_u8N _) W
theorem shl7 {P : Program} {T : TypeId} {k' : IntKind} (x : Nat) (W : World) : (binOp .shl T (.int .u8 (x % 2 % 256 : Nat)) (.int k' 7)).run P W = .ok (.int .u8 (x % 2 * 128 : Nat)) W := by
 rw [show x % 2 % 256 = x % 2 by omega]
 have h : (binOp .shl T (.int .u8 (x % 2 : Nat)) (.int k' ((7 : Nat) : Int))).run P W = .ok (.int .u8 (x % 2 * 2 ^ 7 % 256 : Nat)) W := nr_shl8 (by decide) W
 rw [Z5 (show x % 2 * 2 ^ 7 < 256 by omega)] at h
 exact h
theorem bytes_31 (y : Nat) : (bcells (bytesN 32 y))[31]? = some (.int .u8 (y / 256 ^ 31 % 256 : Nat)) := by
 simp [bcells, bytesN, List.getElem?_map]
theorem bytes_set (x y : Nat) : (bcells (bytesN 32 y)).set 31 (.int .u8 ((y / 256 ^ 31 % 256) ||| (x % 2 * 128) : Nat)) = bcells (textQ x y) := by
 have h : (y / 256 ^ 31 % 256) ||| (x % 2 * 128) < 2 ^ 8 := Nat.or_lt_two_pow (Nat.mod_lt _ (by decide)) (by omega)
 have h9 : (UInt8.ofNat ((y / 256 ^ 31 % 256) ||| (x % 2 * 128))).toNat = (y / 256 ^ 31 % 256) ||| (x % 2 * 128) := by
  rw [UInt8.toNat_ofNat']
  exact Z5 h
 unfold textQ bcells
 rw [List.map_set, h9]
set_option maxHeartbeats 2000000 in
theorem Bytes_ok {p : P4} {w : World} (hp : p.Ok) (h1 : rightP p = true) :
  Calls Tryd.prog 57 #[.agg (fel p.x ++ fel p.y ++ fel p.z ++ fel p.t : List Value).toArray] w fun e w' => e = .returned (.tuple #[.string (bs (textQ (affX p) (affY p))), .int .i64 0]) ∧ Below w.heap.size w w' := by
 have hAX : affX p = fmul p.x (finv p.z) := rfl
 go_enter Tryd.func57, Tryd.ntmps57
 have M := Mem.start w
 refine qS fun _ k1 => ?_
 refine nVs (segs := [(0, fel p.x), (4, fel p.y), (8, fel p.z), (12, fel p.t)]) 16 fun g3 w4 M => ?_
 refine lg ?_; refine lg ?_; refine lZ k1 ?_
 refine sk fun _ k5 => ?_
 refine qS fun _ k6 => ?_
 refine cM 3 fun Lk hLk => ?_
 refine vP (pvLf (cs := fel p.x ++ (fel p.y) ++ (fel p.z) ++ (fel p.t)) (range_join (range_join (range_join (M.r 0 0 rfl rfl) (M.r 0 1 rfl rfl) (by simp [flen])) (M.r 0 2 rfl rfl) (by simp [flen])) (M.r 0 3 rfl rfl) (by simp [flen])) (M.lt 0 rfl)) ?_
 refine vC (v := .bool true) (args := #[.agg (fel p.x ++ (fel p.y) ++ (fel p.z) ++ (fel p.t) : List Value).toArray]) (fun W => by have h9 : Calls Tryd.prog _ _ W _ := right_c hp; rw [h1] at h9; exact h9) ?_
 refine vt ?_
 refine hLk _ fun w8 M => ?_
 refine lZ k6 ?_; refine cF ?_; refine sZ k5 ?_
 refine qS fun _ k9 => ?_
 refine lF ?_; refine lL ?_
 refine cM 1 fun Lk hLk => ?_
 refine vC (finv_c hp.z) ?_
 refine hLk _ fun w11 M => ?_
 refine nV 4 fun g12 w13 M => ?_
 refine sT 0 0 fun w14 M => ?_
 refine lZ k9 ?_
 refine sk fun _ k15 => ?_
 refine wp_region_grow 10 [] (by kernel_rfl) (by kernel_rfl) (by kernel_rfl) (fun Lk hLk => ?_)
 simp only [Z7, Z8]
 refine vF ?_; refine vL ?_; refine vL ?_
 refine vC (fmul_c hp.x (finv_lt ..)) ?_
 refine vF ?_; refine vL ?_; refine vL ?_
 refine vC (fmul_c hp.y (finv_lt ..)) ?_
 refine vW ?_; refine vW ?_
 refine Z19 (hLk.out _ ?_)
 simp only [Z7, Z8]
 iterate 8 refine Z28 (by rfl) ?_
 refine wpN_new (t := 86) (cs := ([.int .u64 0, .int .u64 0, .int .u64 0, .int .u64 0]).toArray) (by rfl) (fun W => ?_) (fun g17 Hg17 ng17 => ?_)
 ·
  go_simp
 refine wpN_new (t := 86) (cs := ([.int .u64 0, .int .u64 0, .int .u64 0, .int .u64 0]).toArray) (by rfl) (fun W => ?_) (fun g18 Hg18 ng18 => ?_)
 ·
  go_simp
 simp only [Z0, Z6]
 refine Z29 (fun w19 Sw19 hbs => ?_)
 replace M := (((M.sees Sw19).add (N := 4) (cs := [.int .u64 0, .int .u64 0, .int .u64 0, .int .u64 0]) (M.ge Hg17) (M.fresh Hg17) (hbs _ (.tail _ (.head _))) rfl).add (N := 4) (cs := [.int .u64 0, .int .u64 0, .int .u64 0, .int .u64 0]) (M.ge Hg18) (fcons (ng18 _ (.head _)) (M.fresh Hg18)) (hbs _ (.head _)) rfl)
 clear hbs ng17 ng18
 refine sT 1 0 fun w20 M => ?_
 refine sT 0 0 fun w21 M => ?_
 refine lZ k15 ?_
 refine qS fun _ k22 => ?_
 refine lL ?_
 refine cM 1 fun Lk hLk => ?_
 refine vC (v := .string (bs (bytesN 32 (fmul p.y (finv p.z))))) (args := #[fe (fmul p.y (finv p.z))]) (fun W => (by have h9 := fbytes_c (x := fmul p.y (finv p.z)) (fmul_lt ..) W; rw [leastF_fmul] at h9; exact h9)) ?_
 refine hLk _ fun w24 M => ?_
 refine wpL_s2b (l := bytesN 32 (fmul p.y (finv p.z))) (by rfl) (by rfl) (by rfl) U99 U929 U95 (by rw [bytesN_len]; decide) (fun g25 g25c w26 Sw26 Hg25 Cg25 R T L => ?_)
 replace M := (M.sees Sw26).addR (M.ge Hg25) (M.fresh Hg25) T R L
 clear T R L
 rw [show (bytesN 32 (fmul p.y (finv p.z))).length = 32 from bytesN_len _ _] at Cg25
 rw [show (bytesN 32 (fmul p.y (finv p.z))).length = 32 from bytesN_len _ _]
 simp only [Z0, Z6]
 refine lg ?_; refine lZ k22 ?_
 refine sk fun _ k27 => ?_
 refine rG 13 [] fun Lk hLk => ?_
 refine vM ?_; refine vM ?_
 refine wpV_lenA (n := 32) (by rfl) rfl rfl rfl U929 ?_
 simp only [Z0, Z6]
 refine vB (v := .int .i64 31) (hr := fun W => (by exact run_sub rfl W)) ?_
 refine wpV_idxs (n := 31) (by rfl) rfl rfl rfl U929 info5 (by omega) ?_
 simp only [Z2]
 simp only [Z0, Z6]
 refine vP (pvLc (v := .int .u8 ((fmul p.y (finv p.z)) / 256 ^ 31 % 256 : Nat)) (zadd ((M.r 0 0 rfl rfl) _ _ (bytes_31 _))) (M.lt 0 rfl)) ?_
 refine vF ?_
 refine vP (pvLc (v := .int .u64 (limb (fmul p.x (finv p.z)) 0)) (range_one (range_sub (M.r 2 0 rfl rfl) 0 1 0 (xs := [.int .u64 (limb (fmul p.x (finv p.z)) 0)]) rfl rfl)) (M.lt 2 rfl)) ?_
 refine vB (v := .int .u64 ((fmul p.x (finv p.z)) % 2 : Nat)) (hr := run_and (and_limb0 _)) ?_
 refine wpV_conv (d := .bool) (e := ((((fmul p.x (finv p.z)) % 2) % 256 : Nat) : Int)) (by rfl) rfl rfl (run_conv_int Tryd.underlying40 U95 (wrap_u8N _)) ?_
 simp only [Z0, Z6]
 refine vB (v := .int .u8 ((fmul p.x (finv p.z)) % 2 * 128 : Nat)) (hr := fun W => (by exact shl7 _ W)) ?_
 refine vB (v := .int .u8 ((((fmul p.y (finv p.z)) / 256 ^ 31 % 256) ||| ((fmul p.x (finv p.z)) % 2 * 128) : Nat) : Int)) (hr := nr_or8 (Nat.mod_lt _ (by decide)) (by omega)) ?_
 refine wpV_idxs (n := 31) (by rfl) rfl rfl rfl U929 info5 (by omega) ?_
 simp only [Z2]
 simp only [Z0, Z6]
 refine hLk _ fun w29 M => ?_
 refine lS1 (g := g25) (off := 31) (n := g25c) (v := .int .u8 ((((fmul p.y (finv p.z)) / 256 ^ 31 % 256) ||| ((fmul p.x (finv p.z)) % 2 * 128) : Nat) : Int)) (M.t 0 rfl) (by omega) info5 rfl (fun w30 P R T => ?_)
 replace M := M.put1 (j := 31) 0 rfl P R T (Z2 _).symm
 simp only [Z6] at M
 rw [bytes_set] at M
 refine lZ k27 ?_
 refine qS fun _ k31 => ?_
 refine lM ?_
 refine cM 1 fun Lk hLk => ?_
 refine wpV_b2s (l := (textQ (fmul p.x (finv p.z)) (fmul p.y (finv p.z)))) (by rfl) rfl rfl (by unfold textQ; rw [List.length_set, bytesN_len]) U929 U95 U99 (M.r 0 0 rfl rfl) (M.lt 0 rfl) ?_
 simp only [Z0, Z6]
 refine hLk _ fun w33 M => ?_
 refine lg ?_; refine lg ?_; refine lZ k31 ?_; refine rt2 ?_
 exact ⟨rfl, M.below⟩
end Go.Proofs.Yc

