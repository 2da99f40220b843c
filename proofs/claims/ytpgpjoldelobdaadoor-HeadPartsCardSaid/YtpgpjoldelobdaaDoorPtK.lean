import Derived.WalkKit
import Derived.WalkSpells
import Derived.Laws.Pointers
import Derived.RowKit3
import Derived.Below
import Derived.Outline
import Derived.LoopN
import Derived.Lib.Hide
import Derived.Handy
import Derived.Laws.Bits64b
import Derived.Test.YtpgpjoldelobdaaDoorPtJ
import Derived.Test.YtpgpjoldelobdaaDoorSteps12
import Derived.Test.YtpgpjoldelobdaaDoorShq
set_option linter.unusedSimpArgs false
set_option linter.unusedVariables false
namespace Go.Proofs.Yc
open Go Go.RowKit Go.Proofs.Num
open Tryd renaming underlying29 → U929, underlying40 → U940, underlying5 → U95, underlying86 → U986, underlying9 → U99
open Go.Proofs.Num  renaming putT → Z0
open Nat renaming zero_add → Z2, mod_eq_of_lt → Z5
open List renaming set → Z6, take → Z7, drop → Z8
open Go renaming wp_seq_k → Z10, wp_cond_false → Z12
open Go.Proofs.Num renaming wp_region_seq → Z13, wpV_nil → Z19, wpV_callf → Z25, wpN_skip → Z28, wpN_nil → Z29, wpL_var → Z36
attribute [local irreducible] wpV wpN wpList
open Go.Proofs.Ya
theorem leastF_fmul (x y : Nat) : leastF (fmul x y) = fmul x y := Nat.mod_mod _ _
theorem and_limb0 (x : Nat) : bits .and .u64 ((limbN x 0 : Nat) : Int) 1 = ((x % 2 : Nat) : Int) := by
 have h := bitN_of x 0
 simpa using h
theorem nr_shl8 {P : Program} {T : TypeId} {k' : IntKind} {x n : Nat} (h : n ≤ 8) (W : World) : (binOp .shl T (.int .u8 (x : Nat)) (.int k' (n : Nat))).run P W = .ok (.int .u8 (x * 2 ^ n % 256 : Nat)) W :=
 run_shl h (wrap_u8N _) W
theorem shl7 {P : Program} {T : TypeId} {k' : IntKind} (x : Nat) (W : World) : (binOp .shl T (.int .u8 (x % 2 % 256 : Nat)) (.int k' 7)).run P W = .ok (.int .u8 (x % 2 * 128 : Nat)) W := by
 rw [show x % 2 % 256 = x % 2 by omega]
 have h : (binOp .shl T (.int .u8 (x % 2 : Nat)) (.int k' ((7 : Nat) : Int))).run P W = .ok (.int .u8 (x % 2 * 2 ^ 7 % 256 : Nat)) W := nr_shl8 (by decide) W
 rw [Z5 (show x % 2 * 2 ^ 7 < 256 by omega)] at h
 exact h
theorem bytes_31 (y : Nat) : (bcells (bytesN 32 y))[31]? = some (.int .u8 (y / 256 ^ 31 % 256 : Nat)) := by
 simp [bcells, bytesN, List.getElem?_map]
theorem bytes_set (x y : Nat) : (bcells (bytesN 32 y)).set 31 (.int .u8 ((y / 256 ^ 31 % 256) ||| (x % 2 * 128) : Nat)) = bcells (textQ x y) := by
 have h : (y / 256 ^ 31 % 256) ||| (x % 2 * 128) < 2 ^ 8 := Nat.or_lt_two_pow (Nat.mod_lt _ (by decide)) (by omega)
 have h9 : (UInt8.ofNat ((y / 256 ^ 31 % 256) ||| (x % 2 * 128))).toNat = (y / 256 ^ 31 % 256) ||| (x % 2 * 128) := by
  rw [UInt8.toNat_ofNat']
  exact Z5 h
 unfold textQ bcells
 rw [List.map_set, h9]
set_option maxHeartbeats 2000000 in
theorem Bytes_ok {p : P4} {w : World} (hp : p.Ok) (h1 : rightP p = true) :
  Calls Tryd.prog 57 #[.agg (fel p.x ++ fel p.y ++ fel p.z ++ fel p.t : List Value).toArray] w fun e w' => e = .returned (.tuple #[.string (bs (textQ (affX p) (affY p))), .int .i64 0]) ∧ Below w.heap.size w w' := by
 have hAX : affX p = fmul p.x (finv p.z) := rfl
 go_enter Tryd.func57, Tryd.ntmps57
 have M := Mem.start w
 refine Z10 (fun K1 hK1 => Z13 ?_)
 refine Z36 (t := 88) (cs := fel p.x ++ fel p.y ++ fel p.z ++ fel p.t) (by rfl) (fun W => ?_) (fun g3 w4 Sw4 Hg3 Bg3 => ?_)
 ·
  (first | rfl | go_simp)
 replace M := ((M.sees Sw4).addS (N := 16) (cs := fel p.x ++ fel p.y ++ fel p.z ++ fel p.t) (segs := [(0, fel p.x), (4, fel p.y), (8, fel p.z), (12, fel p.t)]) (M.ge Hg3) (M.fresh Hg3) Bg3 (by simp [flen]) ⟨rfl, rfl, rfl, rfl, trivial⟩)
 clear Bg3
 simp only [Z0, Z6]
 refine lAs (v := .string (bs ([]))) ?_
 refine lAs (v := .int .i64 0) ?_
 simp only [Z0, Z6]
 refine lNp (hK1 _ _ ?_)
 refine Z10 (fun K5 hK5 => ?_)
 refine Z10 (fun K6 hK6 => Z13 ?_)
 refine lCh 3 (fun Lk hLk => ?_)
 refine vLd (cs := fel p.x ++ (fel p.y) ++ (fel p.z) ++ (fel p.t)) (range_join (range_join (range_join (M.r 0 0 rfl rfl) (M.r 0 1 rfl rfl) (by simp [flen])) (M.r 0 2 rfl rfl) (by simp [flen])) (M.r 0 3 rfl rfl) (by simp [flen])) (M.lt 0 rfl) Tryd.underlying88 info88 ?_
 simp only [Z0, Z6]
 refine Z25 (v := .bool true) (args := #[.agg (fel p.x ++ (fel p.y) ++ (fel p.z) ++ (fel p.t) : List Value).toArray]) (by rfl) rfl Tryd.func93 (by kernel_rfl) (by kernel_rfl) rfl (fun W hW => by have h9 : Calls Tryd.prog _ _ W _ := right_c hp; rw [h1] at h9; exact h9) ?_
 simp only [Z0, Z6]
 refine wpV_not (b := true) (by rfl) rfl rfl ?_
 simp only [Bool.not_true, Bool.not_false]
 simp only [Z0, Z6]
 refine Z19 (hLk _ (fun w8 Sw8 => ?_))
 simp only [Z7, Z8]
 replace M := M.sees Sw8
 refine lNp (hK6 _ _ ?_)
 refine Z12 rfl ?_
 refine wp_skip ?_
 refine hK5 _ _ ?_
 refine Z10 (fun K9 hK9 => Z13 ?_)
 refine lCh 3 (fun Lk hLk => ?_)
 refine vGo (v := .pointer (some ⟨g3, 8, none⟩)) ?_
 simp only [Z0, Z6]
 refine vLd (cs := fel p.z) (M.r 0 2 rfl rfl) (M.lt 0 rfl) U986 info86 ?_
 simp only [Z0, Z6]
 refine Z25 (v := fe (finv p.z)) (args := #[fe p.z]) (by rfl) rfl Tryd.func97 (by kernel_rfl) (by kernel_rfl) rfl (fun W hW => finv_c hp.z W) ?_
 simp only [Z0, Z6]
 refine Z19 (hLk _ (fun w11 Sw11 => ?_))
 simp only [Z7, Z8]
 replace M := M.sees Sw11
 refine Z36 (t := 86) (cs := [.int .u64 0, .int .u64 0, .int .u64 0, .int .u64 0]) (by rfl) (fun W => ?_) (fun g12 w13 Sw13 Hg12 Bg12 => ?_)
 ·
  go_simp
 replace M := ((M.sees Sw13).add (N := 4) (cs := [.int .u64 0, .int .u64 0, .int .u64 0, .int .u64 0]) (M.ge Hg12) (M.fresh Hg12) Bg12 rfl)
 clear Bg12
 simp only [Z0, Z6]
 refine lSt (g := g12) (off := 0) (n := 4) (cs := fel (finv p.z)) (M.t 0 rfl) (by simp [flen]) info86 (fel_one _) (fun w14 P R T => ?_)
 replace M := M.putS 0 0 rfl P R T rfl ⟨.inl rfl, trivial⟩
 simp only [Z6] at M
 refine lNp (hK9 _ _ ?_)
 refine Z10 (fun K15 hK15 => ?_)
 refine wp_region_grow 10 [] (by kernel_rfl) (by kernel_rfl) (by kernel_rfl) (fun Lk hLk => ?_)
 simp only [Z7, Z8]
 refine vGo (v := .pointer (some ⟨g3, 0, none⟩)) ?_
 simp only [Z0, Z6]
 refine vLd (cs := fel p.x) (M.r 1 0 rfl rfl) (M.lt 1 rfl) U986 info86 ?_
 simp only [Z0, Z6]
 refine vLd (cs := fel (finv p.z)) (M.r 0 0 rfl rfl) (M.lt 0 rfl) U986 info86 ?_
 simp only [Z0, Z6]
 refine Z25 (v := fe (fmul p.x (finv p.z))) (args := #[fe p.x, fe (finv p.z)]) (by rfl) rfl Tryd.func96 (by kernel_rfl) (by kernel_rfl) rfl (fun W hW => fmul_c hp.x (finv_lt ..) W) ?_
 simp only [Z0, Z6]
 refine vGo (v := .pointer (some ⟨g3, 4, none⟩)) ?_
 simp only [Z0, Z6]
 refine vLd (cs := fel p.y) (M.r 1 1 rfl rfl) (M.lt 1 rfl) U986 info86 ?_
 simp only [Z0, Z6]
 refine vLd (cs := fel (finv p.z)) (M.r 0 0 rfl rfl) (M.lt 0 rfl) U986 info86 ?_
 simp only [Z0, Z6]
 refine Z25 (v := fe (fmul p.y (finv p.z))) (args := #[fe p.y, fe (finv p.z)]) (by rfl) rfl Tryd.func96 (by kernel_rfl) (by kernel_rfl) rfl (fun W hW => fmul_c hp.y (finv_lt ..) W) ?_
 simp only [Z0, Z6]
 refine vAl ?_
 refine vAl ?_
 refine Z19 (hLk.out _ ?_)
 simp only [Z7, Z8]
 iterate 8 refine Z28 (by rfl) ?_
 refine wpN_new (t := 86) (cs := ([.int .u64 0, .int .u64 0, .int .u64 0, .int .u64 0]).toArray) (by rfl) (fun W => ?_) (fun g17 Hg17 ng17 => ?_)
 ·
  go_simp
 refine wpN_new (t := 86) (cs := ([.int .u64 0, .int .u64 0, .int .u64 0, .int .u64 0]).toArray) (by rfl) (fun W => ?_) (fun g18 Hg18 ng18 => ?_)
 ·
  go_simp
 simp only [Z0, Z6]
 refine Z29 (fun w19 Sw19 hbs => ?_)
 replace M := (((M.sees Sw19).add (N := 4) (cs := [.int .u64 0, .int .u64 0, .int .u64 0, .int .u64 0]) (M.ge Hg17) (M.fresh Hg17) (hbs _ (.tail _ (.head _))) rfl).add (N := 4) (cs := [.int .u64 0, .int .u64 0, .int .u64 0, .int .u64 0]) (M.ge Hg18) (fcons (ng18 _ (.head _)) (M.fresh Hg18)) (hbs _ (.head _)) rfl)
 clear hbs ng17 ng18
 refine lSt (g := g17) (off := 0) (n := 4) (cs := fel (fmul p.x (finv p.z))) (M.t 1 rfl) (by simp [flen]) info86 (fel_one _) (fun w20 P R T => ?_)
 replace M := M.putS 1 0 rfl P R T rfl ⟨.inl rfl, trivial⟩
 simp only [Z6] at M
 refine lSt (g := g18) (off := 0) (n := 4) (cs := fel (fmul p.y (finv p.z))) (M.t 0 rfl) (by simp [flen]) info86 (fel_one _) (fun w21 P R T => ?_)
 replace M := M.putS 0 0 rfl P R T rfl ⟨.inl rfl, trivial⟩
 simp only [Z6] at M
 refine lNp (hK15 _ _ ?_)
 refine Z10 (fun K22 hK22 => Z13 ?_)
 refine lCh 2 (fun Lk hLk => ?_)
 refine vLd (cs := fel (fmul p.y (finv p.z))) (M.r 0 0 rfl rfl) (M.lt 0 rfl) U986 info86 ?_
 simp only [Z0, Z6]
 refine Z25 (v := .string (bs (bytesN 32 (fmul p.y (finv p.z))))) (args := #[fe (fmul p.y (finv p.z))]) (by rfl) rfl Tryd.func98 (by kernel_rfl) (by kernel_rfl) rfl (fun W hW => (by have h9 := fbytes_c (x := fmul p.y (finv p.z)) (fmul_lt ..) W; rw [leastF_fmul] at h9; exact h9)) ?_
 simp only [Z0, Z6]
 refine Z19 (hLk _ (fun w24 Sw24 => ?_))
 simp only [Z7, Z8]
 replace M := M.sees Sw24
 refine wpL_s2b (l := bytesN 32 (fmul p.y (finv p.z))) (by rfl) (by rfl) (by rfl) U99 U929 U95 (by rw [bytesN_len]; decide) (fun g25 g25c w26 Sw26 Hg25 Cg25 R T L => ?_)
 replace M := (M.sees Sw26).addR (M.ge Hg25) (M.fresh Hg25) T R L
 clear T R L
 rw [show (bytesN 32 (fmul p.y (finv p.z))).length = 32 from bytesN_len _ _] at Cg25
 rw [show (bytesN 32 (fmul p.y (finv p.z))).length = 32 from bytesN_len _ _]
 simp only [Z0, Z6]
 refine lAs (v := .slice (some ⟨g25, 0, none⟩) 32 g25c) ?_
 simp only [Z0, Z6]
 refine lNp (hK22 _ _ ?_)
 refine Z10 (fun K27 hK27 => ?_)
 refine wp_region_grow 13 [] (by kernel_rfl) (by kernel_rfl) (by kernel_rfl) (fun Lk hLk => ?_)
 simp only [Z7, Z8]
 refine vMv (v := .slice (some ⟨g25, 0, none⟩) 32 g25c) ?_
 simp only [Z0, Z6]
 refine vMv (v := .slice (some ⟨g25, 0, none⟩) 32 g25c) ?_
 simp only [Z0, Z6]
 refine wpV_lenA (n := 32) (by rfl) rfl rfl rfl U929 ?_
 simp only [Z0, Z6]
 refine vBn (v := .int .i64 31) (hr := fun W => (by exact run_sub rfl W)) ?_
 simp only [Z0, Z6]
 refine wpV_idxs (n := 31) (by rfl) rfl rfl rfl U929 info5 (by omega) ?_
 simp only [Z2]
 simp only [Z0, Z6]
 refine vL1 (v := .int .u8 ((fmul p.y (finv p.z)) / 256 ^ 31 % 256 : Nat)) (zadd ((M.r 0 0 rfl rfl) _ _ (bytes_31 _))) (M.lt 0 rfl) U95 ?_
 simp only [Z0, Z6]
 refine vGo (v := .pointer (some ⟨g17, 0, none⟩)) ?_
 simp only [Z0, Z6]
 refine vL1 (v := .int .u64 (limb (fmul p.x (finv p.z)) 0)) (range_one (range_sub (M.r 2 0 rfl rfl) 0 1 0 (xs := [.int .u64 (limb (fmul p.x (finv p.z)) 0)]) rfl rfl)) (M.lt 2 rfl) U940 ?_
 simp only [Z0, Z6]
 refine vBn (v := .int .u64 ((fmul p.x (finv p.z)) % 2 : Nat)) (hr := fun W => run_and (and_limb0 _) W) ?_
 simp only [Z0, Z6]
 refine wpV_conv (d := .bool) (e := ((((fmul p.x (finv p.z)) % 2) % 256 : Nat) : Int)) (by rfl) rfl rfl (run_conv_int U940 U95 (wrap_u8N _)) ?_
 simp only [Z0, Z6]
 refine vBn (v := .int .u8 ((fmul p.x (finv p.z)) % 2 * 128 : Nat)) (hr := fun W => (by exact shl7 _ W)) ?_
 simp only [Z0, Z6]
 refine vBn (v := .int .u8 ((((fmul p.y (finv p.z)) / 256 ^ 31 % 256) ||| ((fmul p.x (finv p.z)) % 2 * 128) : Nat) : Int)) (hr := fun W => nr_or8 (Nat.mod_lt _ (by decide)) (by omega) W) ?_
 simp only [Z0, Z6]
 refine wpV_idxs (n := 31) (by rfl) rfl rfl rfl U929 info5 (by omega) ?_
 simp only [Z2]
 simp only [Z0, Z6]
 refine Z19 (hLk.out _ ?_)
 simp only [Z7, Z8]
 iterate 13 refine Z28 (by rfl) ?_
 refine Z29 (fun w29 Sw29 hbs => ?_)
 clear hbs
 replace M := M.sees Sw29
 refine lS1 (g := g25) (off := 31) (n := g25c) (v := .int .u8 ((((fmul p.y (finv p.z)) / 256 ^ 31 % 256) ||| ((fmul p.x (finv p.z)) % 2 * 128) : Nat) : Int)) (M.t 0 rfl) (by omega) info5 rfl (fun w30 P R T => ?_)
 replace M := M.put1 (j := 31) 0 rfl P R T (Z2 _).symm
 simp only [Z6] at M
 rw [bytes_set] at M
 refine lNp (hK27 _ _ ?_)
 refine Z10 (fun K31 hK31 => Z13 ?_)
 refine lMv (v := .slice (some ⟨g25, 0, none⟩) 32 g25c) ?_
 simp only [Z0, Z6]
 refine lCh 1 (fun Lk hLk => ?_)
 refine wpV_b2s (l := (textQ (fmul p.x (finv p.z)) (fmul p.y (finv p.z)))) (by rfl) rfl rfl (by unfold textQ; rw [List.length_set, bytesN_len]) U929 U95 U99 (M.r 0 0 rfl rfl) (M.lt 0 rfl) ?_
 simp only [Z0, Z6]
 refine Z19 (hLk _ (fun w33 Sw33 => ?_))
 simp only [Z7, Z8]
 replace M := M.sees Sw33
 refine lAs (v := .string (bs (textQ (fmul p.x (finv p.z)) (fmul p.y (finv p.z))))) ?_
 refine lAs (v := .int .i64 0) ?_
 simp only [Z0, Z6]
 refine lNp (hK31 _ _ ?_)
 refine wp_ret ?_
 repeat (first | with_reducible refine then_ret ?_ | with_reducible refine inblock_ret ?_)
 refine bodyPost_ret (v := .tuple #[.string (bs (textQ (fmul p.x (finv p.z)) (fmul p.y (finv p.z)))), .int .i64 0]) (res2 rfl (.tmp (by rfl)) (.tmp (by rfl))) rfl ?_
 have BE := M.below
 exact ⟨rfl, BE⟩
end Go.Proofs.Yc

