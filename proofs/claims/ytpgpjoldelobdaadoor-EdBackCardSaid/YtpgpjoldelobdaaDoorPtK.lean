import Derived.WalkKit
import Derived.WalkSpells
import Derived.Laws.Pointers
import Derived.RowKit3
import Derived.Below
import Derived.Outline
import Derived.LoopN
import Derived.Lib.Hide
import Derived.Handy
import Derived.Laws.Bits64b
import Derived.Test.YtpgpjoldelobdaaDoorPtJ
import Derived.Test.YtpgpjoldelobdaaDoorSteps12
set_option linter.unusedSimpArgs false
set_option linter.unusedVariables false
namespace Go.Proofs.Yc
open Go Go.RowKit Go.Proofs.Num
open Nat renaming zero_add → Z1, mod_eq_of_lt → Z4
open List renaming set → Z5, take → Z6, drop → Z7
open Go renaming wp_seq_k → Z9, wp_cond_false → Z11
open Go.Proofs.Num renaming putT → Z12, wp_region_seq → Z13, wpL_nil → Z14, no_panic → Z15, wpL_chunk → Z16, wpL_move → Z17, wpL_assign → Z18, wpV_nil → Z19, wpV_bin → Z20, wpV_move → Z21, wpL_store1 → Z23, wpV_val → Z24, wpV_callf → Z25, wpN_skip → Z28, wpN_nil → Z29, wpV_load → Z31, wpL_store → Z33, wpV_load1 → Z34, wpL_var → Z36
attribute [local irreducible] wpV wpN wpList
open Go.Proofs.Ya
theorem leastF_fmul (x y : Nat) : leastF (fmul x y) = fmul x y := Nat.mod_mod _ _
theorem and_limb0 (x : Nat) : bits .and .u64 ((limbN x 0 : Nat) : Int) 1 = ((x % 2 : Nat) : Int) := by
 have h := bitN_of x 0
 simpa using h
theorem nr_shl8 {P : Program} {T : TypeId} {k' : IntKind} {x n : Nat} (h : n ≤ 8) (W : World) : (binOp .shl T (.int .u8 (x : Nat)) (.int k' (n : Nat))).run P W = .ok (.int .u8 ((x * 2 ^ n % 256 : Nat) : Int)) W :=
 run_shl h (wrap_u8N _) W
theorem shl7 {P : Program} {T : TypeId} {k' : IntKind} (x : Nat) (W : World) : (binOp .shl T (.int .u8 ((x % 2 % 256 : Nat) : Int)) (.int k' 7)).run P W = .ok (.int .u8 ((x % 2 * 128 : Nat) : Int)) W := by
 rw [show x % 2 % 256 = x % 2 by omega]
 have h : (binOp .shl T (.int .u8 ((x % 2 : Nat) : Int)) (.int k' ((7 : Nat) : Int))).run P W = .ok (.int .u8 ((x % 2 * 2 ^ 7 % 256 : Nat) : Int)) W := nr_shl8 (by decide) W
 rw [Z4 (show x % 2 * 2 ^ 7 < 256 by omega)] at h
 exact h
theorem bytes_31 (y : Nat) : (bcells (bytesN 32 y))[31]? = some (.int .u8 ((y / 256 ^ 31 % 256 : Nat) : Int)) := by
 simp [bcells, bytesN, List.getElem?_map]
theorem bytes_set (x y : Nat) : (bcells (bytesN 32 y)).set 31 (.int .u8 (((y / 256 ^ 31 % 256) ||| (x % 2 * 128) : Nat) : Int)) = bcells (textQ x y) := by
 have h : (y / 256 ^ 31 % 256) ||| (x % 2 * 128) < 2 ^ 8 := Nat.or_lt_two_pow (Nat.mod_lt _ (by decide)) (by omega)
 have h9 : (UInt8.ofNat ((y / 256 ^ 31 % 256) ||| (x % 2 * 128))).toNat = (y / 256 ^ 31 % 256) ||| (x % 2 * 128) := by
  rw [UInt8.toNat_ofNat']
  exact Z4 h
 unfold textQ bcells
 rw [List.map_set, h9]
set_option maxHeartbeats 2000000 in
theorem Bytes_ok {p : P4} {w : World} (hp : p.Ok) (h1 : rightP p = true) :
  Calls Tryd.prog 57 #[.agg (fel p.x ++ fel p.y ++ fel p.z ++ fel p.t : List Value).toArray] w fun e w' => e = .returned (.tuple #[.string (bs (textQ (affX p) (affY p))), .int .i64 0]) ∧ Below w.heap.size w w' := by
 have hAX : affX p = fmul p.x (finv p.z) := rfl
 go_enter Tryd.func57, Tryd.ntmps57
 have M := Mem.start w
 refine Z9 (fun K1 hK1 => ?_)
 refine Z13 ?_
 refine Z36 (t := 88) (cs := fel p.x ++ fel p.y ++ fel p.z ++ fel p.t) (by rfl) (fun W => ?_) (fun g3 w4 Sw4 Hg3 Bg3 => ?_)
 ·
  (first | rfl | go_simp)
 replace M := ((M.sees Sw4).addS (N := 16) (cs := fel p.x ++ fel p.y ++ fel p.z ++ fel p.t) (segs := [(0, fel p.x), (4, fel p.y), (8, fel p.z), (12, fel p.t)]) (M.ge Hg3) (M.fresh Hg3) Bg3 (by simp [flen]) ⟨rfl, rfl, rfl, rfl, trivial⟩)
 clear Bg3
 simp only [Z12, Z5]
 refine Z18 (v := .string (bs ([]))) (by rfl) (by rfl) (by rfl) ?_
 simp only [Z12, Z5]
 refine Z18 (v := .int .i64 0) (by rfl) (by rfl) (by rfl) ?_
 simp only [Z12, Z5]
 refine Z14 (Z15 ?_)
 refine hK1 _ _ ?_
 refine Z9 (fun K5 hK5 => ?_)
 refine Z9 (fun K6 hK6 => ?_)
 refine Z13 ?_
 refine Z16 3 (by rfl) (fun Lk hLk => ?_)
 simp only [Z6, Z7]
 refine Z31 (cs := fel p.x ++ (fel p.y) ++ (fel p.z) ++ (fel p.t)) (by rfl) rfl rfl (range_join (range_join (range_join (M.r 0 0 rfl rfl) (M.r 0 1 rfl rfl) (by simp [flen])) (M.r 0 2 rfl rfl) (by simp [flen])) (M.r 0 3 rfl rfl) (by simp [flen])) (M.lt 0 rfl) Tryd.underlying88 rfl info88 ?_
 simp only [Z12, Z5]
 refine Z25 (v := .bool true) (args := #[.agg (fel p.x ++ (fel p.y) ++ (fel p.z) ++ (fel p.t) : List Value).toArray]) (by rfl) rfl Tryd.func93 (by kernel_rfl) (by kernel_rfl) rfl (fun W hW => by have h9 : Calls Tryd.prog _ _ W _ := right_c hp; rw [h1] at h9; exact h9) ?_
 simp only [Z12, Z5]
 refine wpV_not (b := true) (by rfl) rfl rfl ?_
 simp only [Bool.not_true, Bool.not_false]
 simp only [Z12, Z5]
 refine Z19 (hLk _ (fun w8 Sw8 => ?_))
 clear hLk Lk
 simp only [Z6, Z7]
 replace M := M.sees Sw8
 refine Z14 (Z15 ?_)
 refine hK6 _ _ ?_
 refine Z11 rfl ?_
 refine wp_skip ?_
 refine hK5 _ _ ?_
 refine Z9 (fun K9 hK9 => ?_)
 refine Z13 ?_
 refine Z16 3 (by rfl) (fun Lk hLk => ?_)
 simp only [Z6, Z7]
 refine Z24 (v := .pointer (some ⟨g3, 8, none⟩)) (by rfl) (by rfl) (fun W hW => ?_) ?_
 ·
  (go_simp; exact rfl)
 simp only [Z12, Z5]
 refine Z31 (cs := fel p.z) (by rfl) rfl rfl (M.r 0 2 rfl rfl) (M.lt 0 rfl) Tryd.underlying86 rfl info86 ?_
 simp only [Z12, Z5]
 refine Z25 (v := fe (finv p.z)) (args := #[fe p.z]) (by rfl) rfl Tryd.func97 (by kernel_rfl) (by kernel_rfl) rfl (fun W hW => finv_c hp.z W) ?_
 simp only [Z12, Z5]
 refine Z19 (hLk _ (fun w11 Sw11 => ?_))
 clear hLk Lk
 simp only [Z6, Z7]
 replace M := M.sees Sw11
 refine Z36 (t := 86) (cs := [.int .u64 0, .int .u64 0, .int .u64 0, .int .u64 0]) (by rfl) (fun W => ?_) (fun g12 w13 Sw13 Hg12 Bg12 => ?_)
 ·
  go_simp
 replace M := ((M.sees Sw13).add (N := 4) (cs := [.int .u64 0, .int .u64 0, .int .u64 0, .int .u64 0]) (M.ge Hg12) (M.fresh Hg12) Bg12 rfl)
 clear Bg12
 simp only [Z12, Z5]
 refine Z33 (g := g12) (off := 0) (n := 4) (cs := fel (finv p.z)) (by rfl) (by rfl) (by rfl) (by rfl) (by rfl) (M.t 0 rfl) (by simp [flen]) info86 (fel_one _) (fun w14 P R T => ?_)
 replace M := M.putS 0 0 rfl P R T rfl ⟨.inl rfl, trivial⟩
 simp only [Z5] at M
 refine Z14 (Z15 ?_)
 refine hK9 _ _ ?_
 refine Z9 (fun K15 hK15 => ?_)
 refine wp_region_grow 10 [] (by kernel_rfl) (by kernel_rfl) (by kernel_rfl) (fun Lk hLk => ?_)
 simp only [Z6, Z7]
 refine Z24 (v := .pointer (some ⟨g3, 0, none⟩)) (by rfl) (by rfl) (fun W hW => ?_) ?_
 ·
  (go_simp; exact rfl)
 simp only [Z12, Z5]
 refine Z31 (cs := fel p.x) (by rfl) rfl rfl (M.r 1 0 rfl rfl) (M.lt 1 rfl) Tryd.underlying86 rfl info86 ?_
 simp only [Z12, Z5]
 refine Z31 (cs := fel (finv p.z)) (by rfl) rfl rfl (M.r 0 0 rfl rfl) (M.lt 0 rfl) Tryd.underlying86 rfl info86 ?_
 simp only [Z12, Z5]
 refine Z25 (v := fe (fmul p.x (finv p.z))) (args := #[fe p.x, fe (finv p.z)]) (by rfl) rfl Tryd.func96 (by kernel_rfl) (by kernel_rfl) rfl (fun W hW => fmul_c hp.x (finv_lt ..) W) ?_
 simp only [Z12, Z5]
 refine Z24 (v := .pointer (some ⟨g3, 4, none⟩)) (by rfl) (by rfl) (fun W hW => ?_) ?_
 ·
  (go_simp; exact rfl)
 simp only [Z12, Z5]
 refine Z31 (cs := fel p.y) (by rfl) rfl rfl (M.r 1 1 rfl rfl) (M.lt 1 rfl) Tryd.underlying86 rfl info86 ?_
 simp only [Z12, Z5]
 refine Z31 (cs := fel (finv p.z)) (by rfl) rfl rfl (M.r 0 0 rfl rfl) (M.lt 0 rfl) Tryd.underlying86 rfl info86 ?_
 simp only [Z12, Z5]
 refine Z25 (v := fe (fmul p.y (finv p.z))) (args := #[fe p.y, fe (finv p.z)]) (by rfl) rfl Tryd.func96 (by kernel_rfl) (by kernel_rfl) rfl (fun W hW => fmul_c hp.y (finv_lt ..) W) ?_
 simp only [Z12, Z5]
 refine wpV_alloc (by rfl) ?_
 refine wpV_alloc (by rfl) ?_
 refine Z19 (hLk.out _ ?_)
 clear hLk Lk
 simp only [Z6, Z7]
 iterate 8 refine Z28 (by rfl) ?_
 refine wpN_new (t := 86) (cs := ([.int .u64 0, .int .u64 0, .int .u64 0, .int .u64 0]).toArray) (by rfl) (fun W => ?_) (fun g17 Hg17 ng17 => ?_)
 ·
  go_simp
 refine wpN_new (t := 86) (cs := ([.int .u64 0, .int .u64 0, .int .u64 0, .int .u64 0]).toArray) (by rfl) (fun W => ?_) (fun g18 Hg18 ng18 => ?_)
 ·
  go_simp
 simp only [Z12, Z5]
 refine Z29 (fun w19 Sw19 hbs => ?_)
 replace M := (((M.sees Sw19).add (N := 4) (cs := [.int .u64 0, .int .u64 0, .int .u64 0, .int .u64 0]) (M.ge Hg17) (M.fresh Hg17) (hbs _ (.tail _ (.head _))) rfl).add (N := 4) (cs := [.int .u64 0, .int .u64 0, .int .u64 0, .int .u64 0]) (M.ge Hg18) (fcons (ng18 _ (.head _)) (M.fresh Hg18)) (hbs _ (.head _)) rfl)
 clear hbs ng17 ng18
 refine Z33 (g := g17) (off := 0) (n := 4) (cs := fel (fmul p.x (finv p.z))) (by rfl) (by rfl) (by rfl) (by rfl) (by rfl) (M.t 1 rfl) (by simp [flen]) info86 (fel_one _) (fun w20 P R T => ?_)
 replace M := M.putS 1 0 rfl P R T rfl ⟨.inl rfl, trivial⟩
 simp only [Z5] at M
 refine Z33 (g := g18) (off := 0) (n := 4) (cs := fel (fmul p.y (finv p.z))) (by rfl) (by rfl) (by rfl) (by rfl) (by rfl) (M.t 0 rfl) (by simp [flen]) info86 (fel_one _) (fun w21 P R T => ?_)
 replace M := M.putS 0 0 rfl P R T rfl ⟨.inl rfl, trivial⟩
 simp only [Z5] at M
 refine Z14 (Z15 ?_)
 refine hK15 _ _ ?_
 refine Z9 (fun K22 hK22 => ?_)
 refine Z13 ?_
 refine Z16 2 (by rfl) (fun Lk hLk => ?_)
 simp only [Z6, Z7]
 refine Z31 (cs := fel (fmul p.y (finv p.z))) (by rfl) rfl rfl (M.r 0 0 rfl rfl) (M.lt 0 rfl) Tryd.underlying86 rfl info86 ?_
 simp only [Z12, Z5]
 refine Z25 (v := .string (bs (bytesN 32 (fmul p.y (finv p.z))))) (args := #[fe (fmul p.y (finv p.z))]) (by rfl) rfl Tryd.func98 (by kernel_rfl) (by kernel_rfl) rfl (fun W hW => (by have h9 := fbytes_c (x := fmul p.y (finv p.z)) (fmul_lt ..) W; rw [leastF_fmul] at h9; exact h9)) ?_
 simp only [Z12, Z5]
 refine Z19 (hLk _ (fun w24 Sw24 => ?_))
 clear hLk Lk
 simp only [Z6, Z7]
 replace M := M.sees Sw24
 refine wpL_s2b (l := bytesN 32 (fmul p.y (finv p.z))) (by rfl) (by rfl) (by rfl) Tryd.underlying9 Tryd.underlying29 Tryd.underlying5 (by rw [bytesN_len]; decide) (fun g25 g25c w26 Sw26 Hg25 Cg25 R T L => ?_)
 replace M := (M.sees Sw26).addR (M.ge Hg25) (M.fresh Hg25) T R L
 clear T R L
 rw [show (bytesN 32 (fmul p.y (finv p.z))).length = 32 from bytesN_len _ _] at Cg25
 rw [show (bytesN 32 (fmul p.y (finv p.z))).length = 32 from bytesN_len _ _]
 simp only [Z12, Z5]
 refine Z18 (v := .slice (some ⟨g25, 0, none⟩) 32 g25c) (by rfl) (by rfl) (by rfl) ?_
 simp only [Z12, Z5]
 refine Z14 (Z15 ?_)
 refine hK22 _ _ ?_
 refine Z9 (fun K27 hK27 => ?_)
 refine wp_region_grow 13 [] (by kernel_rfl) (by kernel_rfl) (by kernel_rfl) (fun Lk hLk => ?_)
 simp only [Z6, Z7]
 refine Z21 (v := .slice (some ⟨g25, 0, none⟩) 32 g25c) (by rfl) rfl rfl ?_
 simp only [Z12, Z5]
 refine Z21 (v := .slice (some ⟨g25, 0, none⟩) 32 g25c) (by rfl) rfl rfl ?_
 simp only [Z12, Z5]
 refine wpV_lenA (n := 32) (by rfl) rfl rfl rfl Tryd.underlying29 ?_
 simp only [Z12, Z5]
 refine Z20 (v := .int .i64 31) (by rfl) rfl rfl rfl (fun W => (by exact run_sub rfl W)) ?_
 simp only [Z12, Z5]
 refine wpV_idxs (n := 31) (by rfl) rfl rfl rfl Tryd.underlying29 info5 (by omega) ?_
 simp only [Z1]
 simp only [Z12, Z5]
 refine Z34 (v := .int .u8 (((fmul p.y (finv p.z)) / 256 ^ 31 % 256 : Nat) : Int)) (by rfl) rfl rfl (zadd ((M.r 0 0 rfl rfl) _ _ (bytes_31 _))) (M.lt 0 rfl) Tryd.underlying5 rfl ?_
 simp only [Z12, Z5]
 refine Z24 (v := .pointer (some ⟨g17, 0, none⟩)) (by rfl) (by rfl) (fun W hW => ?_) ?_
 ·
  (go_simp; exact rfl)
 simp only [Z12, Z5]
 refine Z34 (v := .int .u64 (limb (fmul p.x (finv p.z)) 0)) (by rfl) rfl rfl (range_one (range_sub (M.r 2 0 rfl rfl) 0 1 0 (xs := [.int .u64 (limb (fmul p.x (finv p.z)) 0)]) rfl rfl)) (M.lt 2 rfl) Tryd.underlying40 rfl ?_
 simp only [Z12, Z5]
 refine Z20 (v := .int .u64 (((fmul p.x (finv p.z)) % 2 : Nat) : Int)) (by rfl) rfl rfl rfl (fun W => run_and (and_limb0 _) W) ?_
 simp only [Z12, Z5]
 refine wpV_conv (d := .bool) (e := ((((fmul p.x (finv p.z)) % 2) % 256 : Nat) : Int)) (by rfl) rfl rfl (run_conv_int Tryd.underlying40 Tryd.underlying5 (wrap_u8N _)) ?_
 simp only [Z12, Z5]
 refine Z20 (v := .int .u8 (((fmul p.x (finv p.z)) % 2 * 128 : Nat) : Int)) (by rfl) rfl rfl rfl (fun W => (by exact shl7 _ W)) ?_
 simp only [Z12, Z5]
 refine Z20 (v := .int .u8 ((((fmul p.y (finv p.z)) / 256 ^ 31 % 256) ||| ((fmul p.x (finv p.z)) % 2 * 128) : Nat) : Int)) (by rfl) rfl rfl rfl (fun W => nr_or8 (Nat.mod_lt _ (by decide)) (by omega) W) ?_
 simp only [Z12, Z5]
 refine wpV_idxs (n := 31) (by rfl) rfl rfl rfl Tryd.underlying29 info5 (by omega) ?_
 simp only [Z1]
 simp only [Z12, Z5]
 refine Z19 (hLk.out _ ?_)
 clear hLk Lk
 simp only [Z6, Z7]
 iterate 13 refine Z28 (by rfl) ?_
 refine Z29 (fun w29 Sw29 hbs => ?_)
 clear hbs
 replace M := M.sees Sw29
 refine Z23 (g := g25) (off := 31) (n := g25c) (v := .int .u8 ((((fmul p.y (finv p.z)) / 256 ^ 31 % 256) ||| ((fmul p.x (finv p.z)) % 2 * 128) : Nat) : Int)) (by rfl) (by rfl) (by rfl) (by rfl) (by rfl) (M.t 0 rfl) (by omega) info5 rfl (fun w30 P R T => ?_)
 replace M := M.put1 (j := 31) 0 rfl P R T (Z1 _).symm
 simp only [Z5] at M
 rw [bytes_set] at M
 refine Z14 (Z15 ?_)
 refine hK27 _ _ ?_
 refine Z9 (fun K31 hK31 => ?_)
 refine Z13 ?_
 refine Z17 (v := .slice (some ⟨g25, 0, none⟩) 32 g25c) (by rfl) (by rfl) (by rfl) ?_
 simp only [Z12, Z5]
 refine Z16 1 (by rfl) (fun Lk hLk => ?_)
 simp only [Z6, Z7]
 refine wpV_b2s (l := (textQ (fmul p.x (finv p.z)) (fmul p.y (finv p.z)))) (by rfl) rfl rfl (by unfold textQ; rw [List.length_set, bytesN_len]) Tryd.underlying29 Tryd.underlying5 Tryd.underlying9 (M.r 0 0 rfl rfl) (M.lt 0 rfl) ?_
 simp only [Z12, Z5]
 refine Z19 (hLk _ (fun w33 Sw33 => ?_))
 clear hLk Lk
 simp only [Z6, Z7]
 replace M := M.sees Sw33
 refine Z18 (v := .string (bs (textQ (fmul p.x (finv p.z)) (fmul p.y (finv p.z))))) (by rfl) (by rfl) (by rfl) ?_
 simp only [Z12, Z5]
 refine Z18 (v := .int .i64 0) (by rfl) (by rfl) (by rfl) ?_
 simp only [Z12, Z5]
 refine Z14 (Z15 ?_)
 refine hK31 _ _ ?_
 refine wp_ret ?_
 repeat (first | with_reducible refine then_ret ?_ | with_reducible refine inblock_ret ?_)
 refine bodyPost_ret (v := .tuple #[.string (bs (textQ (fmul p.x (finv p.z)) (fmul p.y (finv p.z)))), .int .i64 0]) (res2 rfl (.tmp (by rfl)) (.tmp (by rfl))) rfl ?_
 have BE := M.below
 exact ⟨rfl, BE⟩
end Go.Proofs.Yc

