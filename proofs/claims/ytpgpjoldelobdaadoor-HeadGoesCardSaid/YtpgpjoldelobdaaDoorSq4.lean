import Derived.WalkKit
import Derived.WalkSpells
import Derived.Laws.Pointers
import Derived.RowKit3
import Derived.Below
import Derived.Outline
import Derived.LoopN
import Derived.Lib.Hide
import Derived.Handy
import Derived.Laws.Bits64b
import Derived.Test.YtpgpjoldelobdaaDoorPtK
import Derived.Test.YtpgpjoldelobdaaDoorAdds2
import Derived.Test.YtpgpjoldelobdaaDoorF3
import Derived.Test.YtpgpjoldelobdaaDoorShq
import Derived.Shelf.Strings.Builder1
import Derived.Shelf.Strings.Builder2
import Derived.Shelf.Small.Bits
import Derived.Shelf.Small.Strs
import Derived.Shelf.Strings.BuilderF
import Derived.Shelf.Strconv.Itoa0
import Derived.Shelf.Strings.Search1
import Derived.Shelf.Strings.Prefix
import Derived.Shelf.Bits.Mul64
import Derived.Shelf.Strings.Repeat
import Derived.Test.YtpgpjoldelobdaaDoorProg
set_option linter.unusedSimpArgs false
set_option linter.unusedVariables false
namespace Go.Proofs.Yc
open Go Go.RowKit Go.Proofs.Num

attribute [local irreducible] wpV wpN wpList
open Go.Proofs.Ya
theorem run_andNot {P : Program} {T : TypeId} {k : IntKind} {m n e : Int} (h : bits .andNot k m n = e) (W : World) : (binOp .andNot T (.int k m) (.int k n)).run P W = .ok (.int k e) W := by subst h; simp [binOp, go_sem]
theorem andNot_fin : ∀ b : Fin 256, bits .andNot .u8 (b.val : Int) 128 = ((b.val % 128 : Nat) : Int) := by decide +kernel
theorem andNot_128 {b : Nat} (h : b < 256) : bits .andNot .u8 (b : Int) 128 = ((b % 128 : Nat) : Int) := andNot_fin ⟨b, h⟩
end Go.Proofs.Yc

namespace Go.Proofs.Yc
open Go Go.RowKit Go.Proofs.Num

theorem info9 : (Tryd.prog.info? 9).map (·.size) = some 1 := by kernel_rfl
theorem info33 : (Tryd.prog.info? 33).map (·.size) = some 4 := by kernel_rfl
theorem info147 : (Tryd.prog.info? 147).map (·.size) = some 1 := by kernel_rfl
theorem info154 : (Tryd.prog.info? 154).map (·.size) = some 10 := by kernel_rfl
theorem info171 : (Tryd.prog.info? 171).map (·.size) = some 10 := by kernel_rfl
theorem info196 : (Tryd.prog.info? 196).map (·.size) = some 64 := by kernel_rfl
theorem info201 : (Tryd.prog.info? 201).map (·.size) = some 80 := by kernel_rfl
end Go.Proofs.Yc

namespace Go.Proofs.Yc
open Go Go.RowKit Go.Proofs.Num
open Tryd renaming underlying201 → U9201, underlying40 → U940, underlying5 → U95, underlying9 → U99
open Go.Proofs.Num  renaming putT → Z0
open Nat renaming zero_add → Z2, mod_eq_of_lt → Z5
open List renaming set → Z6
open Go renaming undef → Z9
open Go.Proofs.Num renaming wp_region_seq → Z13, wpL_nil → Z14, no_panic → Z15, then_normal → Z22, wpL_var → Z36
attribute [local irreducible] wpV wpN wpList
open Go.Proofs.Ya
theorem rotl_wrapq {n : Nat} (h1 : 1 ≤ n) (h2 : n ≤ 63) : IntKind.u64.wrap (-((n : Nat) : Int)) = ((18446744073709551616 - n : Nat) : Int) := by
 rw [IntKind.wrap_u64]; omega
theorem rotl_andq {n : Nat} (h1 : 1 ≤ n) (h2 : n ≤ 63) : bits .and .u64 ((18446744073709551616 - n : Nat) : Int) 63 = ((64 - n : Nat) : Int) := by
 have h := bits_and_u64_nat (18446744073709551616 - n) 63 (by omega) (by decide)
 refine h.trans ?_
 rw [show (63 : Nat) = 2 ^ 6 - 1 by decide, Nat.and_two_pow_sub_one_eq_mod]
 omega
theorem or8q {a b : Nat} (ha : a < 72057594037927936) (hb : b < 256) : bits .or .u64 ((a * 256 : Nat) : Int) ((b : Nat) : Int) = ((a * 256 + b : Nat) : Int) := by
 have h1 := toNat_of (n := 64) (a := a * 256) (Nat.lt_of_lt_of_eq (by omega : a * 256 < 18446744073709551616) (by decide))
 have h2 := toNat_of (n := 64) (a := b) (show b < 18446744073709551616 by omega)
 have h : a * 256 + b < 2 ^ 64 := by omega
 show IntKind.wrap .u64 ((BitVec.ofInt 64 ((a * 256 : Nat) : Int) ||| BitVec.ofInt 64 ((b : Nat) : Int)).toNat : Int) = _
 rw [BitVec.toNat_or, h1, h2, show a * 256 ||| b = a * 256 + b by have := Nat.shiftLeft_add_eq_or_of_lt (i := 8) (b := b) (by omega) a; rw [Nat.shiftLeft_eq, show (2 : Nat) ^ 8 = 256 by decide] at this; exact this.symm, wrap64N, Z5 h]
set_option maxHeartbeats 1000000 in
theorem rotl_cq {x n : Nat} {w : World} (hx : x < 18446744073709551616) (hn1 : 1 ≤ n) (hn2 : n ≤ 63) :
  Calls Tryd.prog 160 #[.int .u64 x, .int .i64 (-((n : Nat) : Int))] w fun e w' => e = .returned (.int .u64 (rotrq x n : Nat)) ∧ Below w.heap.size w w' := by
 go_enter Tryd.func160, Tryd.ntmps160
 have M := Mem.start w
 refine qS fun _ k1 => ?_
 refine lg ?_; refine lZ k1 ?_
 refine qS fun _ k3 => ?_
 refine lM ?_
 refine cM 2 fun Lk hLk => ?_
 refine wpV_conv (d := .bool) (e := ((18446744073709551616 - n : Nat) : Int)) (by rfl) rfl rfl (run_conv_int Tryd.underlying3 Tryd.underlying99 (rotl_wrapq hn1 hn2)) ?_
 simp only [Z0, Z6]
 refine vB (v := .int .u64 (64 - n : Nat)) (hr := run_and (rotl_andq hn1 hn2)) ?_
 refine hLk _ fun w5 M => ?_
 refine lg ?_; refine lZ k3 ?_
 refine qS fun _ k6 => ?_
 refine lM ?_; refine lM ?_
 refine cM 6 fun Lk hLk => ?_
 refine vB (v := .int .u64 (x * 2 ^ (64 - n) % 18446744073709551616 : Nat)) (hr := nr_shl64 (x := x) (n := 64 - n) (by omega)) ?_
 refine vM ?_; refine vM ?_
 refine vB (v := .int .u64 (64 - (64 - n) : Nat)) (hr := nr_sub64 (x := 64) (y := 64 - n) (by omega) (by decide)) ?_
 refine vB (v := .int .u64 (x / 2 ^ (64 - (64 - n)) : Nat)) (hr := nr_shr64 (x := x) (n := 64 - (64 - n)) (by omega)) ?_
 refine vB (v := .int .u64 (((x * 2 ^ (64 - n) % 18446744073709551616) ||| (x / 2 ^ (64 - (64 - n))) : Nat) : Int)) (hr := nr_or64 (x := x * 2 ^ (64 - n) % 18446744073709551616) (y := x / 2 ^ (64 - (64 - n))) (mod_lt64 _) (div_lt64 _ hx)) ?_
 refine hLk _ fun w8 M => ?_
 refine lg ?_; refine lZ k6 ?_; refine rt1 ?_
 have BE := M.below
 exact ⟨by (rw [show 64 - (64 - n) = n by omega, rotr_orq hx (by omega)]; try rfl), BE⟩
set_option maxHeartbeats 1000000 in
theorem read_cq {l : List UInt8} {w : World} (hl : 8 ≤ l.length) :
  Calls Tryd.prog 162 #[.string (bs l)] w fun e w' => e = .returned (.int .u64 (be4q l 0 : Nat)) ∧ Below w.heap.size w w' := by
 go_enter Tryd.func162, Tryd.ntmps162
 have M := Mem.start w
 refine qS fun _ k1 => ?_
 refine lg ?_; refine lZ k1 ?_
 refine qS fun _ k3 => ?_
 refine lg ?_; refine lZ k3 ?_
 refine sk fun _ k5 => ?_
 refine qS fun _ k6 => ?_
 refine lM ?_; refine lZ k6 ?_; refine wp_block ?_; refine wp_loop_rounds 9 ?_
 rw [rounds_succ]
 refine qS fun _ k8 => ?_
 refine cM 1 fun Lk hLk => ?_
 refine vB (v := .bool true) (hr := run_lss _ _ _ _) ?_
 refine hLk _ fun w10 M => ?_
 refine lZ k8 ?_
 refine sk fun _ k11 => ?_
 refine cT ?_; refine sZ k11 ?_
 refine sk fun _ k12 => ?_
 refine wp_block ?_
 refine qS fun _ k13 => ?_
 refine lM ?_; refine lg ?_; refine lZ k13 ?_; refine Z13 ?_; refine lM ?_
 refine cM 6 fun Lk hLk => ?_
 refine vB (v := .int .u64 (0 * 256 : Nat)) (hr := run_shl (m := 0) (n := 8) (by decide) ((wrap64N _).trans (congrArg _ (by have := byteN_lt l 0; have := byteN_lt l 1; have := byteN_lt l 2; have := byteN_lt l 3; have := byteN_lt l 4; have := byteN_lt l 5; have := byteN_lt l 6; omega)))) ?_
 refine vM ?_; refine vM ?_
 refine wpV_indexb (n := 0) (by omega) (by rfl) rfl rfl rfl U99 ?_
 simp only [Z0, Z6]
 refine wpV_conv (d := .bool) (e := ((byteN l 0 : Nat) : Int)) (by rfl) rfl rfl (run_conv_int U95 U940 (by have := (byteN_lt l 0); rw [wrap_u64]; omega)) ?_
 simp only [Z0, Z6]
 refine vB (v := .int .u64 (byteN l 0 : Nat)) (hr := run_or ((or8q (a := 0) (b := byteN l 0) (by decide) (byteN_lt l 0)).trans (by rw [Nat.zero_mul, Z2]))) ?_
 refine hLk _ fun w16 M => ?_
 refine lg ?_; refine lZ k12 ?_; refine Z13 ?_
 refine cM 1 fun Lk hLk => ?_
 refine vB (v := .int .i64 1) (hr := run_add (by decide)) ?_
 refine hLk _ fun w18 M => ?_
 refine lM ?_
 refine Z14 (Z15 ?_)
 refine Z22 (Q := fun _ _ _ => True) ?_
 rw [rounds_succ]
 refine qS fun _ k19 => ?_
 refine cM 1 fun Lk hLk => ?_
 refine vB (v := .bool true) (hr := run_lss _ _ _ _) ?_
 refine hLk _ fun w21 M => ?_
 refine lZ k19 ?_
 refine sk fun _ k22 => ?_
 refine cT ?_; refine sZ k22 ?_
 refine sk fun _ k23 => ?_
 refine wp_block ?_
 refine qS fun _ k24 => ?_
 refine lM ?_; refine lg ?_; refine lZ k24 ?_; refine Z13 ?_; refine lM ?_
 refine cM 6 fun Lk hLk => ?_
 refine vB (v := .int .u64 ((byteN l 0) * 256 : Nat)) (hr := run_shl (m := byteN l 0) (n := 8) (by decide) ((wrap64N _).trans (congrArg _ (by have := byteN_lt l 0; have := byteN_lt l 1; have := byteN_lt l 2; have := byteN_lt l 3; have := byteN_lt l 4; have := byteN_lt l 5; have := byteN_lt l 6; omega)))) ?_
 refine vM ?_; refine vM ?_
 refine wpV_indexb (n := 1) (by omega) (by rfl) rfl rfl rfl U99 ?_
 simp only [Z0, Z6]
 refine wpV_conv (d := .bool) (e := ((byteN l 1 : Nat) : Int)) (by rfl) rfl rfl (run_conv_int U95 U940 (by have := (byteN_lt l 1); rw [wrap_u64]; omega)) ?_
 simp only [Z0, Z6]
 refine vB (v := .int .u64 (byteN l 0 * 256 + byteN l 1 : Nat)) (hr := run_or (or8q (a := byteN l 0) (b := byteN l 1) (by have := byteN_lt l 0; have := byteN_lt l 1; have := byteN_lt l 2; have := byteN_lt l 3; have := byteN_lt l 4; have := byteN_lt l 5; have := byteN_lt l 6; omega) (byteN_lt l 1))) ?_
 refine hLk _ fun w27 M => ?_
 refine lg ?_; refine lZ k23 ?_; refine Z13 ?_
 refine cM 1 fun Lk hLk => ?_
 refine vB (v := .int .i64 2) (hr := run_add (by decide)) ?_
 refine hLk _ fun w29 M => ?_
 refine lM ?_
 refine Z14 (Z15 ?_)
 refine Z22 (Q := fun _ _ _ => True) ?_
 rw [rounds_succ]
 refine qS fun _ k30 => ?_
 refine cM 1 fun Lk hLk => ?_
 refine vB (v := .bool true) (hr := run_lss _ _ _ _) ?_
 refine hLk _ fun w32 M => ?_
 refine lZ k30 ?_
 refine sk fun _ k33 => ?_
 refine cT ?_; refine sZ k33 ?_
 refine sk fun _ k34 => ?_
 refine wp_block ?_
 refine qS fun _ k35 => ?_
 refine lM ?_; refine lg ?_; refine lZ k35 ?_; refine Z13 ?_; refine lM ?_
 refine cM 6 fun Lk hLk => ?_
 refine vB (v := .int .u64 ((byteN l 0 * 256 + byteN l 1) * 256 : Nat)) (hr := run_shl (m := byteN l 0 * 256 + byteN l 1) (n := 8) (by decide) ((wrap64N _).trans (congrArg _ (by have := byteN_lt l 0; have := byteN_lt l 1; have := byteN_lt l 2; have := byteN_lt l 3; have := byteN_lt l 4; have := byteN_lt l 5; have := byteN_lt l 6; omega)))) ?_
 refine vM ?_; refine vM ?_
 refine wpV_indexb (n := 2) (by omega) (by rfl) rfl rfl rfl U99 ?_
 simp only [Z0, Z6]
 refine wpV_conv (d := .bool) (e := ((byteN l 2 : Nat) : Int)) (by rfl) rfl rfl (run_conv_int U95 U940 (by have := (byteN_lt l 2); rw [wrap_u64]; omega)) ?_
 simp only [Z0, Z6]
 refine vB (v := .int .u64 ((byteN l 0 * 256 + byteN l 1) * 256 + byteN l 2 : Nat)) (hr := run_or (or8q (a := byteN l 0 * 256 + byteN l 1) (b := byteN l 2) (by have := byteN_lt l 0; have := byteN_lt l 1; have := byteN_lt l 2; have := byteN_lt l 3; have := byteN_lt l 4; have := byteN_lt l 5; have := byteN_lt l 6; omega) (byteN_lt l 2))) ?_
 refine hLk _ fun w38 M => ?_
 refine lg ?_; refine lZ k34 ?_; refine Z13 ?_
 refine cM 1 fun Lk hLk => ?_
 refine vB (v := .int .i64 3) (hr := run_add (by decide)) ?_
 refine hLk _ fun w40 M => ?_
 refine lM ?_
 refine Z14 (Z15 ?_)
 refine Z22 (Q := fun _ _ _ => True) ?_
 rw [rounds_succ]
 refine qS fun _ k41 => ?_
 refine cM 1 fun Lk hLk => ?_
 refine vB (v := .bool true) (hr := run_lss _ _ _ _) ?_
 refine hLk _ fun w43 M => ?_
 refine lZ k41 ?_
 refine sk fun _ k44 => ?_
 refine cT ?_; refine sZ k44 ?_
 refine sk fun _ k45 => ?_
 refine wp_block ?_
 refine qS fun _ k46 => ?_
 refine lM ?_; refine lg ?_; refine lZ k46 ?_; refine Z13 ?_; refine lM ?_
 refine cM 6 fun Lk hLk => ?_
 refine vB (v := .int .u64 (((byteN l 0 * 256 + byteN l 1) * 256 + byteN l 2) * 256 : Nat)) (hr := run_shl (m := (byteN l 0 * 256 + byteN l 1) * 256 + byteN l 2) (n := 8) (by decide) ((wrap64N _).trans (congrArg _ (by have := byteN_lt l 0; have := byteN_lt l 1; have := byteN_lt l 2; have := byteN_lt l 3; have := byteN_lt l 4; have := byteN_lt l 5; have := byteN_lt l 6; omega)))) ?_
 refine vM ?_; refine vM ?_
 refine wpV_indexb (n := 3) (by omega) (by rfl) rfl rfl rfl U99 ?_
 simp only [Z0, Z6]
 refine wpV_conv (d := .bool) (e := ((byteN l 3 : Nat) : Int)) (by rfl) rfl rfl (run_conv_int U95 U940 (by have := (byteN_lt l 3); rw [wrap_u64]; omega)) ?_
 simp only [Z0, Z6]
 refine vB (v := .int .u64 (((byteN l 0 * 256 + byteN l 1) * 256 + byteN l 2) * 256 + byteN l 3 : Nat)) (hr := run_or (or8q (a := (byteN l 0 * 256 + byteN l 1) * 256 + byteN l 2) (b := byteN l 3) (by have := byteN_lt l 0; have := byteN_lt l 1; have := byteN_lt l 2; have := byteN_lt l 3; have := byteN_lt l 4; have := byteN_lt l 5; have := byteN_lt l 6; omega) (byteN_lt l 3))) ?_
 refine hLk _ fun w49 M => ?_
 refine lg ?_; refine lZ k45 ?_; refine Z13 ?_
 refine cM 1 fun Lk hLk => ?_
 refine vB (v := .int .i64 4) (hr := run_add (by decide)) ?_
 refine hLk _ fun w51 M => ?_
 refine lM ?_
 refine Z14 (Z15 ?_)
 refine Z22 (Q := fun _ _ _ => True) ?_
 rw [rounds_succ]
 refine qS fun _ k52 => ?_
 refine cM 1 fun Lk hLk => ?_
 refine vB (v := .bool true) (hr := run_lss _ _ _ _) ?_
 refine hLk _ fun w54 M => ?_
 refine lZ k52 ?_
 refine sk fun _ k55 => ?_
 refine cT ?_; refine sZ k55 ?_
 refine sk fun _ k56 => ?_
 refine wp_block ?_
 refine qS fun _ k57 => ?_
 refine lM ?_; refine lg ?_; refine lZ k57 ?_; refine Z13 ?_; refine lM ?_
 refine cM 6 fun Lk hLk => ?_
 refine vB (v := .int .u64 (((((byteN l 0 * 256 + byteN l 1) * 256 + byteN l 2) * 256 + byteN l 3) * 256 : Nat) : Int)) (hr := run_shl (m := ((byteN l 0 * 256 + byteN l 1) * 256 + byteN l 2) * 256 + byteN l 3) (n := 8) (by decide) ((wrap64N _).trans (congrArg _ (by have := byteN_lt l 0; have := byteN_lt l 1; have := byteN_lt l 2; have := byteN_lt l 3; have := byteN_lt l 4; have := byteN_lt l 5; have := byteN_lt l 6; omega)))) ?_
 refine vM ?_; refine vM ?_
 refine wpV_indexb (n := 4) (by omega) (by rfl) rfl rfl rfl U99 ?_
 simp only [Z0, Z6]
 refine wpV_conv (d := .bool) (e := ((byteN l 4 : Nat) : Int)) (by rfl) rfl rfl (run_conv_int U95 U940 (by have := (byteN_lt l 4); rw [wrap_u64]; omega)) ?_
 simp only [Z0, Z6]
 refine vB (v := .int .u64 (((((byteN l 0 * 256 + byteN l 1) * 256 + byteN l 2) * 256 + byteN l 3) * 256 + byteN l 4 : Nat) : Int)) (hr := run_or (or8q (a := ((byteN l 0 * 256 + byteN l 1) * 256 + byteN l 2) * 256 + byteN l 3) (b := byteN l 4) (by have := byteN_lt l 0; have := byteN_lt l 1; have := byteN_lt l 2; have := byteN_lt l 3; have := byteN_lt l 4; have := byteN_lt l 5; have := byteN_lt l 6; omega) (byteN_lt l 4))) ?_
 refine hLk _ fun w60 M => ?_
 refine lg ?_; refine lZ k56 ?_; refine Z13 ?_
 refine cM 1 fun Lk hLk => ?_
 refine vB (v := .int .i64 5) (hr := run_add (by decide)) ?_
 refine hLk _ fun w62 M => ?_
 refine lM ?_
 refine Z14 (Z15 ?_)
 refine Z22 (Q := fun _ _ _ => True) ?_
 rw [rounds_succ]
 refine qS fun _ k63 => ?_
 refine cM 1 fun Lk hLk => ?_
 refine vB (v := .bool true) (hr := run_lss _ _ _ _) ?_
 refine hLk _ fun w65 M => ?_
 refine lZ k63 ?_
 refine sk fun _ k66 => ?_
 refine cT ?_; refine sZ k66 ?_
 refine sk fun _ k67 => ?_
 refine wp_block ?_
 refine qS fun _ k68 => ?_
 refine lM ?_; refine lg ?_; refine lZ k68 ?_; refine Z13 ?_; refine lM ?_
 refine cM 6 fun Lk hLk => ?_
 refine vB (v := .int .u64 ((((((byteN l 0 * 256 + byteN l 1) * 256 + byteN l 2) * 256 + byteN l 3) * 256 + byteN l 4) * 256 : Nat) : Int)) (hr := run_shl (m := (((byteN l 0 * 256 + byteN l 1) * 256 + byteN l 2) * 256 + byteN l 3) * 256 + byteN l 4) (n := 8) (by decide) ((wrap64N _).trans (congrArg _ (by have := byteN_lt l 0; have := byteN_lt l 1; have := byteN_lt l 2; have := byteN_lt l 3; have := byteN_lt l 4; have := byteN_lt l 5; have := byteN_lt l 6; omega)))) ?_
 refine vM ?_; refine vM ?_
 refine wpV_indexb (n := 5) (by omega) (by rfl) rfl rfl rfl U99 ?_
 simp only [Z0, Z6]
 refine wpV_conv (d := .bool) (e := ((byteN l 5 : Nat) : Int)) (by rfl) rfl rfl (run_conv_int U95 U940 (by have := (byteN_lt l 5); rw [wrap_u64]; omega)) ?_
 simp only [Z0, Z6]
 refine vB (v := .int .u64 ((((((byteN l 0 * 256 + byteN l 1) * 256 + byteN l 2) * 256 + byteN l 3) * 256 + byteN l 4) * 256 + byteN l 5 : Nat) : Int)) (hr := run_or (or8q (a := (((byteN l 0 * 256 + byteN l 1) * 256 + byteN l 2) * 256 + byteN l 3) * 256 + byteN l 4) (b := byteN l 5) (by have := byteN_lt l 0; have := byteN_lt l 1; have := byteN_lt l 2; have := byteN_lt l 3; have := byteN_lt l 4; have := byteN_lt l 5; have := byteN_lt l 6; omega) (byteN_lt l 5))) ?_
 refine hLk _ fun w71 M => ?_
 refine lg ?_; refine lZ k67 ?_; refine Z13 ?_
 refine cM 1 fun Lk hLk => ?_
 refine vB (v := .int .i64 6) (hr := run_add (by decide)) ?_
 refine hLk _ fun w73 M => ?_
 refine lM ?_
 refine Z14 (Z15 ?_)
 refine Z22 (Q := fun _ _ _ => True) ?_
 rw [rounds_succ]
 refine qS fun _ k74 => ?_
 refine cM 1 fun Lk hLk => ?_
 refine vB (v := .bool true) (hr := run_lss _ _ _ _) ?_
 refine hLk _ fun w76 M => ?_
 refine lZ k74 ?_
 refine sk fun _ k77 => ?_
 refine cT ?_; refine sZ k77 ?_
 refine sk fun _ k78 => ?_
 refine wp_block ?_
 refine qS fun _ k79 => ?_
 refine lM ?_; refine lg ?_; refine lZ k79 ?_; refine Z13 ?_; refine lM ?_
 refine cM 6 fun Lk hLk => ?_
 refine vB (v := .int .u64 (((((((byteN l 0 * 256 + byteN l 1) * 256 + byteN l 2) * 256 + byteN l 3) * 256 + byteN l 4) * 256 + byteN l 5) * 256 : Nat) : Int)) (hr := run_shl (m := ((((byteN l 0 * 256 + byteN l 1) * 256 + byteN l 2) * 256 + byteN l 3) * 256 + byteN l 4) * 256 + byteN l 5) (n := 8) (by decide) ((wrap64N _).trans (congrArg _ (by have := byteN_lt l 0; have := byteN_lt l 1; have := byteN_lt l 2; have := byteN_lt l 3; have := byteN_lt l 4; have := byteN_lt l 5; have := byteN_lt l 6; omega)))) ?_
 refine vM ?_; refine vM ?_
 refine wpV_indexb (n := 6) (by omega) (by rfl) rfl rfl rfl U99 ?_
 simp only [Z0, Z6]
 refine wpV_conv (d := .bool) (e := ((byteN l 6 : Nat) : Int)) (by rfl) rfl rfl (run_conv_int U95 U940 (by have := (byteN_lt l 6); rw [wrap_u64]; omega)) ?_
 simp only [Z0, Z6]
 refine vB (v := .int .u64 (((((((byteN l 0 * 256 + byteN l 1) * 256 + byteN l 2) * 256 + byteN l 3) * 256 + byteN l 4) * 256 + byteN l 5) * 256 + byteN l 6 : Nat) : Int)) (hr := run_or (or8q (a := ((((byteN l 0 * 256 + byteN l 1) * 256 + byteN l 2) * 256 + byteN l 3) * 256 + byteN l 4) * 256 + byteN l 5) (b := byteN l 6) (by have := byteN_lt l 0; have := byteN_lt l 1; have := byteN_lt l 2; have := byteN_lt l 3; have := byteN_lt l 4; have := byteN_lt l 5; have := byteN_lt l 6; omega) (byteN_lt l 6))) ?_
 refine hLk _ fun w82 M => ?_
 refine lg ?_; refine lZ k78 ?_; refine Z13 ?_
 refine cM 1 fun Lk hLk => ?_
 refine vB (v := .int .i64 7) (hr := run_add (by decide)) ?_
 refine hLk _ fun w84 M => ?_
 refine lM ?_
 refine Z14 (Z15 ?_)
 refine Z22 (Q := fun _ _ _ => True) ?_
 rw [rounds_succ]
 refine qS fun _ k85 => ?_
 refine cM 1 fun Lk hLk => ?_
 refine vB (v := .bool true) (hr := run_lss _ _ _ _) ?_
 refine hLk _ fun w87 M => ?_
 refine lZ k85 ?_
 refine sk fun _ k88 => ?_
 refine cT ?_; refine sZ k88 ?_
 refine sk fun _ k89 => ?_
 refine wp_block ?_
 refine qS fun _ k90 => ?_
 refine lM ?_; refine lg ?_; refine lZ k90 ?_; refine Z13 ?_; refine lM ?_
 refine cM 6 fun Lk hLk => ?_
 refine vB (v := .int .u64 ((((((((byteN l 0 * 256 + byteN l 1) * 256 + byteN l 2) * 256 + byteN l 3) * 256 + byteN l 4) * 256 + byteN l 5) * 256 + byteN l 6) * 256 : Nat) : Int)) (hr := run_shl (m := (((((byteN l 0 * 256 + byteN l 1) * 256 + byteN l 2) * 256 + byteN l 3) * 256 + byteN l 4) * 256 + byteN l 5) * 256 + byteN l 6) (n := 8) (by decide) ((wrap64N _).trans (congrArg _ (by have := byteN_lt l 0; have := byteN_lt l 1; have := byteN_lt l 2; have := byteN_lt l 3; have := byteN_lt l 4; have := byteN_lt l 5; have := byteN_lt l 6; omega)))) ?_
 refine vM ?_; refine vM ?_
 refine wpV_indexb (n := 7) (by omega) (by rfl) rfl rfl rfl U99 ?_
 simp only [Z0, Z6]
 refine wpV_conv (d := .bool) (e := ((byteN l 7 : Nat) : Int)) (by rfl) rfl rfl (run_conv_int U95 U940 (by have := (byteN_lt l 7); rw [wrap_u64]; omega)) ?_
 simp only [Z0, Z6]
 refine vB (v := .int .u64 (be4q l 0 : Nat)) (hr := run_or (or8q (a := (((((byteN l 0 * 256 + byteN l 1) * 256 + byteN l 2) * 256 + byteN l 3) * 256 + byteN l 4) * 256 + byteN l 5) * 256 + byteN l 6) (b := byteN l 7) (by have := byteN_lt l 0; have := byteN_lt l 1; have := byteN_lt l 2; have := byteN_lt l 3; have := byteN_lt l 4; have := byteN_lt l 5; have := byteN_lt l 6; omega) (byteN_lt l 7))) ?_
 refine hLk _ fun w93 M => ?_
 refine lg ?_; refine lZ k89 ?_; refine Z13 ?_
 refine cM 1 fun Lk hLk => ?_
 refine vB (v := .int .i64 8) (hr := run_add (by decide)) ?_
 refine hLk _ fun w95 M => ?_
 refine lM ?_
 refine Z14 (Z15 ?_)
 refine Z22 (Q := fun _ _ _ => True) ?_
 rw [rounds_succ]
 refine qS fun _ k96 => ?_
 refine cM 1 fun Lk hLk => ?_
 refine vB (v := .bool false) (hr := run_lss _ _ _ _) ?_
 refine hLk _ fun w98 M => ?_
 refine lZ k96 ?_
 refine sk fun _ _ => ?_
 refine cF ?_; refine eZ k5 ?_
 refine qS fun _ k100 => ?_
 refine lM ?_; refine lg ?_; refine lZ k100 ?_; refine rt1 ?_
 exact ⟨rfl, M.below⟩
set_option maxHeartbeats 2000000 in
theorem spread_cq {l : List UInt8} {w : World} (hl : 128 ≤ l.length) :
  Calls Tryd.prog 159 #[.string (bs l)] w fun e w' => e = .returned (.agg (wcellsq l 80).toArray) ∧ Below w.heap.size w w' := by
 go_enter Tryd.func159, Tryd.ntmps159
 have M := Mem.start w
 refine qS fun _ k1 => ?_
 refine Z36 (t := 201) (cs := [.int .u64 0, .int .u64 0, .int .u64 0, .int .u64 0, .int .u64 0, .int .u64 0, .int .u64 0, .int .u64 0, .int .u64 0, .int .u64 0, .int .u64 0, .int .u64 0, .int .u64 0, .int .u64 0, .int .u64 0, .int .u64 0, .int .u64 0, .int .u64 0, .int .u64 0, .int .u64 0, .int .u64 0, .int .u64 0, .int .u64 0, .int .u64 0, .int .u64 0, .int .u64 0, .int .u64 0, .int .u64 0, .int .u64 0, .int .u64 0, .int .u64 0, .int .u64 0, .int .u64 0, .int .u64 0, .int .u64 0, .int .u64 0, .int .u64 0, .int .u64 0, .int .u64 0, .int .u64 0, .int .u64 0, .int .u64 0, .int .u64 0, .int .u64 0, .int .u64 0, .int .u64 0, .int .u64 0, .int .u64 0, .int .u64 0, .int .u64 0, .int .u64 0, .int .u64 0, .int .u64 0, .int .u64 0, .int .u64 0, .int .u64 0, .int .u64 0, .int .u64 0, .int .u64 0, .int .u64 0, .int .u64 0, .int .u64 0, .int .u64 0, .int .u64 0, .int .u64 0, .int .u64 0, .int .u64 0, .int .u64 0, .int .u64 0, .int .u64 0, .int .u64 0, .int .u64 0, .int .u64 0, .int .u64 0, .int .u64 0, .int .u64 0, .int .u64 0, .int .u64 0, .int .u64 0, .int .u64 0]) (by rfl) (fun W => ?_) (fun g3 w4 Sw4 Hg3 Bg3 => ?_)
 ·
  (go_simp <;> rfl)
 replace M := ((M.sees Sw4).add (N := 80) (cs := [.int .u64 0, .int .u64 0, .int .u64 0, .int .u64 0, .int .u64 0, .int .u64 0, .int .u64 0, .int .u64 0, .int .u64 0, .int .u64 0, .int .u64 0, .int .u64 0, .int .u64 0, .int .u64 0, .int .u64 0, .int .u64 0, .int .u64 0, .int .u64 0, .int .u64 0, .int .u64 0, .int .u64 0, .int .u64 0, .int .u64 0, .int .u64 0, .int .u64 0, .int .u64 0, .int .u64 0, .int .u64 0, .int .u64 0, .int .u64 0, .int .u64 0, .int .u64 0, .int .u64 0, .int .u64 0, .int .u64 0, .int .u64 0, .int .u64 0, .int .u64 0, .int .u64 0, .int .u64 0, .int .u64 0, .int .u64 0, .int .u64 0, .int .u64 0, .int .u64 0, .int .u64 0, .int .u64 0, .int .u64 0, .int .u64 0, .int .u64 0, .int .u64 0, .int .u64 0, .int .u64 0, .int .u64 0, .int .u64 0, .int .u64 0, .int .u64 0, .int .u64 0, .int .u64 0, .int .u64 0, .int .u64 0, .int .u64 0, .int .u64 0, .int .u64 0, .int .u64 0, .int .u64 0, .int .u64 0, .int .u64 0, .int .u64 0, .int .u64 0, .int .u64 0, .int .u64 0, .int .u64 0, .int .u64 0, .int .u64 0, .int .u64 0, .int .u64 0, .int .u64 0, .int .u64 0, .int .u64 0]) (M.ge Hg3) (M.fresh Hg3) Bg3 rfl)
 clear Bg3
 simp only [Z0, Z6]
 refine lZ k1 ?_
 refine qS fun _ k5 => ?_
 refine Z36 (t := 201) (cs := [.int .u64 0, .int .u64 0, .int .u64 0, .int .u64 0, .int .u64 0, .int .u64 0, .int .u64 0, .int .u64 0, .int .u64 0, .int .u64 0, .int .u64 0, .int .u64 0, .int .u64 0, .int .u64 0, .int .u64 0, .int .u64 0, .int .u64 0, .int .u64 0, .int .u64 0, .int .u64 0, .int .u64 0, .int .u64 0, .int .u64 0, .int .u64 0, .int .u64 0, .int .u64 0, .int .u64 0, .int .u64 0, .int .u64 0, .int .u64 0, .int .u64 0, .int .u64 0, .int .u64 0, .int .u64 0, .int .u64 0, .int .u64 0, .int .u64 0, .int .u64 0, .int .u64 0, .int .u64 0, .int .u64 0, .int .u64 0, .int .u64 0, .int .u64 0, .int .u64 0, .int .u64 0, .int .u64 0, .int .u64 0, .int .u64 0, .int .u64 0, .int .u64 0, .int .u64 0, .int .u64 0, .int .u64 0, .int .u64 0, .int .u64 0, .int .u64 0, .int .u64 0, .int .u64 0, .int .u64 0, .int .u64 0, .int .u64 0, .int .u64 0, .int .u64 0, .int .u64 0, .int .u64 0, .int .u64 0, .int .u64 0, .int .u64 0, .int .u64 0, .int .u64 0, .int .u64 0, .int .u64 0, .int .u64 0, .int .u64 0, .int .u64 0, .int .u64 0, .int .u64 0, .int .u64 0, .int .u64 0]) (by rfl) (fun W => ?_) (fun g7 w8 Sw8 Hg7 Bg7 => ?_)
 ·
  (go_simp <;> rfl)
 replace M := ((M.sees Sw8).add (N := 80) (cs := [.int .u64 0, .int .u64 0, .int .u64 0, .int .u64 0, .int .u64 0, .int .u64 0, .int .u64 0, .int .u64 0, .int .u64 0, .int .u64 0, .int .u64 0, .int .u64 0, .int .u64 0, .int .u64 0, .int .u64 0, .int .u64 0, .int .u64 0, .int .u64 0, .int .u64 0, .int .u64 0, .int .u64 0, .int .u64 0, .int .u64 0, .int .u64 0, .int .u64 0, .int .u64 0, .int .u64 0, .int .u64 0, .int .u64 0, .int .u64 0, .int .u64 0, .int .u64 0, .int .u64 0, .int .u64 0, .int .u64 0, .int .u64 0, .int .u64 0, .int .u64 0, .int .u64 0, .int .u64 0, .int .u64 0, .int .u64 0, .int .u64 0, .int .u64 0, .int .u64 0, .int .u64 0, .int .u64 0, .int .u64 0, .int .u64 0, .int .u64 0, .int .u64 0, .int .u64 0, .int .u64 0, .int .u64 0, .int .u64 0, .int .u64 0, .int .u64 0, .int .u64 0, .int .u64 0, .int .u64 0, .int .u64 0, .int .u64 0, .int .u64 0, .int .u64 0, .int .u64 0, .int .u64 0, .int .u64 0, .int .u64 0, .int .u64 0, .int .u64 0, .int .u64 0, .int .u64 0, .int .u64 0, .int .u64 0, .int .u64 0, .int .u64 0, .int .u64 0, .int .u64 0, .int .u64 0, .int .u64 0]) (M.ge Hg7) (M.fresh Hg7) Bg7 rfl)
 clear Bg7
 simp only [Z0, Z6]
 refine lZ k5 ?_
 refine sk fun _ k9 => ?_
 refine qS fun _ k10 => ?_
 refine lM ?_; refine lZ k10 ?_; refine wp_block ?_
 replace M := M.read1 (cs := wcellsq l 0) (o := 0) 0 rfl (by rw [wcells_zeroq]; exact (M.r 0 0 rfl rfl))
 simp only [Z6] at M
 refine wp_loop_ghost (fun n9 a9 W9 => ∃ (t : Nat) (u12 : Nat → Value), n9 = 80 - t ∧ a9 = { tmps := #[.string (bs l), Z9, .pointer (some ⟨g3, 0, none⟩), .pointer (some ⟨g7, 0, none⟩), u12 4, u12 5, u12 6, u12 7, u12 8, .int .i64 t, u12 10, u12 11, u12 12, u12 13, u12 14, u12 15, u12 16, u12 17, u12 18, u12 19, u12 20, u12 21, u12 22, u12 23, u12 24, u12 25, u12 26, u12 27, u12 28, u12 29, u12 30, u12 31, u12 32, u12 33, u12 34, u12 35, u12 36, u12 37, u12 38, u12 39, u12 40, u12 41, u12 42, u12 43, u12 44, u12 45, u12 46, u12 47, u12 48, u12 49, u12 50, u12 51, u12 52, u12 53, u12 54, u12 55, u12 56, u12 57, u12 58, u12 59, u12 60, Z9], defers := [] } ∧ Mem [] w W9 [⟨g7, 80, [(0, wcellsq l t)]⟩, ⟨g3, 80, [(0, [.int .u64 0, .int .u64 0, .int .u64 0, .int .u64 0, .int .u64 0, .int .u64 0, .int .u64 0, .int .u64 0, .int .u64 0, .int .u64 0, .int .u64 0, .int .u64 0, .int .u64 0, .int .u64 0, .int .u64 0, .int .u64 0, .int .u64 0, .int .u64 0, .int .u64 0, .int .u64 0, .int .u64 0, .int .u64 0, .int .u64 0, .int .u64 0, .int .u64 0, .int .u64 0, .int .u64 0, .int .u64 0, .int .u64 0, .int .u64 0, .int .u64 0, .int .u64 0, .int .u64 0, .int .u64 0, .int .u64 0, .int .u64 0, .int .u64 0, .int .u64 0, .int .u64 0, .int .u64 0, .int .u64 0, .int .u64 0, .int .u64 0, .int .u64 0, .int .u64 0, .int .u64 0, .int .u64 0, .int .u64 0, .int .u64 0, .int .u64 0, .int .u64 0, .int .u64 0, .int .u64 0, .int .u64 0, .int .u64 0, .int .u64 0, .int .u64 0, .int .u64 0, .int .u64 0, .int .u64 0, .int .u64 0, .int .u64 0, .int .u64 0, .int .u64 0, .int .u64 0, .int .u64 0, .int .u64 0, .int .u64 0, .int .u64 0, .int .u64 0, .int .u64 0, .int .u64 0, .int .u64 0, .int .u64 0, .int .u64 0, .int .u64 0, .int .u64 0, .int .u64 0, .int .u64 0, .int .u64 0])]⟩] ∧ (t ≤ 80)) (80 - (0)) ?_ (fun n9 a9 W9 hI => ?_)
 ·
  exact ⟨0, (fun q9 => (#[Z9, Z9, Z9, Z9, Z9, Z9, Z9, Z9, Z9, Z9, Z9, Z9, Z9, Z9, Z9, Z9, Z9, Z9, Z9, Z9, Z9, Z9, Z9, Z9, Z9, Z9, Z9, Z9, Z9, Z9, Z9, Z9, Z9, Z9, Z9, Z9, Z9, Z9, Z9, Z9, Z9, Z9, Z9, Z9, Z9, Z9, Z9, Z9, Z9, Z9, Z9, Z9, Z9, Z9, Z9, Z9, Z9, Z9, Z9, Z9, Z9] : Array Value).getD q9 Z9), rfl, rfl, M, (by omega)⟩
 clear M
 obtain ⟨t, u12, rfl, rfl, M, ht4⟩ := hI
 obtain ⟨w13, rfl⟩ : ∃ W8, W8 = W9 := ⟨_, rfl⟩
 refine qS fun _ k14 => ?_
 refine cM 1 fun Lk hLk => ?_
 refine vB (v := .bool (decide (t < 80))) (hr := run_lssN t 80 _ _) ?_
 refine hLk _ fun w16 M => ?_
 refine lZ k14 ?_
 refine sk fun _ k17 => ?_
 cases hc18 : (decide (t < 80))
 ·
  have et : t = 80 := by have := of_decide_eq_false hc18; omega
  subst et
  refine cF ?_; refine eZ k9 ?_
  refine qS fun _ k19 => ?_
  refine lL ?_
  refine lSt (g := g3) (off := 0) (n := 80) (cs := wcellsq l 80) (M.t 1 rfl) (by rw [wcells_lenq]; decide) info201 (wcells_oneq _ _) (fun w22 P R T => ?_)
  replace M := M.putS 1 0 rfl P R T rfl ⟨.inl rfl, trivial⟩
  simp only [Z6] at M
  refine lZ k19 ?_; refine rt ?_
  refine bodyPost_ret (v := .agg (wcellsq l 80).toArray) (res1 rfl (.cell (by rfl) (run_loadVar_mid _ _ _ _ (wcellsq l 80) _ (M.r 1 0 rfl rfl) U9201 rfl info201))) rfl ?_
  exact ⟨rfl, M.below⟩
 have ht : t < 80 := of_decide_eq_true hc18
 refine cT ?_; refine sZ k17 ?_
 refine sk fun _ k23 => ?_
 refine wp_block ?_
 refine qS fun _ k24 => ?_
 refine lM ?_; refine lg ?_; refine lZ k24 ?_
 refine sk fun _ k26 => ?_
 refine qS fun _ k27 => ?_
 refine lM ?_
 refine cM 1 fun Lk hLk => ?_
 refine vB (v := .bool (decide (t < 16))) (hr := run_lssN t 16 _ _) ?_
 refine hLk _ fun w29 M => ?_
 refine lZ k27 ?_
 cases hc30 : (decide (t < 16))
 ·
  have h16 : ¬ t < 16 := of_decide_eq_false hc30
  refine cF ?_; refine sZ k26 ?_
  refine sk fun _ k31 => ?_
  refine rG 10 [] fun Lk hLk => ?_
  refine vM ?_
  refine vB (v := .int .i64 (t - 15 : Nat)) (hr := run_sub (by simp only [IntKind.wrap_i64]; omega)) ?_
  refine wpV_idx (n := t - 15) (by rfl) rfl rfl rfl U9201 info40 (by omega) ?_
  simp only [Z2]
  simp only [Z0, Z6]
  refine vQ (v := .int .u64 (shWq l (t - 15) : Nat)) (hc := (zadd ((M.r 0 0 rfl rfl) _ _ (wcells_atq l (by omega) (by omega))))) (hb := (M.lt 0 rfl)) ?_
  refine vM ?_
  refine vB (v := .int .i64 (t - 2 : Nat)) (hr := run_sub (by simp only [IntKind.wrap_i64]; omega)) ?_
  refine wpV_idx (n := t - 2) (by rfl) rfl rfl rfl U9201 info40 (by omega) ?_
  simp only [Z2]
  simp only [Z0, Z6]
  refine vQ (v := .int .u64 (shWq l (t - 2) : Nat)) (hc := (zadd ((M.r 0 0 rfl rfl) _ _ (wcells_atq l (by omega) (by omega))))) (hb := (M.lt 0 rfl)) ?_
  refine vg ?_; refine vg ?_
  refine hLk _ fun w33 M => ?_
  refine lZ k31 ?_
  refine qS fun _ k34 => ?_
  refine lM ?_
  refine cM 7 fun Lk hLk => ?_
  refine vCh (v := .int .u64 (rotrq (shWq l (t - 15)) 1 : Nat)) (args := #[.int .u64 (shWq l (t - 15) : Nat), .int .i64 (-1)]) (fun W hW => (by have := rotl_cq (x := shWq l (t - 15)) (n := 1) (w := W) (shW_ltq ..) (by decide) (by decide); exact this)) ?_
  refine vM ?_
  refine vCh (v := .int .u64 (rotrq (shWq l (t - 15)) 8 : Nat)) (args := #[.int .u64 (shWq l (t - 15) : Nat), .int .i64 (-8)]) (fun W hW => (by have := rotl_cq (x := shWq l (t - 15)) (n := 8) (w := W) (shW_ltq ..) (by decide) (by decide); exact this)) ?_
  refine vB (v := .int .u64 (((rotrq (shWq l (t - 15)) 1) ^^^ (rotrq (shWq l (t - 15)) 8) : Nat) : Int)) (hr := nr_xor64 (x := rotrq (shWq l (t - 15)) 1) (y := rotrq (shWq l (t - 15)) 8) (rotr_ltq (shW_ltq ..) (by decide)) (rotr_ltq (shW_ltq ..) (by decide))) ?_
  refine vM ?_
  refine vB (v := .int .u64 ((shWq l (t - 15)) / 2 ^ 7 : Nat)) (hr := nr_shr64 (x := shWq l (t - 15)) (n := 7) (by omega)) ?_
  refine vB (v := .int .u64 (sg0q (shWq l (t - 15)) : Nat)) (hr := nr_xor64 (x := (rotrq (shWq l (t - 15)) 1) ^^^ (rotrq (shWq l (t - 15)) 8)) (y := (shWq l (t - 15)) / 2 ^ 7) (xor_lt64 (rotr_ltq (shW_ltq ..) (by decide)) (rotr_ltq (shW_ltq ..) (by decide))) (div_lt64 _ (shW_ltq ..))) ?_
  refine hLk _ fun w36 M => ?_
  refine lg ?_; refine lZ k34 ?_
  refine qS fun _ k37 => ?_
  refine lM ?_
  refine cM 7 fun Lk hLk => ?_
  refine vCh (v := .int .u64 (rotrq (shWq l (t - 2)) 19 : Nat)) (args := #[.int .u64 (shWq l (t - 2) : Nat), .int .i64 (-19)]) (fun W hW => (by have := rotl_cq (x := shWq l (t - 2)) (n := 19) (w := W) (shW_ltq ..) (by decide) (by decide); exact this)) ?_
  refine vM ?_
  refine vCh (v := .int .u64 (rotrq (shWq l (t - 2)) 61 : Nat)) (args := #[.int .u64 (shWq l (t - 2) : Nat), .int .i64 (-61)]) (fun W hW => (by have := rotl_cq (x := shWq l (t - 2)) (n := 61) (w := W) (shW_ltq ..) (by decide) (by decide); exact this)) ?_
  refine vB (v := .int .u64 (((rotrq (shWq l (t - 2)) 19) ^^^ (rotrq (shWq l (t - 2)) 61) : Nat) : Int)) (hr := nr_xor64 (x := rotrq (shWq l (t - 2)) 19) (y := rotrq (shWq l (t - 2)) 61) (rotr_ltq (shW_ltq ..) (by decide)) (rotr_ltq (shW_ltq ..) (by decide))) ?_
  refine vM ?_
  refine vB (v := .int .u64 ((shWq l (t - 2)) / 2 ^ 6 : Nat)) (hr := nr_shr64 (x := shWq l (t - 2)) (n := 6) (by omega)) ?_
  refine vB (v := .int .u64 (sg1q (shWq l (t - 2)) : Nat)) (hr := nr_xor64 (x := (rotrq (shWq l (t - 2)) 19) ^^^ (rotrq (shWq l (t - 2)) 61)) (y := (shWq l (t - 2)) / 2 ^ 6) (xor_lt64 (rotr_ltq (shW_ltq ..) (by decide)) (rotr_ltq (shW_ltq ..) (by decide))) (div_lt64 _ (shW_ltq ..))) ?_
  refine hLk _ fun w39 M => ?_
  refine lg ?_; refine lZ k37 ?_
  refine rG 15 [] fun Lk hLk => ?_
  refine vM ?_; refine vM ?_
  refine vB (v := .int .i64 (t - 16 : Nat)) (hr := run_sub (by simp only [IntKind.wrap_i64]; omega)) ?_
  refine wpV_idx (n := t - 16) (by rfl) rfl rfl rfl U9201 info40 (by omega) ?_
  simp only [Z2]
  simp only [Z0, Z6]
  refine vQ (v := .int .u64 (shWq l (t - 16) : Nat)) (hc := (zadd ((M.r 0 0 rfl rfl) _ _ (wcells_atq l (by omega) (by omega))))) (hb := (M.lt 0 rfl)) ?_
  refine vM ?_
  refine vB (v := .int .u64 ((((shWq l (t - 16)) + (sg0q (shWq l (t - 15)))) % 18446744073709551616 : Nat) : Int)) (hr := nr_add64 _ (shWq l (t - 16)) (sg0q (shWq l (t - 15)))) ?_
  refine vM ?_
  refine vB (v := .int .i64 (t - 7 : Nat)) (hr := run_sub (by simp only [IntKind.wrap_i64]; omega)) ?_
  refine wpV_idx (n := t - 7) (by rfl) rfl rfl rfl U9201 info40 (by omega) ?_
  simp only [Z2]
  simp only [Z0, Z6]
  refine vQ (v := .int .u64 (shWq l (t - 7) : Nat)) (hc := (zadd ((M.r 0 0 rfl rfl) _ _ (wcells_atq l (by omega) (by omega))))) (hb := (M.lt 0 rfl)) ?_
  refine vB (v := .int .u64 ((((((shWq l (t - 16)) + (sg0q (shWq l (t - 15)))) % 18446744073709551616) + (shWq l (t - 7))) % 18446744073709551616 : Nat) : Int)) (hr := nr_add64 _ (((shWq l (t - 16)) + (sg0q (shWq l (t - 15)))) % 18446744073709551616) (shWq l (t - 7))) ?_
  refine vM ?_
  refine vB (v := .int .u64 (shWq l t : Nat)) (hr := fun W => (by have := nr_add64 (P := Tryd.prog) 0 (((shWq l (t - 16) + sg0q (shWq l (t - 15))) % 18446744073709551616 + shWq l (t - 7)) % 18446744073709551616) (sg1q (shWq l (t - 2))) W; rw [← shW_hiq h16] at this; exact this)) ?_
  refine wpV_idx (n := t) (by rfl) rfl rfl rfl U9201 info40 (by omega) ?_
  simp only [Z2]
  simp only [Z0, Z6]
  refine hLk _ fun w41 M => ?_
  refine lS1 (g := g7) (off := t) (n := 80) (v := .int .u64 (shWq l t : Nat)) (M.t 0 rfl) (by omega) info40 rfl (fun w42 P R T => ?_)
  replace M := M.put1 (j := t) 0 rfl P R T (Z2 _).symm
  simp only [Z6] at M
  rw [wcells_setq l ht] at M
  refine lZ k23 ?_; refine Z13 ?_
  refine cM 1 fun Lk hLk => ?_
  refine vB (v := .int .i64 (t + 1 : Nat)) (hr := run_add (by simp only [IntKind.wrap_i64]; omega)) ?_
  refine hLk _ fun w44 M => ?_
  refine lM ?_
  refine Z14 (Z15 ?_)
  refine Exists.intro _ ⟨?_, (t + 1), (fun q9 => (#[Z9, Z9, Z9, Z9, .int .i64 t, .int .u64 (shWq l (t - 15) : Nat), .int .u64 (shWq l (t - 2) : Nat), .int .u64 (sg0q (shWq l (t - 15)) : Nat), .int .u64 (sg1q (shWq l (t - 2)) : Nat), Z9, .bool true, .int .i64 t, .int .i64 t, .bool false, u12 14, u12 15, u12 16, u12 17, u12 18, u12 19, u12 20, .int .i64 t, .int .i64 (t - 15 : Nat), .pointer (some ⟨g7, t - 15, none⟩), .int .u64 (shWq l (t - 15) : Nat), .int .i64 t, .int .i64 (t - 2 : Nat), .pointer (some ⟨g7, t - 2, none⟩), .int .u64 (shWq l (t - 2) : Nat), .int .u64 (shWq l (t - 15) : Nat), .int .u64 (rotrq (shWq l (t - 15)) 1 : Nat), .int .u64 (shWq l (t - 15) : Nat), .int .u64 (rotrq (shWq l (t - 15)) 8 : Nat), .int .u64 (((rotrq (shWq l (t - 15)) 1) ^^^ (rotrq (shWq l (t - 15)) 8) : Nat) : Int), .int .u64 (shWq l (t - 15) : Nat), .int .u64 ((shWq l (t - 15)) / 2 ^ 7 : Nat), .int .u64 (sg0q (shWq l (t - 15)) : Nat), .int .u64 (shWq l (t - 2) : Nat), .int .u64 (rotrq (shWq l (t - 2)) 19 : Nat), .int .u64 (shWq l (t - 2) : Nat), .int .u64 (rotrq (shWq l (t - 2)) 61 : Nat), .int .u64 (((rotrq (shWq l (t - 2)) 19) ^^^ (rotrq (shWq l (t - 2)) 61) : Nat) : Int), .int .u64 (shWq l (t - 2) : Nat), .int .u64 ((shWq l (t - 2)) / 2 ^ 6 : Nat), .int .u64 (sg1q (shWq l (t - 2)) : Nat), .int .i64 t, .int .i64 t, .int .i64 (t - 16 : Nat), .pointer (some ⟨g7, t - 16, none⟩), .int .u64 (shWq l (t - 16) : Nat), .int .u64 (sg0q (shWq l (t - 15)) : Nat), .int .u64 ((((shWq l (t - 16)) + (sg0q (shWq l (t - 15)))) % 18446744073709551616 : Nat) : Int), .int .i64 t, .int .i64 (t - 7 : Nat), .pointer (some ⟨g7, t - 7, none⟩), .int .u64 (shWq l (t - 7) : Nat), .int .u64 ((((((shWq l (t - 16)) + (sg0q (shWq l (t - 15)))) % 18446744073709551616) + (shWq l (t - 7))) % 18446744073709551616 : Nat) : Int), .int .u64 (sg1q (shWq l (t - 2)) : Nat), .int .u64 (shWq l t : Nat), .pointer (some ⟨g7, t, none⟩), .int .i64 (t + 1 : Nat)] : Array Value).getD q9 Z9), rfl, rfl, M, (by omega)⟩
  omega
 have h16 : t < 16 := of_decide_eq_true hc30
 refine cT ?_
 refine qS fun _ k45 => ?_
 refine lM ?_; refine lM ?_; refine lM ?_
 refine cM 4 fun Lk hLk => ?_
 refine vB (v := .int .i64 (8 * t : Nat)) (hr := run_mul (by simp only [IntKind.wrap_i64]; omega)) ?_
 refine wpV_drop (l := l) (lo := 8 * t) (by rfl) rfl rfl rfl U99 (by omega) ?_
 simp only [Z0, Z6]
 refine vCh (v := .int .u64 (shWq l t : Nat)) (args := #[.string (bs (l.drop (8 * t)))]) (fun W hW => (by have := read_cq (l := l.drop (8 * t)) (w := W) (by rw [List.length_drop]; omega); rwa [show be4q (l.drop (8 * t)) 0 = shWq l t by rw [shW_loq h16]; unfold be4q; simp only [byteN_drop, Z2, Nat.add_zero]] at this)) ?_
 refine wpV_idx (n := t) (by rfl) rfl rfl rfl U9201 info40 (by omega) ?_
 simp only [Z2]
 simp only [Z0, Z6]
 refine hLk _ fun w47 M => ?_
 refine lS1 (g := g7) (off := t) (n := 80) (v := .int .u64 (shWq l t : Nat)) (M.t 0 rfl) (by omega) info40 rfl (fun w48 P R T => ?_)
 replace M := M.put1 (j := t) 0 rfl P R T (Z2 _).symm
 simp only [Z6] at M
 rw [wcells_setq l ht] at M
 refine lZ k45 ?_; refine eZ k23 ?_; refine Z13 ?_
 refine cM 1 fun Lk hLk => ?_
 refine vB (v := .int .i64 (t + 1 : Nat)) (hr := run_add (by simp only [IntKind.wrap_i64]; omega)) ?_
 refine hLk _ fun w50 M => ?_
 refine lM ?_
 refine Z14 (Z15 ?_)
 refine Exists.intro _ ⟨?_, (t + 1), (fun q9 => (#[Z9, Z9, Z9, Z9, .int .i64 t, u12 5, u12 6, u12 7, u12 8, Z9, .bool true, .int .i64 t, .int .i64 t, .bool true, .int .i64 t, .string (bs l), .int .i64 t, .int .i64 (8 * t : Nat), .string (bs (l.drop (8 * t))), .int .u64 (shWq l t : Nat), .pointer (some ⟨g7, t, none⟩), u12 21, u12 22, u12 23, u12 24, u12 25, u12 26, u12 27, u12 28, u12 29, u12 30, u12 31, u12 32, u12 33, u12 34, u12 35, u12 36, u12 37, u12 38, u12 39, u12 40, u12 41, u12 42, u12 43, u12 44, u12 45, u12 46, u12 47, u12 48, u12 49, u12 50, u12 51, u12 52, u12 53, u12 54, u12 55, u12 56, u12 57, u12 58, u12 59, .int .i64 (t + 1 : Nat)] : Array Value).getD q9 Z9), rfl, rfl, M, (by omega)⟩
 omega
end Go.Proofs.Yc

namespace Go.Proofs.Yc
open Go Go.RowKit Go.Proofs.Num
open Tryd renaming underlying201 → U9201, underlying9 → U99
open Go.Proofs.Num  renaming putT → Z0
open Nat renaming zero_add → Z2, mod_eq_of_lt → Z5
open List renaming set → Z6
open Go renaming undef → Z9
open Go.Proofs.Num renaming wp_region_seq → Z13, wpL_nil → Z14, no_panic → Z15, then_normal → Z22, wpL_var → Z36
attribute [local irreducible] wpV wpN wpList
open Go.Proofs.Ya
set_option maxRecDepth 100000 in
set_option maxHeartbeats 4000000 in
theorem mix_cq {g n : Nat} {h : S8q} {b l : List UInt8} {w : World} (hh : h.Ok) (hl : 128 ≤ l.length) (hg : g ≠ 2) (L2 : 2 < w.heap.size) (R2_0 : w.rangeAt 2 0 kcellsq) (hM : Mem [g] w w [⟨g, 10, [(0, [.int .u64 h.a, .int .u64 h.b, .int .u64 h.c, .int .u64 h.d, .int .u64 h.e, .int .u64 h.f, .int .u64 h.g, .int .u64 h.h]), (8, [.string (bs b)]), (9, [.int .u64 n])]⟩]) :
  Calls Tryd.prog 148 #[.pointer (some ⟨g, 0, none⟩), .string (bs l)] w fun e w' => ∃ v, e = .returned v ∧ v = .tuple #[] ∧ Mem [g] w w' [⟨g, 10, [(0, [.int .u64 ((mixSq h l).a : Nat), .int .u64 ((mixSq h l).b : Nat), .int .u64 ((mixSq h l).c : Nat), .int .u64 ((mixSq h l).d : Nat), .int .u64 ((mixSq h l).e : Nat), .int .u64 ((mixSq h l).f : Nat), .int .u64 ((mixSq h l).g : Nat), .int .u64 ((mixSq h l).h : Nat)]), (8, [.string (bs b)]), (9, [.int .u64 n])]⟩] := by
 go_enter Tryd.func148, Tryd.ntmps148
 have M := hM
 refine qS fun _ k1 => ?_
 refine lM ?_
 refine cM 1 fun Lk hLk => ?_
 refine vC (fun W => spread_cq hl) ?_
 refine hLk _ fun w3 M => ?_
 refine Z36 (t := 201) (cs := [.int .u64 0, .int .u64 0, .int .u64 0, .int .u64 0, .int .u64 0, .int .u64 0, .int .u64 0, .int .u64 0, .int .u64 0, .int .u64 0, .int .u64 0, .int .u64 0, .int .u64 0, .int .u64 0, .int .u64 0, .int .u64 0, .int .u64 0, .int .u64 0, .int .u64 0, .int .u64 0, .int .u64 0, .int .u64 0, .int .u64 0, .int .u64 0, .int .u64 0, .int .u64 0, .int .u64 0, .int .u64 0, .int .u64 0, .int .u64 0, .int .u64 0, .int .u64 0, .int .u64 0, .int .u64 0, .int .u64 0, .int .u64 0, .int .u64 0, .int .u64 0, .int .u64 0, .int .u64 0, .int .u64 0, .int .u64 0, .int .u64 0, .int .u64 0, .int .u64 0, .int .u64 0, .int .u64 0, .int .u64 0, .int .u64 0, .int .u64 0, .int .u64 0, .int .u64 0, .int .u64 0, .int .u64 0, .int .u64 0, .int .u64 0, .int .u64 0, .int .u64 0, .int .u64 0, .int .u64 0, .int .u64 0, .int .u64 0, .int .u64 0, .int .u64 0, .int .u64 0, .int .u64 0, .int .u64 0, .int .u64 0, .int .u64 0, .int .u64 0, .int .u64 0, .int .u64 0, .int .u64 0, .int .u64 0, .int .u64 0, .int .u64 0, .int .u64 0, .int .u64 0, .int .u64 0, .int .u64 0]) (by rfl) (fun W => ?_) (fun g4 w5 Sw5 Hg4 Bg4 => ?_)
 ·
  (go_simp <;> rfl)
 replace M := ((M.sees Sw5).add (N := 80) (cs := [.int .u64 0, .int .u64 0, .int .u64 0, .int .u64 0, .int .u64 0, .int .u64 0, .int .u64 0, .int .u64 0, .int .u64 0, .int .u64 0, .int .u64 0, .int .u64 0, .int .u64 0, .int .u64 0, .int .u64 0, .int .u64 0, .int .u64 0, .int .u64 0, .int .u64 0, .int .u64 0, .int .u64 0, .int .u64 0, .int .u64 0, .int .u64 0, .int .u64 0, .int .u64 0, .int .u64 0, .int .u64 0, .int .u64 0, .int .u64 0, .int .u64 0, .int .u64 0, .int .u64 0, .int .u64 0, .int .u64 0, .int .u64 0, .int .u64 0, .int .u64 0, .int .u64 0, .int .u64 0, .int .u64 0, .int .u64 0, .int .u64 0, .int .u64 0, .int .u64 0, .int .u64 0, .int .u64 0, .int .u64 0, .int .u64 0, .int .u64 0, .int .u64 0, .int .u64 0, .int .u64 0, .int .u64 0, .int .u64 0, .int .u64 0, .int .u64 0, .int .u64 0, .int .u64 0, .int .u64 0, .int .u64 0, .int .u64 0, .int .u64 0, .int .u64 0, .int .u64 0, .int .u64 0, .int .u64 0, .int .u64 0, .int .u64 0, .int .u64 0, .int .u64 0, .int .u64 0, .int .u64 0, .int .u64 0, .int .u64 0, .int .u64 0, .int .u64 0, .int .u64 0, .int .u64 0, .int .u64 0]) (M.ge Hg4) (M.fresh Hg4) Bg4 rfl)
 clear Bg4
 simp only [Z0, Z6]
 refine lSt (g := g4) (off := 0) (n := 80) (cs := wcellsq l 80) (M.t 0 rfl) (by rw [wcells_lenq]; decide) info201 (wcells_oneq _ _) (fun w6 P R T => ?_)
 replace M := M.putS 0 0 rfl P R T rfl ⟨.inl rfl, trivial⟩
 simp only [Z6] at M
 refine lZ k1 ?_
 refine qS fun _ k7 => ?_
 refine lM ?_; refine lN ?_; refine lF ?_; refine lF ?_; refine lL ?_
 refine nV 8 fun g10 w11 M => ?_
 refine sT 0 0 fun w12 M => ?_
 refine lZ k7 ?_
 refine sk fun _ k13 => ?_
 refine qS fun _ k14 => ?_
 refine lM ?_; refine lZ k14 ?_; refine wp_block ?_
 refine wp_loop_ghost (fun n9 a9 W9 => ∃ (t : Nat) (v : S8q) (u16 : Nat → Value), n9 = 80 - t ∧ a9 = { tmps := #[.pointer (some ⟨g, 0, none⟩), .string (bs l), Z9, Z9, .pointer (some ⟨g4, 0, none⟩), .pointer (some ⟨g10, 0, none⟩), u16 6, u16 7, u16 8, u16 9, u16 10, Z9, .string (bs l), .agg (wcellsq l 80).toArray, .pointer (some ⟨g, 0, none⟩), .pointer (some ⟨g, 0, none⟩), .pointer (some ⟨g, 0, none⟩), .pointer (some ⟨g, 0, none⟩), .agg ([.int .u64 h.a, .int .u64 h.b, .int .u64 h.c, .int .u64 h.d, .int .u64 h.e, .int .u64 h.f, .int .u64 h.g, .int .u64 h.h]).toArray, .int .i64 t, u16 20, u16 21, u16 22, u16 23, u16 24, u16 25, u16 26, u16 27, u16 28, u16 29, u16 30, u16 31, u16 32, u16 33, u16 34, u16 35, u16 36, u16 37, u16 38, u16 39, u16 40, u16 41, u16 42, u16 43, u16 44, u16 45, u16 46, u16 47, u16 48, u16 49, u16 50, u16 51, u16 52, u16 53, u16 54, u16 55, u16 56, u16 57, u16 58, u16 59, u16 60, u16 61, u16 62, u16 63, u16 64, u16 65, u16 66, u16 67, u16 68, u16 69, u16 70, u16 71, u16 72, u16 73, u16 74, u16 75, u16 76, u16 77, u16 78, u16 79, u16 80, u16 81, u16 82, u16 83, u16 84, u16 85, u16 86, u16 87, u16 88, u16 89, u16 90, u16 91, u16 92, u16 93, u16 94, u16 95, u16 96, u16 97, u16 98, Z9, Z9, Z9, Z9, Z9, Z9, Z9, Z9, Z9, Z9, Z9, Z9, Z9, Z9, Z9, Z9, Z9, Z9, Z9], defers := [] } ∧ Mem [g] w W9 [⟨g10, 8, [(0, [.int .u64 v.a, .int .u64 v.b, .int .u64 v.c, .int .u64 v.d, .int .u64 v.e, .int .u64 v.f, .int .u64 v.g, .int .u64 v.h])]⟩, ⟨g4, 80, [(0, wcellsq l 80)]⟩, ⟨g, 10, [(0, [.int .u64 h.a, .int .u64 h.b, .int .u64 h.c, .int .u64 h.d, .int .u64 h.e, .int .u64 h.f, .int .u64 h.g, .int .u64 h.h]), (8, [.string (bs b)]), (9, [.int .u64 n])]⟩] ∧ (t ≤ 80) ∧ (v = rndsq l h t)) (80 - (0)) ?_ (fun n9 a9 W9 hI => ?_)
 ·
  exact ⟨0, h, (fun q9 => (#[Z9, Z9, Z9, Z9, Z9, Z9, Z9, Z9, Z9, Z9, Z9, Z9, Z9, Z9, Z9, Z9, Z9, Z9, Z9, Z9, Z9, Z9, Z9, Z9, Z9, Z9, Z9, Z9, Z9, Z9, Z9, Z9, Z9, Z9, Z9, Z9, Z9, Z9, Z9, Z9, Z9, Z9, Z9, Z9, Z9, Z9, Z9, Z9, Z9, Z9, Z9, Z9, Z9, Z9, Z9, Z9, Z9, Z9, Z9, Z9, Z9, Z9, Z9, Z9, Z9, Z9, Z9, Z9, Z9, Z9, Z9, Z9, Z9, Z9, Z9, Z9, Z9, Z9, Z9, Z9, Z9, Z9, Z9, Z9, Z9, Z9, Z9, Z9, Z9, Z9, Z9, Z9, Z9, Z9, Z9, Z9, Z9, Z9, Z9] : Array Value).getD q9 Z9), rfl, rfl, M, (by omega), rfl⟩
 clear M
 obtain ⟨t, v, u16, rfl, rfl, M, ht4, hv⟩ := hI
 obtain ⟨w17, rfl⟩ : ∃ W8, W8 = W9 := ⟨_, rfl⟩
 have hok : v.Ok := hv ▸ rnds_okq hh t
 refine qS fun _ k18 => ?_
 refine cM 1 fun Lk hLk => ?_
 refine vB (v := .bool (decide (t < 80))) (hr := run_lssN t 80 _ _) ?_
 refine hLk _ fun w20 M => ?_
 refine lZ k18 ?_
 refine sk fun _ k21 => ?_
 cases hc22 : (decide (t < 80))
 ·
  have et : t = 80 := by have := of_decide_eq_false hc22; omega
  subst et
  subst hv
  refine cF ?_; refine eZ k13 ?_
  refine qS fun _ k23 => ?_
  refine lM ?_; refine lZ k23 ?_; refine wp_block ?_; refine wp_loop_rounds 9 ?_
  rw [rounds_succ]
  refine qS fun _ k25 => ?_
  refine cM 1 fun Lk hLk => ?_
  refine vB (v := .bool true) (hr := run_lss _ _ _ _) ?_
  refine hLk _ fun w27 M => ?_
  refine lZ k25 ?_
  refine sk fun _ k28 => ?_
  refine cT ?_; refine sZ k28 ?_
  refine sk fun _ k29 => ?_
  refine wp_block ?_
  refine qS fun _ k30 => ?_
  refine lM ?_; refine lg ?_; refine lZ k30 ?_
  refine rG 15 [] fun Lk hLk => ?_
  refine vM ?_; refine vM ?_; refine vN ?_; refine vF ?_; refine vF ?_; refine vF ?_
  refine vP (pvLc (v := .int .u64 h.a) (range_one (range_sub (M.r 2 0 rfl rfl) 0 1 0 (xs := [.int .u64 h.a]) rfl rfl)) (M.lt 2 rfl)) ?_
  refine vM ?_; refine vF ?_
  refine vP (pvLc (v := .int .u64 ((rndsq l h 80).a : Nat)) (range_one (range_sub (M.r 0 0 rfl rfl) 0 1 0 (xs := [.int .u64 ((rndsq l h 80).a : Nat)]) rfl rfl)) (M.lt 0 rfl)) ?_
  refine vB (v := .int .u64 (((h.a + ((rndsq l h 80).a)) % 18446744073709551616 : Nat) : Int)) (hr := nr_add64 _ h.a ((rndsq l h 80).a)) ?_
  refine vN ?_; refine vF ?_; refine vF ?_; refine vF ?_
  refine hLk _ fun w33 M => ?_
  refine lS1 (g := g) (off := 0) (n := 10) (v := .int .u64 (((h.a + ((rndsq l h 80).a)) % 18446744073709551616 : Nat) : Int)) (M.t 2 rfl) (by decide) info40 rfl (fun w34 P R T => ?_)
  replace M := M.putI (i := 0) 2 0 rfl P R T rfl rfl (by simp) (by simp [SepS, flen])
  simp only [Z6] at M
  refine lZ k29 ?_; refine Z13 ?_
  refine cM 1 fun Lk hLk => ?_
  refine vB (v := .int .i64 1) (hr := run_add (by decide)) ?_
  refine hLk _ fun w36 M => ?_
  refine lM ?_
  refine Z14 (Z15 ?_)
  refine Z22 (Q := fun _ _ _ => True) ?_
  rw [rounds_succ]
  refine qS fun _ k37 => ?_
  refine cM 1 fun Lk hLk => ?_
  refine vB (v := .bool true) (hr := run_lss _ _ _ _) ?_
  refine hLk _ fun w39 M => ?_
  refine lZ k37 ?_
  refine sk fun _ k40 => ?_
  refine cT ?_; refine sZ k40 ?_
  refine sk fun _ k41 => ?_
  refine wp_block ?_
  refine qS fun _ k42 => ?_
  refine lM ?_; refine lg ?_; refine lZ k42 ?_
  refine rG 15 [] fun Lk hLk => ?_
  refine vM ?_; refine vM ?_; refine vN ?_; refine vF ?_; refine vF ?_; refine vF ?_
  refine vP (pvLc (v := .int .u64 h.b) (range_one (range_sub (M.r 2 0 rfl rfl) 1 1 1 (xs := [.int .u64 h.b]) rfl rfl)) (M.lt 2 rfl)) ?_
  refine vM ?_; refine vF ?_
  refine vP (pvLc (v := .int .u64 ((rndsq l h 80).b : Nat)) (range_one (range_sub (M.r 0 0 rfl rfl) 1 1 1 (xs := [.int .u64 ((rndsq l h 80).b : Nat)]) rfl rfl)) (M.lt 0 rfl)) ?_
  refine vB (v := .int .u64 (((h.b + ((rndsq l h 80).b)) % 18446744073709551616 : Nat) : Int)) (hr := nr_add64 _ h.b ((rndsq l h 80).b)) ?_
  refine vN ?_; refine vF ?_; refine vF ?_; refine vF ?_
  refine hLk _ fun w45 M => ?_
  refine lS1 (g := g) (off := 1) (n := 10) (v := .int .u64 (((h.b + ((rndsq l h 80).b)) % 18446744073709551616 : Nat) : Int)) (M.t 2 rfl) (by decide) info40 rfl (fun w46 P R T => ?_)
  replace M := M.putI (i := 1) 2 0 rfl P R T rfl rfl (by simp) (by simp [SepS, flen])
  simp only [Z6] at M
  refine lZ k41 ?_; refine Z13 ?_
  refine cM 1 fun Lk hLk => ?_
  refine vB (v := .int .i64 2) (hr := run_add (by decide)) ?_
  refine hLk _ fun w48 M => ?_
  refine lM ?_
  refine Z14 (Z15 ?_)
  refine Z22 (Q := fun _ _ _ => True) ?_
  rw [rounds_succ]
  refine qS fun _ k49 => ?_
  refine cM 1 fun Lk hLk => ?_
  refine vB (v := .bool true) (hr := run_lss _ _ _ _) ?_
  refine hLk _ fun w51 M => ?_
  refine lZ k49 ?_
  refine sk fun _ k52 => ?_
  refine cT ?_; refine sZ k52 ?_
  refine sk fun _ k53 => ?_
  refine wp_block ?_
  refine qS fun _ k54 => ?_
  refine lM ?_; refine lg ?_; refine lZ k54 ?_
  refine rG 15 [] fun Lk hLk => ?_
  refine vM ?_; refine vM ?_; refine vN ?_; refine vF ?_; refine vF ?_; refine vF ?_
  refine vP (pvLc (v := .int .u64 h.c) (range_one (range_sub (M.r 2 0 rfl rfl) 2 1 2 (xs := [.int .u64 h.c]) rfl rfl)) (M.lt 2 rfl)) ?_
  refine vM ?_; refine vF ?_
  refine vP (pvLc (v := .int .u64 ((rndsq l h 80).c : Nat)) (range_one (range_sub (M.r 0 0 rfl rfl) 2 1 2 (xs := [.int .u64 ((rndsq l h 80).c : Nat)]) rfl rfl)) (M.lt 0 rfl)) ?_
  refine vB (v := .int .u64 (((h.c + ((rndsq l h 80).c)) % 18446744073709551616 : Nat) : Int)) (hr := nr_add64 _ h.c ((rndsq l h 80).c)) ?_
  refine vN ?_; refine vF ?_; refine vF ?_; refine vF ?_
  refine hLk _ fun w57 M => ?_
  refine lS1 (g := g) (off := 2) (n := 10) (v := .int .u64 (((h.c + ((rndsq l h 80).c)) % 18446744073709551616 : Nat) : Int)) (M.t 2 rfl) (by decide) info40 rfl (fun w58 P R T => ?_)
  replace M := M.putI (i := 2) 2 0 rfl P R T rfl rfl (by simp) (by simp [SepS, flen])
  simp only [Z6] at M
  refine lZ k53 ?_; refine Z13 ?_
  refine cM 1 fun Lk hLk => ?_
  refine vB (v := .int .i64 3) (hr := run_add (by decide)) ?_
  refine hLk _ fun w60 M => ?_
  refine lM ?_
  refine Z14 (Z15 ?_)
  refine Z22 (Q := fun _ _ _ => True) ?_
  rw [rounds_succ]
  refine qS fun _ k61 => ?_
  refine cM 1 fun Lk hLk => ?_
  refine vB (v := .bool true) (hr := run_lss _ _ _ _) ?_
  refine hLk _ fun w63 M => ?_
  refine lZ k61 ?_
  refine sk fun _ k64 => ?_
  refine cT ?_; refine sZ k64 ?_
  refine sk fun _ k65 => ?_
  refine wp_block ?_
  refine qS fun _ k66 => ?_
  refine lM ?_; refine lg ?_; refine lZ k66 ?_
  refine rG 15 [] fun Lk hLk => ?_
  refine vM ?_; refine vM ?_; refine vN ?_; refine vF ?_; refine vF ?_; refine vF ?_
  refine vP (pvLc (v := .int .u64 h.d) (range_one (range_sub (M.r 2 0 rfl rfl) 3 1 3 (xs := [.int .u64 h.d]) rfl rfl)) (M.lt 2 rfl)) ?_
  refine vM ?_; refine vF ?_
  refine vP (pvLc (v := .int .u64 ((rndsq l h 80).d : Nat)) (range_one (range_sub (M.r 0 0 rfl rfl) 3 1 3 (xs := [.int .u64 ((rndsq l h 80).d : Nat)]) rfl rfl)) (M.lt 0 rfl)) ?_
  refine vB (v := .int .u64 (((h.d + ((rndsq l h 80).d)) % 18446744073709551616 : Nat) : Int)) (hr := nr_add64 _ h.d ((rndsq l h 80).d)) ?_
  refine vN ?_; refine vF ?_; refine vF ?_; refine vF ?_
  refine hLk _ fun w69 M => ?_
  refine lS1 (g := g) (off := 3) (n := 10) (v := .int .u64 (((h.d + ((rndsq l h 80).d)) % 18446744073709551616 : Nat) : Int)) (M.t 2 rfl) (by decide) info40 rfl (fun w70 P R T => ?_)
  replace M := M.putI (i := 3) 2 0 rfl P R T rfl rfl (by simp) (by simp [SepS, flen])
  simp only [Z6] at M
  refine lZ k65 ?_; refine Z13 ?_
  refine cM 1 fun Lk hLk => ?_
  refine vB (v := .int .i64 4) (hr := run_add (by decide)) ?_
  refine hLk _ fun w72 M => ?_
  refine lM ?_
  refine Z14 (Z15 ?_)
  refine Z22 (Q := fun _ _ _ => True) ?_
  rw [rounds_succ]
  refine qS fun _ k73 => ?_
  refine cM 1 fun Lk hLk => ?_
  refine vB (v := .bool true) (hr := run_lss _ _ _ _) ?_
  refine hLk _ fun w75 M => ?_
  refine lZ k73 ?_
  refine sk fun _ k76 => ?_
  refine cT ?_; refine sZ k76 ?_
  refine sk fun _ k77 => ?_
  refine wp_block ?_
  refine qS fun _ k78 => ?_
  refine lM ?_; refine lg ?_; refine lZ k78 ?_
  refine rG 15 [] fun Lk hLk => ?_
  refine vM ?_; refine vM ?_; refine vN ?_; refine vF ?_; refine vF ?_; refine vF ?_
  refine vP (pvLc (v := .int .u64 h.e) (range_one (range_sub (M.r 2 0 rfl rfl) 4 1 4 (xs := [.int .u64 h.e]) rfl rfl)) (M.lt 2 rfl)) ?_
  refine vM ?_; refine vF ?_
  refine vP (pvLc (v := .int .u64 ((rndsq l h 80).e : Nat)) (range_one (range_sub (M.r 0 0 rfl rfl) 4 1 4 (xs := [.int .u64 ((rndsq l h 80).e : Nat)]) rfl rfl)) (M.lt 0 rfl)) ?_
  refine vB (v := .int .u64 (((h.e + ((rndsq l h 80).e)) % 18446744073709551616 : Nat) : Int)) (hr := nr_add64 _ h.e ((rndsq l h 80).e)) ?_
  refine vN ?_; refine vF ?_; refine vF ?_; refine vF ?_
  refine hLk _ fun w81 M => ?_
  refine lS1 (g := g) (off := 4) (n := 10) (v := .int .u64 (((h.e + ((rndsq l h 80).e)) % 18446744073709551616 : Nat) : Int)) (M.t 2 rfl) (by decide) info40 rfl (fun w82 P R T => ?_)
  replace M := M.putI (i := 4) 2 0 rfl P R T rfl rfl (by simp) (by simp [SepS, flen])
  simp only [Z6] at M
  refine lZ k77 ?_; refine Z13 ?_
  refine cM 1 fun Lk hLk => ?_
  refine vB (v := .int .i64 5) (hr := run_add (by decide)) ?_
  refine hLk _ fun w84 M => ?_
  refine lM ?_
  refine Z14 (Z15 ?_)
  refine Z22 (Q := fun _ _ _ => True) ?_
  rw [rounds_succ]
  refine qS fun _ k85 => ?_
  refine cM 1 fun Lk hLk => ?_
  refine vB (v := .bool true) (hr := run_lss _ _ _ _) ?_
  refine hLk _ fun w87 M => ?_
  refine lZ k85 ?_
  refine sk fun _ k88 => ?_
  refine cT ?_; refine sZ k88 ?_
  refine sk fun _ k89 => ?_
  refine wp_block ?_
  refine qS fun _ k90 => ?_
  refine lM ?_; refine lg ?_; refine lZ k90 ?_
  refine rG 15 [] fun Lk hLk => ?_
  refine vM ?_; refine vM ?_; refine vN ?_; refine vF ?_; refine vF ?_; refine vF ?_
  refine vP (pvLc (v := .int .u64 h.f) (range_one (range_sub (M.r 2 0 rfl rfl) 5 1 5 (xs := [.int .u64 h.f]) rfl rfl)) (M.lt 2 rfl)) ?_
  refine vM ?_; refine vF ?_
  refine vP (pvLc (v := .int .u64 ((rndsq l h 80).f : Nat)) (range_one (range_sub (M.r 0 0 rfl rfl) 5 1 5 (xs := [.int .u64 ((rndsq l h 80).f : Nat)]) rfl rfl)) (M.lt 0 rfl)) ?_
  refine vB (v := .int .u64 (((h.f + ((rndsq l h 80).f)) % 18446744073709551616 : Nat) : Int)) (hr := nr_add64 _ h.f ((rndsq l h 80).f)) ?_
  refine vN ?_; refine vF ?_; refine vF ?_; refine vF ?_
  refine hLk _ fun w93 M => ?_
  refine lS1 (g := g) (off := 5) (n := 10) (v := .int .u64 (((h.f + ((rndsq l h 80).f)) % 18446744073709551616 : Nat) : Int)) (M.t 2 rfl) (by decide) info40 rfl (fun w94 P R T => ?_)
  replace M := M.putI (i := 5) 2 0 rfl P R T rfl rfl (by simp) (by simp [SepS, flen])
  simp only [Z6] at M
  refine lZ k89 ?_; refine Z13 ?_
  refine cM 1 fun Lk hLk => ?_
  refine vB (v := .int .i64 6) (hr := run_add (by decide)) ?_
  refine hLk _ fun w96 M => ?_
  refine lM ?_
  refine Z14 (Z15 ?_)
  refine Z22 (Q := fun _ _ _ => True) ?_
  rw [rounds_succ]
  refine qS fun _ k97 => ?_
  refine cM 1 fun Lk hLk => ?_
  refine vB (v := .bool true) (hr := run_lss _ _ _ _) ?_
  refine hLk _ fun w99 M => ?_
  refine lZ k97 ?_
  refine sk fun _ k100 => ?_
  refine cT ?_; refine sZ k100 ?_
  refine sk fun _ k101 => ?_
  refine wp_block ?_
  refine qS fun _ k102 => ?_
  refine lM ?_; refine lg ?_; refine lZ k102 ?_
  refine rG 15 [] fun Lk hLk => ?_
  refine vM ?_; refine vM ?_; refine vN ?_; refine vF ?_; refine vF ?_; refine vF ?_
  refine vP (pvLc (v := .int .u64 h.g) (range_one (range_sub (M.r 2 0 rfl rfl) 6 1 6 (xs := [.int .u64 h.g]) rfl rfl)) (M.lt 2 rfl)) ?_
  refine vM ?_; refine vF ?_
  refine vP (pvLc (v := .int .u64 ((rndsq l h 80).g : Nat)) (range_one (range_sub (M.r 0 0 rfl rfl) 6 1 6 (xs := [.int .u64 ((rndsq l h 80).g : Nat)]) rfl rfl)) (M.lt 0 rfl)) ?_
  refine vB (v := .int .u64 (((h.g + ((rndsq l h 80).g)) % 18446744073709551616 : Nat) : Int)) (hr := nr_add64 _ h.g ((rndsq l h 80).g)) ?_
  refine vN ?_; refine vF ?_; refine vF ?_; refine vF ?_
  refine hLk _ fun w105 M => ?_
  refine lS1 (g := g) (off := 6) (n := 10) (v := .int .u64 (((h.g + ((rndsq l h 80).g)) % 18446744073709551616 : Nat) : Int)) (M.t 2 rfl) (by decide) info40 rfl (fun w106 P R T => ?_)
  replace M := M.putI (i := 6) 2 0 rfl P R T rfl rfl (by simp) (by simp [SepS, flen])
  simp only [Z6] at M
  refine lZ k101 ?_; refine Z13 ?_
  refine cM 1 fun Lk hLk => ?_
  refine vB (v := .int .i64 7) (hr := run_add (by decide)) ?_
  refine hLk _ fun w108 M => ?_
  refine lM ?_
  refine Z14 (Z15 ?_)
  refine Z22 (Q := fun _ _ _ => True) ?_
  rw [rounds_succ]
  refine qS fun _ k109 => ?_
  refine cM 1 fun Lk hLk => ?_
  refine vB (v := .bool true) (hr := run_lss _ _ _ _) ?_
  refine hLk _ fun w111 M => ?_
  refine lZ k109 ?_
  refine sk fun _ k112 => ?_
  refine cT ?_; refine sZ k112 ?_
  refine sk fun _ k113 => ?_
  refine wp_block ?_
  refine qS fun _ k114 => ?_
  refine lM ?_; refine lg ?_; refine lZ k114 ?_
  refine rG 15 [] fun Lk hLk => ?_
  refine vM ?_; refine vM ?_; refine vN ?_; refine vF ?_; refine vF ?_; refine vF ?_
  refine vP (pvLc (v := .int .u64 h.h) (range_one (range_sub (M.r 2 0 rfl rfl) 7 1 7 (xs := [.int .u64 h.h]) rfl rfl)) (M.lt 2 rfl)) ?_
  refine vM ?_; refine vF ?_
  refine vP (pvLc (v := .int .u64 ((rndsq l h 80).h : Nat)) (range_one (range_sub (M.r 0 0 rfl rfl) 7 1 7 (xs := [.int .u64 ((rndsq l h 80).h : Nat)]) rfl rfl)) (M.lt 0 rfl)) ?_
  refine vB (v := .int .u64 (((h.h + ((rndsq l h 80).h)) % 18446744073709551616 : Nat) : Int)) (hr := nr_add64 _ h.h ((rndsq l h 80).h)) ?_
  refine vN ?_; refine vF ?_; refine vF ?_; refine vF ?_
  refine hLk _ fun w117 M => ?_
  refine lS1 (g := g) (off := 7) (n := 10) (v := .int .u64 (((h.h + ((rndsq l h 80).h)) % 18446744073709551616 : Nat) : Int)) (M.t 2 rfl) (by decide) info40 rfl (fun w118 P R T => ?_)
  replace M := M.putI (i := 7) 2 0 rfl P R T rfl rfl (by simp) (by simp [SepS, flen])
  simp only [Z6] at M
  refine lZ k113 ?_; refine Z13 ?_
  refine cM 1 fun Lk hLk => ?_
  refine vB (v := .int .i64 8) (hr := run_add (by decide)) ?_
  refine hLk _ fun w120 M => ?_
  refine lM ?_
  refine Z14 (Z15 ?_)
  refine Z22 (Q := fun _ _ _ => True) ?_
  rw [rounds_succ]
  refine qS fun _ k121 => ?_
  refine cM 1 fun Lk hLk => ?_
  refine vB (v := .bool false) (hr := run_lss _ _ _ _) ?_
  refine hLk _ fun w123 M => ?_
  refine lZ k121 ?_
  refine sk fun _ _ => ?_
  refine cF ?_; refine wp_exit ?_
  repeat (first | with_reducible refine then_exit ?_ | with_reducible refine inblock_exit ?_)
  refine bodyPost_end (v := .tuple #[]) (results_none rfl _ _ _) rfl ?_
  exact ⟨_, rfl, rfl, M.pick [2] (by decide) rfl⟩
 have ht : t < 80 := of_decide_eq_true hc22
 refine cT ?_; refine sZ k21 ?_
 refine sk fun _ k125 => ?_
 refine wp_block ?_
 refine qS fun _ k126 => ?_
 refine lM ?_; refine lg ?_; refine lZ k126 ?_
 refine sk fun _ k128 => ?_
 refine rG 6 [] fun Lk hLk => ?_
 refine vF ?_
 refine vP (pvLc (v := .int .u64 v.a) (range_one (range_sub (M.r 0 0 rfl rfl) 0 1 0 (xs := [.int .u64 v.a]) rfl rfl)) (M.lt 0 rfl)) ?_
 refine vF ?_
 refine vP (pvLc (v := .int .u64 v.e) (range_one (range_sub (M.r 0 0 rfl rfl) 4 1 4 (xs := [.int .u64 v.e]) rfl rfl)) (M.lt 0 rfl)) ?_
 refine vg ?_; refine vg ?_
 refine hLk _ fun w130 M => ?_
 refine lZ k128 ?_
 refine sk fun _ k131 => ?_
 refine rG 30 [] fun Lk hLk => ?_
 refine vF ?_
 refine vP (pvLc (v := .int .u64 v.h) (range_one (range_sub (M.r 0 0 rfl rfl) 7 1 7 (xs := [.int .u64 v.h]) rfl rfl)) (M.lt 0 rfl)) ?_
 refine vM ?_
 refine vC (v := .int .u64 (rotrq v.e 14 : Nat)) (args := #[.int .u64 v.e, .int .i64 (-14)]) (fun W => (by have := rotl_cq (x := v.e) (n := 14) (w := W) hok.e (by decide) (by decide); exact this)) ?_
 refine vM ?_
 refine vC (v := .int .u64 (rotrq v.e 18 : Nat)) (args := #[.int .u64 v.e, .int .i64 (-18)]) (fun W => (by have := rotl_cq (x := v.e) (n := 18) (w := W) hok.e (by decide) (by decide); exact this)) ?_
 refine vB (v := .int .u64 ((rotrq v.e 14) ^^^ (rotrq v.e 18) : Nat)) (hr := nr_xor64 (x := rotrq v.e 14) (y := rotrq v.e 18) (rotr_ltq hok.e (by decide)) (rotr_ltq hok.e (by decide))) ?_
 refine vM ?_
 refine vC (v := .int .u64 (rotrq v.e 41 : Nat)) (args := #[.int .u64 v.e, .int .i64 (-41)]) (fun W => (by have := rotl_cq (x := v.e) (n := 41) (w := W) hok.e (by decide) (by decide); exact this)) ?_
 refine vB (v := .int .u64 (bg1q v.e : Nat)) (hr := nr_xor64 (x := (rotrq v.e 14) ^^^ (rotrq v.e 18)) (y := rotrq v.e 41) (xor_lt64 (rotr_ltq hok.e (by decide)) (rotr_ltq hok.e (by decide))) (rotr_ltq hok.e (by decide))) ?_
 refine vB (v := .int .u64 ((v.h + (bg1q v.e)) % 18446744073709551616 : Nat)) (hr := nr_add64 _ v.h (bg1q v.e)) ?_
 refine vM ?_; refine vF ?_
 refine vP (pvLc (v := .int .u64 v.f) (range_one (range_sub (M.r 0 0 rfl rfl) 5 1 5 (xs := [.int .u64 v.f]) rfl rfl)) (M.lt 0 rfl)) ?_
 refine vB (v := .int .u64 (v.e &&& v.f : Nat)) (hr := nr_and64 (x := v.e) (y := v.f) hok.e hok.f) ?_
 refine vM ?_
 refine wpV_un (v := .int .u64 (18446744073709551615 ^^^ v.e : Nat)) (by rfl) rfl rfl (fun W => nr_not64 (x := v.e) hok.e W) ?_
 simp only [Z0, Z6]
 refine vF ?_
 refine vP (pvLc (v := .int .u64 v.g) (range_one (range_sub (M.r 0 0 rfl rfl) 6 1 6 (xs := [.int .u64 v.g]) rfl rfl)) (M.lt 0 rfl)) ?_
 refine vB (v := .int .u64 ((18446744073709551615 ^^^ v.e) &&& v.g : Nat)) (hr := nr_and64 (x := 18446744073709551615 ^^^ v.e) (y := v.g) (xor_lt64 (by decide) hok.e) hok.g) ?_
 refine vB (v := .int .u64 (chsq v.e v.f v.g : Nat)) (hr := nr_xor64 (x := v.e &&& v.f) (y := (18446744073709551615 ^^^ v.e) &&& v.g) (and_lt64 hok.f) (and_lt64 hok.g)) ?_
 refine vB (v := .int .u64 (((((v.h + (bg1q v.e)) % 18446744073709551616) + (chsq v.e v.f v.g)) % 18446744073709551616 : Nat) : Int)) (hr := nr_add64 _ ((v.h + (bg1q v.e)) % 18446744073709551616) (chsq v.e v.f v.g)) ?_
 refine vM ?_
 refine wpV_idx (n := t) (by rfl) rfl rfl rfl U9201 info40 (by omega) ?_
 simp only [Z2]
 simp only [Z0, Z6]
 refine vQ (v := .int .u64 (keyNq t : Nat)) (hc := (zadd ((M.oldG R2_0 L2 (by simpa using Ne.symm hg)) _ _ (kcells_getq (by omega))))) (hb := (M.oldL L2)) ?_
 refine vB (v := .int .u64 (((((((v.h + (bg1q v.e)) % 18446744073709551616) + (chsq v.e v.f v.g)) % 18446744073709551616) + (keyNq t)) % 18446744073709551616 : Nat) : Int)) (hr := nr_add64 _ ((((v.h + (bg1q v.e)) % 18446744073709551616) + (chsq v.e v.f v.g)) % 18446744073709551616) (keyNq t)) ?_
 refine vM ?_
 refine wpV_idx (n := t) (by rfl) rfl rfl rfl U9201 info40 (by omega) ?_
 simp only [Z2]
 simp only [Z0, Z6]
 refine vQ (v := .int .u64 (shWq l t : Nat)) (hc := (zadd ((M.r 1 0 rfl rfl) _ _ (wcells_atq l (by omega) (by omega))))) (hb := (M.lt 1 rfl)) ?_
 refine vB (v := .int .u64 (oneq (keyNq t) (shWq l t) v : Nat)) (hr := nr_add64 _ ((((((v.h + (bg1q v.e)) % 18446744073709551616) + (chsq v.e v.f v.g)) % 18446744073709551616) + (keyNq t)) % 18446744073709551616) (shWq l t)) ?_
 refine hLk _ fun w133 M => ?_
 refine lg ?_; refine lZ k131 ?_
 refine sk fun _ k134 => ?_
 refine rG 24 [] fun Lk hLk => ?_
 refine vM ?_
 refine vC (v := .int .u64 (rotrq v.a 28 : Nat)) (args := #[.int .u64 v.a, .int .i64 (-28)]) (fun W => (by have := rotl_cq (x := v.a) (n := 28) (w := W) hok.a (by decide) (by decide); exact this)) ?_
 refine vM ?_
 refine vC (v := .int .u64 (rotrq v.a 34 : Nat)) (args := #[.int .u64 v.a, .int .i64 (-34)]) (fun W => (by have := rotl_cq (x := v.a) (n := 34) (w := W) hok.a (by decide) (by decide); exact this)) ?_
 refine vB (v := .int .u64 ((rotrq v.a 28) ^^^ (rotrq v.a 34) : Nat)) (hr := nr_xor64 (x := rotrq v.a 28) (y := rotrq v.a 34) (rotr_ltq hok.a (by decide)) (rotr_ltq hok.a (by decide))) ?_
 refine vM ?_
 refine vC (v := .int .u64 (rotrq v.a 39 : Nat)) (args := #[.int .u64 v.a, .int .i64 (-39)]) (fun W => (by have := rotl_cq (x := v.a) (n := 39) (w := W) hok.a (by decide) (by decide); exact this)) ?_
 refine vB (v := .int .u64 (bg0q v.a : Nat)) (hr := nr_xor64 (x := (rotrq v.a 28) ^^^ (rotrq v.a 34)) (y := rotrq v.a 39) (xor_lt64 (rotr_ltq hok.a (by decide)) (rotr_ltq hok.a (by decide))) (rotr_ltq hok.a (by decide))) ?_
 refine vM ?_; refine vF ?_
 refine vP (pvLc (v := .int .u64 v.b) (range_one (range_sub (M.r 0 0 rfl rfl) 1 1 1 (xs := [.int .u64 v.b]) rfl rfl)) (M.lt 0 rfl)) ?_
 refine vB (v := .int .u64 (v.a &&& v.b : Nat)) (hr := nr_and64 (x := v.a) (y := v.b) hok.a hok.b) ?_
 refine vM ?_; refine vF ?_
 refine vP (pvLc (v := .int .u64 v.c) (range_one (range_sub (M.r 0 0 rfl rfl) 2 1 2 (xs := [.int .u64 v.c]) rfl rfl)) (M.lt 0 rfl)) ?_
 refine vB (v := .int .u64 (v.a &&& v.c : Nat)) (hr := nr_and64 (x := v.a) (y := v.c) hok.a hok.c) ?_
 refine vB (v := .int .u64 ((v.a &&& v.b) ^^^ (v.a &&& v.c) : Nat)) (hr := nr_xor64 (x := v.a &&& v.b) (y := v.a &&& v.c) (and_lt64 hok.b) (and_lt64 hok.c)) ?_
 refine vF ?_
 refine vP (pvLc (v := .int .u64 v.b) (range_one (range_sub (M.r 0 0 rfl rfl) 1 1 1 (xs := [.int .u64 v.b]) rfl rfl)) (M.lt 0 rfl)) ?_
 refine vF ?_
 refine vP (pvLc (v := .int .u64 v.c) (range_one (range_sub (M.r 0 0 rfl rfl) 2 1 2 (xs := [.int .u64 v.c]) rfl rfl)) (M.lt 0 rfl)) ?_
 refine vB (v := .int .u64 (v.b &&& v.c : Nat)) (hr := nr_and64 (x := v.b) (y := v.c) hok.b hok.c) ?_
 refine vB (v := .int .u64 (majq v.a v.b v.c : Nat)) (hr := nr_xor64 (x := (v.a &&& v.b) ^^^ (v.a &&& v.c)) (y := v.b &&& v.c) (xor_lt64 (and_lt64 hok.b) (and_lt64 hok.c)) (and_lt64 hok.c)) ?_
 refine vB (v := .int .u64 (twoq v : Nat)) (hr := nr_add64 _ (bg0q v.a) (majq v.a v.b v.c)) ?_
 refine hLk _ fun w136 M => ?_
 refine lg ?_; refine lZ k134 ?_; refine Z13 ?_; refine lM ?_; refine lM ?_
 refine cM 16 fun Lk hLk => ?_
 refine vB (v := .int .u64 ((((oneq (keyNq t) (shWq l t) v) + (twoq v)) % 18446744073709551616 : Nat) : Int)) (hr := nr_add64 _ (oneq (keyNq t) (shWq l t) v) (twoq v)) ?_
 refine vM ?_; refine vF ?_
 refine vP (pvLc (v := .int .u64 v.b) (range_one (range_sub (M.r 0 0 rfl rfl) 1 1 1 (xs := [.int .u64 v.b]) rfl rfl)) (M.lt 0 rfl)) ?_
 refine vF ?_
 refine vP (pvLc (v := .int .u64 v.c) (range_one (range_sub (M.r 0 0 rfl rfl) 2 1 2 (xs := [.int .u64 v.c]) rfl rfl)) (M.lt 0 rfl)) ?_
 refine vF ?_
 refine vP (pvLc (v := .int .u64 v.d) (range_one (range_sub (M.r 0 0 rfl rfl) 3 1 3 (xs := [.int .u64 v.d]) rfl rfl)) (M.lt 0 rfl)) ?_
 refine vM ?_
 refine vB (v := .int .u64 (((v.d + (oneq (keyNq t) (shWq l t) v)) % 18446744073709551616 : Nat) : Int)) (hr := nr_add64 _ v.d (oneq (keyNq t) (shWq l t) v)) ?_
 refine vM ?_; refine vF ?_
 refine vP (pvLc (v := .int .u64 v.f) (range_one (range_sub (M.r 0 0 rfl rfl) 5 1 5 (xs := [.int .u64 v.f]) rfl rfl)) (M.lt 0 rfl)) ?_
 refine vF ?_
 refine vP (pvLc (v := .int .u64 v.g) (range_one (range_sub (M.r 0 0 rfl rfl) 6 1 6 (xs := [.int .u64 v.g]) rfl rfl)) (M.lt 0 rfl)) ?_
 refine vGk (v := .agg ([.int .u64 ((((oneq (keyNq t) (shWq l t) v) + (twoq v)) % 18446744073709551616 : Nat) : Int), .int .u64 v.a, .int .u64 v.b, .int .u64 v.c, .int .u64 (((v.d + (oneq (keyNq t) (shWq l t) v)) % 18446744073709551616 : Nat) : Int), .int .u64 v.e, .int .u64 v.f, .int .u64 v.g]).toArray) ?_
 simp only [Z0, Z6]
 refine hLk _ fun w138 M => ?_
 refine sT 0 0 fun w139 M => ?_
 refine lZ k125 ?_; refine Z13 ?_
 refine cM 1 fun Lk hLk => ?_
 refine vB (v := .int .i64 (t + 1 : Nat)) (hr := run_add (by simp only [IntKind.wrap_i64]; omega)) ?_
 refine hLk _ fun w141 M => ?_
 refine lM ?_
 refine Z14 (Z15 ?_)
 refine Exists.intro _ ⟨?_, (t + 1), (rndq (keyNq t) (shWq l t) v), (fun q9 => (#[Z9, Z9, Z9, Z9, Z9, Z9, .int .i64 t, .int .u64 v.a, .int .u64 v.e, .int .u64 (oneq (keyNq t) (shWq l t) v : Nat), .int .u64 (twoq v : Nat), Z9, Z9, Z9, Z9, Z9, Z9, Z9, Z9, Z9, .bool true, .int .i64 t, .pointer (some ⟨g10, 0, none⟩), .int .u64 v.a, .pointer (some ⟨g10, 4, none⟩), .int .u64 v.e, .pointer (some ⟨g10, 7, none⟩), .int .u64 v.h, .int .u64 v.e, .int .u64 (rotrq v.e 14 : Nat), .int .u64 v.e, .int .u64 (rotrq v.e 18 : Nat), .int .u64 ((rotrq v.e 14) ^^^ (rotrq v.e 18) : Nat), .int .u64 v.e, .int .u64 (rotrq v.e 41 : Nat), .int .u64 (bg1q v.e : Nat), .int .u64 ((v.h + (bg1q v.e)) % 18446744073709551616 : Nat), .int .u64 v.e, .pointer (some ⟨g10, 5, none⟩), .int .u64 v.f, .int .u64 (v.e &&& v.f : Nat), .int .u64 v.e, .int .u64 (18446744073709551615 ^^^ v.e : Nat), .pointer (some ⟨g10, 6, none⟩), .int .u64 v.g, .int .u64 ((18446744073709551615 ^^^ v.e) &&& v.g : Nat), .int .u64 (chsq v.e v.f v.g : Nat), .int .u64 (((((v.h + (bg1q v.e)) % 18446744073709551616) + (chsq v.e v.f v.g)) % 18446744073709551616 : Nat) : Int), .int .i64 t, .pointer (some ⟨2, t, none⟩), .int .u64 (keyNq t : Nat), .int .u64 (((((((v.h + (bg1q v.e)) % 18446744073709551616) + (chsq v.e v.f v.g)) % 18446744073709551616) + (keyNq t)) % 18446744073709551616 : Nat) : Int), .int .i64 t, .pointer (some ⟨g4, t, none⟩), .int .u64 (shWq l t : Nat), .int .u64 (oneq (keyNq t) (shWq l t) v : Nat), .int .u64 v.a, .int .u64 (rotrq v.a 28 : Nat), .int .u64 v.a, .int .u64 (rotrq v.a 34 : Nat), .int .u64 ((rotrq v.a 28) ^^^ (rotrq v.a 34) : Nat), .int .u64 v.a, .int .u64 (rotrq v.a 39 : Nat), .int .u64 (bg0q v.a : Nat), .int .u64 v.a, .pointer (some ⟨g10, 1, none⟩), .int .u64 v.b, .int .u64 (v.a &&& v.b : Nat), .int .u64 v.a, .pointer (some ⟨g10, 2, none⟩), .int .u64 v.c, .int .u64 (v.a &&& v.c : Nat), .int .u64 ((v.a &&& v.b) ^^^ (v.a &&& v.c) : Nat), .pointer (some ⟨g10, 1, none⟩), .int .u64 v.b, .pointer (some ⟨g10, 2, none⟩), .int .u64 v.c, .int .u64 (v.b &&& v.c : Nat), .int .u64 (majq v.a v.b v.c : Nat), .int .u64 (twoq v : Nat), .int .u64 (oneq (keyNq t) (shWq l t) v : Nat), .int .u64 (twoq v : Nat), .int .u64 ((((oneq (keyNq t) (shWq l t) v) + (twoq v)) % 18446744073709551616 : Nat) : Int), .int .u64 v.a, .pointer (some ⟨g10, 1, none⟩), .int .u64 v.b, .pointer (some ⟨g10, 2, none⟩), .int .u64 v.c, .pointer (some ⟨g10, 3, none⟩), .int .u64 v.d, .int .u64 (oneq (keyNq t) (shWq l t) v : Nat), .int .u64 (((v.d + (oneq (keyNq t) (shWq l t) v)) % 18446744073709551616 : Nat) : Int), .int .u64 v.e, .pointer (some ⟨g10, 5, none⟩), .int .u64 v.f, .pointer (some ⟨g10, 6, none⟩), .int .u64 v.g, .agg ([.int .u64 ((((oneq (keyNq t) (shWq l t) v) + (twoq v)) % 18446744073709551616 : Nat) : Int), .int .u64 v.a, .int .u64 v.b, .int .u64 v.c, .int .u64 (((v.d + (oneq (keyNq t) (shWq l t) v)) % 18446744073709551616 : Nat) : Int), .int .u64 v.e, .int .u64 v.f, .int .u64 v.g]).toArray, .int .i64 (t + 1 : Nat)] : Array Value).getD q9 Z9), rfl, rfl, M, (by omega), (by rw [hv]; rfl)⟩
 omega
set_option maxHeartbeats 4000000 in
theorem take_cq {g n : Nat} {h : S8q} {b l : List UInt8} {w : World} (hh : h.Ok) (hb : b.length < 128) (hl : l.length ≤ 9223372036854775680) (hg : g ≠ 2) (L2 : 2 < w.heap.size) (R2_0 : w.rangeAt 2 0 kcellsq) (hM : Mem [g] w w [⟨g, 10, [(0, [.int .u64 h.a, .int .u64 h.b, .int .u64 h.c, .int .u64 h.d, .int .u64 h.e, .int .u64 h.f, .int .u64 h.g, .int .u64 h.h]), (8, [.string (bs b)]), (9, [.int .u64 n])]⟩]) :
  Calls Tryd.prog 123 #[.pointer (some ⟨g, 0, none⟩), .string (bs l)] w fun e w' => ∃ v, e = .returned v ∧ v = .tuple #[] ∧ Mem [g] w w' [⟨g, 10, [(0, [.int .u64 ((takeHq h (b ++ l)).a : Nat), .int .u64 ((takeHq h (b ++ l)).b : Nat), .int .u64 ((takeHq h (b ++ l)).c : Nat), .int .u64 ((takeHq h (b ++ l)).d : Nat), .int .u64 ((takeHq h (b ++ l)).e : Nat), .int .u64 ((takeHq h (b ++ l)).f : Nat), .int .u64 ((takeHq h (b ++ l)).g : Nat), .int .u64 ((takeHq h (b ++ l)).h : Nat)]), (8, [.string (bs (takeRq (b ++ l)))]), (9, [.int .u64 (((n + l.length) % 18446744073709551616) : Nat)])]⟩] := by
 go_enter Tryd.func123, Tryd.ntmps123
 have M := hM
 refine qS fun _ k1 => ?_
 refine lM ?_; refine lN ?_; refine lF ?_; refine lF ?_; refine lc ?_; refine lM ?_
 refine cM 6 fun Lk hLk => ?_
 refine wpV_lenS (by rfl) rfl rfl rfl U99 ?_
 simp only [Z0, Z6]
 refine wpV_conv (d := .bool) (e := ((l.length : Nat) : Int)) (by rfl) rfl rfl (run_conv_int Tryd.underlying3 Tryd.underlying40 ((wrap64N _).trans (congrArg _ (Z5 (by omega))))) ?_
 simp only [Z0, Z6]
 refine vB (v := .int .u64 ((n + l.length) % 18446744073709551616 : Nat)) (hr := nr_add64 _ n l.length) ?_
 refine vN ?_; refine vF ?_; refine vF ?_
 refine hLk _ fun w3 M => ?_
 refine sT1 0 2 fun w4 M => ?_
 refine lZ k1 ?_
 refine qS fun _ k5 => ?_
 refine lM ?_; refine lN ?_; refine lF ?_; refine lF ?_; refine lc ?_; refine lM ?_
 refine cM 1 fun Lk hLk => ?_
 refine wpV_binS (v := .string (bs (b ++ l))) (by rfl) rfl rfl rfl (run_add_bs _ _ _ (by omega)) ?_
 simp only [Z0, Z6]
 refine hLk _ fun w7 M => ?_
 refine lg ?_; refine lZ k5 ?_
 refine sk fun _ k8 => ?_
 refine wp_block ?_
 refine wp_loop_ghost (fun n9 a9 W9 => ∃ (r : List UInt8) (s : S8q) (u9_23 u9_24 u9_25 u9_26 u9_27 u9_28 u9_29 u9_30 : Value), n9 = r.length ∧ a9 = { tmps := #[.pointer (some ⟨g, 0, none⟩), .string (bs r), Z9, Z9, .pointer (some ⟨g, 0, none⟩), .pointer (some ⟨g, 0, none⟩), .pointer (some ⟨g, 0, none⟩), .pointer (some ⟨g, 9, none⟩), .int .u64 n, .string (bs l), .int .i64 l.length, .int .u64 l.length, .int .u64 ((n + l.length) % 18446744073709551616 : Nat), .pointer (some ⟨g, 0, none⟩), .pointer (some ⟨g, 0, none⟩), .pointer (some ⟨g, 9, none⟩), .pointer (some ⟨g, 0, none⟩), .pointer (some ⟨g, 0, none⟩), .pointer (some ⟨g, 0, none⟩), .pointer (some ⟨g, 8, none⟩), .string (bs b), .string (bs l), .string (bs (b ++ l)), u9_23, u9_24, u9_25, u9_26, u9_27, u9_28, u9_29, u9_30, Z9, Z9, Z9, Z9, Z9], defers := [] } ∧ Mem [g] w W9 [⟨g, 10, [(0, [.int .u64 s.a, .int .u64 s.b, .int .u64 s.c, .int .u64 s.d, .int .u64 s.e, .int .u64 s.f, .int .u64 s.g, .int .u64 s.h]), (8, [.string (bs b)]), (9, [.int .u64 (((n + l.length) % 18446744073709551616) : Nat)])]⟩] ∧ (s.Ok) ∧ (takeHq s r = takeHq h (b ++ l)) ∧ (takeRq r = takeRq (b ++ l))) ((b ++ l).length) ?_ (fun n9 a9 W9 hI => ?_)
 ·
  exact ⟨(b ++ l), h, _, _, _, _, _, _, _, _, rfl, rfl, M, hh, rfl, rfl⟩
 clear M
 obtain ⟨r, s, u9_23, u9_24, u9_25, u9_26, u9_27, u9_28, u9_29, u9_30, rfl, rfl, M, hs, hH, hR⟩ := hI
 obtain ⟨w10, rfl⟩ : ∃ W8, W8 = W9 := ⟨_, rfl⟩
 refine sk fun _ k11 => ?_
 refine qS fun _ k12 => ?_
 refine lM ?_
 refine cM 2 fun Lk hLk => ?_
 refine wpV_lenS (by rfl) rfl rfl rfl U99 ?_
 simp only [Z0, Z6]
 refine vB (v := .bool (decide (128 ≤ r.length))) (hr := run_geqN r.length 128 _ _) ?_
 refine hLk _ fun w14 M => ?_
 refine lZ k12 ?_
 cases hc15 : (decide (128 ≤ r.length))
 ·
  have h64 : ¬ 128 ≤ r.length := of_decide_eq_false hc15
  rw [takeH_doneq h64] at hH
  rw [takeR_doneq h64] at hR
  subst hH hR
  refine cF ?_; refine eZ k8 ?_; refine Z13 ?_; refine lM ?_; refine lM ?_; refine lN ?_; refine lF ?_; refine lF ?_
  refine sT1 0 1 fun w18 M => ?_
  refine Z14 (Z15 ?_)
  repeat (first | with_reducible refine then_exit ?_ | with_reducible refine inblock_exit ?_)
  refine bodyPost_end (v := .tuple #[]) (results_none rfl _ _ _) rfl ?_
  exact ⟨_, rfl, rfl, M.pick [0] (by decide) rfl⟩
 have h64 : 128 ≤ r.length := of_decide_eq_true hc15
 refine cT ?_; refine sZ k11 ?_
 refine sk fun _ k19 => ?_
 refine wp_block ?_; refine Z13 ?_; refine lM ?_; refine lM ?_
 refine wpL_callM (f := 148) (args := #[.pointer (some ⟨g, 0, none⟩), .string (bs r)]) (R := fun v9 W9 => v9 = .tuple #[] ∧ Mem [g] w14 W9 [⟨g, 10, [(0, [.int .u64 ((mixSq s r).a : Nat), .int .u64 ((mixSq s r).b : Nat), .int .u64 ((mixSq s r).c : Nat), .int .u64 ((mixSq s r).d : Nat), .int .u64 ((mixSq s r).e : Nat), .int .u64 ((mixSq s r).f : Nat), .int .u64 ((mixSq s r).g : Nat), .int .u64 ((mixSq s r).h : Nat)]), (8, [.string (bs b)]), (9, [.int .u64 (((n + l.length) % 18446744073709551616) : Nat)])]⟩]) (by rfl) (by rfl) rfl Tryd.func148 (by kernel_rfl) (by kernel_rfl) (mix_cq (h := s) (l := r) hs h64 hg (M.oldL L2) (M.oldG R2_0 L2 (by simpa using Ne.symm hg)) (M.one 0 rfl)) (fun v9 w21 h9 => ?_)
 obtain ⟨rfl, M9⟩ := h9
 replace M := M.callM1 0 rfl M9
 simp only [Z6] at M
 simp only [Z0, Z6]
 refine lZ k19 ?_; refine Z13 ?_; refine lM ?_
 refine cM 1 fun Lk hLk => ?_
 refine wpV_drop (l := r) (lo := 128) (by rfl) rfl rfl rfl U99 h64 ?_
 simp only [Z0, Z6]
 refine hLk _ fun w23 M => ?_
 refine lg ?_
 refine Z14 (Z15 ?_)
 refine Exists.intro _ ⟨?_, (r.drop 128), (mixSq s r), _, _, _, _, _, _, _, _, rfl, rfl, M, (plus8_okq ..), ((takeH_moreq h64).symm.trans hH), ((takeR_moreq h64).symm.trans hR)⟩
 rw [List.length_drop]; omega
end Go.Proofs.Yc

namespace Go.Proofs
open Go.Shelf
open Tryd renaming func102 → G9102, func104 → G9104, func137 → G9137, func87 → G987, underlying0 → U90, underlying105 → U9105, underlying107 → U9107, underlying125 → U9125, underlying147 → U9147, underlying148 → U9148, underlying150 → U9150, underlying185 → U9185, underlying20 → U920, underlying29 → U929, underlying3 → U93, underlying4 → U94, underlying40 → U940, underlying5 → U95, underlying9 → U99, underlying99 → U999
def Tryd.lays170_ren : Go.Shelf.Ren := ⟨fun | 170 => 70 | n => n, fun | 70 => 105 | 3 => 3 | 0 => 0 | 72 => 107 | 37 => 29 | 5 => 5 | n => n, fun | n => n⟩
theorem Tryd.lays170 : Go.Proofs.Lays.n170 Tryd.prog Tryd.lays170_ren := {
 mixed := by kernel_rfl
 f170 := Tryd.func70.trans (congrArg some (by kernel_rfl))
 t0 := U90
 a0 := Tryd.isAgg0
 z0 := Tryd.sizeOf0
 v0 := Tryd.zeroValue0
 t3 := U93
 a3 := Tryd.isAgg3
 z3 := Tryd.sizeOf3
 v3 := Tryd.zeroValue3
 t37 := U929
 a37 := Tryd.isAgg29
 z37 := Tryd.sizeOf29
 v37 := Tryd.zeroValue29
 t70 := U9105
 a70 := Tryd.isAgg105
 z70 := Tryd.sizeOf105
 v70 := Tryd.zeroValue105
 t72 := U9107
 a72 := Tryd.isAgg107
 z72 := Tryd.sizeOf107
 v72 := Tryd.zeroValue107 }
open Go.RowKit in
/-- (*strings.Builder).Len: "Len returns the number of accumulated bytes; b.Len() == len(b.String()).": the world is as it was. (LAID: no walk: one application.) -/
theorem Tryd.Builder_Len (B b : Nat) (bs : List Value) (w : World) (h : Lib.IsBuilder 107 5 B b bs w) :
  Calls Tryd.prog 70 #[.pointer (some ⟨b, 0, none⟩)] w fun e w' => e = .returned (.int .i64 bs.length) ∧ w' = w := Any.Builder_Len Tryd.lays170 B b bs w h
def Tryd.lays169_ren : Go.Shelf.Ren := ⟨fun | 169 => 71 | n => n, fun | 70 => 105 | 9 => 9 | 0 => 0 | 72 => 107 | 37 => 29 | 127 => 150 | 3 => 3 | 5 => 5 | n => n, fun | n => n⟩
theorem Tryd.lays169 : Go.Proofs.Lays.n169 Tryd.prog Tryd.lays169_ren := {
 mixed := by kernel_rfl
 f169 := Tryd.func71.trans (congrArg some (by kernel_rfl))
 t0 := U90
 a0 := Tryd.isAgg0
 z0 := Tryd.sizeOf0
 v0 := Tryd.zeroValue0
 t3 := U93
 a3 := Tryd.isAgg3
 z3 := Tryd.sizeOf3
 v3 := Tryd.zeroValue3
 t9 := U99
 a9 := Tryd.isAgg9
 z9 := Tryd.sizeOf9
 v9 := Tryd.zeroValue9
 t37 := U929
 a37 := Tryd.isAgg29
 z37 := Tryd.sizeOf29
 v37 := Tryd.zeroValue29
 t70 := U9105
 a70 := Tryd.isAgg105
 z70 := Tryd.sizeOf105
 v70 := Tryd.zeroValue105
 t72 := U9107
 a72 := Tryd.isAgg107
 z72 := Tryd.sizeOf107
 v72 := Tryd.zeroValue107
 t127 := U9150
 a127 := Tryd.isAgg150
 z127 := Tryd.sizeOf150
 v127 := Tryd.zeroValue150 }
theorem Tryd.Builder_Extra_169 : Builder.Extra Tryd.prog Tryd.lays169_ren := {
 sizeBuilder := by kernel_rfl
 liesBuilder := by kernel_rfl
 t5 := U95
 a5 := Tryd.isAgg5
 z5 := Tryd.sizeOf5
 v5 := Tryd.zeroValue5
 infoByte := by kernel_rfl
 cellsByte := by kernel_rfl
 sizeByte := by kernel_rfl
 neB5 := by decide }
open Go.RowKit in
/-- (*strings.Builder).String: "String returns the accumulated string.": OF A BUILDER THAT HOLDS AT LEAST ONE BYTE. ✋ THE MODEL FREEZES THOSE BYTES IN THE BUFFER (unsafe.String): a later write INTO them ends the model's run without an answer; a later append BEHIND them goes on. The statement's order of evaluation is drawn: one draw. (LAID: no walk: one application.) -/
theorem Tryd.Builder_String (B b : Nat) (l : List UInt8) (w : World) (h : Lib.IsBuilder 107 5 B b (Lib.byteCells l) w) (h0 : l ≠ []) :
  Calls Tryd.prog 71 #[.pointer (some ⟨b, 0, none⟩)] w fun e w' => e = .returned (.string ⟨l.toArray⟩) ∧ Below B w w' := Any.Builder_String Tryd.lays169 Tryd.Builder_Extra_169 B b l w h h0
open Go.RowKit in
/-- (*strings.Builder).String OF A BUILDER THAT HOLDS NO BYTE: the empty string. (Its buffer is nil, or a row of which it has taken nothing yet; where that row has NO capacity the model lays one new block for unsafe.SliceData's 'some address'.) One draw. (LAID: no walk: one application.) -/
theorem Tryd.Builder_String_empty (B b : Nat) (w : World) (h : Lib.IsBuilder 107 5 B b [] w) (hBw : B ≤ w.heap.size) :
  Calls Tryd.prog 71 #[.pointer (some ⟨b, 0, none⟩)] w fun e w' => e = .returned (.string ⟨#[]⟩) ∧ Below B w w' := Any.Builder_String_empty Tryd.lays169 Tryd.Builder_Extra_169 B b w h hBw
open Go.RowKit in
/-- (*strings.Builder).String: "String returns the accumulated string.": WHATEVER THE BUILDER HOLDS. (LAID: no walk: one application.) -/
theorem Tryd.Builder_String_any (B b : Nat) (l : List UInt8) (w : World) (h : Lib.IsBuilder 107 5 B b (Lib.byteCells l) w) (hBw : B ≤ w.heap.size) :
  Calls Tryd.prog 71 #[.pointer (some ⟨b, 0, none⟩)] w fun e w' => e = .returned (.string ⟨l.toArray⟩) ∧ Below B w w' := Any.Builder_String_any Tryd.lays169 Tryd.Builder_Extra_169 B b l w h hBw
def Tryd.lays241_ren : Go.Shelf.Ren := ⟨fun | 241 => 104 | 277 => 137 | n => n, fun | 70 => 105 | 3 => 3 | 0 => 0 | 72 => 107 | 37 => 29 | 5 => 5 | n => n, fun | n => n⟩
theorem Tryd.lays241 : Go.Proofs.Lays.n241 Tryd.prog Tryd.lays241_ren := {
 mixed := by kernel_rfl
 f241 := G9104.trans (congrArg some (by kernel_rfl))
 f277 := G9137.trans (congrArg some (by kernel_rfl))
 t0 := U90
 a0 := Tryd.isAgg0
 z0 := Tryd.sizeOf0
 v0 := Tryd.zeroValue0
 t3 := U93
 a3 := Tryd.isAgg3
 z3 := Tryd.sizeOf3
 v3 := Tryd.zeroValue3
 t37 := U929
 a37 := Tryd.isAgg29
 z37 := Tryd.sizeOf29
 v37 := Tryd.zeroValue29
 t70 := U9105
 a70 := Tryd.isAgg105
 z70 := Tryd.sizeOf105
 v70 := Tryd.zeroValue105
 t72 := U9107
 a72 := Tryd.isAgg107
 z72 := Tryd.sizeOf107
 v72 := Tryd.zeroValue107 }
theorem Tryd.Builder_Extra_241 : Builder.Extra Tryd.prog Tryd.lays241_ren := {
 sizeBuilder := by kernel_rfl
 liesBuilder := by kernel_rfl
 t5 := U95
 a5 := Tryd.isAgg5
 z5 := Tryd.sizeOf5
 v5 := Tryd.zeroValue5
 infoByte := by kernel_rfl
 cellsByte := by kernel_rfl
 sizeByte := by kernel_rfl
 neB5 := by decide }
open Go.RowKit in
/-- (*strings.Builder).grow (no doc but "grow copies the buffer to a new, larger buffer so that there are at least n bytes of capacity beyond len(b.buf)."): AT A BUILDER WITHOUT A BUFFER: a new row of whatever bytes for its buffer, none of them its own yet. Three draws. (LAID: no walk: one application.) -/
theorem Tryd.Builder_grow_fresh (B b n : Nat) (w : World) (hB : B ≤ b) (hbk : w.heap[b]? = some (.cells #[.pointer (some ⟨b, 0, none⟩), .slice none 0 0] 107 (0, 0))) (hBw : B ≤ w.heap.size) (hn : n ≤ 281474976710656) :
  Calls Tryd.prog 104 #[.pointer (some ⟨b, 0, none⟩), .int .i64 n] w fun e w' => e = .returned (.tuple #[]) ∧ (Lib.BuilderAt 107 5 B b (.pointer (some ⟨b, 0, none⟩)) [] w' ∧ Below B w w') := Any.Builder_grow_fresh Tryd.lays241 Tryd.Builder_Extra_241 B b n w hB hbk hBw hn
def Tryd.lays165_ren : Go.Shelf.Ren := ⟨fun | 165 => 68 | 240 => 103 | 241 => 104 | 276 => 136 | 277 => 137 | n => n, fun | 70 => 105 | 3 => 3 | 0 => 0 | 4 => 4 | 9 => 9 | 20 => 20 | 72 => 107 | 37 => 29 | 164 => 185 | 5 => 5 | n => n, fun | n => n⟩
theorem Tryd.lays165 : Go.Proofs.Lays.n165 Tryd.prog Tryd.lays165_ren := {
 mixed := by kernel_rfl
 f165 := Tryd.func68.trans (congrArg some (by kernel_rfl))
 f240 := Tryd.func103.trans (congrArg some (by kernel_rfl))
 f241 := G9104.trans (congrArg some (by kernel_rfl))
 f276 := Tryd.func136.trans (congrArg some (by kernel_rfl))
 f277 := G9137.trans (congrArg some (by kernel_rfl))
 t0 := U90
 a0 := Tryd.isAgg0
 z0 := Tryd.sizeOf0
 v0 := Tryd.zeroValue0
 t3 := U93
 a3 := Tryd.isAgg3
 z3 := Tryd.sizeOf3
 v3 := Tryd.zeroValue3
 t4 := U94
 a4 := Tryd.isAgg4
 z4 := Tryd.sizeOf4
 v4 := Tryd.zeroValue4
 t9 := U99
 a9 := Tryd.isAgg9
 z9 := Tryd.sizeOf9
 v9 := Tryd.zeroValue9
 t20 := U920
 a20 := Tryd.isAgg20
 z20 := Tryd.sizeOf20
 v20 := Tryd.zeroValue20
 t37 := U929
 a37 := Tryd.isAgg29
 z37 := Tryd.sizeOf29
 v37 := Tryd.zeroValue29
 t70 := U9105
 a70 := Tryd.isAgg105
 z70 := Tryd.sizeOf105
 v70 := Tryd.zeroValue105
 t72 := U9107
 a72 := Tryd.isAgg107
 z72 := Tryd.sizeOf107
 v72 := Tryd.zeroValue107
 t164 := U9185
 a164 := Tryd.isAgg185
 z164 := Tryd.sizeOf185
 v164 := Tryd.zeroValue185 }
theorem Tryd.Builder_Extra_165 : Builder.Extra Tryd.prog Tryd.lays165_ren := {
 sizeBuilder := by kernel_rfl
 liesBuilder := by kernel_rfl
 t5 := U95
 a5 := Tryd.isAgg5
 z5 := Tryd.sizeOf5
 v5 := Tryd.zeroValue5
 infoByte := by kernel_rfl
 cellsByte := by kernel_rfl
 sizeByte := by kernel_rfl
 neB5 := by decide }
open Go.RowKit in
/-- (*strings.Builder).Grow AT A BUILDER THAT HAS NOT BEEN WRITTEN ('var b strings.Builder; b.Grow(n)'): "Grow grows b's capacity, if necessary, to guarantee space for another n bytes.": it holds no byte behind it as before it. (LAID: no walk: one application.) -/
theorem Tryd.Builder_Grow_fresh (B b n : Nat) (w : World) (hB : B ≤ b) (hbk : w.heap[b]? = some (.cells #[.pointer none, .slice none 0 0] 107 (0, 0))) (hBw : B ≤ w.heap.size) (hn : n ≤ 281474976710656) :
  Calls Tryd.prog 68 #[.pointer (some ⟨b, 0, none⟩), .int .i64 n] w fun e w' => e = .returned (.tuple #[]) ∧ (Lib.BuilderAt 107 5 B b (.pointer (some ⟨b, 0, none⟩)) [] w' ∧ Below B w w') := Any.Builder_Grow_fresh Tryd.lays165 Tryd.Builder_Extra_165 B b n w hB hbk hBw hn
def Tryd.lays137_ren : Go.Shelf.Ren := ⟨fun | 137 => 81 | 217 => 121 | 266 => 147 | n => n, fun | 9 => 9 | 5 => 5 | 3 => 3 | n => n, fun | n => n⟩
theorem Tryd.lays137 : Go.Proofs.Lays.n137 Tryd.prog Tryd.lays137_ren := {
 mixed := by kernel_rfl
 f137 := Tryd.func81.trans (congrArg some (by kernel_rfl))
 f217 := Tryd.func121.trans (congrArg some (by kernel_rfl))
 f266 := Tryd.func147.trans (congrArg some (by kernel_rfl))
 t3 := U93
 a3 := Tryd.isAgg3
 z3 := Tryd.sizeOf3
 v3 := Tryd.zeroValue3
 t5 := U95
 a5 := Tryd.isAgg5
 z5 := Tryd.sizeOf5
 v5 := Tryd.zeroValue5
 t9 := U99
 a9 := Tryd.isAgg9
 z9 := Tryd.sizeOf9
 v9 := Tryd.zeroValue9 }
open Go.RowKit in
/-- strings.IndexByte: "IndexByte returns the index of the first instance of c in s, or -1 if c is not present in s.": IT RETURNS 'Lib.indexByte s c'; the world is as it was. (LAID: no walk: one application.) -/
theorem Tryd.strings_IndexByte (s : ByteArray) (c : Int) (w : World) :
  Calls Tryd.prog 81 #[.string s, .int .u8 c] w fun e w' => e = .returned (.int .i64 (Lib.indexByte s.data.toList c.toNat.toUInt8)) ∧ w' = w := Any.strings_IndexByte Tryd.lays137 s c w
open Go.RowKit in
/-- (*strings.Builder).Len: "Len returns the number of accumulated bytes; b.Len() == len(b.String()).": the world is as it was. (THE FORM '_f': 'Lib.IsBuilderF'.) (LAID: no walk: one application.) -/
theorem Tryd.Builder_Len_f (B b : Nat) (bs : List Value) (w : World) (h : Lib.IsBuilderF 107 5 B b bs w) :
  Calls Tryd.prog 70 #[.pointer (some ⟨b, 0, none⟩)] w fun e w' => e = .returned (.int .i64 bs.length) ∧ w' = w := Any.Builder_Len_f Tryd.lays170 B b bs w h
open Go.RowKit in
/-- (*strings.Builder).String: "String returns the accumulated string.": OF A BUILDER THAT HOLDS AT LEAST ONE BYTE. ✋ THE MODEL FREEZES THOSE BYTES IN THE BUFFER (unsafe.String): a later write INTO them ends the model's run without an answer; a later append BEHIND them goes on. The statement's order of evaluation is drawn: one draw. THE FORM '_f': IT SAYS BESIDES THAT THE BUILDER IS A BUILDER STILL ('Lib.IsBuilderF', the same bytes): SO IT CAN BE WRITTEN ON: 'b.WriteString(b.String()[:k])'. (LAID: no walk: one application.) -/
theorem Tryd.Builder_String_f (B b : Nat) (l : List UInt8) (w : World) (h : Lib.IsBuilderF 107 5 B b (Lib.byteCells l) w) (h0 : l ≠ []) :
  Calls Tryd.prog 71 #[.pointer (some ⟨b, 0, none⟩)] w fun e w' => e = .returned (.string ⟨l.toArray⟩) ∧ (Lib.IsBuilderF 107 5 B b (Lib.byteCells l) w' ∧ Below B w w') := Any.Builder_String_f Tryd.lays169 Tryd.Builder_Extra_169 B b l w h h0
open Go.RowKit in
/-- (*strings.Builder).String OF A BUILDER THAT HOLDS NO BYTE: the empty string; THE FORM '_f': a builder still. (LAID: no walk: one application.) -/
theorem Tryd.Builder_String_empty_f (B b : Nat) (w : World) (h : Lib.IsBuilderF 107 5 B b [] w) (hBw : B ≤ w.heap.size) :
  Calls Tryd.prog 71 #[.pointer (some ⟨b, 0, none⟩)] w fun e w' => e = .returned (.string ⟨#[]⟩) ∧ (Lib.IsBuilderF 107 5 B b [] w' ∧ Below B w w') := Any.Builder_String_empty_f Tryd.lays169 Tryd.Builder_Extra_169 B b w h hBw
open Go.RowKit in
/-- (*strings.Builder).String: "String returns the accumulated string.": WHATEVER THE BUILDER HOLDS; THE FORM '_f': OF A BUILDER THAT MAY HAVE BEEN READ BEFORE; AND IT IS A BUILDER STILL, holding the same bytes: it can be written on. (LAID: no walk: one application.) -/
theorem Tryd.Builder_String_any_f (B b : Nat) (l : List UInt8) (w : World) (h : Lib.IsBuilderF 107 5 B b (Lib.byteCells l) w) (hBw : B ≤ w.heap.size) :
  Calls Tryd.prog 71 #[.pointer (some ⟨b, 0, none⟩)] w fun e w' => e = .returned (.string ⟨l.toArray⟩) ∧ (Lib.IsBuilderF 107 5 B b (Lib.byteCells l) w' ∧ Below B w w') := Any.Builder_String_any_f Tryd.lays169 Tryd.Builder_Extra_169 B b l w h hBw
def Tryd.lays217_ren : Go.Shelf.Ren := ⟨fun | 217 => 121 | 266 => 147 | n => n, fun | 9 => 9 | 5 => 5 | 3 => 3 | n => n, fun | n => n⟩
theorem Tryd.lays217 : Go.Proofs.Lays.n217 Tryd.prog Tryd.lays217_ren := {
 mixed := by kernel_rfl
 f217 := Tryd.func121.trans (congrArg some (by kernel_rfl))
 f266 := Tryd.func147.trans (congrArg some (by kernel_rfl))
 t3 := U93
 a3 := Tryd.isAgg3
 z3 := Tryd.sizeOf3
 v3 := Tryd.zeroValue3
 t5 := U95
 a5 := Tryd.isAgg5
 z5 := Tryd.sizeOf5
 v5 := Tryd.zeroValue5
 t9 := U99
 a9 := Tryd.isAgg9
 z9 := Tryd.sizeOf9
 v9 := Tryd.zeroValue9 }
open Go.RowKit Go.Lib in
/-- internal/stringslite.IndexByte (what strings.IndexByte calls): IT RETURNS 'Lib.indexByte s c'; the world is as it was. (LAID: no walk: one application.) -/
theorem Tryd.stringslite_IndexByte (s : ByteArray) (c : Int) (w : World) :
  Calls Tryd.prog 121 #[.string s, .int .u8 c] w fun e w' => e = .returned (.int .i64 (Lib.indexByte s.data.toList c.toNat.toUInt8)) ∧ w' = w := Any.stringslite_IndexByte Tryd.lays217 s c w
def Tryd.lays206_ren : Go.Shelf.Ren := ⟨fun | 206 => 102 | n => n, fun | 9 => 9 | 4 => 4 | 3 => 3 | n => n, fun | n => n⟩
theorem Tryd.lays206 : Go.Proofs.Lays.n206 Tryd.prog Tryd.lays206_ren := {
 mixed := by kernel_rfl
 f206 := G9102.trans (congrArg some (by kernel_rfl))
 t3 := U93
 a3 := Tryd.isAgg3
 z3 := Tryd.sizeOf3
 v3 := Tryd.zeroValue3
 t4 := U94
 a4 := Tryd.isAgg4
 z4 := Tryd.sizeOf4
 v4 := Tryd.zeroValue4
 t9 := U99
 a9 := Tryd.isAgg9
 z9 := Tryd.sizeOf9
 v9 := Tryd.zeroValue9 }
open Go.RowKit Go.Lib in
/-- internal/stringslite.HasPrefix (what strings.HasPrefix calls). (LAID: no walk: one application.) -/
theorem Tryd.stringslite_HasPrefix (s p : ByteArray) (w : World) :
  Calls Tryd.prog 102 #[.string s, .string p] w fun e w' => e = .returned (.bool (Lib.hasPrefix s.data.toList p.data.toList)) ∧ w' = w := Any.stringslite_HasPrefix Tryd.lays206 s p w
def Tryd.lays99_ren : Go.Shelf.Ren := ⟨fun | 99 => 67 | 206 => 102 | n => n, fun | 9 => 9 | 4 => 4 | 3 => 3 | n => n, fun | n => n⟩
theorem Tryd.lays99 : Go.Proofs.Lays.n99 Tryd.prog Tryd.lays99_ren := {
 mixed := by kernel_rfl
 f99 := Tryd.func67.trans (congrArg some (by kernel_rfl))
 f206 := G9102.trans (congrArg some (by kernel_rfl))
 t3 := U93
 a3 := Tryd.isAgg3
 z3 := Tryd.sizeOf3
 v3 := Tryd.zeroValue3
 t4 := U94
 a4 := Tryd.isAgg4
 z4 := Tryd.sizeOf4
 v4 := Tryd.zeroValue4
 t9 := U99
 a9 := Tryd.isAgg9
 z9 := Tryd.sizeOf9
 v9 := Tryd.zeroValue9 }
open Go.RowKit Go.Lib in
/-- strings.HasPrefix: "HasPrefix reports whether the string s begins with prefix.": IT RETURNS 'Lib.hasPrefix s prefix'; the world is as it was. (LAID: no walk: one application.) -/
theorem Tryd.strings_HasPrefix (s p : ByteArray) (w : World) :
  Calls Tryd.prog 67 #[.string s, .string p] w fun e w' => e = .returned (.bool (Lib.hasPrefix s.data.toList p.data.toList)) ∧ w' = w := Any.strings_HasPrefix Tryd.lays99 s p w
def Tryd.lays264_ren : Go.Shelf.Ren := ⟨fun | 264 => 87 | n => n, fun | 53 => 40 | 46 => 99 | n => n, fun | n => n⟩
theorem Tryd.lays264 : Go.Proofs.Lays.n264 Tryd.prog Tryd.lays264_ren := {
 mixed := by kernel_rfl
 f264 := G987.trans (congrArg some (by kernel_rfl))
 t46 := U999
 a46 := Tryd.isAgg99
 z46 := Tryd.sizeOf99
 v46 := Tryd.zeroValue99
 t53 := U940
 a53 := Tryd.isAgg40
 z53 := Tryd.sizeOf40
 v53 := Tryd.zeroValue40 }
open Go.RowKit Go.Lib in
theorem Tryd.bits_Mul64 (x y : Nat) (hx : x < 18446744073709551616) (hy : y < 18446744073709551616) (w : World) :
  Calls Tryd.prog 87 #[.int .u64 x, .int .u64 y] w fun e w' => e = .returned (.tuple #[.int .u64 (x * y / 18446744073709551616 : Nat), .int .u64 (x * y % 18446744073709551616 : Nat)]) ∧ w' = w := Any.bits_Mul64 Tryd.lays264 x y hx hy w
def Tryd.lays212_ren : Go.Shelf.Ren := ⟨fun | 212 => 66 | 263 => 101 | 264 => 87 | n => n, fun | 46 => 99 | 51 => 147 | 146 => 148 | 53 => 40 | 148 => 125 | n => n, fun | n => n⟩
theorem Tryd.lays212 : Go.Proofs.Lays.n212 Tryd.prog Tryd.lays212_ren := {
 mixed := by kernel_rfl
 f212 := Tryd.func66.trans (congrArg some (by kernel_rfl))
 f263 := Tryd.func101.trans (congrArg some (by kernel_rfl))
 f264 := G987.trans (congrArg some (by kernel_rfl))
 t46 := U999
 a46 := Tryd.isAgg99
 z46 := Tryd.sizeOf99
 v46 := Tryd.zeroValue99
 t51 := U9147
 a51 := Tryd.isAgg147
 z51 := Tryd.sizeOf147
 v51 := Tryd.zeroValue147
 t53 := U940
 a53 := Tryd.isAgg40
 z53 := Tryd.sizeOf40
 v53 := Tryd.zeroValue40
 t146 := U9148
 a146 := Tryd.isAgg148
 z146 := Tryd.sizeOf148
 v146 := Tryd.zeroValue148
 t148 := U9125
 a148 := Tryd.isAgg125
 z148 := Tryd.sizeOf125
 v148 := Tryd.zeroValue125 }
open Go.RowKit Go.Lib in
/-- math/bits.Mul: "Mul returns the full-width product of x and y": on a machine of 64 bits: Mul64's. (LAID: no walk: one application.) -/
theorem Tryd.bits_Mul (x y : Nat) (hx : x < 18446744073709551616) (hy : y < 18446744073709551616) (w : World) :
  Calls Tryd.prog 66 #[.int .u64 x, .int .u64 y] w fun e w' => e = .returned (.tuple #[.int .u64 (x * y / 18446744073709551616 : Nat), .int .u64 (x * y % 18446744073709551616 : Nat)]) ∧ w' = w := Any.bits_Mul Tryd.lays212 x y hx hy w
def Tryd.lays105_ren : Go.Shelf.Ren := ⟨fun | 105 => 30 | 212 => 66 | 99 => 67 | 165 => 68 | 166 => 69 | 170 => 70 | 169 => 71 | 263 => 101 | 264 => 87 | 206 => 102 | 240 => 103 | 241 => 104 | 276 => 136 | 277 => 137 | n => n, fun | 9 => 9 | 3 => 3 | 4 => 4 | 20 => 20 | 0 => 0 | 46 => 99 | 109 => 103 | 5 => 5 | 72 => 107 | 76 => 111 | 51 => 147 | 146 => 148 | 53 => 40 | 148 => 125 | 70 => 105 | 37 => 29 | 75 => 110 | 127 => 150 | 164 => 185 | 80 => 23 | n => n, fun | n => n⟩
theorem Tryd.lays105 : Go.Proofs.Lays.n105 Tryd.prog Tryd.lays105_ren := {
 mixed := by kernel_rfl
 f99 := Tryd.func67.trans (congrArg some (by kernel_rfl))
 f105 := Tryd.func30.trans (congrArg some (by kernel_rfl))
 f165 := Tryd.func68.trans (congrArg some (by kernel_rfl))
 f166 := Tryd.func69.trans (congrArg some (by kernel_rfl))
 f169 := Tryd.func71.trans (congrArg some (by kernel_rfl))
 f170 := Tryd.func70.trans (congrArg some (by kernel_rfl))
 f206 := G9102.trans (congrArg some (by kernel_rfl))
 f212 := Tryd.func66.trans (congrArg some (by kernel_rfl))
 f240 := Tryd.func103.trans (congrArg some (by kernel_rfl))
 f241 := G9104.trans (congrArg some (by kernel_rfl))
 f263 := Tryd.func101.trans (congrArg some (by kernel_rfl))
 f264 := G987.trans (congrArg some (by kernel_rfl))
 f276 := Tryd.func136.trans (congrArg some (by kernel_rfl))
 f277 := G9137.trans (congrArg some (by kernel_rfl))
 t0 := U90
 a0 := Tryd.isAgg0
 z0 := Tryd.sizeOf0
 v0 := Tryd.zeroValue0
 t3 := U93
 a3 := Tryd.isAgg3
 z3 := Tryd.sizeOf3
 v3 := Tryd.zeroValue3
 t4 := U94
 a4 := Tryd.isAgg4
 z4 := Tryd.sizeOf4
 v4 := Tryd.zeroValue4
 t5 := U95
 a5 := Tryd.isAgg5
 z5 := Tryd.sizeOf5
 v5 := Tryd.zeroValue5
 t9 := U99
 a9 := Tryd.isAgg9
 z9 := Tryd.sizeOf9
 v9 := Tryd.zeroValue9
 t20 := U920
 a20 := Tryd.isAgg20
 z20 := Tryd.sizeOf20
 v20 := Tryd.zeroValue20
 t37 := U929
 a37 := Tryd.isAgg29
 z37 := Tryd.sizeOf29
 v37 := Tryd.zeroValue29
 t46 := U999
 a46 := Tryd.isAgg99
 z46 := Tryd.sizeOf99
 v46 := Tryd.zeroValue99
 t51 := U9147
 a51 := Tryd.isAgg147
 z51 := Tryd.sizeOf147
 v51 := Tryd.zeroValue147
 t53 := U940
 a53 := Tryd.isAgg40
 z53 := Tryd.sizeOf40
 v53 := Tryd.zeroValue40
 t70 := U9105
 a70 := Tryd.isAgg105
 z70 := Tryd.sizeOf105
 v70 := Tryd.zeroValue105
 t72 := U9107
 a72 := Tryd.isAgg107
 z72 := Tryd.sizeOf107
 v72 := Tryd.zeroValue107
 t75 := Tryd.underlying110
 a75 := Tryd.isAgg110
 z75 := Tryd.sizeOf110
 v75 := Tryd.zeroValue110
 t76 := Tryd.underlying111
 a76 := Tryd.isAgg111
 z76 := Tryd.sizeOf111
 v76 := Tryd.zeroValue111
 t109 := Tryd.underlying103
 a109 := Tryd.isAgg103
 z109 := Tryd.sizeOf103
 v109 := Tryd.zeroValue103
 t127 := U9150
 a127 := Tryd.isAgg150
 z127 := Tryd.sizeOf150
 v127 := Tryd.zeroValue150
 t146 := U9148
 a146 := Tryd.isAgg148
 z146 := Tryd.sizeOf148
 v146 := Tryd.zeroValue148
 t148 := U9125
 a148 := Tryd.isAgg125
 z148 := Tryd.sizeOf125
 v148 := Tryd.zeroValue125
 t164 := U9185
 a164 := Tryd.isAgg185
 z164 := Tryd.sizeOf185
 v164 := Tryd.zeroValue185 }
theorem Tryd.Builder_Extra_105 : Builder.Extra Tryd.prog Tryd.lays105_ren := {
 sizeBuilder := by kernel_rfl
 liesBuilder := by kernel_rfl
 t5 := U95
 a5 := Tryd.isAgg5
 z5 := Tryd.sizeOf5
 v5 := Tryd.zeroValue5
 infoByte := by kernel_rfl
 cellsByte := by kernel_rfl
 sizeByte := by kernel_rfl
 neB5 := by decide }
open Go.RowKit Go.Lib in
/-- THE MAIN CASE: at least two copies of a string that is not empty. (LAID: no walk: one application.) -/
theorem Tryd.strings_Repeat_main (s : ByteArray) (c : Nat) (w : World) (hc2 : 2 ≤ c) (hc : c ≤ 9223372036854775807) (hlen : s.size * c ≤ 140737488355328) (h0 : 0 < s.size) :
  Calls Tryd.prog 30 #[.string s, .int .i64 c] w fun e w' => e = .returned (.string ⟨(Lib.repeatL s.data.toList c).toArray⟩) ∧ Below w.heap.size w w' := Any.strings_Repeat_main Tryd.lays105 Tryd.Builder_Extra_105 s c w hc2 hc hlen h0
open Go.RowKit Go.Lib in
theorem Tryd.strings_Repeat_zero (s : ByteArray) (w : World) :
  Calls Tryd.prog 30 #[.string s, .int .i64 0] w fun e w' => e = .returned (.string ⟨#[]⟩) ∧ w' = w := Any.strings_Repeat_zero Tryd.lays105 s w
open Go.RowKit Go.Lib in
theorem Tryd.strings_Repeat_one (s : ByteArray) (w : World) :
  Calls Tryd.prog 30 #[.string s, .int .i64 1] w fun e w' => e = .returned (.string s) ∧ w' = w := Any.strings_Repeat_one Tryd.lays105 s w
open Go.RowKit Go.Lib in
/-- Copies of the empty string. (LAID: no walk: one application.) -/
theorem Tryd.strings_Repeat_empty (s : ByteArray) (c : Nat) (w : World) (hc2 : 2 ≤ c) (hc : c ≤ 9223372036854775807) (h0 : s.size = 0) :
  Calls Tryd.prog 30 #[.string s, .int .i64 c] w fun e w' => e = .returned (.string ⟨#[]⟩) ∧ w' = w := Any.strings_Repeat_empty Tryd.lays105 s c w hc2 hc h0
open Go.RowKit Go.Lib in
/-- count < 0: "It panics if count is negative". (LAID: no walk: one application.) -/
theorem Tryd.strings_Repeat_negative (s : ByteArray) (c : Int) (w : World) (hc : c < 0) :
  Calls Tryd.prog 30 #[.string s, .int .i64 c] w fun e w' => e = .panicked [{ v := repeatPanic Tryd.lays105_ren "strings: negative Repeat count", recovered := false }] ∧ w' = w := Any.strings_Repeat_negative Tryd.lays105 s c w hc
open Go.RowKit Go.Lib in
/-- len(s) * count is no int: ".. or if the result of (len(s) * count) overflows". (LAID: no walk: one application.) -/
theorem Tryd.strings_Repeat_overflow (s : ByteArray) (c : Nat) (w : World) (hc : c ≤ 9223372036854775807) (hs : s.size ≤ 9223372036854775807) (hbig : 9223372036854775807 < s.size * c) :
  Calls Tryd.prog 30 #[.string s, .int .i64 c] w fun e w' => e = .panicked [{ v := repeatPanic Tryd.lays105_ren "strings: Repeat output length overflow", recovered := false }] ∧ w' = w := Any.strings_Repeat_overflow Tryd.lays105 s c w hc hs hbig
open Go.RowKit Go.Lib in
/-- **strings.Repeat: count ≥ 0, the result within one allocation: count copies of s.** (LAID: no walk: one application.) -/
theorem Tryd.strings_Repeat (s : ByteArray) (c : Nat) (w : World) (hc : c ≤ 9223372036854775807) (hlen : s.size * c ≤ 140737488355328) :
  Calls Tryd.prog 30 #[.string s, .int .i64 c] w fun e w' => e = .returned (.string ⟨(Lib.repeatL s.data.toList c).toArray⟩) ∧ Below w.heap.size w w' := Any.strings_Repeat Tryd.lays105 Tryd.Builder_Extra_105 s c w hc hlen
end Go.Proofs

namespace Go.Proofs.Yc
open Go Go.RowKit Go.Shelf Go.Proofs.Num
open Tryd renaming func103 → G9103, underlying105 → U9105, underlying107 → U9107, underlying185 → U9185, underlying29 → U929, underlying4 → U94, underlying5 → U95, underlying9 → U99
set_option maxHeartbeats 1000000 in
set_option maxRecDepth 100000 in
theorem copyCheck_used (b : Nat) (w : World) (h0 : w.cell? ⟨b, 0, none⟩ = some (.pointer (some ⟨b, 0, none⟩))) :
  Calls Tryd.prog 103 #[.pointer (some ⟨b, 0, none⟩)] w fun e w' => e = .returned (.tuple #[]) ∧ w' = w := by
 obtain ⟨j, hj, _⟩ := Option.map_eq_some_iff.1 (show (Tryd.prog.info? 107).map (·.size) = some 2 by kernel_rfl)
 have mixed : Tryd.prog.follows .mixedOrders = true := by kernel_rfl
 have t107 := U9107; have a107 := Tryd.isAgg107; have z107 := Tryd.sizeOf107; have v107 := Tryd.zeroValue107; have u107 := run_underlying U9107
 have t105 := U9105; have a105 := Tryd.isAgg105; have z105 := Tryd.sizeOf105; have v105 := Tryd.zeroValue105; have u105 := run_underlying U9105
 have t9 := U99; have a9 := Tryd.isAgg9; have z9 := Tryd.sizeOf9; have v9 := Tryd.zeroValue9; have u9 := run_underlying U99
 have t4 := U94; have a4 := Tryd.isAgg4; have z4 := Tryd.sizeOf4; have v4 := Tryd.zeroValue4; have u4 := run_underlying U94
 have t185 := U9185; have a185 := Tryd.isAgg185; have z185 := Tryd.sizeOf185; have v185 := Tryd.zeroValue185; have u185 := run_underlying U9185
 go_enter G9103, Tryd.ntmps103
 go_wp2
 rw [Lib.run_neq_ptr_same w _ U9105 hj]
 go_wp2
 go_end0
 exact ⟨rfl, rfl⟩
set_option maxHeartbeats 1000000 in
set_option maxRecDepth 100000 in
theorem copyCheck_fresh (b : Nat) (w : World) (h0 : w.cell? ⟨b, 0, none⟩ = some (.pointer none)) (hsh : w.shape? b = some (107, 2)) (hfz : w.frozen? ⟨b, 0, none⟩ = false) :
  Calls Tryd.prog 103 #[.pointer (some ⟨b, 0, none⟩)] w fun e w' => e = .returned (.tuple #[]) ∧ w' = w.setCell ⟨b, 0, none⟩ (.pointer (some ⟨b, 0, none⟩)) := by
 obtain ⟨j, hj, hjs⟩ := Option.map_eq_some_iff.1 (show (Tryd.prog.info? 107).map (·.size) = some 2 by kernel_rfl)
 have mixed : Tryd.prog.follows .mixedOrders = true := by kernel_rfl
 have t107 := U9107; have a107 := Tryd.isAgg107; have z107 := Tryd.sizeOf107; have v107 := Tryd.zeroValue107; have u107 := run_underlying U9107
 have t105 := U9105; have a105 := Tryd.isAgg105; have z105 := Tryd.sizeOf105; have v105 := Tryd.zeroValue105; have u105 := run_underlying U9105
 have t9 := U99; have a9 := Tryd.isAgg9; have z9 := Tryd.sizeOf9; have v9 := Tryd.zeroValue9; have u9 := run_underlying U99
 have t4 := U94; have a4 := Tryd.isAgg4; have z4 := Tryd.sizeOf4; have v4 := Tryd.zeroValue4; have u4 := run_underlying U94
 have t185 := U9185; have a185 := Tryd.isAgg185; have z185 := Tryd.sizeOf185; have v185 := Tryd.zeroValue185; have u185 := run_underlying U9185
 go_enter G9103, Tryd.ntmps103
 go_wp2
 rw [Lib.run_to_unsafe w ⟨b, 0, none⟩ U9105 U9185 hj (by rw [hjs]; decide) hsh (Nat.zero_lt_succ 1)]
 simp only [Result.andThen]
 rw [Oper.upon_value]
 go_wp2
 rw [run_callFunc_extern Tryd.func136 (by kernel_rfl) (by kernel_rfl) (by kernel_rfl) (e := Extern.AbiNoEscape.same) (by kernel_rfl)]
 rw [Lib.run_noEscape]
 simp only [Result.andThen]
 rw [Oper.upon_value]
 go_wp2
 rw [Lib.run_from_unsafe w ⟨b, 0, none⟩ U9185 U9105 hj hsh (by kernel_rfl)]
 simp only [Result.andThen]
 rw [Oper.upon_value]
 go_wp2
 go_end0
 exact ⟨rfl, rfl⟩
theorem copyCheck_c (B b : Nat) (bs : List Value) (w : World) (h : Lib.IsBuilder 107 5 B b bs w) :
  Calls Tryd.prog 103 #[.pointer (some ⟨b, 0, none⟩)] w fun e w' => e = .returned (.tuple #[]) ∧ (Lib.BuilderAt 107 5 B b (.pointer (some ⟨b, 0, none⟩)) bs w' ∧ Below B w w') := by
 rcases h with h | h
 ·
  refine (copyCheck_fresh b w h.cell0 h.shape h.frozen0).mono ?_
  rintro e w' ⟨rfl, rfl⟩
  exact ⟨rfl, h.used _, (Below.refl B w).setCell (p := ⟨b, 0, none⟩) h.1 _⟩
 refine (copyCheck_used b w h.cell0).mono ?_
 rintro e w' ⟨rfl, rfl⟩
 exact ⟨rfl, h, Below.refl B _⟩
theorem isB_sees {T e : TypeId} {B b : Nat} {bs : List Value} {w W : World} (h : Lib.IsBuilder T e B b bs w) (hS : Sees w W) : Lib.IsBuilder T e B b bs W := by
 have key : ∀ p, Lib.BuilderAt T e B b p bs w → Lib.BuilderAt T e B b p bs W := by
  intro p h
  have hlt := h.lt
  obtain ⟨hB, v, hb, ⟨hl, hr⟩, hne⟩ := h
  refine ⟨hB, v, (hS.2.2.block b hlt).trans hb, ⟨hl, ?_⟩, hne⟩
  rcases hr with hr | ⟨g, cap, cur, hv, hg, hc, hrest⟩
  ·
   exact .inl hr
  refine .inr ⟨g, cap, cur, hv, hg, ?_, hrest⟩
  have hg2 : g < w.heap.size := by
   rcases Nat.lt_or_ge g w.heap.size with h' | h'
   ·
    exact h'
   simp [Array.getElem?_eq_none h'] at hc
  exact (hS.2.2.block g hg2).trans hc
 rcases h with h | h
 ·
  exact .inl (key _ h)
 exact .inr (key _ h)
set_option maxHeartbeats 2000000 in
set_option maxRecDepth 100000 in
theorem writeByte_c (B b : Nat) (bs : List Value) (c : Int) (w : World) (h : Lib.IsBuilder 107 5 B b bs w) (hlen : bs.length + 1 ≤ 140737488355328) (hBw : B ≤ w.heap.size) :
  Calls Tryd.prog 99 #[.pointer (some ⟨b, 0, none⟩), .int .u8 c] w fun e w' => e = .returned .nilIface ∧ (Lib.BuilderAt 107 5 B b (.pointer (some ⟨b, 0, none⟩)) (bs ++ [.int .u8 c]) w' ∧ Below B w w') := by
 obtain ⟨i0, hi, hz0, hz1, hz2⟩ := info_parts (show (Tryd.prog.info? 5).map (fun i => (i.zero, i.size, i.bytes)) = some (some (.int .u8 0), 1, 1) by kernel_rfl)
 have mixed : Tryd.prog.follows .mixedOrders = true := by kernel_rfl
 have t107 := U9107; have a107 := Tryd.isAgg107; have z107 := Tryd.sizeOf107; have v107 := Tryd.zeroValue107; have u107 := run_underlying U9107
 have t105 := U9105; have a105 := Tryd.isAgg105; have z105 := Tryd.sizeOf105; have v105 := Tryd.zeroValue105; have u105 := run_underlying U9105
 have t5 := U95; have a5 := Tryd.isAgg5; have z5 := Tryd.sizeOf5; have v5 := Tryd.zeroValue5; have u5 := run_underlying U95
 have t29 := U929; have a29 := Tryd.isAgg29; have z29 := Tryd.sizeOf29; have v29 := Tryd.zeroValue29; have u29 := run_underlying U929
 have t9 := U99; have a9 := Tryd.isAgg9; have z9 := Tryd.sizeOf9; have v9 := Tryd.zeroValue9; have u9 := run_underlying U99
 have t4 := U94; have a4 := Tryd.isAgg4; have z4 := Tryd.sizeOf4; have v4 := Tryd.zeroValue4; have u4 := run_underlying U94
 have t185 := U9185; have a185 := Tryd.isAgg185; have z185 := Tryd.sizeOf185; have v185 := Tryd.zeroValue185; have u185 := run_underlying U9185
 have ecc : ∀ args w, (callFunc 103 args).run Tryd.prog w = .ok (.enter 103 args) w := enters_of G9103 (by kernel_rfl) rfl
 go_enter Tryd.func99, Tryd.ntmps99
 go_wp2_with (go_at_fn 103; refine (copyCheck_c B b bs _ h).mono ?_)
 rintro e w1 ⟨rfl, h1, hb1⟩
 obtain ⟨hB, v, hbk, hown, hne⟩ := h1
 have c0 : w1.cell? ⟨b, 0, none⟩ = some (.pointer (some ⟨b, 0, none⟩)) := by rw [Lib.cell_of_heap hbk]; rfl
 have c1 : w1.cell? ⟨b, 1, none⟩ = some v := by rw [Lib.cell_of_heap hbk]; rfl
 go_wp2_with (at_builtin; refine wpList_append_own _ rfl _ _ 29 rfl B 5 i0 (.int .u8 0) 1 1 U929 hi hz0 hz1 hz2 rfl (by decide) _ _ _ rfl (hown.alloc _) ⟨w1.heap.size, 0, none⟩ 1 1 [.int .u8 c] rfl rfl ?c1 ?c2 ?c3 ?c4 ?c5 ?_)
 case c1 =>
  intro j u hj
  match j, hj with
  | 0, hj => simp at hj; subst hj; simp [Addr.add]
 case c2 => intro u hu; simp at hu; subst hu; rfl
 case c3 => unfold maxLen; omega
 case c4 => omega
 case c5 => have := hb1.size; simp; omega
 intro v' w2 hown' hgrow _
 have hlt : b < w1.heap.size := by
  rcases Nat.lt_or_ge b w1.heap.size with h' | h'
  ·
   exact h'
  simp [Array.getElem?_eq_none h'] at hbk
 have hb2 : w2.heap[b]? = some (.cells #[.pointer (some ⟨b, 0, none⟩), v] 107 (0, 0)) := by
  rw [hgrow.block b (by simp; omega) (fun e => hne e.symm), Lib.alloc_old w1 _ b hlt]
  exact hbk
 have d0 : w2.cell? ⟨b, 0, none⟩ = some (.pointer (some ⟨b, 0, none⟩)) := by rw [Lib.cell_of_heap hb2]; rfl
 have d1 : w2.cell? ⟨b, 1, none⟩ = some v := by rw [Lib.cell_of_heap hb2]; rfl
 have f1 : w2.frozen? ⟨b, 1, none⟩ = false := Lib.frozen_of_heap hb2 1
 obtain ⟨g, cap, rfl⟩ : ∃ g cap, v' = .slice (some ⟨g, 0, none⟩) (bs.length + 1) cap := by
  rcases hown'.2 with ⟨_, h0⟩ | ⟨g, cap, cur, hv, _⟩
  ·
   omega
  exact ⟨g, cap, hv⟩
 go_wp2
 go_ret
 refine ⟨rfl, ?_, ?_⟩
 ·
  exact Lib.BuilderAt.put (T := 107) (e := 5) hB hb2 (bs' := bs ++ [.int .u8 c]) (by simpa using hown') (by decide)
 exact ((hb1.alloc (by have := hb1.size; omega) _).grown hgrow (by have := hb1.size; simp; omega) (fun k hk => (hown.lt k hk).1)).setCell (p := ⟨b, 1, none⟩) hB _
end Go.Proofs.Yc

namespace Go.Proofs.Yc
open Go Go.RowKit Go.Proofs.Num
open Tryd renaming underlying29 → U929, underlying40 → U940, underlying5 → U95, underlying9 → U99
open Go.Proofs.Num  renaming putT → Z0
open Nat renaming zero_add → Z2, le_trans → Z3
open List renaming set → Z6, take → Z7, drop → Z8
open Go renaming undef → Z9
open Go.Proofs.Num renaming wp_region_seq → Z13, wpL_nil → Z14, no_panic → Z15, wpV_nil → Z19, wpL_var → Z36
attribute [local irreducible] wpV wpN wpList
open Go.Proofs.Ya
set_option maxHeartbeats 4000000 in
theorem end_cq {g n : Nat} {h : S8q} {b : List UInt8} {w : World} (hh : h.Ok) (hb : b.length < 128) (hn : n < 18446744073709551616) (hg : g ≠ 2) (L2 : 2 < w.heap.size) (R2_0 : w.rangeAt 2 0 kcellsq) (hM : Mem [g] w w [⟨g, 10, [(0, [.int .u64 h.a, .int .u64 h.b, .int .u64 h.c, .int .u64 h.d, .int .u64 h.e, .int .u64 h.f, .int .u64 h.g, .int .u64 h.h]), (8, [.string (bs b)]), (9, [.int .u64 n])]⟩]) :
  Calls Tryd.prog 124 #[.pointer (some ⟨g, 0, none⟩)] w fun e w' => ∃ v, e = .returned v ∧ v = .string (bs (endLq h b n)) ∧ Mem [g] w w' [⟨g, 10, []⟩] := by
 go_enter Tryd.func124, Tryd.ntmps124
 have M := hM
 refine qS fun _ k1 => ?_
 refine lg ?_; refine lZ k1 ?_
 refine qS fun _ k3 => ?_
 refine lM ?_; refine lN ?_; refine lF ?_; refine lF ?_; refine lc ?_
 refine cM 1 fun Lk hLk => ?_
 refine vB (v := .int .u64 ((n * 8) % 18446744073709551616 : Nat)) (hr := nr_mul64 _ n 8) ?_
 refine hLk _ fun w5 M => ?_
 refine lg ?_; refine lZ k3 ?_
 refine qS fun _ k6 => ?_
 refine lM ?_; refine lN ?_; refine lF ?_; refine lF ?_; refine lc ?_
 refine cM 3 fun Lk hLk => ?_
 refine wpV_lenS (by rfl) rfl rfl rfl U99 ?_
 simp only [Z0, Z6]
 refine vB (v := .int .i64 (239 - b.length : Nat)) (hr := run_sub (by simp only [IntKind.wrap_i64]; omega)) ?_
 refine vB (v := .int .i64 ((239 - b.length) % 128 : Nat)) (hr := run_rem (by decide) (tmod_nat (239 - b.length) 128)) ?_
 refine hLk _ fun w8 M => ?_
 refine lg ?_; refine lZ k6 ?_
 refine qS fun _ k9 => ?_
 refine lM ?_
 refine cM 2 fun Lk hLk => ?_
 refine vB (v := .int .i64 (1 + (239 - b.length) % 128 : Nat)) (hr := run_add (by simp only [IntKind.wrap_i64]; omega)) ?_
 refine vB (v := .int .i64 (1 + (239 - b.length) % 128 + 16 : Nat)) (hr := run_add (by simp only [IntKind.wrap_i64]; omega)) ?_
 refine hLk _ fun w11 M => ?_
 refine wpL_make (n := 1 + (239 - b.length) % 128 + 16) (z := .int .u8 0) (bytes := 1) (by rfl) (by rfl) (by rfl) (by rfl) U929 (by kernel_rfl) rfl (by omega) (by omega) (fun g12 w13 Sw13 Hg12 Bg12 => ?_)
 replace M := ((M.sees Sw13).add (N := 1 + (239 - b.length) % 128 + 16) (cs := List.replicate (1 + (239 - b.length) % 128 + 16) (.int .u8 0)) (M.ge Hg12) (M.fresh Hg12) Bg12 (by simp [flen]))
 clear Bg12
 simp only [Z0, Z6]
 refine lg ?_; refine lZ k9 ?_
 refine qS fun _ k14 => ?_
 refine lM ?_
 refine cM 1 fun Lk hLk => ?_
 refine wpV_idxs (n := 0) (by rfl) rfl rfl rfl U929 info5 (by omega) ?_
 simp only [Z2]
 simp only [Z0, Z6]
 refine hLk _ fun w16 M => ?_
 refine lS1 (g := g12) (off := 0) (n := 1 + (239 - b.length) % 128 + 16) (v := .int .u8 128) (M.t 0 rfl) (by omega) info5 rfl (fun w17 P R T => ?_)
 replace M := M.put1 (j := 0) 0 rfl P R T (Z2 _).symm
 simp only [Z6] at M
 rw [tail_firstq _ (n * 8 % 18446744073709551616)] at M
 refine lZ k14 ?_
 refine sk fun _ k18 => ?_
 refine qS fun _ k19 => ?_
 refine lM ?_; refine lZ k19 ?_; refine wp_block ?_
 refine wp_loop_ghost (fun n9 a9 W9 => ∃ (q : Nat) (u21_6 u21_32 u21_33 u21_34 u21_35 u21_36 u21_37 u21_38 u21_39 u21_40 u21_41 u21_42 u21_43 u21_44 u21_45 u21_46 : Value), n9 = 8 - q ∧ a9 = { tmps := #[.pointer (some ⟨g, 0, none⟩), Z9, .string (bs ([])), .int .u64 ((n * 8) % 18446744073709551616 : Nat), .int .i64 ((239 - b.length) % 128 : Nat), .slice (some ⟨g12, 0, none⟩) (1 + (239 - b.length) % 128 + 16) (1 + (239 - b.length) % 128 + 16), u21_6, Z9, Z9, Z9, Z9, .pointer (some ⟨g, 0, none⟩), .pointer (some ⟨g, 0, none⟩), .pointer (some ⟨g, 0, none⟩), .pointer (some ⟨g, 9, none⟩), .int .u64 n, .int .u64 ((n * 8) % 18446744073709551616 : Nat), .pointer (some ⟨g, 0, none⟩), .pointer (some ⟨g, 0, none⟩), .pointer (some ⟨g, 0, none⟩), .pointer (some ⟨g, 8, none⟩), .string (bs b), .int .i64 b.length, .int .i64 (239 - b.length : Nat), .int .i64 ((239 - b.length) % 128 : Nat), .int .i64 ((239 - b.length) % 128 : Nat), .int .i64 (1 + (239 - b.length) % 128 : Nat), .int .i64 (1 + (239 - b.length) % 128 + 16 : Nat), .slice (some ⟨g12, 0, none⟩) (1 + (239 - b.length) % 128 + 16) (1 + (239 - b.length) % 128 + 16), .slice (some ⟨g12, 0, none⟩) (1 + (239 - b.length) % 128 + 16) (1 + (239 - b.length) % 128 + 16), .pointer (some ⟨g12, 0, none⟩), .int .i64 q, u21_32, u21_33, u21_34, u21_35, u21_36, u21_37, u21_38, u21_39, u21_40, u21_41, u21_42, u21_43, u21_44, u21_45, u21_46, Z9, Z9, Z9, Z9, Z9, Z9, Z9, Z9, Z9, Z9, Z9, Z9, Z9, Z9, Z9, Z9, Z9, Z9, Z9, Z9, Z9, Z9, Z9, Z9, Z9], defers := [] } ∧ Mem [g] w W9 [⟨g12, 1 + (239 - b.length) % 128 + 16, [(0, bl (1 + (239 - b.length) % 128 + 16) (tailFq ((239 - b.length) % 128) (n * 8 % 18446744073709551616) q))]⟩, ⟨g, 10, [(0, [.int .u64 h.a, .int .u64 h.b, .int .u64 h.c, .int .u64 h.d, .int .u64 h.e, .int .u64 h.f, .int .u64 h.g, .int .u64 h.h]), (8, [.string (bs b)]), (9, [.int .u64 n])]⟩] ∧ (q ≤ 8)) (8 - (0)) ?_ (fun n9 a9 W9 hI => ?_)
 ·
  exact ⟨0, _, _, _, _, _, _, _, _, _, _, _, _, _, _, _, _, rfl, rfl, M, (by omega)⟩
 clear M
 obtain ⟨q, u21_6, u21_32, u21_33, u21_34, u21_35, u21_36, u21_37, u21_38, u21_39, u21_40, u21_41, u21_42, u21_43, u21_44, u21_45, u21_46, rfl, rfl, M, hq4⟩ := hI
 obtain ⟨w22, rfl⟩ : ∃ W8, W8 = W9 := ⟨_, rfl⟩
 refine qS fun _ k23 => ?_
 refine cM 1 fun Lk hLk => ?_
 refine vB (v := .bool (decide (q < 8))) (hr := run_lssN q 8 _ _) ?_
 refine hLk _ fun w25 M => ?_
 refine lZ k23 ?_
 refine sk fun _ k26 => ?_
 cases hc27 : (decide (q < 8))
 ·
  have eq : q = 8 := by have := of_decide_eq_false hc27; omega
  subst eq
  refine cF ?_; refine eZ k18 ?_
  refine sk fun _ k28 => ?_
  rw [tail_endq] at M
  refine Z13 ?_; refine lM ?_; refine lM ?_
  refine cM 1 fun Lk hLk => ?_
  refine wpV_b2s (l := (tailLq b.length n)) (by rfl) rfl rfl (tailL_lenq ..).symm U929 U95 U99 (M.r 0 0 rfl rfl) (M.lt 0 rfl) ?_
  simp only [Z0, Z6]
  refine hLk _ fun w30 M => ?_
  refine wpL_callM (f := 123) (args := #[.pointer (some ⟨g, 0, none⟩), .string (bs (tailLq b.length n))]) (R := fun v9 W9 => v9 = .tuple #[] ∧ Mem [g] w30 W9 [⟨g, 10, [(0, [.int .u64 (((takeHq h (b ++ (tailLq b.length n))).a : Nat) : Int), .int .u64 (((takeHq h (b ++ (tailLq b.length n))).b : Nat) : Int), .int .u64 (((takeHq h (b ++ (tailLq b.length n))).c : Nat) : Int), .int .u64 (((takeHq h (b ++ (tailLq b.length n))).d : Nat) : Int), .int .u64 (((takeHq h (b ++ (tailLq b.length n))).e : Nat) : Int), .int .u64 (((takeHq h (b ++ (tailLq b.length n))).f : Nat) : Int), .int .u64 (((takeHq h (b ++ (tailLq b.length n))).g : Nat) : Int), .int .u64 (((takeHq h (b ++ (tailLq b.length n))).h : Nat) : Int)]), (8, [.string (bs (takeRq (b ++ (tailLq b.length n))))]), (9, [.int .u64 ((((n + (tailLq b.length n).length) % 18446744073709551616) : Nat) : Int)])]⟩]) (by rfl) (by rfl) rfl Tryd.func123 (by kernel_rfl) (by kernel_rfl) (take_cq (h := h) (b := b) (l := (tailLq b.length n)) (n := n) hh hb (by rw [tailL_lenq]; omega) hg (M.oldL L2) (M.oldG R2_0 L2 (by simpa using Ne.symm hg)) (M.one 1 rfl)) (fun v9 w31 h9 => ?_)
  obtain ⟨rfl, M9⟩ := h9
  replace M := M.callM1 1 rfl M9
  simp only [Z6] at M
  simp only [Z0, Z6]
  refine lZ k28 ?_
  refine sk fun _ k32 => ?_
  have hok : (takeHq h (b ++ (tailLq b.length n))).Ok := takeH_okq _ _ _ (Nat.le_refl _) hh
  generalize hS : takeHq h (b ++ (tailLq b.length n)) = S at M hok
  have hgB := M.lt 1 rfl
  have hsz := M.size
  refine Z13 ?_
  refine Z36 (t := 107) (cs := [.pointer none, .slice none 0 0]) (by rfl) (fun W => ?_) (fun g34 w33 SB HB BB => ?_)
  ·
   go_simp
  have IB : Lib.IsBuilder 107 5 w31.heap.size g34 [] w33 := .inl ⟨HB, _, BB, World.ownsRow_nil _ _ _ _, by simp [Value.ownBlock]⟩
  have HB9 := SB.2.2.size
  replace M := M.sees SB
  simp only [Z0, Z6]
  refine lZ k32 ?_
  refine sk fun _ k35 => ?_
  refine qS fun _ k36 => ?_
  refine lM ?_; refine lN ?_; refine lF ?_; refine lF ?_; refine lL ?_; refine lM ?_
  refine Z14 (Z15 ?_)
  replace M := (M.pick [1] (by decide) rfl : Mem [g] w w33 [⟨g, 10, [(0, [.int .u64 S.a, .int .u64 S.b, .int .u64 S.c, .int .u64 S.d, .int .u64 S.e, .int .u64 S.f, .int .u64 S.g, .int .u64 S.h]), (8, [.string (bs (takeRq (b ++ (tailLq b.length n))))]), (9, [.int .u64 ((((n + (tailLq b.length n).length) % 18446744073709551616) : Nat) : Int)])]⟩])
  replace M := M.read (segs' := []) 0 rfl (by simp)
  simp only [Z6] at M
  have hl9 : ∀ b9 ∈ ([⟨g, 10, []⟩] : List Bk), b9.g < w31.heap.size := fun b9 hb9 => by rw [List.mem_singleton.1 hb9]; exact hgB
  clear hgB
  refine k36 _ _ ?_; refine wp_block ?_
  refine wp_loop_ghost (fun n9 a9 W9 => ∃ (i : Nat) (u39_9 u39_10 u39_57 u39_58 u39_59 u39_60 u39_61 u39_62 u39_63 u39_64 u39_65 u39_66 u39_67 u39_68 u39_69 u39_70 : Value), n9 = 8 - i ∧ a9 = { tmps := #[.pointer (some ⟨g, 0, none⟩), Z9, .string (bs ([])), .int .u64 ((n * 8) % 18446744073709551616 : Nat), .int .i64 ((239 - b.length) % 128 : Nat), .slice (some ⟨g12, 0, none⟩) (1 + (239 - b.length) % 128 + 16) (1 + (239 - b.length) % 128 + 16), u21_6, .pointer (some ⟨g34, 0, none⟩), Z9, u39_9, u39_10, .pointer (some ⟨g, 0, none⟩), .pointer (some ⟨g, 0, none⟩), .pointer (some ⟨g, 0, none⟩), .pointer (some ⟨g, 9, none⟩), .int .u64 n, .int .u64 ((n * 8) % 18446744073709551616 : Nat), .pointer (some ⟨g, 0, none⟩), .pointer (some ⟨g, 0, none⟩), .pointer (some ⟨g, 0, none⟩), .pointer (some ⟨g, 8, none⟩), .string (bs b), .int .i64 b.length, .int .i64 (239 - b.length : Nat), .int .i64 ((239 - b.length) % 128 : Nat), .int .i64 ((239 - b.length) % 128 : Nat), .int .i64 (1 + (239 - b.length) % 128 : Nat), .int .i64 (1 + (239 - b.length) % 128 + 16 : Nat), .slice (some ⟨g12, 0, none⟩) (1 + (239 - b.length) % 128 + 16) (1 + (239 - b.length) % 128 + 16), .slice (some ⟨g12, 0, none⟩) (1 + (239 - b.length) % 128 + 16) (1 + (239 - b.length) % 128 + 16), .pointer (some ⟨g12, 0, none⟩), .int .i64 (8 : Nat), .bool false, u21_33, u21_34, u21_35, u21_36, u21_37, u21_38, u21_39, u21_40, u21_41, u21_42, u21_43, u21_44, u21_45, u21_46, .pointer (some ⟨g, 0, none⟩), .slice (some ⟨g12, 0, none⟩) (1 + (239 - b.length) % 128 + 16) (1 + (239 - b.length) % 128 + 16), .string (bs (tailLq b.length n)), .tuple #[], .pointer (some ⟨g, 0, none⟩), .pointer (some ⟨g, 0, none⟩), .pointer (some ⟨g, 0, none⟩), .pointer (some ⟨g, 0, none⟩), .agg ([.int .u64 S.a, .int .u64 S.b, .int .u64 S.c, .int .u64 S.d, .int .u64 S.e, .int .u64 S.f, .int .u64 S.g, .int .u64 S.h]).toArray, .int .i64 i, u39_57, u39_58, u39_59, u39_60, u39_61, u39_62, u39_63, u39_64, u39_65, u39_66, u39_67, u39_68, u39_69, u39_70, Z9], defers := [] } ∧ Mem [g] w W9 [⟨g, 10, []⟩] ∧ (i ≤ 8) ∧ (Lib.IsBuilder 107 5 w31.heap.size g34 (Lib.byteCells ((outSq S).take (8 * i))) W9) ∧ (w31.heap.size ≤ W9.heap.size)) (8 - (0)) ?_ (fun n9 a9 W9 hI => ?_)
  ·
   exact ⟨0, _, _, _, _, _, _, _, _, _, _, _, _, _, _, _, _, rfl, rfl, M, (by omega), IB, HB9⟩
  clear M
  obtain ⟨i, u39_9, u39_10, u39_57, u39_58, u39_59, u39_60, u39_61, u39_62, u39_63, u39_64, u39_65, u39_66, u39_67, u39_68, u39_69, u39_70, rfl, rfl, M, hi4, IB, HB9⟩ := hI
  obtain ⟨w40, rfl⟩ : ∃ W8, W8 = W9 := ⟨_, rfl⟩
  refine qS fun _ k41 => ?_
  refine lCh 1 (fun Lk hLk => ?_)
  refine vB (v := .bool (decide (i < 8))) (hr := run_lssN i 8 _ _) ?_
  refine Z19 (hLk _ (fun w43 Sw43 => ?_))
  simp only [Z7, Z8]
  replace M := M.sees Sw43
  replace IB := isB_sees IB Sw43; replace HB9 := Z3 HB9 Sw43.2.2.size
  refine lZ k41 ?_
  refine sk fun _ k44 => ?_
  cases hc45 : (decide (i < 8))
  ·
   have ei : i = 8 := by have := of_decide_eq_false hc45; omega
   subst ei
   refine cF ?_; refine eZ k35 ?_
   refine qS fun _ k46 => ?_
   refine wpL_callM (f := 71) (args := #[.pointer (some ⟨g34, 0, none⟩)]) (R := fun v9 W9 => v9 = .string (bs (outSq S)) ∧ Below w31.heap.size w43 W9) (by rfl) (by rfl) rfl Tryd.func71 (by kernel_rfl) (by kernel_rfl) ((Tryd.Builder_String_any w31.heap.size g34 (outSq S) w43 (by rw [List.take_of_length_le (by rw [outS_lenq]; decide)] at IB; exact IB) HB9).mono fun e W9 h => ⟨_, h.1, rfl, h.2⟩) (fun v9 w48 h9 => ?_)
   obtain ⟨rfl, hBw⟩ := h9
   replace M := M.belowB hBw hsz hl9
   simp only [Z0, Z6]
   refine lg ?_; refine lZ k46 ?_; refine rt1 ?_
   exact ⟨_, rfl, by rw [← hS]; rfl, M⟩
  have hi : i < 8 := of_decide_eq_true hc45
  refine cT ?_; refine sZ k44 ?_
  refine sk fun _ k49 => ?_
  refine wp_block ?_
  refine qS fun _ k50 => ?_
  refine lCh 1 (fun Lk hLk => ?_)
  refine wpV_index (n := i) (v := .int .u64 (S.get i : Nat)) (by rfl) rfl rfl rfl Tryd.underlying129 info40 U940 rfl (by omega) (c8_getq S hi) ?_
  simp only [Z0, Z6]
  refine Z19 (hLk _ (fun w52 Sw52 => ?_))
  simp only [Z7, Z8]
  replace M := M.sees Sw52
  replace IB := isB_sees IB Sw52; replace HB9 := Z3 HB9 Sw52.2.2.size
  refine lg ?_; refine lZ k50 ?_
  refine qS fun _ k53 => ?_
  refine lM ?_; refine lZ k53 ?_; refine wp_block ?_
  refine wp_loop_ghost (fun n9 a9 W9 => ∃ (j : Nat) (u55_10 u55_60 u55_61 u55_62 u55_63 u55_64 u55_65 u55_66 u55_67 u55_68 u55_69 : Value), n9 = 8 - j ∧ a9 = { tmps := #[.pointer (some ⟨g, 0, none⟩), Z9, .string (bs ([])), .int .u64 ((n * 8) % 18446744073709551616 : Nat), .int .i64 ((239 - b.length) % 128 : Nat), .slice (some ⟨g12, 0, none⟩) (1 + (239 - b.length) % 128 + 16) (1 + (239 - b.length) % 128 + 16), u21_6, .pointer (some ⟨g34, 0, none⟩), Z9, .int .u64 (S.get i : Nat), u55_10, .pointer (some ⟨g, 0, none⟩), .pointer (some ⟨g, 0, none⟩), .pointer (some ⟨g, 0, none⟩), .pointer (some ⟨g, 9, none⟩), .int .u64 n, .int .u64 ((n * 8) % 18446744073709551616 : Nat), .pointer (some ⟨g, 0, none⟩), .pointer (some ⟨g, 0, none⟩), .pointer (some ⟨g, 0, none⟩), .pointer (some ⟨g, 8, none⟩), .string (bs b), .int .i64 b.length, .int .i64 (239 - b.length : Nat), .int .i64 ((239 - b.length) % 128 : Nat), .int .i64 ((239 - b.length) % 128 : Nat), .int .i64 (1 + (239 - b.length) % 128 : Nat), .int .i64 (1 + (239 - b.length) % 128 + 16 : Nat), .slice (some ⟨g12, 0, none⟩) (1 + (239 - b.length) % 128 + 16) (1 + (239 - b.length) % 128 + 16), .slice (some ⟨g12, 0, none⟩) (1 + (239 - b.length) % 128 + 16) (1 + (239 - b.length) % 128 + 16), .pointer (some ⟨g12, 0, none⟩), .int .i64 (8 : Nat), .bool false, u21_33, u21_34, u21_35, u21_36, u21_37, u21_38, u21_39, u21_40, u21_41, u21_42, u21_43, u21_44, u21_45, u21_46, .pointer (some ⟨g, 0, none⟩), .slice (some ⟨g12, 0, none⟩) (1 + (239 - b.length) % 128 + 16) (1 + (239 - b.length) % 128 + 16), .string (bs (tailLq b.length n)), .tuple #[], .pointer (some ⟨g, 0, none⟩), .pointer (some ⟨g, 0, none⟩), .pointer (some ⟨g, 0, none⟩), .pointer (some ⟨g, 0, none⟩), .agg ([.int .u64 S.a, .int .u64 S.b, .int .u64 S.c, .int .u64 S.d, .int .u64 S.e, .int .u64 S.f, .int .u64 S.g, .int .u64 S.h]).toArray, .int .i64 i, .bool true, .int .u64 (S.get i : Nat), .int .i64 j, u55_60, u55_61, u55_62, u55_63, u55_64, u55_65, u55_66, u55_67, u55_68, u55_69, u39_70, Z9], defers := [] } ∧ Mem [g] w W9 [⟨g, 10, []⟩] ∧ (j ≤ 8) ∧ (Lib.IsBuilder 107 5 w31.heap.size g34 (Lib.byteCells ((outSq S).take (8 * i + j))) W9) ∧ (w31.heap.size ≤ W9.heap.size)) (8 - (0)) ?_ (fun n9 a9 W9 hI => ?_)
  ·
   exact ⟨0, _, _, _, _, _, _, _, _, _, _, _, rfl, rfl, M, (by omega), IB, HB9⟩
  clear M
  obtain ⟨j, u55_10, u55_60, u55_61, u55_62, u55_63, u55_64, u55_65, u55_66, u55_67, u55_68, u55_69, rfl, rfl, M, hj4, IB, HB9⟩ := hI
  obtain ⟨w56, rfl⟩ : ∃ W8, W8 = W9 := ⟨_, rfl⟩
  refine qS fun _ k57 => ?_
  refine lCh 1 (fun Lk hLk => ?_)
  refine vB (v := .bool (decide (j < 8))) (hr := run_lssN j 8 _ _) ?_
  refine Z19 (hLk _ (fun w59 Sw59 => ?_))
  simp only [Z7, Z8]
  replace M := M.sees Sw59
  replace IB := isB_sees IB Sw59; replace HB9 := Z3 HB9 Sw59.2.2.size
  refine lZ k57 ?_
  refine sk fun _ k60 => ?_
  cases hc61 : (decide (j < 8))
  ·
   have ej : j = 8 := by have := of_decide_eq_false hc61; omega
   subst ej
   refine cF ?_; refine eZ k49 ?_; refine Z13 ?_
   refine lCh 1 (fun Lk hLk => ?_)
   refine vB (v := .int .i64 (i + 1 : Nat)) (hr := run_add (by simp only [IntKind.wrap_i64]; omega)) ?_
   refine Z19 (hLk _ (fun w63 Sw63 => ?_))
   simp only [Z7, Z8]
   replace M := M.sees Sw63
   replace IB := isB_sees IB Sw63; replace HB9 := Z3 HB9 Sw63.2.2.size
   refine lM ?_
   refine Z14 (Z15 ?_)
   refine Exists.intro _ ⟨?_, (i + 1), _, _, _, _, _, _, _, _, _, _, _, _, _, _, _, _, rfl, rfl, M, (by omega), IB, HB9⟩
   omega
  have hj : j < 8 := of_decide_eq_true hc61
  refine cT ?_; refine sZ k60 ?_
  refine sk fun _ k64 => ?_
  refine wp_block ?_
  refine qS fun _ k65 => ?_
  refine lM ?_; refine lg ?_; refine lZ k65 ?_; refine Z13 ?_; refine lM ?_; refine lM ?_
  refine lCh 4 (fun Lk hLk => ?_)
  refine vB (v := .int .i64 (7 - j : Nat)) (hr := run_sub (by simp only [IntKind.wrap_i64]; omega)) ?_
  refine vB (v := .int .i64 (8 * (7 - j) : Nat)) (hr := run_mul (by simp only [IntKind.wrap_i64]; omega)) ?_
  refine vB (v := .int .u64 ((S.get i) / 2 ^ (8 * (7 - j)) : Nat)) (hr := nr_shr64 (x := S.get i) (n := 8 * (7 - j)) (by omega)) ?_
  refine wpV_conv (d := .bool) (e := ((((S.get i) / 2 ^ (8 * (7 - j))) % 256 : Nat) : Int)) (by rfl) rfl rfl (run_conv_int U940 U95 (wrap_u8N _)) ?_
  simp only [Z0, Z6]
  refine Z19 (hLk _ (fun w68 Sw68 => ?_))
  simp only [Z7, Z8]
  replace M := M.sees Sw68
  replace IB := isB_sees IB Sw68; replace HB9 := Z3 HB9 Sw68.2.2.size
  refine wpL_callM (f := 99) (args := #[.pointer (some ⟨g34, 0, none⟩), .int .u8 ((((S.get i) / 2 ^ (8 * (7 - j))) % 256 : Nat) : Int)]) (R := fun v9 W9 => v9 = .nilIface ∧ Lib.IsBuilder 107 5 w31.heap.size g34 ((Lib.byteCells ((outSq S).take (8 * i + j))) ++ [.int .u8 ((((S.get i) / 2 ^ (8 * (7 - j))) % 256 : Nat) : Int)]) W9 ∧ Below w31.heap.size w68 W9) (by rfl) (by rfl) rfl Tryd.func99 (by kernel_rfl) (by kernel_rfl) ((writeByte_c w31.heap.size g34 _ _ w68 IB (by rw [Lib.byteCells_length, List.length_take, outS_lenq]; omega) HB9).mono fun e W9 h => ⟨_, h.1, rfl, .inr h.2.1, h.2.2⟩) (fun v9 w69 h9 => ?_)
  obtain ⟨rfl, IB2, hBw⟩ := h9
  replace IB := IB2; clear IB2
  replace M := M.belowB hBw hsz hl9
  replace HB9 := Z3 HB9 hBw.size
  simp only [Z0, Z6]
  refine lZ k64 ?_; refine Z13 ?_
  refine lCh 1 (fun Lk hLk => ?_)
  refine vB (v := .int .i64 (j + 1 : Nat)) (hr := run_add (by simp only [IntKind.wrap_i64]; omega)) ?_
  refine Z19 (hLk _ (fun w71 Sw71 => ?_))
  simp only [Z7, Z8]
  replace M := M.sees Sw71
  replace IB := isB_sees IB Sw71; replace HB9 := Z3 HB9 Sw71.2.2.size
  refine lM ?_
  refine Z14 (Z15 ?_)
  refine Exists.intro _ ⟨?_, (j + 1), _, _, _, _, _, _, _, _, _, _, _, rfl, rfl, M, (by omega), (by rw [show Lib.byteCells = bcells from rfl, out_stepq S hi hj] at IB; exact IB), HB9⟩
  omega
 have hq : q < 8 := of_decide_eq_true hc27
 refine cT ?_; refine sZ k26 ?_
 refine sk fun _ k72 => ?_
 refine wp_block ?_
 refine qS fun _ k73 => ?_
 refine lM ?_; refine lg ?_; refine lZ k73 ?_; refine Z13 ?_; refine lM ?_; refine lM ?_
 refine cM 10 fun Lk hLk => ?_
 refine wpV_lenA (n := 1 + (239 - b.length) % 128 + 16) (by rfl) rfl rfl rfl U929 ?_
 simp only [Z0, Z6]
 refine vB (v := .int .i64 ((1 + (239 - b.length) % 128 + 16) - 1 : Nat)) (hr := run_sub (by simp only [IntKind.wrap_i64]; omega)) ?_
 refine vM ?_
 refine vB (v := .int .i64 ((((1 + (239 - b.length) % 128 + 16) - 1) - q : Nat) : Int)) (hr := run_sub (by simp only [IntKind.wrap_i64]; omega)) ?_
 refine vM ?_; refine vM ?_
 refine vB (v := .int .i64 (8 * q : Nat)) (hr := run_mul (by simp only [IntKind.wrap_i64]; omega)) ?_
 refine vB (v := .int .u64 (((n * 8) % 18446744073709551616) / 2 ^ (8 * q) : Nat)) (hr := nr_shr64 (x := (n * 8) % 18446744073709551616) (n := 8 * q) (by omega)) ?_
 refine wpV_conv (d := .bool) (e := (((((n * 8) % 18446744073709551616) / 2 ^ (8 * q)) % 256 : Nat) : Int)) (by rfl) rfl rfl (run_conv_int U940 U95 (wrap_u8N _)) ?_
 simp only [Z0, Z6]
 refine wpV_idxs (n := ((1 + (239 - b.length) % 128 + 16) - 1) - q) (by rfl) rfl rfl rfl U929 info5 (by omega) ?_
 simp only [Z2]
 simp only [Z0, Z6]
 refine hLk _ fun w76 M => ?_
 refine lS1 (g := g12) (off := ((1 + (239 - b.length) % 128 + 16) - 1) - q) (n := 1 + (239 - b.length) % 128 + 16) (v := .int .u8 (((((n * 8) % 18446744073709551616) / 2 ^ (8 * q)) % 256 : Nat) : Int)) (M.t 0 rfl) (by omega) info5 rfl (fun w77 P R T => ?_)
 replace M := M.put1 (j := ((1 + (239 - b.length) % 128 + 16) - 1) - q) 0 rfl P R T (Z2 _).symm
 simp only [Z6] at M
 rw [tail_stepq _ _ hq] at M
 refine lZ k72 ?_; refine Z13 ?_
 refine cM 1 fun Lk hLk => ?_
 refine vB (v := .int .i64 (q + 1 : Nat)) (hr := run_add (by simp only [IntKind.wrap_i64]; omega)) ?_
 refine hLk _ fun w79 M => ?_
 refine lM ?_
 refine Z14 (Z15 ?_)
 refine Exists.intro _ ⟨?_, (q + 1), _, _, _, _, _, _, _, _, _, _, _, _, _, _, _, _, rfl, rfl, M, (by omega)⟩
 omega
end Go.Proofs.Yc

namespace Go.Proofs.Yc
open Go Go.RowKit Go.Proofs.Num
open Tryd renaming underlying37 → U937
open Go.Proofs.Num  renaming putT → Z0
open Nat renaming zero_add → Z2
open List renaming set → Z6
open Go renaming undef → Z9
open Go.Proofs.Num renaming wp_region_seq → Z13, wpL_nil → Z14, no_panic → Z15
attribute [local irreducible] wpV wpN wpList
open Go.Proofs.Ya
theorem mem_neKq {w0 w : World} {l : List Bk} {b : Bk} (h : Mem [] w0 w l) (k : Nat) (hk : l[k]? = some b) {n : Nat} (h0 : n < w0.heap.size) : b.g ≠ n := fun e => by
 rcases (h.ok b (mem_of hk)).own with ho | ho
 ·
  omega
 cases ho
set_option maxHeartbeats 1000000 in
theorem new_cq  {w : World}  :
  Calls Tryd.prog 122 #[] w fun e w' => e = .returned (.agg ([.int .u64 H0q.a, .int .u64 H0q.b, .int .u64 H0q.c, .int .u64 H0q.d, .int .u64 H0q.e, .int .u64 H0q.f, .int .u64 H0q.g, .int .u64 H0q.h] ++ [.string (bs [])] ++ [.int .u64 (0 : Nat)] : List Value).toArray) ∧ Below w.heap.size w w' := by
 go_enter Tryd.func122, Tryd.ntmps122
 have M := Mem.start w
 refine qS fun _ k1 => ?_
 refine nVs (segs := [(0, [.int .u64 0, .int .u64 0, .int .u64 0, .int .u64 0, .int .u64 0, .int .u64 0, .int .u64 0, .int .u64 0]), (8, [.string { data := #[] }]), (9, [.int .u64 0])]) 10 fun g3 w4 M => ?_
 refine lZ k1 ?_
 refine qS fun _ k5 => ?_
 refine cM 2 fun Lk hLk => ?_
 refine vGk (v := .agg ([.int .u64 7640891576956012808, .int .u64 13503953896175478587, .int .u64 4354685564936845355, .int .u64 11912009170470909681, .int .u64 5840696475078001361, .int .u64 11170449401992604703, .int .u64 2270897969802886507, .int .u64 6620516959819538809]).toArray) ?_
 simp only [Z0, Z6]
 refine vGk (v := .agg ([.int .u64 7640891576956012808, .int .u64 13503953896175478587, .int .u64 4354685564936845355, .int .u64 11912009170470909681, .int .u64 5840696475078001361, .int .u64 11170449401992604703, .int .u64 2270897969802886507, .int .u64 6620516959819538809, .string { data := #[] }, .int .u64 0]).toArray) ?_
 simp only [Z0, Z6]
 refine hLk _ fun w7 M => ?_
 refine sTs (segs' := [(0, [.int .u64 7640891576956012808, .int .u64 13503953896175478587, .int .u64 4354685564936845355, .int .u64 11912009170470909681, .int .u64 5840696475078001361, .int .u64 11170449401992604703, .int .u64 2270897969802886507, .int .u64 6620516959819538809]), (8, [.string { data := #[] }]), (9, [.int .u64 0])]) 0 fun w8 M => ?_
 refine lZ k5 ?_; refine rt ?_
 refine bodyPost_ret (v := .agg ([.int .u64 7640891576956012808, .int .u64 13503953896175478587, .int .u64 4354685564936845355, .int .u64 11912009170470909681, .int .u64 5840696475078001361, .int .u64 11170449401992604703, .int .u64 2270897969802886507, .int .u64 6620516959819538809] ++ [.string { data := #[] }] ++ [.int .u64 0] : List Value).toArray) (res1 rfl (.cell (by rfl) (run_loadVar_mid _ _ _ _ ([.int .u64 7640891576956012808, .int .u64 13503953896175478587, .int .u64 4354685564936845355, .int .u64 11912009170470909681, .int .u64 5840696475078001361, .int .u64 11170449401992604703, .int .u64 2270897969802886507, .int .u64 6620516959819538809] ++ [.string { data := #[] }] ++ [.int .u64 0]) _ (range_join (range_join (M.r 0 0 rfl rfl) (M.r 0 1 rfl rfl) (by simp [flen])) (M.r 0 2 rfl rfl) (by simp [flen])) Tryd.underlying171 rfl info171))) rfl ?_
 exact ⟨rfl, M.below⟩
set_option maxHeartbeats 2000000 in
theorem sum_cq {ps : List (List UInt8)} {g0 cg0 : Nat} {w : World} (hq : ps.length ≤ 4611686018427387904) (hp : ∀ k, (ps.getD k []).length ≤ 9223372036854775680) (L2 : 2 < w.heap.size) (R2_0 : w.rangeAt 2 0 kcellsq) (hcg0 : ps.length ≤ cg0) (Lg0 : g0 < w.heap.size) (Rg0_0 : w.rangeAt g0 0 (scells ps)) :
  Calls Tryd.prog 82 #[.slice (some ⟨g0, 0, none⟩) ps.length cg0] w fun e w' => e = .returned (.string (bs (shaq ps.flatten))) ∧ Below w.heap.size w w' := by
 go_enter Tryd.func82, Tryd.ntmps82
 have M := Mem.start w
 refine qS fun _ k1 => ?_
 refine lg ?_; refine lZ k1 ?_
 refine qS fun _ k3 => ?_
 refine cM 2 fun Lk hLk => ?_
 refine vC (fun W => new_cq) ?_
 refine vGk (v := .agg ([.int .u64 H0q.a, .int .u64 H0q.b, .int .u64 H0q.c, .int .u64 H0q.d, .int .u64 H0q.e, .int .u64 H0q.f, .int .u64 H0q.g, .int .u64 H0q.h] ++ [.string (bs [])] ++ [.int .u64 (0 : Nat)] : List Value).toArray) ?_
 simp only [Z0, Z6]
 refine hLk _ fun w5 M => ?_
 refine nVs (segs := [(0, [.int .u64 H0q.a, .int .u64 H0q.b, .int .u64 H0q.c, .int .u64 H0q.d, .int .u64 H0q.e, .int .u64 H0q.f, .int .u64 H0q.g, .int .u64 H0q.h]), (8, [.string (bs [])]), (9, [.int .u64 (0 : Nat)])]) 10 fun g6 w7 M => ?_
 refine lg ?_; refine lZ k3 ?_
 refine sk fun _ k8 => ?_
 refine qS fun _ k9 => ?_
 refine lM ?_
 refine cM 1 fun Lk hLk => ?_
 refine wpV_lenA (n := ps.length) (by rfl) rfl rfl rfl U937 ?_
 simp only [Z0, Z6]
 refine hLk _ fun w11 M => ?_
 refine lM ?_; refine lZ k9 ?_; refine wp_block ?_
 replace M := M.read (segs' := [(0, [.int .u64 ((takeHq H0q (ps.take 0).flatten).a : Nat), .int .u64 ((takeHq H0q (ps.take 0).flatten).b : Nat), .int .u64 ((takeHq H0q (ps.take 0).flatten).c : Nat), .int .u64 ((takeHq H0q (ps.take 0).flatten).d : Nat), .int .u64 ((takeHq H0q (ps.take 0).flatten).e : Nat), .int .u64 ((takeHq H0q (ps.take 0).flatten).f : Nat), .int .u64 ((takeHq H0q (ps.take 0).flatten).g : Nat), .int .u64 ((takeHq H0q (ps.take 0).flatten).h : Nat)]), (8, [.string (bs (takeRq (ps.take 0).flatten))]), (9, [.int .u64 (((ps.take 0).flatten.length % 18446744073709551616) : Nat)])]) 0 rfl (segs3 (by rw [show (ps.take 0).flatten = [] from rfl, take_zeroq.1]; exact (M.r 0 0 rfl rfl)) (by rw [show (ps.take 0).flatten = [] from rfl, take_zeroq.2]; exact (M.r 0 1 rfl rfl)) (by rw [show (ps.take 0).flatten = [] from rfl]; exact (M.r 0 2 rfl rfl)))
 simp only [Z6] at M
 refine wp_loop_ghost (fun n9 a9 W9 => ∃ (k : Nat) (u12_5 u12_12 u12_13 u12_14 u12_15 u12_16 u12_17 u12_18 : Value), n9 = ps.length - k ∧ a9 = { tmps := #[.slice (some ⟨g0, 0, none⟩) ps.length cg0, Z9, .string (bs ([])), .pointer (some ⟨g6, 0, none⟩), Z9, u12_5, .agg ([.int .u64 H0q.a, .int .u64 H0q.b, .int .u64 H0q.c, .int .u64 H0q.d, .int .u64 H0q.e, .int .u64 H0q.f, .int .u64 H0q.g, .int .u64 H0q.h] ++ [.string (bs [])] ++ [.int .u64 (0 : Nat)] : List Value).toArray, .agg ([.int .u64 H0q.a, .int .u64 H0q.b, .int .u64 H0q.c, .int .u64 H0q.d, .int .u64 H0q.e, .int .u64 H0q.f, .int .u64 H0q.g, .int .u64 H0q.h] ++ [.string (bs [])] ++ [.int .u64 (0 : Nat)] : List Value).toArray, .pointer (some ⟨g6, 0, none⟩), .slice (some ⟨g0, 0, none⟩) ps.length cg0, .int .i64 ps.length, .int .i64 k, u12_12, u12_13, u12_14, u12_15, u12_16, u12_17, u12_18, Z9, Z9], defers := [] } ∧ Mem [] w W9 [⟨g6, 10, [(0, [.int .u64 ((takeHq H0q (ps.take k).flatten).a : Nat), .int .u64 ((takeHq H0q (ps.take k).flatten).b : Nat), .int .u64 ((takeHq H0q (ps.take k).flatten).c : Nat), .int .u64 ((takeHq H0q (ps.take k).flatten).d : Nat), .int .u64 ((takeHq H0q (ps.take k).flatten).e : Nat), .int .u64 ((takeHq H0q (ps.take k).flatten).f : Nat), .int .u64 ((takeHq H0q (ps.take k).flatten).g : Nat), .int .u64 ((takeHq H0q (ps.take k).flatten).h : Nat)]), (8, [.string (bs (takeRq (ps.take k).flatten))]), (9, [.int .u64 (((ps.take k).flatten.length % 18446744073709551616) : Nat)])]⟩] ∧ (k ≤ ps.length)) (ps.length - (0)) ?_ (fun n9 a9 W9 hI => ?_)
 ·
  exact ⟨0, _, _, _, _, _, _, _, _, rfl, rfl, M, (by omega)⟩
 clear M
 obtain ⟨k, u12_5, u12_12, u12_13, u12_14, u12_15, u12_16, u12_17, u12_18, rfl, rfl, M, hk4⟩ := hI
 obtain ⟨w13, rfl⟩ : ∃ W8, W8 = W9 := ⟨_, rfl⟩
 refine qS fun _ k14 => ?_
 refine cM 1 fun Lk hLk => ?_
 refine vB (v := .bool (decide (k < ps.length))) (hr := run_lssN k ps.length _ _) ?_
 refine hLk _ fun w16 M => ?_
 refine lZ k14 ?_
 refine sk fun _ k17 => ?_
 cases hc18 : (decide (k < ps.length))
 ·
  have ek : k = ps.length := by have := of_decide_eq_false hc18; omega
  subst ek
  refine cF ?_; refine eZ k8 ?_
  refine qS fun _ k19 => ?_
  refine lM ?_
  refine wpL_callM (f := 124) (args := #[.pointer (some ⟨g6, 0, none⟩)]) (R := fun v9 W9 => v9 = .string (bs (endLq (takeHq H0q (ps.take ps.length).flatten) (takeRq (ps.take ps.length).flatten) ((ps.take ps.length).flatten.length % 18446744073709551616))) ∧ Mem [g6] w16 W9 [⟨g6, 10, []⟩]) (by rfl) (by rfl) rfl Tryd.func124 (by kernel_rfl) (by kernel_rfl) (end_cq (h := (takeHq H0q (ps.take ps.length).flatten)) (b := (takeRq (ps.take ps.length).flatten)) (n := ((ps.take ps.length).flatten.length % 18446744073709551616)) (takeH_okq _ _ _ (Nat.le_refl _) H0_okq) (takeR_lenq _) (mod_lt64 _) (mem_neKq M 0 rfl L2) (M.oldL L2) (M.oldR R2_0 L2) (M.one 0 rfl)) (fun v9 w21 h9 => ?_)
  obtain ⟨rfl, M9⟩ := h9
  replace M := M.callM1 0 rfl M9
  simp only [Z6] at M
  simp only [Z0, Z6]
  refine lg ?_; refine lZ k19 ?_; refine rt1 ?_
  have BE := M.below
  exact ⟨by (rw [sha_flatq]; try rfl), BE⟩
 have hk : k < ps.length := of_decide_eq_true hc18
 refine cT ?_; refine sZ k17 ?_
 refine sk fun _ k22 => ?_
 refine wp_block ?_
 refine qS fun _ k23 => ?_
 refine cM 2 fun Lk hLk => ?_
 refine wpV_idxs (n := k) (by rfl) rfl rfl rfl U937 info9 (by omega) ?_
 simp only [Z2]
 simp only [Z0, Z6]
 refine vQ (v := .string (bs (ps.getD k []))) (hc := (zadd ((M.oldR Rg0_0 Lg0) _ _ (scells_get (ps := ps) (by omega))))) (hb := (M.oldL Lg0)) ?_
 refine hLk _ fun w25 M => ?_
 refine lg ?_; refine lZ k23 ?_; refine Z13 ?_; refine lM ?_; refine lM ?_
 refine wpL_callM (f := 123) (args := #[.pointer (some ⟨g6, 0, none⟩), .string (bs (ps.getD k []))]) (R := fun v9 W9 => v9 = .tuple #[] ∧ Mem [g6] w25 W9 [⟨g6, 10, [(0, [.int .u64 (((takeHq (takeHq H0q (ps.take k).flatten) ((takeRq (ps.take k).flatten) ++ (ps.getD k []))).a : Nat) : Int), .int .u64 (((takeHq (takeHq H0q (ps.take k).flatten) ((takeRq (ps.take k).flatten) ++ (ps.getD k []))).b : Nat) : Int), .int .u64 (((takeHq (takeHq H0q (ps.take k).flatten) ((takeRq (ps.take k).flatten) ++ (ps.getD k []))).c : Nat) : Int), .int .u64 (((takeHq (takeHq H0q (ps.take k).flatten) ((takeRq (ps.take k).flatten) ++ (ps.getD k []))).d : Nat) : Int), .int .u64 (((takeHq (takeHq H0q (ps.take k).flatten) ((takeRq (ps.take k).flatten) ++ (ps.getD k []))).e : Nat) : Int), .int .u64 (((takeHq (takeHq H0q (ps.take k).flatten) ((takeRq (ps.take k).flatten) ++ (ps.getD k []))).f : Nat) : Int), .int .u64 (((takeHq (takeHq H0q (ps.take k).flatten) ((takeRq (ps.take k).flatten) ++ (ps.getD k []))).g : Nat) : Int), .int .u64 (((takeHq (takeHq H0q (ps.take k).flatten) ((takeRq (ps.take k).flatten) ++ (ps.getD k []))).h : Nat) : Int)]), (8, [.string (bs (takeRq ((takeRq (ps.take k).flatten) ++ (ps.getD k []))))]), (9, [.int .u64 ((((((ps.take k).flatten.length % 18446744073709551616) + (ps.getD k []).length) % 18446744073709551616) : Nat) : Int)])]⟩]) (by rfl) (by rfl) rfl Tryd.func123 (by kernel_rfl) (by kernel_rfl) (take_cq (h := (takeHq H0q (ps.take k).flatten)) (b := (takeRq (ps.take k).flatten)) (l := (ps.getD k [])) (n := ((ps.take k).flatten.length % 18446744073709551616)) (takeH_okq _ _ _ (Nat.le_refl _) H0_okq) (takeR_lenq _) (hp k) (mem_neKq M 0 rfl L2) (M.oldL L2) (M.oldR R2_0 L2) (M.one 0 rfl)) (fun v9 w27 h9 => ?_)
 obtain ⟨rfl, M9⟩ := h9
 replace M := M.callM1 0 rfl M9
 simp only [Z6] at M
 simp only [Z0, Z6]
 refine Z14 (Z15 ?_)
 rw [← takeH_appendq, ← takeR_appendq, len_step, flat_step hk] at M
 refine k22 _ _ ?_; refine Z13 ?_
 refine cM 1 fun Lk hLk => ?_
 refine vB (v := .int .i64 (k + 1 : Nat)) (hr := run_add (by simp only [IntKind.wrap_i64]; omega)) ?_
 refine hLk _ fun w29 M => ?_
 refine lM ?_
 refine Z14 (Z15 ?_)
 refine Exists.intro _ ⟨?_, (k + 1), _, _, _, _, _, _, _, _, rfl, rfl, M, (by omega)⟩
 omega
end Go.Proofs.Yc

