import Derived.WalkKit
import Derived.WalkSpells
import Derived.Laws.Pointers
import Derived.RowKit3
import Derived.Below
import Derived.Outline
import Derived.LoopN
import Derived.Lib.Hide
import Derived.Handy
import Derived.Laws.Bits64b
import Derived.Test.YtpgpjoldelobdaaDoorPtK
import Derived.Test.YtpgpjoldelobdaaDoorAdds2
import Derived.Test.YtpgpjoldelobdaaDoorShq
import Derived.Shelf.Strings.Builder1
import Derived.Shelf.Strings.Builder2
import Derived.Shelf.Small.Bits
import Derived.Shelf.Small.Strs
import Derived.Shelf.Strings.BuilderF
import Derived.Shelf.Strconv.Itoa0
import Derived.Shelf.Strings.Search1
import Derived.Shelf.Strings.Prefix
import Derived.Shelf.Bits.Mul64
import Derived.Shelf.Strings.Repeat
import Derived.Test.YtpgpjoldelobdaaDoorProg
set_option linter.unusedSimpArgs false
set_option linter.unusedVariables false
namespace Go.Proofs.Yc
open Go Go.RowKit Go.Proofs.Num

attribute [local irreducible] wpV wpN wpList
open Go.Proofs.Ya
theorem run_andNot {P : Program} {T : TypeId} {k : IntKind} {m n e : Int} (h : bits .andNot k m n = e) (W : World) : (binOp .andNot T (.int k m) (.int k n)).run P W = .ok (.int k e) W := by subst h; simp [binOp, go_sem]
theorem andNot_fin : ∀ b : Fin 256, bits .andNot .u8 (b.val : Int) 128 = ((b.val % 128 : Nat) : Int) := by decide +kernel
theorem andNot_128 {b : Nat} (h : b < 256) : bits .andNot .u8 (b : Int) 128 = ((b % 128 : Nat) : Int) := andNot_fin ⟨b, h⟩
end Go.Proofs.Yc

namespace Go.Proofs.Yc
open Go Go.RowKit Go.Proofs.Num

theorem info9 : (Tryd.prog.info? 9).map (·.size) = some 1 := by kernel_rfl
theorem info33 : (Tryd.prog.info? 33).map (·.size) = some 4 := by kernel_rfl
theorem info129 : (Tryd.prog.info? 129).map (·.size) = some 8 := by kernel_rfl
theorem info147 : (Tryd.prog.info? 147).map (·.size) = some 1 := by kernel_rfl
theorem info152 : (Tryd.prog.info? 152).map (·.size) = some 8 := by kernel_rfl
theorem info154 : (Tryd.prog.info? 154).map (·.size) = some 10 := by kernel_rfl
theorem info171 : (Tryd.prog.info? 171).map (·.size) = some 10 := by kernel_rfl
theorem info196 : (Tryd.prog.info? 196).map (·.size) = some 64 := by kernel_rfl
theorem info201 : (Tryd.prog.info? 201).map (·.size) = some 80 := by kernel_rfl
end Go.Proofs.Yc

namespace Go.Proofs.Yc
open Go Go.RowKit Go.Proofs.Num
open Tryd renaming func160 → G9160, underlying201 → U9201, underlying40 → U940, underlying5 → U95, underlying9 → U99
open Go.Proofs.Num  renaming putT → Z0
open Nat renaming zero_add → Z2, mod_eq_of_lt → Z5
open List renaming set → Z6, take → Z7, drop → Z8
open Go renaming undef → Z9, wp_seq_k → Z10, wp_cond_true → Z11, wp_cond_false → Z12
open Go.Proofs.Num renaming wp_region_seq → Z13, wpL_nil → Z14, no_panic → Z15, wpV_nil → Z19, then_normal → Z22, wpV_callf → Z25, wpN_skip → Z28, wpN_nil → Z29, wpV_load1 → Z34, wpL_var → Z36
attribute [local irreducible] wpV wpN wpList
open Go.Proofs.Ya
theorem rotl_wrapq {n : Nat} (h1 : 1 ≤ n) (h2 : n ≤ 63) : IntKind.u64.wrap (-((n : Nat) : Int)) = ((18446744073709551616 - n : Nat) : Int) := by
 rw [IntKind.wrap_u64]; omega
theorem rotl_andq {n : Nat} (h1 : 1 ≤ n) (h2 : n ≤ 63) : bits .and .u64 ((18446744073709551616 - n : Nat) : Int) 63 = ((64 - n : Nat) : Int) := by
 have h := bits_and_u64_nat (18446744073709551616 - n) 63 (by omega) (by decide)
 refine h.trans ?_
 rw [show (63 : Nat) = 2 ^ 6 - 1 by decide, Nat.and_two_pow_sub_one_eq_mod]
 omega
theorem or8q {a b : Nat} (ha : a < 72057594037927936) (hb : b < 256) : bits .or .u64 ((a * 256 : Nat) : Int) ((b : Nat) : Int) = ((a * 256 + b : Nat) : Int) := by
 have h1 := toNat_of (n := 64) (a := a * 256) (Nat.lt_of_lt_of_eq (by omega : a * 256 < 18446744073709551616) (by decide))
 have h2 := toNat_of (n := 64) (a := b) (show b < 18446744073709551616 by omega)
 have h : a * 256 + b < 2 ^ 64 := by omega
 show IntKind.wrap .u64 ((BitVec.ofInt 64 ((a * 256 : Nat) : Int) ||| BitVec.ofInt 64 ((b : Nat) : Int)).toNat : Int) = _
 rw [BitVec.toNat_or, h1, h2, show a * 256 ||| b = a * 256 + b by have := Nat.shiftLeft_add_eq_or_of_lt (i := 8) (b := b) (by omega) a; rw [Nat.shiftLeft_eq, show (2 : Nat) ^ 8 = 256 by decide] at this; exact this.symm, wrap64N, Z5 h]
set_option maxHeartbeats 1000000 in
theorem rotl_cq {x n : Nat} {w : World} (hx : x < 18446744073709551616) (hn1 : 1 ≤ n) (hn2 : n ≤ 63) :
  Calls Tryd.prog 160 #[.int .u64 x, .int .i64 (-((n : Nat) : Int))] w fun e w' => e = .returned (.int .u64 (rotrq x n : Nat)) ∧ Below w.heap.size w w' := by
 go_enter G9160, Tryd.ntmps160
 have M := Mem.start w
 refine Z10 (fun K1 hK1 => Z13 ?_)
 refine lAs (v := .int .u64 0) ?_
 simp only [Z0, Z6]
 refine lNp (hK1 _ _ ?_)
 refine Z10 (fun K3 hK3 => Z13 ?_)
 refine lMv (v := .int .i64 (-((n : Nat) : Int))) ?_
 simp only [Z0, Z6]
 refine lCh 2 (fun Lk hLk => ?_)
 refine wpV_conv (d := .bool) (e := ((18446744073709551616 - n : Nat) : Int)) (by rfl) rfl rfl (run_conv_int Tryd.underlying3 Tryd.underlying99 (rotl_wrapq hn1 hn2)) ?_
 simp only [Z0, Z6]
 refine vBn (v := .int .u64 (64 - n : Nat)) (hr := fun W => run_and (rotl_andq hn1 hn2) W) ?_
 simp only [Z0, Z6]
 refine Z19 (hLk _ (fun w5 Sw5 => ?_))
 simp only [Z7, Z8]
 replace M := M.sees Sw5
 refine lAs (v := .int .u64 (64 - n : Nat)) ?_
 simp only [Z0, Z6]
 refine lNp (hK3 _ _ ?_)
 refine Z10 (fun K6 hK6 => Z13 ?_)
 refine lMv (v := .int .u64 x) ?_
 refine lMv (v := .int .u64 (64 - n : Nat)) ?_
 simp only [Z0, Z6]
 refine lCh 6 (fun Lk hLk => ?_)
 refine vBn (v := .int .u64 (x * 2 ^ (64 - n) % 18446744073709551616 : Nat)) (hr := fun W => nr_shl64 (x := x) (n := 64 - n) (by omega) W) ?_
 simp only [Z0, Z6]
 refine vMv (v := .int .u64 x) ?_
 simp only [Z0, Z6]
 refine vMv (v := .int .u64 (64 - n : Nat)) ?_
 simp only [Z0, Z6]
 refine vBn (v := .int .u64 (64 - (64 - n) : Nat)) (hr := fun W => nr_sub64 (x := 64) (y := 64 - n) (by omega) (by decide) W) ?_
 simp only [Z0, Z6]
 refine vBn (v := .int .u64 (x / 2 ^ (64 - (64 - n)) : Nat)) (hr := fun W => nr_shr64 (x := x) (n := 64 - (64 - n)) (by omega) W) ?_
 simp only [Z0, Z6]
 refine vBn (v := .int .u64 (((x * 2 ^ (64 - n) % 18446744073709551616) ||| (x / 2 ^ (64 - (64 - n))) : Nat) : Int)) (hr := fun W => nr_or64 (x := x * 2 ^ (64 - n) % 18446744073709551616) (y := x / 2 ^ (64 - (64 - n))) (mod_lt64 _) (div_lt64 _ hx) W) ?_
 simp only [Z0, Z6]
 refine Z19 (hLk _ (fun w8 Sw8 => ?_))
 simp only [Z7, Z8]
 replace M := M.sees Sw8
 refine lAs (v := .int .u64 (((x * 2 ^ (64 - n) % 18446744073709551616) ||| (x / 2 ^ (64 - (64 - n))) : Nat) : Int)) ?_
 simp only [Z0, Z6]
 refine lNp (hK6 _ _ ?_)
 refine wp_ret ?_
 repeat (first | with_reducible refine then_ret ?_ | with_reducible refine inblock_ret ?_)
 refine bodyPost_ret (v := .int .u64 (((x * 2 ^ (64 - n) % 18446744073709551616) ||| (x / 2 ^ (64 - (64 - n))) : Nat) : Int)) (res1 rfl (.tmp (by rfl))) rfl ?_
 have BE := M.below
 exact ⟨by rw [show 64 - (64 - n) = n by omega, rotr_orq hx (by omega)], BE⟩
set_option maxHeartbeats 1000000 in
theorem read_cq {l : List UInt8} {w : World} (hl : 8 ≤ l.length) :
  Calls Tryd.prog 162 #[.string (bs l)] w fun e w' => e = .returned (.int .u64 (be4q l 0 : Nat)) ∧ Below w.heap.size w w' := by
 go_enter Tryd.func162, Tryd.ntmps162
 have M := Mem.start w
 refine Z10 (fun K1 hK1 => Z13 ?_)
 refine lAs (v := .int .u64 0) ?_
 simp only [Z0, Z6]
 refine lNp (hK1 _ _ ?_)
 refine Z10 (fun K3 hK3 => Z13 ?_)
 refine lAs (v := .int .u64 0) ?_
 simp only [Z0, Z6]
 refine lNp (hK3 _ _ ?_)
 refine Z10 (fun K5 hK5 => ?_)
 refine Z10 (fun K6 hK6 => Z13 ?_)
 refine lMv (v := .int .i64 0) ?_
 simp only [Z0, Z6]
 refine lNp (hK6 _ _ ?_)
 refine wp_block ?_
 refine wp_loop_rounds 9 ?_
 rw [rounds_succ]
 refine Z10 (fun K8 hK8 => Z13 ?_)
 refine lCh 1 (fun Lk hLk => ?_)
 refine vBn (v := .bool true) (hr := fun W => run_lss _ _ _ _ W) ?_
 simp only [Z0, Z6]
 refine Z19 (hLk _ (fun w10 Sw10 => ?_))
 simp only [Z7, Z8]
 replace M := M.sees Sw10
 refine lNp (hK8 _ _ ?_)
 refine Z10 (fun K11 hK11 => ?_)
 refine Z11 rfl ?_
 refine wp_skip ?_
 refine hK11 _ _ ?_
 refine Z10 (fun K12 hK12 => ?_)
 refine wp_block ?_
 refine Z10 (fun K13 hK13 => Z13 ?_)
 refine lMv (v := .int .i64 0) ?_
 refine lAs (v := .int .i64 0) ?_
 simp only [Z0, Z6]
 refine lNp (hK13 _ _ ?_)
 refine Z13 ?_
 refine lMv (v := .int .u64 0) ?_
 simp only [Z0, Z6]
 refine lCh 6 (fun Lk hLk => ?_)
 refine vBn (v := .int .u64 (0 * 256 : Nat)) (hr := fun W => run_shl (m := 0) (n := 8) (by decide) ((wrap64N _).trans (congrArg _ (by have := byteN_lt l 0; have := byteN_lt l 1; have := byteN_lt l 2; have := byteN_lt l 3; have := byteN_lt l 4; have := byteN_lt l 5; have := byteN_lt l 6; omega))) W) ?_
 simp only [Z0, Z6]
 refine vMv (v := .string (bs l)) ?_
 simp only [Z0, Z6]
 refine vMv (v := .int .i64 0) ?_
 simp only [Z0, Z6]
 refine wpV_indexb (n := 0) (by omega) (by rfl) rfl rfl rfl U99 ?_
 simp only [Z0, Z6]
 refine wpV_conv (d := .bool) (e := ((byteN l 0 : Nat) : Int)) (by rfl) rfl rfl (run_conv_int U95 U940 (by have := (byteN_lt l 0); rw [wrap_u64]; omega)) ?_
 simp only [Z0, Z6]
 refine vBn (v := .int .u64 (byteN l 0 : Nat)) (hr := fun W => run_or ((or8q (a := 0) (b := byteN l 0) (by decide) (byteN_lt l 0)).trans (by rw [Nat.zero_mul, Z2])) W) ?_
 simp only [Z0, Z6]
 refine Z19 (hLk _ (fun w16 Sw16 => ?_))
 simp only [Z7, Z8]
 replace M := M.sees Sw16
 refine lAs (v := .int .u64 (byteN l 0 : Nat)) ?_
 simp only [Z0, Z6]
 refine lNp (hK12 _ _ ?_)
 refine Z13 ?_
 refine lCh 1 (fun Lk hLk => ?_)
 refine vBn (v := .int .i64 1) (hr := fun W => run_add (by decide) W) ?_
 simp only [Z0, Z6]
 refine Z19 (hLk _ (fun w18 Sw18 => ?_))
 simp only [Z7, Z8]
 replace M := M.sees Sw18
 refine lMv (v := .int .i64 1) ?_
 simp only [Z0, Z6]
 refine Z14 (Z15 ?_)
 refine Z22 (Q := fun _ _ _ => True) ?_
 rw [rounds_succ]
 refine Z10 (fun K19 hK19 => Z13 ?_)
 refine lCh 1 (fun Lk hLk => ?_)
 refine vBn (v := .bool true) (hr := fun W => run_lss _ _ _ _ W) ?_
 simp only [Z0, Z6]
 refine Z19 (hLk _ (fun w21 Sw21 => ?_))
 simp only [Z7, Z8]
 replace M := M.sees Sw21
 refine lNp (hK19 _ _ ?_)
 refine Z10 (fun K22 hK22 => ?_)
 refine Z11 rfl ?_
 refine wp_skip ?_
 refine hK22 _ _ ?_
 refine Z10 (fun K23 hK23 => ?_)
 refine wp_block ?_
 refine Z10 (fun K24 hK24 => Z13 ?_)
 refine lMv (v := .int .i64 1) ?_
 refine lAs (v := .int .i64 1) ?_
 simp only [Z0, Z6]
 refine lNp (hK24 _ _ ?_)
 refine Z13 ?_
 refine lMv (v := .int .u64 (byteN l 0 : Nat)) ?_
 simp only [Z0, Z6]
 refine lCh 6 (fun Lk hLk => ?_)
 refine vBn (v := .int .u64 ((byteN l 0) * 256 : Nat)) (hr := fun W => run_shl (m := byteN l 0) (n := 8) (by decide) ((wrap64N _).trans (congrArg _ (by have := byteN_lt l 0; have := byteN_lt l 1; have := byteN_lt l 2; have := byteN_lt l 3; have := byteN_lt l 4; have := byteN_lt l 5; have := byteN_lt l 6; omega))) W) ?_
 simp only [Z0, Z6]
 refine vMv (v := .string (bs l)) ?_
 simp only [Z0, Z6]
 refine vMv (v := .int .i64 1) ?_
 simp only [Z0, Z6]
 refine wpV_indexb (n := 1) (by omega) (by rfl) rfl rfl rfl U99 ?_
 simp only [Z0, Z6]
 refine wpV_conv (d := .bool) (e := ((byteN l 1 : Nat) : Int)) (by rfl) rfl rfl (run_conv_int U95 U940 (by have := (byteN_lt l 1); rw [wrap_u64]; omega)) ?_
 simp only [Z0, Z6]
 refine vBn (v := .int .u64 (byteN l 0 * 256 + byteN l 1 : Nat)) (hr := fun W => run_or (or8q (a := byteN l 0) (b := byteN l 1) (by have := byteN_lt l 0; have := byteN_lt l 1; have := byteN_lt l 2; have := byteN_lt l 3; have := byteN_lt l 4; have := byteN_lt l 5; have := byteN_lt l 6; omega) (byteN_lt l 1)) W) ?_
 simp only [Z0, Z6]
 refine Z19 (hLk _ (fun w27 Sw27 => ?_))
 simp only [Z7, Z8]
 replace M := M.sees Sw27
 refine lAs (v := .int .u64 (byteN l 0 * 256 + byteN l 1 : Nat)) ?_
 simp only [Z0, Z6]
 refine lNp (hK23 _ _ ?_)
 refine Z13 ?_
 refine lCh 1 (fun Lk hLk => ?_)
 refine vBn (v := .int .i64 2) (hr := fun W => run_add (by decide) W) ?_
 simp only [Z0, Z6]
 refine Z19 (hLk _ (fun w29 Sw29 => ?_))
 simp only [Z7, Z8]
 replace M := M.sees Sw29
 refine lMv (v := .int .i64 2) ?_
 simp only [Z0, Z6]
 refine Z14 (Z15 ?_)
 refine Z22 (Q := fun _ _ _ => True) ?_
 rw [rounds_succ]
 refine Z10 (fun K30 hK30 => Z13 ?_)
 refine lCh 1 (fun Lk hLk => ?_)
 refine vBn (v := .bool true) (hr := fun W => run_lss _ _ _ _ W) ?_
 simp only [Z0, Z6]
 refine Z19 (hLk _ (fun w32 Sw32 => ?_))
 simp only [Z7, Z8]
 replace M := M.sees Sw32
 refine lNp (hK30 _ _ ?_)
 refine Z10 (fun K33 hK33 => ?_)
 refine Z11 rfl ?_
 refine wp_skip ?_
 refine hK33 _ _ ?_
 refine Z10 (fun K34 hK34 => ?_)
 refine wp_block ?_
 refine Z10 (fun K35 hK35 => Z13 ?_)
 refine lMv (v := .int .i64 2) ?_
 refine lAs (v := .int .i64 2) ?_
 simp only [Z0, Z6]
 refine lNp (hK35 _ _ ?_)
 refine Z13 ?_
 refine lMv (v := .int .u64 (byteN l 0 * 256 + byteN l 1 : Nat)) ?_
 simp only [Z0, Z6]
 refine lCh 6 (fun Lk hLk => ?_)
 refine vBn (v := .int .u64 ((byteN l 0 * 256 + byteN l 1) * 256 : Nat)) (hr := fun W => run_shl (m := byteN l 0 * 256 + byteN l 1) (n := 8) (by decide) ((wrap64N _).trans (congrArg _ (by have := byteN_lt l 0; have := byteN_lt l 1; have := byteN_lt l 2; have := byteN_lt l 3; have := byteN_lt l 4; have := byteN_lt l 5; have := byteN_lt l 6; omega))) W) ?_
 simp only [Z0, Z6]
 refine vMv (v := .string (bs l)) ?_
 simp only [Z0, Z6]
 refine vMv (v := .int .i64 2) ?_
 simp only [Z0, Z6]
 refine wpV_indexb (n := 2) (by omega) (by rfl) rfl rfl rfl U99 ?_
 simp only [Z0, Z6]
 refine wpV_conv (d := .bool) (e := ((byteN l 2 : Nat) : Int)) (by rfl) rfl rfl (run_conv_int U95 U940 (by have := (byteN_lt l 2); rw [wrap_u64]; omega)) ?_
 simp only [Z0, Z6]
 refine vBn (v := .int .u64 ((byteN l 0 * 256 + byteN l 1) * 256 + byteN l 2 : Nat)) (hr := fun W => run_or (or8q (a := byteN l 0 * 256 + byteN l 1) (b := byteN l 2) (by have := byteN_lt l 0; have := byteN_lt l 1; have := byteN_lt l 2; have := byteN_lt l 3; have := byteN_lt l 4; have := byteN_lt l 5; have := byteN_lt l 6; omega) (byteN_lt l 2)) W) ?_
 simp only [Z0, Z6]
 refine Z19 (hLk _ (fun w38 Sw38 => ?_))
 simp only [Z7, Z8]
 replace M := M.sees Sw38
 refine lAs (v := .int .u64 ((byteN l 0 * 256 + byteN l 1) * 256 + byteN l 2 : Nat)) ?_
 simp only [Z0, Z6]
 refine lNp (hK34 _ _ ?_)
 refine Z13 ?_
 refine lCh 1 (fun Lk hLk => ?_)
 refine vBn (v := .int .i64 3) (hr := fun W => run_add (by decide) W) ?_
 simp only [Z0, Z6]
 refine Z19 (hLk _ (fun w40 Sw40 => ?_))
 simp only [Z7, Z8]
 replace M := M.sees Sw40
 refine lMv (v := .int .i64 3) ?_
 simp only [Z0, Z6]
 refine Z14 (Z15 ?_)
 refine Z22 (Q := fun _ _ _ => True) ?_
 rw [rounds_succ]
 refine Z10 (fun K41 hK41 => Z13 ?_)
 refine lCh 1 (fun Lk hLk => ?_)
 refine vBn (v := .bool true) (hr := fun W => run_lss _ _ _ _ W) ?_
 simp only [Z0, Z6]
 refine Z19 (hLk _ (fun w43 Sw43 => ?_))
 simp only [Z7, Z8]
 replace M := M.sees Sw43
 refine lNp (hK41 _ _ ?_)
 refine Z10 (fun K44 hK44 => ?_)
 refine Z11 rfl ?_
 refine wp_skip ?_
 refine hK44 _ _ ?_
 refine Z10 (fun K45 hK45 => ?_)
 refine wp_block ?_
 refine Z10 (fun K46 hK46 => Z13 ?_)
 refine lMv (v := .int .i64 3) ?_
 refine lAs (v := .int .i64 3) ?_
 simp only [Z0, Z6]
 refine lNp (hK46 _ _ ?_)
 refine Z13 ?_
 refine lMv (v := .int .u64 ((byteN l 0 * 256 + byteN l 1) * 256 + byteN l 2 : Nat)) ?_
 simp only [Z0, Z6]
 refine lCh 6 (fun Lk hLk => ?_)
 refine vBn (v := .int .u64 (((byteN l 0 * 256 + byteN l 1) * 256 + byteN l 2) * 256 : Nat)) (hr := fun W => run_shl (m := (byteN l 0 * 256 + byteN l 1) * 256 + byteN l 2) (n := 8) (by decide) ((wrap64N _).trans (congrArg _ (by have := byteN_lt l 0; have := byteN_lt l 1; have := byteN_lt l 2; have := byteN_lt l 3; have := byteN_lt l 4; have := byteN_lt l 5; have := byteN_lt l 6; omega))) W) ?_
 simp only [Z0, Z6]
 refine vMv (v := .string (bs l)) ?_
 simp only [Z0, Z6]
 refine vMv (v := .int .i64 3) ?_
 simp only [Z0, Z6]
 refine wpV_indexb (n := 3) (by omega) (by rfl) rfl rfl rfl U99 ?_
 simp only [Z0, Z6]
 refine wpV_conv (d := .bool) (e := ((byteN l 3 : Nat) : Int)) (by rfl) rfl rfl (run_conv_int U95 U940 (by have := (byteN_lt l 3); rw [wrap_u64]; omega)) ?_
 simp only [Z0, Z6]
 refine vBn (v := .int .u64 (((byteN l 0 * 256 + byteN l 1) * 256 + byteN l 2) * 256 + byteN l 3 : Nat)) (hr := fun W => run_or (or8q (a := (byteN l 0 * 256 + byteN l 1) * 256 + byteN l 2) (b := byteN l 3) (by have := byteN_lt l 0; have := byteN_lt l 1; have := byteN_lt l 2; have := byteN_lt l 3; have := byteN_lt l 4; have := byteN_lt l 5; have := byteN_lt l 6; omega) (byteN_lt l 3)) W) ?_
 simp only [Z0, Z6]
 refine Z19 (hLk _ (fun w49 Sw49 => ?_))
 simp only [Z7, Z8]
 replace M := M.sees Sw49
 refine lAs (v := .int .u64 (((byteN l 0 * 256 + byteN l 1) * 256 + byteN l 2) * 256 + byteN l 3 : Nat)) ?_
 simp only [Z0, Z6]
 refine lNp (hK45 _ _ ?_)
 refine Z13 ?_
 refine lCh 1 (fun Lk hLk => ?_)
 refine vBn (v := .int .i64 4) (hr := fun W => run_add (by decide) W) ?_
 simp only [Z0, Z6]
 refine Z19 (hLk _ (fun w51 Sw51 => ?_))
 simp only [Z7, Z8]
 replace M := M.sees Sw51
 refine lMv (v := .int .i64 4) ?_
 simp only [Z0, Z6]
 refine Z14 (Z15 ?_)
 refine Z22 (Q := fun _ _ _ => True) ?_
 rw [rounds_succ]
 refine Z10 (fun K52 hK52 => Z13 ?_)
 refine lCh 1 (fun Lk hLk => ?_)
 refine vBn (v := .bool true) (hr := fun W => run_lss _ _ _ _ W) ?_
 simp only [Z0, Z6]
 refine Z19 (hLk _ (fun w54 Sw54 => ?_))
 simp only [Z7, Z8]
 replace M := M.sees Sw54
 refine lNp (hK52 _ _ ?_)
 refine Z10 (fun K55 hK55 => ?_)
 refine Z11 rfl ?_
 refine wp_skip ?_
 refine hK55 _ _ ?_
 refine Z10 (fun K56 hK56 => ?_)
 refine wp_block ?_
 refine Z10 (fun K57 hK57 => Z13 ?_)
 refine lMv (v := .int .i64 4) ?_
 refine lAs (v := .int .i64 4) ?_
 simp only [Z0, Z6]
 refine lNp (hK57 _ _ ?_)
 refine Z13 ?_
 refine lMv (v := .int .u64 (((byteN l 0 * 256 + byteN l 1) * 256 + byteN l 2) * 256 + byteN l 3 : Nat)) ?_
 simp only [Z0, Z6]
 refine lCh 6 (fun Lk hLk => ?_)
 refine vBn (v := .int .u64 (((((byteN l 0 * 256 + byteN l 1) * 256 + byteN l 2) * 256 + byteN l 3) * 256 : Nat) : Int)) (hr := fun W => run_shl (m := ((byteN l 0 * 256 + byteN l 1) * 256 + byteN l 2) * 256 + byteN l 3) (n := 8) (by decide) ((wrap64N _).trans (congrArg _ (by have := byteN_lt l 0; have := byteN_lt l 1; have := byteN_lt l 2; have := byteN_lt l 3; have := byteN_lt l 4; have := byteN_lt l 5; have := byteN_lt l 6; omega))) W) ?_
 simp only [Z0, Z6]
 refine vMv (v := .string (bs l)) ?_
 simp only [Z0, Z6]
 refine vMv (v := .int .i64 4) ?_
 simp only [Z0, Z6]
 refine wpV_indexb (n := 4) (by omega) (by rfl) rfl rfl rfl U99 ?_
 simp only [Z0, Z6]
 refine wpV_conv (d := .bool) (e := ((byteN l 4 : Nat) : Int)) (by rfl) rfl rfl (run_conv_int U95 U940 (by have := (byteN_lt l 4); rw [wrap_u64]; omega)) ?_
 simp only [Z0, Z6]
 refine vBn (v := .int .u64 (((((byteN l 0 * 256 + byteN l 1) * 256 + byteN l 2) * 256 + byteN l 3) * 256 + byteN l 4 : Nat) : Int)) (hr := fun W => run_or (or8q (a := ((byteN l 0 * 256 + byteN l 1) * 256 + byteN l 2) * 256 + byteN l 3) (b := byteN l 4) (by have := byteN_lt l 0; have := byteN_lt l 1; have := byteN_lt l 2; have := byteN_lt l 3; have := byteN_lt l 4; have := byteN_lt l 5; have := byteN_lt l 6; omega) (byteN_lt l 4)) W) ?_
 simp only [Z0, Z6]
 refine Z19 (hLk _ (fun w60 Sw60 => ?_))
 simp only [Z7, Z8]
 replace M := M.sees Sw60
 refine lAs (v := .int .u64 (((((byteN l 0 * 256 + byteN l 1) * 256 + byteN l 2) * 256 + byteN l 3) * 256 + byteN l 4 : Nat) : Int)) ?_
 simp only [Z0, Z6]
 refine lNp (hK56 _ _ ?_)
 refine Z13 ?_
 refine lCh 1 (fun Lk hLk => ?_)
 refine vBn (v := .int .i64 5) (hr := fun W => run_add (by decide) W) ?_
 simp only [Z0, Z6]
 refine Z19 (hLk _ (fun w62 Sw62 => ?_))
 simp only [Z7, Z8]
 replace M := M.sees Sw62
 refine lMv (v := .int .i64 5) ?_
 simp only [Z0, Z6]
 refine Z14 (Z15 ?_)
 refine Z22 (Q := fun _ _ _ => True) ?_
 rw [rounds_succ]
 refine Z10 (fun K63 hK63 => Z13 ?_)
 refine lCh 1 (fun Lk hLk => ?_)
 refine vBn (v := .bool true) (hr := fun W => run_lss _ _ _ _ W) ?_
 simp only [Z0, Z6]
 refine Z19 (hLk _ (fun w65 Sw65 => ?_))
 simp only [Z7, Z8]
 replace M := M.sees Sw65
 refine lNp (hK63 _ _ ?_)
 refine Z10 (fun K66 hK66 => ?_)
 refine Z11 rfl ?_
 refine wp_skip ?_
 refine hK66 _ _ ?_
 refine Z10 (fun K67 hK67 => ?_)
 refine wp_block ?_
 refine Z10 (fun K68 hK68 => Z13 ?_)
 refine lMv (v := .int .i64 5) ?_
 refine lAs (v := .int .i64 5) ?_
 simp only [Z0, Z6]
 refine lNp (hK68 _ _ ?_)
 refine Z13 ?_
 refine lMv (v := .int .u64 (((((byteN l 0 * 256 + byteN l 1) * 256 + byteN l 2) * 256 + byteN l 3) * 256 + byteN l 4 : Nat) : Int)) ?_
 simp only [Z0, Z6]
 refine lCh 6 (fun Lk hLk => ?_)
 refine vBn (v := .int .u64 ((((((byteN l 0 * 256 + byteN l 1) * 256 + byteN l 2) * 256 + byteN l 3) * 256 + byteN l 4) * 256 : Nat) : Int)) (hr := fun W => run_shl (m := (((byteN l 0 * 256 + byteN l 1) * 256 + byteN l 2) * 256 + byteN l 3) * 256 + byteN l 4) (n := 8) (by decide) ((wrap64N _).trans (congrArg _ (by have := byteN_lt l 0; have := byteN_lt l 1; have := byteN_lt l 2; have := byteN_lt l 3; have := byteN_lt l 4; have := byteN_lt l 5; have := byteN_lt l 6; omega))) W) ?_
 simp only [Z0, Z6]
 refine vMv (v := .string (bs l)) ?_
 simp only [Z0, Z6]
 refine vMv (v := .int .i64 5) ?_
 simp only [Z0, Z6]
 refine wpV_indexb (n := 5) (by omega) (by rfl) rfl rfl rfl U99 ?_
 simp only [Z0, Z6]
 refine wpV_conv (d := .bool) (e := ((byteN l 5 : Nat) : Int)) (by rfl) rfl rfl (run_conv_int U95 U940 (by have := (byteN_lt l 5); rw [wrap_u64]; omega)) ?_
 simp only [Z0, Z6]
 refine vBn (v := .int .u64 ((((((byteN l 0 * 256 + byteN l 1) * 256 + byteN l 2) * 256 + byteN l 3) * 256 + byteN l 4) * 256 + byteN l 5 : Nat) : Int)) (hr := fun W => run_or (or8q (a := (((byteN l 0 * 256 + byteN l 1) * 256 + byteN l 2) * 256 + byteN l 3) * 256 + byteN l 4) (b := byteN l 5) (by have := byteN_lt l 0; have := byteN_lt l 1; have := byteN_lt l 2; have := byteN_lt l 3; have := byteN_lt l 4; have := byteN_lt l 5; have := byteN_lt l 6; omega) (byteN_lt l 5)) W) ?_
 simp only [Z0, Z6]
 refine Z19 (hLk _ (fun w71 Sw71 => ?_))
 simp only [Z7, Z8]
 replace M := M.sees Sw71
 refine lAs (v := .int .u64 ((((((byteN l 0 * 256 + byteN l 1) * 256 + byteN l 2) * 256 + byteN l 3) * 256 + byteN l 4) * 256 + byteN l 5 : Nat) : Int)) ?_
 simp only [Z0, Z6]
 refine lNp (hK67 _ _ ?_)
 refine Z13 ?_
 refine lCh 1 (fun Lk hLk => ?_)
 refine vBn (v := .int .i64 6) (hr := fun W => run_add (by decide) W) ?_
 simp only [Z0, Z6]
 refine Z19 (hLk _ (fun w73 Sw73 => ?_))
 simp only [Z7, Z8]
 replace M := M.sees Sw73
 refine lMv (v := .int .i64 6) ?_
 simp only [Z0, Z6]
 refine Z14 (Z15 ?_)
 refine Z22 (Q := fun _ _ _ => True) ?_
 rw [rounds_succ]
 refine Z10 (fun K74 hK74 => Z13 ?_)
 refine lCh 1 (fun Lk hLk => ?_)
 refine vBn (v := .bool true) (hr := fun W => run_lss _ _ _ _ W) ?_
 simp only [Z0, Z6]
 refine Z19 (hLk _ (fun w76 Sw76 => ?_))
 simp only [Z7, Z8]
 replace M := M.sees Sw76
 refine lNp (hK74 _ _ ?_)
 refine Z10 (fun K77 hK77 => ?_)
 refine Z11 rfl ?_
 refine wp_skip ?_
 refine hK77 _ _ ?_
 refine Z10 (fun K78 hK78 => ?_)
 refine wp_block ?_
 refine Z10 (fun K79 hK79 => Z13 ?_)
 refine lMv (v := .int .i64 6) ?_
 refine lAs (v := .int .i64 6) ?_
 simp only [Z0, Z6]
 refine lNp (hK79 _ _ ?_)
 refine Z13 ?_
 refine lMv (v := .int .u64 ((((((byteN l 0 * 256 + byteN l 1) * 256 + byteN l 2) * 256 + byteN l 3) * 256 + byteN l 4) * 256 + byteN l 5 : Nat) : Int)) ?_
 simp only [Z0, Z6]
 refine lCh 6 (fun Lk hLk => ?_)
 refine vBn (v := .int .u64 (((((((byteN l 0 * 256 + byteN l 1) * 256 + byteN l 2) * 256 + byteN l 3) * 256 + byteN l 4) * 256 + byteN l 5) * 256 : Nat) : Int)) (hr := fun W => run_shl (m := ((((byteN l 0 * 256 + byteN l 1) * 256 + byteN l 2) * 256 + byteN l 3) * 256 + byteN l 4) * 256 + byteN l 5) (n := 8) (by decide) ((wrap64N _).trans (congrArg _ (by have := byteN_lt l 0; have := byteN_lt l 1; have := byteN_lt l 2; have := byteN_lt l 3; have := byteN_lt l 4; have := byteN_lt l 5; have := byteN_lt l 6; omega))) W) ?_
 simp only [Z0, Z6]
 refine vMv (v := .string (bs l)) ?_
 simp only [Z0, Z6]
 refine vMv (v := .int .i64 6) ?_
 simp only [Z0, Z6]
 refine wpV_indexb (n := 6) (by omega) (by rfl) rfl rfl rfl U99 ?_
 simp only [Z0, Z6]
 refine wpV_conv (d := .bool) (e := ((byteN l 6 : Nat) : Int)) (by rfl) rfl rfl (run_conv_int U95 U940 (by have := (byteN_lt l 6); rw [wrap_u64]; omega)) ?_
 simp only [Z0, Z6]
 refine vBn (v := .int .u64 (((((((byteN l 0 * 256 + byteN l 1) * 256 + byteN l 2) * 256 + byteN l 3) * 256 + byteN l 4) * 256 + byteN l 5) * 256 + byteN l 6 : Nat) : Int)) (hr := fun W => run_or (or8q (a := ((((byteN l 0 * 256 + byteN l 1) * 256 + byteN l 2) * 256 + byteN l 3) * 256 + byteN l 4) * 256 + byteN l 5) (b := byteN l 6) (by have := byteN_lt l 0; have := byteN_lt l 1; have := byteN_lt l 2; have := byteN_lt l 3; have := byteN_lt l 4; have := byteN_lt l 5; have := byteN_lt l 6; omega) (byteN_lt l 6)) W) ?_
 simp only [Z0, Z6]
 refine Z19 (hLk _ (fun w82 Sw82 => ?_))
 simp only [Z7, Z8]
 replace M := M.sees Sw82
 refine lAs (v := .int .u64 (((((((byteN l 0 * 256 + byteN l 1) * 256 + byteN l 2) * 256 + byteN l 3) * 256 + byteN l 4) * 256 + byteN l 5) * 256 + byteN l 6 : Nat) : Int)) ?_
 simp only [Z0, Z6]
 refine lNp (hK78 _ _ ?_)
 refine Z13 ?_
 refine lCh 1 (fun Lk hLk => ?_)
 refine vBn (v := .int .i64 7) (hr := fun W => run_add (by decide) W) ?_
 simp only [Z0, Z6]
 refine Z19 (hLk _ (fun w84 Sw84 => ?_))
 simp only [Z7, Z8]
 replace M := M.sees Sw84
 refine lMv (v := .int .i64 7) ?_
 simp only [Z0, Z6]
 refine Z14 (Z15 ?_)
 refine Z22 (Q := fun _ _ _ => True) ?_
 rw [rounds_succ]
 refine Z10 (fun K85 hK85 => Z13 ?_)
 refine lCh 1 (fun Lk hLk => ?_)
 refine vBn (v := .bool true) (hr := fun W => run_lss _ _ _ _ W) ?_
 simp only [Z0, Z6]
 refine Z19 (hLk _ (fun w87 Sw87 => ?_))
 simp only [Z7, Z8]
 replace M := M.sees Sw87
 refine lNp (hK85 _ _ ?_)
 refine Z10 (fun K88 hK88 => ?_)
 refine Z11 rfl ?_
 refine wp_skip ?_
 refine hK88 _ _ ?_
 refine Z10 (fun K89 hK89 => ?_)
 refine wp_block ?_
 refine Z10 (fun K90 hK90 => Z13 ?_)
 refine lMv (v := .int .i64 7) ?_
 refine lAs (v := .int .i64 7) ?_
 simp only [Z0, Z6]
 refine lNp (hK90 _ _ ?_)
 refine Z13 ?_
 refine lMv (v := .int .u64 (((((((byteN l 0 * 256 + byteN l 1) * 256 + byteN l 2) * 256 + byteN l 3) * 256 + byteN l 4) * 256 + byteN l 5) * 256 + byteN l 6 : Nat) : Int)) ?_
 simp only [Z0, Z6]
 refine lCh 6 (fun Lk hLk => ?_)
 refine vBn (v := .int .u64 ((((((((byteN l 0 * 256 + byteN l 1) * 256 + byteN l 2) * 256 + byteN l 3) * 256 + byteN l 4) * 256 + byteN l 5) * 256 + byteN l 6) * 256 : Nat) : Int)) (hr := fun W => run_shl (m := (((((byteN l 0 * 256 + byteN l 1) * 256 + byteN l 2) * 256 + byteN l 3) * 256 + byteN l 4) * 256 + byteN l 5) * 256 + byteN l 6) (n := 8) (by decide) ((wrap64N _).trans (congrArg _ (by have := byteN_lt l 0; have := byteN_lt l 1; have := byteN_lt l 2; have := byteN_lt l 3; have := byteN_lt l 4; have := byteN_lt l 5; have := byteN_lt l 6; omega))) W) ?_
 simp only [Z0, Z6]
 refine vMv (v := .string (bs l)) ?_
 simp only [Z0, Z6]
 refine vMv (v := .int .i64 7) ?_
 simp only [Z0, Z6]
 refine wpV_indexb (n := 7) (by omega) (by rfl) rfl rfl rfl U99 ?_
 simp only [Z0, Z6]
 refine wpV_conv (d := .bool) (e := ((byteN l 7 : Nat) : Int)) (by rfl) rfl rfl (run_conv_int U95 U940 (by have := (byteN_lt l 7); rw [wrap_u64]; omega)) ?_
 simp only [Z0, Z6]
 refine vBn (v := .int .u64 (be4q l 0 : Nat)) (hr := fun W => run_or (or8q (a := (((((byteN l 0 * 256 + byteN l 1) * 256 + byteN l 2) * 256 + byteN l 3) * 256 + byteN l 4) * 256 + byteN l 5) * 256 + byteN l 6) (b := byteN l 7) (by have := byteN_lt l 0; have := byteN_lt l 1; have := byteN_lt l 2; have := byteN_lt l 3; have := byteN_lt l 4; have := byteN_lt l 5; have := byteN_lt l 6; omega) (byteN_lt l 7)) W) ?_
 simp only [Z0, Z6]
 refine Z19 (hLk _ (fun w93 Sw93 => ?_))
 simp only [Z7, Z8]
 replace M := M.sees Sw93
 refine lAs (v := .int .u64 (be4q l 0 : Nat)) ?_
 simp only [Z0, Z6]
 refine lNp (hK89 _ _ ?_)
 refine Z13 ?_
 refine lCh 1 (fun Lk hLk => ?_)
 refine vBn (v := .int .i64 8) (hr := fun W => run_add (by decide) W) ?_
 simp only [Z0, Z6]
 refine Z19 (hLk _ (fun w95 Sw95 => ?_))
 simp only [Z7, Z8]
 replace M := M.sees Sw95
 refine lMv (v := .int .i64 8) ?_
 simp only [Z0, Z6]
 refine Z14 (Z15 ?_)
 refine Z22 (Q := fun _ _ _ => True) ?_
 rw [rounds_succ]
 refine Z10 (fun K96 hK96 => Z13 ?_)
 refine lCh 1 (fun Lk hLk => ?_)
 refine vBn (v := .bool false) (hr := fun W => run_lss _ _ _ _ W) ?_
 simp only [Z0, Z6]
 refine Z19 (hLk _ (fun w98 Sw98 => ?_))
 simp only [Z7, Z8]
 replace M := M.sees Sw98
 refine lNp (hK96 _ _ ?_)
 refine Z10 (fun K99 hK99 => ?_)
 refine Z12 rfl ?_
 refine wp_exit ?_
 refine hK5 _ _ ?_
 refine Z10 (fun K100 hK100 => Z13 ?_)
 refine lMv (v := .int .u64 (be4q l 0 : Nat)) ?_
 refine lAs (v := .int .u64 (be4q l 0 : Nat)) ?_
 simp only [Z0, Z6]
 refine lNp (hK100 _ _ ?_)
 refine wp_ret ?_
 repeat (first | with_reducible refine then_ret ?_ | with_reducible refine inblock_ret ?_)
 refine bodyPost_ret (v := .int .u64 (be4q l 0 : Nat)) (res1 rfl (.tmp (by rfl))) rfl ?_
 have BE := M.below
 exact ⟨rfl, BE⟩
set_option maxHeartbeats 2000000 in
theorem spread_cq {l : List UInt8} {w : World} (hl : 128 ≤ l.length) :
  Calls Tryd.prog 159 #[.string (bs l)] w fun e w' => e = .returned (.agg (wcellsq l 80).toArray) ∧ Below w.heap.size w w' := by
 go_enter Tryd.func159, Tryd.ntmps159
 have M := Mem.start w
 refine Z10 (fun K1 hK1 => Z13 ?_)
 refine Z36 (t := 201) (cs := [.int .u64 0, .int .u64 0, .int .u64 0, .int .u64 0, .int .u64 0, .int .u64 0, .int .u64 0, .int .u64 0, .int .u64 0, .int .u64 0, .int .u64 0, .int .u64 0, .int .u64 0, .int .u64 0, .int .u64 0, .int .u64 0, .int .u64 0, .int .u64 0, .int .u64 0, .int .u64 0, .int .u64 0, .int .u64 0, .int .u64 0, .int .u64 0, .int .u64 0, .int .u64 0, .int .u64 0, .int .u64 0, .int .u64 0, .int .u64 0, .int .u64 0, .int .u64 0, .int .u64 0, .int .u64 0, .int .u64 0, .int .u64 0, .int .u64 0, .int .u64 0, .int .u64 0, .int .u64 0, .int .u64 0, .int .u64 0, .int .u64 0, .int .u64 0, .int .u64 0, .int .u64 0, .int .u64 0, .int .u64 0, .int .u64 0, .int .u64 0, .int .u64 0, .int .u64 0, .int .u64 0, .int .u64 0, .int .u64 0, .int .u64 0, .int .u64 0, .int .u64 0, .int .u64 0, .int .u64 0, .int .u64 0, .int .u64 0, .int .u64 0, .int .u64 0, .int .u64 0, .int .u64 0, .int .u64 0, .int .u64 0, .int .u64 0, .int .u64 0, .int .u64 0, .int .u64 0, .int .u64 0, .int .u64 0, .int .u64 0, .int .u64 0, .int .u64 0, .int .u64 0, .int .u64 0, .int .u64 0]) (by rfl) (fun W => ?_) (fun g3 w4 Sw4 Hg3 Bg3 => ?_)
 ·
  (go_simp <;> rfl)
 replace M := ((M.sees Sw4).add (N := 80) (cs := [.int .u64 0, .int .u64 0, .int .u64 0, .int .u64 0, .int .u64 0, .int .u64 0, .int .u64 0, .int .u64 0, .int .u64 0, .int .u64 0, .int .u64 0, .int .u64 0, .int .u64 0, .int .u64 0, .int .u64 0, .int .u64 0, .int .u64 0, .int .u64 0, .int .u64 0, .int .u64 0, .int .u64 0, .int .u64 0, .int .u64 0, .int .u64 0, .int .u64 0, .int .u64 0, .int .u64 0, .int .u64 0, .int .u64 0, .int .u64 0, .int .u64 0, .int .u64 0, .int .u64 0, .int .u64 0, .int .u64 0, .int .u64 0, .int .u64 0, .int .u64 0, .int .u64 0, .int .u64 0, .int .u64 0, .int .u64 0, .int .u64 0, .int .u64 0, .int .u64 0, .int .u64 0, .int .u64 0, .int .u64 0, .int .u64 0, .int .u64 0, .int .u64 0, .int .u64 0, .int .u64 0, .int .u64 0, .int .u64 0, .int .u64 0, .int .u64 0, .int .u64 0, .int .u64 0, .int .u64 0, .int .u64 0, .int .u64 0, .int .u64 0, .int .u64 0, .int .u64 0, .int .u64 0, .int .u64 0, .int .u64 0, .int .u64 0, .int .u64 0, .int .u64 0, .int .u64 0, .int .u64 0, .int .u64 0, .int .u64 0, .int .u64 0, .int .u64 0, .int .u64 0, .int .u64 0, .int .u64 0]) (M.ge Hg3) (M.fresh Hg3) Bg3 rfl)
 clear Bg3
 simp only [Z0, Z6]
 refine lNp (hK1 _ _ ?_)
 refine Z10 (fun K5 hK5 => Z13 ?_)
 refine Z36 (t := 201) (cs := [.int .u64 0, .int .u64 0, .int .u64 0, .int .u64 0, .int .u64 0, .int .u64 0, .int .u64 0, .int .u64 0, .int .u64 0, .int .u64 0, .int .u64 0, .int .u64 0, .int .u64 0, .int .u64 0, .int .u64 0, .int .u64 0, .int .u64 0, .int .u64 0, .int .u64 0, .int .u64 0, .int .u64 0, .int .u64 0, .int .u64 0, .int .u64 0, .int .u64 0, .int .u64 0, .int .u64 0, .int .u64 0, .int .u64 0, .int .u64 0, .int .u64 0, .int .u64 0, .int .u64 0, .int .u64 0, .int .u64 0, .int .u64 0, .int .u64 0, .int .u64 0, .int .u64 0, .int .u64 0, .int .u64 0, .int .u64 0, .int .u64 0, .int .u64 0, .int .u64 0, .int .u64 0, .int .u64 0, .int .u64 0, .int .u64 0, .int .u64 0, .int .u64 0, .int .u64 0, .int .u64 0, .int .u64 0, .int .u64 0, .int .u64 0, .int .u64 0, .int .u64 0, .int .u64 0, .int .u64 0, .int .u64 0, .int .u64 0, .int .u64 0, .int .u64 0, .int .u64 0, .int .u64 0, .int .u64 0, .int .u64 0, .int .u64 0, .int .u64 0, .int .u64 0, .int .u64 0, .int .u64 0, .int .u64 0, .int .u64 0, .int .u64 0, .int .u64 0, .int .u64 0, .int .u64 0, .int .u64 0]) (by rfl) (fun W => ?_) (fun g7 w8 Sw8 Hg7 Bg7 => ?_)
 ·
  (go_simp <;> rfl)
 replace M := ((M.sees Sw8).add (N := 80) (cs := [.int .u64 0, .int .u64 0, .int .u64 0, .int .u64 0, .int .u64 0, .int .u64 0, .int .u64 0, .int .u64 0, .int .u64 0, .int .u64 0, .int .u64 0, .int .u64 0, .int .u64 0, .int .u64 0, .int .u64 0, .int .u64 0, .int .u64 0, .int .u64 0, .int .u64 0, .int .u64 0, .int .u64 0, .int .u64 0, .int .u64 0, .int .u64 0, .int .u64 0, .int .u64 0, .int .u64 0, .int .u64 0, .int .u64 0, .int .u64 0, .int .u64 0, .int .u64 0, .int .u64 0, .int .u64 0, .int .u64 0, .int .u64 0, .int .u64 0, .int .u64 0, .int .u64 0, .int .u64 0, .int .u64 0, .int .u64 0, .int .u64 0, .int .u64 0, .int .u64 0, .int .u64 0, .int .u64 0, .int .u64 0, .int .u64 0, .int .u64 0, .int .u64 0, .int .u64 0, .int .u64 0, .int .u64 0, .int .u64 0, .int .u64 0, .int .u64 0, .int .u64 0, .int .u64 0, .int .u64 0, .int .u64 0, .int .u64 0, .int .u64 0, .int .u64 0, .int .u64 0, .int .u64 0, .int .u64 0, .int .u64 0, .int .u64 0, .int .u64 0, .int .u64 0, .int .u64 0, .int .u64 0, .int .u64 0, .int .u64 0, .int .u64 0, .int .u64 0, .int .u64 0, .int .u64 0, .int .u64 0]) (M.ge Hg7) (M.fresh Hg7) Bg7 rfl)
 clear Bg7
 simp only [Z0, Z6]
 refine lNp (hK5 _ _ ?_)
 refine Z10 (fun K9 hK9 => ?_)
 refine Z10 (fun K10 hK10 => Z13 ?_)
 refine lMv (v := .int .i64 0) ?_
 simp only [Z0, Z6]
 refine lNp (hK10 _ _ ?_)
 refine wp_block ?_
 replace M := M.read1 (cs := wcellsq l 0) (o := 0) 0 rfl (by rw [wcells_zeroq]; exact (M.r 0 0 rfl rfl))
 simp only [Z6] at M
 refine wp_loop_ghost (fun n9 a9 W9 => ∃ (t : Nat) (u12 : Nat → Value), n9 = 80 - t ∧ a9 = { tmps := #[.string (bs l), Z9, .pointer (some ⟨g3, 0, none⟩), .pointer (some ⟨g7, 0, none⟩), u12 4, u12 5, u12 6, u12 7, u12 8, .int .i64 t, u12 10, u12 11, u12 12, u12 13, u12 14, u12 15, u12 16, u12 17, u12 18, u12 19, u12 20, u12 21, u12 22, u12 23, u12 24, u12 25, u12 26, u12 27, u12 28, u12 29, u12 30, u12 31, u12 32, u12 33, u12 34, u12 35, u12 36, u12 37, u12 38, u12 39, u12 40, u12 41, u12 42, u12 43, u12 44, u12 45, u12 46, u12 47, u12 48, u12 49, u12 50, u12 51, u12 52, u12 53, u12 54, u12 55, u12 56, u12 57, u12 58, u12 59, u12 60, Z9], defers := [] } ∧ Mem [] w W9 [⟨g7, 80, [(0, wcellsq l t)]⟩, ⟨g3, 80, [(0, [.int .u64 0, .int .u64 0, .int .u64 0, .int .u64 0, .int .u64 0, .int .u64 0, .int .u64 0, .int .u64 0, .int .u64 0, .int .u64 0, .int .u64 0, .int .u64 0, .int .u64 0, .int .u64 0, .int .u64 0, .int .u64 0, .int .u64 0, .int .u64 0, .int .u64 0, .int .u64 0, .int .u64 0, .int .u64 0, .int .u64 0, .int .u64 0, .int .u64 0, .int .u64 0, .int .u64 0, .int .u64 0, .int .u64 0, .int .u64 0, .int .u64 0, .int .u64 0, .int .u64 0, .int .u64 0, .int .u64 0, .int .u64 0, .int .u64 0, .int .u64 0, .int .u64 0, .int .u64 0, .int .u64 0, .int .u64 0, .int .u64 0, .int .u64 0, .int .u64 0, .int .u64 0, .int .u64 0, .int .u64 0, .int .u64 0, .int .u64 0, .int .u64 0, .int .u64 0, .int .u64 0, .int .u64 0, .int .u64 0, .int .u64 0, .int .u64 0, .int .u64 0, .int .u64 0, .int .u64 0, .int .u64 0, .int .u64 0, .int .u64 0, .int .u64 0, .int .u64 0, .int .u64 0, .int .u64 0, .int .u64 0, .int .u64 0, .int .u64 0, .int .u64 0, .int .u64 0, .int .u64 0, .int .u64 0, .int .u64 0, .int .u64 0, .int .u64 0, .int .u64 0, .int .u64 0, .int .u64 0])]⟩] ∧ (t ≤ 80)) (80 - (0)) ?_ (fun n9 a9 W9 hI => ?_)
 ·
  exact ⟨0, (fun q9 => (#[Z9, Z9, Z9, Z9, Z9, Z9, Z9, Z9, Z9, Z9, Z9, Z9, Z9, Z9, Z9, Z9, Z9, Z9, Z9, Z9, Z9, Z9, Z9, Z9, Z9, Z9, Z9, Z9, Z9, Z9, Z9, Z9, Z9, Z9, Z9, Z9, Z9, Z9, Z9, Z9, Z9, Z9, Z9, Z9, Z9, Z9, Z9, Z9, Z9, Z9, Z9, Z9, Z9, Z9, Z9, Z9, Z9, Z9, Z9, Z9, Z9] : Array Value).getD q9 Z9), rfl, rfl, M, (by omega)⟩
 clear M
 obtain ⟨t, u12, rfl, rfl, M, ht4⟩ := hI
 obtain ⟨w13, rfl⟩ : ∃ W8, W8 = W9 := ⟨_, rfl⟩
 refine Z10 (fun K14 hK14 => Z13 ?_)
 refine lCh 1 (fun Lk hLk => ?_)
 refine vBn (v := .bool (decide (t < 80))) (hr := fun W => run_lssN t 80 _ _ W) ?_
 simp only [Z0, Z6]
 refine Z19 (hLk _ (fun w16 Sw16 => ?_))
 simp only [Z7, Z8]
 replace M := M.sees Sw16
 refine lNp (hK14 _ _ ?_)
 refine Z10 (fun K17 hK17 => ?_)
 cases hc18 : (decide (t < 80))
 ·
  have et : t = 80 := by have := of_decide_eq_false hc18; omega
  subst et
  refine Z12 rfl ?_
  refine wp_exit ?_
  refine hK9 _ _ ?_
  refine Z10 (fun K19 hK19 => Z13 ?_)
  refine lCh 1 (fun Lk hLk => ?_)
  refine vLd (cs := wcellsq l 80) (M.r 0 0 rfl rfl) (M.lt 0 rfl) U9201 info201 ?_
  simp only [Z0, Z6]
  refine Z19 (hLk _ (fun w21 Sw21 => ?_))
  simp only [Z7, Z8]
  replace M := M.sees Sw21
  refine lSt (g := g3) (off := 0) (n := 80) (cs := wcellsq l 80) (M.t 1 rfl) (by rw [wcells_lenq]; decide) info201 (wcells_oneq _ _) (fun w22 P R T => ?_)
  replace M := M.putS 1 0 rfl P R T rfl ⟨.inl rfl, trivial⟩
  simp only [Z6] at M
  refine lNp (hK19 _ _ ?_)
  refine wp_ret ?_
  repeat (first | with_reducible refine then_ret ?_ | with_reducible refine inblock_ret ?_)
  refine bodyPost_ret (v := .agg (wcellsq l 80).toArray) (res1 rfl (.cell (by rfl) (run_loadVar_mid _ _ _ _ (wcellsq l 80) _ (M.r 1 0 rfl rfl) U9201 rfl info201))) rfl ?_
  have BE := M.below
  exact ⟨rfl, BE⟩
 have ht : t < 80 := of_decide_eq_true hc18
 refine Z11 rfl ?_
 refine wp_skip ?_
 refine hK17 _ _ ?_
 refine Z10 (fun K23 hK23 => ?_)
 refine wp_block ?_
 refine Z10 (fun K24 hK24 => Z13 ?_)
 refine lMv (v := .int .i64 t) ?_
 refine lAs (v := .int .i64 t) ?_
 simp only [Z0, Z6]
 refine lNp (hK24 _ _ ?_)
 refine Z10 (fun K26 hK26 => ?_)
 refine Z10 (fun K27 hK27 => Z13 ?_)
 refine lMv (v := .int .i64 t) ?_
 simp only [Z0, Z6]
 refine lCh 1 (fun Lk hLk => ?_)
 refine vBn (v := .bool (decide (t < 16))) (hr := fun W => run_lssN t 16 _ _ W) ?_
 simp only [Z0, Z6]
 refine Z19 (hLk _ (fun w29 Sw29 => ?_))
 simp only [Z7, Z8]
 replace M := M.sees Sw29
 refine lNp (hK27 _ _ ?_)
 cases hc30 : (decide (t < 16))
 ·
  have h16 : ¬ t < 16 := of_decide_eq_false hc30
  refine Z12 rfl ?_
  refine wp_skip ?_
  refine hK26 _ _ ?_
  refine Z10 (fun K31 hK31 => ?_)
  refine wp_region_grow 10 [] (by kernel_rfl) (by kernel_rfl) (by kernel_rfl) (fun Lk hLk => ?_)
  simp only [Z7, Z8]
  refine vMv (v := .int .i64 t) ?_
  simp only [Z0, Z6]
  refine vBn (v := .int .i64 (t - 15 : Nat)) (hr := fun W => run_sub (by simp only [IntKind.wrap_i64]; omega) W) ?_
  simp only [Z0, Z6]
  refine wpV_idx (n := t - 15) (by rfl) rfl rfl rfl U9201 info40 (by omega) ?_
  simp only [Z2]
  simp only [Z0, Z6]
  refine Z34 (v := .int .u64 (shWq l (t - 15) : Nat)) (by rfl) rfl rfl (zadd ((M.r 0 0 rfl rfl) _ _ (wcells_atq l (by omega) (by omega)))) (M.lt 0 rfl) U940 rfl ?_
  simp only [Z0, Z6]
  refine vMv (v := .int .i64 t) ?_
  simp only [Z0, Z6]
  refine vBn (v := .int .i64 (t - 2 : Nat)) (hr := fun W => run_sub (by simp only [IntKind.wrap_i64]; omega) W) ?_
  simp only [Z0, Z6]
  refine wpV_idx (n := t - 2) (by rfl) rfl rfl rfl U9201 info40 (by omega) ?_
  simp only [Z2]
  simp only [Z0, Z6]
  refine Z34 (v := .int .u64 (shWq l (t - 2) : Nat)) (by rfl) rfl rfl (zadd ((M.r 0 0 rfl rfl) _ _ (wcells_atq l (by omega) (by omega)))) (M.lt 0 rfl) U940 rfl ?_
  simp only [Z0, Z6]
  refine wpV_assign (v := .int .u64 (shWq l (t - 15) : Nat)) (by rfl) rfl rfl ?_
  simp only [Z0, Z6]
  refine wpV_assign (v := .int .u64 (shWq l (t - 2) : Nat)) (by rfl) rfl rfl ?_
  simp only [Z0, Z6]
  refine Z19 (hLk.out _ ?_)
  simp only [Z7, Z8]
  iterate 10 refine Z28 (by rfl) ?_
  refine Z29 (fun w33 Sw33 hbs => ?_)
  clear hbs
  replace M := M.sees Sw33
  refine lNp (hK31 _ _ ?_)
  refine Z10 (fun K34 hK34 => Z13 ?_)
  refine lMv (v := .int .u64 (shWq l (t - 15) : Nat)) ?_
  simp only [Z0, Z6]
  refine lCh 7 (fun Lk hLk => ?_)
  refine Z25 (v := .int .u64 (rotrq (shWq l (t - 15)) 1 : Nat)) (args := #[.int .u64 (shWq l (t - 15) : Nat), .int .i64 (-1)]) (by rfl) rfl G9160 (by kernel_rfl) (by kernel_rfl) rfl (fun W hW => (by have := rotl_cq (x := shWq l (t - 15)) (n := 1) (w := W) (shW_ltq ..) (by decide) (by decide); exact this)) ?_
  simp only [Z0, Z6]
  refine vMv (v := .int .u64 (shWq l (t - 15) : Nat)) ?_
  simp only [Z0, Z6]
  refine Z25 (v := .int .u64 (rotrq (shWq l (t - 15)) 8 : Nat)) (args := #[.int .u64 (shWq l (t - 15) : Nat), .int .i64 (-8)]) (by rfl) rfl G9160 (by kernel_rfl) (by kernel_rfl) rfl (fun W hW => (by have := rotl_cq (x := shWq l (t - 15)) (n := 8) (w := W) (shW_ltq ..) (by decide) (by decide); exact this)) ?_
  simp only [Z0, Z6]
  refine vBn (v := .int .u64 (((rotrq (shWq l (t - 15)) 1) ^^^ (rotrq (shWq l (t - 15)) 8) : Nat) : Int)) (hr := fun W => nr_xor64 (x := rotrq (shWq l (t - 15)) 1) (y := rotrq (shWq l (t - 15)) 8) (rotr_ltq (shW_ltq ..) (by decide)) (rotr_ltq (shW_ltq ..) (by decide)) W) ?_
  simp only [Z0, Z6]
  refine vMv (v := .int .u64 (shWq l (t - 15) : Nat)) ?_
  simp only [Z0, Z6]
  refine vBn (v := .int .u64 ((shWq l (t - 15)) / 2 ^ 7 : Nat)) (hr := fun W => nr_shr64 (x := shWq l (t - 15)) (n := 7) (by omega) W) ?_
  simp only [Z0, Z6]
  refine vBn (v := .int .u64 (sg0q (shWq l (t - 15)) : Nat)) (hr := fun W => nr_xor64 (x := (rotrq (shWq l (t - 15)) 1) ^^^ (rotrq (shWq l (t - 15)) 8)) (y := (shWq l (t - 15)) / 2 ^ 7) (xor_lt64 (rotr_ltq (shW_ltq ..) (by decide)) (rotr_ltq (shW_ltq ..) (by decide))) (div_lt64 _ (shW_ltq ..)) W) ?_
  simp only [Z0, Z6]
  refine Z19 (hLk _ (fun w36 Sw36 => ?_))
  simp only [Z7, Z8]
  replace M := M.sees Sw36
  refine lAs (v := .int .u64 (sg0q (shWq l (t - 15)) : Nat)) ?_
  simp only [Z0, Z6]
  refine lNp (hK34 _ _ ?_)
  refine Z10 (fun K37 hK37 => Z13 ?_)
  refine lMv (v := .int .u64 (shWq l (t - 2) : Nat)) ?_
  simp only [Z0, Z6]
  refine lCh 7 (fun Lk hLk => ?_)
  refine Z25 (v := .int .u64 (rotrq (shWq l (t - 2)) 19 : Nat)) (args := #[.int .u64 (shWq l (t - 2) : Nat), .int .i64 (-19)]) (by rfl) rfl G9160 (by kernel_rfl) (by kernel_rfl) rfl (fun W hW => (by have := rotl_cq (x := shWq l (t - 2)) (n := 19) (w := W) (shW_ltq ..) (by decide) (by decide); exact this)) ?_
  simp only [Z0, Z6]
  refine vMv (v := .int .u64 (shWq l (t - 2) : Nat)) ?_
  simp only [Z0, Z6]
  refine Z25 (v := .int .u64 (rotrq (shWq l (t - 2)) 61 : Nat)) (args := #[.int .u64 (shWq l (t - 2) : Nat), .int .i64 (-61)]) (by rfl) rfl G9160 (by kernel_rfl) (by kernel_rfl) rfl (fun W hW => (by have := rotl_cq (x := shWq l (t - 2)) (n := 61) (w := W) (shW_ltq ..) (by decide) (by decide); exact this)) ?_
  simp only [Z0, Z6]
  refine vBn (v := .int .u64 (((rotrq (shWq l (t - 2)) 19) ^^^ (rotrq (shWq l (t - 2)) 61) : Nat) : Int)) (hr := fun W => nr_xor64 (x := rotrq (shWq l (t - 2)) 19) (y := rotrq (shWq l (t - 2)) 61) (rotr_ltq (shW_ltq ..) (by decide)) (rotr_ltq (shW_ltq ..) (by decide)) W) ?_
  simp only [Z0, Z6]
  refine vMv (v := .int .u64 (shWq l (t - 2) : Nat)) ?_
  simp only [Z0, Z6]
  refine vBn (v := .int .u64 ((shWq l (t - 2)) / 2 ^ 6 : Nat)) (hr := fun W => nr_shr64 (x := shWq l (t - 2)) (n := 6) (by omega) W) ?_
  simp only [Z0, Z6]
  refine vBn (v := .int .u64 (sg1q (shWq l (t - 2)) : Nat)) (hr := fun W => nr_xor64 (x := (rotrq (shWq l (t - 2)) 19) ^^^ (rotrq (shWq l (t - 2)) 61)) (y := (shWq l (t - 2)) / 2 ^ 6) (xor_lt64 (rotr_ltq (shW_ltq ..) (by decide)) (rotr_ltq (shW_ltq ..) (by decide))) (div_lt64 _ (shW_ltq ..)) W) ?_
  simp only [Z0, Z6]
  refine Z19 (hLk _ (fun w39 Sw39 => ?_))
  simp only [Z7, Z8]
  replace M := M.sees Sw39
  refine lAs (v := .int .u64 (sg1q (shWq l (t - 2)) : Nat)) ?_
  simp only [Z0, Z6]
  refine lNp (hK37 _ _ ?_)
  refine wp_region_grow 15 [] (by kernel_rfl) (by kernel_rfl) (by kernel_rfl) (fun Lk hLk => ?_)
  simp only [Z7, Z8]
  refine vMv (v := .int .i64 t) ?_
  simp only [Z0, Z6]
  refine vMv (v := .int .i64 t) ?_
  simp only [Z0, Z6]
  refine vBn (v := .int .i64 (t - 16 : Nat)) (hr := fun W => run_sub (by simp only [IntKind.wrap_i64]; omega) W) ?_
  simp only [Z0, Z6]
  refine wpV_idx (n := t - 16) (by rfl) rfl rfl rfl U9201 info40 (by omega) ?_
  simp only [Z2]
  simp only [Z0, Z6]
  refine Z34 (v := .int .u64 (shWq l (t - 16) : Nat)) (by rfl) rfl rfl (zadd ((M.r 0 0 rfl rfl) _ _ (wcells_atq l (by omega) (by omega)))) (M.lt 0 rfl) U940 rfl ?_
  simp only [Z0, Z6]
  refine vMv (v := .int .u64 (sg0q (shWq l (t - 15)) : Nat)) ?_
  simp only [Z0, Z6]
  refine vBn (v := .int .u64 ((((shWq l (t - 16)) + (sg0q (shWq l (t - 15)))) % 18446744073709551616 : Nat) : Int)) (hr := fun W => nr_add64 _ (shWq l (t - 16)) (sg0q (shWq l (t - 15))) W) ?_
  simp only [Z0, Z6]
  refine vMv (v := .int .i64 t) ?_
  simp only [Z0, Z6]
  refine vBn (v := .int .i64 (t - 7 : Nat)) (hr := fun W => run_sub (by simp only [IntKind.wrap_i64]; omega) W) ?_
  simp only [Z0, Z6]
  refine wpV_idx (n := t - 7) (by rfl) rfl rfl rfl U9201 info40 (by omega) ?_
  simp only [Z2]
  simp only [Z0, Z6]
  refine Z34 (v := .int .u64 (shWq l (t - 7) : Nat)) (by rfl) rfl rfl (zadd ((M.r 0 0 rfl rfl) _ _ (wcells_atq l (by omega) (by omega)))) (M.lt 0 rfl) U940 rfl ?_
  simp only [Z0, Z6]
  refine vBn (v := .int .u64 ((((((shWq l (t - 16)) + (sg0q (shWq l (t - 15)))) % 18446744073709551616) + (shWq l (t - 7))) % 18446744073709551616 : Nat) : Int)) (hr := fun W => nr_add64 _ (((shWq l (t - 16)) + (sg0q (shWq l (t - 15)))) % 18446744073709551616) (shWq l (t - 7)) W) ?_
  simp only [Z0, Z6]
  refine vMv (v := .int .u64 (sg1q (shWq l (t - 2)) : Nat)) ?_
  simp only [Z0, Z6]
  refine vBn (v := .int .u64 (shWq l t : Nat)) (hr := fun W => (by have := nr_add64 (P := Tryd.prog) 0 (((shWq l (t - 16) + sg0q (shWq l (t - 15))) % 18446744073709551616 + shWq l (t - 7)) % 18446744073709551616) (sg1q (shWq l (t - 2))) W; rw [← shW_hiq h16] at this; exact this)) ?_
  simp only [Z0, Z6]
  refine wpV_idx (n := t) (by rfl) rfl rfl rfl U9201 info40 (by omega) ?_
  simp only [Z2]
  simp only [Z0, Z6]
  refine Z19 (hLk.out _ ?_)
  simp only [Z7, Z8]
  iterate 15 refine Z28 (by rfl) ?_
  refine Z29 (fun w41 Sw41 hbs => ?_)
  clear hbs
  replace M := M.sees Sw41
  refine lS1 (g := g7) (off := t) (n := 80) (v := .int .u64 (shWq l t : Nat)) (M.t 0 rfl) (by omega) info40 rfl (fun w42 P R T => ?_)
  replace M := M.put1 (j := t) 0 rfl P R T (Z2 _).symm
  simp only [Z6] at M
  rw [wcells_setq l ht] at M
  refine lNp (hK23 _ _ ?_)
  refine Z13 ?_
  refine lCh 1 (fun Lk hLk => ?_)
  refine vBn (v := .int .i64 (t + 1 : Nat)) (hr := fun W => run_add (by simp only [IntKind.wrap_i64]; omega) W) ?_
  simp only [Z0, Z6]
  refine Z19 (hLk _ (fun w44 Sw44 => ?_))
  simp only [Z7, Z8]
  replace M := M.sees Sw44
  refine lMv (v := .int .i64 (t + 1 : Nat)) ?_
  simp only [Z0, Z6]
  refine Z14 (Z15 ?_)
  refine Exists.intro _ ⟨?_, (t + 1), (fun q9 => (#[Z9, Z9, Z9, Z9, .int .i64 t, .int .u64 (shWq l (t - 15) : Nat), .int .u64 (shWq l (t - 2) : Nat), .int .u64 (sg0q (shWq l (t - 15)) : Nat), .int .u64 (sg1q (shWq l (t - 2)) : Nat), Z9, .bool true, .int .i64 t, .int .i64 t, .bool false, u12 14, u12 15, u12 16, u12 17, u12 18, u12 19, u12 20, .int .i64 t, .int .i64 (t - 15 : Nat), .pointer (some ⟨g7, t - 15, none⟩), .int .u64 (shWq l (t - 15) : Nat), .int .i64 t, .int .i64 (t - 2 : Nat), .pointer (some ⟨g7, t - 2, none⟩), .int .u64 (shWq l (t - 2) : Nat), .int .u64 (shWq l (t - 15) : Nat), .int .u64 (rotrq (shWq l (t - 15)) 1 : Nat), .int .u64 (shWq l (t - 15) : Nat), .int .u64 (rotrq (shWq l (t - 15)) 8 : Nat), .int .u64 (((rotrq (shWq l (t - 15)) 1) ^^^ (rotrq (shWq l (t - 15)) 8) : Nat) : Int), .int .u64 (shWq l (t - 15) : Nat), .int .u64 ((shWq l (t - 15)) / 2 ^ 7 : Nat), .int .u64 (sg0q (shWq l (t - 15)) : Nat), .int .u64 (shWq l (t - 2) : Nat), .int .u64 (rotrq (shWq l (t - 2)) 19 : Nat), .int .u64 (shWq l (t - 2) : Nat), .int .u64 (rotrq (shWq l (t - 2)) 61 : Nat), .int .u64 (((rotrq (shWq l (t - 2)) 19) ^^^ (rotrq (shWq l (t - 2)) 61) : Nat) : Int), .int .u64 (shWq l (t - 2) : Nat), .int .u64 ((shWq l (t - 2)) / 2 ^ 6 : Nat), .int .u64 (sg1q (shWq l (t - 2)) : Nat), .int .i64 t, .int .i64 t, .int .i64 (t - 16 : Nat), .pointer (some ⟨g7, t - 16, none⟩), .int .u64 (shWq l (t - 16) : Nat), .int .u64 (sg0q (shWq l (t - 15)) : Nat), .int .u64 ((((shWq l (t - 16)) + (sg0q (shWq l (t - 15)))) % 18446744073709551616 : Nat) : Int), .int .i64 t, .int .i64 (t - 7 : Nat), .pointer (some ⟨g7, t - 7, none⟩), .int .u64 (shWq l (t - 7) : Nat), .int .u64 ((((((shWq l (t - 16)) + (sg0q (shWq l (t - 15)))) % 18446744073709551616) + (shWq l (t - 7))) % 18446744073709551616 : Nat) : Int), .int .u64 (sg1q (shWq l (t - 2)) : Nat), .int .u64 (shWq l t : Nat), .pointer (some ⟨g7, t, none⟩), .int .i64 (t + 1 : Nat)] : Array Value).getD q9 Z9), rfl, rfl, M, (by omega)⟩
  omega
 have h16 : t < 16 := of_decide_eq_true hc30
 refine Z11 rfl ?_
 refine Z10 (fun K45 hK45 => Z13 ?_)
 refine lMv (v := .int .i64 t) ?_
 refine lMv (v := .string (bs l)) ?_
 refine lMv (v := .int .i64 t) ?_
 simp only [Z0, Z6]
 refine lCh 4 (fun Lk hLk => ?_)
 refine vBn (v := .int .i64 (8 * t : Nat)) (hr := fun W => run_mul (by simp only [IntKind.wrap_i64]; omega) W) ?_
 simp only [Z0, Z6]
 refine wpV_drop (l := l) (lo := 8 * t) (by rfl) rfl rfl rfl U99 (by omega) ?_
 simp only [Z0, Z6]
 refine Z25 (v := .int .u64 (shWq l t : Nat)) (args := #[.string (bs (l.drop (8 * t)))]) (by rfl) rfl Tryd.func162 (by kernel_rfl) (by kernel_rfl) rfl (fun W hW => (by have := read_cq (l := l.drop (8 * t)) (w := W) (by rw [List.length_drop]; omega); rwa [show be4q (l.drop (8 * t)) 0 = shWq l t by rw [shW_loq h16]; unfold be4q; simp only [byteN_drop, Z2, Nat.add_zero]] at this)) ?_
 simp only [Z0, Z6]
 refine wpV_idx (n := t) (by rfl) rfl rfl rfl U9201 info40 (by omega) ?_
 simp only [Z2]
 simp only [Z0, Z6]
 refine Z19 (hLk _ (fun w47 Sw47 => ?_))
 simp only [Z7, Z8]
 replace M := M.sees Sw47
 refine lS1 (g := g7) (off := t) (n := 80) (v := .int .u64 (shWq l t : Nat)) (M.t 0 rfl) (by omega) info40 rfl (fun w48 P R T => ?_)
 replace M := M.put1 (j := t) 0 rfl P R T (Z2 _).symm
 simp only [Z6] at M
 rw [wcells_setq l ht] at M
 refine lNp (hK45 _ _ ?_)
 refine wp_exit ?_
 refine hK23 _ _ ?_
 refine Z13 ?_
 refine lCh 1 (fun Lk hLk => ?_)
 refine vBn (v := .int .i64 (t + 1 : Nat)) (hr := fun W => run_add (by simp only [IntKind.wrap_i64]; omega) W) ?_
 simp only [Z0, Z6]
 refine Z19 (hLk _ (fun w50 Sw50 => ?_))
 simp only [Z7, Z8]
 replace M := M.sees Sw50
 refine lMv (v := .int .i64 (t + 1 : Nat)) ?_
 simp only [Z0, Z6]
 refine Z14 (Z15 ?_)
 refine Exists.intro _ ⟨?_, (t + 1), (fun q9 => (#[Z9, Z9, Z9, Z9, .int .i64 t, u12 5, u12 6, u12 7, u12 8, Z9, .bool true, .int .i64 t, .int .i64 t, .bool true, .int .i64 t, .string (bs l), .int .i64 t, .int .i64 (8 * t : Nat), .string (bs (l.drop (8 * t))), .int .u64 (shWq l t : Nat), .pointer (some ⟨g7, t, none⟩), u12 21, u12 22, u12 23, u12 24, u12 25, u12 26, u12 27, u12 28, u12 29, u12 30, u12 31, u12 32, u12 33, u12 34, u12 35, u12 36, u12 37, u12 38, u12 39, u12 40, u12 41, u12 42, u12 43, u12 44, u12 45, u12 46, u12 47, u12 48, u12 49, u12 50, u12 51, u12 52, u12 53, u12 54, u12 55, u12 56, u12 57, u12 58, u12 59, .int .i64 (t + 1 : Nat)] : Array Value).getD q9 Z9), rfl, rfl, M, (by omega)⟩
 omega
end Go.Proofs.Yc

namespace Go.Proofs.Yc
open Go Go.RowKit Go.Proofs.Num
open Tryd renaming func160 → G9160, underlying201 → U9201, underlying40 → U940, underlying9 → U99
open Go.Proofs.Num  renaming putT → Z0
open Nat renaming zero_add → Z2, mod_eq_of_lt → Z5
open List renaming set → Z6, take → Z7, drop → Z8
open Go renaming undef → Z9, wp_seq_k → Z10, wp_cond_true → Z11, wp_cond_false → Z12
open Go.Proofs.Num renaming wp_region_seq → Z13, wpL_nil → Z14, no_panic → Z15, wpV_nil → Z19, then_normal → Z22, wpV_callf → Z25, wpN_skip → Z28, wpN_nil → Z29, wpV_load1 → Z34, wpL_var → Z36
attribute [local irreducible] wpV wpN wpList
open Go.Proofs.Ya
set_option maxRecDepth 100000 in
set_option maxHeartbeats 4000000 in
theorem mix_cq {g n : Nat} {h : S8q} {b l : List UInt8} {w : World} (hh : h.Ok) (hl : 128 ≤ l.length) (hg : g ≠ 2) (L2 : 2 < w.heap.size) (R2_0 : w.rangeAt 2 0 kcellsq) (hM : Mem [g] w w [⟨g, 10, [(0, [.int .u64 h.a, .int .u64 h.b, .int .u64 h.c, .int .u64 h.d, .int .u64 h.e, .int .u64 h.f, .int .u64 h.g, .int .u64 h.h]), (8, [.string (bs b)]), (9, [.int .u64 n])]⟩]) :
  Calls Tryd.prog 148 #[.pointer (some ⟨g, 0, none⟩), .string (bs l)] w fun e w' => ∃ v, e = .returned v ∧ v = .tuple #[] ∧ Mem [g] w w' [⟨g, 10, [(0, [.int .u64 ((mixSq h l).a : Nat), .int .u64 ((mixSq h l).b : Nat), .int .u64 ((mixSq h l).c : Nat), .int .u64 ((mixSq h l).d : Nat), .int .u64 ((mixSq h l).e : Nat), .int .u64 ((mixSq h l).f : Nat), .int .u64 ((mixSq h l).g : Nat), .int .u64 ((mixSq h l).h : Nat)]), (8, [.string (bs b)]), (9, [.int .u64 n])]⟩] := by
 go_enter Tryd.func148, Tryd.ntmps148
 have M := hM
 refine Z10 (fun K1 hK1 => Z13 ?_)
 refine lMv (v := .string (bs l)) ?_
 simp only [Z0, Z6]
 refine lCh 1 (fun Lk hLk => ?_)
 refine Z25 (v := .agg (wcellsq l 80).toArray) (args := #[.string (bs l)]) (by rfl) rfl Tryd.func159 (by kernel_rfl) (by kernel_rfl) rfl (fun W hW => spread_cq hl) ?_
 simp only [Z0, Z6]
 refine Z19 (hLk _ (fun w3 Sw3 => ?_))
 simp only [Z7, Z8]
 replace M := M.sees Sw3
 refine Z36 (t := 201) (cs := [.int .u64 0, .int .u64 0, .int .u64 0, .int .u64 0, .int .u64 0, .int .u64 0, .int .u64 0, .int .u64 0, .int .u64 0, .int .u64 0, .int .u64 0, .int .u64 0, .int .u64 0, .int .u64 0, .int .u64 0, .int .u64 0, .int .u64 0, .int .u64 0, .int .u64 0, .int .u64 0, .int .u64 0, .int .u64 0, .int .u64 0, .int .u64 0, .int .u64 0, .int .u64 0, .int .u64 0, .int .u64 0, .int .u64 0, .int .u64 0, .int .u64 0, .int .u64 0, .int .u64 0, .int .u64 0, .int .u64 0, .int .u64 0, .int .u64 0, .int .u64 0, .int .u64 0, .int .u64 0, .int .u64 0, .int .u64 0, .int .u64 0, .int .u64 0, .int .u64 0, .int .u64 0, .int .u64 0, .int .u64 0, .int .u64 0, .int .u64 0, .int .u64 0, .int .u64 0, .int .u64 0, .int .u64 0, .int .u64 0, .int .u64 0, .int .u64 0, .int .u64 0, .int .u64 0, .int .u64 0, .int .u64 0, .int .u64 0, .int .u64 0, .int .u64 0, .int .u64 0, .int .u64 0, .int .u64 0, .int .u64 0, .int .u64 0, .int .u64 0, .int .u64 0, .int .u64 0, .int .u64 0, .int .u64 0, .int .u64 0, .int .u64 0, .int .u64 0, .int .u64 0, .int .u64 0, .int .u64 0]) (by rfl) (fun W => ?_) (fun g4 w5 Sw5 Hg4 Bg4 => ?_)
 ·
  (go_simp <;> rfl)
 replace M := ((M.sees Sw5).add (N := 80) (cs := [.int .u64 0, .int .u64 0, .int .u64 0, .int .u64 0, .int .u64 0, .int .u64 0, .int .u64 0, .int .u64 0, .int .u64 0, .int .u64 0, .int .u64 0, .int .u64 0, .int .u64 0, .int .u64 0, .int .u64 0, .int .u64 0, .int .u64 0, .int .u64 0, .int .u64 0, .int .u64 0, .int .u64 0, .int .u64 0, .int .u64 0, .int .u64 0, .int .u64 0, .int .u64 0, .int .u64 0, .int .u64 0, .int .u64 0, .int .u64 0, .int .u64 0, .int .u64 0, .int .u64 0, .int .u64 0, .int .u64 0, .int .u64 0, .int .u64 0, .int .u64 0, .int .u64 0, .int .u64 0, .int .u64 0, .int .u64 0, .int .u64 0, .int .u64 0, .int .u64 0, .int .u64 0, .int .u64 0, .int .u64 0, .int .u64 0, .int .u64 0, .int .u64 0, .int .u64 0, .int .u64 0, .int .u64 0, .int .u64 0, .int .u64 0, .int .u64 0, .int .u64 0, .int .u64 0, .int .u64 0, .int .u64 0, .int .u64 0, .int .u64 0, .int .u64 0, .int .u64 0, .int .u64 0, .int .u64 0, .int .u64 0, .int .u64 0, .int .u64 0, .int .u64 0, .int .u64 0, .int .u64 0, .int .u64 0, .int .u64 0, .int .u64 0, .int .u64 0, .int .u64 0, .int .u64 0, .int .u64 0]) (M.ge Hg4) (M.fresh Hg4) Bg4 rfl)
 clear Bg4
 simp only [Z0, Z6]
 refine lSt (g := g4) (off := 0) (n := 80) (cs := wcellsq l 80) (M.t 0 rfl) (by rw [wcells_lenq]; decide) info201 (wcells_oneq _ _) (fun w6 P R T => ?_)
 replace M := M.putS 0 0 rfl P R T rfl ⟨.inl rfl, trivial⟩
 simp only [Z6] at M
 refine lNp (hK1 _ _ ?_)
 refine Z10 (fun K7 hK7 => Z13 ?_)
 refine lMv (v := .pointer (some ⟨g, 0, none⟩)) ?_
 simp only [Z0, Z6]
 refine lCh 4 (fun Lk hLk => ?_)
 refine vNc ?_
 simp only [Z0, Z6]
 refine vGo (v := .pointer (some ⟨g, 0, none⟩)) ?_
 simp only [Z0, Z6]
 refine vGo (v := .pointer (some ⟨g, 0, none⟩)) ?_
 simp only [Z0, Z6]
 refine vLd (cs := [.int .u64 h.a, .int .u64 h.b, .int .u64 h.c, .int .u64 h.d, .int .u64 h.e, .int .u64 h.f, .int .u64 h.g, .int .u64 h.h]) (M.r 1 0 rfl rfl) (M.lt 1 rfl) Tryd.underlying129 info129 ?_
 simp only [Z0, Z6]
 refine Z19 (hLk _ (fun w9 Sw9 => ?_))
 simp only [Z7, Z8]
 replace M := M.sees Sw9
 refine Z36 (t := 129) (cs := [.int .u64 0, .int .u64 0, .int .u64 0, .int .u64 0, .int .u64 0, .int .u64 0, .int .u64 0, .int .u64 0]) (by rfl) (fun W => ?_) (fun g10 w11 Sw11 Hg10 Bg10 => ?_)
 ·
  go_simp
 replace M := ((M.sees Sw11).add (N := 8) (cs := [.int .u64 0, .int .u64 0, .int .u64 0, .int .u64 0, .int .u64 0, .int .u64 0, .int .u64 0, .int .u64 0]) (M.ge Hg10) (M.fresh Hg10) Bg10 rfl)
 clear Bg10
 simp only [Z0, Z6]
 refine lSt (g := g10) (off := 0) (n := 8) (cs := [.int .u64 h.a, .int .u64 h.b, .int .u64 h.c, .int .u64 h.d, .int .u64 h.e, .int .u64 h.f, .int .u64 h.g, .int .u64 h.h]) (M.t 0 rfl) (by simp [flen]) info129 (by simp [fone, Value.oneCell']) (fun w12 P R T => ?_)
 replace M := M.putS 0 0 rfl P R T rfl ⟨.inl rfl, trivial⟩
 simp only [Z6] at M
 refine lNp (hK7 _ _ ?_)
 refine Z10 (fun K13 hK13 => ?_)
 refine Z10 (fun K14 hK14 => Z13 ?_)
 refine lMv (v := .int .i64 0) ?_
 simp only [Z0, Z6]
 refine lNp (hK14 _ _ ?_)
 refine wp_block ?_
 refine wp_loop_ghost (fun n9 a9 W9 => ∃ (t : Nat) (v : S8q) (u16 : Nat → Value), n9 = 80 - t ∧ a9 = { tmps := #[.pointer (some ⟨g, 0, none⟩), .string (bs l), Z9, Z9, .pointer (some ⟨g4, 0, none⟩), .pointer (some ⟨g10, 0, none⟩), u16 6, u16 7, u16 8, u16 9, u16 10, Z9, .string (bs l), .agg (wcellsq l 80).toArray, .pointer (some ⟨g, 0, none⟩), .pointer (some ⟨g, 0, none⟩), .pointer (some ⟨g, 0, none⟩), .pointer (some ⟨g, 0, none⟩), .agg ([.int .u64 h.a, .int .u64 h.b, .int .u64 h.c, .int .u64 h.d, .int .u64 h.e, .int .u64 h.f, .int .u64 h.g, .int .u64 h.h]).toArray, .int .i64 t, u16 20, u16 21, u16 22, u16 23, u16 24, u16 25, u16 26, u16 27, u16 28, u16 29, u16 30, u16 31, u16 32, u16 33, u16 34, u16 35, u16 36, u16 37, u16 38, u16 39, u16 40, u16 41, u16 42, u16 43, u16 44, u16 45, u16 46, u16 47, u16 48, u16 49, u16 50, u16 51, u16 52, u16 53, u16 54, u16 55, u16 56, u16 57, u16 58, u16 59, u16 60, u16 61, u16 62, u16 63, u16 64, u16 65, u16 66, u16 67, u16 68, u16 69, u16 70, u16 71, u16 72, u16 73, u16 74, u16 75, u16 76, u16 77, u16 78, u16 79, u16 80, u16 81, u16 82, u16 83, u16 84, u16 85, u16 86, u16 87, u16 88, u16 89, u16 90, u16 91, u16 92, u16 93, u16 94, u16 95, u16 96, u16 97, u16 98, Z9, Z9, Z9, Z9, Z9, Z9, Z9, Z9, Z9, Z9, Z9, Z9, Z9, Z9, Z9, Z9, Z9, Z9, Z9], defers := [] } ∧ Mem [g] w W9 [⟨g10, 8, [(0, [.int .u64 v.a, .int .u64 v.b, .int .u64 v.c, .int .u64 v.d, .int .u64 v.e, .int .u64 v.f, .int .u64 v.g, .int .u64 v.h])]⟩, ⟨g4, 80, [(0, wcellsq l 80)]⟩, ⟨g, 10, [(0, [.int .u64 h.a, .int .u64 h.b, .int .u64 h.c, .int .u64 h.d, .int .u64 h.e, .int .u64 h.f, .int .u64 h.g, .int .u64 h.h]), (8, [.string (bs b)]), (9, [.int .u64 n])]⟩] ∧ (t ≤ 80) ∧ (v = rndsq l h t)) (80 - (0)) ?_ (fun n9 a9 W9 hI => ?_)
 ·
  exact ⟨0, h, (fun q9 => (#[Z9, Z9, Z9, Z9, Z9, Z9, Z9, Z9, Z9, Z9, Z9, Z9, Z9, Z9, Z9, Z9, Z9, Z9, Z9, Z9, Z9, Z9, Z9, Z9, Z9, Z9, Z9, Z9, Z9, Z9, Z9, Z9, Z9, Z9, Z9, Z9, Z9, Z9, Z9, Z9, Z9, Z9, Z9, Z9, Z9, Z9, Z9, Z9, Z9, Z9, Z9, Z9, Z9, Z9, Z9, Z9, Z9, Z9, Z9, Z9, Z9, Z9, Z9, Z9, Z9, Z9, Z9, Z9, Z9, Z9, Z9, Z9, Z9, Z9, Z9, Z9, Z9, Z9, Z9, Z9, Z9, Z9, Z9, Z9, Z9, Z9, Z9, Z9, Z9, Z9, Z9, Z9, Z9, Z9, Z9, Z9, Z9, Z9, Z9] : Array Value).getD q9 Z9), rfl, rfl, M, (by omega), rfl⟩
 clear M
 obtain ⟨t, v, u16, rfl, rfl, M, ht4, hv⟩ := hI
 obtain ⟨w17, rfl⟩ : ∃ W8, W8 = W9 := ⟨_, rfl⟩
 have hok : v.Ok := hv ▸ rnds_okq hh t
 refine Z10 (fun K18 hK18 => Z13 ?_)
 refine lCh 1 (fun Lk hLk => ?_)
 refine vBn (v := .bool (decide (t < 80))) (hr := fun W => run_lssN t 80 _ _ W) ?_
 simp only [Z0, Z6]
 refine Z19 (hLk _ (fun w20 Sw20 => ?_))
 simp only [Z7, Z8]
 replace M := M.sees Sw20
 refine lNp (hK18 _ _ ?_)
 refine Z10 (fun K21 hK21 => ?_)
 cases hc22 : (decide (t < 80))
 ·
  have et : t = 80 := by have := of_decide_eq_false hc22; omega
  subst et
  subst hv
  refine Z12 rfl ?_
  refine wp_exit ?_
  refine hK13 _ _ ?_
  refine Z10 (fun K23 hK23 => Z13 ?_)
  refine lMv (v := .int .i64 0) ?_
  simp only [Z0, Z6]
  refine lNp (hK23 _ _ ?_)
  refine wp_block ?_
  refine wp_loop_rounds 9 ?_
  rw [rounds_succ]
  refine Z10 (fun K25 hK25 => Z13 ?_)
  refine lCh 1 (fun Lk hLk => ?_)
  refine vBn (v := .bool true) (hr := fun W => run_lss _ _ _ _ W) ?_
  simp only [Z0, Z6]
  refine Z19 (hLk _ (fun w27 Sw27 => ?_))
  simp only [Z7, Z8]
  replace M := M.sees Sw27
  refine lNp (hK25 _ _ ?_)
  refine Z10 (fun K28 hK28 => ?_)
  refine Z11 rfl ?_
  refine wp_skip ?_
  refine hK28 _ _ ?_
  refine Z10 (fun K29 hK29 => ?_)
  refine wp_block ?_
  refine Z10 (fun K30 hK30 => Z13 ?_)
  refine lMv (v := .int .i64 0) ?_
  refine lAs (v := .int .i64 0) ?_
  simp only [Z0, Z6]
  refine lNp (hK30 _ _ ?_)
  refine wp_region_grow 15 [] (by kernel_rfl) (by kernel_rfl) (by kernel_rfl) (fun Lk hLk => ?_)
  simp only [Z7, Z8]
  refine vMv (v := .pointer (some ⟨g, 0, none⟩)) ?_
  simp only [Z0, Z6]
  refine vMv (v := .int .i64 0) ?_
  simp only [Z0, Z6]
  refine vNc ?_
  simp only [Z0, Z6]
  refine vGo (v := .pointer (some ⟨g, 0, none⟩)) ?_
  simp only [Z0, Z6]
  refine vGo (v := .pointer (some ⟨g, 0, none⟩)) ?_
  simp only [Z0, Z6]
  refine vGo (v := .pointer (some ⟨g, 0, none⟩)) ?_
  simp only [Z0, Z6]
  refine vL1 (v := .int .u64 h.a) (range_one (range_sub (M.r 2 0 rfl rfl) 0 1 0 (xs := [.int .u64 h.a]) rfl rfl)) (M.lt 2 rfl) U940 ?_
  simp only [Z0, Z6]
  refine vMv (v := .int .i64 0) ?_
  simp only [Z0, Z6]
  refine vGo (v := .pointer (some ⟨g10, 0, none⟩)) ?_
  simp only [Z0, Z6]
  refine vL1 (v := .int .u64 ((rndsq l h 80).a : Nat)) (range_one (range_sub (M.r 0 0 rfl rfl) 0 1 0 (xs := [.int .u64 ((rndsq l h 80).a : Nat)]) rfl rfl)) (M.lt 0 rfl) U940 ?_
  simp only [Z0, Z6]
  refine vBn (v := .int .u64 (((h.a + ((rndsq l h 80).a)) % 18446744073709551616 : Nat) : Int)) (hr := fun W => nr_add64 _ h.a ((rndsq l h 80).a) W) ?_
  simp only [Z0, Z6]
  refine vNc ?_
  simp only [Z0, Z6]
  refine vGo (v := .pointer (some ⟨g, 0, none⟩)) ?_
  simp only [Z0, Z6]
  refine vGo (v := .pointer (some ⟨g, 0, none⟩)) ?_
  simp only [Z0, Z6]
  refine vGo (v := .pointer (some ⟨g, 0, none⟩)) ?_
  simp only [Z0, Z6]
  refine Z19 (hLk.out _ ?_)
  simp only [Z7, Z8]
  iterate 15 refine Z28 (by rfl) ?_
  refine Z29 (fun w33 Sw33 hbs => ?_)
  clear hbs
  replace M := M.sees Sw33
  refine lS1 (g := g) (off := 0) (n := 10) (v := .int .u64 (((h.a + ((rndsq l h 80).a)) % 18446744073709551616 : Nat) : Int)) (M.t 2 rfl) (by decide) info40 rfl (fun w34 P R T => ?_)
  replace M := M.putI (i := 0) 2 0 rfl P R T rfl rfl (by simp) (by simp [SepS, flen])
  simp only [Z6] at M
  refine lNp (hK29 _ _ ?_)
  refine Z13 ?_
  refine lCh 1 (fun Lk hLk => ?_)
  refine vBn (v := .int .i64 1) (hr := fun W => run_add (by decide) W) ?_
  simp only [Z0, Z6]
  refine Z19 (hLk _ (fun w36 Sw36 => ?_))
  simp only [Z7, Z8]
  replace M := M.sees Sw36
  refine lMv (v := .int .i64 1) ?_
  simp only [Z0, Z6]
  refine Z14 (Z15 ?_)
  refine Z22 (Q := fun _ _ _ => True) ?_
  rw [rounds_succ]
  refine Z10 (fun K37 hK37 => Z13 ?_)
  refine lCh 1 (fun Lk hLk => ?_)
  refine vBn (v := .bool true) (hr := fun W => run_lss _ _ _ _ W) ?_
  simp only [Z0, Z6]
  refine Z19 (hLk _ (fun w39 Sw39 => ?_))
  simp only [Z7, Z8]
  replace M := M.sees Sw39
  refine lNp (hK37 _ _ ?_)
  refine Z10 (fun K40 hK40 => ?_)
  refine Z11 rfl ?_
  refine wp_skip ?_
  refine hK40 _ _ ?_
  refine Z10 (fun K41 hK41 => ?_)
  refine wp_block ?_
  refine Z10 (fun K42 hK42 => Z13 ?_)
  refine lMv (v := .int .i64 1) ?_
  refine lAs (v := .int .i64 1) ?_
  simp only [Z0, Z6]
  refine lNp (hK42 _ _ ?_)
  refine wp_region_grow 15 [] (by kernel_rfl) (by kernel_rfl) (by kernel_rfl) (fun Lk hLk => ?_)
  simp only [Z7, Z8]
  refine vMv (v := .pointer (some ⟨g, 0, none⟩)) ?_
  simp only [Z0, Z6]
  refine vMv (v := .int .i64 1) ?_
  simp only [Z0, Z6]
  refine vNc ?_
  simp only [Z0, Z6]
  refine vGo (v := .pointer (some ⟨g, 0, none⟩)) ?_
  simp only [Z0, Z6]
  refine vGo (v := .pointer (some ⟨g, 0, none⟩)) ?_
  simp only [Z0, Z6]
  refine vGo (v := .pointer (some ⟨g, 1, none⟩)) ?_
  simp only [Z0, Z6]
  refine vL1 (v := .int .u64 h.b) (range_one (range_sub (M.r 2 0 rfl rfl) 1 1 1 (xs := [.int .u64 h.b]) rfl rfl)) (M.lt 2 rfl) U940 ?_
  simp only [Z0, Z6]
  refine vMv (v := .int .i64 1) ?_
  simp only [Z0, Z6]
  refine vGo (v := .pointer (some ⟨g10, 1, none⟩)) ?_
  simp only [Z0, Z6]
  refine vL1 (v := .int .u64 ((rndsq l h 80).b : Nat)) (range_one (range_sub (M.r 0 0 rfl rfl) 1 1 1 (xs := [.int .u64 ((rndsq l h 80).b : Nat)]) rfl rfl)) (M.lt 0 rfl) U940 ?_
  simp only [Z0, Z6]
  refine vBn (v := .int .u64 (((h.b + ((rndsq l h 80).b)) % 18446744073709551616 : Nat) : Int)) (hr := fun W => nr_add64 _ h.b ((rndsq l h 80).b) W) ?_
  simp only [Z0, Z6]
  refine vNc ?_
  simp only [Z0, Z6]
  refine vGo (v := .pointer (some ⟨g, 0, none⟩)) ?_
  simp only [Z0, Z6]
  refine vGo (v := .pointer (some ⟨g, 0, none⟩)) ?_
  simp only [Z0, Z6]
  refine vGo (v := .pointer (some ⟨g, 1, none⟩)) ?_
  simp only [Z0, Z6]
  refine Z19 (hLk.out _ ?_)
  simp only [Z7, Z8]
  iterate 15 refine Z28 (by rfl) ?_
  refine Z29 (fun w45 Sw45 hbs => ?_)
  clear hbs
  replace M := M.sees Sw45
  refine lS1 (g := g) (off := 1) (n := 10) (v := .int .u64 (((h.b + ((rndsq l h 80).b)) % 18446744073709551616 : Nat) : Int)) (M.t 2 rfl) (by decide) info40 rfl (fun w46 P R T => ?_)
  replace M := M.putI (i := 1) 2 0 rfl P R T rfl rfl (by simp) (by simp [SepS, flen])
  simp only [Z6] at M
  refine lNp (hK41 _ _ ?_)
  refine Z13 ?_
  refine lCh 1 (fun Lk hLk => ?_)
  refine vBn (v := .int .i64 2) (hr := fun W => run_add (by decide) W) ?_
  simp only [Z0, Z6]
  refine Z19 (hLk _ (fun w48 Sw48 => ?_))
  simp only [Z7, Z8]
  replace M := M.sees Sw48
  refine lMv (v := .int .i64 2) ?_
  simp only [Z0, Z6]
  refine Z14 (Z15 ?_)
  refine Z22 (Q := fun _ _ _ => True) ?_
  rw [rounds_succ]
  refine Z10 (fun K49 hK49 => Z13 ?_)
  refine lCh 1 (fun Lk hLk => ?_)
  refine vBn (v := .bool true) (hr := fun W => run_lss _ _ _ _ W) ?_
  simp only [Z0, Z6]
  refine Z19 (hLk _ (fun w51 Sw51 => ?_))
  simp only [Z7, Z8]
  replace M := M.sees Sw51
  refine lNp (hK49 _ _ ?_)
  refine Z10 (fun K52 hK52 => ?_)
  refine Z11 rfl ?_
  refine wp_skip ?_
  refine hK52 _ _ ?_
  refine Z10 (fun K53 hK53 => ?_)
  refine wp_block ?_
  refine Z10 (fun K54 hK54 => Z13 ?_)
  refine lMv (v := .int .i64 2) ?_
  refine lAs (v := .int .i64 2) ?_
  simp only [Z0, Z6]
  refine lNp (hK54 _ _ ?_)
  refine wp_region_grow 15 [] (by kernel_rfl) (by kernel_rfl) (by kernel_rfl) (fun Lk hLk => ?_)
  simp only [Z7, Z8]
  refine vMv (v := .pointer (some ⟨g, 0, none⟩)) ?_
  simp only [Z0, Z6]
  refine vMv (v := .int .i64 2) ?_
  simp only [Z0, Z6]
  refine vNc ?_
  simp only [Z0, Z6]
  refine vGo (v := .pointer (some ⟨g, 0, none⟩)) ?_
  simp only [Z0, Z6]
  refine vGo (v := .pointer (some ⟨g, 0, none⟩)) ?_
  simp only [Z0, Z6]
  refine vGo (v := .pointer (some ⟨g, 2, none⟩)) ?_
  simp only [Z0, Z6]
  refine vL1 (v := .int .u64 h.c) (range_one (range_sub (M.r 2 0 rfl rfl) 2 1 2 (xs := [.int .u64 h.c]) rfl rfl)) (M.lt 2 rfl) U940 ?_
  simp only [Z0, Z6]
  refine vMv (v := .int .i64 2) ?_
  simp only [Z0, Z6]
  refine vGo (v := .pointer (some ⟨g10, 2, none⟩)) ?_
  simp only [Z0, Z6]
  refine vL1 (v := .int .u64 ((rndsq l h 80).c : Nat)) (range_one (range_sub (M.r 0 0 rfl rfl) 2 1 2 (xs := [.int .u64 ((rndsq l h 80).c : Nat)]) rfl rfl)) (M.lt 0 rfl) U940 ?_
  simp only [Z0, Z6]
  refine vBn (v := .int .u64 (((h.c + ((rndsq l h 80).c)) % 18446744073709551616 : Nat) : Int)) (hr := fun W => nr_add64 _ h.c ((rndsq l h 80).c) W) ?_
  simp only [Z0, Z6]
  refine vNc ?_
  simp only [Z0, Z6]
  refine vGo (v := .pointer (some ⟨g, 0, none⟩)) ?_
  simp only [Z0, Z6]
  refine vGo (v := .pointer (some ⟨g, 0, none⟩)) ?_
  simp only [Z0, Z6]
  refine vGo (v := .pointer (some ⟨g, 2, none⟩)) ?_
  simp only [Z0, Z6]
  refine Z19 (hLk.out _ ?_)
  simp only [Z7, Z8]
  iterate 15 refine Z28 (by rfl) ?_
  refine Z29 (fun w57 Sw57 hbs => ?_)
  clear hbs
  replace M := M.sees Sw57
  refine lS1 (g := g) (off := 2) (n := 10) (v := .int .u64 (((h.c + ((rndsq l h 80).c)) % 18446744073709551616 : Nat) : Int)) (M.t 2 rfl) (by decide) info40 rfl (fun w58 P R T => ?_)
  replace M := M.putI (i := 2) 2 0 rfl P R T rfl rfl (by simp) (by simp [SepS, flen])
  simp only [Z6] at M
  refine lNp (hK53 _ _ ?_)
  refine Z13 ?_
  refine lCh 1 (fun Lk hLk => ?_)
  refine vBn (v := .int .i64 3) (hr := fun W => run_add (by decide) W) ?_
  simp only [Z0, Z6]
  refine Z19 (hLk _ (fun w60 Sw60 => ?_))
  simp only [Z7, Z8]
  replace M := M.sees Sw60
  refine lMv (v := .int .i64 3) ?_
  simp only [Z0, Z6]
  refine Z14 (Z15 ?_)
  refine Z22 (Q := fun _ _ _ => True) ?_
  rw [rounds_succ]
  refine Z10 (fun K61 hK61 => Z13 ?_)
  refine lCh 1 (fun Lk hLk => ?_)
  refine vBn (v := .bool true) (hr := fun W => run_lss _ _ _ _ W) ?_
  simp only [Z0, Z6]
  refine Z19 (hLk _ (fun w63 Sw63 => ?_))
  simp only [Z7, Z8]
  replace M := M.sees Sw63
  refine lNp (hK61 _ _ ?_)
  refine Z10 (fun K64 hK64 => ?_)
  refine Z11 rfl ?_
  refine wp_skip ?_
  refine hK64 _ _ ?_
  refine Z10 (fun K65 hK65 => ?_)
  refine wp_block ?_
  refine Z10 (fun K66 hK66 => Z13 ?_)
  refine lMv (v := .int .i64 3) ?_
  refine lAs (v := .int .i64 3) ?_
  simp only [Z0, Z6]
  refine lNp (hK66 _ _ ?_)
  refine wp_region_grow 15 [] (by kernel_rfl) (by kernel_rfl) (by kernel_rfl) (fun Lk hLk => ?_)
  simp only [Z7, Z8]
  refine vMv (v := .pointer (some ⟨g, 0, none⟩)) ?_
  simp only [Z0, Z6]
  refine vMv (v := .int .i64 3) ?_
  simp only [Z0, Z6]
  refine vNc ?_
  simp only [Z0, Z6]
  refine vGo (v := .pointer (some ⟨g, 0, none⟩)) ?_
  simp only [Z0, Z6]
  refine vGo (v := .pointer (some ⟨g, 0, none⟩)) ?_
  simp only [Z0, Z6]
  refine vGo (v := .pointer (some ⟨g, 3, none⟩)) ?_
  simp only [Z0, Z6]
  refine vL1 (v := .int .u64 h.d) (range_one (range_sub (M.r 2 0 rfl rfl) 3 1 3 (xs := [.int .u64 h.d]) rfl rfl)) (M.lt 2 rfl) U940 ?_
  simp only [Z0, Z6]
  refine vMv (v := .int .i64 3) ?_
  simp only [Z0, Z6]
  refine vGo (v := .pointer (some ⟨g10, 3, none⟩)) ?_
  simp only [Z0, Z6]
  refine vL1 (v := .int .u64 ((rndsq l h 80).d : Nat)) (range_one (range_sub (M.r 0 0 rfl rfl) 3 1 3 (xs := [.int .u64 ((rndsq l h 80).d : Nat)]) rfl rfl)) (M.lt 0 rfl) U940 ?_
  simp only [Z0, Z6]
  refine vBn (v := .int .u64 (((h.d + ((rndsq l h 80).d)) % 18446744073709551616 : Nat) : Int)) (hr := fun W => nr_add64 _ h.d ((rndsq l h 80).d) W) ?_
  simp only [Z0, Z6]
  refine vNc ?_
  simp only [Z0, Z6]
  refine vGo (v := .pointer (some ⟨g, 0, none⟩)) ?_
  simp only [Z0, Z6]
  refine vGo (v := .pointer (some ⟨g, 0, none⟩)) ?_
  simp only [Z0, Z6]
  refine vGo (v := .pointer (some ⟨g, 3, none⟩)) ?_
  simp only [Z0, Z6]
  refine Z19 (hLk.out _ ?_)
  simp only [Z7, Z8]
  iterate 15 refine Z28 (by rfl) ?_
  refine Z29 (fun w69 Sw69 hbs => ?_)
  clear hbs
  replace M := M.sees Sw69
  refine lS1 (g := g) (off := 3) (n := 10) (v := .int .u64 (((h.d + ((rndsq l h 80).d)) % 18446744073709551616 : Nat) : Int)) (M.t 2 rfl) (by decide) info40 rfl (fun w70 P R T => ?_)
  replace M := M.putI (i := 3) 2 0 rfl P R T rfl rfl (by simp) (by simp [SepS, flen])
  simp only [Z6] at M
  refine lNp (hK65 _ _ ?_)
  refine Z13 ?_
  refine lCh 1 (fun Lk hLk => ?_)
  refine vBn (v := .int .i64 4) (hr := fun W => run_add (by decide) W) ?_
  simp only [Z0, Z6]
  refine Z19 (hLk _ (fun w72 Sw72 => ?_))
  simp only [Z7, Z8]
  replace M := M.sees Sw72
  refine lMv (v := .int .i64 4) ?_
  simp only [Z0, Z6]
  refine Z14 (Z15 ?_)
  refine Z22 (Q := fun _ _ _ => True) ?_
  rw [rounds_succ]
  refine Z10 (fun K73 hK73 => Z13 ?_)
  refine lCh 1 (fun Lk hLk => ?_)
  refine vBn (v := .bool true) (hr := fun W => run_lss _ _ _ _ W) ?_
  simp only [Z0, Z6]
  refine Z19 (hLk _ (fun w75 Sw75 => ?_))
  simp only [Z7, Z8]
  replace M := M.sees Sw75
  refine lNp (hK73 _ _ ?_)
  refine Z10 (fun K76 hK76 => ?_)
  refine Z11 rfl ?_
  refine wp_skip ?_
  refine hK76 _ _ ?_
  refine Z10 (fun K77 hK77 => ?_)
  refine wp_block ?_
  refine Z10 (fun K78 hK78 => Z13 ?_)
  refine lMv (v := .int .i64 4) ?_
  refine lAs (v := .int .i64 4) ?_
  simp only [Z0, Z6]
  refine lNp (hK78 _ _ ?_)
  refine wp_region_grow 15 [] (by kernel_rfl) (by kernel_rfl) (by kernel_rfl) (fun Lk hLk => ?_)
  simp only [Z7, Z8]
  refine vMv (v := .pointer (some ⟨g, 0, none⟩)) ?_
  simp only [Z0, Z6]
  refine vMv (v := .int .i64 4) ?_
  simp only [Z0, Z6]
  refine vNc ?_
  simp only [Z0, Z6]
  refine vGo (v := .pointer (some ⟨g, 0, none⟩)) ?_
  simp only [Z0, Z6]
  refine vGo (v := .pointer (some ⟨g, 0, none⟩)) ?_
  simp only [Z0, Z6]
  refine vGo (v := .pointer (some ⟨g, 4, none⟩)) ?_
  simp only [Z0, Z6]
  refine vL1 (v := .int .u64 h.e) (range_one (range_sub (M.r 2 0 rfl rfl) 4 1 4 (xs := [.int .u64 h.e]) rfl rfl)) (M.lt 2 rfl) U940 ?_
  simp only [Z0, Z6]
  refine vMv (v := .int .i64 4) ?_
  simp only [Z0, Z6]
  refine vGo (v := .pointer (some ⟨g10, 4, none⟩)) ?_
  simp only [Z0, Z6]
  refine vL1 (v := .int .u64 ((rndsq l h 80).e : Nat)) (range_one (range_sub (M.r 0 0 rfl rfl) 4 1 4 (xs := [.int .u64 ((rndsq l h 80).e : Nat)]) rfl rfl)) (M.lt 0 rfl) U940 ?_
  simp only [Z0, Z6]
  refine vBn (v := .int .u64 (((h.e + ((rndsq l h 80).e)) % 18446744073709551616 : Nat) : Int)) (hr := fun W => nr_add64 _ h.e ((rndsq l h 80).e) W) ?_
  simp only [Z0, Z6]
  refine vNc ?_
  simp only [Z0, Z6]
  refine vGo (v := .pointer (some ⟨g, 0, none⟩)) ?_
  simp only [Z0, Z6]
  refine vGo (v := .pointer (some ⟨g, 0, none⟩)) ?_
  simp only [Z0, Z6]
  refine vGo (v := .pointer (some ⟨g, 4, none⟩)) ?_
  simp only [Z0, Z6]
  refine Z19 (hLk.out _ ?_)
  simp only [Z7, Z8]
  iterate 15 refine Z28 (by rfl) ?_
  refine Z29 (fun w81 Sw81 hbs => ?_)
  clear hbs
  replace M := M.sees Sw81
  refine lS1 (g := g) (off := 4) (n := 10) (v := .int .u64 (((h.e + ((rndsq l h 80).e)) % 18446744073709551616 : Nat) : Int)) (M.t 2 rfl) (by decide) info40 rfl (fun w82 P R T => ?_)
  replace M := M.putI (i := 4) 2 0 rfl P R T rfl rfl (by simp) (by simp [SepS, flen])
  simp only [Z6] at M
  refine lNp (hK77 _ _ ?_)
  refine Z13 ?_
  refine lCh 1 (fun Lk hLk => ?_)
  refine vBn (v := .int .i64 5) (hr := fun W => run_add (by decide) W) ?_
  simp only [Z0, Z6]
  refine Z19 (hLk _ (fun w84 Sw84 => ?_))
  simp only [Z7, Z8]
  replace M := M.sees Sw84
  refine lMv (v := .int .i64 5) ?_
  simp only [Z0, Z6]
  refine Z14 (Z15 ?_)
  refine Z22 (Q := fun _ _ _ => True) ?_
  rw [rounds_succ]
  refine Z10 (fun K85 hK85 => Z13 ?_)
  refine lCh 1 (fun Lk hLk => ?_)
  refine vBn (v := .bool true) (hr := fun W => run_lss _ _ _ _ W) ?_
  simp only [Z0, Z6]
  refine Z19 (hLk _ (fun w87 Sw87 => ?_))
  simp only [Z7, Z8]
  replace M := M.sees Sw87
  refine lNp (hK85 _ _ ?_)
  refine Z10 (fun K88 hK88 => ?_)
  refine Z11 rfl ?_
  refine wp_skip ?_
  refine hK88 _ _ ?_
  refine Z10 (fun K89 hK89 => ?_)
  refine wp_block ?_
  refine Z10 (fun K90 hK90 => Z13 ?_)
  refine lMv (v := .int .i64 5) ?_
  refine lAs (v := .int .i64 5) ?_
  simp only [Z0, Z6]
  refine lNp (hK90 _ _ ?_)
  refine wp_region_grow 15 [] (by kernel_rfl) (by kernel_rfl) (by kernel_rfl) (fun Lk hLk => ?_)
  simp only [Z7, Z8]
  refine vMv (v := .pointer (some ⟨g, 0, none⟩)) ?_
  simp only [Z0, Z6]
  refine vMv (v := .int .i64 5) ?_
  simp only [Z0, Z6]
  refine vNc ?_
  simp only [Z0, Z6]
  refine vGo (v := .pointer (some ⟨g, 0, none⟩)) ?_
  simp only [Z0, Z6]
  refine vGo (v := .pointer (some ⟨g, 0, none⟩)) ?_
  simp only [Z0, Z6]
  refine vGo (v := .pointer (some ⟨g, 5, none⟩)) ?_
  simp only [Z0, Z6]
  refine vL1 (v := .int .u64 h.f) (range_one (range_sub (M.r 2 0 rfl rfl) 5 1 5 (xs := [.int .u64 h.f]) rfl rfl)) (M.lt 2 rfl) U940 ?_
  simp only [Z0, Z6]
  refine vMv (v := .int .i64 5) ?_
  simp only [Z0, Z6]
  refine vGo (v := .pointer (some ⟨g10, 5, none⟩)) ?_
  simp only [Z0, Z6]
  refine vL1 (v := .int .u64 ((rndsq l h 80).f : Nat)) (range_one (range_sub (M.r 0 0 rfl rfl) 5 1 5 (xs := [.int .u64 ((rndsq l h 80).f : Nat)]) rfl rfl)) (M.lt 0 rfl) U940 ?_
  simp only [Z0, Z6]
  refine vBn (v := .int .u64 (((h.f + ((rndsq l h 80).f)) % 18446744073709551616 : Nat) : Int)) (hr := fun W => nr_add64 _ h.f ((rndsq l h 80).f) W) ?_
  simp only [Z0, Z6]
  refine vNc ?_
  simp only [Z0, Z6]
  refine vGo (v := .pointer (some ⟨g, 0, none⟩)) ?_
  simp only [Z0, Z6]
  refine vGo (v := .pointer (some ⟨g, 0, none⟩)) ?_
  simp only [Z0, Z6]
  refine vGo (v := .pointer (some ⟨g, 5, none⟩)) ?_
  simp only [Z0, Z6]
  refine Z19 (hLk.out _ ?_)
  simp only [Z7, Z8]
  iterate 15 refine Z28 (by rfl) ?_
  refine Z29 (fun w93 Sw93 hbs => ?_)
  clear hbs
  replace M := M.sees Sw93
  refine lS1 (g := g) (off := 5) (n := 10) (v := .int .u64 (((h.f + ((rndsq l h 80).f)) % 18446744073709551616 : Nat) : Int)) (M.t 2 rfl) (by decide) info40 rfl (fun w94 P R T => ?_)
  replace M := M.putI (i := 5) 2 0 rfl P R T rfl rfl (by simp) (by simp [SepS, flen])
  simp only [Z6] at M
  refine lNp (hK89 _ _ ?_)
  refine Z13 ?_
  refine lCh 1 (fun Lk hLk => ?_)
  refine vBn (v := .int .i64 6) (hr := fun W => run_add (by decide) W) ?_
  simp only [Z0, Z6]
  refine Z19 (hLk _ (fun w96 Sw96 => ?_))
  simp only [Z7, Z8]
  replace M := M.sees Sw96
  refine lMv (v := .int .i64 6) ?_
  simp only [Z0, Z6]
  refine Z14 (Z15 ?_)
  refine Z22 (Q := fun _ _ _ => True) ?_
  rw [rounds_succ]
  refine Z10 (fun K97 hK97 => Z13 ?_)
  refine lCh 1 (fun Lk hLk => ?_)
  refine vBn (v := .bool true) (hr := fun W => run_lss _ _ _ _ W) ?_
  simp only [Z0, Z6]
  refine Z19 (hLk _ (fun w99 Sw99 => ?_))
  simp only [Z7, Z8]
  replace M := M.sees Sw99
  refine lNp (hK97 _ _ ?_)
  refine Z10 (fun K100 hK100 => ?_)
  refine Z11 rfl ?_
  refine wp_skip ?_
  refine hK100 _ _ ?_
  refine Z10 (fun K101 hK101 => ?_)
  refine wp_block ?_
  refine Z10 (fun K102 hK102 => Z13 ?_)
  refine lMv (v := .int .i64 6) ?_
  refine lAs (v := .int .i64 6) ?_
  simp only [Z0, Z6]
  refine lNp (hK102 _ _ ?_)
  refine wp_region_grow 15 [] (by kernel_rfl) (by kernel_rfl) (by kernel_rfl) (fun Lk hLk => ?_)
  simp only [Z7, Z8]
  refine vMv (v := .pointer (some ⟨g, 0, none⟩)) ?_
  simp only [Z0, Z6]
  refine vMv (v := .int .i64 6) ?_
  simp only [Z0, Z6]
  refine vNc ?_
  simp only [Z0, Z6]
  refine vGo (v := .pointer (some ⟨g, 0, none⟩)) ?_
  simp only [Z0, Z6]
  refine vGo (v := .pointer (some ⟨g, 0, none⟩)) ?_
  simp only [Z0, Z6]
  refine vGo (v := .pointer (some ⟨g, 6, none⟩)) ?_
  simp only [Z0, Z6]
  refine vL1 (v := .int .u64 h.g) (range_one (range_sub (M.r 2 0 rfl rfl) 6 1 6 (xs := [.int .u64 h.g]) rfl rfl)) (M.lt 2 rfl) U940 ?_
  simp only [Z0, Z6]
  refine vMv (v := .int .i64 6) ?_
  simp only [Z0, Z6]
  refine vGo (v := .pointer (some ⟨g10, 6, none⟩)) ?_
  simp only [Z0, Z6]
  refine vL1 (v := .int .u64 ((rndsq l h 80).g : Nat)) (range_one (range_sub (M.r 0 0 rfl rfl) 6 1 6 (xs := [.int .u64 ((rndsq l h 80).g : Nat)]) rfl rfl)) (M.lt 0 rfl) U940 ?_
  simp only [Z0, Z6]
  refine vBn (v := .int .u64 (((h.g + ((rndsq l h 80).g)) % 18446744073709551616 : Nat) : Int)) (hr := fun W => nr_add64 _ h.g ((rndsq l h 80).g) W) ?_
  simp only [Z0, Z6]
  refine vNc ?_
  simp only [Z0, Z6]
  refine vGo (v := .pointer (some ⟨g, 0, none⟩)) ?_
  simp only [Z0, Z6]
  refine vGo (v := .pointer (some ⟨g, 0, none⟩)) ?_
  simp only [Z0, Z6]
  refine vGo (v := .pointer (some ⟨g, 6, none⟩)) ?_
  simp only [Z0, Z6]
  refine Z19 (hLk.out _ ?_)
  simp only [Z7, Z8]
  iterate 15 refine Z28 (by rfl) ?_
  refine Z29 (fun w105 Sw105 hbs => ?_)
  clear hbs
  replace M := M.sees Sw105
  refine lS1 (g := g) (off := 6) (n := 10) (v := .int .u64 (((h.g + ((rndsq l h 80).g)) % 18446744073709551616 : Nat) : Int)) (M.t 2 rfl) (by decide) info40 rfl (fun w106 P R T => ?_)
  replace M := M.putI (i := 6) 2 0 rfl P R T rfl rfl (by simp) (by simp [SepS, flen])
  simp only [Z6] at M
  refine lNp (hK101 _ _ ?_)
  refine Z13 ?_
  refine lCh 1 (fun Lk hLk => ?_)
  refine vBn (v := .int .i64 7) (hr := fun W => run_add (by decide) W) ?_
  simp only [Z0, Z6]
  refine Z19 (hLk _ (fun w108 Sw108 => ?_))
  simp only [Z7, Z8]
  replace M := M.sees Sw108
  refine lMv (v := .int .i64 7) ?_
  simp only [Z0, Z6]
  refine Z14 (Z15 ?_)
  refine Z22 (Q := fun _ _ _ => True) ?_
  rw [rounds_succ]
  refine Z10 (fun K109 hK109 => Z13 ?_)
  refine lCh 1 (fun Lk hLk => ?_)
  refine vBn (v := .bool true) (hr := fun W => run_lss _ _ _ _ W) ?_
  simp only [Z0, Z6]
  refine Z19 (hLk _ (fun w111 Sw111 => ?_))
  simp only [Z7, Z8]
  replace M := M.sees Sw111
  refine lNp (hK109 _ _ ?_)
  refine Z10 (fun K112 hK112 => ?_)
  refine Z11 rfl ?_
  refine wp_skip ?_
  refine hK112 _ _ ?_
  refine Z10 (fun K113 hK113 => ?_)
  refine wp_block ?_
  refine Z10 (fun K114 hK114 => Z13 ?_)
  refine lMv (v := .int .i64 7) ?_
  refine lAs (v := .int .i64 7) ?_
  simp only [Z0, Z6]
  refine lNp (hK114 _ _ ?_)
  refine wp_region_grow 15 [] (by kernel_rfl) (by kernel_rfl) (by kernel_rfl) (fun Lk hLk => ?_)
  simp only [Z7, Z8]
  refine vMv (v := .pointer (some ⟨g, 0, none⟩)) ?_
  simp only [Z0, Z6]
  refine vMv (v := .int .i64 7) ?_
  simp only [Z0, Z6]
  refine vNc ?_
  simp only [Z0, Z6]
  refine vGo (v := .pointer (some ⟨g, 0, none⟩)) ?_
  simp only [Z0, Z6]
  refine vGo (v := .pointer (some ⟨g, 0, none⟩)) ?_
  simp only [Z0, Z6]
  refine vGo (v := .pointer (some ⟨g, 7, none⟩)) ?_
  simp only [Z0, Z6]
  refine vL1 (v := .int .u64 h.h) (range_one (range_sub (M.r 2 0 rfl rfl) 7 1 7 (xs := [.int .u64 h.h]) rfl rfl)) (M.lt 2 rfl) U940 ?_
  simp only [Z0, Z6]
  refine vMv (v := .int .i64 7) ?_
  simp only [Z0, Z6]
  refine vGo (v := .pointer (some ⟨g10, 7, none⟩)) ?_
  simp only [Z0, Z6]
  refine vL1 (v := .int .u64 ((rndsq l h 80).h : Nat)) (range_one (range_sub (M.r 0 0 rfl rfl) 7 1 7 (xs := [.int .u64 ((rndsq l h 80).h : Nat)]) rfl rfl)) (M.lt 0 rfl) U940 ?_
  simp only [Z0, Z6]
  refine vBn (v := .int .u64 (((h.h + ((rndsq l h 80).h)) % 18446744073709551616 : Nat) : Int)) (hr := fun W => nr_add64 _ h.h ((rndsq l h 80).h) W) ?_
  simp only [Z0, Z6]
  refine vNc ?_
  simp only [Z0, Z6]
  refine vGo (v := .pointer (some ⟨g, 0, none⟩)) ?_
  simp only [Z0, Z6]
  refine vGo (v := .pointer (some ⟨g, 0, none⟩)) ?_
  simp only [Z0, Z6]
  refine vGo (v := .pointer (some ⟨g, 7, none⟩)) ?_
  simp only [Z0, Z6]
  refine Z19 (hLk.out _ ?_)
  simp only [Z7, Z8]
  iterate 15 refine Z28 (by rfl) ?_
  refine Z29 (fun w117 Sw117 hbs => ?_)
  clear hbs
  replace M := M.sees Sw117
  refine lS1 (g := g) (off := 7) (n := 10) (v := .int .u64 (((h.h + ((rndsq l h 80).h)) % 18446744073709551616 : Nat) : Int)) (M.t 2 rfl) (by decide) info40 rfl (fun w118 P R T => ?_)
  replace M := M.putI (i := 7) 2 0 rfl P R T rfl rfl (by simp) (by simp [SepS, flen])
  simp only [Z6] at M
  refine lNp (hK113 _ _ ?_)
  refine Z13 ?_
  refine lCh 1 (fun Lk hLk => ?_)
  refine vBn (v := .int .i64 8) (hr := fun W => run_add (by decide) W) ?_
  simp only [Z0, Z6]
  refine Z19 (hLk _ (fun w120 Sw120 => ?_))
  simp only [Z7, Z8]
  replace M := M.sees Sw120
  refine lMv (v := .int .i64 8) ?_
  simp only [Z0, Z6]
  refine Z14 (Z15 ?_)
  refine Z22 (Q := fun _ _ _ => True) ?_
  rw [rounds_succ]
  refine Z10 (fun K121 hK121 => Z13 ?_)
  refine lCh 1 (fun Lk hLk => ?_)
  refine vBn (v := .bool false) (hr := fun W => run_lss _ _ _ _ W) ?_
  simp only [Z0, Z6]
  refine Z19 (hLk _ (fun w123 Sw123 => ?_))
  simp only [Z7, Z8]
  replace M := M.sees Sw123
  refine lNp (hK121 _ _ ?_)
  refine Z10 (fun K124 hK124 => ?_)
  refine Z12 rfl ?_
  refine wp_exit ?_
  repeat (first | with_reducible refine then_exit ?_ | with_reducible refine inblock_exit ?_)
  refine bodyPost_end (v := .tuple #[]) (results_none rfl _ _ _) rfl ?_
  exact ⟨_, rfl, rfl, M.pick [2] (by decide) rfl⟩
 have ht : t < 80 := of_decide_eq_true hc22
 refine Z11 rfl ?_
 refine wp_skip ?_
 refine hK21 _ _ ?_
 refine Z10 (fun K125 hK125 => ?_)
 refine wp_block ?_
 refine Z10 (fun K126 hK126 => Z13 ?_)
 refine lMv (v := .int .i64 t) ?_
 refine lAs (v := .int .i64 t) ?_
 simp only [Z0, Z6]
 refine lNp (hK126 _ _ ?_)
 refine Z10 (fun K128 hK128 => ?_)
 refine wp_region_grow 6 [] (by kernel_rfl) (by kernel_rfl) (by kernel_rfl) (fun Lk hLk => ?_)
 simp only [Z7, Z8]
 refine vGo (v := .pointer (some ⟨g10, 0, none⟩)) ?_
 simp only [Z0, Z6]
 refine vL1 (v := .int .u64 v.a) (range_one (range_sub (M.r 0 0 rfl rfl) 0 1 0 (xs := [.int .u64 v.a]) rfl rfl)) (M.lt 0 rfl) U940 ?_
 simp only [Z0, Z6]
 refine vGo (v := .pointer (some ⟨g10, 4, none⟩)) ?_
 simp only [Z0, Z6]
 refine vL1 (v := .int .u64 v.e) (range_one (range_sub (M.r 0 0 rfl rfl) 4 1 4 (xs := [.int .u64 v.e]) rfl rfl)) (M.lt 0 rfl) U940 ?_
 simp only [Z0, Z6]
 refine wpV_assign (v := .int .u64 v.a) (by rfl) rfl rfl ?_
 simp only [Z0, Z6]
 refine wpV_assign (v := .int .u64 v.e) (by rfl) rfl rfl ?_
 simp only [Z0, Z6]
 refine Z19 (hLk.out _ ?_)
 simp only [Z7, Z8]
 iterate 6 refine Z28 (by rfl) ?_
 refine Z29 (fun w130 Sw130 hbs => ?_)
 clear hbs
 replace M := M.sees Sw130
 refine lNp (hK128 _ _ ?_)
 refine Z10 (fun K131 hK131 => ?_)
 refine wp_region_grow 30 [] (by kernel_rfl) (by kernel_rfl) (by kernel_rfl) (fun Lk hLk => ?_)
 simp only [Z7, Z8]
 refine vGo (v := .pointer (some ⟨g10, 7, none⟩)) ?_
 simp only [Z0, Z6]
 refine vL1 (v := .int .u64 v.h) (range_one (range_sub (M.r 0 0 rfl rfl) 7 1 7 (xs := [.int .u64 v.h]) rfl rfl)) (M.lt 0 rfl) U940 ?_
 simp only [Z0, Z6]
 refine vMv (v := .int .u64 v.e) ?_
 simp only [Z0, Z6]
 refine Z25 (v := .int .u64 (rotrq v.e 14 : Nat)) (args := #[.int .u64 v.e, .int .i64 (-14)]) (by rfl) rfl G9160 (by kernel_rfl) (by kernel_rfl) rfl (fun W hW => (by have := rotl_cq (x := v.e) (n := 14) (w := W) hok.e (by decide) (by decide); exact this)) ?_
 simp only [Z0, Z6]
 refine vMv (v := .int .u64 v.e) ?_
 simp only [Z0, Z6]
 refine Z25 (v := .int .u64 (rotrq v.e 18 : Nat)) (args := #[.int .u64 v.e, .int .i64 (-18)]) (by rfl) rfl G9160 (by kernel_rfl) (by kernel_rfl) rfl (fun W hW => (by have := rotl_cq (x := v.e) (n := 18) (w := W) hok.e (by decide) (by decide); exact this)) ?_
 simp only [Z0, Z6]
 refine vBn (v := .int .u64 ((rotrq v.e 14) ^^^ (rotrq v.e 18) : Nat)) (hr := fun W => nr_xor64 (x := rotrq v.e 14) (y := rotrq v.e 18) (rotr_ltq hok.e (by decide)) (rotr_ltq hok.e (by decide)) W) ?_
 simp only [Z0, Z6]
 refine vMv (v := .int .u64 v.e) ?_
 simp only [Z0, Z6]
 refine Z25 (v := .int .u64 (rotrq v.e 41 : Nat)) (args := #[.int .u64 v.e, .int .i64 (-41)]) (by rfl) rfl G9160 (by kernel_rfl) (by kernel_rfl) rfl (fun W hW => (by have := rotl_cq (x := v.e) (n := 41) (w := W) hok.e (by decide) (by decide); exact this)) ?_
 simp only [Z0, Z6]
 refine vBn (v := .int .u64 (bg1q v.e : Nat)) (hr := fun W => nr_xor64 (x := (rotrq v.e 14) ^^^ (rotrq v.e 18)) (y := rotrq v.e 41) (xor_lt64 (rotr_ltq hok.e (by decide)) (rotr_ltq hok.e (by decide))) (rotr_ltq hok.e (by decide)) W) ?_
 simp only [Z0, Z6]
 refine vBn (v := .int .u64 ((v.h + (bg1q v.e)) % 18446744073709551616 : Nat)) (hr := fun W => nr_add64 _ v.h (bg1q v.e) W) ?_
 simp only [Z0, Z6]
 refine vMv (v := .int .u64 v.e) ?_
 simp only [Z0, Z6]
 refine vGo (v := .pointer (some ⟨g10, 5, none⟩)) ?_
 simp only [Z0, Z6]
 refine vL1 (v := .int .u64 v.f) (range_one (range_sub (M.r 0 0 rfl rfl) 5 1 5 (xs := [.int .u64 v.f]) rfl rfl)) (M.lt 0 rfl) U940 ?_
 simp only [Z0, Z6]
 refine vBn (v := .int .u64 (v.e &&& v.f : Nat)) (hr := fun W => nr_and64 (x := v.e) (y := v.f) hok.e hok.f W) ?_
 simp only [Z0, Z6]
 refine vMv (v := .int .u64 v.e) ?_
 simp only [Z0, Z6]
 refine wpV_un (v := .int .u64 (18446744073709551615 ^^^ v.e : Nat)) (by rfl) rfl rfl (fun W => nr_not64 (x := v.e) hok.e W) ?_
 simp only [Z0, Z6]
 refine vGo (v := .pointer (some ⟨g10, 6, none⟩)) ?_
 simp only [Z0, Z6]
 refine vL1 (v := .int .u64 v.g) (range_one (range_sub (M.r 0 0 rfl rfl) 6 1 6 (xs := [.int .u64 v.g]) rfl rfl)) (M.lt 0 rfl) U940 ?_
 simp only [Z0, Z6]
 refine vBn (v := .int .u64 ((18446744073709551615 ^^^ v.e) &&& v.g : Nat)) (hr := fun W => nr_and64 (x := 18446744073709551615 ^^^ v.e) (y := v.g) (xor_lt64 (by decide) hok.e) hok.g W) ?_
 simp only [Z0, Z6]
 refine vBn (v := .int .u64 (chsq v.e v.f v.g : Nat)) (hr := fun W => nr_xor64 (x := v.e &&& v.f) (y := (18446744073709551615 ^^^ v.e) &&& v.g) (and_lt64 hok.f) (and_lt64 hok.g) W) ?_
 simp only [Z0, Z6]
 refine vBn (v := .int .u64 (((((v.h + (bg1q v.e)) % 18446744073709551616) + (chsq v.e v.f v.g)) % 18446744073709551616 : Nat) : Int)) (hr := fun W => nr_add64 _ ((v.h + (bg1q v.e)) % 18446744073709551616) (chsq v.e v.f v.g) W) ?_
 simp only [Z0, Z6]
 refine vMv (v := .int .i64 t) ?_
 simp only [Z0, Z6]
 refine wpV_idx (n := t) (by rfl) rfl rfl rfl U9201 info40 (by omega) ?_
 simp only [Z2]
 simp only [Z0, Z6]
 refine Z34 (v := .int .u64 (keyNq t : Nat)) (by rfl) rfl rfl (zadd ((M.oldG R2_0 L2 (by simpa using Ne.symm hg)) _ _ (kcells_getq (by omega)))) (M.oldL L2) U940 rfl ?_
 simp only [Z0, Z6]
 refine vBn (v := .int .u64 (((((((v.h + (bg1q v.e)) % 18446744073709551616) + (chsq v.e v.f v.g)) % 18446744073709551616) + (keyNq t)) % 18446744073709551616 : Nat) : Int)) (hr := fun W => nr_add64 _ ((((v.h + (bg1q v.e)) % 18446744073709551616) + (chsq v.e v.f v.g)) % 18446744073709551616) (keyNq t) W) ?_
 simp only [Z0, Z6]
 refine vMv (v := .int .i64 t) ?_
 simp only [Z0, Z6]
 refine wpV_idx (n := t) (by rfl) rfl rfl rfl U9201 info40 (by omega) ?_
 simp only [Z2]
 simp only [Z0, Z6]
 refine Z34 (v := .int .u64 (shWq l t : Nat)) (by rfl) rfl rfl (zadd ((M.r 1 0 rfl rfl) _ _ (wcells_atq l (by omega) (by omega)))) (M.lt 1 rfl) U940 rfl ?_
 simp only [Z0, Z6]
 refine vBn (v := .int .u64 (oneq (keyNq t) (shWq l t) v : Nat)) (hr := fun W => nr_add64 _ ((((((v.h + (bg1q v.e)) % 18446744073709551616) + (chsq v.e v.f v.g)) % 18446744073709551616) + (keyNq t)) % 18446744073709551616) (shWq l t) W) ?_
 simp only [Z0, Z6]
 refine Z19 (hLk.out _ ?_)
 simp only [Z7, Z8]
 iterate 30 refine Z28 (by rfl) ?_
 refine Z29 (fun w133 Sw133 hbs => ?_)
 clear hbs
 replace M := M.sees Sw133
 refine lAs (v := .int .u64 (oneq (keyNq t) (shWq l t) v : Nat)) ?_
 simp only [Z0, Z6]
 refine lNp (hK131 _ _ ?_)
 refine Z10 (fun K134 hK134 => ?_)
 refine wp_region_grow 24 [] (by kernel_rfl) (by kernel_rfl) (by kernel_rfl) (fun Lk hLk => ?_)
 simp only [Z7, Z8]
 refine vMv (v := .int .u64 v.a) ?_
 simp only [Z0, Z6]
 refine Z25 (v := .int .u64 (rotrq v.a 28 : Nat)) (args := #[.int .u64 v.a, .int .i64 (-28)]) (by rfl) rfl G9160 (by kernel_rfl) (by kernel_rfl) rfl (fun W hW => (by have := rotl_cq (x := v.a) (n := 28) (w := W) hok.a (by decide) (by decide); exact this)) ?_
 simp only [Z0, Z6]
 refine vMv (v := .int .u64 v.a) ?_
 simp only [Z0, Z6]
 refine Z25 (v := .int .u64 (rotrq v.a 34 : Nat)) (args := #[.int .u64 v.a, .int .i64 (-34)]) (by rfl) rfl G9160 (by kernel_rfl) (by kernel_rfl) rfl (fun W hW => (by have := rotl_cq (x := v.a) (n := 34) (w := W) hok.a (by decide) (by decide); exact this)) ?_
 simp only [Z0, Z6]
 refine vBn (v := .int .u64 ((rotrq v.a 28) ^^^ (rotrq v.a 34) : Nat)) (hr := fun W => nr_xor64 (x := rotrq v.a 28) (y := rotrq v.a 34) (rotr_ltq hok.a (by decide)) (rotr_ltq hok.a (by decide)) W) ?_
 simp only [Z0, Z6]
 refine vMv (v := .int .u64 v.a) ?_
 simp only [Z0, Z6]
 refine Z25 (v := .int .u64 (rotrq v.a 39 : Nat)) (args := #[.int .u64 v.a, .int .i64 (-39)]) (by rfl) rfl G9160 (by kernel_rfl) (by kernel_rfl) rfl (fun W hW => (by have := rotl_cq (x := v.a) (n := 39) (w := W) hok.a (by decide) (by decide); exact this)) ?_
 simp only [Z0, Z6]
 refine vBn (v := .int .u64 (bg0q v.a : Nat)) (hr := fun W => nr_xor64 (x := (rotrq v.a 28) ^^^ (rotrq v.a 34)) (y := rotrq v.a 39) (xor_lt64 (rotr_ltq hok.a (by decide)) (rotr_ltq hok.a (by decide))) (rotr_ltq hok.a (by decide)) W) ?_
 simp only [Z0, Z6]
 refine vMv (v := .int .u64 v.a) ?_
 simp only [Z0, Z6]
 refine vGo (v := .pointer (some ⟨g10, 1, none⟩)) ?_
 simp only [Z0, Z6]
 refine vL1 (v := .int .u64 v.b) (range_one (range_sub (M.r 0 0 rfl rfl) 1 1 1 (xs := [.int .u64 v.b]) rfl rfl)) (M.lt 0 rfl) U940 ?_
 simp only [Z0, Z6]
 refine vBn (v := .int .u64 (v.a &&& v.b : Nat)) (hr := fun W => nr_and64 (x := v.a) (y := v.b) hok.a hok.b W) ?_
 simp only [Z0, Z6]
 refine vMv (v := .int .u64 v.a) ?_
 simp only [Z0, Z6]
 refine vGo (v := .pointer (some ⟨g10, 2, none⟩)) ?_
 simp only [Z0, Z6]
 refine vL1 (v := .int .u64 v.c) (range_one (range_sub (M.r 0 0 rfl rfl) 2 1 2 (xs := [.int .u64 v.c]) rfl rfl)) (M.lt 0 rfl) U940 ?_
 simp only [Z0, Z6]
 refine vBn (v := .int .u64 (v.a &&& v.c : Nat)) (hr := fun W => nr_and64 (x := v.a) (y := v.c) hok.a hok.c W) ?_
 simp only [Z0, Z6]
 refine vBn (v := .int .u64 ((v.a &&& v.b) ^^^ (v.a &&& v.c) : Nat)) (hr := fun W => nr_xor64 (x := v.a &&& v.b) (y := v.a &&& v.c) (and_lt64 hok.b) (and_lt64 hok.c) W) ?_
 simp only [Z0, Z6]
 refine vGo (v := .pointer (some ⟨g10, 1, none⟩)) ?_
 simp only [Z0, Z6]
 refine vL1 (v := .int .u64 v.b) (range_one (range_sub (M.r 0 0 rfl rfl) 1 1 1 (xs := [.int .u64 v.b]) rfl rfl)) (M.lt 0 rfl) U940 ?_
 simp only [Z0, Z6]
 refine vGo (v := .pointer (some ⟨g10, 2, none⟩)) ?_
 simp only [Z0, Z6]
 refine vL1 (v := .int .u64 v.c) (range_one (range_sub (M.r 0 0 rfl rfl) 2 1 2 (xs := [.int .u64 v.c]) rfl rfl)) (M.lt 0 rfl) U940 ?_
 simp only [Z0, Z6]
 refine vBn (v := .int .u64 (v.b &&& v.c : Nat)) (hr := fun W => nr_and64 (x := v.b) (y := v.c) hok.b hok.c W) ?_
 simp only [Z0, Z6]
 refine vBn (v := .int .u64 (majq v.a v.b v.c : Nat)) (hr := fun W => nr_xor64 (x := (v.a &&& v.b) ^^^ (v.a &&& v.c)) (y := v.b &&& v.c) (xor_lt64 (and_lt64 hok.b) (and_lt64 hok.c)) (and_lt64 hok.c) W) ?_
 simp only [Z0, Z6]
 refine vBn (v := .int .u64 (twoq v : Nat)) (hr := fun W => nr_add64 _ (bg0q v.a) (majq v.a v.b v.c) W) ?_
 simp only [Z0, Z6]
 refine Z19 (hLk.out _ ?_)
 simp only [Z7, Z8]
 iterate 24 refine Z28 (by rfl) ?_
 refine Z29 (fun w136 Sw136 hbs => ?_)
 clear hbs
 replace M := M.sees Sw136
 refine lAs (v := .int .u64 (twoq v : Nat)) ?_
 simp only [Z0, Z6]
 refine lNp (hK134 _ _ ?_)
 refine Z13 ?_
 refine lMv (v := .int .u64 (oneq (keyNq t) (shWq l t) v : Nat)) ?_
 refine lMv (v := .int .u64 (twoq v : Nat)) ?_
 simp only [Z0, Z6]
 refine lCh 16 (fun Lk hLk => ?_)
 refine vBn (v := .int .u64 ((((oneq (keyNq t) (shWq l t) v) + (twoq v)) % 18446744073709551616 : Nat) : Int)) (hr := fun W => nr_add64 _ (oneq (keyNq t) (shWq l t) v) (twoq v) W) ?_
 simp only [Z0, Z6]
 refine vMv (v := .int .u64 v.a) ?_
 simp only [Z0, Z6]
 refine vGo (v := .pointer (some ⟨g10, 1, none⟩)) ?_
 simp only [Z0, Z6]
 refine vL1 (v := .int .u64 v.b) (range_one (range_sub (M.r 0 0 rfl rfl) 1 1 1 (xs := [.int .u64 v.b]) rfl rfl)) (M.lt 0 rfl) U940 ?_
 simp only [Z0, Z6]
 refine vGo (v := .pointer (some ⟨g10, 2, none⟩)) ?_
 simp only [Z0, Z6]
 refine vL1 (v := .int .u64 v.c) (range_one (range_sub (M.r 0 0 rfl rfl) 2 1 2 (xs := [.int .u64 v.c]) rfl rfl)) (M.lt 0 rfl) U940 ?_
 simp only [Z0, Z6]
 refine vGo (v := .pointer (some ⟨g10, 3, none⟩)) ?_
 simp only [Z0, Z6]
 refine vL1 (v := .int .u64 v.d) (range_one (range_sub (M.r 0 0 rfl rfl) 3 1 3 (xs := [.int .u64 v.d]) rfl rfl)) (M.lt 0 rfl) U940 ?_
 simp only [Z0, Z6]
 refine vMv (v := .int .u64 (oneq (keyNq t) (shWq l t) v : Nat)) ?_
 simp only [Z0, Z6]
 refine vBn (v := .int .u64 (((v.d + (oneq (keyNq t) (shWq l t) v)) % 18446744073709551616 : Nat) : Int)) (hr := fun W => nr_add64 _ v.d (oneq (keyNq t) (shWq l t) v) W) ?_
 simp only [Z0, Z6]
 refine vMv (v := .int .u64 v.e) ?_
 simp only [Z0, Z6]
 refine vGo (v := .pointer (some ⟨g10, 5, none⟩)) ?_
 simp only [Z0, Z6]
 refine vL1 (v := .int .u64 v.f) (range_one (range_sub (M.r 0 0 rfl rfl) 5 1 5 (xs := [.int .u64 v.f]) rfl rfl)) (M.lt 0 rfl) U940 ?_
 simp only [Z0, Z6]
 refine vGo (v := .pointer (some ⟨g10, 6, none⟩)) ?_
 simp only [Z0, Z6]
 refine vL1 (v := .int .u64 v.g) (range_one (range_sub (M.r 0 0 rfl rfl) 6 1 6 (xs := [.int .u64 v.g]) rfl rfl)) (M.lt 0 rfl) U940 ?_
 simp only [Z0, Z6]
 refine vGk (v := .agg ([.int .u64 ((((oneq (keyNq t) (shWq l t) v) + (twoq v)) % 18446744073709551616 : Nat) : Int), .int .u64 v.a, .int .u64 v.b, .int .u64 v.c, .int .u64 (((v.d + (oneq (keyNq t) (shWq l t) v)) % 18446744073709551616 : Nat) : Int), .int .u64 v.e, .int .u64 v.f, .int .u64 v.g]).toArray) ?_
 simp only [Z0, Z6]
 refine Z19 (hLk _ (fun w138 Sw138 => ?_))
 simp only [Z7, Z8]
 replace M := M.sees Sw138
 refine lSt (g := g10) (off := 0) (n := 8) (cs := [.int .u64 ((((oneq (keyNq t) (shWq l t) v) + (twoq v)) % 18446744073709551616 : Nat) : Int), .int .u64 v.a, .int .u64 v.b, .int .u64 v.c, .int .u64 (((v.d + (oneq (keyNq t) (shWq l t) v)) % 18446744073709551616 : Nat) : Int), .int .u64 v.e, .int .u64 v.f, .int .u64 v.g]) (M.t 0 rfl) (by simp [flen]) info129 (by simp [fone, Value.oneCell']) (fun w139 P R T => ?_)
 replace M := M.putS 0 0 rfl P R T rfl ⟨.inl rfl, trivial⟩
 simp only [Z6] at M
 refine lNp (hK125 _ _ ?_)
 refine Z13 ?_
 refine lCh 1 (fun Lk hLk => ?_)
 refine vBn (v := .int .i64 (t + 1 : Nat)) (hr := fun W => run_add (by simp only [IntKind.wrap_i64]; omega) W) ?_
 simp only [Z0, Z6]
 refine Z19 (hLk _ (fun w141 Sw141 => ?_))
 simp only [Z7, Z8]
 replace M := M.sees Sw141
 refine lMv (v := .int .i64 (t + 1 : Nat)) ?_
 simp only [Z0, Z6]
 refine Z14 (Z15 ?_)
 refine Exists.intro _ ⟨?_, (t + 1), (rndq (keyNq t) (shWq l t) v), (fun q9 => (#[Z9, Z9, Z9, Z9, Z9, Z9, .int .i64 t, .int .u64 v.a, .int .u64 v.e, .int .u64 (oneq (keyNq t) (shWq l t) v : Nat), .int .u64 (twoq v : Nat), Z9, Z9, Z9, Z9, Z9, Z9, Z9, Z9, Z9, .bool true, .int .i64 t, .pointer (some ⟨g10, 0, none⟩), .int .u64 v.a, .pointer (some ⟨g10, 4, none⟩), .int .u64 v.e, .pointer (some ⟨g10, 7, none⟩), .int .u64 v.h, .int .u64 v.e, .int .u64 (rotrq v.e 14 : Nat), .int .u64 v.e, .int .u64 (rotrq v.e 18 : Nat), .int .u64 ((rotrq v.e 14) ^^^ (rotrq v.e 18) : Nat), .int .u64 v.e, .int .u64 (rotrq v.e 41 : Nat), .int .u64 (bg1q v.e : Nat), .int .u64 ((v.h + (bg1q v.e)) % 18446744073709551616 : Nat), .int .u64 v.e, .pointer (some ⟨g10, 5, none⟩), .int .u64 v.f, .int .u64 (v.e &&& v.f : Nat), .int .u64 v.e, .int .u64 (18446744073709551615 ^^^ v.e : Nat), .pointer (some ⟨g10, 6, none⟩), .int .u64 v.g, .int .u64 ((18446744073709551615 ^^^ v.e) &&& v.g : Nat), .int .u64 (chsq v.e v.f v.g : Nat), .int .u64 (((((v.h + (bg1q v.e)) % 18446744073709551616) + (chsq v.e v.f v.g)) % 18446744073709551616 : Nat) : Int), .int .i64 t, .pointer (some ⟨2, t, none⟩), .int .u64 (keyNq t : Nat), .int .u64 (((((((v.h + (bg1q v.e)) % 18446744073709551616) + (chsq v.e v.f v.g)) % 18446744073709551616) + (keyNq t)) % 18446744073709551616 : Nat) : Int), .int .i64 t, .pointer (some ⟨g4, t, none⟩), .int .u64 (shWq l t : Nat), .int .u64 (oneq (keyNq t) (shWq l t) v : Nat), .int .u64 v.a, .int .u64 (rotrq v.a 28 : Nat), .int .u64 v.a, .int .u64 (rotrq v.a 34 : Nat), .int .u64 ((rotrq v.a 28) ^^^ (rotrq v.a 34) : Nat), .int .u64 v.a, .int .u64 (rotrq v.a 39 : Nat), .int .u64 (bg0q v.a : Nat), .int .u64 v.a, .pointer (some ⟨g10, 1, none⟩), .int .u64 v.b, .int .u64 (v.a &&& v.b : Nat), .int .u64 v.a, .pointer (some ⟨g10, 2, none⟩), .int .u64 v.c, .int .u64 (v.a &&& v.c : Nat), .int .u64 ((v.a &&& v.b) ^^^ (v.a &&& v.c) : Nat), .pointer (some ⟨g10, 1, none⟩), .int .u64 v.b, .pointer (some ⟨g10, 2, none⟩), .int .u64 v.c, .int .u64 (v.b &&& v.c : Nat), .int .u64 (majq v.a v.b v.c : Nat), .int .u64 (twoq v : Nat), .int .u64 (oneq (keyNq t) (shWq l t) v : Nat), .int .u64 (twoq v : Nat), .int .u64 ((((oneq (keyNq t) (shWq l t) v) + (twoq v)) % 18446744073709551616 : Nat) : Int), .int .u64 v.a, .pointer (some ⟨g10, 1, none⟩), .int .u64 v.b, .pointer (some ⟨g10, 2, none⟩), .int .u64 v.c, .pointer (some ⟨g10, 3, none⟩), .int .u64 v.d, .int .u64 (oneq (keyNq t) (shWq l t) v : Nat), .int .u64 (((v.d + (oneq (keyNq t) (shWq l t) v)) % 18446744073709551616 : Nat) : Int), .int .u64 v.e, .pointer (some ⟨g10, 5, none⟩), .int .u64 v.f, .pointer (some ⟨g10, 6, none⟩), .int .u64 v.g, .agg ([.int .u64 ((((oneq (keyNq t) (shWq l t) v) + (twoq v)) % 18446744073709551616 : Nat) : Int), .int .u64 v.a, .int .u64 v.b, .int .u64 v.c, .int .u64 (((v.d + (oneq (keyNq t) (shWq l t) v)) % 18446744073709551616 : Nat) : Int), .int .u64 v.e, .int .u64 v.f, .int .u64 v.g]).toArray, .int .i64 (t + 1 : Nat)] : Array Value).getD q9 Z9), rfl, rfl, M, (by omega), (by rw [hv]; rfl)⟩
 omega
set_option maxHeartbeats 4000000 in
theorem take_cq {g n : Nat} {h : S8q} {b l : List UInt8} {w : World} (hh : h.Ok) (hb : b.length < 128) (hl : l.length ≤ 9223372036854775680) (hg : g ≠ 2) (L2 : 2 < w.heap.size) (R2_0 : w.rangeAt 2 0 kcellsq) (hM : Mem [g] w w [⟨g, 10, [(0, [.int .u64 h.a, .int .u64 h.b, .int .u64 h.c, .int .u64 h.d, .int .u64 h.e, .int .u64 h.f, .int .u64 h.g, .int .u64 h.h]), (8, [.string (bs b)]), (9, [.int .u64 n])]⟩]) :
  Calls Tryd.prog 123 #[.pointer (some ⟨g, 0, none⟩), .string (bs l)] w fun e w' => ∃ v, e = .returned v ∧ v = .tuple #[] ∧ Mem [g] w w' [⟨g, 10, [(0, [.int .u64 ((takeHq h (b ++ l)).a : Nat), .int .u64 ((takeHq h (b ++ l)).b : Nat), .int .u64 ((takeHq h (b ++ l)).c : Nat), .int .u64 ((takeHq h (b ++ l)).d : Nat), .int .u64 ((takeHq h (b ++ l)).e : Nat), .int .u64 ((takeHq h (b ++ l)).f : Nat), .int .u64 ((takeHq h (b ++ l)).g : Nat), .int .u64 ((takeHq h (b ++ l)).h : Nat)]), (8, [.string (bs (takeRq (b ++ l)))]), (9, [.int .u64 (((n + l.length) % 18446744073709551616) : Nat)])]⟩] := by
 go_enter Tryd.func123, Tryd.ntmps123
 have M := hM
 refine Z10 (fun K1 hK1 => Z13 ?_)
 refine lMv (v := .pointer (some ⟨g, 0, none⟩)) ?_
 simp only [Z0, Z6]
 refine lCh 11 (fun Lk hLk => ?_)
 refine vNc ?_
 simp only [Z0, Z6]
 refine vGo (v := .pointer (some ⟨g, 0, none⟩)) ?_
 simp only [Z0, Z6]
 refine vGo (v := .pointer (some ⟨g, 9, none⟩)) ?_
 simp only [Z0, Z6]
 refine vL1 (v := .int .u64 n) (range_one (M.r 0 2 rfl rfl)) (M.lt 0 rfl) U940 ?_
 simp only [Z0, Z6]
 refine vMv (v := .string (bs l)) ?_
 simp only [Z0, Z6]
 refine wpV_lenS (by rfl) rfl rfl rfl U99 ?_
 simp only [Z0, Z6]
 refine wpV_conv (d := .bool) (e := ((l.length : Nat) : Int)) (by rfl) rfl rfl (run_conv_int Tryd.underlying3 U940 ((wrap64N _).trans (congrArg _ (Z5 (by omega))))) ?_
 simp only [Z0, Z6]
 refine vBn (v := .int .u64 ((n + l.length) % 18446744073709551616 : Nat)) (hr := fun W => nr_add64 _ n l.length W) ?_
 simp only [Z0, Z6]
 refine vNc ?_
 simp only [Z0, Z6]
 refine vGo (v := .pointer (some ⟨g, 0, none⟩)) ?_
 simp only [Z0, Z6]
 refine vGo (v := .pointer (some ⟨g, 9, none⟩)) ?_
 simp only [Z0, Z6]
 refine Z19 (hLk _ (fun w3 Sw3 => ?_))
 simp only [Z7, Z8]
 replace M := M.sees Sw3
 refine lS1 (g := g) (off := 9) (n := 10) (v := .int .u64 ((n + l.length) % 18446744073709551616 : Nat)) (M.t 0 rfl) (by decide) info40 rfl (fun w4 P R T => ?_)
 replace M := M.putS (new := [.int .u64 ((n + l.length) % 18446744073709551616 : Nat)]) 0 2 rfl P R T rfl (by simp [SepS, flen])
 simp only [Z6] at M
 refine lNp (hK1 _ _ ?_)
 refine Z10 (fun K5 hK5 => Z13 ?_)
 refine lMv (v := .pointer (some ⟨g, 0, none⟩)) ?_
 simp only [Z0, Z6]
 refine lCh 6 (fun Lk hLk => ?_)
 refine vNc ?_
 simp only [Z0, Z6]
 refine vGo (v := .pointer (some ⟨g, 0, none⟩)) ?_
 simp only [Z0, Z6]
 refine vGo (v := .pointer (some ⟨g, 8, none⟩)) ?_
 simp only [Z0, Z6]
 refine vL1 (v := .string (bs b)) (range_one (M.r 0 1 rfl rfl)) (M.lt 0 rfl) U99 ?_
 simp only [Z0, Z6]
 refine vMv (v := .string (bs l)) ?_
 simp only [Z0, Z6]
 refine wpV_binS (v := .string (bs (b ++ l))) (by rfl) rfl rfl rfl (run_add_bs _ _ _ (by omega)) ?_
 simp only [Z0, Z6]
 refine Z19 (hLk _ (fun w7 Sw7 => ?_))
 simp only [Z7, Z8]
 replace M := M.sees Sw7
 refine lAs (v := .string (bs (b ++ l))) ?_
 simp only [Z0, Z6]
 refine lNp (hK5 _ _ ?_)
 refine Z10 (fun K8 hK8 => ?_)
 refine wp_block ?_
 refine wp_loop_ghost (fun n9 a9 W9 => ∃ (r : List UInt8) (s : S8q) (u9 : Nat → Value), n9 = r.length ∧ a9 = { tmps := #[.pointer (some ⟨g, 0, none⟩), .string (bs r), Z9, Z9, .pointer (some ⟨g, 0, none⟩), .pointer (some ⟨g, 0, none⟩), .pointer (some ⟨g, 0, none⟩), .pointer (some ⟨g, 9, none⟩), .int .u64 n, .string (bs l), .int .i64 l.length, .int .u64 l.length, .int .u64 ((n + l.length) % 18446744073709551616 : Nat), .pointer (some ⟨g, 0, none⟩), .pointer (some ⟨g, 0, none⟩), .pointer (some ⟨g, 9, none⟩), .pointer (some ⟨g, 0, none⟩), .pointer (some ⟨g, 0, none⟩), .pointer (some ⟨g, 0, none⟩), .pointer (some ⟨g, 8, none⟩), .string (bs b), .string (bs l), .string (bs (b ++ l)), u9 23, u9 24, u9 25, u9 26, u9 27, u9 28, u9 29, u9 30, Z9, Z9, Z9, Z9, Z9], defers := [] } ∧ Mem [g] w W9 [⟨g, 10, [(0, [.int .u64 s.a, .int .u64 s.b, .int .u64 s.c, .int .u64 s.d, .int .u64 s.e, .int .u64 s.f, .int .u64 s.g, .int .u64 s.h]), (8, [.string (bs b)]), (9, [.int .u64 (((n + l.length) % 18446744073709551616) : Nat)])]⟩] ∧ (s.Ok) ∧ (takeHq s r = takeHq h (b ++ l)) ∧ (takeRq r = takeRq (b ++ l))) ((b ++ l).length) ?_ (fun n9 a9 W9 hI => ?_)
 ·
  exact ⟨(b ++ l), h, (fun q9 => (#[Z9, Z9, Z9, Z9, Z9, Z9, Z9, Z9, Z9, Z9, Z9, Z9, Z9, Z9, Z9, Z9, Z9, Z9, Z9, Z9, Z9, Z9, Z9, Z9, Z9, Z9, Z9, Z9, Z9, Z9, Z9] : Array Value).getD q9 Z9), rfl, rfl, M, hh, rfl, rfl⟩
 clear M
 obtain ⟨r, s, u9, rfl, rfl, M, hs, hH, hR⟩ := hI
 obtain ⟨w10, rfl⟩ : ∃ W8, W8 = W9 := ⟨_, rfl⟩
 refine Z10 (fun K11 hK11 => ?_)
 refine Z10 (fun K12 hK12 => Z13 ?_)
 refine lMv (v := .string (bs r)) ?_
 simp only [Z0, Z6]
 refine lCh 2 (fun Lk hLk => ?_)
 refine wpV_lenS (by rfl) rfl rfl rfl U99 ?_
 simp only [Z0, Z6]
 refine vBn (v := .bool (decide (128 ≤ r.length))) (hr := fun W => run_geqN r.length 128 _ _ W) ?_
 simp only [Z0, Z6]
 refine Z19 (hLk _ (fun w14 Sw14 => ?_))
 simp only [Z7, Z8]
 replace M := M.sees Sw14
 refine lNp (hK12 _ _ ?_)
 cases hc15 : (decide (128 ≤ r.length))
 ·
  have h64 : ¬ 128 ≤ r.length := of_decide_eq_false hc15
  rw [takeH_doneq h64] at hH
  rw [takeR_doneq h64] at hR
  subst hH hR
  refine Z12 rfl ?_
  refine wp_exit ?_
  refine hK8 _ _ ?_
  refine Z13 ?_
  refine lMv (v := .pointer (some ⟨g, 0, none⟩)) ?_
  refine lMv (v := .string (bs (takeRq (b ++ l)))) ?_
  simp only [Z0, Z6]
  refine lCh 3 (fun Lk hLk => ?_)
  refine vNc ?_
  simp only [Z0, Z6]
  refine vGo (v := .pointer (some ⟨g, 0, none⟩)) ?_
  simp only [Z0, Z6]
  refine vGo (v := .pointer (some ⟨g, 8, none⟩)) ?_
  simp only [Z0, Z6]
  refine Z19 (hLk _ (fun w17 Sw17 => ?_))
  simp only [Z7, Z8]
  replace M := M.sees Sw17
  refine lS1 (g := g) (off := 8) (n := 10) (v := .string (bs (takeRq (b ++ l)))) (M.t 0 rfl) (by decide) info9 rfl (fun w18 P R T => ?_)
  replace M := M.putS (new := [.string (bs (takeRq (b ++ l)))]) 0 1 rfl P R T rfl (by simp [SepS, flen])
  simp only [Z6] at M
  refine Z14 (Z15 ?_)
  repeat (first | with_reducible refine then_exit ?_ | with_reducible refine inblock_exit ?_)
  refine bodyPost_end (v := .tuple #[]) (results_none rfl _ _ _) rfl ?_
  exact ⟨_, rfl, rfl, M.pick [0] (by decide) rfl⟩
 have h64 : 128 ≤ r.length := of_decide_eq_true hc15
 refine Z11 rfl ?_
 refine wp_skip ?_
 refine hK11 _ _ ?_
 refine Z10 (fun K19 hK19 => ?_)
 refine wp_block ?_
 refine Z13 ?_
 refine lMv (v := .pointer (some ⟨g, 0, none⟩)) ?_
 refine lMv (v := .string (bs r)) ?_
 simp only [Z0, Z6]
 refine wpL_callM (f := 148) (args := #[.pointer (some ⟨g, 0, none⟩), .string (bs r)]) (R := fun v9 W9 => v9 = .tuple #[] ∧ Mem [g] w14 W9 [⟨g, 10, [(0, [.int .u64 ((mixSq s r).a : Nat), .int .u64 ((mixSq s r).b : Nat), .int .u64 ((mixSq s r).c : Nat), .int .u64 ((mixSq s r).d : Nat), .int .u64 ((mixSq s r).e : Nat), .int .u64 ((mixSq s r).f : Nat), .int .u64 ((mixSq s r).g : Nat), .int .u64 ((mixSq s r).h : Nat)]), (8, [.string (bs b)]), (9, [.int .u64 (((n + l.length) % 18446744073709551616) : Nat)])]⟩]) (by rfl) (by rfl) rfl Tryd.func148 (by kernel_rfl) (by kernel_rfl) (mix_cq (h := s) (l := r) hs h64 hg (M.oldL L2) (M.oldG R2_0 L2 (by simpa using Ne.symm hg)) (M.one 0 rfl)) (fun v9 w21 h9 => ?_)
 obtain ⟨rfl, M9⟩ := h9
 replace M := M.callM1 0 rfl M9
 simp only [Z6] at M
 simp only [Z0, Z6]
 refine lNp (hK19 _ _ ?_)
 refine Z13 ?_
 refine lMv (v := .string (bs r)) ?_
 simp only [Z0, Z6]
 refine lCh 1 (fun Lk hLk => ?_)
 refine wpV_drop (l := r) (lo := 128) (by rfl) rfl rfl rfl U99 h64 ?_
 simp only [Z0, Z6]
 refine Z19 (hLk _ (fun w23 Sw23 => ?_))
 simp only [Z7, Z8]
 replace M := M.sees Sw23
 refine lAs (v := .string (bs (r.drop 128))) ?_
 simp only [Z0, Z6]
 refine Z14 (Z15 ?_)
 refine Exists.intro _ ⟨?_, (r.drop 128), (mixSq s r), (fun q9 => (#[Z9, Z9, Z9, Z9, Z9, Z9, Z9, Z9, Z9, Z9, Z9, Z9, Z9, Z9, Z9, Z9, Z9, Z9, Z9, Z9, Z9, Z9, Z9, .string (bs r), .int .i64 r.length, .bool true, .string (bs r), .string (bs (r.drop 128)), .pointer (some ⟨g, 0, none⟩), .string (bs r), .tuple #[]] : Array Value).getD q9 Z9), rfl, rfl, M, (plus8_okq ..), ((takeH_moreq h64).symm.trans hH), ((takeR_moreq h64).symm.trans hR)⟩
 rw [List.length_drop]; omega
end Go.Proofs.Yc

namespace Go.Proofs
open Go.Shelf
open Tryd renaming func102 → G9102, func104 → G9104, func137 → G9137, func87 → G987, underlying0 → U90, underlying105 → U9105, underlying107 → U9107, underlying125 → U9125, underlying147 → U9147, underlying148 → U9148, underlying150 → U9150, underlying185 → U9185, underlying20 → U920, underlying29 → U929, underlying3 → U93, underlying4 → U94, underlying40 → U940, underlying5 → U95, underlying9 → U99, underlying99 → U999
def Tryd.lays170_ren : Go.Shelf.Ren := ⟨fun | 170 => 70 | n => n, fun | 70 => 105 | 3 => 3 | 0 => 0 | 72 => 107 | 37 => 29 | 5 => 5 | n => n, fun | n => n⟩
theorem Tryd.lays170 : Go.Proofs.Lays.n170 Tryd.prog Tryd.lays170_ren := {
 mixed := by kernel_rfl
 f170 := Tryd.func70.trans (congrArg some (by kernel_rfl))
 t0 := U90
 a0 := Tryd.isAgg0
 z0 := Tryd.sizeOf0
 v0 := Tryd.zeroValue0
 t3 := U93
 a3 := Tryd.isAgg3
 z3 := Tryd.sizeOf3
 v3 := Tryd.zeroValue3
 t37 := U929
 a37 := Tryd.isAgg29
 z37 := Tryd.sizeOf29
 v37 := Tryd.zeroValue29
 t70 := U9105
 a70 := Tryd.isAgg105
 z70 := Tryd.sizeOf105
 v70 := Tryd.zeroValue105
 t72 := U9107
 a72 := Tryd.isAgg107
 z72 := Tryd.sizeOf107
 v72 := Tryd.zeroValue107 }
open Go.RowKit in
/-- (*strings.Builder).Len: "Len returns the number of accumulated bytes; b.Len() == len(b.String()).": the world is as it was. (LAID: no walk: one application.) -/
theorem Tryd.Builder_Len (B b : Nat) (bs : List Value) (w : World) (h : Lib.IsBuilder 107 5 B b bs w) :
  Calls Tryd.prog 70 #[.pointer (some ⟨b, 0, none⟩)] w fun e w' => e = .returned (.int .i64 bs.length) ∧ w' = w := Any.Builder_Len Tryd.lays170 B b bs w h
def Tryd.lays169_ren : Go.Shelf.Ren := ⟨fun | 169 => 71 | n => n, fun | 70 => 105 | 9 => 9 | 0 => 0 | 72 => 107 | 37 => 29 | 127 => 150 | 3 => 3 | 5 => 5 | n => n, fun | n => n⟩
theorem Tryd.lays169 : Go.Proofs.Lays.n169 Tryd.prog Tryd.lays169_ren := {
 mixed := by kernel_rfl
 f169 := Tryd.func71.trans (congrArg some (by kernel_rfl))
 t0 := U90
 a0 := Tryd.isAgg0
 z0 := Tryd.sizeOf0
 v0 := Tryd.zeroValue0
 t3 := U93
 a3 := Tryd.isAgg3
 z3 := Tryd.sizeOf3
 v3 := Tryd.zeroValue3
 t9 := U99
 a9 := Tryd.isAgg9
 z9 := Tryd.sizeOf9
 v9 := Tryd.zeroValue9
 t37 := U929
 a37 := Tryd.isAgg29
 z37 := Tryd.sizeOf29
 v37 := Tryd.zeroValue29
 t70 := U9105
 a70 := Tryd.isAgg105
 z70 := Tryd.sizeOf105
 v70 := Tryd.zeroValue105
 t72 := U9107
 a72 := Tryd.isAgg107
 z72 := Tryd.sizeOf107
 v72 := Tryd.zeroValue107
 t127 := U9150
 a127 := Tryd.isAgg150
 z127 := Tryd.sizeOf150
 v127 := Tryd.zeroValue150 }
theorem Tryd.Builder_Extra_169 : Builder.Extra Tryd.prog Tryd.lays169_ren := {
 sizeBuilder := by kernel_rfl
 liesBuilder := by kernel_rfl
 t5 := U95
 a5 := Tryd.isAgg5
 z5 := Tryd.sizeOf5
 v5 := Tryd.zeroValue5
 infoByte := by kernel_rfl
 cellsByte := by kernel_rfl
 sizeByte := by kernel_rfl
 neB5 := by decide }
open Go.RowKit in
/-- (*strings.Builder).String: "String returns the accumulated string.": OF A BUILDER THAT HOLDS AT LEAST ONE BYTE. ✋ THE MODEL FREEZES THOSE BYTES IN THE BUFFER (unsafe.String): a later write INTO them ends the model's run without an answer; a later append BEHIND them goes on. The statement's order of evaluation is drawn: one draw. (LAID: no walk: one application.) -/
theorem Tryd.Builder_String (B b : Nat) (l : List UInt8) (w : World) (h : Lib.IsBuilder 107 5 B b (Lib.byteCells l) w) (h0 : l ≠ []) :
  Calls Tryd.prog 71 #[.pointer (some ⟨b, 0, none⟩)] w fun e w' => e = .returned (.string ⟨l.toArray⟩) ∧ Below B w w' := Any.Builder_String Tryd.lays169 Tryd.Builder_Extra_169 B b l w h h0
open Go.RowKit in
/-- (*strings.Builder).String OF A BUILDER THAT HOLDS NO BYTE: the empty string. (Its buffer is nil, or a row of which it has taken nothing yet; where that row has NO capacity the model lays one new block for unsafe.SliceData's 'some address'.) One draw. (LAID: no walk: one application.) -/
theorem Tryd.Builder_String_empty (B b : Nat) (w : World) (h : Lib.IsBuilder 107 5 B b [] w) (hBw : B ≤ w.heap.size) :
  Calls Tryd.prog 71 #[.pointer (some ⟨b, 0, none⟩)] w fun e w' => e = .returned (.string ⟨#[]⟩) ∧ Below B w w' := Any.Builder_String_empty Tryd.lays169 Tryd.Builder_Extra_169 B b w h hBw
open Go.RowKit in
/-- (*strings.Builder).String: "String returns the accumulated string.": WHATEVER THE BUILDER HOLDS. (LAID: no walk: one application.) -/
theorem Tryd.Builder_String_any (B b : Nat) (l : List UInt8) (w : World) (h : Lib.IsBuilder 107 5 B b (Lib.byteCells l) w) (hBw : B ≤ w.heap.size) :
  Calls Tryd.prog 71 #[.pointer (some ⟨b, 0, none⟩)] w fun e w' => e = .returned (.string ⟨l.toArray⟩) ∧ Below B w w' := Any.Builder_String_any Tryd.lays169 Tryd.Builder_Extra_169 B b l w h hBw
def Tryd.lays241_ren : Go.Shelf.Ren := ⟨fun | 241 => 104 | 277 => 137 | n => n, fun | 70 => 105 | 3 => 3 | 0 => 0 | 72 => 107 | 37 => 29 | 5 => 5 | n => n, fun | n => n⟩
theorem Tryd.lays241 : Go.Proofs.Lays.n241 Tryd.prog Tryd.lays241_ren := {
 mixed := by kernel_rfl
 f241 := G9104.trans (congrArg some (by kernel_rfl))
 f277 := G9137.trans (congrArg some (by kernel_rfl))
 t0 := U90
 a0 := Tryd.isAgg0
 z0 := Tryd.sizeOf0
 v0 := Tryd.zeroValue0
 t3 := U93
 a3 := Tryd.isAgg3
 z3 := Tryd.sizeOf3
 v3 := Tryd.zeroValue3
 t37 := U929
 a37 := Tryd.isAgg29
 z37 := Tryd.sizeOf29
 v37 := Tryd.zeroValue29
 t70 := U9105
 a70 := Tryd.isAgg105
 z70 := Tryd.sizeOf105
 v70 := Tryd.zeroValue105
 t72 := U9107
 a72 := Tryd.isAgg107
 z72 := Tryd.sizeOf107
 v72 := Tryd.zeroValue107 }
theorem Tryd.Builder_Extra_241 : Builder.Extra Tryd.prog Tryd.lays241_ren := {
 sizeBuilder := by kernel_rfl
 liesBuilder := by kernel_rfl
 t5 := U95
 a5 := Tryd.isAgg5
 z5 := Tryd.sizeOf5
 v5 := Tryd.zeroValue5
 infoByte := by kernel_rfl
 cellsByte := by kernel_rfl
 sizeByte := by kernel_rfl
 neB5 := by decide }
open Go.RowKit in
/-- (*strings.Builder).grow (no doc but "grow copies the buffer to a new, larger buffer so that there are at least n bytes of capacity beyond len(b.buf)."): AT A BUILDER WITHOUT A BUFFER: a new row of whatever bytes for its buffer, none of them its own yet. Three draws. (LAID: no walk: one application.) -/
theorem Tryd.Builder_grow_fresh (B b n : Nat) (w : World) (hB : B ≤ b) (hbk : w.heap[b]? = some (.cells #[.pointer (some ⟨b, 0, none⟩), .slice none 0 0] 107 (0, 0))) (hBw : B ≤ w.heap.size) (hn : n ≤ 281474976710656) :
  Calls Tryd.prog 104 #[.pointer (some ⟨b, 0, none⟩), .int .i64 n] w fun e w' => e = .returned (.tuple #[]) ∧ (Lib.BuilderAt 107 5 B b (.pointer (some ⟨b, 0, none⟩)) [] w' ∧ Below B w w') := Any.Builder_grow_fresh Tryd.lays241 Tryd.Builder_Extra_241 B b n w hB hbk hBw hn
def Tryd.lays165_ren : Go.Shelf.Ren := ⟨fun | 165 => 68 | 240 => 103 | 241 => 104 | 276 => 136 | 277 => 137 | n => n, fun | 70 => 105 | 3 => 3 | 0 => 0 | 4 => 4 | 9 => 9 | 20 => 20 | 72 => 107 | 37 => 29 | 164 => 185 | 5 => 5 | n => n, fun | n => n⟩
theorem Tryd.lays165 : Go.Proofs.Lays.n165 Tryd.prog Tryd.lays165_ren := {
 mixed := by kernel_rfl
 f165 := Tryd.func68.trans (congrArg some (by kernel_rfl))
 f240 := Tryd.func103.trans (congrArg some (by kernel_rfl))
 f241 := G9104.trans (congrArg some (by kernel_rfl))
 f276 := Tryd.func136.trans (congrArg some (by kernel_rfl))
 f277 := G9137.trans (congrArg some (by kernel_rfl))
 t0 := U90
 a0 := Tryd.isAgg0
 z0 := Tryd.sizeOf0
 v0 := Tryd.zeroValue0
 t3 := U93
 a3 := Tryd.isAgg3
 z3 := Tryd.sizeOf3
 v3 := Tryd.zeroValue3
 t4 := U94
 a4 := Tryd.isAgg4
 z4 := Tryd.sizeOf4
 v4 := Tryd.zeroValue4
 t9 := U99
 a9 := Tryd.isAgg9
 z9 := Tryd.sizeOf9
 v9 := Tryd.zeroValue9
 t20 := U920
 a20 := Tryd.isAgg20
 z20 := Tryd.sizeOf20
 v20 := Tryd.zeroValue20
 t37 := U929
 a37 := Tryd.isAgg29
 z37 := Tryd.sizeOf29
 v37 := Tryd.zeroValue29
 t70 := U9105
 a70 := Tryd.isAgg105
 z70 := Tryd.sizeOf105
 v70 := Tryd.zeroValue105
 t72 := U9107
 a72 := Tryd.isAgg107
 z72 := Tryd.sizeOf107
 v72 := Tryd.zeroValue107
 t164 := U9185
 a164 := Tryd.isAgg185
 z164 := Tryd.sizeOf185
 v164 := Tryd.zeroValue185 }
theorem Tryd.Builder_Extra_165 : Builder.Extra Tryd.prog Tryd.lays165_ren := {
 sizeBuilder := by kernel_rfl
 liesBuilder := by kernel_rfl
 t5 := U95
 a5 := Tryd.isAgg5
 z5 := Tryd.sizeOf5
 v5 := Tryd.zeroValue5
 infoByte := by kernel_rfl
 cellsByte := by kernel_rfl
 sizeByte := by kernel_rfl
 neB5 := by decide }
open Go.RowKit in
/-- (*strings.Builder).Grow AT A BUILDER THAT HAS NOT BEEN WRITTEN ('var b strings.Builder; b.Grow(n)'): "Grow grows b's capacity, if necessary, to guarantee space for another n bytes.": it holds no byte behind it as before it. (LAID: no walk: one application.) -/
theorem Tryd.Builder_Grow_fresh (B b n : Nat) (w : World) (hB : B ≤ b) (hbk : w.heap[b]? = some (.cells #[.pointer none, .slice none 0 0] 107 (0, 0))) (hBw : B ≤ w.heap.size) (hn : n ≤ 281474976710656) :
  Calls Tryd.prog 68 #[.pointer (some ⟨b, 0, none⟩), .int .i64 n] w fun e w' => e = .returned (.tuple #[]) ∧ (Lib.BuilderAt 107 5 B b (.pointer (some ⟨b, 0, none⟩)) [] w' ∧ Below B w w') := Any.Builder_Grow_fresh Tryd.lays165 Tryd.Builder_Extra_165 B b n w hB hbk hBw hn
def Tryd.lays137_ren : Go.Shelf.Ren := ⟨fun | 137 => 81 | 217 => 121 | 266 => 147 | n => n, fun | 9 => 9 | 5 => 5 | 3 => 3 | n => n, fun | n => n⟩
theorem Tryd.lays137 : Go.Proofs.Lays.n137 Tryd.prog Tryd.lays137_ren := {
 mixed := by kernel_rfl
 f137 := Tryd.func81.trans (congrArg some (by kernel_rfl))
 f217 := Tryd.func121.trans (congrArg some (by kernel_rfl))
 f266 := Tryd.func147.trans (congrArg some (by kernel_rfl))
 t3 := U93
 a3 := Tryd.isAgg3
 z3 := Tryd.sizeOf3
 v3 := Tryd.zeroValue3
 t5 := U95
 a5 := Tryd.isAgg5
 z5 := Tryd.sizeOf5
 v5 := Tryd.zeroValue5
 t9 := U99
 a9 := Tryd.isAgg9
 z9 := Tryd.sizeOf9
 v9 := Tryd.zeroValue9 }
open Go.RowKit in
/-- strings.IndexByte: "IndexByte returns the index of the first instance of c in s, or -1 if c is not present in s.": IT RETURNS 'Lib.indexByte s c'; the world is as it was. (LAID: no walk: one application.) -/
theorem Tryd.strings_IndexByte (s : ByteArray) (c : Int) (w : World) :
  Calls Tryd.prog 81 #[.string s, .int .u8 c] w fun e w' => e = .returned (.int .i64 (Lib.indexByte s.data.toList c.toNat.toUInt8)) ∧ w' = w := Any.strings_IndexByte Tryd.lays137 s c w
open Go.RowKit in
/-- (*strings.Builder).Len: "Len returns the number of accumulated bytes; b.Len() == len(b.String()).": the world is as it was. (THE FORM '_f': 'Lib.IsBuilderF'.) (LAID: no walk: one application.) -/
theorem Tryd.Builder_Len_f (B b : Nat) (bs : List Value) (w : World) (h : Lib.IsBuilderF 107 5 B b bs w) :
  Calls Tryd.prog 70 #[.pointer (some ⟨b, 0, none⟩)] w fun e w' => e = .returned (.int .i64 bs.length) ∧ w' = w := Any.Builder_Len_f Tryd.lays170 B b bs w h
open Go.RowKit in
/-- (*strings.Builder).String: "String returns the accumulated string.": OF A BUILDER THAT HOLDS AT LEAST ONE BYTE. ✋ THE MODEL FREEZES THOSE BYTES IN THE BUFFER (unsafe.String): a later write INTO them ends the model's run without an answer; a later append BEHIND them goes on. The statement's order of evaluation is drawn: one draw. THE FORM '_f': IT SAYS BESIDES THAT THE BUILDER IS A BUILDER STILL ('Lib.IsBuilderF', the same bytes): SO IT CAN BE WRITTEN ON: 'b.WriteString(b.String()[:k])'. (LAID: no walk: one application.) -/
theorem Tryd.Builder_String_f (B b : Nat) (l : List UInt8) (w : World) (h : Lib.IsBuilderF 107 5 B b (Lib.byteCells l) w) (h0 : l ≠ []) :
  Calls Tryd.prog 71 #[.pointer (some ⟨b, 0, none⟩)] w fun e w' => e = .returned (.string ⟨l.toArray⟩) ∧ (Lib.IsBuilderF 107 5 B b (Lib.byteCells l) w' ∧ Below B w w') := Any.Builder_String_f Tryd.lays169 Tryd.Builder_Extra_169 B b l w h h0
open Go.RowKit in
/-- (*strings.Builder).String OF A BUILDER THAT HOLDS NO BYTE: the empty string; THE FORM '_f': a builder still. (LAID: no walk: one application.) -/
theorem Tryd.Builder_String_empty_f (B b : Nat) (w : World) (h : Lib.IsBuilderF 107 5 B b [] w) (hBw : B ≤ w.heap.size) :
  Calls Tryd.prog 71 #[.pointer (some ⟨b, 0, none⟩)] w fun e w' => e = .returned (.string ⟨#[]⟩) ∧ (Lib.IsBuilderF 107 5 B b [] w' ∧ Below B w w') := Any.Builder_String_empty_f Tryd.lays169 Tryd.Builder_Extra_169 B b w h hBw
open Go.RowKit in
/-- (*strings.Builder).String: "String returns the accumulated string.": WHATEVER THE BUILDER HOLDS; THE FORM '_f': OF A BUILDER THAT MAY HAVE BEEN READ BEFORE; AND IT IS A BUILDER STILL, holding the same bytes: it can be written on. (LAID: no walk: one application.) -/
theorem Tryd.Builder_String_any_f (B b : Nat) (l : List UInt8) (w : World) (h : Lib.IsBuilderF 107 5 B b (Lib.byteCells l) w) (hBw : B ≤ w.heap.size) :
  Calls Tryd.prog 71 #[.pointer (some ⟨b, 0, none⟩)] w fun e w' => e = .returned (.string ⟨l.toArray⟩) ∧ (Lib.IsBuilderF 107 5 B b (Lib.byteCells l) w' ∧ Below B w w') := Any.Builder_String_any_f Tryd.lays169 Tryd.Builder_Extra_169 B b l w h hBw
def Tryd.lays217_ren : Go.Shelf.Ren := ⟨fun | 217 => 121 | 266 => 147 | n => n, fun | 9 => 9 | 5 => 5 | 3 => 3 | n => n, fun | n => n⟩
theorem Tryd.lays217 : Go.Proofs.Lays.n217 Tryd.prog Tryd.lays217_ren := {
 mixed := by kernel_rfl
 f217 := Tryd.func121.trans (congrArg some (by kernel_rfl))
 f266 := Tryd.func147.trans (congrArg some (by kernel_rfl))
 t3 := U93
 a3 := Tryd.isAgg3
 z3 := Tryd.sizeOf3
 v3 := Tryd.zeroValue3
 t5 := U95
 a5 := Tryd.isAgg5
 z5 := Tryd.sizeOf5
 v5 := Tryd.zeroValue5
 t9 := U99
 a9 := Tryd.isAgg9
 z9 := Tryd.sizeOf9
 v9 := Tryd.zeroValue9 }
open Go.RowKit Go.Lib in
/-- internal/stringslite.IndexByte (what strings.IndexByte calls): IT RETURNS 'Lib.indexByte s c'; the world is as it was. (LAID: no walk: one application.) -/
theorem Tryd.stringslite_IndexByte (s : ByteArray) (c : Int) (w : World) :
  Calls Tryd.prog 121 #[.string s, .int .u8 c] w fun e w' => e = .returned (.int .i64 (Lib.indexByte s.data.toList c.toNat.toUInt8)) ∧ w' = w := Any.stringslite_IndexByte Tryd.lays217 s c w
def Tryd.lays206_ren : Go.Shelf.Ren := ⟨fun | 206 => 102 | n => n, fun | 9 => 9 | 4 => 4 | 3 => 3 | n => n, fun | n => n⟩
theorem Tryd.lays206 : Go.Proofs.Lays.n206 Tryd.prog Tryd.lays206_ren := {
 mixed := by kernel_rfl
 f206 := G9102.trans (congrArg some (by kernel_rfl))
 t3 := U93
 a3 := Tryd.isAgg3
 z3 := Tryd.sizeOf3
 v3 := Tryd.zeroValue3
 t4 := U94
 a4 := Tryd.isAgg4
 z4 := Tryd.sizeOf4
 v4 := Tryd.zeroValue4
 t9 := U99
 a9 := Tryd.isAgg9
 z9 := Tryd.sizeOf9
 v9 := Tryd.zeroValue9 }
open Go.RowKit Go.Lib in
/-- internal/stringslite.HasPrefix (what strings.HasPrefix calls). (LAID: no walk: one application.) -/
theorem Tryd.stringslite_HasPrefix (s p : ByteArray) (w : World) :
  Calls Tryd.prog 102 #[.string s, .string p] w fun e w' => e = .returned (.bool (Lib.hasPrefix s.data.toList p.data.toList)) ∧ w' = w := Any.stringslite_HasPrefix Tryd.lays206 s p w
def Tryd.lays99_ren : Go.Shelf.Ren := ⟨fun | 99 => 67 | 206 => 102 | n => n, fun | 9 => 9 | 4 => 4 | 3 => 3 | n => n, fun | n => n⟩
theorem Tryd.lays99 : Go.Proofs.Lays.n99 Tryd.prog Tryd.lays99_ren := {
 mixed := by kernel_rfl
 f99 := Tryd.func67.trans (congrArg some (by kernel_rfl))
 f206 := G9102.trans (congrArg some (by kernel_rfl))
 t3 := U93
 a3 := Tryd.isAgg3
 z3 := Tryd.sizeOf3
 v3 := Tryd.zeroValue3
 t4 := U94
 a4 := Tryd.isAgg4
 z4 := Tryd.sizeOf4
 v4 := Tryd.zeroValue4
 t9 := U99
 a9 := Tryd.isAgg9
 z9 := Tryd.sizeOf9
 v9 := Tryd.zeroValue9 }
open Go.RowKit Go.Lib in
/-- strings.HasPrefix: "HasPrefix reports whether the string s begins with prefix.": IT RETURNS 'Lib.hasPrefix s prefix'; the world is as it was. (LAID: no walk: one application.) -/
theorem Tryd.strings_HasPrefix (s p : ByteArray) (w : World) :
  Calls Tryd.prog 67 #[.string s, .string p] w fun e w' => e = .returned (.bool (Lib.hasPrefix s.data.toList p.data.toList)) ∧ w' = w := Any.strings_HasPrefix Tryd.lays99 s p w
def Tryd.lays264_ren : Go.Shelf.Ren := ⟨fun | 264 => 87 | n => n, fun | 53 => 40 | 46 => 99 | n => n, fun | n => n⟩
theorem Tryd.lays264 : Go.Proofs.Lays.n264 Tryd.prog Tryd.lays264_ren := {
 mixed := by kernel_rfl
 f264 := G987.trans (congrArg some (by kernel_rfl))
 t46 := U999
 a46 := Tryd.isAgg99
 z46 := Tryd.sizeOf99
 v46 := Tryd.zeroValue99
 t53 := U940
 a53 := Tryd.isAgg40
 z53 := Tryd.sizeOf40
 v53 := Tryd.zeroValue40 }
open Go.RowKit Go.Lib in
theorem Tryd.bits_Mul64 (x y : Nat) (hx : x < 18446744073709551616) (hy : y < 18446744073709551616) (w : World) :
  Calls Tryd.prog 87 #[.int .u64 x, .int .u64 y] w fun e w' => e = .returned (.tuple #[.int .u64 (x * y / 18446744073709551616 : Nat), .int .u64 (x * y % 18446744073709551616 : Nat)]) ∧ w' = w := Any.bits_Mul64 Tryd.lays264 x y hx hy w
def Tryd.lays212_ren : Go.Shelf.Ren := ⟨fun | 212 => 66 | 263 => 101 | 264 => 87 | n => n, fun | 46 => 99 | 51 => 147 | 146 => 148 | 53 => 40 | 148 => 125 | n => n, fun | n => n⟩
theorem Tryd.lays212 : Go.Proofs.Lays.n212 Tryd.prog Tryd.lays212_ren := {
 mixed := by kernel_rfl
 f212 := Tryd.func66.trans (congrArg some (by kernel_rfl))
 f263 := Tryd.func101.trans (congrArg some (by kernel_rfl))
 f264 := G987.trans (congrArg some (by kernel_rfl))
 t46 := U999
 a46 := Tryd.isAgg99
 z46 := Tryd.sizeOf99
 v46 := Tryd.zeroValue99
 t51 := U9147
 a51 := Tryd.isAgg147
 z51 := Tryd.sizeOf147
 v51 := Tryd.zeroValue147
 t53 := U940
 a53 := Tryd.isAgg40
 z53 := Tryd.sizeOf40
 v53 := Tryd.zeroValue40
 t146 := U9148
 a146 := Tryd.isAgg148
 z146 := Tryd.sizeOf148
 v146 := Tryd.zeroValue148
 t148 := U9125
 a148 := Tryd.isAgg125
 z148 := Tryd.sizeOf125
 v148 := Tryd.zeroValue125 }
open Go.RowKit Go.Lib in
/-- math/bits.Mul: "Mul returns the full-width product of x and y": on a machine of 64 bits: Mul64's. (LAID: no walk: one application.) -/
theorem Tryd.bits_Mul (x y : Nat) (hx : x < 18446744073709551616) (hy : y < 18446744073709551616) (w : World) :
  Calls Tryd.prog 66 #[.int .u64 x, .int .u64 y] w fun e w' => e = .returned (.tuple #[.int .u64 (x * y / 18446744073709551616 : Nat), .int .u64 (x * y % 18446744073709551616 : Nat)]) ∧ w' = w := Any.bits_Mul Tryd.lays212 x y hx hy w
def Tryd.lays105_ren : Go.Shelf.Ren := ⟨fun | 105 => 30 | 212 => 66 | 99 => 67 | 165 => 68 | 166 => 69 | 170 => 70 | 169 => 71 | 263 => 101 | 264 => 87 | 206 => 102 | 240 => 103 | 241 => 104 | 276 => 136 | 277 => 137 | n => n, fun | 9 => 9 | 3 => 3 | 4 => 4 | 20 => 20 | 0 => 0 | 46 => 99 | 109 => 103 | 5 => 5 | 72 => 107 | 76 => 111 | 51 => 147 | 146 => 148 | 53 => 40 | 148 => 125 | 70 => 105 | 37 => 29 | 75 => 110 | 127 => 150 | 164 => 185 | 80 => 23 | n => n, fun | n => n⟩
theorem Tryd.lays105 : Go.Proofs.Lays.n105 Tryd.prog Tryd.lays105_ren := {
 mixed := by kernel_rfl
 f99 := Tryd.func67.trans (congrArg some (by kernel_rfl))
 f105 := Tryd.func30.trans (congrArg some (by kernel_rfl))
 f165 := Tryd.func68.trans (congrArg some (by kernel_rfl))
 f166 := Tryd.func69.trans (congrArg some (by kernel_rfl))
 f169 := Tryd.func71.trans (congrArg some (by kernel_rfl))
 f170 := Tryd.func70.trans (congrArg some (by kernel_rfl))
 f206 := G9102.trans (congrArg some (by kernel_rfl))
 f212 := Tryd.func66.trans (congrArg some (by kernel_rfl))
 f240 := Tryd.func103.trans (congrArg some (by kernel_rfl))
 f241 := G9104.trans (congrArg some (by kernel_rfl))
 f263 := Tryd.func101.trans (congrArg some (by kernel_rfl))
 f264 := G987.trans (congrArg some (by kernel_rfl))
 f276 := Tryd.func136.trans (congrArg some (by kernel_rfl))
 f277 := G9137.trans (congrArg some (by kernel_rfl))
 t0 := U90
 a0 := Tryd.isAgg0
 z0 := Tryd.sizeOf0
 v0 := Tryd.zeroValue0
 t3 := U93
 a3 := Tryd.isAgg3
 z3 := Tryd.sizeOf3
 v3 := Tryd.zeroValue3
 t4 := U94
 a4 := Tryd.isAgg4
 z4 := Tryd.sizeOf4
 v4 := Tryd.zeroValue4
 t5 := U95
 a5 := Tryd.isAgg5
 z5 := Tryd.sizeOf5
 v5 := Tryd.zeroValue5
 t9 := U99
 a9 := Tryd.isAgg9
 z9 := Tryd.sizeOf9
 v9 := Tryd.zeroValue9
 t20 := U920
 a20 := Tryd.isAgg20
 z20 := Tryd.sizeOf20
 v20 := Tryd.zeroValue20
 t37 := U929
 a37 := Tryd.isAgg29
 z37 := Tryd.sizeOf29
 v37 := Tryd.zeroValue29
 t46 := U999
 a46 := Tryd.isAgg99
 z46 := Tryd.sizeOf99
 v46 := Tryd.zeroValue99
 t51 := U9147
 a51 := Tryd.isAgg147
 z51 := Tryd.sizeOf147
 v51 := Tryd.zeroValue147
 t53 := U940
 a53 := Tryd.isAgg40
 z53 := Tryd.sizeOf40
 v53 := Tryd.zeroValue40
 t70 := U9105
 a70 := Tryd.isAgg105
 z70 := Tryd.sizeOf105
 v70 := Tryd.zeroValue105
 t72 := U9107
 a72 := Tryd.isAgg107
 z72 := Tryd.sizeOf107
 v72 := Tryd.zeroValue107
 t75 := Tryd.underlying110
 a75 := Tryd.isAgg110
 z75 := Tryd.sizeOf110
 v75 := Tryd.zeroValue110
 t76 := Tryd.underlying111
 a76 := Tryd.isAgg111
 z76 := Tryd.sizeOf111
 v76 := Tryd.zeroValue111
 t109 := Tryd.underlying103
 a109 := Tryd.isAgg103
 z109 := Tryd.sizeOf103
 v109 := Tryd.zeroValue103
 t127 := U9150
 a127 := Tryd.isAgg150
 z127 := Tryd.sizeOf150
 v127 := Tryd.zeroValue150
 t146 := U9148
 a146 := Tryd.isAgg148
 z146 := Tryd.sizeOf148
 v146 := Tryd.zeroValue148
 t148 := U9125
 a148 := Tryd.isAgg125
 z148 := Tryd.sizeOf125
 v148 := Tryd.zeroValue125
 t164 := U9185
 a164 := Tryd.isAgg185
 z164 := Tryd.sizeOf185
 v164 := Tryd.zeroValue185 }
theorem Tryd.Builder_Extra_105 : Builder.Extra Tryd.prog Tryd.lays105_ren := {
 sizeBuilder := by kernel_rfl
 liesBuilder := by kernel_rfl
 t5 := U95
 a5 := Tryd.isAgg5
 z5 := Tryd.sizeOf5
 v5 := Tryd.zeroValue5
 infoByte := by kernel_rfl
 cellsByte := by kernel_rfl
 sizeByte := by kernel_rfl
 neB5 := by decide }
open Go.RowKit Go.Lib in
/-- THE MAIN CASE: at least two copies of a string that is not empty. (LAID: no walk: one application.) -/
theorem Tryd.strings_Repeat_main (s : ByteArray) (c : Nat) (w : World) (hc2 : 2 ≤ c) (hc : c ≤ 9223372036854775807) (hlen : s.size * c ≤ 140737488355328) (h0 : 0 < s.size) :
  Calls Tryd.prog 30 #[.string s, .int .i64 c] w fun e w' => e = .returned (.string ⟨(Lib.repeatL s.data.toList c).toArray⟩) ∧ Below w.heap.size w w' := Any.strings_Repeat_main Tryd.lays105 Tryd.Builder_Extra_105 s c w hc2 hc hlen h0
open Go.RowKit Go.Lib in
theorem Tryd.strings_Repeat_zero (s : ByteArray) (w : World) :
  Calls Tryd.prog 30 #[.string s, .int .i64 0] w fun e w' => e = .returned (.string ⟨#[]⟩) ∧ w' = w := Any.strings_Repeat_zero Tryd.lays105 s w
open Go.RowKit Go.Lib in
theorem Tryd.strings_Repeat_one (s : ByteArray) (w : World) :
  Calls Tryd.prog 30 #[.string s, .int .i64 1] w fun e w' => e = .returned (.string s) ∧ w' = w := Any.strings_Repeat_one Tryd.lays105 s w
open Go.RowKit Go.Lib in
/-- Copies of the empty string. (LAID: no walk: one application.) -/
theorem Tryd.strings_Repeat_empty (s : ByteArray) (c : Nat) (w : World) (hc2 : 2 ≤ c) (hc : c ≤ 9223372036854775807) (h0 : s.size = 0) :
  Calls Tryd.prog 30 #[.string s, .int .i64 c] w fun e w' => e = .returned (.string ⟨#[]⟩) ∧ w' = w := Any.strings_Repeat_empty Tryd.lays105 s c w hc2 hc h0
open Go.RowKit Go.Lib in
/-- count < 0: "It panics if count is negative". (LAID: no walk: one application.) -/
theorem Tryd.strings_Repeat_negative (s : ByteArray) (c : Int) (w : World) (hc : c < 0) :
  Calls Tryd.prog 30 #[.string s, .int .i64 c] w fun e w' => e = .panicked [{ v := repeatPanic Tryd.lays105_ren "strings: negative Repeat count", recovered := false }] ∧ w' = w := Any.strings_Repeat_negative Tryd.lays105 s c w hc
open Go.RowKit Go.Lib in
/-- len(s) * count is no int: ".. or if the result of (len(s) * count) overflows". (LAID: no walk: one application.) -/
theorem Tryd.strings_Repeat_overflow (s : ByteArray) (c : Nat) (w : World) (hc : c ≤ 9223372036854775807) (hs : s.size ≤ 9223372036854775807) (hbig : 9223372036854775807 < s.size * c) :
  Calls Tryd.prog 30 #[.string s, .int .i64 c] w fun e w' => e = .panicked [{ v := repeatPanic Tryd.lays105_ren "strings: Repeat output length overflow", recovered := false }] ∧ w' = w := Any.strings_Repeat_overflow Tryd.lays105 s c w hc hs hbig
open Go.RowKit Go.Lib in
/-- **strings.Repeat: count ≥ 0, the result within one allocation: count copies of s.** (LAID: no walk: one application.) -/
theorem Tryd.strings_Repeat (s : ByteArray) (c : Nat) (w : World) (hc : c ≤ 9223372036854775807) (hlen : s.size * c ≤ 140737488355328) :
  Calls Tryd.prog 30 #[.string s, .int .i64 c] w fun e w' => e = .returned (.string ⟨(Lib.repeatL s.data.toList c).toArray⟩) ∧ Below w.heap.size w w' := Any.strings_Repeat Tryd.lays105 Tryd.Builder_Extra_105 s c w hc hlen
end Go.Proofs

namespace Go.Proofs.Yc
open Go Go.RowKit Go.Shelf Go.Proofs.Num
open Tryd renaming func103 → G9103, underlying105 → U9105, underlying107 → U9107, underlying185 → U9185, underlying29 → U929, underlying4 → U94, underlying5 → U95, underlying9 → U99
set_option maxHeartbeats 1000000 in
set_option maxRecDepth 100000 in
theorem copyCheck_used (b : Nat) (w : World) (h0 : w.cell? ⟨b, 0, none⟩ = some (.pointer (some ⟨b, 0, none⟩))) :
  Calls Tryd.prog 103 #[.pointer (some ⟨b, 0, none⟩)] w fun e w' => e = .returned (.tuple #[]) ∧ w' = w := by
 obtain ⟨j, hj, _⟩ := Option.map_eq_some_iff.1 (show (Tryd.prog.info? 107).map (·.size) = some 2 by kernel_rfl)
 have mixed : Tryd.prog.follows .mixedOrders = true := by kernel_rfl
 have t107 := U9107; have a107 := Tryd.isAgg107; have z107 := Tryd.sizeOf107; have v107 := Tryd.zeroValue107; have u107 := run_underlying U9107
 have t105 := U9105; have a105 := Tryd.isAgg105; have z105 := Tryd.sizeOf105; have v105 := Tryd.zeroValue105; have u105 := run_underlying U9105
 have t9 := U99; have a9 := Tryd.isAgg9; have z9 := Tryd.sizeOf9; have v9 := Tryd.zeroValue9; have u9 := run_underlying U99
 have t4 := U94; have a4 := Tryd.isAgg4; have z4 := Tryd.sizeOf4; have v4 := Tryd.zeroValue4; have u4 := run_underlying U94
 have t185 := U9185; have a185 := Tryd.isAgg185; have z185 := Tryd.sizeOf185; have v185 := Tryd.zeroValue185; have u185 := run_underlying U9185
 go_enter G9103, Tryd.ntmps103
 go_wp2
 rw [Lib.run_neq_ptr_same w _ U9105 hj]
 go_wp2
 go_end0
 exact ⟨rfl, rfl⟩
set_option maxHeartbeats 1000000 in
set_option maxRecDepth 100000 in
theorem copyCheck_fresh (b : Nat) (w : World) (h0 : w.cell? ⟨b, 0, none⟩ = some (.pointer none)) (hsh : w.shape? b = some (107, 2)) (hfz : w.frozen? ⟨b, 0, none⟩ = false) :
  Calls Tryd.prog 103 #[.pointer (some ⟨b, 0, none⟩)] w fun e w' => e = .returned (.tuple #[]) ∧ w' = w.setCell ⟨b, 0, none⟩ (.pointer (some ⟨b, 0, none⟩)) := by
 obtain ⟨j, hj, hjs⟩ := Option.map_eq_some_iff.1 (show (Tryd.prog.info? 107).map (·.size) = some 2 by kernel_rfl)
 have mixed : Tryd.prog.follows .mixedOrders = true := by kernel_rfl
 have t107 := U9107; have a107 := Tryd.isAgg107; have z107 := Tryd.sizeOf107; have v107 := Tryd.zeroValue107; have u107 := run_underlying U9107
 have t105 := U9105; have a105 := Tryd.isAgg105; have z105 := Tryd.sizeOf105; have v105 := Tryd.zeroValue105; have u105 := run_underlying U9105
 have t9 := U99; have a9 := Tryd.isAgg9; have z9 := Tryd.sizeOf9; have v9 := Tryd.zeroValue9; have u9 := run_underlying U99
 have t4 := U94; have a4 := Tryd.isAgg4; have z4 := Tryd.sizeOf4; have v4 := Tryd.zeroValue4; have u4 := run_underlying U94
 have t185 := U9185; have a185 := Tryd.isAgg185; have z185 := Tryd.sizeOf185; have v185 := Tryd.zeroValue185; have u185 := run_underlying U9185
 go_enter G9103, Tryd.ntmps103
 go_wp2
 rw [Lib.run_to_unsafe w ⟨b, 0, none⟩ U9105 U9185 hj (by rw [hjs]; decide) hsh (Nat.zero_lt_succ 1)]
 simp only [Result.andThen]
 rw [Oper.upon_value]
 go_wp2
 rw [run_callFunc_extern Tryd.func136 (by kernel_rfl) (by kernel_rfl) (by kernel_rfl) (e := Extern.AbiNoEscape.same) (by kernel_rfl)]
 rw [Lib.run_noEscape]
 simp only [Result.andThen]
 rw [Oper.upon_value]
 go_wp2
 rw [Lib.run_from_unsafe w ⟨b, 0, none⟩ U9185 U9105 hj hsh (by kernel_rfl)]
 simp only [Result.andThen]
 rw [Oper.upon_value]
 go_wp2
 go_end0
 exact ⟨rfl, rfl⟩
theorem copyCheck_c (B b : Nat) (bs : List Value) (w : World) (h : Lib.IsBuilder 107 5 B b bs w) :
  Calls Tryd.prog 103 #[.pointer (some ⟨b, 0, none⟩)] w fun e w' => e = .returned (.tuple #[]) ∧ (Lib.BuilderAt 107 5 B b (.pointer (some ⟨b, 0, none⟩)) bs w' ∧ Below B w w') := by
 rcases h with h | h
 ·
  refine (copyCheck_fresh b w h.cell0 h.shape h.frozen0).mono ?_
  rintro e w' ⟨rfl, rfl⟩
  exact ⟨rfl, h.used _, (Below.refl B w).setCell (p := ⟨b, 0, none⟩) h.1 _⟩
 refine (copyCheck_used b w h.cell0).mono ?_
 rintro e w' ⟨rfl, rfl⟩
 exact ⟨rfl, h, Below.refl B _⟩
theorem isB_sees {T e : TypeId} {B b : Nat} {bs : List Value} {w W : World} (h : Lib.IsBuilder T e B b bs w) (hS : Sees w W) : Lib.IsBuilder T e B b bs W := by
 have key : ∀ p, Lib.BuilderAt T e B b p bs w → Lib.BuilderAt T e B b p bs W := by
  intro p h
  have hlt := h.lt
  obtain ⟨hB, v, hb, ⟨hl, hr⟩, hne⟩ := h
  refine ⟨hB, v, (hS.2.2.block b hlt).trans hb, ⟨hl, ?_⟩, hne⟩
  rcases hr with hr | ⟨g, cap, cur, hv, hg, hc, hrest⟩
  ·
   exact .inl hr
  refine .inr ⟨g, cap, cur, hv, hg, ?_, hrest⟩
  have hg2 : g < w.heap.size := by
   rcases Nat.lt_or_ge g w.heap.size with h' | h'
   ·
    exact h'
   simp [Array.getElem?_eq_none h'] at hc
  exact (hS.2.2.block g hg2).trans hc
 rcases h with h | h
 ·
  exact .inl (key _ h)
 exact .inr (key _ h)
set_option maxHeartbeats 2000000 in
set_option maxRecDepth 100000 in
theorem writeByte_c (B b : Nat) (bs : List Value) (c : Int) (w : World) (h : Lib.IsBuilder 107 5 B b bs w) (hlen : bs.length + 1 ≤ 140737488355328) (hBw : B ≤ w.heap.size) :
  Calls Tryd.prog 99 #[.pointer (some ⟨b, 0, none⟩), .int .u8 c] w fun e w' => e = .returned .nilIface ∧ (Lib.BuilderAt 107 5 B b (.pointer (some ⟨b, 0, none⟩)) (bs ++ [.int .u8 c]) w' ∧ Below B w w') := by
 obtain ⟨i0, hi, hz0, hz1, hz2⟩ := info_parts (show (Tryd.prog.info? 5).map (fun i => (i.zero, i.size, i.bytes)) = some (some (.int .u8 0), 1, 1) by kernel_rfl)
 have mixed : Tryd.prog.follows .mixedOrders = true := by kernel_rfl
 have t107 := U9107; have a107 := Tryd.isAgg107; have z107 := Tryd.sizeOf107; have v107 := Tryd.zeroValue107; have u107 := run_underlying U9107
 have t105 := U9105; have a105 := Tryd.isAgg105; have z105 := Tryd.sizeOf105; have v105 := Tryd.zeroValue105; have u105 := run_underlying U9105
 have t5 := U95; have a5 := Tryd.isAgg5; have z5 := Tryd.sizeOf5; have v5 := Tryd.zeroValue5; have u5 := run_underlying U95
 have t29 := U929; have a29 := Tryd.isAgg29; have z29 := Tryd.sizeOf29; have v29 := Tryd.zeroValue29; have u29 := run_underlying U929
 have t9 := U99; have a9 := Tryd.isAgg9; have z9 := Tryd.sizeOf9; have v9 := Tryd.zeroValue9; have u9 := run_underlying U99
 have t4 := U94; have a4 := Tryd.isAgg4; have z4 := Tryd.sizeOf4; have v4 := Tryd.zeroValue4; have u4 := run_underlying U94
 have t185 := U9185; have a185 := Tryd.isAgg185; have z185 := Tryd.sizeOf185; have v185 := Tryd.zeroValue185; have u185 := run_underlying U9185
 have ecc : ∀ args w, (callFunc 103 args).run Tryd.prog w = .ok (.enter 103 args) w := enters_of G9103 (by kernel_rfl) rfl
 go_enter Tryd.func99, Tryd.ntmps99
 go_wp2_with (go_at_fn 103; refine (copyCheck_c B b bs _ h).mono ?_)
 rintro e w1 ⟨rfl, h1, hb1⟩
 obtain ⟨hB, v, hbk, hown, hne⟩ := h1
 have c0 : w1.cell? ⟨b, 0, none⟩ = some (.pointer (some ⟨b, 0, none⟩)) := by rw [Lib.cell_of_heap hbk]; rfl
 have c1 : w1.cell? ⟨b, 1, none⟩ = some v := by rw [Lib.cell_of_heap hbk]; rfl
 go_wp2_with (at_builtin; refine wpList_append_own _ rfl _ _ 29 rfl B 5 i0 (.int .u8 0) 1 1 U929 hi hz0 hz1 hz2 rfl (by decide) _ _ _ rfl (hown.alloc _) ⟨w1.heap.size, 0, none⟩ 1 1 [.int .u8 c] rfl rfl ?c1 ?c2 ?c3 ?c4 ?c5 ?_)
 case c1 =>
  intro j u hj
  match j, hj with
  | 0, hj => simp at hj; subst hj; simp [Addr.add]
 case c2 => intro u hu; simp at hu; subst hu; rfl
 case c3 => unfold maxLen; omega
 case c4 => omega
 case c5 => have := hb1.size; simp; omega
 intro v' w2 hown' hgrow _
 have hlt : b < w1.heap.size := by
  rcases Nat.lt_or_ge b w1.heap.size with h' | h'
  ·
   exact h'
  simp [Array.getElem?_eq_none h'] at hbk
 have hb2 : w2.heap[b]? = some (.cells #[.pointer (some ⟨b, 0, none⟩), v] 107 (0, 0)) := by
  rw [hgrow.block b (by simp; omega) (fun e => hne e.symm), Lib.alloc_old w1 _ b hlt]
  exact hbk
 have d0 : w2.cell? ⟨b, 0, none⟩ = some (.pointer (some ⟨b, 0, none⟩)) := by rw [Lib.cell_of_heap hb2]; rfl
 have d1 : w2.cell? ⟨b, 1, none⟩ = some v := by rw [Lib.cell_of_heap hb2]; rfl
 have f1 : w2.frozen? ⟨b, 1, none⟩ = false := Lib.frozen_of_heap hb2 1
 obtain ⟨g, cap, rfl⟩ : ∃ g cap, v' = .slice (some ⟨g, 0, none⟩) (bs.length + 1) cap := by
  rcases hown'.2 with ⟨_, h0⟩ | ⟨g, cap, cur, hv, _⟩
  ·
   omega
  exact ⟨g, cap, hv⟩
 go_wp2
 go_ret
 refine ⟨rfl, ?_, ?_⟩
 ·
  exact Lib.BuilderAt.put (T := 107) (e := 5) hB hb2 (bs' := bs ++ [.int .u8 c]) (by simpa using hown') (by decide)
 exact ((hb1.alloc (by have := hb1.size; omega) _).grown hgrow (by have := hb1.size; simp; omega) (fun k hk => (hown.lt k hk).1)).setCell (p := ⟨b, 1, none⟩) hB _
end Go.Proofs.Yc

