/- Whole numbers of 32 and 64 bits, as natural ones: what the operators make of them. -/
import Derived.Test.YticcchgckljlnaaDoorSteps8
set_option linter.unusedSimpArgs false
set_option linter.unusedVariables false
namespace Go.Proofs.Num
open Go Go.RowKit
variable {P : Program}
theorem toNat_of {n a : Nat} (h : a < 2 ^ n) : (BitVec.ofInt n (a : Int)).toNat = a := by
  rw [BitVec.ofInt_natCast, BitVec.toNat_ofNat]
  exact Nat.mod_eq_of_lt h
theorem wrap32N (n : Nat) : IntKind.wrap .u32 (n : Int) = ((n % 4294967296 : Nat) : Int) := by simp [IntKind.wrap, IntKind.bits, IntKind.signed]
theorem run_xor' {T : TypeId} {k : IntKind} {m n e : Int} (h : bits .xor k m n = e) (W : World) : (binOp .xor T (.int k m) (.int k n)).run P W = .ok (.int k e) W := by subst h; simp [binOp, go_sem]
section
variable {T : TypeId} {x y : Nat} (hx : x < 4294967296) (hy : y < 4294967296)
include hx hy
theorem nr_xor32 (W : World) : (binOp .xor T (.int .u32 (x : Int)) (.int .u32 (y : Int))).run P W = .ok (.int .u32 ((x ^^^ y : Nat) : Int)) W := by
  have h : x ^^^ y < 2 ^ 32 := Nat.xor_lt_two_pow hx hy
  refine run_xor' (e := ((x ^^^ y : Nat) : Int)) ?_ W
  show IntKind.wrap .u32 ((BitVec.ofInt 32 (x : Int) ^^^ BitVec.ofInt 32 (y : Int)).toNat : Int) = _
  rw [BitVec.toNat_xor, toNat_of hx, toNat_of hy, wrap32N, Nat.mod_eq_of_lt h]
theorem nr_and32 (W : World) : (binOp .and T (.int .u32 (x : Int)) (.int .u32 (y : Int))).run P W = .ok (.int .u32 ((x &&& y : Nat) : Int)) W := by
  have h : x &&& y < 2 ^ 32 := Nat.and_lt_two_pow _ hy
  refine run_and (e := ((x &&& y : Nat) : Int)) ?_ W
  show IntKind.wrap .u32 ((BitVec.ofInt 32 (x : Int) &&& BitVec.ofInt 32 (y : Int)).toNat : Int) = _
  rw [BitVec.toNat_and, toNat_of hx, toNat_of hy, wrap32N, Nat.mod_eq_of_lt h]
theorem nr_or32 (W : World) : (binOp .or T (.int .u32 (x : Int)) (.int .u32 (y : Int))).run P W = .ok (.int .u32 ((x ||| y : Nat) : Int)) W := by
  have h : x ||| y < 2 ^ 32 := Nat.or_lt_two_pow hx hy
  refine run_or (e := ((x ||| y : Nat) : Int)) ?_ W
  show IntKind.wrap .u32 ((BitVec.ofInt 32 (x : Int) ||| BitVec.ofInt 32 (y : Int)).toNat : Int) = _
  rw [BitVec.toNat_or, toNat_of hx, toNat_of hy, wrap32N, Nat.mod_eq_of_lt h]
end
theorem nr_add32 (T : TypeId) (x y : Nat) (W : World) : (binOp .add T (.int .u32 (x : Int)) (.int .u32 (y : Int))).run P W = .ok (.int .u32 (((x + y) % 4294967296 : Nat) : Int)) W :=
  run_add (by rw [← wrap32N]; rfl) W
theorem nr_mul32 (T : TypeId) (x y : Nat) (W : World) : (binOp .mul T (.int .u32 (x : Int)) (.int .u32 (y : Int))).run P W = .ok (.int .u32 (((x * y) % 4294967296 : Nat) : Int)) W :=
  run_mul (by rw [← wrap32N, Int.natCast_mul]) W
theorem nr_sub32 {T : TypeId} {x y : Nat} (h : y ≤ x) (hx : x < 4294967296) (W : World) : (binOp .sub T (.int .u32 (x : Int)) (.int .u32 (y : Int))).run P W = .ok (.int .u32 ((x - y : Nat) : Int)) W :=
  run_sub (by rw [show ((x : Int) - (y : Int)) = ((x - y : Nat) : Int) by omega, wrap32N, Nat.mod_eq_of_lt (by omega)]) W
theorem nr_quo32 {T : TypeId} {x y : Nat} (h : y ≠ 0) (hx : x < 4294967296) (W : World) : (binOp .quo T (.int .u32 (x : Int)) (.int .u32 (y : Int))).run P W = .ok (.int .u32 ((x / y : Nat) : Int)) W :=
  run_quo (by omega) (by rw [tdiv_nat, wrap32N, Nat.mod_eq_of_lt (Nat.lt_of_le_of_lt (Nat.div_le_self ..) hx)]) W
theorem nr_rem32 {T : TypeId} {x y : Nat} (h : y ≠ 0) (W : World) : (binOp .rem T (.int .u32 (x : Int)) (.int .u32 (y : Int))).run P W = .ok (.int .u32 ((x % y : Nat) : Int)) W :=
  run_rem (by omega) (tmod_nat x y) W
theorem nr_shl32 {T : TypeId} {k' : IntKind} {x n : Nat} (h : n ≤ 32) (W : World) : (binOp .shl T (.int .u32 (x : Nat)) (.int k' (n : Nat))).run P W = .ok (.int .u32 ((x * 2 ^ n % 4294967296 : Nat) : Int)) W :=
  run_shl h (wrap32N _) W
theorem nr_shr32 {T : TypeId} {k' : IntKind} {x n : Nat} (h : n ≤ 32) (W : World) : (binOp .shr T (.int .u32 (x : Nat)) (.int k' (n : Nat))).run P W = .ok (.int .u32 ((x / 2 ^ n : Nat) : Int)) W :=
  run_shr h rfl W
theorem nr_not32 {x : Nat} (hx : x < 4294967296) (W : World) : (Op.unary .xor (.int .u32 (x : Int))).run P W = .ok (.int .u32 ((4294967295 ^^^ x : Nat) : Int)) W := by
  have h : 4294967295 ^^^ x < 2 ^ 32 := Nat.xor_lt_two_pow (by decide) hx
  have e : bits .xor .u32 4294967295 (x : Int) = ((4294967295 ^^^ x : Nat) : Int) := by
    show IntKind.wrap .u32 ((BitVec.ofInt 32 ((4294967295 : Nat) : Int) ^^^ BitVec.ofInt 32 (x : Int)).toNat : Int) = _
    rw [BitVec.toNat_xor, toNat_of (by decide), toNat_of hx, wrap32N, Nat.mod_eq_of_lt h]
  rw [← e]
  rfl
theorem xor_lt32 {x y : Nat} (hx : x < 4294967296) (hy : y < 4294967296) : x ^^^ y < 4294967296 := Nat.xor_lt_two_pow (n := 32) hx hy
theorem and_lt32 {x y : Nat} (hy : y < 4294967296) : x &&& y < 4294967296 := Nat.and_lt_two_pow (n := 32) _ hy
theorem or_lt32 {x y : Nat} (hx : x < 4294967296) (hy : y < 4294967296) : x ||| y < 4294967296 := Nat.or_lt_two_pow (n := 32) hx hy
theorem mod_lt32 (x : Nat) : x % 4294967296 < 4294967296 := Nat.mod_lt _ (by decide)
theorem div_lt32 {x : Nat} (n : Nat) (h : x < 4294967296) : x / n < 4294967296 := Nat.lt_of_le_of_lt (Nat.div_le_self ..) h
theorem wrap64N (n : Nat) : IntKind.wrap .u64 (n : Int) = ((n % 18446744073709551616 : Nat) : Int) := by simp [IntKind.wrap, IntKind.bits, IntKind.signed]
section
variable {T : TypeId} {x y : Nat} (hx : x < 18446744073709551616) (hy : y < 18446744073709551616)
include hx hy
theorem nr_xor64 (W : World) : (binOp .xor T (.int .u64 (x : Int)) (.int .u64 (y : Int))).run P W = .ok (.int .u64 ((x ^^^ y : Nat) : Int)) W := by
  have h : x ^^^ y < 2 ^ 64 := Nat.xor_lt_two_pow hx hy
  refine run_xor' (e := ((x ^^^ y : Nat) : Int)) ?_ W
  show IntKind.wrap .u64 ((BitVec.ofInt 64 (x : Int) ^^^ BitVec.ofInt 64 (y : Int)).toNat : Int) = _
  rw [BitVec.toNat_xor, toNat_of hx, toNat_of hy, wrap64N, Nat.mod_eq_of_lt h]
theorem nr_and64 (W : World) : (binOp .and T (.int .u64 (x : Int)) (.int .u64 (y : Int))).run P W = .ok (.int .u64 ((x &&& y : Nat) : Int)) W := by
  have h : x &&& y < 2 ^ 64 := Nat.and_lt_two_pow _ hy
  refine run_and (e := ((x &&& y : Nat) : Int)) ?_ W
  show IntKind.wrap .u64 ((BitVec.ofInt 64 (x : Int) &&& BitVec.ofInt 64 (y : Int)).toNat : Int) = _
  rw [BitVec.toNat_and, toNat_of hx, toNat_of hy, wrap64N, Nat.mod_eq_of_lt h]
theorem nr_or64 (W : World) : (binOp .or T (.int .u64 (x : Int)) (.int .u64 (y : Int))).run P W = .ok (.int .u64 ((x ||| y : Nat) : Int)) W := by
  have h : x ||| y < 2 ^ 64 := Nat.or_lt_two_pow hx hy
  refine run_or (e := ((x ||| y : Nat) : Int)) ?_ W
  show IntKind.wrap .u64 ((BitVec.ofInt 64 (x : Int) ||| BitVec.ofInt 64 (y : Int)).toNat : Int) = _
  rw [BitVec.toNat_or, toNat_of hx, toNat_of hy, wrap64N, Nat.mod_eq_of_lt h]
end
theorem nr_add64 (T : TypeId) (x y : Nat) (W : World) : (binOp .add T (.int .u64 (x : Int)) (.int .u64 (y : Int))).run P W = .ok (.int .u64 (((x + y) % 18446744073709551616 : Nat) : Int)) W :=
  run_add (by rw [← wrap64N]; rfl) W
theorem nr_mul64 (T : TypeId) (x y : Nat) (W : World) : (binOp .mul T (.int .u64 (x : Int)) (.int .u64 (y : Int))).run P W = .ok (.int .u64 (((x * y) % 18446744073709551616 : Nat) : Int)) W :=
  run_mul (by rw [← wrap64N, Int.natCast_mul]) W
theorem nr_sub64 {T : TypeId} {x y : Nat} (h : y ≤ x) (hx : x < 18446744073709551616) (W : World) : (binOp .sub T (.int .u64 (x : Int)) (.int .u64 (y : Int))).run P W = .ok (.int .u64 ((x - y : Nat) : Int)) W :=
  run_sub (by rw [show ((x : Int) - (y : Int)) = ((x - y : Nat) : Int) by omega, wrap64N, Nat.mod_eq_of_lt (by omega)]) W
theorem nr_quo64 {T : TypeId} {x y : Nat} (h : y ≠ 0) (hx : x < 18446744073709551616) (W : World) : (binOp .quo T (.int .u64 (x : Int)) (.int .u64 (y : Int))).run P W = .ok (.int .u64 ((x / y : Nat) : Int)) W :=
  run_quo (by omega) (by rw [tdiv_nat, wrap64N, Nat.mod_eq_of_lt (Nat.lt_of_le_of_lt (Nat.div_le_self ..) hx)]) W
theorem nr_rem64 {T : TypeId} {x y : Nat} (h : y ≠ 0) (W : World) : (binOp .rem T (.int .u64 (x : Int)) (.int .u64 (y : Int))).run P W = .ok (.int .u64 ((x % y : Nat) : Int)) W :=
  run_rem (by omega) (tmod_nat x y) W
theorem nr_shl64 {T : TypeId} {k' : IntKind} {x n : Nat} (h : n ≤ 64) (W : World) : (binOp .shl T (.int .u64 (x : Nat)) (.int k' (n : Nat))).run P W = .ok (.int .u64 ((x * 2 ^ n % 18446744073709551616 : Nat) : Int)) W :=
  run_shl h (wrap64N _) W
theorem nr_shr64 {T : TypeId} {k' : IntKind} {x n : Nat} (h : n ≤ 64) (W : World) : (binOp .shr T (.int .u64 (x : Nat)) (.int k' (n : Nat))).run P W = .ok (.int .u64 ((x / 2 ^ n : Nat) : Int)) W :=
  run_shr h rfl W
theorem nr_not64 {x : Nat} (hx : x < 18446744073709551616) (W : World) : (Op.unary .xor (.int .u64 (x : Int))).run P W = .ok (.int .u64 ((18446744073709551615 ^^^ x : Nat) : Int)) W := by
  have h : 18446744073709551615 ^^^ x < 2 ^ 64 := Nat.xor_lt_two_pow (by decide) hx
  have e : bits .xor .u64 18446744073709551615 (x : Int) = ((18446744073709551615 ^^^ x : Nat) : Int) := by
    show IntKind.wrap .u64 ((BitVec.ofInt 64 ((18446744073709551615 : Nat) : Int) ^^^ BitVec.ofInt 64 (x : Int)).toNat : Int) = _
    rw [BitVec.toNat_xor, toNat_of (by decide), toNat_of hx, wrap64N, Nat.mod_eq_of_lt h]
  rw [← e]
  rfl
theorem xor_lt64 {x y : Nat} (hx : x < 18446744073709551616) (hy : y < 18446744073709551616) : x ^^^ y < 18446744073709551616 := Nat.xor_lt_two_pow (n := 64) hx hy
theorem and_lt64 {x y : Nat} (hy : y < 18446744073709551616) : x &&& y < 18446744073709551616 := Nat.and_lt_two_pow (n := 64) _ hy
theorem or_lt64 {x y : Nat} (hx : x < 18446744073709551616) (hy : y < 18446744073709551616) : x ||| y < 18446744073709551616 := Nat.or_lt_two_pow (n := 64) hx hy
theorem mod_lt64 (x : Nat) : x % 18446744073709551616 < 18446744073709551616 := Nat.mod_lt _ (by decide)
theorem div_lt64 {x : Nat} (n : Nat) (h : x < 18446744073709551616) : x / n < 18446744073709551616 := Nat.lt_of_le_of_lt (Nat.div_le_self ..) h
end Go.Proofs.Num
