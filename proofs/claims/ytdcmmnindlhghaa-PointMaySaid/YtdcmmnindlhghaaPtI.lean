/- Powers reckoned out; the base point's numbers; a point's bytes: plainly. -/
import Derived.Test.YtdcmmnindlhghaaPtG
import Derived.Test.YtdcmmnindlhghaaEqS
import Derived.Test.YtdcmmnindlhghaaNumH
set_option linter.unusedSimpArgs false
set_option linter.unusedVariables false
namespace Go.Proofs.Num
open Go Go.RowKit
/-- A power, by the exponent's highest bits first: each number is looked at once. -/
def powB (x n : Nat) : Nat → Nat
  | 0 => 1
  | k + 1 => if n / 2 ^ (255 - k) % 2 = 1 then (powB x n k) ^ 2 % pF * x % pF else (powB x n k) ^ 2 % pF
theorem powB_eq (x n : Nat) (hn : n < 2 ^ 256) : ∀ k, k ≤ 256 → powB x n k = fpow x (n / 2 ^ (256 - k))
  | 0, _ => by rw [Nat.sub_zero, Nat.div_eq_of_lt hn, fpow_zero]; rfl
  | k + 1, hk => by
    have h := fpow_step x n k (by omega)
    have ih := powB_eq x n hn k (by omega)
    rw [powB, ih, Nat.pow_two]
    by_cases hb : n / 2 ^ (255 - k) % 2 = 1
    · rw [if_pos hb, ← h.1 hb]; rfl
    · rw [if_neg hb, ← h.2 hb]; rfl
theorem fpow_B {x n : Nat} (hn : n < 2 ^ 256) : fpow x n = powB x n 256 := by
  rw [powB_eq x n hn 256 (Nat.le_refl _), Nat.sub_self, Nat.pow_zero, Nat.div_one]
theorem finv_B (x : Nat) : finv x = powB x (pF - 2) 256 := fpow_B (by decide)
def baseY : Nat := 46316835694926478169428394003475163141307993866256225615783033603165251855960
def baseX : Nat := 15112221349535400772501151409588531511454012693041857206046113283949847762202
theorem finv_one : finv 1 = 1 := by rw [finv_B]; decide +kernel
theorem finv_five : fmul 4 (finv 5) = baseY := by rw [finv_B]; decide +kernel
theorem dR_dF : dR = dF := by
  unfold dR
  rw [finv_B]
  decide +kernel
theorem over_base : finv (fadd (fmul (fmul baseY baseY) dF) 1) = powB (fadd (fmul (fmul baseY baseY) dF) 1) (pF - 2) 256 := finv_B _
def sqrtB (x : Nat) : Nat × Bool :=
  let r1 := powB (leastF x) eighthE 256
  let r2 := if fmul r1 r1 = leastF x then r1 else fmul r1 (powB 2 fourthE 256)
  if fmul r2 r2 = leastF x then (if r2 % 2 = 1 then fsub 0 r2 else r2, true) else (0, false)
theorem fsqrt_B (x : Nat) : fsqrt x = sqrtB x := by
  unfold fsqrt sqrtB root2 root1
  rw [fpow_B (x := leastF x) (n := eighthE) (by decide), fpow_B (x := 2) (n := fourthE) (by decide)]
theorem rootX_base : rootX baseY = (baseX, true) := by
  unfold rootX
  rw [over_base, fsqrt_B]
  decide +kernel
def baseP : P4 := affP baseX baseY
theorem baseP_ok : baseP.Ok := affP_ok (by decide) (by decide)
theorem nr_or8 {P : Program} {T : TypeId} {x y : Nat} (hx : x < 256) (hy : y < 256) (W : World) : (binOp .or T (.int .u8 (x : Int)) (.int .u8 (y : Int))).run P W = .ok (.int .u8 ((x ||| y : Nat) : Int)) W := by
  have h : x ||| y < 2 ^ 8 := Nat.or_lt_two_pow hx hy
  refine run_or (e := ((x ||| y : Nat) : Int)) ?_ W
  show IntKind.wrap .u8 ((BitVec.ofInt 8 (x : Int) ||| BitVec.ofInt 8 (y : Int)).toNat : Int) = _
  rw [BitVec.toNat_or, toNat_of hx, toNat_of hy]
  simp [IntKind.wrap, IntKind.bits, IntKind.signed]
  omega
/-- A point's bytes: of its y, the highest bit told by its x. -/
def textQ (x y : Nat) : List UInt8 := (bytesN 32 y).set 31 (UInt8.ofNat ((y / 256 ^ 31 % 256) ||| (x % 2 * 128)))
end Go.Proofs.Num

