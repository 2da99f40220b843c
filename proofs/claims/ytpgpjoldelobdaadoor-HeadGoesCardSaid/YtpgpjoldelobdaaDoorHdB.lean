import Derived.WalkKit
import Derived.WalkSpells
import Derived.Laws.Pointers
import Derived.RowKit3
import Derived.Below
import Derived.Outline
import Derived.LoopN
import Derived.Lib.Hide
import Derived.Handy
import Derived.Laws.Bits64b
import Derived.Test.YtpgpjoldelobdaaDoorF3
import Derived.Test.YtpgpjoldelobdaaDoorEqS
import Derived.Test.YtpgpjoldelobdaaDoorShq
import Derived.Test.YtpgpjoldelobdaaDoorOcB
import Derived.Test.YtpgpjoldelobdaaDoorHeadA
import Derived.Test.YtpgpjoldelobdaaDoorSq4
import Derived.Test.YtpgpjoldelobdaaDoorSteps8
import Derived.Test.YtpgpjoldelobdaaDoorAdds2
import Derived.Lib.Bytealg
import Derived.Test.YtpgpjoldelobdaaDoorSteps13
import Derived.Test.YtpgpjoldelobdaaDoorEdB
set_option linter.unusedSimpArgs false
set_option linter.unusedVariables false
namespace Go.Proofs.Yc
open Go Go.RowKit Go.Proofs.Num
open Tryd renaming underlying9 → U99
open Go.Proofs.Num  renaming putT → Z0
open List renaming set → Z6
open Go.Proofs.Num renaming wp_region_seq → Z13
attribute [local irreducible] wpV wpN wpList
open Go.Proofs.Ya
set_option maxHeartbeats 2000000 in
theorem hright_c {z t : Int} {r g : List UInt8} {w : World}  :
  Calls Tryd.prog 27 #[.agg ([.int .i64 z, .string (bs r), .int .i64 t, .string (bs g)]).toArray] w fun e w' => e = .returned (.bool (rightH z r t g)) ∧ Below w.heap.size w w' := by
 go_enter Tryd.func27, Tryd.ntmps27
 have M := Mem.start w
 refine qS fun _ k1 => ?_
 refine nVs (segs := [(0, [.int .i64 z]), (1, [.string (bs r)]), (2, [.int .i64 t]), (3, [.string (bs g)])]) 4 fun g3 w4 M => ?_
 refine lg ?_; refine lZ k1 ?_
 refine sk fun _ k5 => ?_
 cases hg6 : (decide (0 ≤ z))
 ·
  have q7 : ¬ (0 ≤ z) := of_decide_eq_false hg6
  refine Z13 ?_; refine lF ?_; refine lc ?_
  refine cM 28 fun Lk hLk => ?_
  refine vB (v := .bool false) (hr := fun W => (run_geq _ _ _ _ W).trans (by rw [hg6])) ?_
  refine vM ?_; refine vS ?_; refine vS ?_; refine vS ?_; refine vK ?_; refine vM ?_; refine vS ?_; refine vS ?_; refine vS ?_; refine vK ?_
  refine vM ?_; refine vS ?_; refine vS ?_; refine vS ?_; refine vK ?_; refine vM ?_; refine vS ?_; refine vS ?_; refine vS ?_; refine vS ?_
  refine vK ?_; refine vM ?_; refine vS ?_; refine vS ?_; refine vS ?_; refine vS ?_; refine vK ?_
  refine hLk _ fun w9 M => ?_
  refine lg ?_; refine lZ k5 ?_; refine rt1 ?_
  have BE := M.below
  exact ⟨by unfold rightH; (first | (simp [q7]; done) | (simp [q7]; omega)), BE⟩
 have q10 : (0 ≤ z) := of_decide_eq_true hg6
 cases hg11 : (decide (z ≤ 4096))
 ·
  have q12 : ¬ (z ≤ 4096) := of_decide_eq_false hg11
  refine Z13 ?_; refine lF ?_; refine lc ?_
  refine cM 28 fun Lk hLk => ?_
  refine vB (v := .bool true) (hr := fun W => (run_geq _ _ _ _ W).trans (by rw [hg6])) ?_
  refine vM ?_; refine vF ?_; refine vc ?_
  refine vB (v := .bool false) (hr := fun W => (run_leq _ _ _ _ W).trans (by rw [hg11])) ?_
  refine vK ?_; refine vM ?_; refine vS ?_; refine vS ?_; refine vS ?_; refine vK ?_; refine vM ?_; refine vS ?_; refine vS ?_; refine vS ?_
  refine vK ?_; refine vM ?_; refine vS ?_; refine vS ?_; refine vS ?_; refine vS ?_; refine vK ?_; refine vM ?_; refine vS ?_; refine vS ?_
  refine vS ?_; refine vS ?_; refine vK ?_
  refine hLk _ fun w14 M => ?_
  refine lg ?_; refine lZ k5 ?_; refine rt1 ?_
  have BE := M.below
  exact ⟨by unfold rightH; (first | (simp [q10, q12]; done) | (simp [q10, q12]; omega)), BE⟩
 have q15 : (z ≤ 4096) := of_decide_eq_true hg11
 cases hg16 : (decide (0 ≤ t))
 ·
  have q17 : ¬ (0 ≤ t) := of_decide_eq_false hg16
  refine Z13 ?_; refine lF ?_; refine lc ?_
  refine cM 28 fun Lk hLk => ?_
  refine vB (v := .bool true) (hr := fun W => (run_geq _ _ _ _ W).trans (by rw [hg6])) ?_
  refine vM ?_; refine vF ?_; refine vc ?_
  refine vB (v := .bool true) (hr := fun W => (run_leq _ _ _ _ W).trans (by rw [hg11])) ?_
  refine vK ?_; refine vM ?_; refine vF ?_; refine vc ?_
  refine vB (v := .bool false) (hr := fun W => (run_geq _ _ _ _ W).trans (by rw [hg16])) ?_
  refine vK ?_; refine vM ?_; refine vS ?_; refine vS ?_; refine vS ?_; refine vK ?_; refine vM ?_; refine vS ?_; refine vS ?_; refine vS ?_
  refine vS ?_; refine vK ?_; refine vM ?_; refine vS ?_; refine vS ?_; refine vS ?_; refine vS ?_; refine vK ?_
  refine hLk _ fun w19 M => ?_
  refine lg ?_; refine lZ k5 ?_; refine rt1 ?_
  have BE := M.below
  exact ⟨by unfold rightH; (first | (simp [q10, q15, q17]; done) | (simp [q10, q15, q17]; omega)), BE⟩
 have q20 : (0 ≤ t) := of_decide_eq_true hg16
 cases hg21 : (decide (t ≤ 1099511627776))
 ·
  have q22 : ¬ (t ≤ 1099511627776) := of_decide_eq_false hg21
  refine Z13 ?_; refine lF ?_; refine lc ?_
  refine cM 28 fun Lk hLk => ?_
  refine vB (v := .bool true) (hr := fun W => (run_geq _ _ _ _ W).trans (by rw [hg6])) ?_
  refine vM ?_; refine vF ?_; refine vc ?_
  refine vB (v := .bool true) (hr := fun W => (run_leq _ _ _ _ W).trans (by rw [hg11])) ?_
  refine vK ?_; refine vM ?_; refine vF ?_; refine vc ?_
  refine vB (v := .bool true) (hr := fun W => (run_geq _ _ _ _ W).trans (by rw [hg16])) ?_
  refine vK ?_; refine vM ?_; refine vF ?_; refine vc ?_
  refine vB (v := .bool false) (hr := fun W => (run_leq _ _ _ _ W).trans (by rw [hg21])) ?_
  refine vK ?_; refine vM ?_; refine vS ?_; refine vS ?_; refine vS ?_; refine vS ?_; refine vK ?_; refine vM ?_; refine vS ?_; refine vS ?_
  refine vS ?_; refine vS ?_; refine vK ?_
  refine hLk _ fun w24 M => ?_
  refine lg ?_; refine lZ k5 ?_; refine rt1 ?_
  have BE := M.below
  exact ⟨by unfold rightH; (first | (simp [q10, q15, q20, q22]; done) | (simp [q10, q15, q20, q22]; omega)), BE⟩
 have q25 : (t ≤ 1099511627776) := of_decide_eq_true hg21
 cases hg26 : (decide (r.length = 32))
 ·
  have q27 : ¬ (r.length = 32) := of_decide_eq_false hg26
  refine Z13 ?_; refine lF ?_; refine lc ?_
  refine cM 28 fun Lk hLk => ?_
  refine vB (v := .bool true) (hr := fun W => (run_geq _ _ _ _ W).trans (by rw [hg6])) ?_
  refine vM ?_; refine vF ?_; refine vc ?_
  refine vB (v := .bool true) (hr := fun W => (run_leq _ _ _ _ W).trans (by rw [hg11])) ?_
  refine vK ?_; refine vM ?_; refine vF ?_; refine vc ?_
  refine vB (v := .bool true) (hr := fun W => (run_geq _ _ _ _ W).trans (by rw [hg16])) ?_
  refine vK ?_; refine vM ?_; refine vF ?_; refine vc ?_
  refine vB (v := .bool true) (hr := fun W => (run_leq _ _ _ _ W).trans (by rw [hg21])) ?_
  refine vK ?_; refine vM ?_; refine vF ?_; refine vc ?_
  refine wpV_lenS (by rfl) rfl rfl rfl U99 ?_
  simp only [Z0, Z6]
  refine vB (v := .bool false) (hr := fun W => (run_eqlN r.length 32 _ _ W).trans (by rw [hg26])) ?_
  refine vK ?_; refine vM ?_; refine vS ?_; refine vS ?_; refine vS ?_; refine vS ?_; refine vK ?_
  refine hLk _ fun w29 M => ?_
  refine lg ?_; refine lZ k5 ?_; refine rt1 ?_
  have BE := M.below
  exact ⟨by unfold rightH; (first | (simp [q10, q15, q20, q25, q27]; done) | (simp [q10, q15, q20, q25, q27]; omega)), BE⟩
 have q30 : (r.length = 32) := of_decide_eq_true hg26
 refine Z13 ?_; refine lF ?_; refine lc ?_
 refine cM 28 fun Lk hLk => ?_
 refine vB (v := .bool true) (hr := fun W => (run_geq _ _ _ _ W).trans (by rw [hg6])) ?_
 refine vM ?_; refine vF ?_; refine vc ?_
 refine vB (v := .bool true) (hr := fun W => (run_leq _ _ _ _ W).trans (by rw [hg11])) ?_
 refine vK ?_; refine vM ?_; refine vF ?_; refine vc ?_
 refine vB (v := .bool true) (hr := fun W => (run_geq _ _ _ _ W).trans (by rw [hg16])) ?_
 refine vK ?_; refine vM ?_; refine vF ?_; refine vc ?_
 refine vB (v := .bool true) (hr := fun W => (run_leq _ _ _ _ W).trans (by rw [hg21])) ?_
 refine vK ?_; refine vM ?_; refine vF ?_; refine vc ?_
 refine wpV_lenS (by rfl) rfl rfl rfl U99 ?_
 simp only [Z0, Z6]
 refine vB (v := .bool true) (hr := fun W => (run_eqlN r.length 32 _ _ W).trans (by rw [hg26])) ?_
 refine vK ?_; refine vM ?_; refine vF ?_; refine vc ?_
 refine wpV_lenS (by rfl) rfl rfl rfl U99 ?_
 simp only [Z0, Z6]
 refine vB (v := .bool (decide (g.length = 64))) (hr := run_eqlN g.length 64 _ _) ?_
 refine vK ?_
 refine hLk _ fun w32 M => ?_
 refine lg ?_; refine lZ k5 ?_; refine rt1 ?_
 have BE := M.below
 exact ⟨by unfold rightH; (first | (simp [q10, q15, q20, q25, q30]; done) | (simp [q10, q15, q20, q25, q30]; omega)), BE⟩
set_option maxHeartbeats 2000000 in
theorem rhright_c {z t : Int} {r g : List UInt8} {w : World}  :
  Calls Tryd.prog 23 #[.agg ([.int .i64 z, .string (bs r), .int .i64 t, .string (bs g)]).toArray] w fun e w' => e = .returned (.bool (rightH z r t g)) ∧ Below w.heap.size w w' := by
 go_enter Tryd.func23, Tryd.ntmps23
 have M := Mem.start w
 refine qS fun _ k1 => ?_
 refine nVs (segs := [(0, [.int .i64 z]), (1, [.string (bs r)]), (2, [.int .i64 t]), (3, [.string (bs g)])]) 4 fun g3 w4 M => ?_
 refine lg ?_; refine lZ k1 ?_
 refine sk fun _ k5 => ?_
 refine sk fun _ k6 => ?_
 cases hg7 : (decide (z < 0))
 ·
  have q8 : ¬ (z < 0) := of_decide_eq_false hg7
  cases hg9 : (decide (4096 < z))
  ·
   have q10 : ¬ (4096 < z) := of_decide_eq_false hg9
   cases hg11 : (decide (t < 0))
   ·
    have q12 : ¬ (t < 0) := of_decide_eq_false hg11
    refine Z13 ?_; refine lF ?_; refine lc ?_
    refine cM 16 fun Lk hLk => ?_
    refine vB (v := .bool false) (hr := fun W => (run_lss _ _ _ _ W).trans (by rw [hg7])) ?_
    refine vM ?_; refine vF ?_; refine vc ?_
    refine vB (v := .bool false) (hr := fun W => (run_gtr _ _ _ _ W).trans (by rw [hg9])) ?_
    refine vK ?_; refine vM ?_; refine vF ?_; refine vc ?_
    refine vB (v := .bool false) (hr := fun W => (run_lss _ _ _ _ W).trans (by rw [hg11])) ?_
    refine vK ?_; refine vM ?_; refine vF ?_; refine vc ?_
    refine vB (v := .bool (decide (1099511627776 < t))) (hr := run_gtr _ _ _ _) ?_
    refine vK ?_
    refine hLk _ fun w14 M => ?_
    refine lZ k6 ?_
    cases hc15 : (decide (1099511627776 < t))
    ·
     have q16 : ¬ (1099511627776 < t) := of_decide_eq_false hc15
     refine cF ?_; refine sZ k5 ?_
     refine sk fun _ k17 => ?_
     cases hg18 : (decide (r.length = 32))
     ·
      have q19 : ¬ (r.length = 32) := of_decide_eq_false hg18
      refine Z13 ?_; refine lF ?_; refine lc ?_
      refine cM 8 fun Lk hLk => ?_
      refine wpV_lenS (by rfl) rfl rfl rfl U99 ?_
      simp only [Z0, Z6]
      refine vB (v := .bool false) (hr := fun W => (run_eqlN r.length 32 _ _ W).trans (by rw [hg18])) ?_
      refine vM ?_; refine vS ?_; refine vS ?_; refine vS ?_; refine vS ?_; refine vK ?_
      refine hLk _ fun w21 M => ?_
      refine lg ?_; refine lZ k17 ?_; refine rt1 ?_
      have BE := M.below
      exact ⟨by unfold rightH; (first | (simp [q8, q10, q12, q16, q19]; done) | (simp [q8, q10, q12, q16, q19]; omega)), BE⟩
     have q22 : (r.length = 32) := of_decide_eq_true hg18
     refine Z13 ?_; refine lF ?_; refine lc ?_
     refine cM 8 fun Lk hLk => ?_
     refine wpV_lenS (by rfl) rfl rfl rfl U99 ?_
     simp only [Z0, Z6]
     refine vB (v := .bool true) (hr := fun W => (run_eqlN r.length 32 _ _ W).trans (by rw [hg18])) ?_
     refine vM ?_; refine vF ?_; refine vc ?_
     refine wpV_lenS (by rfl) rfl rfl rfl U99 ?_
     simp only [Z0, Z6]
     refine vB (v := .bool (decide (g.length = 64))) (hr := run_eqlN g.length 64 _ _) ?_
     refine vK ?_
     refine hLk _ fun w24 M => ?_
     refine lg ?_; refine lZ k17 ?_; refine rt1 ?_
     have BE := M.below
     exact ⟨by unfold rightH; (first | (simp [q8, q10, q12, q16, q22]; done) | (simp [q8, q10, q12, q16, q22]; omega)), BE⟩
    have q25 : (1099511627776 < t) := of_decide_eq_true hc15
    refine cT ?_
    refine qS fun _ k26 => ?_
    refine lg ?_; refine lZ k26 ?_; refine rt1 ?_
    have BE := M.below
    exact ⟨by unfold rightH; (first | (simp [q8, q10, q12, q25]; done) | (simp [q8, q10, q12, q25]; omega)), BE⟩
   have q28 : (t < 0) := of_decide_eq_true hg11
   refine Z13 ?_; refine lF ?_; refine lc ?_
   refine cM 16 fun Lk hLk => ?_
   refine vB (v := .bool false) (hr := fun W => (run_lss _ _ _ _ W).trans (by rw [hg7])) ?_
   refine vM ?_; refine vF ?_; refine vc ?_
   refine vB (v := .bool false) (hr := fun W => (run_gtr _ _ _ _ W).trans (by rw [hg9])) ?_
   refine vK ?_; refine vM ?_; refine vF ?_; refine vc ?_
   refine vB (v := .bool true) (hr := fun W => (run_lss _ _ _ _ W).trans (by rw [hg11])) ?_
   refine vK ?_; refine vM ?_; refine vS ?_; refine vS ?_; refine vS ?_; refine vK ?_
   refine hLk _ fun w30 M => ?_
   refine lZ k6 ?_; refine cT ?_
   refine qS fun _ k31 => ?_
   refine lg ?_; refine lZ k31 ?_; refine rt1 ?_
   have BE := M.below
   exact ⟨by unfold rightH; (first | (simp [q8, q10, q28]; done) | (simp [q8, q10, q28]; omega)), BE⟩
  have q33 : (4096 < z) := of_decide_eq_true hg9
  refine Z13 ?_; refine lF ?_; refine lc ?_
  refine cM 16 fun Lk hLk => ?_
  refine vB (v := .bool false) (hr := fun W => (run_lss _ _ _ _ W).trans (by rw [hg7])) ?_
  refine vM ?_; refine vF ?_; refine vc ?_
  refine vB (v := .bool true) (hr := fun W => (run_gtr _ _ _ _ W).trans (by rw [hg9])) ?_
  refine vK ?_; refine vM ?_; refine vS ?_; refine vS ?_; refine vS ?_; refine vK ?_; refine vM ?_; refine vS ?_; refine vS ?_; refine vS ?_
  refine vK ?_
  refine hLk _ fun w35 M => ?_
  refine lZ k6 ?_; refine cT ?_
  refine qS fun _ k36 => ?_
  refine lg ?_; refine lZ k36 ?_; refine rt1 ?_
  have BE := M.below
  exact ⟨by unfold rightH; (first | (simp [q8, q33]; done) | (simp [q8, q33]; omega)), BE⟩
 have q38 : (z < 0) := of_decide_eq_true hg7
 refine Z13 ?_; refine lF ?_; refine lc ?_
 refine cM 16 fun Lk hLk => ?_
 refine vB (v := .bool true) (hr := fun W => (run_lss _ _ _ _ W).trans (by rw [hg7])) ?_
 refine vM ?_; refine vS ?_; refine vS ?_; refine vS ?_; refine vK ?_; refine vM ?_; refine vS ?_; refine vS ?_; refine vS ?_; refine vK ?_
 refine vM ?_; refine vS ?_; refine vS ?_; refine vS ?_; refine vK ?_
 refine hLk _ fun w40 M => ?_
 refine lZ k6 ?_; refine cT ?_
 refine qS fun _ k41 => ?_
 refine lg ?_; refine lZ k41 ?_; refine rt1 ?_
 have BE := M.below
 exact ⟨by unfold rightH; (first | (simp [q38]; done) | (simp [q38]; omega)), BE⟩
end Go.Proofs.Yc

namespace Go.Proofs.Yc
open Go Go.RowKit Go.Proofs.Num
open Tryd renaming underlying147 → U9147, underlying196 → U9196, underlying5 → U95, underlying9 → U99
open Go.Proofs.Num  renaming putT → Z0
open Nat renaming zero_add → Z2, mod_eq_of_lt → Z5
open List renaming set → Z6
open Go renaming undef → Z9
open Go.Proofs.Num renaming wp_region_seq → Z13, wpL_nil → Z14, no_panic → Z15, then_normal → Z22
attribute [local irreducible] wpV wpN wpList
open Go.Proofs.Ya
theorem rotl_wrap {n : Nat} (h1 : 1 ≤ n) (h2 : n ≤ 31) : IntKind.u64.wrap (-((n : Nat) : Int)) = ((18446744073709551616 - n : Nat) : Int) := by
 rw [IntKind.wrap_u64]; omega
theorem rotl_and {n : Nat} (h1 : 1 ≤ n) (h2 : n ≤ 31) : bits .and .u64 ((18446744073709551616 - n : Nat) : Int) 31 = ((32 - n : Nat) : Int) := by
 have h := bits_and_u64_nat (18446744073709551616 - n) 31 (by omega) (by decide)
 refine h.trans ?_
 rw [show (31 : Nat) = 2 ^ 5 - 1 by decide, Nat.and_two_pow_sub_one_eq_mod]
 omega
theorem or8 {a b : Nat} (ha : a < 16777216) (hb : b < 256) : bits .or .u32 ((a * 256 : Nat) : Int) ((b : Nat) : Int) = ((a * 256 + b : Nat) : Int) := by
 have h1 := toNat_of (n := 32) (a := a * 256) (Nat.lt_of_lt_of_eq (by omega : a * 256 < 4294967296) (by decide))
 have h2 := toNat_of (n := 32) (a := b) (show b < 4294967296 by omega)
 have h : a * 256 + b < 2 ^ 32 := by omega
 show IntKind.wrap .u32 ((BitVec.ofInt 32 ((a * 256 : Nat) : Int) ||| BitVec.ofInt 32 ((b : Nat) : Int)).toNat : Int) = _
 rw [BitVec.toNat_or, h1, h2, show a * 256 ||| b = a * 256 + b by have := Nat.shiftLeft_add_eq_or_of_lt (i := 8) (b := b) (by omega) a; rw [Nat.shiftLeft_eq, show (2 : Nat) ^ 8 = 256 by decide] at this; exact this.symm, wrap32N, Z5 h]
set_option maxHeartbeats 1000000 in
theorem rotl_c {x n : Nat} {w : World} (hx : x < 4294967296) (hn1 : 1 ≤ n) (hn2 : n ≤ 31) :
  Calls Tryd.prog 154 #[.int .u32 x, .int .i64 (-((n : Nat) : Int))] w fun e w' => e = .returned (.int .u32 (rotr x n : Nat)) ∧ Below w.heap.size w w' := by
 go_enter Tryd.func154, Tryd.ntmps154
 have M := Mem.start w
 refine qS fun _ k1 => ?_
 refine lg ?_; refine lZ k1 ?_
 refine qS fun _ k3 => ?_
 refine lM ?_
 refine cM 2 fun Lk hLk => ?_
 refine wpV_conv (d := .bool) (e := ((18446744073709551616 - n : Nat) : Int)) (by rfl) rfl rfl (run_conv_int Tryd.underlying3 Tryd.underlying99 (rotl_wrap hn1 hn2)) ?_
 simp only [Z0, Z6]
 refine vB (v := .int .u64 (32 - n : Nat)) (hr := run_and (rotl_and hn1 hn2)) ?_
 refine hLk _ fun w5 M => ?_
 refine lg ?_; refine lZ k3 ?_
 refine qS fun _ k6 => ?_
 refine lM ?_; refine lM ?_
 refine cM 6 fun Lk hLk => ?_
 refine vB (v := .int .u32 (x * 2 ^ (32 - n) % 4294967296 : Nat)) (hr := nr_shl32 (x := x) (n := 32 - n) (by omega)) ?_
 refine vM ?_; refine vM ?_
 refine vB (v := .int .u64 (32 - (32 - n) : Nat)) (hr := nr_sub64 (x := 32) (y := 32 - n) (by omega) (by decide)) ?_
 refine vB (v := .int .u32 (x / 2 ^ (32 - (32 - n)) : Nat)) (hr := nr_shr32 (x := x) (n := 32 - (32 - n)) (by omega)) ?_
 refine vB (v := .int .u32 (((x * 2 ^ (32 - n) % 4294967296) ||| (x / 2 ^ (32 - (32 - n))) : Nat) : Int)) (hr := nr_or32 (x := x * 2 ^ (32 - n) % 4294967296) (y := x / 2 ^ (32 - (32 - n))) (mod_lt32 _) (div_lt32 _ hx)) ?_
 refine hLk _ fun w8 M => ?_
 refine lg ?_; refine lZ k6 ?_; refine rt1 ?_
 have BE := M.below
 exact ⟨by (rw [show 32 - (32 - n) = n by omega, rotr_or hx (by omega)]; try rfl), BE⟩
set_option maxHeartbeats 1000000 in
theorem read_c {l : List UInt8} {w : World} (hl : 4 ≤ l.length) :
  Calls Tryd.prog 161 #[.string (bs l)] w fun e w' => e = .returned (.int .u32 (be4 l 0 : Nat)) ∧ Below w.heap.size w w' := by
 go_enter Tryd.func161, Tryd.ntmps161
 have M := Mem.start w
 refine qS fun _ k1 => ?_
 refine lg ?_; refine lZ k1 ?_
 refine qS fun _ k3 => ?_
 refine lg ?_; refine lZ k3 ?_
 refine sk fun _ k5 => ?_
 refine qS fun _ k6 => ?_
 refine lM ?_; refine lZ k6 ?_; refine wp_block ?_; refine wp_loop_rounds 5 ?_
 rw [rounds_succ]
 refine qS fun _ k8 => ?_
 refine cM 1 fun Lk hLk => ?_
 refine vB (v := .bool true) (hr := run_lss _ _ _ _) ?_
 refine hLk _ fun w10 M => ?_
 refine lZ k8 ?_
 refine sk fun _ k11 => ?_
 refine cT ?_; refine sZ k11 ?_
 refine sk fun _ k12 => ?_
 refine wp_block ?_
 refine qS fun _ k13 => ?_
 refine lM ?_; refine lg ?_; refine lZ k13 ?_; refine Z13 ?_; refine lM ?_
 refine cM 6 fun Lk hLk => ?_
 refine vB (v := .int .u32 (0 * 256 : Nat)) (hr := run_shl (m := 0) (n := 8) (by decide) ((wrap32N _).trans (congrArg _ (by have := byteN_lt l 0; have := byteN_lt l 1; have := byteN_lt l 2; omega)))) ?_
 refine vM ?_; refine vM ?_
 refine wpV_indexb (n := 0) (by omega) (by rfl) rfl rfl rfl U99 ?_
 simp only [Z0, Z6]
 refine wpV_conv (d := .bool) (e := ((byteN l 0 : Nat) : Int)) (by rfl) rfl rfl (run_conv_int U95 U9147 (by have := (byteN_lt l 0); rw [wrap32N]; omega)) ?_
 simp only [Z0, Z6]
 refine vB (v := .int .u32 (byteN l 0 : Nat)) (hr := run_or ((or8 (a := 0) (b := byteN l 0) (by decide) (byteN_lt l 0)).trans (by rw [Nat.zero_mul, Z2]))) ?_
 refine hLk _ fun w16 M => ?_
 refine lg ?_; refine lZ k12 ?_; refine Z13 ?_
 refine cM 1 fun Lk hLk => ?_
 refine vB (v := .int .i64 1) (hr := run_add (by decide)) ?_
 refine hLk _ fun w18 M => ?_
 refine lM ?_
 refine Z14 (Z15 ?_)
 refine Z22 (Q := fun _ _ _ => True) ?_
 rw [rounds_succ]
 refine qS fun _ k19 => ?_
 refine cM 1 fun Lk hLk => ?_
 refine vB (v := .bool true) (hr := run_lss _ _ _ _) ?_
 refine hLk _ fun w21 M => ?_
 refine lZ k19 ?_
 refine sk fun _ k22 => ?_
 refine cT ?_; refine sZ k22 ?_
 refine sk fun _ k23 => ?_
 refine wp_block ?_
 refine qS fun _ k24 => ?_
 refine lM ?_; refine lg ?_; refine lZ k24 ?_; refine Z13 ?_; refine lM ?_
 refine cM 6 fun Lk hLk => ?_
 refine vB (v := .int .u32 ((byteN l 0) * 256 : Nat)) (hr := run_shl (m := byteN l 0) (n := 8) (by decide) ((wrap32N _).trans (congrArg _ (by have := byteN_lt l 0; have := byteN_lt l 1; have := byteN_lt l 2; omega)))) ?_
 refine vM ?_; refine vM ?_
 refine wpV_indexb (n := 1) (by omega) (by rfl) rfl rfl rfl U99 ?_
 simp only [Z0, Z6]
 refine wpV_conv (d := .bool) (e := ((byteN l 1 : Nat) : Int)) (by rfl) rfl rfl (run_conv_int U95 U9147 (by have := (byteN_lt l 1); rw [wrap32N]; omega)) ?_
 simp only [Z0, Z6]
 refine vB (v := .int .u32 (byteN l 0 * 256 + byteN l 1 : Nat)) (hr := run_or (or8 (a := byteN l 0) (b := byteN l 1) (by have := byteN_lt l 0; have := byteN_lt l 1; have := byteN_lt l 2; omega) (byteN_lt l 1))) ?_
 refine hLk _ fun w27 M => ?_
 refine lg ?_; refine lZ k23 ?_; refine Z13 ?_
 refine cM 1 fun Lk hLk => ?_
 refine vB (v := .int .i64 2) (hr := run_add (by decide)) ?_
 refine hLk _ fun w29 M => ?_
 refine lM ?_
 refine Z14 (Z15 ?_)
 refine Z22 (Q := fun _ _ _ => True) ?_
 rw [rounds_succ]
 refine qS fun _ k30 => ?_
 refine cM 1 fun Lk hLk => ?_
 refine vB (v := .bool true) (hr := run_lss _ _ _ _) ?_
 refine hLk _ fun w32 M => ?_
 refine lZ k30 ?_
 refine sk fun _ k33 => ?_
 refine cT ?_; refine sZ k33 ?_
 refine sk fun _ k34 => ?_
 refine wp_block ?_
 refine qS fun _ k35 => ?_
 refine lM ?_; refine lg ?_; refine lZ k35 ?_; refine Z13 ?_; refine lM ?_
 refine cM 6 fun Lk hLk => ?_
 refine vB (v := .int .u32 ((byteN l 0 * 256 + byteN l 1) * 256 : Nat)) (hr := run_shl (m := byteN l 0 * 256 + byteN l 1) (n := 8) (by decide) ((wrap32N _).trans (congrArg _ (by have := byteN_lt l 0; have := byteN_lt l 1; have := byteN_lt l 2; omega)))) ?_
 refine vM ?_; refine vM ?_
 refine wpV_indexb (n := 2) (by omega) (by rfl) rfl rfl rfl U99 ?_
 simp only [Z0, Z6]
 refine wpV_conv (d := .bool) (e := ((byteN l 2 : Nat) : Int)) (by rfl) rfl rfl (run_conv_int U95 U9147 (by have := (byteN_lt l 2); rw [wrap32N]; omega)) ?_
 simp only [Z0, Z6]
 refine vB (v := .int .u32 ((byteN l 0 * 256 + byteN l 1) * 256 + byteN l 2 : Nat)) (hr := run_or (or8 (a := byteN l 0 * 256 + byteN l 1) (b := byteN l 2) (by have := byteN_lt l 0; have := byteN_lt l 1; have := byteN_lt l 2; omega) (byteN_lt l 2))) ?_
 refine hLk _ fun w38 M => ?_
 refine lg ?_; refine lZ k34 ?_; refine Z13 ?_
 refine cM 1 fun Lk hLk => ?_
 refine vB (v := .int .i64 3) (hr := run_add (by decide)) ?_
 refine hLk _ fun w40 M => ?_
 refine lM ?_
 refine Z14 (Z15 ?_)
 refine Z22 (Q := fun _ _ _ => True) ?_
 rw [rounds_succ]
 refine qS fun _ k41 => ?_
 refine cM 1 fun Lk hLk => ?_
 refine vB (v := .bool true) (hr := run_lss _ _ _ _) ?_
 refine hLk _ fun w43 M => ?_
 refine lZ k41 ?_
 refine sk fun _ k44 => ?_
 refine cT ?_; refine sZ k44 ?_
 refine sk fun _ k45 => ?_
 refine wp_block ?_
 refine qS fun _ k46 => ?_
 refine lM ?_; refine lg ?_; refine lZ k46 ?_; refine Z13 ?_; refine lM ?_
 refine cM 6 fun Lk hLk => ?_
 refine vB (v := .int .u32 (((byteN l 0 * 256 + byteN l 1) * 256 + byteN l 2) * 256 : Nat)) (hr := run_shl (m := (byteN l 0 * 256 + byteN l 1) * 256 + byteN l 2) (n := 8) (by decide) ((wrap32N _).trans (congrArg _ (by have := byteN_lt l 0; have := byteN_lt l 1; have := byteN_lt l 2; omega)))) ?_
 refine vM ?_; refine vM ?_
 refine wpV_indexb (n := 3) (by omega) (by rfl) rfl rfl rfl U99 ?_
 simp only [Z0, Z6]
 refine wpV_conv (d := .bool) (e := ((byteN l 3 : Nat) : Int)) (by rfl) rfl rfl (run_conv_int U95 U9147 (by have := (byteN_lt l 3); rw [wrap32N]; omega)) ?_
 simp only [Z0, Z6]
 refine vB (v := .int .u32 (be4 l 0 : Nat)) (hr := run_or (or8 (a := (byteN l 0 * 256 + byteN l 1) * 256 + byteN l 2) (b := byteN l 3) (by have := byteN_lt l 0; have := byteN_lt l 1; have := byteN_lt l 2; omega) (byteN_lt l 3))) ?_
 refine hLk _ fun w49 M => ?_
 refine lg ?_; refine lZ k45 ?_; refine Z13 ?_
 refine cM 1 fun Lk hLk => ?_
 refine vB (v := .int .i64 4) (hr := run_add (by decide)) ?_
 refine hLk _ fun w51 M => ?_
 refine lM ?_
 refine Z14 (Z15 ?_)
 refine Z22 (Q := fun _ _ _ => True) ?_
 rw [rounds_succ]
 refine qS fun _ k52 => ?_
 refine cM 1 fun Lk hLk => ?_
 refine vB (v := .bool false) (hr := run_lss _ _ _ _) ?_
 refine hLk _ fun w54 M => ?_
 refine lZ k52 ?_
 refine sk fun _ _ => ?_
 refine cF ?_; refine eZ k5 ?_
 refine qS fun _ k56 => ?_
 refine lM ?_; refine lg ?_; refine lZ k56 ?_; refine rt1 ?_
 exact ⟨rfl, M.below⟩
set_option maxHeartbeats 2000000 in
theorem spread_c {l : List UInt8} {w : World} (hl : 64 ≤ l.length) :
  Calls Tryd.prog 153 #[.string (bs l)] w fun e w' => e = .returned (.agg (wcells l 64).toArray) ∧ Below w.heap.size w w' := by
 go_enter Tryd.func153, Tryd.ntmps153
 have M := Mem.start w
 refine qS fun _ k1 => ?_
 refine nV 64 fun g3 w4 M => ?_
 refine lZ k1 ?_
 refine qS fun _ k5 => ?_
 refine nV 64 fun g7 w8 M => ?_
 refine lZ k5 ?_
 refine sk fun _ k9 => ?_
 refine qS fun _ k10 => ?_
 refine lM ?_; refine lZ k10 ?_; refine wp_block ?_
 replace M := M.read1 (cs := wcells l 0) (o := 0) 0 rfl (by rw [wcells_zero]; exact (M.r 0 0 rfl rfl))
 simp only [Z6] at M
 refine wp_loop_ghost (fun n9 a9 W9 => ∃ (t : Nat) (u12 : Nat → Value), n9 = 64 - t ∧ a9 = { tmps := #[.string (bs l), Z9, .pointer (some ⟨g3, 0, none⟩), .pointer (some ⟨g7, 0, none⟩), u12 4, u12 5, u12 6, u12 7, u12 8, .int .i64 t, u12 10, u12 11, u12 12, u12 13, u12 14, u12 15, u12 16, u12 17, u12 18, u12 19, u12 20, u12 21, u12 22, u12 23, u12 24, u12 25, u12 26, u12 27, u12 28, u12 29, u12 30, u12 31, u12 32, u12 33, u12 34, u12 35, u12 36, u12 37, u12 38, u12 39, u12 40, u12 41, u12 42, u12 43, u12 44, u12 45, u12 46, u12 47, u12 48, u12 49, u12 50, u12 51, u12 52, u12 53, u12 54, u12 55, u12 56, u12 57, u12 58, u12 59, u12 60, Z9], defers := [] } ∧ Mem [] w W9 [⟨g7, 64, [(0, wcells l t)]⟩, ⟨g3, 64, [(0, [.int .u32 0, .int .u32 0, .int .u32 0, .int .u32 0, .int .u32 0, .int .u32 0, .int .u32 0, .int .u32 0, .int .u32 0, .int .u32 0, .int .u32 0, .int .u32 0, .int .u32 0, .int .u32 0, .int .u32 0, .int .u32 0, .int .u32 0, .int .u32 0, .int .u32 0, .int .u32 0, .int .u32 0, .int .u32 0, .int .u32 0, .int .u32 0, .int .u32 0, .int .u32 0, .int .u32 0, .int .u32 0, .int .u32 0, .int .u32 0, .int .u32 0, .int .u32 0, .int .u32 0, .int .u32 0, .int .u32 0, .int .u32 0, .int .u32 0, .int .u32 0, .int .u32 0, .int .u32 0, .int .u32 0, .int .u32 0, .int .u32 0, .int .u32 0, .int .u32 0, .int .u32 0, .int .u32 0, .int .u32 0, .int .u32 0, .int .u32 0, .int .u32 0, .int .u32 0, .int .u32 0, .int .u32 0, .int .u32 0, .int .u32 0, .int .u32 0, .int .u32 0, .int .u32 0, .int .u32 0, .int .u32 0, .int .u32 0, .int .u32 0, .int .u32 0])]⟩] ∧ (t ≤ 64)) (64 - (0)) ?_ (fun n9 a9 W9 hI => ?_)
 ·
  exact ⟨0, (fun q9 => (#[Z9, Z9, Z9, Z9, Z9, Z9, Z9, Z9, Z9, Z9, Z9, Z9, Z9, Z9, Z9, Z9, Z9, Z9, Z9, Z9, Z9, Z9, Z9, Z9, Z9, Z9, Z9, Z9, Z9, Z9, Z9, Z9, Z9, Z9, Z9, Z9, Z9, Z9, Z9, Z9, Z9, Z9, Z9, Z9, Z9, Z9, Z9, Z9, Z9, Z9, Z9, Z9, Z9, Z9, Z9, Z9, Z9, Z9, Z9, Z9, Z9] : Array Value).getD q9 Z9), rfl, rfl, M, (by omega)⟩
 clear M
 obtain ⟨t, u12, rfl, rfl, M, ht4⟩ := hI
 obtain ⟨w13, rfl⟩ : ∃ W8, W8 = W9 := ⟨_, rfl⟩
 refine qS fun _ k14 => ?_
 refine cM 1 fun Lk hLk => ?_
 refine vB (v := .bool (decide (t < 64))) (hr := run_lssN t 64 _ _) ?_
 refine hLk _ fun w16 M => ?_
 refine lZ k14 ?_
 refine sk fun _ k17 => ?_
 cases hc18 : (decide (t < 64))
 ·
  have et : t = 64 := by have := of_decide_eq_false hc18; omega
  subst et
  refine cF ?_; refine eZ k9 ?_
  refine qS fun _ k19 => ?_
  refine lL ?_
  refine lSt (g := g3) (off := 0) (n := 64) (cs := wcells l 64) (M.t 1 rfl) (by rw [wcells_len]; decide) info196 (wcells_one _ _) (fun w22 P R T => ?_)
  replace M := M.putS 1 0 rfl P R T rfl ⟨.inl rfl, trivial⟩
  simp only [Z6] at M
  refine lZ k19 ?_; refine rt ?_
  refine bodyPost_ret (v := .agg (wcells l 64).toArray) (res1 rfl (.cell (by rfl) (run_loadVar_mid _ _ _ _ (wcells l 64) _ (M.r 1 0 rfl rfl) U9196 rfl info196))) rfl ?_
  exact ⟨rfl, M.below⟩
 have ht : t < 64 := of_decide_eq_true hc18
 refine cT ?_; refine sZ k17 ?_
 refine sk fun _ k23 => ?_
 refine wp_block ?_
 refine qS fun _ k24 => ?_
 refine lM ?_; refine lg ?_; refine lZ k24 ?_
 refine sk fun _ k26 => ?_
 refine qS fun _ k27 => ?_
 refine lM ?_
 refine cM 1 fun Lk hLk => ?_
 refine vB (v := .bool (decide (t < 16))) (hr := run_lssN t 16 _ _) ?_
 refine hLk _ fun w29 M => ?_
 refine lZ k27 ?_
 cases hc30 : (decide (t < 16))
 ·
  have h16 : ¬ t < 16 := of_decide_eq_false hc30
  refine cF ?_; refine sZ k26 ?_
  refine sk fun _ k31 => ?_
  refine rG 10 [] fun Lk hLk => ?_
  refine vM ?_
  refine vB (v := .int .i64 (t - 15 : Nat)) (hr := run_sub (by simp only [IntKind.wrap_i64]; omega)) ?_
  refine wpV_idx (n := t - 15) (by rfl) rfl rfl rfl U9196 info147 (by omega) ?_
  simp only [Z2]
  simp only [Z0, Z6]
  refine vQ (v := .int .u32 (shW l (t - 15) : Nat)) (hc := (zadd ((M.r 0 0 rfl rfl) _ _ (wcells_at l (by omega) (by omega))))) (hb := (M.lt 0 rfl)) ?_
  refine vM ?_
  refine vB (v := .int .i64 (t - 2 : Nat)) (hr := run_sub (by simp only [IntKind.wrap_i64]; omega)) ?_
  refine wpV_idx (n := t - 2) (by rfl) rfl rfl rfl U9196 info147 (by omega) ?_
  simp only [Z2]
  simp only [Z0, Z6]
  refine vQ (v := .int .u32 (shW l (t - 2) : Nat)) (hc := (zadd ((M.r 0 0 rfl rfl) _ _ (wcells_at l (by omega) (by omega))))) (hb := (M.lt 0 rfl)) ?_
  refine vg ?_; refine vg ?_
  refine hLk _ fun w33 M => ?_
  refine lZ k31 ?_
  refine qS fun _ k34 => ?_
  refine lM ?_
  refine cM 7 fun Lk hLk => ?_
  refine vCh (v := .int .u32 (rotr (shW l (t - 15)) 7 : Nat)) (args := #[.int .u32 (shW l (t - 15) : Nat), .int .i64 (-7)]) (fun W hW => (by have := rotl_c (x := shW l (t - 15)) (n := 7) (w := W) (shW_lt ..) (by decide) (by decide); exact this)) ?_
  refine vM ?_
  refine vCh (v := .int .u32 (rotr (shW l (t - 15)) 18 : Nat)) (args := #[.int .u32 (shW l (t - 15) : Nat), .int .i64 (-18)]) (fun W hW => (by have := rotl_c (x := shW l (t - 15)) (n := 18) (w := W) (shW_lt ..) (by decide) (by decide); exact this)) ?_
  refine vB (v := .int .u32 (((rotr (shW l (t - 15)) 7) ^^^ (rotr (shW l (t - 15)) 18) : Nat) : Int)) (hr := nr_xor32 (x := rotr (shW l (t - 15)) 7) (y := rotr (shW l (t - 15)) 18) (rotr_lt (shW_lt ..) (by decide)) (rotr_lt (shW_lt ..) (by decide))) ?_
  refine vM ?_
  refine vB (v := .int .u32 ((shW l (t - 15)) / 2 ^ 3 : Nat)) (hr := nr_shr32 (x := shW l (t - 15)) (n := 3) (by omega)) ?_
  refine vB (v := .int .u32 (sg0 (shW l (t - 15)) : Nat)) (hr := nr_xor32 (x := (rotr (shW l (t - 15)) 7) ^^^ (rotr (shW l (t - 15)) 18)) (y := (shW l (t - 15)) / 2 ^ 3) (xor_lt32 (rotr_lt (shW_lt ..) (by decide)) (rotr_lt (shW_lt ..) (by decide))) (div_lt32 _ (shW_lt ..))) ?_
  refine hLk _ fun w36 M => ?_
  refine lg ?_; refine lZ k34 ?_
  refine qS fun _ k37 => ?_
  refine lM ?_
  refine cM 7 fun Lk hLk => ?_
  refine vCh (v := .int .u32 (rotr (shW l (t - 2)) 17 : Nat)) (args := #[.int .u32 (shW l (t - 2) : Nat), .int .i64 (-17)]) (fun W hW => (by have := rotl_c (x := shW l (t - 2)) (n := 17) (w := W) (shW_lt ..) (by decide) (by decide); exact this)) ?_
  refine vM ?_
  refine vCh (v := .int .u32 (rotr (shW l (t - 2)) 19 : Nat)) (args := #[.int .u32 (shW l (t - 2) : Nat), .int .i64 (-19)]) (fun W hW => (by have := rotl_c (x := shW l (t - 2)) (n := 19) (w := W) (shW_lt ..) (by decide) (by decide); exact this)) ?_
  refine vB (v := .int .u32 (((rotr (shW l (t - 2)) 17) ^^^ (rotr (shW l (t - 2)) 19) : Nat) : Int)) (hr := nr_xor32 (x := rotr (shW l (t - 2)) 17) (y := rotr (shW l (t - 2)) 19) (rotr_lt (shW_lt ..) (by decide)) (rotr_lt (shW_lt ..) (by decide))) ?_
  refine vM ?_
  refine vB (v := .int .u32 ((shW l (t - 2)) / 2 ^ 10 : Nat)) (hr := nr_shr32 (x := shW l (t - 2)) (n := 10) (by omega)) ?_
  refine vB (v := .int .u32 (sg1 (shW l (t - 2)) : Nat)) (hr := nr_xor32 (x := (rotr (shW l (t - 2)) 17) ^^^ (rotr (shW l (t - 2)) 19)) (y := (shW l (t - 2)) / 2 ^ 10) (xor_lt32 (rotr_lt (shW_lt ..) (by decide)) (rotr_lt (shW_lt ..) (by decide))) (div_lt32 _ (shW_lt ..))) ?_
  refine hLk _ fun w39 M => ?_
  refine lg ?_; refine lZ k37 ?_
  refine rG 15 [] fun Lk hLk => ?_
  refine vM ?_; refine vM ?_
  refine vB (v := .int .i64 (t - 16 : Nat)) (hr := run_sub (by simp only [IntKind.wrap_i64]; omega)) ?_
  refine wpV_idx (n := t - 16) (by rfl) rfl rfl rfl U9196 info147 (by omega) ?_
  simp only [Z2]
  simp only [Z0, Z6]
  refine vQ (v := .int .u32 (shW l (t - 16) : Nat)) (hc := (zadd ((M.r 0 0 rfl rfl) _ _ (wcells_at l (by omega) (by omega))))) (hb := (M.lt 0 rfl)) ?_
  refine vM ?_
  refine vB (v := .int .u32 ((((shW l (t - 16)) + (sg0 (shW l (t - 15)))) % 4294967296 : Nat) : Int)) (hr := nr_add32 _ (shW l (t - 16)) (sg0 (shW l (t - 15)))) ?_
  refine vM ?_
  refine vB (v := .int .i64 (t - 7 : Nat)) (hr := run_sub (by simp only [IntKind.wrap_i64]; omega)) ?_
  refine wpV_idx (n := t - 7) (by rfl) rfl rfl rfl U9196 info147 (by omega) ?_
  simp only [Z2]
  simp only [Z0, Z6]
  refine vQ (v := .int .u32 (shW l (t - 7) : Nat)) (hc := (zadd ((M.r 0 0 rfl rfl) _ _ (wcells_at l (by omega) (by omega))))) (hb := (M.lt 0 rfl)) ?_
  refine vB (v := .int .u32 ((((((shW l (t - 16)) + (sg0 (shW l (t - 15)))) % 4294967296) + (shW l (t - 7))) % 4294967296 : Nat) : Int)) (hr := nr_add32 _ (((shW l (t - 16)) + (sg0 (shW l (t - 15)))) % 4294967296) (shW l (t - 7))) ?_
  refine vM ?_
  refine vB (v := .int .u32 (shW l t : Nat)) (hr := fun W => (by have := nr_add32 (P := Tryd.prog) 0 (((shW l (t - 16) + sg0 (shW l (t - 15))) % 4294967296 + shW l (t - 7)) % 4294967296) (sg1 (shW l (t - 2))) W; rw [← shW_hi h16] at this; exact this)) ?_
  refine wpV_idx (n := t) (by rfl) rfl rfl rfl U9196 info147 (by omega) ?_
  simp only [Z2]
  simp only [Z0, Z6]
  refine hLk _ fun w41 M => ?_
  refine lS1 (g := g7) (off := t) (n := 64) (v := .int .u32 (shW l t : Nat)) (M.t 0 rfl) (by omega) info147 rfl (fun w42 P R T => ?_)
  replace M := M.put1 (j := t) 0 rfl P R T (Z2 _).symm
  simp only [Z6] at M
  rw [wcells_set l ht] at M
  refine lZ k23 ?_; refine Z13 ?_
  refine cM 1 fun Lk hLk => ?_
  refine vB (v := .int .i64 (t + 1 : Nat)) (hr := run_add (by simp only [IntKind.wrap_i64]; omega)) ?_
  refine hLk _ fun w44 M => ?_
  refine lM ?_
  refine Z14 (Z15 ?_)
  refine Exists.intro _ ⟨?_, (t + 1), (fun q9 => (#[Z9, Z9, Z9, Z9, .int .i64 t, .int .u32 (shW l (t - 15) : Nat), .int .u32 (shW l (t - 2) : Nat), .int .u32 (sg0 (shW l (t - 15)) : Nat), .int .u32 (sg1 (shW l (t - 2)) : Nat), Z9, .bool true, .int .i64 t, .int .i64 t, .bool false, u12 14, u12 15, u12 16, u12 17, u12 18, u12 19, u12 20, .int .i64 t, .int .i64 (t - 15 : Nat), .pointer (some ⟨g7, t - 15, none⟩), .int .u32 (shW l (t - 15) : Nat), .int .i64 t, .int .i64 (t - 2 : Nat), .pointer (some ⟨g7, t - 2, none⟩), .int .u32 (shW l (t - 2) : Nat), .int .u32 (shW l (t - 15) : Nat), .int .u32 (rotr (shW l (t - 15)) 7 : Nat), .int .u32 (shW l (t - 15) : Nat), .int .u32 (rotr (shW l (t - 15)) 18 : Nat), .int .u32 (((rotr (shW l (t - 15)) 7) ^^^ (rotr (shW l (t - 15)) 18) : Nat) : Int), .int .u32 (shW l (t - 15) : Nat), .int .u32 ((shW l (t - 15)) / 2 ^ 3 : Nat), .int .u32 (sg0 (shW l (t - 15)) : Nat), .int .u32 (shW l (t - 2) : Nat), .int .u32 (rotr (shW l (t - 2)) 17 : Nat), .int .u32 (shW l (t - 2) : Nat), .int .u32 (rotr (shW l (t - 2)) 19 : Nat), .int .u32 (((rotr (shW l (t - 2)) 17) ^^^ (rotr (shW l (t - 2)) 19) : Nat) : Int), .int .u32 (shW l (t - 2) : Nat), .int .u32 ((shW l (t - 2)) / 2 ^ 10 : Nat), .int .u32 (sg1 (shW l (t - 2)) : Nat), .int .i64 t, .int .i64 t, .int .i64 (t - 16 : Nat), .pointer (some ⟨g7, t - 16, none⟩), .int .u32 (shW l (t - 16) : Nat), .int .u32 (sg0 (shW l (t - 15)) : Nat), .int .u32 ((((shW l (t - 16)) + (sg0 (shW l (t - 15)))) % 4294967296 : Nat) : Int), .int .i64 t, .int .i64 (t - 7 : Nat), .pointer (some ⟨g7, t - 7, none⟩), .int .u32 (shW l (t - 7) : Nat), .int .u32 ((((((shW l (t - 16)) + (sg0 (shW l (t - 15)))) % 4294967296) + (shW l (t - 7))) % 4294967296 : Nat) : Int), .int .u32 (sg1 (shW l (t - 2)) : Nat), .int .u32 (shW l t : Nat), .pointer (some ⟨g7, t, none⟩), .int .i64 (t + 1 : Nat)] : Array Value).getD q9 Z9), rfl, rfl, M, (by omega)⟩
  omega
 have h16 : t < 16 := of_decide_eq_true hc30
 refine cT ?_
 refine qS fun _ k45 => ?_
 refine lM ?_; refine lM ?_; refine lM ?_
 refine cM 4 fun Lk hLk => ?_
 refine vB (v := .int .i64 (4 * t : Nat)) (hr := run_mul (by simp only [IntKind.wrap_i64]; omega)) ?_
 refine wpV_drop (l := l) (lo := 4 * t) (by rfl) rfl rfl rfl U99 (by omega) ?_
 simp only [Z0, Z6]
 refine vCh (v := .int .u32 (shW l t : Nat)) (args := #[.string (bs (l.drop (4 * t)))]) (fun W hW => (by have := read_c (l := l.drop (4 * t)) (w := W) (by rw [List.length_drop]; omega); rwa [show be4 (l.drop (4 * t)) 0 = shW l t by rw [shW_lo h16]; unfold be4; simp only [byteN_drop, Z2, Nat.add_zero]] at this)) ?_
 refine wpV_idx (n := t) (by rfl) rfl rfl rfl U9196 info147 (by omega) ?_
 simp only [Z2]
 simp only [Z0, Z6]
 refine hLk _ fun w47 M => ?_
 refine lS1 (g := g7) (off := t) (n := 64) (v := .int .u32 (shW l t : Nat)) (M.t 0 rfl) (by omega) info147 rfl (fun w48 P R T => ?_)
 replace M := M.put1 (j := t) 0 rfl P R T (Z2 _).symm
 simp only [Z6] at M
 rw [wcells_set l ht] at M
 refine lZ k45 ?_; refine eZ k23 ?_; refine Z13 ?_
 refine cM 1 fun Lk hLk => ?_
 refine vB (v := .int .i64 (t + 1 : Nat)) (hr := run_add (by simp only [IntKind.wrap_i64]; omega)) ?_
 refine hLk _ fun w50 M => ?_
 refine lM ?_
 refine Z14 (Z15 ?_)
 refine Exists.intro _ ⟨?_, (t + 1), (fun q9 => (#[Z9, Z9, Z9, Z9, .int .i64 t, u12 5, u12 6, u12 7, u12 8, Z9, .bool true, .int .i64 t, .int .i64 t, .bool true, .int .i64 t, .string (bs l), .int .i64 t, .int .i64 (4 * t : Nat), .string (bs (l.drop (4 * t))), .int .u32 (shW l t : Nat), .pointer (some ⟨g7, t, none⟩), u12 21, u12 22, u12 23, u12 24, u12 25, u12 26, u12 27, u12 28, u12 29, u12 30, u12 31, u12 32, u12 33, u12 34, u12 35, u12 36, u12 37, u12 38, u12 39, u12 40, u12 41, u12 42, u12 43, u12 44, u12 45, u12 46, u12 47, u12 48, u12 49, u12 50, u12 51, u12 52, u12 53, u12 54, u12 55, u12 56, u12 57, u12 58, u12 59, .int .i64 (t + 1 : Nat)] : Array Value).getD q9 Z9), rfl, rfl, M, (by omega)⟩
 omega
end Go.Proofs.Yc

namespace Go.Proofs.Yc
open Go Go.RowKit Go.Proofs.Num
open Tryd renaming underlying196 → U9196, underlying9 → U99
open Go.Proofs.Num  renaming putT → Z0
open Nat renaming zero_add → Z2, mod_eq_of_lt → Z5
open List renaming set → Z6
open Go renaming undef → Z9
open Go.Proofs.Num renaming wp_region_seq → Z13, wpL_nil → Z14, no_panic → Z15, then_normal → Z22
attribute [local irreducible] wpV wpN wpList
open Go.Proofs.Ya
set_option maxRecDepth 100000 in
set_option maxHeartbeats 4000000 in
theorem mix_c {g n : Nat} {h : S8} {b l : List UInt8} {w : World} (hh : h.Ok) (hl : 64 ≤ l.length) (hg : g ≠ 1) (L1 : 1 < w.heap.size) (R1_0 : w.rangeAt 1 0 kcells) (hM : Mem [g] w w [⟨g, 10, [(0, [.int .u32 h.a, .int .u32 h.b, .int .u32 h.c, .int .u32 h.d, .int .u32 h.e, .int .u32 h.f, .int .u32 h.g, .int .u32 h.h]), (8, [.string (bs b)]), (9, [.int .u64 n])]⟩]) :
  Calls Tryd.prog 141 #[.pointer (some ⟨g, 0, none⟩), .string (bs l)] w fun e w' => ∃ v, e = .returned v ∧ v = .tuple #[] ∧ Mem [g] w w' [⟨g, 10, [(0, [.int .u32 ((mixS h l).a : Nat), .int .u32 ((mixS h l).b : Nat), .int .u32 ((mixS h l).c : Nat), .int .u32 ((mixS h l).d : Nat), .int .u32 ((mixS h l).e : Nat), .int .u32 ((mixS h l).f : Nat), .int .u32 ((mixS h l).g : Nat), .int .u32 ((mixS h l).h : Nat)]), (8, [.string (bs b)]), (9, [.int .u64 n])]⟩] := by
 go_enter Tryd.func141, Tryd.ntmps141
 have M := hM
 refine qS fun _ k1 => ?_
 refine lM ?_
 refine cM 1 fun Lk hLk => ?_
 refine vC (fun W => spread_c hl) ?_
 refine hLk _ fun w3 M => ?_
 refine nV 64 fun g4 w5 M => ?_
 refine lSt (g := g4) (off := 0) (n := 64) (cs := wcells l 64) (M.t 0 rfl) (by rw [wcells_len]; decide) info196 (wcells_one _ _) (fun w6 P R T => ?_)
 replace M := M.putS 0 0 rfl P R T rfl ⟨.inl rfl, trivial⟩
 simp only [Z6] at M
 refine lZ k1 ?_
 refine qS fun _ k7 => ?_
 refine lM ?_; refine lN ?_; refine lF ?_; refine lF ?_; refine lL ?_
 refine nV 8 fun g10 w11 M => ?_
 refine sT 0 0 fun w12 M => ?_
 refine lZ k7 ?_
 refine sk fun _ k13 => ?_
 refine qS fun _ k14 => ?_
 refine lM ?_; refine lZ k14 ?_; refine wp_block ?_
 refine wp_loop_ghost (fun n9 a9 W9 => ∃ (t : Nat) (v : S8) (u16 : Nat → Value), n9 = 64 - t ∧ a9 = { tmps := #[.pointer (some ⟨g, 0, none⟩), .string (bs l), Z9, Z9, .pointer (some ⟨g4, 0, none⟩), .pointer (some ⟨g10, 0, none⟩), u16 6, u16 7, u16 8, u16 9, u16 10, Z9, .string (bs l), .agg (wcells l 64).toArray, .pointer (some ⟨g, 0, none⟩), .pointer (some ⟨g, 0, none⟩), .pointer (some ⟨g, 0, none⟩), .pointer (some ⟨g, 0, none⟩), .agg ([.int .u32 h.a, .int .u32 h.b, .int .u32 h.c, .int .u32 h.d, .int .u32 h.e, .int .u32 h.f, .int .u32 h.g, .int .u32 h.h]).toArray, .int .i64 t, u16 20, u16 21, u16 22, u16 23, u16 24, u16 25, u16 26, u16 27, u16 28, u16 29, u16 30, u16 31, u16 32, u16 33, u16 34, u16 35, u16 36, u16 37, u16 38, u16 39, u16 40, u16 41, u16 42, u16 43, u16 44, u16 45, u16 46, u16 47, u16 48, u16 49, u16 50, u16 51, u16 52, u16 53, u16 54, u16 55, u16 56, u16 57, u16 58, u16 59, u16 60, u16 61, u16 62, u16 63, u16 64, u16 65, u16 66, u16 67, u16 68, u16 69, u16 70, u16 71, u16 72, u16 73, u16 74, u16 75, u16 76, u16 77, u16 78, u16 79, u16 80, u16 81, u16 82, u16 83, u16 84, u16 85, u16 86, u16 87, u16 88, u16 89, u16 90, u16 91, u16 92, u16 93, u16 94, u16 95, u16 96, u16 97, u16 98, Z9, Z9, Z9, Z9, Z9, Z9, Z9, Z9, Z9, Z9, Z9, Z9, Z9, Z9, Z9, Z9, Z9, Z9, Z9], defers := [] } ∧ Mem [g] w W9 [⟨g10, 8, [(0, [.int .u32 v.a, .int .u32 v.b, .int .u32 v.c, .int .u32 v.d, .int .u32 v.e, .int .u32 v.f, .int .u32 v.g, .int .u32 v.h])]⟩, ⟨g4, 64, [(0, wcells l 64)]⟩, ⟨g, 10, [(0, [.int .u32 h.a, .int .u32 h.b, .int .u32 h.c, .int .u32 h.d, .int .u32 h.e, .int .u32 h.f, .int .u32 h.g, .int .u32 h.h]), (8, [.string (bs b)]), (9, [.int .u64 n])]⟩] ∧ (t ≤ 64) ∧ (v = rnds l h t)) (64 - (0)) ?_ (fun n9 a9 W9 hI => ?_)
 ·
  exact ⟨0, h, (fun q9 => (#[Z9, Z9, Z9, Z9, Z9, Z9, Z9, Z9, Z9, Z9, Z9, Z9, Z9, Z9, Z9, Z9, Z9, Z9, Z9, Z9, Z9, Z9, Z9, Z9, Z9, Z9, Z9, Z9, Z9, Z9, Z9, Z9, Z9, Z9, Z9, Z9, Z9, Z9, Z9, Z9, Z9, Z9, Z9, Z9, Z9, Z9, Z9, Z9, Z9, Z9, Z9, Z9, Z9, Z9, Z9, Z9, Z9, Z9, Z9, Z9, Z9, Z9, Z9, Z9, Z9, Z9, Z9, Z9, Z9, Z9, Z9, Z9, Z9, Z9, Z9, Z9, Z9, Z9, Z9, Z9, Z9, Z9, Z9, Z9, Z9, Z9, Z9, Z9, Z9, Z9, Z9, Z9, Z9, Z9, Z9, Z9, Z9, Z9, Z9] : Array Value).getD q9 Z9), rfl, rfl, M, (by omega), rfl⟩
 clear M
 obtain ⟨t, v, u16, rfl, rfl, M, ht4, hv⟩ := hI
 obtain ⟨w17, rfl⟩ : ∃ W8, W8 = W9 := ⟨_, rfl⟩
 have hok : v.Ok := hv ▸ rnds_ok hh t
 refine qS fun _ k18 => ?_
 refine cM 1 fun Lk hLk => ?_
 refine vB (v := .bool (decide (t < 64))) (hr := run_lssN t 64 _ _) ?_
 refine hLk _ fun w20 M => ?_
 refine lZ k18 ?_
 refine sk fun _ k21 => ?_
 cases hc22 : (decide (t < 64))
 ·
  have et : t = 64 := by have := of_decide_eq_false hc22; omega
  subst et
  subst hv
  refine cF ?_; refine eZ k13 ?_
  refine qS fun _ k23 => ?_
  refine lM ?_; refine lZ k23 ?_; refine wp_block ?_; refine wp_loop_rounds 9 ?_
  rw [rounds_succ]
  refine qS fun _ k25 => ?_
  refine cM 1 fun Lk hLk => ?_
  refine vB (v := .bool true) (hr := run_lss _ _ _ _) ?_
  refine hLk _ fun w27 M => ?_
  refine lZ k25 ?_
  refine sk fun _ k28 => ?_
  refine cT ?_; refine sZ k28 ?_
  refine sk fun _ k29 => ?_
  refine wp_block ?_
  refine qS fun _ k30 => ?_
  refine lM ?_; refine lg ?_; refine lZ k30 ?_
  refine rG 15 [] fun Lk hLk => ?_
  refine vM ?_; refine vM ?_; refine vN ?_; refine vF ?_; refine vF ?_; refine vF ?_
  refine vP (pvLc (v := .int .u32 h.a) (range_one (range_sub (M.r 2 0 rfl rfl) 0 1 0 (xs := [.int .u32 h.a]) rfl rfl)) (M.lt 2 rfl)) ?_
  refine vM ?_; refine vF ?_
  refine vP (pvLc (v := .int .u32 ((rnds l h 64).a : Nat)) (range_one (range_sub (M.r 0 0 rfl rfl) 0 1 0 (xs := [.int .u32 ((rnds l h 64).a : Nat)]) rfl rfl)) (M.lt 0 rfl)) ?_
  refine vB (v := .int .u32 (((h.a + ((rnds l h 64).a)) % 4294967296 : Nat) : Int)) (hr := nr_add32 _ h.a ((rnds l h 64).a)) ?_
  refine vN ?_; refine vF ?_; refine vF ?_; refine vF ?_
  refine hLk _ fun w33 M => ?_
  refine lS1 (g := g) (off := 0) (n := 10) (v := .int .u32 (((h.a + ((rnds l h 64).a)) % 4294967296 : Nat) : Int)) (M.t 2 rfl) (by decide) info147 rfl (fun w34 P R T => ?_)
  replace M := M.putI (i := 0) 2 0 rfl P R T rfl rfl (by simp) (by simp [SepS, flen])
  simp only [Z6] at M
  refine lZ k29 ?_; refine Z13 ?_
  refine cM 1 fun Lk hLk => ?_
  refine vB (v := .int .i64 1) (hr := run_add (by decide)) ?_
  refine hLk _ fun w36 M => ?_
  refine lM ?_
  refine Z14 (Z15 ?_)
  refine Z22 (Q := fun _ _ _ => True) ?_
  rw [rounds_succ]
  refine qS fun _ k37 => ?_
  refine cM 1 fun Lk hLk => ?_
  refine vB (v := .bool true) (hr := run_lss _ _ _ _) ?_
  refine hLk _ fun w39 M => ?_
  refine lZ k37 ?_
  refine sk fun _ k40 => ?_
  refine cT ?_; refine sZ k40 ?_
  refine sk fun _ k41 => ?_
  refine wp_block ?_
  refine qS fun _ k42 => ?_
  refine lM ?_; refine lg ?_; refine lZ k42 ?_
  refine rG 15 [] fun Lk hLk => ?_
  refine vM ?_; refine vM ?_; refine vN ?_; refine vF ?_; refine vF ?_; refine vF ?_
  refine vP (pvLc (v := .int .u32 h.b) (range_one (range_sub (M.r 2 0 rfl rfl) 1 1 1 (xs := [.int .u32 h.b]) rfl rfl)) (M.lt 2 rfl)) ?_
  refine vM ?_; refine vF ?_
  refine vP (pvLc (v := .int .u32 ((rnds l h 64).b : Nat)) (range_one (range_sub (M.r 0 0 rfl rfl) 1 1 1 (xs := [.int .u32 ((rnds l h 64).b : Nat)]) rfl rfl)) (M.lt 0 rfl)) ?_
  refine vB (v := .int .u32 (((h.b + ((rnds l h 64).b)) % 4294967296 : Nat) : Int)) (hr := nr_add32 _ h.b ((rnds l h 64).b)) ?_
  refine vN ?_; refine vF ?_; refine vF ?_; refine vF ?_
  refine hLk _ fun w45 M => ?_
  refine lS1 (g := g) (off := 1) (n := 10) (v := .int .u32 (((h.b + ((rnds l h 64).b)) % 4294967296 : Nat) : Int)) (M.t 2 rfl) (by decide) info147 rfl (fun w46 P R T => ?_)
  replace M := M.putI (i := 1) 2 0 rfl P R T rfl rfl (by simp) (by simp [SepS, flen])
  simp only [Z6] at M
  refine lZ k41 ?_; refine Z13 ?_
  refine cM 1 fun Lk hLk => ?_
  refine vB (v := .int .i64 2) (hr := run_add (by decide)) ?_
  refine hLk _ fun w48 M => ?_
  refine lM ?_
  refine Z14 (Z15 ?_)
  refine Z22 (Q := fun _ _ _ => True) ?_
  rw [rounds_succ]
  refine qS fun _ k49 => ?_
  refine cM 1 fun Lk hLk => ?_
  refine vB (v := .bool true) (hr := run_lss _ _ _ _) ?_
  refine hLk _ fun w51 M => ?_
  refine lZ k49 ?_
  refine sk fun _ k52 => ?_
  refine cT ?_; refine sZ k52 ?_
  refine sk fun _ k53 => ?_
  refine wp_block ?_
  refine qS fun _ k54 => ?_
  refine lM ?_; refine lg ?_; refine lZ k54 ?_
  refine rG 15 [] fun Lk hLk => ?_
  refine vM ?_; refine vM ?_; refine vN ?_; refine vF ?_; refine vF ?_; refine vF ?_
  refine vP (pvLc (v := .int .u32 h.c) (range_one (range_sub (M.r 2 0 rfl rfl) 2 1 2 (xs := [.int .u32 h.c]) rfl rfl)) (M.lt 2 rfl)) ?_
  refine vM ?_; refine vF ?_
  refine vP (pvLc (v := .int .u32 ((rnds l h 64).c : Nat)) (range_one (range_sub (M.r 0 0 rfl rfl) 2 1 2 (xs := [.int .u32 ((rnds l h 64).c : Nat)]) rfl rfl)) (M.lt 0 rfl)) ?_
  refine vB (v := .int .u32 (((h.c + ((rnds l h 64).c)) % 4294967296 : Nat) : Int)) (hr := nr_add32 _ h.c ((rnds l h 64).c)) ?_
  refine vN ?_; refine vF ?_; refine vF ?_; refine vF ?_
  refine hLk _ fun w57 M => ?_
  refine lS1 (g := g) (off := 2) (n := 10) (v := .int .u32 (((h.c + ((rnds l h 64).c)) % 4294967296 : Nat) : Int)) (M.t 2 rfl) (by decide) info147 rfl (fun w58 P R T => ?_)
  replace M := M.putI (i := 2) 2 0 rfl P R T rfl rfl (by simp) (by simp [SepS, flen])
  simp only [Z6] at M
  refine lZ k53 ?_; refine Z13 ?_
  refine cM 1 fun Lk hLk => ?_
  refine vB (v := .int .i64 3) (hr := run_add (by decide)) ?_
  refine hLk _ fun w60 M => ?_
  refine lM ?_
  refine Z14 (Z15 ?_)
  refine Z22 (Q := fun _ _ _ => True) ?_
  rw [rounds_succ]
  refine qS fun _ k61 => ?_
  refine cM 1 fun Lk hLk => ?_
  refine vB (v := .bool true) (hr := run_lss _ _ _ _) ?_
  refine hLk _ fun w63 M => ?_
  refine lZ k61 ?_
  refine sk fun _ k64 => ?_
  refine cT ?_; refine sZ k64 ?_
  refine sk fun _ k65 => ?_
  refine wp_block ?_
  refine qS fun _ k66 => ?_
  refine lM ?_; refine lg ?_; refine lZ k66 ?_
  refine rG 15 [] fun Lk hLk => ?_
  refine vM ?_; refine vM ?_; refine vN ?_; refine vF ?_; refine vF ?_; refine vF ?_
  refine vP (pvLc (v := .int .u32 h.d) (range_one (range_sub (M.r 2 0 rfl rfl) 3 1 3 (xs := [.int .u32 h.d]) rfl rfl)) (M.lt 2 rfl)) ?_
  refine vM ?_; refine vF ?_
  refine vP (pvLc (v := .int .u32 ((rnds l h 64).d : Nat)) (range_one (range_sub (M.r 0 0 rfl rfl) 3 1 3 (xs := [.int .u32 ((rnds l h 64).d : Nat)]) rfl rfl)) (M.lt 0 rfl)) ?_
  refine vB (v := .int .u32 (((h.d + ((rnds l h 64).d)) % 4294967296 : Nat) : Int)) (hr := nr_add32 _ h.d ((rnds l h 64).d)) ?_
  refine vN ?_; refine vF ?_; refine vF ?_; refine vF ?_
  refine hLk _ fun w69 M => ?_
  refine lS1 (g := g) (off := 3) (n := 10) (v := .int .u32 (((h.d + ((rnds l h 64).d)) % 4294967296 : Nat) : Int)) (M.t 2 rfl) (by decide) info147 rfl (fun w70 P R T => ?_)
  replace M := M.putI (i := 3) 2 0 rfl P R T rfl rfl (by simp) (by simp [SepS, flen])
  simp only [Z6] at M
  refine lZ k65 ?_; refine Z13 ?_
  refine cM 1 fun Lk hLk => ?_
  refine vB (v := .int .i64 4) (hr := run_add (by decide)) ?_
  refine hLk _ fun w72 M => ?_
  refine lM ?_
  refine Z14 (Z15 ?_)
  refine Z22 (Q := fun _ _ _ => True) ?_
  rw [rounds_succ]
  refine qS fun _ k73 => ?_
  refine cM 1 fun Lk hLk => ?_
  refine vB (v := .bool true) (hr := run_lss _ _ _ _) ?_
  refine hLk _ fun w75 M => ?_
  refine lZ k73 ?_
  refine sk fun _ k76 => ?_
  refine cT ?_; refine sZ k76 ?_
  refine sk fun _ k77 => ?_
  refine wp_block ?_
  refine qS fun _ k78 => ?_
  refine lM ?_; refine lg ?_; refine lZ k78 ?_
  refine rG 15 [] fun Lk hLk => ?_
  refine vM ?_; refine vM ?_; refine vN ?_; refine vF ?_; refine vF ?_; refine vF ?_
  refine vP (pvLc (v := .int .u32 h.e) (range_one (range_sub (M.r 2 0 rfl rfl) 4 1 4 (xs := [.int .u32 h.e]) rfl rfl)) (M.lt 2 rfl)) ?_
  refine vM ?_; refine vF ?_
  refine vP (pvLc (v := .int .u32 ((rnds l h 64).e : Nat)) (range_one (range_sub (M.r 0 0 rfl rfl) 4 1 4 (xs := [.int .u32 ((rnds l h 64).e : Nat)]) rfl rfl)) (M.lt 0 rfl)) ?_
  refine vB (v := .int .u32 (((h.e + ((rnds l h 64).e)) % 4294967296 : Nat) : Int)) (hr := nr_add32 _ h.e ((rnds l h 64).e)) ?_
  refine vN ?_; refine vF ?_; refine vF ?_; refine vF ?_
  refine hLk _ fun w81 M => ?_
  refine lS1 (g := g) (off := 4) (n := 10) (v := .int .u32 (((h.e + ((rnds l h 64).e)) % 4294967296 : Nat) : Int)) (M.t 2 rfl) (by decide) info147 rfl (fun w82 P R T => ?_)
  replace M := M.putI (i := 4) 2 0 rfl P R T rfl rfl (by simp) (by simp [SepS, flen])
  simp only [Z6] at M
  refine lZ k77 ?_; refine Z13 ?_
  refine cM 1 fun Lk hLk => ?_
  refine vB (v := .int .i64 5) (hr := run_add (by decide)) ?_
  refine hLk _ fun w84 M => ?_
  refine lM ?_
  refine Z14 (Z15 ?_)
  refine Z22 (Q := fun _ _ _ => True) ?_
  rw [rounds_succ]
  refine qS fun _ k85 => ?_
  refine cM 1 fun Lk hLk => ?_
  refine vB (v := .bool true) (hr := run_lss _ _ _ _) ?_
  refine hLk _ fun w87 M => ?_
  refine lZ k85 ?_
  refine sk fun _ k88 => ?_
  refine cT ?_; refine sZ k88 ?_
  refine sk fun _ k89 => ?_
  refine wp_block ?_
  refine qS fun _ k90 => ?_
  refine lM ?_; refine lg ?_; refine lZ k90 ?_
  refine rG 15 [] fun Lk hLk => ?_
  refine vM ?_; refine vM ?_; refine vN ?_; refine vF ?_; refine vF ?_; refine vF ?_
  refine vP (pvLc (v := .int .u32 h.f) (range_one (range_sub (M.r 2 0 rfl rfl) 5 1 5 (xs := [.int .u32 h.f]) rfl rfl)) (M.lt 2 rfl)) ?_
  refine vM ?_; refine vF ?_
  refine vP (pvLc (v := .int .u32 ((rnds l h 64).f : Nat)) (range_one (range_sub (M.r 0 0 rfl rfl) 5 1 5 (xs := [.int .u32 ((rnds l h 64).f : Nat)]) rfl rfl)) (M.lt 0 rfl)) ?_
  refine vB (v := .int .u32 (((h.f + ((rnds l h 64).f)) % 4294967296 : Nat) : Int)) (hr := nr_add32 _ h.f ((rnds l h 64).f)) ?_
  refine vN ?_; refine vF ?_; refine vF ?_; refine vF ?_
  refine hLk _ fun w93 M => ?_
  refine lS1 (g := g) (off := 5) (n := 10) (v := .int .u32 (((h.f + ((rnds l h 64).f)) % 4294967296 : Nat) : Int)) (M.t 2 rfl) (by decide) info147 rfl (fun w94 P R T => ?_)
  replace M := M.putI (i := 5) 2 0 rfl P R T rfl rfl (by simp) (by simp [SepS, flen])
  simp only [Z6] at M
  refine lZ k89 ?_; refine Z13 ?_
  refine cM 1 fun Lk hLk => ?_
  refine vB (v := .int .i64 6) (hr := run_add (by decide)) ?_
  refine hLk _ fun w96 M => ?_
  refine lM ?_
  refine Z14 (Z15 ?_)
  refine Z22 (Q := fun _ _ _ => True) ?_
  rw [rounds_succ]
  refine qS fun _ k97 => ?_
  refine cM 1 fun Lk hLk => ?_
  refine vB (v := .bool true) (hr := run_lss _ _ _ _) ?_
  refine hLk _ fun w99 M => ?_
  refine lZ k97 ?_
  refine sk fun _ k100 => ?_
  refine cT ?_; refine sZ k100 ?_
  refine sk fun _ k101 => ?_
  refine wp_block ?_
  refine qS fun _ k102 => ?_
  refine lM ?_; refine lg ?_; refine lZ k102 ?_
  refine rG 15 [] fun Lk hLk => ?_
  refine vM ?_; refine vM ?_; refine vN ?_; refine vF ?_; refine vF ?_; refine vF ?_
  refine vP (pvLc (v := .int .u32 h.g) (range_one (range_sub (M.r 2 0 rfl rfl) 6 1 6 (xs := [.int .u32 h.g]) rfl rfl)) (M.lt 2 rfl)) ?_
  refine vM ?_; refine vF ?_
  refine vP (pvLc (v := .int .u32 ((rnds l h 64).g : Nat)) (range_one (range_sub (M.r 0 0 rfl rfl) 6 1 6 (xs := [.int .u32 ((rnds l h 64).g : Nat)]) rfl rfl)) (M.lt 0 rfl)) ?_
  refine vB (v := .int .u32 (((h.g + ((rnds l h 64).g)) % 4294967296 : Nat) : Int)) (hr := nr_add32 _ h.g ((rnds l h 64).g)) ?_
  refine vN ?_; refine vF ?_; refine vF ?_; refine vF ?_
  refine hLk _ fun w105 M => ?_
  refine lS1 (g := g) (off := 6) (n := 10) (v := .int .u32 (((h.g + ((rnds l h 64).g)) % 4294967296 : Nat) : Int)) (M.t 2 rfl) (by decide) info147 rfl (fun w106 P R T => ?_)
  replace M := M.putI (i := 6) 2 0 rfl P R T rfl rfl (by simp) (by simp [SepS, flen])
  simp only [Z6] at M
  refine lZ k101 ?_; refine Z13 ?_
  refine cM 1 fun Lk hLk => ?_
  refine vB (v := .int .i64 7) (hr := run_add (by decide)) ?_
  refine hLk _ fun w108 M => ?_
  refine lM ?_
  refine Z14 (Z15 ?_)
  refine Z22 (Q := fun _ _ _ => True) ?_
  rw [rounds_succ]
  refine qS fun _ k109 => ?_
  refine cM 1 fun Lk hLk => ?_
  refine vB (v := .bool true) (hr := run_lss _ _ _ _) ?_
  refine hLk _ fun w111 M => ?_
  refine lZ k109 ?_
  refine sk fun _ k112 => ?_
  refine cT ?_; refine sZ k112 ?_
  refine sk fun _ k113 => ?_
  refine wp_block ?_
  refine qS fun _ k114 => ?_
  refine lM ?_; refine lg ?_; refine lZ k114 ?_
  refine rG 15 [] fun Lk hLk => ?_
  refine vM ?_; refine vM ?_; refine vN ?_; refine vF ?_; refine vF ?_; refine vF ?_
  refine vP (pvLc (v := .int .u32 h.h) (range_one (range_sub (M.r 2 0 rfl rfl) 7 1 7 (xs := [.int .u32 h.h]) rfl rfl)) (M.lt 2 rfl)) ?_
  refine vM ?_; refine vF ?_
  refine vP (pvLc (v := .int .u32 ((rnds l h 64).h : Nat)) (range_one (range_sub (M.r 0 0 rfl rfl) 7 1 7 (xs := [.int .u32 ((rnds l h 64).h : Nat)]) rfl rfl)) (M.lt 0 rfl)) ?_
  refine vB (v := .int .u32 (((h.h + ((rnds l h 64).h)) % 4294967296 : Nat) : Int)) (hr := nr_add32 _ h.h ((rnds l h 64).h)) ?_
  refine vN ?_; refine vF ?_; refine vF ?_; refine vF ?_
  refine hLk _ fun w117 M => ?_
  refine lS1 (g := g) (off := 7) (n := 10) (v := .int .u32 (((h.h + ((rnds l h 64).h)) % 4294967296 : Nat) : Int)) (M.t 2 rfl) (by decide) info147 rfl (fun w118 P R T => ?_)
  replace M := M.putI (i := 7) 2 0 rfl P R T rfl rfl (by simp) (by simp [SepS, flen])
  simp only [Z6] at M
  refine lZ k113 ?_; refine Z13 ?_
  refine cM 1 fun Lk hLk => ?_
  refine vB (v := .int .i64 8) (hr := run_add (by decide)) ?_
  refine hLk _ fun w120 M => ?_
  refine lM ?_
  refine Z14 (Z15 ?_)
  refine Z22 (Q := fun _ _ _ => True) ?_
  rw [rounds_succ]
  refine qS fun _ k121 => ?_
  refine cM 1 fun Lk hLk => ?_
  refine vB (v := .bool false) (hr := run_lss _ _ _ _) ?_
  refine hLk _ fun w123 M => ?_
  refine lZ k121 ?_
  refine sk fun _ _ => ?_
  refine cF ?_; refine wp_exit ?_
  repeat (first | with_reducible refine then_exit ?_ | with_reducible refine inblock_exit ?_)
  refine bodyPost_end (v := .tuple #[]) (results_none rfl _ _ _) rfl ?_
  exact ⟨_, rfl, rfl, M.pick [2] (by decide) rfl⟩
 have ht : t < 64 := of_decide_eq_true hc22
 refine cT ?_; refine sZ k21 ?_
 refine sk fun _ k125 => ?_
 refine wp_block ?_
 refine qS fun _ k126 => ?_
 refine lM ?_; refine lg ?_; refine lZ k126 ?_
 refine sk fun _ k128 => ?_
 refine rG 6 [] fun Lk hLk => ?_
 refine vF ?_
 refine vP (pvLc (v := .int .u32 v.a) (range_one (range_sub (M.r 0 0 rfl rfl) 0 1 0 (xs := [.int .u32 v.a]) rfl rfl)) (M.lt 0 rfl)) ?_
 refine vF ?_
 refine vP (pvLc (v := .int .u32 v.e) (range_one (range_sub (M.r 0 0 rfl rfl) 4 1 4 (xs := [.int .u32 v.e]) rfl rfl)) (M.lt 0 rfl)) ?_
 refine vg ?_; refine vg ?_
 refine hLk _ fun w130 M => ?_
 refine lZ k128 ?_
 refine sk fun _ k131 => ?_
 refine rG 30 [] fun Lk hLk => ?_
 refine vF ?_
 refine vP (pvLc (v := .int .u32 v.h) (range_one (range_sub (M.r 0 0 rfl rfl) 7 1 7 (xs := [.int .u32 v.h]) rfl rfl)) (M.lt 0 rfl)) ?_
 refine vM ?_
 refine vC (v := .int .u32 (rotr v.e 6 : Nat)) (args := #[.int .u32 v.e, .int .i64 (-6)]) (fun W => (by have := rotl_c (x := v.e) (n := 6) (w := W) hok.e (by decide) (by decide); exact this)) ?_
 refine vM ?_
 refine vC (v := .int .u32 (rotr v.e 11 : Nat)) (args := #[.int .u32 v.e, .int .i64 (-11)]) (fun W => (by have := rotl_c (x := v.e) (n := 11) (w := W) hok.e (by decide) (by decide); exact this)) ?_
 refine vB (v := .int .u32 ((rotr v.e 6) ^^^ (rotr v.e 11) : Nat)) (hr := nr_xor32 (x := rotr v.e 6) (y := rotr v.e 11) (rotr_lt hok.e (by decide)) (rotr_lt hok.e (by decide))) ?_
 refine vM ?_
 refine vC (v := .int .u32 (rotr v.e 25 : Nat)) (args := #[.int .u32 v.e, .int .i64 (-25)]) (fun W => (by have := rotl_c (x := v.e) (n := 25) (w := W) hok.e (by decide) (by decide); exact this)) ?_
 refine vB (v := .int .u32 (bg1 v.e : Nat)) (hr := nr_xor32 (x := (rotr v.e 6) ^^^ (rotr v.e 11)) (y := rotr v.e 25) (xor_lt32 (rotr_lt hok.e (by decide)) (rotr_lt hok.e (by decide))) (rotr_lt hok.e (by decide))) ?_
 refine vB (v := .int .u32 ((v.h + (bg1 v.e)) % 4294967296 : Nat)) (hr := nr_add32 _ v.h (bg1 v.e)) ?_
 refine vM ?_; refine vF ?_
 refine vP (pvLc (v := .int .u32 v.f) (range_one (range_sub (M.r 0 0 rfl rfl) 5 1 5 (xs := [.int .u32 v.f]) rfl rfl)) (M.lt 0 rfl)) ?_
 refine vB (v := .int .u32 (v.e &&& v.f : Nat)) (hr := nr_and32 (x := v.e) (y := v.f) hok.e hok.f) ?_
 refine vM ?_
 refine wpV_un (v := .int .u32 (4294967295 ^^^ v.e : Nat)) (by rfl) rfl rfl (fun W => nr_not32 (x := v.e) hok.e W) ?_
 simp only [Z0, Z6]
 refine vF ?_
 refine vP (pvLc (v := .int .u32 v.g) (range_one (range_sub (M.r 0 0 rfl rfl) 6 1 6 (xs := [.int .u32 v.g]) rfl rfl)) (M.lt 0 rfl)) ?_
 refine vB (v := .int .u32 ((4294967295 ^^^ v.e) &&& v.g : Nat)) (hr := nr_and32 (x := 4294967295 ^^^ v.e) (y := v.g) (xor_lt32 (by decide) hok.e) hok.g) ?_
 refine vB (v := .int .u32 (chs v.e v.f v.g : Nat)) (hr := nr_xor32 (x := v.e &&& v.f) (y := (4294967295 ^^^ v.e) &&& v.g) (and_lt32 hok.f) (and_lt32 hok.g)) ?_
 refine vB (v := .int .u32 (((((v.h + (bg1 v.e)) % 4294967296) + (chs v.e v.f v.g)) % 4294967296 : Nat) : Int)) (hr := nr_add32 _ ((v.h + (bg1 v.e)) % 4294967296) (chs v.e v.f v.g)) ?_
 refine vM ?_
 refine wpV_idx (n := t) (by rfl) rfl rfl rfl U9196 info147 (by omega) ?_
 simp only [Z2]
 simp only [Z0, Z6]
 refine vQ (v := .int .u32 (keyN t : Nat)) (hc := (zadd ((M.oldG R1_0 L1 (by simpa using Ne.symm hg)) _ _ (kcells_get (by omega))))) (hb := (M.oldL L1)) ?_
 refine vB (v := .int .u32 (((((((v.h + (bg1 v.e)) % 4294967296) + (chs v.e v.f v.g)) % 4294967296) + (keyN t)) % 4294967296 : Nat) : Int)) (hr := nr_add32 _ ((((v.h + (bg1 v.e)) % 4294967296) + (chs v.e v.f v.g)) % 4294967296) (keyN t)) ?_
 refine vM ?_
 refine wpV_idx (n := t) (by rfl) rfl rfl rfl U9196 info147 (by omega) ?_
 simp only [Z2]
 simp only [Z0, Z6]
 refine vQ (v := .int .u32 (shW l t : Nat)) (hc := (zadd ((M.r 1 0 rfl rfl) _ _ (wcells_at l (by omega) (by omega))))) (hb := (M.lt 1 rfl)) ?_
 refine vB (v := .int .u32 (one (keyN t) (shW l t) v : Nat)) (hr := nr_add32 _ ((((((v.h + (bg1 v.e)) % 4294967296) + (chs v.e v.f v.g)) % 4294967296) + (keyN t)) % 4294967296) (shW l t)) ?_
 refine hLk _ fun w133 M => ?_
 refine lg ?_; refine lZ k131 ?_
 refine sk fun _ k134 => ?_
 refine rG 24 [] fun Lk hLk => ?_
 refine vM ?_
 refine vC (v := .int .u32 (rotr v.a 2 : Nat)) (args := #[.int .u32 v.a, .int .i64 (-2)]) (fun W => (by have := rotl_c (x := v.a) (n := 2) (w := W) hok.a (by decide) (by decide); exact this)) ?_
 refine vM ?_
 refine vC (v := .int .u32 (rotr v.a 13 : Nat)) (args := #[.int .u32 v.a, .int .i64 (-13)]) (fun W => (by have := rotl_c (x := v.a) (n := 13) (w := W) hok.a (by decide) (by decide); exact this)) ?_
 refine vB (v := .int .u32 ((rotr v.a 2) ^^^ (rotr v.a 13) : Nat)) (hr := nr_xor32 (x := rotr v.a 2) (y := rotr v.a 13) (rotr_lt hok.a (by decide)) (rotr_lt hok.a (by decide))) ?_
 refine vM ?_
 refine vC (v := .int .u32 (rotr v.a 22 : Nat)) (args := #[.int .u32 v.a, .int .i64 (-22)]) (fun W => (by have := rotl_c (x := v.a) (n := 22) (w := W) hok.a (by decide) (by decide); exact this)) ?_
 refine vB (v := .int .u32 (bg0 v.a : Nat)) (hr := nr_xor32 (x := (rotr v.a 2) ^^^ (rotr v.a 13)) (y := rotr v.a 22) (xor_lt32 (rotr_lt hok.a (by decide)) (rotr_lt hok.a (by decide))) (rotr_lt hok.a (by decide))) ?_
 refine vM ?_; refine vF ?_
 refine vP (pvLc (v := .int .u32 v.b) (range_one (range_sub (M.r 0 0 rfl rfl) 1 1 1 (xs := [.int .u32 v.b]) rfl rfl)) (M.lt 0 rfl)) ?_
 refine vB (v := .int .u32 (v.a &&& v.b : Nat)) (hr := nr_and32 (x := v.a) (y := v.b) hok.a hok.b) ?_
 refine vM ?_; refine vF ?_
 refine vP (pvLc (v := .int .u32 v.c) (range_one (range_sub (M.r 0 0 rfl rfl) 2 1 2 (xs := [.int .u32 v.c]) rfl rfl)) (M.lt 0 rfl)) ?_
 refine vB (v := .int .u32 (v.a &&& v.c : Nat)) (hr := nr_and32 (x := v.a) (y := v.c) hok.a hok.c) ?_
 refine vB (v := .int .u32 ((v.a &&& v.b) ^^^ (v.a &&& v.c) : Nat)) (hr := nr_xor32 (x := v.a &&& v.b) (y := v.a &&& v.c) (and_lt32 hok.b) (and_lt32 hok.c)) ?_
 refine vF ?_
 refine vP (pvLc (v := .int .u32 v.b) (range_one (range_sub (M.r 0 0 rfl rfl) 1 1 1 (xs := [.int .u32 v.b]) rfl rfl)) (M.lt 0 rfl)) ?_
 refine vF ?_
 refine vP (pvLc (v := .int .u32 v.c) (range_one (range_sub (M.r 0 0 rfl rfl) 2 1 2 (xs := [.int .u32 v.c]) rfl rfl)) (M.lt 0 rfl)) ?_
 refine vB (v := .int .u32 (v.b &&& v.c : Nat)) (hr := nr_and32 (x := v.b) (y := v.c) hok.b hok.c) ?_
 refine vB (v := .int .u32 (maj v.a v.b v.c : Nat)) (hr := nr_xor32 (x := (v.a &&& v.b) ^^^ (v.a &&& v.c)) (y := v.b &&& v.c) (xor_lt32 (and_lt32 hok.b) (and_lt32 hok.c)) (and_lt32 hok.c)) ?_
 refine vB (v := .int .u32 (two v : Nat)) (hr := nr_add32 _ (bg0 v.a) (maj v.a v.b v.c)) ?_
 refine hLk _ fun w136 M => ?_
 refine lg ?_; refine lZ k134 ?_; refine Z13 ?_; refine lM ?_; refine lM ?_
 refine cM 16 fun Lk hLk => ?_
 refine vB (v := .int .u32 ((((one (keyN t) (shW l t) v) + (two v)) % 4294967296 : Nat) : Int)) (hr := nr_add32 _ (one (keyN t) (shW l t) v) (two v)) ?_
 refine vM ?_; refine vF ?_
 refine vP (pvLc (v := .int .u32 v.b) (range_one (range_sub (M.r 0 0 rfl rfl) 1 1 1 (xs := [.int .u32 v.b]) rfl rfl)) (M.lt 0 rfl)) ?_
 refine vF ?_
 refine vP (pvLc (v := .int .u32 v.c) (range_one (range_sub (M.r 0 0 rfl rfl) 2 1 2 (xs := [.int .u32 v.c]) rfl rfl)) (M.lt 0 rfl)) ?_
 refine vF ?_
 refine vP (pvLc (v := .int .u32 v.d) (range_one (range_sub (M.r 0 0 rfl rfl) 3 1 3 (xs := [.int .u32 v.d]) rfl rfl)) (M.lt 0 rfl)) ?_
 refine vM ?_
 refine vB (v := .int .u32 (((v.d + (one (keyN t) (shW l t) v)) % 4294967296 : Nat) : Int)) (hr := nr_add32 _ v.d (one (keyN t) (shW l t) v)) ?_
 refine vM ?_; refine vF ?_
 refine vP (pvLc (v := .int .u32 v.f) (range_one (range_sub (M.r 0 0 rfl rfl) 5 1 5 (xs := [.int .u32 v.f]) rfl rfl)) (M.lt 0 rfl)) ?_
 refine vF ?_
 refine vP (pvLc (v := .int .u32 v.g) (range_one (range_sub (M.r 0 0 rfl rfl) 6 1 6 (xs := [.int .u32 v.g]) rfl rfl)) (M.lt 0 rfl)) ?_
 refine vGk (v := .agg ([.int .u32 ((((one (keyN t) (shW l t) v) + (two v)) % 4294967296 : Nat) : Int), .int .u32 v.a, .int .u32 v.b, .int .u32 v.c, .int .u32 (((v.d + (one (keyN t) (shW l t) v)) % 4294967296 : Nat) : Int), .int .u32 v.e, .int .u32 v.f, .int .u32 v.g]).toArray) ?_
 simp only [Z0, Z6]
 refine hLk _ fun w138 M => ?_
 refine sT 0 0 fun w139 M => ?_
 refine lZ k125 ?_; refine Z13 ?_
 refine cM 1 fun Lk hLk => ?_
 refine vB (v := .int .i64 (t + 1 : Nat)) (hr := run_add (by simp only [IntKind.wrap_i64]; omega)) ?_
 refine hLk _ fun w141 M => ?_
 refine lM ?_
 refine Z14 (Z15 ?_)
 refine Exists.intro _ ⟨?_, (t + 1), (rnd (keyN t) (shW l t) v), (fun q9 => (#[Z9, Z9, Z9, Z9, Z9, Z9, .int .i64 t, .int .u32 v.a, .int .u32 v.e, .int .u32 (one (keyN t) (shW l t) v : Nat), .int .u32 (two v : Nat), Z9, Z9, Z9, Z9, Z9, Z9, Z9, Z9, Z9, .bool true, .int .i64 t, .pointer (some ⟨g10, 0, none⟩), .int .u32 v.a, .pointer (some ⟨g10, 4, none⟩), .int .u32 v.e, .pointer (some ⟨g10, 7, none⟩), .int .u32 v.h, .int .u32 v.e, .int .u32 (rotr v.e 6 : Nat), .int .u32 v.e, .int .u32 (rotr v.e 11 : Nat), .int .u32 ((rotr v.e 6) ^^^ (rotr v.e 11) : Nat), .int .u32 v.e, .int .u32 (rotr v.e 25 : Nat), .int .u32 (bg1 v.e : Nat), .int .u32 ((v.h + (bg1 v.e)) % 4294967296 : Nat), .int .u32 v.e, .pointer (some ⟨g10, 5, none⟩), .int .u32 v.f, .int .u32 (v.e &&& v.f : Nat), .int .u32 v.e, .int .u32 (4294967295 ^^^ v.e : Nat), .pointer (some ⟨g10, 6, none⟩), .int .u32 v.g, .int .u32 ((4294967295 ^^^ v.e) &&& v.g : Nat), .int .u32 (chs v.e v.f v.g : Nat), .int .u32 (((((v.h + (bg1 v.e)) % 4294967296) + (chs v.e v.f v.g)) % 4294967296 : Nat) : Int), .int .i64 t, .pointer (some ⟨1, t, none⟩), .int .u32 (keyN t : Nat), .int .u32 (((((((v.h + (bg1 v.e)) % 4294967296) + (chs v.e v.f v.g)) % 4294967296) + (keyN t)) % 4294967296 : Nat) : Int), .int .i64 t, .pointer (some ⟨g4, t, none⟩), .int .u32 (shW l t : Nat), .int .u32 (one (keyN t) (shW l t) v : Nat), .int .u32 v.a, .int .u32 (rotr v.a 2 : Nat), .int .u32 v.a, .int .u32 (rotr v.a 13 : Nat), .int .u32 ((rotr v.a 2) ^^^ (rotr v.a 13) : Nat), .int .u32 v.a, .int .u32 (rotr v.a 22 : Nat), .int .u32 (bg0 v.a : Nat), .int .u32 v.a, .pointer (some ⟨g10, 1, none⟩), .int .u32 v.b, .int .u32 (v.a &&& v.b : Nat), .int .u32 v.a, .pointer (some ⟨g10, 2, none⟩), .int .u32 v.c, .int .u32 (v.a &&& v.c : Nat), .int .u32 ((v.a &&& v.b) ^^^ (v.a &&& v.c) : Nat), .pointer (some ⟨g10, 1, none⟩), .int .u32 v.b, .pointer (some ⟨g10, 2, none⟩), .int .u32 v.c, .int .u32 (v.b &&& v.c : Nat), .int .u32 (maj v.a v.b v.c : Nat), .int .u32 (two v : Nat), .int .u32 (one (keyN t) (shW l t) v : Nat), .int .u32 (two v : Nat), .int .u32 ((((one (keyN t) (shW l t) v) + (two v)) % 4294967296 : Nat) : Int), .int .u32 v.a, .pointer (some ⟨g10, 1, none⟩), .int .u32 v.b, .pointer (some ⟨g10, 2, none⟩), .int .u32 v.c, .pointer (some ⟨g10, 3, none⟩), .int .u32 v.d, .int .u32 (one (keyN t) (shW l t) v : Nat), .int .u32 (((v.d + (one (keyN t) (shW l t) v)) % 4294967296 : Nat) : Int), .int .u32 v.e, .pointer (some ⟨g10, 5, none⟩), .int .u32 v.f, .pointer (some ⟨g10, 6, none⟩), .int .u32 v.g, .agg ([.int .u32 ((((one (keyN t) (shW l t) v) + (two v)) % 4294967296 : Nat) : Int), .int .u32 v.a, .int .u32 v.b, .int .u32 v.c, .int .u32 (((v.d + (one (keyN t) (shW l t) v)) % 4294967296 : Nat) : Int), .int .u32 v.e, .int .u32 v.f, .int .u32 v.g]).toArray, .int .i64 (t + 1 : Nat)] : Array Value).getD q9 Z9), rfl, rfl, M, (by omega), (by rw [hv]; rfl)⟩
 omega
set_option maxHeartbeats 4000000 in
theorem take_c {g n : Nat} {h : S8} {b l : List UInt8} {w : World} (hh : h.Ok) (hb : b.length < 64) (hl : l.length ≤ 9223372036854775744) (hg : g ≠ 1) (L1 : 1 < w.heap.size) (R1_0 : w.rangeAt 1 0 kcells) (hM : Mem [g] w w [⟨g, 10, [(0, [.int .u32 h.a, .int .u32 h.b, .int .u32 h.c, .int .u32 h.d, .int .u32 h.e, .int .u32 h.f, .int .u32 h.g, .int .u32 h.h]), (8, [.string (bs b)]), (9, [.int .u64 n])]⟩]) :
  Calls Tryd.prog 109 #[.pointer (some ⟨g, 0, none⟩), .string (bs l)] w fun e w' => ∃ v, e = .returned v ∧ v = .tuple #[] ∧ Mem [g] w w' [⟨g, 10, [(0, [.int .u32 ((takeH h (b ++ l)).a : Nat), .int .u32 ((takeH h (b ++ l)).b : Nat), .int .u32 ((takeH h (b ++ l)).c : Nat), .int .u32 ((takeH h (b ++ l)).d : Nat), .int .u32 ((takeH h (b ++ l)).e : Nat), .int .u32 ((takeH h (b ++ l)).f : Nat), .int .u32 ((takeH h (b ++ l)).g : Nat), .int .u32 ((takeH h (b ++ l)).h : Nat)]), (8, [.string (bs (takeR (b ++ l)))]), (9, [.int .u64 (((n + l.length) % 18446744073709551616) : Nat)])]⟩] := by
 go_enter Tryd.func109, Tryd.ntmps109
 have M := hM
 refine qS fun _ k1 => ?_
 refine lM ?_; refine lN ?_; refine lF ?_; refine lF ?_; refine lc ?_; refine lM ?_
 refine cM 6 fun Lk hLk => ?_
 refine wpV_lenS (by rfl) rfl rfl rfl U99 ?_
 simp only [Z0, Z6]
 refine wpV_conv (d := .bool) (e := ((l.length : Nat) : Int)) (by rfl) rfl rfl (run_conv_int Tryd.underlying3 Tryd.underlying40 ((wrap64N _).trans (congrArg _ (Z5 (by omega))))) ?_
 simp only [Z0, Z6]
 refine vB (v := .int .u64 ((n + l.length) % 18446744073709551616 : Nat)) (hr := nr_add64 _ n l.length) ?_
 refine vN ?_; refine vF ?_; refine vF ?_
 refine hLk _ fun w3 M => ?_
 refine sT1 0 2 fun w4 M => ?_
 refine lZ k1 ?_
 refine qS fun _ k5 => ?_
 refine lM ?_; refine lN ?_; refine lF ?_; refine lF ?_; refine lc ?_; refine lM ?_
 refine cM 1 fun Lk hLk => ?_
 refine wpV_binS (v := .string (bs (b ++ l))) (by rfl) rfl rfl rfl (run_add_bs _ _ _ (by omega)) ?_
 simp only [Z0, Z6]
 refine hLk _ fun w7 M => ?_
 refine lg ?_; refine lZ k5 ?_
 refine sk fun _ k8 => ?_
 refine wp_block ?_
 refine wp_loop_ghost (fun n9 a9 W9 => ∃ (r : List UInt8) (s : S8) (u9_23 u9_24 u9_25 u9_26 u9_27 u9_28 u9_29 u9_30 : Value), n9 = r.length ∧ a9 = { tmps := #[.pointer (some ⟨g, 0, none⟩), .string (bs r), Z9, Z9, .pointer (some ⟨g, 0, none⟩), .pointer (some ⟨g, 0, none⟩), .pointer (some ⟨g, 0, none⟩), .pointer (some ⟨g, 9, none⟩), .int .u64 n, .string (bs l), .int .i64 l.length, .int .u64 l.length, .int .u64 ((n + l.length) % 18446744073709551616 : Nat), .pointer (some ⟨g, 0, none⟩), .pointer (some ⟨g, 0, none⟩), .pointer (some ⟨g, 9, none⟩), .pointer (some ⟨g, 0, none⟩), .pointer (some ⟨g, 0, none⟩), .pointer (some ⟨g, 0, none⟩), .pointer (some ⟨g, 8, none⟩), .string (bs b), .string (bs l), .string (bs (b ++ l)), u9_23, u9_24, u9_25, u9_26, u9_27, u9_28, u9_29, u9_30, Z9, Z9, Z9, Z9, Z9], defers := [] } ∧ Mem [g] w W9 [⟨g, 10, [(0, [.int .u32 s.a, .int .u32 s.b, .int .u32 s.c, .int .u32 s.d, .int .u32 s.e, .int .u32 s.f, .int .u32 s.g, .int .u32 s.h]), (8, [.string (bs b)]), (9, [.int .u64 (((n + l.length) % 18446744073709551616) : Nat)])]⟩] ∧ (s.Ok) ∧ (takeH s r = takeH h (b ++ l)) ∧ (takeR r = takeR (b ++ l))) ((b ++ l).length) ?_ (fun n9 a9 W9 hI => ?_)
 ·
  exact ⟨(b ++ l), h, _, _, _, _, _, _, _, _, rfl, rfl, M, hh, rfl, rfl⟩
 clear M
 obtain ⟨r, s, u9_23, u9_24, u9_25, u9_26, u9_27, u9_28, u9_29, u9_30, rfl, rfl, M, hs, hH, hR⟩ := hI
 obtain ⟨w10, rfl⟩ : ∃ W8, W8 = W9 := ⟨_, rfl⟩
 refine sk fun _ k11 => ?_
 refine qS fun _ k12 => ?_
 refine lM ?_
 refine cM 2 fun Lk hLk => ?_
 refine wpV_lenS (by rfl) rfl rfl rfl U99 ?_
 simp only [Z0, Z6]
 refine vB (v := .bool (decide (64 ≤ r.length))) (hr := run_geqN r.length 64 _ _) ?_
 refine hLk _ fun w14 M => ?_
 refine lZ k12 ?_
 cases hc15 : (decide (64 ≤ r.length))
 ·
  have h64 : ¬ 64 ≤ r.length := of_decide_eq_false hc15
  rw [takeH_done h64] at hH
  rw [takeR_done h64] at hR
  subst hH hR
  refine cF ?_; refine eZ k8 ?_; refine Z13 ?_; refine lM ?_; refine lM ?_; refine lN ?_; refine lF ?_; refine lF ?_
  refine sT1 0 1 fun w18 M => ?_
  refine Z14 (Z15 ?_)
  repeat (first | with_reducible refine then_exit ?_ | with_reducible refine inblock_exit ?_)
  refine bodyPost_end (v := .tuple #[]) (results_none rfl _ _ _) rfl ?_
  exact ⟨_, rfl, rfl, M.pick [0] (by decide) rfl⟩
 have h64 : 64 ≤ r.length := of_decide_eq_true hc15
 refine cT ?_; refine sZ k11 ?_
 refine sk fun _ k19 => ?_
 refine wp_block ?_; refine Z13 ?_; refine lM ?_; refine lM ?_
 refine wpL_callM (f := 141) (args := #[.pointer (some ⟨g, 0, none⟩), .string (bs r)]) (R := fun v9 W9 => v9 = .tuple #[] ∧ Mem [g] w14 W9 [⟨g, 10, [(0, [.int .u32 ((mixS s r).a : Nat), .int .u32 ((mixS s r).b : Nat), .int .u32 ((mixS s r).c : Nat), .int .u32 ((mixS s r).d : Nat), .int .u32 ((mixS s r).e : Nat), .int .u32 ((mixS s r).f : Nat), .int .u32 ((mixS s r).g : Nat), .int .u32 ((mixS s r).h : Nat)]), (8, [.string (bs b)]), (9, [.int .u64 (((n + l.length) % 18446744073709551616) : Nat)])]⟩]) (by rfl) (by rfl) rfl Tryd.func141 (by kernel_rfl) (by kernel_rfl) (mix_c (h := s) (l := r) hs h64 hg (M.oldL L1) (M.oldG R1_0 L1 (by simpa using Ne.symm hg)) (M.one 0 rfl)) (fun v9 w21 h9 => ?_)
 obtain ⟨rfl, M9⟩ := h9
 replace M := M.callM1 0 rfl M9
 simp only [Z6] at M
 simp only [Z0, Z6]
 refine lZ k19 ?_; refine Z13 ?_; refine lM ?_
 refine cM 1 fun Lk hLk => ?_
 refine wpV_drop (l := r) (lo := 64) (by rfl) rfl rfl rfl U99 h64 ?_
 simp only [Z0, Z6]
 refine hLk _ fun w23 M => ?_
 refine lg ?_
 refine Z14 (Z15 ?_)
 refine Exists.intro _ ⟨?_, (r.drop 64), (mixS s r), _, _, _, _, _, _, _, _, rfl, rfl, M, (plus8_ok ..), ((takeH_more h64).symm.trans hH), ((takeR_more h64).symm.trans hR)⟩
 rw [List.length_drop]; omega
end Go.Proofs.Yc

namespace Go.Proofs.Yc
open Go Go.RowKit Go.Proofs.Num
open Tryd renaming underlying147 → U9147, underlying29 → U929, underlying5 → U95, underlying9 → U99
open Go.Proofs.Num  renaming putT → Z0
open Nat renaming zero_add → Z2, le_trans → Z3
open List renaming set → Z6, take → Z7, drop → Z8
open Go renaming undef → Z9
open Go.Proofs.Num renaming wp_region_seq → Z13, wpL_nil → Z14, no_panic → Z15, wpV_nil → Z19, wpL_var → Z36
attribute [local irreducible] wpV wpN wpList
open Go.Proofs.Ya
set_option maxHeartbeats 4000000 in
theorem end_c {g n : Nat} {h : S8} {b : List UInt8} {w : World} (hh : h.Ok) (hb : b.length < 64) (hn : n < 18446744073709551616) (hg : g ≠ 1) (L1 : 1 < w.heap.size) (R1_0 : w.rangeAt 1 0 kcells) (hM : Mem [g] w w [⟨g, 10, [(0, [.int .u32 h.a, .int .u32 h.b, .int .u32 h.c, .int .u32 h.d, .int .u32 h.e, .int .u32 h.f, .int .u32 h.g, .int .u32 h.h]), (8, [.string (bs b)]), (9, [.int .u64 n])]⟩]) :
  Calls Tryd.prog 110 #[.pointer (some ⟨g, 0, none⟩)] w fun e w' => ∃ v, e = .returned v ∧ v = .string (bs (endL h b n)) ∧ Mem [g] w w' [⟨g, 10, []⟩] := by
 go_enter Tryd.func110, Tryd.ntmps110
 have M := hM
 refine qS fun _ k1 => ?_
 refine lg ?_; refine lZ k1 ?_
 refine qS fun _ k3 => ?_
 refine lM ?_; refine lN ?_; refine lF ?_; refine lF ?_; refine lc ?_
 refine cM 1 fun Lk hLk => ?_
 refine vB (v := .int .u64 ((n * 8) % 18446744073709551616 : Nat)) (hr := nr_mul64 _ n 8) ?_
 refine hLk _ fun w5 M => ?_
 refine lg ?_; refine lZ k3 ?_
 refine qS fun _ k6 => ?_
 refine lM ?_; refine lN ?_; refine lF ?_; refine lF ?_; refine lc ?_
 refine cM 3 fun Lk hLk => ?_
 refine wpV_lenS (by rfl) rfl rfl rfl U99 ?_
 simp only [Z0, Z6]
 refine vB (v := .int .i64 (119 - b.length : Nat)) (hr := run_sub (by simp only [IntKind.wrap_i64]; omega)) ?_
 refine vB (v := .int .i64 ((119 - b.length) % 64 : Nat)) (hr := run_rem (by decide) (tmod_nat (119 - b.length) 64)) ?_
 refine hLk _ fun w8 M => ?_
 refine lg ?_; refine lZ k6 ?_
 refine qS fun _ k9 => ?_
 refine lM ?_
 refine cM 2 fun Lk hLk => ?_
 refine vB (v := .int .i64 (1 + (119 - b.length) % 64 : Nat)) (hr := run_add (by simp only [IntKind.wrap_i64]; omega)) ?_
 refine vB (v := .int .i64 (1 + (119 - b.length) % 64 + 8 : Nat)) (hr := run_add (by simp only [IntKind.wrap_i64]; omega)) ?_
 refine hLk _ fun w11 M => ?_
 refine wpL_make (n := 1 + (119 - b.length) % 64 + 8) (z := .int .u8 0) (bytes := 1) (by rfl) (by rfl) (by rfl) (by rfl) U929 (by kernel_rfl) rfl (by omega) (by omega) (fun g12 w13 Sw13 Hg12 Bg12 => ?_)
 replace M := ((M.sees Sw13).add (N := 1 + (119 - b.length) % 64 + 8) (cs := List.replicate (1 + (119 - b.length) % 64 + 8) (.int .u8 0)) (M.ge Hg12) (M.fresh Hg12) Bg12 (by simp [flen]))
 clear Bg12
 simp only [Z0, Z6]
 refine lg ?_; refine lZ k9 ?_
 refine qS fun _ k14 => ?_
 refine lM ?_
 refine cM 1 fun Lk hLk => ?_
 refine wpV_idxs (n := 0) (by rfl) rfl rfl rfl U929 info5 (by omega) ?_
 simp only [Z2]
 simp only [Z0, Z6]
 refine hLk _ fun w16 M => ?_
 refine lS1 (g := g12) (off := 0) (n := 1 + (119 - b.length) % 64 + 8) (v := .int .u8 128) (M.t 0 rfl) (by omega) info5 rfl (fun w17 P R T => ?_)
 replace M := M.put1 (j := 0) 0 rfl P R T (Z2 _).symm
 simp only [Z6] at M
 rw [tail_first _ (n * 8 % 18446744073709551616)] at M
 refine lZ k14 ?_
 refine sk fun _ k18 => ?_
 refine qS fun _ k19 => ?_
 refine lM ?_; refine lZ k19 ?_; refine wp_block ?_
 refine wp_loop_ghost (fun n9 a9 W9 => ∃ (q : Nat) (u21_6 u21_32 u21_33 u21_34 u21_35 u21_36 u21_37 u21_38 u21_39 u21_40 u21_41 u21_42 u21_43 u21_44 u21_45 u21_46 : Value), n9 = 8 - q ∧ a9 = { tmps := #[.pointer (some ⟨g, 0, none⟩), Z9, .string (bs ([])), .int .u64 ((n * 8) % 18446744073709551616 : Nat), .int .i64 ((119 - b.length) % 64 : Nat), .slice (some ⟨g12, 0, none⟩) (1 + (119 - b.length) % 64 + 8) (1 + (119 - b.length) % 64 + 8), u21_6, Z9, Z9, Z9, Z9, .pointer (some ⟨g, 0, none⟩), .pointer (some ⟨g, 0, none⟩), .pointer (some ⟨g, 0, none⟩), .pointer (some ⟨g, 9, none⟩), .int .u64 n, .int .u64 ((n * 8) % 18446744073709551616 : Nat), .pointer (some ⟨g, 0, none⟩), .pointer (some ⟨g, 0, none⟩), .pointer (some ⟨g, 0, none⟩), .pointer (some ⟨g, 8, none⟩), .string (bs b), .int .i64 b.length, .int .i64 (119 - b.length : Nat), .int .i64 ((119 - b.length) % 64 : Nat), .int .i64 ((119 - b.length) % 64 : Nat), .int .i64 (1 + (119 - b.length) % 64 : Nat), .int .i64 (1 + (119 - b.length) % 64 + 8 : Nat), .slice (some ⟨g12, 0, none⟩) (1 + (119 - b.length) % 64 + 8) (1 + (119 - b.length) % 64 + 8), .slice (some ⟨g12, 0, none⟩) (1 + (119 - b.length) % 64 + 8) (1 + (119 - b.length) % 64 + 8), .pointer (some ⟨g12, 0, none⟩), .int .i64 q, u21_32, u21_33, u21_34, u21_35, u21_36, u21_37, u21_38, u21_39, u21_40, u21_41, u21_42, u21_43, u21_44, u21_45, u21_46, Z9, Z9, Z9, Z9, Z9, Z9, Z9, Z9, Z9, Z9, Z9, Z9, Z9, Z9, Z9, Z9, Z9, Z9, Z9, Z9, Z9, Z9, Z9, Z9, Z9], defers := [] } ∧ Mem [g] w W9 [⟨g12, 1 + (119 - b.length) % 64 + 8, [(0, bl (1 + (119 - b.length) % 64 + 8) (tailF ((119 - b.length) % 64) (n * 8 % 18446744073709551616) q))]⟩, ⟨g, 10, [(0, [.int .u32 h.a, .int .u32 h.b, .int .u32 h.c, .int .u32 h.d, .int .u32 h.e, .int .u32 h.f, .int .u32 h.g, .int .u32 h.h]), (8, [.string (bs b)]), (9, [.int .u64 n])]⟩] ∧ (q ≤ 8)) (8 - (0)) ?_ (fun n9 a9 W9 hI => ?_)
 ·
  exact ⟨0, _, _, _, _, _, _, _, _, _, _, _, _, _, _, _, _, rfl, rfl, M, (by omega)⟩
 clear M
 obtain ⟨q, u21_6, u21_32, u21_33, u21_34, u21_35, u21_36, u21_37, u21_38, u21_39, u21_40, u21_41, u21_42, u21_43, u21_44, u21_45, u21_46, rfl, rfl, M, hq4⟩ := hI
 obtain ⟨w22, rfl⟩ : ∃ W8, W8 = W9 := ⟨_, rfl⟩
 refine qS fun _ k23 => ?_
 refine cM 1 fun Lk hLk => ?_
 refine vB (v := .bool (decide (q < 8))) (hr := run_lssN q 8 _ _) ?_
 refine hLk _ fun w25 M => ?_
 refine lZ k23 ?_
 refine sk fun _ k26 => ?_
 cases hc27 : (decide (q < 8))
 ·
  have eq : q = 8 := by have := of_decide_eq_false hc27; omega
  subst eq
  refine cF ?_; refine eZ k18 ?_
  refine sk fun _ k28 => ?_
  rw [tail_end] at M
  refine Z13 ?_; refine lM ?_; refine lM ?_
  refine cM 1 fun Lk hLk => ?_
  refine wpV_b2s (l := (tailL b.length n)) (by rfl) rfl rfl (tailL_len ..).symm U929 U95 U99 (M.r 0 0 rfl rfl) (M.lt 0 rfl) ?_
  simp only [Z0, Z6]
  refine hLk _ fun w30 M => ?_
  refine wpL_callM (f := 109) (args := #[.pointer (some ⟨g, 0, none⟩), .string (bs (tailL b.length n))]) (R := fun v9 W9 => v9 = .tuple #[] ∧ Mem [g] w30 W9 [⟨g, 10, [(0, [.int .u32 (((takeH h (b ++ (tailL b.length n))).a : Nat) : Int), .int .u32 (((takeH h (b ++ (tailL b.length n))).b : Nat) : Int), .int .u32 (((takeH h (b ++ (tailL b.length n))).c : Nat) : Int), .int .u32 (((takeH h (b ++ (tailL b.length n))).d : Nat) : Int), .int .u32 (((takeH h (b ++ (tailL b.length n))).e : Nat) : Int), .int .u32 (((takeH h (b ++ (tailL b.length n))).f : Nat) : Int), .int .u32 (((takeH h (b ++ (tailL b.length n))).g : Nat) : Int), .int .u32 (((takeH h (b ++ (tailL b.length n))).h : Nat) : Int)]), (8, [.string (bs (takeR (b ++ (tailL b.length n))))]), (9, [.int .u64 ((((n + (tailL b.length n).length) % 18446744073709551616) : Nat) : Int)])]⟩]) (by rfl) (by rfl) rfl Tryd.func109 (by kernel_rfl) (by kernel_rfl) (take_c (h := h) (b := b) (l := (tailL b.length n)) (n := n) hh hb (by rw [tailL_len]; omega) hg (M.oldL L1) (M.oldG R1_0 L1 (by simpa using Ne.symm hg)) (M.one 1 rfl)) (fun v9 w31 h9 => ?_)
  obtain ⟨rfl, M9⟩ := h9
  replace M := M.callM1 1 rfl M9
  simp only [Z6] at M
  simp only [Z0, Z6]
  refine lZ k28 ?_
  refine sk fun _ k32 => ?_
  have hok : (takeH h (b ++ (tailL b.length n))).Ok := takeH_ok _ _ _ (Nat.le_refl _) hh
  generalize hS : takeH h (b ++ (tailL b.length n)) = S at M hok
  have hgB := M.lt 1 rfl
  have hsz := M.size
  refine Z13 ?_
  refine Z36 (t := 107) (cs := [.pointer none, .slice none 0 0]) (by rfl) (fun W => ?_) (fun g34 w33 SB HB BB => ?_)
  ·
   go_simp
  have IB : Lib.IsBuilder 107 5 w31.heap.size g34 [] w33 := .inl ⟨HB, _, BB, World.ownsRow_nil _ _ _ _, by simp [Value.ownBlock]⟩
  have HB9 := SB.2.2.size
  replace M := M.sees SB
  simp only [Z0, Z6]
  refine lZ k32 ?_
  refine sk fun _ k35 => ?_
  refine qS fun _ k36 => ?_
  refine lM ?_; refine lN ?_; refine lF ?_; refine lF ?_; refine lL ?_; refine lM ?_
  refine Z14 (Z15 ?_)
  replace M := (M.pick [1] (by decide) rfl : Mem [g] w w33 [⟨g, 10, [(0, [.int .u32 S.a, .int .u32 S.b, .int .u32 S.c, .int .u32 S.d, .int .u32 S.e, .int .u32 S.f, .int .u32 S.g, .int .u32 S.h]), (8, [.string (bs (takeR (b ++ (tailL b.length n))))]), (9, [.int .u64 ((((n + (tailL b.length n).length) % 18446744073709551616) : Nat) : Int)])]⟩])
  replace M := M.read (segs' := []) 0 rfl (by simp)
  simp only [Z6] at M
  have hl9 : ∀ b9 ∈ ([⟨g, 10, []⟩] : List Bk), b9.g < w31.heap.size := fun b9 hb9 => by rw [List.mem_singleton.1 hb9]; exact hgB
  clear hgB
  refine k36 _ _ ?_; refine wp_block ?_
  refine wp_loop_ghost (fun n9 a9 W9 => ∃ (i : Nat) (u39_9 u39_10 u39_57 u39_58 u39_59 u39_60 u39_61 u39_62 u39_63 u39_64 u39_65 u39_66 u39_67 u39_68 u39_69 u39_70 : Value), n9 = 8 - i ∧ a9 = { tmps := #[.pointer (some ⟨g, 0, none⟩), Z9, .string (bs ([])), .int .u64 ((n * 8) % 18446744073709551616 : Nat), .int .i64 ((119 - b.length) % 64 : Nat), .slice (some ⟨g12, 0, none⟩) (1 + (119 - b.length) % 64 + 8) (1 + (119 - b.length) % 64 + 8), u21_6, .pointer (some ⟨g34, 0, none⟩), Z9, u39_9, u39_10, .pointer (some ⟨g, 0, none⟩), .pointer (some ⟨g, 0, none⟩), .pointer (some ⟨g, 0, none⟩), .pointer (some ⟨g, 9, none⟩), .int .u64 n, .int .u64 ((n * 8) % 18446744073709551616 : Nat), .pointer (some ⟨g, 0, none⟩), .pointer (some ⟨g, 0, none⟩), .pointer (some ⟨g, 0, none⟩), .pointer (some ⟨g, 8, none⟩), .string (bs b), .int .i64 b.length, .int .i64 (119 - b.length : Nat), .int .i64 ((119 - b.length) % 64 : Nat), .int .i64 ((119 - b.length) % 64 : Nat), .int .i64 (1 + (119 - b.length) % 64 : Nat), .int .i64 (1 + (119 - b.length) % 64 + 8 : Nat), .slice (some ⟨g12, 0, none⟩) (1 + (119 - b.length) % 64 + 8) (1 + (119 - b.length) % 64 + 8), .slice (some ⟨g12, 0, none⟩) (1 + (119 - b.length) % 64 + 8) (1 + (119 - b.length) % 64 + 8), .pointer (some ⟨g12, 0, none⟩), .int .i64 (8 : Nat), .bool false, u21_33, u21_34, u21_35, u21_36, u21_37, u21_38, u21_39, u21_40, u21_41, u21_42, u21_43, u21_44, u21_45, u21_46, .pointer (some ⟨g, 0, none⟩), .slice (some ⟨g12, 0, none⟩) (1 + (119 - b.length) % 64 + 8) (1 + (119 - b.length) % 64 + 8), .string (bs (tailL b.length n)), .tuple #[], .pointer (some ⟨g, 0, none⟩), .pointer (some ⟨g, 0, none⟩), .pointer (some ⟨g, 0, none⟩), .pointer (some ⟨g, 0, none⟩), .agg ([.int .u32 S.a, .int .u32 S.b, .int .u32 S.c, .int .u32 S.d, .int .u32 S.e, .int .u32 S.f, .int .u32 S.g, .int .u32 S.h]).toArray, .int .i64 i, u39_57, u39_58, u39_59, u39_60, u39_61, u39_62, u39_63, u39_64, u39_65, u39_66, u39_67, u39_68, u39_69, u39_70, Z9], defers := [] } ∧ Mem [g] w W9 [⟨g, 10, []⟩] ∧ (i ≤ 8) ∧ (Lib.IsBuilder 107 5 w31.heap.size g34 (Lib.byteCells ((outS S).take (4 * i))) W9) ∧ (w31.heap.size ≤ W9.heap.size)) (8 - (0)) ?_ (fun n9 a9 W9 hI => ?_)
  ·
   exact ⟨0, _, _, _, _, _, _, _, _, _, _, _, _, _, _, _, _, rfl, rfl, M, (by omega), IB, HB9⟩
  clear M
  obtain ⟨i, u39_9, u39_10, u39_57, u39_58, u39_59, u39_60, u39_61, u39_62, u39_63, u39_64, u39_65, u39_66, u39_67, u39_68, u39_69, u39_70, rfl, rfl, M, hi4, IB, HB9⟩ := hI
  obtain ⟨w40, rfl⟩ : ∃ W8, W8 = W9 := ⟨_, rfl⟩
  refine qS fun _ k41 => ?_
  refine lCh 1 (fun Lk hLk => ?_)
  refine vB (v := .bool (decide (i < 8))) (hr := run_lssN i 8 _ _) ?_
  refine Z19 (hLk _ (fun w43 Sw43 => ?_))
  simp only [Z7, Z8]
  replace M := M.sees Sw43
  replace IB := isB_sees IB Sw43; replace HB9 := Z3 HB9 Sw43.2.2.size
  refine lZ k41 ?_
  refine sk fun _ k44 => ?_
  cases hc45 : (decide (i < 8))
  ·
   have ei : i = 8 := by have := of_decide_eq_false hc45; omega
   subst ei
   refine cF ?_; refine eZ k35 ?_
   refine qS fun _ k46 => ?_
   refine wpL_callM (f := 71) (args := #[.pointer (some ⟨g34, 0, none⟩)]) (R := fun v9 W9 => v9 = .string (bs (outS S)) ∧ Below w31.heap.size w43 W9) (by rfl) (by rfl) rfl Tryd.func71 (by kernel_rfl) (by kernel_rfl) ((Tryd.Builder_String_any w31.heap.size g34 (outS S) w43 (by rw [List.take_of_length_le (by rw [outS_len]; decide)] at IB; exact IB) HB9).mono fun e W9 h => ⟨_, h.1, rfl, h.2⟩) (fun v9 w48 h9 => ?_)
   obtain ⟨rfl, hBw⟩ := h9
   replace M := M.belowB hBw hsz hl9
   simp only [Z0, Z6]
   refine lg ?_; refine lZ k46 ?_; refine rt1 ?_
   exact ⟨_, rfl, by rw [← hS]; rfl, M⟩
  have hi : i < 8 := of_decide_eq_true hc45
  refine cT ?_; refine sZ k44 ?_
  refine sk fun _ k49 => ?_
  refine wp_block ?_
  refine qS fun _ k50 => ?_
  refine lCh 1 (fun Lk hLk => ?_)
  refine wpV_index (n := i) (v := .int .u32 (S.get i : Nat)) (by rfl) rfl rfl rfl Tryd.underlying152 info147 U9147 rfl (by omega) (c8_get S hi) ?_
  simp only [Z0, Z6]
  refine Z19 (hLk _ (fun w52 Sw52 => ?_))
  simp only [Z7, Z8]
  replace M := M.sees Sw52
  replace IB := isB_sees IB Sw52; replace HB9 := Z3 HB9 Sw52.2.2.size
  refine lg ?_; refine lZ k50 ?_
  refine qS fun _ k53 => ?_
  refine lM ?_; refine lZ k53 ?_; refine wp_block ?_
  refine wp_loop_ghost (fun n9 a9 W9 => ∃ (j : Nat) (u55_10 u55_60 u55_61 u55_62 u55_63 u55_64 u55_65 u55_66 u55_67 u55_68 u55_69 : Value), n9 = 4 - j ∧ a9 = { tmps := #[.pointer (some ⟨g, 0, none⟩), Z9, .string (bs ([])), .int .u64 ((n * 8) % 18446744073709551616 : Nat), .int .i64 ((119 - b.length) % 64 : Nat), .slice (some ⟨g12, 0, none⟩) (1 + (119 - b.length) % 64 + 8) (1 + (119 - b.length) % 64 + 8), u21_6, .pointer (some ⟨g34, 0, none⟩), Z9, .int .u32 (S.get i : Nat), u55_10, .pointer (some ⟨g, 0, none⟩), .pointer (some ⟨g, 0, none⟩), .pointer (some ⟨g, 0, none⟩), .pointer (some ⟨g, 9, none⟩), .int .u64 n, .int .u64 ((n * 8) % 18446744073709551616 : Nat), .pointer (some ⟨g, 0, none⟩), .pointer (some ⟨g, 0, none⟩), .pointer (some ⟨g, 0, none⟩), .pointer (some ⟨g, 8, none⟩), .string (bs b), .int .i64 b.length, .int .i64 (119 - b.length : Nat), .int .i64 ((119 - b.length) % 64 : Nat), .int .i64 ((119 - b.length) % 64 : Nat), .int .i64 (1 + (119 - b.length) % 64 : Nat), .int .i64 (1 + (119 - b.length) % 64 + 8 : Nat), .slice (some ⟨g12, 0, none⟩) (1 + (119 - b.length) % 64 + 8) (1 + (119 - b.length) % 64 + 8), .slice (some ⟨g12, 0, none⟩) (1 + (119 - b.length) % 64 + 8) (1 + (119 - b.length) % 64 + 8), .pointer (some ⟨g12, 0, none⟩), .int .i64 (8 : Nat), .bool false, u21_33, u21_34, u21_35, u21_36, u21_37, u21_38, u21_39, u21_40, u21_41, u21_42, u21_43, u21_44, u21_45, u21_46, .pointer (some ⟨g, 0, none⟩), .slice (some ⟨g12, 0, none⟩) (1 + (119 - b.length) % 64 + 8) (1 + (119 - b.length) % 64 + 8), .string (bs (tailL b.length n)), .tuple #[], .pointer (some ⟨g, 0, none⟩), .pointer (some ⟨g, 0, none⟩), .pointer (some ⟨g, 0, none⟩), .pointer (some ⟨g, 0, none⟩), .agg ([.int .u32 S.a, .int .u32 S.b, .int .u32 S.c, .int .u32 S.d, .int .u32 S.e, .int .u32 S.f, .int .u32 S.g, .int .u32 S.h]).toArray, .int .i64 i, .bool true, .int .u32 (S.get i : Nat), .int .i64 j, u55_60, u55_61, u55_62, u55_63, u55_64, u55_65, u55_66, u55_67, u55_68, u55_69, u39_70, Z9], defers := [] } ∧ Mem [g] w W9 [⟨g, 10, []⟩] ∧ (j ≤ 4) ∧ (Lib.IsBuilder 107 5 w31.heap.size g34 (Lib.byteCells ((outS S).take (4 * i + j))) W9) ∧ (w31.heap.size ≤ W9.heap.size)) (4 - (0)) ?_ (fun n9 a9 W9 hI => ?_)
  ·
   exact ⟨0, _, _, _, _, _, _, _, _, _, _, _, rfl, rfl, M, (by omega), IB, HB9⟩
  clear M
  obtain ⟨j, u55_10, u55_60, u55_61, u55_62, u55_63, u55_64, u55_65, u55_66, u55_67, u55_68, u55_69, rfl, rfl, M, hj4, IB, HB9⟩ := hI
  obtain ⟨w56, rfl⟩ : ∃ W8, W8 = W9 := ⟨_, rfl⟩
  refine qS fun _ k57 => ?_
  refine lCh 1 (fun Lk hLk => ?_)
  refine vB (v := .bool (decide (j < 4))) (hr := run_lssN j 4 _ _) ?_
  refine Z19 (hLk _ (fun w59 Sw59 => ?_))
  simp only [Z7, Z8]
  replace M := M.sees Sw59
  replace IB := isB_sees IB Sw59; replace HB9 := Z3 HB9 Sw59.2.2.size
  refine lZ k57 ?_
  refine sk fun _ k60 => ?_
  cases hc61 : (decide (j < 4))
  ·
   have ej : j = 4 := by have := of_decide_eq_false hc61; omega
   subst ej
   refine cF ?_; refine eZ k49 ?_; refine Z13 ?_
   refine lCh 1 (fun Lk hLk => ?_)
   refine vB (v := .int .i64 (i + 1 : Nat)) (hr := run_add (by simp only [IntKind.wrap_i64]; omega)) ?_
   refine Z19 (hLk _ (fun w63 Sw63 => ?_))
   simp only [Z7, Z8]
   replace M := M.sees Sw63
   replace IB := isB_sees IB Sw63; replace HB9 := Z3 HB9 Sw63.2.2.size
   refine lM ?_
   refine Z14 (Z15 ?_)
   refine Exists.intro _ ⟨?_, (i + 1), _, _, _, _, _, _, _, _, _, _, _, _, _, _, _, _, rfl, rfl, M, (by omega), IB, HB9⟩
   omega
  have hj : j < 4 := of_decide_eq_true hc61
  refine cT ?_; refine sZ k60 ?_
  refine sk fun _ k64 => ?_
  refine wp_block ?_
  refine qS fun _ k65 => ?_
  refine lM ?_; refine lg ?_; refine lZ k65 ?_; refine Z13 ?_; refine lM ?_; refine lM ?_
  refine lCh 4 (fun Lk hLk => ?_)
  refine vB (v := .int .i64 (3 - j : Nat)) (hr := run_sub (by simp only [IntKind.wrap_i64]; omega)) ?_
  refine vB (v := .int .i64 (8 * (3 - j) : Nat)) (hr := run_mul (by simp only [IntKind.wrap_i64]; omega)) ?_
  refine vB (v := .int .u32 ((S.get i) / 2 ^ (8 * (3 - j)) : Nat)) (hr := nr_shr32 (x := S.get i) (n := 8 * (3 - j)) (by omega)) ?_
  refine wpV_conv (d := .bool) (e := ((((S.get i) / 2 ^ (8 * (3 - j))) % 256 : Nat) : Int)) (by rfl) rfl rfl (run_conv_int U9147 U95 (wrap_u8N _)) ?_
  simp only [Z0, Z6]
  refine Z19 (hLk _ (fun w68 Sw68 => ?_))
  simp only [Z7, Z8]
  replace M := M.sees Sw68
  replace IB := isB_sees IB Sw68; replace HB9 := Z3 HB9 Sw68.2.2.size
  refine wpL_callM (f := 99) (args := #[.pointer (some ⟨g34, 0, none⟩), .int .u8 ((((S.get i) / 2 ^ (8 * (3 - j))) % 256 : Nat) : Int)]) (R := fun v9 W9 => v9 = .nilIface ∧ Lib.IsBuilder 107 5 w31.heap.size g34 ((Lib.byteCells ((outS S).take (4 * i + j))) ++ [.int .u8 ((((S.get i) / 2 ^ (8 * (3 - j))) % 256 : Nat) : Int)]) W9 ∧ Below w31.heap.size w68 W9) (by rfl) (by rfl) rfl Tryd.func99 (by kernel_rfl) (by kernel_rfl) ((writeByte_c w31.heap.size g34 _ _ w68 IB (by rw [Lib.byteCells_length, List.length_take, outS_len]; omega) HB9).mono fun e W9 h => ⟨_, h.1, rfl, .inr h.2.1, h.2.2⟩) (fun v9 w69 h9 => ?_)
  obtain ⟨rfl, IB2, hBw⟩ := h9
  replace IB := IB2; clear IB2
  replace M := M.belowB hBw hsz hl9
  replace HB9 := Z3 HB9 hBw.size
  simp only [Z0, Z6]
  refine lZ k64 ?_; refine Z13 ?_
  refine lCh 1 (fun Lk hLk => ?_)
  refine vB (v := .int .i64 (j + 1 : Nat)) (hr := run_add (by simp only [IntKind.wrap_i64]; omega)) ?_
  refine Z19 (hLk _ (fun w71 Sw71 => ?_))
  simp only [Z7, Z8]
  replace M := M.sees Sw71
  replace IB := isB_sees IB Sw71; replace HB9 := Z3 HB9 Sw71.2.2.size
  refine lM ?_
  refine Z14 (Z15 ?_)
  refine Exists.intro _ ⟨?_, (j + 1), _, _, _, _, _, _, _, _, _, _, _, rfl, rfl, M, (by omega), (by rw [show Lib.byteCells = bcells from rfl, out_step S hi hj] at IB; exact IB), HB9⟩
  omega
 have hq : q < 8 := of_decide_eq_true hc27
 refine cT ?_; refine sZ k26 ?_
 refine sk fun _ k72 => ?_
 refine wp_block ?_
 refine qS fun _ k73 => ?_
 refine lM ?_; refine lg ?_; refine lZ k73 ?_; refine Z13 ?_; refine lM ?_; refine lM ?_
 refine cM 10 fun Lk hLk => ?_
 refine wpV_lenA (n := 1 + (119 - b.length) % 64 + 8) (by rfl) rfl rfl rfl U929 ?_
 simp only [Z0, Z6]
 refine vB (v := .int .i64 ((1 + (119 - b.length) % 64 + 8) - 1 : Nat)) (hr := run_sub (by simp only [IntKind.wrap_i64]; omega)) ?_
 refine vM ?_
 refine vB (v := .int .i64 ((((1 + (119 - b.length) % 64 + 8) - 1) - q : Nat) : Int)) (hr := run_sub (by simp only [IntKind.wrap_i64]; omega)) ?_
 refine vM ?_; refine vM ?_
 refine vB (v := .int .i64 (8 * q : Nat)) (hr := run_mul (by simp only [IntKind.wrap_i64]; omega)) ?_
 refine vB (v := .int .u64 (((n * 8) % 18446744073709551616) / 2 ^ (8 * q) : Nat)) (hr := nr_shr64 (x := (n * 8) % 18446744073709551616) (n := 8 * q) (by omega)) ?_
 refine wpV_conv (d := .bool) (e := (((((n * 8) % 18446744073709551616) / 2 ^ (8 * q)) % 256 : Nat) : Int)) (by rfl) rfl rfl (run_conv_int Tryd.underlying40 U95 (wrap_u8N _)) ?_
 simp only [Z0, Z6]
 refine wpV_idxs (n := ((1 + (119 - b.length) % 64 + 8) - 1) - q) (by rfl) rfl rfl rfl U929 info5 (by omega) ?_
 simp only [Z2]
 simp only [Z0, Z6]
 refine hLk _ fun w76 M => ?_
 refine lS1 (g := g12) (off := ((1 + (119 - b.length) % 64 + 8) - 1) - q) (n := 1 + (119 - b.length) % 64 + 8) (v := .int .u8 (((((n * 8) % 18446744073709551616) / 2 ^ (8 * q)) % 256 : Nat) : Int)) (M.t 0 rfl) (by omega) info5 rfl (fun w77 P R T => ?_)
 replace M := M.put1 (j := ((1 + (119 - b.length) % 64 + 8) - 1) - q) 0 rfl P R T (Z2 _).symm
 simp only [Z6] at M
 rw [tail_step _ _ hq] at M
 refine lZ k72 ?_; refine Z13 ?_
 refine cM 1 fun Lk hLk => ?_
 refine vB (v := .int .i64 (q + 1 : Nat)) (hr := run_add (by simp only [IntKind.wrap_i64]; omega)) ?_
 refine hLk _ fun w79 M => ?_
 refine lM ?_
 refine Z14 (Z15 ?_)
 refine Exists.intro _ ⟨?_, (q + 1), _, _, _, _, _, _, _, _, _, _, _, _, _, _, _, _, rfl, rfl, M, (by omega)⟩
 omega
end Go.Proofs.Yc

namespace Go.Proofs.Yc
open Go Go.RowKit Go.Proofs.Num
open Tryd renaming underlying37 → U937
open Go.Proofs.Num  renaming putT → Z0
open Nat renaming zero_add → Z2
open List renaming set → Z6
open Go renaming undef → Z9
open Go.Proofs.Num renaming wp_region_seq → Z13, wpL_nil → Z14, no_panic → Z15
attribute [local irreducible] wpV wpN wpList
open Go.Proofs.Ya
theorem mem_neK {w0 w : World} {l : List Bk} {b : Bk} (h : Mem [] w0 w l) (k : Nat) (hk : l[k]? = some b) {n : Nat} (h0 : n < w0.heap.size) : b.g ≠ n := fun e => by
 rcases (h.ok b (mem_of hk)).own with ho | ho
 ·
  omega
 cases ho
set_option maxHeartbeats 1000000 in
theorem new_c  {w : World}  :
  Calls Tryd.prog 108 #[] w fun e w' => e = .returned (.agg ([.int .u32 H0.a, .int .u32 H0.b, .int .u32 H0.c, .int .u32 H0.d, .int .u32 H0.e, .int .u32 H0.f, .int .u32 H0.g, .int .u32 H0.h] ++ [.string (bs [])] ++ [.int .u64 (0 : Nat)] : List Value).toArray) ∧ Below w.heap.size w w' := by
 go_enter Tryd.func108, Tryd.ntmps108
 have M := Mem.start w
 refine qS fun _ k1 => ?_
 refine nVs (segs := [(0, [.int .u32 0, .int .u32 0, .int .u32 0, .int .u32 0, .int .u32 0, .int .u32 0, .int .u32 0, .int .u32 0]), (8, [.string { data := #[] }]), (9, [.int .u64 0])]) 10 fun g3 w4 M => ?_
 refine lZ k1 ?_
 refine qS fun _ k5 => ?_
 refine cM 2 fun Lk hLk => ?_
 refine vGk (v := .agg ([.int .u32 1779033703, .int .u32 3144134277, .int .u32 1013904242, .int .u32 2773480762, .int .u32 1359893119, .int .u32 2600822924, .int .u32 528734635, .int .u32 1541459225]).toArray) ?_
 simp only [Z0, Z6]
 refine vGk (v := .agg ([.int .u32 1779033703, .int .u32 3144134277, .int .u32 1013904242, .int .u32 2773480762, .int .u32 1359893119, .int .u32 2600822924, .int .u32 528734635, .int .u32 1541459225, .string { data := #[] }, .int .u64 0]).toArray) ?_
 simp only [Z0, Z6]
 refine hLk _ fun w7 M => ?_
 refine sTs (segs' := [(0, [.int .u32 1779033703, .int .u32 3144134277, .int .u32 1013904242, .int .u32 2773480762, .int .u32 1359893119, .int .u32 2600822924, .int .u32 528734635, .int .u32 1541459225]), (8, [.string { data := #[] }]), (9, [.int .u64 0])]) 0 fun w8 M => ?_
 refine lZ k5 ?_; refine rt ?_
 refine bodyPost_ret (v := .agg ([.int .u32 1779033703, .int .u32 3144134277, .int .u32 1013904242, .int .u32 2773480762, .int .u32 1359893119, .int .u32 2600822924, .int .u32 528734635, .int .u32 1541459225] ++ [.string { data := #[] }] ++ [.int .u64 0] : List Value).toArray) (res1 rfl (.cell (by rfl) (run_loadVar_mid _ _ _ _ ([.int .u32 1779033703, .int .u32 3144134277, .int .u32 1013904242, .int .u32 2773480762, .int .u32 1359893119, .int .u32 2600822924, .int .u32 528734635, .int .u32 1541459225] ++ [.string { data := #[] }] ++ [.int .u64 0]) _ (range_join (range_join (M.r 0 0 rfl rfl) (M.r 0 1 rfl rfl) (by simp [flen])) (M.r 0 2 rfl rfl) (by simp [flen])) Tryd.underlying154 rfl info154))) rfl ?_
 exact ⟨rfl, M.below⟩
set_option maxHeartbeats 2000000 in
theorem sum_c {ps : List (List UInt8)} {g0 cg0 : Nat} {w : World} (hq : ps.length ≤ 4611686018427387904) (hp : ∀ k, (ps.getD k []).length ≤ 9223372036854775744) (L1 : 1 < w.heap.size) (R1_0 : w.rangeAt 1 0 kcells) (hcg0 : ps.length ≤ cg0) (Lg0 : g0 < w.heap.size) (Rg0_0 : w.rangeAt g0 0 (scells ps)) :
  Calls Tryd.prog 75 #[.slice (some ⟨g0, 0, none⟩) ps.length cg0] w fun e w' => e = .returned (.string (bs (sha ps.flatten))) ∧ Below w.heap.size w w' := by
 go_enter Tryd.func75, Tryd.ntmps75
 have M := Mem.start w
 refine qS fun _ k1 => ?_
 refine lg ?_; refine lZ k1 ?_
 refine qS fun _ k3 => ?_
 refine cM 2 fun Lk hLk => ?_
 refine vC (fun W => new_c) ?_
 refine vGk (v := .agg ([.int .u32 H0.a, .int .u32 H0.b, .int .u32 H0.c, .int .u32 H0.d, .int .u32 H0.e, .int .u32 H0.f, .int .u32 H0.g, .int .u32 H0.h] ++ [.string (bs [])] ++ [.int .u64 (0 : Nat)] : List Value).toArray) ?_
 simp only [Z0, Z6]
 refine hLk _ fun w5 M => ?_
 refine nVs (segs := [(0, [.int .u32 H0.a, .int .u32 H0.b, .int .u32 H0.c, .int .u32 H0.d, .int .u32 H0.e, .int .u32 H0.f, .int .u32 H0.g, .int .u32 H0.h]), (8, [.string (bs [])]), (9, [.int .u64 (0 : Nat)])]) 10 fun g6 w7 M => ?_
 refine lg ?_; refine lZ k3 ?_
 refine sk fun _ k8 => ?_
 refine qS fun _ k9 => ?_
 refine lM ?_
 refine cM 1 fun Lk hLk => ?_
 refine wpV_lenA (n := ps.length) (by rfl) rfl rfl rfl U937 ?_
 simp only [Z0, Z6]
 refine hLk _ fun w11 M => ?_
 refine lM ?_; refine lZ k9 ?_; refine wp_block ?_
 replace M := M.read (segs' := [(0, [.int .u32 ((takeH H0 (ps.take 0).flatten).a : Nat), .int .u32 ((takeH H0 (ps.take 0).flatten).b : Nat), .int .u32 ((takeH H0 (ps.take 0).flatten).c : Nat), .int .u32 ((takeH H0 (ps.take 0).flatten).d : Nat), .int .u32 ((takeH H0 (ps.take 0).flatten).e : Nat), .int .u32 ((takeH H0 (ps.take 0).flatten).f : Nat), .int .u32 ((takeH H0 (ps.take 0).flatten).g : Nat), .int .u32 ((takeH H0 (ps.take 0).flatten).h : Nat)]), (8, [.string (bs (takeR (ps.take 0).flatten))]), (9, [.int .u64 (((ps.take 0).flatten.length % 18446744073709551616) : Nat)])]) 0 rfl (segs3 (by rw [show (ps.take 0).flatten = [] from rfl, take_zero.1]; exact (M.r 0 0 rfl rfl)) (by rw [show (ps.take 0).flatten = [] from rfl, take_zero.2]; exact (M.r 0 1 rfl rfl)) (by rw [show (ps.take 0).flatten = [] from rfl]; exact (M.r 0 2 rfl rfl)))
 simp only [Z6] at M
 refine wp_loop_ghost (fun n9 a9 W9 => ∃ (k : Nat) (u12_5 u12_12 u12_13 u12_14 u12_15 u12_16 u12_17 u12_18 : Value), n9 = ps.length - k ∧ a9 = { tmps := #[.slice (some ⟨g0, 0, none⟩) ps.length cg0, Z9, .string (bs ([])), .pointer (some ⟨g6, 0, none⟩), Z9, u12_5, .agg ([.int .u32 H0.a, .int .u32 H0.b, .int .u32 H0.c, .int .u32 H0.d, .int .u32 H0.e, .int .u32 H0.f, .int .u32 H0.g, .int .u32 H0.h] ++ [.string (bs [])] ++ [.int .u64 (0 : Nat)] : List Value).toArray, .agg ([.int .u32 H0.a, .int .u32 H0.b, .int .u32 H0.c, .int .u32 H0.d, .int .u32 H0.e, .int .u32 H0.f, .int .u32 H0.g, .int .u32 H0.h] ++ [.string (bs [])] ++ [.int .u64 (0 : Nat)] : List Value).toArray, .pointer (some ⟨g6, 0, none⟩), .slice (some ⟨g0, 0, none⟩) ps.length cg0, .int .i64 ps.length, .int .i64 k, u12_12, u12_13, u12_14, u12_15, u12_16, u12_17, u12_18, Z9, Z9], defers := [] } ∧ Mem [] w W9 [⟨g6, 10, [(0, [.int .u32 ((takeH H0 (ps.take k).flatten).a : Nat), .int .u32 ((takeH H0 (ps.take k).flatten).b : Nat), .int .u32 ((takeH H0 (ps.take k).flatten).c : Nat), .int .u32 ((takeH H0 (ps.take k).flatten).d : Nat), .int .u32 ((takeH H0 (ps.take k).flatten).e : Nat), .int .u32 ((takeH H0 (ps.take k).flatten).f : Nat), .int .u32 ((takeH H0 (ps.take k).flatten).g : Nat), .int .u32 ((takeH H0 (ps.take k).flatten).h : Nat)]), (8, [.string (bs (takeR (ps.take k).flatten))]), (9, [.int .u64 (((ps.take k).flatten.length % 18446744073709551616) : Nat)])]⟩] ∧ (k ≤ ps.length)) (ps.length - (0)) ?_ (fun n9 a9 W9 hI => ?_)
 ·
  exact ⟨0, _, _, _, _, _, _, _, _, rfl, rfl, M, (by omega)⟩
 clear M
 obtain ⟨k, u12_5, u12_12, u12_13, u12_14, u12_15, u12_16, u12_17, u12_18, rfl, rfl, M, hk4⟩ := hI
 obtain ⟨w13, rfl⟩ : ∃ W8, W8 = W9 := ⟨_, rfl⟩
 refine qS fun _ k14 => ?_
 refine cM 1 fun Lk hLk => ?_
 refine vB (v := .bool (decide (k < ps.length))) (hr := run_lssN k ps.length _ _) ?_
 refine hLk _ fun w16 M => ?_
 refine lZ k14 ?_
 refine sk fun _ k17 => ?_
 cases hc18 : (decide (k < ps.length))
 ·
  have ek : k = ps.length := by have := of_decide_eq_false hc18; omega
  subst ek
  refine cF ?_; refine eZ k8 ?_
  refine qS fun _ k19 => ?_
  refine lM ?_
  refine wpL_callM (f := 110) (args := #[.pointer (some ⟨g6, 0, none⟩)]) (R := fun v9 W9 => v9 = .string (bs (endL (takeH H0 (ps.take ps.length).flatten) (takeR (ps.take ps.length).flatten) ((ps.take ps.length).flatten.length % 18446744073709551616))) ∧ Mem [g6] w16 W9 [⟨g6, 10, []⟩]) (by rfl) (by rfl) rfl Tryd.func110 (by kernel_rfl) (by kernel_rfl) (end_c (h := (takeH H0 (ps.take ps.length).flatten)) (b := (takeR (ps.take ps.length).flatten)) (n := ((ps.take ps.length).flatten.length % 18446744073709551616)) (takeH_ok _ _ _ (Nat.le_refl _) H0_ok) (takeR_len _) (mod_lt64 _) (mem_neK M 0 rfl L1) (M.oldL L1) (M.oldR R1_0 L1) (M.one 0 rfl)) (fun v9 w21 h9 => ?_)
  obtain ⟨rfl, M9⟩ := h9
  replace M := M.callM1 0 rfl M9
  simp only [Z6] at M
  simp only [Z0, Z6]
  refine lg ?_; refine lZ k19 ?_; refine rt1 ?_
  have BE := M.below
  exact ⟨by (rw [sha_flat]; try rfl), BE⟩
 have hk : k < ps.length := of_decide_eq_true hc18
 refine cT ?_; refine sZ k17 ?_
 refine sk fun _ k22 => ?_
 refine wp_block ?_
 refine qS fun _ k23 => ?_
 refine cM 2 fun Lk hLk => ?_
 refine wpV_idxs (n := k) (by rfl) rfl rfl rfl U937 info9 (by omega) ?_
 simp only [Z2]
 simp only [Z0, Z6]
 refine vQ (v := .string (bs (ps.getD k []))) (hc := (zadd ((M.oldR Rg0_0 Lg0) _ _ (scells_get (ps := ps) (by omega))))) (hb := (M.oldL Lg0)) ?_
 refine hLk _ fun w25 M => ?_
 refine lg ?_; refine lZ k23 ?_; refine Z13 ?_; refine lM ?_; refine lM ?_
 refine wpL_callM (f := 109) (args := #[.pointer (some ⟨g6, 0, none⟩), .string (bs (ps.getD k []))]) (R := fun v9 W9 => v9 = .tuple #[] ∧ Mem [g6] w25 W9 [⟨g6, 10, [(0, [.int .u32 (((takeH (takeH H0 (ps.take k).flatten) ((takeR (ps.take k).flatten) ++ (ps.getD k []))).a : Nat) : Int), .int .u32 (((takeH (takeH H0 (ps.take k).flatten) ((takeR (ps.take k).flatten) ++ (ps.getD k []))).b : Nat) : Int), .int .u32 (((takeH (takeH H0 (ps.take k).flatten) ((takeR (ps.take k).flatten) ++ (ps.getD k []))).c : Nat) : Int), .int .u32 (((takeH (takeH H0 (ps.take k).flatten) ((takeR (ps.take k).flatten) ++ (ps.getD k []))).d : Nat) : Int), .int .u32 (((takeH (takeH H0 (ps.take k).flatten) ((takeR (ps.take k).flatten) ++ (ps.getD k []))).e : Nat) : Int), .int .u32 (((takeH (takeH H0 (ps.take k).flatten) ((takeR (ps.take k).flatten) ++ (ps.getD k []))).f : Nat) : Int), .int .u32 (((takeH (takeH H0 (ps.take k).flatten) ((takeR (ps.take k).flatten) ++ (ps.getD k []))).g : Nat) : Int), .int .u32 (((takeH (takeH H0 (ps.take k).flatten) ((takeR (ps.take k).flatten) ++ (ps.getD k []))).h : Nat) : Int)]), (8, [.string (bs (takeR ((takeR (ps.take k).flatten) ++ (ps.getD k []))))]), (9, [.int .u64 ((((((ps.take k).flatten.length % 18446744073709551616) + (ps.getD k []).length) % 18446744073709551616) : Nat) : Int)])]⟩]) (by rfl) (by rfl) rfl Tryd.func109 (by kernel_rfl) (by kernel_rfl) (take_c (h := (takeH H0 (ps.take k).flatten)) (b := (takeR (ps.take k).flatten)) (l := (ps.getD k [])) (n := ((ps.take k).flatten.length % 18446744073709551616)) (takeH_ok _ _ _ (Nat.le_refl _) H0_ok) (takeR_len _) (hp k) (mem_neK M 0 rfl L1) (M.oldL L1) (M.oldR R1_0 L1) (M.one 0 rfl)) (fun v9 w27 h9 => ?_)
 obtain ⟨rfl, M9⟩ := h9
 replace M := M.callM1 0 rfl M9
 simp only [Z6] at M
 simp only [Z0, Z6]
 refine Z14 (Z15 ?_)
 rw [← takeH_append, ← takeR_append, len_step, flat_step hk] at M
 refine k22 _ _ ?_; refine Z13 ?_
 refine cM 1 fun Lk hLk => ?_
 refine vB (v := .int .i64 (k + 1 : Nat)) (hr := run_add (by simp only [IntKind.wrap_i64]; omega)) ?_
 refine hLk _ fun w29 M => ?_
 refine lM ?_
 refine Z14 (Z15 ?_)
 refine Exists.intro _ ⟨?_, (k + 1), _, _, _, _, _, _, _, _, rfl, rfl, M, (by omega)⟩
 omega
set_option maxHeartbeats 2000000 in
theorem sum0_c  {w : World} (L1 : 1 < w.heap.size) (R1_0 : w.rangeAt 1 0 kcells) :
  Calls Tryd.prog 75 #[.slice none 0 0] w fun e w' => e = .returned (.string (bs (sha []))) ∧ Below w.heap.size w w' := by
 go_enter Tryd.func75, Tryd.ntmps75
 have M := Mem.start w
 refine qS fun _ k1 => ?_
 refine lg ?_; refine lZ k1 ?_
 refine qS fun _ k3 => ?_
 refine cM 2 fun Lk hLk => ?_
 refine vC (fun W => new_c) ?_
 refine vGk (v := .agg ([.int .u32 H0.a, .int .u32 H0.b, .int .u32 H0.c, .int .u32 H0.d, .int .u32 H0.e, .int .u32 H0.f, .int .u32 H0.g, .int .u32 H0.h] ++ [.string (bs [])] ++ [.int .u64 (0 : Nat)] : List Value).toArray) ?_
 simp only [Z0, Z6]
 refine hLk _ fun w5 M => ?_
 refine nVs (segs := [(0, [.int .u32 H0.a, .int .u32 H0.b, .int .u32 H0.c, .int .u32 H0.d, .int .u32 H0.e, .int .u32 H0.f, .int .u32 H0.g, .int .u32 H0.h]), (8, [.string (bs [])]), (9, [.int .u64 (0 : Nat)])]) 10 fun g6 w7 M => ?_
 refine lg ?_; refine lZ k3 ?_
 refine sk fun _ k8 => ?_
 refine qS fun _ k9 => ?_
 refine lM ?_
 refine cM 1 fun Lk hLk => ?_
 refine wpV_lenA (n := 0) (by rfl) rfl rfl rfl U937 ?_
 simp only [Z0, Z6]
 refine hLk _ fun w11 M => ?_
 refine lM ?_; refine lZ k9 ?_; refine wp_block ?_; refine wp_loop_rounds 2 ?_
 rw [rounds_succ]
 refine qS fun _ k12 => ?_
 refine cM 1 fun Lk hLk => ?_
 refine vB (v := .bool false) (hr := run_lss _ _ _ _) ?_
 refine hLk _ fun w14 M => ?_
 refine lZ k12 ?_
 refine sk fun _ _ => ?_
 refine cF ?_; refine eZ k8 ?_
 refine qS fun _ k16 => ?_
 refine lM ?_
 refine wpL_callM (f := 110) (args := #[.pointer (some ⟨g6, 0, none⟩)]) (R := fun v9 W9 => v9 = .string (bs (endL H0 ([]) 0)) ∧ Mem [g6] w14 W9 [⟨g6, 10, []⟩]) (by rfl) (by rfl) rfl Tryd.func110 (by kernel_rfl) (by kernel_rfl) (end_c (h := H0) (b := []) (n := 0) H0_ok (by decide) (by decide) (mem_neK M 0 rfl L1) (M.oldL L1) (M.oldR R1_0 L1) (M.one 0 rfl)) (fun v9 w18 h9 => ?_)
 obtain ⟨rfl, M9⟩ := h9
 replace M := M.callM1 0 rfl M9
 simp only [Z6] at M
 simp only [Z0, Z6]
 refine lg ?_; refine lZ k16 ?_; refine rt1 ?_
 have BE := M.below
 exact ⟨by (rw [show sha [] = endL H0 [] 0 by unfold sha; rw [take_zero.1, take_zero.2]; rfl]; try rfl), BE⟩
end Go.Proofs.Yc

namespace Go.Proofs.Yc
open Go Go.RowKit Go.Proofs.Num
open Tryd renaming underlying29 → U929, underlying3 → U93, underlying33 → U933, underlying37 → U937, underlying40 → U940, underlying9 → U99
open Go.Proofs.Num  renaming putT → Z0
open Nat renaming mod_eq_of_lt → Z5
open List renaming set → Z6, take → Z7, drop → Z8
open Go renaming undef → Z9
open Go.Proofs.Num renaming wpL_nil → Z14, no_panic → Z15, then_normal → Z22
attribute [local irreducible] wpV wpN wpList
open Go.Proofs.Ya
def seedL : List UInt8 := [48, 49, 50, 51, 52, 53, 54, 55, 56, 57, 97, 98, 99, 100, 101, 102, 48, 49, 50, 51, 52, 53, 54, 55, 56, 57, 97, 98, 99, 100, 101, 102]
theorem aF {P : Program} {Q : Exit → Act → World → Prop} {l : List Oper} {fuel : Nat} {listed : Array Bool} {a : Act} {w : World} (i : Nat) {o : Oper} {v : Value} (h : wpAny P .any l.toArray (NoPanic Q) fuel (listed.setIfInBounds i true) (a.put o.dst v) w) (hi : l[i]? = some o := by rfl) (hB : firstB l.toArray listed i = true := by kernel_rfl) (hg : o.guard = none := by rfl) (hv : ∀ W, RunsVal ((execOp a.eval o).run P W) v W) : wpAny P .any l.toArray (NoPanic Q) (fuel + 1) listed a w := any_first i hi hB nopanic_not hg hv h
set_option maxHeartbeats 2000000 in
theorem signed_c {a b : Nat} {r g : List UInt8} {w : World} (ha : a ≤ 4096) (hb : b ≤ 1099511627776) (hr : r.length = 32) :
  Calls Tryd.prog 60 #[.agg ([.int .i64 a, .string (bs r), .int .i64 b, .string (bs g)]).toArray] w fun e w' => e = .returned (.string (bs (sgnL a b r))) ∧ Below w.heap.size w w' := by
 go_enter Tryd.func60, Tryd.ntmps60
 have M := Mem.start w
 refine qS fun _ k1 => ?_
 refine nVs (segs := [(0, [.int .i64 a]), (1, [.string (bs r)]), (2, [.int .i64 b]), (3, [.string (bs g)])]) 4 fun g3 w4 M => ?_
 refine lg ?_; refine lZ k1 ?_
 refine qS fun _ k5 => ?_
 refine lF ?_; refine lc ?_
 refine cM 5 fun Lk hLk => ?_
 refine wpV_conv (d := .bool) (e := ((a : Nat) : Int)) (by rfl) rfl rfl (run_conv_int U93 U940 ((wrap64N _).trans (congrArg _ (Z5 (by omega))))) ?_
 simp only [Z0, Z6]
 refine vC (v := .tuple #[.string (bs (beL 8 a)), .int .i64 0]) (fun W => big8_c (n := a) (by omega)) ?_
 refine vM ?_; refine vE ?_; refine vE ?_
 refine hLk _ fun w7 M => ?_
 refine lg ?_; refine lg ?_; refine lZ k5 ?_
 refine qS fun _ k8 => ?_
 refine lF ?_; refine lc ?_
 refine cM 5 fun Lk hLk => ?_
 refine wpV_conv (d := .bool) (e := ((b : Nat) : Int)) (by rfl) rfl rfl (run_conv_int U93 U940 ((wrap64N _).trans (congrArg _ (Z5 (by omega))))) ?_
 simp only [Z0, Z6]
 refine vC (v := .tuple #[.string (bs (beL 8 b)), .int .i64 0]) (fun W => big8_c (n := b) (by omega)) ?_
 refine vM ?_; refine vE ?_; refine vE ?_
 refine hLk _ fun w10 M => ?_
 refine lg ?_; refine lg ?_; refine lZ k8 ?_
 refine qS fun _ k11 => ?_
 refine lM ?_; refine lM ?_; refine lF ?_; refine lc ?_
 refine wpL_rowN (vs := [.string (bs headL), .string (bs (beL 8 a)), .string (bs (beL 8 b)), .string (bs r)]) (z := .string { data := #[] }) (bytes := 16) (by rfl) (by rfl) U937 (by kernel_rfl) (by decide) (by kernel_rfl) (fun g14 w15 Sw15 Hg14 Bg14 => ?_)
 replace M := ((M.sees Sw15).add (N := 4) (cs := [.string (bs headL), .string (bs (beL 8 a)), .string (bs (beL 8 b)), .string (bs r)]) (M.ge Hg14) (M.fresh Hg14) Bg14 rfl)
 clear Bg14
 simp only [Z0, Z6]
 refine cM 4 fun Lk hLk => ?_
 refine vCh (v := .tuple #[.string (bs (sgnL a b r)), .int .i64 0]) (args := #[.slice (some ⟨g14, 0, none⟩) 4 4]) (fun W hW => (by have h9 := pack_c (ps := [headL, beL 8 a, beL 8 b, r]) (w := W) (by simp) (by rw [packN_sgn a b hr]; decide) (Nat.le_refl _) ((M.sees hW).lt 0 rfl) ((M.sees hW).r 0 0 rfl rfl); exact h9)) ?_
 refine vM ?_; refine vE ?_; refine vE ?_
 refine hLk _ fun w16 M => ?_
 refine lg ?_; refine lg ?_; refine lZ k11 ?_
 refine qS fun _ k17 => ?_
 refine lM ?_; refine lg ?_; refine lZ k17 ?_; refine rt1 ?_
 exact ⟨rfl, M.below⟩
set_option maxHeartbeats 2000000 in
theorem hSign_ok {l r : List UInt8} {a b : Nat} {w : World} (ha : a ≤ 4096) (hb : b ≤ 1099511627776) (hr : r.length = 32) (hl : l.length = 32) (L2 : 2 < w.heap.size) (R2_0 : w.rangeAt 2 0 kcellsq) :
  Calls Tryd.prog 31 #[.string (bs l), .int .i64 a, .string (bs r), .int .i64 b] w fun e w' => e = .returned (.tuple #[.agg ([.int .i64 a, .string (bs r), .int .i64 b, .string (bs (edS l (sgnL a b r)))]).toArray, .int .i64 0]) ∧ Below w.heap.size w w' := by
 go_enter Tryd.func31, Tryd.ntmps31
 have M := Mem.start w
 refine qS fun _ k1 => ?_
 refine nV 4 fun g3 w4 M => ?_
 refine lg ?_; refine lZ k1 ?_
 refine qS fun _ k5 => ?_
 refine lM ?_; refine lM ?_; refine lM ?_
 refine wpL_make (n := 64) (z := .int .u8 0) (bytes := 1) (by rfl) (by rfl) (by rfl) (by rfl) U929 (by kernel_rfl) rfl (by decide) (by decide) (fun g7 w8 Sw8 Hg7 Bg7 => ?_)
 replace M := ((M.sees Sw8).add (N := 64) (cs := List.replicate 64 (.int .u8 0)) (M.ge Hg7) (M.fresh Hg7) Bg7 (by simp [flen]))
 clear Bg7
 rw [show List.replicate 64 (Value.int .u8 0) = bcells (List.replicate 64 0) from rfl] at M
 simp only [Z0, Z6]
 refine cM 2 fun Lk hLk => ?_
 refine wpV_b2s (l := (List.replicate 64 0)) (by rfl) rfl rfl (List.length_replicate ..).symm U929 Tryd.underlying5 U99 (M.r 0 0 rfl rfl) (M.lt 0 rfl) ?_
 simp only [Z0, Z6]
 refine vGk (v := .agg ([.int .i64 a, .string (bs r), .int .i64 b, .string (bs (List.replicate 64 0))]).toArray) ?_
 simp only [Z0, Z6]
 refine hLk _ fun w9 M => ?_
 refine nV 4 fun g10 w11 M => ?_
 refine sT 0 0 fun w12 M => ?_
 refine lZ k5 ?_
 refine sk fun _ k13 => ?_
 refine qS fun _ k14 => ?_
 refine lL ?_
 refine cM 2 fun Lk hLk => ?_
 refine vC (v := .bool true) (args := #[.agg ([.int .i64 a, .string (bs r), .int .i64 b, .string (bs (List.replicate 64 0))]).toArray]) (fun W => (by have h9 := hright_c (z := ((a : Nat) : Int)) (r := r) (t := ((b : Nat) : Int)) (g := List.replicate 64 0) (w := W); rw [rightH_of ha hb hr (List.length_replicate ..)] at h9; exact h9)) ?_
 refine vt ?_
 refine hLk _ fun w16 M => ?_
 refine lZ k14 ?_; refine cF ?_; refine sZ k13 ?_
 refine qS fun _ k17 => ?_
 refine lM ?_; refine lL ?_
 refine cM 5 fun Lk hLk => ?_
 refine vC (v := .string (bs (sgnL a b r))) (args := #[.agg ([.int .i64 a, .string (bs r), .int .i64 b, .string (bs (List.replicate 64 0))]).toArray]) (fun W => (by have h9 := signed_c (a := a) (b := b) (r := r) (g := List.replicate 64 0) (w := W) (by exact ha) (by exact hb) (by exact hr); exact h9)) ?_
 refine vCh (v := .tuple #[.string (bs (edS l (sgnL a b r))), .int .i64 0]) (fun W hW => (Sign_ok hl (by rw [sgnL_len a b hr]; decide) ((M.sees hW).oldL L2) ((M.sees hW).oldR R2_0 L2))) ?_
 refine vM ?_; refine vE ?_; refine vE ?_
 refine hLk _ fun w19 M => ?_
 refine lg ?_; refine lg ?_; refine lZ k17 ?_
 refine sk fun _ k20 => ?_
 refine qS fun _ k21 => ?_
 refine lM ?_
 refine cM 1 fun Lk hLk => ?_
 refine vB (v := .bool false) (hr := run_neq _ _ _ _) ?_
 refine hLk _ fun w23 M => ?_
 refine lZ k21 ?_; refine cF ?_; refine sZ k20 ?_
 refine qS fun _ k24 => ?_
 refine lM ?_; refine lF ?_
 refine lS1 (g := g10) (off := 3) (n := 4) (v := .string (bs (edS l (sgnL a b r)))) (M.t 0 rfl) (by decide) info9 rfl (fun w27 P R T => ?_)
 replace M := M.put1 (j := 3) 0 rfl P R T rfl
 simp only [Z6] at M
 refine lZ k24 ?_
 refine qS fun _ k28 => ?_
 refine lL ?_
 refine sT 2 0 fun w31 M => ?_
 refine lg ?_; refine lZ k28 ?_; refine rt ?_
 refine bodyPost_ret (v := .tuple #[.agg ([.int .i64 a, .string (bs r), .int .i64 b, .string (bs (edS l (sgnL a b r)))]).toArray, .int .i64 0]) (res2 rfl (.cell (by rfl) (run_loadVar_mid _ _ _ _ ([.int .i64 a, .string (bs r), .int .i64 b, .string (bs (edS l (sgnL a b r)))]) _ (M.r 2 0 rfl rfl) U933 rfl info33)) (.tmp (by rfl))) rfl ?_
 exact ⟨rfl, M.below⟩
set_option maxHeartbeats 2000000 in
theorem few10_c {z t : Int} {r g : List UInt8} {w : World}  :
  Calls Tryd.prog 20 #[.agg ([.int .i64 z, .string (bs r), .int .i64 t, .string (bs g)]).toArray] w fun e w' => e = .returned (.agg ([.int .i64 z, .string (bs (cut r 40)), .int .i64 t, .string (bs (cut g 70))]).toArray) ∧ Below w.heap.size w w' := by
 go_enter Tryd.func20, Tryd.ntmps20
 have M := Mem.start w
 refine qS fun _ k1 => ?_
 refine nVs (segs := [(0, [.int .i64 z]), (1, [.string (bs r)]), (2, [.int .i64 t]), (3, [.string (bs g)])]) 4 fun g3 w4 M => ?_
 refine nV 4 fun g5 w6 M => ?_
 refine lZ k1 ?_
 refine sk fun _ k7 => ?_
 refine wp_region_treeN (by kernel_rfl) (fun w9 Sw9 => ?_)
 replace M := M.sees Sw9
 refine aF 0 (v := .pointer (some ⟨g3, 1, none⟩)) (hv := fun W => by (go_simp; exact rfl)) ?_
 simp only [Z0, Z6]
 refine aF 2 (v := .pointer (some ⟨g3, 1, none⟩)) (hv := fun W => by (go_simp; exact rfl)) ?_
 simp only [Z0, Z6]
 refine aF 7 (v := .pointer (some ⟨g3, 3, none⟩)) (hv := fun W => by (go_simp; exact rfl)) ?_
 simp only [Z0, Z6]
 refine aF 9 (v := .pointer (some ⟨g3, 3, none⟩)) (hv := fun W => by (go_simp; exact rfl)) ?_
 simp only [Z0, Z6]
 refine any_hub 4 #[true, true, true, true, true, true, true, true, true, true, true, true, true, true, false, false, false, false] { tmps := #[.agg ([.int .i64 z, .string (bs r), .int .i64 t, .string (bs g)]).toArray, .pointer (some ⟨g3, 0, none⟩), .pointer (some ⟨g5, 0, none⟩), .pointer (some ⟨g3, 1, none⟩), .string (bs r), .pointer (some ⟨g3, 1, none⟩), .string (bs r), .int .i64 r.length, .int .i64 (min r.length 40 : Nat), .string (bs (cut r 40)), .pointer (some ⟨g3, 3, none⟩), .string (bs g), .pointer (some ⟨g3, 3, none⟩), .string (bs g), .int .i64 g.length, .int .i64 (min g.length 70 : Nat), .string (bs (cut g 70)), Z9, Z9, Z9], defers := [] } (fun HK => ?_) ?_
 ·
  refine any_step [1, 3, 8, 10] (by kernel_rfl) rfl (any_two ?_ (any_two ?_ (any_two ?_ (any_one ?_))))
  ·
   refine any_load 1 (v := .string (bs r)) (range_one (M.r 1 1 rfl rfl)) U99 ?_
   simp only [Z0, Z6]
   refine any_step [3, 8, 10] (by kernel_rfl) rfl (any_two ?_ (any_two ?_ (any_one ?_)))
   ·
    refine any_load 3 (v := .string (bs r)) (range_one (M.r 1 1 rfl rfl)) U99 ?_
    simp only [Z0, Z6]
    refine aF 4 (v := .int .i64 r.length) (hv := by exact yl_lenS rfl rfl rfl U99) ?_
    simp only [Z0, Z6]
    refine aF 5 (v := .int .i64 (min r.length 40 : Nat)) (hv := by exact yl_min (n := r.length) (m := 40) rfl rfl rfl) ?_
    simp only [Z0, Z6]
    refine aF 6 (v := .string (bs (cut r 40))) (hv := by exact yl_cut (l := r) (m := 40) rfl rfl rfl U99) ?_
    simp only [Z0, Z6]
    refine any_step [8, 10] (by kernel_rfl) rfl (any_two ?_ (any_one ?_))
    ·
     refine any_load 8 (v := .string (bs g)) (range_one (M.r 1 3 rfl rfl)) U99 ?_
     simp only [Z0, Z6]
     refine any_step [10] (by kernel_rfl) rfl (any_one ?_)
     refine any_load 10 (v := .string (bs g)) (range_one (M.r 1 3 rfl rfl)) U99 ?_
     simp only [Z0, Z6]
     refine aF 11 (v := .int .i64 g.length) (hv := by exact yl_lenS rfl rfl rfl U99) ?_
     simp only [Z0, Z6]
     refine aF 12 (v := .int .i64 (min g.length 70 : Nat)) (hv := by exact yl_min (n := g.length) (m := 70) rfl rfl rfl) ?_
     simp only [Z0, Z6]
     refine aF 13 (v := .string (bs (cut g 70))) (hv := by exact yl_cut (l := g) (m := 70) rfl rfl rfl U99) ?_
     simp only [Z0, Z6]
     exact any_listed (by kernel_rfl) HK
    refine any_load 10 (v := .string (bs g)) (range_one (M.r 1 3 rfl rfl)) U99 ?_
    simp only [Z0, Z6]
    refine aF 11 (v := .int .i64 g.length) (hv := by exact yl_lenS rfl rfl rfl U99) ?_
    simp only [Z0, Z6]
    refine aF 12 (v := .int .i64 (min g.length 70 : Nat)) (hv := by exact yl_min (n := g.length) (m := 70) rfl rfl rfl) ?_
    simp only [Z0, Z6]
    refine any_step [8] (by kernel_rfl) rfl (any_one ?_)
    refine any_load 8 (v := .string (bs g)) (range_one (M.r 1 3 rfl rfl)) U99 ?_
    simp only [Z0, Z6]
    refine aF 13 (v := .string (bs (cut g 70))) (hv := by exact yl_cut (l := g) (m := 70) rfl rfl rfl U99) ?_
    simp only [Z0, Z6]
    exact any_listed (by kernel_rfl) HK
   ·
    refine any_load 8 (v := .string (bs g)) (range_one (M.r 1 3 rfl rfl)) U99 ?_
    simp only [Z0, Z6]
    refine any_step [3, 10] (by kernel_rfl) rfl (any_two ?_ (any_one ?_))
    ·
     refine any_load 3 (v := .string (bs r)) (range_one (M.r 1 1 rfl rfl)) U99 ?_
     simp only [Z0, Z6]
     refine aF 4 (v := .int .i64 r.length) (hv := by exact yl_lenS rfl rfl rfl U99) ?_
     simp only [Z0, Z6]
     refine aF 5 (v := .int .i64 (min r.length 40 : Nat)) (hv := by exact yl_min (n := r.length) (m := 40) rfl rfl rfl) ?_
     simp only [Z0, Z6]
     refine aF 6 (v := .string (bs (cut r 40))) (hv := by exact yl_cut (l := r) (m := 40) rfl rfl rfl U99) ?_
     simp only [Z0, Z6]
     refine any_step [10] (by kernel_rfl) rfl (any_one ?_)
     refine any_load 10 (v := .string (bs g)) (range_one (M.r 1 3 rfl rfl)) U99 ?_
     simp only [Z0, Z6]
     refine aF 11 (v := .int .i64 g.length) (hv := by exact yl_lenS rfl rfl rfl U99) ?_
     simp only [Z0, Z6]
     refine aF 12 (v := .int .i64 (min g.length 70 : Nat)) (hv := by exact yl_min (n := g.length) (m := 70) rfl rfl rfl) ?_
     simp only [Z0, Z6]
     refine aF 13 (v := .string (bs (cut g 70))) (hv := by exact yl_cut (l := g) (m := 70) rfl rfl rfl U99) ?_
     simp only [Z0, Z6]
     exact any_listed (by kernel_rfl) HK
    refine any_load 10 (v := .string (bs g)) (range_one (M.r 1 3 rfl rfl)) U99 ?_
    simp only [Z0, Z6]
    refine aF 11 (v := .int .i64 g.length) (hv := by exact yl_lenS rfl rfl rfl U99) ?_
    simp only [Z0, Z6]
    refine aF 12 (v := .int .i64 (min g.length 70 : Nat)) (hv := by exact yl_min (n := g.length) (m := 70) rfl rfl rfl) ?_
    simp only [Z0, Z6]
    refine aF 13 (v := .string (bs (cut g 70))) (hv := by exact yl_cut (l := g) (m := 70) rfl rfl rfl U99) ?_
    simp only [Z0, Z6]
    refine any_step [3] (by kernel_rfl) rfl (any_one ?_)
    refine any_load 3 (v := .string (bs r)) (range_one (M.r 1 1 rfl rfl)) U99 ?_
    simp only [Z0, Z6]
    refine aF 4 (v := .int .i64 r.length) (hv := by exact yl_lenS rfl rfl rfl U99) ?_
    simp only [Z0, Z6]
    refine aF 5 (v := .int .i64 (min r.length 40 : Nat)) (hv := by exact yl_min (n := r.length) (m := 40) rfl rfl rfl) ?_
    simp only [Z0, Z6]
    refine aF 6 (v := .string (bs (cut r 40))) (hv := by exact yl_cut (l := r) (m := 40) rfl rfl rfl U99) ?_
    simp only [Z0, Z6]
    exact any_listed (by kernel_rfl) HK
   refine any_load 10 (v := .string (bs g)) (range_one (M.r 1 3 rfl rfl)) U99 ?_
   simp only [Z0, Z6]
   refine aF 11 (v := .int .i64 g.length) (hv := by exact yl_lenS rfl rfl rfl U99) ?_
   simp only [Z0, Z6]
   refine aF 12 (v := .int .i64 (min g.length 70 : Nat)) (hv := by exact yl_min (n := g.length) (m := 70) rfl rfl rfl) ?_
   simp only [Z0, Z6]
   refine any_step [3, 8] (by kernel_rfl) rfl (any_two ?_ (any_one ?_))
   ·
    refine any_load 3 (v := .string (bs r)) (range_one (M.r 1 1 rfl rfl)) U99 ?_
    simp only [Z0, Z6]
    refine aF 4 (v := .int .i64 r.length) (hv := by exact yl_lenS rfl rfl rfl U99) ?_
    simp only [Z0, Z6]
    refine aF 5 (v := .int .i64 (min r.length 40 : Nat)) (hv := by exact yl_min (n := r.length) (m := 40) rfl rfl rfl) ?_
    simp only [Z0, Z6]
    refine aF 6 (v := .string (bs (cut r 40))) (hv := by exact yl_cut (l := r) (m := 40) rfl rfl rfl U99) ?_
    simp only [Z0, Z6]
    refine any_step [8] (by kernel_rfl) rfl (any_one ?_)
    refine any_load 8 (v := .string (bs g)) (range_one (M.r 1 3 rfl rfl)) U99 ?_
    simp only [Z0, Z6]
    refine aF 13 (v := .string (bs (cut g 70))) (hv := by exact yl_cut (l := g) (m := 70) rfl rfl rfl U99) ?_
    simp only [Z0, Z6]
    exact any_listed (by kernel_rfl) HK
   refine any_load 8 (v := .string (bs g)) (range_one (M.r 1 3 rfl rfl)) U99 ?_
   simp only [Z0, Z6]
   refine aF 13 (v := .string (bs (cut g 70))) (hv := by exact yl_cut (l := g) (m := 70) rfl rfl rfl U99) ?_
   simp only [Z0, Z6]
   refine any_step [3] (by kernel_rfl) rfl (any_one ?_)
   refine any_load 3 (v := .string (bs r)) (range_one (M.r 1 1 rfl rfl)) U99 ?_
   simp only [Z0, Z6]
   refine aF 4 (v := .int .i64 r.length) (hv := by exact yl_lenS rfl rfl rfl U99) ?_
   simp only [Z0, Z6]
   refine aF 5 (v := .int .i64 (min r.length 40 : Nat)) (hv := by exact yl_min (n := r.length) (m := 40) rfl rfl rfl) ?_
   simp only [Z0, Z6]
   refine aF 6 (v := .string (bs (cut r 40))) (hv := by exact yl_cut (l := r) (m := 40) rfl rfl rfl U99) ?_
   simp only [Z0, Z6]
   exact any_listed (by kernel_rfl) HK
  ·
   refine any_load 3 (v := .string (bs r)) (range_one (M.r 1 1 rfl rfl)) U99 ?_
   simp only [Z0, Z6]
   refine aF 4 (v := .int .i64 r.length) (hv := by exact yl_lenS rfl rfl rfl U99) ?_
   simp only [Z0, Z6]
   refine aF 5 (v := .int .i64 (min r.length 40 : Nat)) (hv := by exact yl_min (n := r.length) (m := 40) rfl rfl rfl) ?_
   simp only [Z0, Z6]
   refine any_step [1, 8, 10] (by kernel_rfl) rfl (any_two ?_ (any_two ?_ (any_one ?_)))
   ·
    refine any_load 1 (v := .string (bs r)) (range_one (M.r 1 1 rfl rfl)) U99 ?_
    simp only [Z0, Z6]
    refine aF 6 (v := .string (bs (cut r 40))) (hv := by exact yl_cut (l := r) (m := 40) rfl rfl rfl U99) ?_
    simp only [Z0, Z6]
    refine any_step [8, 10] (by kernel_rfl) rfl (any_two ?_ (any_one ?_))
    ·
     refine any_load 8 (v := .string (bs g)) (range_one (M.r 1 3 rfl rfl)) U99 ?_
     simp only [Z0, Z6]
     refine any_step [10] (by kernel_rfl) rfl (any_one ?_)
     refine any_load 10 (v := .string (bs g)) (range_one (M.r 1 3 rfl rfl)) U99 ?_
     simp only [Z0, Z6]
     refine aF 11 (v := .int .i64 g.length) (hv := by exact yl_lenS rfl rfl rfl U99) ?_
     simp only [Z0, Z6]
     refine aF 12 (v := .int .i64 (min g.length 70 : Nat)) (hv := by exact yl_min (n := g.length) (m := 70) rfl rfl rfl) ?_
     simp only [Z0, Z6]
     refine aF 13 (v := .string (bs (cut g 70))) (hv := by exact yl_cut (l := g) (m := 70) rfl rfl rfl U99) ?_
     simp only [Z0, Z6]
     exact any_listed (by kernel_rfl) HK
    refine any_load 10 (v := .string (bs g)) (range_one (M.r 1 3 rfl rfl)) U99 ?_
    simp only [Z0, Z6]
    refine aF 11 (v := .int .i64 g.length) (hv := by exact yl_lenS rfl rfl rfl U99) ?_
    simp only [Z0, Z6]
    refine aF 12 (v := .int .i64 (min g.length 70 : Nat)) (hv := by exact yl_min (n := g.length) (m := 70) rfl rfl rfl) ?_
    simp only [Z0, Z6]
    refine any_step [8] (by kernel_rfl) rfl (any_one ?_)
    refine any_load 8 (v := .string (bs g)) (range_one (M.r 1 3 rfl rfl)) U99 ?_
    simp only [Z0, Z6]
    refine aF 13 (v := .string (bs (cut g 70))) (hv := by exact yl_cut (l := g) (m := 70) rfl rfl rfl U99) ?_
    simp only [Z0, Z6]
    exact any_listed (by kernel_rfl) HK
   ·
    refine any_load 8 (v := .string (bs g)) (range_one (M.r 1 3 rfl rfl)) U99 ?_
    simp only [Z0, Z6]
    refine any_step [1, 10] (by kernel_rfl) rfl (any_two ?_ (any_one ?_))
    ·
     refine any_load 1 (v := .string (bs r)) (range_one (M.r 1 1 rfl rfl)) U99 ?_
     simp only [Z0, Z6]
     refine aF 6 (v := .string (bs (cut r 40))) (hv := by exact yl_cut (l := r) (m := 40) rfl rfl rfl U99) ?_
     simp only [Z0, Z6]
     refine any_step [10] (by kernel_rfl) rfl (any_one ?_)
     refine any_load 10 (v := .string (bs g)) (range_one (M.r 1 3 rfl rfl)) U99 ?_
     simp only [Z0, Z6]
     refine aF 11 (v := .int .i64 g.length) (hv := by exact yl_lenS rfl rfl rfl U99) ?_
     simp only [Z0, Z6]
     refine aF 12 (v := .int .i64 (min g.length 70 : Nat)) (hv := by exact yl_min (n := g.length) (m := 70) rfl rfl rfl) ?_
     simp only [Z0, Z6]
     refine aF 13 (v := .string (bs (cut g 70))) (hv := by exact yl_cut (l := g) (m := 70) rfl rfl rfl U99) ?_
     simp only [Z0, Z6]
     exact any_listed (by kernel_rfl) HK
    refine any_load 10 (v := .string (bs g)) (range_one (M.r 1 3 rfl rfl)) U99 ?_
    simp only [Z0, Z6]
    refine aF 11 (v := .int .i64 g.length) (hv := by exact yl_lenS rfl rfl rfl U99) ?_
    simp only [Z0, Z6]
    refine aF 12 (v := .int .i64 (min g.length 70 : Nat)) (hv := by exact yl_min (n := g.length) (m := 70) rfl rfl rfl) ?_
    simp only [Z0, Z6]
    refine aF 13 (v := .string (bs (cut g 70))) (hv := by exact yl_cut (l := g) (m := 70) rfl rfl rfl U99) ?_
    simp only [Z0, Z6]
    refine any_step [1] (by kernel_rfl) rfl (any_one ?_)
    refine any_load 1 (v := .string (bs r)) (range_one (M.r 1 1 rfl rfl)) U99 ?_
    simp only [Z0, Z6]
    refine aF 6 (v := .string (bs (cut r 40))) (hv := by exact yl_cut (l := r) (m := 40) rfl rfl rfl U99) ?_
    simp only [Z0, Z6]
    exact any_listed (by kernel_rfl) HK
   refine any_load 10 (v := .string (bs g)) (range_one (M.r 1 3 rfl rfl)) U99 ?_
   simp only [Z0, Z6]
   refine aF 11 (v := .int .i64 g.length) (hv := by exact yl_lenS rfl rfl rfl U99) ?_
   simp only [Z0, Z6]
   refine aF 12 (v := .int .i64 (min g.length 70 : Nat)) (hv := by exact yl_min (n := g.length) (m := 70) rfl rfl rfl) ?_
   simp only [Z0, Z6]
   refine any_step [1, 8] (by kernel_rfl) rfl (any_two ?_ (any_one ?_))
   ·
    refine any_load 1 (v := .string (bs r)) (range_one (M.r 1 1 rfl rfl)) U99 ?_
    simp only [Z0, Z6]
    refine aF 6 (v := .string (bs (cut r 40))) (hv := by exact yl_cut (l := r) (m := 40) rfl rfl rfl U99) ?_
    simp only [Z0, Z6]
    refine any_step [8] (by kernel_rfl) rfl (any_one ?_)
    refine any_load 8 (v := .string (bs g)) (range_one (M.r 1 3 rfl rfl)) U99 ?_
    simp only [Z0, Z6]
    refine aF 13 (v := .string (bs (cut g 70))) (hv := by exact yl_cut (l := g) (m := 70) rfl rfl rfl U99) ?_
    simp only [Z0, Z6]
    exact any_listed (by kernel_rfl) HK
   refine any_load 8 (v := .string (bs g)) (range_one (M.r 1 3 rfl rfl)) U99 ?_
   simp only [Z0, Z6]
   refine aF 13 (v := .string (bs (cut g 70))) (hv := by exact yl_cut (l := g) (m := 70) rfl rfl rfl U99) ?_
   simp only [Z0, Z6]
   refine any_step [1] (by kernel_rfl) rfl (any_one ?_)
   refine any_load 1 (v := .string (bs r)) (range_one (M.r 1 1 rfl rfl)) U99 ?_
   simp only [Z0, Z6]
   refine aF 6 (v := .string (bs (cut r 40))) (hv := by exact yl_cut (l := r) (m := 40) rfl rfl rfl U99) ?_
   simp only [Z0, Z6]
   exact any_listed (by kernel_rfl) HK
  ·
   refine any_load 8 (v := .string (bs g)) (range_one (M.r 1 3 rfl rfl)) U99 ?_
   simp only [Z0, Z6]
   refine any_step [1, 3, 10] (by kernel_rfl) rfl (any_two ?_ (any_two ?_ (any_one ?_)))
   ·
    refine any_load 1 (v := .string (bs r)) (range_one (M.r 1 1 rfl rfl)) U99 ?_
    simp only [Z0, Z6]
    refine any_step [3, 10] (by kernel_rfl) rfl (any_two ?_ (any_one ?_))
    ·
     refine any_load 3 (v := .string (bs r)) (range_one (M.r 1 1 rfl rfl)) U99 ?_
     simp only [Z0, Z6]
     refine aF 4 (v := .int .i64 r.length) (hv := by exact yl_lenS rfl rfl rfl U99) ?_
     simp only [Z0, Z6]
     refine aF 5 (v := .int .i64 (min r.length 40 : Nat)) (hv := by exact yl_min (n := r.length) (m := 40) rfl rfl rfl) ?_
     simp only [Z0, Z6]
     refine aF 6 (v := .string (bs (cut r 40))) (hv := by exact yl_cut (l := r) (m := 40) rfl rfl rfl U99) ?_
     simp only [Z0, Z6]
     refine any_step [10] (by kernel_rfl) rfl (any_one ?_)
     refine any_load 10 (v := .string (bs g)) (range_one (M.r 1 3 rfl rfl)) U99 ?_
     simp only [Z0, Z6]
     refine aF 11 (v := .int .i64 g.length) (hv := by exact yl_lenS rfl rfl rfl U99) ?_
     simp only [Z0, Z6]
     refine aF 12 (v := .int .i64 (min g.length 70 : Nat)) (hv := by exact yl_min (n := g.length) (m := 70) rfl rfl rfl) ?_
     simp only [Z0, Z6]
     refine aF 13 (v := .string (bs (cut g 70))) (hv := by exact yl_cut (l := g) (m := 70) rfl rfl rfl U99) ?_
     simp only [Z0, Z6]
     exact any_listed (by kernel_rfl) HK
    refine any_load 10 (v := .string (bs g)) (range_one (M.r 1 3 rfl rfl)) U99 ?_
    simp only [Z0, Z6]
    refine aF 11 (v := .int .i64 g.length) (hv := by exact yl_lenS rfl rfl rfl U99) ?_
    simp only [Z0, Z6]
    refine aF 12 (v := .int .i64 (min g.length 70 : Nat)) (hv := by exact yl_min (n := g.length) (m := 70) rfl rfl rfl) ?_
    simp only [Z0, Z6]
    refine aF 13 (v := .string (bs (cut g 70))) (hv := by exact yl_cut (l := g) (m := 70) rfl rfl rfl U99) ?_
    simp only [Z0, Z6]
    refine any_step [3] (by kernel_rfl) rfl (any_one ?_)
    refine any_load 3 (v := .string (bs r)) (range_one (M.r 1 1 rfl rfl)) U99 ?_
    simp only [Z0, Z6]
    refine aF 4 (v := .int .i64 r.length) (hv := by exact yl_lenS rfl rfl rfl U99) ?_
    simp only [Z0, Z6]
    refine aF 5 (v := .int .i64 (min r.length 40 : Nat)) (hv := by exact yl_min (n := r.length) (m := 40) rfl rfl rfl) ?_
    simp only [Z0, Z6]
    refine aF 6 (v := .string (bs (cut r 40))) (hv := by exact yl_cut (l := r) (m := 40) rfl rfl rfl U99) ?_
    simp only [Z0, Z6]
    exact any_listed (by kernel_rfl) HK
   ·
    refine any_load 3 (v := .string (bs r)) (range_one (M.r 1 1 rfl rfl)) U99 ?_
    simp only [Z0, Z6]
    refine aF 4 (v := .int .i64 r.length) (hv := by exact yl_lenS rfl rfl rfl U99) ?_
    simp only [Z0, Z6]
    refine aF 5 (v := .int .i64 (min r.length 40 : Nat)) (hv := by exact yl_min (n := r.length) (m := 40) rfl rfl rfl) ?_
    simp only [Z0, Z6]
    refine any_step [1, 10] (by kernel_rfl) rfl (any_two ?_ (any_one ?_))
    ·
     refine any_load 1 (v := .string (bs r)) (range_one (M.r 1 1 rfl rfl)) U99 ?_
     simp only [Z0, Z6]
     refine aF 6 (v := .string (bs (cut r 40))) (hv := by exact yl_cut (l := r) (m := 40) rfl rfl rfl U99) ?_
     simp only [Z0, Z6]
     refine any_step [10] (by kernel_rfl) rfl (any_one ?_)
     refine any_load 10 (v := .string (bs g)) (range_one (M.r 1 3 rfl rfl)) U99 ?_
     simp only [Z0, Z6]
     refine aF 11 (v := .int .i64 g.length) (hv := by exact yl_lenS rfl rfl rfl U99) ?_
     simp only [Z0, Z6]
     refine aF 12 (v := .int .i64 (min g.length 70 : Nat)) (hv := by exact yl_min (n := g.length) (m := 70) rfl rfl rfl) ?_
     simp only [Z0, Z6]
     refine aF 13 (v := .string (bs (cut g 70))) (hv := by exact yl_cut (l := g) (m := 70) rfl rfl rfl U99) ?_
     simp only [Z0, Z6]
     exact any_listed (by kernel_rfl) HK
    refine any_load 10 (v := .string (bs g)) (range_one (M.r 1 3 rfl rfl)) U99 ?_
    simp only [Z0, Z6]
    refine aF 11 (v := .int .i64 g.length) (hv := by exact yl_lenS rfl rfl rfl U99) ?_
    simp only [Z0, Z6]
    refine aF 12 (v := .int .i64 (min g.length 70 : Nat)) (hv := by exact yl_min (n := g.length) (m := 70) rfl rfl rfl) ?_
    simp only [Z0, Z6]
    refine aF 13 (v := .string (bs (cut g 70))) (hv := by exact yl_cut (l := g) (m := 70) rfl rfl rfl U99) ?_
    simp only [Z0, Z6]
    refine any_step [1] (by kernel_rfl) rfl (any_one ?_)
    refine any_load 1 (v := .string (bs r)) (range_one (M.r 1 1 rfl rfl)) U99 ?_
    simp only [Z0, Z6]
    refine aF 6 (v := .string (bs (cut r 40))) (hv := by exact yl_cut (l := r) (m := 40) rfl rfl rfl U99) ?_
    simp only [Z0, Z6]
    exact any_listed (by kernel_rfl) HK
   refine any_load 10 (v := .string (bs g)) (range_one (M.r 1 3 rfl rfl)) U99 ?_
   simp only [Z0, Z6]
   refine aF 11 (v := .int .i64 g.length) (hv := by exact yl_lenS rfl rfl rfl U99) ?_
   simp only [Z0, Z6]
   refine aF 12 (v := .int .i64 (min g.length 70 : Nat)) (hv := by exact yl_min (n := g.length) (m := 70) rfl rfl rfl) ?_
   simp only [Z0, Z6]
   refine aF 13 (v := .string (bs (cut g 70))) (hv := by exact yl_cut (l := g) (m := 70) rfl rfl rfl U99) ?_
   simp only [Z0, Z6]
   refine any_step [1, 3] (by kernel_rfl) rfl (any_two ?_ (any_one ?_))
   ·
    refine any_load 1 (v := .string (bs r)) (range_one (M.r 1 1 rfl rfl)) U99 ?_
    simp only [Z0, Z6]
    refine any_step [3] (by kernel_rfl) rfl (any_one ?_)
    refine any_load 3 (v := .string (bs r)) (range_one (M.r 1 1 rfl rfl)) U99 ?_
    simp only [Z0, Z6]
    refine aF 4 (v := .int .i64 r.length) (hv := by exact yl_lenS rfl rfl rfl U99) ?_
    simp only [Z0, Z6]
    refine aF 5 (v := .int .i64 (min r.length 40 : Nat)) (hv := by exact yl_min (n := r.length) (m := 40) rfl rfl rfl) ?_
    simp only [Z0, Z6]
    refine aF 6 (v := .string (bs (cut r 40))) (hv := by exact yl_cut (l := r) (m := 40) rfl rfl rfl U99) ?_
    simp only [Z0, Z6]
    exact any_listed (by kernel_rfl) HK
   refine any_load 3 (v := .string (bs r)) (range_one (M.r 1 1 rfl rfl)) U99 ?_
   simp only [Z0, Z6]
   refine aF 4 (v := .int .i64 r.length) (hv := by exact yl_lenS rfl rfl rfl U99) ?_
   simp only [Z0, Z6]
   refine aF 5 (v := .int .i64 (min r.length 40 : Nat)) (hv := by exact yl_min (n := r.length) (m := 40) rfl rfl rfl) ?_
   simp only [Z0, Z6]
   refine any_step [1] (by kernel_rfl) rfl (any_one ?_)
   refine any_load 1 (v := .string (bs r)) (range_one (M.r 1 1 rfl rfl)) U99 ?_
   simp only [Z0, Z6]
   refine aF 6 (v := .string (bs (cut r 40))) (hv := by exact yl_cut (l := r) (m := 40) rfl rfl rfl U99) ?_
   simp only [Z0, Z6]
   exact any_listed (by kernel_rfl) HK
  refine any_load 10 (v := .string (bs g)) (range_one (M.r 1 3 rfl rfl)) U99 ?_
  simp only [Z0, Z6]
  refine aF 11 (v := .int .i64 g.length) (hv := by exact yl_lenS rfl rfl rfl U99) ?_
  simp only [Z0, Z6]
  refine aF 12 (v := .int .i64 (min g.length 70 : Nat)) (hv := by exact yl_min (n := g.length) (m := 70) rfl rfl rfl) ?_
  simp only [Z0, Z6]
  refine any_step [1, 3, 8] (by kernel_rfl) rfl (any_two ?_ (any_two ?_ (any_one ?_)))
  ·
   refine any_load 1 (v := .string (bs r)) (range_one (M.r 1 1 rfl rfl)) U99 ?_
   simp only [Z0, Z6]
   refine any_step [3, 8] (by kernel_rfl) rfl (any_two ?_ (any_one ?_))
   ·
    refine any_load 3 (v := .string (bs r)) (range_one (M.r 1 1 rfl rfl)) U99 ?_
    simp only [Z0, Z6]
    refine aF 4 (v := .int .i64 r.length) (hv := by exact yl_lenS rfl rfl rfl U99) ?_
    simp only [Z0, Z6]
    refine aF 5 (v := .int .i64 (min r.length 40 : Nat)) (hv := by exact yl_min (n := r.length) (m := 40) rfl rfl rfl) ?_
    simp only [Z0, Z6]
    refine aF 6 (v := .string (bs (cut r 40))) (hv := by exact yl_cut (l := r) (m := 40) rfl rfl rfl U99) ?_
    simp only [Z0, Z6]
    refine any_step [8] (by kernel_rfl) rfl (any_one ?_)
    refine any_load 8 (v := .string (bs g)) (range_one (M.r 1 3 rfl rfl)) U99 ?_
    simp only [Z0, Z6]
    refine aF 13 (v := .string (bs (cut g 70))) (hv := by exact yl_cut (l := g) (m := 70) rfl rfl rfl U99) ?_
    simp only [Z0, Z6]
    exact any_listed (by kernel_rfl) HK
   refine any_load 8 (v := .string (bs g)) (range_one (M.r 1 3 rfl rfl)) U99 ?_
   simp only [Z0, Z6]
   refine aF 13 (v := .string (bs (cut g 70))) (hv := by exact yl_cut (l := g) (m := 70) rfl rfl rfl U99) ?_
   simp only [Z0, Z6]
   refine any_step [3] (by kernel_rfl) rfl (any_one ?_)
   refine any_load 3 (v := .string (bs r)) (range_one (M.r 1 1 rfl rfl)) U99 ?_
   simp only [Z0, Z6]
   refine aF 4 (v := .int .i64 r.length) (hv := by exact yl_lenS rfl rfl rfl U99) ?_
   simp only [Z0, Z6]
   refine aF 5 (v := .int .i64 (min r.length 40 : Nat)) (hv := by exact yl_min (n := r.length) (m := 40) rfl rfl rfl) ?_
   simp only [Z0, Z6]
   refine aF 6 (v := .string (bs (cut r 40))) (hv := by exact yl_cut (l := r) (m := 40) rfl rfl rfl U99) ?_
   simp only [Z0, Z6]
   exact any_listed (by kernel_rfl) HK
  ·
   refine any_load 3 (v := .string (bs r)) (range_one (M.r 1 1 rfl rfl)) U99 ?_
   simp only [Z0, Z6]
   refine aF 4 (v := .int .i64 r.length) (hv := by exact yl_lenS rfl rfl rfl U99) ?_
   simp only [Z0, Z6]
   refine aF 5 (v := .int .i64 (min r.length 40 : Nat)) (hv := by exact yl_min (n := r.length) (m := 40) rfl rfl rfl) ?_
   simp only [Z0, Z6]
   refine any_step [1, 8] (by kernel_rfl) rfl (any_two ?_ (any_one ?_))
   ·
    refine any_load 1 (v := .string (bs r)) (range_one (M.r 1 1 rfl rfl)) U99 ?_
    simp only [Z0, Z6]
    refine aF 6 (v := .string (bs (cut r 40))) (hv := by exact yl_cut (l := r) (m := 40) rfl rfl rfl U99) ?_
    simp only [Z0, Z6]
    refine any_step [8] (by kernel_rfl) rfl (any_one ?_)
    refine any_load 8 (v := .string (bs g)) (range_one (M.r 1 3 rfl rfl)) U99 ?_
    simp only [Z0, Z6]
    refine aF 13 (v := .string (bs (cut g 70))) (hv := by exact yl_cut (l := g) (m := 70) rfl rfl rfl U99) ?_
    simp only [Z0, Z6]
    exact any_listed (by kernel_rfl) HK
   refine any_load 8 (v := .string (bs g)) (range_one (M.r 1 3 rfl rfl)) U99 ?_
   simp only [Z0, Z6]
   refine aF 13 (v := .string (bs (cut g 70))) (hv := by exact yl_cut (l := g) (m := 70) rfl rfl rfl U99) ?_
   simp only [Z0, Z6]
   refine any_step [1] (by kernel_rfl) rfl (any_one ?_)
   refine any_load 1 (v := .string (bs r)) (range_one (M.r 1 1 rfl rfl)) U99 ?_
   simp only [Z0, Z6]
   refine aF 6 (v := .string (bs (cut r 40))) (hv := by exact yl_cut (l := r) (m := 40) rfl rfl rfl U99) ?_
   simp only [Z0, Z6]
   exact any_listed (by kernel_rfl) HK
  refine any_load 8 (v := .string (bs g)) (range_one (M.r 1 3 rfl rfl)) U99 ?_
  simp only [Z0, Z6]
  refine aF 13 (v := .string (bs (cut g 70))) (hv := by exact yl_cut (l := g) (m := 70) rfl rfl rfl U99) ?_
  simp only [Z0, Z6]
  refine any_step [1, 3] (by kernel_rfl) rfl (any_two ?_ (any_one ?_))
  ·
   refine any_load 1 (v := .string (bs r)) (range_one (M.r 1 1 rfl rfl)) U99 ?_
   simp only [Z0, Z6]
   refine any_step [3] (by kernel_rfl) rfl (any_one ?_)
   refine any_load 3 (v := .string (bs r)) (range_one (M.r 1 1 rfl rfl)) U99 ?_
   simp only [Z0, Z6]
   refine aF 4 (v := .int .i64 r.length) (hv := by exact yl_lenS rfl rfl rfl U99) ?_
   simp only [Z0, Z6]
   refine aF 5 (v := .int .i64 (min r.length 40 : Nat)) (hv := by exact yl_min (n := r.length) (m := 40) rfl rfl rfl) ?_
   simp only [Z0, Z6]
   refine aF 6 (v := .string (bs (cut r 40))) (hv := by exact yl_cut (l := r) (m := 40) rfl rfl rfl U99) ?_
   simp only [Z0, Z6]
   exact any_listed (by kernel_rfl) HK
  refine any_load 3 (v := .string (bs r)) (range_one (M.r 1 1 rfl rfl)) U99 ?_
  simp only [Z0, Z6]
  refine aF 4 (v := .int .i64 r.length) (hv := by exact yl_lenS rfl rfl rfl U99) ?_
  simp only [Z0, Z6]
  refine aF 5 (v := .int .i64 (min r.length 40 : Nat)) (hv := by exact yl_min (n := r.length) (m := 40) rfl rfl rfl) ?_
  simp only [Z0, Z6]
  refine any_step [1] (by kernel_rfl) rfl (any_one ?_)
  refine any_load 1 (v := .string (bs r)) (range_one (M.r 1 1 rfl rfl)) U99 ?_
  simp only [Z0, Z6]
  refine aF 6 (v := .string (bs (cut r 40))) (hv := by exact yl_cut (l := r) (m := 40) rfl rfl rfl U99) ?_
  simp only [Z0, Z6]
  exact any_listed (by kernel_rfl) HK
 refine aF 14 (v := .pointer (some ⟨g3, 1, none⟩)) (hv := fun W => by (go_simp; exact rfl)) ?_
 simp only [Z0, Z6]
 refine any_step [15] (by kernel_rfl) rfl (any_one ?_)
 refine any_opL 15 (by rfl) ?_
 simp only [Z7, Z8]
 refine sT1 1 1 fun w10 M => ?_
 refine Z14 (Z22 ?_)
 refine aF 16 (v := .pointer (some ⟨g3, 3, none⟩)) (hv := fun W => by (go_simp; exact rfl)) ?_
 simp only [Z0, Z6]
 refine any_step [17] (by kernel_rfl) rfl (any_one ?_)
 refine any_opL 17 (by rfl) ?_
 simp only [Z7, Z8]
 refine sT1 1 3 fun w11 M => ?_
 refine Z14 (Z22 ?_)
 refine any_end (by kernel_rfl) (Z15 ?_)
 refine k7 _ _ ?_
 refine qS fun _ k12 => ?_
 refine cM 1 fun Lk hLk => ?_
 refine vP (pvLf (cs := [.int .i64 z] ++ [.string (bs (cut r 40))] ++ [.int .i64 t] ++ [.string (bs (cut g 70))]) (range_join (range_join (range_join (M.r 1 0 rfl rfl) (M.r 1 1 rfl rfl) (by simp [flen])) (M.r 1 2 rfl rfl) (by simp [flen])) (M.r 1 3 rfl rfl) (by simp [flen])) (M.lt 1 rfl)) ?_
 refine hLk _ fun w14 M => ?_
 refine sTs (segs' := [(0, [.int .i64 z]), (1, [.string (bs (cut r 40))]), (2, [.int .i64 t]), (3, [.string (bs (cut g 70))])]) 0 fun w15 M => ?_
 refine lZ k12 ?_; refine rt ?_
 refine bodyPost_ret (v := .agg ([.int .i64 z] ++ [.string (bs (cut r 40))] ++ [.int .i64 t] ++ [.string (bs (cut g 70))] : List Value).toArray) (res1 rfl (.cell (by rfl) (run_loadVar_mid _ _ _ _ ([.int .i64 z] ++ [.string (bs (cut r 40))] ++ [.int .i64 t] ++ [.string (bs (cut g 70))]) _ (range_join (range_join (range_join (M.r 0 0 rfl rfl) (M.r 0 1 rfl rfl) (by simp [flen])) (M.r 0 2 rfl rfl) (by simp [flen])) (M.r 0 3 rfl rfl) (by simp [flen])) U933 rfl info33))) rfl ?_
 exact ⟨rfl, M.below⟩
set_option maxHeartbeats 1000000 in
theorem leaf_c {d : List UInt8} {w : World} (hd : d.length ≤ 9223372036854775744) (L1 : 1 < w.heap.size) (R1_0 : w.rangeAt 1 0 kcells) :
  Calls Tryd.prog 62 #[.string (bs d)] w fun e w' => e = .returned (.string (bs (leafS d))) ∧ Below w.heap.size w w' := by
 go_enter Tryd.func62, Tryd.ntmps62
 have M := Mem.start w
 refine qS fun _ k1 => ?_
 refine lg ?_; refine lZ k1 ?_
 refine qS fun _ k3 => ?_
 refine lM ?_
 refine wpL_rowN (vs := [.string (bs ([0])), .string (bs d)]) (z := .string { data := #[] }) (bytes := 16) (by rfl) (by rfl) U937 (by kernel_rfl) (by decide) (by kernel_rfl) (fun g5 w6 Sw6 Hg5 Bg5 => ?_)
 replace M := ((M.sees Sw6).add (N := 2) (cs := [.string (bs ([0])), .string (bs d)]) (M.ge Hg5) (M.fresh Hg5) Bg5 rfl)
 clear Bg5
 simp only [Z0, Z6]
 refine cM 1 fun Lk hLk => ?_
 refine vCh (v := .string (bs (leafS d))) (args := #[.slice (some ⟨g5, 0, none⟩) 2 2]) (fun W hW => (by have h := sum_c (ps := [[0], d]) (w := W) (by simp) (getD_le2 (by decide) hd) ((M.sees hW).oldL L1) ((M.sees hW).oldR R1_0 L1) (Nat.le_refl _) ((M.sees hW).lt 0 rfl) ((M.sees hW).r 0 0 rfl rfl); rw [flat2] at h; exact h)) ?_
 refine hLk _ fun w7 M => ?_
 refine lg ?_; refine lZ k3 ?_; refine rt1 ?_
 exact ⟨rfl, M.below⟩
set_option maxHeartbeats 1000000 in
theorem seed10_c  {w : World}  :
  Calls Tryd.prog 61 #[] w fun e w' => e = .returned (.string (bs seedL)) ∧ Below w.heap.size w w' := by
 go_enter Tryd.func61, Tryd.ntmps61
 have M := Mem.start w
 refine qS fun _ k1 => ?_
 refine lg ?_; refine lZ k1 ?_
 refine qS fun _ k3 => ?_
 refine lg ?_; refine lZ k3 ?_; refine rt1 ?_
 exact ⟨rfl, M.below⟩
set_option maxHeartbeats 2000000 in
theorem alive10_c  {w : World} (L1 : 1 < w.heap.size) (R1_0 : w.rangeAt 1 0 kcells) (L2 : 2 < w.heap.size) (R2_0 : w.rangeAt 2 0 kcellsq) :
  Calls Tryd.prog 22 #[] w fun e w' => e = .returned (.bool true) ∧ Below w.heap.size w w' := by
 go_enter Tryd.func22, Tryd.ntmps22
 have M := Mem.start w
 refine qS fun _ k1 => ?_
 refine lg ?_; refine lZ k1 ?_
 refine qS fun _ k3 => ?_
 refine cM 6 fun Lk hLk => ?_
 refine vC (fun W => seed10_c) ?_
 refine vCh (v := .string (bs (leafS []))) (fun W hW => (leaf_c (d := []) (by decide) ((M.sees hW).oldL L1) ((M.sees hW).oldR R1_0 L1))) ?_
 refine vCh (v := .tuple #[.agg ([.int .i64 0, .string (bs (leafS [])), .int .i64 5, .string (bs (edS seedL (sgnL 0 5 (leafS []))))]).toArray, .int .i64 0]) (fun W hW => (hSign_ok (a := 0) (b := 5) (by decide) (by decide) (leafS_len _) (by decide) ((M.sees hW).oldL L2) ((M.sees hW).oldR R2_0 L2))) ?_
 refine vM ?_; refine vE ?_; refine vE ?_
 refine hLk _ fun w5 M => ?_
 refine nV 4 fun g6 w7 M => ?_
 refine sTs (segs' := [(0, [.int .i64 0]), (1, [.string (bs (leafS []))]), (2, [.int .i64 5]), (3, [.string (bs (edS seedL (sgnL 0 5 (leafS []))))])]) 0 fun w8 M => ?_
 refine lg ?_; refine lZ k3 ?_
 refine qS fun _ k9 => ?_
 refine lM ?_
 refine cM 10 fun Lk hLk => ?_
 refine vB (v := .bool true) (hr := run_eql _ _ _ _) ?_
 refine vM ?_
 refine vP (pvLf (cs := [.int .i64 0] ++ [.string (bs (leafS []))] ++ [.int .i64 5] ++ [.string (bs (edS seedL (sgnL 0 5 (leafS []))))]) (range_join (range_join (range_join (M.r 0 0 rfl rfl) (M.r 0 1 rfl rfl) (by simp [flen])) (M.r 0 2 rfl rfl) (by simp [flen])) (M.r 0 3 rfl rfl) (by simp [flen])) (M.lt 0 rfl)) ?_
 refine vC (v := .bool true) (args := #[.agg ([.int .i64 0] ++ [.string (bs (leafS []))] ++ [.int .i64 5] ++ [.string (bs (edS seedL (sgnL 0 5 (leafS []))))] : List Value).toArray]) (fun W => (by have h9 := hright_c (z := 0) (r := leafS []) (t := 5) (g := edS seedL (sgnL 0 5 (leafS []))) (w := W); rw [show rightH 0 (leafS []) 5 (edS seedL (sgnL 0 5 (leafS []))) = true from rightH_of (a := 0) (b := 5) (by decide) (by decide) (leafS_len _) (edS_len _ _)] at h9; exact h9)) ?_
 refine vK ?_; refine vM ?_; refine vF ?_; refine vc ?_
 refine vB (v := .bool true) (hr := run_eql _ _ _ _) ?_
 refine vK ?_
 refine hLk _ fun w11 M => ?_
 refine lg ?_; refine lZ k9 ?_; refine rt1 ?_
 exact ⟨rfl, M.below⟩
end Go.Proofs.Yc

