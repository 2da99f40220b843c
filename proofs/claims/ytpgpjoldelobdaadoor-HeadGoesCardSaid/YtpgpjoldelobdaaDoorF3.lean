/- Sizes of the program's types. -/
import Derived.Test.YtpgpjoldelobdaaDoorProg
import Derived.Test.YtpgpjoldelobdaaDoorMac
import Derived.Test.YtpgpjoldelobdaaDoorSteps8
import Derived.WalkKit
import Derived.WalkSpells
import Derived.Laws.Pointers
import Derived.RowKit3
import Derived.Below
import Derived.Outline
import Derived.Shelf.Spec.BitsCarry
import Derived.LoopN
import Derived.Lib.Hide
import Derived.Handy
import Derived.Shelf.Bits.Mul64
import Derived.Test.YtpgpjoldelobdaaDoorShq
set_option linter.unusedSimpArgs false
set_option linter.unusedVariables false
namespace Go.Proofs.Yc
open Go Go.RowKit Go.Proofs.Num

instance : CellT Tryd.prog 3 := ⟨by kernel_rfl⟩
instance : CellT Tryd.prog 5 := ⟨by kernel_rfl⟩
instance : CellT Tryd.prog 9 := ⟨by kernel_rfl⟩
instance : RowT Tryd.prog 33 4 := ⟨by kernel_rfl⟩
instance : CellT Tryd.prog 40 := ⟨by kernel_rfl⟩
instance : RowT Tryd.prog 80 4 := ⟨by kernel_rfl⟩
instance : RowT Tryd.prog 86 4 := ⟨by kernel_rfl⟩
instance : RowT Tryd.prog 88 16 := ⟨by kernel_rfl⟩
instance : RowT Tryd.prog 129 8 := ⟨by kernel_rfl⟩
instance : CellT Tryd.prog 147 := ⟨by kernel_rfl⟩
instance : RowT Tryd.prog 152 8 := ⟨by kernel_rfl⟩
instance : RowT Tryd.prog 154 10 := ⟨by kernel_rfl⟩
instance : RowT Tryd.prog 171 10 := ⟨by kernel_rfl⟩
instance : RowT Tryd.prog 196 64 := ⟨by kernel_rfl⟩
instance : RowT Tryd.prog 201 80 := ⟨by kernel_rfl⟩
end Go.Proofs.Yc

namespace Go.Proofs.Ya
open Go Go.RowKit Go.Shelf Go.Proofs.Num

theorem add64 {x y c : Int} (hx : Wd x) (hy : Wd y) (hc : 0 ≤ c ∧ c ≤ 1) (w : World) : (callFunc 85 #[.int .u64 x, .int .u64 y, .int .u64 c]).run Tryd.prog w =
  .ok (.value (.tuple #[.int .u64 (ad x y c), .int .u64 (ac x y c)])) w := by
 obtain ⟨x, rfl⟩ := Int.eq_ofNat_of_zero_le hx.1
 obtain ⟨y, rfl⟩ := Int.eq_ofNat_of_zero_le hy.1
 obtain ⟨c, rfl⟩ := Int.eq_ofNat_of_zero_le hc.1
 rw [run_callFunc_extern (fn := Tryd.f85) Tryd.func85 (by kernel_rfl) (by kernel_rfl) (by kernel_rfl) (e := add64Entry) (by kernel_rfl), run_add64 x y c (by omega) (by omega) (by omega) (by omega)]
 rfl
theorem sub64 {x y b : Int} (hx : Wd x) (hy : Wd y) (hb : 0 ≤ b ∧ b ≤ 1) (w : World) : (callFunc 149 #[.int .u64 x, .int .u64 y, .int .u64 b]).run Tryd.prog w =
  .ok (.value (.tuple #[.int .u64 (sd x y b), .int .u64 (sb x y b)])) w := by
 have hy' := hy.2
 obtain ⟨x, rfl⟩ := Int.eq_ofNat_of_zero_le hx.1
 obtain ⟨y, rfl⟩ := Int.eq_ofNat_of_zero_le hy.1
 obtain ⟨b, rfl⟩ := Int.eq_ofNat_of_zero_le hb.1
 have e1 : (((x + 18446744073709551616 - y - b) % 18446744073709551616 : Nat) : Int) = sd x y b := by unfold sd; omega
 have e2 : ((if x < y + b then 1 else 0 : Nat) : Int) = sb x y b := by unfold sb; split <;> split <;> omega
 rw [← e1, ← e2]
 rw [run_callFunc_extern (fn := Tryd.f149) Tryd.func149 (by kernel_rfl) (by kernel_rfl) (by kernel_rfl) (e := sub64Entry) (by kernel_rfl), run_sub64 x y b (by omega)]
 rfl
set_option maxHeartbeats 400000 in
theorem sminus_c {x y : Nat} (hx : x < 2 ^ 256) (hy : y < 2 ^ 256) (w : World) :
  Calls Tryd.prog 125 #[fe x, fe y] w fun e w' => e = .returned (.tuple #[fe (subW x y), .int .u64 (subB x y)]) ∧ Below w.heap.size w w' := by
 rw [fe_lit x, fe_lit y]
 obtain ⟨c1, c2⟩ := sub_chain x y hx hy
 have H1 := Lib.hid c1
 have H2 := Lib.hid c2
 clear c1 c2
 go_enter Tryd.func125, Tryd.ntmps125
 have h0 := sub64 (limb_wd x 0) (limb_wd y 0) (b := 0) ⟨by omega, by omega⟩
 have h1 := sub64 (limb_wd x 1) (limb_wd y 1) (sb_01 (limb x 0) (limb y 0) 0)
 have h2 := sub64 (limb_wd x 2) (limb_wd y 2) (sb_01 (limb x 1) (limb y 1) (sb (limb x 0) (limb y 0) 0))
 have h3 := sub64 (limb_wd x 3) (limb_wd y 3) (sb_01 (limb x 2) (limb y 2) (sb (limb x 1) (limb y 1) (sb (limb x 0) (limb y 0) 0)))
 
 go_wp2
 refine wp_loop_rounds 5 ?_
 iterate 4
  rw [rounds_succ]
  go_wp2
  go_region
  go_wp2
 rw [rounds_succ]
 go_wp2
 refine bodyPost_ret (v := .tuple #[fe (subW x y), .int .u64 (subB x y)]) ?_ rfl ⟨rfl, ?_⟩
 ·
  have e1 : fe (subW x y) = _ := H1.out.symm
  have e2 : (subB x y) = _ := H2.out.symm
  rw [e1, e2]
  simp [results, Tryd.results125, go_sem]
 go_grown
set_option maxHeartbeats 400000 in
theorem minus_c {x y : Nat} (hx : x < 2 ^ 256) (hy : y < 2 ^ 256) (w : World) :
  Calls Tryd.prog 131 #[fe x, fe y] w fun e w' => e = .returned (.tuple #[fe (subW x y), .int .u64 (subB x y)]) ∧ Below w.heap.size w w' := by
 rw [fe_lit x, fe_lit y]
 obtain ⟨c1, c2⟩ := sub_chain x y hx hy
 have H1 := Lib.hid c1
 have H2 := Lib.hid c2
 clear c1 c2
 go_enter Tryd.func131, Tryd.ntmps131
 have h0 := sub64 (limb_wd x 0) (limb_wd y 0) (b := 0) ⟨by omega, by omega⟩
 have h1 := sub64 (limb_wd x 1) (limb_wd y 1) (sb_01 (limb x 0) (limb y 0) 0)
 have h2 := sub64 (limb_wd x 2) (limb_wd y 2) (sb_01 (limb x 1) (limb y 1) (sb (limb x 0) (limb y 0) 0))
 have h3 := sub64 (limb_wd x 3) (limb_wd y 3) (sb_01 (limb x 2) (limb y 2) (sb (limb x 1) (limb y 1) (sb (limb x 0) (limb y 0) 0)))
 
 go_wp2
 refine wp_loop_rounds 5 ?_
 iterate 4
  rw [rounds_succ]
  go_wp2
  go_region
  go_wp2
 rw [rounds_succ]
 go_wp2
 refine bodyPost_ret (v := .tuple #[fe (subW x y), .int .u64 (subB x y)]) ?_ rfl ⟨rfl, ?_⟩
 ·
  have e1 : fe (subW x y) = _ := H1.out.symm
  have e2 : (subB x y) = _ := H2.out.symm
  rw [e1, e2]
  simp [results, Tryd.results131, go_sem]
 go_grown
set_option maxHeartbeats 400000 in
theorem plus_c {x y : Nat} (hx : x < 2 ^ 256) (hy : y < 2 ^ 256) (w : World) :
  Calls Tryd.prog 150 #[fe x, fe y] w fun e w' => e = .returned (.tuple #[fe (addW x y), .int .u64 (addC x y : Nat)]) ∧ Below w.heap.size w w' := by
 rw [fe_lit x, fe_lit y]
 obtain ⟨c1, c2⟩ := add_chain x y hx hy
 have H1 := Lib.hid c1
 have H2 := Lib.hid c2
 clear c1 c2
 go_enter Tryd.func150, Tryd.ntmps150
 have k0 := ac_01 (limb_wd x 0) (limb_wd y 0) (c := 0) ⟨by omega, by omega⟩
 have k1 := ac_01 (limb_wd x 1) (limb_wd y 1) k0
 have k2 := ac_01 (limb_wd x 2) (limb_wd y 2) k1
 have h0 := add64 (limb_wd x 0) (limb_wd y 0) (c := 0) ⟨by omega, by omega⟩
 have h1 := add64 (limb_wd x 1) (limb_wd y 1) k0
 have h2 := add64 (limb_wd x 2) (limb_wd y 2) k1
 have h3 := add64 (limb_wd x 3) (limb_wd y 3) k2
 clear k0 k1 k2
 go_wp2
 refine wp_loop_rounds 5 ?_
 iterate 4
  rw [rounds_succ]
  go_wp2
  go_region
  go_wp2
 rw [rounds_succ]
 go_wp2
 refine bodyPost_ret (v := .tuple #[fe (addW x y), .int .u64 (addC x y : Nat)]) ?_ rfl ⟨rfl, ?_⟩
 ·
  have e1 : fe (addW x y) = _ := H1.out.symm
  have e2 : ((addC x y : Nat) : Int) = _ := H2.out.symm
  rw [e1, e2]
  simp [results, Tryd.results150, go_sem]
 go_grown
theorem order_c (w : World) : Calls Tryd.prog 126 #[] w fun e w' => e = .returned (fe ordL) ∧ Below w.heap.size w w' := by
 have hl : fe ordL = .agg #[.int .u64 6346243789798364141, .int .u64 1503914060200516822, .int .u64 0, .int .u64 1152921504606846976] := by kernel_rfl
 rw [hl]
 go_enter Tryd.func126, Tryd.ntmps126
 go_wp2
 go_returns
 exact ⟨rfl, by go_grown⟩
theorem prime_c (w : World) : Calls Tryd.prog 132 #[] w fun e w' => e = .returned (fe pF) ∧ Below w.heap.size w w' := by
 have hl : fe pF = .agg #[.int .u64 18446744073709551597, .int .u64 18446744073709551615, .int .u64 18446744073709551615, .int .u64 9223372036854775807] := by kernel_rfl
 rw [hl]
 go_enter Tryd.func132, Tryd.ntmps132
 go_wp2
 go_returns
 exact ⟨rfl, by go_grown⟩
set_option maxHeartbeats 1000000 in
theorem mul64_c {x y : Nat} (hx : x < 18446744073709551616) (hy : y < 18446744073709551616) (w : World) :
  Calls Tryd.prog 87 #[.int .u64 (x : Nat), .int .u64 (y : Nat)] w fun e w' => e = .returned (.tuple #[.int .u64 (x * y / 18446744073709551616 : Nat), .int .u64 (x * y % 18446744073709551616 : Nat)]) ∧ Below w.heap.size w w' := by
 obtain ⟨bd, bt, bw, hhi⟩ := Lib.mul64_hi x y hx hy
 have ba := Lib.half_mul_le (a := x / 4294967296) (b := y / 4294967296) (by omega) (by omega)
 have bb := Lib.half_mul_le (a := x / 4294967296) (b := y % 4294967296) (by omega) (by omega)
 have bc := Lib.half_mul_le (a := x % 4294967296) (b := y / 4294967296) (by omega) (by omega)
 have ba' : x / 4294967296 * (y / 4294967296) < 18446744073709551616 := by omega
 have bb' : x / 4294967296 * (y % 4294967296) < 18446744073709551616 := by omega
 have bc' : x % 4294967296 * (y / 4294967296) < 18446744073709551616 := by omega
 have bh1 : x / 4294967296 * (y / 4294967296) + (x / 4294967296 * (y % 4294967296) + x % 4294967296 * (y % 4294967296) / 4294967296) / 4294967296 < 18446744073709551616 := by omega
 have bh : x / 4294967296 * (y / 4294967296) + (x / 4294967296 * (y % 4294967296) + x % 4294967296 * (y % 4294967296) / 4294967296) / 4294967296 + ((x / 4294967296 * (y % 4294967296) + x % 4294967296 * (y % 4294967296) / 4294967296) % 4294967296 + x % 4294967296 * (y / 4294967296)) / 4294967296 < 18446744073709551616 := by omega
 go_enter Tryd.func87, Tryd.ntmps87
 go_wp2
 simp only [Mul64.maskN x hx, Mul64.maskN y hy, Mul64.divN, Mul64.mulN, Mul64.addN, Mul64.wrapN _ bd, Mul64.wrapN _ bb', Mul64.wrapN _ bt, Mul64.maskN _ bt, Mul64.wrapN _ bc', Mul64.wrapN _ bw, Mul64.wrapN _ ba', Mul64.wrapN _ bh1, Mul64.wrapN _ bh, Mul64.wrapM (x * y)]
 rw [hhi]
 go_ret2
 exact ⟨rfl, Below.refl _ _⟩
theorem addN {x y c : Nat} (hx : x < 18446744073709551616) (hy : y < 18446744073709551616) (hc : c ≤ 1) (w : World) : (callFunc 85 #[.int .u64 (x : Nat), .int .u64 (y : Nat), .int .u64 (c : Nat)]).run Tryd.prog w =
  .ok (.value (.tuple #[.int .u64 ((x + y + c) % 18446744073709551616 : Nat), .int .u64 ((x + y + c) / 18446744073709551616 : Nat)])) w := by
 refine (add64 (x := x) (y := y) (c := c) ⟨by omega, by omega⟩ ⟨by omega, by omega⟩ ⟨by omega, by omega⟩ w).trans ?_
 unfold ad ac
 congr 5
end Go.Proofs.Ya

namespace Go.Proofs.Ya
open Go Go.RowKit Go.Shelf Go.Proofs.Num
open Tryd renaming underlying86 → U986
open Go.Proofs.Num renaming wp_region_seq → Z13, wpL_nil → Z14, no_panic → Z15, then_normal → Z22
attribute [local irreducible] wpV wpN wpList
theorem info86 : (Tryd.prog.info? 86).map (·.size) = some 4 := by kernel_rfl
set_option maxHeartbeats 1000000 in
theorem least_c {x : Nat} (hx : x < 2 ^ 256) (w : World) :
  Calls Tryd.prog 127 #[fe x] w fun e w' => e = .returned (fe (leastF x)) ∧ Below w.heap.size w w' := by
 go_enter Tryd.func127, Tryd.ntmps127
 have M := Mem.start w
 refine qS fun _ k1 => ?_
 refine nV 4 fun g3 w4 M => ?_
 refine nV 4 fun g5 w6 M => ?_
 refine lZ k1 ?_
 refine sk fun _ k7 => ?_
 refine qS fun _ k8 => ?_
 refine lM ?_; refine lZ k8 ?_; refine wp_block ?_; refine wp_loop_rounds 3 ?_
 rw [rounds_succ]
 refine qS fun _ k10 => ?_
 refine cM 1 fun Lk hLk => ?_
 refine vB (v := .bool true) (hr := run_lss _ _ _ _) ?_
 refine hLk _ fun w12 M => ?_
 refine lZ k10 ?_
 refine sk fun _ k13 => ?_
 refine cT ?_; refine sZ k13 ?_
 refine sk fun _ k14 => ?_
 refine wp_block ?_
 refine sk fun _ k15 => ?_
 refine rH 7 [5] fun Lk hLk => ?_
 refine vL ?_; refine vC prime_c ?_
 refine vC (minus_c hx pF_lt) ?_
 refine vM ?_; refine vE ?_; refine vE ?_; refine vW ?_; refine hLk _ ?_; refine nA ?_
 refine n1 4 fun g17 w18 M => ?_
 refine sT 0 0 fun w19 M => ?_
 refine lg ?_; refine lZ k15 ?_
 refine qS fun _ k20 => ?_
 refine lM ?_
 refine cM 1 fun Lk hLk => ?_
 refine vB (v := .bool ((subB x pF) == 0)) (hr := run_eql _ _ _ _) ?_
 refine hLk _ fun w22 M => ?_
 refine lZ k20 ?_
 cases hc23 : ((subB x pF) == 0)
 ·
  have qhc23 := subB_f hc23
  refine cF ?_; refine sZ k14 ?_; refine Z13 ?_
  refine cM 1 fun Lk hLk => ?_
  refine vB (v := .int .i64 1) (hr := run_add (by decide)) ?_
  refine hLk _ fun w25 M => ?_
  refine lM ?_
  refine Z14 (Z15 ?_)
  refine Z22 (Q := fun _ _ _ => True) ?_
  rw [rounds_succ]
  refine qS fun _ k26 => ?_
  refine cM 1 fun Lk hLk => ?_
  refine vB (v := .bool true) (hr := run_lss _ _ _ _) ?_
  refine hLk _ fun w28 M => ?_
  refine lZ k26 ?_
  refine sk fun _ k29 => ?_
  refine cT ?_; refine sZ k29 ?_
  refine sk fun _ k30 => ?_
  refine wp_block ?_
  refine sk fun _ k31 => ?_
  refine rH 7 [5] fun Lk hLk => ?_
  refine vL ?_; refine vC prime_c ?_
  refine vC (minus_c hx pF_lt) ?_
  refine vM ?_; refine vE ?_; refine vE ?_; refine vW ?_; refine hLk _ ?_; refine nA ?_
  refine n1 4 fun g33 w34 M => ?_
  refine sT 0 0 fun w35 M => ?_
  refine lg ?_; refine lZ k31 ?_
  refine qS fun _ k36 => ?_
  refine lM ?_
  refine cM 1 fun Lk hLk => ?_
  refine vB (v := .bool false) (hr := fun W => (run_eql _ _ _ _ W).trans (by rw [hc23])) ?_
  refine hLk _ fun w38 M => ?_
  refine lZ k36 ?_; refine cF ?_; refine sZ k30 ?_; refine Z13 ?_
  refine cM 1 fun Lk hLk => ?_
  refine vB (v := .int .i64 2) (hr := run_add (by decide)) ?_
  refine hLk _ fun w40 M => ?_
  refine lM ?_
  refine Z14 (Z15 ?_)
  refine Z22 (Q := fun _ _ _ => True) ?_
  rw [rounds_succ]
  refine qS fun _ k41 => ?_
  refine cM 1 fun Lk hLk => ?_
  refine vB (v := .bool false) (hr := run_lss _ _ _ _) ?_
  refine hLk _ fun w43 M => ?_
  refine lZ k41 ?_
  refine sk fun _ _ => ?_
  refine cF ?_; refine eZ k7 ?_
  refine qS fun _ k45 => ?_
  refine lL ?_
  refine sT 2 0 fun w48 M => ?_
  refine lZ k45 ?_; refine rt ?_
  refine bodyPost_ret (v := fe x) (res1 rfl (.cell (by rfl) (run_loadVar_mid _ _ _ _ (fel x) _ (M.r 2 0 rfl rfl) U986 rfl info86))) rfl ?_
  have BE := M.below
  exact ⟨by (rw [least0 qhc23]; try rfl), BE⟩
 have qhc23 := subB_t hc23
 refine cT ?_; refine Z13 ?_; refine lL ?_
 refine sT 2 0 fun w51 M => ?_
 refine lZ k14 ?_; refine Z13 ?_
 refine cM 1 fun Lk hLk => ?_
 refine vB (v := .int .i64 1) (hr := run_add (by decide)) ?_
 refine hLk _ fun w53 M => ?_
 refine lM ?_
 refine Z14 (Z15 ?_)
 refine Z22 (Q := fun _ _ _ => True) ?_
 rw [rounds_succ]
 refine qS fun _ k54 => ?_
 refine cM 1 fun Lk hLk => ?_
 refine vB (v := .bool true) (hr := run_lss _ _ _ _) ?_
 refine hLk _ fun w56 M => ?_
 refine lZ k54 ?_
 refine sk fun _ k57 => ?_
 refine cT ?_; refine sZ k57 ?_
 refine sk fun _ k58 => ?_
 refine wp_block ?_
 refine sk fun _ k59 => ?_
 refine rH 7 [5] fun Lk hLk => ?_
 refine vL ?_; refine vC prime_c ?_
 refine vC (minus_c (subW_lt ..) pF_lt) ?_
 refine vM ?_; refine vE ?_; refine vE ?_; refine vW ?_; refine hLk _ ?_; refine nA ?_
 refine n1 4 fun g61 w62 M => ?_
 refine sT 0 0 fun w63 M => ?_
 refine lg ?_; refine lZ k59 ?_
 refine qS fun _ k64 => ?_
 refine lM ?_
 refine cM 1 fun Lk hLk => ?_
 refine vB (v := .bool ((subB (subW x pF) pF) == 0)) (hr := run_eql _ _ _ _) ?_
 refine hLk _ fun w66 M => ?_
 refine lZ k64 ?_
 cases hc67 : ((subB (subW x pF) pF) == 0)
 ·
  have qhc67 := subB_f hc67
  refine cF ?_; refine sZ k58 ?_; refine Z13 ?_
  refine cM 1 fun Lk hLk => ?_
  refine vB (v := .int .i64 2) (hr := run_add (by decide)) ?_
  refine hLk _ fun w69 M => ?_
  refine lM ?_
  refine Z14 (Z15 ?_)
  refine Z22 (Q := fun _ _ _ => True) ?_
  rw [rounds_succ]
  refine qS fun _ k70 => ?_
  refine cM 1 fun Lk hLk => ?_
  refine vB (v := .bool false) (hr := run_lss _ _ _ _) ?_
  refine hLk _ fun w72 M => ?_
  refine lZ k70 ?_
  refine sk fun _ _ => ?_
  refine cF ?_; refine eZ k7 ?_
  refine qS fun _ k74 => ?_
  refine lL ?_
  refine sT 2 0 fun w77 M => ?_
  refine lZ k74 ?_; refine rt ?_
  refine bodyPost_ret (v := fe (subW x pF)) (res1 rfl (.cell (by rfl) (run_loadVar_mid _ _ _ _ (fel (subW x pF)) _ (M.r 2 0 rfl rfl) U986 rfl info86))) rfl ?_
  have BE := M.below
  exact ⟨by (rw [(least1 hx qhc23).trans (least0 qhc67)]; try rfl), BE⟩
 have qhc67 := subB_t hc67
 refine cT ?_; refine Z13 ?_; refine lL ?_
 refine sT 3 0 fun w80 M => ?_
 refine lZ k58 ?_; refine Z13 ?_
 refine cM 1 fun Lk hLk => ?_
 refine vB (v := .int .i64 2) (hr := run_add (by decide)) ?_
 refine hLk _ fun w82 M => ?_
 refine lM ?_
 refine Z14 (Z15 ?_)
 refine Z22 (Q := fun _ _ _ => True) ?_
 rw [rounds_succ]
 refine qS fun _ k83 => ?_
 refine cM 1 fun Lk hLk => ?_
 refine vB (v := .bool false) (hr := run_lss _ _ _ _) ?_
 refine hLk _ fun w85 M => ?_
 refine lZ k83 ?_
 refine sk fun _ _ => ?_
 refine cF ?_; refine eZ k7 ?_
 refine qS fun _ k87 => ?_
 refine lL ?_
 refine sT 2 0 fun w90 M => ?_
 refine lZ k87 ?_; refine rt ?_
 refine bodyPost_ret (v := fe (subW (subW x pF) pF)) (res1 rfl (.cell (by rfl) (run_loadVar_mid _ _ _ _ (fel (subW (subW x pF) pF)) _ (M.r 2 0 rfl rfl) U986 rfl info86))) rfl ?_
 have BE := M.below
 exact ⟨by (rw [least2 hx qhc23 qhc67]; try rfl), BE⟩
end Go.Proofs.Ya

namespace Go.Proofs.Ya
open Go Go.RowKit Go.Shelf Go.Proofs.Num
open Tryd renaming underlying129 → U9129, underlying40 → U940, underlying86 → U986
open Go.Proofs.Num  renaming putT → Z0
open Nat renaming zero_add → Z2, mod_eq_of_lt → Z5
open List renaming set → Z6
open Go renaming undef → Z9
open Go.Proofs.Num renaming wp_region_seq → Z13, wpL_nil → Z14, no_panic → Z15
attribute [local irreducible] wpV wpN wpList
theorem info40 : (Tryd.prog.info? 40).map (·.size) = some 1 := by kernel_rfl
set_option maxHeartbeats 1000000 in
theorem wide_c {x : Nat} (hx : x < 2 ^ 256) {y : Nat} (hy : y < 2 ^ 256) (w : World) :
  Calls Tryd.prog 133 #[fe x, fe y] w fun e w' => e = .returned (.tuple #[fe (mulLo x y), fe (mulHi x y)]) ∧ Below w.heap.size w w' := by
 go_enter Tryd.func133, Tryd.ntmps133
 have M := Mem.start w
 refine qS fun _ k1 => ?_
 refine nV 4 fun g3 w4 M => ?_
 refine nV 4 fun g5 w6 M => ?_
 refine nV 4 fun g7 w8 M => ?_
 refine nV 4 fun g9 w10 M => ?_
 refine lZ k1 ?_
 refine qS fun _ k11 => ?_
 refine nV 8 fun g13 w14 M => ?_
 refine lZ k11 ?_
 refine sk fun _ k15 => ?_
 refine qS fun _ k16 => ?_
 refine lL ?_; refine lM ?_; refine lZ k16 ?_; refine wp_block ?_
 replace M := M.read1 (cs := wl 8 0) (o := 0) 0 rfl (by rw [wl_zero]; exact (M.r 0 0 rfl rfl))
 simp only [Z6] at M
 refine wp_loop_ghost (fun n9 a9 W9 => ∃ (i : Nat) (N : Nat) (u19 : Nat → Value), n9 = 4 - i ∧ a9 = { tmps := #[fe x, fe y, .pointer (some ⟨g3, 0, none⟩), .pointer (some ⟨g5, 0, none⟩), .pointer (some ⟨g7, 0, none⟩), .pointer (some ⟨g9, 0, none⟩), .pointer (some ⟨g13, 0, none⟩), u19 7, u19 8, u19 9, u19 10, u19 11, u19 12, u19 13, u19 14, u19 15, u19 16, u19 17, fe x, .int .i64 i, u19 20, u19 21, u19 22, u19 23, u19 24, u19 25, u19 26, u19 27, u19 28, u19 29, u19 30, u19 31, u19 32, u19 33, u19 34, u19 35, u19 36, u19 37, u19 38, u19 39, u19 40, u19 41, u19 42, u19 43, u19 44, u19 45, u19 46, u19 47, u19 48, u19 49, u19 50, u19 51, u19 52, u19 53, u19 54, u19 55, u19 56, u19 57, u19 58, u19 59, u19 60, u19 61, u19 62, u19 63, u19 64, u19 65, Z9, Z9, Z9, Z9, Z9, Z9], defers := [] } ∧ Mem [] w W9 [⟨g13, 8, [(0, wl 8 N)]⟩, ⟨g9, 4, [(0, [.int .u64 0, .int .u64 0, .int .u64 0, .int .u64 0])]⟩, ⟨g7, 4, [(0, [.int .u64 0, .int .u64 0, .int .u64 0, .int .u64 0])]⟩, ⟨g5, 4, [(0, fel y)]⟩, ⟨g3, 4, [(0, fel x)]⟩] ∧ (i ≤ 4) ∧ (N = (x % 2 ^ (64 * i)) * y)) (4 - (0)) ?_ (fun n9 a9 W9 hI => ?_)
 ·
  exact ⟨0, 0, (fun q9 => (#[Z9, Z9, Z9, Z9, Z9, Z9, Z9, Z9, Z9, Z9, Z9, Z9, Z9, Z9, Z9, Z9, Z9, Z9, Z9, Z9, Z9, Z9, Z9, Z9, Z9, Z9, Z9, Z9, Z9, Z9, Z9, Z9, Z9, Z9, Z9, Z9, Z9, Z9, Z9, Z9, Z9, Z9, Z9, Z9, Z9, Z9, Z9, Z9, Z9, Z9, Z9, Z9, Z9, Z9, Z9, Z9, Z9, Z9, Z9, Z9, Z9, Z9, Z9, Z9, Z9, Z9] : Array Value).getD q9 Z9), rfl, rfl, M, (by omega), (by simp [Nat.mod_one])⟩
 clear M
 obtain ⟨i, N, u19, rfl, rfl, M, hi4, HN⟩ := hI
 obtain ⟨w20, rfl⟩ : ∃ W8, W8 = W9 := ⟨_, rfl⟩
 refine qS fun _ k21 => ?_
 refine cM 1 fun Lk hLk => ?_
 refine vB (v := .bool (decide (i < 4))) (hr := run_lssN i 4 _ _) ?_
 refine hLk _ fun w23 M => ?_
 refine lZ k21 ?_
 refine sk fun _ k24 => ?_
 cases hc25 : (decide (i < 4))
 ·
  have ei : i = 4 := by have := of_decide_eq_false hc25; omega
  subst ei
  refine cF ?_; refine eZ k15 ?_
  refine sk fun _ k26 => ?_
  have Rg13_0 := M.r 0 0 rfl rfl
  have Tg13 := M.t 0 rfl
  have Rg7_0 := M.r 2 0 rfl rfl
  have Tg7 := M.t 2 rfl
  have Gg7 : w.heap.size ≤ g7 := by rcases (M.ok _ (mem_of (k := 2) rfl)).own with h | h; exact h; cases h
  have Rg9_0 := M.r 1 0 rfl rfl
  have Tg9 := M.t 1 rfl
  have Gg9 : w.heap.size ≤ g9 := by rcases (M.ok _ (mem_of (k := 1) rfl)).own with h | h; exact h; cases h
  have Ng7_g9 : g7 ≠ g9 := far_of M.far (k := 1) rfl (j := 2) rfl (by decide)
  have BE := M.below
  clear M
  have hN : N = x * y := by rw [HN, Z5 (by simpa using hx)]
  subst hN
  clear HN
  have c0 : w23.cell? ⟨g13, 0, none⟩ = some (.int .u64 (limb (x * y) 0)) := by have := Rg13_0 0 _ (wl_get 8 _ (by decide)); rwa [Z2] at this
  have c1 : w23.cell? ⟨g13, 1, none⟩ = some (.int .u64 (limb (x * y) 1)) := by have := Rg13_0 1 _ (wl_get 8 _ (by decide)); rwa [Z2] at this
  have c2 : w23.cell? ⟨g13, 2, none⟩ = some (.int .u64 (limb (x * y) 2)) := by have := Rg13_0 2 _ (wl_get 8 _ (by decide)); rwa [Z2] at this
  have c3 : w23.cell? ⟨g13, 3, none⟩ = some (.int .u64 (limb (x * y) 3)) := by have := Rg13_0 3 _ (wl_get 8 _ (by decide)); rwa [Z2] at this
  have c4 : w23.cell? ⟨g13, 4, none⟩ = some (.int .u64 (limb (x * y) 4)) := by have := Rg13_0 4 _ (wl_get 8 _ (by decide)); rwa [Z2] at this
  have c5 : w23.cell? ⟨g13, 5, none⟩ = some (.int .u64 (limb (x * y) 5)) := by have := Rg13_0 5 _ (wl_get 8 _ (by decide)); rwa [Z2] at this
  have c6 : w23.cell? ⟨g13, 6, none⟩ = some (.int .u64 (limb (x * y) 6)) := by have := Rg13_0 6 _ (wl_get 8 _ (by decide)); rwa [Z2] at this
  have c7 : w23.cell? ⟨g13, 7, none⟩ = some (.int .u64 (limb (x * y) 7)) := by have := Rg13_0 7 _ (wl_get 8 _ (by decide)); rwa [Z2] at this
  have p0 : w23.cell? ⟨g7, 0, none⟩ = some (.int .u64 0) := by have := Rg7_0 0 _ rfl; rwa [Z2] at this
  have p1 : w23.cell? ⟨g7, 1, none⟩ = some (.int .u64 0) := by have := Rg7_0 1 _ rfl; rwa [Z2] at this
  have p2 : w23.cell? ⟨g7, 2, none⟩ = some (.int .u64 0) := by have := Rg7_0 2 _ rfl; rwa [Z2] at this
  have p3 : w23.cell? ⟨g7, 3, none⟩ = some (.int .u64 0) := by have := Rg7_0 3 _ rfl; rwa [Z2] at this
  have pf : ∀ j, j < 4 → w23.frozen? ⟨g7, j, none⟩ = false := fun j hj => by have := (Tg7 j hj).2; rwa [Z2] at this
  have pf0 := pf 0 (by decide)
  have pf1 := pf 1 (by decide)
  have pf2 := pf 2 (by decide)
  have pf3 := pf 3 (by decide)
  clear pf
  have r0 : w23.cell? ⟨g9, 0, none⟩ = some (.int .u64 0) := by have := Rg9_0 0 _ rfl; rwa [Z2] at this
  have r1 : w23.cell? ⟨g9, 1, none⟩ = some (.int .u64 0) := by have := Rg9_0 1 _ rfl; rwa [Z2] at this
  have r2 : w23.cell? ⟨g9, 2, none⟩ = some (.int .u64 0) := by have := Rg9_0 2 _ rfl; rwa [Z2] at this
  have r3 : w23.cell? ⟨g9, 3, none⟩ = some (.int .u64 0) := by have := Rg9_0 3 _ rfl; rwa [Z2] at this
  have rf : ∀ j, j < 4 → w23.frozen? ⟨g9, j, none⟩ = false := fun j hj => by have := (Tg9 j hj).2; rwa [Z2] at this
  have rf0 := rf 0 (by decide)
  have rf1 := rf 1 (by decide)
  have rf2 := rf 2 (by decide)
  have rf3 := rf 3 (by decide)
  clear rf
  have HT0 := Lib.hid Tg7; have HT1 := Lib.hid Tg9; have HBE := Lib.hid BE; have HN5 := Lib.hid Ng7_g9
  have ha := fun (p : Option Addr) (l c : Nat) (hl : 4 ≤ l) (w : World) => run_arrayAt (P := Tryd.prog) (cap := c) (p := p) U986 hl w
  have ha4 := fun (p : Option Addr) (c : Nat) (w : World) => ha p 4 c (by decide) w
  clear ha
  go_region
  refine k26 _ _ ?_
  refine wp_world (fun W => World.rangeAt W g7 0 (fel (mulLo x y)) ∧ World.rangeAt W g9 0 (fel (mulHi x y)) ∧ Below w.heap.size w W) ?_ ?_
  ·
   unfold mulLo mulHi; rw [fel_lo, fel_hi]
   have X := two_rows (A := [.int .u64 (limb (x * y) 0), .int .u64 (limb (x * y) 1), .int .u64 (limb (x * y) 2), .int .u64 (limb (x * y) 3)]) (C := [.int .u64 (limb (x * y) 4), .int .u64 (limb (x * y) 5), .int .u64 (limb (x * y) 6), .int .u64 (limb (x * y) 7)]) HT0.out HT1.out HN5.out HBE.out Gg7 Gg9
   simp only [World.setCells, Z2, Nat.reduceAdd] at X
   exact X
  clear HT0 HT1 HBE HN5 BE
  rintro w27 ⟨R0, R1, BE⟩
  refine wp_ret ?_
  refine bodyPost_ret (v := .tuple #[fe (mulLo x y), fe (mulHi x y)]) (res2 rfl (.cell (by rfl) (run_loadVar_mid _ _ _ _ (fel (mulLo x y)) _ R0 U986 rfl info86)) (.cell (by rfl) (run_loadVar_mid _ _ _ _ (fel (mulHi x y)) _ R1 U986 rfl info86))) rfl ⟨rfl, BE⟩
 have hi : i < 4 := of_decide_eq_true hc25
 refine cT ?_; refine sZ k24 ?_
 refine sk fun _ k28 => ?_
 refine wp_block ?_
 refine qS fun _ k29 => ?_
 refine lM ?_
 refine cM 1 fun Lk hLk => ?_
 refine wpV_index (n := i) (v := .int .u64 (limbN x i : Nat)) (by rfl) rfl rfl rfl U986 info40 U940 rfl (by omega) (fel_get (j := i) x (by omega)) ?_
 simp only [Z0, Z6]
 refine hLk _ fun w31 M => ?_
 refine lg ?_; refine lg ?_; refine lZ k29 ?_
 refine qS fun _ k32 => ?_
 refine lg ?_; refine lZ k32 ?_
 refine sk fun _ k34 => ?_
 refine qS fun _ k35 => ?_
 refine lL ?_; refine lM ?_; refine lZ k35 ?_; refine wp_block ?_
 refine wp_loop_ghost (fun n9 a9 W9 => ∃ (k : Nat) (Z : Nat) (c : Nat) (u38 : Nat → Value), n9 = 4 - k ∧ a9 = { tmps := #[fe x, fe y, .pointer (some ⟨g3, 0, none⟩), .pointer (some ⟨g5, 0, none⟩), .pointer (some ⟨g7, 0, none⟩), .pointer (some ⟨g9, 0, none⟩), .pointer (some ⟨g13, 0, none⟩), .int .i64 i, .int .u64 (limbN x i : Nat), .int .u64 c, u38 10, u38 11, u38 12, u38 13, u38 14, u38 15, u38 16, u38 17, fe x, .int .i64 i, .bool true, .int .i64 i, .int .u64 (limbN x i : Nat), fe y, .int .i64 k, u38 25, u38 26, u38 27, u38 28, u38 29, u38 30, u38 31, u38 32, u38 33, u38 34, u38 35, u38 36, u38 37, u38 38, u38 39, u38 40, u38 41, u38 42, u38 43, u38 44, u38 45, u38 46, u38 47, u38 48, u38 49, u38 50, u38 51, u38 52, u38 53, u38 54, u38 55, u38 56, u38 57, u38 58, u38 59, u38 60, u19 61, u19 62, u19 63, u19 64, u19 65, Z9, Z9, Z9, Z9, Z9, Z9], defers := [] } ∧ Mem [] w W9 [⟨g13, 8, [(0, wl 8 Z)]⟩, ⟨g9, 4, [(0, [.int .u64 0, .int .u64 0, .int .u64 0, .int .u64 0])]⟩, ⟨g7, 4, [(0, [.int .u64 0, .int .u64 0, .int .u64 0, .int .u64 0])]⟩, ⟨g5, 4, [(0, fel y)]⟩, ⟨g3, 4, [(0, fel x)]⟩] ∧ (k ≤ 4) ∧ (WideInv x y i k Z c)) (4 - (0)) ?_ (fun n9 a9 W9 hI => ?_)
 ·
  exact ⟨0, N, 0, (fun q9 => (#[Z9, Z9, Z9, Z9, Z9, Z9, Z9, Z9, Z9, Z9, u19 10, u19 11, u19 12, u19 13, u19 14, u19 15, u19 16, u19 17, Z9, Z9, Z9, Z9, Z9, Z9, Z9, u19 25, u19 26, u19 27, u19 28, u19 29, u19 30, u19 31, u19 32, u19 33, u19 34, u19 35, u19 36, u19 37, u19 38, u19 39, u19 40, u19 41, u19 42, u19 43, u19 44, u19 45, u19 46, u19 47, u19 48, u19 49, u19 50, u19 51, u19 52, u19 53, u19 54, u19 55, u19 56, u19 57, u19 58, u19 59, u19 60] : Array Value).getD q9 Z9), rfl, rfl, M, (by omega), (wide_start HN hy)⟩
 clear M
 obtain ⟨k, Z, c, u38, rfl, rfl, M, hk4, HW⟩ := hI
 obtain ⟨w39, rfl⟩ : ∃ W8, W8 = W9 := ⟨_, rfl⟩
 have hcw := HW.word
 refine qS fun _ k40 => ?_
 refine cM 1 fun Lk hLk => ?_
 refine vB (v := .bool (decide (k < 4))) (hr := run_lssN k 4 _ _) ?_
 refine hLk _ fun w42 M => ?_
 refine lZ k40 ?_
 refine sk fun _ k43 => ?_
 cases hc44 : (decide (k < 4))
 ·
  have ek : k = 4 := by have := of_decide_eq_false hc44; omega
  subst ek
  refine cF ?_; refine eZ k34 ?_; refine Z13 ?_; refine lM ?_
  refine cM 3 fun Lk hLk => ?_
  refine vB (v := .int .i64 (i + 4 : Nat)) (hr := run_add (by simp only [IntKind.wrap_i64]; omega)) ?_
  refine vM ?_
  refine wpV_idx (n := i + 4) (by rfl) rfl rfl rfl U9129 info40 (by omega) ?_
  simp only [Z2]
  simp only [Z0, Z6]
  refine hLk _ fun w46 M => ?_
  refine lS1 (g := g13) (off := i + 4) (n := 8) (v := .int .u64 c) (M.t 0 rfl) (by omega) info40 rfl (fun w47 P R T => ?_)
  replace M := M.put1 (j := i + 4) 0 rfl P R T (Z2 _).symm
  simp only [Z6] at M
  rw [wl_set (wideN_eq hy HW) HW.word] at M
  refine lZ k28 ?_; refine Z13 ?_
  refine cM 1 fun Lk hLk => ?_
  refine vB (v := .int .i64 (i + 1 : Nat)) (hr := run_add (by simp only [IntKind.wrap_i64]; omega)) ?_
  refine hLk _ fun w49 M => ?_
  refine lM ?_
  refine Z14 (Z15 ?_)
  refine Exists.intro _ ⟨?_, (i + 1), (wideN Z i c), (fun q9 => (#[Z9, Z9, Z9, Z9, Z9, Z9, Z9, .int .i64 i, .int .u64 (limbN x i : Nat), .int .u64 c, u38 10, u38 11, u38 12, u38 13, u38 14, u38 15, u38 16, u38 17, Z9, Z9, .bool true, .int .i64 i, .int .u64 (limbN x i : Nat), fe y, .int .i64 (4 : Nat), .bool false, u38 26, u38 27, u38 28, u38 29, u38 30, u38 31, u38 32, u38 33, u38 34, u38 35, u38 36, u38 37, u38 38, u38 39, u38 40, u38 41, u38 42, u38 43, u38 44, u38 45, u38 46, u38 47, u38 48, u38 49, u38 50, u38 51, u38 52, u38 53, u38 54, u38 55, u38 56, u38 57, u38 58, u38 59, u38 60, .int .i64 i, .int .i64 (i + 4 : Nat), .int .u64 c, .pointer (some ⟨g13, i + 4, none⟩), .int .i64 (i + 1 : Nat)] : Array Value).getD q9 Z9), rfl, rfl, M, (by omega), (wide_end hy HW).1⟩
  omega
 have hk : k < 4 := of_decide_eq_true hc44
 refine cT ?_; refine sZ k43 ?_
 refine sk fun _ k50 => ?_
 refine wp_block ?_
 refine qS fun _ k51 => ?_
 refine lM ?_
 refine cM 1 fun Lk hLk => ?_
 refine wpV_index (n := k) (v := .int .u64 (limbN y k : Nat)) (by rfl) rfl rfl rfl U986 info40 U940 rfl (by omega) (fel_get (j := k) y (by omega)) ?_
 simp only [Z0, Z6]
 refine hLk _ fun w53 M => ?_
 refine lg ?_; refine lg ?_; refine lZ k51 ?_
 refine qS fun _ k54 => ?_
 refine lM ?_; refine lM ?_
 refine cM 4 fun Lk hLk => ?_
 refine vC (mul64_c (limbN_lt _ _) (limbN_lt _ _)) ?_
 refine vM ?_; refine vE ?_; refine vE ?_
 refine hLk _ fun w56 M => ?_
 refine lg ?_; refine lg ?_; refine lZ k54 ?_
 refine qS fun _ k57 => ?_
 refine lM ?_; refine lM ?_; refine lM ?_
 refine cM 7 fun Lk hLk => ?_
 refine vB (v := .int .i64 (i + k : Nat)) (hr := run_add (by simp only [IntKind.wrap_i64]; omega)) ?_
 refine wpV_idx (n := i + k) (by rfl) rfl rfl rfl U9129 info40 (by omega) ?_
 simp only [Z2]
 simp only [Z0, Z6]
 refine vQ (v := .int .u64 (limbN Z (i + k) : Nat)) (hc := (zadd ((M.r 0 0 rfl rfl) _ _ (wl_get (j := i + k) 8 Z (by omega))))) (hb := (M.lt 0 rfl)) ?_
 refine wpV_ext (v := .tuple #[.int .u64 (((limbN x i) * (limbN y k) % 18446744073709551616 + limbN Z (i + k)) % 18446744073709551616 : Nat), .int .u64 (((limbN x i) * (limbN y k) % 18446744073709551616 + limbN Z (i + k)) / 18446744073709551616 : Nat)]) (f := 85) (args := #[.int .u64 ((limbN x i) * (limbN y k) % 18446744073709551616 : Nat), .int .u64 (limbN Z (i + k) : Nat), .int .u64 0]) (by rfl) rfl rfl (addN (x := (limbN x i) * (limbN y k) % 18446744073709551616) (y := limbN Z (i + k)) (c := 0) (Nat.mod_lt _ (by decide)) (limbN_lt _ _) (by omega)) ?_
 simp only [Z0, Z6]
 refine vM ?_; refine vE ?_; refine vE ?_
 refine hLk _ fun w59 M => ?_
 refine lg ?_; refine lg ?_; refine lZ k57 ?_
 refine qS fun _ k60 => ?_
 refine lM ?_; refine lM ?_
 refine cM 4 fun Lk hLk => ?_
 refine wpV_ext (v := .tuple #[.int .u64 (((((limbN x i) * (limbN y k) % 18446744073709551616 + limbN Z (i + k)) % 18446744073709551616 + c) % 18446744073709551616 : Nat) : Int), .int .u64 (((((limbN x i) * (limbN y k) % 18446744073709551616 + limbN Z (i + k)) % 18446744073709551616 + c) / 18446744073709551616 : Nat) : Int)]) (f := 85) (args := #[.int .u64 (((limbN x i) * (limbN y k) % 18446744073709551616 + limbN Z (i + k)) % 18446744073709551616 : Nat), .int .u64 c, .int .u64 0]) (by rfl) rfl rfl (addN (x := ((limbN x i) * (limbN y k) % 18446744073709551616 + limbN Z (i + k)) % 18446744073709551616) (y := c) (c := 0) (Nat.mod_lt _ (by decide)) (by omega) (by omega)) ?_
 simp only [Z0, Z6]
 refine vM ?_; refine vE ?_; refine vE ?_
 refine hLk _ fun w62 M => ?_
 refine lg ?_; refine lg ?_; refine lZ k60 ?_; refine Z13 ?_; refine lM ?_; refine lM ?_
 refine cM 8 fun Lk hLk => ?_
 refine vB (v := .int .i64 (i + k : Nat)) (hr := run_add (by simp only [IntKind.wrap_i64]; omega)) ?_
 refine vM ?_; refine vM ?_; refine vM ?_
 refine vB (v := .int .u64 (limbN x i * limbN y k / 18446744073709551616 + (limbN x i * limbN y k % 18446744073709551616 + limbN Z (i + k)) / 18446744073709551616 : Nat)) (hr := run_add (by have := (wide_parts HW).2; unfold wideC at this; rw [wrap_u64]; omega)) ?_
 refine vM ?_
 refine vB (v := .int .u64 (wideC x y i k Z c : Nat)) (hr := run_add (by have := (wide_parts HW).2; unfold wideC at this ⊢; rw [wrap_u64]; omega)) ?_
 refine wpV_idx (n := i + k) (by rfl) rfl rfl rfl U9129 info40 (by omega) ?_
 simp only [Z2]
 simp only [Z0, Z6]
 refine hLk _ fun w64 M => ?_
 refine lS1 (g := g13) (off := i + k) (n := 8) (v := .int .u64 (((((limbN x i) * (limbN y k) % 18446744073709551616 + limbN Z (i + k)) % 18446744073709551616 + c) % 18446744073709551616 : Nat) : Int)) (M.t 0 rfl) (by omega) info40 rfl (fun w65 P R T => ?_)
 replace M := M.put1 (j := i + k) 0 rfl P R T (Z2 _).symm
 simp only [Z6] at M
 rw [show ((((limbN x i) * (limbN y k) % 18446744073709551616 + limbN Z (i + k)) % 18446744073709551616 + c) % 18446744073709551616) = wideLo x y i k Z c from rfl, wl_set (wideM_eq x y i k Z c) (wideLo_lt x y i k Z c)] at M
 refine lg ?_; refine lZ k50 ?_; refine Z13 ?_
 refine cM 1 fun Lk hLk => ?_
 refine vB (v := .int .i64 (k + 1 : Nat)) (hr := run_add (by simp only [IntKind.wrap_i64]; omega)) ?_
 refine hLk _ fun w67 M => ?_
 refine lM ?_
 refine Z14 (Z15 ?_)
 refine Exists.intro _ ⟨?_, (k + 1), (wideM x y i k Z c), (wideC x y i k Z c), (fun q9 => (#[Z9, Z9, Z9, Z9, Z9, Z9, Z9, Z9, Z9, Z9, .int .i64 k, .int .u64 (limbN y k : Nat), .int .u64 ((limbN x i) * (limbN y k) / 18446744073709551616 : Nat), .int .u64 ((limbN x i) * (limbN y k) % 18446744073709551616 : Nat), .int .u64 (((limbN x i) * (limbN y k) % 18446744073709551616 + limbN Z (i + k)) % 18446744073709551616 : Nat), .int .u64 (((limbN x i) * (limbN y k) % 18446744073709551616 + limbN Z (i + k)) / 18446744073709551616 : Nat), .int .u64 (((((limbN x i) * (limbN y k) % 18446744073709551616 + limbN Z (i + k)) % 18446744073709551616 + c) % 18446744073709551616 : Nat) : Int), .int .u64 (((((limbN x i) * (limbN y k) % 18446744073709551616 + limbN Z (i + k)) % 18446744073709551616 + c) / 18446744073709551616 : Nat) : Int), Z9, Z9, Z9, Z9, Z9, Z9, Z9, .bool true, .int .i64 k, .int .u64 (limbN y k : Nat), .tuple #[.int .u64 ((limbN x i) * (limbN y k) / 18446744073709551616 : Nat), .int .u64 ((limbN x i) * (limbN y k) % 18446744073709551616 : Nat)], .int .u64 (limbN x i : Nat), .int .u64 (limbN y k : Nat), .tuple #[.int .u64 ((limbN x i) * (limbN y k) / 18446744073709551616 : Nat), .int .u64 ((limbN x i) * (limbN y k) % 18446744073709551616 : Nat)], .int .u64 ((limbN x i) * (limbN y k) / 18446744073709551616 : Nat), .int .u64 ((limbN x i) * (limbN y k) % 18446744073709551616 : Nat), .tuple #[.int .u64 (((limbN x i) * (limbN y k) % 18446744073709551616 + limbN Z (i + k)) % 18446744073709551616 : Nat), .int .u64 (((limbN x i) * (limbN y k) % 18446744073709551616 + limbN Z (i + k)) / 18446744073709551616 : Nat)], .int .u64 ((limbN x i) * (limbN y k) % 18446744073709551616 : Nat), .int .i64 i, .int .i64 k, .int .i64 (i + k : Nat), .pointer (some ⟨g13, i + k, none⟩), .int .u64 (limbN Z (i + k) : Nat), .tuple #[.int .u64 (((limbN x i) * (limbN y k) % 18446744073709551616 + limbN Z (i + k)) % 18446744073709551616 : Nat), .int .u64 (((limbN x i) * (limbN y k) % 18446744073709551616 + limbN Z (i + k)) / 18446744073709551616 : Nat)], .int .u64 (((limbN x i) * (limbN y k) % 18446744073709551616 + limbN Z (i + k)) % 18446744073709551616 : Nat), .int .u64 (((limbN x i) * (limbN y k) % 18446744073709551616 + limbN Z (i + k)) / 18446744073709551616 : Nat), .tuple #[.int .u64 (((((limbN x i) * (limbN y k) % 18446744073709551616 + limbN Z (i + k)) % 18446744073709551616 + c) % 18446744073709551616 : Nat) : Int), .int .u64 (((((limbN x i) * (limbN y k) % 18446744073709551616 + limbN Z (i + k)) % 18446744073709551616 + c) / 18446744073709551616 : Nat) : Int)], .int .u64 (((limbN x i) * (limbN y k) % 18446744073709551616 + limbN Z (i + k)) % 18446744073709551616 : Nat), .int .u64 c, .tuple #[.int .u64 (((((limbN x i) * (limbN y k) % 18446744073709551616 + limbN Z (i + k)) % 18446744073709551616 + c) % 18446744073709551616 : Nat) : Int), .int .u64 (((((limbN x i) * (limbN y k) % 18446744073709551616 + limbN Z (i + k)) % 18446744073709551616 + c) / 18446744073709551616 : Nat) : Int)], .int .u64 (((((limbN x i) * (limbN y k) % 18446744073709551616 + limbN Z (i + k)) % 18446744073709551616 + c) % 18446744073709551616 : Nat) : Int), .int .u64 (((((limbN x i) * (limbN y k) % 18446744073709551616 + limbN Z (i + k)) % 18446744073709551616 + c) / 18446744073709551616 : Nat) : Int), .int .i64 i, .int .i64 k, .int .i64 (i + k : Nat), .int .u64 (((((limbN x i) * (limbN y k) % 18446744073709551616 + limbN Z (i + k)) % 18446744073709551616 + c) % 18446744073709551616 : Nat) : Int), .int .u64 ((limbN x i) * (limbN y k) / 18446744073709551616 : Nat), .int .u64 (((limbN x i) * (limbN y k) % 18446744073709551616 + limbN Z (i + k)) / 18446744073709551616 : Nat), .int .u64 (limbN x i * limbN y k / 18446744073709551616 + (limbN x i * limbN y k % 18446744073709551616 + limbN Z (i + k)) / 18446744073709551616 : Nat), .int .u64 (((((limbN x i) * (limbN y k) % 18446744073709551616 + limbN Z (i + k)) % 18446744073709551616 + c) / 18446744073709551616 : Nat) : Int), .int .u64 (wideC x y i k Z c : Nat), .pointer (some ⟨g13, i + k, none⟩), .int .i64 (k + 1 : Nat)] : Array Value).getD q9 Z9), rfl, rfl, M, (by omega), (wide_step hk HW)⟩
 omega
end Go.Proofs.Ya

