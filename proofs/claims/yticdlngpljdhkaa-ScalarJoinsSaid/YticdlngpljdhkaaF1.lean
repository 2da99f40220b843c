import Derived.Test.YticdlngpljdhkaaProg
import Derived.Test.YticdlngpljdhkaaSteps
import Derived.Test.YticdlngpljdhkaaNumB
import Derived.WalkKit
import Derived.WalkSpells
import Derived.Laws.Pointers
import Derived.RowKit3
import Derived.Below
import Derived.Outline
import Derived.Shelf.Spec.BitsCarry
import Derived.LoopN
import Derived.Lib.Hide
import Derived.Handy
import Derived.Test.YticdlngpljdhkaaSteps2
import Derived.Shelf.Bits.Mul64
set_option linter.unusedSimpArgs false
set_option linter.unusedVariables false
namespace Go.Proofs.Ya
open Go Go.RowKit Go.Shelf Go.Proofs.Num

theorem add64 {x y c : Int} (hx : Wd x) (hy : Wd y) (hc : 0 ≤ c ∧ c ≤ 1) (w : World) : (callFunc 43 #[.int .u64 x, .int .u64 y, .int .u64 c]).run Try.prog w =
    .ok (.value (.tuple #[.int .u64 (ad x y c), .int .u64 (ac x y c)])) w := by
  obtain ⟨x, rfl⟩ := Int.eq_ofNat_of_zero_le hx.1
  obtain ⟨y, rfl⟩ := Int.eq_ofNat_of_zero_le hy.1
  obtain ⟨c, rfl⟩ := Int.eq_ofNat_of_zero_le hc.1
  rw [run_callFunc_extern (fn := Try.f43) Try.func43 (by kernel_rfl) (by kernel_rfl) (by kernel_rfl) (e := add64Entry) (by kernel_rfl), run_add64 x y c (by omega) (by omega) (by omega) (by omega)]
  rfl
theorem sub64 {x y b : Int} (hx : Wd x) (hy : Wd y) (hb : 0 ≤ b ∧ b ≤ 1) (w : World) : (callFunc 69 #[.int .u64 x, .int .u64 y, .int .u64 b]).run Try.prog w =
    .ok (.value (.tuple #[.int .u64 (sd x y b), .int .u64 (sb x y b)])) w := by
  have hy' := hy.2
  obtain ⟨x, rfl⟩ := Int.eq_ofNat_of_zero_le hx.1
  obtain ⟨y, rfl⟩ := Int.eq_ofNat_of_zero_le hy.1
  obtain ⟨b, rfl⟩ := Int.eq_ofNat_of_zero_le hb.1
  have e1 : (((x + 18446744073709551616 - y - b) % 18446744073709551616 : Nat) : Int) = sd x y b := by unfold sd; omega
  have e2 : ((if x < y + b then 1 else 0 : Nat) : Int) = sb x y b := by unfold sb; split <;> split <;> omega
  rw [← e1, ← e2]
  rw [run_callFunc_extern (fn := Try.f69) Try.func69 (by kernel_rfl) (by kernel_rfl) (by kernel_rfl) (e := sub64Entry) (by kernel_rfl), run_sub64 x y b (by omega)]
  rfl

set_option maxHeartbeats 400000 in
theorem sminus_c {x y : Nat} (hx : x < 2 ^ 256) (hy : y < 2 ^ 256) (w : World) :
    Calls Try.prog 64 #[fe x, fe y] w fun e w' => e = .returned (.tuple #[fe (subW x y), .int .u64 (subB x y)]) ∧ Below w.heap.size w w' := by
  rw [fe_lit x, fe_lit y]
  obtain ⟨c1, c2⟩ := sub_chain x y hx hy
  have H1 := Lib.hid c1
  have H2 := Lib.hid c2
  clear c1 c2
  go_enter Try.func64, Try.ntmps64
  have h0 := sub64 (limb_wd x 0) (limb_wd y 0) (b := 0) ⟨by omega, by omega⟩
  have h1 := sub64 (limb_wd x 1) (limb_wd y 1) (sb_01 (limb x 0) (limb y 0) 0)
  have h2 := sub64 (limb_wd x 2) (limb_wd y 2) (sb_01 (limb x 1) (limb y 1) (sb (limb x 0) (limb y 0) 0))
  have h3 := sub64 (limb_wd x 3) (limb_wd y 3) (sb_01 (limb x 2) (limb y 2) (sb (limb x 1) (limb y 1) (sb (limb x 0) (limb y 0) 0)))
  
  go_wp2
  refine wp_loop_rounds 5 ?_
  iterate 4
    rw [rounds_succ]
    go_wp2
    go_region
    go_wp2
  rw [rounds_succ]
  go_wp2
  refine bodyPost_ret (v := .tuple #[fe (subW x y), .int .u64 (subB x y)]) ?_ rfl ⟨rfl, ?_⟩
  · have e1 : fe (subW x y) = _ := H1.out.symm
    have e2 : (subB x y) = _ := H2.out.symm
    rw [e1, e2]
    simp [results, Try.results64, go_sem]
  · go_grown

set_option maxHeartbeats 400000 in
theorem minus_c {x y : Nat} (hx : x < 2 ^ 256) (hy : y < 2 ^ 256) (w : World) :
    Calls Try.prog 50 #[fe x, fe y] w fun e w' => e = .returned (.tuple #[fe (subW x y), .int .u64 (subB x y)]) ∧ Below w.heap.size w w' := by
  rw [fe_lit x, fe_lit y]
  obtain ⟨c1, c2⟩ := sub_chain x y hx hy
  have H1 := Lib.hid c1
  have H2 := Lib.hid c2
  clear c1 c2
  go_enter Try.func50, Try.ntmps50
  have h0 := sub64 (limb_wd x 0) (limb_wd y 0) (b := 0) ⟨by omega, by omega⟩
  have h1 := sub64 (limb_wd x 1) (limb_wd y 1) (sb_01 (limb x 0) (limb y 0) 0)
  have h2 := sub64 (limb_wd x 2) (limb_wd y 2) (sb_01 (limb x 1) (limb y 1) (sb (limb x 0) (limb y 0) 0))
  have h3 := sub64 (limb_wd x 3) (limb_wd y 3) (sb_01 (limb x 2) (limb y 2) (sb (limb x 1) (limb y 1) (sb (limb x 0) (limb y 0) 0)))
  
  go_wp2
  refine wp_loop_rounds 5 ?_
  iterate 4
    rw [rounds_succ]
    go_wp2
    go_region
    go_wp2
  rw [rounds_succ]
  go_wp2
  refine bodyPost_ret (v := .tuple #[fe (subW x y), .int .u64 (subB x y)]) ?_ rfl ⟨rfl, ?_⟩
  · have e1 : fe (subW x y) = _ := H1.out.symm
    have e2 : (subB x y) = _ := H2.out.symm
    rw [e1, e2]
    simp [results, Try.results50, go_sem]
  · go_grown

set_option maxHeartbeats 400000 in
theorem plus_c {x y : Nat} (hx : x < 2 ^ 256) (hy : y < 2 ^ 256) (w : World) :
    Calls Try.prog 53 #[fe x, fe y] w fun e w' => e = .returned (.tuple #[fe (addW x y), .int .u64 ((addC x y : Nat) : Int)]) ∧ Below w.heap.size w w' := by
  rw [fe_lit x, fe_lit y]
  obtain ⟨c1, c2⟩ := add_chain x y hx hy
  have H1 := Lib.hid c1
  have H2 := Lib.hid c2
  clear c1 c2
  go_enter Try.func53, Try.ntmps53
  have k0 := ac_01 (limb_wd x 0) (limb_wd y 0) (c := 0) ⟨by omega, by omega⟩
  have k1 := ac_01 (limb_wd x 1) (limb_wd y 1) k0
  have k2 := ac_01 (limb_wd x 2) (limb_wd y 2) k1
  have h0 := add64 (limb_wd x 0) (limb_wd y 0) (c := 0) ⟨by omega, by omega⟩
  have h1 := add64 (limb_wd x 1) (limb_wd y 1) k0
  have h2 := add64 (limb_wd x 2) (limb_wd y 2) k1
  have h3 := add64 (limb_wd x 3) (limb_wd y 3) k2
  clear k0 k1 k2
  go_wp2
  refine wp_loop_rounds 5 ?_
  iterate 4
    rw [rounds_succ]
    go_wp2
    go_region
    go_wp2
  rw [rounds_succ]
  go_wp2
  refine bodyPost_ret (v := .tuple #[fe (addW x y), .int .u64 ((addC x y : Nat) : Int)]) ?_ rfl ⟨rfl, ?_⟩
  · have e1 : fe (addW x y) = _ := H1.out.symm
    have e2 : ((addC x y : Nat) : Int) = _ := H2.out.symm
    rw [e1, e2]
    simp [results, Try.results53, go_sem]
  · go_grown

theorem order_c (w : World) : Calls Try.prog 65 #[] w fun e w' => e = .returned (fe ordL) ∧ Below w.heap.size w w' := by
  have hl : fe ordL = .agg #[.int .u64 6346243789798364141, .int .u64 1503914060200516822, .int .u64 0, .int .u64 1152921504606846976] := by kernel_rfl
  rw [hl]
  go_enter Try.func65, Try.ntmps65
  go_wp2
  go_returns
  exact ⟨rfl, by go_grown⟩

theorem prime_c (w : World) : Calls Try.prog 51 #[] w fun e w' => e = .returned (fe pF) ∧ Below w.heap.size w w' := by
  have hl : fe pF = .agg #[.int .u64 18446744073709551597, .int .u64 18446744073709551615, .int .u64 18446744073709551615, .int .u64 9223372036854775807] := by kernel_rfl
  rw [hl]
  go_enter Try.func51, Try.ntmps51
  go_wp2
  go_returns
  exact ⟨rfl, by go_grown⟩

set_option maxHeartbeats 1000000 in
theorem mul64_c {x y : Nat} (hx : x < 18446744073709551616) (hy : y < 18446744073709551616) (w : World) :
    Calls Try.prog 45 #[.int .u64 (x : Nat), .int .u64 (y : Nat)] w fun e w' => e = .returned (.tuple #[.int .u64 ((x * y / 18446744073709551616 : Nat) : Int), .int .u64 ((x * y % 18446744073709551616 : Nat) : Int)]) ∧ Below w.heap.size w w' := by
  obtain ⟨bd, bt, bw, hhi⟩ := Lib.mul64_hi x y hx hy
  have ba := Lib.half_mul_le (a := x / 4294967296) (b := y / 4294967296) (by omega) (by omega)
  have bb := Lib.half_mul_le (a := x / 4294967296) (b := y % 4294967296) (by omega) (by omega)
  have bc := Lib.half_mul_le (a := x % 4294967296) (b := y / 4294967296) (by omega) (by omega)
  have ba' : x / 4294967296 * (y / 4294967296) < 18446744073709551616 := by omega
  have bb' : x / 4294967296 * (y % 4294967296) < 18446744073709551616 := by omega
  have bc' : x % 4294967296 * (y / 4294967296) < 18446744073709551616 := by omega
  have bh1 : x / 4294967296 * (y / 4294967296) + (x / 4294967296 * (y % 4294967296) + x % 4294967296 * (y % 4294967296) / 4294967296) / 4294967296 < 18446744073709551616 := by omega
  have bh : x / 4294967296 * (y / 4294967296) + (x / 4294967296 * (y % 4294967296) + x % 4294967296 * (y % 4294967296) / 4294967296) / 4294967296 + ((x / 4294967296 * (y % 4294967296) + x % 4294967296 * (y % 4294967296) / 4294967296) % 4294967296 + x % 4294967296 * (y / 4294967296)) / 4294967296 < 18446744073709551616 := by omega
  go_enter Try.func45, Try.ntmps45
  go_wp2
  simp only [Mul64.maskN x hx, Mul64.maskN y hy, Mul64.divN, Mul64.mulN, Mul64.addN, Mul64.wrapN _ bd, Mul64.wrapN _ bb', Mul64.wrapN _ bt, Mul64.maskN _ bt, Mul64.wrapN _ bc', Mul64.wrapN _ bw, Mul64.wrapN _ ba', Mul64.wrapN _ bh1, Mul64.wrapN _ bh, Mul64.wrapM (x * y)]
  rw [hhi]
  go_ret2
  exact ⟨rfl, Below.refl _ _⟩
theorem addN {x y c : Nat} (hx : x < 18446744073709551616) (hy : y < 18446744073709551616) (hc : c ≤ 1) (w : World) : (callFunc 43 #[.int .u64 (x : Nat), .int .u64 (y : Nat), .int .u64 (c : Nat)]).run Try.prog w =
    .ok (.value (.tuple #[.int .u64 (((x + y + c) % 18446744073709551616 : Nat) : Int), .int .u64 (((x + y + c) / 18446744073709551616 : Nat) : Int)])) w := by
  refine (add64 (x := x) (y := y) (c := c) ⟨by omega, by omega⟩ ⟨by omega, by omega⟩ ⟨by omega, by omega⟩ w).trans ?_
  unfold ad ac
  congr 5
end Go.Proofs.Ya
