import Derived.WalkKit
import Derived.WalkSpells
import Derived.Laws.Pointers
import Derived.RowKit3
import Derived.Below
import Derived.Outline
import Derived.LoopN
import Derived.Lib.Hide
import Derived.Handy
import Derived.Laws.Bits64b
import Derived.Test.YticcchgckljlnaaDoorTr2
set_option linter.unusedSimpArgs false
set_option linter.unusedVariables false
namespace Go.Proofs.Yb
open Go Go.RowKit Go.Proofs.Num
open List renaming set → Z0, take → Z1, drop → Z2
open Go renaming undef → Z3, wp_seq_k → Z4, wp_cond_true → Z5, wp_cond_false → Z6
open Go.Proofs.Num renaming putT → Z7, wp_region_seq → Z8, wpL_nil → Z9, no_panic → Z10, wpL_chunk → Z11, wpL_move → Z12, wpL_assign → Z13, wpV_nil → Z14, wpV_bin → Z15, wpV_move → Z16, then_normal → Z17, wpL_store1 → Z18, wpV_val → Z19, wpV_callf → Z20
set_option maxHeartbeats 1000000 in
theorem turn_c {x n : Nat} {w : World} (hx : x < 4294967296) (hn1 : 1 ≤ n) (hn2 : n ≤ 31) :
  Calls Tryd.prog 93 #[.int .u32 ((x : Nat) : Int), .int .i64 ((n : Nat) : Int)] w fun e w' => e = .returned (.int .u32 ((rotr x n : Nat) : Int)) ∧ Below w.heap.size w w' := by
 go_enter Tryd.func93, Tryd.ntmps93
 have M := Mem.start w
 refine Z4 (fun K1 hK1 => ?_)
 refine Z8 ?_
 refine Z13 (v := .int .u32 0) (by rfl) (by rfl) (by rfl) ?_
 simp only [Z7,Z0]
 refine Z9 (Z10 ?_)
 refine hK1 _ _ ?_
 refine Z4 (fun K3 hK3 => ?_)
 refine Z8 ?_
 refine Z13 (v := .int .u32 1) (by rfl) (by rfl) (by rfl) ?_
 simp only [Z7,Z0]
 refine Z9 (Z10 ?_)
 refine hK3 _ _ ?_
 refine Z4 (fun K5 hK5 => ?_)
 refine Z4 (fun K6 hK6 => ?_)
 refine Z8 ?_
 refine Z13 (v := .int .i64 0) (by rfl) (by rfl) (by rfl) ?_
 simp only [Z7,Z0]
 refine Z9 (Z10 ?_)
 refine hK6 _ _ ?_
 refine wp_block ?_
 refine wp_loop_ghost (fun n9 a9 W9 => ∃ (i : Nat) (u8 : Nat → Value), n9 = n - i ∧ a9 = { tmps := #[.int .u32 ((x : Nat) : Int), .int .i64 ((n : Nat) : Int), Z3, Z3, .int .u32 0, .int .u32 ((2 ^ i : Nat) : Int), .int .i64 ((i : Nat) : Int), Z3, Z3, u8 9, u8 10, u8 11, u8 12, u8 13, u8 14, u8 15, Z3, Z3, Z3, Z3, Z3, Z3, Z3, Z3, Z3, Z3, Z3, Z3, Z3, Z3, Z3, Z3], defers := [] } ∧ Mem [] w W9 [] ∧ (i ≤ n)) (n - (0)) ?_ (fun n9 a9 W9 hI => ?_)
 ·
  exact ⟨0, (fun q9 => (#[Z3, Z3, Z3, Z3, Z3, Z3, Z3, Z3, Z3, Z3, Z3, Z3, Z3, Z3, Z3, Z3] : Array Value).getD q9 Z3), rfl, rfl, M, (by omega)⟩
 clear M
 obtain ⟨i, u8, rfl, rfl, M, hi4⟩ := hI
 obtain ⟨w9, rfl⟩ : ∃ W8, W8 = W9 := ⟨_, rfl⟩
 refine Z4 (fun K10 hK10 => ?_)
 refine Z4 (fun K11 hK11 => ?_)
 refine Z8 ?_
 refine Z12 (v := .int .i64 ((i : Nat) : Int)) (by rfl) (by rfl) (by rfl) ?_
 simp only [Z7,Z0]
 refine Z12 (v := .int .i64 ((n : Nat) : Int)) (by rfl) (by rfl) (by rfl) ?_
 simp only [Z7,Z0]
 refine Z11 1 (by rfl) (fun Lk hLk => ?_)
 simp only [Z1,Z2]
 refine Z15 (v := .bool (decide (i < n))) (by rfl) rfl rfl rfl (fun W => run_lssN i n _ _ W) ?_
 simp only [Z7,Z0]
 refine Z14 (hLk _ (fun w13 Sw13 => ?_))
 clear hLk Lk
 simp only [Z1,Z2]
 replace M := M.sees Sw13
 refine Z9 (Z10 ?_)
 refine hK11 _ _ ?_
 cases hc14 : (decide (i < n))
 ·
  have ei : i = n := by have := of_decide_eq_false hc14; omega
  rw [ei]
  refine Z6 rfl ?_
  refine wp_exit ?_
  refine hK5 _ _ ?_
  refine Z4 (fun K15 hK15 => ?_)
  refine Z8 ?_
  refine Z13 (v := .int .u32 1) (by rfl) (by rfl) (by rfl) ?_
  simp only [Z7,Z0]
  refine Z9 (Z10 ?_)
  refine hK15 _ _ ?_
  refine Z4 (fun K17 hK17 => ?_)
  refine Z4 (fun K18 hK18 => ?_)
  refine Z8 ?_
  refine Z12 (v := .int .i64 ((n : Nat) : Int)) (by rfl) (by rfl) (by rfl) ?_
  simp only [Z7,Z0]
  refine Z13 (v := .int .i64 ((n : Nat) : Int)) (by rfl) (by rfl) (by rfl) ?_
  simp only [Z7,Z0]
  refine Z9 (Z10 ?_)
  refine hK18 _ _ ?_
  refine wp_block ?_
  refine wp_loop_ghost (fun n9 a9 W9 => ∃ (i : Nat) (p : Nat) (u20 : Nat → Value), n9 = 32 - i ∧ a9 = { tmps := #[.int .u32 ((x : Nat) : Int), .int .i64 ((n : Nat) : Int), Z3, Z3, .int .u32 0, .int .u32 ((2 ^ n : Nat) : Int), .int .i64 ((n : Nat) : Int), .int .u32 ((p : Nat) : Int), .int .i64 ((i : Nat) : Int), .int .i64 ((n : Nat) : Int), .int .i64 ((n : Nat) : Int), .bool false, u8 12, u8 13, u8 14, u8 15, .int .i64 ((n : Nat) : Int), u20 17, u20 18, u20 19, u20 20, u20 21, u20 22, Z3, Z3, Z3, Z3, Z3, Z3, Z3, Z3, Z3], defers := [] } ∧ Mem [] w W9 [] ∧ (n ≤ i ∧ i ≤ 32) ∧ (p = 2 ^ (i - n))) (32 - (n)) ?_ (fun n9 a9 W9 hI => ?_)
  ·
   exact ⟨n, 1, (fun q9 => (#[Z3, Z3, Z3, Z3, Z3, Z3, Z3, Z3, Z3, Z3, Z3, Z3, Z3, Z3, Z3, Z3, Z3, Z3, Z3, Z3, Z3, Z3, Z3] : Array Value).getD q9 Z3), rfl, rfl, M, ⟨by omega, by omega⟩, (by rw [Nat.sub_self, Nat.pow_zero])⟩
  clear M
  obtain ⟨i, p, u20, rfl, rfl, M, hi4, hp⟩ := hI
  obtain ⟨w21, rfl⟩ : ∃ W8, W8 = W9 := ⟨_, rfl⟩
  refine Z4 (fun K22 hK22 => ?_)
  refine Z4 (fun K23 hK23 => ?_)
  refine Z8 ?_
  refine Z12 (v := .int .i64 ((i : Nat) : Int)) (by rfl) (by rfl) (by rfl) ?_
  simp only [Z7,Z0]
  refine Z11 1 (by rfl) (fun Lk hLk => ?_)
  simp only [Z1,Z2]
  refine Z15 (v := .bool (decide (i < 32))) (by rfl) rfl rfl rfl (fun W => run_lssN i 32 _ _ W) ?_
  simp only [Z7,Z0]
  refine Z14 (hLk _ (fun w25 Sw25 => ?_))
  clear hLk Lk
  simp only [Z1,Z2]
  replace M := M.sees Sw25
  refine Z9 (Z10 ?_)
  refine hK23 _ _ ?_
  cases hc26 : (decide (i < 32))
  ·
   have ei : i = 32 := by have := of_decide_eq_false hc26; omega
   subst ei
   subst hp
   refine Z6 rfl ?_
   refine wp_exit ?_
   refine hK17 _ _ ?_
   refine Z4 (fun K27 hK27 => ?_)
   refine wp_region_grow 9 [] (by kernel_rfl) (by kernel_rfl) (by kernel_rfl) (fun Lk hLk => ?_)
   simp only [Z1,Z2]
   refine Z16 (v := .int .u32 ((x : Nat) : Int)) (by rfl) rfl rfl ?_
   simp only [Z7,Z0]
   refine Z16 (v := .int .u32 ((2 ^ n : Nat) : Int)) (by rfl) rfl rfl ?_
   simp only [Z7,Z0]
   refine Z15 (v := .int .u32 ((x / 2 ^ n : Nat) : Int)) (by rfl) rfl rfl rfl (fun W => nr_quo32 (x := x) (y := 2 ^ n) (Nat.ne_of_gt (Nat.two_pow_pos n)) hx W) ?_
   simp only [Z7,Z0]
   refine Z16 (v := .int .u32 ((x : Nat) : Int)) (by rfl) rfl rfl ?_
   simp only [Z7,Z0]
   refine Z16 (v := .int .u32 ((2 ^ n : Nat) : Int)) (by rfl) rfl rfl ?_
   simp only [Z7,Z0]
   refine Z15 (v := .int .u32 ((x % 2 ^ n : Nat) : Int)) (by rfl) rfl rfl rfl (fun W => nr_rem32 (x := x) (y := 2 ^ n) (Nat.ne_of_gt (Nat.two_pow_pos n)) W) ?_
   simp only [Z7,Z0]
   refine Z16 (v := .int .u32 ((2 ^ (32 - n) : Nat) : Int)) (by rfl) rfl rfl ?_
   simp only [Z7,Z0]
   refine Z15 (v := .int .u32 ((x % 2 ^ n * 2 ^ (32 - n) : Nat) : Int)) (by rfl) rfl rfl rfl (fun W => (by have := nr_mul32 (P := Tryd.prog) 25 (x % 2 ^ n) (2 ^ (32 - n)) W; rw [rot_part (by omega)] at this; exact this)) ?_
   simp only [Z7,Z0]
   refine Z15 (v := .int .u32 ((rotr x n : Nat) : Int)) (by rfl) rfl rfl rfl (fun W => (by have := nr_add32 (P := Tryd.prog) 25 (x / 2 ^ n) (x % 2 ^ n * 2 ^ (32 - n)) W; rw [show x / 2 ^ n + x % 2 ^ n * 2 ^ (32 - n) = rotr x n from rfl, Nat.mod_eq_of_lt (rotr_lt hx (by omega))] at this; exact this)) ?_
   simp only [Z7,Z0]
   refine Z14 (hLk.out _ ?_)
   clear hLk Lk
   simp only [Z1,Z2]
   iterate 9 refine wpN_skip (by rfl) ?_
   refine wpN_nil (fun w29 Sw29 hbs => ?_)
   clear hbs
   replace M := M.sees Sw29
   refine Z13 (v := .int .u32 ((rotr x n : Nat) : Int)) (by rfl) (by rfl) (by rfl) ?_
   simp only [Z7,Z0]
   refine Z9 (Z10 ?_)
   refine hK27 _ _ ?_
   refine wp_ret ?_
   repeat (first | with_reducible refine then_ret ?_ | with_reducible refine inblock_ret ?_)
   refine bodyPost_ret (v := .int .u32 ((rotr x n : Nat) : Int)) (res1 rfl (.tmp (by rfl))) rfl ?_
   have BE := M.below
   exact ⟨rfl, BE⟩
  ·
   have hi : i < 32 := of_decide_eq_true hc26
   refine Z5 rfl ?_
   refine wp_skip ?_
   refine hK22 _ _ ?_
   refine Z4 (fun K30 hK30 => ?_)
   refine wp_block ?_
   refine Z8 ?_
   refine Z12 (v := .int .u32 ((p : Nat) : Int)) (by rfl) (by rfl) (by rfl) ?_
   simp only [Z7,Z0]
   refine Z11 1 (by rfl) (fun Lk hLk => ?_)
   simp only [Z1,Z2]
   refine Z15 (v := .int .u32 ((2 ^ (i + 1 - n) : Nat) : Int)) (by rfl) rfl rfl rfl (fun W => (by have := nr_mul32 (P := Tryd.prog) 25 2 p W; rw [hp, pow_step32 (by omega), show i - n + 1 = i + 1 - n by omega, ← hp] at this; exact this)) ?_
   simp only [Z7,Z0]
   refine Z14 (hLk _ (fun w32 Sw32 => ?_))
   clear hLk Lk
   simp only [Z1,Z2]
   replace M := M.sees Sw32
   refine Z13 (v := .int .u32 ((2 ^ (i + 1 - n) : Nat) : Int)) (by rfl) (by rfl) (by rfl) ?_
   simp only [Z7,Z0]
   refine Z9 (Z10 ?_)
   refine hK30 _ _ ?_
   refine Z8 ?_
   refine Z12 (v := .int .i64 ((i : Nat) : Int)) (by rfl) (by rfl) (by rfl) ?_
   simp only [Z7,Z0]
   refine Z11 1 (by rfl) (fun Lk hLk => ?_)
   simp only [Z1,Z2]
   refine Z15 (v := .int .i64 ((i + 1 : Nat) : Int)) (by rfl) rfl rfl rfl (fun W => run_add (by simp only [IntKind.wrap_i64]; omega) W) ?_
   simp only [Z7,Z0]
   refine Z14 (hLk _ (fun w34 Sw34 => ?_))
   clear hLk Lk
   simp only [Z1,Z2]
   replace M := M.sees Sw34
   refine Z13 (v := .int .i64 ((i + 1 : Nat) : Int)) (by rfl) (by rfl) (by rfl) ?_
   simp only [Z7,Z0]
   refine Z9 (Z10 ?_)
   refine Exists.intro _ ⟨?_, (i + 1), (2 ^ (i + 1 - n)), (fun q9 => (#[Z3, Z3, Z3, Z3, Z3, Z3, Z3, Z3, Z3, Z3, Z3, Z3, Z3, Z3, Z3, Z3, Z3, .int .i64 ((i : Nat) : Int), .bool true, .int .i64 ((i : Nat) : Int), .int .i64 ((i + 1 : Nat) : Int), .int .u32 ((p : Nat) : Int), .int .u32 ((2 ^ (i + 1 - n) : Nat) : Int)] : Array Value).getD q9 Z3), rfl, rfl, M, ⟨by omega, by omega⟩, rfl⟩
   omega
 ·
  have hi : i < n := of_decide_eq_true hc14
  refine Z5 rfl ?_
  refine wp_skip ?_
  refine hK10 _ _ ?_
  refine Z4 (fun K35 hK35 => ?_)
  refine wp_block ?_
  refine Z8 ?_
  refine Z12 (v := .int .u32 ((2 ^ i : Nat) : Int)) (by rfl) (by rfl) (by rfl) ?_
  simp only [Z7,Z0]
  refine Z11 1 (by rfl) (fun Lk hLk => ?_)
  simp only [Z1,Z2]
  refine Z15 (v := .int .u32 ((2 ^ (i + 1) : Nat) : Int)) (by rfl) rfl rfl rfl (fun W => (by have := nr_mul32 (P := Tryd.prog) 25 2 (2 ^ i) W; rw [pow_step32 (by omega)] at this; exact this)) ?_
  simp only [Z7,Z0]
  refine Z14 (hLk _ (fun w37 Sw37 => ?_))
  clear hLk Lk
  simp only [Z1,Z2]
  replace M := M.sees Sw37
  refine Z13 (v := .int .u32 ((2 ^ (i + 1) : Nat) : Int)) (by rfl) (by rfl) (by rfl) ?_
  simp only [Z7,Z0]
  refine Z9 (Z10 ?_)
  refine hK35 _ _ ?_
  refine Z8 ?_
  refine Z12 (v := .int .i64 ((i : Nat) : Int)) (by rfl) (by rfl) (by rfl) ?_
  simp only [Z7,Z0]
  refine Z11 1 (by rfl) (fun Lk hLk => ?_)
  simp only [Z1,Z2]
  refine Z15 (v := .int .i64 ((i + 1 : Nat) : Int)) (by rfl) rfl rfl rfl (fun W => run_add (by simp only [IntKind.wrap_i64]; omega) W) ?_
  simp only [Z7,Z0]
  refine Z14 (hLk _ (fun w39 Sw39 => ?_))
  clear hLk Lk
  simp only [Z1,Z2]
  replace M := M.sees Sw39
  refine Z13 (v := .int .i64 ((i + 1 : Nat) : Int)) (by rfl) (by rfl) (by rfl) ?_
  simp only [Z7,Z0]
  refine Z9 (Z10 ?_)
  refine Exists.intro _ ⟨?_, (i + 1), (fun q9 => (#[Z3, Z3, Z3, Z3, Z3, Z3, Z3, Z3, Z3, .int .i64 ((i : Nat) : Int), .int .i64 ((n : Nat) : Int), .bool true, .int .i64 ((i : Nat) : Int), .int .i64 ((i + 1 : Nat) : Int), .int .u32 ((2 ^ i : Nat) : Int), .int .u32 ((2 ^ (i + 1) : Nat) : Int)] : Array Value).getD q9 Z3), rfl, rfl, M, (by omega)⟩
  omega
set_option maxHeartbeats 1000000 in
theorem move_c {x n : Nat} {w : World} (hx : x < 4294967296) (hn : n ≤ 31) :
  Calls Tryd.prog 94 #[.int .u32 ((x : Nat) : Int), .int .i64 ((n : Nat) : Int)] w fun e w' => e = .returned (.int .u32 ((x / 2 ^ n : Nat) : Int)) ∧ Below w.heap.size w w' := by
 go_enter Tryd.func94, Tryd.ntmps94
 have M := Mem.start w
 refine Z4 (fun K1 hK1 => ?_)
 refine Z8 ?_
 refine Z13 (v := .int .u32 0) (by rfl) (by rfl) (by rfl) ?_
 simp only [Z7,Z0]
 refine Z9 (Z10 ?_)
 refine hK1 _ _ ?_
 refine Z4 (fun K3 hK3 => ?_)
 refine Z4 (fun K4 hK4 => ?_)
 refine Z8 ?_
 refine Z13 (v := .int .i64 0) (by rfl) (by rfl) (by rfl) ?_
 simp only [Z7,Z0]
 refine Z9 (Z10 ?_)
 refine hK4 _ _ ?_
 refine wp_block ?_
 refine wp_loop_ghost (fun n9 a9 W9 => ∃ (i : Nat) (p : Nat) (u6 : Nat → Value), n9 = n - i ∧ a9 = { tmps := #[.int .u32 ((p : Nat) : Int), .int .i64 ((n : Nat) : Int), Z3, Z3, .int .u32 0, .int .i64 ((i : Nat) : Int), u6 6, u6 7, u6 8, u6 9, u6 10, u6 11, u6 12, Z3], defers := [] } ∧ Mem [] w W9 [] ∧ (i ≤ n) ∧ (p = x / 2 ^ i)) (n - (0)) ?_ (fun n9 a9 W9 hI => ?_)
 ·
  exact ⟨0, x, (fun q9 => (#[Z3, Z3, Z3, Z3, Z3, Z3, Z3, Z3, Z3, Z3, Z3, Z3, Z3] : Array Value).getD q9 Z3), rfl, rfl, M, (by omega), (by rw [Nat.pow_zero, Nat.div_one])⟩
 clear M
 obtain ⟨i, p, u6, rfl, rfl, M, hi4, hp⟩ := hI
 obtain ⟨w7, rfl⟩ : ∃ W8, W8 = W9 := ⟨_, rfl⟩
 refine Z4 (fun K8 hK8 => ?_)
 refine Z4 (fun K9 hK9 => ?_)
 refine Z8 ?_
 refine Z12 (v := .int .i64 ((i : Nat) : Int)) (by rfl) (by rfl) (by rfl) ?_
 simp only [Z7,Z0]
 refine Z12 (v := .int .i64 ((n : Nat) : Int)) (by rfl) (by rfl) (by rfl) ?_
 simp only [Z7,Z0]
 refine Z11 1 (by rfl) (fun Lk hLk => ?_)
 simp only [Z1,Z2]
 refine Z15 (v := .bool (decide (i < n))) (by rfl) rfl rfl rfl (fun W => run_lssN i n _ _ W) ?_
 simp only [Z7,Z0]
 refine Z14 (hLk _ (fun w11 Sw11 => ?_))
 clear hLk Lk
 simp only [Z1,Z2]
 replace M := M.sees Sw11
 refine Z9 (Z10 ?_)
 refine hK9 _ _ ?_
 cases hc12 : (decide (i < n))
 ·
  have ei : i = n := by have := of_decide_eq_false hc12; omega
  rw [ei] at hp; subst hp
  refine Z6 rfl ?_
  refine wp_exit ?_
  refine hK3 _ _ ?_
  refine Z4 (fun K13 hK13 => ?_)
  refine Z8 ?_
  refine Z12 (v := .int .u32 ((x / 2 ^ n : Nat) : Int)) (by rfl) (by rfl) (by rfl) ?_
  simp only [Z7,Z0]
  refine Z13 (v := .int .u32 ((x / 2 ^ n : Nat) : Int)) (by rfl) (by rfl) (by rfl) ?_
  simp only [Z7,Z0]
  refine Z9 (Z10 ?_)
  refine hK13 _ _ ?_
  refine wp_ret ?_
  repeat (first | with_reducible refine then_ret ?_ | with_reducible refine inblock_ret ?_)
  refine bodyPost_ret (v := .int .u32 ((x / 2 ^ n : Nat) : Int)) (res1 rfl (.tmp (by rfl))) rfl ?_
  have BE := M.below
  exact ⟨rfl, BE⟩
 ·
  have hi : i < n := of_decide_eq_true hc12
  refine Z5 rfl ?_
  refine wp_skip ?_
  refine hK8 _ _ ?_
  refine Z4 (fun K15 hK15 => ?_)
  refine wp_block ?_
  refine Z8 ?_
  refine Z12 (v := .int .u32 ((p : Nat) : Int)) (by rfl) (by rfl) (by rfl) ?_
  simp only [Z7,Z0]
  refine Z11 1 (by rfl) (fun Lk hLk => ?_)
  simp only [Z1,Z2]
  refine Z15 (v := .int .u32 ((x / 2 ^ (i + 1) : Nat) : Int)) (by rfl) rfl rfl rfl (fun W => (by have := nr_quo32 (P := Tryd.prog) (T := 25) (x := p) (y := 2) (by decide) (hp ▸ div_lt32 _ hx) W; rw [hp, Nat.div_div_eq_div_mul, ← Nat.pow_succ, ← hp] at this; exact this)) ?_
  simp only [Z7,Z0]
  refine Z14 (hLk _ (fun w17 Sw17 => ?_))
  clear hLk Lk
  simp only [Z1,Z2]
  replace M := M.sees Sw17
  refine Z13 (v := .int .u32 ((x / 2 ^ (i + 1) : Nat) : Int)) (by rfl) (by rfl) (by rfl) ?_
  simp only [Z7,Z0]
  refine Z9 (Z10 ?_)
  refine hK15 _ _ ?_
  refine Z8 ?_
  refine Z12 (v := .int .i64 ((i : Nat) : Int)) (by rfl) (by rfl) (by rfl) ?_
  simp only [Z7,Z0]
  refine Z11 1 (by rfl) (fun Lk hLk => ?_)
  simp only [Z1,Z2]
  refine Z15 (v := .int .i64 ((i + 1 : Nat) : Int)) (by rfl) rfl rfl rfl (fun W => run_add (by simp only [IntKind.wrap_i64]; omega) W) ?_
  simp only [Z7,Z0]
  refine Z14 (hLk _ (fun w19 Sw19 => ?_))
  clear hLk Lk
  simp only [Z1,Z2]
  replace M := M.sees Sw19
  refine Z13 (v := .int .i64 ((i + 1 : Nat) : Int)) (by rfl) (by rfl) (by rfl) ?_
  simp only [Z7,Z0]
  refine Z9 (Z10 ?_)
  refine Exists.intro _ ⟨?_, (i + 1), (x / 2 ^ (i + 1)), (fun q9 => (#[Z3, Z3, Z3, Z3, Z3, Z3, .int .i64 ((i : Nat) : Int), .int .i64 ((n : Nat) : Int), .bool true, .int .i64 ((i : Nat) : Int), .int .i64 ((i + 1 : Nat) : Int), .int .u32 ((p : Nat) : Int), .int .u32 ((x / 2 ^ (i + 1) : Nat) : Int)] : Array Value).getD q9 Z3), rfl, rfl, M, (by omega), rfl⟩
  omega
set_option maxRecDepth 100000 in
set_option maxHeartbeats 4000000 in
theorem rmix_c {h : S8} {l : List UInt8} {gk ck : Nat} {w : World} (hh : h.Ok) (hl : 64 ≤ l.length) (hck : 64 ≤ ck) (Lgk : gk < w.heap.size) (Rgk_0 : w.rangeAt gk 0 kcells) :
  Calls Tryd.prog 74 #[.agg ([.int .u32 ((h.a : Nat) : Int), .int .u32 ((h.b : Nat) : Int), .int .u32 ((h.c : Nat) : Int), .int .u32 ((h.d : Nat) : Int), .int .u32 ((h.e : Nat) : Int), .int .u32 ((h.f : Nat) : Int), .int .u32 ((h.g : Nat) : Int), .int .u32 ((h.h : Nat) : Int)]).toArray, .string (bs l), .slice (some ⟨gk, 0, none⟩) 64 ck] w fun e w' => e = .returned (.agg ([.int .u32 (((mixS h l).a : Nat) : Int), .int .u32 (((mixS h l).b : Nat) : Int), .int .u32 (((mixS h l).c : Nat) : Int), .int .u32 (((mixS h l).d : Nat) : Int), .int .u32 (((mixS h l).e : Nat) : Int), .int .u32 (((mixS h l).f : Nat) : Int), .int .u32 (((mixS h l).g : Nat) : Int), .int .u32 (((mixS h l).h : Nat) : Int)]).toArray) ∧ Below w.heap.size w w' := by
 go_enter Tryd.func74, Tryd.ntmps74
 have M := Mem.start w
 refine Z4 (fun K1 hK1 => ?_)
 refine Z8 ?_
 refine wpL_var (t := 26) (cs := [.int .u32 ((h.a : Nat) : Int), .int .u32 ((h.b : Nat) : Int), .int .u32 ((h.c : Nat) : Int), .int .u32 ((h.d : Nat) : Int), .int .u32 ((h.e : Nat) : Int), .int .u32 ((h.f : Nat) : Int), .int .u32 ((h.g : Nat) : Int), .int .u32 ((h.h : Nat) : Int)]) (by rfl) (fun W => ?_) (fun g3 w4 Sw4 Hg3 Bg3 => ?_)
 ·
  (first | rfl | go_simp)
 replace M := ((M.sees Sw4).add (N := 8) (cs := [.int .u32 ((h.a : Nat) : Int), .int .u32 ((h.b : Nat) : Int), .int .u32 ((h.c : Nat) : Int), .int .u32 ((h.d : Nat) : Int), .int .u32 ((h.e : Nat) : Int), .int .u32 ((h.f : Nat) : Int), .int .u32 ((h.g : Nat) : Int), .int .u32 ((h.h : Nat) : Int)]) (M.ge Hg3) (M.fresh Hg3) Bg3 rfl)
 clear Bg3
 simp only [Z7,Z0]
 refine wpL_var (t := 26) (cs := [.int .u32 0, .int .u32 0, .int .u32 0, .int .u32 0, .int .u32 0, .int .u32 0, .int .u32 0, .int .u32 0]) (by rfl) (fun W => ?_) (fun g5 w6 Sw6 Hg5 Bg5 => ?_)
 ·
  go_simp
 replace M := ((M.sees Sw6).add (N := 8) (cs := [.int .u32 0, .int .u32 0, .int .u32 0, .int .u32 0, .int .u32 0, .int .u32 0, .int .u32 0, .int .u32 0]) (M.ge Hg5) (M.fresh Hg5) Bg5 rfl)
 clear Bg5
 simp only [Z7,Z0]
 refine Z9 (Z10 ?_)
 refine hK1 _ _ ?_
 refine Z4 (fun K7 hK7 => ?_)
 refine Z8 ?_
 refine wpL_row0 (by rfl) (by rfl) Tryd.underlying32 info25 (fun g9 w10 Sw10 Hg9 Bg9 => ?_)
 replace M := ((M.sees Sw10).add (N := 0) (cs := wl32 l 0) (M.ge Hg9) (M.fresh Hg9) Bg9 rfl)
 clear Bg9
 simp only [Z7,Z0]
 refine Z13 (v := .slice (some ⟨g9, 0, none⟩) 0 0) (by rfl) (by rfl) (by rfl) ?_
 simp only [Z7,Z0]
 refine Z9 (Z10 ?_)
 refine hK7 _ _ ?_
 refine Z4 (fun K11 hK11 => ?_)
 refine Z4 (fun K12 hK12 => ?_)
 refine Z8 ?_
 refine Z13 (v := .int .i64 0) (by rfl) (by rfl) (by rfl) ?_
 simp only [Z7,Z0]
 refine Z9 (Z10 ?_)
 refine hK12 _ _ ?_
 refine wp_block ?_
 refine wp_loop_ghost (fun n9 a9 W9 => ∃ (t : Nat) (gw : Nat) (gwc : Nat) (u14 : Nat → Value), n9 = 64 - t ∧ a9 = { tmps := #[.agg ([.int .u32 ((h.a : Nat) : Int), .int .u32 ((h.b : Nat) : Int), .int .u32 ((h.c : Nat) : Int), .int .u32 ((h.d : Nat) : Int), .int .u32 ((h.e : Nat) : Int), .int .u32 ((h.f : Nat) : Int), .int .u32 ((h.g : Nat) : Int), .int .u32 ((h.h : Nat) : Int)]).toArray, .string (bs l), .slice (some ⟨gk, 0, none⟩) 64 ck, .pointer (some ⟨g3, 0, none⟩), Z3, Z3, .pointer (some ⟨g5, 0, none⟩), .slice (some ⟨gw, 0, none⟩) t gwc, .int .i64 ((t : Nat) : Int), u14 9, u14 10, u14 11, u14 12, Z3, Z3, Z3, Z3, Z3, Z3, Z3, Z3, .slice (some ⟨g9, 0, none⟩) 0 0, u14 22, u14 23, u14 24, u14 25, u14 26, u14 27, u14 28, u14 29, u14 30, u14 31, u14 32, u14 33, u14 34, u14 35, u14 36, u14 37, u14 38, u14 39, u14 40, u14 41, u14 42, u14 43, u14 44, u14 45, u14 46, u14 47, u14 48, u14 49, u14 50, u14 51, u14 52, u14 53, u14 54, u14 55, u14 56, u14 57, u14 58, u14 59, u14 60, u14 61, u14 62, u14 63, u14 64, u14 65, u14 66, u14 67, u14 68, u14 69, u14 70, u14 71, u14 72, u14 73, u14 74, u14 75, u14 76, u14 77, u14 78, u14 79, u14 80, u14 81, u14 82, u14 83, u14 84, Z3, Z3, Z3, Z3, Z3, Z3, Z3, Z3, Z3, Z3, Z3, Z3, Z3, Z3, Z3, Z3, Z3, Z3, Z3, Z3, Z3, Z3, Z3, Z3, Z3, Z3, Z3, Z3, Z3, Z3, Z3, Z3, Z3, Z3, Z3, Z3, Z3, Z3, Z3, Z3, Z3, Z3, Z3, Z3, Z3, Z3, Z3, Z3, Z3, Z3, Z3, Z3, Z3, Z3, Z3, Z3, Z3, Z3, Z3, Z3, Z3, Z3, Z3, Z3, Z3, Z3, Z3, Z3, Z3, Z3, Z3, Z3, Z3, Z3, Z3, Z3, Z3, Z3, Z3, Z3, Z3, Z3, Z3, Z3, Z3, Z3, Z3, Z3, Z3, Z3, Z3, Z3, Z3, Z3, Z3, Z3, Z3, Z3], defers := [] } ∧ Mem [] w W9 [⟨g5, 8, [(0, [.int .u32 0, .int .u32 0, .int .u32 0, .int .u32 0, .int .u32 0, .int .u32 0, .int .u32 0, .int .u32 0])]⟩, ⟨g3, 8, [(0, [.int .u32 ((h.a : Nat) : Int), .int .u32 ((h.b : Nat) : Int), .int .u32 ((h.c : Nat) : Int), .int .u32 ((h.d : Nat) : Int), .int .u32 ((h.e : Nat) : Int), .int .u32 ((h.f : Nat) : Int), .int .u32 ((h.g : Nat) : Int), .int .u32 ((h.h : Nat) : Int)])]⟩, ⟨gw, gwc, [(0, wl32 l t)]⟩] ∧ t ≤ gwc ∧ (t ≤ 64)) (64 - (0)) ?_ (fun n9 a9 W9 hI => ?_)
 ·
  exact ⟨0, g9, 0, (fun q9 => (#[Z3, Z3, Z3, Z3, Z3, Z3, Z3, Z3, Z3, Z3, Z3, Z3, Z3, Z3, Z3, Z3, Z3, Z3, Z3, Z3, Z3, Z3, Z3, Z3, Z3, Z3, Z3, Z3, Z3, Z3, Z3, Z3, Z3, Z3, Z3, Z3, Z3, Z3, Z3, Z3, Z3, Z3, Z3, Z3, Z3, Z3, Z3, Z3, Z3, Z3, Z3, Z3, Z3, Z3, Z3, Z3, Z3, Z3, Z3, Z3, Z3, Z3, Z3, Z3, Z3, Z3, Z3, Z3, Z3, Z3, Z3, Z3, Z3, Z3, Z3, Z3, Z3, Z3, Z3, Z3, Z3, Z3, Z3, Z3, Z3] : Array Value).getD q9 Z3), rfl, rfl, (M.pick [1, 2, 0] (by decide) rfl), (Nat.le_refl _), (by omega)⟩
 clear M
 obtain ⟨t, gw, gwc, u14, rfl, rfl, M, Cgw, ht4⟩ := hI
 obtain ⟨w15, rfl⟩ : ∃ W8, W8 = W9 := ⟨_, rfl⟩
 refine Z4 (fun K16 hK16 => ?_)
 refine Z4 (fun K17 hK17 => ?_)
 refine Z8 ?_
 refine Z12 (v := .int .i64 ((t : Nat) : Int)) (by rfl) (by rfl) (by rfl) ?_
 simp only [Z7,Z0]
 refine Z11 1 (by rfl) (fun Lk hLk => ?_)
 simp only [Z1,Z2]
 refine Z15 (v := .bool (decide (t < 64))) (by rfl) rfl rfl rfl (fun W => run_lssN t 64 _ _ W) ?_
 simp only [Z7,Z0]
 refine Z14 (hLk _ (fun w19 Sw19 => ?_))
 clear hLk Lk
 simp only [Z1,Z2]
 replace M := M.sees Sw19
 refine Z9 (Z10 ?_)
 refine hK17 _ _ ?_
 cases hc20 : (decide (t < 64))
 ·
  have et : t = 64 := by have := of_decide_eq_false hc20; omega
  subst et
  refine Z6 rfl ?_
  refine wp_exit ?_
  refine hK11 _ _ ?_
  refine Z4 (fun K21 hK21 => ?_)
  refine Z8 ?_
  refine Z11 1 (by rfl) (fun Lk hLk => ?_)
  simp only [Z1,Z2]
  refine wpV_load (cs := [.int .u32 ((h.a : Nat) : Int), .int .u32 ((h.b : Nat) : Int), .int .u32 ((h.c : Nat) : Int), .int .u32 ((h.d : Nat) : Int), .int .u32 ((h.e : Nat) : Int), .int .u32 ((h.f : Nat) : Int), .int .u32 ((h.g : Nat) : Int), .int .u32 ((h.h : Nat) : Int)]) (by rfl) rfl rfl (M.r 1 0 rfl rfl) (M.lt 1 rfl) Tryd.underlying26 rfl info26 ?_
  simp only [Z7,Z0]
  refine Z14 (hLk _ (fun w23 Sw23 => ?_))
  clear hLk Lk
  simp only [Z1,Z2]
  replace M := M.sees Sw23
  refine wpL_var (t := 26) (cs := [.int .u32 0, .int .u32 0, .int .u32 0, .int .u32 0, .int .u32 0, .int .u32 0, .int .u32 0, .int .u32 0]) (by rfl) (fun W => ?_) (fun g24 w25 Sw25 Hg24 Bg24 => ?_)
  ·
   go_simp
  replace M := ((M.sees Sw25).add (N := 8) (cs := [.int .u32 0, .int .u32 0, .int .u32 0, .int .u32 0, .int .u32 0, .int .u32 0, .int .u32 0, .int .u32 0]) (M.ge Hg24) (M.fresh Hg24) Bg24 rfl)
  clear Bg24
  simp only [Z7,Z0]
  refine wpL_store (g := g24) (off := 0) (n := 8) (cs := [.int .u32 ((h.a : Nat) : Int), .int .u32 ((h.b : Nat) : Int), .int .u32 ((h.c : Nat) : Int), .int .u32 ((h.d : Nat) : Int), .int .u32 ((h.e : Nat) : Int), .int .u32 ((h.f : Nat) : Int), .int .u32 ((h.g : Nat) : Int), .int .u32 ((h.h : Nat) : Int)]) (by rfl) (by rfl) (by rfl) (by rfl) (by rfl) (M.t 0 rfl) (by simp [flen]) info26 (by simp [fone, Value.oneCell']) (fun w26 P R T => ?_)
  replace M := M.putS 0 0 rfl P R T rfl ⟨.inl rfl, trivial⟩
  simp only [Z0] at M
  refine Z9 (Z10 ?_)
  refine hK21 _ _ ?_
  refine Z4 (fun K27 hK27 => ?_)
  refine Z4 (fun K28 hK28 => ?_)
  refine Z8 ?_
  refine Z13 (v := .int .i64 0) (by rfl) (by rfl) (by rfl) ?_
  simp only [Z7,Z0]
  refine Z9 (Z10 ?_)
  refine hK28 _ _ ?_
  refine wp_block ?_
  refine wp_loop_ghost (fun n9 a9 W9 => ∃ (u : Nat) (v : S8) (u30 : Nat → Value), n9 = 64 - u ∧ a9 = { tmps := #[.agg ([.int .u32 ((h.a : Nat) : Int), .int .u32 ((h.b : Nat) : Int), .int .u32 ((h.c : Nat) : Int), .int .u32 ((h.d : Nat) : Int), .int .u32 ((h.e : Nat) : Int), .int .u32 ((h.f : Nat) : Int), .int .u32 ((h.g : Nat) : Int), .int .u32 ((h.h : Nat) : Int)]).toArray, .string (bs l), .slice (some ⟨gk, 0, none⟩) 64 ck, .pointer (some ⟨g3, 0, none⟩), Z3, Z3, .pointer (some ⟨g5, 0, none⟩), .slice (some ⟨gw, 0, none⟩) 64 gwc, .int .i64 ((64 : Nat) : Int), u14 9, u14 10, u14 11, u14 12, .pointer (some ⟨g24, 0, none⟩), .int .i64 ((u : Nat) : Int), u30 15, u30 16, u30 17, u30 18, u30 19, Z3, .slice (some ⟨g9, 0, none⟩) 0 0, .int .i64 ((64 : Nat) : Int), .bool false, u14 24, u14 25, u14 26, u14 27, u14 28, u14 29, u14 30, u14 31, u14 32, u14 33, u14 34, u14 35, u14 36, u14 37, u14 38, u14 39, u14 40, u14 41, u14 42, u14 43, u14 44, u14 45, u14 46, u14 47, u14 48, u14 49, u14 50, u14 51, u14 52, u14 53, u14 54, u14 55, u14 56, u14 57, u14 58, u14 59, u14 60, u14 61, u14 62, u14 63, u14 64, u14 65, u14 66, u14 67, u14 68, u14 69, u14 70, u14 71, u14 72, u14 73, u14 74, u14 75, u14 76, u14 77, u14 78, u14 79, u14 80, u14 81, u14 82, u14 83, u14 84, .agg ([.int .u32 ((h.a : Nat) : Int), .int .u32 ((h.b : Nat) : Int), .int .u32 ((h.c : Nat) : Int), .int .u32 ((h.d : Nat) : Int), .int .u32 ((h.e : Nat) : Int), .int .u32 ((h.f : Nat) : Int), .int .u32 ((h.g : Nat) : Int), .int .u32 ((h.h : Nat) : Int)]).toArray, u30 86, u30 87, u30 88, u30 89, u30 90, u30 91, u30 92, u30 93, u30 94, u30 95, u30 96, u30 97, u30 98, u30 99, u30 100, u30 101, u30 102, u30 103, u30 104, u30 105, u30 106, u30 107, u30 108, u30 109, u30 110, u30 111, u30 112, u30 113, u30 114, u30 115, u30 116, u30 117, u30 118, u30 119, u30 120, u30 121, u30 122, u30 123, u30 124, u30 125, u30 126, u30 127, u30 128, u30 129, u30 130, u30 131, u30 132, u30 133, u30 134, u30 135, u30 136, u30 137, u30 138, u30 139, u30 140, u30 141, u30 142, u30 143, u30 144, u30 145, u30 146, u30 147, u30 148, u30 149, u30 150, u30 151, u30 152, u30 153, u30 154, u30 155, u30 156, u30 157, u30 158, u30 159, u30 160, u30 161, u30 162, u30 163, u30 164, u30 165, u30 166, u30 167, u30 168, Z3, Z3, Z3, Z3, Z3, Z3, Z3, Z3, Z3, Z3, Z3, Z3, Z3, Z3], defers := [] } ∧ Mem [] w W9 [⟨g24, 8, [(0, [.int .u32 ((v.a : Nat) : Int), .int .u32 ((v.b : Nat) : Int), .int .u32 ((v.c : Nat) : Int), .int .u32 ((v.d : Nat) : Int), .int .u32 ((v.e : Nat) : Int), .int .u32 ((v.f : Nat) : Int), .int .u32 ((v.g : Nat) : Int), .int .u32 ((v.h : Nat) : Int)])]⟩, ⟨g5, 8, [(0, [.int .u32 0, .int .u32 0, .int .u32 0, .int .u32 0, .int .u32 0, .int .u32 0, .int .u32 0, .int .u32 0])]⟩, ⟨g3, 8, [(0, [.int .u32 ((h.a : Nat) : Int), .int .u32 ((h.b : Nat) : Int), .int .u32 ((h.c : Nat) : Int), .int .u32 ((h.d : Nat) : Int), .int .u32 ((h.e : Nat) : Int), .int .u32 ((h.f : Nat) : Int), .int .u32 ((h.g : Nat) : Int), .int .u32 ((h.h : Nat) : Int)])]⟩, ⟨gw, gwc, [(0, wl32 l 64)]⟩] ∧ (u ≤ 64) ∧ (v = rnds l h u)) (64 - (0)) ?_ (fun n9 a9 W9 hI => ?_)
  ·
   exact ⟨0, h, (fun q9 => (#[Z3, Z3, Z3, Z3, Z3, Z3, Z3, Z3, Z3, Z3, Z3, Z3, Z3, Z3, Z3, Z3, Z3, Z3, Z3, Z3, Z3, Z3, Z3, Z3, Z3, Z3, Z3, Z3, Z3, Z3, Z3, Z3, Z3, Z3, Z3, Z3, Z3, Z3, Z3, Z3, Z3, Z3, Z3, Z3, Z3, Z3, Z3, Z3, Z3, Z3, Z3, Z3, Z3, Z3, Z3, Z3, Z3, Z3, Z3, Z3, Z3, Z3, Z3, Z3, Z3, Z3, Z3, Z3, Z3, Z3, Z3, Z3, Z3, Z3, Z3, Z3, Z3, Z3, Z3, Z3, Z3, Z3, Z3, Z3, Z3, Z3, Z3, Z3, Z3, Z3, Z3, Z3, Z3, Z3, Z3, Z3, Z3, Z3, Z3, Z3, Z3, Z3, Z3, Z3, Z3, Z3, Z3, Z3, Z3, Z3, Z3, Z3, Z3, Z3, Z3, Z3, Z3, Z3, Z3, Z3, Z3, Z3, Z3, Z3, Z3, Z3, Z3, Z3, Z3, Z3, Z3, Z3, Z3, Z3, Z3, Z3, Z3, Z3, Z3, Z3, Z3, Z3, Z3, Z3, Z3, Z3, Z3, Z3, Z3, Z3, Z3, Z3, Z3, Z3, Z3, Z3, Z3, Z3, Z3, Z3, Z3, Z3, Z3, Z3, Z3, Z3, Z3, Z3, Z3] : Array Value).getD q9 Z3), rfl, rfl, M, (by omega), rfl⟩
  clear M
  obtain ⟨u, v, u30, rfl, rfl, M, hu4, hv⟩ := hI
  obtain ⟨w31, rfl⟩ : ∃ W8, W8 = W9 := ⟨_, rfl⟩
  have hok : v.Ok := hv ▸ rnds_ok hh u
  refine Z4 (fun K32 hK32 => ?_)
  refine Z4 (fun K33 hK33 => ?_)
  refine Z8 ?_
  refine Z12 (v := .int .i64 ((u : Nat) : Int)) (by rfl) (by rfl) (by rfl) ?_
  simp only [Z7,Z0]
  refine Z11 1 (by rfl) (fun Lk hLk => ?_)
  simp only [Z1,Z2]
  refine Z15 (v := .bool (decide (u < 64))) (by rfl) rfl rfl rfl (fun W => run_lssN u 64 _ _ W) ?_
  simp only [Z7,Z0]
  refine Z14 (hLk _ (fun w35 Sw35 => ?_))
  clear hLk Lk
  simp only [Z1,Z2]
  replace M := M.sees Sw35
  refine Z9 (Z10 ?_)
  refine hK33 _ _ ?_
  cases hc36 : (decide (u < 64))
  ·
   have eu : u = 64 := by have := of_decide_eq_false hc36; omega
   subst eu
   subst hv
   refine Z6 rfl ?_
   refine wp_exit ?_
   refine hK27 _ _ ?_
   refine Z4 (fun K37 hK37 => ?_)
   refine Z4 (fun K38 hK38 => ?_)
   refine Z8 ?_
   refine Z13 (v := .int .i64 0) (by rfl) (by rfl) (by rfl) ?_
   simp only [Z7,Z0]
   refine Z9 (Z10 ?_)
   refine hK38 _ _ ?_
   refine wp_block ?_
   refine wp_loop_rounds 9 ?_
   rw [rounds_succ]
   refine Z4 (fun K40 hK40 => ?_)
   refine Z4 (fun K41 hK41 => ?_)
   refine Z8 ?_
   refine Z12 (v := .int .i64 0) (by rfl) (by rfl) (by rfl) ?_
   simp only [Z7,Z0]
   refine Z11 1 (by rfl) (fun Lk hLk => ?_)
   simp only [Z1,Z2]
   refine Z15 (v := .bool true) (by rfl) rfl rfl rfl (fun W => run_lss _ _ _ _ W) ?_
   simp only [Z7,Z0]
   refine Z14 (hLk _ (fun w43 Sw43 => ?_))
   clear hLk Lk
   simp only [Z1,Z2]
   replace M := M.sees Sw43
   refine Z9 (Z10 ?_)
   refine hK41 _ _ ?_
   refine Z5 rfl ?_
   refine wp_skip ?_
   refine hK40 _ _ ?_
   refine Z4 (fun K44 hK44 => ?_)
   refine wp_block ?_
   refine wp_region_grow 9 [] (by kernel_rfl) (by kernel_rfl) (by kernel_rfl) (fun Lk hLk => ?_)
   simp only [Z1,Z2]
   refine Z16 (v := .int .i64 0) (by rfl) rfl rfl ?_
   simp only [Z7,Z0]
   refine Z16 (v := .int .i64 0) (by rfl) rfl rfl ?_
   simp only [Z7,Z0]
   refine Z19 (v := .pointer (some ⟨g3, 0, none⟩)) (by rfl) (by rfl) (fun W hW => ?_) ?_
   ·
    (go_simp; exact rfl)
   simp only [Z7,Z0]
   refine wpV_load1 (v := .int .u32 ((h.a : Nat) : Int)) (by rfl) rfl rfl (range_one (range_sub (M.r 2 0 rfl rfl) 0 1 0 (xs := [.int .u32 ((h.a : Nat) : Int)]) rfl rfl)) (M.lt 2 rfl) Tryd.underlying25 rfl ?_
   simp only [Z7,Z0]
   refine Z16 (v := .int .i64 0) (by rfl) rfl rfl ?_
   simp only [Z7,Z0]
   refine Z19 (v := .pointer (some ⟨g24, 0, none⟩)) (by rfl) (by rfl) (fun W hW => ?_) ?_
   ·
    (go_simp; exact rfl)
   simp only [Z7,Z0]
   refine wpV_load1 (v := .int .u32 (((rnds l h 64).a : Nat) : Int)) (by rfl) rfl rfl (range_one (range_sub (M.r 0 0 rfl rfl) 0 1 0 (xs := [.int .u32 (((rnds l h 64).a : Nat) : Int)]) rfl rfl)) (M.lt 0 rfl) Tryd.underlying25 rfl ?_
   simp only [Z7,Z0]
   refine Z15 (v := .int .u32 (((h.a + ((rnds l h 64).a)) % 4294967296 : Nat) : Int)) (by rfl) rfl rfl rfl (fun W => nr_add32 _ h.a ((rnds l h 64).a) W) ?_
   simp only [Z7,Z0]
   refine Z19 (v := .pointer (some ⟨g3, 0, none⟩)) (by rfl) (by rfl) (fun W hW => ?_) ?_
   ·
    (go_simp; exact rfl)
   simp only [Z7,Z0]
   refine Z14 (hLk.out _ ?_)
   clear hLk Lk
   simp only [Z1,Z2]
   iterate 9 refine wpN_skip (by rfl) ?_
   refine wpN_nil (fun w46 Sw46 hbs => ?_)
   clear hbs
   replace M := M.sees Sw46
   refine Z18 (g := g3) (off := 0) (n := 8) (v := .int .u32 (((h.a + ((rnds l h 64).a)) % 4294967296 : Nat) : Int)) (by rfl) (by rfl) (by rfl) (by rfl) (by rfl) (M.t 2 rfl) (by decide) info25 rfl (fun w47 P R T => ?_)
   replace M := M.put1 (j := 0) 2 rfl P R T rfl
   simp only [Z0] at M
   refine Z9 (Z10 ?_)
   refine hK44 _ _ ?_
   refine Z8 ?_
   refine Z12 (v := .int .i64 0) (by rfl) (by rfl) (by rfl) ?_
   simp only [Z7,Z0]
   refine Z11 1 (by rfl) (fun Lk hLk => ?_)
   simp only [Z1,Z2]
   refine Z15 (v := .int .i64 1) (by rfl) rfl rfl rfl (fun W => run_add (by decide) W) ?_
   simp only [Z7,Z0]
   refine Z14 (hLk _ (fun w49 Sw49 => ?_))
   clear hLk Lk
   simp only [Z1,Z2]
   replace M := M.sees Sw49
   refine Z13 (v := .int .i64 1) (by rfl) (by rfl) (by rfl) ?_
   simp only [Z7,Z0]
   refine Z9 (Z10 ?_)
   refine Z17 (Q := fun _ _ _ => True) ?_
   rw [rounds_succ]
   refine Z4 (fun K50 hK50 => ?_)
   refine Z4 (fun K51 hK51 => ?_)
   refine Z8 ?_
   refine Z12 (v := .int .i64 1) (by rfl) (by rfl) (by rfl) ?_
   simp only [Z7,Z0]
   refine Z11 1 (by rfl) (fun Lk hLk => ?_)
   simp only [Z1,Z2]
   refine Z15 (v := .bool true) (by rfl) rfl rfl rfl (fun W => run_lss _ _ _ _ W) ?_
   simp only [Z7,Z0]
   refine Z14 (hLk _ (fun w53 Sw53 => ?_))
   clear hLk Lk
   simp only [Z1,Z2]
   replace M := M.sees Sw53
   refine Z9 (Z10 ?_)
   refine hK51 _ _ ?_
   refine Z5 rfl ?_
   refine wp_skip ?_
   refine hK50 _ _ ?_
   refine Z4 (fun K54 hK54 => ?_)
   refine wp_block ?_
   refine wp_region_grow 9 [] (by kernel_rfl) (by kernel_rfl) (by kernel_rfl) (fun Lk hLk => ?_)
   simp only [Z1,Z2]
   refine Z16 (v := .int .i64 1) (by rfl) rfl rfl ?_
   simp only [Z7,Z0]
   refine Z16 (v := .int .i64 1) (by rfl) rfl rfl ?_
   simp only [Z7,Z0]
   refine Z19 (v := .pointer (some ⟨g3, 1, none⟩)) (by rfl) (by rfl) (fun W hW => ?_) ?_
   ·
    (go_simp; exact rfl)
   simp only [Z7,Z0]
   refine wpV_load1 (v := .int .u32 ((h.b : Nat) : Int)) (by rfl) rfl rfl (range_one (range_sub (M.r 2 0 rfl rfl) 1 1 1 (xs := [.int .u32 ((h.b : Nat) : Int)]) rfl rfl)) (M.lt 2 rfl) Tryd.underlying25 rfl ?_
   simp only [Z7,Z0]
   refine Z16 (v := .int .i64 1) (by rfl) rfl rfl ?_
   simp only [Z7,Z0]
   refine Z19 (v := .pointer (some ⟨g24, 1, none⟩)) (by rfl) (by rfl) (fun W hW => ?_) ?_
   ·
    (go_simp; exact rfl)
   simp only [Z7,Z0]
   refine wpV_load1 (v := .int .u32 (((rnds l h 64).b : Nat) : Int)) (by rfl) rfl rfl (range_one (range_sub (M.r 0 0 rfl rfl) 1 1 1 (xs := [.int .u32 (((rnds l h 64).b : Nat) : Int)]) rfl rfl)) (M.lt 0 rfl) Tryd.underlying25 rfl ?_
   simp only [Z7,Z0]
   refine Z15 (v := .int .u32 (((h.b + ((rnds l h 64).b)) % 4294967296 : Nat) : Int)) (by rfl) rfl rfl rfl (fun W => nr_add32 _ h.b ((rnds l h 64).b) W) ?_
   simp only [Z7,Z0]
   refine Z19 (v := .pointer (some ⟨g3, 1, none⟩)) (by rfl) (by rfl) (fun W hW => ?_) ?_
   ·
    (go_simp; exact rfl)
   simp only [Z7,Z0]
   refine Z14 (hLk.out _ ?_)
   clear hLk Lk
   simp only [Z1,Z2]
   iterate 9 refine wpN_skip (by rfl) ?_
   refine wpN_nil (fun w56 Sw56 hbs => ?_)
   clear hbs
   replace M := M.sees Sw56
   refine Z18 (g := g3) (off := 1) (n := 8) (v := .int .u32 (((h.b + ((rnds l h 64).b)) % 4294967296 : Nat) : Int)) (by rfl) (by rfl) (by rfl) (by rfl) (by rfl) (M.t 2 rfl) (by decide) info25 rfl (fun w57 P R T => ?_)
   replace M := M.put1 (j := 1) 2 rfl P R T rfl
   simp only [Z0] at M
   refine Z9 (Z10 ?_)
   refine hK54 _ _ ?_
   refine Z8 ?_
   refine Z12 (v := .int .i64 1) (by rfl) (by rfl) (by rfl) ?_
   simp only [Z7,Z0]
   refine Z11 1 (by rfl) (fun Lk hLk => ?_)
   simp only [Z1,Z2]
   refine Z15 (v := .int .i64 2) (by rfl) rfl rfl rfl (fun W => run_add (by decide) W) ?_
   simp only [Z7,Z0]
   refine Z14 (hLk _ (fun w59 Sw59 => ?_))
   clear hLk Lk
   simp only [Z1,Z2]
   replace M := M.sees Sw59
   refine Z13 (v := .int .i64 2) (by rfl) (by rfl) (by rfl) ?_
   simp only [Z7,Z0]
   refine Z9 (Z10 ?_)
   refine Z17 (Q := fun _ _ _ => True) ?_
   rw [rounds_succ]
   refine Z4 (fun K60 hK60 => ?_)
   refine Z4 (fun K61 hK61 => ?_)
   refine Z8 ?_
   refine Z12 (v := .int .i64 2) (by rfl) (by rfl) (by rfl) ?_
   simp only [Z7,Z0]
   refine Z11 1 (by rfl) (fun Lk hLk => ?_)
   simp only [Z1,Z2]
   refine Z15 (v := .bool true) (by rfl) rfl rfl rfl (fun W => run_lss _ _ _ _ W) ?_
   simp only [Z7,Z0]
   refine Z14 (hLk _ (fun w63 Sw63 => ?_))
   clear hLk Lk
   simp only [Z1,Z2]
   replace M := M.sees Sw63
   refine Z9 (Z10 ?_)
   refine hK61 _ _ ?_
   refine Z5 rfl ?_
   refine wp_skip ?_
   refine hK60 _ _ ?_
   refine Z4 (fun K64 hK64 => ?_)
   refine wp_block ?_
   refine wp_region_grow 9 [] (by kernel_rfl) (by kernel_rfl) (by kernel_rfl) (fun Lk hLk => ?_)
   simp only [Z1,Z2]
   refine Z16 (v := .int .i64 2) (by rfl) rfl rfl ?_
   simp only [Z7,Z0]
   refine Z16 (v := .int .i64 2) (by rfl) rfl rfl ?_
   simp only [Z7,Z0]
   refine Z19 (v := .pointer (some ⟨g3, 2, none⟩)) (by rfl) (by rfl) (fun W hW => ?_) ?_
   ·
    (go_simp; exact rfl)
   simp only [Z7,Z0]
   refine wpV_load1 (v := .int .u32 ((h.c : Nat) : Int)) (by rfl) rfl rfl (range_one (range_sub (M.r 2 0 rfl rfl) 2 1 2 (xs := [.int .u32 ((h.c : Nat) : Int)]) rfl rfl)) (M.lt 2 rfl) Tryd.underlying25 rfl ?_
   simp only [Z7,Z0]
   refine Z16 (v := .int .i64 2) (by rfl) rfl rfl ?_
   simp only [Z7,Z0]
   refine Z19 (v := .pointer (some ⟨g24, 2, none⟩)) (by rfl) (by rfl) (fun W hW => ?_) ?_
   ·
    (go_simp; exact rfl)
   simp only [Z7,Z0]
   refine wpV_load1 (v := .int .u32 (((rnds l h 64).c : Nat) : Int)) (by rfl) rfl rfl (range_one (range_sub (M.r 0 0 rfl rfl) 2 1 2 (xs := [.int .u32 (((rnds l h 64).c : Nat) : Int)]) rfl rfl)) (M.lt 0 rfl) Tryd.underlying25 rfl ?_
   simp only [Z7,Z0]
   refine Z15 (v := .int .u32 (((h.c + ((rnds l h 64).c)) % 4294967296 : Nat) : Int)) (by rfl) rfl rfl rfl (fun W => nr_add32 _ h.c ((rnds l h 64).c) W) ?_
   simp only [Z7,Z0]
   refine Z19 (v := .pointer (some ⟨g3, 2, none⟩)) (by rfl) (by rfl) (fun W hW => ?_) ?_
   ·
    (go_simp; exact rfl)
   simp only [Z7,Z0]
   refine Z14 (hLk.out _ ?_)
   clear hLk Lk
   simp only [Z1,Z2]
   iterate 9 refine wpN_skip (by rfl) ?_
   refine wpN_nil (fun w66 Sw66 hbs => ?_)
   clear hbs
   replace M := M.sees Sw66
   refine Z18 (g := g3) (off := 2) (n := 8) (v := .int .u32 (((h.c + ((rnds l h 64).c)) % 4294967296 : Nat) : Int)) (by rfl) (by rfl) (by rfl) (by rfl) (by rfl) (M.t 2 rfl) (by decide) info25 rfl (fun w67 P R T => ?_)
   replace M := M.put1 (j := 2) 2 rfl P R T rfl
   simp only [Z0] at M
   refine Z9 (Z10 ?_)
   refine hK64 _ _ ?_
   refine Z8 ?_
   refine Z12 (v := .int .i64 2) (by rfl) (by rfl) (by rfl) ?_
   simp only [Z7,Z0]
   refine Z11 1 (by rfl) (fun Lk hLk => ?_)
   simp only [Z1,Z2]
   refine Z15 (v := .int .i64 3) (by rfl) rfl rfl rfl (fun W => run_add (by decide) W) ?_
   simp only [Z7,Z0]
   refine Z14 (hLk _ (fun w69 Sw69 => ?_))
   clear hLk Lk
   simp only [Z1,Z2]
   replace M := M.sees Sw69
   refine Z13 (v := .int .i64 3) (by rfl) (by rfl) (by rfl) ?_
   simp only [Z7,Z0]
   refine Z9 (Z10 ?_)
   refine Z17 (Q := fun _ _ _ => True) ?_
   rw [rounds_succ]
   refine Z4 (fun K70 hK70 => ?_)
   refine Z4 (fun K71 hK71 => ?_)
   refine Z8 ?_
   refine Z12 (v := .int .i64 3) (by rfl) (by rfl) (by rfl) ?_
   simp only [Z7,Z0]
   refine Z11 1 (by rfl) (fun Lk hLk => ?_)
   simp only [Z1,Z2]
   refine Z15 (v := .bool true) (by rfl) rfl rfl rfl (fun W => run_lss _ _ _ _ W) ?_
   simp only [Z7,Z0]
   refine Z14 (hLk _ (fun w73 Sw73 => ?_))
   clear hLk Lk
   simp only [Z1,Z2]
   replace M := M.sees Sw73
   refine Z9 (Z10 ?_)
   refine hK71 _ _ ?_
   refine Z5 rfl ?_
   refine wp_skip ?_
   refine hK70 _ _ ?_
   refine Z4 (fun K74 hK74 => ?_)
   refine wp_block ?_
   refine wp_region_grow 9 [] (by kernel_rfl) (by kernel_rfl) (by kernel_rfl) (fun Lk hLk => ?_)
   simp only [Z1,Z2]
   refine Z16 (v := .int .i64 3) (by rfl) rfl rfl ?_
   simp only [Z7,Z0]
   refine Z16 (v := .int .i64 3) (by rfl) rfl rfl ?_
   simp only [Z7,Z0]
   refine Z19 (v := .pointer (some ⟨g3, 3, none⟩)) (by rfl) (by rfl) (fun W hW => ?_) ?_
   ·
    (go_simp; exact rfl)
   simp only [Z7,Z0]
   refine wpV_load1 (v := .int .u32 ((h.d : Nat) : Int)) (by rfl) rfl rfl (range_one (range_sub (M.r 2 0 rfl rfl) 3 1 3 (xs := [.int .u32 ((h.d : Nat) : Int)]) rfl rfl)) (M.lt 2 rfl) Tryd.underlying25 rfl ?_
   simp only [Z7,Z0]
   refine Z16 (v := .int .i64 3) (by rfl) rfl rfl ?_
   simp only [Z7,Z0]
   refine Z19 (v := .pointer (some ⟨g24, 3, none⟩)) (by rfl) (by rfl) (fun W hW => ?_) ?_
   ·
    (go_simp; exact rfl)
   simp only [Z7,Z0]
   refine wpV_load1 (v := .int .u32 (((rnds l h 64).d : Nat) : Int)) (by rfl) rfl rfl (range_one (range_sub (M.r 0 0 rfl rfl) 3 1 3 (xs := [.int .u32 (((rnds l h 64).d : Nat) : Int)]) rfl rfl)) (M.lt 0 rfl) Tryd.underlying25 rfl ?_
   simp only [Z7,Z0]
   refine Z15 (v := .int .u32 (((h.d + ((rnds l h 64).d)) % 4294967296 : Nat) : Int)) (by rfl) rfl rfl rfl (fun W => nr_add32 _ h.d ((rnds l h 64).d) W) ?_
   simp only [Z7,Z0]
   refine Z19 (v := .pointer (some ⟨g3, 3, none⟩)) (by rfl) (by rfl) (fun W hW => ?_) ?_
   ·
    (go_simp; exact rfl)
   simp only [Z7,Z0]
   refine Z14 (hLk.out _ ?_)
   clear hLk Lk
   simp only [Z1,Z2]
   iterate 9 refine wpN_skip (by rfl) ?_
   refine wpN_nil (fun w76 Sw76 hbs => ?_)
   clear hbs
   replace M := M.sees Sw76
   refine Z18 (g := g3) (off := 3) (n := 8) (v := .int .u32 (((h.d + ((rnds l h 64).d)) % 4294967296 : Nat) : Int)) (by rfl) (by rfl) (by rfl) (by rfl) (by rfl) (M.t 2 rfl) (by decide) info25 rfl (fun w77 P R T => ?_)
   replace M := M.put1 (j := 3) 2 rfl P R T rfl
   simp only [Z0] at M
   refine Z9 (Z10 ?_)
   refine hK74 _ _ ?_
   refine Z8 ?_
   refine Z12 (v := .int .i64 3) (by rfl) (by rfl) (by rfl) ?_
   simp only [Z7,Z0]
   refine Z11 1 (by rfl) (fun Lk hLk => ?_)
   simp only [Z1,Z2]
   refine Z15 (v := .int .i64 4) (by rfl) rfl rfl rfl (fun W => run_add (by decide) W) ?_
   simp only [Z7,Z0]
   refine Z14 (hLk _ (fun w79 Sw79 => ?_))
   clear hLk Lk
   simp only [Z1,Z2]
   replace M := M.sees Sw79
   refine Z13 (v := .int .i64 4) (by rfl) (by rfl) (by rfl) ?_
   simp only [Z7,Z0]
   refine Z9 (Z10 ?_)
   refine Z17 (Q := fun _ _ _ => True) ?_
   rw [rounds_succ]
   refine Z4 (fun K80 hK80 => ?_)
   refine Z4 (fun K81 hK81 => ?_)
   refine Z8 ?_
   refine Z12 (v := .int .i64 4) (by rfl) (by rfl) (by rfl) ?_
   simp only [Z7,Z0]
   refine Z11 1 (by rfl) (fun Lk hLk => ?_)
   simp only [Z1,Z2]
   refine Z15 (v := .bool true) (by rfl) rfl rfl rfl (fun W => run_lss _ _ _ _ W) ?_
   simp only [Z7,Z0]
   refine Z14 (hLk _ (fun w83 Sw83 => ?_))
   clear hLk Lk
   simp only [Z1,Z2]
   replace M := M.sees Sw83
   refine Z9 (Z10 ?_)
   refine hK81 _ _ ?_
   refine Z5 rfl ?_
   refine wp_skip ?_
   refine hK80 _ _ ?_
   refine Z4 (fun K84 hK84 => ?_)
   refine wp_block ?_
   refine wp_region_grow 9 [] (by kernel_rfl) (by kernel_rfl) (by kernel_rfl) (fun Lk hLk => ?_)
   simp only [Z1,Z2]
   refine Z16 (v := .int .i64 4) (by rfl) rfl rfl ?_
   simp only [Z7,Z0]
   refine Z16 (v := .int .i64 4) (by rfl) rfl rfl ?_
   simp only [Z7,Z0]
   refine Z19 (v := .pointer (some ⟨g3, 4, none⟩)) (by rfl) (by rfl) (fun W hW => ?_) ?_
   ·
    (go_simp; exact rfl)
   simp only [Z7,Z0]
   refine wpV_load1 (v := .int .u32 ((h.e : Nat) : Int)) (by rfl) rfl rfl (range_one (range_sub (M.r 2 0 rfl rfl) 4 1 4 (xs := [.int .u32 ((h.e : Nat) : Int)]) rfl rfl)) (M.lt 2 rfl) Tryd.underlying25 rfl ?_
   simp only [Z7,Z0]
   refine Z16 (v := .int .i64 4) (by rfl) rfl rfl ?_
   simp only [Z7,Z0]
   refine Z19 (v := .pointer (some ⟨g24, 4, none⟩)) (by rfl) (by rfl) (fun W hW => ?_) ?_
   ·
    (go_simp; exact rfl)
   simp only [Z7,Z0]
   refine wpV_load1 (v := .int .u32 (((rnds l h 64).e : Nat) : Int)) (by rfl) rfl rfl (range_one (range_sub (M.r 0 0 rfl rfl) 4 1 4 (xs := [.int .u32 (((rnds l h 64).e : Nat) : Int)]) rfl rfl)) (M.lt 0 rfl) Tryd.underlying25 rfl ?_
   simp only [Z7,Z0]
   refine Z15 (v := .int .u32 (((h.e + ((rnds l h 64).e)) % 4294967296 : Nat) : Int)) (by rfl) rfl rfl rfl (fun W => nr_add32 _ h.e ((rnds l h 64).e) W) ?_
   simp only [Z7,Z0]
   refine Z19 (v := .pointer (some ⟨g3, 4, none⟩)) (by rfl) (by rfl) (fun W hW => ?_) ?_
   ·
    (go_simp; exact rfl)
   simp only [Z7,Z0]
   refine Z14 (hLk.out _ ?_)
   clear hLk Lk
   simp only [Z1,Z2]
   iterate 9 refine wpN_skip (by rfl) ?_
   refine wpN_nil (fun w86 Sw86 hbs => ?_)
   clear hbs
   replace M := M.sees Sw86
   refine Z18 (g := g3) (off := 4) (n := 8) (v := .int .u32 (((h.e + ((rnds l h 64).e)) % 4294967296 : Nat) : Int)) (by rfl) (by rfl) (by rfl) (by rfl) (by rfl) (M.t 2 rfl) (by decide) info25 rfl (fun w87 P R T => ?_)
   replace M := M.put1 (j := 4) 2 rfl P R T rfl
   simp only [Z0] at M
   refine Z9 (Z10 ?_)
   refine hK84 _ _ ?_
   refine Z8 ?_
   refine Z12 (v := .int .i64 4) (by rfl) (by rfl) (by rfl) ?_
   simp only [Z7,Z0]
   refine Z11 1 (by rfl) (fun Lk hLk => ?_)
   simp only [Z1,Z2]
   refine Z15 (v := .int .i64 5) (by rfl) rfl rfl rfl (fun W => run_add (by decide) W) ?_
   simp only [Z7,Z0]
   refine Z14 (hLk _ (fun w89 Sw89 => ?_))
   clear hLk Lk
   simp only [Z1,Z2]
   replace M := M.sees Sw89
   refine Z13 (v := .int .i64 5) (by rfl) (by rfl) (by rfl) ?_
   simp only [Z7,Z0]
   refine Z9 (Z10 ?_)
   refine Z17 (Q := fun _ _ _ => True) ?_
   rw [rounds_succ]
   refine Z4 (fun K90 hK90 => ?_)
   refine Z4 (fun K91 hK91 => ?_)
   refine Z8 ?_
   refine Z12 (v := .int .i64 5) (by rfl) (by rfl) (by rfl) ?_
   simp only [Z7,Z0]
   refine Z11 1 (by rfl) (fun Lk hLk => ?_)
   simp only [Z1,Z2]
   refine Z15 (v := .bool true) (by rfl) rfl rfl rfl (fun W => run_lss _ _ _ _ W) ?_
   simp only [Z7,Z0]
   refine Z14 (hLk _ (fun w93 Sw93 => ?_))
   clear hLk Lk
   simp only [Z1,Z2]
   replace M := M.sees Sw93
   refine Z9 (Z10 ?_)
   refine hK91 _ _ ?_
   refine Z5 rfl ?_
   refine wp_skip ?_
   refine hK90 _ _ ?_
   refine Z4 (fun K94 hK94 => ?_)
   refine wp_block ?_
   refine wp_region_grow 9 [] (by kernel_rfl) (by kernel_rfl) (by kernel_rfl) (fun Lk hLk => ?_)
   simp only [Z1,Z2]
   refine Z16 (v := .int .i64 5) (by rfl) rfl rfl ?_
   simp only [Z7,Z0]
   refine Z16 (v := .int .i64 5) (by rfl) rfl rfl ?_
   simp only [Z7,Z0]
   refine Z19 (v := .pointer (some ⟨g3, 5, none⟩)) (by rfl) (by rfl) (fun W hW => ?_) ?_
   ·
    (go_simp; exact rfl)
   simp only [Z7,Z0]
   refine wpV_load1 (v := .int .u32 ((h.f : Nat) : Int)) (by rfl) rfl rfl (range_one (range_sub (M.r 2 0 rfl rfl) 5 1 5 (xs := [.int .u32 ((h.f : Nat) : Int)]) rfl rfl)) (M.lt 2 rfl) Tryd.underlying25 rfl ?_
   simp only [Z7,Z0]
   refine Z16 (v := .int .i64 5) (by rfl) rfl rfl ?_
   simp only [Z7,Z0]
   refine Z19 (v := .pointer (some ⟨g24, 5, none⟩)) (by rfl) (by rfl) (fun W hW => ?_) ?_
   ·
    (go_simp; exact rfl)
   simp only [Z7,Z0]
   refine wpV_load1 (v := .int .u32 (((rnds l h 64).f : Nat) : Int)) (by rfl) rfl rfl (range_one (range_sub (M.r 0 0 rfl rfl) 5 1 5 (xs := [.int .u32 (((rnds l h 64).f : Nat) : Int)]) rfl rfl)) (M.lt 0 rfl) Tryd.underlying25 rfl ?_
   simp only [Z7,Z0]
   refine Z15 (v := .int .u32 (((h.f + ((rnds l h 64).f)) % 4294967296 : Nat) : Int)) (by rfl) rfl rfl rfl (fun W => nr_add32 _ h.f ((rnds l h 64).f) W) ?_
   simp only [Z7,Z0]
   refine Z19 (v := .pointer (some ⟨g3, 5, none⟩)) (by rfl) (by rfl) (fun W hW => ?_) ?_
   ·
    (go_simp; exact rfl)
   simp only [Z7,Z0]
   refine Z14 (hLk.out _ ?_)
   clear hLk Lk
   simp only [Z1,Z2]
   iterate 9 refine wpN_skip (by rfl) ?_
   refine wpN_nil (fun w96 Sw96 hbs => ?_)
   clear hbs
   replace M := M.sees Sw96
   refine Z18 (g := g3) (off := 5) (n := 8) (v := .int .u32 (((h.f + ((rnds l h 64).f)) % 4294967296 : Nat) : Int)) (by rfl) (by rfl) (by rfl) (by rfl) (by rfl) (M.t 2 rfl) (by decide) info25 rfl (fun w97 P R T => ?_)
   replace M := M.put1 (j := 5) 2 rfl P R T rfl
   simp only [Z0] at M
   refine Z9 (Z10 ?_)
   refine hK94 _ _ ?_
   refine Z8 ?_
   refine Z12 (v := .int .i64 5) (by rfl) (by rfl) (by rfl) ?_
   simp only [Z7,Z0]
   refine Z11 1 (by rfl) (fun Lk hLk => ?_)
   simp only [Z1,Z2]
   refine Z15 (v := .int .i64 6) (by rfl) rfl rfl rfl (fun W => run_add (by decide) W) ?_
   simp only [Z7,Z0]
   refine Z14 (hLk _ (fun w99 Sw99 => ?_))
   clear hLk Lk
   simp only [Z1,Z2]
   replace M := M.sees Sw99
   refine Z13 (v := .int .i64 6) (by rfl) (by rfl) (by rfl) ?_
   simp only [Z7,Z0]
   refine Z9 (Z10 ?_)
   refine Z17 (Q := fun _ _ _ => True) ?_
   rw [rounds_succ]
   refine Z4 (fun K100 hK100 => ?_)
   refine Z4 (fun K101 hK101 => ?_)
   refine Z8 ?_
   refine Z12 (v := .int .i64 6) (by rfl) (by rfl) (by rfl) ?_
   simp only [Z7,Z0]
   refine Z11 1 (by rfl) (fun Lk hLk => ?_)
   simp only [Z1,Z2]
   refine Z15 (v := .bool true) (by rfl) rfl rfl rfl (fun W => run_lss _ _ _ _ W) ?_
   simp only [Z7,Z0]
   refine Z14 (hLk _ (fun w103 Sw103 => ?_))
   clear hLk Lk
   simp only [Z1,Z2]
   replace M := M.sees Sw103
   refine Z9 (Z10 ?_)
   refine hK101 _ _ ?_
   refine Z5 rfl ?_
   refine wp_skip ?_
   refine hK100 _ _ ?_
   refine Z4 (fun K104 hK104 => ?_)
   refine wp_block ?_
   refine wp_region_grow 9 [] (by kernel_rfl) (by kernel_rfl) (by kernel_rfl) (fun Lk hLk => ?_)
   simp only [Z1,Z2]
   refine Z16 (v := .int .i64 6) (by rfl) rfl rfl ?_
   simp only [Z7,Z0]
   refine Z16 (v := .int .i64 6) (by rfl) rfl rfl ?_
   simp only [Z7,Z0]
   refine Z19 (v := .pointer (some ⟨g3, 6, none⟩)) (by rfl) (by rfl) (fun W hW => ?_) ?_
   ·
    (go_simp; exact rfl)
   simp only [Z7,Z0]
   refine wpV_load1 (v := .int .u32 ((h.g : Nat) : Int)) (by rfl) rfl rfl (range_one (range_sub (M.r 2 0 rfl rfl) 6 1 6 (xs := [.int .u32 ((h.g : Nat) : Int)]) rfl rfl)) (M.lt 2 rfl) Tryd.underlying25 rfl ?_
   simp only [Z7,Z0]
   refine Z16 (v := .int .i64 6) (by rfl) rfl rfl ?_
   simp only [Z7,Z0]
   refine Z19 (v := .pointer (some ⟨g24, 6, none⟩)) (by rfl) (by rfl) (fun W hW => ?_) ?_
   ·
    (go_simp; exact rfl)
   simp only [Z7,Z0]
   refine wpV_load1 (v := .int .u32 (((rnds l h 64).g : Nat) : Int)) (by rfl) rfl rfl (range_one (range_sub (M.r 0 0 rfl rfl) 6 1 6 (xs := [.int .u32 (((rnds l h 64).g : Nat) : Int)]) rfl rfl)) (M.lt 0 rfl) Tryd.underlying25 rfl ?_
   simp only [Z7,Z0]
   refine Z15 (v := .int .u32 (((h.g + ((rnds l h 64).g)) % 4294967296 : Nat) : Int)) (by rfl) rfl rfl rfl (fun W => nr_add32 _ h.g ((rnds l h 64).g) W) ?_
   simp only [Z7,Z0]
   refine Z19 (v := .pointer (some ⟨g3, 6, none⟩)) (by rfl) (by rfl) (fun W hW => ?_) ?_
   ·
    (go_simp; exact rfl)
   simp only [Z7,Z0]
   refine Z14 (hLk.out _ ?_)
   clear hLk Lk
   simp only [Z1,Z2]
   iterate 9 refine wpN_skip (by rfl) ?_
   refine wpN_nil (fun w106 Sw106 hbs => ?_)
   clear hbs
   replace M := M.sees Sw106
   refine Z18 (g := g3) (off := 6) (n := 8) (v := .int .u32 (((h.g + ((rnds l h 64).g)) % 4294967296 : Nat) : Int)) (by rfl) (by rfl) (by rfl) (by rfl) (by rfl) (M.t 2 rfl) (by decide) info25 rfl (fun w107 P R T => ?_)
   replace M := M.put1 (j := 6) 2 rfl P R T rfl
   simp only [Z0] at M
   refine Z9 (Z10 ?_)
   refine hK104 _ _ ?_
   refine Z8 ?_
   refine Z12 (v := .int .i64 6) (by rfl) (by rfl) (by rfl) ?_
   simp only [Z7,Z0]
   refine Z11 1 (by rfl) (fun Lk hLk => ?_)
   simp only [Z1,Z2]
   refine Z15 (v := .int .i64 7) (by rfl) rfl rfl rfl (fun W => run_add (by decide) W) ?_
   simp only [Z7,Z0]
   refine Z14 (hLk _ (fun w109 Sw109 => ?_))
   clear hLk Lk
   simp only [Z1,Z2]
   replace M := M.sees Sw109
   refine Z13 (v := .int .i64 7) (by rfl) (by rfl) (by rfl) ?_
   simp only [Z7,Z0]
   refine Z9 (Z10 ?_)
   refine Z17 (Q := fun _ _ _ => True) ?_
   rw [rounds_succ]
   refine Z4 (fun K110 hK110 => ?_)
   refine Z4 (fun K111 hK111 => ?_)
   refine Z8 ?_
   refine Z12 (v := .int .i64 7) (by rfl) (by rfl) (by rfl) ?_
   simp only [Z7,Z0]
   refine Z11 1 (by rfl) (fun Lk hLk => ?_)
   simp only [Z1,Z2]
   refine Z15 (v := .bool true) (by rfl) rfl rfl rfl (fun W => run_lss _ _ _ _ W) ?_
   simp only [Z7,Z0]
   refine Z14 (hLk _ (fun w113 Sw113 => ?_))
   clear hLk Lk
   simp only [Z1,Z2]
   replace M := M.sees Sw113
   refine Z9 (Z10 ?_)
   refine hK111 _ _ ?_
   refine Z5 rfl ?_
   refine wp_skip ?_
   refine hK110 _ _ ?_
   refine Z4 (fun K114 hK114 => ?_)
   refine wp_block ?_
   refine wp_region_grow 9 [] (by kernel_rfl) (by kernel_rfl) (by kernel_rfl) (fun Lk hLk => ?_)
   simp only [Z1,Z2]
   refine Z16 (v := .int .i64 7) (by rfl) rfl rfl ?_
   simp only [Z7,Z0]
   refine Z16 (v := .int .i64 7) (by rfl) rfl rfl ?_
   simp only [Z7,Z0]
   refine Z19 (v := .pointer (some ⟨g3, 7, none⟩)) (by rfl) (by rfl) (fun W hW => ?_) ?_
   ·
    (go_simp; exact rfl)
   simp only [Z7,Z0]
   refine wpV_load1 (v := .int .u32 ((h.h : Nat) : Int)) (by rfl) rfl rfl (range_one (range_sub (M.r 2 0 rfl rfl) 7 1 7 (xs := [.int .u32 ((h.h : Nat) : Int)]) rfl rfl)) (M.lt 2 rfl) Tryd.underlying25 rfl ?_
   simp only [Z7,Z0]
   refine Z16 (v := .int .i64 7) (by rfl) rfl rfl ?_
   simp only [Z7,Z0]
   refine Z19 (v := .pointer (some ⟨g24, 7, none⟩)) (by rfl) (by rfl) (fun W hW => ?_) ?_
   ·
    (go_simp; exact rfl)
   simp only [Z7,Z0]
   refine wpV_load1 (v := .int .u32 (((rnds l h 64).h : Nat) : Int)) (by rfl) rfl rfl (range_one (range_sub (M.r 0 0 rfl rfl) 7 1 7 (xs := [.int .u32 (((rnds l h 64).h : Nat) : Int)]) rfl rfl)) (M.lt 0 rfl) Tryd.underlying25 rfl ?_
   simp only [Z7,Z0]
   refine Z15 (v := .int .u32 (((h.h + ((rnds l h 64).h)) % 4294967296 : Nat) : Int)) (by rfl) rfl rfl rfl (fun W => nr_add32 _ h.h ((rnds l h 64).h) W) ?_
   simp only [Z7,Z0]
   refine Z19 (v := .pointer (some ⟨g3, 7, none⟩)) (by rfl) (by rfl) (fun W hW => ?_) ?_
   ·
    (go_simp; exact rfl)
   simp only [Z7,Z0]
   refine Z14 (hLk.out _ ?_)
   clear hLk Lk
   simp only [Z1,Z2]
   iterate 9 refine wpN_skip (by rfl) ?_
   refine wpN_nil (fun w116 Sw116 hbs => ?_)
   clear hbs
   replace M := M.sees Sw116
   refine Z18 (g := g3) (off := 7) (n := 8) (v := .int .u32 (((h.h + ((rnds l h 64).h)) % 4294967296 : Nat) : Int)) (by rfl) (by rfl) (by rfl) (by rfl) (by rfl) (M.t 2 rfl) (by decide) info25 rfl (fun w117 P R T => ?_)
   replace M := M.put1 (j := 7) 2 rfl P R T rfl
   simp only [Z0] at M
   refine Z9 (Z10 ?_)
   refine hK114 _ _ ?_
   refine Z8 ?_
   refine Z12 (v := .int .i64 7) (by rfl) (by rfl) (by rfl) ?_
   simp only [Z7,Z0]
   refine Z11 1 (by rfl) (fun Lk hLk => ?_)
   simp only [Z1,Z2]
   refine Z15 (v := .int .i64 8) (by rfl) rfl rfl rfl (fun W => run_add (by decide) W) ?_
   simp only [Z7,Z0]
   refine Z14 (hLk _ (fun w119 Sw119 => ?_))
   clear hLk Lk
   simp only [Z1,Z2]
   replace M := M.sees Sw119
   refine Z13 (v := .int .i64 8) (by rfl) (by rfl) (by rfl) ?_
   simp only [Z7,Z0]
   refine Z9 (Z10 ?_)
   refine Z17 (Q := fun _ _ _ => True) ?_
   rw [rounds_succ]
   refine Z4 (fun K120 hK120 => ?_)
   refine Z4 (fun K121 hK121 => ?_)
   refine Z8 ?_
   refine Z12 (v := .int .i64 8) (by rfl) (by rfl) (by rfl) ?_
   simp only [Z7,Z0]
   refine Z11 1 (by rfl) (fun Lk hLk => ?_)
   simp only [Z1,Z2]
   refine Z15 (v := .bool false) (by rfl) rfl rfl rfl (fun W => run_lss _ _ _ _ W) ?_
   simp only [Z7,Z0]
   refine Z14 (hLk _ (fun w123 Sw123 => ?_))
   clear hLk Lk
   simp only [Z1,Z2]
   replace M := M.sees Sw123
   refine Z9 (Z10 ?_)
   refine hK121 _ _ ?_
   refine Z6 rfl ?_
   refine wp_exit ?_
   refine hK37 _ _ ?_
   refine Z4 (fun K124 hK124 => ?_)
   refine Z8 ?_
   refine Z11 1 (by rfl) (fun Lk hLk => ?_)
   simp only [Z1,Z2]
   refine wpV_load (cs := [.int .u32 (((h.a + ((rnds l h 64).a)) % 4294967296 : Nat) : Int), .int .u32 (((h.b + ((rnds l h 64).b)) % 4294967296 : Nat) : Int), .int .u32 (((h.c + ((rnds l h 64).c)) % 4294967296 : Nat) : Int), .int .u32 (((h.d + ((rnds l h 64).d)) % 4294967296 : Nat) : Int), .int .u32 (((h.e + ((rnds l h 64).e)) % 4294967296 : Nat) : Int), .int .u32 (((h.f + ((rnds l h 64).f)) % 4294967296 : Nat) : Int), .int .u32 (((h.g + ((rnds l h 64).g)) % 4294967296 : Nat) : Int), .int .u32 (((h.h + ((rnds l h 64).h)) % 4294967296 : Nat) : Int)]) (by rfl) rfl rfl (M.r 2 0 rfl rfl) (M.lt 2 rfl) Tryd.underlying26 rfl info26 ?_
   simp only [Z7,Z0]
   refine Z14 (hLk _ (fun w126 Sw126 => ?_))
   clear hLk Lk
   simp only [Z1,Z2]
   replace M := M.sees Sw126
   refine wpL_store (g := g5) (off := 0) (n := 8) (cs := [.int .u32 (((h.a + ((rnds l h 64).a)) % 4294967296 : Nat) : Int), .int .u32 (((h.b + ((rnds l h 64).b)) % 4294967296 : Nat) : Int), .int .u32 (((h.c + ((rnds l h 64).c)) % 4294967296 : Nat) : Int), .int .u32 (((h.d + ((rnds l h 64).d)) % 4294967296 : Nat) : Int), .int .u32 (((h.e + ((rnds l h 64).e)) % 4294967296 : Nat) : Int), .int .u32 (((h.f + ((rnds l h 64).f)) % 4294967296 : Nat) : Int), .int .u32 (((h.g + ((rnds l h 64).g)) % 4294967296 : Nat) : Int), .int .u32 (((h.h + ((rnds l h 64).h)) % 4294967296 : Nat) : Int)]) (by rfl) (by rfl) (by rfl) (by rfl) (by rfl) (M.t 1 rfl) (by simp [flen]) info26 (by simp [fone, Value.oneCell']) (fun w127 P R T => ?_)
   replace M := M.putS 1 0 rfl P R T rfl ⟨.inl rfl, trivial⟩
   simp only [Z0] at M
   refine Z9 (Z10 ?_)
   refine hK124 _ _ ?_
   refine wp_ret ?_
   repeat (first | with_reducible refine then_ret ?_ | with_reducible refine inblock_ret ?_)
   refine bodyPost_ret (v := .agg ([.int .u32 (((h.a + ((rnds l h 64).a)) % 4294967296 : Nat) : Int), .int .u32 (((h.b + ((rnds l h 64).b)) % 4294967296 : Nat) : Int), .int .u32 (((h.c + ((rnds l h 64).c)) % 4294967296 : Nat) : Int), .int .u32 (((h.d + ((rnds l h 64).d)) % 4294967296 : Nat) : Int), .int .u32 (((h.e + ((rnds l h 64).e)) % 4294967296 : Nat) : Int), .int .u32 (((h.f + ((rnds l h 64).f)) % 4294967296 : Nat) : Int), .int .u32 (((h.g + ((rnds l h 64).g)) % 4294967296 : Nat) : Int), .int .u32 (((h.h + ((rnds l h 64).h)) % 4294967296 : Nat) : Int)]).toArray) (res1 rfl (.cell (by rfl) (run_loadVar_mid _ _ _ _ ([.int .u32 (((h.a + ((rnds l h 64).a)) % 4294967296 : Nat) : Int), .int .u32 (((h.b + ((rnds l h 64).b)) % 4294967296 : Nat) : Int), .int .u32 (((h.c + ((rnds l h 64).c)) % 4294967296 : Nat) : Int), .int .u32 (((h.d + ((rnds l h 64).d)) % 4294967296 : Nat) : Int), .int .u32 (((h.e + ((rnds l h 64).e)) % 4294967296 : Nat) : Int), .int .u32 (((h.f + ((rnds l h 64).f)) % 4294967296 : Nat) : Int), .int .u32 (((h.g + ((rnds l h 64).g)) % 4294967296 : Nat) : Int), .int .u32 (((h.h + ((rnds l h 64).h)) % 4294967296 : Nat) : Int)]) _ (M.r 1 0 rfl rfl) Tryd.underlying26 rfl info26))) rfl ?_
   have BE := M.below
   exact ⟨rfl, BE⟩
  ·
   have hu : u < 64 := of_decide_eq_true hc36
   refine Z5 rfl ?_
   refine wp_skip ?_
   refine hK32 _ _ ?_
   refine Z4 (fun K128 hK128 => ?_)
   refine wp_block ?_
   refine Z4 (fun K129 hK129 => ?_)
   refine Z8 ?_
   refine Z11 2 (by rfl) (fun Lk hLk => ?_)
   simp only [Z1,Z2]
   refine Z19 (v := .pointer (some ⟨g24, 0, none⟩)) (by rfl) (by rfl) (fun W hW => ?_) ?_
   ·
    (go_simp; exact rfl)
   simp only [Z7,Z0]
   refine wpV_load1 (v := .int .u32 ((v.a : Nat) : Int)) (by rfl) rfl rfl (range_one (range_sub (M.r 0 0 rfl rfl) 0 1 0 (xs := [.int .u32 ((v.a : Nat) : Int)]) rfl rfl)) (M.lt 0 rfl) Tryd.underlying25 rfl ?_
   simp only [Z7,Z0]
   refine Z14 (hLk _ (fun w131 Sw131 => ?_))
   clear hLk Lk
   simp only [Z1,Z2]
   replace M := M.sees Sw131
   refine Z13 (v := .int .u32 ((v.a : Nat) : Int)) (by rfl) (by rfl) (by rfl) ?_
   simp only [Z7,Z0]
   refine Z9 (Z10 ?_)
   refine hK129 _ _ ?_
   refine Z4 (fun K132 hK132 => ?_)
   refine Z8 ?_
   refine Z11 2 (by rfl) (fun Lk hLk => ?_)
   simp only [Z1,Z2]
   refine Z19 (v := .pointer (some ⟨g24, 4, none⟩)) (by rfl) (by rfl) (fun W hW => ?_) ?_
   ·
    (go_simp; exact rfl)
   simp only [Z7,Z0]
   refine wpV_load1 (v := .int .u32 ((v.e : Nat) : Int)) (by rfl) rfl rfl (range_one (range_sub (M.r 0 0 rfl rfl) 4 1 4 (xs := [.int .u32 ((v.e : Nat) : Int)]) rfl rfl)) (M.lt 0 rfl) Tryd.underlying25 rfl ?_
   simp only [Z7,Z0]
   refine Z14 (hLk _ (fun w134 Sw134 => ?_))
   clear hLk Lk
   simp only [Z1,Z2]
   replace M := M.sees Sw134
   refine Z13 (v := .int .u32 ((v.e : Nat) : Int)) (by rfl) (by rfl) (by rfl) ?_
   simp only [Z7,Z0]
   refine Z9 (Z10 ?_)
   refine hK132 _ _ ?_
   refine Z4 (fun K135 hK135 => ?_)
   refine wp_region_grow 32 [] (by kernel_rfl) (by kernel_rfl) (by kernel_rfl) (fun Lk hLk => ?_)
   simp only [Z1,Z2]
   refine Z19 (v := .pointer (some ⟨g24, 7, none⟩)) (by rfl) (by rfl) (fun W hW => ?_) ?_
   ·
    (go_simp; exact rfl)
   simp only [Z7,Z0]
   refine wpV_load1 (v := .int .u32 ((v.h : Nat) : Int)) (by rfl) rfl rfl (range_one (range_sub (M.r 0 0 rfl rfl) 7 1 7 (xs := [.int .u32 ((v.h : Nat) : Int)]) rfl rfl)) (M.lt 0 rfl) Tryd.underlying25 rfl ?_
   simp only [Z7,Z0]
   refine Z16 (v := .int .u32 ((v.e : Nat) : Int)) (by rfl) rfl rfl ?_
   simp only [Z7,Z0]
   refine Z20 (v := .int .u32 ((rotr v.e 6 : Nat) : Int)) (args := #[.int .u32 ((v.e : Nat) : Int), .int .i64 6]) (by rfl) rfl Tryd.func93 (by kernel_rfl) (by kernel_rfl) rfl (fun W hW => turn_c (x := v.e) (n := 6) hok.e (by decide) (by decide)) ?_
   simp only [Z7,Z0]
   refine Z16 (v := .int .u32 ((v.e : Nat) : Int)) (by rfl) rfl rfl ?_
   simp only [Z7,Z0]
   refine Z20 (v := .int .u32 ((rotr v.e 11 : Nat) : Int)) (args := #[.int .u32 ((v.e : Nat) : Int), .int .i64 11]) (by rfl) rfl Tryd.func93 (by kernel_rfl) (by kernel_rfl) rfl (fun W hW => turn_c (x := v.e) (n := 11) hok.e (by decide) (by decide)) ?_
   simp only [Z7,Z0]
   refine Z15 (v := .int .u32 (((rotr v.e 6) ^^^ (rotr v.e 11) : Nat) : Int)) (by rfl) rfl rfl rfl (fun W => nr_xor32 (x := rotr v.e 6) (y := rotr v.e 11) (rotr_lt hok.e (by decide)) (rotr_lt hok.e (by decide)) W) ?_
   simp only [Z7,Z0]
   refine Z16 (v := .int .u32 ((v.e : Nat) : Int)) (by rfl) rfl rfl ?_
   simp only [Z7,Z0]
   refine Z20 (v := .int .u32 ((rotr v.e 25 : Nat) : Int)) (args := #[.int .u32 ((v.e : Nat) : Int), .int .i64 25]) (by rfl) rfl Tryd.func93 (by kernel_rfl) (by kernel_rfl) rfl (fun W hW => turn_c (x := v.e) (n := 25) hok.e (by decide) (by decide)) ?_
   simp only [Z7,Z0]
   refine Z15 (v := .int .u32 ((bg1 v.e : Nat) : Int)) (by rfl) rfl rfl rfl (fun W => nr_xor32 (x := (rotr v.e 6) ^^^ (rotr v.e 11)) (y := rotr v.e 25) (xor_lt32 (rotr_lt hok.e (by decide)) (rotr_lt hok.e (by decide))) (rotr_lt hok.e (by decide)) W) ?_
   simp only [Z7,Z0]
   refine Z15 (v := .int .u32 (((v.h + (bg1 v.e)) % 4294967296 : Nat) : Int)) (by rfl) rfl rfl rfl (fun W => nr_add32 _ v.h (bg1 v.e) W) ?_
   simp only [Z7,Z0]
   refine Z16 (v := .int .u32 ((v.e : Nat) : Int)) (by rfl) rfl rfl ?_
   simp only [Z7,Z0]
   refine Z19 (v := .pointer (some ⟨g24, 5, none⟩)) (by rfl) (by rfl) (fun W hW => ?_) ?_
   ·
    (go_simp; exact rfl)
   simp only [Z7,Z0]
   refine wpV_load1 (v := .int .u32 ((v.f : Nat) : Int)) (by rfl) rfl rfl (range_one (range_sub (M.r 0 0 rfl rfl) 5 1 5 (xs := [.int .u32 ((v.f : Nat) : Int)]) rfl rfl)) (M.lt 0 rfl) Tryd.underlying25 rfl ?_
   simp only [Z7,Z0]
   refine Z15 (v := .int .u32 ((v.e &&& v.f : Nat) : Int)) (by rfl) rfl rfl rfl (fun W => nr_and32 (x := v.e) (y := v.f) hok.e hok.f W) ?_
   simp only [Z7,Z0]
   refine Z16 (v := .int .u32 ((v.e : Nat) : Int)) (by rfl) rfl rfl ?_
   simp only [Z7,Z0]
   refine wpV_un (v := .int .u32 ((4294967295 ^^^ v.e : Nat) : Int)) (by rfl) rfl rfl (fun W => nr_not32 (x := v.e) hok.e W) ?_
   simp only [Z7,Z0]
   refine Z19 (v := .pointer (some ⟨g24, 6, none⟩)) (by rfl) (by rfl) (fun W hW => ?_) ?_
   ·
    (go_simp; exact rfl)
   simp only [Z7,Z0]
   refine wpV_load1 (v := .int .u32 ((v.g : Nat) : Int)) (by rfl) rfl rfl (range_one (range_sub (M.r 0 0 rfl rfl) 6 1 6 (xs := [.int .u32 ((v.g : Nat) : Int)]) rfl rfl)) (M.lt 0 rfl) Tryd.underlying25 rfl ?_
   simp only [Z7,Z0]
   refine Z15 (v := .int .u32 (((4294967295 ^^^ v.e) &&& v.g : Nat) : Int)) (by rfl) rfl rfl rfl (fun W => nr_and32 (x := 4294967295 ^^^ v.e) (y := v.g) (xor_lt32 (by decide) hok.e) hok.g W) ?_
   simp only [Z7,Z0]
   refine Z15 (v := .int .u32 ((chs v.e v.f v.g : Nat) : Int)) (by rfl) rfl rfl rfl (fun W => nr_xor32 (x := v.e &&& v.f) (y := (4294967295 ^^^ v.e) &&& v.g) (and_lt32 hok.f) (and_lt32 hok.g) W) ?_
   simp only [Z7,Z0]
   refine Z15 (v := .int .u32 (((((v.h + (bg1 v.e)) % 4294967296) + (chs v.e v.f v.g)) % 4294967296 : Nat) : Int)) (by rfl) rfl rfl rfl (fun W => nr_add32 _ ((v.h + (bg1 v.e)) % 4294967296) (chs v.e v.f v.g) W) ?_
   simp only [Z7,Z0]
   refine Z16 (v := .slice (some ⟨gk, 0, none⟩) 64 ck) (by rfl) rfl rfl ?_
   simp only [Z7,Z0]
   refine Z16 (v := .int .i64 ((u : Nat) : Int)) (by rfl) rfl rfl ?_
   simp only [Z7,Z0]
   refine wpV_idxs (n := u) (by rfl) rfl rfl rfl Tryd.underlying32 info25 (by omega) ?_
   simp only [Nat.zero_add]
   simp only [Z7,Z0]
   refine wpV_load1 (v := .int .u32 ((keyN u : Nat) : Int)) (by rfl) rfl rfl (zadd ((M.oldR Rgk_0 Lgk) _ _ (kcells_get (by omega)))) (M.oldL Lgk) Tryd.underlying25 rfl ?_
   simp only [Z7,Z0]
   refine Z15 (v := .int .u32 (((((((v.h + (bg1 v.e)) % 4294967296) + (chs v.e v.f v.g)) % 4294967296) + (keyN u)) % 4294967296 : Nat) : Int)) (by rfl) rfl rfl rfl (fun W => nr_add32 _ ((((v.h + (bg1 v.e)) % 4294967296) + (chs v.e v.f v.g)) % 4294967296) (keyN u) W) ?_
   simp only [Z7,Z0]
   refine Z16 (v := .slice (some ⟨gw, 0, none⟩) 64 gwc) (by rfl) rfl rfl ?_
   simp only [Z7,Z0]
   refine Z16 (v := .int .i64 ((u : Nat) : Int)) (by rfl) rfl rfl ?_
   simp only [Z7,Z0]
   refine wpV_idxs (n := u) (by rfl) rfl rfl rfl Tryd.underlying32 info25 (by omega) ?_
   simp only [Nat.zero_add]
   simp only [Z7,Z0]
   refine wpV_load1 (v := .int .u32 ((shW l u : Nat) : Int)) (by rfl) rfl rfl (zadd ((M.r 3 0 rfl rfl) _ _ (wl32_get (by omega)))) (M.lt 3 rfl) Tryd.underlying25 rfl ?_
   simp only [Z7,Z0]
   refine Z15 (v := .int .u32 ((one (keyN u) (shW l u) v : Nat) : Int)) (by rfl) rfl rfl rfl (fun W => nr_add32 _ ((((((v.h + (bg1 v.e)) % 4294967296) + (chs v.e v.f v.g)) % 4294967296) + (keyN u)) % 4294967296) (shW l u) W) ?_
   simp only [Z7,Z0]
   refine Z14 (hLk.out _ ?_)
   clear hLk Lk
   simp only [Z1,Z2]
   iterate 32 refine wpN_skip (by rfl) ?_
   refine wpN_nil (fun w137 Sw137 hbs => ?_)
   clear hbs
   replace M := M.sees Sw137
   refine Z13 (v := .int .u32 ((one (keyN u) (shW l u) v : Nat) : Int)) (by rfl) (by rfl) (by rfl) ?_
   simp only [Z7,Z0]
   refine Z9 (Z10 ?_)
   refine hK135 _ _ ?_
   refine Z4 (fun K138 hK138 => ?_)
   refine wp_region_grow 24 [] (by kernel_rfl) (by kernel_rfl) (by kernel_rfl) (fun Lk hLk => ?_)
   simp only [Z1,Z2]
   refine Z16 (v := .int .u32 ((v.a : Nat) : Int)) (by rfl) rfl rfl ?_
   simp only [Z7,Z0]
   refine Z20 (v := .int .u32 ((rotr v.a 2 : Nat) : Int)) (args := #[.int .u32 ((v.a : Nat) : Int), .int .i64 2]) (by rfl) rfl Tryd.func93 (by kernel_rfl) (by kernel_rfl) rfl (fun W hW => turn_c (x := v.a) (n := 2) hok.a (by decide) (by decide)) ?_
   simp only [Z7,Z0]
   refine Z16 (v := .int .u32 ((v.a : Nat) : Int)) (by rfl) rfl rfl ?_
   simp only [Z7,Z0]
   refine Z20 (v := .int .u32 ((rotr v.a 13 : Nat) : Int)) (args := #[.int .u32 ((v.a : Nat) : Int), .int .i64 13]) (by rfl) rfl Tryd.func93 (by kernel_rfl) (by kernel_rfl) rfl (fun W hW => turn_c (x := v.a) (n := 13) hok.a (by decide) (by decide)) ?_
   simp only [Z7,Z0]
   refine Z15 (v := .int .u32 (((rotr v.a 2) ^^^ (rotr v.a 13) : Nat) : Int)) (by rfl) rfl rfl rfl (fun W => nr_xor32 (x := rotr v.a 2) (y := rotr v.a 13) (rotr_lt hok.a (by decide)) (rotr_lt hok.a (by decide)) W) ?_
   simp only [Z7,Z0]
   refine Z16 (v := .int .u32 ((v.a : Nat) : Int)) (by rfl) rfl rfl ?_
   simp only [Z7,Z0]
   refine Z20 (v := .int .u32 ((rotr v.a 22 : Nat) : Int)) (args := #[.int .u32 ((v.a : Nat) : Int), .int .i64 22]) (by rfl) rfl Tryd.func93 (by kernel_rfl) (by kernel_rfl) rfl (fun W hW => turn_c (x := v.a) (n := 22) hok.a (by decide) (by decide)) ?_
   simp only [Z7,Z0]
   refine Z15 (v := .int .u32 ((bg0 v.a : Nat) : Int)) (by rfl) rfl rfl rfl (fun W => nr_xor32 (x := (rotr v.a 2) ^^^ (rotr v.a 13)) (y := rotr v.a 22) (xor_lt32 (rotr_lt hok.a (by decide)) (rotr_lt hok.a (by decide))) (rotr_lt hok.a (by decide)) W) ?_
   simp only [Z7,Z0]
   refine Z16 (v := .int .u32 ((v.a : Nat) : Int)) (by rfl) rfl rfl ?_
   simp only [Z7,Z0]
   refine Z19 (v := .pointer (some ⟨g24, 1, none⟩)) (by rfl) (by rfl) (fun W hW => ?_) ?_
   ·
    (go_simp; exact rfl)
   simp only [Z7,Z0]
   refine wpV_load1 (v := .int .u32 ((v.b : Nat) : Int)) (by rfl) rfl rfl (range_one (range_sub (M.r 0 0 rfl rfl) 1 1 1 (xs := [.int .u32 ((v.b : Nat) : Int)]) rfl rfl)) (M.lt 0 rfl) Tryd.underlying25 rfl ?_
   simp only [Z7,Z0]
   refine Z15 (v := .int .u32 ((v.a &&& v.b : Nat) : Int)) (by rfl) rfl rfl rfl (fun W => nr_and32 (x := v.a) (y := v.b) hok.a hok.b W) ?_
   simp only [Z7,Z0]
   refine Z16 (v := .int .u32 ((v.a : Nat) : Int)) (by rfl) rfl rfl ?_
   simp only [Z7,Z0]
   refine Z19 (v := .pointer (some ⟨g24, 2, none⟩)) (by rfl) (by rfl) (fun W hW => ?_) ?_
   ·
    (go_simp; exact rfl)
   simp only [Z7,Z0]
   refine wpV_load1 (v := .int .u32 ((v.c : Nat) : Int)) (by rfl) rfl rfl (range_one (range_sub (M.r 0 0 rfl rfl) 2 1 2 (xs := [.int .u32 ((v.c : Nat) : Int)]) rfl rfl)) (M.lt 0 rfl) Tryd.underlying25 rfl ?_
   simp only [Z7,Z0]
   refine Z15 (v := .int .u32 ((v.a &&& v.c : Nat) : Int)) (by rfl) rfl rfl rfl (fun W => nr_and32 (x := v.a) (y := v.c) hok.a hok.c W) ?_
   simp only [Z7,Z0]
   refine Z15 (v := .int .u32 (((v.a &&& v.b) ^^^ (v.a &&& v.c) : Nat) : Int)) (by rfl) rfl rfl rfl (fun W => nr_xor32 (x := v.a &&& v.b) (y := v.a &&& v.c) (and_lt32 hok.b) (and_lt32 hok.c) W) ?_
   simp only [Z7,Z0]
   refine Z19 (v := .pointer (some ⟨g24, 1, none⟩)) (by rfl) (by rfl) (fun W hW => ?_) ?_
   ·
    (go_simp; exact rfl)
   simp only [Z7,Z0]
   refine wpV_load1 (v := .int .u32 ((v.b : Nat) : Int)) (by rfl) rfl rfl (range_one (range_sub (M.r 0 0 rfl rfl) 1 1 1 (xs := [.int .u32 ((v.b : Nat) : Int)]) rfl rfl)) (M.lt 0 rfl) Tryd.underlying25 rfl ?_
   simp only [Z7,Z0]
   refine Z19 (v := .pointer (some ⟨g24, 2, none⟩)) (by rfl) (by rfl) (fun W hW => ?_) ?_
   ·
    (go_simp; exact rfl)
   simp only [Z7,Z0]
   refine wpV_load1 (v := .int .u32 ((v.c : Nat) : Int)) (by rfl) rfl rfl (range_one (range_sub (M.r 0 0 rfl rfl) 2 1 2 (xs := [.int .u32 ((v.c : Nat) : Int)]) rfl rfl)) (M.lt 0 rfl) Tryd.underlying25 rfl ?_
   simp only [Z7,Z0]
   refine Z15 (v := .int .u32 ((v.b &&& v.c : Nat) : Int)) (by rfl) rfl rfl rfl (fun W => nr_and32 (x := v.b) (y := v.c) hok.b hok.c W) ?_
   simp only [Z7,Z0]
   refine Z15 (v := .int .u32 ((maj v.a v.b v.c : Nat) : Int)) (by rfl) rfl rfl rfl (fun W => nr_xor32 (x := (v.a &&& v.b) ^^^ (v.a &&& v.c)) (y := v.b &&& v.c) (xor_lt32 (and_lt32 hok.b) (and_lt32 hok.c)) (and_lt32 hok.c) W) ?_
   simp only [Z7,Z0]
   refine Z15 (v := .int .u32 ((two v : Nat) : Int)) (by rfl) rfl rfl rfl (fun W => nr_add32 _ (bg0 v.a) (maj v.a v.b v.c) W) ?_
   simp only [Z7,Z0]
   refine Z14 (hLk.out _ ?_)
   clear hLk Lk
   simp only [Z1,Z2]
   iterate 24 refine wpN_skip (by rfl) ?_
   refine wpN_nil (fun w140 Sw140 hbs => ?_)
   clear hbs
   replace M := M.sees Sw140
   refine Z13 (v := .int .u32 ((two v : Nat) : Int)) (by rfl) (by rfl) (by rfl) ?_
   simp only [Z7,Z0]
   refine Z9 (Z10 ?_)
   refine hK138 _ _ ?_
   refine Z4 (fun K141 hK141 => ?_)
   refine Z4 (fun K142 hK142 => ?_)
   refine Z8 ?_
   refine Z13 (v := .int .i64 7) (by rfl) (by rfl) (by rfl) ?_
   simp only [Z7,Z0]
   refine Z9 (Z10 ?_)
   refine hK142 _ _ ?_
   refine wp_block ?_
   refine wp_loop_rounds 8 ?_
   rw [rounds_succ]
   refine Z4 (fun K144 hK144 => ?_)
   refine Z4 (fun K145 hK145 => ?_)
   refine Z8 ?_
   refine Z12 (v := .int .i64 7) (by rfl) (by rfl) (by rfl) ?_
   simp only [Z7,Z0]
   refine Z11 1 (by rfl) (fun Lk hLk => ?_)
   simp only [Z1,Z2]
   refine Z15 (v := .bool true) (by rfl) rfl rfl rfl (fun W => run_gtr _ _ _ _ W) ?_
   simp only [Z7,Z0]
   refine Z14 (hLk _ (fun w147 Sw147 => ?_))
   clear hLk Lk
   simp only [Z1,Z2]
   replace M := M.sees Sw147
   refine Z9 (Z10 ?_)
   refine hK145 _ _ ?_
   refine Z5 rfl ?_
   refine wp_skip ?_
   refine hK144 _ _ ?_
   refine Z4 (fun K148 hK148 => ?_)
   refine wp_block ?_
   refine Z8 ?_
   refine Z12 (v := .int .i64 7) (by rfl) (by rfl) (by rfl) ?_
   simp only [Z7,Z0]
   refine Z12 (v := .int .i64 7) (by rfl) (by rfl) (by rfl) ?_
   simp only [Z7,Z0]
   refine Z11 4 (by rfl) (fun Lk hLk => ?_)
   simp only [Z1,Z2]
   refine Z15 (v := .int .i64 6) (by rfl) rfl rfl rfl (fun W => run_sub (by decide) W) ?_
   simp only [Z7,Z0]
   refine Z19 (v := .pointer (some ⟨g24, 6, none⟩)) (by rfl) (by rfl) (fun W hW => ?_) ?_
   ·
    (go_simp; exact rfl)
   simp only [Z7,Z0]
   refine wpV_load1 (v := .int .u32 ((v.g : Nat) : Int)) (by rfl) rfl rfl (range_one (range_sub (M.r 0 0 rfl rfl) 6 1 6 (xs := [.int .u32 ((v.g : Nat) : Int)]) rfl rfl)) (M.lt 0 rfl) Tryd.underlying25 rfl ?_
   simp only [Z7,Z0]
   refine Z19 (v := .pointer (some ⟨g24, 7, none⟩)) (by rfl) (by rfl) (fun W hW => ?_) ?_
   ·
    (go_simp; exact rfl)
   simp only [Z7,Z0]
   refine Z14 (hLk _ (fun w150 Sw150 => ?_))
   clear hLk Lk
   simp only [Z1,Z2]
   replace M := M.sees Sw150
   refine Z18 (g := g24) (off := 7) (n := 8) (v := .int .u32 ((v.g : Nat) : Int)) (by rfl) (by rfl) (by rfl) (by rfl) (by rfl) (M.t 0 rfl) (by decide) info25 rfl (fun w151 P R T => ?_)
   replace M := M.put1 (j := 7) 0 rfl P R T rfl
   simp only [Z0] at M
   refine Z9 (Z10 ?_)
   refine hK148 _ _ ?_
   refine Z8 ?_
   refine Z12 (v := .int .i64 7) (by rfl) (by rfl) (by rfl) ?_
   simp only [Z7,Z0]
   refine Z11 1 (by rfl) (fun Lk hLk => ?_)
   simp only [Z1,Z2]
   refine Z15 (v := .int .i64 6) (by rfl) rfl rfl rfl (fun W => run_sub (by decide) W) ?_
   simp only [Z7,Z0]
   refine Z14 (hLk _ (fun w153 Sw153 => ?_))
   clear hLk Lk
   simp only [Z1,Z2]
   replace M := M.sees Sw153
   refine Z13 (v := .int .i64 6) (by rfl) (by rfl) (by rfl) ?_
   simp only [Z7,Z0]
   refine Z9 (Z10 ?_)
   refine Z17 (Q := fun _ _ _ => True) ?_
   rw [rounds_succ]
   refine Z4 (fun K154 hK154 => ?_)
   refine Z4 (fun K155 hK155 => ?_)
   refine Z8 ?_
   refine Z12 (v := .int .i64 6) (by rfl) (by rfl) (by rfl) ?_
   simp only [Z7,Z0]
   refine Z11 1 (by rfl) (fun Lk hLk => ?_)
   simp only [Z1,Z2]
   refine Z15 (v := .bool true) (by rfl) rfl rfl rfl (fun W => run_gtr _ _ _ _ W) ?_
   simp only [Z7,Z0]
   refine Z14 (hLk _ (fun w157 Sw157 => ?_))
   clear hLk Lk
   simp only [Z1,Z2]
   replace M := M.sees Sw157
   refine Z9 (Z10 ?_)
   refine hK155 _ _ ?_
   refine Z5 rfl ?_
   refine wp_skip ?_
   refine hK154 _ _ ?_
   refine Z4 (fun K158 hK158 => ?_)
   refine wp_block ?_
   refine Z8 ?_
   refine Z12 (v := .int .i64 6) (by rfl) (by rfl) (by rfl) ?_
   simp only [Z7,Z0]
   refine Z12 (v := .int .i64 6) (by rfl) (by rfl) (by rfl) ?_
   simp only [Z7,Z0]
   refine Z11 4 (by rfl) (fun Lk hLk => ?_)
   simp only [Z1,Z2]
   refine Z15 (v := .int .i64 5) (by rfl) rfl rfl rfl (fun W => run_sub (by decide) W) ?_
   simp only [Z7,Z0]
   refine Z19 (v := .pointer (some ⟨g24, 5, none⟩)) (by rfl) (by rfl) (fun W hW => ?_) ?_
   ·
    (go_simp; exact rfl)
   simp only [Z7,Z0]
   refine wpV_load1 (v := .int .u32 ((v.f : Nat) : Int)) (by rfl) rfl rfl (range_one (range_sub (M.r 0 0 rfl rfl) 5 1 5 (xs := [.int .u32 ((v.f : Nat) : Int)]) rfl rfl)) (M.lt 0 rfl) Tryd.underlying25 rfl ?_
   simp only [Z7,Z0]
   refine Z19 (v := .pointer (some ⟨g24, 6, none⟩)) (by rfl) (by rfl) (fun W hW => ?_) ?_
   ·
    (go_simp; exact rfl)
   simp only [Z7,Z0]
   refine Z14 (hLk _ (fun w160 Sw160 => ?_))
   clear hLk Lk
   simp only [Z1,Z2]
   replace M := M.sees Sw160
   refine Z18 (g := g24) (off := 6) (n := 8) (v := .int .u32 ((v.f : Nat) : Int)) (by rfl) (by rfl) (by rfl) (by rfl) (by rfl) (M.t 0 rfl) (by decide) info25 rfl (fun w161 P R T => ?_)
   replace M := M.put1 (j := 6) 0 rfl P R T rfl
   simp only [Z0] at M
   refine Z9 (Z10 ?_)
   refine hK158 _ _ ?_
   refine Z8 ?_
   refine Z12 (v := .int .i64 6) (by rfl) (by rfl) (by rfl) ?_
   simp only [Z7,Z0]
   refine Z11 1 (by rfl) (fun Lk hLk => ?_)
   simp only [Z1,Z2]
   refine Z15 (v := .int .i64 5) (by rfl) rfl rfl rfl (fun W => run_sub (by decide) W) ?_
   simp only [Z7,Z0]
   refine Z14 (hLk _ (fun w163 Sw163 => ?_))
   clear hLk Lk
   simp only [Z1,Z2]
   replace M := M.sees Sw163
   refine Z13 (v := .int .i64 5) (by rfl) (by rfl) (by rfl) ?_
   simp only [Z7,Z0]
   refine Z9 (Z10 ?_)
   refine Z17 (Q := fun _ _ _ => True) ?_
   rw [rounds_succ]
   refine Z4 (fun K164 hK164 => ?_)
   refine Z4 (fun K165 hK165 => ?_)
   refine Z8 ?_
   refine Z12 (v := .int .i64 5) (by rfl) (by rfl) (by rfl) ?_
   simp only [Z7,Z0]
   refine Z11 1 (by rfl) (fun Lk hLk => ?_)
   simp only [Z1,Z2]
   refine Z15 (v := .bool true) (by rfl) rfl rfl rfl (fun W => run_gtr _ _ _ _ W) ?_
   simp only [Z7,Z0]
   refine Z14 (hLk _ (fun w167 Sw167 => ?_))
   clear hLk Lk
   simp only [Z1,Z2]
   replace M := M.sees Sw167
   refine Z9 (Z10 ?_)
   refine hK165 _ _ ?_
   refine Z5 rfl ?_
   refine wp_skip ?_
   refine hK164 _ _ ?_
   refine Z4 (fun K168 hK168 => ?_)
   refine wp_block ?_
   refine Z8 ?_
   refine Z12 (v := .int .i64 5) (by rfl) (by rfl) (by rfl) ?_
   simp only [Z7,Z0]
   refine Z12 (v := .int .i64 5) (by rfl) (by rfl) (by rfl) ?_
   simp only [Z7,Z0]
   refine Z11 4 (by rfl) (fun Lk hLk => ?_)
   simp only [Z1,Z2]
   refine Z15 (v := .int .i64 4) (by rfl) rfl rfl rfl (fun W => run_sub (by decide) W) ?_
   simp only [Z7,Z0]
   refine Z19 (v := .pointer (some ⟨g24, 4, none⟩)) (by rfl) (by rfl) (fun W hW => ?_) ?_
   ·
    (go_simp; exact rfl)
   simp only [Z7,Z0]
   refine wpV_load1 (v := .int .u32 ((v.e : Nat) : Int)) (by rfl) rfl rfl (range_one (range_sub (M.r 0 0 rfl rfl) 4 1 4 (xs := [.int .u32 ((v.e : Nat) : Int)]) rfl rfl)) (M.lt 0 rfl) Tryd.underlying25 rfl ?_
   simp only [Z7,Z0]
   refine Z19 (v := .pointer (some ⟨g24, 5, none⟩)) (by rfl) (by rfl) (fun W hW => ?_) ?_
   ·
    (go_simp; exact rfl)
   simp only [Z7,Z0]
   refine Z14 (hLk _ (fun w170 Sw170 => ?_))
   clear hLk Lk
   simp only [Z1,Z2]
   replace M := M.sees Sw170
   refine Z18 (g := g24) (off := 5) (n := 8) (v := .int .u32 ((v.e : Nat) : Int)) (by rfl) (by rfl) (by rfl) (by rfl) (by rfl) (M.t 0 rfl) (by decide) info25 rfl (fun w171 P R T => ?_)
   replace M := M.put1 (j := 5) 0 rfl P R T rfl
   simp only [Z0] at M
   refine Z9 (Z10 ?_)
   refine hK168 _ _ ?_
   refine Z8 ?_
   refine Z12 (v := .int .i64 5) (by rfl) (by rfl) (by rfl) ?_
   simp only [Z7,Z0]
   refine Z11 1 (by rfl) (fun Lk hLk => ?_)
   simp only [Z1,Z2]
   refine Z15 (v := .int .i64 4) (by rfl) rfl rfl rfl (fun W => run_sub (by decide) W) ?_
   simp only [Z7,Z0]
   refine Z14 (hLk _ (fun w173 Sw173 => ?_))
   clear hLk Lk
   simp only [Z1,Z2]
   replace M := M.sees Sw173
   refine Z13 (v := .int .i64 4) (by rfl) (by rfl) (by rfl) ?_
   simp only [Z7,Z0]
   refine Z9 (Z10 ?_)
   refine Z17 (Q := fun _ _ _ => True) ?_
   rw [rounds_succ]
   refine Z4 (fun K174 hK174 => ?_)
   refine Z4 (fun K175 hK175 => ?_)
   refine Z8 ?_
   refine Z12 (v := .int .i64 4) (by rfl) (by rfl) (by rfl) ?_
   simp only [Z7,Z0]
   refine Z11 1 (by rfl) (fun Lk hLk => ?_)
   simp only [Z1,Z2]
   refine Z15 (v := .bool true) (by rfl) rfl rfl rfl (fun W => run_gtr _ _ _ _ W) ?_
   simp only [Z7,Z0]
   refine Z14 (hLk _ (fun w177 Sw177 => ?_))
   clear hLk Lk
   simp only [Z1,Z2]
   replace M := M.sees Sw177
   refine Z9 (Z10 ?_)
   refine hK175 _ _ ?_
   refine Z5 rfl ?_
   refine wp_skip ?_
   refine hK174 _ _ ?_
   refine Z4 (fun K178 hK178 => ?_)
   refine wp_block ?_
   refine Z8 ?_
   refine Z12 (v := .int .i64 4) (by rfl) (by rfl) (by rfl) ?_
   simp only [Z7,Z0]
   refine Z12 (v := .int .i64 4) (by rfl) (by rfl) (by rfl) ?_
   simp only [Z7,Z0]
   refine Z11 4 (by rfl) (fun Lk hLk => ?_)
   simp only [Z1,Z2]
   refine Z15 (v := .int .i64 3) (by rfl) rfl rfl rfl (fun W => run_sub (by decide) W) ?_
   simp only [Z7,Z0]
   refine Z19 (v := .pointer (some ⟨g24, 3, none⟩)) (by rfl) (by rfl) (fun W hW => ?_) ?_
   ·
    (go_simp; exact rfl)
   simp only [Z7,Z0]
   refine wpV_load1 (v := .int .u32 ((v.d : Nat) : Int)) (by rfl) rfl rfl (range_one (range_sub (M.r 0 0 rfl rfl) 3 1 3 (xs := [.int .u32 ((v.d : Nat) : Int)]) rfl rfl)) (M.lt 0 rfl) Tryd.underlying25 rfl ?_
   simp only [Z7,Z0]
   refine Z19 (v := .pointer (some ⟨g24, 4, none⟩)) (by rfl) (by rfl) (fun W hW => ?_) ?_
   ·
    (go_simp; exact rfl)
   simp only [Z7,Z0]
   refine Z14 (hLk _ (fun w180 Sw180 => ?_))
   clear hLk Lk
   simp only [Z1,Z2]
   replace M := M.sees Sw180
   refine Z18 (g := g24) (off := 4) (n := 8) (v := .int .u32 ((v.d : Nat) : Int)) (by rfl) (by rfl) (by rfl) (by rfl) (by rfl) (M.t 0 rfl) (by decide) info25 rfl (fun w181 P R T => ?_)
   replace M := M.put1 (j := 4) 0 rfl P R T rfl
   simp only [Z0] at M
   refine Z9 (Z10 ?_)
   refine hK178 _ _ ?_
   refine Z8 ?_
   refine Z12 (v := .int .i64 4) (by rfl) (by rfl) (by rfl) ?_
   simp only [Z7,Z0]
   refine Z11 1 (by rfl) (fun Lk hLk => ?_)
   simp only [Z1,Z2]
   refine Z15 (v := .int .i64 3) (by rfl) rfl rfl rfl (fun W => run_sub (by decide) W) ?_
   simp only [Z7,Z0]
   refine Z14 (hLk _ (fun w183 Sw183 => ?_))
   clear hLk Lk
   simp only [Z1,Z2]
   replace M := M.sees Sw183
   refine Z13 (v := .int .i64 3) (by rfl) (by rfl) (by rfl) ?_
   simp only [Z7,Z0]
   refine Z9 (Z10 ?_)
   refine Z17 (Q := fun _ _ _ => True) ?_
   rw [rounds_succ]
   refine Z4 (fun K184 hK184 => ?_)
   refine Z4 (fun K185 hK185 => ?_)
   refine Z8 ?_
   refine Z12 (v := .int .i64 3) (by rfl) (by rfl) (by rfl) ?_
   simp only [Z7,Z0]
   refine Z11 1 (by rfl) (fun Lk hLk => ?_)
   simp only [Z1,Z2]
   refine Z15 (v := .bool true) (by rfl) rfl rfl rfl (fun W => run_gtr _ _ _ _ W) ?_
   simp only [Z7,Z0]
   refine Z14 (hLk _ (fun w187 Sw187 => ?_))
   clear hLk Lk
   simp only [Z1,Z2]
   replace M := M.sees Sw187
   refine Z9 (Z10 ?_)
   refine hK185 _ _ ?_
   refine Z5 rfl ?_
   refine wp_skip ?_
   refine hK184 _ _ ?_
   refine Z4 (fun K188 hK188 => ?_)
   refine wp_block ?_
   refine Z8 ?_
   refine Z12 (v := .int .i64 3) (by rfl) (by rfl) (by rfl) ?_
   simp only [Z7,Z0]
   refine Z12 (v := .int .i64 3) (by rfl) (by rfl) (by rfl) ?_
   simp only [Z7,Z0]
   refine Z11 4 (by rfl) (fun Lk hLk => ?_)
   simp only [Z1,Z2]
   refine Z15 (v := .int .i64 2) (by rfl) rfl rfl rfl (fun W => run_sub (by decide) W) ?_
   simp only [Z7,Z0]
   refine Z19 (v := .pointer (some ⟨g24, 2, none⟩)) (by rfl) (by rfl) (fun W hW => ?_) ?_
   ·
    (go_simp; exact rfl)
   simp only [Z7,Z0]
   refine wpV_load1 (v := .int .u32 ((v.c : Nat) : Int)) (by rfl) rfl rfl (range_one (range_sub (M.r 0 0 rfl rfl) 2 1 2 (xs := [.int .u32 ((v.c : Nat) : Int)]) rfl rfl)) (M.lt 0 rfl) Tryd.underlying25 rfl ?_
   simp only [Z7,Z0]
   refine Z19 (v := .pointer (some ⟨g24, 3, none⟩)) (by rfl) (by rfl) (fun W hW => ?_) ?_
   ·
    (go_simp; exact rfl)
   simp only [Z7,Z0]
   refine Z14 (hLk _ (fun w190 Sw190 => ?_))
   clear hLk Lk
   simp only [Z1,Z2]
   replace M := M.sees Sw190
   refine Z18 (g := g24) (off := 3) (n := 8) (v := .int .u32 ((v.c : Nat) : Int)) (by rfl) (by rfl) (by rfl) (by rfl) (by rfl) (M.t 0 rfl) (by decide) info25 rfl (fun w191 P R T => ?_)
   replace M := M.put1 (j := 3) 0 rfl P R T rfl
   simp only [Z0] at M
   refine Z9 (Z10 ?_)
   refine hK188 _ _ ?_
   refine Z8 ?_
   refine Z12 (v := .int .i64 3) (by rfl) (by rfl) (by rfl) ?_
   simp only [Z7,Z0]
   refine Z11 1 (by rfl) (fun Lk hLk => ?_)
   simp only [Z1,Z2]
   refine Z15 (v := .int .i64 2) (by rfl) rfl rfl rfl (fun W => run_sub (by decide) W) ?_
   simp only [Z7,Z0]
   refine Z14 (hLk _ (fun w193 Sw193 => ?_))
   clear hLk Lk
   simp only [Z1,Z2]
   replace M := M.sees Sw193
   refine Z13 (v := .int .i64 2) (by rfl) (by rfl) (by rfl) ?_
   simp only [Z7,Z0]
   refine Z9 (Z10 ?_)
   refine Z17 (Q := fun _ _ _ => True) ?_
   rw [rounds_succ]
   refine Z4 (fun K194 hK194 => ?_)
   refine Z4 (fun K195 hK195 => ?_)
   refine Z8 ?_
   refine Z12 (v := .int .i64 2) (by rfl) (by rfl) (by rfl) ?_
   simp only [Z7,Z0]
   refine Z11 1 (by rfl) (fun Lk hLk => ?_)
   simp only [Z1,Z2]
   refine Z15 (v := .bool true) (by rfl) rfl rfl rfl (fun W => run_gtr _ _ _ _ W) ?_
   simp only [Z7,Z0]
   refine Z14 (hLk _ (fun w197 Sw197 => ?_))
   clear hLk Lk
   simp only [Z1,Z2]
   replace M := M.sees Sw197
   refine Z9 (Z10 ?_)
   refine hK195 _ _ ?_
   refine Z5 rfl ?_
   refine wp_skip ?_
   refine hK194 _ _ ?_
   refine Z4 (fun K198 hK198 => ?_)
   refine wp_block ?_
   refine Z8 ?_
   refine Z12 (v := .int .i64 2) (by rfl) (by rfl) (by rfl) ?_
   simp only [Z7,Z0]
   refine Z12 (v := .int .i64 2) (by rfl) (by rfl) (by rfl) ?_
   simp only [Z7,Z0]
   refine Z11 4 (by rfl) (fun Lk hLk => ?_)
   simp only [Z1,Z2]
   refine Z15 (v := .int .i64 1) (by rfl) rfl rfl rfl (fun W => run_sub (by decide) W) ?_
   simp only [Z7,Z0]
   refine Z19 (v := .pointer (some ⟨g24, 1, none⟩)) (by rfl) (by rfl) (fun W hW => ?_) ?_
   ·
    (go_simp; exact rfl)
   simp only [Z7,Z0]
   refine wpV_load1 (v := .int .u32 ((v.b : Nat) : Int)) (by rfl) rfl rfl (range_one (range_sub (M.r 0 0 rfl rfl) 1 1 1 (xs := [.int .u32 ((v.b : Nat) : Int)]) rfl rfl)) (M.lt 0 rfl) Tryd.underlying25 rfl ?_
   simp only [Z7,Z0]
   refine Z19 (v := .pointer (some ⟨g24, 2, none⟩)) (by rfl) (by rfl) (fun W hW => ?_) ?_
   ·
    (go_simp; exact rfl)
   simp only [Z7,Z0]
   refine Z14 (hLk _ (fun w200 Sw200 => ?_))
   clear hLk Lk
   simp only [Z1,Z2]
   replace M := M.sees Sw200
   refine Z18 (g := g24) (off := 2) (n := 8) (v := .int .u32 ((v.b : Nat) : Int)) (by rfl) (by rfl) (by rfl) (by rfl) (by rfl) (M.t 0 rfl) (by decide) info25 rfl (fun w201 P R T => ?_)
   replace M := M.put1 (j := 2) 0 rfl P R T rfl
   simp only [Z0] at M
   refine Z9 (Z10 ?_)
   refine hK198 _ _ ?_
   refine Z8 ?_
   refine Z12 (v := .int .i64 2) (by rfl) (by rfl) (by rfl) ?_
   simp only [Z7,Z0]
   refine Z11 1 (by rfl) (fun Lk hLk => ?_)
   simp only [Z1,Z2]
   refine Z15 (v := .int .i64 1) (by rfl) rfl rfl rfl (fun W => run_sub (by decide) W) ?_
   simp only [Z7,Z0]
   refine Z14 (hLk _ (fun w203 Sw203 => ?_))
   clear hLk Lk
   simp only [Z1,Z2]
   replace M := M.sees Sw203
   refine Z13 (v := .int .i64 1) (by rfl) (by rfl) (by rfl) ?_
   simp only [Z7,Z0]
   refine Z9 (Z10 ?_)
   refine Z17 (Q := fun _ _ _ => True) ?_
   rw [rounds_succ]
   refine Z4 (fun K204 hK204 => ?_)
   refine Z4 (fun K205 hK205 => ?_)
   refine Z8 ?_
   refine Z12 (v := .int .i64 1) (by rfl) (by rfl) (by rfl) ?_
   simp only [Z7,Z0]
   refine Z11 1 (by rfl) (fun Lk hLk => ?_)
   simp only [Z1,Z2]
   refine Z15 (v := .bool true) (by rfl) rfl rfl rfl (fun W => run_gtr _ _ _ _ W) ?_
   simp only [Z7,Z0]
   refine Z14 (hLk _ (fun w207 Sw207 => ?_))
   clear hLk Lk
   simp only [Z1,Z2]
   replace M := M.sees Sw207
   refine Z9 (Z10 ?_)
   refine hK205 _ _ ?_
   refine Z5 rfl ?_
   refine wp_skip ?_
   refine hK204 _ _ ?_
   refine Z4 (fun K208 hK208 => ?_)
   refine wp_block ?_
   refine Z8 ?_
   refine Z12 (v := .int .i64 1) (by rfl) (by rfl) (by rfl) ?_
   simp only [Z7,Z0]
   refine Z12 (v := .int .i64 1) (by rfl) (by rfl) (by rfl) ?_
   simp only [Z7,Z0]
   refine Z11 4 (by rfl) (fun Lk hLk => ?_)
   simp only [Z1,Z2]
   refine Z15 (v := .int .i64 0) (by rfl) rfl rfl rfl (fun W => run_sub (by decide) W) ?_
   simp only [Z7,Z0]
   refine Z19 (v := .pointer (some ⟨g24, 0, none⟩)) (by rfl) (by rfl) (fun W hW => ?_) ?_
   ·
    (go_simp; exact rfl)
   simp only [Z7,Z0]
   refine wpV_load1 (v := .int .u32 ((v.a : Nat) : Int)) (by rfl) rfl rfl (range_one (range_sub (M.r 0 0 rfl rfl) 0 1 0 (xs := [.int .u32 ((v.a : Nat) : Int)]) rfl rfl)) (M.lt 0 rfl) Tryd.underlying25 rfl ?_
   simp only [Z7,Z0]
   refine Z19 (v := .pointer (some ⟨g24, 1, none⟩)) (by rfl) (by rfl) (fun W hW => ?_) ?_
   ·
    (go_simp; exact rfl)
   simp only [Z7,Z0]
   refine Z14 (hLk _ (fun w210 Sw210 => ?_))
   clear hLk Lk
   simp only [Z1,Z2]
   replace M := M.sees Sw210
   refine Z18 (g := g24) (off := 1) (n := 8) (v := .int .u32 ((v.a : Nat) : Int)) (by rfl) (by rfl) (by rfl) (by rfl) (by rfl) (M.t 0 rfl) (by decide) info25 rfl (fun w211 P R T => ?_)
   replace M := M.put1 (j := 1) 0 rfl P R T rfl
   simp only [Z0] at M
   refine Z9 (Z10 ?_)
   refine hK208 _ _ ?_
   refine Z8 ?_
   refine Z12 (v := .int .i64 1) (by rfl) (by rfl) (by rfl) ?_
   simp only [Z7,Z0]
   refine Z11 1 (by rfl) (fun Lk hLk => ?_)
   simp only [Z1,Z2]
   refine Z15 (v := .int .i64 0) (by rfl) rfl rfl rfl (fun W => run_sub (by decide) W) ?_
   simp only [Z7,Z0]
   refine Z14 (hLk _ (fun w213 Sw213 => ?_))
   clear hLk Lk
   simp only [Z1,Z2]
   replace M := M.sees Sw213
   refine Z13 (v := .int .i64 0) (by rfl) (by rfl) (by rfl) ?_
   simp only [Z7,Z0]
   refine Z9 (Z10 ?_)
   refine Z17 (Q := fun _ _ _ => True) ?_
   rw [rounds_succ]
   refine Z4 (fun K214 hK214 => ?_)
   refine Z4 (fun K215 hK215 => ?_)
   refine Z8 ?_
   refine Z12 (v := .int .i64 0) (by rfl) (by rfl) (by rfl) ?_
   simp only [Z7,Z0]
   refine Z11 1 (by rfl) (fun Lk hLk => ?_)
   simp only [Z1,Z2]
   refine Z15 (v := .bool false) (by rfl) rfl rfl rfl (fun W => run_gtr _ _ _ _ W) ?_
   simp only [Z7,Z0]
   refine Z14 (hLk _ (fun w217 Sw217 => ?_))
   clear hLk Lk
   simp only [Z1,Z2]
   replace M := M.sees Sw217
   refine Z9 (Z10 ?_)
   refine hK215 _ _ ?_
   refine Z6 rfl ?_
   refine wp_exit ?_
   refine hK141 _ _ ?_
   refine Z4 (fun K218 hK218 => ?_)
   refine Z8 ?_
   refine Z11 5 (by rfl) (fun Lk hLk => ?_)
   simp only [Z1,Z2]
   refine Z19 (v := .pointer (some ⟨g24, 4, none⟩)) (by rfl) (by rfl) (fun W hW => ?_) ?_
   ·
    (go_simp; exact rfl)
   simp only [Z7,Z0]
   refine wpV_load1 (v := .int .u32 ((v.d : Nat) : Int)) (by rfl) rfl rfl (range_one (range_sub (M.r 0 0 rfl rfl) 4 1 4 (xs := [.int .u32 ((v.d : Nat) : Int)]) rfl rfl)) (M.lt 0 rfl) Tryd.underlying25 rfl ?_
   simp only [Z7,Z0]
   refine Z16 (v := .int .u32 ((one (keyN u) (shW l u) v : Nat) : Int)) (by rfl) rfl rfl ?_
   simp only [Z7,Z0]
   refine Z15 (v := .int .u32 (((v.d + (one (keyN u) (shW l u) v)) % 4294967296 : Nat) : Int)) (by rfl) rfl rfl rfl (fun W => nr_add32 _ v.d (one (keyN u) (shW l u) v) W) ?_
   simp only [Z7,Z0]
   refine Z19 (v := .pointer (some ⟨g24, 4, none⟩)) (by rfl) (by rfl) (fun W hW => ?_) ?_
   ·
    (go_simp; exact rfl)
   simp only [Z7,Z0]
   refine Z14 (hLk _ (fun w220 Sw220 => ?_))
   clear hLk Lk
   simp only [Z1,Z2]
   replace M := M.sees Sw220
   refine Z18 (g := g24) (off := 4) (n := 8) (v := .int .u32 (((v.d + (one (keyN u) (shW l u) v)) % 4294967296 : Nat) : Int)) (by rfl) (by rfl) (by rfl) (by rfl) (by rfl) (M.t 0 rfl) (by decide) info25 rfl (fun w221 P R T => ?_)
   replace M := M.put1 (j := 4) 0 rfl P R T rfl
   simp only [Z0] at M
   refine Z9 (Z10 ?_)
   refine hK218 _ _ ?_
   refine Z8 ?_
   refine Z12 (v := .int .u32 ((one (keyN u) (shW l u) v : Nat) : Int)) (by rfl) (by rfl) (by rfl) ?_
   simp only [Z7,Z0]
   refine Z12 (v := .int .u32 ((two v : Nat) : Int)) (by rfl) (by rfl) (by rfl) ?_
   simp only [Z7,Z0]
   refine Z11 2 (by rfl) (fun Lk hLk => ?_)
   simp only [Z1,Z2]
   refine Z15 (v := .int .u32 ((((one (keyN u) (shW l u) v) + (two v)) % 4294967296 : Nat) : Int)) (by rfl) rfl rfl rfl (fun W => nr_add32 _ (one (keyN u) (shW l u) v) (two v) W) ?_
   simp only [Z7,Z0]
   refine Z19 (v := .pointer (some ⟨g24, 0, none⟩)) (by rfl) (by rfl) (fun W hW => ?_) ?_
   ·
    (go_simp; exact rfl)
   simp only [Z7,Z0]
   refine Z14 (hLk _ (fun w223 Sw223 => ?_))
   clear hLk Lk
   simp only [Z1,Z2]
   replace M := M.sees Sw223
   refine Z18 (g := g24) (off := 0) (n := 8) (v := .int .u32 ((((one (keyN u) (shW l u) v) + (two v)) % 4294967296 : Nat) : Int)) (by rfl) (by rfl) (by rfl) (by rfl) (by rfl) (M.t 0 rfl) (by decide) info25 rfl (fun w224 P R T => ?_)
   replace M := M.put1 (j := 0) 0 rfl P R T rfl
   simp only [Z0] at M
   refine Z9 (Z10 ?_)
   refine hK128 _ _ ?_
   refine Z8 ?_
   refine Z12 (v := .int .i64 ((u : Nat) : Int)) (by rfl) (by rfl) (by rfl) ?_
   simp only [Z7,Z0]
   refine Z11 1 (by rfl) (fun Lk hLk => ?_)
   simp only [Z1,Z2]
   refine Z15 (v := .int .i64 ((u + 1 : Nat) : Int)) (by rfl) rfl rfl rfl (fun W => run_add (by simp only [IntKind.wrap_i64]; omega) W) ?_
   simp only [Z7,Z0]
   refine Z14 (hLk _ (fun w226 Sw226 => ?_))
   clear hLk Lk
   simp only [Z1,Z2]
   replace M := M.sees Sw226
   refine Z13 (v := .int .i64 ((u + 1 : Nat) : Int)) (by rfl) (by rfl) (by rfl) ?_
   simp only [Z7,Z0]
   refine Z9 (Z10 ?_)
   refine Exists.intro _ ⟨?_, (u + 1), (rnd (keyN u) (shW l u) v), (fun q9 => (#[Z3, Z3, Z3, Z3, Z3, Z3, Z3, Z3, Z3, Z3, Z3, Z3, Z3, Z3, Z3, .int .u32 ((v.a : Nat) : Int), .int .u32 ((v.e : Nat) : Int), .int .u32 ((one (keyN u) (shW l u) v : Nat) : Int), .int .u32 ((two v : Nat) : Int), .int .i64 0, Z3, Z3, Z3, Z3, Z3, Z3, Z3, Z3, Z3, Z3, Z3, Z3, Z3, Z3, Z3, Z3, Z3, Z3, Z3, Z3, Z3, Z3, Z3, Z3, Z3, Z3, Z3, Z3, Z3, Z3, Z3, Z3, Z3, Z3, Z3, Z3, Z3, Z3, Z3, Z3, Z3, Z3, Z3, Z3, Z3, Z3, Z3, Z3, Z3, Z3, Z3, Z3, Z3, Z3, Z3, Z3, Z3, Z3, Z3, Z3, Z3, Z3, Z3, Z3, Z3, Z3, .int .i64 ((u : Nat) : Int), .bool true, .int .i64 ((u : Nat) : Int), .int .i64 ((u + 1 : Nat) : Int), .pointer (some ⟨g24, 0, none⟩), .int .u32 ((v.a : Nat) : Int), .pointer (some ⟨g24, 4, none⟩), .int .u32 ((v.e : Nat) : Int), .pointer (some ⟨g24, 7, none⟩), .int .u32 ((v.h : Nat) : Int), .int .u32 ((v.e : Nat) : Int), .int .u32 ((rotr v.e 6 : Nat) : Int), .int .u32 ((v.e : Nat) : Int), .int .u32 ((rotr v.e 11 : Nat) : Int), .int .u32 (((rotr v.e 6) ^^^ (rotr v.e 11) : Nat) : Int), .int .u32 ((v.e : Nat) : Int), .int .u32 ((rotr v.e 25 : Nat) : Int), .int .u32 ((bg1 v.e : Nat) : Int), .int .u32 (((v.h + (bg1 v.e)) % 4294967296 : Nat) : Int), .int .u32 ((v.e : Nat) : Int), .pointer (some ⟨g24, 5, none⟩), .int .u32 ((v.f : Nat) : Int), .int .u32 ((v.e &&& v.f : Nat) : Int), .int .u32 ((v.e : Nat) : Int), .int .u32 ((4294967295 ^^^ v.e : Nat) : Int), .pointer (some ⟨g24, 6, none⟩), .int .u32 ((v.g : Nat) : Int), .int .u32 (((4294967295 ^^^ v.e) &&& v.g : Nat) : Int), .int .u32 ((chs v.e v.f v.g : Nat) : Int), .int .u32 (((((v.h + (bg1 v.e)) % 4294967296) + (chs v.e v.f v.g)) % 4294967296 : Nat) : Int), .slice (some ⟨gk, 0, none⟩) 64 ck, .int .i64 ((u : Nat) : Int), .pointer (some ⟨gk, u, none⟩), .int .u32 ((keyN u : Nat) : Int), .int .u32 (((((((v.h + (bg1 v.e)) % 4294967296) + (chs v.e v.f v.g)) % 4294967296) + (keyN u)) % 4294967296 : Nat) : Int), .slice (some ⟨gw, 0, none⟩) 64 gwc, .int .i64 ((u : Nat) : Int), .pointer (some ⟨gw, u, none⟩), .int .u32 ((shW l u : Nat) : Int), .int .u32 ((one (keyN u) (shW l u) v : Nat) : Int), .int .u32 ((v.a : Nat) : Int), .int .u32 ((rotr v.a 2 : Nat) : Int), .int .u32 ((v.a : Nat) : Int), .int .u32 ((rotr v.a 13 : Nat) : Int), .int .u32 (((rotr v.a 2) ^^^ (rotr v.a 13) : Nat) : Int), .int .u32 ((v.a : Nat) : Int), .int .u32 ((rotr v.a 22 : Nat) : Int), .int .u32 ((bg0 v.a : Nat) : Int), .int .u32 ((v.a : Nat) : Int), .pointer (some ⟨g24, 1, none⟩), .int .u32 ((v.b : Nat) : Int), .int .u32 ((v.a &&& v.b : Nat) : Int), .int .u32 ((v.a : Nat) : Int), .pointer (some ⟨g24, 2, none⟩), .int .u32 ((v.c : Nat) : Int), .int .u32 ((v.a &&& v.c : Nat) : Int), .int .u32 (((v.a &&& v.b) ^^^ (v.a &&& v.c) : Nat) : Int), .pointer (some ⟨g24, 1, none⟩), .int .u32 ((v.b : Nat) : Int), .pointer (some ⟨g24, 2, none⟩), .int .u32 ((v.c : Nat) : Int), .int .u32 ((v.b &&& v.c : Nat) : Int), .int .u32 ((maj v.a v.b v.c : Nat) : Int), .int .u32 ((two v : Nat) : Int), .int .i64 0, .bool false, .int .i64 1, .int .i64 0, .int .i64 1, .int .i64 1, .int .i64 0, .pointer (some ⟨g24, 0, none⟩), .int .u32 ((v.a : Nat) : Int), .pointer (some ⟨g24, 1, none⟩), .pointer (some ⟨g24, 4, none⟩), .int .u32 ((v.d : Nat) : Int), .int .u32 ((one (keyN u) (shW l u) v : Nat) : Int), .int .u32 (((v.d + (one (keyN u) (shW l u) v)) % 4294967296 : Nat) : Int), .pointer (some ⟨g24, 4, none⟩), .int .u32 ((one (keyN u) (shW l u) v : Nat) : Int), .int .u32 ((two v : Nat) : Int), .int .u32 ((((one (keyN u) (shW l u) v) + (two v)) % 4294967296 : Nat) : Int), .pointer (some ⟨g24, 0, none⟩)] : Array Value).getD q9 Z3), rfl, rfl, M, (by omega), (by rw [hv]; rfl)⟩
   omega
 ·
  have ht : t < 64 := of_decide_eq_true hc20
  refine Z5 rfl ?_
  refine wp_skip ?_
  refine hK16 _ _ ?_
  refine Z4 (fun K227 hK227 => ?_)
  refine wp_block ?_
  refine Z4 (fun K228 hK228 => ?_)
  refine Z8 ?_
  refine Z13 (v := .int .u32 0) (by rfl) (by rfl) (by rfl) ?_
  simp only [Z7,Z0]
  refine Z9 (Z10 ?_)
  refine hK228 _ _ ?_
  refine Z4 (fun K230 hK230 => ?_)
  refine Z4 (fun K231 hK231 => ?_)
  refine Z8 ?_
  refine Z12 (v := .int .i64 ((t : Nat) : Int)) (by rfl) (by rfl) (by rfl) ?_
  simp only [Z7,Z0]
  refine Z11 1 (by rfl) (fun Lk hLk => ?_)
  simp only [Z1,Z2]
  refine Z15 (v := .bool (decide (t < 16))) (by rfl) rfl rfl rfl (fun W => run_lssN t 16 _ _ W) ?_
  simp only [Z7,Z0]
  refine Z14 (hLk _ (fun w233 Sw233 => ?_))
  clear hLk Lk
  simp only [Z1,Z2]
  replace M := M.sees Sw233
  refine Z9 (Z10 ?_)
  refine hK231 _ _ ?_
  cases hc234 : (decide (t < 16))
  ·
   have h16 : ¬ t < 16 := of_decide_eq_false hc234
   refine Z6 rfl ?_
   refine Z4 (fun K235 hK235 => ?_)
   refine Z8 ?_
   refine Z12 (v := .slice (some ⟨gw, 0, none⟩) t gwc) (by rfl) (by rfl) (by rfl) ?_
   simp only [Z7,Z0]
   refine Z12 (v := .int .i64 ((t : Nat) : Int)) (by rfl) (by rfl) (by rfl) ?_
   simp only [Z7,Z0]
   refine Z11 3 (by rfl) (fun Lk hLk => ?_)
   simp only [Z1,Z2]
   refine Z15 (v := .int .i64 ((t - 15 : Nat) : Int)) (by rfl) rfl rfl rfl (fun W => run_sub (by simp only [IntKind.wrap_i64]; omega) W) ?_
   simp only [Z7,Z0]
   refine wpV_idxs (n := t - 15) (by rfl) rfl rfl rfl Tryd.underlying32 info25 (by omega) ?_
   simp only [Nat.zero_add]
   simp only [Z7,Z0]
   refine wpV_load1 (v := .int .u32 ((shW l (t - 15) : Nat) : Int)) (by rfl) rfl rfl (zadd ((M.r 2 0 rfl rfl) _ _ (wl32_get (by omega)))) (M.lt 2 rfl) Tryd.underlying25 rfl ?_
   simp only [Z7,Z0]
   refine Z14 (hLk _ (fun w237 Sw237 => ?_))
   clear hLk Lk
   simp only [Z1,Z2]
   replace M := M.sees Sw237
   refine Z13 (v := .int .u32 ((shW l (t - 15) : Nat) : Int)) (by rfl) (by rfl) (by rfl) ?_
   simp only [Z7,Z0]
   refine Z9 (Z10 ?_)
   refine hK235 _ _ ?_
   refine Z4 (fun K238 hK238 => ?_)
   refine Z8 ?_
   refine Z12 (v := .slice (some ⟨gw, 0, none⟩) t gwc) (by rfl) (by rfl) (by rfl) ?_
   simp only [Z7,Z0]
   refine Z12 (v := .int .i64 ((t : Nat) : Int)) (by rfl) (by rfl) (by rfl) ?_
   simp only [Z7,Z0]
   refine Z11 3 (by rfl) (fun Lk hLk => ?_)
   simp only [Z1,Z2]
   refine Z15 (v := .int .i64 ((t - 2 : Nat) : Int)) (by rfl) rfl rfl rfl (fun W => run_sub (by simp only [IntKind.wrap_i64]; omega) W) ?_
   simp only [Z7,Z0]
   refine wpV_idxs (n := t - 2) (by rfl) rfl rfl rfl Tryd.underlying32 info25 (by omega) ?_
   simp only [Nat.zero_add]
   simp only [Z7,Z0]
   refine wpV_load1 (v := .int .u32 ((shW l (t - 2) : Nat) : Int)) (by rfl) rfl rfl (zadd ((M.r 2 0 rfl rfl) _ _ (wl32_get (by omega)))) (M.lt 2 rfl) Tryd.underlying25 rfl ?_
   simp only [Z7,Z0]
   refine Z14 (hLk _ (fun w240 Sw240 => ?_))
   clear hLk Lk
   simp only [Z1,Z2]
   replace M := M.sees Sw240
   refine Z13 (v := .int .u32 ((shW l (t - 2) : Nat) : Int)) (by rfl) (by rfl) (by rfl) ?_
   simp only [Z7,Z0]
   refine Z9 (Z10 ?_)
   refine hK238 _ _ ?_
   refine wp_region_grow 29 [] (by kernel_rfl) (by kernel_rfl) (by kernel_rfl) (fun Lk hLk => ?_)
   simp only [Z1,Z2]
   refine Z16 (v := .int .u32 ((shW l (t - 2) : Nat) : Int)) (by rfl) rfl rfl ?_
   simp only [Z7,Z0]
   refine Z20 (v := .int .u32 ((rotr (shW l (t - 2)) 17 : Nat) : Int)) (args := #[.int .u32 ((shW l (t - 2) : Nat) : Int), .int .i64 17]) (by rfl) rfl Tryd.func93 (by kernel_rfl) (by kernel_rfl) rfl (fun W hW => turn_c (x := shW l (t - 2)) (n := 17) (shW_lt ..) (by decide) (by decide)) ?_
   simp only [Z7,Z0]
   refine Z16 (v := .int .u32 ((shW l (t - 2) : Nat) : Int)) (by rfl) rfl rfl ?_
   simp only [Z7,Z0]
   refine Z20 (v := .int .u32 ((rotr (shW l (t - 2)) 19 : Nat) : Int)) (args := #[.int .u32 ((shW l (t - 2) : Nat) : Int), .int .i64 19]) (by rfl) rfl Tryd.func93 (by kernel_rfl) (by kernel_rfl) rfl (fun W hW => turn_c (x := shW l (t - 2)) (n := 19) (shW_lt ..) (by decide) (by decide)) ?_
   simp only [Z7,Z0]
   refine Z15 (v := .int .u32 (((rotr (shW l (t - 2)) 17) ^^^ (rotr (shW l (t - 2)) 19) : Nat) : Int)) (by rfl) rfl rfl rfl (fun W => nr_xor32 (x := rotr (shW l (t - 2)) 17) (y := rotr (shW l (t - 2)) 19) (rotr_lt (shW_lt ..) (by decide)) (rotr_lt (shW_lt ..) (by decide)) W) ?_
   simp only [Z7,Z0]
   refine Z16 (v := .int .u32 ((shW l (t - 2) : Nat) : Int)) (by rfl) rfl rfl ?_
   simp only [Z7,Z0]
   refine Z20 (v := .int .u32 (((shW l (t - 2)) / 2 ^ 10 : Nat) : Int)) (args := #[.int .u32 ((shW l (t - 2) : Nat) : Int), .int .i64 10]) (by rfl) rfl Tryd.func94 (by kernel_rfl) (by kernel_rfl) rfl (fun W hW => move_c (x := shW l (t - 2)) (n := 10) (shW_lt ..) (by decide)) ?_
   simp only [Z7,Z0]
   refine Z15 (v := .int .u32 ((sg1 (shW l (t - 2)) : Nat) : Int)) (by rfl) rfl rfl rfl (fun W => nr_xor32 (x := (rotr (shW l (t - 2)) 17) ^^^ (rotr (shW l (t - 2)) 19)) (y := (shW l (t - 2)) / 2 ^ 10) (xor_lt32 (rotr_lt (shW_lt ..) (by decide)) (rotr_lt (shW_lt ..) (by decide))) (div_lt32 _ (shW_lt ..)) W) ?_
   simp only [Z7,Z0]
   refine Z16 (v := .slice (some ⟨gw, 0, none⟩) t gwc) (by rfl) rfl rfl ?_
   simp only [Z7,Z0]
   refine Z16 (v := .int .i64 ((t : Nat) : Int)) (by rfl) rfl rfl ?_
   simp only [Z7,Z0]
   refine Z15 (v := .int .i64 ((t - 7 : Nat) : Int)) (by rfl) rfl rfl rfl (fun W => run_sub (by simp only [IntKind.wrap_i64]; omega) W) ?_
   simp only [Z7,Z0]
   refine wpV_idxs (n := t - 7) (by rfl) rfl rfl rfl Tryd.underlying32 info25 (by omega) ?_
   simp only [Nat.zero_add]
   simp only [Z7,Z0]
   refine wpV_load1 (v := .int .u32 ((shW l (t - 7) : Nat) : Int)) (by rfl) rfl rfl (zadd ((M.r 2 0 rfl rfl) _ _ (wl32_get (by omega)))) (M.lt 2 rfl) Tryd.underlying25 rfl ?_
   simp only [Z7,Z0]
   refine Z15 (v := .int .u32 ((((sg1 (shW l (t - 2))) + (shW l (t - 7))) % 4294967296 : Nat) : Int)) (by rfl) rfl rfl rfl (fun W => nr_add32 _ (sg1 (shW l (t - 2))) (shW l (t - 7)) W) ?_
   simp only [Z7,Z0]
   refine Z16 (v := .int .u32 ((shW l (t - 15) : Nat) : Int)) (by rfl) rfl rfl ?_
   simp only [Z7,Z0]
   refine Z20 (v := .int .u32 ((rotr (shW l (t - 15)) 7 : Nat) : Int)) (args := #[.int .u32 ((shW l (t - 15) : Nat) : Int), .int .i64 7]) (by rfl) rfl Tryd.func93 (by kernel_rfl) (by kernel_rfl) rfl (fun W hW => turn_c (x := shW l (t - 15)) (n := 7) (shW_lt ..) (by decide) (by decide)) ?_
   simp only [Z7,Z0]
   refine Z16 (v := .int .u32 ((shW l (t - 15) : Nat) : Int)) (by rfl) rfl rfl ?_
   simp only [Z7,Z0]
   refine Z20 (v := .int .u32 ((rotr (shW l (t - 15)) 18 : Nat) : Int)) (args := #[.int .u32 ((shW l (t - 15) : Nat) : Int), .int .i64 18]) (by rfl) rfl Tryd.func93 (by kernel_rfl) (by kernel_rfl) rfl (fun W hW => turn_c (x := shW l (t - 15)) (n := 18) (shW_lt ..) (by decide) (by decide)) ?_
   simp only [Z7,Z0]
   refine Z15 (v := .int .u32 (((rotr (shW l (t - 15)) 7) ^^^ (rotr (shW l (t - 15)) 18) : Nat) : Int)) (by rfl) rfl rfl rfl (fun W => nr_xor32 (x := rotr (shW l (t - 15)) 7) (y := rotr (shW l (t - 15)) 18) (rotr_lt (shW_lt ..) (by decide)) (rotr_lt (shW_lt ..) (by decide)) W) ?_
   simp only [Z7,Z0]
   refine Z16 (v := .int .u32 ((shW l (t - 15) : Nat) : Int)) (by rfl) rfl rfl ?_
   simp only [Z7,Z0]
   refine Z20 (v := .int .u32 (((shW l (t - 15)) / 2 ^ 3 : Nat) : Int)) (args := #[.int .u32 ((shW l (t - 15) : Nat) : Int), .int .i64 3]) (by rfl) rfl Tryd.func94 (by kernel_rfl) (by kernel_rfl) rfl (fun W hW => move_c (x := shW l (t - 15)) (n := 3) (shW_lt ..) (by decide)) ?_
   simp only [Z7,Z0]
   refine Z15 (v := .int .u32 ((sg0 (shW l (t - 15)) : Nat) : Int)) (by rfl) rfl rfl rfl (fun W => nr_xor32 (x := (rotr (shW l (t - 15)) 7) ^^^ (rotr (shW l (t - 15)) 18)) (y := (shW l (t - 15)) / 2 ^ 3) (xor_lt32 (rotr_lt (shW_lt ..) (by decide)) (rotr_lt (shW_lt ..) (by decide))) (div_lt32 _ (shW_lt ..)) W) ?_
   simp only [Z7,Z0]
   refine Z15 (v := .int .u32 ((((((sg1 (shW l (t - 2))) + (shW l (t - 7))) % 4294967296) + (sg0 (shW l (t - 15)))) % 4294967296 : Nat) : Int)) (by rfl) rfl rfl rfl (fun W => nr_add32 _ (((sg1 (shW l (t - 2))) + (shW l (t - 7))) % 4294967296) (sg0 (shW l (t - 15))) W) ?_
   simp only [Z7,Z0]
   refine Z16 (v := .slice (some ⟨gw, 0, none⟩) t gwc) (by rfl) rfl rfl ?_
   simp only [Z7,Z0]
   refine Z16 (v := .int .i64 ((t : Nat) : Int)) (by rfl) rfl rfl ?_
   simp only [Z7,Z0]
   refine Z15 (v := .int .i64 ((t - 16 : Nat) : Int)) (by rfl) rfl rfl rfl (fun W => run_sub (by simp only [IntKind.wrap_i64]; omega) W) ?_
   simp only [Z7,Z0]
   refine wpV_idxs (n := t - 16) (by rfl) rfl rfl rfl Tryd.underlying32 info25 (by omega) ?_
   simp only [Nat.zero_add]
   simp only [Z7,Z0]
   refine wpV_load1 (v := .int .u32 ((shW l (t - 16) : Nat) : Int)) (by rfl) rfl rfl (zadd ((M.r 2 0 rfl rfl) _ _ (wl32_get (by omega)))) (M.lt 2 rfl) Tryd.underlying25 rfl ?_
   simp only [Z7,Z0]
   refine Z15 (v := .int .u32 ((shW l t : Nat) : Int)) (by rfl) rfl rfl rfl (fun W => (by have := nr_add32 (P := Tryd.prog) 25 (((sg1 (shW l (t - 2)) + shW l (t - 7)) % 4294967296 + sg0 (shW l (t - 15))) % 4294967296) (shW l (t - 16)) W; rw [shW_hi2 h16] at this; exact this)) ?_
   simp only [Z7,Z0]
   refine Z14 (hLk.out _ ?_)
   clear hLk Lk
   simp only [Z1,Z2]
   iterate 29 refine wpN_skip (by rfl) ?_
   refine wpN_nil (fun w242 Sw242 hbs => ?_)
   clear hbs
   replace M := M.sees Sw242
   refine Z13 (v := .int .u32 ((shW l t : Nat) : Int)) (by rfl) (by rfl) (by rfl) ?_
   simp only [Z7,Z0]
   refine Z9 (Z10 ?_)
   refine hK230 _ _ ?_
   refine Z8 ?_
   refine Z12 (v := .slice (some ⟨gw, 0, none⟩) t gwc) (by rfl) (by rfl) (by rfl) ?_
   simp only [Z7,Z0]
   refine Z12 (v := .int .u32 ((shW l t : Nat) : Int)) (by rfl) (by rfl) (by rfl) ?_
   simp only [Z7,Z0]
   refine wpL_rowN (vs := [.int .u32 ((shW l t : Nat) : Int)]) (z := .int .u32 0) (bytes := 4) (by rfl) (by rfl) Tryd.underlying32 (by kernel_rfl) (by decide) (by kernel_rfl) (fun g244 w245 Sw245 Hg244 Bg244 => ?_)
   replace M := ((M.sees Sw245).add (N := 1) (cs := [.int .u32 ((shW l t : Nat) : Int)]) (M.ge Hg244) (M.fresh Hg244) Bg244 rfl)
   clear Bg244
   simp only [Z7,Z0]
   refine wpL_append (olds := wl32 l t) (news := [.int .u32 ((shW l t : Nat) : Int)]) (z := .int .u32 0) (bytes := 4) (by rfl) (by rfl) (by rfl) (by rfl) Tryd.underlying32 (by kernel_rfl) rfl rfl (wl32_len _ _) (by rfl) (M.r 3 0 rfl rfl) (M.t 3 rfl) (M.lt 3 rfl) (M.r 0 0 rfl rfl) (by simp [Value.oneCell']) (by omega) (by unfold maxLen; omega) (fun g246 g246c w247 Sw247 Q Cg246 R T L => ?_)
   replace M := M.grow 3 rfl Sw247 Q R T L
   simp only [Z0] at M
   clear Q R T L
   rw [wl32_snoc] at M
   simp only [Z7,Z0]
   refine Z13 (v := .slice (some ⟨g246, 0, none⟩) (t + 1) g246c) (by rfl) (by rfl) (by rfl) ?_
   simp only [Z7,Z0]
   refine Z9 (Z10 ?_)
   refine hK227 _ _ ?_
   refine Z8 ?_
   refine Z12 (v := .int .i64 ((t : Nat) : Int)) (by rfl) (by rfl) (by rfl) ?_
   simp only [Z7,Z0]
   refine Z11 1 (by rfl) (fun Lk hLk => ?_)
   simp only [Z1,Z2]
   refine Z15 (v := .int .i64 ((t + 1 : Nat) : Int)) (by rfl) rfl rfl rfl (fun W => run_add (by simp only [IntKind.wrap_i64]; omega) W) ?_
   simp only [Z7,Z0]
   refine Z14 (hLk _ (fun w249 Sw249 => ?_))
   clear hLk Lk
   simp only [Z1,Z2]
   replace M := M.sees Sw249
   refine Z13 (v := .int .i64 ((t + 1 : Nat) : Int)) (by rfl) (by rfl) (by rfl) ?_
   simp only [Z7,Z0]
   refine Z9 (Z10 ?_)
   refine Exists.intro _ ⟨?_, (t + 1), g246, g246c, (fun q9 => (#[Z3, Z3, Z3, Z3, Z3, Z3, Z3, Z3, Z3, .int .u32 ((shW l t : Nat) : Int), u14 10, .int .u32 ((shW l (t - 15) : Nat) : Int), .int .u32 ((shW l (t - 2) : Nat) : Int), Z3, Z3, Z3, Z3, Z3, Z3, Z3, Z3, Z3, .int .i64 ((t : Nat) : Int), .bool true, .int .i64 ((t : Nat) : Int), .int .i64 ((t + 1 : Nat) : Int), .int .i64 ((t : Nat) : Int), .bool false, u14 28, u14 29, u14 30, u14 31, u14 32, u14 33, u14 34, u14 35, u14 36, u14 37, u14 38, u14 39, u14 40, u14 41, .slice (some ⟨gw, 0, none⟩) t gwc, .int .i64 ((t : Nat) : Int), .int .i64 ((t - 15 : Nat) : Int), .pointer (some ⟨gw, t - 15, none⟩), .int .u32 ((shW l (t - 15) : Nat) : Int), .slice (some ⟨gw, 0, none⟩) t gwc, .int .i64 ((t : Nat) : Int), .int .i64 ((t - 2 : Nat) : Int), .pointer (some ⟨gw, t - 2, none⟩), .int .u32 ((shW l (t - 2) : Nat) : Int), .int .u32 ((shW l (t - 2) : Nat) : Int), .int .u32 ((rotr (shW l (t - 2)) 17 : Nat) : Int), .int .u32 ((shW l (t - 2) : Nat) : Int), .int .u32 ((rotr (shW l (t - 2)) 19 : Nat) : Int), .int .u32 (((rotr (shW l (t - 2)) 17) ^^^ (rotr (shW l (t - 2)) 19) : Nat) : Int), .int .u32 ((shW l (t - 2) : Nat) : Int), .int .u32 (((shW l (t - 2)) / 2 ^ 10 : Nat) : Int), .int .u32 ((sg1 (shW l (t - 2)) : Nat) : Int), .slice (some ⟨gw, 0, none⟩) t gwc, .int .i64 ((t : Nat) : Int), .int .i64 ((t - 7 : Nat) : Int), .pointer (some ⟨gw, t - 7, none⟩), .int .u32 ((shW l (t - 7) : Nat) : Int), .int .u32 ((((sg1 (shW l (t - 2))) + (shW l (t - 7))) % 4294967296 : Nat) : Int), .int .u32 ((shW l (t - 15) : Nat) : Int), .int .u32 ((rotr (shW l (t - 15)) 7 : Nat) : Int), .int .u32 ((shW l (t - 15) : Nat) : Int), .int .u32 ((rotr (shW l (t - 15)) 18 : Nat) : Int), .int .u32 (((rotr (shW l (t - 15)) 7) ^^^ (rotr (shW l (t - 15)) 18) : Nat) : Int), .int .u32 ((shW l (t - 15) : Nat) : Int), .int .u32 (((shW l (t - 15)) / 2 ^ 3 : Nat) : Int), .int .u32 ((sg0 (shW l (t - 15)) : Nat) : Int), .int .u32 ((((((sg1 (shW l (t - 2))) + (shW l (t - 7))) % 4294967296) + (sg0 (shW l (t - 15)))) % 4294967296 : Nat) : Int), .slice (some ⟨gw, 0, none⟩) t gwc, .int .i64 ((t : Nat) : Int), .int .i64 ((t - 16 : Nat) : Int), .pointer (some ⟨gw, t - 16, none⟩), .int .u32 ((shW l (t - 16) : Nat) : Int), .int .u32 ((shW l t : Nat) : Int), .slice (some ⟨gw, 0, none⟩) t gwc, .int .u32 ((shW l t : Nat) : Int), .slice (some ⟨g244, 0, none⟩) 1 1, .slice (some ⟨g246, 0, none⟩) (t + 1) g246c] : Array Value).getD q9 Z3), rfl, rfl, (M.pick [1, 2, 3] (by decide) rfl), Cg246, (by omega)⟩
   omega
  ·
   have h16 : t < 16 := of_decide_eq_true hc234
   refine Z5 rfl ?_
   refine Z4 (fun K250 hK250 => ?_)
   refine Z8 ?_
   refine Z13 (v := .int .i64 0) (by rfl) (by rfl) (by rfl) ?_
   simp only [Z7,Z0]
   refine Z9 (Z10 ?_)
   refine hK250 _ _ ?_
   refine wp_block ?_
   refine wp_loop_rounds 5 ?_
   rw [rounds_succ]
   refine Z4 (fun K252 hK252 => ?_)
   refine Z4 (fun K253 hK253 => ?_)
   refine Z8 ?_
   refine Z12 (v := .int .i64 0) (by rfl) (by rfl) (by rfl) ?_
   simp only [Z7,Z0]
   refine Z11 1 (by rfl) (fun Lk hLk => ?_)
   simp only [Z1,Z2]
   refine Z15 (v := .bool true) (by rfl) rfl rfl rfl (fun W => run_lss _ _ _ _ W) ?_
   simp only [Z7,Z0]
   refine Z14 (hLk _ (fun w255 Sw255 => ?_))
   clear hLk Lk
   simp only [Z1,Z2]
   replace M := M.sees Sw255
   refine Z9 (Z10 ?_)
   refine hK253 _ _ ?_
   refine Z5 rfl ?_
   refine wp_skip ?_
   refine hK252 _ _ ?_
   refine Z4 (fun K256 hK256 => ?_)
   refine wp_block ?_
   refine Z8 ?_
   refine Z12 (v := .int .u32 0) (by rfl) (by rfl) (by rfl) ?_
   simp only [Z7,Z0]
   refine Z11 9 (by rfl) (fun Lk hLk => ?_)
   simp only [Z1,Z2]
   refine Z15 (v := .int .u32 0) (by rfl) rfl rfl rfl (fun W => run_mul (by decide) W) ?_
   simp only [Z7,Z0]
   refine Z16 (v := .string (bs l)) (by rfl) rfl rfl ?_
   simp only [Z7,Z0]
   refine Z16 (v := .int .i64 ((t : Nat) : Int)) (by rfl) rfl rfl ?_
   simp only [Z7,Z0]
   refine Z15 (v := .int .i64 ((4 * t : Nat) : Int)) (by rfl) rfl rfl rfl (fun W => run_mul (by simp only [IntKind.wrap_i64]; omega) W) ?_
   simp only [Z7,Z0]
   refine Z16 (v := .int .i64 0) (by rfl) rfl rfl ?_
   simp only [Z7,Z0]
   refine Z15 (v := .int .i64 ((4 * t + 0 : Nat) : Int)) (by rfl) rfl rfl rfl (fun W => run_add (by simp only [IntKind.wrap_i64]; omega) W) ?_
   simp only [Z7,Z0]
   refine wpV_indexb (n := 4 * t + 0) (by omega) (by rfl) rfl rfl rfl Tryd.underlying9 ?_
   simp only [Z7,Z0]
   refine wpV_conv (d := .bool) (e := ((byteN l (4 * t + 0) : Nat) : Int)) (by rfl) rfl rfl (run_conv_int Tryd.underlying5 Tryd.underlying25 (by have := (byteN_lt l (4 * t + 0)); rw [wrap32N]; omega)) ?_
   simp only [Z7,Z0]
   refine Z15 (v := .int .u32 ((byteN l (4 * t + 0) : Nat) : Int)) (by rfl) rfl rfl rfl (fun W => (by have := nr_add32 (P := Tryd.prog) 25 0 (byteN l (4 * t + 0)) W; rw [Nat.zero_add, Nat.mod_eq_of_lt (by have := byteN_lt l (4 * t + 0); have := byteN_lt l (4 * t + 1); have := byteN_lt l (4 * t + 2); have := byteN_lt l (4 * t + 3); omega)] at this; exact this)) ?_
   simp only [Z7,Z0]
   refine Z14 (hLk _ (fun w258 Sw258 => ?_))
   clear hLk Lk
   simp only [Z1,Z2]
   replace M := M.sees Sw258
   refine Z13 (v := .int .u32 ((byteN l (4 * t + 0) : Nat) : Int)) (by rfl) (by rfl) (by rfl) ?_
   simp only [Z7,Z0]
   refine Z9 (Z10 ?_)
   refine hK256 _ _ ?_
   refine Z8 ?_
   refine Z12 (v := .int .i64 0) (by rfl) (by rfl) (by rfl) ?_
   simp only [Z7,Z0]
   refine Z11 1 (by rfl) (fun Lk hLk => ?_)
   simp only [Z1,Z2]
   refine Z15 (v := .int .i64 1) (by rfl) rfl rfl rfl (fun W => run_add (by decide) W) ?_
   simp only [Z7,Z0]
   refine Z14 (hLk _ (fun w260 Sw260 => ?_))
   clear hLk Lk
   simp only [Z1,Z2]
   replace M := M.sees Sw260
   refine Z13 (v := .int .i64 1) (by rfl) (by rfl) (by rfl) ?_
   simp only [Z7,Z0]
   refine Z9 (Z10 ?_)
   refine Z17 (Q := fun _ _ _ => True) ?_
   rw [rounds_succ]
   refine Z4 (fun K261 hK261 => ?_)
   refine Z4 (fun K262 hK262 => ?_)
   refine Z8 ?_
   refine Z12 (v := .int .i64 1) (by rfl) (by rfl) (by rfl) ?_
   simp only [Z7,Z0]
   refine Z11 1 (by rfl) (fun Lk hLk => ?_)
   simp only [Z1,Z2]
   refine Z15 (v := .bool true) (by rfl) rfl rfl rfl (fun W => run_lss _ _ _ _ W) ?_
   simp only [Z7,Z0]
   refine Z14 (hLk _ (fun w264 Sw264 => ?_))
   clear hLk Lk
   simp only [Z1,Z2]
   replace M := M.sees Sw264
   refine Z9 (Z10 ?_)
   refine hK262 _ _ ?_
   refine Z5 rfl ?_
   refine wp_skip ?_
   refine hK261 _ _ ?_
   refine Z4 (fun K265 hK265 => ?_)
   refine wp_block ?_
   refine Z8 ?_
   refine Z12 (v := .int .u32 ((byteN l (4 * t + 0) : Nat) : Int)) (by rfl) (by rfl) (by rfl) ?_
   simp only [Z7,Z0]
   refine Z11 9 (by rfl) (fun Lk hLk => ?_)
   simp only [Z1,Z2]
   refine Z15 (v := .int .u32 (((byteN l (4 * t + 0)) * 256 : Nat) : Int)) (by rfl) rfl rfl rfl (fun W => (by have := nr_mul32 (P := Tryd.prog) 25 256 (byteN l (4 * t + 0)) W; rw [mul256 (by have := byteN_lt l (4 * t + 0); have := byteN_lt l (4 * t + 1); have := byteN_lt l (4 * t + 2); have := byteN_lt l (4 * t + 3); omega)] at this; exact this)) ?_
   simp only [Z7,Z0]
   refine Z16 (v := .string (bs l)) (by rfl) rfl rfl ?_
   simp only [Z7,Z0]
   refine Z16 (v := .int .i64 ((t : Nat) : Int)) (by rfl) rfl rfl ?_
   simp only [Z7,Z0]
   refine Z15 (v := .int .i64 ((4 * t : Nat) : Int)) (by rfl) rfl rfl rfl (fun W => run_mul (by simp only [IntKind.wrap_i64]; omega) W) ?_
   simp only [Z7,Z0]
   refine Z16 (v := .int .i64 1) (by rfl) rfl rfl ?_
   simp only [Z7,Z0]
   refine Z15 (v := .int .i64 ((4 * t + 1 : Nat) : Int)) (by rfl) rfl rfl rfl (fun W => run_add (by simp only [IntKind.wrap_i64]; omega) W) ?_
   simp only [Z7,Z0]
   refine wpV_indexb (n := 4 * t + 1) (by omega) (by rfl) rfl rfl rfl Tryd.underlying9 ?_
   simp only [Z7,Z0]
   refine wpV_conv (d := .bool) (e := ((byteN l (4 * t + 1) : Nat) : Int)) (by rfl) rfl rfl (run_conv_int Tryd.underlying5 Tryd.underlying25 (by have := (byteN_lt l (4 * t + 1)); rw [wrap32N]; omega)) ?_
   simp only [Z7,Z0]
   refine Z15 (v := .int .u32 ((byteN l (4 * t + 0) * 256 + byteN l (4 * t + 1) : Nat) : Int)) (by rfl) rfl rfl rfl (fun W => (by have := nr_add32 (P := Tryd.prog) 25 ((byteN l (4 * t + 0)) * 256) (byteN l (4 * t + 1)) W; rw [add256 (by have := byteN_lt l (4 * t + 0); have := byteN_lt l (4 * t + 1); have := byteN_lt l (4 * t + 2); have := byteN_lt l (4 * t + 3); omega) (by have := byteN_lt l (4 * t + 0); have := byteN_lt l (4 * t + 1); have := byteN_lt l (4 * t + 2); have := byteN_lt l (4 * t + 3); omega)] at this; exact this)) ?_
   simp only [Z7,Z0]
   refine Z14 (hLk _ (fun w267 Sw267 => ?_))
   clear hLk Lk
   simp only [Z1,Z2]
   replace M := M.sees Sw267
   refine Z13 (v := .int .u32 ((byteN l (4 * t + 0) * 256 + byteN l (4 * t + 1) : Nat) : Int)) (by rfl) (by rfl) (by rfl) ?_
   simp only [Z7,Z0]
   refine Z9 (Z10 ?_)
   refine hK265 _ _ ?_
   refine Z8 ?_
   refine Z12 (v := .int .i64 1) (by rfl) (by rfl) (by rfl) ?_
   simp only [Z7,Z0]
   refine Z11 1 (by rfl) (fun Lk hLk => ?_)
   simp only [Z1,Z2]
   refine Z15 (v := .int .i64 2) (by rfl) rfl rfl rfl (fun W => run_add (by decide) W) ?_
   simp only [Z7,Z0]
   refine Z14 (hLk _ (fun w269 Sw269 => ?_))
   clear hLk Lk
   simp only [Z1,Z2]
   replace M := M.sees Sw269
   refine Z13 (v := .int .i64 2) (by rfl) (by rfl) (by rfl) ?_
   simp only [Z7,Z0]
   refine Z9 (Z10 ?_)
   refine Z17 (Q := fun _ _ _ => True) ?_
   rw [rounds_succ]
   refine Z4 (fun K270 hK270 => ?_)
   refine Z4 (fun K271 hK271 => ?_)
   refine Z8 ?_
   refine Z12 (v := .int .i64 2) (by rfl) (by rfl) (by rfl) ?_
   simp only [Z7,Z0]
   refine Z11 1 (by rfl) (fun Lk hLk => ?_)
   simp only [Z1,Z2]
   refine Z15 (v := .bool true) (by rfl) rfl rfl rfl (fun W => run_lss _ _ _ _ W) ?_
   simp only [Z7,Z0]
   refine Z14 (hLk _ (fun w273 Sw273 => ?_))
   clear hLk Lk
   simp only [Z1,Z2]
   replace M := M.sees Sw273
   refine Z9 (Z10 ?_)
   refine hK271 _ _ ?_
   refine Z5 rfl ?_
   refine wp_skip ?_
   refine hK270 _ _ ?_
   refine Z4 (fun K274 hK274 => ?_)
   refine wp_block ?_
   refine Z8 ?_
   refine Z12 (v := .int .u32 ((byteN l (4 * t + 0) * 256 + byteN l (4 * t + 1) : Nat) : Int)) (by rfl) (by rfl) (by rfl) ?_
   simp only [Z7,Z0]
   refine Z11 9 (by rfl) (fun Lk hLk => ?_)
   simp only [Z1,Z2]
   refine Z15 (v := .int .u32 (((byteN l (4 * t + 0) * 256 + byteN l (4 * t + 1)) * 256 : Nat) : Int)) (by rfl) rfl rfl rfl (fun W => (by have := nr_mul32 (P := Tryd.prog) 25 256 (byteN l (4 * t + 0) * 256 + byteN l (4 * t + 1)) W; rw [mul256 (by have := byteN_lt l (4 * t + 0); have := byteN_lt l (4 * t + 1); have := byteN_lt l (4 * t + 2); have := byteN_lt l (4 * t + 3); omega)] at this; exact this)) ?_
   simp only [Z7,Z0]
   refine Z16 (v := .string (bs l)) (by rfl) rfl rfl ?_
   simp only [Z7,Z0]
   refine Z16 (v := .int .i64 ((t : Nat) : Int)) (by rfl) rfl rfl ?_
   simp only [Z7,Z0]
   refine Z15 (v := .int .i64 ((4 * t : Nat) : Int)) (by rfl) rfl rfl rfl (fun W => run_mul (by simp only [IntKind.wrap_i64]; omega) W) ?_
   simp only [Z7,Z0]
   refine Z16 (v := .int .i64 2) (by rfl) rfl rfl ?_
   simp only [Z7,Z0]
   refine Z15 (v := .int .i64 ((4 * t + 2 : Nat) : Int)) (by rfl) rfl rfl rfl (fun W => run_add (by simp only [IntKind.wrap_i64]; omega) W) ?_
   simp only [Z7,Z0]
   refine wpV_indexb (n := 4 * t + 2) (by omega) (by rfl) rfl rfl rfl Tryd.underlying9 ?_
   simp only [Z7,Z0]
   refine wpV_conv (d := .bool) (e := ((byteN l (4 * t + 2) : Nat) : Int)) (by rfl) rfl rfl (run_conv_int Tryd.underlying5 Tryd.underlying25 (by have := (byteN_lt l (4 * t + 2)); rw [wrap32N]; omega)) ?_
   simp only [Z7,Z0]
   refine Z15 (v := .int .u32 (((byteN l (4 * t + 0) * 256 + byteN l (4 * t + 1)) * 256 + byteN l (4 * t + 2) : Nat) : Int)) (by rfl) rfl rfl rfl (fun W => (by have := nr_add32 (P := Tryd.prog) 25 ((byteN l (4 * t + 0) * 256 + byteN l (4 * t + 1)) * 256) (byteN l (4 * t + 2)) W; rw [add256 (by have := byteN_lt l (4 * t + 0); have := byteN_lt l (4 * t + 1); have := byteN_lt l (4 * t + 2); have := byteN_lt l (4 * t + 3); omega) (by have := byteN_lt l (4 * t + 0); have := byteN_lt l (4 * t + 1); have := byteN_lt l (4 * t + 2); have := byteN_lt l (4 * t + 3); omega)] at this; exact this)) ?_
   simp only [Z7,Z0]
   refine Z14 (hLk _ (fun w276 Sw276 => ?_))
   clear hLk Lk
   simp only [Z1,Z2]
   replace M := M.sees Sw276
   refine Z13 (v := .int .u32 (((byteN l (4 * t + 0) * 256 + byteN l (4 * t + 1)) * 256 + byteN l (4 * t + 2) : Nat) : Int)) (by rfl) (by rfl) (by rfl) ?_
   simp only [Z7,Z0]
   refine Z9 (Z10 ?_)
   refine hK274 _ _ ?_
   refine Z8 ?_
   refine Z12 (v := .int .i64 2) (by rfl) (by rfl) (by rfl) ?_
   simp only [Z7,Z0]
   refine Z11 1 (by rfl) (fun Lk hLk => ?_)
   simp only [Z1,Z2]
   refine Z15 (v := .int .i64 3) (by rfl) rfl rfl rfl (fun W => run_add (by decide) W) ?_
   simp only [Z7,Z0]
   refine Z14 (hLk _ (fun w278 Sw278 => ?_))
   clear hLk Lk
   simp only [Z1,Z2]
   replace M := M.sees Sw278
   refine Z13 (v := .int .i64 3) (by rfl) (by rfl) (by rfl) ?_
   simp only [Z7,Z0]
   refine Z9 (Z10 ?_)
   refine Z17 (Q := fun _ _ _ => True) ?_
   rw [rounds_succ]
   refine Z4 (fun K279 hK279 => ?_)
   refine Z4 (fun K280 hK280 => ?_)
   refine Z8 ?_
   refine Z12 (v := .int .i64 3) (by rfl) (by rfl) (by rfl) ?_
   simp only [Z7,Z0]
   refine Z11 1 (by rfl) (fun Lk hLk => ?_)
   simp only [Z1,Z2]
   refine Z15 (v := .bool true) (by rfl) rfl rfl rfl (fun W => run_lss _ _ _ _ W) ?_
   simp only [Z7,Z0]
   refine Z14 (hLk _ (fun w282 Sw282 => ?_))
   clear hLk Lk
   simp only [Z1,Z2]
   replace M := M.sees Sw282
   refine Z9 (Z10 ?_)
   refine hK280 _ _ ?_
   refine Z5 rfl ?_
   refine wp_skip ?_
   refine hK279 _ _ ?_
   refine Z4 (fun K283 hK283 => ?_)
   refine wp_block ?_
   refine Z8 ?_
   refine Z12 (v := .int .u32 (((byteN l (4 * t + 0) * 256 + byteN l (4 * t + 1)) * 256 + byteN l (4 * t + 2) : Nat) : Int)) (by rfl) (by rfl) (by rfl) ?_
   simp only [Z7,Z0]
   refine Z11 9 (by rfl) (fun Lk hLk => ?_)
   simp only [Z1,Z2]
   refine Z15 (v := .int .u32 ((((byteN l (4 * t + 0) * 256 + byteN l (4 * t + 1)) * 256 + byteN l (4 * t + 2)) * 256 : Nat) : Int)) (by rfl) rfl rfl rfl (fun W => (by have := nr_mul32 (P := Tryd.prog) 25 256 ((byteN l (4 * t + 0) * 256 + byteN l (4 * t + 1)) * 256 + byteN l (4 * t + 2)) W; rw [mul256 (by have := byteN_lt l (4 * t + 0); have := byteN_lt l (4 * t + 1); have := byteN_lt l (4 * t + 2); have := byteN_lt l (4 * t + 3); omega)] at this; exact this)) ?_
   simp only [Z7,Z0]
   refine Z16 (v := .string (bs l)) (by rfl) rfl rfl ?_
   simp only [Z7,Z0]
   refine Z16 (v := .int .i64 ((t : Nat) : Int)) (by rfl) rfl rfl ?_
   simp only [Z7,Z0]
   refine Z15 (v := .int .i64 ((4 * t : Nat) : Int)) (by rfl) rfl rfl rfl (fun W => run_mul (by simp only [IntKind.wrap_i64]; omega) W) ?_
   simp only [Z7,Z0]
   refine Z16 (v := .int .i64 3) (by rfl) rfl rfl ?_
   simp only [Z7,Z0]
   refine Z15 (v := .int .i64 ((4 * t + 3 : Nat) : Int)) (by rfl) rfl rfl rfl (fun W => run_add (by simp only [IntKind.wrap_i64]; omega) W) ?_
   simp only [Z7,Z0]
   refine wpV_indexb (n := 4 * t + 3) (by omega) (by rfl) rfl rfl rfl Tryd.underlying9 ?_
   simp only [Z7,Z0]
   refine wpV_conv (d := .bool) (e := ((byteN l (4 * t + 3) : Nat) : Int)) (by rfl) rfl rfl (run_conv_int Tryd.underlying5 Tryd.underlying25 (by have := (byteN_lt l (4 * t + 3)); rw [wrap32N]; omega)) ?_
   simp only [Z7,Z0]
   refine Z15 (v := .int .u32 ((shW l t : Nat) : Int)) (by rfl) rfl rfl rfl (fun W => (by have := nr_add32 (P := Tryd.prog) 25 (((byteN l (4 * t + 0) * 256 + byteN l (4 * t + 1)) * 256 + byteN l (4 * t + 2)) * 256) (byteN l (4 * t + 3)) W; rw [add256 (by have := byteN_lt l (4 * t + 0); have := byteN_lt l (4 * t + 1); have := byteN_lt l (4 * t + 2); have := byteN_lt l (4 * t + 3); omega) (by have := byteN_lt l (4 * t + 0); have := byteN_lt l (4 * t + 1); have := byteN_lt l (4 * t + 2); have := byteN_lt l (4 * t + 3); omega), show ((byteN l (4 * t + 0) * 256 + byteN l (4 * t + 1)) * 256 + byteN l (4 * t + 2)) * 256 + byteN l (4 * t + 3) = shW l t from (shW_lo h16).symm] at this; exact this)) ?_
   simp only [Z7,Z0]
   refine Z14 (hLk _ (fun w285 Sw285 => ?_))
   clear hLk Lk
   simp only [Z1,Z2]
   replace M := M.sees Sw285
   refine Z13 (v := .int .u32 ((shW l t : Nat) : Int)) (by rfl) (by rfl) (by rfl) ?_
   simp only [Z7,Z0]
   refine Z9 (Z10 ?_)
   refine hK283 _ _ ?_
   refine Z8 ?_
   refine Z12 (v := .int .i64 3) (by rfl) (by rfl) (by rfl) ?_
   simp only [Z7,Z0]
   refine Z11 1 (by rfl) (fun Lk hLk => ?_)
   simp only [Z1,Z2]
   refine Z15 (v := .int .i64 4) (by rfl) rfl rfl rfl (fun W => run_add (by decide) W) ?_
   simp only [Z7,Z0]
   refine Z14 (hLk _ (fun w287 Sw287 => ?_))
   clear hLk Lk
   simp only [Z1,Z2]
   replace M := M.sees Sw287
   refine Z13 (v := .int .i64 4) (by rfl) (by rfl) (by rfl) ?_
   simp only [Z7,Z0]
   refine Z9 (Z10 ?_)
   refine Z17 (Q := fun _ _ _ => True) ?_
   rw [rounds_succ]
   refine Z4 (fun K288 hK288 => ?_)
   refine Z4 (fun K289 hK289 => ?_)
   refine Z8 ?_
   refine Z12 (v := .int .i64 4) (by rfl) (by rfl) (by rfl) ?_
   simp only [Z7,Z0]
   refine Z11 1 (by rfl) (fun Lk hLk => ?_)
   simp only [Z1,Z2]
   refine Z15 (v := .bool false) (by rfl) rfl rfl rfl (fun W => run_lss _ _ _ _ W) ?_
   simp only [Z7,Z0]
   refine Z14 (hLk _ (fun w291 Sw291 => ?_))
   clear hLk Lk
   simp only [Z1,Z2]
   replace M := M.sees Sw291
   refine Z9 (Z10 ?_)
   refine hK289 _ _ ?_
   refine Z6 rfl ?_
   refine wp_exit ?_
   refine hK230 _ _ ?_
   refine Z8 ?_
   refine Z12 (v := .slice (some ⟨gw, 0, none⟩) t gwc) (by rfl) (by rfl) (by rfl) ?_
   simp only [Z7,Z0]
   refine Z12 (v := .int .u32 ((shW l t : Nat) : Int)) (by rfl) (by rfl) (by rfl) ?_
   simp only [Z7,Z0]
   refine wpL_rowN (vs := [.int .u32 ((shW l t : Nat) : Int)]) (z := .int .u32 0) (bytes := 4) (by rfl) (by rfl) Tryd.underlying32 (by kernel_rfl) (by decide) (by kernel_rfl) (fun g293 w294 Sw294 Hg293 Bg293 => ?_)
   replace M := ((M.sees Sw294).add (N := 1) (cs := [.int .u32 ((shW l t : Nat) : Int)]) (M.ge Hg293) (M.fresh Hg293) Bg293 rfl)
   clear Bg293
   simp only [Z7,Z0]
   refine wpL_append (olds := wl32 l t) (news := [.int .u32 ((shW l t : Nat) : Int)]) (z := .int .u32 0) (bytes := 4) (by rfl) (by rfl) (by rfl) (by rfl) Tryd.underlying32 (by kernel_rfl) rfl rfl (wl32_len _ _) (by rfl) (M.r 3 0 rfl rfl) (M.t 3 rfl) (M.lt 3 rfl) (M.r 0 0 rfl rfl) (by simp [Value.oneCell']) (by omega) (by unfold maxLen; omega) (fun g295 g295c w296 Sw296 Q Cg295 R T L => ?_)
   replace M := M.grow 3 rfl Sw296 Q R T L
   simp only [Z0] at M
   clear Q R T L
   rw [wl32_snoc] at M
   simp only [Z7,Z0]
   refine Z13 (v := .slice (some ⟨g295, 0, none⟩) (t + 1) g295c) (by rfl) (by rfl) (by rfl) ?_
   simp only [Z7,Z0]
   refine Z9 (Z10 ?_)
   refine hK227 _ _ ?_
   refine Z8 ?_
   refine Z12 (v := .int .i64 ((t : Nat) : Int)) (by rfl) (by rfl) (by rfl) ?_
   simp only [Z7,Z0]
   refine Z11 1 (by rfl) (fun Lk hLk => ?_)
   simp only [Z1,Z2]
   refine Z15 (v := .int .i64 ((t + 1 : Nat) : Int)) (by rfl) rfl rfl rfl (fun W => run_add (by simp only [IntKind.wrap_i64]; omega) W) ?_
   simp only [Z7,Z0]
   refine Z14 (hLk _ (fun w298 Sw298 => ?_))
   clear hLk Lk
   simp only [Z1,Z2]
   replace M := M.sees Sw298
   refine Z13 (v := .int .i64 ((t + 1 : Nat) : Int)) (by rfl) (by rfl) (by rfl) ?_
   simp only [Z7,Z0]
   refine Z9 (Z10 ?_)
   refine Exists.intro _ ⟨?_, (t + 1), g295, g295c, (fun q9 => (#[Z3, Z3, Z3, Z3, Z3, Z3, Z3, Z3, Z3, .int .u32 ((shW l t : Nat) : Int), .int .i64 4, u14 11, u14 12, Z3, Z3, Z3, Z3, Z3, Z3, Z3, Z3, Z3, .int .i64 ((t : Nat) : Int), .bool true, .int .i64 ((t : Nat) : Int), .int .i64 ((t + 1 : Nat) : Int), .int .i64 ((t : Nat) : Int), .bool true, .int .i64 4, .bool false, .int .i64 3, .int .i64 4, .int .u32 (((byteN l (4 * t + 0) * 256 + byteN l (4 * t + 1)) * 256 + byteN l (4 * t + 2) : Nat) : Int), .int .u32 ((((byteN l (4 * t + 0) * 256 + byteN l (4 * t + 1)) * 256 + byteN l (4 * t + 2)) * 256 : Nat) : Int), .string (bs l), .int .i64 ((t : Nat) : Int), .int .i64 ((4 * t : Nat) : Int), .int .i64 3, .int .i64 ((4 * t + 3 : Nat) : Int), .int .u8 ((byteN l (4 * t + 3) : Nat) : Int), .int .u32 ((byteN l (4 * t + 3) : Nat) : Int), .int .u32 ((shW l t : Nat) : Int), u14 42, u14 43, u14 44, u14 45, u14 46, u14 47, u14 48, u14 49, u14 50, u14 51, u14 52, u14 53, u14 54, u14 55, u14 56, u14 57, u14 58, u14 59, u14 60, u14 61, u14 62, u14 63, u14 64, u14 65, u14 66, u14 67, u14 68, u14 69, u14 70, u14 71, u14 72, u14 73, u14 74, u14 75, u14 76, u14 77, u14 78, u14 79, u14 80, .slice (some ⟨gw, 0, none⟩) t gwc, .int .u32 ((shW l t : Nat) : Int), .slice (some ⟨g293, 0, none⟩) 1 1, .slice (some ⟨g295, 0, none⟩) (t + 1) g295c] : Array Value).getD q9 Z3), rfl, rfl, (M.pick [1, 2, 3] (by decide) rfl), Cg295, (by omega)⟩
   omega
end Go.Proofs.Yb

