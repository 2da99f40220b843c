import Derived.WalkKit
import Derived.WalkSpells
import Derived.Laws.Pointers
import Derived.RowKit3
import Derived.Below
import Derived.Outline
import Derived.LoopN
import Derived.Lib.Hide
import Derived.Handy
import Derived.Laws.Bits64b
import Derived.Test.YticcchgckljlnaaDoorInfo
import Derived.Test.YticcchgckljlnaaDoorMemA
import Derived.Test.YticcchgckljlnaaDoorSha
import Derived.Test.YticcchgckljlnaaDoorBits3264
set_option linter.unusedSimpArgs false
set_option linter.unusedVariables false
namespace Go.Proofs.Yb
open Go Go.RowKit Go.Proofs.Num
theorem rotl_wrap {n : Nat} (h1 : 1 ≤ n) (h2 : n ≤ 31) : IntKind.u64.wrap (-((n : Nat) : Int)) = ((18446744073709551616 - n : Nat) : Int) := by
  rw [IntKind.wrap_u64]; omega
theorem rotl_and {n : Nat} (h1 : 1 ≤ n) (h2 : n ≤ 31) : bits .and .u64 ((18446744073709551616 - n : Nat) : Int) 31 = ((32 - n : Nat) : Int) := by
  have h := bits_and_u64_nat (18446744073709551616 - n) 31 (by omega) (by decide)
  refine h.trans ?_
  rw [show (31 : Nat) = 2 ^ 5 - 1 by decide, Nat.and_two_pow_sub_one_eq_mod]
  omega
theorem or8 {a b : Nat} (ha : a < 16777216) (hb : b < 256) : bits .or .u32 ((a * 256 : Nat) : Int) ((b : Nat) : Int) = ((a * 256 + b : Nat) : Int) := by
  have h1 := toNat_of (n := 32) (a := a * 256) (Nat.lt_of_lt_of_eq (by omega : a * 256 < 4294967296) (by decide))
  have h2 := toNat_of (n := 32) (a := b) (show b < 4294967296 by omega)
  have h : a * 256 + b < 2 ^ 32 := by omega
  show IntKind.wrap .u32 ((BitVec.ofInt 32 ((a * 256 : Nat) : Int) ||| BitVec.ofInt 32 ((b : Nat) : Int)).toNat : Int) = _
  rw [BitVec.toNat_or, h1, h2, show a * 256 ||| b = a * 256 + b by have := Nat.shiftLeft_add_eq_or_of_lt (i := 8) (b := b) (by omega) a; rw [Nat.shiftLeft_eq, show (2 : Nat) ^ 8 = 256 by decide] at this; exact this.symm, wrap32N, Nat.mod_eq_of_lt h]
set_option maxHeartbeats 1000000 in
theorem rotl_c {x n : Nat} {w : World} (hx : x < 4294967296) (hn1 : 1 ≤ n) (hn2 : n ≤ 31) :
    Calls Tryd.prog 105 #[.int .u32 ((x : Nat) : Int), .int .i64 (-((n : Nat) : Int))] w fun e w' => e = .returned (.int .u32 ((rotr x n : Nat) : Int)) ∧ Below w.heap.size w w' := by
  go_enter Tryd.func105, Tryd.ntmps105
  have M := Mem.start w
  refine wp_seq_k (fun K1 hK1 => ?_)
  refine wp_region_seq ?_
  refine wpL_assign (v := .int .u32 0) (by rfl) (by rfl) (by rfl) ?_
  simp only [putT, List.set]
  refine wpL_nil (no_panic ?_)
  refine hK1 _ _ ?_
  refine wp_seq_k (fun K3 hK3 => ?_)
  refine wp_region_seq ?_
  refine wpL_move (v := .int .i64 (-((n : Nat) : Int))) (by rfl) (by rfl) (by rfl) ?_
  simp only [putT, List.set]
  refine wpL_chunk 2 (by rfl) (fun Lk hLk => ?_)
  simp only [List.take, List.drop]
  refine wpV_conv (d := .bool) (e := ((18446744073709551616 - n : Nat) : Int)) (by rfl) rfl rfl (run_conv_int Tryd.underlying3 Tryd.underlying116 (rotl_wrap hn1 hn2)) ?_
  simp only [putT, List.set]
  refine wpV_bin (v := .int .u64 ((32 - n : Nat) : Int)) (by rfl) rfl rfl rfl (fun W => run_and (rotl_and hn1 hn2) W) ?_
  simp only [putT, List.set]
  refine wpV_nil (hLk _ (fun w5 Sw5 => ?_))
  clear hLk Lk
  simp only [List.take, List.drop]
  replace M := M.sees Sw5
  refine wpL_assign (v := .int .u64 ((32 - n : Nat) : Int)) (by rfl) (by rfl) (by rfl) ?_
  simp only [putT, List.set]
  refine wpL_nil (no_panic ?_)
  refine hK3 _ _ ?_
  refine wp_seq_k (fun K6 hK6 => ?_)
  refine wp_region_seq ?_
  refine wpL_move (v := .int .u32 ((x : Nat) : Int)) (by rfl) (by rfl) (by rfl) ?_
  simp only [putT, List.set]
  refine wpL_move (v := .int .u64 ((32 - n : Nat) : Int)) (by rfl) (by rfl) (by rfl) ?_
  simp only [putT, List.set]
  refine wpL_chunk 6 (by rfl) (fun Lk hLk => ?_)
  simp only [List.take, List.drop]
  refine wpV_bin (v := .int .u32 ((x * 2 ^ (32 - n) % 4294967296 : Nat) : Int)) (by rfl) rfl rfl rfl (fun W => nr_shl32 (x := x) (n := 32 - n) (by omega) W) ?_
  simp only [putT, List.set]
  refine wpV_move (v := .int .u32 ((x : Nat) : Int)) (by rfl) rfl rfl ?_
  simp only [putT, List.set]
  refine wpV_move (v := .int .u64 ((32 - n : Nat) : Int)) (by rfl) rfl rfl ?_
  simp only [putT, List.set]
  refine wpV_bin (v := .int .u64 ((32 - (32 - n) : Nat) : Int)) (by rfl) rfl rfl rfl (fun W => nr_sub64 (x := 32) (y := 32 - n) (by omega) (by decide) W) ?_
  simp only [putT, List.set]
  refine wpV_bin (v := .int .u32 ((x / 2 ^ (32 - (32 - n)) : Nat) : Int)) (by rfl) rfl rfl rfl (fun W => nr_shr32 (x := x) (n := 32 - (32 - n)) (by omega) W) ?_
  simp only [putT, List.set]
  refine wpV_bin (v := .int .u32 (((x * 2 ^ (32 - n) % 4294967296) ||| (x / 2 ^ (32 - (32 - n))) : Nat) : Int)) (by rfl) rfl rfl rfl (fun W => nr_or32 (x := x * 2 ^ (32 - n) % 4294967296) (y := x / 2 ^ (32 - (32 - n))) (mod_lt32 _) (div_lt32 _ hx) W) ?_
  simp only [putT, List.set]
  refine wpV_nil (hLk _ (fun w8 Sw8 => ?_))
  clear hLk Lk
  simp only [List.take, List.drop]
  replace M := M.sees Sw8
  refine wpL_assign (v := .int .u32 (((x * 2 ^ (32 - n) % 4294967296) ||| (x / 2 ^ (32 - (32 - n))) : Nat) : Int)) (by rfl) (by rfl) (by rfl) ?_
  simp only [putT, List.set]
  refine wpL_nil (no_panic ?_)
  refine hK6 _ _ ?_
  refine wp_ret ?_
  repeat (first | with_reducible refine then_ret ?_ | with_reducible refine inblock_ret ?_)
  refine bodyPost_ret (v := .int .u32 (((x * 2 ^ (32 - n) % 4294967296) ||| (x / 2 ^ (32 - (32 - n))) : Nat) : Int)) (res1 rfl (.tmp (by rfl))) rfl ?_
  have BE := M.below
  exact ⟨by rw [show 32 - (32 - n) = n by omega, rotr_or hx (by omega)], BE⟩
set_option maxHeartbeats 1000000 in
theorem read_c {l : List UInt8} {w : World} (hl : 4 ≤ l.length) :
    Calls Tryd.prog 112 #[.string (bs l)] w fun e w' => e = .returned (.int .u32 ((be4 l 0 : Nat) : Int)) ∧ Below w.heap.size w w' := by
  go_enter Tryd.func112, Tryd.ntmps112
  have M := Mem.start w
  refine wp_seq_k (fun K1 hK1 => ?_)
  refine wp_region_seq ?_
  refine wpL_assign (v := .int .u32 0) (by rfl) (by rfl) (by rfl) ?_
  simp only [putT, List.set]
  refine wpL_nil (no_panic ?_)
  refine hK1 _ _ ?_
  refine wp_seq_k (fun K3 hK3 => ?_)
  refine wp_region_seq ?_
  refine wpL_assign (v := .int .u32 0) (by rfl) (by rfl) (by rfl) ?_
  simp only [putT, List.set]
  refine wpL_nil (no_panic ?_)
  refine hK3 _ _ ?_
  refine wp_seq_k (fun K5 hK5 => ?_)
  refine wp_seq_k (fun K6 hK6 => ?_)
  refine wp_region_seq ?_
  refine wpL_move (v := .int .i64 0) (by rfl) (by rfl) (by rfl) ?_
  simp only [putT, List.set]
  refine wpL_nil (no_panic ?_)
  refine hK6 _ _ ?_
  refine wp_block ?_
  refine wp_loop_rounds 5 ?_
  rw [rounds_succ]
  refine wp_seq_k (fun K8 hK8 => ?_)
  refine wp_region_seq ?_
  refine wpL_chunk 1 (by rfl) (fun Lk hLk => ?_)
  simp only [List.take, List.drop]
  refine wpV_bin (v := .bool true) (by rfl) rfl rfl rfl (fun W => run_lss _ _ _ _ W) ?_
  simp only [putT, List.set]
  refine wpV_nil (hLk _ (fun w10 Sw10 => ?_))
  clear hLk Lk
  simp only [List.take, List.drop]
  replace M := M.sees Sw10
  refine wpL_nil (no_panic ?_)
  refine hK8 _ _ ?_
  refine wp_seq_k (fun K11 hK11 => ?_)
  refine wp_cond_true rfl ?_
  refine wp_skip ?_
  refine hK11 _ _ ?_
  refine wp_seq_k (fun K12 hK12 => ?_)
  refine wp_block ?_
  refine wp_seq_k (fun K13 hK13 => ?_)
  refine wp_region_seq ?_
  refine wpL_move (v := .int .i64 0) (by rfl) (by rfl) (by rfl) ?_
  simp only [putT, List.set]
  refine wpL_assign (v := .int .i64 0) (by rfl) (by rfl) (by rfl) ?_
  simp only [putT, List.set]
  refine wpL_nil (no_panic ?_)
  refine hK13 _ _ ?_
  refine wp_region_seq ?_
  refine wpL_move (v := .int .u32 0) (by rfl) (by rfl) (by rfl) ?_
  simp only [putT, List.set]
  refine wpL_chunk 6 (by rfl) (fun Lk hLk => ?_)
  simp only [List.take, List.drop]
  refine wpV_bin (v := .int .u32 ((0 * 256 : Nat) : Int)) (by rfl) rfl rfl rfl (fun W => run_shl (m := 0) (n := 8) (by decide) ((wrap32N _).trans (congrArg _ (by have := byteN_lt l 0; have := byteN_lt l 1; have := byteN_lt l 2; omega))) W) ?_
  simp only [putT, List.set]
  refine wpV_move (v := .string (bs l)) (by rfl) rfl rfl ?_
  simp only [putT, List.set]
  refine wpV_move (v := .int .i64 0) (by rfl) rfl rfl ?_
  simp only [putT, List.set]
  refine wpV_indexb (n := 0) (by omega) (by rfl) rfl rfl rfl Tryd.underlying9 ?_
  simp only [putT, List.set]
  refine wpV_conv (d := .bool) (e := ((byteN l 0 : Nat) : Int)) (by rfl) rfl rfl (run_conv_int Tryd.underlying5 Tryd.underlying25 (by have := (byteN_lt l 0); rw [wrap32N]; omega)) ?_
  simp only [putT, List.set]
  refine wpV_bin (v := .int .u32 ((byteN l 0 : Nat) : Int)) (by rfl) rfl rfl rfl (fun W => run_or ((or8 (a := 0) (b := byteN l 0) (by decide) (byteN_lt l 0)).trans (by rw [Nat.zero_mul, Nat.zero_add])) W) ?_
  simp only [putT, List.set]
  refine wpV_nil (hLk _ (fun w16 Sw16 => ?_))
  clear hLk Lk
  simp only [List.take, List.drop]
  replace M := M.sees Sw16
  refine wpL_assign (v := .int .u32 ((byteN l 0 : Nat) : Int)) (by rfl) (by rfl) (by rfl) ?_
  simp only [putT, List.set]
  refine wpL_nil (no_panic ?_)
  refine hK12 _ _ ?_
  refine wp_region_seq ?_
  refine wpL_chunk 1 (by rfl) (fun Lk hLk => ?_)
  simp only [List.take, List.drop]
  refine wpV_bin (v := .int .i64 1) (by rfl) rfl rfl rfl (fun W => run_add (by decide) W) ?_
  simp only [putT, List.set]
  refine wpV_nil (hLk _ (fun w18 Sw18 => ?_))
  clear hLk Lk
  simp only [List.take, List.drop]
  replace M := M.sees Sw18
  refine wpL_move (v := .int .i64 1) (by rfl) (by rfl) (by rfl) ?_
  simp only [putT, List.set]
  refine wpL_nil (no_panic ?_)
  refine then_normal (Q := fun _ _ _ => True) ?_
  rw [rounds_succ]
  refine wp_seq_k (fun K19 hK19 => ?_)
  refine wp_region_seq ?_
  refine wpL_chunk 1 (by rfl) (fun Lk hLk => ?_)
  simp only [List.take, List.drop]
  refine wpV_bin (v := .bool true) (by rfl) rfl rfl rfl (fun W => run_lss _ _ _ _ W) ?_
  simp only [putT, List.set]
  refine wpV_nil (hLk _ (fun w21 Sw21 => ?_))
  clear hLk Lk
  simp only [List.take, List.drop]
  replace M := M.sees Sw21
  refine wpL_nil (no_panic ?_)
  refine hK19 _ _ ?_
  refine wp_seq_k (fun K22 hK22 => ?_)
  refine wp_cond_true rfl ?_
  refine wp_skip ?_
  refine hK22 _ _ ?_
  refine wp_seq_k (fun K23 hK23 => ?_)
  refine wp_block ?_
  refine wp_seq_k (fun K24 hK24 => ?_)
  refine wp_region_seq ?_
  refine wpL_move (v := .int .i64 1) (by rfl) (by rfl) (by rfl) ?_
  simp only [putT, List.set]
  refine wpL_assign (v := .int .i64 1) (by rfl) (by rfl) (by rfl) ?_
  simp only [putT, List.set]
  refine wpL_nil (no_panic ?_)
  refine hK24 _ _ ?_
  refine wp_region_seq ?_
  refine wpL_move (v := .int .u32 ((byteN l 0 : Nat) : Int)) (by rfl) (by rfl) (by rfl) ?_
  simp only [putT, List.set]
  refine wpL_chunk 6 (by rfl) (fun Lk hLk => ?_)
  simp only [List.take, List.drop]
  refine wpV_bin (v := .int .u32 (((byteN l 0) * 256 : Nat) : Int)) (by rfl) rfl rfl rfl (fun W => run_shl (m := byteN l 0) (n := 8) (by decide) ((wrap32N _).trans (congrArg _ (by have := byteN_lt l 0; have := byteN_lt l 1; have := byteN_lt l 2; omega))) W) ?_
  simp only [putT, List.set]
  refine wpV_move (v := .string (bs l)) (by rfl) rfl rfl ?_
  simp only [putT, List.set]
  refine wpV_move (v := .int .i64 1) (by rfl) rfl rfl ?_
  simp only [putT, List.set]
  refine wpV_indexb (n := 1) (by omega) (by rfl) rfl rfl rfl Tryd.underlying9 ?_
  simp only [putT, List.set]
  refine wpV_conv (d := .bool) (e := ((byteN l 1 : Nat) : Int)) (by rfl) rfl rfl (run_conv_int Tryd.underlying5 Tryd.underlying25 (by have := (byteN_lt l 1); rw [wrap32N]; omega)) ?_
  simp only [putT, List.set]
  refine wpV_bin (v := .int .u32 ((byteN l 0 * 256 + byteN l 1 : Nat) : Int)) (by rfl) rfl rfl rfl (fun W => run_or (or8 (a := byteN l 0) (b := byteN l 1) (by have := byteN_lt l 0; have := byteN_lt l 1; have := byteN_lt l 2; omega) (byteN_lt l 1)) W) ?_
  simp only [putT, List.set]
  refine wpV_nil (hLk _ (fun w27 Sw27 => ?_))
  clear hLk Lk
  simp only [List.take, List.drop]
  replace M := M.sees Sw27
  refine wpL_assign (v := .int .u32 ((byteN l 0 * 256 + byteN l 1 : Nat) : Int)) (by rfl) (by rfl) (by rfl) ?_
  simp only [putT, List.set]
  refine wpL_nil (no_panic ?_)
  refine hK23 _ _ ?_
  refine wp_region_seq ?_
  refine wpL_chunk 1 (by rfl) (fun Lk hLk => ?_)
  simp only [List.take, List.drop]
  refine wpV_bin (v := .int .i64 2) (by rfl) rfl rfl rfl (fun W => run_add (by decide) W) ?_
  simp only [putT, List.set]
  refine wpV_nil (hLk _ (fun w29 Sw29 => ?_))
  clear hLk Lk
  simp only [List.take, List.drop]
  replace M := M.sees Sw29
  refine wpL_move (v := .int .i64 2) (by rfl) (by rfl) (by rfl) ?_
  simp only [putT, List.set]
  refine wpL_nil (no_panic ?_)
  refine then_normal (Q := fun _ _ _ => True) ?_
  rw [rounds_succ]
  refine wp_seq_k (fun K30 hK30 => ?_)
  refine wp_region_seq ?_
  refine wpL_chunk 1 (by rfl) (fun Lk hLk => ?_)
  simp only [List.take, List.drop]
  refine wpV_bin (v := .bool true) (by rfl) rfl rfl rfl (fun W => run_lss _ _ _ _ W) ?_
  simp only [putT, List.set]
  refine wpV_nil (hLk _ (fun w32 Sw32 => ?_))
  clear hLk Lk
  simp only [List.take, List.drop]
  replace M := M.sees Sw32
  refine wpL_nil (no_panic ?_)
  refine hK30 _ _ ?_
  refine wp_seq_k (fun K33 hK33 => ?_)
  refine wp_cond_true rfl ?_
  refine wp_skip ?_
  refine hK33 _ _ ?_
  refine wp_seq_k (fun K34 hK34 => ?_)
  refine wp_block ?_
  refine wp_seq_k (fun K35 hK35 => ?_)
  refine wp_region_seq ?_
  refine wpL_move (v := .int .i64 2) (by rfl) (by rfl) (by rfl) ?_
  simp only [putT, List.set]
  refine wpL_assign (v := .int .i64 2) (by rfl) (by rfl) (by rfl) ?_
  simp only [putT, List.set]
  refine wpL_nil (no_panic ?_)
  refine hK35 _ _ ?_
  refine wp_region_seq ?_
  refine wpL_move (v := .int .u32 ((byteN l 0 * 256 + byteN l 1 : Nat) : Int)) (by rfl) (by rfl) (by rfl) ?_
  simp only [putT, List.set]
  refine wpL_chunk 6 (by rfl) (fun Lk hLk => ?_)
  simp only [List.take, List.drop]
  refine wpV_bin (v := .int .u32 (((byteN l 0 * 256 + byteN l 1) * 256 : Nat) : Int)) (by rfl) rfl rfl rfl (fun W => run_shl (m := byteN l 0 * 256 + byteN l 1) (n := 8) (by decide) ((wrap32N _).trans (congrArg _ (by have := byteN_lt l 0; have := byteN_lt l 1; have := byteN_lt l 2; omega))) W) ?_
  simp only [putT, List.set]
  refine wpV_move (v := .string (bs l)) (by rfl) rfl rfl ?_
  simp only [putT, List.set]
  refine wpV_move (v := .int .i64 2) (by rfl) rfl rfl ?_
  simp only [putT, List.set]
  refine wpV_indexb (n := 2) (by omega) (by rfl) rfl rfl rfl Tryd.underlying9 ?_
  simp only [putT, List.set]
  refine wpV_conv (d := .bool) (e := ((byteN l 2 : Nat) : Int)) (by rfl) rfl rfl (run_conv_int Tryd.underlying5 Tryd.underlying25 (by have := (byteN_lt l 2); rw [wrap32N]; omega)) ?_
  simp only [putT, List.set]
  refine wpV_bin (v := .int .u32 (((byteN l 0 * 256 + byteN l 1) * 256 + byteN l 2 : Nat) : Int)) (by rfl) rfl rfl rfl (fun W => run_or (or8 (a := byteN l 0 * 256 + byteN l 1) (b := byteN l 2) (by have := byteN_lt l 0; have := byteN_lt l 1; have := byteN_lt l 2; omega) (byteN_lt l 2)) W) ?_
  simp only [putT, List.set]
  refine wpV_nil (hLk _ (fun w38 Sw38 => ?_))
  clear hLk Lk
  simp only [List.take, List.drop]
  replace M := M.sees Sw38
  refine wpL_assign (v := .int .u32 (((byteN l 0 * 256 + byteN l 1) * 256 + byteN l 2 : Nat) : Int)) (by rfl) (by rfl) (by rfl) ?_
  simp only [putT, List.set]
  refine wpL_nil (no_panic ?_)
  refine hK34 _ _ ?_
  refine wp_region_seq ?_
  refine wpL_chunk 1 (by rfl) (fun Lk hLk => ?_)
  simp only [List.take, List.drop]
  refine wpV_bin (v := .int .i64 3) (by rfl) rfl rfl rfl (fun W => run_add (by decide) W) ?_
  simp only [putT, List.set]
  refine wpV_nil (hLk _ (fun w40 Sw40 => ?_))
  clear hLk Lk
  simp only [List.take, List.drop]
  replace M := M.sees Sw40
  refine wpL_move (v := .int .i64 3) (by rfl) (by rfl) (by rfl) ?_
  simp only [putT, List.set]
  refine wpL_nil (no_panic ?_)
  refine then_normal (Q := fun _ _ _ => True) ?_
  rw [rounds_succ]
  refine wp_seq_k (fun K41 hK41 => ?_)
  refine wp_region_seq ?_
  refine wpL_chunk 1 (by rfl) (fun Lk hLk => ?_)
  simp only [List.take, List.drop]
  refine wpV_bin (v := .bool true) (by rfl) rfl rfl rfl (fun W => run_lss _ _ _ _ W) ?_
  simp only [putT, List.set]
  refine wpV_nil (hLk _ (fun w43 Sw43 => ?_))
  clear hLk Lk
  simp only [List.take, List.drop]
  replace M := M.sees Sw43
  refine wpL_nil (no_panic ?_)
  refine hK41 _ _ ?_
  refine wp_seq_k (fun K44 hK44 => ?_)
  refine wp_cond_true rfl ?_
  refine wp_skip ?_
  refine hK44 _ _ ?_
  refine wp_seq_k (fun K45 hK45 => ?_)
  refine wp_block ?_
  refine wp_seq_k (fun K46 hK46 => ?_)
  refine wp_region_seq ?_
  refine wpL_move (v := .int .i64 3) (by rfl) (by rfl) (by rfl) ?_
  simp only [putT, List.set]
  refine wpL_assign (v := .int .i64 3) (by rfl) (by rfl) (by rfl) ?_
  simp only [putT, List.set]
  refine wpL_nil (no_panic ?_)
  refine hK46 _ _ ?_
  refine wp_region_seq ?_
  refine wpL_move (v := .int .u32 (((byteN l 0 * 256 + byteN l 1) * 256 + byteN l 2 : Nat) : Int)) (by rfl) (by rfl) (by rfl) ?_
  simp only [putT, List.set]
  refine wpL_chunk 6 (by rfl) (fun Lk hLk => ?_)
  simp only [List.take, List.drop]
  refine wpV_bin (v := .int .u32 ((((byteN l 0 * 256 + byteN l 1) * 256 + byteN l 2) * 256 : Nat) : Int)) (by rfl) rfl rfl rfl (fun W => run_shl (m := (byteN l 0 * 256 + byteN l 1) * 256 + byteN l 2) (n := 8) (by decide) ((wrap32N _).trans (congrArg _ (by have := byteN_lt l 0; have := byteN_lt l 1; have := byteN_lt l 2; omega))) W) ?_
  simp only [putT, List.set]
  refine wpV_move (v := .string (bs l)) (by rfl) rfl rfl ?_
  simp only [putT, List.set]
  refine wpV_move (v := .int .i64 3) (by rfl) rfl rfl ?_
  simp only [putT, List.set]
  refine wpV_indexb (n := 3) (by omega) (by rfl) rfl rfl rfl Tryd.underlying9 ?_
  simp only [putT, List.set]
  refine wpV_conv (d := .bool) (e := ((byteN l 3 : Nat) : Int)) (by rfl) rfl rfl (run_conv_int Tryd.underlying5 Tryd.underlying25 (by have := (byteN_lt l 3); rw [wrap32N]; omega)) ?_
  simp only [putT, List.set]
  refine wpV_bin (v := .int .u32 ((be4 l 0 : Nat) : Int)) (by rfl) rfl rfl rfl (fun W => run_or (or8 (a := (byteN l 0 * 256 + byteN l 1) * 256 + byteN l 2) (b := byteN l 3) (by have := byteN_lt l 0; have := byteN_lt l 1; have := byteN_lt l 2; omega) (byteN_lt l 3)) W) ?_
  simp only [putT, List.set]
  refine wpV_nil (hLk _ (fun w49 Sw49 => ?_))
  clear hLk Lk
  simp only [List.take, List.drop]
  replace M := M.sees Sw49
  refine wpL_assign (v := .int .u32 ((be4 l 0 : Nat) : Int)) (by rfl) (by rfl) (by rfl) ?_
  simp only [putT, List.set]
  refine wpL_nil (no_panic ?_)
  refine hK45 _ _ ?_
  refine wp_region_seq ?_
  refine wpL_chunk 1 (by rfl) (fun Lk hLk => ?_)
  simp only [List.take, List.drop]
  refine wpV_bin (v := .int .i64 4) (by rfl) rfl rfl rfl (fun W => run_add (by decide) W) ?_
  simp only [putT, List.set]
  refine wpV_nil (hLk _ (fun w51 Sw51 => ?_))
  clear hLk Lk
  simp only [List.take, List.drop]
  replace M := M.sees Sw51
  refine wpL_move (v := .int .i64 4) (by rfl) (by rfl) (by rfl) ?_
  simp only [putT, List.set]
  refine wpL_nil (no_panic ?_)
  refine then_normal (Q := fun _ _ _ => True) ?_
  rw [rounds_succ]
  refine wp_seq_k (fun K52 hK52 => ?_)
  refine wp_region_seq ?_
  refine wpL_chunk 1 (by rfl) (fun Lk hLk => ?_)
  simp only [List.take, List.drop]
  refine wpV_bin (v := .bool false) (by rfl) rfl rfl rfl (fun W => run_lss _ _ _ _ W) ?_
  simp only [putT, List.set]
  refine wpV_nil (hLk _ (fun w54 Sw54 => ?_))
  clear hLk Lk
  simp only [List.take, List.drop]
  replace M := M.sees Sw54
  refine wpL_nil (no_panic ?_)
  refine hK52 _ _ ?_
  refine wp_seq_k (fun K55 hK55 => ?_)
  refine wp_cond_false rfl ?_
  refine wp_exit ?_
  refine hK5 _ _ ?_
  refine wp_seq_k (fun K56 hK56 => ?_)
  refine wp_region_seq ?_
  refine wpL_move (v := .int .u32 ((be4 l 0 : Nat) : Int)) (by rfl) (by rfl) (by rfl) ?_
  simp only [putT, List.set]
  refine wpL_assign (v := .int .u32 ((be4 l 0 : Nat) : Int)) (by rfl) (by rfl) (by rfl) ?_
  simp only [putT, List.set]
  refine wpL_nil (no_panic ?_)
  refine hK56 _ _ ?_
  refine wp_ret ?_
  repeat (first | with_reducible refine then_ret ?_ | with_reducible refine inblock_ret ?_)
  refine bodyPost_ret (v := .int .u32 ((be4 l 0 : Nat) : Int)) (res1 rfl (.tmp (by rfl))) rfl ?_
  have BE := M.below
  exact ⟨rfl, BE⟩
set_option maxHeartbeats 2000000 in
theorem spread_c {l : List UInt8} {w : World} (hl : 64 ≤ l.length) :
    Calls Tryd.prog 104 #[.string (bs l)] w fun e w' => e = .returned (.agg (wcells l 64).toArray) ∧ Below w.heap.size w w' := by
  go_enter Tryd.func104, Tryd.ntmps104
  have M := Mem.start w
  refine wp_seq_k (fun K1 hK1 => ?_)
  refine wp_region_seq ?_
  refine wpL_var (t := 119) (cs := [.int .u32 0, .int .u32 0, .int .u32 0, .int .u32 0, .int .u32 0, .int .u32 0, .int .u32 0, .int .u32 0, .int .u32 0, .int .u32 0, .int .u32 0, .int .u32 0, .int .u32 0, .int .u32 0, .int .u32 0, .int .u32 0, .int .u32 0, .int .u32 0, .int .u32 0, .int .u32 0, .int .u32 0, .int .u32 0, .int .u32 0, .int .u32 0, .int .u32 0, .int .u32 0, .int .u32 0, .int .u32 0, .int .u32 0, .int .u32 0, .int .u32 0, .int .u32 0, .int .u32 0, .int .u32 0, .int .u32 0, .int .u32 0, .int .u32 0, .int .u32 0, .int .u32 0, .int .u32 0, .int .u32 0, .int .u32 0, .int .u32 0, .int .u32 0, .int .u32 0, .int .u32 0, .int .u32 0, .int .u32 0, .int .u32 0, .int .u32 0, .int .u32 0, .int .u32 0, .int .u32 0, .int .u32 0, .int .u32 0, .int .u32 0, .int .u32 0, .int .u32 0, .int .u32 0, .int .u32 0, .int .u32 0, .int .u32 0, .int .u32 0, .int .u32 0]) (by rfl) (fun W => ?_) (fun g3 w4 Sw4 Hg3 Bg3 => ?_)
  · go_simp
  replace M := ((M.sees Sw4).add (cs := [.int .u32 0, .int .u32 0, .int .u32 0, .int .u32 0, .int .u32 0, .int .u32 0, .int .u32 0, .int .u32 0, .int .u32 0, .int .u32 0, .int .u32 0, .int .u32 0, .int .u32 0, .int .u32 0, .int .u32 0, .int .u32 0, .int .u32 0, .int .u32 0, .int .u32 0, .int .u32 0, .int .u32 0, .int .u32 0, .int .u32 0, .int .u32 0, .int .u32 0, .int .u32 0, .int .u32 0, .int .u32 0, .int .u32 0, .int .u32 0, .int .u32 0, .int .u32 0, .int .u32 0, .int .u32 0, .int .u32 0, .int .u32 0, .int .u32 0, .int .u32 0, .int .u32 0, .int .u32 0, .int .u32 0, .int .u32 0, .int .u32 0, .int .u32 0, .int .u32 0, .int .u32 0, .int .u32 0, .int .u32 0, .int .u32 0, .int .u32 0, .int .u32 0, .int .u32 0, .int .u32 0, .int .u32 0, .int .u32 0, .int .u32 0, .int .u32 0, .int .u32 0, .int .u32 0, .int .u32 0, .int .u32 0, .int .u32 0, .int .u32 0, .int .u32 0]) (M.ge Hg3) (M.fresh Hg3) Bg3 rfl)
  clear Bg3
  simp only [putT, List.set]
  refine wpL_nil (no_panic ?_)
  refine hK1 _ _ ?_
  refine wp_seq_k (fun K5 hK5 => ?_)
  refine wp_region_seq ?_
  refine wpL_var (t := 119) (cs := [.int .u32 0, .int .u32 0, .int .u32 0, .int .u32 0, .int .u32 0, .int .u32 0, .int .u32 0, .int .u32 0, .int .u32 0, .int .u32 0, .int .u32 0, .int .u32 0, .int .u32 0, .int .u32 0, .int .u32 0, .int .u32 0, .int .u32 0, .int .u32 0, .int .u32 0, .int .u32 0, .int .u32 0, .int .u32 0, .int .u32 0, .int .u32 0, .int .u32 0, .int .u32 0, .int .u32 0, .int .u32 0, .int .u32 0, .int .u32 0, .int .u32 0, .int .u32 0, .int .u32 0, .int .u32 0, .int .u32 0, .int .u32 0, .int .u32 0, .int .u32 0, .int .u32 0, .int .u32 0, .int .u32 0, .int .u32 0, .int .u32 0, .int .u32 0, .int .u32 0, .int .u32 0, .int .u32 0, .int .u32 0, .int .u32 0, .int .u32 0, .int .u32 0, .int .u32 0, .int .u32 0, .int .u32 0, .int .u32 0, .int .u32 0, .int .u32 0, .int .u32 0, .int .u32 0, .int .u32 0, .int .u32 0, .int .u32 0, .int .u32 0, .int .u32 0]) (by rfl) (fun W => ?_) (fun g7 w8 Sw8 Hg7 Bg7 => ?_)
  · go_simp
  replace M := ((M.sees Sw8).add (cs := [.int .u32 0, .int .u32 0, .int .u32 0, .int .u32 0, .int .u32 0, .int .u32 0, .int .u32 0, .int .u32 0, .int .u32 0, .int .u32 0, .int .u32 0, .int .u32 0, .int .u32 0, .int .u32 0, .int .u32 0, .int .u32 0, .int .u32 0, .int .u32 0, .int .u32 0, .int .u32 0, .int .u32 0, .int .u32 0, .int .u32 0, .int .u32 0, .int .u32 0, .int .u32 0, .int .u32 0, .int .u32 0, .int .u32 0, .int .u32 0, .int .u32 0, .int .u32 0, .int .u32 0, .int .u32 0, .int .u32 0, .int .u32 0, .int .u32 0, .int .u32 0, .int .u32 0, .int .u32 0, .int .u32 0, .int .u32 0, .int .u32 0, .int .u32 0, .int .u32 0, .int .u32 0, .int .u32 0, .int .u32 0, .int .u32 0, .int .u32 0, .int .u32 0, .int .u32 0, .int .u32 0, .int .u32 0, .int .u32 0, .int .u32 0, .int .u32 0, .int .u32 0, .int .u32 0, .int .u32 0, .int .u32 0, .int .u32 0, .int .u32 0, .int .u32 0]) (M.ge Hg7) (M.fresh Hg7) Bg7 rfl)
  clear Bg7
  simp only [putT, List.set]
  refine wpL_nil (no_panic ?_)
  refine hK5 _ _ ?_
  refine wp_seq_k (fun K9 hK9 => ?_)
  refine wp_seq_k (fun K10 hK10 => ?_)
  refine wp_region_seq ?_
  refine wpL_move (v := .int .i64 0) (by rfl) (by rfl) (by rfl) ?_
  simp only [putT, List.set]
  refine wpL_nil (no_panic ?_)
  refine hK10 _ _ ?_
  refine wp_block ?_
  replace M := M.read1 (cs := wcells l 0) (o := 0) 0 rfl (by rw [wcells_zero]; exact (M.r 0 0 rfl rfl))
  simp only [List.set] at M
  refine wp_loop_ghost (fun n9 a9 W9 => ∃ (t : Nat) (u12 : Nat → Value), n9 = 64 - t ∧ a9 = { tmps := #[.string (bs l), undef, .pointer (some ⟨g3, 0, none⟩), .pointer (some ⟨g7, 0, none⟩), u12 4, u12 5, u12 6, u12 7, u12 8, .int .i64 ((t : Nat) : Int), u12 10, u12 11, u12 12, u12 13, u12 14, u12 15, u12 16, u12 17, u12 18, u12 19, u12 20, u12 21, u12 22, u12 23, u12 24, u12 25, u12 26, u12 27, u12 28, u12 29, u12 30, u12 31, u12 32, u12 33, u12 34, u12 35, u12 36, u12 37, u12 38, u12 39, u12 40, u12 41, u12 42, u12 43, u12 44, u12 45, u12 46, u12 47, u12 48, u12 49, u12 50, u12 51, u12 52, u12 53, u12 54, u12 55, u12 56, u12 57, u12 58, u12 59, u12 60, undef], defers := [] } ∧ Mem [] w W9 [⟨g7, 64, [(0, wcells l t)]⟩, ⟨g3, 64, [(0, [.int .u32 0, .int .u32 0, .int .u32 0, .int .u32 0, .int .u32 0, .int .u32 0, .int .u32 0, .int .u32 0, .int .u32 0, .int .u32 0, .int .u32 0, .int .u32 0, .int .u32 0, .int .u32 0, .int .u32 0, .int .u32 0, .int .u32 0, .int .u32 0, .int .u32 0, .int .u32 0, .int .u32 0, .int .u32 0, .int .u32 0, .int .u32 0, .int .u32 0, .int .u32 0, .int .u32 0, .int .u32 0, .int .u32 0, .int .u32 0, .int .u32 0, .int .u32 0, .int .u32 0, .int .u32 0, .int .u32 0, .int .u32 0, .int .u32 0, .int .u32 0, .int .u32 0, .int .u32 0, .int .u32 0, .int .u32 0, .int .u32 0, .int .u32 0, .int .u32 0, .int .u32 0, .int .u32 0, .int .u32 0, .int .u32 0, .int .u32 0, .int .u32 0, .int .u32 0, .int .u32 0, .int .u32 0, .int .u32 0, .int .u32 0, .int .u32 0, .int .u32 0, .int .u32 0, .int .u32 0, .int .u32 0, .int .u32 0, .int .u32 0, .int .u32 0])]⟩] ∧ (t ≤ 64)) (64 - (0)) ?_ (fun n9 a9 W9 hI => ?_)
  · exact ⟨0, (fun q9 => (#[undef, undef, undef, undef, undef, undef, undef, undef, undef, undef, undef, undef, undef, undef, undef, undef, undef, undef, undef, undef, undef, undef, undef, undef, undef, undef, undef, undef, undef, undef, undef, undef, undef, undef, undef, undef, undef, undef, undef, undef, undef, undef, undef, undef, undef, undef, undef, undef, undef, undef, undef, undef, undef, undef, undef, undef, undef, undef, undef, undef, undef] : Array Value).getD q9 undef), rfl, rfl, M, (by omega)⟩
  clear M
  obtain ⟨t, u12, rfl, rfl, M, ht4⟩ := hI
  obtain ⟨w13, rfl⟩ : ∃ W8, W8 = W9 := ⟨_, rfl⟩
  refine wp_seq_k (fun K14 hK14 => ?_)
  refine wp_region_seq ?_
  refine wpL_chunk 1 (by rfl) (fun Lk hLk => ?_)
  simp only [List.take, List.drop]
  refine wpV_bin (v := .bool (decide (t < 64))) (by rfl) rfl rfl rfl (fun W => run_lssN t 64 _ _ W) ?_
  simp only [putT, List.set]
  refine wpV_nil (hLk _ (fun w16 Sw16 => ?_))
  clear hLk Lk
  simp only [List.take, List.drop]
  replace M := M.sees Sw16
  refine wpL_nil (no_panic ?_)
  refine hK14 _ _ ?_
  refine wp_seq_k (fun K17 hK17 => ?_)
  cases hc18 : (decide (t < 64))
  · skip
    have et : t = 64 := by have := of_decide_eq_false hc18; omega
    subst et
    refine wp_cond_false rfl ?_
    refine wp_exit ?_
    refine hK9 _ _ ?_
    refine wp_seq_k (fun K19 hK19 => ?_)
    refine wp_region_seq ?_
    refine wpL_chunk 1 (by rfl) (fun Lk hLk => ?_)
    simp only [List.take, List.drop]
    refine wpV_load (cs := wcells l 64) (by rfl) rfl rfl (M.r 0 0 rfl rfl) (M.lt 0 rfl) Tryd.underlying119 rfl info119 ?_
    simp only [putT, List.set]
    refine wpV_nil (hLk _ (fun w21 Sw21 => ?_))
    clear hLk Lk
    simp only [List.take, List.drop]
    replace M := M.sees Sw21
    refine wpL_store (g := g3) (off := 0) (n := 64) (cs := wcells l 64) (by rfl) (by rfl) (by rfl) (by rfl) (by rfl) (M.t 1 rfl) (by rw [wcells_len]; decide) info119 (wcells_one _ _) (fun w22 P R T => ?_)
    replace M := M.putS 1 0 rfl P R T rfl ⟨.inl rfl, trivial⟩
    simp only [List.set] at M
    refine wpL_nil (no_panic ?_)
    refine hK19 _ _ ?_
    refine wp_ret ?_
    repeat (first | with_reducible refine then_ret ?_ | with_reducible refine inblock_ret ?_)
    refine bodyPost_ret (v := .agg (wcells l 64).toArray) (res1 rfl (.cell (by rfl) (run_loadVar_mid _ _ _ _ (wcells l 64) _ (M.r 1 0 rfl rfl) Tryd.underlying119 rfl info119))) rfl ?_
    have BE := M.below
    exact ⟨rfl, BE⟩
  · skip
    have ht : t < 64 := of_decide_eq_true hc18
    refine wp_cond_true rfl ?_
    refine wp_skip ?_
    refine hK17 _ _ ?_
    refine wp_seq_k (fun K23 hK23 => ?_)
    refine wp_block ?_
    refine wp_seq_k (fun K24 hK24 => ?_)
    refine wp_region_seq ?_
    refine wpL_move (v := .int .i64 ((t : Nat) : Int)) (by rfl) (by rfl) (by rfl) ?_
    simp only [putT, List.set]
    refine wpL_assign (v := .int .i64 ((t : Nat) : Int)) (by rfl) (by rfl) (by rfl) ?_
    simp only [putT, List.set]
    refine wpL_nil (no_panic ?_)
    refine hK24 _ _ ?_
    refine wp_seq_k (fun K26 hK26 => ?_)
    refine wp_seq_k (fun K27 hK27 => ?_)
    refine wp_region_seq ?_
    refine wpL_move (v := .int .i64 ((t : Nat) : Int)) (by rfl) (by rfl) (by rfl) ?_
    simp only [putT, List.set]
    refine wpL_chunk 1 (by rfl) (fun Lk hLk => ?_)
    simp only [List.take, List.drop]
    refine wpV_bin (v := .bool (decide (t < 16))) (by rfl) rfl rfl rfl (fun W => run_lssN t 16 _ _ W) ?_
    simp only [putT, List.set]
    refine wpV_nil (hLk _ (fun w29 Sw29 => ?_))
    clear hLk Lk
    simp only [List.take, List.drop]
    replace M := M.sees Sw29
    refine wpL_nil (no_panic ?_)
    refine hK27 _ _ ?_
    cases hc30 : (decide (t < 16))
    · skip
      have h16 : ¬ t < 16 := of_decide_eq_false hc30
      refine wp_cond_false rfl ?_
      refine wp_skip ?_
      refine hK26 _ _ ?_
      refine wp_seq_k (fun K31 hK31 => ?_)
      refine wp_region_grow 10 [] (by kernel_rfl) (by kernel_rfl) (by kernel_rfl) (fun Lk hLk => ?_)
      simp only [List.take, List.drop]
      refine wpV_move (v := .int .i64 ((t : Nat) : Int)) (by rfl) rfl rfl ?_
      simp only [putT, List.set]
      refine wpV_bin (v := .int .i64 ((t - 15 : Nat) : Int)) (by rfl) rfl rfl rfl (fun W => run_sub (by simp only [IntKind.wrap_i64]; omega) W) ?_
      simp only [putT, List.set]
      refine wpV_idx (n := t - 15) (by rfl) rfl rfl rfl Tryd.underlying119 info25 (by omega) ?_
      simp only [Nat.zero_add]
      simp only [putT, List.set]
      refine wpV_load1 (v := .int .u32 ((shW l (t - 15) : Nat) : Int)) (by rfl) rfl rfl (zadd ((M.r 0 0 rfl rfl) _ _ (wcells_at l (by omega) (by omega)))) (M.lt 0 rfl) Tryd.underlying25 rfl ?_
      simp only [putT, List.set]
      refine wpV_move (v := .int .i64 ((t : Nat) : Int)) (by rfl) rfl rfl ?_
      simp only [putT, List.set]
      refine wpV_bin (v := .int .i64 ((t - 2 : Nat) : Int)) (by rfl) rfl rfl rfl (fun W => run_sub (by simp only [IntKind.wrap_i64]; omega) W) ?_
      simp only [putT, List.set]
      refine wpV_idx (n := t - 2) (by rfl) rfl rfl rfl Tryd.underlying119 info25 (by omega) ?_
      simp only [Nat.zero_add]
      simp only [putT, List.set]
      refine wpV_load1 (v := .int .u32 ((shW l (t - 2) : Nat) : Int)) (by rfl) rfl rfl (zadd ((M.r 0 0 rfl rfl) _ _ (wcells_at l (by omega) (by omega)))) (M.lt 0 rfl) Tryd.underlying25 rfl ?_
      simp only [putT, List.set]
      refine wpV_assign (v := .int .u32 ((shW l (t - 15) : Nat) : Int)) (by rfl) rfl rfl ?_
      simp only [putT, List.set]
      refine wpV_assign (v := .int .u32 ((shW l (t - 2) : Nat) : Int)) (by rfl) rfl rfl ?_
      simp only [putT, List.set]
      refine wpV_nil (hLk.out _ ?_)
      clear hLk Lk
      simp only [List.take, List.drop]
      iterate 10 refine wpN_skip (by rfl) ?_
      refine wpN_nil (fun w33 Sw33 hbs => ?_)
      clear hbs
      replace M := M.sees Sw33
      refine wpL_nil (no_panic ?_)
      refine hK31 _ _ ?_
      refine wp_seq_k (fun K34 hK34 => ?_)
      refine wp_region_seq ?_
      refine wpL_move (v := .int .u32 ((shW l (t - 15) : Nat) : Int)) (by rfl) (by rfl) (by rfl) ?_
      simp only [putT, List.set]
      refine wpL_chunk 7 (by rfl) (fun Lk hLk => ?_)
      simp only [List.take, List.drop]
      refine wpV_callf (v := .int .u32 ((rotr (shW l (t - 15)) 7 : Nat) : Int)) (args := #[.int .u32 ((shW l (t - 15) : Nat) : Int), .int .i64 (-7)]) (by rfl) rfl Tryd.func105 (by kernel_rfl) (by kernel_rfl) rfl (fun W hW => (by have := rotl_c (x := shW l (t - 15)) (n := 7) (w := W) (shW_lt ..) (by decide) (by decide); exact this)) ?_
      simp only [putT, List.set]
      refine wpV_move (v := .int .u32 ((shW l (t - 15) : Nat) : Int)) (by rfl) rfl rfl ?_
      simp only [putT, List.set]
      refine wpV_callf (v := .int .u32 ((rotr (shW l (t - 15)) 18 : Nat) : Int)) (args := #[.int .u32 ((shW l (t - 15) : Nat) : Int), .int .i64 (-18)]) (by rfl) rfl Tryd.func105 (by kernel_rfl) (by kernel_rfl) rfl (fun W hW => (by have := rotl_c (x := shW l (t - 15)) (n := 18) (w := W) (shW_lt ..) (by decide) (by decide); exact this)) ?_
      simp only [putT, List.set]
      refine wpV_bin (v := .int .u32 (((rotr (shW l (t - 15)) 7) ^^^ (rotr (shW l (t - 15)) 18) : Nat) : Int)) (by rfl) rfl rfl rfl (fun W => nr_xor32 (x := rotr (shW l (t - 15)) 7) (y := rotr (shW l (t - 15)) 18) (rotr_lt (shW_lt ..) (by decide)) (rotr_lt (shW_lt ..) (by decide)) W) ?_
      simp only [putT, List.set]
      refine wpV_move (v := .int .u32 ((shW l (t - 15) : Nat) : Int)) (by rfl) rfl rfl ?_
      simp only [putT, List.set]
      refine wpV_bin (v := .int .u32 (((shW l (t - 15)) / 2 ^ 3 : Nat) : Int)) (by rfl) rfl rfl rfl (fun W => nr_shr32 (x := shW l (t - 15)) (n := 3) (by omega) W) ?_
      simp only [putT, List.set]
      refine wpV_bin (v := .int .u32 ((sg0 (shW l (t - 15)) : Nat) : Int)) (by rfl) rfl rfl rfl (fun W => nr_xor32 (x := (rotr (shW l (t - 15)) 7) ^^^ (rotr (shW l (t - 15)) 18)) (y := (shW l (t - 15)) / 2 ^ 3) (xor_lt32 (rotr_lt (shW_lt ..) (by decide)) (rotr_lt (shW_lt ..) (by decide))) (div_lt32 _ (shW_lt ..)) W) ?_
      simp only [putT, List.set]
      refine wpV_nil (hLk _ (fun w36 Sw36 => ?_))
      clear hLk Lk
      simp only [List.take, List.drop]
      replace M := M.sees Sw36
      refine wpL_assign (v := .int .u32 ((sg0 (shW l (t - 15)) : Nat) : Int)) (by rfl) (by rfl) (by rfl) ?_
      simp only [putT, List.set]
      refine wpL_nil (no_panic ?_)
      refine hK34 _ _ ?_
      refine wp_seq_k (fun K37 hK37 => ?_)
      refine wp_region_seq ?_
      refine wpL_move (v := .int .u32 ((shW l (t - 2) : Nat) : Int)) (by rfl) (by rfl) (by rfl) ?_
      simp only [putT, List.set]
      refine wpL_chunk 7 (by rfl) (fun Lk hLk => ?_)
      simp only [List.take, List.drop]
      refine wpV_callf (v := .int .u32 ((rotr (shW l (t - 2)) 17 : Nat) : Int)) (args := #[.int .u32 ((shW l (t - 2) : Nat) : Int), .int .i64 (-17)]) (by rfl) rfl Tryd.func105 (by kernel_rfl) (by kernel_rfl) rfl (fun W hW => (by have := rotl_c (x := shW l (t - 2)) (n := 17) (w := W) (shW_lt ..) (by decide) (by decide); exact this)) ?_
      simp only [putT, List.set]
      refine wpV_move (v := .int .u32 ((shW l (t - 2) : Nat) : Int)) (by rfl) rfl rfl ?_
      simp only [putT, List.set]
      refine wpV_callf (v := .int .u32 ((rotr (shW l (t - 2)) 19 : Nat) : Int)) (args := #[.int .u32 ((shW l (t - 2) : Nat) : Int), .int .i64 (-19)]) (by rfl) rfl Tryd.func105 (by kernel_rfl) (by kernel_rfl) rfl (fun W hW => (by have := rotl_c (x := shW l (t - 2)) (n := 19) (w := W) (shW_lt ..) (by decide) (by decide); exact this)) ?_
      simp only [putT, List.set]
      refine wpV_bin (v := .int .u32 (((rotr (shW l (t - 2)) 17) ^^^ (rotr (shW l (t - 2)) 19) : Nat) : Int)) (by rfl) rfl rfl rfl (fun W => nr_xor32 (x := rotr (shW l (t - 2)) 17) (y := rotr (shW l (t - 2)) 19) (rotr_lt (shW_lt ..) (by decide)) (rotr_lt (shW_lt ..) (by decide)) W) ?_
      simp only [putT, List.set]
      refine wpV_move (v := .int .u32 ((shW l (t - 2) : Nat) : Int)) (by rfl) rfl rfl ?_
      simp only [putT, List.set]
      refine wpV_bin (v := .int .u32 (((shW l (t - 2)) / 2 ^ 10 : Nat) : Int)) (by rfl) rfl rfl rfl (fun W => nr_shr32 (x := shW l (t - 2)) (n := 10) (by omega) W) ?_
      simp only [putT, List.set]
      refine wpV_bin (v := .int .u32 ((sg1 (shW l (t - 2)) : Nat) : Int)) (by rfl) rfl rfl rfl (fun W => nr_xor32 (x := (rotr (shW l (t - 2)) 17) ^^^ (rotr (shW l (t - 2)) 19)) (y := (shW l (t - 2)) / 2 ^ 10) (xor_lt32 (rotr_lt (shW_lt ..) (by decide)) (rotr_lt (shW_lt ..) (by decide))) (div_lt32 _ (shW_lt ..)) W) ?_
      simp only [putT, List.set]
      refine wpV_nil (hLk _ (fun w39 Sw39 => ?_))
      clear hLk Lk
      simp only [List.take, List.drop]
      replace M := M.sees Sw39
      refine wpL_assign (v := .int .u32 ((sg1 (shW l (t - 2)) : Nat) : Int)) (by rfl) (by rfl) (by rfl) ?_
      simp only [putT, List.set]
      refine wpL_nil (no_panic ?_)
      refine hK37 _ _ ?_
      refine wp_region_grow 15 [] (by kernel_rfl) (by kernel_rfl) (by kernel_rfl) (fun Lk hLk => ?_)
      simp only [List.take, List.drop]
      refine wpV_move (v := .int .i64 ((t : Nat) : Int)) (by rfl) rfl rfl ?_
      simp only [putT, List.set]
      refine wpV_move (v := .int .i64 ((t : Nat) : Int)) (by rfl) rfl rfl ?_
      simp only [putT, List.set]
      refine wpV_bin (v := .int .i64 ((t - 16 : Nat) : Int)) (by rfl) rfl rfl rfl (fun W => run_sub (by simp only [IntKind.wrap_i64]; omega) W) ?_
      simp only [putT, List.set]
      refine wpV_idx (n := t - 16) (by rfl) rfl rfl rfl Tryd.underlying119 info25 (by omega) ?_
      simp only [Nat.zero_add]
      simp only [putT, List.set]
      refine wpV_load1 (v := .int .u32 ((shW l (t - 16) : Nat) : Int)) (by rfl) rfl rfl (zadd ((M.r 0 0 rfl rfl) _ _ (wcells_at l (by omega) (by omega)))) (M.lt 0 rfl) Tryd.underlying25 rfl ?_
      simp only [putT, List.set]
      refine wpV_move (v := .int .u32 ((sg0 (shW l (t - 15)) : Nat) : Int)) (by rfl) rfl rfl ?_
      simp only [putT, List.set]
      refine wpV_bin (v := .int .u32 ((((shW l (t - 16)) + (sg0 (shW l (t - 15)))) % 4294967296 : Nat) : Int)) (by rfl) rfl rfl rfl (fun W => nr_add32 _ (shW l (t - 16)) (sg0 (shW l (t - 15))) W) ?_
      simp only [putT, List.set]
      refine wpV_move (v := .int .i64 ((t : Nat) : Int)) (by rfl) rfl rfl ?_
      simp only [putT, List.set]
      refine wpV_bin (v := .int .i64 ((t - 7 : Nat) : Int)) (by rfl) rfl rfl rfl (fun W => run_sub (by simp only [IntKind.wrap_i64]; omega) W) ?_
      simp only [putT, List.set]
      refine wpV_idx (n := t - 7) (by rfl) rfl rfl rfl Tryd.underlying119 info25 (by omega) ?_
      simp only [Nat.zero_add]
      simp only [putT, List.set]
      refine wpV_load1 (v := .int .u32 ((shW l (t - 7) : Nat) : Int)) (by rfl) rfl rfl (zadd ((M.r 0 0 rfl rfl) _ _ (wcells_at l (by omega) (by omega)))) (M.lt 0 rfl) Tryd.underlying25 rfl ?_
      simp only [putT, List.set]
      refine wpV_bin (v := .int .u32 ((((((shW l (t - 16)) + (sg0 (shW l (t - 15)))) % 4294967296) + (shW l (t - 7))) % 4294967296 : Nat) : Int)) (by rfl) rfl rfl rfl (fun W => nr_add32 _ (((shW l (t - 16)) + (sg0 (shW l (t - 15)))) % 4294967296) (shW l (t - 7)) W) ?_
      simp only [putT, List.set]
      refine wpV_move (v := .int .u32 ((sg1 (shW l (t - 2)) : Nat) : Int)) (by rfl) rfl rfl ?_
      simp only [putT, List.set]
      refine wpV_bin (v := .int .u32 ((shW l t : Nat) : Int)) (by rfl) rfl rfl rfl (fun W => (by have := nr_add32 (P := Tryd.prog) 0 (((shW l (t - 16) + sg0 (shW l (t - 15))) % 4294967296 + shW l (t - 7)) % 4294967296) (sg1 (shW l (t - 2))) W; rw [← shW_hi h16] at this; exact this)) ?_
      simp only [putT, List.set]
      refine wpV_idx (n := t) (by rfl) rfl rfl rfl Tryd.underlying119 info25 (by omega) ?_
      simp only [Nat.zero_add]
      simp only [putT, List.set]
      refine wpV_nil (hLk.out _ ?_)
      clear hLk Lk
      simp only [List.take, List.drop]
      iterate 15 refine wpN_skip (by rfl) ?_
      refine wpN_nil (fun w41 Sw41 hbs => ?_)
      clear hbs
      replace M := M.sees Sw41
      refine wpL_store1 (g := g7) (off := t) (n := 64) (v := .int .u32 ((shW l t : Nat) : Int)) (by rfl) (by rfl) (by rfl) (by rfl) (by rfl) (M.t 0 rfl) (by omega) info25 rfl (fun w42 P R T => ?_)
      replace M := M.put1 (j := t) 0 rfl P R T (Nat.zero_add _).symm
      simp only [List.set] at M
      rw [wcells_set l ht] at M
      refine wpL_nil (no_panic ?_)
      refine hK23 _ _ ?_
      refine wp_region_seq ?_
      refine wpL_chunk 1 (by rfl) (fun Lk hLk => ?_)
      simp only [List.take, List.drop]
      refine wpV_bin (v := .int .i64 ((t + 1 : Nat) : Int)) (by rfl) rfl rfl rfl (fun W => run_add (by simp only [IntKind.wrap_i64]; omega) W) ?_
      simp only [putT, List.set]
      refine wpV_nil (hLk _ (fun w44 Sw44 => ?_))
      clear hLk Lk
      simp only [List.take, List.drop]
      replace M := M.sees Sw44
      refine wpL_move (v := .int .i64 ((t + 1 : Nat) : Int)) (by rfl) (by rfl) (by rfl) ?_
      simp only [putT, List.set]
      refine wpL_nil (no_panic ?_)
      refine Exists.intro _ ⟨?_, (t + 1), (fun q9 => (#[undef, undef, undef, undef, .int .i64 ((t : Nat) : Int), .int .u32 ((shW l (t - 15) : Nat) : Int), .int .u32 ((shW l (t - 2) : Nat) : Int), .int .u32 ((sg0 (shW l (t - 15)) : Nat) : Int), .int .u32 ((sg1 (shW l (t - 2)) : Nat) : Int), undef, .bool true, .int .i64 ((t : Nat) : Int), .int .i64 ((t : Nat) : Int), .bool false, u12 14, u12 15, u12 16, u12 17, u12 18, u12 19, u12 20, .int .i64 ((t : Nat) : Int), .int .i64 ((t - 15 : Nat) : Int), .pointer (some ⟨g7, t - 15, none⟩), .int .u32 ((shW l (t - 15) : Nat) : Int), .int .i64 ((t : Nat) : Int), .int .i64 ((t - 2 : Nat) : Int), .pointer (some ⟨g7, t - 2, none⟩), .int .u32 ((shW l (t - 2) : Nat) : Int), .int .u32 ((shW l (t - 15) : Nat) : Int), .int .u32 ((rotr (shW l (t - 15)) 7 : Nat) : Int), .int .u32 ((shW l (t - 15) : Nat) : Int), .int .u32 ((rotr (shW l (t - 15)) 18 : Nat) : Int), .int .u32 (((rotr (shW l (t - 15)) 7) ^^^ (rotr (shW l (t - 15)) 18) : Nat) : Int), .int .u32 ((shW l (t - 15) : Nat) : Int), .int .u32 (((shW l (t - 15)) / 2 ^ 3 : Nat) : Int), .int .u32 ((sg0 (shW l (t - 15)) : Nat) : Int), .int .u32 ((shW l (t - 2) : Nat) : Int), .int .u32 ((rotr (shW l (t - 2)) 17 : Nat) : Int), .int .u32 ((shW l (t - 2) : Nat) : Int), .int .u32 ((rotr (shW l (t - 2)) 19 : Nat) : Int), .int .u32 (((rotr (shW l (t - 2)) 17) ^^^ (rotr (shW l (t - 2)) 19) : Nat) : Int), .int .u32 ((shW l (t - 2) : Nat) : Int), .int .u32 (((shW l (t - 2)) / 2 ^ 10 : Nat) : Int), .int .u32 ((sg1 (shW l (t - 2)) : Nat) : Int), .int .i64 ((t : Nat) : Int), .int .i64 ((t : Nat) : Int), .int .i64 ((t - 16 : Nat) : Int), .pointer (some ⟨g7, t - 16, none⟩), .int .u32 ((shW l (t - 16) : Nat) : Int), .int .u32 ((sg0 (shW l (t - 15)) : Nat) : Int), .int .u32 ((((shW l (t - 16)) + (sg0 (shW l (t - 15)))) % 4294967296 : Nat) : Int), .int .i64 ((t : Nat) : Int), .int .i64 ((t - 7 : Nat) : Int), .pointer (some ⟨g7, t - 7, none⟩), .int .u32 ((shW l (t - 7) : Nat) : Int), .int .u32 ((((((shW l (t - 16)) + (sg0 (shW l (t - 15)))) % 4294967296) + (shW l (t - 7))) % 4294967296 : Nat) : Int), .int .u32 ((sg1 (shW l (t - 2)) : Nat) : Int), .int .u32 ((shW l t : Nat) : Int), .pointer (some ⟨g7, t, none⟩), .int .i64 ((t + 1 : Nat) : Int)] : Array Value).getD q9 undef), rfl, rfl, M, (by omega)⟩
      omega
    · skip
      have h16 : t < 16 := of_decide_eq_true hc30
      refine wp_cond_true rfl ?_
      refine wp_seq_k (fun K45 hK45 => ?_)
      refine wp_region_seq ?_
      refine wpL_move (v := .int .i64 ((t : Nat) : Int)) (by rfl) (by rfl) (by rfl) ?_
      simp only [putT, List.set]
      refine wpL_move (v := .string (bs l)) (by rfl) (by rfl) (by rfl) ?_
      simp only [putT, List.set]
      refine wpL_move (v := .int .i64 ((t : Nat) : Int)) (by rfl) (by rfl) (by rfl) ?_
      simp only [putT, List.set]
      refine wpL_chunk 4 (by rfl) (fun Lk hLk => ?_)
      simp only [List.take, List.drop]
      refine wpV_bin (v := .int .i64 ((4 * t : Nat) : Int)) (by rfl) rfl rfl rfl (fun W => run_mul (by simp only [IntKind.wrap_i64]; omega) W) ?_
      simp only [putT, List.set]
      refine wpV_drop (l := l) (lo := 4 * t) (by rfl) rfl rfl rfl Tryd.underlying9 (by omega) ?_
      simp only [putT, List.set]
      refine wpV_callf (v := .int .u32 ((shW l t : Nat) : Int)) (args := #[.string (bs (l.drop (4 * t)))]) (by rfl) rfl Tryd.func112 (by kernel_rfl) (by kernel_rfl) rfl (fun W hW => (by have := read_c (l := l.drop (4 * t)) (w := W) (by rw [List.length_drop]; omega); rwa [show be4 (l.drop (4 * t)) 0 = shW l t by rw [shW_lo h16]; unfold be4; simp only [byteN_drop, Nat.zero_add, Nat.add_zero]] at this)) ?_
      simp only [putT, List.set]
      refine wpV_idx (n := t) (by rfl) rfl rfl rfl Tryd.underlying119 info25 (by omega) ?_
      simp only [Nat.zero_add]
      simp only [putT, List.set]
      refine wpV_nil (hLk _ (fun w47 Sw47 => ?_))
      clear hLk Lk
      simp only [List.take, List.drop]
      replace M := M.sees Sw47
      refine wpL_store1 (g := g7) (off := t) (n := 64) (v := .int .u32 ((shW l t : Nat) : Int)) (by rfl) (by rfl) (by rfl) (by rfl) (by rfl) (M.t 0 rfl) (by omega) info25 rfl (fun w48 P R T => ?_)
      replace M := M.put1 (j := t) 0 rfl P R T (Nat.zero_add _).symm
      simp only [List.set] at M
      rw [wcells_set l ht] at M
      refine wpL_nil (no_panic ?_)
      refine hK45 _ _ ?_
      refine wp_exit ?_
      refine hK23 _ _ ?_
      refine wp_region_seq ?_
      refine wpL_chunk 1 (by rfl) (fun Lk hLk => ?_)
      simp only [List.take, List.drop]
      refine wpV_bin (v := .int .i64 ((t + 1 : Nat) : Int)) (by rfl) rfl rfl rfl (fun W => run_add (by simp only [IntKind.wrap_i64]; omega) W) ?_
      simp only [putT, List.set]
      refine wpV_nil (hLk _ (fun w50 Sw50 => ?_))
      clear hLk Lk
      simp only [List.take, List.drop]
      replace M := M.sees Sw50
      refine wpL_move (v := .int .i64 ((t + 1 : Nat) : Int)) (by rfl) (by rfl) (by rfl) ?_
      simp only [putT, List.set]
      refine wpL_nil (no_panic ?_)
      refine Exists.intro _ ⟨?_, (t + 1), (fun q9 => (#[undef, undef, undef, undef, .int .i64 ((t : Nat) : Int), u12 5, u12 6, u12 7, u12 8, undef, .bool true, .int .i64 ((t : Nat) : Int), .int .i64 ((t : Nat) : Int), .bool true, .int .i64 ((t : Nat) : Int), .string (bs l), .int .i64 ((t : Nat) : Int), .int .i64 ((4 * t : Nat) : Int), .string (bs (l.drop (4 * t))), .int .u32 ((shW l t : Nat) : Int), .pointer (some ⟨g7, t, none⟩), u12 21, u12 22, u12 23, u12 24, u12 25, u12 26, u12 27, u12 28, u12 29, u12 30, u12 31, u12 32, u12 33, u12 34, u12 35, u12 36, u12 37, u12 38, u12 39, u12 40, u12 41, u12 42, u12 43, u12 44, u12 45, u12 46, u12 47, u12 48, u12 49, u12 50, u12 51, u12 52, u12 53, u12 54, u12 55, u12 56, u12 57, u12 58, u12 59, .int .i64 ((t + 1 : Nat) : Int)] : Array Value).getD q9 undef), rfl, rfl, M, (by omega)⟩
      omega
end Go.Proofs.Yb
