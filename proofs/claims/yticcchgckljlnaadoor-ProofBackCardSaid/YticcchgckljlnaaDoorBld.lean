/- The table of keys as it is laid: what the walks read. -/
import Derived.Test.YticcchgckljlnaaDoorRows
import Derived.Test.YticcchgckljlnaaDoorJoinB
import Derived.Test.YticcchgckljlnaaDoorTr
import Derived.Test.YticcchgckljlnaaDoorProg
import Derived.WalkKit
import Derived.WalkSpells
import Derived.Laws.Pointers
import Derived.RowKit3
import Derived.Below
import Derived.Outline
import Derived.LoopN
import Derived.Lib.Hide
import Derived.Handy
import Derived.Laws.Bits64b
import Derived.Shelf.Strings.Builder1
import Derived.Shelf.Small.Bits
import Derived.Shelf.Strconv.Itoa0
import Derived.Ground.Names2Prog
import Derived.Shelf.Slices.ReverseS
import Derived.Shelf.Slices.Cells
set_option linter.unusedSimpArgs false
set_option linter.unusedVariables false
namespace Go.Proofs.Yb
open Go Go.RowKit Go.ChangeShapes Go.WideShapes Go.ChangeAt Go.Proofs.Num Go.Proofs.YticcchgckljlnaaDoor
open List renaming set → Z0, take → Z1, drop → Z2
open Go renaming undef → Z3, wp_seq_k → Z4, wp_cond_true → Z5, wp_cond_false → Z6
open Go.Proofs.Num renaming putT → Z7, wp_region_seq → Z8, wpL_nil → Z9, no_panic → Z10, wpL_chunk → Z11, wpL_move → Z12, wpL_assign → Z13, wpV_nil → Z14, wpV_bin → Z15, wpV_move → Z16, then_normal → Z17, wpL_store1 → Z18, wpV_val → Z19, wpV_callf → Z20
def laidB : List (String × DataW Unit) := [("imprimatur/sha256.keys", Rows.laid_imprimatur_sha256_keys)]
theorem ownB : ownKnob Tryd.prog.godebug = none := by kernel_rfl
theorem laidOutB' : laidOutB Tryd.prog = true := by kernel_rfl
theorem gKeys : Tryd.prog.globalNamed "imprimatur/sha256.keys" = some 0 := by kernel_rfl
theorem tKeys : (Tryd.prog.globals[0]?).map (·.type) = some 119 := by kernel_rfl
theorem door_met (os : Os) (args : Array Value) : laidMetH Tryd.prog laidB ((World.doorLaid Tryd.prog 400 os).forCall (fun _ _ => 0) ⟨#[], args, []⟩).memory :=
 laidMetH_of_parts3 (fuel := 8) (laidMet_of_run' 8 (by kernel_rfl) (by kernel_rfl)) (by kernel_rfl) (by kernel_rfl)
theorem keysD : Rows.laid_imprimatur_sha256_keys (H := Unit) = .agg (keyL.map fun n => .lit (.int .u32 ((n : Nat) : Int))) := by kernel_rfl
theorem of_laid {W : World} (h : laidMetH Tryd.prog laidB W) : 0 < W.heap.size ∧ W.rangeAt 0 0 kcells := by
 rw [MakeChecks.laidMetH_plain _ _ _ (by kernel_rfl)] at h
 obtain ⟨ps, ⟨g0, t0, cs0, f0, p0, q0, hg0, ht0, hv0, hd0, _, _⟩, _, _⟩ := h
 obtain rfl := Option.some.inj (gKeys.symm.trans hg0)
 obtain rfl := Option.some.inj (tKeys.symm.trans ht0)
 obtain ⟨xs, m1, rfl, hx1, hlen, hn3, hel⟩ := DataW.trod_array Tryd.underlying119 hd0
 have c1 : Tryd.prog.cellsOf 25 = 1 := by kernel_rfl
 rw [c1] at hel
 simp only [Prod.mk.injEq] at hx1
 have hx2 : xs.map (·.1) = keyL.map fun n => .lit (.int .u32 ((n : Nat) : Int)) := by
  have := hx1.1.symm.trans keysD
  injection this
 have hk : keyL.length = 64 := by decide
 have hcell : W.rangeAt 0 0 kcells := fun j v hv => by
  have := World.var?_cell hg0 hv0 j
  rw [Nat.zero_add, this]
  have h2 := cells_of_ints (P := Tryd.prog) (cs := cs0.toList) Tryd.underlying25 (hn3.trans hk.symm) hx2 (fun i hi => hel i (by omega)) j v hv
  simpa using h2
 refine ⟨?_, hcell⟩
 have h0 := hcell 0 _ (kcells_get (t := 0) (by decide))
 unfold World.cell? at h0
 split at h0
 ·
  rename_i hh
  exact (Array.getElem?_eq_some_iff.1 hh).1
 ·
  cases h0
end Go.Proofs.Yb

namespace Go.Proofs.Yb
open Go Go.RowKit
open List renaming set → Z0, take → Z1, drop → Z2
open Go renaming undef → Z3, wp_seq_k → Z4, wp_cond_true → Z5, wp_cond_false → Z6
open Go.Proofs.Num renaming putT → Z7, wp_region_seq → Z8, wpL_nil → Z9, no_panic → Z10, wpL_chunk → Z11, wpL_move → Z12, wpL_assign → Z13, wpV_nil → Z14, wpV_bin → Z15, wpV_move → Z16, then_normal → Z17, wpL_store1 → Z18, wpV_val → Z19, wpV_callf → Z20
theorem info5 : (Tryd.prog.info? 5).map (·.size) = some 1 := by kernel_rfl
theorem info9 : (Tryd.prog.info? 9).map (·.size) = some 1 := by kernel_rfl
theorem info25 : (Tryd.prog.info? 25).map (·.size) = some 1 := by kernel_rfl
theorem info26 : (Tryd.prog.info? 26).map (·.size) = some 8 := by kernel_rfl
theorem info27 : (Tryd.prog.info? 27).map (·.size) = some 1 := by kernel_rfl
theorem info29 : (Tryd.prog.info? 29).map (·.size) = some 10 := by kernel_rfl
theorem info119 : (Tryd.prog.info? 119).map (·.size) = some 64 := by kernel_rfl
end Go.Proofs.Yb

namespace Go.Proofs.Yb
open Go Go.RowKit Go.Proofs.Num
open List renaming set → Z0, take → Z1, drop → Z2
open Go renaming undef → Z3, wp_seq_k → Z4, wp_cond_true → Z5, wp_cond_false → Z6
open Go.Proofs.Num renaming putT → Z7, wp_region_seq → Z8, wpL_nil → Z9, no_panic → Z10, wpL_chunk → Z11, wpL_move → Z12, wpL_assign → Z13, wpV_nil → Z14, wpV_bin → Z15, wpV_move → Z16, then_normal → Z17, wpL_store1 → Z18, wpV_val → Z19, wpV_callf → Z20
theorem rotl_wrap {n : Nat} (h1 : 1 ≤ n) (h2 : n ≤ 31) : IntKind.u64.wrap (-((n : Nat) : Int)) = ((18446744073709551616 - n : Nat) : Int) := by
 rw [IntKind.wrap_u64]; omega
theorem rotl_and {n : Nat} (h1 : 1 ≤ n) (h2 : n ≤ 31) : bits .and .u64 ((18446744073709551616 - n : Nat) : Int) 31 = ((32 - n : Nat) : Int) := by
 have h := bits_and_u64_nat (18446744073709551616 - n) 31 (by omega) (by decide)
 refine h.trans ?_
 rw [show (31 : Nat) = 2 ^ 5 - 1 by decide, Nat.and_two_pow_sub_one_eq_mod]
 omega
theorem or8 {a b : Nat} (ha : a < 16777216) (hb : b < 256) : bits .or .u32 ((a * 256 : Nat) : Int) ((b : Nat) : Int) = ((a * 256 + b : Nat) : Int) := by
 have h1 := toNat_of (n := 32) (a := a * 256) (Nat.lt_of_lt_of_eq (by omega : a * 256 < 4294967296) (by decide))
 have h2 := toNat_of (n := 32) (a := b) (show b < 4294967296 by omega)
 have h : a * 256 + b < 2 ^ 32 := by omega
 show IntKind.wrap .u32 ((BitVec.ofInt 32 ((a * 256 : Nat) : Int) ||| BitVec.ofInt 32 ((b : Nat) : Int)).toNat : Int) = _
 rw [BitVec.toNat_or, h1, h2, show a * 256 ||| b = a * 256 + b by have := Nat.shiftLeft_add_eq_or_of_lt (i := 8) (b := b) (by omega) a; rw [Nat.shiftLeft_eq, show (2 : Nat) ^ 8 = 256 by decide] at this; exact this.symm, wrap32N, Nat.mod_eq_of_lt h]
set_option maxHeartbeats 1000000 in
theorem rotl_c {x n : Nat} {w : World} (hx : x < 4294967296) (hn1 : 1 ≤ n) (hn2 : n ≤ 31) :
  Calls Tryd.prog 105 #[.int .u32 ((x : Nat) : Int), .int .i64 (-((n : Nat) : Int))] w fun e w' => e = .returned (.int .u32 ((rotr x n : Nat) : Int)) ∧ Below w.heap.size w w' := by
 go_enter Tryd.func105, Tryd.ntmps105
 have M := Mem.start w
 refine Z4 (fun K1 hK1 => ?_)
 refine Z8 ?_
 refine Z13 (v := .int .u32 0) (by rfl) (by rfl) (by rfl) ?_
 simp only [Z7,Z0]
 refine Z9 (Z10 ?_)
 refine hK1 _ _ ?_
 refine Z4 (fun K3 hK3 => ?_)
 refine Z8 ?_
 refine Z12 (v := .int .i64 (-((n : Nat) : Int))) (by rfl) (by rfl) (by rfl) ?_
 simp only [Z7,Z0]
 refine Z11 2 (by rfl) (fun Lk hLk => ?_)
 simp only [Z1,Z2]
 refine wpV_conv (d := .bool) (e := ((18446744073709551616 - n : Nat) : Int)) (by rfl) rfl rfl (run_conv_int Tryd.underlying3 Tryd.underlying116 (rotl_wrap hn1 hn2)) ?_
 simp only [Z7,Z0]
 refine Z15 (v := .int .u64 ((32 - n : Nat) : Int)) (by rfl) rfl rfl rfl (fun W => run_and (rotl_and hn1 hn2) W) ?_
 simp only [Z7,Z0]
 refine Z14 (hLk _ (fun w5 Sw5 => ?_))
 clear hLk Lk
 simp only [Z1,Z2]
 replace M := M.sees Sw5
 refine Z13 (v := .int .u64 ((32 - n : Nat) : Int)) (by rfl) (by rfl) (by rfl) ?_
 simp only [Z7,Z0]
 refine Z9 (Z10 ?_)
 refine hK3 _ _ ?_
 refine Z4 (fun K6 hK6 => ?_)
 refine Z8 ?_
 refine Z12 (v := .int .u32 ((x : Nat) : Int)) (by rfl) (by rfl) (by rfl) ?_
 simp only [Z7,Z0]
 refine Z12 (v := .int .u64 ((32 - n : Nat) : Int)) (by rfl) (by rfl) (by rfl) ?_
 simp only [Z7,Z0]
 refine Z11 6 (by rfl) (fun Lk hLk => ?_)
 simp only [Z1,Z2]
 refine Z15 (v := .int .u32 ((x * 2 ^ (32 - n) % 4294967296 : Nat) : Int)) (by rfl) rfl rfl rfl (fun W => nr_shl32 (x := x) (n := 32 - n) (by omega) W) ?_
 simp only [Z7,Z0]
 refine Z16 (v := .int .u32 ((x : Nat) : Int)) (by rfl) rfl rfl ?_
 simp only [Z7,Z0]
 refine Z16 (v := .int .u64 ((32 - n : Nat) : Int)) (by rfl) rfl rfl ?_
 simp only [Z7,Z0]
 refine Z15 (v := .int .u64 ((32 - (32 - n) : Nat) : Int)) (by rfl) rfl rfl rfl (fun W => nr_sub64 (x := 32) (y := 32 - n) (by omega) (by decide) W) ?_
 simp only [Z7,Z0]
 refine Z15 (v := .int .u32 ((x / 2 ^ (32 - (32 - n)) : Nat) : Int)) (by rfl) rfl rfl rfl (fun W => nr_shr32 (x := x) (n := 32 - (32 - n)) (by omega) W) ?_
 simp only [Z7,Z0]
 refine Z15 (v := .int .u32 (((x * 2 ^ (32 - n) % 4294967296) ||| (x / 2 ^ (32 - (32 - n))) : Nat) : Int)) (by rfl) rfl rfl rfl (fun W => nr_or32 (x := x * 2 ^ (32 - n) % 4294967296) (y := x / 2 ^ (32 - (32 - n))) (mod_lt32 _) (div_lt32 _ hx) W) ?_
 simp only [Z7,Z0]
 refine Z14 (hLk _ (fun w8 Sw8 => ?_))
 clear hLk Lk
 simp only [Z1,Z2]
 replace M := M.sees Sw8
 refine Z13 (v := .int .u32 (((x * 2 ^ (32 - n) % 4294967296) ||| (x / 2 ^ (32 - (32 - n))) : Nat) : Int)) (by rfl) (by rfl) (by rfl) ?_
 simp only [Z7,Z0]
 refine Z9 (Z10 ?_)
 refine hK6 _ _ ?_
 refine wp_ret ?_
 repeat (first | with_reducible refine then_ret ?_ | with_reducible refine inblock_ret ?_)
 refine bodyPost_ret (v := .int .u32 (((x * 2 ^ (32 - n) % 4294967296) ||| (x / 2 ^ (32 - (32 - n))) : Nat) : Int)) (res1 rfl (.tmp (by rfl))) rfl ?_
 have BE := M.below
 exact ⟨by rw [show 32 - (32 - n) = n by omega, rotr_or hx (by omega)], BE⟩
set_option maxHeartbeats 1000000 in
theorem read_c {l : List UInt8} {w : World} (hl : 4 ≤ l.length) :
  Calls Tryd.prog 112 #[.string (bs l)] w fun e w' => e = .returned (.int .u32 ((be4 l 0 : Nat) : Int)) ∧ Below w.heap.size w w' := by
 go_enter Tryd.func112, Tryd.ntmps112
 have M := Mem.start w
 refine Z4 (fun K1 hK1 => ?_)
 refine Z8 ?_
 refine Z13 (v := .int .u32 0) (by rfl) (by rfl) (by rfl) ?_
 simp only [Z7,Z0]
 refine Z9 (Z10 ?_)
 refine hK1 _ _ ?_
 refine Z4 (fun K3 hK3 => ?_)
 refine Z8 ?_
 refine Z13 (v := .int .u32 0) (by rfl) (by rfl) (by rfl) ?_
 simp only [Z7,Z0]
 refine Z9 (Z10 ?_)
 refine hK3 _ _ ?_
 refine Z4 (fun K5 hK5 => ?_)
 refine Z4 (fun K6 hK6 => ?_)
 refine Z8 ?_
 refine Z12 (v := .int .i64 0) (by rfl) (by rfl) (by rfl) ?_
 simp only [Z7,Z0]
 refine Z9 (Z10 ?_)
 refine hK6 _ _ ?_
 refine wp_block ?_
 refine wp_loop_rounds 5 ?_
 rw [rounds_succ]
 refine Z4 (fun K8 hK8 => ?_)
 refine Z8 ?_
 refine Z11 1 (by rfl) (fun Lk hLk => ?_)
 simp only [Z1,Z2]
 refine Z15 (v := .bool true) (by rfl) rfl rfl rfl (fun W => run_lss _ _ _ _ W) ?_
 simp only [Z7,Z0]
 refine Z14 (hLk _ (fun w10 Sw10 => ?_))
 clear hLk Lk
 simp only [Z1,Z2]
 replace M := M.sees Sw10
 refine Z9 (Z10 ?_)
 refine hK8 _ _ ?_
 refine Z4 (fun K11 hK11 => ?_)
 refine Z5 rfl ?_
 refine wp_skip ?_
 refine hK11 _ _ ?_
 refine Z4 (fun K12 hK12 => ?_)
 refine wp_block ?_
 refine Z4 (fun K13 hK13 => ?_)
 refine Z8 ?_
 refine Z12 (v := .int .i64 0) (by rfl) (by rfl) (by rfl) ?_
 simp only [Z7,Z0]
 refine Z13 (v := .int .i64 0) (by rfl) (by rfl) (by rfl) ?_
 simp only [Z7,Z0]
 refine Z9 (Z10 ?_)
 refine hK13 _ _ ?_
 refine Z8 ?_
 refine Z12 (v := .int .u32 0) (by rfl) (by rfl) (by rfl) ?_
 simp only [Z7,Z0]
 refine Z11 6 (by rfl) (fun Lk hLk => ?_)
 simp only [Z1,Z2]
 refine Z15 (v := .int .u32 ((0 * 256 : Nat) : Int)) (by rfl) rfl rfl rfl (fun W => run_shl (m := 0) (n := 8) (by decide) ((wrap32N _).trans (congrArg _ (by have := byteN_lt l 0; have := byteN_lt l 1; have := byteN_lt l 2; omega))) W) ?_
 simp only [Z7,Z0]
 refine Z16 (v := .string (bs l)) (by rfl) rfl rfl ?_
 simp only [Z7,Z0]
 refine Z16 (v := .int .i64 0) (by rfl) rfl rfl ?_
 simp only [Z7,Z0]
 refine wpV_indexb (n := 0) (by omega) (by rfl) rfl rfl rfl Tryd.underlying9 ?_
 simp only [Z7,Z0]
 refine wpV_conv (d := .bool) (e := ((byteN l 0 : Nat) : Int)) (by rfl) rfl rfl (run_conv_int Tryd.underlying5 Tryd.underlying25 (by have := (byteN_lt l 0); rw [wrap32N]; omega)) ?_
 simp only [Z7,Z0]
 refine Z15 (v := .int .u32 ((byteN l 0 : Nat) : Int)) (by rfl) rfl rfl rfl (fun W => run_or ((or8 (a := 0) (b := byteN l 0) (by decide) (byteN_lt l 0)).trans (by rw [Nat.zero_mul, Nat.zero_add])) W) ?_
 simp only [Z7,Z0]
 refine Z14 (hLk _ (fun w16 Sw16 => ?_))
 clear hLk Lk
 simp only [Z1,Z2]
 replace M := M.sees Sw16
 refine Z13 (v := .int .u32 ((byteN l 0 : Nat) : Int)) (by rfl) (by rfl) (by rfl) ?_
 simp only [Z7,Z0]
 refine Z9 (Z10 ?_)
 refine hK12 _ _ ?_
 refine Z8 ?_
 refine Z11 1 (by rfl) (fun Lk hLk => ?_)
 simp only [Z1,Z2]
 refine Z15 (v := .int .i64 1) (by rfl) rfl rfl rfl (fun W => run_add (by decide) W) ?_
 simp only [Z7,Z0]
 refine Z14 (hLk _ (fun w18 Sw18 => ?_))
 clear hLk Lk
 simp only [Z1,Z2]
 replace M := M.sees Sw18
 refine Z12 (v := .int .i64 1) (by rfl) (by rfl) (by rfl) ?_
 simp only [Z7,Z0]
 refine Z9 (Z10 ?_)
 refine Z17 (Q := fun _ _ _ => True) ?_
 rw [rounds_succ]
 refine Z4 (fun K19 hK19 => ?_)
 refine Z8 ?_
 refine Z11 1 (by rfl) (fun Lk hLk => ?_)
 simp only [Z1,Z2]
 refine Z15 (v := .bool true) (by rfl) rfl rfl rfl (fun W => run_lss _ _ _ _ W) ?_
 simp only [Z7,Z0]
 refine Z14 (hLk _ (fun w21 Sw21 => ?_))
 clear hLk Lk
 simp only [Z1,Z2]
 replace M := M.sees Sw21
 refine Z9 (Z10 ?_)
 refine hK19 _ _ ?_
 refine Z4 (fun K22 hK22 => ?_)
 refine Z5 rfl ?_
 refine wp_skip ?_
 refine hK22 _ _ ?_
 refine Z4 (fun K23 hK23 => ?_)
 refine wp_block ?_
 refine Z4 (fun K24 hK24 => ?_)
 refine Z8 ?_
 refine Z12 (v := .int .i64 1) (by rfl) (by rfl) (by rfl) ?_
 simp only [Z7,Z0]
 refine Z13 (v := .int .i64 1) (by rfl) (by rfl) (by rfl) ?_
 simp only [Z7,Z0]
 refine Z9 (Z10 ?_)
 refine hK24 _ _ ?_
 refine Z8 ?_
 refine Z12 (v := .int .u32 ((byteN l 0 : Nat) : Int)) (by rfl) (by rfl) (by rfl) ?_
 simp only [Z7,Z0]
 refine Z11 6 (by rfl) (fun Lk hLk => ?_)
 simp only [Z1,Z2]
 refine Z15 (v := .int .u32 (((byteN l 0) * 256 : Nat) : Int)) (by rfl) rfl rfl rfl (fun W => run_shl (m := byteN l 0) (n := 8) (by decide) ((wrap32N _).trans (congrArg _ (by have := byteN_lt l 0; have := byteN_lt l 1; have := byteN_lt l 2; omega))) W) ?_
 simp only [Z7,Z0]
 refine Z16 (v := .string (bs l)) (by rfl) rfl rfl ?_
 simp only [Z7,Z0]
 refine Z16 (v := .int .i64 1) (by rfl) rfl rfl ?_
 simp only [Z7,Z0]
 refine wpV_indexb (n := 1) (by omega) (by rfl) rfl rfl rfl Tryd.underlying9 ?_
 simp only [Z7,Z0]
 refine wpV_conv (d := .bool) (e := ((byteN l 1 : Nat) : Int)) (by rfl) rfl rfl (run_conv_int Tryd.underlying5 Tryd.underlying25 (by have := (byteN_lt l 1); rw [wrap32N]; omega)) ?_
 simp only [Z7,Z0]
 refine Z15 (v := .int .u32 ((byteN l 0 * 256 + byteN l 1 : Nat) : Int)) (by rfl) rfl rfl rfl (fun W => run_or (or8 (a := byteN l 0) (b := byteN l 1) (by have := byteN_lt l 0; have := byteN_lt l 1; have := byteN_lt l 2; omega) (byteN_lt l 1)) W) ?_
 simp only [Z7,Z0]
 refine Z14 (hLk _ (fun w27 Sw27 => ?_))
 clear hLk Lk
 simp only [Z1,Z2]
 replace M := M.sees Sw27
 refine Z13 (v := .int .u32 ((byteN l 0 * 256 + byteN l 1 : Nat) : Int)) (by rfl) (by rfl) (by rfl) ?_
 simp only [Z7,Z0]
 refine Z9 (Z10 ?_)
 refine hK23 _ _ ?_
 refine Z8 ?_
 refine Z11 1 (by rfl) (fun Lk hLk => ?_)
 simp only [Z1,Z2]
 refine Z15 (v := .int .i64 2) (by rfl) rfl rfl rfl (fun W => run_add (by decide) W) ?_
 simp only [Z7,Z0]
 refine Z14 (hLk _ (fun w29 Sw29 => ?_))
 clear hLk Lk
 simp only [Z1,Z2]
 replace M := M.sees Sw29
 refine Z12 (v := .int .i64 2) (by rfl) (by rfl) (by rfl) ?_
 simp only [Z7,Z0]
 refine Z9 (Z10 ?_)
 refine Z17 (Q := fun _ _ _ => True) ?_
 rw [rounds_succ]
 refine Z4 (fun K30 hK30 => ?_)
 refine Z8 ?_
 refine Z11 1 (by rfl) (fun Lk hLk => ?_)
 simp only [Z1,Z2]
 refine Z15 (v := .bool true) (by rfl) rfl rfl rfl (fun W => run_lss _ _ _ _ W) ?_
 simp only [Z7,Z0]
 refine Z14 (hLk _ (fun w32 Sw32 => ?_))
 clear hLk Lk
 simp only [Z1,Z2]
 replace M := M.sees Sw32
 refine Z9 (Z10 ?_)
 refine hK30 _ _ ?_
 refine Z4 (fun K33 hK33 => ?_)
 refine Z5 rfl ?_
 refine wp_skip ?_
 refine hK33 _ _ ?_
 refine Z4 (fun K34 hK34 => ?_)
 refine wp_block ?_
 refine Z4 (fun K35 hK35 => ?_)
 refine Z8 ?_
 refine Z12 (v := .int .i64 2) (by rfl) (by rfl) (by rfl) ?_
 simp only [Z7,Z0]
 refine Z13 (v := .int .i64 2) (by rfl) (by rfl) (by rfl) ?_
 simp only [Z7,Z0]
 refine Z9 (Z10 ?_)
 refine hK35 _ _ ?_
 refine Z8 ?_
 refine Z12 (v := .int .u32 ((byteN l 0 * 256 + byteN l 1 : Nat) : Int)) (by rfl) (by rfl) (by rfl) ?_
 simp only [Z7,Z0]
 refine Z11 6 (by rfl) (fun Lk hLk => ?_)
 simp only [Z1,Z2]
 refine Z15 (v := .int .u32 (((byteN l 0 * 256 + byteN l 1) * 256 : Nat) : Int)) (by rfl) rfl rfl rfl (fun W => run_shl (m := byteN l 0 * 256 + byteN l 1) (n := 8) (by decide) ((wrap32N _).trans (congrArg _ (by have := byteN_lt l 0; have := byteN_lt l 1; have := byteN_lt l 2; omega))) W) ?_
 simp only [Z7,Z0]
 refine Z16 (v := .string (bs l)) (by rfl) rfl rfl ?_
 simp only [Z7,Z0]
 refine Z16 (v := .int .i64 2) (by rfl) rfl rfl ?_
 simp only [Z7,Z0]
 refine wpV_indexb (n := 2) (by omega) (by rfl) rfl rfl rfl Tryd.underlying9 ?_
 simp only [Z7,Z0]
 refine wpV_conv (d := .bool) (e := ((byteN l 2 : Nat) : Int)) (by rfl) rfl rfl (run_conv_int Tryd.underlying5 Tryd.underlying25 (by have := (byteN_lt l 2); rw [wrap32N]; omega)) ?_
 simp only [Z7,Z0]
 refine Z15 (v := .int .u32 (((byteN l 0 * 256 + byteN l 1) * 256 + byteN l 2 : Nat) : Int)) (by rfl) rfl rfl rfl (fun W => run_or (or8 (a := byteN l 0 * 256 + byteN l 1) (b := byteN l 2) (by have := byteN_lt l 0; have := byteN_lt l 1; have := byteN_lt l 2; omega) (byteN_lt l 2)) W) ?_
 simp only [Z7,Z0]
 refine Z14 (hLk _ (fun w38 Sw38 => ?_))
 clear hLk Lk
 simp only [Z1,Z2]
 replace M := M.sees Sw38
 refine Z13 (v := .int .u32 (((byteN l 0 * 256 + byteN l 1) * 256 + byteN l 2 : Nat) : Int)) (by rfl) (by rfl) (by rfl) ?_
 simp only [Z7,Z0]
 refine Z9 (Z10 ?_)
 refine hK34 _ _ ?_
 refine Z8 ?_
 refine Z11 1 (by rfl) (fun Lk hLk => ?_)
 simp only [Z1,Z2]
 refine Z15 (v := .int .i64 3) (by rfl) rfl rfl rfl (fun W => run_add (by decide) W) ?_
 simp only [Z7,Z0]
 refine Z14 (hLk _ (fun w40 Sw40 => ?_))
 clear hLk Lk
 simp only [Z1,Z2]
 replace M := M.sees Sw40
 refine Z12 (v := .int .i64 3) (by rfl) (by rfl) (by rfl) ?_
 simp only [Z7,Z0]
 refine Z9 (Z10 ?_)
 refine Z17 (Q := fun _ _ _ => True) ?_
 rw [rounds_succ]
 refine Z4 (fun K41 hK41 => ?_)
 refine Z8 ?_
 refine Z11 1 (by rfl) (fun Lk hLk => ?_)
 simp only [Z1,Z2]
 refine Z15 (v := .bool true) (by rfl) rfl rfl rfl (fun W => run_lss _ _ _ _ W) ?_
 simp only [Z7,Z0]
 refine Z14 (hLk _ (fun w43 Sw43 => ?_))
 clear hLk Lk
 simp only [Z1,Z2]
 replace M := M.sees Sw43
 refine Z9 (Z10 ?_)
 refine hK41 _ _ ?_
 refine Z4 (fun K44 hK44 => ?_)
 refine Z5 rfl ?_
 refine wp_skip ?_
 refine hK44 _ _ ?_
 refine Z4 (fun K45 hK45 => ?_)
 refine wp_block ?_
 refine Z4 (fun K46 hK46 => ?_)
 refine Z8 ?_
 refine Z12 (v := .int .i64 3) (by rfl) (by rfl) (by rfl) ?_
 simp only [Z7,Z0]
 refine Z13 (v := .int .i64 3) (by rfl) (by rfl) (by rfl) ?_
 simp only [Z7,Z0]
 refine Z9 (Z10 ?_)
 refine hK46 _ _ ?_
 refine Z8 ?_
 refine Z12 (v := .int .u32 (((byteN l 0 * 256 + byteN l 1) * 256 + byteN l 2 : Nat) : Int)) (by rfl) (by rfl) (by rfl) ?_
 simp only [Z7,Z0]
 refine Z11 6 (by rfl) (fun Lk hLk => ?_)
 simp only [Z1,Z2]
 refine Z15 (v := .int .u32 ((((byteN l 0 * 256 + byteN l 1) * 256 + byteN l 2) * 256 : Nat) : Int)) (by rfl) rfl rfl rfl (fun W => run_shl (m := (byteN l 0 * 256 + byteN l 1) * 256 + byteN l 2) (n := 8) (by decide) ((wrap32N _).trans (congrArg _ (by have := byteN_lt l 0; have := byteN_lt l 1; have := byteN_lt l 2; omega))) W) ?_
 simp only [Z7,Z0]
 refine Z16 (v := .string (bs l)) (by rfl) rfl rfl ?_
 simp only [Z7,Z0]
 refine Z16 (v := .int .i64 3) (by rfl) rfl rfl ?_
 simp only [Z7,Z0]
 refine wpV_indexb (n := 3) (by omega) (by rfl) rfl rfl rfl Tryd.underlying9 ?_
 simp only [Z7,Z0]
 refine wpV_conv (d := .bool) (e := ((byteN l 3 : Nat) : Int)) (by rfl) rfl rfl (run_conv_int Tryd.underlying5 Tryd.underlying25 (by have := (byteN_lt l 3); rw [wrap32N]; omega)) ?_
 simp only [Z7,Z0]
 refine Z15 (v := .int .u32 ((be4 l 0 : Nat) : Int)) (by rfl) rfl rfl rfl (fun W => run_or (or8 (a := (byteN l 0 * 256 + byteN l 1) * 256 + byteN l 2) (b := byteN l 3) (by have := byteN_lt l 0; have := byteN_lt l 1; have := byteN_lt l 2; omega) (byteN_lt l 3)) W) ?_
 simp only [Z7,Z0]
 refine Z14 (hLk _ (fun w49 Sw49 => ?_))
 clear hLk Lk
 simp only [Z1,Z2]
 replace M := M.sees Sw49
 refine Z13 (v := .int .u32 ((be4 l 0 : Nat) : Int)) (by rfl) (by rfl) (by rfl) ?_
 simp only [Z7,Z0]
 refine Z9 (Z10 ?_)
 refine hK45 _ _ ?_
 refine Z8 ?_
 refine Z11 1 (by rfl) (fun Lk hLk => ?_)
 simp only [Z1,Z2]
 refine Z15 (v := .int .i64 4) (by rfl) rfl rfl rfl (fun W => run_add (by decide) W) ?_
 simp only [Z7,Z0]
 refine Z14 (hLk _ (fun w51 Sw51 => ?_))
 clear hLk Lk
 simp only [Z1,Z2]
 replace M := M.sees Sw51
 refine Z12 (v := .int .i64 4) (by rfl) (by rfl) (by rfl) ?_
 simp only [Z7,Z0]
 refine Z9 (Z10 ?_)
 refine Z17 (Q := fun _ _ _ => True) ?_
 rw [rounds_succ]
 refine Z4 (fun K52 hK52 => ?_)
 refine Z8 ?_
 refine Z11 1 (by rfl) (fun Lk hLk => ?_)
 simp only [Z1,Z2]
 refine Z15 (v := .bool false) (by rfl) rfl rfl rfl (fun W => run_lss _ _ _ _ W) ?_
 simp only [Z7,Z0]
 refine Z14 (hLk _ (fun w54 Sw54 => ?_))
 clear hLk Lk
 simp only [Z1,Z2]
 replace M := M.sees Sw54
 refine Z9 (Z10 ?_)
 refine hK52 _ _ ?_
 refine Z4 (fun K55 hK55 => ?_)
 refine Z6 rfl ?_
 refine wp_exit ?_
 refine hK5 _ _ ?_
 refine Z4 (fun K56 hK56 => ?_)
 refine Z8 ?_
 refine Z12 (v := .int .u32 ((be4 l 0 : Nat) : Int)) (by rfl) (by rfl) (by rfl) ?_
 simp only [Z7,Z0]
 refine Z13 (v := .int .u32 ((be4 l 0 : Nat) : Int)) (by rfl) (by rfl) (by rfl) ?_
 simp only [Z7,Z0]
 refine Z9 (Z10 ?_)
 refine hK56 _ _ ?_
 refine wp_ret ?_
 repeat (first | with_reducible refine then_ret ?_ | with_reducible refine inblock_ret ?_)
 refine bodyPost_ret (v := .int .u32 ((be4 l 0 : Nat) : Int)) (res1 rfl (.tmp (by rfl))) rfl ?_
 have BE := M.below
 exact ⟨rfl, BE⟩
set_option maxHeartbeats 2000000 in
theorem spread_c {l : List UInt8} {w : World} (hl : 64 ≤ l.length) :
  Calls Tryd.prog 104 #[.string (bs l)] w fun e w' => e = .returned (.agg (wcells l 64).toArray) ∧ Below w.heap.size w w' := by
 go_enter Tryd.func104, Tryd.ntmps104
 have M := Mem.start w
 refine Z4 (fun K1 hK1 => ?_)
 refine Z8 ?_
 refine wpL_var (t := 119) (cs := [.int .u32 0, .int .u32 0, .int .u32 0, .int .u32 0, .int .u32 0, .int .u32 0, .int .u32 0, .int .u32 0, .int .u32 0, .int .u32 0, .int .u32 0, .int .u32 0, .int .u32 0, .int .u32 0, .int .u32 0, .int .u32 0, .int .u32 0, .int .u32 0, .int .u32 0, .int .u32 0, .int .u32 0, .int .u32 0, .int .u32 0, .int .u32 0, .int .u32 0, .int .u32 0, .int .u32 0, .int .u32 0, .int .u32 0, .int .u32 0, .int .u32 0, .int .u32 0, .int .u32 0, .int .u32 0, .int .u32 0, .int .u32 0, .int .u32 0, .int .u32 0, .int .u32 0, .int .u32 0, .int .u32 0, .int .u32 0, .int .u32 0, .int .u32 0, .int .u32 0, .int .u32 0, .int .u32 0, .int .u32 0, .int .u32 0, .int .u32 0, .int .u32 0, .int .u32 0, .int .u32 0, .int .u32 0, .int .u32 0, .int .u32 0, .int .u32 0, .int .u32 0, .int .u32 0, .int .u32 0, .int .u32 0, .int .u32 0, .int .u32 0, .int .u32 0]) (by rfl) (fun W => ?_) (fun g3 w4 Sw4 Hg3 Bg3 => ?_)
 ·
  go_simp
 replace M := ((M.sees Sw4).add (cs := [.int .u32 0, .int .u32 0, .int .u32 0, .int .u32 0, .int .u32 0, .int .u32 0, .int .u32 0, .int .u32 0, .int .u32 0, .int .u32 0, .int .u32 0, .int .u32 0, .int .u32 0, .int .u32 0, .int .u32 0, .int .u32 0, .int .u32 0, .int .u32 0, .int .u32 0, .int .u32 0, .int .u32 0, .int .u32 0, .int .u32 0, .int .u32 0, .int .u32 0, .int .u32 0, .int .u32 0, .int .u32 0, .int .u32 0, .int .u32 0, .int .u32 0, .int .u32 0, .int .u32 0, .int .u32 0, .int .u32 0, .int .u32 0, .int .u32 0, .int .u32 0, .int .u32 0, .int .u32 0, .int .u32 0, .int .u32 0, .int .u32 0, .int .u32 0, .int .u32 0, .int .u32 0, .int .u32 0, .int .u32 0, .int .u32 0, .int .u32 0, .int .u32 0, .int .u32 0, .int .u32 0, .int .u32 0, .int .u32 0, .int .u32 0, .int .u32 0, .int .u32 0, .int .u32 0, .int .u32 0, .int .u32 0, .int .u32 0, .int .u32 0, .int .u32 0]) (M.ge Hg3) (M.fresh Hg3) Bg3 rfl)
 clear Bg3
 simp only [Z7,Z0]
 refine Z9 (Z10 ?_)
 refine hK1 _ _ ?_
 refine Z4 (fun K5 hK5 => ?_)
 refine Z8 ?_
 refine wpL_var (t := 119) (cs := [.int .u32 0, .int .u32 0, .int .u32 0, .int .u32 0, .int .u32 0, .int .u32 0, .int .u32 0, .int .u32 0, .int .u32 0, .int .u32 0, .int .u32 0, .int .u32 0, .int .u32 0, .int .u32 0, .int .u32 0, .int .u32 0, .int .u32 0, .int .u32 0, .int .u32 0, .int .u32 0, .int .u32 0, .int .u32 0, .int .u32 0, .int .u32 0, .int .u32 0, .int .u32 0, .int .u32 0, .int .u32 0, .int .u32 0, .int .u32 0, .int .u32 0, .int .u32 0, .int .u32 0, .int .u32 0, .int .u32 0, .int .u32 0, .int .u32 0, .int .u32 0, .int .u32 0, .int .u32 0, .int .u32 0, .int .u32 0, .int .u32 0, .int .u32 0, .int .u32 0, .int .u32 0, .int .u32 0, .int .u32 0, .int .u32 0, .int .u32 0, .int .u32 0, .int .u32 0, .int .u32 0, .int .u32 0, .int .u32 0, .int .u32 0, .int .u32 0, .int .u32 0, .int .u32 0, .int .u32 0, .int .u32 0, .int .u32 0, .int .u32 0, .int .u32 0]) (by rfl) (fun W => ?_) (fun g7 w8 Sw8 Hg7 Bg7 => ?_)
 ·
  go_simp
 replace M := ((M.sees Sw8).add (cs := [.int .u32 0, .int .u32 0, .int .u32 0, .int .u32 0, .int .u32 0, .int .u32 0, .int .u32 0, .int .u32 0, .int .u32 0, .int .u32 0, .int .u32 0, .int .u32 0, .int .u32 0, .int .u32 0, .int .u32 0, .int .u32 0, .int .u32 0, .int .u32 0, .int .u32 0, .int .u32 0, .int .u32 0, .int .u32 0, .int .u32 0, .int .u32 0, .int .u32 0, .int .u32 0, .int .u32 0, .int .u32 0, .int .u32 0, .int .u32 0, .int .u32 0, .int .u32 0, .int .u32 0, .int .u32 0, .int .u32 0, .int .u32 0, .int .u32 0, .int .u32 0, .int .u32 0, .int .u32 0, .int .u32 0, .int .u32 0, .int .u32 0, .int .u32 0, .int .u32 0, .int .u32 0, .int .u32 0, .int .u32 0, .int .u32 0, .int .u32 0, .int .u32 0, .int .u32 0, .int .u32 0, .int .u32 0, .int .u32 0, .int .u32 0, .int .u32 0, .int .u32 0, .int .u32 0, .int .u32 0, .int .u32 0, .int .u32 0, .int .u32 0, .int .u32 0]) (M.ge Hg7) (M.fresh Hg7) Bg7 rfl)
 clear Bg7
 simp only [Z7,Z0]
 refine Z9 (Z10 ?_)
 refine hK5 _ _ ?_
 refine Z4 (fun K9 hK9 => ?_)
 refine Z4 (fun K10 hK10 => ?_)
 refine Z8 ?_
 refine Z12 (v := .int .i64 0) (by rfl) (by rfl) (by rfl) ?_
 simp only [Z7,Z0]
 refine Z9 (Z10 ?_)
 refine hK10 _ _ ?_
 refine wp_block ?_
 replace M := M.read1 (cs := wcells l 0) (o := 0) 0 rfl (by rw [wcells_zero]; exact (M.r 0 0 rfl rfl))
 simp only [Z0] at M
 refine wp_loop_ghost (fun n9 a9 W9 => ∃ (t : Nat) (u12 : Nat → Value), n9 = 64 - t ∧ a9 = { tmps := #[.string (bs l), Z3, .pointer (some ⟨g3, 0, none⟩), .pointer (some ⟨g7, 0, none⟩), u12 4, u12 5, u12 6, u12 7, u12 8, .int .i64 ((t : Nat) : Int), u12 10, u12 11, u12 12, u12 13, u12 14, u12 15, u12 16, u12 17, u12 18, u12 19, u12 20, u12 21, u12 22, u12 23, u12 24, u12 25, u12 26, u12 27, u12 28, u12 29, u12 30, u12 31, u12 32, u12 33, u12 34, u12 35, u12 36, u12 37, u12 38, u12 39, u12 40, u12 41, u12 42, u12 43, u12 44, u12 45, u12 46, u12 47, u12 48, u12 49, u12 50, u12 51, u12 52, u12 53, u12 54, u12 55, u12 56, u12 57, u12 58, u12 59, u12 60, Z3], defers := [] } ∧ Mem [] w W9 [⟨g7, 64, [(0, wcells l t)]⟩, ⟨g3, 64, [(0, [.int .u32 0, .int .u32 0, .int .u32 0, .int .u32 0, .int .u32 0, .int .u32 0, .int .u32 0, .int .u32 0, .int .u32 0, .int .u32 0, .int .u32 0, .int .u32 0, .int .u32 0, .int .u32 0, .int .u32 0, .int .u32 0, .int .u32 0, .int .u32 0, .int .u32 0, .int .u32 0, .int .u32 0, .int .u32 0, .int .u32 0, .int .u32 0, .int .u32 0, .int .u32 0, .int .u32 0, .int .u32 0, .int .u32 0, .int .u32 0, .int .u32 0, .int .u32 0, .int .u32 0, .int .u32 0, .int .u32 0, .int .u32 0, .int .u32 0, .int .u32 0, .int .u32 0, .int .u32 0, .int .u32 0, .int .u32 0, .int .u32 0, .int .u32 0, .int .u32 0, .int .u32 0, .int .u32 0, .int .u32 0, .int .u32 0, .int .u32 0, .int .u32 0, .int .u32 0, .int .u32 0, .int .u32 0, .int .u32 0, .int .u32 0, .int .u32 0, .int .u32 0, .int .u32 0, .int .u32 0, .int .u32 0, .int .u32 0, .int .u32 0, .int .u32 0])]⟩] ∧ (t ≤ 64)) (64 - (0)) ?_ (fun n9 a9 W9 hI => ?_)
 ·
  exact ⟨0, (fun q9 => (#[Z3, Z3, Z3, Z3, Z3, Z3, Z3, Z3, Z3, Z3, Z3, Z3, Z3, Z3, Z3, Z3, Z3, Z3, Z3, Z3, Z3, Z3, Z3, Z3, Z3, Z3, Z3, Z3, Z3, Z3, Z3, Z3, Z3, Z3, Z3, Z3, Z3, Z3, Z3, Z3, Z3, Z3, Z3, Z3, Z3, Z3, Z3, Z3, Z3, Z3, Z3, Z3, Z3, Z3, Z3, Z3, Z3, Z3, Z3, Z3, Z3] : Array Value).getD q9 Z3), rfl, rfl, M, (by omega)⟩
 clear M
 obtain ⟨t, u12, rfl, rfl, M, ht4⟩ := hI
 obtain ⟨w13, rfl⟩ : ∃ W8, W8 = W9 := ⟨_, rfl⟩
 refine Z4 (fun K14 hK14 => ?_)
 refine Z8 ?_
 refine Z11 1 (by rfl) (fun Lk hLk => ?_)
 simp only [Z1,Z2]
 refine Z15 (v := .bool (decide (t < 64))) (by rfl) rfl rfl rfl (fun W => run_lssN t 64 _ _ W) ?_
 simp only [Z7,Z0]
 refine Z14 (hLk _ (fun w16 Sw16 => ?_))
 clear hLk Lk
 simp only [Z1,Z2]
 replace M := M.sees Sw16
 refine Z9 (Z10 ?_)
 refine hK14 _ _ ?_
 refine Z4 (fun K17 hK17 => ?_)
 cases hc18 : (decide (t < 64))
 ·
  have et : t = 64 := by have := of_decide_eq_false hc18; omega
  subst et
  refine Z6 rfl ?_
  refine wp_exit ?_
  refine hK9 _ _ ?_
  refine Z4 (fun K19 hK19 => ?_)
  refine Z8 ?_
  refine Z11 1 (by rfl) (fun Lk hLk => ?_)
  simp only [Z1,Z2]
  refine wpV_load (cs := wcells l 64) (by rfl) rfl rfl (M.r 0 0 rfl rfl) (M.lt 0 rfl) Tryd.underlying119 rfl info119 ?_
  simp only [Z7,Z0]
  refine Z14 (hLk _ (fun w21 Sw21 => ?_))
  clear hLk Lk
  simp only [Z1,Z2]
  replace M := M.sees Sw21
  refine wpL_store (g := g3) (off := 0) (n := 64) (cs := wcells l 64) (by rfl) (by rfl) (by rfl) (by rfl) (by rfl) (M.t 1 rfl) (by rw [wcells_len]; decide) info119 (wcells_one _ _) (fun w22 P R T => ?_)
  replace M := M.putS 1 0 rfl P R T rfl ⟨.inl rfl, trivial⟩
  simp only [Z0] at M
  refine Z9 (Z10 ?_)
  refine hK19 _ _ ?_
  refine wp_ret ?_
  repeat (first | with_reducible refine then_ret ?_ | with_reducible refine inblock_ret ?_)
  refine bodyPost_ret (v := .agg (wcells l 64).toArray) (res1 rfl (.cell (by rfl) (run_loadVar_mid _ _ _ _ (wcells l 64) _ (M.r 1 0 rfl rfl) Tryd.underlying119 rfl info119))) rfl ?_
  have BE := M.below
  exact ⟨rfl, BE⟩
 ·
  have ht : t < 64 := of_decide_eq_true hc18
  refine Z5 rfl ?_
  refine wp_skip ?_
  refine hK17 _ _ ?_
  refine Z4 (fun K23 hK23 => ?_)
  refine wp_block ?_
  refine Z4 (fun K24 hK24 => ?_)
  refine Z8 ?_
  refine Z12 (v := .int .i64 ((t : Nat) : Int)) (by rfl) (by rfl) (by rfl) ?_
  simp only [Z7,Z0]
  refine Z13 (v := .int .i64 ((t : Nat) : Int)) (by rfl) (by rfl) (by rfl) ?_
  simp only [Z7,Z0]
  refine Z9 (Z10 ?_)
  refine hK24 _ _ ?_
  refine Z4 (fun K26 hK26 => ?_)
  refine Z4 (fun K27 hK27 => ?_)
  refine Z8 ?_
  refine Z12 (v := .int .i64 ((t : Nat) : Int)) (by rfl) (by rfl) (by rfl) ?_
  simp only [Z7,Z0]
  refine Z11 1 (by rfl) (fun Lk hLk => ?_)
  simp only [Z1,Z2]
  refine Z15 (v := .bool (decide (t < 16))) (by rfl) rfl rfl rfl (fun W => run_lssN t 16 _ _ W) ?_
  simp only [Z7,Z0]
  refine Z14 (hLk _ (fun w29 Sw29 => ?_))
  clear hLk Lk
  simp only [Z1,Z2]
  replace M := M.sees Sw29
  refine Z9 (Z10 ?_)
  refine hK27 _ _ ?_
  cases hc30 : (decide (t < 16))
  ·
   have h16 : ¬ t < 16 := of_decide_eq_false hc30
   refine Z6 rfl ?_
   refine wp_skip ?_
   refine hK26 _ _ ?_
   refine Z4 (fun K31 hK31 => ?_)
   refine wp_region_grow 10 [] (by kernel_rfl) (by kernel_rfl) (by kernel_rfl) (fun Lk hLk => ?_)
   simp only [Z1,Z2]
   refine Z16 (v := .int .i64 ((t : Nat) : Int)) (by rfl) rfl rfl ?_
   simp only [Z7,Z0]
   refine Z15 (v := .int .i64 ((t - 15 : Nat) : Int)) (by rfl) rfl rfl rfl (fun W => run_sub (by simp only [IntKind.wrap_i64]; omega) W) ?_
   simp only [Z7,Z0]
   refine wpV_idx (n := t - 15) (by rfl) rfl rfl rfl Tryd.underlying119 info25 (by omega) ?_
   simp only [Nat.zero_add]
   simp only [Z7,Z0]
   refine wpV_load1 (v := .int .u32 ((shW l (t - 15) : Nat) : Int)) (by rfl) rfl rfl (zadd ((M.r 0 0 rfl rfl) _ _ (wcells_at l (by omega) (by omega)))) (M.lt 0 rfl) Tryd.underlying25 rfl ?_
   simp only [Z7,Z0]
   refine Z16 (v := .int .i64 ((t : Nat) : Int)) (by rfl) rfl rfl ?_
   simp only [Z7,Z0]
   refine Z15 (v := .int .i64 ((t - 2 : Nat) : Int)) (by rfl) rfl rfl rfl (fun W => run_sub (by simp only [IntKind.wrap_i64]; omega) W) ?_
   simp only [Z7,Z0]
   refine wpV_idx (n := t - 2) (by rfl) rfl rfl rfl Tryd.underlying119 info25 (by omega) ?_
   simp only [Nat.zero_add]
   simp only [Z7,Z0]
   refine wpV_load1 (v := .int .u32 ((shW l (t - 2) : Nat) : Int)) (by rfl) rfl rfl (zadd ((M.r 0 0 rfl rfl) _ _ (wcells_at l (by omega) (by omega)))) (M.lt 0 rfl) Tryd.underlying25 rfl ?_
   simp only [Z7,Z0]
   refine wpV_assign (v := .int .u32 ((shW l (t - 15) : Nat) : Int)) (by rfl) rfl rfl ?_
   simp only [Z7,Z0]
   refine wpV_assign (v := .int .u32 ((shW l (t - 2) : Nat) : Int)) (by rfl) rfl rfl ?_
   simp only [Z7,Z0]
   refine Z14 (hLk.out _ ?_)
   clear hLk Lk
   simp only [Z1,Z2]
   iterate 10 refine wpN_skip (by rfl) ?_
   refine wpN_nil (fun w33 Sw33 hbs => ?_)
   clear hbs
   replace M := M.sees Sw33
   refine Z9 (Z10 ?_)
   refine hK31 _ _ ?_
   refine Z4 (fun K34 hK34 => ?_)
   refine Z8 ?_
   refine Z12 (v := .int .u32 ((shW l (t - 15) : Nat) : Int)) (by rfl) (by rfl) (by rfl) ?_
   simp only [Z7,Z0]
   refine Z11 7 (by rfl) (fun Lk hLk => ?_)
   simp only [Z1,Z2]
   refine Z20 (v := .int .u32 ((rotr (shW l (t - 15)) 7 : Nat) : Int)) (args := #[.int .u32 ((shW l (t - 15) : Nat) : Int), .int .i64 (-7)]) (by rfl) rfl Tryd.func105 (by kernel_rfl) (by kernel_rfl) rfl (fun W hW => (by have := rotl_c (x := shW l (t - 15)) (n := 7) (w := W) (shW_lt ..) (by decide) (by decide); exact this)) ?_
   simp only [Z7,Z0]
   refine Z16 (v := .int .u32 ((shW l (t - 15) : Nat) : Int)) (by rfl) rfl rfl ?_
   simp only [Z7,Z0]
   refine Z20 (v := .int .u32 ((rotr (shW l (t - 15)) 18 : Nat) : Int)) (args := #[.int .u32 ((shW l (t - 15) : Nat) : Int), .int .i64 (-18)]) (by rfl) rfl Tryd.func105 (by kernel_rfl) (by kernel_rfl) rfl (fun W hW => (by have := rotl_c (x := shW l (t - 15)) (n := 18) (w := W) (shW_lt ..) (by decide) (by decide); exact this)) ?_
   simp only [Z7,Z0]
   refine Z15 (v := .int .u32 (((rotr (shW l (t - 15)) 7) ^^^ (rotr (shW l (t - 15)) 18) : Nat) : Int)) (by rfl) rfl rfl rfl (fun W => nr_xor32 (x := rotr (shW l (t - 15)) 7) (y := rotr (shW l (t - 15)) 18) (rotr_lt (shW_lt ..) (by decide)) (rotr_lt (shW_lt ..) (by decide)) W) ?_
   simp only [Z7,Z0]
   refine Z16 (v := .int .u32 ((shW l (t - 15) : Nat) : Int)) (by rfl) rfl rfl ?_
   simp only [Z7,Z0]
   refine Z15 (v := .int .u32 (((shW l (t - 15)) / 2 ^ 3 : Nat) : Int)) (by rfl) rfl rfl rfl (fun W => nr_shr32 (x := shW l (t - 15)) (n := 3) (by omega) W) ?_
   simp only [Z7,Z0]
   refine Z15 (v := .int .u32 ((sg0 (shW l (t - 15)) : Nat) : Int)) (by rfl) rfl rfl rfl (fun W => nr_xor32 (x := (rotr (shW l (t - 15)) 7) ^^^ (rotr (shW l (t - 15)) 18)) (y := (shW l (t - 15)) / 2 ^ 3) (xor_lt32 (rotr_lt (shW_lt ..) (by decide)) (rotr_lt (shW_lt ..) (by decide))) (div_lt32 _ (shW_lt ..)) W) ?_
   simp only [Z7,Z0]
   refine Z14 (hLk _ (fun w36 Sw36 => ?_))
   clear hLk Lk
   simp only [Z1,Z2]
   replace M := M.sees Sw36
   refine Z13 (v := .int .u32 ((sg0 (shW l (t - 15)) : Nat) : Int)) (by rfl) (by rfl) (by rfl) ?_
   simp only [Z7,Z0]
   refine Z9 (Z10 ?_)
   refine hK34 _ _ ?_
   refine Z4 (fun K37 hK37 => ?_)
   refine Z8 ?_
   refine Z12 (v := .int .u32 ((shW l (t - 2) : Nat) : Int)) (by rfl) (by rfl) (by rfl) ?_
   simp only [Z7,Z0]
   refine Z11 7 (by rfl) (fun Lk hLk => ?_)
   simp only [Z1,Z2]
   refine Z20 (v := .int .u32 ((rotr (shW l (t - 2)) 17 : Nat) : Int)) (args := #[.int .u32 ((shW l (t - 2) : Nat) : Int), .int .i64 (-17)]) (by rfl) rfl Tryd.func105 (by kernel_rfl) (by kernel_rfl) rfl (fun W hW => (by have := rotl_c (x := shW l (t - 2)) (n := 17) (w := W) (shW_lt ..) (by decide) (by decide); exact this)) ?_
   simp only [Z7,Z0]
   refine Z16 (v := .int .u32 ((shW l (t - 2) : Nat) : Int)) (by rfl) rfl rfl ?_
   simp only [Z7,Z0]
   refine Z20 (v := .int .u32 ((rotr (shW l (t - 2)) 19 : Nat) : Int)) (args := #[.int .u32 ((shW l (t - 2) : Nat) : Int), .int .i64 (-19)]) (by rfl) rfl Tryd.func105 (by kernel_rfl) (by kernel_rfl) rfl (fun W hW => (by have := rotl_c (x := shW l (t - 2)) (n := 19) (w := W) (shW_lt ..) (by decide) (by decide); exact this)) ?_
   simp only [Z7,Z0]
   refine Z15 (v := .int .u32 (((rotr (shW l (t - 2)) 17) ^^^ (rotr (shW l (t - 2)) 19) : Nat) : Int)) (by rfl) rfl rfl rfl (fun W => nr_xor32 (x := rotr (shW l (t - 2)) 17) (y := rotr (shW l (t - 2)) 19) (rotr_lt (shW_lt ..) (by decide)) (rotr_lt (shW_lt ..) (by decide)) W) ?_
   simp only [Z7,Z0]
   refine Z16 (v := .int .u32 ((shW l (t - 2) : Nat) : Int)) (by rfl) rfl rfl ?_
   simp only [Z7,Z0]
   refine Z15 (v := .int .u32 (((shW l (t - 2)) / 2 ^ 10 : Nat) : Int)) (by rfl) rfl rfl rfl (fun W => nr_shr32 (x := shW l (t - 2)) (n := 10) (by omega) W) ?_
   simp only [Z7,Z0]
   refine Z15 (v := .int .u32 ((sg1 (shW l (t - 2)) : Nat) : Int)) (by rfl) rfl rfl rfl (fun W => nr_xor32 (x := (rotr (shW l (t - 2)) 17) ^^^ (rotr (shW l (t - 2)) 19)) (y := (shW l (t - 2)) / 2 ^ 10) (xor_lt32 (rotr_lt (shW_lt ..) (by decide)) (rotr_lt (shW_lt ..) (by decide))) (div_lt32 _ (shW_lt ..)) W) ?_
   simp only [Z7,Z0]
   refine Z14 (hLk _ (fun w39 Sw39 => ?_))
   clear hLk Lk
   simp only [Z1,Z2]
   replace M := M.sees Sw39
   refine Z13 (v := .int .u32 ((sg1 (shW l (t - 2)) : Nat) : Int)) (by rfl) (by rfl) (by rfl) ?_
   simp only [Z7,Z0]
   refine Z9 (Z10 ?_)
   refine hK37 _ _ ?_
   refine wp_region_grow 15 [] (by kernel_rfl) (by kernel_rfl) (by kernel_rfl) (fun Lk hLk => ?_)
   simp only [Z1,Z2]
   refine Z16 (v := .int .i64 ((t : Nat) : Int)) (by rfl) rfl rfl ?_
   simp only [Z7,Z0]
   refine Z16 (v := .int .i64 ((t : Nat) : Int)) (by rfl) rfl rfl ?_
   simp only [Z7,Z0]
   refine Z15 (v := .int .i64 ((t - 16 : Nat) : Int)) (by rfl) rfl rfl rfl (fun W => run_sub (by simp only [IntKind.wrap_i64]; omega) W) ?_
   simp only [Z7,Z0]
   refine wpV_idx (n := t - 16) (by rfl) rfl rfl rfl Tryd.underlying119 info25 (by omega) ?_
   simp only [Nat.zero_add]
   simp only [Z7,Z0]
   refine wpV_load1 (v := .int .u32 ((shW l (t - 16) : Nat) : Int)) (by rfl) rfl rfl (zadd ((M.r 0 0 rfl rfl) _ _ (wcells_at l (by omega) (by omega)))) (M.lt 0 rfl) Tryd.underlying25 rfl ?_
   simp only [Z7,Z0]
   refine Z16 (v := .int .u32 ((sg0 (shW l (t - 15)) : Nat) : Int)) (by rfl) rfl rfl ?_
   simp only [Z7,Z0]
   refine Z15 (v := .int .u32 ((((shW l (t - 16)) + (sg0 (shW l (t - 15)))) % 4294967296 : Nat) : Int)) (by rfl) rfl rfl rfl (fun W => nr_add32 _ (shW l (t - 16)) (sg0 (shW l (t - 15))) W) ?_
   simp only [Z7,Z0]
   refine Z16 (v := .int .i64 ((t : Nat) : Int)) (by rfl) rfl rfl ?_
   simp only [Z7,Z0]
   refine Z15 (v := .int .i64 ((t - 7 : Nat) : Int)) (by rfl) rfl rfl rfl (fun W => run_sub (by simp only [IntKind.wrap_i64]; omega) W) ?_
   simp only [Z7,Z0]
   refine wpV_idx (n := t - 7) (by rfl) rfl rfl rfl Tryd.underlying119 info25 (by omega) ?_
   simp only [Nat.zero_add]
   simp only [Z7,Z0]
   refine wpV_load1 (v := .int .u32 ((shW l (t - 7) : Nat) : Int)) (by rfl) rfl rfl (zadd ((M.r 0 0 rfl rfl) _ _ (wcells_at l (by omega) (by omega)))) (M.lt 0 rfl) Tryd.underlying25 rfl ?_
   simp only [Z7,Z0]
   refine Z15 (v := .int .u32 ((((((shW l (t - 16)) + (sg0 (shW l (t - 15)))) % 4294967296) + (shW l (t - 7))) % 4294967296 : Nat) : Int)) (by rfl) rfl rfl rfl (fun W => nr_add32 _ (((shW l (t - 16)) + (sg0 (shW l (t - 15)))) % 4294967296) (shW l (t - 7)) W) ?_
   simp only [Z7,Z0]
   refine Z16 (v := .int .u32 ((sg1 (shW l (t - 2)) : Nat) : Int)) (by rfl) rfl rfl ?_
   simp only [Z7,Z0]
   refine Z15 (v := .int .u32 ((shW l t : Nat) : Int)) (by rfl) rfl rfl rfl (fun W => (by have := nr_add32 (P := Tryd.prog) 0 (((shW l (t - 16) + sg0 (shW l (t - 15))) % 4294967296 + shW l (t - 7)) % 4294967296) (sg1 (shW l (t - 2))) W; rw [← shW_hi h16] at this; exact this)) ?_
   simp only [Z7,Z0]
   refine wpV_idx (n := t) (by rfl) rfl rfl rfl Tryd.underlying119 info25 (by omega) ?_
   simp only [Nat.zero_add]
   simp only [Z7,Z0]
   refine Z14 (hLk.out _ ?_)
   clear hLk Lk
   simp only [Z1,Z2]
   iterate 15 refine wpN_skip (by rfl) ?_
   refine wpN_nil (fun w41 Sw41 hbs => ?_)
   clear hbs
   replace M := M.sees Sw41
   refine Z18 (g := g7) (off := t) (n := 64) (v := .int .u32 ((shW l t : Nat) : Int)) (by rfl) (by rfl) (by rfl) (by rfl) (by rfl) (M.t 0 rfl) (by omega) info25 rfl (fun w42 P R T => ?_)
   replace M := M.put1 (j := t) 0 rfl P R T (Nat.zero_add _).symm
   simp only [Z0] at M
   rw [wcells_set l ht] at M
   refine Z9 (Z10 ?_)
   refine hK23 _ _ ?_
   refine Z8 ?_
   refine Z11 1 (by rfl) (fun Lk hLk => ?_)
   simp only [Z1,Z2]
   refine Z15 (v := .int .i64 ((t + 1 : Nat) : Int)) (by rfl) rfl rfl rfl (fun W => run_add (by simp only [IntKind.wrap_i64]; omega) W) ?_
   simp only [Z7,Z0]
   refine Z14 (hLk _ (fun w44 Sw44 => ?_))
   clear hLk Lk
   simp only [Z1,Z2]
   replace M := M.sees Sw44
   refine Z12 (v := .int .i64 ((t + 1 : Nat) : Int)) (by rfl) (by rfl) (by rfl) ?_
   simp only [Z7,Z0]
   refine Z9 (Z10 ?_)
   refine Exists.intro _ ⟨?_, (t + 1), (fun q9 => (#[Z3, Z3, Z3, Z3, .int .i64 ((t : Nat) : Int), .int .u32 ((shW l (t - 15) : Nat) : Int), .int .u32 ((shW l (t - 2) : Nat) : Int), .int .u32 ((sg0 (shW l (t - 15)) : Nat) : Int), .int .u32 ((sg1 (shW l (t - 2)) : Nat) : Int), Z3, .bool true, .int .i64 ((t : Nat) : Int), .int .i64 ((t : Nat) : Int), .bool false, u12 14, u12 15, u12 16, u12 17, u12 18, u12 19, u12 20, .int .i64 ((t : Nat) : Int), .int .i64 ((t - 15 : Nat) : Int), .pointer (some ⟨g7, t - 15, none⟩), .int .u32 ((shW l (t - 15) : Nat) : Int), .int .i64 ((t : Nat) : Int), .int .i64 ((t - 2 : Nat) : Int), .pointer (some ⟨g7, t - 2, none⟩), .int .u32 ((shW l (t - 2) : Nat) : Int), .int .u32 ((shW l (t - 15) : Nat) : Int), .int .u32 ((rotr (shW l (t - 15)) 7 : Nat) : Int), .int .u32 ((shW l (t - 15) : Nat) : Int), .int .u32 ((rotr (shW l (t - 15)) 18 : Nat) : Int), .int .u32 (((rotr (shW l (t - 15)) 7) ^^^ (rotr (shW l (t - 15)) 18) : Nat) : Int), .int .u32 ((shW l (t - 15) : Nat) : Int), .int .u32 (((shW l (t - 15)) / 2 ^ 3 : Nat) : Int), .int .u32 ((sg0 (shW l (t - 15)) : Nat) : Int), .int .u32 ((shW l (t - 2) : Nat) : Int), .int .u32 ((rotr (shW l (t - 2)) 17 : Nat) : Int), .int .u32 ((shW l (t - 2) : Nat) : Int), .int .u32 ((rotr (shW l (t - 2)) 19 : Nat) : Int), .int .u32 (((rotr (shW l (t - 2)) 17) ^^^ (rotr (shW l (t - 2)) 19) : Nat) : Int), .int .u32 ((shW l (t - 2) : Nat) : Int), .int .u32 (((shW l (t - 2)) / 2 ^ 10 : Nat) : Int), .int .u32 ((sg1 (shW l (t - 2)) : Nat) : Int), .int .i64 ((t : Nat) : Int), .int .i64 ((t : Nat) : Int), .int .i64 ((t - 16 : Nat) : Int), .pointer (some ⟨g7, t - 16, none⟩), .int .u32 ((shW l (t - 16) : Nat) : Int), .int .u32 ((sg0 (shW l (t - 15)) : Nat) : Int), .int .u32 ((((shW l (t - 16)) + (sg0 (shW l (t - 15)))) % 4294967296 : Nat) : Int), .int .i64 ((t : Nat) : Int), .int .i64 ((t - 7 : Nat) : Int), .pointer (some ⟨g7, t - 7, none⟩), .int .u32 ((shW l (t - 7) : Nat) : Int), .int .u32 ((((((shW l (t - 16)) + (sg0 (shW l (t - 15)))) % 4294967296) + (shW l (t - 7))) % 4294967296 : Nat) : Int), .int .u32 ((sg1 (shW l (t - 2)) : Nat) : Int), .int .u32 ((shW l t : Nat) : Int), .pointer (some ⟨g7, t, none⟩), .int .i64 ((t + 1 : Nat) : Int)] : Array Value).getD q9 Z3), rfl, rfl, M, (by omega)⟩
   omega
  ·
   have h16 : t < 16 := of_decide_eq_true hc30
   refine Z5 rfl ?_
   refine Z4 (fun K45 hK45 => ?_)
   refine Z8 ?_
   refine Z12 (v := .int .i64 ((t : Nat) : Int)) (by rfl) (by rfl) (by rfl) ?_
   simp only [Z7,Z0]
   refine Z12 (v := .string (bs l)) (by rfl) (by rfl) (by rfl) ?_
   simp only [Z7,Z0]
   refine Z12 (v := .int .i64 ((t : Nat) : Int)) (by rfl) (by rfl) (by rfl) ?_
   simp only [Z7,Z0]
   refine Z11 4 (by rfl) (fun Lk hLk => ?_)
   simp only [Z1,Z2]
   refine Z15 (v := .int .i64 ((4 * t : Nat) : Int)) (by rfl) rfl rfl rfl (fun W => run_mul (by simp only [IntKind.wrap_i64]; omega) W) ?_
   simp only [Z7,Z0]
   refine wpV_drop (l := l) (lo := 4 * t) (by rfl) rfl rfl rfl Tryd.underlying9 (by omega) ?_
   simp only [Z7,Z0]
   refine Z20 (v := .int .u32 ((shW l t : Nat) : Int)) (args := #[.string (bs (l.drop (4 * t)))]) (by rfl) rfl Tryd.func112 (by kernel_rfl) (by kernel_rfl) rfl (fun W hW => (by have := read_c (l := l.drop (4 * t)) (w := W) (by rw [List.length_drop]; omega); rwa [show be4 (l.drop (4 * t)) 0 = shW l t by rw [shW_lo h16]; unfold be4; simp only [byteN_drop, Nat.zero_add, Nat.add_zero]] at this)) ?_
   simp only [Z7,Z0]
   refine wpV_idx (n := t) (by rfl) rfl rfl rfl Tryd.underlying119 info25 (by omega) ?_
   simp only [Nat.zero_add]
   simp only [Z7,Z0]
   refine Z14 (hLk _ (fun w47 Sw47 => ?_))
   clear hLk Lk
   simp only [Z1,Z2]
   replace M := M.sees Sw47
   refine Z18 (g := g7) (off := t) (n := 64) (v := .int .u32 ((shW l t : Nat) : Int)) (by rfl) (by rfl) (by rfl) (by rfl) (by rfl) (M.t 0 rfl) (by omega) info25 rfl (fun w48 P R T => ?_)
   replace M := M.put1 (j := t) 0 rfl P R T (Nat.zero_add _).symm
   simp only [Z0] at M
   rw [wcells_set l ht] at M
   refine Z9 (Z10 ?_)
   refine hK45 _ _ ?_
   refine wp_exit ?_
   refine hK23 _ _ ?_
   refine Z8 ?_
   refine Z11 1 (by rfl) (fun Lk hLk => ?_)
   simp only [Z1,Z2]
   refine Z15 (v := .int .i64 ((t + 1 : Nat) : Int)) (by rfl) rfl rfl rfl (fun W => run_add (by simp only [IntKind.wrap_i64]; omega) W) ?_
   simp only [Z7,Z0]
   refine Z14 (hLk _ (fun w50 Sw50 => ?_))
   clear hLk Lk
   simp only [Z1,Z2]
   replace M := M.sees Sw50
   refine Z12 (v := .int .i64 ((t + 1 : Nat) : Int)) (by rfl) (by rfl) (by rfl) ?_
   simp only [Z7,Z0]
   refine Z9 (Z10 ?_)
   refine Exists.intro _ ⟨?_, (t + 1), (fun q9 => (#[Z3, Z3, Z3, Z3, .int .i64 ((t : Nat) : Int), u12 5, u12 6, u12 7, u12 8, Z3, .bool true, .int .i64 ((t : Nat) : Int), .int .i64 ((t : Nat) : Int), .bool true, .int .i64 ((t : Nat) : Int), .string (bs l), .int .i64 ((t : Nat) : Int), .int .i64 ((4 * t : Nat) : Int), .string (bs (l.drop (4 * t))), .int .u32 ((shW l t : Nat) : Int), .pointer (some ⟨g7, t, none⟩), u12 21, u12 22, u12 23, u12 24, u12 25, u12 26, u12 27, u12 28, u12 29, u12 30, u12 31, u12 32, u12 33, u12 34, u12 35, u12 36, u12 37, u12 38, u12 39, u12 40, u12 41, u12 42, u12 43, u12 44, u12 45, u12 46, u12 47, u12 48, u12 49, u12 50, u12 51, u12 52, u12 53, u12 54, u12 55, u12 56, u12 57, u12 58, u12 59, .int .i64 ((t + 1 : Nat) : Int)] : Array Value).getD q9 Z3), rfl, rfl, M, (by omega)⟩
   omega
end Go.Proofs.Yb

namespace Go.Proofs.Yb
open Go Go.RowKit Go.Proofs.Num
open List renaming set → Z0, take → Z1, drop → Z2
open Go renaming undef → Z3, wp_seq_k → Z4, wp_cond_true → Z5, wp_cond_false → Z6
open Go.Proofs.Num renaming putT → Z7, wp_region_seq → Z8, wpL_nil → Z9, no_panic → Z10, wpL_chunk → Z11, wpL_move → Z12, wpL_assign → Z13, wpV_nil → Z14, wpV_bin → Z15, wpV_move → Z16, then_normal → Z17, wpL_store1 → Z18, wpV_val → Z19, wpV_callf → Z20
set_option maxHeartbeats 4000000 in
theorem mix_c {g n : Nat} {h : S8} {b l : List UInt8} {w : World} (hh : h.Ok) (hl : 64 ≤ l.length) (hg : g ≠ 0) (L0 : 0 < w.heap.size) (R0_0 : w.rangeAt 0 0 kcells) (hM : Mem [g] w w [⟨g, 10, [(0, [.int .u32 ((h.a : Nat) : Int), .int .u32 ((h.b : Nat) : Int), .int .u32 ((h.c : Nat) : Int), .int .u32 ((h.d : Nat) : Int), .int .u32 ((h.e : Nat) : Int), .int .u32 ((h.f : Nat) : Int), .int .u32 ((h.g : Nat) : Int), .int .u32 ((h.h : Nat) : Int)]), (8, [.string (bs b)]), (9, [.int .u64 ((n : Nat) : Int)])]⟩]) :
  Calls Tryd.prog 88 #[.pointer (some ⟨g, 0, none⟩), .string (bs l)] w fun e w' => ∃ v, e = .returned v ∧ v = .tuple #[] ∧ Mem [g] w w' [⟨g, 10, [(0, [.int .u32 (((mixS h l).a : Nat) : Int), .int .u32 (((mixS h l).b : Nat) : Int), .int .u32 (((mixS h l).c : Nat) : Int), .int .u32 (((mixS h l).d : Nat) : Int), .int .u32 (((mixS h l).e : Nat) : Int), .int .u32 (((mixS h l).f : Nat) : Int), .int .u32 (((mixS h l).g : Nat) : Int), .int .u32 (((mixS h l).h : Nat) : Int)]), (8, [.string (bs b)]), (9, [.int .u64 ((n : Nat) : Int)])]⟩] := by
 go_enter Tryd.func88, Tryd.ntmps88
 have M := hM
 refine Z4 (fun K1 hK1 => ?_)
 refine Z8 ?_
 refine Z12 (v := .string (bs l)) (by rfl) (by rfl) (by rfl) ?_
 simp only [Z7,Z0]
 refine Z11 1 (by rfl) (fun Lk hLk => ?_)
 simp only [Z1,Z2]
 refine Z20 (v := .agg (wcells l 64).toArray) (args := #[.string (bs l)]) (by rfl) rfl Tryd.func104 (by kernel_rfl) (by kernel_rfl) rfl (fun W hW => spread_c hl) ?_
 simp only [Z7,Z0]
 refine Z14 (hLk _ (fun w3 Sw3 => ?_))
 clear hLk Lk
 simp only [Z1,Z2]
 replace M := M.sees Sw3
 refine wpL_var (t := 119) (cs := [.int .u32 0, .int .u32 0, .int .u32 0, .int .u32 0, .int .u32 0, .int .u32 0, .int .u32 0, .int .u32 0, .int .u32 0, .int .u32 0, .int .u32 0, .int .u32 0, .int .u32 0, .int .u32 0, .int .u32 0, .int .u32 0, .int .u32 0, .int .u32 0, .int .u32 0, .int .u32 0, .int .u32 0, .int .u32 0, .int .u32 0, .int .u32 0, .int .u32 0, .int .u32 0, .int .u32 0, .int .u32 0, .int .u32 0, .int .u32 0, .int .u32 0, .int .u32 0, .int .u32 0, .int .u32 0, .int .u32 0, .int .u32 0, .int .u32 0, .int .u32 0, .int .u32 0, .int .u32 0, .int .u32 0, .int .u32 0, .int .u32 0, .int .u32 0, .int .u32 0, .int .u32 0, .int .u32 0, .int .u32 0, .int .u32 0, .int .u32 0, .int .u32 0, .int .u32 0, .int .u32 0, .int .u32 0, .int .u32 0, .int .u32 0, .int .u32 0, .int .u32 0, .int .u32 0, .int .u32 0, .int .u32 0, .int .u32 0, .int .u32 0, .int .u32 0]) (by rfl) (fun W => ?_) (fun g4 w5 Sw5 Hg4 Bg4 => ?_)
 ·
  go_simp
 replace M := ((M.sees Sw5).add (cs := [.int .u32 0, .int .u32 0, .int .u32 0, .int .u32 0, .int .u32 0, .int .u32 0, .int .u32 0, .int .u32 0, .int .u32 0, .int .u32 0, .int .u32 0, .int .u32 0, .int .u32 0, .int .u32 0, .int .u32 0, .int .u32 0, .int .u32 0, .int .u32 0, .int .u32 0, .int .u32 0, .int .u32 0, .int .u32 0, .int .u32 0, .int .u32 0, .int .u32 0, .int .u32 0, .int .u32 0, .int .u32 0, .int .u32 0, .int .u32 0, .int .u32 0, .int .u32 0, .int .u32 0, .int .u32 0, .int .u32 0, .int .u32 0, .int .u32 0, .int .u32 0, .int .u32 0, .int .u32 0, .int .u32 0, .int .u32 0, .int .u32 0, .int .u32 0, .int .u32 0, .int .u32 0, .int .u32 0, .int .u32 0, .int .u32 0, .int .u32 0, .int .u32 0, .int .u32 0, .int .u32 0, .int .u32 0, .int .u32 0, .int .u32 0, .int .u32 0, .int .u32 0, .int .u32 0, .int .u32 0, .int .u32 0, .int .u32 0, .int .u32 0, .int .u32 0]) (M.ge Hg4) (M.fresh Hg4) Bg4 rfl)
 clear Bg4
 simp only [Z7,Z0]
 refine wpL_store (g := g4) (off := 0) (n := 64) (cs := wcells l 64) (by rfl) (by rfl) (by rfl) (by rfl) (by rfl) (M.t 0 rfl) (by rw [wcells_len]; decide) info119 (wcells_one _ _) (fun w6 P R T => ?_)
 replace M := M.putS 0 0 rfl P R T rfl ⟨.inl rfl, trivial⟩
 simp only [Z0] at M
 refine Z9 (Z10 ?_)
 refine hK1 _ _ ?_
 refine Z4 (fun K7 hK7 => ?_)
 refine Z8 ?_
 refine Z12 (v := .pointer (some ⟨g, 0, none⟩)) (by rfl) (by rfl) (by rfl) ?_
 simp only [Z7,Z0]
 refine Z11 4 (by rfl) (fun Lk hLk => ?_)
 simp only [Z1,Z2]
 refine wpV_nilCheck (by rfl) rfl rfl ?_
 simp only [Z7,Z0]
 refine Z19 (v := .pointer (some ⟨g, 0, none⟩)) (by rfl) (by rfl) (fun W hW => ?_) ?_
 ·
  (go_simp; exact rfl)
 simp only [Z7,Z0]
 refine Z19 (v := .pointer (some ⟨g, 0, none⟩)) (by rfl) (by rfl) (fun W hW => ?_) ?_
 ·
  (go_simp; exact rfl)
 simp only [Z7,Z0]
 refine wpV_load (cs := [.int .u32 ((h.a : Nat) : Int), .int .u32 ((h.b : Nat) : Int), .int .u32 ((h.c : Nat) : Int), .int .u32 ((h.d : Nat) : Int), .int .u32 ((h.e : Nat) : Int), .int .u32 ((h.f : Nat) : Int), .int .u32 ((h.g : Nat) : Int), .int .u32 ((h.h : Nat) : Int)]) (by rfl) rfl rfl (M.r 1 0 rfl rfl) (M.lt 1 rfl) Tryd.underlying26 rfl info26 ?_
 simp only [Z7,Z0]
 refine Z14 (hLk _ (fun w9 Sw9 => ?_))
 clear hLk Lk
 simp only [Z1,Z2]
 replace M := M.sees Sw9
 refine wpL_var (t := 26) (cs := [.int .u32 0, .int .u32 0, .int .u32 0, .int .u32 0, .int .u32 0, .int .u32 0, .int .u32 0, .int .u32 0]) (by rfl) (fun W => ?_) (fun g10 w11 Sw11 Hg10 Bg10 => ?_)
 ·
  go_simp
 replace M := ((M.sees Sw11).add (cs := [.int .u32 0, .int .u32 0, .int .u32 0, .int .u32 0, .int .u32 0, .int .u32 0, .int .u32 0, .int .u32 0]) (M.ge Hg10) (M.fresh Hg10) Bg10 rfl)
 clear Bg10
 simp only [Z7,Z0]
 refine wpL_store (g := g10) (off := 0) (n := 8) (cs := [.int .u32 ((h.a : Nat) : Int), .int .u32 ((h.b : Nat) : Int), .int .u32 ((h.c : Nat) : Int), .int .u32 ((h.d : Nat) : Int), .int .u32 ((h.e : Nat) : Int), .int .u32 ((h.f : Nat) : Int), .int .u32 ((h.g : Nat) : Int), .int .u32 ((h.h : Nat) : Int)]) (by rfl) (by rfl) (by rfl) (by rfl) (by rfl) (M.t 0 rfl) (by simp [flen]) info26 (by simp [fone, Value.oneCell']) (fun w12 P R T => ?_)
 replace M := M.putS 0 0 rfl P R T rfl ⟨.inl rfl, trivial⟩
 simp only [Z0] at M
 refine Z9 (Z10 ?_)
 refine hK7 _ _ ?_
 refine Z4 (fun K13 hK13 => ?_)
 refine Z4 (fun K14 hK14 => ?_)
 refine Z8 ?_
 refine Z12 (v := .int .i64 0) (by rfl) (by rfl) (by rfl) ?_
 simp only [Z7,Z0]
 refine Z9 (Z10 ?_)
 refine hK14 _ _ ?_
 refine wp_block ?_
 refine wp_loop_ghost (fun n9 a9 W9 => ∃ (t : Nat) (v : S8) (u16 : Nat → Value), n9 = 64 - t ∧ a9 = { tmps := #[.pointer (some ⟨g, 0, none⟩), .string (bs l), Z3, Z3, .pointer (some ⟨g4, 0, none⟩), .pointer (some ⟨g10, 0, none⟩), u16 6, u16 7, u16 8, u16 9, u16 10, Z3, .string (bs l), .agg (wcells l 64).toArray, .pointer (some ⟨g, 0, none⟩), .pointer (some ⟨g, 0, none⟩), .pointer (some ⟨g, 0, none⟩), .pointer (some ⟨g, 0, none⟩), .agg ([.int .u32 ((h.a : Nat) : Int), .int .u32 ((h.b : Nat) : Int), .int .u32 ((h.c : Nat) : Int), .int .u32 ((h.d : Nat) : Int), .int .u32 ((h.e : Nat) : Int), .int .u32 ((h.f : Nat) : Int), .int .u32 ((h.g : Nat) : Int), .int .u32 ((h.h : Nat) : Int)]).toArray, .int .i64 ((t : Nat) : Int), u16 20, u16 21, u16 22, u16 23, u16 24, u16 25, u16 26, u16 27, u16 28, u16 29, u16 30, u16 31, u16 32, u16 33, u16 34, u16 35, u16 36, u16 37, u16 38, u16 39, u16 40, u16 41, u16 42, u16 43, u16 44, u16 45, u16 46, u16 47, u16 48, u16 49, u16 50, u16 51, u16 52, u16 53, u16 54, u16 55, u16 56, u16 57, u16 58, u16 59, u16 60, u16 61, u16 62, u16 63, u16 64, u16 65, u16 66, u16 67, u16 68, u16 69, u16 70, u16 71, u16 72, u16 73, u16 74, u16 75, u16 76, u16 77, u16 78, u16 79, u16 80, u16 81, u16 82, u16 83, u16 84, u16 85, u16 86, u16 87, u16 88, u16 89, u16 90, u16 91, u16 92, u16 93, u16 94, u16 95, u16 96, u16 97, u16 98, Z3, Z3, Z3, Z3, Z3, Z3, Z3, Z3, Z3, Z3, Z3, Z3, Z3, Z3, Z3, Z3, Z3, Z3, Z3], defers := [] } ∧ Mem [g] w W9 [⟨g10, 8, [(0, [.int .u32 ((v.a : Nat) : Int), .int .u32 ((v.b : Nat) : Int), .int .u32 ((v.c : Nat) : Int), .int .u32 ((v.d : Nat) : Int), .int .u32 ((v.e : Nat) : Int), .int .u32 ((v.f : Nat) : Int), .int .u32 ((v.g : Nat) : Int), .int .u32 ((v.h : Nat) : Int)])]⟩, ⟨g4, 64, [(0, wcells l 64)]⟩, ⟨g, 10, [(0, [.int .u32 ((h.a : Nat) : Int), .int .u32 ((h.b : Nat) : Int), .int .u32 ((h.c : Nat) : Int), .int .u32 ((h.d : Nat) : Int), .int .u32 ((h.e : Nat) : Int), .int .u32 ((h.f : Nat) : Int), .int .u32 ((h.g : Nat) : Int), .int .u32 ((h.h : Nat) : Int)]), (8, [.string (bs b)]), (9, [.int .u64 ((n : Nat) : Int)])]⟩] ∧ (t ≤ 64) ∧ (v = rnds l h t)) (64 - (0)) ?_ (fun n9 a9 W9 hI => ?_)
 ·
  exact ⟨0, h, (fun q9 => (#[Z3, Z3, Z3, Z3, Z3, Z3, Z3, Z3, Z3, Z3, Z3, Z3, Z3, Z3, Z3, Z3, Z3, Z3, Z3, Z3, Z3, Z3, Z3, Z3, Z3, Z3, Z3, Z3, Z3, Z3, Z3, Z3, Z3, Z3, Z3, Z3, Z3, Z3, Z3, Z3, Z3, Z3, Z3, Z3, Z3, Z3, Z3, Z3, Z3, Z3, Z3, Z3, Z3, Z3, Z3, Z3, Z3, Z3, Z3, Z3, Z3, Z3, Z3, Z3, Z3, Z3, Z3, Z3, Z3, Z3, Z3, Z3, Z3, Z3, Z3, Z3, Z3, Z3, Z3, Z3, Z3, Z3, Z3, Z3, Z3, Z3, Z3, Z3, Z3, Z3, Z3, Z3, Z3, Z3, Z3, Z3, Z3, Z3, Z3] : Array Value).getD q9 Z3), rfl, rfl, M, (by omega), rfl⟩
 clear M
 obtain ⟨t, v, u16, rfl, rfl, M, ht4, hv⟩ := hI
 obtain ⟨w17, rfl⟩ : ∃ W8, W8 = W9 := ⟨_, rfl⟩
 have hok : v.Ok := hv ▸ rnds_ok hh t
 refine Z4 (fun K18 hK18 => ?_)
 refine Z8 ?_
 refine Z11 1 (by rfl) (fun Lk hLk => ?_)
 simp only [Z1,Z2]
 refine Z15 (v := .bool (decide (t < 64))) (by rfl) rfl rfl rfl (fun W => run_lssN t 64 _ _ W) ?_
 simp only [Z7,Z0]
 refine Z14 (hLk _ (fun w20 Sw20 => ?_))
 clear hLk Lk
 simp only [Z1,Z2]
 replace M := M.sees Sw20
 refine Z9 (Z10 ?_)
 refine hK18 _ _ ?_
 refine Z4 (fun K21 hK21 => ?_)
 cases hc22 : (decide (t < 64))
 ·
  have et : t = 64 := by have := of_decide_eq_false hc22; omega
  subst et
  subst hv
  refine Z6 rfl ?_
  refine wp_exit ?_
  refine hK13 _ _ ?_
  refine Z4 (fun K23 hK23 => ?_)
  refine Z8 ?_
  refine Z12 (v := .int .i64 0) (by rfl) (by rfl) (by rfl) ?_
  simp only [Z7,Z0]
  refine Z9 (Z10 ?_)
  refine hK23 _ _ ?_
  refine wp_block ?_
  refine wp_loop_rounds 9 ?_
  rw [rounds_succ]
  refine Z4 (fun K25 hK25 => ?_)
  refine Z8 ?_
  refine Z11 1 (by rfl) (fun Lk hLk => ?_)
  simp only [Z1,Z2]
  refine Z15 (v := .bool true) (by rfl) rfl rfl rfl (fun W => run_lss _ _ _ _ W) ?_
  simp only [Z7,Z0]
  refine Z14 (hLk _ (fun w27 Sw27 => ?_))
  clear hLk Lk
  simp only [Z1,Z2]
  replace M := M.sees Sw27
  refine Z9 (Z10 ?_)
  refine hK25 _ _ ?_
  refine Z4 (fun K28 hK28 => ?_)
  refine Z5 rfl ?_
  refine wp_skip ?_
  refine hK28 _ _ ?_
  refine Z4 (fun K29 hK29 => ?_)
  refine wp_block ?_
  refine Z4 (fun K30 hK30 => ?_)
  refine Z8 ?_
  refine Z12 (v := .int .i64 0) (by rfl) (by rfl) (by rfl) ?_
  simp only [Z7,Z0]
  refine Z13 (v := .int .i64 0) (by rfl) (by rfl) (by rfl) ?_
  simp only [Z7,Z0]
  refine Z9 (Z10 ?_)
  refine hK30 _ _ ?_
  refine wp_region_grow 15 [] (by kernel_rfl) (by kernel_rfl) (by kernel_rfl) (fun Lk hLk => ?_)
  simp only [Z1,Z2]
  refine Z16 (v := .pointer (some ⟨g, 0, none⟩)) (by rfl) rfl rfl ?_
  simp only [Z7,Z0]
  refine Z16 (v := .int .i64 0) (by rfl) rfl rfl ?_
  simp only [Z7,Z0]
  refine wpV_nilCheck (by rfl) rfl rfl ?_
  simp only [Z7,Z0]
  refine Z19 (v := .pointer (some ⟨g, 0, none⟩)) (by rfl) (by rfl) (fun W hW => ?_) ?_
  ·
   (go_simp; exact rfl)
  simp only [Z7,Z0]
  refine Z19 (v := .pointer (some ⟨g, 0, none⟩)) (by rfl) (by rfl) (fun W hW => ?_) ?_
  ·
   (go_simp; exact rfl)
  simp only [Z7,Z0]
  refine Z19 (v := .pointer (some ⟨g, 0, none⟩)) (by rfl) (by rfl) (fun W hW => ?_) ?_
  ·
   (go_simp; exact rfl)
  simp only [Z7,Z0]
  refine wpV_load1 (v := .int .u32 ((h.a : Nat) : Int)) (by rfl) rfl rfl (range_one (range_sub (M.r 2 0 rfl rfl) 0 1 0 (xs := [.int .u32 ((h.a : Nat) : Int)]) rfl rfl)) (M.lt 2 rfl) Tryd.underlying25 rfl ?_
  simp only [Z7,Z0]
  refine Z16 (v := .int .i64 0) (by rfl) rfl rfl ?_
  simp only [Z7,Z0]
  refine Z19 (v := .pointer (some ⟨g10, 0, none⟩)) (by rfl) (by rfl) (fun W hW => ?_) ?_
  ·
   (go_simp; exact rfl)
  simp only [Z7,Z0]
  refine wpV_load1 (v := .int .u32 (((rnds l h 64).a : Nat) : Int)) (by rfl) rfl rfl (range_one (range_sub (M.r 0 0 rfl rfl) 0 1 0 (xs := [.int .u32 (((rnds l h 64).a : Nat) : Int)]) rfl rfl)) (M.lt 0 rfl) Tryd.underlying25 rfl ?_
  simp only [Z7,Z0]
  refine Z15 (v := .int .u32 (((h.a + ((rnds l h 64).a)) % 4294967296 : Nat) : Int)) (by rfl) rfl rfl rfl (fun W => nr_add32 _ h.a ((rnds l h 64).a) W) ?_
  simp only [Z7,Z0]
  refine wpV_nilCheck (by rfl) rfl rfl ?_
  simp only [Z7,Z0]
  refine Z19 (v := .pointer (some ⟨g, 0, none⟩)) (by rfl) (by rfl) (fun W hW => ?_) ?_
  ·
   (go_simp; exact rfl)
  simp only [Z7,Z0]
  refine Z19 (v := .pointer (some ⟨g, 0, none⟩)) (by rfl) (by rfl) (fun W hW => ?_) ?_
  ·
   (go_simp; exact rfl)
  simp only [Z7,Z0]
  refine Z19 (v := .pointer (some ⟨g, 0, none⟩)) (by rfl) (by rfl) (fun W hW => ?_) ?_
  ·
   (go_simp; exact rfl)
  simp only [Z7,Z0]
  refine Z14 (hLk.out _ ?_)
  clear hLk Lk
  simp only [Z1,Z2]
  iterate 15 refine wpN_skip (by rfl) ?_
  refine wpN_nil (fun w33 Sw33 hbs => ?_)
  clear hbs
  replace M := M.sees Sw33
  refine Z18 (g := g) (off := 0) (n := 10) (v := .int .u32 (((h.a + ((rnds l h 64).a)) % 4294967296 : Nat) : Int)) (by rfl) (by rfl) (by rfl) (by rfl) (by rfl) (M.t 2 rfl) (by decide) info25 rfl (fun w34 P R T => ?_)
  replace M := M.putI (i := 0) 2 0 rfl P R T rfl rfl (by simp) (by simp [SepS, flen])
  simp only [Z0] at M
  refine Z9 (Z10 ?_)
  refine hK29 _ _ ?_
  refine Z8 ?_
  refine Z11 1 (by rfl) (fun Lk hLk => ?_)
  simp only [Z1,Z2]
  refine Z15 (v := .int .i64 1) (by rfl) rfl rfl rfl (fun W => run_add (by decide) W) ?_
  simp only [Z7,Z0]
  refine Z14 (hLk _ (fun w36 Sw36 => ?_))
  clear hLk Lk
  simp only [Z1,Z2]
  replace M := M.sees Sw36
  refine Z12 (v := .int .i64 1) (by rfl) (by rfl) (by rfl) ?_
  simp only [Z7,Z0]
  refine Z9 (Z10 ?_)
  refine Z17 (Q := fun _ _ _ => True) ?_
  rw [rounds_succ]
  refine Z4 (fun K37 hK37 => ?_)
  refine Z8 ?_
  refine Z11 1 (by rfl) (fun Lk hLk => ?_)
  simp only [Z1,Z2]
  refine Z15 (v := .bool true) (by rfl) rfl rfl rfl (fun W => run_lss _ _ _ _ W) ?_
  simp only [Z7,Z0]
  refine Z14 (hLk _ (fun w39 Sw39 => ?_))
  clear hLk Lk
  simp only [Z1,Z2]
  replace M := M.sees Sw39
  refine Z9 (Z10 ?_)
  refine hK37 _ _ ?_
  refine Z4 (fun K40 hK40 => ?_)
  refine Z5 rfl ?_
  refine wp_skip ?_
  refine hK40 _ _ ?_
  refine Z4 (fun K41 hK41 => ?_)
  refine wp_block ?_
  refine Z4 (fun K42 hK42 => ?_)
  refine Z8 ?_
  refine Z12 (v := .int .i64 1) (by rfl) (by rfl) (by rfl) ?_
  simp only [Z7,Z0]
  refine Z13 (v := .int .i64 1) (by rfl) (by rfl) (by rfl) ?_
  simp only [Z7,Z0]
  refine Z9 (Z10 ?_)
  refine hK42 _ _ ?_
  refine wp_region_grow 15 [] (by kernel_rfl) (by kernel_rfl) (by kernel_rfl) (fun Lk hLk => ?_)
  simp only [Z1,Z2]
  refine Z16 (v := .pointer (some ⟨g, 0, none⟩)) (by rfl) rfl rfl ?_
  simp only [Z7,Z0]
  refine Z16 (v := .int .i64 1) (by rfl) rfl rfl ?_
  simp only [Z7,Z0]
  refine wpV_nilCheck (by rfl) rfl rfl ?_
  simp only [Z7,Z0]
  refine Z19 (v := .pointer (some ⟨g, 0, none⟩)) (by rfl) (by rfl) (fun W hW => ?_) ?_
  ·
   (go_simp; exact rfl)
  simp only [Z7,Z0]
  refine Z19 (v := .pointer (some ⟨g, 0, none⟩)) (by rfl) (by rfl) (fun W hW => ?_) ?_
  ·
   (go_simp; exact rfl)
  simp only [Z7,Z0]
  refine Z19 (v := .pointer (some ⟨g, 1, none⟩)) (by rfl) (by rfl) (fun W hW => ?_) ?_
  ·
   (go_simp; exact rfl)
  simp only [Z7,Z0]
  refine wpV_load1 (v := .int .u32 ((h.b : Nat) : Int)) (by rfl) rfl rfl (range_one (range_sub (M.r 2 0 rfl rfl) 1 1 1 (xs := [.int .u32 ((h.b : Nat) : Int)]) rfl rfl)) (M.lt 2 rfl) Tryd.underlying25 rfl ?_
  simp only [Z7,Z0]
  refine Z16 (v := .int .i64 1) (by rfl) rfl rfl ?_
  simp only [Z7,Z0]
  refine Z19 (v := .pointer (some ⟨g10, 1, none⟩)) (by rfl) (by rfl) (fun W hW => ?_) ?_
  ·
   (go_simp; exact rfl)
  simp only [Z7,Z0]
  refine wpV_load1 (v := .int .u32 (((rnds l h 64).b : Nat) : Int)) (by rfl) rfl rfl (range_one (range_sub (M.r 0 0 rfl rfl) 1 1 1 (xs := [.int .u32 (((rnds l h 64).b : Nat) : Int)]) rfl rfl)) (M.lt 0 rfl) Tryd.underlying25 rfl ?_
  simp only [Z7,Z0]
  refine Z15 (v := .int .u32 (((h.b + ((rnds l h 64).b)) % 4294967296 : Nat) : Int)) (by rfl) rfl rfl rfl (fun W => nr_add32 _ h.b ((rnds l h 64).b) W) ?_
  simp only [Z7,Z0]
  refine wpV_nilCheck (by rfl) rfl rfl ?_
  simp only [Z7,Z0]
  refine Z19 (v := .pointer (some ⟨g, 0, none⟩)) (by rfl) (by rfl) (fun W hW => ?_) ?_
  ·
   (go_simp; exact rfl)
  simp only [Z7,Z0]
  refine Z19 (v := .pointer (some ⟨g, 0, none⟩)) (by rfl) (by rfl) (fun W hW => ?_) ?_
  ·
   (go_simp; exact rfl)
  simp only [Z7,Z0]
  refine Z19 (v := .pointer (some ⟨g, 1, none⟩)) (by rfl) (by rfl) (fun W hW => ?_) ?_
  ·
   (go_simp; exact rfl)
  simp only [Z7,Z0]
  refine Z14 (hLk.out _ ?_)
  clear hLk Lk
  simp only [Z1,Z2]
  iterate 15 refine wpN_skip (by rfl) ?_
  refine wpN_nil (fun w45 Sw45 hbs => ?_)
  clear hbs
  replace M := M.sees Sw45
  refine Z18 (g := g) (off := 1) (n := 10) (v := .int .u32 (((h.b + ((rnds l h 64).b)) % 4294967296 : Nat) : Int)) (by rfl) (by rfl) (by rfl) (by rfl) (by rfl) (M.t 2 rfl) (by decide) info25 rfl (fun w46 P R T => ?_)
  replace M := M.putI (i := 1) 2 0 rfl P R T rfl rfl (by simp) (by simp [SepS, flen])
  simp only [Z0] at M
  refine Z9 (Z10 ?_)
  refine hK41 _ _ ?_
  refine Z8 ?_
  refine Z11 1 (by rfl) (fun Lk hLk => ?_)
  simp only [Z1,Z2]
  refine Z15 (v := .int .i64 2) (by rfl) rfl rfl rfl (fun W => run_add (by decide) W) ?_
  simp only [Z7,Z0]
  refine Z14 (hLk _ (fun w48 Sw48 => ?_))
  clear hLk Lk
  simp only [Z1,Z2]
  replace M := M.sees Sw48
  refine Z12 (v := .int .i64 2) (by rfl) (by rfl) (by rfl) ?_
  simp only [Z7,Z0]
  refine Z9 (Z10 ?_)
  refine Z17 (Q := fun _ _ _ => True) ?_
  rw [rounds_succ]
  refine Z4 (fun K49 hK49 => ?_)
  refine Z8 ?_
  refine Z11 1 (by rfl) (fun Lk hLk => ?_)
  simp only [Z1,Z2]
  refine Z15 (v := .bool true) (by rfl) rfl rfl rfl (fun W => run_lss _ _ _ _ W) ?_
  simp only [Z7,Z0]
  refine Z14 (hLk _ (fun w51 Sw51 => ?_))
  clear hLk Lk
  simp only [Z1,Z2]
  replace M := M.sees Sw51
  refine Z9 (Z10 ?_)
  refine hK49 _ _ ?_
  refine Z4 (fun K52 hK52 => ?_)
  refine Z5 rfl ?_
  refine wp_skip ?_
  refine hK52 _ _ ?_
  refine Z4 (fun K53 hK53 => ?_)
  refine wp_block ?_
  refine Z4 (fun K54 hK54 => ?_)
  refine Z8 ?_
  refine Z12 (v := .int .i64 2) (by rfl) (by rfl) (by rfl) ?_
  simp only [Z7,Z0]
  refine Z13 (v := .int .i64 2) (by rfl) (by rfl) (by rfl) ?_
  simp only [Z7,Z0]
  refine Z9 (Z10 ?_)
  refine hK54 _ _ ?_
  refine wp_region_grow 15 [] (by kernel_rfl) (by kernel_rfl) (by kernel_rfl) (fun Lk hLk => ?_)
  simp only [Z1,Z2]
  refine Z16 (v := .pointer (some ⟨g, 0, none⟩)) (by rfl) rfl rfl ?_
  simp only [Z7,Z0]
  refine Z16 (v := .int .i64 2) (by rfl) rfl rfl ?_
  simp only [Z7,Z0]
  refine wpV_nilCheck (by rfl) rfl rfl ?_
  simp only [Z7,Z0]
  refine Z19 (v := .pointer (some ⟨g, 0, none⟩)) (by rfl) (by rfl) (fun W hW => ?_) ?_
  ·
   (go_simp; exact rfl)
  simp only [Z7,Z0]
  refine Z19 (v := .pointer (some ⟨g, 0, none⟩)) (by rfl) (by rfl) (fun W hW => ?_) ?_
  ·
   (go_simp; exact rfl)
  simp only [Z7,Z0]
  refine Z19 (v := .pointer (some ⟨g, 2, none⟩)) (by rfl) (by rfl) (fun W hW => ?_) ?_
  ·
   (go_simp; exact rfl)
  simp only [Z7,Z0]
  refine wpV_load1 (v := .int .u32 ((h.c : Nat) : Int)) (by rfl) rfl rfl (range_one (range_sub (M.r 2 0 rfl rfl) 2 1 2 (xs := [.int .u32 ((h.c : Nat) : Int)]) rfl rfl)) (M.lt 2 rfl) Tryd.underlying25 rfl ?_
  simp only [Z7,Z0]
  refine Z16 (v := .int .i64 2) (by rfl) rfl rfl ?_
  simp only [Z7,Z0]
  refine Z19 (v := .pointer (some ⟨g10, 2, none⟩)) (by rfl) (by rfl) (fun W hW => ?_) ?_
  ·
   (go_simp; exact rfl)
  simp only [Z7,Z0]
  refine wpV_load1 (v := .int .u32 (((rnds l h 64).c : Nat) : Int)) (by rfl) rfl rfl (range_one (range_sub (M.r 0 0 rfl rfl) 2 1 2 (xs := [.int .u32 (((rnds l h 64).c : Nat) : Int)]) rfl rfl)) (M.lt 0 rfl) Tryd.underlying25 rfl ?_
  simp only [Z7,Z0]
  refine Z15 (v := .int .u32 (((h.c + ((rnds l h 64).c)) % 4294967296 : Nat) : Int)) (by rfl) rfl rfl rfl (fun W => nr_add32 _ h.c ((rnds l h 64).c) W) ?_
  simp only [Z7,Z0]
  refine wpV_nilCheck (by rfl) rfl rfl ?_
  simp only [Z7,Z0]
  refine Z19 (v := .pointer (some ⟨g, 0, none⟩)) (by rfl) (by rfl) (fun W hW => ?_) ?_
  ·
   (go_simp; exact rfl)
  simp only [Z7,Z0]
  refine Z19 (v := .pointer (some ⟨g, 0, none⟩)) (by rfl) (by rfl) (fun W hW => ?_) ?_
  ·
   (go_simp; exact rfl)
  simp only [Z7,Z0]
  refine Z19 (v := .pointer (some ⟨g, 2, none⟩)) (by rfl) (by rfl) (fun W hW => ?_) ?_
  ·
   (go_simp; exact rfl)
  simp only [Z7,Z0]
  refine Z14 (hLk.out _ ?_)
  clear hLk Lk
  simp only [Z1,Z2]
  iterate 15 refine wpN_skip (by rfl) ?_
  refine wpN_nil (fun w57 Sw57 hbs => ?_)
  clear hbs
  replace M := M.sees Sw57
  refine Z18 (g := g) (off := 2) (n := 10) (v := .int .u32 (((h.c + ((rnds l h 64).c)) % 4294967296 : Nat) : Int)) (by rfl) (by rfl) (by rfl) (by rfl) (by rfl) (M.t 2 rfl) (by decide) info25 rfl (fun w58 P R T => ?_)
  replace M := M.putI (i := 2) 2 0 rfl P R T rfl rfl (by simp) (by simp [SepS, flen])
  simp only [Z0] at M
  refine Z9 (Z10 ?_)
  refine hK53 _ _ ?_
  refine Z8 ?_
  refine Z11 1 (by rfl) (fun Lk hLk => ?_)
  simp only [Z1,Z2]
  refine Z15 (v := .int .i64 3) (by rfl) rfl rfl rfl (fun W => run_add (by decide) W) ?_
  simp only [Z7,Z0]
  refine Z14 (hLk _ (fun w60 Sw60 => ?_))
  clear hLk Lk
  simp only [Z1,Z2]
  replace M := M.sees Sw60
  refine Z12 (v := .int .i64 3) (by rfl) (by rfl) (by rfl) ?_
  simp only [Z7,Z0]
  refine Z9 (Z10 ?_)
  refine Z17 (Q := fun _ _ _ => True) ?_
  rw [rounds_succ]
  refine Z4 (fun K61 hK61 => ?_)
  refine Z8 ?_
  refine Z11 1 (by rfl) (fun Lk hLk => ?_)
  simp only [Z1,Z2]
  refine Z15 (v := .bool true) (by rfl) rfl rfl rfl (fun W => run_lss _ _ _ _ W) ?_
  simp only [Z7,Z0]
  refine Z14 (hLk _ (fun w63 Sw63 => ?_))
  clear hLk Lk
  simp only [Z1,Z2]
  replace M := M.sees Sw63
  refine Z9 (Z10 ?_)
  refine hK61 _ _ ?_
  refine Z4 (fun K64 hK64 => ?_)
  refine Z5 rfl ?_
  refine wp_skip ?_
  refine hK64 _ _ ?_
  refine Z4 (fun K65 hK65 => ?_)
  refine wp_block ?_
  refine Z4 (fun K66 hK66 => ?_)
  refine Z8 ?_
  refine Z12 (v := .int .i64 3) (by rfl) (by rfl) (by rfl) ?_
  simp only [Z7,Z0]
  refine Z13 (v := .int .i64 3) (by rfl) (by rfl) (by rfl) ?_
  simp only [Z7,Z0]
  refine Z9 (Z10 ?_)
  refine hK66 _ _ ?_
  refine wp_region_grow 15 [] (by kernel_rfl) (by kernel_rfl) (by kernel_rfl) (fun Lk hLk => ?_)
  simp only [Z1,Z2]
  refine Z16 (v := .pointer (some ⟨g, 0, none⟩)) (by rfl) rfl rfl ?_
  simp only [Z7,Z0]
  refine Z16 (v := .int .i64 3) (by rfl) rfl rfl ?_
  simp only [Z7,Z0]
  refine wpV_nilCheck (by rfl) rfl rfl ?_
  simp only [Z7,Z0]
  refine Z19 (v := .pointer (some ⟨g, 0, none⟩)) (by rfl) (by rfl) (fun W hW => ?_) ?_
  ·
   (go_simp; exact rfl)
  simp only [Z7,Z0]
  refine Z19 (v := .pointer (some ⟨g, 0, none⟩)) (by rfl) (by rfl) (fun W hW => ?_) ?_
  ·
   (go_simp; exact rfl)
  simp only [Z7,Z0]
  refine Z19 (v := .pointer (some ⟨g, 3, none⟩)) (by rfl) (by rfl) (fun W hW => ?_) ?_
  ·
   (go_simp; exact rfl)
  simp only [Z7,Z0]
  refine wpV_load1 (v := .int .u32 ((h.d : Nat) : Int)) (by rfl) rfl rfl (range_one (range_sub (M.r 2 0 rfl rfl) 3 1 3 (xs := [.int .u32 ((h.d : Nat) : Int)]) rfl rfl)) (M.lt 2 rfl) Tryd.underlying25 rfl ?_
  simp only [Z7,Z0]
  refine Z16 (v := .int .i64 3) (by rfl) rfl rfl ?_
  simp only [Z7,Z0]
  refine Z19 (v := .pointer (some ⟨g10, 3, none⟩)) (by rfl) (by rfl) (fun W hW => ?_) ?_
  ·
   (go_simp; exact rfl)
  simp only [Z7,Z0]
  refine wpV_load1 (v := .int .u32 (((rnds l h 64).d : Nat) : Int)) (by rfl) rfl rfl (range_one (range_sub (M.r 0 0 rfl rfl) 3 1 3 (xs := [.int .u32 (((rnds l h 64).d : Nat) : Int)]) rfl rfl)) (M.lt 0 rfl) Tryd.underlying25 rfl ?_
  simp only [Z7,Z0]
  refine Z15 (v := .int .u32 (((h.d + ((rnds l h 64).d)) % 4294967296 : Nat) : Int)) (by rfl) rfl rfl rfl (fun W => nr_add32 _ h.d ((rnds l h 64).d) W) ?_
  simp only [Z7,Z0]
  refine wpV_nilCheck (by rfl) rfl rfl ?_
  simp only [Z7,Z0]
  refine Z19 (v := .pointer (some ⟨g, 0, none⟩)) (by rfl) (by rfl) (fun W hW => ?_) ?_
  ·
   (go_simp; exact rfl)
  simp only [Z7,Z0]
  refine Z19 (v := .pointer (some ⟨g, 0, none⟩)) (by rfl) (by rfl) (fun W hW => ?_) ?_
  ·
   (go_simp; exact rfl)
  simp only [Z7,Z0]
  refine Z19 (v := .pointer (some ⟨g, 3, none⟩)) (by rfl) (by rfl) (fun W hW => ?_) ?_
  ·
   (go_simp; exact rfl)
  simp only [Z7,Z0]
  refine Z14 (hLk.out _ ?_)
  clear hLk Lk
  simp only [Z1,Z2]
  iterate 15 refine wpN_skip (by rfl) ?_
  refine wpN_nil (fun w69 Sw69 hbs => ?_)
  clear hbs
  replace M := M.sees Sw69
  refine Z18 (g := g) (off := 3) (n := 10) (v := .int .u32 (((h.d + ((rnds l h 64).d)) % 4294967296 : Nat) : Int)) (by rfl) (by rfl) (by rfl) (by rfl) (by rfl) (M.t 2 rfl) (by decide) info25 rfl (fun w70 P R T => ?_)
  replace M := M.putI (i := 3) 2 0 rfl P R T rfl rfl (by simp) (by simp [SepS, flen])
  simp only [Z0] at M
  refine Z9 (Z10 ?_)
  refine hK65 _ _ ?_
  refine Z8 ?_
  refine Z11 1 (by rfl) (fun Lk hLk => ?_)
  simp only [Z1,Z2]
  refine Z15 (v := .int .i64 4) (by rfl) rfl rfl rfl (fun W => run_add (by decide) W) ?_
  simp only [Z7,Z0]
  refine Z14 (hLk _ (fun w72 Sw72 => ?_))
  clear hLk Lk
  simp only [Z1,Z2]
  replace M := M.sees Sw72
  refine Z12 (v := .int .i64 4) (by rfl) (by rfl) (by rfl) ?_
  simp only [Z7,Z0]
  refine Z9 (Z10 ?_)
  refine Z17 (Q := fun _ _ _ => True) ?_
  rw [rounds_succ]
  refine Z4 (fun K73 hK73 => ?_)
  refine Z8 ?_
  refine Z11 1 (by rfl) (fun Lk hLk => ?_)
  simp only [Z1,Z2]
  refine Z15 (v := .bool true) (by rfl) rfl rfl rfl (fun W => run_lss _ _ _ _ W) ?_
  simp only [Z7,Z0]
  refine Z14 (hLk _ (fun w75 Sw75 => ?_))
  clear hLk Lk
  simp only [Z1,Z2]
  replace M := M.sees Sw75
  refine Z9 (Z10 ?_)
  refine hK73 _ _ ?_
  refine Z4 (fun K76 hK76 => ?_)
  refine Z5 rfl ?_
  refine wp_skip ?_
  refine hK76 _ _ ?_
  refine Z4 (fun K77 hK77 => ?_)
  refine wp_block ?_
  refine Z4 (fun K78 hK78 => ?_)
  refine Z8 ?_
  refine Z12 (v := .int .i64 4) (by rfl) (by rfl) (by rfl) ?_
  simp only [Z7,Z0]
  refine Z13 (v := .int .i64 4) (by rfl) (by rfl) (by rfl) ?_
  simp only [Z7,Z0]
  refine Z9 (Z10 ?_)
  refine hK78 _ _ ?_
  refine wp_region_grow 15 [] (by kernel_rfl) (by kernel_rfl) (by kernel_rfl) (fun Lk hLk => ?_)
  simp only [Z1,Z2]
  refine Z16 (v := .pointer (some ⟨g, 0, none⟩)) (by rfl) rfl rfl ?_
  simp only [Z7,Z0]
  refine Z16 (v := .int .i64 4) (by rfl) rfl rfl ?_
  simp only [Z7,Z0]
  refine wpV_nilCheck (by rfl) rfl rfl ?_
  simp only [Z7,Z0]
  refine Z19 (v := .pointer (some ⟨g, 0, none⟩)) (by rfl) (by rfl) (fun W hW => ?_) ?_
  ·
   (go_simp; exact rfl)
  simp only [Z7,Z0]
  refine Z19 (v := .pointer (some ⟨g, 0, none⟩)) (by rfl) (by rfl) (fun W hW => ?_) ?_
  ·
   (go_simp; exact rfl)
  simp only [Z7,Z0]
  refine Z19 (v := .pointer (some ⟨g, 4, none⟩)) (by rfl) (by rfl) (fun W hW => ?_) ?_
  ·
   (go_simp; exact rfl)
  simp only [Z7,Z0]
  refine wpV_load1 (v := .int .u32 ((h.e : Nat) : Int)) (by rfl) rfl rfl (range_one (range_sub (M.r 2 0 rfl rfl) 4 1 4 (xs := [.int .u32 ((h.e : Nat) : Int)]) rfl rfl)) (M.lt 2 rfl) Tryd.underlying25 rfl ?_
  simp only [Z7,Z0]
  refine Z16 (v := .int .i64 4) (by rfl) rfl rfl ?_
  simp only [Z7,Z0]
  refine Z19 (v := .pointer (some ⟨g10, 4, none⟩)) (by rfl) (by rfl) (fun W hW => ?_) ?_
  ·
   (go_simp; exact rfl)
  simp only [Z7,Z0]
  refine wpV_load1 (v := .int .u32 (((rnds l h 64).e : Nat) : Int)) (by rfl) rfl rfl (range_one (range_sub (M.r 0 0 rfl rfl) 4 1 4 (xs := [.int .u32 (((rnds l h 64).e : Nat) : Int)]) rfl rfl)) (M.lt 0 rfl) Tryd.underlying25 rfl ?_
  simp only [Z7,Z0]
  refine Z15 (v := .int .u32 (((h.e + ((rnds l h 64).e)) % 4294967296 : Nat) : Int)) (by rfl) rfl rfl rfl (fun W => nr_add32 _ h.e ((rnds l h 64).e) W) ?_
  simp only [Z7,Z0]
  refine wpV_nilCheck (by rfl) rfl rfl ?_
  simp only [Z7,Z0]
  refine Z19 (v := .pointer (some ⟨g, 0, none⟩)) (by rfl) (by rfl) (fun W hW => ?_) ?_
  ·
   (go_simp; exact rfl)
  simp only [Z7,Z0]
  refine Z19 (v := .pointer (some ⟨g, 0, none⟩)) (by rfl) (by rfl) (fun W hW => ?_) ?_
  ·
   (go_simp; exact rfl)
  simp only [Z7,Z0]
  refine Z19 (v := .pointer (some ⟨g, 4, none⟩)) (by rfl) (by rfl) (fun W hW => ?_) ?_
  ·
   (go_simp; exact rfl)
  simp only [Z7,Z0]
  refine Z14 (hLk.out _ ?_)
  clear hLk Lk
  simp only [Z1,Z2]
  iterate 15 refine wpN_skip (by rfl) ?_
  refine wpN_nil (fun w81 Sw81 hbs => ?_)
  clear hbs
  replace M := M.sees Sw81
  refine Z18 (g := g) (off := 4) (n := 10) (v := .int .u32 (((h.e + ((rnds l h 64).e)) % 4294967296 : Nat) : Int)) (by rfl) (by rfl) (by rfl) (by rfl) (by rfl) (M.t 2 rfl) (by decide) info25 rfl (fun w82 P R T => ?_)
  replace M := M.putI (i := 4) 2 0 rfl P R T rfl rfl (by simp) (by simp [SepS, flen])
  simp only [Z0] at M
  refine Z9 (Z10 ?_)
  refine hK77 _ _ ?_
  refine Z8 ?_
  refine Z11 1 (by rfl) (fun Lk hLk => ?_)
  simp only [Z1,Z2]
  refine Z15 (v := .int .i64 5) (by rfl) rfl rfl rfl (fun W => run_add (by decide) W) ?_
  simp only [Z7,Z0]
  refine Z14 (hLk _ (fun w84 Sw84 => ?_))
  clear hLk Lk
  simp only [Z1,Z2]
  replace M := M.sees Sw84
  refine Z12 (v := .int .i64 5) (by rfl) (by rfl) (by rfl) ?_
  simp only [Z7,Z0]
  refine Z9 (Z10 ?_)
  refine Z17 (Q := fun _ _ _ => True) ?_
  rw [rounds_succ]
  refine Z4 (fun K85 hK85 => ?_)
  refine Z8 ?_
  refine Z11 1 (by rfl) (fun Lk hLk => ?_)
  simp only [Z1,Z2]
  refine Z15 (v := .bool true) (by rfl) rfl rfl rfl (fun W => run_lss _ _ _ _ W) ?_
  simp only [Z7,Z0]
  refine Z14 (hLk _ (fun w87 Sw87 => ?_))
  clear hLk Lk
  simp only [Z1,Z2]
  replace M := M.sees Sw87
  refine Z9 (Z10 ?_)
  refine hK85 _ _ ?_
  refine Z4 (fun K88 hK88 => ?_)
  refine Z5 rfl ?_
  refine wp_skip ?_
  refine hK88 _ _ ?_
  refine Z4 (fun K89 hK89 => ?_)
  refine wp_block ?_
  refine Z4 (fun K90 hK90 => ?_)
  refine Z8 ?_
  refine Z12 (v := .int .i64 5) (by rfl) (by rfl) (by rfl) ?_
  simp only [Z7,Z0]
  refine Z13 (v := .int .i64 5) (by rfl) (by rfl) (by rfl) ?_
  simp only [Z7,Z0]
  refine Z9 (Z10 ?_)
  refine hK90 _ _ ?_
  refine wp_region_grow 15 [] (by kernel_rfl) (by kernel_rfl) (by kernel_rfl) (fun Lk hLk => ?_)
  simp only [Z1,Z2]
  refine Z16 (v := .pointer (some ⟨g, 0, none⟩)) (by rfl) rfl rfl ?_
  simp only [Z7,Z0]
  refine Z16 (v := .int .i64 5) (by rfl) rfl rfl ?_
  simp only [Z7,Z0]
  refine wpV_nilCheck (by rfl) rfl rfl ?_
  simp only [Z7,Z0]
  refine Z19 (v := .pointer (some ⟨g, 0, none⟩)) (by rfl) (by rfl) (fun W hW => ?_) ?_
  ·
   (go_simp; exact rfl)
  simp only [Z7,Z0]
  refine Z19 (v := .pointer (some ⟨g, 0, none⟩)) (by rfl) (by rfl) (fun W hW => ?_) ?_
  ·
   (go_simp; exact rfl)
  simp only [Z7,Z0]
  refine Z19 (v := .pointer (some ⟨g, 5, none⟩)) (by rfl) (by rfl) (fun W hW => ?_) ?_
  ·
   (go_simp; exact rfl)
  simp only [Z7,Z0]
  refine wpV_load1 (v := .int .u32 ((h.f : Nat) : Int)) (by rfl) rfl rfl (range_one (range_sub (M.r 2 0 rfl rfl) 5 1 5 (xs := [.int .u32 ((h.f : Nat) : Int)]) rfl rfl)) (M.lt 2 rfl) Tryd.underlying25 rfl ?_
  simp only [Z7,Z0]
  refine Z16 (v := .int .i64 5) (by rfl) rfl rfl ?_
  simp only [Z7,Z0]
  refine Z19 (v := .pointer (some ⟨g10, 5, none⟩)) (by rfl) (by rfl) (fun W hW => ?_) ?_
  ·
   (go_simp; exact rfl)
  simp only [Z7,Z0]
  refine wpV_load1 (v := .int .u32 (((rnds l h 64).f : Nat) : Int)) (by rfl) rfl rfl (range_one (range_sub (M.r 0 0 rfl rfl) 5 1 5 (xs := [.int .u32 (((rnds l h 64).f : Nat) : Int)]) rfl rfl)) (M.lt 0 rfl) Tryd.underlying25 rfl ?_
  simp only [Z7,Z0]
  refine Z15 (v := .int .u32 (((h.f + ((rnds l h 64).f)) % 4294967296 : Nat) : Int)) (by rfl) rfl rfl rfl (fun W => nr_add32 _ h.f ((rnds l h 64).f) W) ?_
  simp only [Z7,Z0]
  refine wpV_nilCheck (by rfl) rfl rfl ?_
  simp only [Z7,Z0]
  refine Z19 (v := .pointer (some ⟨g, 0, none⟩)) (by rfl) (by rfl) (fun W hW => ?_) ?_
  ·
   (go_simp; exact rfl)
  simp only [Z7,Z0]
  refine Z19 (v := .pointer (some ⟨g, 0, none⟩)) (by rfl) (by rfl) (fun W hW => ?_) ?_
  ·
   (go_simp; exact rfl)
  simp only [Z7,Z0]
  refine Z19 (v := .pointer (some ⟨g, 5, none⟩)) (by rfl) (by rfl) (fun W hW => ?_) ?_
  ·
   (go_simp; exact rfl)
  simp only [Z7,Z0]
  refine Z14 (hLk.out _ ?_)
  clear hLk Lk
  simp only [Z1,Z2]
  iterate 15 refine wpN_skip (by rfl) ?_
  refine wpN_nil (fun w93 Sw93 hbs => ?_)
  clear hbs
  replace M := M.sees Sw93
  refine Z18 (g := g) (off := 5) (n := 10) (v := .int .u32 (((h.f + ((rnds l h 64).f)) % 4294967296 : Nat) : Int)) (by rfl) (by rfl) (by rfl) (by rfl) (by rfl) (M.t 2 rfl) (by decide) info25 rfl (fun w94 P R T => ?_)
  replace M := M.putI (i := 5) 2 0 rfl P R T rfl rfl (by simp) (by simp [SepS, flen])
  simp only [Z0] at M
  refine Z9 (Z10 ?_)
  refine hK89 _ _ ?_
  refine Z8 ?_
  refine Z11 1 (by rfl) (fun Lk hLk => ?_)
  simp only [Z1,Z2]
  refine Z15 (v := .int .i64 6) (by rfl) rfl rfl rfl (fun W => run_add (by decide) W) ?_
  simp only [Z7,Z0]
  refine Z14 (hLk _ (fun w96 Sw96 => ?_))
  clear hLk Lk
  simp only [Z1,Z2]
  replace M := M.sees Sw96
  refine Z12 (v := .int .i64 6) (by rfl) (by rfl) (by rfl) ?_
  simp only [Z7,Z0]
  refine Z9 (Z10 ?_)
  refine Z17 (Q := fun _ _ _ => True) ?_
  rw [rounds_succ]
  refine Z4 (fun K97 hK97 => ?_)
  refine Z8 ?_
  refine Z11 1 (by rfl) (fun Lk hLk => ?_)
  simp only [Z1,Z2]
  refine Z15 (v := .bool true) (by rfl) rfl rfl rfl (fun W => run_lss _ _ _ _ W) ?_
  simp only [Z7,Z0]
  refine Z14 (hLk _ (fun w99 Sw99 => ?_))
  clear hLk Lk
  simp only [Z1,Z2]
  replace M := M.sees Sw99
  refine Z9 (Z10 ?_)
  refine hK97 _ _ ?_
  refine Z4 (fun K100 hK100 => ?_)
  refine Z5 rfl ?_
  refine wp_skip ?_
  refine hK100 _ _ ?_
  refine Z4 (fun K101 hK101 => ?_)
  refine wp_block ?_
  refine Z4 (fun K102 hK102 => ?_)
  refine Z8 ?_
  refine Z12 (v := .int .i64 6) (by rfl) (by rfl) (by rfl) ?_
  simp only [Z7,Z0]
  refine Z13 (v := .int .i64 6) (by rfl) (by rfl) (by rfl) ?_
  simp only [Z7,Z0]
  refine Z9 (Z10 ?_)
  refine hK102 _ _ ?_
  refine wp_region_grow 15 [] (by kernel_rfl) (by kernel_rfl) (by kernel_rfl) (fun Lk hLk => ?_)
  simp only [Z1,Z2]
  refine Z16 (v := .pointer (some ⟨g, 0, none⟩)) (by rfl) rfl rfl ?_
  simp only [Z7,Z0]
  refine Z16 (v := .int .i64 6) (by rfl) rfl rfl ?_
  simp only [Z7,Z0]
  refine wpV_nilCheck (by rfl) rfl rfl ?_
  simp only [Z7,Z0]
  refine Z19 (v := .pointer (some ⟨g, 0, none⟩)) (by rfl) (by rfl) (fun W hW => ?_) ?_
  ·
   (go_simp; exact rfl)
  simp only [Z7,Z0]
  refine Z19 (v := .pointer (some ⟨g, 0, none⟩)) (by rfl) (by rfl) (fun W hW => ?_) ?_
  ·
   (go_simp; exact rfl)
  simp only [Z7,Z0]
  refine Z19 (v := .pointer (some ⟨g, 6, none⟩)) (by rfl) (by rfl) (fun W hW => ?_) ?_
  ·
   (go_simp; exact rfl)
  simp only [Z7,Z0]
  refine wpV_load1 (v := .int .u32 ((h.g : Nat) : Int)) (by rfl) rfl rfl (range_one (range_sub (M.r 2 0 rfl rfl) 6 1 6 (xs := [.int .u32 ((h.g : Nat) : Int)]) rfl rfl)) (M.lt 2 rfl) Tryd.underlying25 rfl ?_
  simp only [Z7,Z0]
  refine Z16 (v := .int .i64 6) (by rfl) rfl rfl ?_
  simp only [Z7,Z0]
  refine Z19 (v := .pointer (some ⟨g10, 6, none⟩)) (by rfl) (by rfl) (fun W hW => ?_) ?_
  ·
   (go_simp; exact rfl)
  simp only [Z7,Z0]
  refine wpV_load1 (v := .int .u32 (((rnds l h 64).g : Nat) : Int)) (by rfl) rfl rfl (range_one (range_sub (M.r 0 0 rfl rfl) 6 1 6 (xs := [.int .u32 (((rnds l h 64).g : Nat) : Int)]) rfl rfl)) (M.lt 0 rfl) Tryd.underlying25 rfl ?_
  simp only [Z7,Z0]
  refine Z15 (v := .int .u32 (((h.g + ((rnds l h 64).g)) % 4294967296 : Nat) : Int)) (by rfl) rfl rfl rfl (fun W => nr_add32 _ h.g ((rnds l h 64).g) W) ?_
  simp only [Z7,Z0]
  refine wpV_nilCheck (by rfl) rfl rfl ?_
  simp only [Z7,Z0]
  refine Z19 (v := .pointer (some ⟨g, 0, none⟩)) (by rfl) (by rfl) (fun W hW => ?_) ?_
  ·
   (go_simp; exact rfl)
  simp only [Z7,Z0]
  refine Z19 (v := .pointer (some ⟨g, 0, none⟩)) (by rfl) (by rfl) (fun W hW => ?_) ?_
  ·
   (go_simp; exact rfl)
  simp only [Z7,Z0]
  refine Z19 (v := .pointer (some ⟨g, 6, none⟩)) (by rfl) (by rfl) (fun W hW => ?_) ?_
  ·
   (go_simp; exact rfl)
  simp only [Z7,Z0]
  refine Z14 (hLk.out _ ?_)
  clear hLk Lk
  simp only [Z1,Z2]
  iterate 15 refine wpN_skip (by rfl) ?_
  refine wpN_nil (fun w105 Sw105 hbs => ?_)
  clear hbs
  replace M := M.sees Sw105
  refine Z18 (g := g) (off := 6) (n := 10) (v := .int .u32 (((h.g + ((rnds l h 64).g)) % 4294967296 : Nat) : Int)) (by rfl) (by rfl) (by rfl) (by rfl) (by rfl) (M.t 2 rfl) (by decide) info25 rfl (fun w106 P R T => ?_)
  replace M := M.putI (i := 6) 2 0 rfl P R T rfl rfl (by simp) (by simp [SepS, flen])
  simp only [Z0] at M
  refine Z9 (Z10 ?_)
  refine hK101 _ _ ?_
  refine Z8 ?_
  refine Z11 1 (by rfl) (fun Lk hLk => ?_)
  simp only [Z1,Z2]
  refine Z15 (v := .int .i64 7) (by rfl) rfl rfl rfl (fun W => run_add (by decide) W) ?_
  simp only [Z7,Z0]
  refine Z14 (hLk _ (fun w108 Sw108 => ?_))
  clear hLk Lk
  simp only [Z1,Z2]
  replace M := M.sees Sw108
  refine Z12 (v := .int .i64 7) (by rfl) (by rfl) (by rfl) ?_
  simp only [Z7,Z0]
  refine Z9 (Z10 ?_)
  refine Z17 (Q := fun _ _ _ => True) ?_
  rw [rounds_succ]
  refine Z4 (fun K109 hK109 => ?_)
  refine Z8 ?_
  refine Z11 1 (by rfl) (fun Lk hLk => ?_)
  simp only [Z1,Z2]
  refine Z15 (v := .bool true) (by rfl) rfl rfl rfl (fun W => run_lss _ _ _ _ W) ?_
  simp only [Z7,Z0]
  refine Z14 (hLk _ (fun w111 Sw111 => ?_))
  clear hLk Lk
  simp only [Z1,Z2]
  replace M := M.sees Sw111
  refine Z9 (Z10 ?_)
  refine hK109 _ _ ?_
  refine Z4 (fun K112 hK112 => ?_)
  refine Z5 rfl ?_
  refine wp_skip ?_
  refine hK112 _ _ ?_
  refine Z4 (fun K113 hK113 => ?_)
  refine wp_block ?_
  refine Z4 (fun K114 hK114 => ?_)
  refine Z8 ?_
  refine Z12 (v := .int .i64 7) (by rfl) (by rfl) (by rfl) ?_
  simp only [Z7,Z0]
  refine Z13 (v := .int .i64 7) (by rfl) (by rfl) (by rfl) ?_
  simp only [Z7,Z0]
  refine Z9 (Z10 ?_)
  refine hK114 _ _ ?_
  refine wp_region_grow 15 [] (by kernel_rfl) (by kernel_rfl) (by kernel_rfl) (fun Lk hLk => ?_)
  simp only [Z1,Z2]
  refine Z16 (v := .pointer (some ⟨g, 0, none⟩)) (by rfl) rfl rfl ?_
  simp only [Z7,Z0]
  refine Z16 (v := .int .i64 7) (by rfl) rfl rfl ?_
  simp only [Z7,Z0]
  refine wpV_nilCheck (by rfl) rfl rfl ?_
  simp only [Z7,Z0]
  refine Z19 (v := .pointer (some ⟨g, 0, none⟩)) (by rfl) (by rfl) (fun W hW => ?_) ?_
  ·
   (go_simp; exact rfl)
  simp only [Z7,Z0]
  refine Z19 (v := .pointer (some ⟨g, 0, none⟩)) (by rfl) (by rfl) (fun W hW => ?_) ?_
  ·
   (go_simp; exact rfl)
  simp only [Z7,Z0]
  refine Z19 (v := .pointer (some ⟨g, 7, none⟩)) (by rfl) (by rfl) (fun W hW => ?_) ?_
  ·
   (go_simp; exact rfl)
  simp only [Z7,Z0]
  refine wpV_load1 (v := .int .u32 ((h.h : Nat) : Int)) (by rfl) rfl rfl (range_one (range_sub (M.r 2 0 rfl rfl) 7 1 7 (xs := [.int .u32 ((h.h : Nat) : Int)]) rfl rfl)) (M.lt 2 rfl) Tryd.underlying25 rfl ?_
  simp only [Z7,Z0]
  refine Z16 (v := .int .i64 7) (by rfl) rfl rfl ?_
  simp only [Z7,Z0]
  refine Z19 (v := .pointer (some ⟨g10, 7, none⟩)) (by rfl) (by rfl) (fun W hW => ?_) ?_
  ·
   (go_simp; exact rfl)
  simp only [Z7,Z0]
  refine wpV_load1 (v := .int .u32 (((rnds l h 64).h : Nat) : Int)) (by rfl) rfl rfl (range_one (range_sub (M.r 0 0 rfl rfl) 7 1 7 (xs := [.int .u32 (((rnds l h 64).h : Nat) : Int)]) rfl rfl)) (M.lt 0 rfl) Tryd.underlying25 rfl ?_
  simp only [Z7,Z0]
  refine Z15 (v := .int .u32 (((h.h + ((rnds l h 64).h)) % 4294967296 : Nat) : Int)) (by rfl) rfl rfl rfl (fun W => nr_add32 _ h.h ((rnds l h 64).h) W) ?_
  simp only [Z7,Z0]
  refine wpV_nilCheck (by rfl) rfl rfl ?_
  simp only [Z7,Z0]
  refine Z19 (v := .pointer (some ⟨g, 0, none⟩)) (by rfl) (by rfl) (fun W hW => ?_) ?_
  ·
   (go_simp; exact rfl)
  simp only [Z7,Z0]
  refine Z19 (v := .pointer (some ⟨g, 0, none⟩)) (by rfl) (by rfl) (fun W hW => ?_) ?_
  ·
   (go_simp; exact rfl)
  simp only [Z7,Z0]
  refine Z19 (v := .pointer (some ⟨g, 7, none⟩)) (by rfl) (by rfl) (fun W hW => ?_) ?_
  ·
   (go_simp; exact rfl)
  simp only [Z7,Z0]
  refine Z14 (hLk.out _ ?_)
  clear hLk Lk
  simp only [Z1,Z2]
  iterate 15 refine wpN_skip (by rfl) ?_
  refine wpN_nil (fun w117 Sw117 hbs => ?_)
  clear hbs
  replace M := M.sees Sw117
  refine Z18 (g := g) (off := 7) (n := 10) (v := .int .u32 (((h.h + ((rnds l h 64).h)) % 4294967296 : Nat) : Int)) (by rfl) (by rfl) (by rfl) (by rfl) (by rfl) (M.t 2 rfl) (by decide) info25 rfl (fun w118 P R T => ?_)
  replace M := M.putI (i := 7) 2 0 rfl P R T rfl rfl (by simp) (by simp [SepS, flen])
  simp only [Z0] at M
  refine Z9 (Z10 ?_)
  refine hK113 _ _ ?_
  refine Z8 ?_
  refine Z11 1 (by rfl) (fun Lk hLk => ?_)
  simp only [Z1,Z2]
  refine Z15 (v := .int .i64 8) (by rfl) rfl rfl rfl (fun W => run_add (by decide) W) ?_
  simp only [Z7,Z0]
  refine Z14 (hLk _ (fun w120 Sw120 => ?_))
  clear hLk Lk
  simp only [Z1,Z2]
  replace M := M.sees Sw120
  refine Z12 (v := .int .i64 8) (by rfl) (by rfl) (by rfl) ?_
  simp only [Z7,Z0]
  refine Z9 (Z10 ?_)
  refine Z17 (Q := fun _ _ _ => True) ?_
  rw [rounds_succ]
  refine Z4 (fun K121 hK121 => ?_)
  refine Z8 ?_
  refine Z11 1 (by rfl) (fun Lk hLk => ?_)
  simp only [Z1,Z2]
  refine Z15 (v := .bool false) (by rfl) rfl rfl rfl (fun W => run_lss _ _ _ _ W) ?_
  simp only [Z7,Z0]
  refine Z14 (hLk _ (fun w123 Sw123 => ?_))
  clear hLk Lk
  simp only [Z1,Z2]
  replace M := M.sees Sw123
  refine Z9 (Z10 ?_)
  refine hK121 _ _ ?_
  refine Z4 (fun K124 hK124 => ?_)
  refine Z6 rfl ?_
  refine wp_exit ?_
  repeat (first | with_reducible refine then_exit ?_ | with_reducible refine inblock_exit ?_)
  refine bodyPost_end (v := .tuple #[]) (results_none rfl _ _ _) rfl ?_
  exact ⟨_, rfl, rfl, M.pick [2] (by decide) rfl⟩
 ·
  have ht : t < 64 := of_decide_eq_true hc22
  refine Z5 rfl ?_
  refine wp_skip ?_
  refine hK21 _ _ ?_
  refine Z4 (fun K125 hK125 => ?_)
  refine wp_block ?_
  refine Z4 (fun K126 hK126 => ?_)
  refine Z8 ?_
  refine Z12 (v := .int .i64 ((t : Nat) : Int)) (by rfl) (by rfl) (by rfl) ?_
  simp only [Z7,Z0]
  refine Z13 (v := .int .i64 ((t : Nat) : Int)) (by rfl) (by rfl) (by rfl) ?_
  simp only [Z7,Z0]
  refine Z9 (Z10 ?_)
  refine hK126 _ _ ?_
  refine Z4 (fun K128 hK128 => ?_)
  refine wp_region_grow 6 [] (by kernel_rfl) (by kernel_rfl) (by kernel_rfl) (fun Lk hLk => ?_)
  simp only [Z1,Z2]
  refine Z19 (v := .pointer (some ⟨g10, 0, none⟩)) (by rfl) (by rfl) (fun W hW => ?_) ?_
  ·
   (go_simp; exact rfl)
  simp only [Z7,Z0]
  refine wpV_load1 (v := .int .u32 ((v.a : Nat) : Int)) (by rfl) rfl rfl (range_one (range_sub (M.r 0 0 rfl rfl) 0 1 0 (xs := [.int .u32 ((v.a : Nat) : Int)]) rfl rfl)) (M.lt 0 rfl) Tryd.underlying25 rfl ?_
  simp only [Z7,Z0]
  refine Z19 (v := .pointer (some ⟨g10, 4, none⟩)) (by rfl) (by rfl) (fun W hW => ?_) ?_
  ·
   (go_simp; exact rfl)
  simp only [Z7,Z0]
  refine wpV_load1 (v := .int .u32 ((v.e : Nat) : Int)) (by rfl) rfl rfl (range_one (range_sub (M.r 0 0 rfl rfl) 4 1 4 (xs := [.int .u32 ((v.e : Nat) : Int)]) rfl rfl)) (M.lt 0 rfl) Tryd.underlying25 rfl ?_
  simp only [Z7,Z0]
  refine wpV_assign (v := .int .u32 ((v.a : Nat) : Int)) (by rfl) rfl rfl ?_
  simp only [Z7,Z0]
  refine wpV_assign (v := .int .u32 ((v.e : Nat) : Int)) (by rfl) rfl rfl ?_
  simp only [Z7,Z0]
  refine Z14 (hLk.out _ ?_)
  clear hLk Lk
  simp only [Z1,Z2]
  iterate 6 refine wpN_skip (by rfl) ?_
  refine wpN_nil (fun w130 Sw130 hbs => ?_)
  clear hbs
  replace M := M.sees Sw130
  refine Z9 (Z10 ?_)
  refine hK128 _ _ ?_
  refine Z4 (fun K131 hK131 => ?_)
  refine wp_region_grow 30 [] (by kernel_rfl) (by kernel_rfl) (by kernel_rfl) (fun Lk hLk => ?_)
  simp only [Z1,Z2]
  refine Z19 (v := .pointer (some ⟨g10, 7, none⟩)) (by rfl) (by rfl) (fun W hW => ?_) ?_
  ·
   (go_simp; exact rfl)
  simp only [Z7,Z0]
  refine wpV_load1 (v := .int .u32 ((v.h : Nat) : Int)) (by rfl) rfl rfl (range_one (range_sub (M.r 0 0 rfl rfl) 7 1 7 (xs := [.int .u32 ((v.h : Nat) : Int)]) rfl rfl)) (M.lt 0 rfl) Tryd.underlying25 rfl ?_
  simp only [Z7,Z0]
  refine Z16 (v := .int .u32 ((v.e : Nat) : Int)) (by rfl) rfl rfl ?_
  simp only [Z7,Z0]
  refine Z20 (v := .int .u32 ((rotr v.e 6 : Nat) : Int)) (args := #[.int .u32 ((v.e : Nat) : Int), .int .i64 (-6)]) (by rfl) rfl Tryd.func105 (by kernel_rfl) (by kernel_rfl) rfl (fun W hW => (by have := rotl_c (x := v.e) (n := 6) (w := W) hok.e (by decide) (by decide); exact this)) ?_
  simp only [Z7,Z0]
  refine Z16 (v := .int .u32 ((v.e : Nat) : Int)) (by rfl) rfl rfl ?_
  simp only [Z7,Z0]
  refine Z20 (v := .int .u32 ((rotr v.e 11 : Nat) : Int)) (args := #[.int .u32 ((v.e : Nat) : Int), .int .i64 (-11)]) (by rfl) rfl Tryd.func105 (by kernel_rfl) (by kernel_rfl) rfl (fun W hW => (by have := rotl_c (x := v.e) (n := 11) (w := W) hok.e (by decide) (by decide); exact this)) ?_
  simp only [Z7,Z0]
  refine Z15 (v := .int .u32 (((rotr v.e 6) ^^^ (rotr v.e 11) : Nat) : Int)) (by rfl) rfl rfl rfl (fun W => nr_xor32 (x := rotr v.e 6) (y := rotr v.e 11) (rotr_lt hok.e (by decide)) (rotr_lt hok.e (by decide)) W) ?_
  simp only [Z7,Z0]
  refine Z16 (v := .int .u32 ((v.e : Nat) : Int)) (by rfl) rfl rfl ?_
  simp only [Z7,Z0]
  refine Z20 (v := .int .u32 ((rotr v.e 25 : Nat) : Int)) (args := #[.int .u32 ((v.e : Nat) : Int), .int .i64 (-25)]) (by rfl) rfl Tryd.func105 (by kernel_rfl) (by kernel_rfl) rfl (fun W hW => (by have := rotl_c (x := v.e) (n := 25) (w := W) hok.e (by decide) (by decide); exact this)) ?_
  simp only [Z7,Z0]
  refine Z15 (v := .int .u32 ((bg1 v.e : Nat) : Int)) (by rfl) rfl rfl rfl (fun W => nr_xor32 (x := (rotr v.e 6) ^^^ (rotr v.e 11)) (y := rotr v.e 25) (xor_lt32 (rotr_lt hok.e (by decide)) (rotr_lt hok.e (by decide))) (rotr_lt hok.e (by decide)) W) ?_
  simp only [Z7,Z0]
  refine Z15 (v := .int .u32 (((v.h + (bg1 v.e)) % 4294967296 : Nat) : Int)) (by rfl) rfl rfl rfl (fun W => nr_add32 _ v.h (bg1 v.e) W) ?_
  simp only [Z7,Z0]
  refine Z16 (v := .int .u32 ((v.e : Nat) : Int)) (by rfl) rfl rfl ?_
  simp only [Z7,Z0]
  refine Z19 (v := .pointer (some ⟨g10, 5, none⟩)) (by rfl) (by rfl) (fun W hW => ?_) ?_
  ·
   (go_simp; exact rfl)
  simp only [Z7,Z0]
  refine wpV_load1 (v := .int .u32 ((v.f : Nat) : Int)) (by rfl) rfl rfl (range_one (range_sub (M.r 0 0 rfl rfl) 5 1 5 (xs := [.int .u32 ((v.f : Nat) : Int)]) rfl rfl)) (M.lt 0 rfl) Tryd.underlying25 rfl ?_
  simp only [Z7,Z0]
  refine Z15 (v := .int .u32 ((v.e &&& v.f : Nat) : Int)) (by rfl) rfl rfl rfl (fun W => nr_and32 (x := v.e) (y := v.f) hok.e hok.f W) ?_
  simp only [Z7,Z0]
  refine Z16 (v := .int .u32 ((v.e : Nat) : Int)) (by rfl) rfl rfl ?_
  simp only [Z7,Z0]
  refine wpV_un (v := .int .u32 ((4294967295 ^^^ v.e : Nat) : Int)) (by rfl) rfl rfl (fun W => nr_not32 (x := v.e) hok.e W) ?_
  simp only [Z7,Z0]
  refine Z19 (v := .pointer (some ⟨g10, 6, none⟩)) (by rfl) (by rfl) (fun W hW => ?_) ?_
  ·
   (go_simp; exact rfl)
  simp only [Z7,Z0]
  refine wpV_load1 (v := .int .u32 ((v.g : Nat) : Int)) (by rfl) rfl rfl (range_one (range_sub (M.r 0 0 rfl rfl) 6 1 6 (xs := [.int .u32 ((v.g : Nat) : Int)]) rfl rfl)) (M.lt 0 rfl) Tryd.underlying25 rfl ?_
  simp only [Z7,Z0]
  refine Z15 (v := .int .u32 (((4294967295 ^^^ v.e) &&& v.g : Nat) : Int)) (by rfl) rfl rfl rfl (fun W => nr_and32 (x := 4294967295 ^^^ v.e) (y := v.g) (xor_lt32 (by decide) hok.e) hok.g W) ?_
  simp only [Z7,Z0]
  refine Z15 (v := .int .u32 ((chs v.e v.f v.g : Nat) : Int)) (by rfl) rfl rfl rfl (fun W => nr_xor32 (x := v.e &&& v.f) (y := (4294967295 ^^^ v.e) &&& v.g) (and_lt32 hok.f) (and_lt32 hok.g) W) ?_
  simp only [Z7,Z0]
  refine Z15 (v := .int .u32 (((((v.h + (bg1 v.e)) % 4294967296) + (chs v.e v.f v.g)) % 4294967296 : Nat) : Int)) (by rfl) rfl rfl rfl (fun W => nr_add32 _ ((v.h + (bg1 v.e)) % 4294967296) (chs v.e v.f v.g) W) ?_
  simp only [Z7,Z0]
  refine Z16 (v := .int .i64 ((t : Nat) : Int)) (by rfl) rfl rfl ?_
  simp only [Z7,Z0]
  refine wpV_idx (n := t) (by rfl) rfl rfl rfl Tryd.underlying119 info25 (by omega) ?_
  simp only [Nat.zero_add]
  simp only [Z7,Z0]
  refine wpV_load1 (v := .int .u32 ((keyN t : Nat) : Int)) (by rfl) rfl rfl (zadd ((M.oldG R0_0 L0 (by simpa using Ne.symm hg)) _ _ (kcells_get (by omega)))) (M.oldL L0) Tryd.underlying25 rfl ?_
  simp only [Z7,Z0]
  refine Z15 (v := .int .u32 (((((((v.h + (bg1 v.e)) % 4294967296) + (chs v.e v.f v.g)) % 4294967296) + (keyN t)) % 4294967296 : Nat) : Int)) (by rfl) rfl rfl rfl (fun W => nr_add32 _ ((((v.h + (bg1 v.e)) % 4294967296) + (chs v.e v.f v.g)) % 4294967296) (keyN t) W) ?_
  simp only [Z7,Z0]
  refine Z16 (v := .int .i64 ((t : Nat) : Int)) (by rfl) rfl rfl ?_
  simp only [Z7,Z0]
  refine wpV_idx (n := t) (by rfl) rfl rfl rfl Tryd.underlying119 info25 (by omega) ?_
  simp only [Nat.zero_add]
  simp only [Z7,Z0]
  refine wpV_load1 (v := .int .u32 ((shW l t : Nat) : Int)) (by rfl) rfl rfl (zadd ((M.r 1 0 rfl rfl) _ _ (wcells_at l (by omega) (by omega)))) (M.lt 1 rfl) Tryd.underlying25 rfl ?_
  simp only [Z7,Z0]
  refine Z15 (v := .int .u32 ((one (keyN t) (shW l t) v : Nat) : Int)) (by rfl) rfl rfl rfl (fun W => nr_add32 _ ((((((v.h + (bg1 v.e)) % 4294967296) + (chs v.e v.f v.g)) % 4294967296) + (keyN t)) % 4294967296) (shW l t) W) ?_
  simp only [Z7,Z0]
  refine Z14 (hLk.out _ ?_)
  clear hLk Lk
  simp only [Z1,Z2]
  iterate 30 refine wpN_skip (by rfl) ?_
  refine wpN_nil (fun w133 Sw133 hbs => ?_)
  clear hbs
  replace M := M.sees Sw133
  refine Z13 (v := .int .u32 ((one (keyN t) (shW l t) v : Nat) : Int)) (by rfl) (by rfl) (by rfl) ?_
  simp only [Z7,Z0]
  refine Z9 (Z10 ?_)
  refine hK131 _ _ ?_
  refine Z4 (fun K134 hK134 => ?_)
  refine wp_region_grow 24 [] (by kernel_rfl) (by kernel_rfl) (by kernel_rfl) (fun Lk hLk => ?_)
  simp only [Z1,Z2]
  refine Z16 (v := .int .u32 ((v.a : Nat) : Int)) (by rfl) rfl rfl ?_
  simp only [Z7,Z0]
  refine Z20 (v := .int .u32 ((rotr v.a 2 : Nat) : Int)) (args := #[.int .u32 ((v.a : Nat) : Int), .int .i64 (-2)]) (by rfl) rfl Tryd.func105 (by kernel_rfl) (by kernel_rfl) rfl (fun W hW => (by have := rotl_c (x := v.a) (n := 2) (w := W) hok.a (by decide) (by decide); exact this)) ?_
  simp only [Z7,Z0]
  refine Z16 (v := .int .u32 ((v.a : Nat) : Int)) (by rfl) rfl rfl ?_
  simp only [Z7,Z0]
  refine Z20 (v := .int .u32 ((rotr v.a 13 : Nat) : Int)) (args := #[.int .u32 ((v.a : Nat) : Int), .int .i64 (-13)]) (by rfl) rfl Tryd.func105 (by kernel_rfl) (by kernel_rfl) rfl (fun W hW => (by have := rotl_c (x := v.a) (n := 13) (w := W) hok.a (by decide) (by decide); exact this)) ?_
  simp only [Z7,Z0]
  refine Z15 (v := .int .u32 (((rotr v.a 2) ^^^ (rotr v.a 13) : Nat) : Int)) (by rfl) rfl rfl rfl (fun W => nr_xor32 (x := rotr v.a 2) (y := rotr v.a 13) (rotr_lt hok.a (by decide)) (rotr_lt hok.a (by decide)) W) ?_
  simp only [Z7,Z0]
  refine Z16 (v := .int .u32 ((v.a : Nat) : Int)) (by rfl) rfl rfl ?_
  simp only [Z7,Z0]
  refine Z20 (v := .int .u32 ((rotr v.a 22 : Nat) : Int)) (args := #[.int .u32 ((v.a : Nat) : Int), .int .i64 (-22)]) (by rfl) rfl Tryd.func105 (by kernel_rfl) (by kernel_rfl) rfl (fun W hW => (by have := rotl_c (x := v.a) (n := 22) (w := W) hok.a (by decide) (by decide); exact this)) ?_
  simp only [Z7,Z0]
  refine Z15 (v := .int .u32 ((bg0 v.a : Nat) : Int)) (by rfl) rfl rfl rfl (fun W => nr_xor32 (x := (rotr v.a 2) ^^^ (rotr v.a 13)) (y := rotr v.a 22) (xor_lt32 (rotr_lt hok.a (by decide)) (rotr_lt hok.a (by decide))) (rotr_lt hok.a (by decide)) W) ?_
  simp only [Z7,Z0]
  refine Z16 (v := .int .u32 ((v.a : Nat) : Int)) (by rfl) rfl rfl ?_
  simp only [Z7,Z0]
  refine Z19 (v := .pointer (some ⟨g10, 1, none⟩)) (by rfl) (by rfl) (fun W hW => ?_) ?_
  ·
   (go_simp; exact rfl)
  simp only [Z7,Z0]
  refine wpV_load1 (v := .int .u32 ((v.b : Nat) : Int)) (by rfl) rfl rfl (range_one (range_sub (M.r 0 0 rfl rfl) 1 1 1 (xs := [.int .u32 ((v.b : Nat) : Int)]) rfl rfl)) (M.lt 0 rfl) Tryd.underlying25 rfl ?_
  simp only [Z7,Z0]
  refine Z15 (v := .int .u32 ((v.a &&& v.b : Nat) : Int)) (by rfl) rfl rfl rfl (fun W => nr_and32 (x := v.a) (y := v.b) hok.a hok.b W) ?_
  simp only [Z7,Z0]
  refine Z16 (v := .int .u32 ((v.a : Nat) : Int)) (by rfl) rfl rfl ?_
  simp only [Z7,Z0]
  refine Z19 (v := .pointer (some ⟨g10, 2, none⟩)) (by rfl) (by rfl) (fun W hW => ?_) ?_
  ·
   (go_simp; exact rfl)
  simp only [Z7,Z0]
  refine wpV_load1 (v := .int .u32 ((v.c : Nat) : Int)) (by rfl) rfl rfl (range_one (range_sub (M.r 0 0 rfl rfl) 2 1 2 (xs := [.int .u32 ((v.c : Nat) : Int)]) rfl rfl)) (M.lt 0 rfl) Tryd.underlying25 rfl ?_
  simp only [Z7,Z0]
  refine Z15 (v := .int .u32 ((v.a &&& v.c : Nat) : Int)) (by rfl) rfl rfl rfl (fun W => nr_and32 (x := v.a) (y := v.c) hok.a hok.c W) ?_
  simp only [Z7,Z0]
  refine Z15 (v := .int .u32 (((v.a &&& v.b) ^^^ (v.a &&& v.c) : Nat) : Int)) (by rfl) rfl rfl rfl (fun W => nr_xor32 (x := v.a &&& v.b) (y := v.a &&& v.c) (and_lt32 hok.b) (and_lt32 hok.c) W) ?_
  simp only [Z7,Z0]
  refine Z19 (v := .pointer (some ⟨g10, 1, none⟩)) (by rfl) (by rfl) (fun W hW => ?_) ?_
  ·
   (go_simp; exact rfl)
  simp only [Z7,Z0]
  refine wpV_load1 (v := .int .u32 ((v.b : Nat) : Int)) (by rfl) rfl rfl (range_one (range_sub (M.r 0 0 rfl rfl) 1 1 1 (xs := [.int .u32 ((v.b : Nat) : Int)]) rfl rfl)) (M.lt 0 rfl) Tryd.underlying25 rfl ?_
  simp only [Z7,Z0]
  refine Z19 (v := .pointer (some ⟨g10, 2, none⟩)) (by rfl) (by rfl) (fun W hW => ?_) ?_
  ·
   (go_simp; exact rfl)
  simp only [Z7,Z0]
  refine wpV_load1 (v := .int .u32 ((v.c : Nat) : Int)) (by rfl) rfl rfl (range_one (range_sub (M.r 0 0 rfl rfl) 2 1 2 (xs := [.int .u32 ((v.c : Nat) : Int)]) rfl rfl)) (M.lt 0 rfl) Tryd.underlying25 rfl ?_
  simp only [Z7,Z0]
  refine Z15 (v := .int .u32 ((v.b &&& v.c : Nat) : Int)) (by rfl) rfl rfl rfl (fun W => nr_and32 (x := v.b) (y := v.c) hok.b hok.c W) ?_
  simp only [Z7,Z0]
  refine Z15 (v := .int .u32 ((maj v.a v.b v.c : Nat) : Int)) (by rfl) rfl rfl rfl (fun W => nr_xor32 (x := (v.a &&& v.b) ^^^ (v.a &&& v.c)) (y := v.b &&& v.c) (xor_lt32 (and_lt32 hok.b) (and_lt32 hok.c)) (and_lt32 hok.c) W) ?_
  simp only [Z7,Z0]
  refine Z15 (v := .int .u32 ((two v : Nat) : Int)) (by rfl) rfl rfl rfl (fun W => nr_add32 _ (bg0 v.a) (maj v.a v.b v.c) W) ?_
  simp only [Z7,Z0]
  refine Z14 (hLk.out _ ?_)
  clear hLk Lk
  simp only [Z1,Z2]
  iterate 24 refine wpN_skip (by rfl) ?_
  refine wpN_nil (fun w136 Sw136 hbs => ?_)
  clear hbs
  replace M := M.sees Sw136
  refine Z13 (v := .int .u32 ((two v : Nat) : Int)) (by rfl) (by rfl) (by rfl) ?_
  simp only [Z7,Z0]
  refine Z9 (Z10 ?_)
  refine hK134 _ _ ?_
  refine Z8 ?_
  refine Z12 (v := .int .u32 ((one (keyN t) (shW l t) v : Nat) : Int)) (by rfl) (by rfl) (by rfl) ?_
  simp only [Z7,Z0]
  refine Z12 (v := .int .u32 ((two v : Nat) : Int)) (by rfl) (by rfl) (by rfl) ?_
  simp only [Z7,Z0]
  refine Z11 16 (by rfl) (fun Lk hLk => ?_)
  simp only [Z1,Z2]
  refine Z15 (v := .int .u32 ((((one (keyN t) (shW l t) v) + (two v)) % 4294967296 : Nat) : Int)) (by rfl) rfl rfl rfl (fun W => nr_add32 _ (one (keyN t) (shW l t) v) (two v) W) ?_
  simp only [Z7,Z0]
  refine Z16 (v := .int .u32 ((v.a : Nat) : Int)) (by rfl) rfl rfl ?_
  simp only [Z7,Z0]
  refine Z19 (v := .pointer (some ⟨g10, 1, none⟩)) (by rfl) (by rfl) (fun W hW => ?_) ?_
  ·
   (go_simp; exact rfl)
  simp only [Z7,Z0]
  refine wpV_load1 (v := .int .u32 ((v.b : Nat) : Int)) (by rfl) rfl rfl (range_one (range_sub (M.r 0 0 rfl rfl) 1 1 1 (xs := [.int .u32 ((v.b : Nat) : Int)]) rfl rfl)) (M.lt 0 rfl) Tryd.underlying25 rfl ?_
  simp only [Z7,Z0]
  refine Z19 (v := .pointer (some ⟨g10, 2, none⟩)) (by rfl) (by rfl) (fun W hW => ?_) ?_
  ·
   (go_simp; exact rfl)
  simp only [Z7,Z0]
  refine wpV_load1 (v := .int .u32 ((v.c : Nat) : Int)) (by rfl) rfl rfl (range_one (range_sub (M.r 0 0 rfl rfl) 2 1 2 (xs := [.int .u32 ((v.c : Nat) : Int)]) rfl rfl)) (M.lt 0 rfl) Tryd.underlying25 rfl ?_
  simp only [Z7,Z0]
  refine Z19 (v := .pointer (some ⟨g10, 3, none⟩)) (by rfl) (by rfl) (fun W hW => ?_) ?_
  ·
   (go_simp; exact rfl)
  simp only [Z7,Z0]
  refine wpV_load1 (v := .int .u32 ((v.d : Nat) : Int)) (by rfl) rfl rfl (range_one (range_sub (M.r 0 0 rfl rfl) 3 1 3 (xs := [.int .u32 ((v.d : Nat) : Int)]) rfl rfl)) (M.lt 0 rfl) Tryd.underlying25 rfl ?_
  simp only [Z7,Z0]
  refine Z16 (v := .int .u32 ((one (keyN t) (shW l t) v : Nat) : Int)) (by rfl) rfl rfl ?_
  simp only [Z7,Z0]
  refine Z15 (v := .int .u32 (((v.d + (one (keyN t) (shW l t) v)) % 4294967296 : Nat) : Int)) (by rfl) rfl rfl rfl (fun W => nr_add32 _ v.d (one (keyN t) (shW l t) v) W) ?_
  simp only [Z7,Z0]
  refine Z16 (v := .int .u32 ((v.e : Nat) : Int)) (by rfl) rfl rfl ?_
  simp only [Z7,Z0]
  refine Z19 (v := .pointer (some ⟨g10, 5, none⟩)) (by rfl) (by rfl) (fun W hW => ?_) ?_
  ·
   (go_simp; exact rfl)
  simp only [Z7,Z0]
  refine wpV_load1 (v := .int .u32 ((v.f : Nat) : Int)) (by rfl) rfl rfl (range_one (range_sub (M.r 0 0 rfl rfl) 5 1 5 (xs := [.int .u32 ((v.f : Nat) : Int)]) rfl rfl)) (M.lt 0 rfl) Tryd.underlying25 rfl ?_
  simp only [Z7,Z0]
  refine Z19 (v := .pointer (some ⟨g10, 6, none⟩)) (by rfl) (by rfl) (fun W hW => ?_) ?_
  ·
   (go_simp; exact rfl)
  simp only [Z7,Z0]
  refine wpV_load1 (v := .int .u32 ((v.g : Nat) : Int)) (by rfl) rfl rfl (range_one (range_sub (M.r 0 0 rfl rfl) 6 1 6 (xs := [.int .u32 ((v.g : Nat) : Int)]) rfl rfl)) (M.lt 0 rfl) Tryd.underlying25 rfl ?_
  simp only [Z7,Z0]
  refine Z19 (v := .agg ([.int .u32 ((((one (keyN t) (shW l t) v) + (two v)) % 4294967296 : Nat) : Int), .int .u32 ((v.a : Nat) : Int), .int .u32 ((v.b : Nat) : Int), .int .u32 ((v.c : Nat) : Int), .int .u32 (((v.d + (one (keyN t) (shW l t) v)) % 4294967296 : Nat) : Int), .int .u32 ((v.e : Nat) : Int), .int .u32 ((v.f : Nat) : Int), .int .u32 ((v.g : Nat) : Int)]).toArray) (by rfl) (by rfl) (fun W hW => ?_) ?_
  ·
   (unfold RunsVal; kernel_rfl)
  simp only [Z7,Z0]
  refine Z14 (hLk _ (fun w138 Sw138 => ?_))
  clear hLk Lk
  simp only [Z1,Z2]
  replace M := M.sees Sw138
  refine wpL_store (g := g10) (off := 0) (n := 8) (cs := [.int .u32 ((((one (keyN t) (shW l t) v) + (two v)) % 4294967296 : Nat) : Int), .int .u32 ((v.a : Nat) : Int), .int .u32 ((v.b : Nat) : Int), .int .u32 ((v.c : Nat) : Int), .int .u32 (((v.d + (one (keyN t) (shW l t) v)) % 4294967296 : Nat) : Int), .int .u32 ((v.e : Nat) : Int), .int .u32 ((v.f : Nat) : Int), .int .u32 ((v.g : Nat) : Int)]) (by rfl) (by rfl) (by rfl) (by rfl) (by rfl) (M.t 0 rfl) (by simp [flen]) info26 (by simp [fone, Value.oneCell']) (fun w139 P R T => ?_)
  replace M := M.putS 0 0 rfl P R T rfl ⟨.inl rfl, trivial⟩
  simp only [Z0] at M
  refine Z9 (Z10 ?_)
  refine hK125 _ _ ?_
  refine Z8 ?_
  refine Z11 1 (by rfl) (fun Lk hLk => ?_)
  simp only [Z1,Z2]
  refine Z15 (v := .int .i64 ((t + 1 : Nat) : Int)) (by rfl) rfl rfl rfl (fun W => run_add (by simp only [IntKind.wrap_i64]; omega) W) ?_
  simp only [Z7,Z0]
  refine Z14 (hLk _ (fun w141 Sw141 => ?_))
  clear hLk Lk
  simp only [Z1,Z2]
  replace M := M.sees Sw141
  refine Z12 (v := .int .i64 ((t + 1 : Nat) : Int)) (by rfl) (by rfl) (by rfl) ?_
  simp only [Z7,Z0]
  refine Z9 (Z10 ?_)
  refine Exists.intro _ ⟨?_, (t + 1), (rnd (keyN t) (shW l t) v), (fun q9 => (#[Z3, Z3, Z3, Z3, Z3, Z3, .int .i64 ((t : Nat) : Int), .int .u32 ((v.a : Nat) : Int), .int .u32 ((v.e : Nat) : Int), .int .u32 ((one (keyN t) (shW l t) v : Nat) : Int), .int .u32 ((two v : Nat) : Int), Z3, Z3, Z3, Z3, Z3, Z3, Z3, Z3, Z3, .bool true, .int .i64 ((t : Nat) : Int), .pointer (some ⟨g10, 0, none⟩), .int .u32 ((v.a : Nat) : Int), .pointer (some ⟨g10, 4, none⟩), .int .u32 ((v.e : Nat) : Int), .pointer (some ⟨g10, 7, none⟩), .int .u32 ((v.h : Nat) : Int), .int .u32 ((v.e : Nat) : Int), .int .u32 ((rotr v.e 6 : Nat) : Int), .int .u32 ((v.e : Nat) : Int), .int .u32 ((rotr v.e 11 : Nat) : Int), .int .u32 (((rotr v.e 6) ^^^ (rotr v.e 11) : Nat) : Int), .int .u32 ((v.e : Nat) : Int), .int .u32 ((rotr v.e 25 : Nat) : Int), .int .u32 ((bg1 v.e : Nat) : Int), .int .u32 (((v.h + (bg1 v.e)) % 4294967296 : Nat) : Int), .int .u32 ((v.e : Nat) : Int), .pointer (some ⟨g10, 5, none⟩), .int .u32 ((v.f : Nat) : Int), .int .u32 ((v.e &&& v.f : Nat) : Int), .int .u32 ((v.e : Nat) : Int), .int .u32 ((4294967295 ^^^ v.e : Nat) : Int), .pointer (some ⟨g10, 6, none⟩), .int .u32 ((v.g : Nat) : Int), .int .u32 (((4294967295 ^^^ v.e) &&& v.g : Nat) : Int), .int .u32 ((chs v.e v.f v.g : Nat) : Int), .int .u32 (((((v.h + (bg1 v.e)) % 4294967296) + (chs v.e v.f v.g)) % 4294967296 : Nat) : Int), .int .i64 ((t : Nat) : Int), .pointer (some ⟨0, t, none⟩), .int .u32 ((keyN t : Nat) : Int), .int .u32 (((((((v.h + (bg1 v.e)) % 4294967296) + (chs v.e v.f v.g)) % 4294967296) + (keyN t)) % 4294967296 : Nat) : Int), .int .i64 ((t : Nat) : Int), .pointer (some ⟨g4, t, none⟩), .int .u32 ((shW l t : Nat) : Int), .int .u32 ((one (keyN t) (shW l t) v : Nat) : Int), .int .u32 ((v.a : Nat) : Int), .int .u32 ((rotr v.a 2 : Nat) : Int), .int .u32 ((v.a : Nat) : Int), .int .u32 ((rotr v.a 13 : Nat) : Int), .int .u32 (((rotr v.a 2) ^^^ (rotr v.a 13) : Nat) : Int), .int .u32 ((v.a : Nat) : Int), .int .u32 ((rotr v.a 22 : Nat) : Int), .int .u32 ((bg0 v.a : Nat) : Int), .int .u32 ((v.a : Nat) : Int), .pointer (some ⟨g10, 1, none⟩), .int .u32 ((v.b : Nat) : Int), .int .u32 ((v.a &&& v.b : Nat) : Int), .int .u32 ((v.a : Nat) : Int), .pointer (some ⟨g10, 2, none⟩), .int .u32 ((v.c : Nat) : Int), .int .u32 ((v.a &&& v.c : Nat) : Int), .int .u32 (((v.a &&& v.b) ^^^ (v.a &&& v.c) : Nat) : Int), .pointer (some ⟨g10, 1, none⟩), .int .u32 ((v.b : Nat) : Int), .pointer (some ⟨g10, 2, none⟩), .int .u32 ((v.c : Nat) : Int), .int .u32 ((v.b &&& v.c : Nat) : Int), .int .u32 ((maj v.a v.b v.c : Nat) : Int), .int .u32 ((two v : Nat) : Int), .int .u32 ((one (keyN t) (shW l t) v : Nat) : Int), .int .u32 ((two v : Nat) : Int), .int .u32 ((((one (keyN t) (shW l t) v) + (two v)) % 4294967296 : Nat) : Int), .int .u32 ((v.a : Nat) : Int), .pointer (some ⟨g10, 1, none⟩), .int .u32 ((v.b : Nat) : Int), .pointer (some ⟨g10, 2, none⟩), .int .u32 ((v.c : Nat) : Int), .pointer (some ⟨g10, 3, none⟩), .int .u32 ((v.d : Nat) : Int), .int .u32 ((one (keyN t) (shW l t) v : Nat) : Int), .int .u32 (((v.d + (one (keyN t) (shW l t) v)) % 4294967296 : Nat) : Int), .int .u32 ((v.e : Nat) : Int), .pointer (some ⟨g10, 5, none⟩), .int .u32 ((v.f : Nat) : Int), .pointer (some ⟨g10, 6, none⟩), .int .u32 ((v.g : Nat) : Int), .agg ([.int .u32 ((((one (keyN t) (shW l t) v) + (two v)) % 4294967296 : Nat) : Int), .int .u32 ((v.a : Nat) : Int), .int .u32 ((v.b : Nat) : Int), .int .u32 ((v.c : Nat) : Int), .int .u32 (((v.d + (one (keyN t) (shW l t) v)) % 4294967296 : Nat) : Int), .int .u32 ((v.e : Nat) : Int), .int .u32 ((v.f : Nat) : Int), .int .u32 ((v.g : Nat) : Int)]).toArray, .int .i64 ((t + 1 : Nat) : Int)] : Array Value).getD q9 Z3), rfl, rfl, M, (by omega), (by rw [hv]; rfl)⟩
  omega
set_option maxHeartbeats 4000000 in
theorem take_c {g n : Nat} {h : S8} {b l : List UInt8} {w : World} (hh : h.Ok) (hb : b.length < 64) (hl : l.length ≤ 9223372036854775744) (hg : g ≠ 0) (L0 : 0 < w.heap.size) (R0_0 : w.rangeAt 0 0 kcells) (hM : Mem [g] w w [⟨g, 10, [(0, [.int .u32 ((h.a : Nat) : Int), .int .u32 ((h.b : Nat) : Int), .int .u32 ((h.c : Nat) : Int), .int .u32 ((h.d : Nat) : Int), .int .u32 ((h.e : Nat) : Int), .int .u32 ((h.f : Nat) : Int), .int .u32 ((h.g : Nat) : Int), .int .u32 ((h.h : Nat) : Int)]), (8, [.string (bs b)]), (9, [.int .u64 ((n : Nat) : Int)])]⟩]) :
  Calls Tryd.prog 70 #[.pointer (some ⟨g, 0, none⟩), .string (bs l)] w fun e w' => ∃ v, e = .returned v ∧ v = .tuple #[] ∧ Mem [g] w w' [⟨g, 10, [(0, [.int .u32 (((takeH h (b ++ l)).a : Nat) : Int), .int .u32 (((takeH h (b ++ l)).b : Nat) : Int), .int .u32 (((takeH h (b ++ l)).c : Nat) : Int), .int .u32 (((takeH h (b ++ l)).d : Nat) : Int), .int .u32 (((takeH h (b ++ l)).e : Nat) : Int), .int .u32 (((takeH h (b ++ l)).f : Nat) : Int), .int .u32 (((takeH h (b ++ l)).g : Nat) : Int), .int .u32 (((takeH h (b ++ l)).h : Nat) : Int)]), (8, [.string (bs (takeR (b ++ l)))]), (9, [.int .u64 ((((n + l.length) % 18446744073709551616) : Nat) : Int)])]⟩] := by
 go_enter Tryd.func70, Tryd.ntmps70
 have M := hM
 refine Z4 (fun K1 hK1 => ?_)
 refine Z8 ?_
 refine Z12 (v := .pointer (some ⟨g, 0, none⟩)) (by rfl) (by rfl) (by rfl) ?_
 simp only [Z7,Z0]
 refine Z11 11 (by rfl) (fun Lk hLk => ?_)
 simp only [Z1,Z2]
 refine wpV_nilCheck (by rfl) rfl rfl ?_
 simp only [Z7,Z0]
 refine Z19 (v := .pointer (some ⟨g, 0, none⟩)) (by rfl) (by rfl) (fun W hW => ?_) ?_
 ·
  (go_simp; exact rfl)
 simp only [Z7,Z0]
 refine Z19 (v := .pointer (some ⟨g, 9, none⟩)) (by rfl) (by rfl) (fun W hW => ?_) ?_
 ·
  (go_simp; exact rfl)
 simp only [Z7,Z0]
 refine wpV_load1 (v := .int .u64 ((n : Nat) : Int)) (by rfl) rfl rfl (range_one (M.r 0 2 rfl rfl)) (M.lt 0 rfl) Tryd.underlying27 rfl ?_
 simp only [Z7,Z0]
 refine Z16 (v := .string (bs l)) (by rfl) rfl rfl ?_
 simp only [Z7,Z0]
 refine wpV_lenS (by rfl) rfl rfl rfl Tryd.underlying9 ?_
 simp only [Z7,Z0]
 refine wpV_conv (d := .bool) (e := ((l.length : Nat) : Int)) (by rfl) rfl rfl (run_conv_int Tryd.underlying3 Tryd.underlying27 ((wrap64N _).trans (congrArg _ (Nat.mod_eq_of_lt (by omega))))) ?_
 simp only [Z7,Z0]
 refine Z15 (v := .int .u64 (((n + l.length) % 18446744073709551616 : Nat) : Int)) (by rfl) rfl rfl rfl (fun W => nr_add64 _ n l.length W) ?_
 simp only [Z7,Z0]
 refine wpV_nilCheck (by rfl) rfl rfl ?_
 simp only [Z7,Z0]
 refine Z19 (v := .pointer (some ⟨g, 0, none⟩)) (by rfl) (by rfl) (fun W hW => ?_) ?_
 ·
  (go_simp; exact rfl)
 simp only [Z7,Z0]
 refine Z19 (v := .pointer (some ⟨g, 9, none⟩)) (by rfl) (by rfl) (fun W hW => ?_) ?_
 ·
  (go_simp; exact rfl)
 simp only [Z7,Z0]
 refine Z14 (hLk _ (fun w3 Sw3 => ?_))
 clear hLk Lk
 simp only [Z1,Z2]
 replace M := M.sees Sw3
 refine Z18 (g := g) (off := 9) (n := 10) (v := .int .u64 (((n + l.length) % 18446744073709551616 : Nat) : Int)) (by rfl) (by rfl) (by rfl) (by rfl) (by rfl) (M.t 0 rfl) (by decide) info27 rfl (fun w4 P R T => ?_)
 replace M := M.putS (new := [.int .u64 (((n + l.length) % 18446744073709551616 : Nat) : Int)]) 0 2 rfl P R T rfl (by simp [SepS, flen])
 simp only [Z0] at M
 refine Z9 (Z10 ?_)
 refine hK1 _ _ ?_
 refine Z4 (fun K5 hK5 => ?_)
 refine Z8 ?_
 refine Z12 (v := .pointer (some ⟨g, 0, none⟩)) (by rfl) (by rfl) (by rfl) ?_
 simp only [Z7,Z0]
 refine Z11 6 (by rfl) (fun Lk hLk => ?_)
 simp only [Z1,Z2]
 refine wpV_nilCheck (by rfl) rfl rfl ?_
 simp only [Z7,Z0]
 refine Z19 (v := .pointer (some ⟨g, 0, none⟩)) (by rfl) (by rfl) (fun W hW => ?_) ?_
 ·
  (go_simp; exact rfl)
 simp only [Z7,Z0]
 refine Z19 (v := .pointer (some ⟨g, 8, none⟩)) (by rfl) (by rfl) (fun W hW => ?_) ?_
 ·
  (go_simp; exact rfl)
 simp only [Z7,Z0]
 refine wpV_load1 (v := .string (bs b)) (by rfl) rfl rfl (range_one (M.r 0 1 rfl rfl)) (M.lt 0 rfl) Tryd.underlying9 rfl ?_
 simp only [Z7,Z0]
 refine Z16 (v := .string (bs l)) (by rfl) rfl rfl ?_
 simp only [Z7,Z0]
 refine wpV_binS (v := .string (bs (b ++ l))) (by rfl) rfl rfl rfl (run_add_bs _ _ _ (by omega)) ?_
 simp only [Z7,Z0]
 refine Z14 (hLk _ (fun w7 Sw7 => ?_))
 clear hLk Lk
 simp only [Z1,Z2]
 replace M := M.sees Sw7
 refine Z13 (v := .string (bs (b ++ l))) (by rfl) (by rfl) (by rfl) ?_
 simp only [Z7,Z0]
 refine Z9 (Z10 ?_)
 refine hK5 _ _ ?_
 refine Z4 (fun K8 hK8 => ?_)
 refine wp_block ?_
 refine wp_loop_ghost (fun n9 a9 W9 => ∃ (r : List UInt8) (s : S8) (u9 : Nat → Value), n9 = r.length ∧ a9 = { tmps := #[.pointer (some ⟨g, 0, none⟩), .string (bs r), Z3, Z3, .pointer (some ⟨g, 0, none⟩), .pointer (some ⟨g, 0, none⟩), .pointer (some ⟨g, 0, none⟩), .pointer (some ⟨g, 9, none⟩), .int .u64 ((n : Nat) : Int), .string (bs l), .int .i64 ((l.length : Nat) : Int), .int .u64 ((l.length : Nat) : Int), .int .u64 (((n + l.length) % 18446744073709551616 : Nat) : Int), .pointer (some ⟨g, 0, none⟩), .pointer (some ⟨g, 0, none⟩), .pointer (some ⟨g, 9, none⟩), .pointer (some ⟨g, 0, none⟩), .pointer (some ⟨g, 0, none⟩), .pointer (some ⟨g, 0, none⟩), .pointer (some ⟨g, 8, none⟩), .string (bs b), .string (bs l), .string (bs (b ++ l)), u9 23, u9 24, u9 25, u9 26, u9 27, u9 28, u9 29, u9 30, Z3, Z3, Z3, Z3, Z3], defers := [] } ∧ Mem [g] w W9 [⟨g, 10, [(0, [.int .u32 ((s.a : Nat) : Int), .int .u32 ((s.b : Nat) : Int), .int .u32 ((s.c : Nat) : Int), .int .u32 ((s.d : Nat) : Int), .int .u32 ((s.e : Nat) : Int), .int .u32 ((s.f : Nat) : Int), .int .u32 ((s.g : Nat) : Int), .int .u32 ((s.h : Nat) : Int)]), (8, [.string (bs b)]), (9, [.int .u64 ((((n + l.length) % 18446744073709551616) : Nat) : Int)])]⟩] ∧ (s.Ok) ∧ (takeH s r = takeH h (b ++ l)) ∧ (takeR r = takeR (b ++ l))) ((b ++ l).length) ?_ (fun n9 a9 W9 hI => ?_)
 ·
  exact ⟨(b ++ l), h, (fun q9 => (#[Z3, Z3, Z3, Z3, Z3, Z3, Z3, Z3, Z3, Z3, Z3, Z3, Z3, Z3, Z3, Z3, Z3, Z3, Z3, Z3, Z3, Z3, Z3, Z3, Z3, Z3, Z3, Z3, Z3, Z3, Z3] : Array Value).getD q9 Z3), rfl, rfl, M, hh, rfl, rfl⟩
 clear M
 obtain ⟨r, s, u9, rfl, rfl, M, hs, hH, hR⟩ := hI
 obtain ⟨w10, rfl⟩ : ∃ W8, W8 = W9 := ⟨_, rfl⟩
 refine Z4 (fun K11 hK11 => ?_)
 refine Z4 (fun K12 hK12 => ?_)
 refine Z8 ?_
 refine Z12 (v := .string (bs r)) (by rfl) (by rfl) (by rfl) ?_
 simp only [Z7,Z0]
 refine Z11 2 (by rfl) (fun Lk hLk => ?_)
 simp only [Z1,Z2]
 refine wpV_lenS (by rfl) rfl rfl rfl Tryd.underlying9 ?_
 simp only [Z7,Z0]
 refine Z15 (v := .bool (decide (64 ≤ r.length))) (by rfl) rfl rfl rfl (fun W => run_geqN r.length 64 _ _ W) ?_
 simp only [Z7,Z0]
 refine Z14 (hLk _ (fun w14 Sw14 => ?_))
 clear hLk Lk
 simp only [Z1,Z2]
 replace M := M.sees Sw14
 refine Z9 (Z10 ?_)
 refine hK12 _ _ ?_
 cases hc15 : (decide (64 ≤ r.length))
 ·
  have h64 : ¬ 64 ≤ r.length := of_decide_eq_false hc15
  rw [takeH_done h64] at hH
  rw [takeR_done h64] at hR
  subst hH hR
  refine Z6 rfl ?_
  refine wp_exit ?_
  refine hK8 _ _ ?_
  refine Z8 ?_
  refine Z12 (v := .pointer (some ⟨g, 0, none⟩)) (by rfl) (by rfl) (by rfl) ?_
  simp only [Z7,Z0]
  refine Z12 (v := .string (bs (takeR (b ++ l)))) (by rfl) (by rfl) (by rfl) ?_
  simp only [Z7,Z0]
  refine Z11 3 (by rfl) (fun Lk hLk => ?_)
  simp only [Z1,Z2]
  refine wpV_nilCheck (by rfl) rfl rfl ?_
  simp only [Z7,Z0]
  refine Z19 (v := .pointer (some ⟨g, 0, none⟩)) (by rfl) (by rfl) (fun W hW => ?_) ?_
  ·
   (go_simp; exact rfl)
  simp only [Z7,Z0]
  refine Z19 (v := .pointer (some ⟨g, 8, none⟩)) (by rfl) (by rfl) (fun W hW => ?_) ?_
  ·
   (go_simp; exact rfl)
  simp only [Z7,Z0]
  refine Z14 (hLk _ (fun w17 Sw17 => ?_))
  clear hLk Lk
  simp only [Z1,Z2]
  replace M := M.sees Sw17
  refine Z18 (g := g) (off := 8) (n := 10) (v := .string (bs (takeR (b ++ l)))) (by rfl) (by rfl) (by rfl) (by rfl) (by rfl) (M.t 0 rfl) (by decide) info9 rfl (fun w18 P R T => ?_)
  replace M := M.putS (new := [.string (bs (takeR (b ++ l)))]) 0 1 rfl P R T rfl (by simp [SepS, flen])
  simp only [Z0] at M
  refine Z9 (Z10 ?_)
  repeat (first | with_reducible refine then_exit ?_ | with_reducible refine inblock_exit ?_)
  refine bodyPost_end (v := .tuple #[]) (results_none rfl _ _ _) rfl ?_
  exact ⟨_, rfl, rfl, M.pick [0] (by decide) rfl⟩
 ·
  have h64 : 64 ≤ r.length := of_decide_eq_true hc15
  refine Z5 rfl ?_
  refine wp_skip ?_
  refine hK11 _ _ ?_
  refine Z4 (fun K19 hK19 => ?_)
  refine wp_block ?_
  refine Z8 ?_
  refine Z12 (v := .pointer (some ⟨g, 0, none⟩)) (by rfl) (by rfl) (by rfl) ?_
  simp only [Z7,Z0]
  refine Z12 (v := .string (bs r)) (by rfl) (by rfl) (by rfl) ?_
  simp only [Z7,Z0]
  refine wpL_callM (f := 88) (args := #[.pointer (some ⟨g, 0, none⟩), .string (bs r)]) (R := fun v9 W9 => v9 = .tuple #[] ∧ Mem [g] w14 W9 [⟨g, 10, [(0, [.int .u32 (((mixS s r).a : Nat) : Int), .int .u32 (((mixS s r).b : Nat) : Int), .int .u32 (((mixS s r).c : Nat) : Int), .int .u32 (((mixS s r).d : Nat) : Int), .int .u32 (((mixS s r).e : Nat) : Int), .int .u32 (((mixS s r).f : Nat) : Int), .int .u32 (((mixS s r).g : Nat) : Int), .int .u32 (((mixS s r).h : Nat) : Int)]), (8, [.string (bs b)]), (9, [.int .u64 ((((n + l.length) % 18446744073709551616) : Nat) : Int)])]⟩]) (by rfl) (by rfl) rfl Tryd.func88 (by kernel_rfl) (by kernel_rfl) (mix_c (h := s) (l := r) hs h64 hg (M.oldL L0) (M.oldG R0_0 L0 (by simpa using Ne.symm hg)) (M.one 0 rfl)) (fun v9 w21 h9 => ?_)
  obtain ⟨rfl, M9⟩ := h9
  replace M := M.callM1 0 rfl M9
  simp only [Z0] at M
  simp only [Z7,Z0]
  refine Z9 (Z10 ?_)
  refine hK19 _ _ ?_
  refine Z8 ?_
  refine Z12 (v := .string (bs r)) (by rfl) (by rfl) (by rfl) ?_
  simp only [Z7,Z0]
  refine Z11 1 (by rfl) (fun Lk hLk => ?_)
  simp only [Z1,Z2]
  refine wpV_drop (l := r) (lo := 64) (by rfl) rfl rfl rfl Tryd.underlying9 h64 ?_
  simp only [Z7,Z0]
  refine Z14 (hLk _ (fun w23 Sw23 => ?_))
  clear hLk Lk
  simp only [Z1,Z2]
  replace M := M.sees Sw23
  refine Z13 (v := .string (bs (r.drop 64))) (by rfl) (by rfl) (by rfl) ?_
  simp only [Z7,Z0]
  refine Z9 (Z10 ?_)
  refine Exists.intro _ ⟨?_, (r.drop 64), (mixS s r), (fun q9 => (#[Z3, Z3, Z3, Z3, Z3, Z3, Z3, Z3, Z3, Z3, Z3, Z3, Z3, Z3, Z3, Z3, Z3, Z3, Z3, Z3, Z3, Z3, Z3, .string (bs r), .int .i64 ((r.length : Nat) : Int), .bool true, .string (bs r), .string (bs (r.drop 64)), .pointer (some ⟨g, 0, none⟩), .string (bs r), .tuple #[]] : Array Value).getD q9 Z3), rfl, rfl, M, (plus8_ok ..), ((takeH_more h64).symm.trans hH), ((takeR_more h64).symm.trans hR)⟩
  rw [List.length_drop]; omega
end Go.Proofs.Yb

namespace Go.Proofs
open Go.Shelf
def Tryd.lays169_ren : Go.Shelf.Ren := ⟨fun | 169 => 90 | n => n, fun | 70 => 106 | 9 => 9 | 0 => 0 | 72 => 108 | 37 => 35 | 127 => 121 | 3 => 3 | 5 => 5 | n => n, fun | n => n⟩
theorem Tryd.lays169 : Go.Proofs.Lays.n169 Tryd.prog Tryd.lays169_ren := {
 mixed := by kernel_rfl
 f169 := Tryd.func90.trans (congrArg some (by kernel_rfl))
 t0 := Tryd.underlying0
 a0 := Tryd.isAgg0
 z0 := Tryd.sizeOf0
 v0 := Tryd.zeroValue0
 t3 := Tryd.underlying3
 a3 := Tryd.isAgg3
 z3 := Tryd.sizeOf3
 v3 := Tryd.zeroValue3
 t9 := Tryd.underlying9
 a9 := Tryd.isAgg9
 z9 := Tryd.sizeOf9
 v9 := Tryd.zeroValue9
 t37 := Tryd.underlying35
 a37 := Tryd.isAgg35
 z37 := Tryd.sizeOf35
 v37 := Tryd.zeroValue35
 t70 := Tryd.underlying106
 a70 := Tryd.isAgg106
 z70 := Tryd.sizeOf106
 v70 := Tryd.zeroValue106
 t72 := Tryd.underlying108
 a72 := Tryd.isAgg108
 z72 := Tryd.sizeOf108
 v72 := Tryd.zeroValue108
 t127 := Tryd.underlying121
 a127 := Tryd.isAgg121
 z127 := Tryd.sizeOf121
 v127 := Tryd.zeroValue121 }
theorem Tryd.Builder_Extra_169 : Builder.Extra Tryd.prog Tryd.lays169_ren := {
 sizeBuilder := by kernel_rfl
 liesBuilder := by kernel_rfl
 t5 := Tryd.underlying5
 a5 := Tryd.isAgg5
 z5 := Tryd.sizeOf5
 v5 := Tryd.zeroValue5
 infoByte := by kernel_rfl
 cellsByte := by kernel_rfl
 sizeByte := by kernel_rfl
 neB5 := by decide }
open Go.RowKit in
/-- (*strings.Builder).String: "String returns the accumulated string.": OF A BUILDER THAT HOLDS AT LEAST ONE BYTE. ✋ THE MODEL FREEZES THOSE BYTES IN THE BUFFER (unsafe.String): a later write INTO them ends the model's run without an answer; a later append BEHIND them goes on. The statement's order of evaluation is drawn: one draw. (LAID: no walk: one application.) -/
theorem Tryd.Builder_String (B b : Nat) (l : List UInt8) (w : World) (h : Lib.IsBuilder 108 5 B b (Lib.byteCells l) w) (h0 : l ≠ []) :
  Calls Tryd.prog 90 #[.pointer (some ⟨b, 0, none⟩)] w fun e w' => e = .returned (.string ⟨l.toArray⟩) ∧ Below B w w' := Any.Builder_String Tryd.lays169 Tryd.Builder_Extra_169 B b l w h h0
open Go.RowKit in
/-- (*strings.Builder).String OF A BUILDER THAT HOLDS NO BYTE: the empty string. (Its buffer is nil, or a row of which it has taken nothing yet; where that row has NO capacity the model lays one new block for unsafe.SliceData's 'some address'.) One draw. (LAID: no walk: one application.) -/
theorem Tryd.Builder_String_empty (B b : Nat) (w : World) (h : Lib.IsBuilder 108 5 B b [] w) (hBw : B ≤ w.heap.size) :
  Calls Tryd.prog 90 #[.pointer (some ⟨b, 0, none⟩)] w fun e w' => e = .returned (.string ⟨#[]⟩) ∧ Below B w w' := Any.Builder_String_empty Tryd.lays169 Tryd.Builder_Extra_169 B b w h hBw
open Go.RowKit in
/-- (*strings.Builder).String: "String returns the accumulated string.": WHATEVER THE BUILDER HOLDS. (LAID: no walk: one application.) -/
theorem Tryd.Builder_String_any (B b : Nat) (l : List UInt8) (w : World) (h : Lib.IsBuilder 108 5 B b (Lib.byteCells l) w) (hBw : B ≤ w.heap.size) :
  Calls Tryd.prog 90 #[.pointer (some ⟨b, 0, none⟩)] w fun e w' => e = .returned (.string ⟨l.toArray⟩) ∧ Below B w w' := Any.Builder_String_any Tryd.lays169 Tryd.Builder_Extra_169 B b l w h hBw
def Tryd.lays125_ren : Go.Shelf.Ren := ⟨fun | 125 => 95 | 128 => 107 | 129 => 108 | n => n, fun | 46 => 116 | 3 => 3 | 51 => 25 | 53 => 27 | 4 => 4 | 5 => 5 | 9 => 9 | n => n, fun | n => n⟩
theorem Tryd.lays125 : Go.Proofs.Lays.n125 Tryd.prog Tryd.lays125_ren := {
 mixed := by kernel_rfl
 f125 := Tryd.func95.trans (congrArg some (by kernel_rfl))
 f128 := Tryd.func107.trans (congrArg some (by kernel_rfl))
 f129 := Tryd.func108.trans (congrArg some (by kernel_rfl))
 t3 := Tryd.underlying3
 a3 := Tryd.isAgg3
 z3 := Tryd.sizeOf3
 v3 := Tryd.zeroValue3
 t4 := Tryd.underlying4
 a4 := Tryd.isAgg4
 z4 := Tryd.sizeOf4
 v4 := Tryd.zeroValue4
 t5 := Tryd.underlying5
 a5 := Tryd.isAgg5
 z5 := Tryd.sizeOf5
 v5 := Tryd.zeroValue5
 t9 := Tryd.underlying9
 a9 := Tryd.isAgg9
 z9 := Tryd.sizeOf9
 v9 := Tryd.zeroValue9
 t46 := Tryd.underlying116
 a46 := Tryd.isAgg116
 z46 := Tryd.sizeOf116
 v46 := Tryd.zeroValue116
 t51 := Tryd.underlying25
 a51 := Tryd.isAgg25
 z51 := Tryd.sizeOf25
 v51 := Tryd.zeroValue25
 t53 := Tryd.underlying27
 a53 := Tryd.isAgg27
 z53 := Tryd.sizeOf27
 v53 := Tryd.zeroValue27 }
/-- bits.Len: "Len returns the minimum number of bits required to represent x; the result is 0 for x == 0.": IT RETURNS 'Lib.bitLen x'; the world is as it was. (A uint has 64 bits in the model.) ITS CALLEE bits.Len64 IS MET BY ITS OWN CONTRACT OFF THE SHELF (lay that first). (LAID: no walk: one application.) -/
theorem Tryd.bits_Len (x : Int) (w : World) (h0 : 0 ≤ x) (h1 : x ≤ 18446744073709551615) :
  Calls Tryd.prog 95 #[.int .u64 x] w fun e w' => e = .returned (.int .i64 (Lib.bitLen x.toNat)) ∧ w' = w := Any.bits_Len Tryd.lays125 x w h0 h1
def Tryd.laysNm217_ren : Go.Shelf.Ren := ⟨fun | 17 => 79 | n => n, fun | 24 => 48 | 9 => 9 | 3 => 3 | 4 => 4 | 0 => 0 | n => n, fun | n => n⟩
theorem Tryd.laysNm217 : Go.Proofs.Lays2.n17 Tryd.prog Tryd.laysNm217_ren := {
 mixed := by kernel_rfl
 f17 := Tryd.func79.trans (congrArg some (by kernel_rfl))
 t0 := Tryd.underlying0
 a0 := Tryd.isAgg0
 z0 := Tryd.sizeOf0
 v0 := Tryd.zeroValue0
 t3 := Tryd.underlying3
 a3 := Tryd.isAgg3
 z3 := Tryd.sizeOf3
 v3 := Tryd.zeroValue3
 t4 := Tryd.underlying4
 a4 := Tryd.isAgg4
 z4 := Tryd.sizeOf4
 v4 := Tryd.zeroValue4
 t9 := Tryd.underlying9
 a9 := Tryd.isAgg9
 z9 := Tryd.sizeOf9
 v9 := Tryd.zeroValue9
 t24 := Tryd.underlying48
 a24 := Tryd.isAgg48
 z24 := Tryd.sizeOf48
 v24 := Tryd.zeroValue48 }
open Go.RowKit Go.Lib Go.Sort in
/-- slices.Reverse at []string, over an array: Go's loop from the two ends inward is walked; it makes 'Sort.reverseLoop 0 (len - 1)', which is 'Array.reverse' (Derived/Lib/SlicesMore.lean). (LAID: no walk: one application.) -/
theorem Tryd.slices_Reverse_string_arr (blk off cap : Nat) (d : Array (List UInt8)) (w : World) (hH : Holds encStr w blk off d) (hsz : d.size ≤ 9223372036854775807) :
  Calls Tryd.prog 79 #[.slice (some ⟨blk, off, none⟩) d.size cap] w fun e w' => e = .returned (.tuple #[]) ∧ ∃ n, w' = putRow encStr (Sort.ahead w n) blk off d.reverse := Any.slices_Reverse_string_arr Tryd.laysNm217 blk off cap d w hH hsz
open Go.RowKit Go.Lib Go.Sort in
/-- slices.Reverse at []string: "Reverse reverses the elements of the slice in place.": THE SLICE's CELLS HOLD 'zs.reverse' BEHIND THE CALL; all else is as it was, but for the count of draws (the exchange 's[i], s[j] = s[j], s[i]' draws its order, once a round). IN THE WORDS OF slices.Sort's CONTRACT: 'Holds': the cells hold zs and none is frozen; 'putRow': the world with those cells holding another array. A slice of length 0 that is not nil is among them ('zs = []'); nil: '.._nil'. (LAID: no walk: one application.) -/
theorem Tryd.slices_Reverse_string (blk off cap : Nat) (zs : List (List UInt8)) (w : World) (hH : Holds encStr w blk off zs.toArray) (hsz : zs.length ≤ 9223372036854775807) :
  Calls Tryd.prog 79 #[.slice (some ⟨blk, off, none⟩) zs.length cap] w fun e w' => e = .returned (.tuple #[]) ∧ ∃ n, w' = putRow encStr (Sort.ahead w n) blk off zs.reverse.toArray := Any.slices_Reverse_string Tryd.laysNm217 blk off cap zs w hH hsz
open Go.RowKit Go.Lib Go.Sort in
/-- The same at a slice of length 0, a nil one too: nothing is read, nothing written, nothing drawn. (LAID: no walk: one application.) -/
theorem Tryd.slices_Reverse_string_empty (a : Option Addr) (cap : Nat) (w : World) :
  Calls Tryd.prog 79 #[.slice a 0 cap] w fun e w' => e = .returned (.tuple #[]) ∧ w' = w := Any.slices_Reverse_string_empty Tryd.laysNm217 a cap w
open Go.RowKit Go.Lib Go.Sort in
/-- slices.Reverse at []string, of an argument. (LAID: no walk: one application.) -/
theorem Tryd.slices_Reverse_string_cells (b off n c : Nat) (Sx : Nat → ByteArray) (w : World) (hbig : n ≤ 9223372036854775807) (hc : ∀ i, i < n → w.cell? ⟨b, off + i, none⟩ = some (.string (Sx i))) (hf : ∀ j, j < n → w.frozen? ⟨b, off + j, none⟩ = false) :
  Calls Tryd.prog 79 #[.slice (some ⟨b, off, none⟩) n c] w fun e w' => e = .returned (.tuple #[]) ∧ ∃ q, w' = (w.drewN q).setCells b off ((Lib.strsOf Sx n).reverse.map encStr) := Any.slices_Reverse_string_cells Tryd.laysNm217 b off n c Sx w hbig hc hf
end Go.Proofs

namespace Go.Proofs.Yb
open Go Go.RowKit Go.Shelf Go.Proofs.Num
open List renaming set → Z0, take → Z1, drop → Z2
open Go renaming undef → Z3, wp_seq_k → Z4, wp_cond_true → Z5, wp_cond_false → Z6
open Go.Proofs.Num renaming putT → Z7, wp_region_seq → Z8, wpL_nil → Z9, no_panic → Z10, wpL_chunk → Z11, wpL_move → Z12, wpL_assign → Z13, wpV_nil → Z14, wpV_bin → Z15, wpV_move → Z16, then_normal → Z17, wpL_store1 → Z18, wpV_val → Z19, wpV_callf → Z20
set_option maxHeartbeats 1000000 in
set_option maxRecDepth 100000 in
theorem copyCheck_used (b : Nat) (w : World) (h0 : w.cell? ⟨b, 0, none⟩ = some (.pointer (some ⟨b, 0, none⟩))) :
  Calls Tryd.prog 106 #[.pointer (some ⟨b, 0, none⟩)] w fun e w' => e = .returned (.tuple #[]) ∧ w' = w := by
 obtain ⟨j, hj, _⟩ := Option.map_eq_some_iff.1 (show (Tryd.prog.info? 108).map (·.size) = some 2 by kernel_rfl)
 have mixed : Tryd.prog.follows .mixedOrders = true := by kernel_rfl
 have t108 := Tryd.underlying108; have a108 := Tryd.isAgg108; have z108 := Tryd.sizeOf108; have v108 := Tryd.zeroValue108; have u108 := run_underlying Tryd.underlying108
 have t106 := Tryd.underlying106; have a106 := Tryd.isAgg106; have z106 := Tryd.sizeOf106; have v106 := Tryd.zeroValue106; have u106 := run_underlying Tryd.underlying106
 have t9 := Tryd.underlying9; have a9 := Tryd.isAgg9; have z9 := Tryd.sizeOf9; have v9 := Tryd.zeroValue9; have u9 := run_underlying Tryd.underlying9
 have t4 := Tryd.underlying4; have a4 := Tryd.isAgg4; have z4 := Tryd.sizeOf4; have v4 := Tryd.zeroValue4; have u4 := run_underlying Tryd.underlying4
 have t126 := Tryd.underlying126; have a126 := Tryd.isAgg126; have z126 := Tryd.sizeOf126; have v126 := Tryd.zeroValue126; have u126 := run_underlying Tryd.underlying126
 go_enter Tryd.func106, Tryd.ntmps106
 go_wp2
 rw [Lib.run_neq_ptr_same w _ Tryd.underlying106 hj]
 go_wp2
 go_end0
 exact ⟨rfl, rfl⟩
set_option maxHeartbeats 1000000 in
set_option maxRecDepth 100000 in
theorem copyCheck_fresh (b : Nat) (w : World) (h0 : w.cell? ⟨b, 0, none⟩ = some (.pointer none)) (hsh : w.shape? b = some (108, 2)) (hfz : w.frozen? ⟨b, 0, none⟩ = false) :
  Calls Tryd.prog 106 #[.pointer (some ⟨b, 0, none⟩)] w fun e w' => e = .returned (.tuple #[]) ∧ w' = w.setCell ⟨b, 0, none⟩ (.pointer (some ⟨b, 0, none⟩)) := by
 obtain ⟨j, hj, hjs⟩ := Option.map_eq_some_iff.1 (show (Tryd.prog.info? 108).map (·.size) = some 2 by kernel_rfl)
 have mixed : Tryd.prog.follows .mixedOrders = true := by kernel_rfl
 have t108 := Tryd.underlying108; have a108 := Tryd.isAgg108; have z108 := Tryd.sizeOf108; have v108 := Tryd.zeroValue108; have u108 := run_underlying Tryd.underlying108
 have t106 := Tryd.underlying106; have a106 := Tryd.isAgg106; have z106 := Tryd.sizeOf106; have v106 := Tryd.zeroValue106; have u106 := run_underlying Tryd.underlying106
 have t9 := Tryd.underlying9; have a9 := Tryd.isAgg9; have z9 := Tryd.sizeOf9; have v9 := Tryd.zeroValue9; have u9 := run_underlying Tryd.underlying9
 have t4 := Tryd.underlying4; have a4 := Tryd.isAgg4; have z4 := Tryd.sizeOf4; have v4 := Tryd.zeroValue4; have u4 := run_underlying Tryd.underlying4
 have t126 := Tryd.underlying126; have a126 := Tryd.isAgg126; have z126 := Tryd.sizeOf126; have v126 := Tryd.zeroValue126; have u126 := run_underlying Tryd.underlying126
 go_enter Tryd.func106, Tryd.ntmps106
 go_wp2
 rw [Lib.run_to_unsafe w ⟨b, 0, none⟩ Tryd.underlying106 Tryd.underlying126 hj (by rw [hjs]; decide) hsh (Nat.zero_lt_succ 1)]
 simp only [Result.andThen]
 rw [Oper.upon_value]
 go_wp2
 rw [run_callFunc_extern Tryd.func113 (by kernel_rfl) (by kernel_rfl) (by kernel_rfl) (e := Extern.AbiNoEscape.same) (by kernel_rfl)]
 rw [Lib.run_noEscape]
 simp only [Result.andThen]
 rw [Oper.upon_value]
 go_wp2
 rw [Lib.run_from_unsafe w ⟨b, 0, none⟩ Tryd.underlying126 Tryd.underlying106 hj hsh (by kernel_rfl)]
 simp only [Result.andThen]
 rw [Oper.upon_value]
 go_wp2
 go_end0
 exact ⟨rfl, rfl⟩
theorem copyCheck_c (B b : Nat) (bs : List Value) (w : World) (h : Lib.IsBuilder 108 5 B b bs w) :
  Calls Tryd.prog 106 #[.pointer (some ⟨b, 0, none⟩)] w fun e w' => e = .returned (.tuple #[]) ∧ (Lib.BuilderAt 108 5 B b (.pointer (some ⟨b, 0, none⟩)) bs w' ∧ Below B w w') := by
 rcases h with h | h
 ·
  refine (copyCheck_fresh b w h.cell0 h.shape h.frozen0).mono ?_
  rintro e w' ⟨rfl, rfl⟩
  exact ⟨rfl, h.used _, (Below.refl B w).setCell (p := ⟨b, 0, none⟩) h.1 _⟩
 ·
  refine (copyCheck_used b w h.cell0).mono ?_
  rintro e w' ⟨rfl, rfl⟩
  exact ⟨rfl, h, Below.refl B _⟩
theorem isB_sees {T e : TypeId} {B b : Nat} {bs : List Value} {w W : World} (h : Lib.IsBuilder T e B b bs w) (hS : Sees w W) : Lib.IsBuilder T e B b bs W := by
 have key : ∀ p, Lib.BuilderAt T e B b p bs w → Lib.BuilderAt T e B b p bs W := by
  intro p h
  have hlt := h.lt
  obtain ⟨hB, v, hb, ⟨hl, hr⟩, hne⟩ := h
  refine ⟨hB, v, (hS.2.2.block b hlt).trans hb, ⟨hl, ?_⟩, hne⟩
  rcases hr with hr | ⟨g, cap, cur, hv, hg, hc, hrest⟩
  ·
   exact .inl hr
  ·
   refine .inr ⟨g, cap, cur, hv, hg, ?_, hrest⟩
   have hg2 : g < w.heap.size := by
    rcases Nat.lt_or_ge g w.heap.size with h' | h'
    ·
     exact h'
    ·
     simp [Array.getElem?_eq_none h'] at hc
   exact (hS.2.2.block g hg2).trans hc
 rcases h with h | h
 ·
  exact .inl (key _ h)
 ·
  exact .inr (key _ h)
set_option maxHeartbeats 2000000 in
set_option maxRecDepth 100000 in
theorem writeByte_c (B b : Nat) (bs : List Value) (c : Int) (w : World) (h : Lib.IsBuilder 108 5 B b bs w) (hlen : bs.length + 1 ≤ 140737488355328) (hBw : B ≤ w.heap.size) :
  Calls Tryd.prog 89 #[.pointer (some ⟨b, 0, none⟩), .int .u8 c] w fun e w' => e = .returned .nilIface ∧ (Lib.BuilderAt 108 5 B b (.pointer (some ⟨b, 0, none⟩)) (bs ++ [.int .u8 c]) w' ∧ Below B w w') := by
 obtain ⟨i0, hi, hz0, hz1, hz2⟩ := info_parts (show (Tryd.prog.info? 5).map (fun i => (i.zero, i.size, i.bytes)) = some (some (.int .u8 0), 1, 1) by kernel_rfl)
 have mixed : Tryd.prog.follows .mixedOrders = true := by kernel_rfl
 have t108 := Tryd.underlying108; have a108 := Tryd.isAgg108; have z108 := Tryd.sizeOf108; have v108 := Tryd.zeroValue108; have u108 := run_underlying Tryd.underlying108
 have t106 := Tryd.underlying106; have a106 := Tryd.isAgg106; have z106 := Tryd.sizeOf106; have v106 := Tryd.zeroValue106; have u106 := run_underlying Tryd.underlying106
 have t5 := Tryd.underlying5; have a5 := Tryd.isAgg5; have z5 := Tryd.sizeOf5; have v5 := Tryd.zeroValue5; have u5 := run_underlying Tryd.underlying5
 have t35 := Tryd.underlying35; have a35 := Tryd.isAgg35; have z35 := Tryd.sizeOf35; have v35 := Tryd.zeroValue35; have u35 := run_underlying Tryd.underlying35
 have t9 := Tryd.underlying9; have a9 := Tryd.isAgg9; have z9 := Tryd.sizeOf9; have v9 := Tryd.zeroValue9; have u9 := run_underlying Tryd.underlying9
 have t4 := Tryd.underlying4; have a4 := Tryd.isAgg4; have z4 := Tryd.sizeOf4; have v4 := Tryd.zeroValue4; have u4 := run_underlying Tryd.underlying4
 have t126 := Tryd.underlying126; have a126 := Tryd.isAgg126; have z126 := Tryd.sizeOf126; have v126 := Tryd.zeroValue126; have u126 := run_underlying Tryd.underlying126
 have ecc : ∀ args w, (callFunc 106 args).run Tryd.prog w = .ok (.enter 106 args) w := enters_of Tryd.func106 (by kernel_rfl) rfl
 go_enter Tryd.func89, Tryd.ntmps89
 go_wp2_with (go_at_fn 106; refine (copyCheck_c B b bs _ h).mono ?_)
 rintro e w1 ⟨rfl, h1, hb1⟩
 obtain ⟨hB, v, hbk, hown, hne⟩ := h1
 have c0 : w1.cell? ⟨b, 0, none⟩ = some (.pointer (some ⟨b, 0, none⟩)) := by rw [Lib.cell_of_heap hbk]; rfl
 have c1 : w1.cell? ⟨b, 1, none⟩ = some v := by rw [Lib.cell_of_heap hbk]; rfl
 go_wp2_with (at_builtin; refine wpList_append_own _ rfl _ _ 35 rfl B 5 i0 (.int .u8 0) 1 1 Tryd.underlying35 hi hz0 hz1 hz2 rfl (by decide) _ _ _ rfl (hown.alloc _) ⟨w1.heap.size, 0, none⟩ 1 1 [.int .u8 c] rfl rfl ?c1 ?c2 ?c3 ?c4 ?c5 ?_)
 case c1 =>
  intro j u hj
  match j, hj with
  | 0, hj => simp at hj; subst hj; simp [Addr.add]
 case c2 => intro u hu; simp at hu; subst hu; rfl
 case c3 => unfold maxLen; omega
 case c4 => omega
 case c5 => have := hb1.size; simp; omega
 intro v' w2 hown' hgrow _
 have hlt : b < w1.heap.size := by
  rcases Nat.lt_or_ge b w1.heap.size with h' | h'
  ·
   exact h'
  ·
   simp [Array.getElem?_eq_none h'] at hbk
 have hb2 : w2.heap[b]? = some (.cells #[.pointer (some ⟨b, 0, none⟩), v] 108 (0, 0)) := by
  rw [hgrow.block b (by simp; omega) (fun e => hne e.symm), Lib.alloc_old w1 _ b hlt]
  exact hbk
 have d0 : w2.cell? ⟨b, 0, none⟩ = some (.pointer (some ⟨b, 0, none⟩)) := by rw [Lib.cell_of_heap hb2]; rfl
 have d1 : w2.cell? ⟨b, 1, none⟩ = some v := by rw [Lib.cell_of_heap hb2]; rfl
 have f1 : w2.frozen? ⟨b, 1, none⟩ = false := Lib.frozen_of_heap hb2 1
 obtain ⟨g, cap, rfl⟩ : ∃ g cap, v' = .slice (some ⟨g, 0, none⟩) (bs.length + 1) cap := by
  rcases hown'.2 with ⟨_, h0⟩ | ⟨g, cap, cur, hv, _⟩
  ·
   omega
  ·
   exact ⟨g, cap, hv⟩
 go_wp2
 go_ret
 refine ⟨rfl, ?_, ?_⟩
 ·
  exact Lib.BuilderAt.put (T := 108) (e := 5) hB hb2 (bs' := bs ++ [.int .u8 c]) (by simpa using hown') (by decide)
 ·
  exact ((hb1.alloc (by have := hb1.size; omega) _).grown hgrow (by have := hb1.size; simp; omega) (fun k hk => (hown.lt k hk).1)).setCell (p := ⟨b, 1, none⟩) hB _
end Go.Proofs.Yb

