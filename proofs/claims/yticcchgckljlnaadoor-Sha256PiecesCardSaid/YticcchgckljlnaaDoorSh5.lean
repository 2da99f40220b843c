import Derived.WalkKit
import Derived.WalkSpells
import Derived.Laws.Pointers
import Derived.RowKit3
import Derived.Below
import Derived.Outline
import Derived.LoopN
import Derived.Lib.Hide
import Derived.Handy
import Derived.Laws.Bits64b
import Derived.Test.YticcchgckljlnaaDoorRf3
import Derived.Test.YticcchgckljlnaaDoorSha5
import Derived.Test.YticcchgckljlnaaDoorEqS
import Derived.Test.YticcchgckljlnaaDoorRowa
set_option linter.unusedSimpArgs false
set_option linter.unusedVariables false
namespace Go.Proofs.Yb
open Go Go.RowKit Go.Proofs.Num
attribute [local irreducible] wpV wpN wpList
theorem eq_sumF (h u : S8) (b c : List UInt8) (n m : Nat) : FieldsEq Tryd.prog 2 ([.int .u32 ((h.a : Nat) : Int), .int .u32 ((h.b : Nat) : Int), .int .u32 ((h.c : Nat) : Int), .int .u32 ((h.d : Nat) : Int), .int .u32 ((h.e : Nat) : Int), .int .u32 ((h.f : Nat) : Int), .int .u32 ((h.g : Nat) : Int), .int .u32 ((h.h : Nat) : Int)] ++ [.string (bs b)] ++ [.int .u64 ((n : Nat) : Int)] : List Value).toArray ([.int .u32 ((u.a : Nat) : Int), .int .u32 ((u.b : Nat) : Int), .int .u32 ((u.c : Nat) : Int), .int .u32 ((u.d : Nat) : Int), .int .u32 ((u.e : Nat) : Int), .int .u32 ((u.f : Nat) : Int), .int .u32 ((u.g : Nat) : Int), .int .u32 ((u.h : Nat) : Int)] ++ [.string (bs c)] ++ [.int .u64 ((m : Nat) : Int)] : List Value).toArray [(false, 26, 0), (false, 9, 8), (false, 27, 9)] [decide (h = u), decide (b = c), decide (n = m)] := by
  refine ⟨rfl, ⟨.agg ([.int .u32 ((h.a : Nat) : Int), .int .u32 ((h.b : Nat) : Int), .int .u32 ((h.c : Nat) : Int), .int .u32 ((h.d : Nat) : Int), .int .u32 ((h.e : Nat) : Int), .int .u32 ((h.f : Nat) : Int), .int .u32 ((h.g : Nat) : Int), .int .u32 ((h.h : Nat) : Int)] : List Value).toArray, .agg ([.int .u32 ((u.a : Nat) : Int), .int .u32 ((u.b : Nat) : Int), .int .u32 ((u.c : Nat) : Int), .int .u32 ((u.d : Nat) : Int), .int .u32 ((u.e : Nat) : Int), .int .u32 ((u.f : Nat) : Int), .int .u32 ((u.g : Nat) : Int), .int .u32 ((u.h : Nat) : Int)] : List Value).toArray, (fun W => run_part_row Tryd.underlying26 rfl info26 rfl W), (fun W => run_part_row Tryd.underlying26 rfl info26 rfl W), ?_⟩, rfl, ⟨_, _, (fun W => run_part_one Tryd.underlying9 rfl rfl W), (fun W => run_part_one Tryd.underlying9 rfl rfl W), ?_⟩, rfl, ⟨_, _, (fun W => run_part_one Tryd.underlying27 rfl rfl W), (fun W => run_part_one Tryd.underlying27 rfl rfl W), ?_⟩, trivial⟩
  · exact (eq_arr Tryd.underlying26 Tryd.underlying25 info25 [((h.a : Nat) : Int), ((h.b : Nat) : Int), ((h.c : Nat) : Int), ((h.d : Nat) : Int), ((h.e : Nat) : Int), ((h.f : Nat) : Int), ((h.g : Nat) : Int), ((h.h : Nat) : Int)] [((u.a : Nat) : Int), ((u.b : Nat) : Int), ((u.c : Nat) : Int), ((u.d : Nat) : Int), ((u.e : Nat) : Int), ((u.f : Nat) : Int), ((u.g : Nat) : Int), ((u.h : Nat) : Int)] rfl rfl).bool (s8_dec _ _)
  · exact (eq_str Tryd.underlying9 b c).up (by decide)
  · exact (eq_int Tryd.underlying27 n m).up (by decide)
theorem eq_sum (h u : S8) (b c : List UInt8) (n m : Nat) : EqD Tryd.prog 3 29 (.agg ([.int .u32 ((h.a : Nat) : Int), .int .u32 ((h.b : Nat) : Int), .int .u32 ((h.c : Nat) : Int), .int .u32 ((h.d : Nat) : Int), .int .u32 ((h.e : Nat) : Int), .int .u32 ((h.f : Nat) : Int), .int .u32 ((h.g : Nat) : Int), .int .u32 ((h.h : Nat) : Int)] ++ [.string (bs b)] ++ [.int .u64 ((n : Nat) : Int)] : List Value).toArray) (.agg ([.int .u32 ((u.a : Nat) : Int), .int .u32 ((u.b : Nat) : Int), .int .u32 ((u.c : Nat) : Int), .int .u32 ((u.d : Nat) : Int), .int .u32 ((u.e : Nat) : Int), .int .u32 ((u.f : Nat) : Int), .int .u32 ((u.g : Nat) : Int), .int .u32 ((u.h : Nat) : Int)] ++ [.string (bs c)] ++ [.int .u64 ((m : Nat) : Int)] : List Value).toArray) (decide (h = u) && (decide (b = c) && decide (n = m))) :=
  (eq_struct (k := 2) (fs := [(false, 26, 0), (false, 9, 8), (false, 27, 9)]) (bs := [decide (h = u), decide (b = c), decide (n = m)]) Tryd.underlying29 (by kernel_rfl) (by rfl) (eq_sumF h u b c n m)).bool (by simp only [List.all_cons, List.all_nil, id, Bool.and_true])
theorem eq_sum_same (h : S8) (b : List UInt8) (n : Nat) : EqD Tryd.prog 3 29 (.agg ([.int .u32 ((h.a : Nat) : Int), .int .u32 ((h.b : Nat) : Int), .int .u32 ((h.c : Nat) : Int), .int .u32 ((h.d : Nat) : Int), .int .u32 ((h.e : Nat) : Int), .int .u32 ((h.f : Nat) : Int), .int .u32 ((h.g : Nat) : Int), .int .u32 ((h.h : Nat) : Int)] ++ [.string (bs b)] ++ [.int .u64 ((n : Nat) : Int)] : List Value).toArray) (.agg ([.int .u32 ((h.a : Nat) : Int), .int .u32 ((h.b : Nat) : Int), .int .u32 ((h.c : Nat) : Int), .int .u32 ((h.d : Nat) : Int), .int .u32 ((h.e : Nat) : Int), .int .u32 ((h.f : Nat) : Int), .int .u32 ((h.g : Nat) : Int), .int .u32 ((h.h : Nat) : Int)] ++ [.string (bs b)] ++ [.int .u64 ((n : Nat) : Int)] : List Value).toArray) true := (eq_sum h h b b n n).bool (by simp)
theorem eq_sum_zero : EqD Tryd.prog 3 29 (.agg ([.int .u32 ((zeroX.h.a : Nat) : Int), .int .u32 ((zeroX.h.b : Nat) : Int), .int .u32 ((zeroX.h.c : Nat) : Int), .int .u32 ((zeroX.h.d : Nat) : Int), .int .u32 ((zeroX.h.e : Nat) : Int), .int .u32 ((zeroX.h.f : Nat) : Int), .int .u32 ((zeroX.h.g : Nat) : Int), .int .u32 ((zeroX.h.h : Nat) : Int)] ++ [.string (bs zeroX.b)] ++ [.int .u64 ((zeroX.n : Nat) : Int)] : List Value).toArray) (.agg ([.int .u32 0, .int .u32 0, .int .u32 0, .int .u32 0, .int .u32 0, .int .u32 0, .int .u32 0, .int .u32 0, .string { data := #[] }, .int .u64 0] : List Value).toArray) true := eq_sum_same zeroX.h zeroX.b zeroX.n
set_option maxHeartbeats 1000000 in
theorem xright_c {x : SX} {w : World} (hx : x.Ok) :
    Calls Tryd.prog 32 #[.agg ([.int .u32 ((x.h.a : Nat) : Int), .int .u32 ((x.h.b : Nat) : Int), .int .u32 ((x.h.c : Nat) : Int), .int .u32 ((x.h.d : Nat) : Int), .int .u32 ((x.h.e : Nat) : Int), .int .u32 ((x.h.f : Nat) : Int), .int .u32 ((x.h.g : Nat) : Int), .int .u32 ((x.h.h : Nat) : Int)] ++ [.string (bs x.b)] ++ [.int .u64 ((x.n : Nat) : Int)] : List Value).toArray] w fun e w' => e = .returned (.bool (rightX x)) ∧ Below w.heap.size w w' := by
  have hb := hx.b
  go_enter Tryd.func32, Tryd.ntmps32
  have M := Mem.start w
  refine wp_seq_k (fun K1 hK1 => ?_)
  refine wp_region_seq ?_
  refine wpL_var (t := 29) (cs := [.int .u32 ((x.h.a : Nat) : Int), .int .u32 ((x.h.b : Nat) : Int), .int .u32 ((x.h.c : Nat) : Int), .int .u32 ((x.h.d : Nat) : Int), .int .u32 ((x.h.e : Nat) : Int), .int .u32 ((x.h.f : Nat) : Int), .int .u32 ((x.h.g : Nat) : Int), .int .u32 ((x.h.h : Nat) : Int)] ++ [.string (bs x.b)] ++ [.int .u64 ((x.n : Nat) : Int)]) (by rfl) (fun W => ?_) (fun g3 w4 Sw4 Hg3 Bg3 => ?_)
  · (first | rfl | go_simp)
  replace M := ((M.sees Sw4).addS (N := 10) (cs := [.int .u32 ((x.h.a : Nat) : Int), .int .u32 ((x.h.b : Nat) : Int), .int .u32 ((x.h.c : Nat) : Int), .int .u32 ((x.h.d : Nat) : Int), .int .u32 ((x.h.e : Nat) : Int), .int .u32 ((x.h.f : Nat) : Int), .int .u32 ((x.h.g : Nat) : Int), .int .u32 ((x.h.h : Nat) : Int)] ++ [.string (bs x.b)] ++ [.int .u64 ((x.n : Nat) : Int)]) (segs := [(0, [.int .u32 ((x.h.a : Nat) : Int), .int .u32 ((x.h.b : Nat) : Int), .int .u32 ((x.h.c : Nat) : Int), .int .u32 ((x.h.d : Nat) : Int), .int .u32 ((x.h.e : Nat) : Int), .int .u32 ((x.h.f : Nat) : Int), .int .u32 ((x.h.g : Nat) : Int), .int .u32 ((x.h.h : Nat) : Int)]), (8, [.string (bs x.b)]), (9, [.int .u64 ((x.n : Nat) : Int)])]) (M.ge Hg3) (M.fresh Hg3) Bg3 (by simp [flen]) ⟨rfl, rfl, rfl, trivial⟩)
  clear Bg3
  simp only [putT, List.set]
  refine wpL_assign (v := .bool false) (by rfl) (by rfl) (by rfl) ?_
  simp only [putT, List.set]
  refine wpL_nil (no_panic ?_)
  refine hK1 _ _ ?_
  refine wp_seq_k (fun K5 hK5 => ?_)
  cases hg6 : (decide (x.b.length < 64))
  · skip
    refine wp_region_seq ?_
    refine wpL_chunk 19 (by rfl) (fun Lk hLk => ?_)
    simp only [List.take, List.drop]
    refine wpV_val (v := .pointer (some ⟨g3, 8, none⟩)) (by rfl) (by rfl) (fun W hW => ?_) ?_
    · (go_simp; exact rfl)
    simp only [putT, List.set]
    refine wpV_load1 (v := .string (bs x.b)) (by rfl) rfl rfl (range_one (M.r 0 1 rfl rfl)) (M.lt 0 rfl) Tryd.underlying9 rfl ?_
    simp only [putT, List.set]
    refine wpV_lenS (by rfl) rfl rfl rfl Tryd.underlying9 ?_
    simp only [putT, List.set]
    refine wpV_bin (v := .bool false) (by rfl) rfl rfl rfl (fun W => (run_lssN x.b.length 64 _ _ W).trans (by rw [hg6])) ?_
    simp only [putT, List.set]
    refine wpV_move (v := .bool false) (by rfl) rfl rfl ?_
    simp only [putT, List.set]
    refine wpV_skip (by rfl) (by rfl) ?_
    simp only [putT, List.set]
    refine wpV_skip (by rfl) (by rfl) ?_
    simp only [putT, List.set]
    refine wpV_skip (by rfl) (by rfl) ?_
    simp only [putT, List.set]
    refine wpV_pick (v := .bool false) (by rfl) rfl rfl rfl ?_
    simp only [putT, List.set]
    refine wpV_move (v := .bool false) (by rfl) rfl rfl ?_
    simp only [putT, List.set]
    refine wpV_skip (by rfl) (by rfl) ?_
    simp only [putT, List.set]
    refine wpV_skip (by rfl) (by rfl) ?_
    simp only [putT, List.set]
    refine wpV_skip (by rfl) (by rfl) ?_
    simp only [putT, List.set]
    refine wpV_skip (by rfl) (by rfl) ?_
    simp only [putT, List.set]
    refine wpV_skip (by rfl) (by rfl) ?_
    simp only [putT, List.set]
    refine wpV_skip (by rfl) (by rfl) ?_
    simp only [putT, List.set]
    refine wpV_skip (by rfl) (by rfl) ?_
    simp only [putT, List.set]
    refine wpV_skip (by rfl) (by rfl) ?_
    simp only [putT, List.set]
    refine wpV_pick (v := .bool false) (by rfl) rfl rfl rfl ?_
    simp only [putT, List.set]
    refine wpV_nil (hLk _ (fun w8 Sw8 => ?_))
    clear hLk Lk
    simp only [List.take, List.drop]
    replace M := M.sees Sw8
    refine wpL_assign (v := .bool false) (by rfl) (by rfl) (by rfl) ?_
    simp only [putT, List.set]
    refine wpL_nil (no_panic ?_)
    refine hK5 _ _ ?_
    refine wp_ret ?_
    repeat (first | with_reducible refine then_ret ?_ | with_reducible refine inblock_ret ?_)
    refine bodyPost_ret (v := .bool false) (res1 rfl (.tmp (by rfl))) rfl ?_
    have BE := M.below
    exact ⟨by unfold rightX; rw [hg6]; rfl, BE⟩
  · skip
    cases hg9 : (decide (x.n ≤ 1099511627776))
    · skip
      refine wp_region_seq ?_
      refine wpL_chunk 19 (by rfl) (fun Lk hLk => ?_)
      simp only [List.take, List.drop]
      refine wpV_val (v := .pointer (some ⟨g3, 8, none⟩)) (by rfl) (by rfl) (fun W hW => ?_) ?_
      · (go_simp; exact rfl)
      simp only [putT, List.set]
      refine wpV_load1 (v := .string (bs x.b)) (by rfl) rfl rfl (range_one (M.r 0 1 rfl rfl)) (M.lt 0 rfl) Tryd.underlying9 rfl ?_
      simp only [putT, List.set]
      refine wpV_lenS (by rfl) rfl rfl rfl Tryd.underlying9 ?_
      simp only [putT, List.set]
      refine wpV_bin (v := .bool true) (by rfl) rfl rfl rfl (fun W => (run_lssN x.b.length 64 _ _ W).trans (by rw [hg6])) ?_
      simp only [putT, List.set]
      refine wpV_move (v := .bool true) (by rfl) rfl rfl ?_
      simp only [putT, List.set]
      refine wpV_val (v := .pointer (some ⟨g3, 9, none⟩)) (by rfl) (by rfl) (fun W hW => ?_) ?_
      · (go_simp; exact rfl)
      simp only [putT, List.set]
      refine wpV_load1 (v := .int .u64 ((x.n : Nat) : Int)) (by rfl) rfl rfl (range_one (M.r 0 2 rfl rfl)) (M.lt 0 rfl) Tryd.underlying27 rfl ?_
      simp only [putT, List.set]
      refine wpV_bin (v := .bool false) (by rfl) rfl rfl rfl (fun W => (run_leqN x.n 1099511627776 _ _ W).trans (by rw [hg9])) ?_
      simp only [putT, List.set]
      refine wpV_pick (v := .bool false) (by rfl) rfl rfl rfl ?_
      simp only [putT, List.set]
      refine wpV_move (v := .bool false) (by rfl) rfl rfl ?_
      simp only [putT, List.set]
      refine wpV_skip (by rfl) (by rfl) ?_
      simp only [putT, List.set]
      refine wpV_skip (by rfl) (by rfl) ?_
      simp only [putT, List.set]
      refine wpV_skip (by rfl) (by rfl) ?_
      simp only [putT, List.set]
      refine wpV_skip (by rfl) (by rfl) ?_
      simp only [putT, List.set]
      refine wpV_skip (by rfl) (by rfl) ?_
      simp only [putT, List.set]
      refine wpV_skip (by rfl) (by rfl) ?_
      simp only [putT, List.set]
      refine wpV_skip (by rfl) (by rfl) ?_
      simp only [putT, List.set]
      refine wpV_skip (by rfl) (by rfl) ?_
      simp only [putT, List.set]
      refine wpV_pick (v := .bool false) (by rfl) rfl rfl rfl ?_
      simp only [putT, List.set]
      refine wpV_nil (hLk _ (fun w11 Sw11 => ?_))
      clear hLk Lk
      simp only [List.take, List.drop]
      replace M := M.sees Sw11
      refine wpL_assign (v := .bool false) (by rfl) (by rfl) (by rfl) ?_
      simp only [putT, List.set]
      refine wpL_nil (no_panic ?_)
      refine hK5 _ _ ?_
      refine wp_ret ?_
      repeat (first | with_reducible refine then_ret ?_ | with_reducible refine inblock_ret ?_)
      refine bodyPost_ret (v := .bool false) (res1 rfl (.tmp (by rfl))) rfl ?_
      have BE := M.below
      exact ⟨by unfold rightX; rw [hg6, hg9]; rfl, BE⟩
    · skip
      refine wp_region_seq ?_
      refine wpL_chunk 19 (by rfl) (fun Lk hLk => ?_)
      simp only [List.take, List.drop]
      refine wpV_val (v := .pointer (some ⟨g3, 8, none⟩)) (by rfl) (by rfl) (fun W hW => ?_) ?_
      · (go_simp; exact rfl)
      simp only [putT, List.set]
      refine wpV_load1 (v := .string (bs x.b)) (by rfl) rfl rfl (range_one (M.r 0 1 rfl rfl)) (M.lt 0 rfl) Tryd.underlying9 rfl ?_
      simp only [putT, List.set]
      refine wpV_lenS (by rfl) rfl rfl rfl Tryd.underlying9 ?_
      simp only [putT, List.set]
      refine wpV_bin (v := .bool true) (by rfl) rfl rfl rfl (fun W => (run_lssN x.b.length 64 _ _ W).trans (by rw [hg6])) ?_
      simp only [putT, List.set]
      refine wpV_move (v := .bool true) (by rfl) rfl rfl ?_
      simp only [putT, List.set]
      refine wpV_val (v := .pointer (some ⟨g3, 9, none⟩)) (by rfl) (by rfl) (fun W hW => ?_) ?_
      · (go_simp; exact rfl)
      simp only [putT, List.set]
      refine wpV_load1 (v := .int .u64 ((x.n : Nat) : Int)) (by rfl) rfl rfl (range_one (M.r 0 2 rfl rfl)) (M.lt 0 rfl) Tryd.underlying27 rfl ?_
      simp only [putT, List.set]
      refine wpV_bin (v := .bool true) (by rfl) rfl rfl rfl (fun W => (run_leqN x.n 1099511627776 _ _ W).trans (by rw [hg9])) ?_
      simp only [putT, List.set]
      refine wpV_pick (v := .bool true) (by rfl) rfl rfl rfl ?_
      simp only [putT, List.set]
      refine wpV_move (v := .bool true) (by rfl) rfl rfl ?_
      simp only [putT, List.set]
      refine wpV_val (v := .pointer (some ⟨g3, 9, none⟩)) (by rfl) (by rfl) (fun W hW => ?_) ?_
      · (go_simp; exact rfl)
      simp only [putT, List.set]
      refine wpV_load1 (v := .int .u64 ((x.n : Nat) : Int)) (by rfl) rfl rfl (range_one (M.r 0 2 rfl rfl)) (M.lt 0 rfl) Tryd.underlying27 rfl ?_
      simp only [putT, List.set]
      refine wpV_bin (v := .int .u64 ((x.n % 64 : Nat) : Int)) (by rfl) rfl rfl rfl (fun W => nr_rem64 (x := x.n) (y := 64) (by decide) W) ?_
      simp only [putT, List.set]
      refine wpV_val (v := .pointer (some ⟨g3, 8, none⟩)) (by rfl) (by rfl) (fun W hW => ?_) ?_
      · (go_simp; exact rfl)
      simp only [putT, List.set]
      refine wpV_load1 (v := .string (bs x.b)) (by rfl) rfl rfl (range_one (M.r 0 1 rfl rfl)) (M.lt 0 rfl) Tryd.underlying9 rfl ?_
      simp only [putT, List.set]
      refine wpV_lenS (by rfl) rfl rfl rfl Tryd.underlying9 ?_
      simp only [putT, List.set]
      refine wpV_conv (d := .bool) (e := ((x.b.length : Nat) : Int)) (by rfl) rfl rfl (run_conv_int Tryd.underlying3 Tryd.underlying27 ((wrap64N _).trans (congrArg _ (Nat.mod_eq_of_lt (by omega))))) ?_
      simp only [putT, List.set]
      refine wpV_bin (v := .bool (decide (x.n % 64 = x.b.length))) (by rfl) rfl rfl rfl (fun W => run_eqlN (x.n % 64) x.b.length _ _ W) ?_
      simp only [putT, List.set]
      refine wpV_pick (v := .bool (decide (x.n % 64 = x.b.length))) (by rfl) rfl rfl rfl ?_
      simp only [putT, List.set]
      refine wpV_nil (hLk _ (fun w13 Sw13 => ?_))
      clear hLk Lk
      simp only [List.take, List.drop]
      replace M := M.sees Sw13
      refine wpL_assign (v := .bool (decide (x.n % 64 = x.b.length))) (by rfl) (by rfl) (by rfl) ?_
      simp only [putT, List.set]
      refine wpL_nil (no_panic ?_)
      refine hK5 _ _ ?_
      refine wp_ret ?_
      repeat (first | with_reducible refine then_ret ?_ | with_reducible refine inblock_ret ?_)
      refine bodyPost_ret (v := .bool (decide (x.n % 64 = x.b.length))) (res1 rfl (.tmp (by rfl))) rfl ?_
      have BE := M.below
      exact ⟨by unfold rightX; rw [hg6, hg9]; rfl, BE⟩
set_option maxHeartbeats 1000000 in
theorem rxright_c {x : SX} {w : World} (hx : x.Ok) :
    Calls Tryd.prog 33 #[.agg ([.int .u32 ((x.h.a : Nat) : Int), .int .u32 ((x.h.b : Nat) : Int), .int .u32 ((x.h.c : Nat) : Int), .int .u32 ((x.h.d : Nat) : Int), .int .u32 ((x.h.e : Nat) : Int), .int .u32 ((x.h.f : Nat) : Int), .int .u32 ((x.h.g : Nat) : Int), .int .u32 ((x.h.h : Nat) : Int)] ++ [.string (bs x.b)] ++ [.int .u64 ((x.n : Nat) : Int)] : List Value).toArray] w fun e w' => e = .returned (.bool (rightX x)) ∧ Below w.heap.size w w' := by
  have hb := hx.b
  go_enter Tryd.func33, Tryd.ntmps33
  have M := Mem.start w
  refine wp_seq_k (fun K1 hK1 => ?_)
  refine wp_region_seq ?_
  refine wpL_var (t := 29) (cs := [.int .u32 ((x.h.a : Nat) : Int), .int .u32 ((x.h.b : Nat) : Int), .int .u32 ((x.h.c : Nat) : Int), .int .u32 ((x.h.d : Nat) : Int), .int .u32 ((x.h.e : Nat) : Int), .int .u32 ((x.h.f : Nat) : Int), .int .u32 ((x.h.g : Nat) : Int), .int .u32 ((x.h.h : Nat) : Int)] ++ [.string (bs x.b)] ++ [.int .u64 ((x.n : Nat) : Int)]) (by rfl) (fun W => ?_) (fun g3 w4 Sw4 Hg3 Bg3 => ?_)
  · (first | rfl | go_simp)
  replace M := ((M.sees Sw4).addS (N := 10) (cs := [.int .u32 ((x.h.a : Nat) : Int), .int .u32 ((x.h.b : Nat) : Int), .int .u32 ((x.h.c : Nat) : Int), .int .u32 ((x.h.d : Nat) : Int), .int .u32 ((x.h.e : Nat) : Int), .int .u32 ((x.h.f : Nat) : Int), .int .u32 ((x.h.g : Nat) : Int), .int .u32 ((x.h.h : Nat) : Int)] ++ [.string (bs x.b)] ++ [.int .u64 ((x.n : Nat) : Int)]) (segs := [(0, [.int .u32 ((x.h.a : Nat) : Int), .int .u32 ((x.h.b : Nat) : Int), .int .u32 ((x.h.c : Nat) : Int), .int .u32 ((x.h.d : Nat) : Int), .int .u32 ((x.h.e : Nat) : Int), .int .u32 ((x.h.f : Nat) : Int), .int .u32 ((x.h.g : Nat) : Int), .int .u32 ((x.h.h : Nat) : Int)]), (8, [.string (bs x.b)]), (9, [.int .u64 ((x.n : Nat) : Int)])]) (M.ge Hg3) (M.fresh Hg3) Bg3 (by simp [flen]) ⟨rfl, rfl, rfl, trivial⟩)
  clear Bg3
  simp only [putT, List.set]
  refine wpL_assign (v := .bool false) (by rfl) (by rfl) (by rfl) ?_
  simp only [putT, List.set]
  refine wpL_nil (no_panic ?_)
  refine hK1 _ _ ?_
  refine wp_seq_k (fun K5 hK5 => ?_)
  cases hg6 : (decide (x.b.length < 64))
  · skip
    refine wp_region_seq ?_
    refine wpL_chunk 19 (by rfl) (fun Lk hLk => ?_)
    simp only [List.take, List.drop]
    refine wpV_val (v := .pointer (some ⟨g3, 8, none⟩)) (by rfl) (by rfl) (fun W hW => ?_) ?_
    · (go_simp; exact rfl)
    simp only [putT, List.set]
    refine wpV_load1 (v := .string (bs x.b)) (by rfl) rfl rfl (range_one (M.r 0 1 rfl rfl)) (M.lt 0 rfl) Tryd.underlying9 rfl ?_
    simp only [putT, List.set]
    refine wpV_lenS (by rfl) rfl rfl rfl Tryd.underlying9 ?_
    simp only [putT, List.set]
    refine wpV_bin (v := .bool false) (by rfl) rfl rfl rfl (fun W => (run_lssN x.b.length 64 _ _ W).trans (by rw [hg6])) ?_
    simp only [putT, List.set]
    refine wpV_move (v := .bool false) (by rfl) rfl rfl ?_
    simp only [putT, List.set]
    refine wpV_skip (by rfl) (by rfl) ?_
    simp only [putT, List.set]
    refine wpV_skip (by rfl) (by rfl) ?_
    simp only [putT, List.set]
    refine wpV_skip (by rfl) (by rfl) ?_
    simp only [putT, List.set]
    refine wpV_pick (v := .bool false) (by rfl) rfl rfl rfl ?_
    simp only [putT, List.set]
    refine wpV_move (v := .bool false) (by rfl) rfl rfl ?_
    simp only [putT, List.set]
    refine wpV_skip (by rfl) (by rfl) ?_
    simp only [putT, List.set]
    refine wpV_skip (by rfl) (by rfl) ?_
    simp only [putT, List.set]
    refine wpV_skip (by rfl) (by rfl) ?_
    simp only [putT, List.set]
    refine wpV_skip (by rfl) (by rfl) ?_
    simp only [putT, List.set]
    refine wpV_skip (by rfl) (by rfl) ?_
    simp only [putT, List.set]
    refine wpV_skip (by rfl) (by rfl) ?_
    simp only [putT, List.set]
    refine wpV_skip (by rfl) (by rfl) ?_
    simp only [putT, List.set]
    refine wpV_skip (by rfl) (by rfl) ?_
    simp only [putT, List.set]
    refine wpV_pick (v := .bool false) (by rfl) rfl rfl rfl ?_
    simp only [putT, List.set]
    refine wpV_nil (hLk _ (fun w8 Sw8 => ?_))
    clear hLk Lk
    simp only [List.take, List.drop]
    replace M := M.sees Sw8
    refine wpL_assign (v := .bool false) (by rfl) (by rfl) (by rfl) ?_
    simp only [putT, List.set]
    refine wpL_nil (no_panic ?_)
    refine hK5 _ _ ?_
    refine wp_ret ?_
    repeat (first | with_reducible refine then_ret ?_ | with_reducible refine inblock_ret ?_)
    refine bodyPost_ret (v := .bool false) (res1 rfl (.tmp (by rfl))) rfl ?_
    have BE := M.below
    exact ⟨by unfold rightX; rw [hg6]; rfl, BE⟩
  · skip
    cases hg9 : (decide (x.n ≤ 1099511627776))
    · skip
      refine wp_region_seq ?_
      refine wpL_chunk 19 (by rfl) (fun Lk hLk => ?_)
      simp only [List.take, List.drop]
      refine wpV_val (v := .pointer (some ⟨g3, 8, none⟩)) (by rfl) (by rfl) (fun W hW => ?_) ?_
      · (go_simp; exact rfl)
      simp only [putT, List.set]
      refine wpV_load1 (v := .string (bs x.b)) (by rfl) rfl rfl (range_one (M.r 0 1 rfl rfl)) (M.lt 0 rfl) Tryd.underlying9 rfl ?_
      simp only [putT, List.set]
      refine wpV_lenS (by rfl) rfl rfl rfl Tryd.underlying9 ?_
      simp only [putT, List.set]
      refine wpV_bin (v := .bool true) (by rfl) rfl rfl rfl (fun W => (run_lssN x.b.length 64 _ _ W).trans (by rw [hg6])) ?_
      simp only [putT, List.set]
      refine wpV_move (v := .bool true) (by rfl) rfl rfl ?_
      simp only [putT, List.set]
      refine wpV_val (v := .pointer (some ⟨g3, 9, none⟩)) (by rfl) (by rfl) (fun W hW => ?_) ?_
      · (go_simp; exact rfl)
      simp only [putT, List.set]
      refine wpV_load1 (v := .int .u64 ((x.n : Nat) : Int)) (by rfl) rfl rfl (range_one (M.r 0 2 rfl rfl)) (M.lt 0 rfl) Tryd.underlying27 rfl ?_
      simp only [putT, List.set]
      refine wpV_bin (v := .bool false) (by rfl) rfl rfl rfl (fun W => (run_leqN x.n 1099511627776 _ _ W).trans (by rw [hg9])) ?_
      simp only [putT, List.set]
      refine wpV_pick (v := .bool false) (by rfl) rfl rfl rfl ?_
      simp only [putT, List.set]
      refine wpV_move (v := .bool false) (by rfl) rfl rfl ?_
      simp only [putT, List.set]
      refine wpV_skip (by rfl) (by rfl) ?_
      simp only [putT, List.set]
      refine wpV_skip (by rfl) (by rfl) ?_
      simp only [putT, List.set]
      refine wpV_skip (by rfl) (by rfl) ?_
      simp only [putT, List.set]
      refine wpV_skip (by rfl) (by rfl) ?_
      simp only [putT, List.set]
      refine wpV_skip (by rfl) (by rfl) ?_
      simp only [putT, List.set]
      refine wpV_skip (by rfl) (by rfl) ?_
      simp only [putT, List.set]
      refine wpV_skip (by rfl) (by rfl) ?_
      simp only [putT, List.set]
      refine wpV_skip (by rfl) (by rfl) ?_
      simp only [putT, List.set]
      refine wpV_pick (v := .bool false) (by rfl) rfl rfl rfl ?_
      simp only [putT, List.set]
      refine wpV_nil (hLk _ (fun w11 Sw11 => ?_))
      clear hLk Lk
      simp only [List.take, List.drop]
      replace M := M.sees Sw11
      refine wpL_assign (v := .bool false) (by rfl) (by rfl) (by rfl) ?_
      simp only [putT, List.set]
      refine wpL_nil (no_panic ?_)
      refine hK5 _ _ ?_
      refine wp_ret ?_
      repeat (first | with_reducible refine then_ret ?_ | with_reducible refine inblock_ret ?_)
      refine bodyPost_ret (v := .bool false) (res1 rfl (.tmp (by rfl))) rfl ?_
      have BE := M.below
      exact ⟨by unfold rightX; rw [hg6, hg9]; rfl, BE⟩
    · skip
      refine wp_region_seq ?_
      refine wpL_chunk 19 (by rfl) (fun Lk hLk => ?_)
      simp only [List.take, List.drop]
      refine wpV_val (v := .pointer (some ⟨g3, 8, none⟩)) (by rfl) (by rfl) (fun W hW => ?_) ?_
      · (go_simp; exact rfl)
      simp only [putT, List.set]
      refine wpV_load1 (v := .string (bs x.b)) (by rfl) rfl rfl (range_one (M.r 0 1 rfl rfl)) (M.lt 0 rfl) Tryd.underlying9 rfl ?_
      simp only [putT, List.set]
      refine wpV_lenS (by rfl) rfl rfl rfl Tryd.underlying9 ?_
      simp only [putT, List.set]
      refine wpV_bin (v := .bool true) (by rfl) rfl rfl rfl (fun W => (run_lssN x.b.length 64 _ _ W).trans (by rw [hg6])) ?_
      simp only [putT, List.set]
      refine wpV_move (v := .bool true) (by rfl) rfl rfl ?_
      simp only [putT, List.set]
      refine wpV_val (v := .pointer (some ⟨g3, 9, none⟩)) (by rfl) (by rfl) (fun W hW => ?_) ?_
      · (go_simp; exact rfl)
      simp only [putT, List.set]
      refine wpV_load1 (v := .int .u64 ((x.n : Nat) : Int)) (by rfl) rfl rfl (range_one (M.r 0 2 rfl rfl)) (M.lt 0 rfl) Tryd.underlying27 rfl ?_
      simp only [putT, List.set]
      refine wpV_bin (v := .bool true) (by rfl) rfl rfl rfl (fun W => (run_leqN x.n 1099511627776 _ _ W).trans (by rw [hg9])) ?_
      simp only [putT, List.set]
      refine wpV_pick (v := .bool true) (by rfl) rfl rfl rfl ?_
      simp only [putT, List.set]
      refine wpV_move (v := .bool true) (by rfl) rfl rfl ?_
      simp only [putT, List.set]
      refine wpV_val (v := .pointer (some ⟨g3, 9, none⟩)) (by rfl) (by rfl) (fun W hW => ?_) ?_
      · (go_simp; exact rfl)
      simp only [putT, List.set]
      refine wpV_load1 (v := .int .u64 ((x.n : Nat) : Int)) (by rfl) rfl rfl (range_one (M.r 0 2 rfl rfl)) (M.lt 0 rfl) Tryd.underlying27 rfl ?_
      simp only [putT, List.set]
      refine wpV_bin (v := .int .u64 ((x.n % 64 : Nat) : Int)) (by rfl) rfl rfl rfl (fun W => nr_rem64 (x := x.n) (y := 64) (by decide) W) ?_
      simp only [putT, List.set]
      refine wpV_val (v := .pointer (some ⟨g3, 8, none⟩)) (by rfl) (by rfl) (fun W hW => ?_) ?_
      · (go_simp; exact rfl)
      simp only [putT, List.set]
      refine wpV_load1 (v := .string (bs x.b)) (by rfl) rfl rfl (range_one (M.r 0 1 rfl rfl)) (M.lt 0 rfl) Tryd.underlying9 rfl ?_
      simp only [putT, List.set]
      refine wpV_lenS (by rfl) rfl rfl rfl Tryd.underlying9 ?_
      simp only [putT, List.set]
      refine wpV_conv (d := .bool) (e := ((x.b.length : Nat) : Int)) (by rfl) rfl rfl (run_conv_int Tryd.underlying3 Tryd.underlying27 ((wrap64N _).trans (congrArg _ (Nat.mod_eq_of_lt (by omega))))) ?_
      simp only [putT, List.set]
      refine wpV_bin (v := .bool (decide (x.n % 64 = x.b.length))) (by rfl) rfl rfl rfl (fun W => run_eqlN (x.n % 64) x.b.length _ _ W) ?_
      simp only [putT, List.set]
      refine wpV_pick (v := .bool (decide (x.n % 64 = x.b.length))) (by rfl) rfl rfl rfl ?_
      simp only [putT, List.set]
      refine wpV_nil (hLk _ (fun w13 Sw13 => ?_))
      clear hLk Lk
      simp only [List.take, List.drop]
      replace M := M.sees Sw13
      refine wpL_assign (v := .bool (decide (x.n % 64 = x.b.length))) (by rfl) (by rfl) (by rfl) ?_
      simp only [putT, List.set]
      refine wpL_nil (no_panic ?_)
      refine hK5 _ _ ?_
      refine wp_ret ?_
      repeat (first | with_reducible refine then_ret ?_ | with_reducible refine inblock_ret ?_)
      refine bodyPost_ret (v := .bool (decide (x.n % 64 = x.b.length))) (res1 rfl (.tmp (by rfl))) rfl ?_
      have BE := M.below
      exact ⟨by unfold rightX; rw [hg6, hg9]; rfl, BE⟩
set_option maxHeartbeats 2000000 in
theorem write_c {x : SX} {l : List UInt8} {w : World} (hx : x.Ok) (hl : l.length ≤ 1099511627776) (L0 : 0 < w.heap.size) (R0_0 : w.rangeAt 0 0 kcells) :
    Calls Tryd.prog 29 #[.agg ([.int .u32 ((x.h.a : Nat) : Int), .int .u32 ((x.h.b : Nat) : Int), .int .u32 ((x.h.c : Nat) : Int), .int .u32 ((x.h.d : Nat) : Int), .int .u32 ((x.h.e : Nat) : Int), .int .u32 ((x.h.f : Nat) : Int), .int .u32 ((x.h.g : Nat) : Int), .int .u32 ((x.h.h : Nat) : Int)] ++ [.string (bs x.b)] ++ [.int .u64 ((x.n : Nat) : Int)] : List Value).toArray, .string (bs l)] w fun e w' => e = .returned (.tuple #[.agg ([.int .u32 (((writeX x l).h.a : Nat) : Int), .int .u32 (((writeX x l).h.b : Nat) : Int), .int .u32 (((writeX x l).h.c : Nat) : Int), .int .u32 (((writeX x l).h.d : Nat) : Int), .int .u32 (((writeX x l).h.e : Nat) : Int), .int .u32 (((writeX x l).h.f : Nat) : Int), .int .u32 (((writeX x l).h.g : Nat) : Int), .int .u32 (((writeX x l).h.h : Nat) : Int)] ++ [.string (bs ((writeX x l).b))] ++ [.int .u64 (((writeX x l).n : Nat) : Int)] : List Value).toArray, .int .i64 (writeE x l)]) ∧ Below w.heap.size w w' := by
  have hb := hx.b
  have hn := hx.n
  go_enter Tryd.func29, Tryd.ntmps29
  have M := Mem.start w
  refine wp_seq_k (fun K1 hK1 => ?_)
  refine wp_region_seq ?_
  refine wpL_var (t := 29) (cs := [.int .u32 ((x.h.a : Nat) : Int), .int .u32 ((x.h.b : Nat) : Int), .int .u32 ((x.h.c : Nat) : Int), .int .u32 ((x.h.d : Nat) : Int), .int .u32 ((x.h.e : Nat) : Int), .int .u32 ((x.h.f : Nat) : Int), .int .u32 ((x.h.g : Nat) : Int), .int .u32 ((x.h.h : Nat) : Int)] ++ [.string (bs x.b)] ++ [.int .u64 ((x.n : Nat) : Int)]) (by rfl) (fun W => ?_) (fun g3 w4 Sw4 Hg3 Bg3 => ?_)
  · (first | rfl | go_simp)
  replace M := ((M.sees Sw4).addS (N := 10) (cs := [.int .u32 ((x.h.a : Nat) : Int), .int .u32 ((x.h.b : Nat) : Int), .int .u32 ((x.h.c : Nat) : Int), .int .u32 ((x.h.d : Nat) : Int), .int .u32 ((x.h.e : Nat) : Int), .int .u32 ((x.h.f : Nat) : Int), .int .u32 ((x.h.g : Nat) : Int), .int .u32 ((x.h.h : Nat) : Int)] ++ [.string (bs x.b)] ++ [.int .u64 ((x.n : Nat) : Int)]) (segs := [(0, [.int .u32 ((x.h.a : Nat) : Int), .int .u32 ((x.h.b : Nat) : Int), .int .u32 ((x.h.c : Nat) : Int), .int .u32 ((x.h.d : Nat) : Int), .int .u32 ((x.h.e : Nat) : Int), .int .u32 ((x.h.f : Nat) : Int), .int .u32 ((x.h.g : Nat) : Int), .int .u32 ((x.h.h : Nat) : Int)]), (8, [.string (bs x.b)]), (9, [.int .u64 ((x.n : Nat) : Int)])]) (M.ge Hg3) (M.fresh Hg3) Bg3 (by simp [flen]) ⟨rfl, rfl, rfl, trivial⟩)
  clear Bg3
  simp only [putT, List.set]
  refine wpL_var (t := 29) (cs := [.int .u32 0, .int .u32 0, .int .u32 0, .int .u32 0, .int .u32 0, .int .u32 0, .int .u32 0, .int .u32 0, .string { data := #[] }, .int .u64 0]) (by rfl) (fun W => ?_) (fun g5 w6 Sw6 Hg5 Bg5 => ?_)
  · go_simp
  replace M := ((M.sees Sw6).addS (N := 10) (cs := [.int .u32 0, .int .u32 0, .int .u32 0, .int .u32 0, .int .u32 0, .int .u32 0, .int .u32 0, .int .u32 0, .string { data := #[] }, .int .u64 0]) (segs := [(0, [.int .u32 0, .int .u32 0, .int .u32 0, .int .u32 0, .int .u32 0, .int .u32 0, .int .u32 0, .int .u32 0]), (8, [.string { data := #[] }]), (9, [.int .u64 0])]) (M.ge Hg5) (M.fresh Hg5) Bg5 rfl ⟨rfl, rfl, rfl, trivial⟩)
  clear Bg5
  simp only [putT, List.set]
  refine wpL_assign (v := .int .i64 0) (by rfl) (by rfl) (by rfl) ?_
  simp only [putT, List.set]
  refine wpL_nil (no_panic ?_)
  refine hK1 _ _ ?_
  refine wp_seq_k (fun K7 hK7 => ?_)
  refine wp_block ?_
  refine wp_seq_k (fun K8 hK8 => ?_)
  refine wp_region_seq ?_
  refine wpL_chunk 3 (by rfl) (fun Lk hLk => ?_)
  simp only [List.take, List.drop]
  refine wpV_load (cs := [.int .u32 ((x.h.a : Nat) : Int), .int .u32 ((x.h.b : Nat) : Int), .int .u32 ((x.h.c : Nat) : Int), .int .u32 ((x.h.d : Nat) : Int), .int .u32 ((x.h.e : Nat) : Int), .int .u32 ((x.h.f : Nat) : Int), .int .u32 ((x.h.g : Nat) : Int), .int .u32 ((x.h.h : Nat) : Int)] ++ [.string (bs x.b)] ++ [.int .u64 ((x.n : Nat) : Int)]) (by rfl) rfl rfl (range_join (range_join (M.r 1 0 rfl rfl) (M.r 1 1 rfl rfl) (by simp [flen])) (M.r 1 2 rfl rfl) (by simp [flen])) (M.lt 1 rfl) Tryd.underlying29 rfl info29 ?_
  simp only [putT, List.set]
  refine wpV_callf (v := .bool (rightX x)) (args := #[.agg ([.int .u32 ((x.h.a : Nat) : Int), .int .u32 ((x.h.b : Nat) : Int), .int .u32 ((x.h.c : Nat) : Int), .int .u32 ((x.h.d : Nat) : Int), .int .u32 ((x.h.e : Nat) : Int), .int .u32 ((x.h.f : Nat) : Int), .int .u32 ((x.h.g : Nat) : Int), .int .u32 ((x.h.h : Nat) : Int)] ++ [.string (bs x.b)] ++ [.int .u64 ((x.n : Nat) : Int)] : List Value).toArray]) (by rfl) rfl Tryd.func32 (by kernel_rfl) (by kernel_rfl) rfl (fun W hW => by with_reducible exact xright_c (x := x) hx) ?_
  simp only [putT, List.set]
  refine wpV_not (b := rightX x) (by rfl) rfl rfl ?_
  simp only [putT, List.set]
  refine wpV_nil (hLk _ (fun w10 Sw10 => ?_))
  clear hLk Lk
  simp only [List.take, List.drop]
  replace M := M.sees Sw10
  refine wpL_assign (v := .bool (!(rightX x))) (by rfl) (by rfl) (by rfl) ?_
  simp only [putT, List.set]
  refine wpL_nil (no_panic ?_)
  refine hK8 _ _ ?_
  cases hc11 : (!(rightX x))
  · skip
    have hr : rightX x = true := by simpa using hc11
    obtain ⟨hr1, hr2, hr3⟩ := right_open hr
    refine wp_cond_false rfl ?_
    refine wp_seq_k (fun K12 hK12 => ?_)
    refine wp_region_seq ?_
    refine wpL_chunk 7 (by rfl) (fun Lk hLk => ?_)
    simp only [List.take, List.drop]
    refine wpV_val (v := .pointer (some ⟨g3, 9, none⟩)) (by rfl) (by rfl) (fun W hW => ?_) ?_
    · (go_simp; exact rfl)
    simp only [putT, List.set]
    refine wpV_load1 (v := .int .u64 ((x.n : Nat) : Int)) (by rfl) rfl rfl (range_one (M.r 1 2 rfl rfl)) (M.lt 1 rfl) Tryd.underlying27 rfl ?_
    simp only [putT, List.set]
    refine wpV_move (v := .string (bs l)) (by rfl) rfl rfl ?_
    simp only [putT, List.set]
    refine wpV_lenS (by rfl) rfl rfl rfl Tryd.underlying9 ?_
    simp only [putT, List.set]
    refine wpV_conv (d := .bool) (e := ((l.length : Nat) : Int)) (by rfl) rfl rfl (run_conv_int Tryd.underlying3 Tryd.underlying27 ((wrap64N _).trans (congrArg _ (Nat.mod_eq_of_lt (by omega))))) ?_
    simp only [putT, List.set]
    refine wpV_bin (v := .int .u64 ((1099511627776 - l.length : Nat) : Int)) (by rfl) rfl rfl rfl (fun W => nr_sub64 (x := 1099511627776) (y := l.length) (by omega) (by decide) W) ?_
    simp only [putT, List.set]
    refine wpV_bin (v := .bool (decide (1099511627776 - l.length < x.n))) (by rfl) rfl rfl rfl (fun W => run_gtrN x.n (1099511627776 - l.length) _ _ W) ?_
    simp only [putT, List.set]
    refine wpV_nil (hLk _ (fun w14 Sw14 => ?_))
    clear hLk Lk
    simp only [List.take, List.drop]
    replace M := M.sees Sw14
    refine wpL_assign (v := .bool (decide (1099511627776 - l.length < x.n))) (by rfl) (by rfl) (by rfl) ?_
    simp only [putT, List.set]
    refine wpL_nil (no_panic ?_)
    refine hK12 _ _ ?_
    cases hc15 : (decide (1099511627776 - l.length < x.n))
    · skip
      have ho : overX x l = false := hc15
      refine wp_cond_false rfl ?_
      refine wp_skip ?_
      refine hK7 _ _ ?_
      refine wp_seq_k (fun K16 hK16 => ?_)
      refine wp_region_seq ?_
      refine wpL_chunk 2 (by rfl) (fun Lk hLk => ?_)
      simp only [List.take, List.drop]
      refine wpV_load (cs := [.int .u32 ((x.h.a : Nat) : Int), .int .u32 ((x.h.b : Nat) : Int), .int .u32 ((x.h.c : Nat) : Int), .int .u32 ((x.h.d : Nat) : Int), .int .u32 ((x.h.e : Nat) : Int), .int .u32 ((x.h.f : Nat) : Int), .int .u32 ((x.h.g : Nat) : Int), .int .u32 ((x.h.h : Nat) : Int)] ++ [.string (bs x.b)] ++ [.int .u64 ((x.n : Nat) : Int)]) (by rfl) rfl rfl (range_join (range_join (M.r 1 0 rfl rfl) (M.r 1 1 rfl rfl) (by simp [flen])) (M.r 1 2 rfl rfl) (by simp [flen])) (M.lt 1 rfl) Tryd.underlying29 rfl info29 ?_
      simp only [putT, List.set]
      refine wpV_val (v := .agg ([.int .u32 ((x.h.a : Nat) : Int), .int .u32 ((x.h.b : Nat) : Int), .int .u32 ((x.h.c : Nat) : Int), .int .u32 ((x.h.d : Nat) : Int), .int .u32 ((x.h.e : Nat) : Int), .int .u32 ((x.h.f : Nat) : Int), .int .u32 ((x.h.g : Nat) : Int), .int .u32 ((x.h.h : Nat) : Int)] ++ [.string (bs x.b)] ++ [.int .u64 ((x.n : Nat) : Int)] : List Value).toArray) (by rfl) (by rfl) (fun W hW => ?_) ?_
      · (unfold RunsVal; kernel_rfl)
      simp only [putT, List.set]
      refine wpV_nil (hLk _ (fun w18 Sw18 => ?_))
      clear hLk Lk
      simp only [List.take, List.drop]
      replace M := M.sees Sw18
      refine wpL_var (t := 90) (cs := [.int .u32 ((x.h.a : Nat) : Int), .int .u32 ((x.h.b : Nat) : Int), .int .u32 ((x.h.c : Nat) : Int), .int .u32 ((x.h.d : Nat) : Int), .int .u32 ((x.h.e : Nat) : Int), .int .u32 ((x.h.f : Nat) : Int), .int .u32 ((x.h.g : Nat) : Int), .int .u32 ((x.h.h : Nat) : Int)] ++ [.string (bs x.b)] ++ [.int .u64 ((x.n : Nat) : Int)]) (by rfl) (fun W => ?_) (fun g19 w20 Sw20 Hg19 Bg19 => ?_)
      · (first | rfl | go_simp)
      replace M := ((M.sees Sw20).addS (N := 10) (cs := [.int .u32 ((x.h.a : Nat) : Int), .int .u32 ((x.h.b : Nat) : Int), .int .u32 ((x.h.c : Nat) : Int), .int .u32 ((x.h.d : Nat) : Int), .int .u32 ((x.h.e : Nat) : Int), .int .u32 ((x.h.f : Nat) : Int), .int .u32 ((x.h.g : Nat) : Int), .int .u32 ((x.h.h : Nat) : Int)] ++ [.string (bs x.b)] ++ [.int .u64 ((x.n : Nat) : Int)]) (segs := [(0, [.int .u32 ((x.h.a : Nat) : Int), .int .u32 ((x.h.b : Nat) : Int), .int .u32 ((x.h.c : Nat) : Int), .int .u32 ((x.h.d : Nat) : Int), .int .u32 ((x.h.e : Nat) : Int), .int .u32 ((x.h.f : Nat) : Int), .int .u32 ((x.h.g : Nat) : Int), .int .u32 ((x.h.h : Nat) : Int)]), (8, [.string (bs x.b)]), (9, [.int .u64 ((x.n : Nat) : Int)])]) (M.ge Hg19) (M.fresh Hg19) Bg19 (by simp [flen]) ⟨rfl, rfl, rfl, trivial⟩)
      clear Bg19
      simp only [putT, List.set]
      refine wpL_assign (v := .pointer (some ⟨g19, 0, none⟩)) (by rfl) (by rfl) (by rfl) ?_
      simp only [putT, List.set]
      refine wpL_nil (no_panic ?_)
      refine hK16 _ _ ?_
      refine wp_seq_k (fun K21 hK21 => ?_)
      refine wp_region_seq ?_
      refine wpL_move (v := .pointer (some ⟨g19, 0, none⟩)) (by rfl) (by rfl) (by rfl) ?_
      simp only [putT, List.set]
      refine wpL_move (v := .string (bs l)) (by rfl) (by rfl) (by rfl) ?_
      simp only [putT, List.set]
      refine wpL_callM (f := 70) (args := #[.pointer (some ⟨g19, 0, none⟩), .string (bs l)]) (R := fun v9 W9 => v9 = .tuple #[] ∧ Mem [g19] w20 W9 [⟨g19, 10, [(0, [.int .u32 (((takeH x.h (x.b ++ l)).a : Nat) : Int), .int .u32 (((takeH x.h (x.b ++ l)).b : Nat) : Int), .int .u32 (((takeH x.h (x.b ++ l)).c : Nat) : Int), .int .u32 (((takeH x.h (x.b ++ l)).d : Nat) : Int), .int .u32 (((takeH x.h (x.b ++ l)).e : Nat) : Int), .int .u32 (((takeH x.h (x.b ++ l)).f : Nat) : Int), .int .u32 (((takeH x.h (x.b ++ l)).g : Nat) : Int), .int .u32 (((takeH x.h (x.b ++ l)).h : Nat) : Int)]), (8, [.string (bs (takeR (x.b ++ l)))]), (9, [.int .u64 ((((x.n + l.length) % 18446744073709551616) : Nat) : Int)])]⟩]) (by rfl) (by rfl) rfl Tryd.func70 (by kernel_rfl) (by kernel_rfl) (take_c (h := x.h) (b := x.b) (l := l) (n := x.n) hx.h hr1 (by omega) (M.ne0 0 rfl L0) (M.oldL L0) (M.oldR R0_0 L0) (M.one 0 rfl)) (fun v9 w23 h9 => ?_)
      obtain ⟨rfl, M9⟩ := h9
      replace M := M.callM1 0 rfl M9
      simp only [List.set] at M
      simp only [putT, List.set]
      refine wpL_nil (no_panic ?_)
      refine hK21 _ _ ?_
      refine wp_seq_k (fun K24 hK24 => ?_)
      refine wp_region_seq ?_
      refine wpL_move (v := .pointer (some ⟨g19, 0, none⟩)) (by rfl) (by rfl) (by rfl) ?_
      simp only [putT, List.set]
      refine wpL_chunk 3 (by rfl) (fun Lk hLk => ?_)
      simp only [List.take, List.drop]
      refine wpV_nilCheck (by rfl) rfl rfl ?_
      simp only [putT, List.set]
      refine wpV_val (v := .pointer (some ⟨g19, 0, none⟩)) (by rfl) (by rfl) (fun W hW => ?_) ?_
      · (go_simp; exact rfl)
      simp only [putT, List.set]
      refine wpV_load (cs := [.int .u32 (((takeH x.h (x.b ++ l)).a : Nat) : Int), .int .u32 (((takeH x.h (x.b ++ l)).b : Nat) : Int), .int .u32 (((takeH x.h (x.b ++ l)).c : Nat) : Int), .int .u32 (((takeH x.h (x.b ++ l)).d : Nat) : Int), .int .u32 (((takeH x.h (x.b ++ l)).e : Nat) : Int), .int .u32 (((takeH x.h (x.b ++ l)).f : Nat) : Int), .int .u32 (((takeH x.h (x.b ++ l)).g : Nat) : Int), .int .u32 (((takeH x.h (x.b ++ l)).h : Nat) : Int)] ++ [.string (bs (takeR (x.b ++ l)))] ++ [.int .u64 ((((x.n + l.length) % 18446744073709551616) : Nat) : Int)]) (by rfl) rfl rfl (range_join (range_join (M.r 0 0 rfl rfl) (M.r 0 1 rfl rfl) (by simp [flen])) (M.r 0 2 rfl rfl) (by simp [flen])) (M.lt 0 rfl) Tryd.underlying29 rfl info29 ?_
      simp only [putT, List.set]
      refine wpV_nil (hLk _ (fun w26 Sw26 => ?_))
      clear hLk Lk
      simp only [List.take, List.drop]
      replace M := M.sees Sw26
      refine wpL_store (g := g5) (off := 0) (n := 10) (cs := [.int .u32 (((takeH x.h (x.b ++ l)).a : Nat) : Int), .int .u32 (((takeH x.h (x.b ++ l)).b : Nat) : Int), .int .u32 (((takeH x.h (x.b ++ l)).c : Nat) : Int), .int .u32 (((takeH x.h (x.b ++ l)).d : Nat) : Int), .int .u32 (((takeH x.h (x.b ++ l)).e : Nat) : Int), .int .u32 (((takeH x.h (x.b ++ l)).f : Nat) : Int), .int .u32 (((takeH x.h (x.b ++ l)).g : Nat) : Int), .int .u32 (((takeH x.h (x.b ++ l)).h : Nat) : Int)] ++ [.string (bs (takeR (x.b ++ l)))] ++ [.int .u64 ((((x.n + l.length) % 18446744073709551616) : Nat) : Int)]) (by rfl) (by rfl) (by rfl) (by rfl) (by rfl) (M.t 1 rfl) (by simp [flen]) info29 (by simp [fone, Value.oneCell']) (fun w27 P R T => ?_)
      replace M := M.put (segs' := [(0, [.int .u32 (((takeH x.h (x.b ++ l)).a : Nat) : Int), .int .u32 (((takeH x.h (x.b ++ l)).b : Nat) : Int), .int .u32 (((takeH x.h (x.b ++ l)).c : Nat) : Int), .int .u32 (((takeH x.h (x.b ++ l)).d : Nat) : Int), .int .u32 (((takeH x.h (x.b ++ l)).e : Nat) : Int), .int .u32 (((takeH x.h (x.b ++ l)).f : Nat) : Int), .int .u32 (((takeH x.h (x.b ++ l)).g : Nat) : Int), .int .u32 (((takeH x.h (x.b ++ l)).h : Nat) : Int)]), (8, [.string (bs (takeR (x.b ++ l)))]), (9, [.int .u64 ((((x.n + l.length) % 18446744073709551616) : Nat) : Int)])]) 1 rfl P T (SegsOf.at R ⟨rfl, rfl, rfl, trivial⟩)
      simp only [List.set] at M
      refine wpL_assign (v := .int .i64 0) (by rfl) (by rfl) (by rfl) ?_
      simp only [putT, List.set]
      refine wpL_nil (no_panic ?_)
      refine hK24 _ _ ?_
      refine wp_ret ?_
      repeat (first | with_reducible refine then_ret ?_ | with_reducible refine inblock_ret ?_)
      refine bodyPost_ret (v := .tuple #[.agg ([.int .u32 (((takeH x.h (x.b ++ l)).a : Nat) : Int), .int .u32 (((takeH x.h (x.b ++ l)).b : Nat) : Int), .int .u32 (((takeH x.h (x.b ++ l)).c : Nat) : Int), .int .u32 (((takeH x.h (x.b ++ l)).d : Nat) : Int), .int .u32 (((takeH x.h (x.b ++ l)).e : Nat) : Int), .int .u32 (((takeH x.h (x.b ++ l)).f : Nat) : Int), .int .u32 (((takeH x.h (x.b ++ l)).g : Nat) : Int), .int .u32 (((takeH x.h (x.b ++ l)).h : Nat) : Int)] ++ [.string (bs (takeR (x.b ++ l)))] ++ [.int .u64 ((((x.n + l.length) % 18446744073709551616) : Nat) : Int)] : List Value).toArray, .int .i64 0]) (res2 rfl (.cell (by rfl) (run_loadVar_mid _ _ _ _ ([.int .u32 (((takeH x.h (x.b ++ l)).a : Nat) : Int), .int .u32 (((takeH x.h (x.b ++ l)).b : Nat) : Int), .int .u32 (((takeH x.h (x.b ++ l)).c : Nat) : Int), .int .u32 (((takeH x.h (x.b ++ l)).d : Nat) : Int), .int .u32 (((takeH x.h (x.b ++ l)).e : Nat) : Int), .int .u32 (((takeH x.h (x.b ++ l)).f : Nat) : Int), .int .u32 (((takeH x.h (x.b ++ l)).g : Nat) : Int), .int .u32 (((takeH x.h (x.b ++ l)).h : Nat) : Int)] ++ [.string (bs (takeR (x.b ++ l)))] ++ [.int .u64 ((((x.n + l.length) % 18446744073709551616) : Nat) : Int)]) _ (range_join (range_join (M.r 1 0 rfl rfl) (M.r 1 1 rfl rfl) (by simp [flen])) (M.r 1 2 rfl rfl) (by simp [flen])) Tryd.underlying29 rfl info29)) (.tmp (by rfl))) rfl ?_
      have BE := M.below
      exact ⟨by rw [(writeX_go hr ho).1, (writeX_go hr ho).2]; rfl, BE⟩
    · skip
      have ho : overX x l = true := hc15
      refine wp_cond_true rfl ?_
      refine wp_seq_k (fun K28 hK28 => ?_)
      refine wp_region_seq ?_
      refine wpL_chunk 1 (by rfl) (fun Lk hLk => ?_)
      simp only [List.take, List.drop]
      refine wpV_val (v := .agg ([.int .u32 0, .int .u32 0, .int .u32 0, .int .u32 0, .int .u32 0, .int .u32 0, .int .u32 0, .int .u32 0, .string { data := #[] }, .int .u64 0]).toArray) (by rfl) (by rfl) (fun W hW => ?_) ?_
      · (unfold RunsVal; kernel_rfl)
      simp only [putT, List.set]
      refine wpV_nil (hLk _ (fun w30 Sw30 => ?_))
      clear hLk Lk
      simp only [List.take, List.drop]
      replace M := M.sees Sw30
      refine wpL_store (g := g5) (off := 0) (n := 10) (cs := [.int .u32 0, .int .u32 0, .int .u32 0, .int .u32 0, .int .u32 0, .int .u32 0, .int .u32 0, .int .u32 0, .string { data := #[] }, .int .u64 0]) (by rfl) (by rfl) (by rfl) (by rfl) (by rfl) (M.t 0 rfl) (by simp [flen]) info29 (by simp [fone, Value.oneCell']) (fun w31 P R T => ?_)
      replace M := M.put (segs' := [(0, [.int .u32 0, .int .u32 0, .int .u32 0, .int .u32 0, .int .u32 0, .int .u32 0, .int .u32 0, .int .u32 0]), (8, [.string { data := #[] }]), (9, [.int .u64 0])]) 0 rfl P T (SegsOf.at R ⟨rfl, rfl, rfl, trivial⟩)
      simp only [List.set] at M
      refine wpL_assign (v := .int .i64 2) (by rfl) (by rfl) (by rfl) ?_
      simp only [putT, List.set]
      refine wpL_nil (no_panic ?_)
      refine hK28 _ _ ?_
      refine wp_ret ?_
      repeat (first | with_reducible refine then_ret ?_ | with_reducible refine inblock_ret ?_)
      refine bodyPost_ret (v := .tuple #[.agg ([.int .u32 0, .int .u32 0, .int .u32 0, .int .u32 0, .int .u32 0, .int .u32 0, .int .u32 0, .int .u32 0] ++ [.string { data := #[] }] ++ [.int .u64 0] : List Value).toArray, .int .i64 2]) (res2 rfl (.cell (by rfl) (run_loadVar_mid _ _ _ _ ([.int .u32 0, .int .u32 0, .int .u32 0, .int .u32 0, .int .u32 0, .int .u32 0, .int .u32 0, .int .u32 0] ++ [.string { data := #[] }] ++ [.int .u64 0]) _ (range_join (range_join (M.r 0 0 rfl rfl) (M.r 0 1 rfl rfl) (by simp [flen])) (M.r 0 2 rfl rfl) (by simp [flen])) Tryd.underlying29 rfl info29)) (.tmp (by rfl))) rfl ?_
      have BE := M.below
      exact ⟨by rw [(writeX_over hr ho).1, (writeX_over hr ho).2]; rfl, BE⟩
  · skip
    have hr : rightX x = false := by simpa using hc11
    refine wp_cond_true rfl ?_
    refine wp_seq_k (fun K32 hK32 => ?_)
    refine wp_region_seq ?_
    refine wpL_chunk 1 (by rfl) (fun Lk hLk => ?_)
    simp only [List.take, List.drop]
    refine wpV_val (v := .agg ([.int .u32 0, .int .u32 0, .int .u32 0, .int .u32 0, .int .u32 0, .int .u32 0, .int .u32 0, .int .u32 0, .string { data := #[] }, .int .u64 0]).toArray) (by rfl) (by rfl) (fun W hW => ?_) ?_
    · (unfold RunsVal; kernel_rfl)
    simp only [putT, List.set]
    refine wpV_nil (hLk _ (fun w34 Sw34 => ?_))
    clear hLk Lk
    simp only [List.take, List.drop]
    replace M := M.sees Sw34
    refine wpL_store (g := g5) (off := 0) (n := 10) (cs := [.int .u32 0, .int .u32 0, .int .u32 0, .int .u32 0, .int .u32 0, .int .u32 0, .int .u32 0, .int .u32 0, .string { data := #[] }, .int .u64 0]) (by rfl) (by rfl) (by rfl) (by rfl) (by rfl) (M.t 0 rfl) (by simp [flen]) info29 (by simp [fone, Value.oneCell']) (fun w35 P R T => ?_)
    replace M := M.put (segs' := [(0, [.int .u32 0, .int .u32 0, .int .u32 0, .int .u32 0, .int .u32 0, .int .u32 0, .int .u32 0, .int .u32 0]), (8, [.string { data := #[] }]), (9, [.int .u64 0])]) 0 rfl P T (SegsOf.at R ⟨rfl, rfl, rfl, trivial⟩)
    simp only [List.set] at M
    refine wpL_assign (v := .int .i64 1) (by rfl) (by rfl) (by rfl) ?_
    simp only [putT, List.set]
    refine wpL_nil (no_panic ?_)
    refine hK32 _ _ ?_
    refine wp_ret ?_
    repeat (first | with_reducible refine then_ret ?_ | with_reducible refine inblock_ret ?_)
    refine bodyPost_ret (v := .tuple #[.agg ([.int .u32 0, .int .u32 0, .int .u32 0, .int .u32 0, .int .u32 0, .int .u32 0, .int .u32 0, .int .u32 0] ++ [.string { data := #[] }] ++ [.int .u64 0] : List Value).toArray, .int .i64 1]) (res2 rfl (.cell (by rfl) (run_loadVar_mid _ _ _ _ ([.int .u32 0, .int .u32 0, .int .u32 0, .int .u32 0, .int .u32 0, .int .u32 0, .int .u32 0, .int .u32 0] ++ [.string { data := #[] }] ++ [.int .u64 0]) _ (range_join (range_join (M.r 0 0 rfl rfl) (M.r 0 1 rfl rfl) (by simp [flen])) (M.r 0 2 rfl rfl) (by simp [flen])) Tryd.underlying29 rfl info29)) (.tmp (by rfl))) rfl ?_
    have BE := M.below
    exact ⟨by rw [(writeX_no l hr).1, (writeX_no l hr).2]; rfl, BE⟩
set_option maxHeartbeats 2000000 in
theorem End_c {x : SX} {w : World} (hx : x.Ok) (L0 : 0 < w.heap.size) (R0_0 : w.rangeAt 0 0 kcells) :
    Calls Tryd.prog 31 #[.agg ([.int .u32 ((x.h.a : Nat) : Int), .int .u32 ((x.h.b : Nat) : Int), .int .u32 ((x.h.c : Nat) : Int), .int .u32 ((x.h.d : Nat) : Int), .int .u32 ((x.h.e : Nat) : Int), .int .u32 ((x.h.f : Nat) : Int), .int .u32 ((x.h.g : Nat) : Int), .int .u32 ((x.h.h : Nat) : Int)] ++ [.string (bs x.b)] ++ [.int .u64 ((x.n : Nat) : Int)] : List Value).toArray] w fun e w' => e = .returned (.tuple #[.string (bs (endT x)), .int .i64 (endE x)]) ∧ Below w.heap.size w w' := by
  go_enter Tryd.func31, Tryd.ntmps31
  have M := Mem.start w
  refine wp_seq_k (fun K1 hK1 => ?_)
  refine wp_region_seq ?_
  refine wpL_var (t := 29) (cs := [.int .u32 ((x.h.a : Nat) : Int), .int .u32 ((x.h.b : Nat) : Int), .int .u32 ((x.h.c : Nat) : Int), .int .u32 ((x.h.d : Nat) : Int), .int .u32 ((x.h.e : Nat) : Int), .int .u32 ((x.h.f : Nat) : Int), .int .u32 ((x.h.g : Nat) : Int), .int .u32 ((x.h.h : Nat) : Int)] ++ [.string (bs x.b)] ++ [.int .u64 ((x.n : Nat) : Int)]) (by rfl) (fun W => ?_) (fun g3 w4 Sw4 Hg3 Bg3 => ?_)
  · (first | rfl | go_simp)
  replace M := ((M.sees Sw4).addS (N := 10) (cs := [.int .u32 ((x.h.a : Nat) : Int), .int .u32 ((x.h.b : Nat) : Int), .int .u32 ((x.h.c : Nat) : Int), .int .u32 ((x.h.d : Nat) : Int), .int .u32 ((x.h.e : Nat) : Int), .int .u32 ((x.h.f : Nat) : Int), .int .u32 ((x.h.g : Nat) : Int), .int .u32 ((x.h.h : Nat) : Int)] ++ [.string (bs x.b)] ++ [.int .u64 ((x.n : Nat) : Int)]) (segs := [(0, [.int .u32 ((x.h.a : Nat) : Int), .int .u32 ((x.h.b : Nat) : Int), .int .u32 ((x.h.c : Nat) : Int), .int .u32 ((x.h.d : Nat) : Int), .int .u32 ((x.h.e : Nat) : Int), .int .u32 ((x.h.f : Nat) : Int), .int .u32 ((x.h.g : Nat) : Int), .int .u32 ((x.h.h : Nat) : Int)]), (8, [.string (bs x.b)]), (9, [.int .u64 ((x.n : Nat) : Int)])]) (M.ge Hg3) (M.fresh Hg3) Bg3 (by simp [flen]) ⟨rfl, rfl, rfl, trivial⟩)
  clear Bg3
  simp only [putT, List.set]
  refine wpL_assign (v := .string (bs ([]))) (by rfl) (by rfl) (by rfl) ?_
  simp only [putT, List.set]
  refine wpL_assign (v := .int .i64 0) (by rfl) (by rfl) (by rfl) ?_
  simp only [putT, List.set]
  refine wpL_nil (no_panic ?_)
  refine hK1 _ _ ?_
  refine wp_seq_k (fun K5 hK5 => ?_)
  refine wp_seq_k (fun K6 hK6 => ?_)
  refine wp_region_seq ?_
  refine wpL_chunk 3 (by rfl) (fun Lk hLk => ?_)
  simp only [List.take, List.drop]
  refine wpV_load (cs := [.int .u32 ((x.h.a : Nat) : Int), .int .u32 ((x.h.b : Nat) : Int), .int .u32 ((x.h.c : Nat) : Int), .int .u32 ((x.h.d : Nat) : Int), .int .u32 ((x.h.e : Nat) : Int), .int .u32 ((x.h.f : Nat) : Int), .int .u32 ((x.h.g : Nat) : Int), .int .u32 ((x.h.h : Nat) : Int)] ++ [.string (bs x.b)] ++ [.int .u64 ((x.n : Nat) : Int)]) (by rfl) rfl rfl (range_join (range_join (M.r 0 0 rfl rfl) (M.r 0 1 rfl rfl) (by simp [flen])) (M.r 0 2 rfl rfl) (by simp [flen])) (M.lt 0 rfl) Tryd.underlying29 rfl info29 ?_
  simp only [putT, List.set]
  refine wpV_callf (v := .bool (rightX x)) (args := #[.agg ([.int .u32 ((x.h.a : Nat) : Int), .int .u32 ((x.h.b : Nat) : Int), .int .u32 ((x.h.c : Nat) : Int), .int .u32 ((x.h.d : Nat) : Int), .int .u32 ((x.h.e : Nat) : Int), .int .u32 ((x.h.f : Nat) : Int), .int .u32 ((x.h.g : Nat) : Int), .int .u32 ((x.h.h : Nat) : Int)] ++ [.string (bs x.b)] ++ [.int .u64 ((x.n : Nat) : Int)] : List Value).toArray]) (by rfl) rfl Tryd.func32 (by kernel_rfl) (by kernel_rfl) rfl (fun W hW => by with_reducible exact xright_c (x := x) hx) ?_
  simp only [putT, List.set]
  refine wpV_not (b := rightX x) (by rfl) rfl rfl ?_
  simp only [putT, List.set]
  refine wpV_nil (hLk _ (fun w8 Sw8 => ?_))
  clear hLk Lk
  simp only [List.take, List.drop]
  replace M := M.sees Sw8
  refine wpL_nil (no_panic ?_)
  refine hK6 _ _ ?_
  cases hc9 : (!(rightX x))
  · skip
    have hr : rightX x = true := by simpa using hc9
    obtain ⟨hr1, hr2, hr3⟩ := right_open hr
    refine wp_cond_false rfl ?_
    refine wp_skip ?_
    refine hK5 _ _ ?_
    refine wp_seq_k (fun K10 hK10 => ?_)
    refine wp_region_seq ?_
    refine wpL_chunk 2 (by rfl) (fun Lk hLk => ?_)
    simp only [List.take, List.drop]
    refine wpV_load (cs := [.int .u32 ((x.h.a : Nat) : Int), .int .u32 ((x.h.b : Nat) : Int), .int .u32 ((x.h.c : Nat) : Int), .int .u32 ((x.h.d : Nat) : Int), .int .u32 ((x.h.e : Nat) : Int), .int .u32 ((x.h.f : Nat) : Int), .int .u32 ((x.h.g : Nat) : Int), .int .u32 ((x.h.h : Nat) : Int)] ++ [.string (bs x.b)] ++ [.int .u64 ((x.n : Nat) : Int)]) (by rfl) rfl rfl (range_join (range_join (M.r 0 0 rfl rfl) (M.r 0 1 rfl rfl) (by simp [flen])) (M.r 0 2 rfl rfl) (by simp [flen])) (M.lt 0 rfl) Tryd.underlying29 rfl info29 ?_
    simp only [putT, List.set]
    refine wpV_val (v := .agg ([.int .u32 ((x.h.a : Nat) : Int), .int .u32 ((x.h.b : Nat) : Int), .int .u32 ((x.h.c : Nat) : Int), .int .u32 ((x.h.d : Nat) : Int), .int .u32 ((x.h.e : Nat) : Int), .int .u32 ((x.h.f : Nat) : Int), .int .u32 ((x.h.g : Nat) : Int), .int .u32 ((x.h.h : Nat) : Int)] ++ [.string (bs x.b)] ++ [.int .u64 ((x.n : Nat) : Int)] : List Value).toArray) (by rfl) (by rfl) (fun W hW => ?_) ?_
    · (unfold RunsVal; kernel_rfl)
    simp only [putT, List.set]
    refine wpV_nil (hLk _ (fun w12 Sw12 => ?_))
    clear hLk Lk
    simp only [List.take, List.drop]
    replace M := M.sees Sw12
    refine wpL_var (t := 90) (cs := [.int .u32 ((x.h.a : Nat) : Int), .int .u32 ((x.h.b : Nat) : Int), .int .u32 ((x.h.c : Nat) : Int), .int .u32 ((x.h.d : Nat) : Int), .int .u32 ((x.h.e : Nat) : Int), .int .u32 ((x.h.f : Nat) : Int), .int .u32 ((x.h.g : Nat) : Int), .int .u32 ((x.h.h : Nat) : Int)] ++ [.string (bs x.b)] ++ [.int .u64 ((x.n : Nat) : Int)]) (by rfl) (fun W => ?_) (fun g13 w14 Sw14 Hg13 Bg13 => ?_)
    · (first | rfl | go_simp)
    replace M := ((M.sees Sw14).addS (N := 10) (cs := [.int .u32 ((x.h.a : Nat) : Int), .int .u32 ((x.h.b : Nat) : Int), .int .u32 ((x.h.c : Nat) : Int), .int .u32 ((x.h.d : Nat) : Int), .int .u32 ((x.h.e : Nat) : Int), .int .u32 ((x.h.f : Nat) : Int), .int .u32 ((x.h.g : Nat) : Int), .int .u32 ((x.h.h : Nat) : Int)] ++ [.string (bs x.b)] ++ [.int .u64 ((x.n : Nat) : Int)]) (segs := [(0, [.int .u32 ((x.h.a : Nat) : Int), .int .u32 ((x.h.b : Nat) : Int), .int .u32 ((x.h.c : Nat) : Int), .int .u32 ((x.h.d : Nat) : Int), .int .u32 ((x.h.e : Nat) : Int), .int .u32 ((x.h.f : Nat) : Int), .int .u32 ((x.h.g : Nat) : Int), .int .u32 ((x.h.h : Nat) : Int)]), (8, [.string (bs x.b)]), (9, [.int .u64 ((x.n : Nat) : Int)])]) (M.ge Hg13) (M.fresh Hg13) Bg13 (by simp [flen]) ⟨rfl, rfl, rfl, trivial⟩)
    clear Bg13
    simp only [putT, List.set]
    refine wpL_assign (v := .pointer (some ⟨g13, 0, none⟩)) (by rfl) (by rfl) (by rfl) ?_
    simp only [putT, List.set]
    refine wpL_nil (no_panic ?_)
    refine hK10 _ _ ?_
    refine wp_seq_k (fun K15 hK15 => ?_)
    refine wp_region_seq ?_
    refine wpL_move (v := .pointer (some ⟨g13, 0, none⟩)) (by rfl) (by rfl) (by rfl) ?_
    simp only [putT, List.set]
    refine wpL_callM (f := 71) (args := #[.pointer (some ⟨g13, 0, none⟩)]) (R := fun v9 W9 => v9 = .string (bs (endL x.h x.b x.n)) ∧ Mem [g13] w14 W9 [⟨g13, 10, []⟩]) (by rfl) (by rfl) rfl Tryd.func71 (by kernel_rfl) (by kernel_rfl) (end_c (h := x.h) (b := x.b) (n := x.n) hx.h hr1 hx.n (M.ne0 0 rfl L0) (M.oldL L0) (M.oldR R0_0 L0) (M.one 0 rfl)) (fun v9 w17 h9 => ?_)
    obtain ⟨rfl, M9⟩ := h9
    replace M := M.callM1 0 rfl M9
    simp only [List.set] at M
    simp only [putT, List.set]
    refine wpL_assign (v := .string (bs (endL x.h x.b x.n))) (by rfl) (by rfl) (by rfl) ?_
    simp only [putT, List.set]
    refine wpL_assign (v := .int .i64 0) (by rfl) (by rfl) (by rfl) ?_
    simp only [putT, List.set]
    refine wpL_nil (no_panic ?_)
    refine hK15 _ _ ?_
    refine wp_ret ?_
    repeat (first | with_reducible refine then_ret ?_ | with_reducible refine inblock_ret ?_)
    refine bodyPost_ret (v := .tuple #[.string (bs (endL x.h x.b x.n)), .int .i64 0]) (res2 rfl (.tmp (by rfl)) (.tmp (by rfl))) rfl ?_
    have BE := M.below
    exact ⟨by rw [(endT_yes hr).1, (endT_yes hr).2], BE⟩
  · skip
    have hr : rightX x = false := by simpa using hc9
    refine wp_cond_true rfl ?_
    refine wp_seq_k (fun K18 hK18 => ?_)
    refine wp_region_seq ?_
    refine wpL_assign (v := .string (bs ([]))) (by rfl) (by rfl) (by rfl) ?_
    simp only [putT, List.set]
    refine wpL_assign (v := .int .i64 1) (by rfl) (by rfl) (by rfl) ?_
    simp only [putT, List.set]
    refine wpL_nil (no_panic ?_)
    refine hK18 _ _ ?_
    refine wp_ret ?_
    repeat (first | with_reducible refine then_ret ?_ | with_reducible refine inblock_ret ?_)
    refine bodyPost_ret (v := .tuple #[.string (bs ([])), .int .i64 1]) (res2 rfl (.tmp (by rfl)) (.tmp (by rfl))) rfl ?_
    have BE := M.below
    exact ⟨by rw [(endT_no hr).1, (endT_no hr).2], BE⟩
end Go.Proofs.Yb
