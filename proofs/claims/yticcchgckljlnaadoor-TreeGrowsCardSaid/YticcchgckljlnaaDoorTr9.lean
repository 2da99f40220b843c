import Derived.WalkKit
import Derived.WalkSpells
import Derived.Laws.Pointers
import Derived.RowKit3
import Derived.Below
import Derived.Outline
import Derived.LoopN
import Derived.Lib.Hide
import Derived.Handy
import Derived.Laws.Bits64b
import Derived.Test.YticcchgckljlnaaDoorTr7
import Derived.Test.YticcchgckljlnaaDoorTrQ
import Derived.Test.YticcchgckljlnaaDoorTr2
set_option linter.unusedSimpArgs false
set_option linter.unusedVariables false
namespace Go.Proofs.Yb
open Go Go.RowKit Go.Proofs.Num
attribute [local irreducible] wpV wpN wpList
def mayN (m : Nat) (ps : List (List UInt8)) : Bool := decide (m ≤ 4096) && (decide (ps.length = ones m) && all32 ps)
theorem mayG_nat (m : Nat) (ps : List (List UInt8)) : mayG (m : Int) ps = mayN m ps := by
  have h1 : decide ((0 : Int) ≤ (m : Int)) = true := decide_eq_true (by omega)
  have h2 : decide ((m : Int) ≤ 4096) = decide (m ≤ 4096) := by
    rw [Bool.eq_iff_iff]; simp; omega
  unfold mayG mayN
  rw [h1, h2, Int.toNat_natCast, Bool.true_and]
theorem mayG_neg {x : Int} (h : x < 0) (ps : List (List UInt8)) : mayG x ps = false := by
  unfold mayG
  rw [decide_eq_false (by omega), Bool.false_and]
set_option maxHeartbeats 1000000 in
theorem may_c0 {ps : List (List UInt8)} {ap : Option Addr} {np cp : Nat} {x : Int} {w : World} (hq : ps.length ≤ 4611686018427387904) (hx : x < 0) (Hp : RowA w ap np cp (scells ps)) :
    Calls Tryd.prog 80 #[.agg [.int .i64 x, .slice ap np cp].toArray] w fun e w' => e = .returned (.bool false) ∧ Below w.heap.size w w' := by
  obtain rfl : np = ps.length := by have := Hp.len; rwa [scells_len] at this
  go_enter Tryd.func80, Tryd.ntmps80
  have M := Mem.start w
  refine wp_seq_k (fun K1 hK1 => ?_)
  refine wp_region_seq ?_
  refine wpL_var (t := 66) (cs := [.int .i64 x, .slice ap ps.length cp]) (by rfl) (fun W => ?_) (fun g3 w4 Sw4 Hg3 Bg3 => ?_)
  · (first | rfl | go_simp)
  replace M := ((M.sees Sw4).add (N := 2) (cs := [.int .i64 x, .slice ap ps.length cp]) (M.ge Hg3) (M.fresh Hg3) Bg3 rfl)
  clear Bg3
  simp only [putT, List.set]
  refine wpL_assign (v := .bool false) (by rfl) (by rfl) (by rfl) ?_
  simp only [putT, List.set]
  refine wpL_nil (no_panic ?_)
  refine hK1 _ _ ?_
  refine wp_seq_k (fun K5 hK5 => ?_)
  refine wp_region_grow 23 [] (by kernel_rfl) (by kernel_rfl) (by kernel_rfl) (fun Lk hLk => ?_)
  simp only [List.take, List.drop]
  refine wpV_val (v := .pointer (some ⟨g3, 0, none⟩)) (by rfl) (by rfl) (fun W hW => ?_) ?_
  · (go_simp; exact rfl)
  simp only [putT, List.set]
  refine wpV_load1 (v := .int .i64 x) (by rfl) rfl rfl (range_one (range_sub (M.r 0 0 rfl rfl) 0 1 0 (xs := [.int .i64 x]) rfl rfl)) (M.lt 0 rfl) Tryd.underlying3 rfl ?_
  simp only [putT, List.set]
  refine wpV_bin (v := .bool false) (by rfl) rfl rfl rfl (fun W => (run_geq _ _ _ _ W).trans (by rw [(decide_eq_false (Int.not_le.2 hx))])) ?_
  simp only [putT, List.set]
  refine wpV_move (v := .bool false) (by rfl) rfl rfl ?_
  simp only [putT, List.set]
  refine wpV_skip (by rfl) (by rfl) ?_
  simp only [putT, List.set]
  refine wpV_skip (by rfl) (by rfl) ?_
  simp only [putT, List.set]
  refine wpV_skip (by rfl) (by rfl) ?_
  simp only [putT, List.set]
  refine wpV_pick (v := .bool false) (by rfl) rfl rfl rfl ?_
  simp only [putT, List.set]
  refine wpV_move (v := .bool false) (by rfl) rfl rfl ?_
  simp only [putT, List.set]
  refine wpV_skip (by rfl) (by rfl) ?_
  simp only [putT, List.set]
  refine wpV_skip (by rfl) (by rfl) ?_
  simp only [putT, List.set]
  refine wpV_skip (by rfl) (by rfl) ?_
  simp only [putT, List.set]
  refine wpV_skip (by rfl) (by rfl) ?_
  simp only [putT, List.set]
  refine wpV_skip (by rfl) (by rfl) ?_
  simp only [putT, List.set]
  refine wpV_skip (by rfl) (by rfl) ?_
  simp only [putT, List.set]
  refine wpV_skip (by rfl) (by rfl) ?_
  simp only [putT, List.set]
  refine wpV_skip (by rfl) (by rfl) ?_
  simp only [putT, List.set]
  refine wpV_pick (v := .bool false) (by rfl) rfl rfl rfl ?_
  simp only [putT, List.set]
  refine wpV_move (v := .bool false) (by rfl) rfl rfl ?_
  simp only [putT, List.set]
  refine wpV_skip (by rfl) (by rfl) ?_
  simp only [putT, List.set]
  refine wpV_skip (by rfl) (by rfl) ?_
  simp only [putT, List.set]
  refine wpV_skip (by rfl) (by rfl) ?_
  simp only [putT, List.set]
  refine wpV_pick (v := .bool false) (by rfl) rfl rfl rfl ?_
  simp only [putT, List.set]
  refine wpV_nil (hLk.out _ ?_)
  clear hLk Lk
  simp only [List.take, List.drop]
  iterate 23 refine wpN_skip (by rfl) ?_
  refine wpN_nil (fun w7 Sw7 hbs => ?_)
  clear hbs
  replace M := M.sees Sw7
  refine wpL_assign (v := .bool false) (by rfl) (by rfl) (by rfl) ?_
  simp only [putT, List.set]
  refine wpL_nil (no_panic ?_)
  refine hK5 _ _ ?_
  refine wp_ret ?_
  repeat (first | with_reducible refine then_ret ?_ | with_reducible refine inblock_ret ?_)
  refine bodyPost_ret (v := .bool false) (res1 rfl (.tmp (by rfl))) rfl ?_
  have BE := M.below
  exact ⟨rfl, BE⟩
set_option maxHeartbeats 1000000 in
theorem may_c1 {ps : List (List UInt8)} {ap : Option Addr} {np cp : Nat} {m : Nat} {w : World} (hq : ps.length ≤ 4611686018427387904) (Hp : RowA w ap np cp (scells ps)) :
    Calls Tryd.prog 80 #[.agg [.int .i64 ((m : Nat) : Int), .slice ap np cp].toArray] w fun e w' => e = .returned (.bool (mayN m ps)) ∧ Below w.heap.size w w' := by
  obtain rfl : np = ps.length := by have := Hp.len; rwa [scells_len] at this
  go_enter Tryd.func80, Tryd.ntmps80
  have M := Mem.start w
  refine wp_seq_k (fun K1 hK1 => ?_)
  refine wp_region_seq ?_
  refine wpL_var (t := 66) (cs := [.int .i64 ((m : Nat) : Int), .slice ap ps.length cp]) (by rfl) (fun W => ?_) (fun g3 w4 Sw4 Hg3 Bg3 => ?_)
  · (first | rfl | go_simp)
  replace M := ((M.sees Sw4).add (N := 2) (cs := [.int .i64 ((m : Nat) : Int), .slice ap ps.length cp]) (M.ge Hg3) (M.fresh Hg3) Bg3 rfl)
  clear Bg3
  simp only [putT, List.set]
  refine wpL_assign (v := .bool false) (by rfl) (by rfl) (by rfl) ?_
  simp only [putT, List.set]
  refine wpL_nil (no_panic ?_)
  refine hK1 _ _ ?_
  refine wp_seq_k (fun K5 hK5 => ?_)
  cases hg6 : (decide (m ≤ 4096))
  · skip
    have hmn : ¬ m ≤ 4096 := of_decide_eq_false hg6
    refine wp_region_grow 23 [] (by kernel_rfl) (by kernel_rfl) (by kernel_rfl) (fun Lk hLk => ?_)
    simp only [List.take, List.drop]
    refine wpV_val (v := .pointer (some ⟨g3, 0, none⟩)) (by rfl) (by rfl) (fun W hW => ?_) ?_
    · (go_simp; exact rfl)
    simp only [putT, List.set]
    refine wpV_load1 (v := .int .i64 ((m : Nat) : Int)) (by rfl) rfl rfl (range_one (range_sub (M.r 0 0 rfl rfl) 0 1 0 (xs := [.int .i64 ((m : Nat) : Int)]) rfl rfl)) (M.lt 0 rfl) Tryd.underlying3 rfl ?_
    simp only [putT, List.set]
    refine wpV_bin (v := .bool true) (by rfl) rfl rfl rfl (fun W => (run_geqN m 0 _ _ W).trans (by rw [(decide_eq_true (Nat.zero_le m))])) ?_
    simp only [putT, List.set]
    refine wpV_move (v := .bool true) (by rfl) rfl rfl ?_
    simp only [putT, List.set]
    refine wpV_val (v := .pointer (some ⟨g3, 0, none⟩)) (by rfl) (by rfl) (fun W hW => ?_) ?_
    · (go_simp; exact rfl)
    simp only [putT, List.set]
    refine wpV_load1 (v := .int .i64 ((m : Nat) : Int)) (by rfl) rfl rfl (range_one (range_sub (M.r 0 0 rfl rfl) 0 1 0 (xs := [.int .i64 ((m : Nat) : Int)]) rfl rfl)) (M.lt 0 rfl) Tryd.underlying3 rfl ?_
    simp only [putT, List.set]
    refine wpV_bin (v := .bool false) (by rfl) rfl rfl rfl (fun W => (run_leqN m 4096 _ _ W).trans (by rw [hg6])) ?_
    simp only [putT, List.set]
    refine wpV_pick (v := .bool false) (by rfl) rfl rfl rfl ?_
    simp only [putT, List.set]
    refine wpV_move (v := .bool false) (by rfl) rfl rfl ?_
    simp only [putT, List.set]
    refine wpV_skip (by rfl) (by rfl) ?_
    simp only [putT, List.set]
    refine wpV_skip (by rfl) (by rfl) ?_
    simp only [putT, List.set]
    refine wpV_skip (by rfl) (by rfl) ?_
    simp only [putT, List.set]
    refine wpV_skip (by rfl) (by rfl) ?_
    simp only [putT, List.set]
    refine wpV_skip (by rfl) (by rfl) ?_
    simp only [putT, List.set]
    refine wpV_skip (by rfl) (by rfl) ?_
    simp only [putT, List.set]
    refine wpV_skip (by rfl) (by rfl) ?_
    simp only [putT, List.set]
    refine wpV_skip (by rfl) (by rfl) ?_
    simp only [putT, List.set]
    refine wpV_pick (v := .bool false) (by rfl) rfl rfl rfl ?_
    simp only [putT, List.set]
    refine wpV_move (v := .bool false) (by rfl) rfl rfl ?_
    simp only [putT, List.set]
    refine wpV_skip (by rfl) (by rfl) ?_
    simp only [putT, List.set]
    refine wpV_skip (by rfl) (by rfl) ?_
    simp only [putT, List.set]
    refine wpV_skip (by rfl) (by rfl) ?_
    simp only [putT, List.set]
    refine wpV_pick (v := .bool false) (by rfl) rfl rfl rfl ?_
    simp only [putT, List.set]
    refine wpV_nil (hLk.out _ ?_)
    clear hLk Lk
    simp only [List.take, List.drop]
    iterate 23 refine wpN_skip (by rfl) ?_
    refine wpN_nil (fun w8 Sw8 hbs => ?_)
    clear hbs
    replace M := M.sees Sw8
    refine wpL_assign (v := .bool false) (by rfl) (by rfl) (by rfl) ?_
    simp only [putT, List.set]
    refine wpL_nil (no_panic ?_)
    refine hK5 _ _ ?_
    refine wp_ret ?_
    repeat (first | with_reducible refine then_ret ?_ | with_reducible refine inblock_ret ?_)
    refine bodyPost_ret (v := .bool false) (res1 rfl (.tmp (by rfl))) rfl ?_
    have BE := M.below
    exact ⟨by unfold mayN; rw [decide_eq_false hmn]; first | rfl | (simp only [Bool.true_and, Bool.false_and]; first | rfl | (rw []; rfl)), BE⟩
  · skip
    have hm : m ≤ 4096 := of_decide_eq_true hg6
    have hon := (oc_ones hm).2.2
    cases hg9 : (decide (ps.length = ones m))
    · skip
      refine wp_region_grow 23 [] (by kernel_rfl) (by kernel_rfl) (by kernel_rfl) (fun Lk hLk => ?_)
      simp only [List.take, List.drop]
      refine wpV_val (v := .pointer (some ⟨g3, 0, none⟩)) (by rfl) (by rfl) (fun W hW => ?_) ?_
      · (go_simp; exact rfl)
      simp only [putT, List.set]
      refine wpV_load1 (v := .int .i64 ((m : Nat) : Int)) (by rfl) rfl rfl (range_one (range_sub (M.r 0 0 rfl rfl) 0 1 0 (xs := [.int .i64 ((m : Nat) : Int)]) rfl rfl)) (M.lt 0 rfl) Tryd.underlying3 rfl ?_
      simp only [putT, List.set]
      refine wpV_bin (v := .bool true) (by rfl) rfl rfl rfl (fun W => (run_geqN m 0 _ _ W).trans (by rw [(decide_eq_true (Nat.zero_le m))])) ?_
      simp only [putT, List.set]
      refine wpV_move (v := .bool true) (by rfl) rfl rfl ?_
      simp only [putT, List.set]
      refine wpV_val (v := .pointer (some ⟨g3, 0, none⟩)) (by rfl) (by rfl) (fun W hW => ?_) ?_
      · (go_simp; exact rfl)
      simp only [putT, List.set]
      refine wpV_load1 (v := .int .i64 ((m : Nat) : Int)) (by rfl) rfl rfl (range_one (range_sub (M.r 0 0 rfl rfl) 0 1 0 (xs := [.int .i64 ((m : Nat) : Int)]) rfl rfl)) (M.lt 0 rfl) Tryd.underlying3 rfl ?_
      simp only [putT, List.set]
      refine wpV_bin (v := .bool true) (by rfl) rfl rfl rfl (fun W => (run_leqN m 4096 _ _ W).trans (by rw [hg6])) ?_
      simp only [putT, List.set]
      refine wpV_pick (v := .bool true) (by rfl) rfl rfl rfl ?_
      simp only [putT, List.set]
      refine wpV_move (v := .bool true) (by rfl) rfl rfl ?_
      simp only [putT, List.set]
      refine wpV_val (v := .pointer (some ⟨g3, 1, none⟩)) (by rfl) (by rfl) (fun W hW => ?_) ?_
      · (go_simp; exact rfl)
      simp only [putT, List.set]
      refine wpV_load1 (v := .slice ap ps.length cp) (by rfl) rfl rfl (range_one (range_sub (M.r 0 0 rfl rfl) 1 1 1 (xs := [.slice ap ps.length cp]) rfl rfl)) (M.lt 0 rfl) Tryd.underlying48 rfl ?_
      simp only [putT, List.set]
      refine wpV_lenA (n := ps.length) (by rfl) rfl rfl rfl Tryd.underlying48 ?_
      simp only [putT, List.set]
      refine wpV_val (v := .pointer (some ⟨g3, 0, none⟩)) (by rfl) (by rfl) (fun W hW => ?_) ?_
      · (go_simp; exact rfl)
      simp only [putT, List.set]
      refine wpV_load1 (v := .int .i64 ((m : Nat) : Int)) (by rfl) rfl rfl (range_one (range_sub (M.r 0 0 rfl rfl) 0 1 0 (xs := [.int .i64 ((m : Nat) : Int)]) rfl rfl)) (M.lt 0 rfl) Tryd.underlying3 rfl ?_
      simp only [putT, List.set]
      refine wpV_conv (d := .bool) (e := ((m : Nat) : Int)) (by rfl) rfl rfl (run_conv_int Tryd.underlying3 Tryd.underlying116 ((wrap64N _).trans (congrArg _ (Nat.mod_eq_of_lt (by omega))))) ?_
      simp only [putT, List.set]
      refine wpV_callf (v := .int .i64 ((ones m : Nat) : Int)) (args := #[.int .u64 ((m : Nat) : Int)]) (by rfl) rfl Tryd.func98 (by kernel_rfl) (by kernel_rfl) rfl (fun W hW => oc_c (n := m) hm) ?_
      simp only [putT, List.set]
      refine wpV_bin (v := .bool false) (by rfl) rfl rfl rfl (fun W => (run_eqlN ps.length (ones m) _ _ W).trans (by rw [hg9])) ?_
      simp only [putT, List.set]
      refine wpV_pick (v := .bool false) (by rfl) rfl rfl rfl ?_
      simp only [putT, List.set]
      refine wpV_move (v := .bool false) (by rfl) rfl rfl ?_
      simp only [putT, List.set]
      refine wpV_skip (by rfl) (by rfl) ?_
      simp only [putT, List.set]
      refine wpV_skip (by rfl) (by rfl) ?_
      simp only [putT, List.set]
      refine wpV_skip (by rfl) (by rfl) ?_
      simp only [putT, List.set]
      refine wpV_pick (v := .bool false) (by rfl) rfl rfl rfl ?_
      simp only [putT, List.set]
      refine wpV_nil (hLk.out _ ?_)
      clear hLk Lk
      simp only [List.take, List.drop]
      iterate 23 refine wpN_skip (by rfl) ?_
      refine wpN_nil (fun w11 Sw11 hbs => ?_)
      clear hbs
      replace M := M.sees Sw11
      refine wpL_assign (v := .bool false) (by rfl) (by rfl) (by rfl) ?_
      simp only [putT, List.set]
      refine wpL_nil (no_panic ?_)
      refine hK5 _ _ ?_
      refine wp_ret ?_
      repeat (first | with_reducible refine then_ret ?_ | with_reducible refine inblock_ret ?_)
      refine bodyPost_ret (v := .bool false) (res1 rfl (.tmp (by rfl))) rfl ?_
      have BE := M.below
      exact ⟨by unfold mayN; rw [decide_eq_true hm]; first | rfl | (simp only [Bool.true_and, Bool.false_and]; first | rfl | (rw [hg9]; rfl)), BE⟩
    · skip
      refine wp_region_grow 23 [] (by kernel_rfl) (by kernel_rfl) (by kernel_rfl) (fun Lk hLk => ?_)
      simp only [List.take, List.drop]
      refine wpV_val (v := .pointer (some ⟨g3, 0, none⟩)) (by rfl) (by rfl) (fun W hW => ?_) ?_
      · (go_simp; exact rfl)
      simp only [putT, List.set]
      refine wpV_load1 (v := .int .i64 ((m : Nat) : Int)) (by rfl) rfl rfl (range_one (range_sub (M.r 0 0 rfl rfl) 0 1 0 (xs := [.int .i64 ((m : Nat) : Int)]) rfl rfl)) (M.lt 0 rfl) Tryd.underlying3 rfl ?_
      simp only [putT, List.set]
      refine wpV_bin (v := .bool true) (by rfl) rfl rfl rfl (fun W => (run_geqN m 0 _ _ W).trans (by rw [(decide_eq_true (Nat.zero_le m))])) ?_
      simp only [putT, List.set]
      refine wpV_move (v := .bool true) (by rfl) rfl rfl ?_
      simp only [putT, List.set]
      refine wpV_val (v := .pointer (some ⟨g3, 0, none⟩)) (by rfl) (by rfl) (fun W hW => ?_) ?_
      · (go_simp; exact rfl)
      simp only [putT, List.set]
      refine wpV_load1 (v := .int .i64 ((m : Nat) : Int)) (by rfl) rfl rfl (range_one (range_sub (M.r 0 0 rfl rfl) 0 1 0 (xs := [.int .i64 ((m : Nat) : Int)]) rfl rfl)) (M.lt 0 rfl) Tryd.underlying3 rfl ?_
      simp only [putT, List.set]
      refine wpV_bin (v := .bool true) (by rfl) rfl rfl rfl (fun W => (run_leqN m 4096 _ _ W).trans (by rw [hg6])) ?_
      simp only [putT, List.set]
      refine wpV_pick (v := .bool true) (by rfl) rfl rfl rfl ?_
      simp only [putT, List.set]
      refine wpV_move (v := .bool true) (by rfl) rfl rfl ?_
      simp only [putT, List.set]
      refine wpV_val (v := .pointer (some ⟨g3, 1, none⟩)) (by rfl) (by rfl) (fun W hW => ?_) ?_
      · (go_simp; exact rfl)
      simp only [putT, List.set]
      refine wpV_load1 (v := .slice ap ps.length cp) (by rfl) rfl rfl (range_one (range_sub (M.r 0 0 rfl rfl) 1 1 1 (xs := [.slice ap ps.length cp]) rfl rfl)) (M.lt 0 rfl) Tryd.underlying48 rfl ?_
      simp only [putT, List.set]
      refine wpV_lenA (n := ps.length) (by rfl) rfl rfl rfl Tryd.underlying48 ?_
      simp only [putT, List.set]
      refine wpV_val (v := .pointer (some ⟨g3, 0, none⟩)) (by rfl) (by rfl) (fun W hW => ?_) ?_
      · (go_simp; exact rfl)
      simp only [putT, List.set]
      refine wpV_load1 (v := .int .i64 ((m : Nat) : Int)) (by rfl) rfl rfl (range_one (range_sub (M.r 0 0 rfl rfl) 0 1 0 (xs := [.int .i64 ((m : Nat) : Int)]) rfl rfl)) (M.lt 0 rfl) Tryd.underlying3 rfl ?_
      simp only [putT, List.set]
      refine wpV_conv (d := .bool) (e := ((m : Nat) : Int)) (by rfl) rfl rfl (run_conv_int Tryd.underlying3 Tryd.underlying116 ((wrap64N _).trans (congrArg _ (Nat.mod_eq_of_lt (by omega))))) ?_
      simp only [putT, List.set]
      refine wpV_callf (v := .int .i64 ((ones m : Nat) : Int)) (args := #[.int .u64 ((m : Nat) : Int)]) (by rfl) rfl Tryd.func98 (by kernel_rfl) (by kernel_rfl) rfl (fun W hW => oc_c (n := m) hm) ?_
      simp only [putT, List.set]
      refine wpV_bin (v := .bool true) (by rfl) rfl rfl rfl (fun W => (run_eqlN ps.length (ones m) _ _ W).trans (by rw [hg9])) ?_
      simp only [putT, List.set]
      refine wpV_pick (v := .bool true) (by rfl) rfl rfl rfl ?_
      simp only [putT, List.set]
      refine wpV_move (v := .bool true) (by rfl) rfl rfl ?_
      simp only [putT, List.set]
      refine wpV_val (v := .pointer (some ⟨g3, 1, none⟩)) (by rfl) (by rfl) (fun W hW => ?_) ?_
      · (go_simp; exact rfl)
      simp only [putT, List.set]
      refine wpV_load1 (v := .slice ap ps.length cp) (by rfl) rfl rfl (range_one (range_sub (M.r 0 0 rfl rfl) 1 1 1 (xs := [.slice ap ps.length cp]) rfl rfl)) (M.lt 0 rfl) Tryd.underlying48 rfl ?_
      simp only [putT, List.set]
      refine wpV_callf (v := .bool (all32 ps)) (args := #[.slice ap ps.length cp]) (by rfl) rfl Tryd.func76 (by kernel_rfl) (by kernel_rfl) rfl (fun W hW => by with_reducible exact well_r (ps := ps) hq ((M.sees hW).oldA Hp)) ?_
      simp only [putT, List.set]
      refine wpV_pick (v := .bool (all32 ps)) (by rfl) rfl rfl rfl ?_
      simp only [putT, List.set]
      refine wpV_nil (hLk.out _ ?_)
      clear hLk Lk
      simp only [List.take, List.drop]
      iterate 23 refine wpN_skip (by rfl) ?_
      refine wpN_nil (fun w13 Sw13 hbs => ?_)
      clear hbs
      replace M := M.sees Sw13
      refine wpL_assign (v := .bool (all32 ps)) (by rfl) (by rfl) (by rfl) ?_
      simp only [putT, List.set]
      refine wpL_nil (no_panic ?_)
      refine hK5 _ _ ?_
      refine wp_ret ?_
      repeat (first | with_reducible refine then_ret ?_ | with_reducible refine inblock_ret ?_)
      refine bodyPost_ret (v := .bool (all32 ps)) (res1 rfl (.tmp (by rfl))) rfl ?_
      have BE := M.below
      exact ⟨by unfold mayN; rw [decide_eq_true hm]; first | rfl | (simp only [Bool.true_and, Bool.false_and]; first | rfl | (rw [hg9]; rfl)), BE⟩
theorem may_c {ps : List (List UInt8)} {ap : Option Addr} {np cp : Nat} {x : Int} {w : World} (hq : ps.length ≤ 4611686018427387904) (Hp : RowA w ap np cp (scells ps)) :
    Calls Tryd.prog 80 #[.agg [.int .i64 x, .slice ap np cp].toArray] w fun e w' => e = .returned (.bool (mayG x ps)) ∧ Below w.heap.size w w' := by
  by_cases hx : x < 0
  · rw [mayG_neg hx]
    exact may_c0 hq hx Hp
  · obtain ⟨m, rfl⟩ : ∃ m : Nat, x = (m : Int) := ⟨x.toNat, by omega⟩
    rw [mayG_nat]
    exact may_c1 hq Hp
set_option maxHeartbeats 1000000 in
theorem last_c {ps : List (List UInt8)} {ap : Option Addr} {np cp : Nat} {g : Nat} {x : Int} {w : World} (h1 : 1 ≤ ps.length) (hq : ps.length ≤ 4611686018427387904) (Hp : RowN [g] w ap np cp (scells ps)) (hM : Mem [g] w w [⟨g, 2, [(0, [.int .i64 x, .slice ap np cp])]⟩]) :
    Calls Tryd.prog 85 #[.pointer (some ⟨g, 0, none⟩)] w fun e w' => ∃ v, e = .returned v ∧ v = .string (bs (lastS ps)) ∧ Mem [g] w w' [⟨g, 2, [(0, [.int .i64 x, .slice ap (np - 1) (np - 1)])]⟩] := by
  obtain rfl : np = ps.length := by have := Hp.row.len; rwa [scells_len] at this
  go_enter Tryd.func85, Tryd.ntmps85
  have M := hM
  refine wp_seq_k (fun K1 hK1 => ?_)
  refine wp_region_seq ?_
  refine wpL_assign (v := .string (bs ([]))) (by rfl) (by rfl) (by rfl) ?_
  simp only [putT, List.set]
  refine wpL_nil (no_panic ?_)
  refine hK1 _ _ ?_
  refine wp_seq_k (fun K3 hK3 => ?_)
  refine wp_region_seq ?_
  refine wpL_move (v := .pointer (some ⟨g, 0, none⟩)) (by rfl) (by rfl) (by rfl) ?_
  simp only [putT, List.set]
  refine wpL_chunk 6 (by rfl) (fun Lk hLk => ?_)
  simp only [List.take, List.drop]
  refine wpV_nilCheck (by rfl) rfl rfl ?_
  simp only [putT, List.set]
  refine wpV_val (v := .pointer (some ⟨g, 0, none⟩)) (by rfl) (by rfl) (fun W hW => ?_) ?_
  · (go_simp; exact rfl)
  simp only [putT, List.set]
  refine wpV_val (v := .pointer (some ⟨g, 1, none⟩)) (by rfl) (by rfl) (fun W hW => ?_) ?_
  · (go_simp; exact rfl)
  simp only [putT, List.set]
  refine wpV_load1 (v := .slice ap ps.length cp) (by rfl) rfl rfl (range_one (range_sub (M.r 0 0 rfl rfl) 1 1 1 (xs := [.slice ap ps.length cp]) rfl rfl)) (M.lt 0 rfl) Tryd.underlying48 rfl ?_
  simp only [putT, List.set]
  refine wpV_lenA (n := ps.length) (by rfl) rfl rfl rfl Tryd.underlying48 ?_
  simp only [putT, List.set]
  refine wpV_bin (v := .int .i64 ((ps.length - 1 : Nat) : Int)) (by rfl) rfl rfl rfl (fun W => run_sub (by simp only [IntKind.wrap_i64]; omega) W) ?_
  simp only [putT, List.set]
  refine wpV_nil (hLk _ (fun w5 Sw5 => ?_))
  clear hLk Lk
  simp only [List.take, List.drop]
  replace M := M.sees Sw5
  refine wpL_assign (v := .int .i64 ((ps.length - 1 : Nat) : Int)) (by rfl) (by rfl) (by rfl) ?_
  simp only [putT, List.set]
  refine wpL_nil (no_panic ?_)
  refine hK3 _ _ ?_
  refine wp_seq_k (fun K6 hK6 => ?_)
  refine wp_region_seq ?_
  refine wpL_move (v := .pointer (some ⟨g, 0, none⟩)) (by rfl) (by rfl) (by rfl) ?_
  simp only [putT, List.set]
  refine wpL_chunk 7 (by rfl) (fun Lk hLk => ?_)
  simp only [List.take, List.drop]
  refine wpV_nilCheck (by rfl) rfl rfl ?_
  simp only [putT, List.set]
  refine wpV_val (v := .pointer (some ⟨g, 0, none⟩)) (by rfl) (by rfl) (fun W hW => ?_) ?_
  · (go_simp; exact rfl)
  simp only [putT, List.set]
  refine wpV_val (v := .pointer (some ⟨g, 1, none⟩)) (by rfl) (by rfl) (fun W hW => ?_) ?_
  · (go_simp; exact rfl)
  simp only [putT, List.set]
  refine wpV_load1 (v := .slice ap ps.length cp) (by rfl) rfl rfl (range_one (range_sub (M.r 0 0 rfl rfl) 1 1 1 (xs := [.slice ap ps.length cp]) rfl rfl)) (M.lt 0 rfl) Tryd.underlying48 rfl ?_
  simp only [putT, List.set]
  refine wpV_move (v := .int .i64 ((ps.length - 1 : Nat) : Int)) (by rfl) rfl rfl ?_
  simp only [putT, List.set]
  refine wpV_idxA (i := ps.length - 1) (by rfl) rfl rfl rfl Tryd.underlying48 info9 (Hp.mem M).row (by omega) ?_
  simp only [putT, List.set]
  refine wpV_loadA (i := ps.length - 1) (v := .string (bs (ps.getD (ps.length - 1) []))) (by rfl) rfl rfl (Hp.mem M).row (scells_get (ps := ps) (by omega)) Tryd.underlying9 rfl ?_
  simp only [putT, List.set]
  refine wpV_nil (hLk _ (fun w8 Sw8 => ?_))
  clear hLk Lk
  simp only [List.take, List.drop]
  replace M := M.sees Sw8
  refine wpL_assign (v := .string (bs (ps.getD (ps.length - 1) []))) (by rfl) (by rfl) (by rfl) ?_
  simp only [putT, List.set]
  refine wpL_nil (no_panic ?_)
  refine hK6 _ _ ?_
  refine wp_seq_k (fun K9 hK9 => ?_)
  refine wp_region_seq ?_
  refine wpL_move (v := .pointer (some ⟨g, 0, none⟩)) (by rfl) (by rfl) (by rfl) ?_
  simp only [putT, List.set]
  refine wpL_move (v := .pointer (some ⟨g, 0, none⟩)) (by rfl) (by rfl) (by rfl) ?_
  simp only [putT, List.set]
  refine wpL_chunk 10 (by rfl) (fun Lk hLk => ?_)
  simp only [List.take, List.drop]
  refine wpV_nilCheck (by rfl) rfl rfl ?_
  simp only [putT, List.set]
  refine wpV_val (v := .pointer (some ⟨g, 0, none⟩)) (by rfl) (by rfl) (fun W hW => ?_) ?_
  · (go_simp; exact rfl)
  simp only [putT, List.set]
  refine wpV_val (v := .pointer (some ⟨g, 1, none⟩)) (by rfl) (by rfl) (fun W hW => ?_) ?_
  · (go_simp; exact rfl)
  simp only [putT, List.set]
  refine wpV_load1 (v := .slice ap ps.length cp) (by rfl) rfl rfl (range_one (range_sub (M.r 0 0 rfl rfl) 1 1 1 (xs := [.slice ap ps.length cp]) rfl rfl)) (M.lt 0 rfl) Tryd.underlying48 rfl ?_
  simp only [putT, List.set]
  refine wpV_move (v := .int .i64 ((ps.length - 1 : Nat) : Int)) (by rfl) rfl rfl ?_
  simp only [putT, List.set]
  refine wpV_move (v := .int .i64 ((ps.length - 1 : Nat) : Int)) (by rfl) rfl rfl ?_
  simp only [putT, List.set]
  refine wpV_slcHM (hi := ps.length - 1) (m := ps.length - 1) (by rfl) rfl rfl rfl rfl Tryd.underlying48 info9 (Nat.le_refl _) (Nat.le_trans (Nat.sub_le _ _) Hp.row.cap) ?_
  simp only [putT, List.set]
  refine wpV_nilCheck (by rfl) rfl rfl ?_
  simp only [putT, List.set]
  refine wpV_val (v := .pointer (some ⟨g, 0, none⟩)) (by rfl) (by rfl) (fun W hW => ?_) ?_
  · (go_simp; exact rfl)
  simp only [putT, List.set]
  refine wpV_val (v := .pointer (some ⟨g, 1, none⟩)) (by rfl) (by rfl) (fun W hW => ?_) ?_
  · (go_simp; exact rfl)
  simp only [putT, List.set]
  refine wpV_nil (hLk _ (fun w11 Sw11 => ?_))
  clear hLk Lk
  simp only [List.take, List.drop]
  replace M := M.sees Sw11
  refine wpL_store1 (g := g) (off := 1) (n := 2) (v := .slice ap (ps.length - 1) (ps.length - 1)) (by rfl) (by rfl) (by rfl) (by rfl) (by rfl) (M.t 0 rfl) (by decide) info48 rfl (fun w12 P R T => ?_)
  replace M := M.put1 (j := 1) 0 rfl P R T rfl
  simp only [List.set] at M
  refine wpL_nil (no_panic ?_)
  refine hK9 _ _ ?_
  refine wp_seq_k (fun K13 hK13 => ?_)
  refine wp_region_seq ?_
  refine wpL_move (v := .string (bs (ps.getD (ps.length - 1) []))) (by rfl) (by rfl) (by rfl) ?_
  simp only [putT, List.set]
  refine wpL_assign (v := .string (bs (ps.getD (ps.length - 1) []))) (by rfl) (by rfl) (by rfl) ?_
  simp only [putT, List.set]
  refine wpL_nil (no_panic ?_)
  refine hK13 _ _ ?_
  refine wp_ret ?_
  repeat (first | with_reducible refine then_ret ?_ | with_reducible refine inblock_ret ?_)
  refine bodyPost_ret (v := .string (bs (ps.getD (ps.length - 1) []))) (res1 rfl (.tmp (by rfl))) rfl ?_
  exact ⟨_, rfl, rfl, M⟩
end Go.Proofs.Yb

namespace Go.Proofs.Yb
open Go Go.RowKit Go.Proofs.Num
attribute [local irreducible] wpV wpN wpList
theorem addP_go {k m q : Nat} {ps : List (List UInt8)} {u s0 : List UInt8} (hodd : k % 2 = 1) (hq : q ≤ ps.length) (hA : addP k (ps.take q) u = addP m ps s0) : addP (k / 2 ^ 1) (ps.take (q - 1)) (nodeS (lastS (ps.take q)) u) = addP m ps s0 := by
  rw [← hA, addP_odd hodd, List.length_take, Nat.min_eq_left hq, List.take_take, Nat.min_eq_left (Nat.sub_le _ _)]
theorem last_len {ps : List (List UInt8)} {q : Nat} (h : ∀ s ∈ ps, s.length = 32) (h0 : 1 ≤ q) (hq : q ≤ ps.length) : (lastS (ps.take q)).length = 32 := by
  have hl : (ps.take q).length = q := by rw [List.length_take]; omega
  unfold lastS
  rw [hl, List.getD_eq_getElem?_getD, List.getElem?_eq_getElem (by omega)]
  exact h _ (List.mem_of_mem_take (List.getElem_mem _))
set_option maxHeartbeats 4000000 in
theorem add_c {ps : List (List UInt8)} {ap : Option Addr} {np cp : Nat} {g m : Nat} {s0 : List UInt8} {w : World} (hm : m ≤ 4096) (hpl : ps.length = ones m) (h32 : ∀ s ∈ ps, s.length = 32) (hs0 : s0.length = 32) (hq : ps.length ≤ 4096) (hg0 : g ≠ 0) (L0 : 0 < w.heap.size) (R0_0 : w.rangeAt 0 0 kcells) (Hp : RowN [g] w ap np cp (scells ps)) (hM : Mem [g] w w [⟨g, 2, [(0, [.int .i64 ((m : Nat) : Int), .slice ap np cp])]⟩]) :
    Calls Tryd.prog 81 #[.pointer (some ⟨g, 0, none⟩), .string (bs s0)] w fun e w' => ∃ v, e = .returned v ∧ ∃ g9 c9, v = .tuple #[] ∧ (addP m ps s0).length ≤ c9 ∧ Mem [g] w w' [⟨g, 2, [(0, [.int .i64 ((m + 1 : Nat) : Int), .slice (some ⟨g9, 0, none⟩) (addP m ps s0).length c9])]⟩, ⟨g9, c9, [(0, scells (addP m ps s0))]⟩] := by
  obtain rfl : np = ps.length := by have := Hp.row.len; rwa [scells_len] at this
  go_enter Tryd.func81, Tryd.ntmps81
  have M := hM
  refine wp_seq_k (fun K1 hK1 => ?_)
  refine wp_seq_k (fun K2 hK2 => ?_)
  refine wp_region_seq ?_
  refine wpL_move (v := .pointer (some ⟨g, 0, none⟩)) (by rfl) (by rfl) (by rfl) ?_
  simp only [putT, List.set]
  refine wpL_chunk 4 (by rfl) (fun Lk hLk => ?_)
  simp only [List.take, List.drop]
  refine wpV_nilCheck (by rfl) rfl rfl ?_
  simp only [putT, List.set]
  refine wpV_val (v := .pointer (some ⟨g, 0, none⟩)) (by rfl) (by rfl) (fun W hW => ?_) ?_
  · (go_simp; exact rfl)
  simp only [putT, List.set]
  refine wpV_val (v := .pointer (some ⟨g, 0, none⟩)) (by rfl) (by rfl) (fun W hW => ?_) ?_
  · (go_simp; exact rfl)
  simp only [putT, List.set]
  refine wpV_load1 (v := .int .i64 ((m : Nat) : Int)) (by rfl) rfl rfl (range_one (range_sub (M.r 0 0 rfl rfl) 0 1 0 (xs := [.int .i64 ((m : Nat) : Int)]) rfl rfl)) (M.lt 0 rfl) Tryd.underlying3 rfl ?_
  simp only [putT, List.set]
  refine wpV_nil (hLk _ (fun w4 Sw4 => ?_))
  clear hLk Lk
  simp only [List.take, List.drop]
  replace M := M.sees Sw4
  refine wpL_assign (v := .int .i64 ((m : Nat) : Int)) (by rfl) (by rfl) (by rfl) ?_
  simp only [putT, List.set]
  refine wpL_nil (no_panic ?_)
  refine hK2 _ _ ?_
  refine wp_block ?_
  refine wp_loop_ghost (fun n9 a9 W9 => ∃ (k : Nat) (u : List UInt8) (q : Nat) (c1 : Nat) (u5 : Nat → Value), n9 = 2 * k ∧ a9 = { tmps := #[.pointer (some ⟨g, 0, none⟩), .string (bs u), undef, undef, .int .i64 ((k : Nat) : Int), .pointer (some ⟨g, 0, none⟩), .pointer (some ⟨g, 0, none⟩), .pointer (some ⟨g, 0, none⟩), .pointer (some ⟨g, 0, none⟩), .int .i64 ((m : Nat) : Int), u5 10, u5 11, u5 12, u5 13, u5 14, u5 15, u5 16, u5 17, u5 18, undef, undef, undef, undef, undef, undef, undef, undef, undef, undef, undef, undef, undef, undef, undef, undef, undef, undef, undef, undef, undef, undef, undef, undef, undef, undef, undef, undef, undef, undef, undef, undef, undef, undef], defers := [] } ∧ Mem [g] w W9 [⟨g, 2, [(0, [.int .i64 ((m : Nat) : Int), .slice ap q c1])]⟩] ∧ (k ≤ m) ∧ (q = ones k) ∧ (q ≤ ps.length) ∧ (q ≤ c1) ∧ (c1 ≤ cp) ∧ (addP k (ps.take q) u = addP m ps s0) ∧ (u.length = 32)) (2 * (m)) ?_ (fun n9 a9 W9 hI => ?_)
  · exact ⟨m, s0, ps.length, cp, (fun q9 => (#[undef, undef, undef, undef, undef, undef, undef, undef, undef, undef, undef, undef, undef, undef, undef, undef, undef, undef, undef] : Array Value).getD q9 undef), rfl, rfl, M, (Nat.le_refl _), hpl, (Nat.le_refl _), Hp.row.cap, (Nat.le_refl _), (by rw [List.take_length]), hs0⟩
  clear M
  obtain ⟨k, u, q, c1, u5, rfl, rfl, M, hk4, hqk, hq1, hq2, hq3, hA, hul⟩ := hI
  obtain ⟨w6, rfl⟩ : ∃ W8, W8 = W9 := ⟨_, rfl⟩
  refine wp_seq_k (fun K7 hK7 => ?_)
  refine wp_seq_k (fun K8 hK8 => ?_)
  refine wp_region_seq ?_
  refine wpL_move (v := .int .i64 ((k : Nat) : Int)) (by rfl) (by rfl) (by rfl) ?_
  simp only [putT, List.set]
  refine wpL_chunk 2 (by rfl) (fun Lk hLk => ?_)
  simp only [List.take, List.drop]
  refine wpV_bin (v := .int .i64 ((k % 2 : Nat) : Int)) (by rfl) rfl rfl rfl (fun W => run_and ((and_i64 (m := k) (n := 1) (by omega) (by decide)).trans (by rw [and_oneN])) W) ?_
  simp only [putT, List.set]
  refine wpV_bin (v := .bool (decide (k % 2 = 1))) (by rfl) rfl rfl rfl (fun W => run_eqlN (k % 2) 1 _ _ W) ?_
  simp only [putT, List.set]
  refine wpV_nil (hLk _ (fun w10 Sw10 => ?_))
  clear hLk Lk
  simp only [List.take, List.drop]
  replace M := M.sees Sw10
  refine wpL_nil (no_panic ?_)
  refine hK8 _ _ ?_
  cases hc11 : (decide (k % 2 = 1))
  · skip
    have hodd : ¬ k % 2 = 1 := of_decide_eq_false hc11
    rw [addP_even hodd] at hA
    have hqt : (ps.take q).length = q := by rw [List.length_take]; omega
    refine wp_cond_false rfl ?_
    refine wp_exit ?_
    refine hK1 _ _ ?_
    refine wp_seq_k (fun K12 hK12 => ?_)
    have HK13 : ∀ (g18 : Nat) (g20 : Nat) (g20c : Nat) (W9 : World) (Cg20 : (addP m ps s0).length ≤ g20c), Mem [g] w W9 [⟨g20, g20c, [(0, scells (addP m ps s0))]⟩, ⟨g18, 1, [(0, [.string (bs u)])]⟩, ⟨g, 2, [(0, [.int .i64 ((m : Nat) : Int), .slice (some ⟨g20, 0, none⟩) ((addP m ps s0).length) g20c])]⟩] → K12 { tmps := #[.pointer (some ⟨g, 0, none⟩), .string (bs u), undef, undef, .int .i64 ((k : Nat) : Int), .pointer (some ⟨g, 0, none⟩), .pointer (some ⟨g, 0, none⟩), .pointer (some ⟨g, 0, none⟩), .pointer (some ⟨g, 0, none⟩), .int .i64 ((m : Nat) : Int), .int .i64 ((k : Nat) : Int), .int .i64 ((k % 2 : Nat) : Int), .bool false, u5 13, u5 14, u5 15, u5 16, u5 17, u5 18, .pointer (some ⟨g, 0, none⟩), .pointer (some ⟨g, 0, none⟩), .pointer (some ⟨g, 0, none⟩), .pointer (some ⟨g, 0, none⟩), .pointer (some ⟨g, 1, none⟩), .slice ap q c1, .pointer (some ⟨g, 0, none⟩), .pointer (some ⟨g, 0, none⟩), .pointer (some ⟨g, 0, none⟩), .pointer (some ⟨g, 1, none⟩), .slice ap q c1, .int .i64 ((q : Nat) : Int), .pointer (some ⟨g, 0, none⟩), .pointer (some ⟨g, 0, none⟩), .pointer (some ⟨g, 0, none⟩), .pointer (some ⟨g, 1, none⟩), .slice ap q c1, .int .i64 ((q : Nat) : Int), .slice ap q q, .string (bs u), .slice (some ⟨g18, 0, none⟩) 1 1, .slice (some ⟨g20, 0, none⟩) ((addP m ps s0).length) g20c, .pointer (some ⟨g, 0, none⟩), .pointer (some ⟨g, 0, none⟩), .pointer (some ⟨g, 1, none⟩), undef, undef, undef, undef, undef, undef, undef, undef, undef], defers := [] } W9 := by
      clear M
      intro g18 g20 g20c W9 Cg20 M
      obtain ⟨w14, rfl⟩ : ∃ W8, W8 = W9 := ⟨_, rfl⟩
      refine hK12 _ _ ?_
      refine wp_region_seq ?_
      refine wpL_move (v := .pointer (some ⟨g, 0, none⟩)) (by rfl) (by rfl) (by rfl) ?_
      simp only [putT, List.set]
      refine wpL_chunk 8 (by rfl) (fun Lk hLk => ?_)
      simp only [List.take, List.drop]
      refine wpV_nilCheck (by rfl) rfl rfl ?_
      simp only [putT, List.set]
      refine wpV_val (v := .pointer (some ⟨g, 0, none⟩)) (by rfl) (by rfl) (fun W hW => ?_) ?_
      · (go_simp; exact rfl)
      simp only [putT, List.set]
      refine wpV_val (v := .pointer (some ⟨g, 0, none⟩)) (by rfl) (by rfl) (fun W hW => ?_) ?_
      · (go_simp; exact rfl)
      simp only [putT, List.set]
      refine wpV_load1 (v := .int .i64 ((m : Nat) : Int)) (by rfl) rfl rfl (range_one (range_sub (M.r 2 0 rfl rfl) 0 1 0 (xs := [.int .i64 ((m : Nat) : Int)]) rfl rfl)) (M.lt 2 rfl) Tryd.underlying3 rfl ?_
      simp only [putT, List.set]
      refine wpV_bin (v := .int .i64 ((m + 1 : Nat) : Int)) (by rfl) rfl rfl rfl (fun W => run_add (by simp only [IntKind.wrap_i64]; omega) W) ?_
      simp only [putT, List.set]
      refine wpV_nilCheck (by rfl) rfl rfl ?_
      simp only [putT, List.set]
      refine wpV_val (v := .pointer (some ⟨g, 0, none⟩)) (by rfl) (by rfl) (fun W hW => ?_) ?_
      · (go_simp; exact rfl)
      simp only [putT, List.set]
      refine wpV_val (v := .pointer (some ⟨g, 0, none⟩)) (by rfl) (by rfl) (fun W hW => ?_) ?_
      · (go_simp; exact rfl)
      simp only [putT, List.set]
      refine wpV_nil (hLk _ (fun w16 Sw16 => ?_))
      clear hLk Lk
      simp only [List.take, List.drop]
      replace M := M.sees Sw16
      refine wpL_store1 (g := g) (off := 0) (n := 2) (v := .int .i64 ((m + 1 : Nat) : Int)) (by rfl) (by rfl) (by rfl) (by rfl) (by rfl) (M.t 2 rfl) (by decide) info3 rfl (fun w17 P R T => ?_)
      replace M := M.put1 (j := 0) 2 rfl P R T rfl
      simp only [List.set] at M
      refine wpL_nil (no_panic ?_)
      repeat (first | with_reducible refine then_exit ?_ | with_reducible refine inblock_exit ?_)
      refine bodyPost_end (v := .tuple #[]) (results_none rfl _ _ _) rfl ?_
      exact ⟨_, rfl, g20, g20c, rfl, Cg20, M.pick [2, 0] (by decide) rfl⟩
    refine wp_region_treeN (by kernel_rfl) (fun w19 Sw19 => ?_)
    replace M := M.sees Sw19
    refine any_first 0 (v := .pointer (some ⟨g, 0, none⟩)) (by rfl) (by kernel_rfl) nopanic_not (by rfl) (by exact yl_move rfl rfl) ?_
    simp only [putT, List.set]
    refine any_first 1 (v := .pointer (some ⟨g, 0, none⟩)) (by rfl) (by kernel_rfl) nopanic_not (by rfl) (by exact yl_move rfl rfl) ?_
    simp only [putT, List.set]
    refine any_first 2 (v := .pointer (some ⟨g, 0, none⟩)) (by rfl) (by kernel_rfl) nopanic_not (by rfl) (by exact yl_nilCheck rfl rfl) ?_
    simp only [putT, List.set]
    refine any_first 3 (v := .pointer (some ⟨g, 0, none⟩)) (by rfl) (by kernel_rfl) nopanic_not (by rfl) (fun W => by (go_simp; exact rfl)) ?_
    simp only [putT, List.set]
    refine any_first 4 (v := .pointer (some ⟨g, 1, none⟩)) (by rfl) (by kernel_rfl) nopanic_not (by rfl) (fun W => by (go_simp; exact rfl)) ?_
    simp only [putT, List.set]
    refine any_first 6 (v := .pointer (some ⟨g, 0, none⟩)) (by rfl) (by kernel_rfl) nopanic_not (by rfl) (by exact yl_move rfl rfl) ?_
    simp only [putT, List.set]
    refine any_first 7 (v := .pointer (some ⟨g, 0, none⟩)) (by rfl) (by kernel_rfl) nopanic_not (by rfl) (by exact yl_nilCheck rfl rfl) ?_
    simp only [putT, List.set]
    refine any_first 8 (v := .pointer (some ⟨g, 0, none⟩)) (by rfl) (by kernel_rfl) nopanic_not (by rfl) (fun W => by (go_simp; exact rfl)) ?_
    simp only [putT, List.set]
    refine any_first 9 (v := .pointer (some ⟨g, 1, none⟩)) (by rfl) (by kernel_rfl) nopanic_not (by rfl) (fun W => by (go_simp; exact rfl)) ?_
    simp only [putT, List.set]
    refine any_first 12 (v := .pointer (some ⟨g, 0, none⟩)) (by rfl) (by kernel_rfl) nopanic_not (by rfl) (by exact yl_move rfl rfl) ?_
    simp only [putT, List.set]
    refine any_first 13 (v := .pointer (some ⟨g, 0, none⟩)) (by rfl) (by kernel_rfl) nopanic_not (by rfl) (by exact yl_nilCheck rfl rfl) ?_
    simp only [putT, List.set]
    refine any_first 14 (v := .pointer (some ⟨g, 0, none⟩)) (by rfl) (by kernel_rfl) nopanic_not (by rfl) (fun W => by (go_simp; exact rfl)) ?_
    simp only [putT, List.set]
    refine any_first 15 (v := .pointer (some ⟨g, 1, none⟩)) (by rfl) (by kernel_rfl) nopanic_not (by rfl) (fun W => by (go_simp; exact rfl)) ?_
    simp only [putT, List.set]
    refine any_first 19 (v := .string (bs u)) (by rfl) (by kernel_rfl) nopanic_not (by rfl) (by exact yl_move rfl rfl) ?_
    simp only [putT, List.set]
    refine any_step [5, 10, 16, 20] (by kernel_rfl) rfl (any_two ?_ (any_two ?_ (any_two ?_ (any_one ?_))))
    · skip
      refine any_opL 5 (by rfl) ?_
      simp only [List.take, List.drop]
      refine wpL_chunk 1 (by rfl) (fun Lk hLk => ?_)
      simp only [List.take, List.drop]
      refine wpV_load1 (v := .slice ap q c1) (by rfl) rfl rfl (range_one (range_sub (M.r 0 0 rfl rfl) 1 1 1 (xs := [.slice ap q c1]) rfl rfl)) (M.lt 0 rfl) Tryd.underlying48 rfl ?_
      simp only [putT, List.set]
      refine wpV_nil (hLk _ (fun w20 Sw20 => ?_))
      clear hLk Lk
      simp only [List.take, List.drop]
      replace M := M.sees Sw20
      refine wpL_nil (then_normal ?_)
      refine any_step [10, 16, 20] (by kernel_rfl) rfl (any_two ?_ (any_two ?_ (any_one ?_)))
      · skip
        refine any_opL 10 (by rfl) ?_
        simp only [List.take, List.drop]
        refine wpL_chunk 1 (by rfl) (fun Lk hLk => ?_)
        simp only [List.take, List.drop]
        refine wpV_load1 (v := .slice ap q c1) (by rfl) rfl rfl (range_one (range_sub (M.r 0 0 rfl rfl) 1 1 1 (xs := [.slice ap q c1]) rfl rfl)) (M.lt 0 rfl) Tryd.underlying48 rfl ?_
        simp only [putT, List.set]
        refine wpV_nil (hLk _ (fun w21 Sw21 => ?_))
        clear hLk Lk
        simp only [List.take, List.drop]
        replace M := M.sees Sw21
        refine wpL_nil (then_normal ?_)
        refine any_first 11 (v := .int .i64 ((q : Nat) : Int)) (by rfl) (by kernel_rfl) nopanic_not (by rfl) (by exact yl_lenA (n := q) rfl rfl rfl Tryd.underlying48) ?_
        simp only [putT, List.set]
        refine any_step [16, 20] (by kernel_rfl) rfl (any_two ?_ (any_one ?_))
        · skip
          refine any_opL 16 (by rfl) ?_
          simp only [List.take, List.drop]
          refine wpL_chunk 1 (by rfl) (fun Lk hLk => ?_)
          simp only [List.take, List.drop]
          refine wpV_load1 (v := .slice ap q c1) (by rfl) rfl rfl (range_one (range_sub (M.r 0 0 rfl rfl) 1 1 1 (xs := [.slice ap q c1]) rfl rfl)) (M.lt 0 rfl) Tryd.underlying48 rfl ?_
          simp only [putT, List.set]
          refine wpV_nil (hLk _ (fun w22 Sw22 => ?_))
          clear hLk Lk
          simp only [List.take, List.drop]
          replace M := M.sees Sw22
          refine wpL_nil (then_normal ?_)
          refine any_first 17 (v := .int .i64 ((q : Nat) : Int)) (by rfl) (by kernel_rfl) nopanic_not (by rfl) (by exact yl_lenA (n := q) rfl rfl rfl Tryd.underlying48) ?_
          simp only [putT, List.set]
          refine any_first 18 (v := .slice ap q q) (by rfl) (by kernel_rfl) nopanic_not (by rfl) (by exact yl_slcHM (hi := q) (m := q) rfl rfl rfl rfl Tryd.underlying48 info9 (Nat.le_refl _) hq2) ?_
          simp only [putT, List.set]
          refine any_step [20] (by kernel_rfl) rfl (any_one ?_)
          refine any_opL 20 (by rfl) ?_
          simp only [List.take, List.drop]
          refine wpL_rowN (vs := [.string (bs u)]) (z := .string { data := #[] }) (bytes := 16) (by rfl) (by rfl) Tryd.underlying48 (by kernel_rfl) (by decide) (by kernel_rfl) (fun g23 w24 Sw24 Hg23 Bg23 => ?_)
          replace M := ((M.sees Sw24).add (N := 1) (cs := [.string (bs u)]) (M.ge Hg23) (M.fresh Hg23) Bg23 rfl)
          clear Bg23
          simp only [putT, List.set]
          refine wpL_nil (then_normal ?_)
          refine any_step [21] (by kernel_rfl) rfl (any_one ?_)
          refine any_opL 21 (by rfl) ?_
          simp only [List.take, List.drop]
          refine wpL_appendFA (n := q) (cap := q) (m := 1) (olds := scells ((ps.take q).take q)) (news := [.string (bs u)]) (z := .string { data := #[] }) (bytes := 16) (by rfl) (by rfl) (by rfl) (by rfl) Tryd.underlying48 (by kernel_rfl) rfl (((((Hp.mem M).takeM hq1 hq2 hq3).row.eq (scells_take2 _ _)).takeM (Nat.le_refl _) (Nat.le_refl _) hq2).eq (scells_take2 _ _)) rfl (by omega) (by omega) (M.r 0 0 rfl rfl) (by omega) (by simp only [maxLen]; omega) (fun g25 g25c w26 Sw26 Hg25 Cg25 R T L => ?_)
          replace M := (M.sees Sw26).addR (M.ge Hg25) (M.fresh Hg25) T R L
          clear T R L
          rw [show scells ((ps.take q).take q) ++ [.string (bs u)] = scells (addP m ps s0) from by rw [← hA, List.take_take, Nat.min_self]; exact scells_app _ [u]] at M
          rw [show q + 1 = (addP m ps s0).length by rw [← hA, List.length_append, hqt]; rfl] at Cg25
          rw [show q + 1 = (addP m ps s0).length by rw [← hA, List.length_append, hqt]; rfl]
          simp only [putT, List.set]
          refine wpL_nil (then_normal ?_)
          refine any_first 22 (v := .pointer (some ⟨g, 0, none⟩)) (by rfl) (by kernel_rfl) nopanic_not (by rfl) (by exact yl_nilCheck rfl rfl) ?_
          simp only [putT, List.set]
          refine any_first 23 (v := .pointer (some ⟨g, 0, none⟩)) (by rfl) (by kernel_rfl) nopanic_not (by rfl) (fun W => by (go_simp; exact rfl)) ?_
          simp only [putT, List.set]
          refine any_first 24 (v := .pointer (some ⟨g, 1, none⟩)) (by rfl) (by kernel_rfl) nopanic_not (by rfl) (fun W => by (go_simp; exact rfl)) ?_
          simp only [putT, List.set]
          refine any_step [25] (by kernel_rfl) rfl (any_one ?_)
          refine any_opL 25 (by rfl) ?_
          simp only [List.take, List.drop]
          refine wpL_store1 (g := g) (off := 1) (n := 2) (v := .slice (some ⟨g25, 0, none⟩) ((addP m ps s0).length) g25c) (by rfl) (by rfl) (by rfl) (by rfl) (by rfl) (M.t 2 rfl) (by decide) info48 rfl (fun w27 P R T => ?_)
          replace M := M.put1 (j := 1) 2 rfl P R T rfl
          simp only [List.set] at M
          refine wpL_nil (then_normal ?_)
          refine any_end (by kernel_rfl) (no_panic ?_)
          exact HK13 g23 g25 g25c _ Cg25 M
        · skip
          refine any_opL 20 (by rfl) ?_
          simp only [List.take, List.drop]
          refine wpL_rowN (vs := [.string (bs u)]) (z := .string { data := #[] }) (bytes := 16) (by rfl) (by rfl) Tryd.underlying48 (by kernel_rfl) (by decide) (by kernel_rfl) (fun g28 w29 Sw29 Hg28 Bg28 => ?_)
          replace M := ((M.sees Sw29).add (N := 1) (cs := [.string (bs u)]) (M.ge Hg28) (M.fresh Hg28) Bg28 rfl)
          clear Bg28
          simp only [putT, List.set]
          refine wpL_nil (then_normal ?_)
          refine any_step [16] (by kernel_rfl) rfl (any_one ?_)
          refine any_opL 16 (by rfl) ?_
          simp only [List.take, List.drop]
          refine wpL_chunk 1 (by rfl) (fun Lk hLk => ?_)
          simp only [List.take, List.drop]
          refine wpV_load1 (v := .slice ap q c1) (by rfl) rfl rfl (range_one (range_sub (M.r 1 0 rfl rfl) 1 1 1 (xs := [.slice ap q c1]) rfl rfl)) (M.lt 1 rfl) Tryd.underlying48 rfl ?_
          simp only [putT, List.set]
          refine wpV_nil (hLk _ (fun w30 Sw30 => ?_))
          clear hLk Lk
          simp only [List.take, List.drop]
          replace M := M.sees Sw30
          refine wpL_nil (then_normal ?_)
          refine any_first 17 (v := .int .i64 ((q : Nat) : Int)) (by rfl) (by kernel_rfl) nopanic_not (by rfl) (by exact yl_lenA (n := q) rfl rfl rfl Tryd.underlying48) ?_
          simp only [putT, List.set]
          refine any_first 18 (v := .slice ap q q) (by rfl) (by kernel_rfl) nopanic_not (by rfl) (by exact yl_slcHM (hi := q) (m := q) rfl rfl rfl rfl Tryd.underlying48 info9 (Nat.le_refl _) hq2) ?_
          simp only [putT, List.set]
          refine any_step [21] (by kernel_rfl) rfl (any_one ?_)
          refine any_opL 21 (by rfl) ?_
          simp only [List.take, List.drop]
          refine wpL_appendFA (n := q) (cap := q) (m := 1) (olds := scells ((ps.take q).take q)) (news := [.string (bs u)]) (z := .string { data := #[] }) (bytes := 16) (by rfl) (by rfl) (by rfl) (by rfl) Tryd.underlying48 (by kernel_rfl) rfl (((((Hp.mem M).takeM hq1 hq2 hq3).row.eq (scells_take2 _ _)).takeM (Nat.le_refl _) (Nat.le_refl _) hq2).eq (scells_take2 _ _)) rfl (by omega) (by omega) (M.r 0 0 rfl rfl) (by omega) (by simp only [maxLen]; omega) (fun g31 g31c w32 Sw32 Hg31 Cg31 R T L => ?_)
          replace M := (M.sees Sw32).addR (M.ge Hg31) (M.fresh Hg31) T R L
          clear T R L
          rw [show scells ((ps.take q).take q) ++ [.string (bs u)] = scells (addP m ps s0) from by rw [← hA, List.take_take, Nat.min_self]; exact scells_app _ [u]] at M
          rw [show q + 1 = (addP m ps s0).length by rw [← hA, List.length_append, hqt]; rfl] at Cg31
          rw [show q + 1 = (addP m ps s0).length by rw [← hA, List.length_append, hqt]; rfl]
          simp only [putT, List.set]
          refine wpL_nil (then_normal ?_)
          refine any_first 22 (v := .pointer (some ⟨g, 0, none⟩)) (by rfl) (by kernel_rfl) nopanic_not (by rfl) (by exact yl_nilCheck rfl rfl) ?_
          simp only [putT, List.set]
          refine any_first 23 (v := .pointer (some ⟨g, 0, none⟩)) (by rfl) (by kernel_rfl) nopanic_not (by rfl) (fun W => by (go_simp; exact rfl)) ?_
          simp only [putT, List.set]
          refine any_first 24 (v := .pointer (some ⟨g, 1, none⟩)) (by rfl) (by kernel_rfl) nopanic_not (by rfl) (fun W => by (go_simp; exact rfl)) ?_
          simp only [putT, List.set]
          refine any_step [25] (by kernel_rfl) rfl (any_one ?_)
          refine any_opL 25 (by rfl) ?_
          simp only [List.take, List.drop]
          refine wpL_store1 (g := g) (off := 1) (n := 2) (v := .slice (some ⟨g31, 0, none⟩) ((addP m ps s0).length) g31c) (by rfl) (by rfl) (by rfl) (by rfl) (by rfl) (M.t 2 rfl) (by decide) info48 rfl (fun w33 P R T => ?_)
          replace M := M.put1 (j := 1) 2 rfl P R T rfl
          simp only [List.set] at M
          refine wpL_nil (then_normal ?_)
          refine any_end (by kernel_rfl) (no_panic ?_)
          exact HK13 g28 g31 g31c _ Cg31 M
      · skip
        refine any_opL 16 (by rfl) ?_
        simp only [List.take, List.drop]
        refine wpL_chunk 1 (by rfl) (fun Lk hLk => ?_)
        simp only [List.take, List.drop]
        refine wpV_load1 (v := .slice ap q c1) (by rfl) rfl rfl (range_one (range_sub (M.r 0 0 rfl rfl) 1 1 1 (xs := [.slice ap q c1]) rfl rfl)) (M.lt 0 rfl) Tryd.underlying48 rfl ?_
        simp only [putT, List.set]
        refine wpV_nil (hLk _ (fun w34 Sw34 => ?_))
        clear hLk Lk
        simp only [List.take, List.drop]
        replace M := M.sees Sw34
        refine wpL_nil (then_normal ?_)
        refine any_first 17 (v := .int .i64 ((q : Nat) : Int)) (by rfl) (by kernel_rfl) nopanic_not (by rfl) (by exact yl_lenA (n := q) rfl rfl rfl Tryd.underlying48) ?_
        simp only [putT, List.set]
        refine any_step [10, 20] (by kernel_rfl) rfl (any_two ?_ (any_one ?_))
        · skip
          refine any_opL 10 (by rfl) ?_
          simp only [List.take, List.drop]
          refine wpL_chunk 1 (by rfl) (fun Lk hLk => ?_)
          simp only [List.take, List.drop]
          refine wpV_load1 (v := .slice ap q c1) (by rfl) rfl rfl (range_one (range_sub (M.r 0 0 rfl rfl) 1 1 1 (xs := [.slice ap q c1]) rfl rfl)) (M.lt 0 rfl) Tryd.underlying48 rfl ?_
          simp only [putT, List.set]
          refine wpV_nil (hLk _ (fun w35 Sw35 => ?_))
          clear hLk Lk
          simp only [List.take, List.drop]
          replace M := M.sees Sw35
          refine wpL_nil (then_normal ?_)
          refine any_first 11 (v := .int .i64 ((q : Nat) : Int)) (by rfl) (by kernel_rfl) nopanic_not (by rfl) (by exact yl_lenA (n := q) rfl rfl rfl Tryd.underlying48) ?_
          simp only [putT, List.set]
          refine any_first 18 (v := .slice ap q q) (by rfl) (by kernel_rfl) nopanic_not (by rfl) (by exact yl_slcHM (hi := q) (m := q) rfl rfl rfl rfl Tryd.underlying48 info9 (Nat.le_refl _) hq2) ?_
          simp only [putT, List.set]
          refine any_step [20] (by kernel_rfl) rfl (any_one ?_)
          refine any_opL 20 (by rfl) ?_
          simp only [List.take, List.drop]
          refine wpL_rowN (vs := [.string (bs u)]) (z := .string { data := #[] }) (bytes := 16) (by rfl) (by rfl) Tryd.underlying48 (by kernel_rfl) (by decide) (by kernel_rfl) (fun g36 w37 Sw37 Hg36 Bg36 => ?_)
          replace M := ((M.sees Sw37).add (N := 1) (cs := [.string (bs u)]) (M.ge Hg36) (M.fresh Hg36) Bg36 rfl)
          clear Bg36
          simp only [putT, List.set]
          refine wpL_nil (then_normal ?_)
          refine any_step [21] (by kernel_rfl) rfl (any_one ?_)
          refine any_opL 21 (by rfl) ?_
          simp only [List.take, List.drop]
          refine wpL_appendFA (n := q) (cap := q) (m := 1) (olds := scells ((ps.take q).take q)) (news := [.string (bs u)]) (z := .string { data := #[] }) (bytes := 16) (by rfl) (by rfl) (by rfl) (by rfl) Tryd.underlying48 (by kernel_rfl) rfl (((((Hp.mem M).takeM hq1 hq2 hq3).row.eq (scells_take2 _ _)).takeM (Nat.le_refl _) (Nat.le_refl _) hq2).eq (scells_take2 _ _)) rfl (by omega) (by omega) (M.r 0 0 rfl rfl) (by omega) (by simp only [maxLen]; omega) (fun g38 g38c w39 Sw39 Hg38 Cg38 R T L => ?_)
          replace M := (M.sees Sw39).addR (M.ge Hg38) (M.fresh Hg38) T R L
          clear T R L
          rw [show scells ((ps.take q).take q) ++ [.string (bs u)] = scells (addP m ps s0) from by rw [← hA, List.take_take, Nat.min_self]; exact scells_app _ [u]] at M
          rw [show q + 1 = (addP m ps s0).length by rw [← hA, List.length_append, hqt]; rfl] at Cg38
          rw [show q + 1 = (addP m ps s0).length by rw [← hA, List.length_append, hqt]; rfl]
          simp only [putT, List.set]
          refine wpL_nil (then_normal ?_)
          refine any_first 22 (v := .pointer (some ⟨g, 0, none⟩)) (by rfl) (by kernel_rfl) nopanic_not (by rfl) (by exact yl_nilCheck rfl rfl) ?_
          simp only [putT, List.set]
          refine any_first 23 (v := .pointer (some ⟨g, 0, none⟩)) (by rfl) (by kernel_rfl) nopanic_not (by rfl) (fun W => by (go_simp; exact rfl)) ?_
          simp only [putT, List.set]
          refine any_first 24 (v := .pointer (some ⟨g, 1, none⟩)) (by rfl) (by kernel_rfl) nopanic_not (by rfl) (fun W => by (go_simp; exact rfl)) ?_
          simp only [putT, List.set]
          refine any_step [25] (by kernel_rfl) rfl (any_one ?_)
          refine any_opL 25 (by rfl) ?_
          simp only [List.take, List.drop]
          refine wpL_store1 (g := g) (off := 1) (n := 2) (v := .slice (some ⟨g38, 0, none⟩) ((addP m ps s0).length) g38c) (by rfl) (by rfl) (by rfl) (by rfl) (by rfl) (M.t 2 rfl) (by decide) info48 rfl (fun w40 P R T => ?_)
          replace M := M.put1 (j := 1) 2 rfl P R T rfl
          simp only [List.set] at M
          refine wpL_nil (then_normal ?_)
          refine any_end (by kernel_rfl) (no_panic ?_)
          exact HK13 g36 g38 g38c _ Cg38 M
        · skip
          refine any_opL 20 (by rfl) ?_
          simp only [List.take, List.drop]
          refine wpL_rowN (vs := [.string (bs u)]) (z := .string { data := #[] }) (bytes := 16) (by rfl) (by rfl) Tryd.underlying48 (by kernel_rfl) (by decide) (by kernel_rfl) (fun g41 w42 Sw42 Hg41 Bg41 => ?_)
          replace M := ((M.sees Sw42).add (N := 1) (cs := [.string (bs u)]) (M.ge Hg41) (M.fresh Hg41) Bg41 rfl)
          clear Bg41
          simp only [putT, List.set]
          refine wpL_nil (then_normal ?_)
          refine any_step [10] (by kernel_rfl) rfl (any_one ?_)
          refine any_opL 10 (by rfl) ?_
          simp only [List.take, List.drop]
          refine wpL_chunk 1 (by rfl) (fun Lk hLk => ?_)
          simp only [List.take, List.drop]
          refine wpV_load1 (v := .slice ap q c1) (by rfl) rfl rfl (range_one (range_sub (M.r 1 0 rfl rfl) 1 1 1 (xs := [.slice ap q c1]) rfl rfl)) (M.lt 1 rfl) Tryd.underlying48 rfl ?_
          simp only [putT, List.set]
          refine wpV_nil (hLk _ (fun w43 Sw43 => ?_))
          clear hLk Lk
          simp only [List.take, List.drop]
          replace M := M.sees Sw43
          refine wpL_nil (then_normal ?_)
          refine any_first 11 (v := .int .i64 ((q : Nat) : Int)) (by rfl) (by kernel_rfl) nopanic_not (by rfl) (by exact yl_lenA (n := q) rfl rfl rfl Tryd.underlying48) ?_
          simp only [putT, List.set]
          refine any_first 18 (v := .slice ap q q) (by rfl) (by kernel_rfl) nopanic_not (by rfl) (by exact yl_slcHM (hi := q) (m := q) rfl rfl rfl rfl Tryd.underlying48 info9 (Nat.le_refl _) hq2) ?_
          simp only [putT, List.set]
          refine any_step [21] (by kernel_rfl) rfl (any_one ?_)
          refine any_opL 21 (by rfl) ?_
          simp only [List.take, List.drop]
          refine wpL_appendFA (n := q) (cap := q) (m := 1) (olds := scells ((ps.take q).take q)) (news := [.string (bs u)]) (z := .string { data := #[] }) (bytes := 16) (by rfl) (by rfl) (by rfl) (by rfl) Tryd.underlying48 (by kernel_rfl) rfl (((((Hp.mem M).takeM hq1 hq2 hq3).row.eq (scells_take2 _ _)).takeM (Nat.le_refl _) (Nat.le_refl _) hq2).eq (scells_take2 _ _)) rfl (by omega) (by omega) (M.r 0 0 rfl rfl) (by omega) (by simp only [maxLen]; omega) (fun g44 g44c w45 Sw45 Hg44 Cg44 R T L => ?_)
          replace M := (M.sees Sw45).addR (M.ge Hg44) (M.fresh Hg44) T R L
          clear T R L
          rw [show scells ((ps.take q).take q) ++ [.string (bs u)] = scells (addP m ps s0) from by rw [← hA, List.take_take, Nat.min_self]; exact scells_app _ [u]] at M
          rw [show q + 1 = (addP m ps s0).length by rw [← hA, List.length_append, hqt]; rfl] at Cg44
          rw [show q + 1 = (addP m ps s0).length by rw [← hA, List.length_append, hqt]; rfl]
          simp only [putT, List.set]
          refine wpL_nil (then_normal ?_)
          refine any_first 22 (v := .pointer (some ⟨g, 0, none⟩)) (by rfl) (by kernel_rfl) nopanic_not (by rfl) (by exact yl_nilCheck rfl rfl) ?_
          simp only [putT, List.set]
          refine any_first 23 (v := .pointer (some ⟨g, 0, none⟩)) (by rfl) (by kernel_rfl) nopanic_not (by rfl) (fun W => by (go_simp; exact rfl)) ?_
          simp only [putT, List.set]
          refine any_first 24 (v := .pointer (some ⟨g, 1, none⟩)) (by rfl) (by kernel_rfl) nopanic_not (by rfl) (fun W => by (go_simp; exact rfl)) ?_
          simp only [putT, List.set]
          refine any_step [25] (by kernel_rfl) rfl (any_one ?_)
          refine any_opL 25 (by rfl) ?_
          simp only [List.take, List.drop]
          refine wpL_store1 (g := g) (off := 1) (n := 2) (v := .slice (some ⟨g44, 0, none⟩) ((addP m ps s0).length) g44c) (by rfl) (by rfl) (by rfl) (by rfl) (by rfl) (M.t 2 rfl) (by decide) info48 rfl (fun w46 P R T => ?_)
          replace M := M.put1 (j := 1) 2 rfl P R T rfl
          simp only [List.set] at M
          refine wpL_nil (then_normal ?_)
          refine any_end (by kernel_rfl) (no_panic ?_)
          exact HK13 g41 g44 g44c _ Cg44 M
      · skip
        refine any_opL 20 (by rfl) ?_
        simp only [List.take, List.drop]
        refine wpL_rowN (vs := [.string (bs u)]) (z := .string { data := #[] }) (bytes := 16) (by rfl) (by rfl) Tryd.underlying48 (by kernel_rfl) (by decide) (by kernel_rfl) (fun g47 w48 Sw48 Hg47 Bg47 => ?_)
        replace M := ((M.sees Sw48).add (N := 1) (cs := [.string (bs u)]) (M.ge Hg47) (M.fresh Hg47) Bg47 rfl)
        clear Bg47
        simp only [putT, List.set]
        refine wpL_nil (then_normal ?_)
        refine any_step [10, 16] (by kernel_rfl) rfl (any_two ?_ (any_one ?_))
        · skip
          refine any_opL 10 (by rfl) ?_
          simp only [List.take, List.drop]
          refine wpL_chunk 1 (by rfl) (fun Lk hLk => ?_)
          simp only [List.take, List.drop]
          refine wpV_load1 (v := .slice ap q c1) (by rfl) rfl rfl (range_one (range_sub (M.r 1 0 rfl rfl) 1 1 1 (xs := [.slice ap q c1]) rfl rfl)) (M.lt 1 rfl) Tryd.underlying48 rfl ?_
          simp only [putT, List.set]
          refine wpV_nil (hLk _ (fun w49 Sw49 => ?_))
          clear hLk Lk
          simp only [List.take, List.drop]
          replace M := M.sees Sw49
          refine wpL_nil (then_normal ?_)
          refine any_first 11 (v := .int .i64 ((q : Nat) : Int)) (by rfl) (by kernel_rfl) nopanic_not (by rfl) (by exact yl_lenA (n := q) rfl rfl rfl Tryd.underlying48) ?_
          simp only [putT, List.set]
          refine any_step [16] (by kernel_rfl) rfl (any_one ?_)
          refine any_opL 16 (by rfl) ?_
          simp only [List.take, List.drop]
          refine wpL_chunk 1 (by rfl) (fun Lk hLk => ?_)
          simp only [List.take, List.drop]
          refine wpV_load1 (v := .slice ap q c1) (by rfl) rfl rfl (range_one (range_sub (M.r 1 0 rfl rfl) 1 1 1 (xs := [.slice ap q c1]) rfl rfl)) (M.lt 1 rfl) Tryd.underlying48 rfl ?_
          simp only [putT, List.set]
          refine wpV_nil (hLk _ (fun w50 Sw50 => ?_))
          clear hLk Lk
          simp only [List.take, List.drop]
          replace M := M.sees Sw50
          refine wpL_nil (then_normal ?_)
          refine any_first 17 (v := .int .i64 ((q : Nat) : Int)) (by rfl) (by kernel_rfl) nopanic_not (by rfl) (by exact yl_lenA (n := q) rfl rfl rfl Tryd.underlying48) ?_
          simp only [putT, List.set]
          refine any_first 18 (v := .slice ap q q) (by rfl) (by kernel_rfl) nopanic_not (by rfl) (by exact yl_slcHM (hi := q) (m := q) rfl rfl rfl rfl Tryd.underlying48 info9 (Nat.le_refl _) hq2) ?_
          simp only [putT, List.set]
          refine any_step [21] (by kernel_rfl) rfl (any_one ?_)
          refine any_opL 21 (by rfl) ?_
          simp only [List.take, List.drop]
          refine wpL_appendFA (n := q) (cap := q) (m := 1) (olds := scells ((ps.take q).take q)) (news := [.string (bs u)]) (z := .string { data := #[] }) (bytes := 16) (by rfl) (by rfl) (by rfl) (by rfl) Tryd.underlying48 (by kernel_rfl) rfl (((((Hp.mem M).takeM hq1 hq2 hq3).row.eq (scells_take2 _ _)).takeM (Nat.le_refl _) (Nat.le_refl _) hq2).eq (scells_take2 _ _)) rfl (by omega) (by omega) (M.r 0 0 rfl rfl) (by omega) (by simp only [maxLen]; omega) (fun g51 g51c w52 Sw52 Hg51 Cg51 R T L => ?_)
          replace M := (M.sees Sw52).addR (M.ge Hg51) (M.fresh Hg51) T R L
          clear T R L
          rw [show scells ((ps.take q).take q) ++ [.string (bs u)] = scells (addP m ps s0) from by rw [← hA, List.take_take, Nat.min_self]; exact scells_app _ [u]] at M
          rw [show q + 1 = (addP m ps s0).length by rw [← hA, List.length_append, hqt]; rfl] at Cg51
          rw [show q + 1 = (addP m ps s0).length by rw [← hA, List.length_append, hqt]; rfl]
          simp only [putT, List.set]
          refine wpL_nil (then_normal ?_)
          refine any_first 22 (v := .pointer (some ⟨g, 0, none⟩)) (by rfl) (by kernel_rfl) nopanic_not (by rfl) (by exact yl_nilCheck rfl rfl) ?_
          simp only [putT, List.set]
          refine any_first 23 (v := .pointer (some ⟨g, 0, none⟩)) (by rfl) (by kernel_rfl) nopanic_not (by rfl) (fun W => by (go_simp; exact rfl)) ?_
          simp only [putT, List.set]
          refine any_first 24 (v := .pointer (some ⟨g, 1, none⟩)) (by rfl) (by kernel_rfl) nopanic_not (by rfl) (fun W => by (go_simp; exact rfl)) ?_
          simp only [putT, List.set]
          refine any_step [25] (by kernel_rfl) rfl (any_one ?_)
          refine any_opL 25 (by rfl) ?_
          simp only [List.take, List.drop]
          refine wpL_store1 (g := g) (off := 1) (n := 2) (v := .slice (some ⟨g51, 0, none⟩) ((addP m ps s0).length) g51c) (by rfl) (by rfl) (by rfl) (by rfl) (by rfl) (M.t 2 rfl) (by decide) info48 rfl (fun w53 P R T => ?_)
          replace M := M.put1 (j := 1) 2 rfl P R T rfl
          simp only [List.set] at M
          refine wpL_nil (then_normal ?_)
          refine any_end (by kernel_rfl) (no_panic ?_)
          exact HK13 g47 g51 g51c _ Cg51 M
        · skip
          refine any_opL 16 (by rfl) ?_
          simp only [List.take, List.drop]
          refine wpL_chunk 1 (by rfl) (fun Lk hLk => ?_)
          simp only [List.take, List.drop]
          refine wpV_load1 (v := .slice ap q c1) (by rfl) rfl rfl (range_one (range_sub (M.r 1 0 rfl rfl) 1 1 1 (xs := [.slice ap q c1]) rfl rfl)) (M.lt 1 rfl) Tryd.underlying48 rfl ?_
          simp only [putT, List.set]
          refine wpV_nil (hLk _ (fun w54 Sw54 => ?_))
          clear hLk Lk
          simp only [List.take, List.drop]
          replace M := M.sees Sw54
          refine wpL_nil (then_normal ?_)
          refine any_first 17 (v := .int .i64 ((q : Nat) : Int)) (by rfl) (by kernel_rfl) nopanic_not (by rfl) (by exact yl_lenA (n := q) rfl rfl rfl Tryd.underlying48) ?_
          simp only [putT, List.set]
          refine any_step [10] (by kernel_rfl) rfl (any_one ?_)
          refine any_opL 10 (by rfl) ?_
          simp only [List.take, List.drop]
          refine wpL_chunk 1 (by rfl) (fun Lk hLk => ?_)
          simp only [List.take, List.drop]
          refine wpV_load1 (v := .slice ap q c1) (by rfl) rfl rfl (range_one (range_sub (M.r 1 0 rfl rfl) 1 1 1 (xs := [.slice ap q c1]) rfl rfl)) (M.lt 1 rfl) Tryd.underlying48 rfl ?_
          simp only [putT, List.set]
          refine wpV_nil (hLk _ (fun w55 Sw55 => ?_))
          clear hLk Lk
          simp only [List.take, List.drop]
          replace M := M.sees Sw55
          refine wpL_nil (then_normal ?_)
          refine any_first 11 (v := .int .i64 ((q : Nat) : Int)) (by rfl) (by kernel_rfl) nopanic_not (by rfl) (by exact yl_lenA (n := q) rfl rfl rfl Tryd.underlying48) ?_
          simp only [putT, List.set]
          refine any_first 18 (v := .slice ap q q) (by rfl) (by kernel_rfl) nopanic_not (by rfl) (by exact yl_slcHM (hi := q) (m := q) rfl rfl rfl rfl Tryd.underlying48 info9 (Nat.le_refl _) hq2) ?_
          simp only [putT, List.set]
          refine any_step [21] (by kernel_rfl) rfl (any_one ?_)
          refine any_opL 21 (by rfl) ?_
          simp only [List.take, List.drop]
          refine wpL_appendFA (n := q) (cap := q) (m := 1) (olds := scells ((ps.take q).take q)) (news := [.string (bs u)]) (z := .string { data := #[] }) (bytes := 16) (by rfl) (by rfl) (by rfl) (by rfl) Tryd.underlying48 (by kernel_rfl) rfl (((((Hp.mem M).takeM hq1 hq2 hq3).row.eq (scells_take2 _ _)).takeM (Nat.le_refl _) (Nat.le_refl _) hq2).eq (scells_take2 _ _)) rfl (by omega) (by omega) (M.r 0 0 rfl rfl) (by omega) (by simp only [maxLen]; omega) (fun g56 g56c w57 Sw57 Hg56 Cg56 R T L => ?_)
          replace M := (M.sees Sw57).addR (M.ge Hg56) (M.fresh Hg56) T R L
          clear T R L
          rw [show scells ((ps.take q).take q) ++ [.string (bs u)] = scells (addP m ps s0) from by rw [← hA, List.take_take, Nat.min_self]; exact scells_app _ [u]] at M
          rw [show q + 1 = (addP m ps s0).length by rw [← hA, List.length_append, hqt]; rfl] at Cg56
          rw [show q + 1 = (addP m ps s0).length by rw [← hA, List.length_append, hqt]; rfl]
          simp only [putT, List.set]
          refine wpL_nil (then_normal ?_)
          refine any_first 22 (v := .pointer (some ⟨g, 0, none⟩)) (by rfl) (by kernel_rfl) nopanic_not (by rfl) (by exact yl_nilCheck rfl rfl) ?_
          simp only [putT, List.set]
          refine any_first 23 (v := .pointer (some ⟨g, 0, none⟩)) (by rfl) (by kernel_rfl) nopanic_not (by rfl) (fun W => by (go_simp; exact rfl)) ?_
          simp only [putT, List.set]
          refine any_first 24 (v := .pointer (some ⟨g, 1, none⟩)) (by rfl) (by kernel_rfl) nopanic_not (by rfl) (fun W => by (go_simp; exact rfl)) ?_
          simp only [putT, List.set]
          refine any_step [25] (by kernel_rfl) rfl (any_one ?_)
          refine any_opL 25 (by rfl) ?_
          simp only [List.take, List.drop]
          refine wpL_store1 (g := g) (off := 1) (n := 2) (v := .slice (some ⟨g56, 0, none⟩) ((addP m ps s0).length) g56c) (by rfl) (by rfl) (by rfl) (by rfl) (by rfl) (M.t 2 rfl) (by decide) info48 rfl (fun w58 P R T => ?_)
          replace M := M.put1 (j := 1) 2 rfl P R T rfl
          simp only [List.set] at M
          refine wpL_nil (then_normal ?_)
          refine any_end (by kernel_rfl) (no_panic ?_)
          exact HK13 g47 g56 g56c _ Cg56 M
    · skip
      refine any_opL 10 (by rfl) ?_
      simp only [List.take, List.drop]
      refine wpL_chunk 1 (by rfl) (fun Lk hLk => ?_)
      simp only [List.take, List.drop]
      refine wpV_load1 (v := .slice ap q c1) (by rfl) rfl rfl (range_one (range_sub (M.r 0 0 rfl rfl) 1 1 1 (xs := [.slice ap q c1]) rfl rfl)) (M.lt 0 rfl) Tryd.underlying48 rfl ?_
      simp only [putT, List.set]
      refine wpV_nil (hLk _ (fun w59 Sw59 => ?_))
      clear hLk Lk
      simp only [List.take, List.drop]
      replace M := M.sees Sw59
      refine wpL_nil (then_normal ?_)
      refine any_first 11 (v := .int .i64 ((q : Nat) : Int)) (by rfl) (by kernel_rfl) nopanic_not (by rfl) (by exact yl_lenA (n := q) rfl rfl rfl Tryd.underlying48) ?_
      simp only [putT, List.set]
      refine any_step [5, 16, 20] (by kernel_rfl) rfl (any_two ?_ (any_two ?_ (any_one ?_)))
      · skip
        refine any_opL 5 (by rfl) ?_
        simp only [List.take, List.drop]
        refine wpL_chunk 1 (by rfl) (fun Lk hLk => ?_)
        simp only [List.take, List.drop]
        refine wpV_load1 (v := .slice ap q c1) (by rfl) rfl rfl (range_one (range_sub (M.r 0 0 rfl rfl) 1 1 1 (xs := [.slice ap q c1]) rfl rfl)) (M.lt 0 rfl) Tryd.underlying48 rfl ?_
        simp only [putT, List.set]
        refine wpV_nil (hLk _ (fun w60 Sw60 => ?_))
        clear hLk Lk
        simp only [List.take, List.drop]
        replace M := M.sees Sw60
        refine wpL_nil (then_normal ?_)
        refine any_step [16, 20] (by kernel_rfl) rfl (any_two ?_ (any_one ?_))
        · skip
          refine any_opL 16 (by rfl) ?_
          simp only [List.take, List.drop]
          refine wpL_chunk 1 (by rfl) (fun Lk hLk => ?_)
          simp only [List.take, List.drop]
          refine wpV_load1 (v := .slice ap q c1) (by rfl) rfl rfl (range_one (range_sub (M.r 0 0 rfl rfl) 1 1 1 (xs := [.slice ap q c1]) rfl rfl)) (M.lt 0 rfl) Tryd.underlying48 rfl ?_
          simp only [putT, List.set]
          refine wpV_nil (hLk _ (fun w61 Sw61 => ?_))
          clear hLk Lk
          simp only [List.take, List.drop]
          replace M := M.sees Sw61
          refine wpL_nil (then_normal ?_)
          refine any_first 17 (v := .int .i64 ((q : Nat) : Int)) (by rfl) (by kernel_rfl) nopanic_not (by rfl) (by exact yl_lenA (n := q) rfl rfl rfl Tryd.underlying48) ?_
          simp only [putT, List.set]
          refine any_first 18 (v := .slice ap q q) (by rfl) (by kernel_rfl) nopanic_not (by rfl) (by exact yl_slcHM (hi := q) (m := q) rfl rfl rfl rfl Tryd.underlying48 info9 (Nat.le_refl _) hq2) ?_
          simp only [putT, List.set]
          refine any_step [20] (by kernel_rfl) rfl (any_one ?_)
          refine any_opL 20 (by rfl) ?_
          simp only [List.take, List.drop]
          refine wpL_rowN (vs := [.string (bs u)]) (z := .string { data := #[] }) (bytes := 16) (by rfl) (by rfl) Tryd.underlying48 (by kernel_rfl) (by decide) (by kernel_rfl) (fun g62 w63 Sw63 Hg62 Bg62 => ?_)
          replace M := ((M.sees Sw63).add (N := 1) (cs := [.string (bs u)]) (M.ge Hg62) (M.fresh Hg62) Bg62 rfl)
          clear Bg62
          simp only [putT, List.set]
          refine wpL_nil (then_normal ?_)
          refine any_step [21] (by kernel_rfl) rfl (any_one ?_)
          refine any_opL 21 (by rfl) ?_
          simp only [List.take, List.drop]
          refine wpL_appendFA (n := q) (cap := q) (m := 1) (olds := scells ((ps.take q).take q)) (news := [.string (bs u)]) (z := .string { data := #[] }) (bytes := 16) (by rfl) (by rfl) (by rfl) (by rfl) Tryd.underlying48 (by kernel_rfl) rfl (((((Hp.mem M).takeM hq1 hq2 hq3).row.eq (scells_take2 _ _)).takeM (Nat.le_refl _) (Nat.le_refl _) hq2).eq (scells_take2 _ _)) rfl (by omega) (by omega) (M.r 0 0 rfl rfl) (by omega) (by simp only [maxLen]; omega) (fun g64 g64c w65 Sw65 Hg64 Cg64 R T L => ?_)
          replace M := (M.sees Sw65).addR (M.ge Hg64) (M.fresh Hg64) T R L
          clear T R L
          rw [show scells ((ps.take q).take q) ++ [.string (bs u)] = scells (addP m ps s0) from by rw [← hA, List.take_take, Nat.min_self]; exact scells_app _ [u]] at M
          rw [show q + 1 = (addP m ps s0).length by rw [← hA, List.length_append, hqt]; rfl] at Cg64
          rw [show q + 1 = (addP m ps s0).length by rw [← hA, List.length_append, hqt]; rfl]
          simp only [putT, List.set]
          refine wpL_nil (then_normal ?_)
          refine any_first 22 (v := .pointer (some ⟨g, 0, none⟩)) (by rfl) (by kernel_rfl) nopanic_not (by rfl) (by exact yl_nilCheck rfl rfl) ?_
          simp only [putT, List.set]
          refine any_first 23 (v := .pointer (some ⟨g, 0, none⟩)) (by rfl) (by kernel_rfl) nopanic_not (by rfl) (fun W => by (go_simp; exact rfl)) ?_
          simp only [putT, List.set]
          refine any_first 24 (v := .pointer (some ⟨g, 1, none⟩)) (by rfl) (by kernel_rfl) nopanic_not (by rfl) (fun W => by (go_simp; exact rfl)) ?_
          simp only [putT, List.set]
          refine any_step [25] (by kernel_rfl) rfl (any_one ?_)
          refine any_opL 25 (by rfl) ?_
          simp only [List.take, List.drop]
          refine wpL_store1 (g := g) (off := 1) (n := 2) (v := .slice (some ⟨g64, 0, none⟩) ((addP m ps s0).length) g64c) (by rfl) (by rfl) (by rfl) (by rfl) (by rfl) (M.t 2 rfl) (by decide) info48 rfl (fun w66 P R T => ?_)
          replace M := M.put1 (j := 1) 2 rfl P R T rfl
          simp only [List.set] at M
          refine wpL_nil (then_normal ?_)
          refine any_end (by kernel_rfl) (no_panic ?_)
          exact HK13 g62 g64 g64c _ Cg64 M
        · skip
          refine any_opL 20 (by rfl) ?_
          simp only [List.take, List.drop]
          refine wpL_rowN (vs := [.string (bs u)]) (z := .string { data := #[] }) (bytes := 16) (by rfl) (by rfl) Tryd.underlying48 (by kernel_rfl) (by decide) (by kernel_rfl) (fun g67 w68 Sw68 Hg67 Bg67 => ?_)
          replace M := ((M.sees Sw68).add (N := 1) (cs := [.string (bs u)]) (M.ge Hg67) (M.fresh Hg67) Bg67 rfl)
          clear Bg67
          simp only [putT, List.set]
          refine wpL_nil (then_normal ?_)
          refine any_step [16] (by kernel_rfl) rfl (any_one ?_)
          refine any_opL 16 (by rfl) ?_
          simp only [List.take, List.drop]
          refine wpL_chunk 1 (by rfl) (fun Lk hLk => ?_)
          simp only [List.take, List.drop]
          refine wpV_load1 (v := .slice ap q c1) (by rfl) rfl rfl (range_one (range_sub (M.r 1 0 rfl rfl) 1 1 1 (xs := [.slice ap q c1]) rfl rfl)) (M.lt 1 rfl) Tryd.underlying48 rfl ?_
          simp only [putT, List.set]
          refine wpV_nil (hLk _ (fun w69 Sw69 => ?_))
          clear hLk Lk
          simp only [List.take, List.drop]
          replace M := M.sees Sw69
          refine wpL_nil (then_normal ?_)
          refine any_first 17 (v := .int .i64 ((q : Nat) : Int)) (by rfl) (by kernel_rfl) nopanic_not (by rfl) (by exact yl_lenA (n := q) rfl rfl rfl Tryd.underlying48) ?_
          simp only [putT, List.set]
          refine any_first 18 (v := .slice ap q q) (by rfl) (by kernel_rfl) nopanic_not (by rfl) (by exact yl_slcHM (hi := q) (m := q) rfl rfl rfl rfl Tryd.underlying48 info9 (Nat.le_refl _) hq2) ?_
          simp only [putT, List.set]
          refine any_step [21] (by kernel_rfl) rfl (any_one ?_)
          refine any_opL 21 (by rfl) ?_
          simp only [List.take, List.drop]
          refine wpL_appendFA (n := q) (cap := q) (m := 1) (olds := scells ((ps.take q).take q)) (news := [.string (bs u)]) (z := .string { data := #[] }) (bytes := 16) (by rfl) (by rfl) (by rfl) (by rfl) Tryd.underlying48 (by kernel_rfl) rfl (((((Hp.mem M).takeM hq1 hq2 hq3).row.eq (scells_take2 _ _)).takeM (Nat.le_refl _) (Nat.le_refl _) hq2).eq (scells_take2 _ _)) rfl (by omega) (by omega) (M.r 0 0 rfl rfl) (by omega) (by simp only [maxLen]; omega) (fun g70 g70c w71 Sw71 Hg70 Cg70 R T L => ?_)
          replace M := (M.sees Sw71).addR (M.ge Hg70) (M.fresh Hg70) T R L
          clear T R L
          rw [show scells ((ps.take q).take q) ++ [.string (bs u)] = scells (addP m ps s0) from by rw [← hA, List.take_take, Nat.min_self]; exact scells_app _ [u]] at M
          rw [show q + 1 = (addP m ps s0).length by rw [← hA, List.length_append, hqt]; rfl] at Cg70
          rw [show q + 1 = (addP m ps s0).length by rw [← hA, List.length_append, hqt]; rfl]
          simp only [putT, List.set]
          refine wpL_nil (then_normal ?_)
          refine any_first 22 (v := .pointer (some ⟨g, 0, none⟩)) (by rfl) (by kernel_rfl) nopanic_not (by rfl) (by exact yl_nilCheck rfl rfl) ?_
          simp only [putT, List.set]
          refine any_first 23 (v := .pointer (some ⟨g, 0, none⟩)) (by rfl) (by kernel_rfl) nopanic_not (by rfl) (fun W => by (go_simp; exact rfl)) ?_
          simp only [putT, List.set]
          refine any_first 24 (v := .pointer (some ⟨g, 1, none⟩)) (by rfl) (by kernel_rfl) nopanic_not (by rfl) (fun W => by (go_simp; exact rfl)) ?_
          simp only [putT, List.set]
          refine any_step [25] (by kernel_rfl) rfl (any_one ?_)
          refine any_opL 25 (by rfl) ?_
          simp only [List.take, List.drop]
          refine wpL_store1 (g := g) (off := 1) (n := 2) (v := .slice (some ⟨g70, 0, none⟩) ((addP m ps s0).length) g70c) (by rfl) (by rfl) (by rfl) (by rfl) (by rfl) (M.t 2 rfl) (by decide) info48 rfl (fun w72 P R T => ?_)
          replace M := M.put1 (j := 1) 2 rfl P R T rfl
          simp only [List.set] at M
          refine wpL_nil (then_normal ?_)
          refine any_end (by kernel_rfl) (no_panic ?_)
          exact HK13 g67 g70 g70c _ Cg70 M
      · skip
        refine any_opL 16 (by rfl) ?_
        simp only [List.take, List.drop]
        refine wpL_chunk 1 (by rfl) (fun Lk hLk => ?_)
        simp only [List.take, List.drop]
        refine wpV_load1 (v := .slice ap q c1) (by rfl) rfl rfl (range_one (range_sub (M.r 0 0 rfl rfl) 1 1 1 (xs := [.slice ap q c1]) rfl rfl)) (M.lt 0 rfl) Tryd.underlying48 rfl ?_
        simp only [putT, List.set]
        refine wpV_nil (hLk _ (fun w73 Sw73 => ?_))
        clear hLk Lk
        simp only [List.take, List.drop]
        replace M := M.sees Sw73
        refine wpL_nil (then_normal ?_)
        refine any_first 17 (v := .int .i64 ((q : Nat) : Int)) (by rfl) (by kernel_rfl) nopanic_not (by rfl) (by exact yl_lenA (n := q) rfl rfl rfl Tryd.underlying48) ?_
        simp only [putT, List.set]
        refine any_step [5, 20] (by kernel_rfl) rfl (any_two ?_ (any_one ?_))
        · skip
          refine any_opL 5 (by rfl) ?_
          simp only [List.take, List.drop]
          refine wpL_chunk 1 (by rfl) (fun Lk hLk => ?_)
          simp only [List.take, List.drop]
          refine wpV_load1 (v := .slice ap q c1) (by rfl) rfl rfl (range_one (range_sub (M.r 0 0 rfl rfl) 1 1 1 (xs := [.slice ap q c1]) rfl rfl)) (M.lt 0 rfl) Tryd.underlying48 rfl ?_
          simp only [putT, List.set]
          refine wpV_nil (hLk _ (fun w74 Sw74 => ?_))
          clear hLk Lk
          simp only [List.take, List.drop]
          replace M := M.sees Sw74
          refine wpL_nil (then_normal ?_)
          refine any_first 18 (v := .slice ap q q) (by rfl) (by kernel_rfl) nopanic_not (by rfl) (by exact yl_slcHM (hi := q) (m := q) rfl rfl rfl rfl Tryd.underlying48 info9 (Nat.le_refl _) hq2) ?_
          simp only [putT, List.set]
          refine any_step [20] (by kernel_rfl) rfl (any_one ?_)
          refine any_opL 20 (by rfl) ?_
          simp only [List.take, List.drop]
          refine wpL_rowN (vs := [.string (bs u)]) (z := .string { data := #[] }) (bytes := 16) (by rfl) (by rfl) Tryd.underlying48 (by kernel_rfl) (by decide) (by kernel_rfl) (fun g75 w76 Sw76 Hg75 Bg75 => ?_)
          replace M := ((M.sees Sw76).add (N := 1) (cs := [.string (bs u)]) (M.ge Hg75) (M.fresh Hg75) Bg75 rfl)
          clear Bg75
          simp only [putT, List.set]
          refine wpL_nil (then_normal ?_)
          refine any_step [21] (by kernel_rfl) rfl (any_one ?_)
          refine any_opL 21 (by rfl) ?_
          simp only [List.take, List.drop]
          refine wpL_appendFA (n := q) (cap := q) (m := 1) (olds := scells ((ps.take q).take q)) (news := [.string (bs u)]) (z := .string { data := #[] }) (bytes := 16) (by rfl) (by rfl) (by rfl) (by rfl) Tryd.underlying48 (by kernel_rfl) rfl (((((Hp.mem M).takeM hq1 hq2 hq3).row.eq (scells_take2 _ _)).takeM (Nat.le_refl _) (Nat.le_refl _) hq2).eq (scells_take2 _ _)) rfl (by omega) (by omega) (M.r 0 0 rfl rfl) (by omega) (by simp only [maxLen]; omega) (fun g77 g77c w78 Sw78 Hg77 Cg77 R T L => ?_)
          replace M := (M.sees Sw78).addR (M.ge Hg77) (M.fresh Hg77) T R L
          clear T R L
          rw [show scells ((ps.take q).take q) ++ [.string (bs u)] = scells (addP m ps s0) from by rw [← hA, List.take_take, Nat.min_self]; exact scells_app _ [u]] at M
          rw [show q + 1 = (addP m ps s0).length by rw [← hA, List.length_append, hqt]; rfl] at Cg77
          rw [show q + 1 = (addP m ps s0).length by rw [← hA, List.length_append, hqt]; rfl]
          simp only [putT, List.set]
          refine wpL_nil (then_normal ?_)
          refine any_first 22 (v := .pointer (some ⟨g, 0, none⟩)) (by rfl) (by kernel_rfl) nopanic_not (by rfl) (by exact yl_nilCheck rfl rfl) ?_
          simp only [putT, List.set]
          refine any_first 23 (v := .pointer (some ⟨g, 0, none⟩)) (by rfl) (by kernel_rfl) nopanic_not (by rfl) (fun W => by (go_simp; exact rfl)) ?_
          simp only [putT, List.set]
          refine any_first 24 (v := .pointer (some ⟨g, 1, none⟩)) (by rfl) (by kernel_rfl) nopanic_not (by rfl) (fun W => by (go_simp; exact rfl)) ?_
          simp only [putT, List.set]
          refine any_step [25] (by kernel_rfl) rfl (any_one ?_)
          refine any_opL 25 (by rfl) ?_
          simp only [List.take, List.drop]
          refine wpL_store1 (g := g) (off := 1) (n := 2) (v := .slice (some ⟨g77, 0, none⟩) ((addP m ps s0).length) g77c) (by rfl) (by rfl) (by rfl) (by rfl) (by rfl) (M.t 2 rfl) (by decide) info48 rfl (fun w79 P R T => ?_)
          replace M := M.put1 (j := 1) 2 rfl P R T rfl
          simp only [List.set] at M
          refine wpL_nil (then_normal ?_)
          refine any_end (by kernel_rfl) (no_panic ?_)
          exact HK13 g75 g77 g77c _ Cg77 M
        · skip
          refine any_opL 20 (by rfl) ?_
          simp only [List.take, List.drop]
          refine wpL_rowN (vs := [.string (bs u)]) (z := .string { data := #[] }) (bytes := 16) (by rfl) (by rfl) Tryd.underlying48 (by kernel_rfl) (by decide) (by kernel_rfl) (fun g80 w81 Sw81 Hg80 Bg80 => ?_)
          replace M := ((M.sees Sw81).add (N := 1) (cs := [.string (bs u)]) (M.ge Hg80) (M.fresh Hg80) Bg80 rfl)
          clear Bg80
          simp only [putT, List.set]
          refine wpL_nil (then_normal ?_)
          refine any_step [5] (by kernel_rfl) rfl (any_one ?_)
          refine any_opL 5 (by rfl) ?_
          simp only [List.take, List.drop]
          refine wpL_chunk 1 (by rfl) (fun Lk hLk => ?_)
          simp only [List.take, List.drop]
          refine wpV_load1 (v := .slice ap q c1) (by rfl) rfl rfl (range_one (range_sub (M.r 1 0 rfl rfl) 1 1 1 (xs := [.slice ap q c1]) rfl rfl)) (M.lt 1 rfl) Tryd.underlying48 rfl ?_
          simp only [putT, List.set]
          refine wpV_nil (hLk _ (fun w82 Sw82 => ?_))
          clear hLk Lk
          simp only [List.take, List.drop]
          replace M := M.sees Sw82
          refine wpL_nil (then_normal ?_)
          refine any_first 18 (v := .slice ap q q) (by rfl) (by kernel_rfl) nopanic_not (by rfl) (by exact yl_slcHM (hi := q) (m := q) rfl rfl rfl rfl Tryd.underlying48 info9 (Nat.le_refl _) hq2) ?_
          simp only [putT, List.set]
          refine any_step [21] (by kernel_rfl) rfl (any_one ?_)
          refine any_opL 21 (by rfl) ?_
          simp only [List.take, List.drop]
          refine wpL_appendFA (n := q) (cap := q) (m := 1) (olds := scells ((ps.take q).take q)) (news := [.string (bs u)]) (z := .string { data := #[] }) (bytes := 16) (by rfl) (by rfl) (by rfl) (by rfl) Tryd.underlying48 (by kernel_rfl) rfl (((((Hp.mem M).takeM hq1 hq2 hq3).row.eq (scells_take2 _ _)).takeM (Nat.le_refl _) (Nat.le_refl _) hq2).eq (scells_take2 _ _)) rfl (by omega) (by omega) (M.r 0 0 rfl rfl) (by omega) (by simp only [maxLen]; omega) (fun g83 g83c w84 Sw84 Hg83 Cg83 R T L => ?_)
          replace M := (M.sees Sw84).addR (M.ge Hg83) (M.fresh Hg83) T R L
          clear T R L
          rw [show scells ((ps.take q).take q) ++ [.string (bs u)] = scells (addP m ps s0) from by rw [← hA, List.take_take, Nat.min_self]; exact scells_app _ [u]] at M
          rw [show q + 1 = (addP m ps s0).length by rw [← hA, List.length_append, hqt]; rfl] at Cg83
          rw [show q + 1 = (addP m ps s0).length by rw [← hA, List.length_append, hqt]; rfl]
          simp only [putT, List.set]
          refine wpL_nil (then_normal ?_)
          refine any_first 22 (v := .pointer (some ⟨g, 0, none⟩)) (by rfl) (by kernel_rfl) nopanic_not (by rfl) (by exact yl_nilCheck rfl rfl) ?_
          simp only [putT, List.set]
          refine any_first 23 (v := .pointer (some ⟨g, 0, none⟩)) (by rfl) (by kernel_rfl) nopanic_not (by rfl) (fun W => by (go_simp; exact rfl)) ?_
          simp only [putT, List.set]
          refine any_first 24 (v := .pointer (some ⟨g, 1, none⟩)) (by rfl) (by kernel_rfl) nopanic_not (by rfl) (fun W => by (go_simp; exact rfl)) ?_
          simp only [putT, List.set]
          refine any_step [25] (by kernel_rfl) rfl (any_one ?_)
          refine any_opL 25 (by rfl) ?_
          simp only [List.take, List.drop]
          refine wpL_store1 (g := g) (off := 1) (n := 2) (v := .slice (some ⟨g83, 0, none⟩) ((addP m ps s0).length) g83c) (by rfl) (by rfl) (by rfl) (by rfl) (by rfl) (M.t 2 rfl) (by decide) info48 rfl (fun w85 P R T => ?_)
          replace M := M.put1 (j := 1) 2 rfl P R T rfl
          simp only [List.set] at M
          refine wpL_nil (then_normal ?_)
          refine any_end (by kernel_rfl) (no_panic ?_)
          exact HK13 g80 g83 g83c _ Cg83 M
      · skip
        refine any_opL 20 (by rfl) ?_
        simp only [List.take, List.drop]
        refine wpL_rowN (vs := [.string (bs u)]) (z := .string { data := #[] }) (bytes := 16) (by rfl) (by rfl) Tryd.underlying48 (by kernel_rfl) (by decide) (by kernel_rfl) (fun g86 w87 Sw87 Hg86 Bg86 => ?_)
        replace M := ((M.sees Sw87).add (N := 1) (cs := [.string (bs u)]) (M.ge Hg86) (M.fresh Hg86) Bg86 rfl)
        clear Bg86
        simp only [putT, List.set]
        refine wpL_nil (then_normal ?_)
        refine any_step [5, 16] (by kernel_rfl) rfl (any_two ?_ (any_one ?_))
        · skip
          refine any_opL 5 (by rfl) ?_
          simp only [List.take, List.drop]
          refine wpL_chunk 1 (by rfl) (fun Lk hLk => ?_)
          simp only [List.take, List.drop]
          refine wpV_load1 (v := .slice ap q c1) (by rfl) rfl rfl (range_one (range_sub (M.r 1 0 rfl rfl) 1 1 1 (xs := [.slice ap q c1]) rfl rfl)) (M.lt 1 rfl) Tryd.underlying48 rfl ?_
          simp only [putT, List.set]
          refine wpV_nil (hLk _ (fun w88 Sw88 => ?_))
          clear hLk Lk
          simp only [List.take, List.drop]
          replace M := M.sees Sw88
          refine wpL_nil (then_normal ?_)
          refine any_step [16] (by kernel_rfl) rfl (any_one ?_)
          refine any_opL 16 (by rfl) ?_
          simp only [List.take, List.drop]
          refine wpL_chunk 1 (by rfl) (fun Lk hLk => ?_)
          simp only [List.take, List.drop]
          refine wpV_load1 (v := .slice ap q c1) (by rfl) rfl rfl (range_one (range_sub (M.r 1 0 rfl rfl) 1 1 1 (xs := [.slice ap q c1]) rfl rfl)) (M.lt 1 rfl) Tryd.underlying48 rfl ?_
          simp only [putT, List.set]
          refine wpV_nil (hLk _ (fun w89 Sw89 => ?_))
          clear hLk Lk
          simp only [List.take, List.drop]
          replace M := M.sees Sw89
          refine wpL_nil (then_normal ?_)
          refine any_first 17 (v := .int .i64 ((q : Nat) : Int)) (by rfl) (by kernel_rfl) nopanic_not (by rfl) (by exact yl_lenA (n := q) rfl rfl rfl Tryd.underlying48) ?_
          simp only [putT, List.set]
          refine any_first 18 (v := .slice ap q q) (by rfl) (by kernel_rfl) nopanic_not (by rfl) (by exact yl_slcHM (hi := q) (m := q) rfl rfl rfl rfl Tryd.underlying48 info9 (Nat.le_refl _) hq2) ?_
          simp only [putT, List.set]
          refine any_step [21] (by kernel_rfl) rfl (any_one ?_)
          refine any_opL 21 (by rfl) ?_
          simp only [List.take, List.drop]
          refine wpL_appendFA (n := q) (cap := q) (m := 1) (olds := scells ((ps.take q).take q)) (news := [.string (bs u)]) (z := .string { data := #[] }) (bytes := 16) (by rfl) (by rfl) (by rfl) (by rfl) Tryd.underlying48 (by kernel_rfl) rfl (((((Hp.mem M).takeM hq1 hq2 hq3).row.eq (scells_take2 _ _)).takeM (Nat.le_refl _) (Nat.le_refl _) hq2).eq (scells_take2 _ _)) rfl (by omega) (by omega) (M.r 0 0 rfl rfl) (by omega) (by simp only [maxLen]; omega) (fun g90 g90c w91 Sw91 Hg90 Cg90 R T L => ?_)
          replace M := (M.sees Sw91).addR (M.ge Hg90) (M.fresh Hg90) T R L
          clear T R L
          rw [show scells ((ps.take q).take q) ++ [.string (bs u)] = scells (addP m ps s0) from by rw [← hA, List.take_take, Nat.min_self]; exact scells_app _ [u]] at M
          rw [show q + 1 = (addP m ps s0).length by rw [← hA, List.length_append, hqt]; rfl] at Cg90
          rw [show q + 1 = (addP m ps s0).length by rw [← hA, List.length_append, hqt]; rfl]
          simp only [putT, List.set]
          refine wpL_nil (then_normal ?_)
          refine any_first 22 (v := .pointer (some ⟨g, 0, none⟩)) (by rfl) (by kernel_rfl) nopanic_not (by rfl) (by exact yl_nilCheck rfl rfl) ?_
          simp only [putT, List.set]
          refine any_first 23 (v := .pointer (some ⟨g, 0, none⟩)) (by rfl) (by kernel_rfl) nopanic_not (by rfl) (fun W => by (go_simp; exact rfl)) ?_
          simp only [putT, List.set]
          refine any_first 24 (v := .pointer (some ⟨g, 1, none⟩)) (by rfl) (by kernel_rfl) nopanic_not (by rfl) (fun W => by (go_simp; exact rfl)) ?_
          simp only [putT, List.set]
          refine any_step [25] (by kernel_rfl) rfl (any_one ?_)
          refine any_opL 25 (by rfl) ?_
          simp only [List.take, List.drop]
          refine wpL_store1 (g := g) (off := 1) (n := 2) (v := .slice (some ⟨g90, 0, none⟩) ((addP m ps s0).length) g90c) (by rfl) (by rfl) (by rfl) (by rfl) (by rfl) (M.t 2 rfl) (by decide) info48 rfl (fun w92 P R T => ?_)
          replace M := M.put1 (j := 1) 2 rfl P R T rfl
          simp only [List.set] at M
          refine wpL_nil (then_normal ?_)
          refine any_end (by kernel_rfl) (no_panic ?_)
          exact HK13 g86 g90 g90c _ Cg90 M
        · skip
          refine any_opL 16 (by rfl) ?_
          simp only [List.take, List.drop]
          refine wpL_chunk 1 (by rfl) (fun Lk hLk => ?_)
          simp only [List.take, List.drop]
          refine wpV_load1 (v := .slice ap q c1) (by rfl) rfl rfl (range_one (range_sub (M.r 1 0 rfl rfl) 1 1 1 (xs := [.slice ap q c1]) rfl rfl)) (M.lt 1 rfl) Tryd.underlying48 rfl ?_
          simp only [putT, List.set]
          refine wpV_nil (hLk _ (fun w93 Sw93 => ?_))
          clear hLk Lk
          simp only [List.take, List.drop]
          replace M := M.sees Sw93
          refine wpL_nil (then_normal ?_)
          refine any_first 17 (v := .int .i64 ((q : Nat) : Int)) (by rfl) (by kernel_rfl) nopanic_not (by rfl) (by exact yl_lenA (n := q) rfl rfl rfl Tryd.underlying48) ?_
          simp only [putT, List.set]
          refine any_step [5] (by kernel_rfl) rfl (any_one ?_)
          refine any_opL 5 (by rfl) ?_
          simp only [List.take, List.drop]
          refine wpL_chunk 1 (by rfl) (fun Lk hLk => ?_)
          simp only [List.take, List.drop]
          refine wpV_load1 (v := .slice ap q c1) (by rfl) rfl rfl (range_one (range_sub (M.r 1 0 rfl rfl) 1 1 1 (xs := [.slice ap q c1]) rfl rfl)) (M.lt 1 rfl) Tryd.underlying48 rfl ?_
          simp only [putT, List.set]
          refine wpV_nil (hLk _ (fun w94 Sw94 => ?_))
          clear hLk Lk
          simp only [List.take, List.drop]
          replace M := M.sees Sw94
          refine wpL_nil (then_normal ?_)
          refine any_first 18 (v := .slice ap q q) (by rfl) (by kernel_rfl) nopanic_not (by rfl) (by exact yl_slcHM (hi := q) (m := q) rfl rfl rfl rfl Tryd.underlying48 info9 (Nat.le_refl _) hq2) ?_
          simp only [putT, List.set]
          refine any_step [21] (by kernel_rfl) rfl (any_one ?_)
          refine any_opL 21 (by rfl) ?_
          simp only [List.take, List.drop]
          refine wpL_appendFA (n := q) (cap := q) (m := 1) (olds := scells ((ps.take q).take q)) (news := [.string (bs u)]) (z := .string { data := #[] }) (bytes := 16) (by rfl) (by rfl) (by rfl) (by rfl) Tryd.underlying48 (by kernel_rfl) rfl (((((Hp.mem M).takeM hq1 hq2 hq3).row.eq (scells_take2 _ _)).takeM (Nat.le_refl _) (Nat.le_refl _) hq2).eq (scells_take2 _ _)) rfl (by omega) (by omega) (M.r 0 0 rfl rfl) (by omega) (by simp only [maxLen]; omega) (fun g95 g95c w96 Sw96 Hg95 Cg95 R T L => ?_)
          replace M := (M.sees Sw96).addR (M.ge Hg95) (M.fresh Hg95) T R L
          clear T R L
          rw [show scells ((ps.take q).take q) ++ [.string (bs u)] = scells (addP m ps s0) from by rw [← hA, List.take_take, Nat.min_self]; exact scells_app _ [u]] at M
          rw [show q + 1 = (addP m ps s0).length by rw [← hA, List.length_append, hqt]; rfl] at Cg95
          rw [show q + 1 = (addP m ps s0).length by rw [← hA, List.length_append, hqt]; rfl]
          simp only [putT, List.set]
          refine wpL_nil (then_normal ?_)
          refine any_first 22 (v := .pointer (some ⟨g, 0, none⟩)) (by rfl) (by kernel_rfl) nopanic_not (by rfl) (by exact yl_nilCheck rfl rfl) ?_
          simp only [putT, List.set]
          refine any_first 23 (v := .pointer (some ⟨g, 0, none⟩)) (by rfl) (by kernel_rfl) nopanic_not (by rfl) (fun W => by (go_simp; exact rfl)) ?_
          simp only [putT, List.set]
          refine any_first 24 (v := .pointer (some ⟨g, 1, none⟩)) (by rfl) (by kernel_rfl) nopanic_not (by rfl) (fun W => by (go_simp; exact rfl)) ?_
          simp only [putT, List.set]
          refine any_step [25] (by kernel_rfl) rfl (any_one ?_)
          refine any_opL 25 (by rfl) ?_
          simp only [List.take, List.drop]
          refine wpL_store1 (g := g) (off := 1) (n := 2) (v := .slice (some ⟨g95, 0, none⟩) ((addP m ps s0).length) g95c) (by rfl) (by rfl) (by rfl) (by rfl) (by rfl) (M.t 2 rfl) (by decide) info48 rfl (fun w97 P R T => ?_)
          replace M := M.put1 (j := 1) 2 rfl P R T rfl
          simp only [List.set] at M
          refine wpL_nil (then_normal ?_)
          refine any_end (by kernel_rfl) (no_panic ?_)
          exact HK13 g86 g95 g95c _ Cg95 M
    · skip
      refine any_opL 16 (by rfl) ?_
      simp only [List.take, List.drop]
      refine wpL_chunk 1 (by rfl) (fun Lk hLk => ?_)
      simp only [List.take, List.drop]
      refine wpV_load1 (v := .slice ap q c1) (by rfl) rfl rfl (range_one (range_sub (M.r 0 0 rfl rfl) 1 1 1 (xs := [.slice ap q c1]) rfl rfl)) (M.lt 0 rfl) Tryd.underlying48 rfl ?_
      simp only [putT, List.set]
      refine wpV_nil (hLk _ (fun w98 Sw98 => ?_))
      clear hLk Lk
      simp only [List.take, List.drop]
      replace M := M.sees Sw98
      refine wpL_nil (then_normal ?_)
      refine any_first 17 (v := .int .i64 ((q : Nat) : Int)) (by rfl) (by kernel_rfl) nopanic_not (by rfl) (by exact yl_lenA (n := q) rfl rfl rfl Tryd.underlying48) ?_
      simp only [putT, List.set]
      refine any_step [5, 10, 20] (by kernel_rfl) rfl (any_two ?_ (any_two ?_ (any_one ?_)))
      · skip
        refine any_opL 5 (by rfl) ?_
        simp only [List.take, List.drop]
        refine wpL_chunk 1 (by rfl) (fun Lk hLk => ?_)
        simp only [List.take, List.drop]
        refine wpV_load1 (v := .slice ap q c1) (by rfl) rfl rfl (range_one (range_sub (M.r 0 0 rfl rfl) 1 1 1 (xs := [.slice ap q c1]) rfl rfl)) (M.lt 0 rfl) Tryd.underlying48 rfl ?_
        simp only [putT, List.set]
        refine wpV_nil (hLk _ (fun w99 Sw99 => ?_))
        clear hLk Lk
        simp only [List.take, List.drop]
        replace M := M.sees Sw99
        refine wpL_nil (then_normal ?_)
        refine any_step [10, 20] (by kernel_rfl) rfl (any_two ?_ (any_one ?_))
        · skip
          refine any_opL 10 (by rfl) ?_
          simp only [List.take, List.drop]
          refine wpL_chunk 1 (by rfl) (fun Lk hLk => ?_)
          simp only [List.take, List.drop]
          refine wpV_load1 (v := .slice ap q c1) (by rfl) rfl rfl (range_one (range_sub (M.r 0 0 rfl rfl) 1 1 1 (xs := [.slice ap q c1]) rfl rfl)) (M.lt 0 rfl) Tryd.underlying48 rfl ?_
          simp only [putT, List.set]
          refine wpV_nil (hLk _ (fun w100 Sw100 => ?_))
          clear hLk Lk
          simp only [List.take, List.drop]
          replace M := M.sees Sw100
          refine wpL_nil (then_normal ?_)
          refine any_first 11 (v := .int .i64 ((q : Nat) : Int)) (by rfl) (by kernel_rfl) nopanic_not (by rfl) (by exact yl_lenA (n := q) rfl rfl rfl Tryd.underlying48) ?_
          simp only [putT, List.set]
          refine any_first 18 (v := .slice ap q q) (by rfl) (by kernel_rfl) nopanic_not (by rfl) (by exact yl_slcHM (hi := q) (m := q) rfl rfl rfl rfl Tryd.underlying48 info9 (Nat.le_refl _) hq2) ?_
          simp only [putT, List.set]
          refine any_step [20] (by kernel_rfl) rfl (any_one ?_)
          refine any_opL 20 (by rfl) ?_
          simp only [List.take, List.drop]
          refine wpL_rowN (vs := [.string (bs u)]) (z := .string { data := #[] }) (bytes := 16) (by rfl) (by rfl) Tryd.underlying48 (by kernel_rfl) (by decide) (by kernel_rfl) (fun g101 w102 Sw102 Hg101 Bg101 => ?_)
          replace M := ((M.sees Sw102).add (N := 1) (cs := [.string (bs u)]) (M.ge Hg101) (M.fresh Hg101) Bg101 rfl)
          clear Bg101
          simp only [putT, List.set]
          refine wpL_nil (then_normal ?_)
          refine any_step [21] (by kernel_rfl) rfl (any_one ?_)
          refine any_opL 21 (by rfl) ?_
          simp only [List.take, List.drop]
          refine wpL_appendFA (n := q) (cap := q) (m := 1) (olds := scells ((ps.take q).take q)) (news := [.string (bs u)]) (z := .string { data := #[] }) (bytes := 16) (by rfl) (by rfl) (by rfl) (by rfl) Tryd.underlying48 (by kernel_rfl) rfl (((((Hp.mem M).takeM hq1 hq2 hq3).row.eq (scells_take2 _ _)).takeM (Nat.le_refl _) (Nat.le_refl _) hq2).eq (scells_take2 _ _)) rfl (by omega) (by omega) (M.r 0 0 rfl rfl) (by omega) (by simp only [maxLen]; omega) (fun g103 g103c w104 Sw104 Hg103 Cg103 R T L => ?_)
          replace M := (M.sees Sw104).addR (M.ge Hg103) (M.fresh Hg103) T R L
          clear T R L
          rw [show scells ((ps.take q).take q) ++ [.string (bs u)] = scells (addP m ps s0) from by rw [← hA, List.take_take, Nat.min_self]; exact scells_app _ [u]] at M
          rw [show q + 1 = (addP m ps s0).length by rw [← hA, List.length_append, hqt]; rfl] at Cg103
          rw [show q + 1 = (addP m ps s0).length by rw [← hA, List.length_append, hqt]; rfl]
          simp only [putT, List.set]
          refine wpL_nil (then_normal ?_)
          refine any_first 22 (v := .pointer (some ⟨g, 0, none⟩)) (by rfl) (by kernel_rfl) nopanic_not (by rfl) (by exact yl_nilCheck rfl rfl) ?_
          simp only [putT, List.set]
          refine any_first 23 (v := .pointer (some ⟨g, 0, none⟩)) (by rfl) (by kernel_rfl) nopanic_not (by rfl) (fun W => by (go_simp; exact rfl)) ?_
          simp only [putT, List.set]
          refine any_first 24 (v := .pointer (some ⟨g, 1, none⟩)) (by rfl) (by kernel_rfl) nopanic_not (by rfl) (fun W => by (go_simp; exact rfl)) ?_
          simp only [putT, List.set]
          refine any_step [25] (by kernel_rfl) rfl (any_one ?_)
          refine any_opL 25 (by rfl) ?_
          simp only [List.take, List.drop]
          refine wpL_store1 (g := g) (off := 1) (n := 2) (v := .slice (some ⟨g103, 0, none⟩) ((addP m ps s0).length) g103c) (by rfl) (by rfl) (by rfl) (by rfl) (by rfl) (M.t 2 rfl) (by decide) info48 rfl (fun w105 P R T => ?_)
          replace M := M.put1 (j := 1) 2 rfl P R T rfl
          simp only [List.set] at M
          refine wpL_nil (then_normal ?_)
          refine any_end (by kernel_rfl) (no_panic ?_)
          exact HK13 g101 g103 g103c _ Cg103 M
        · skip
          refine any_opL 20 (by rfl) ?_
          simp only [List.take, List.drop]
          refine wpL_rowN (vs := [.string (bs u)]) (z := .string { data := #[] }) (bytes := 16) (by rfl) (by rfl) Tryd.underlying48 (by kernel_rfl) (by decide) (by kernel_rfl) (fun g106 w107 Sw107 Hg106 Bg106 => ?_)
          replace M := ((M.sees Sw107).add (N := 1) (cs := [.string (bs u)]) (M.ge Hg106) (M.fresh Hg106) Bg106 rfl)
          clear Bg106
          simp only [putT, List.set]
          refine wpL_nil (then_normal ?_)
          refine any_step [10] (by kernel_rfl) rfl (any_one ?_)
          refine any_opL 10 (by rfl) ?_
          simp only [List.take, List.drop]
          refine wpL_chunk 1 (by rfl) (fun Lk hLk => ?_)
          simp only [List.take, List.drop]
          refine wpV_load1 (v := .slice ap q c1) (by rfl) rfl rfl (range_one (range_sub (M.r 1 0 rfl rfl) 1 1 1 (xs := [.slice ap q c1]) rfl rfl)) (M.lt 1 rfl) Tryd.underlying48 rfl ?_
          simp only [putT, List.set]
          refine wpV_nil (hLk _ (fun w108 Sw108 => ?_))
          clear hLk Lk
          simp only [List.take, List.drop]
          replace M := M.sees Sw108
          refine wpL_nil (then_normal ?_)
          refine any_first 11 (v := .int .i64 ((q : Nat) : Int)) (by rfl) (by kernel_rfl) nopanic_not (by rfl) (by exact yl_lenA (n := q) rfl rfl rfl Tryd.underlying48) ?_
          simp only [putT, List.set]
          refine any_first 18 (v := .slice ap q q) (by rfl) (by kernel_rfl) nopanic_not (by rfl) (by exact yl_slcHM (hi := q) (m := q) rfl rfl rfl rfl Tryd.underlying48 info9 (Nat.le_refl _) hq2) ?_
          simp only [putT, List.set]
          refine any_step [21] (by kernel_rfl) rfl (any_one ?_)
          refine any_opL 21 (by rfl) ?_
          simp only [List.take, List.drop]
          refine wpL_appendFA (n := q) (cap := q) (m := 1) (olds := scells ((ps.take q).take q)) (news := [.string (bs u)]) (z := .string { data := #[] }) (bytes := 16) (by rfl) (by rfl) (by rfl) (by rfl) Tryd.underlying48 (by kernel_rfl) rfl (((((Hp.mem M).takeM hq1 hq2 hq3).row.eq (scells_take2 _ _)).takeM (Nat.le_refl _) (Nat.le_refl _) hq2).eq (scells_take2 _ _)) rfl (by omega) (by omega) (M.r 0 0 rfl rfl) (by omega) (by simp only [maxLen]; omega) (fun g109 g109c w110 Sw110 Hg109 Cg109 R T L => ?_)
          replace M := (M.sees Sw110).addR (M.ge Hg109) (M.fresh Hg109) T R L
          clear T R L
          rw [show scells ((ps.take q).take q) ++ [.string (bs u)] = scells (addP m ps s0) from by rw [← hA, List.take_take, Nat.min_self]; exact scells_app _ [u]] at M
          rw [show q + 1 = (addP m ps s0).length by rw [← hA, List.length_append, hqt]; rfl] at Cg109
          rw [show q + 1 = (addP m ps s0).length by rw [← hA, List.length_append, hqt]; rfl]
          simp only [putT, List.set]
          refine wpL_nil (then_normal ?_)
          refine any_first 22 (v := .pointer (some ⟨g, 0, none⟩)) (by rfl) (by kernel_rfl) nopanic_not (by rfl) (by exact yl_nilCheck rfl rfl) ?_
          simp only [putT, List.set]
          refine any_first 23 (v := .pointer (some ⟨g, 0, none⟩)) (by rfl) (by kernel_rfl) nopanic_not (by rfl) (fun W => by (go_simp; exact rfl)) ?_
          simp only [putT, List.set]
          refine any_first 24 (v := .pointer (some ⟨g, 1, none⟩)) (by rfl) (by kernel_rfl) nopanic_not (by rfl) (fun W => by (go_simp; exact rfl)) ?_
          simp only [putT, List.set]
          refine any_step [25] (by kernel_rfl) rfl (any_one ?_)
          refine any_opL 25 (by rfl) ?_
          simp only [List.take, List.drop]
          refine wpL_store1 (g := g) (off := 1) (n := 2) (v := .slice (some ⟨g109, 0, none⟩) ((addP m ps s0).length) g109c) (by rfl) (by rfl) (by rfl) (by rfl) (by rfl) (M.t 2 rfl) (by decide) info48 rfl (fun w111 P R T => ?_)
          replace M := M.put1 (j := 1) 2 rfl P R T rfl
          simp only [List.set] at M
          refine wpL_nil (then_normal ?_)
          refine any_end (by kernel_rfl) (no_panic ?_)
          exact HK13 g106 g109 g109c _ Cg109 M
      · skip
        refine any_opL 10 (by rfl) ?_
        simp only [List.take, List.drop]
        refine wpL_chunk 1 (by rfl) (fun Lk hLk => ?_)
        simp only [List.take, List.drop]
        refine wpV_load1 (v := .slice ap q c1) (by rfl) rfl rfl (range_one (range_sub (M.r 0 0 rfl rfl) 1 1 1 (xs := [.slice ap q c1]) rfl rfl)) (M.lt 0 rfl) Tryd.underlying48 rfl ?_
        simp only [putT, List.set]
        refine wpV_nil (hLk _ (fun w112 Sw112 => ?_))
        clear hLk Lk
        simp only [List.take, List.drop]
        replace M := M.sees Sw112
        refine wpL_nil (then_normal ?_)
        refine any_first 11 (v := .int .i64 ((q : Nat) : Int)) (by rfl) (by kernel_rfl) nopanic_not (by rfl) (by exact yl_lenA (n := q) rfl rfl rfl Tryd.underlying48) ?_
        simp only [putT, List.set]
        refine any_step [5, 20] (by kernel_rfl) rfl (any_two ?_ (any_one ?_))
        · skip
          refine any_opL 5 (by rfl) ?_
          simp only [List.take, List.drop]
          refine wpL_chunk 1 (by rfl) (fun Lk hLk => ?_)
          simp only [List.take, List.drop]
          refine wpV_load1 (v := .slice ap q c1) (by rfl) rfl rfl (range_one (range_sub (M.r 0 0 rfl rfl) 1 1 1 (xs := [.slice ap q c1]) rfl rfl)) (M.lt 0 rfl) Tryd.underlying48 rfl ?_
          simp only [putT, List.set]
          refine wpV_nil (hLk _ (fun w113 Sw113 => ?_))
          clear hLk Lk
          simp only [List.take, List.drop]
          replace M := M.sees Sw113
          refine wpL_nil (then_normal ?_)
          refine any_first 18 (v := .slice ap q q) (by rfl) (by kernel_rfl) nopanic_not (by rfl) (by exact yl_slcHM (hi := q) (m := q) rfl rfl rfl rfl Tryd.underlying48 info9 (Nat.le_refl _) hq2) ?_
          simp only [putT, List.set]
          refine any_step [20] (by kernel_rfl) rfl (any_one ?_)
          refine any_opL 20 (by rfl) ?_
          simp only [List.take, List.drop]
          refine wpL_rowN (vs := [.string (bs u)]) (z := .string { data := #[] }) (bytes := 16) (by rfl) (by rfl) Tryd.underlying48 (by kernel_rfl) (by decide) (by kernel_rfl) (fun g114 w115 Sw115 Hg114 Bg114 => ?_)
          replace M := ((M.sees Sw115).add (N := 1) (cs := [.string (bs u)]) (M.ge Hg114) (M.fresh Hg114) Bg114 rfl)
          clear Bg114
          simp only [putT, List.set]
          refine wpL_nil (then_normal ?_)
          refine any_step [21] (by kernel_rfl) rfl (any_one ?_)
          refine any_opL 21 (by rfl) ?_
          simp only [List.take, List.drop]
          refine wpL_appendFA (n := q) (cap := q) (m := 1) (olds := scells ((ps.take q).take q)) (news := [.string (bs u)]) (z := .string { data := #[] }) (bytes := 16) (by rfl) (by rfl) (by rfl) (by rfl) Tryd.underlying48 (by kernel_rfl) rfl (((((Hp.mem M).takeM hq1 hq2 hq3).row.eq (scells_take2 _ _)).takeM (Nat.le_refl _) (Nat.le_refl _) hq2).eq (scells_take2 _ _)) rfl (by omega) (by omega) (M.r 0 0 rfl rfl) (by omega) (by simp only [maxLen]; omega) (fun g116 g116c w117 Sw117 Hg116 Cg116 R T L => ?_)
          replace M := (M.sees Sw117).addR (M.ge Hg116) (M.fresh Hg116) T R L
          clear T R L
          rw [show scells ((ps.take q).take q) ++ [.string (bs u)] = scells (addP m ps s0) from by rw [← hA, List.take_take, Nat.min_self]; exact scells_app _ [u]] at M
          rw [show q + 1 = (addP m ps s0).length by rw [← hA, List.length_append, hqt]; rfl] at Cg116
          rw [show q + 1 = (addP m ps s0).length by rw [← hA, List.length_append, hqt]; rfl]
          simp only [putT, List.set]
          refine wpL_nil (then_normal ?_)
          refine any_first 22 (v := .pointer (some ⟨g, 0, none⟩)) (by rfl) (by kernel_rfl) nopanic_not (by rfl) (by exact yl_nilCheck rfl rfl) ?_
          simp only [putT, List.set]
          refine any_first 23 (v := .pointer (some ⟨g, 0, none⟩)) (by rfl) (by kernel_rfl) nopanic_not (by rfl) (fun W => by (go_simp; exact rfl)) ?_
          simp only [putT, List.set]
          refine any_first 24 (v := .pointer (some ⟨g, 1, none⟩)) (by rfl) (by kernel_rfl) nopanic_not (by rfl) (fun W => by (go_simp; exact rfl)) ?_
          simp only [putT, List.set]
          refine any_step [25] (by kernel_rfl) rfl (any_one ?_)
          refine any_opL 25 (by rfl) ?_
          simp only [List.take, List.drop]
          refine wpL_store1 (g := g) (off := 1) (n := 2) (v := .slice (some ⟨g116, 0, none⟩) ((addP m ps s0).length) g116c) (by rfl) (by rfl) (by rfl) (by rfl) (by rfl) (M.t 2 rfl) (by decide) info48 rfl (fun w118 P R T => ?_)
          replace M := M.put1 (j := 1) 2 rfl P R T rfl
          simp only [List.set] at M
          refine wpL_nil (then_normal ?_)
          refine any_end (by kernel_rfl) (no_panic ?_)
          exact HK13 g114 g116 g116c _ Cg116 M
        · skip
          refine any_opL 20 (by rfl) ?_
          simp only [List.take, List.drop]
          refine wpL_rowN (vs := [.string (bs u)]) (z := .string { data := #[] }) (bytes := 16) (by rfl) (by rfl) Tryd.underlying48 (by kernel_rfl) (by decide) (by kernel_rfl) (fun g119 w120 Sw120 Hg119 Bg119 => ?_)
          replace M := ((M.sees Sw120).add (N := 1) (cs := [.string (bs u)]) (M.ge Hg119) (M.fresh Hg119) Bg119 rfl)
          clear Bg119
          simp only [putT, List.set]
          refine wpL_nil (then_normal ?_)
          refine any_step [5] (by kernel_rfl) rfl (any_one ?_)
          refine any_opL 5 (by rfl) ?_
          simp only [List.take, List.drop]
          refine wpL_chunk 1 (by rfl) (fun Lk hLk => ?_)
          simp only [List.take, List.drop]
          refine wpV_load1 (v := .slice ap q c1) (by rfl) rfl rfl (range_one (range_sub (M.r 1 0 rfl rfl) 1 1 1 (xs := [.slice ap q c1]) rfl rfl)) (M.lt 1 rfl) Tryd.underlying48 rfl ?_
          simp only [putT, List.set]
          refine wpV_nil (hLk _ (fun w121 Sw121 => ?_))
          clear hLk Lk
          simp only [List.take, List.drop]
          replace M := M.sees Sw121
          refine wpL_nil (then_normal ?_)
          refine any_first 18 (v := .slice ap q q) (by rfl) (by kernel_rfl) nopanic_not (by rfl) (by exact yl_slcHM (hi := q) (m := q) rfl rfl rfl rfl Tryd.underlying48 info9 (Nat.le_refl _) hq2) ?_
          simp only [putT, List.set]
          refine any_step [21] (by kernel_rfl) rfl (any_one ?_)
          refine any_opL 21 (by rfl) ?_
          simp only [List.take, List.drop]
          refine wpL_appendFA (n := q) (cap := q) (m := 1) (olds := scells ((ps.take q).take q)) (news := [.string (bs u)]) (z := .string { data := #[] }) (bytes := 16) (by rfl) (by rfl) (by rfl) (by rfl) Tryd.underlying48 (by kernel_rfl) rfl (((((Hp.mem M).takeM hq1 hq2 hq3).row.eq (scells_take2 _ _)).takeM (Nat.le_refl _) (Nat.le_refl _) hq2).eq (scells_take2 _ _)) rfl (by omega) (by omega) (M.r 0 0 rfl rfl) (by omega) (by simp only [maxLen]; omega) (fun g122 g122c w123 Sw123 Hg122 Cg122 R T L => ?_)
          replace M := (M.sees Sw123).addR (M.ge Hg122) (M.fresh Hg122) T R L
          clear T R L
          rw [show scells ((ps.take q).take q) ++ [.string (bs u)] = scells (addP m ps s0) from by rw [← hA, List.take_take, Nat.min_self]; exact scells_app _ [u]] at M
          rw [show q + 1 = (addP m ps s0).length by rw [← hA, List.length_append, hqt]; rfl] at Cg122
          rw [show q + 1 = (addP m ps s0).length by rw [← hA, List.length_append, hqt]; rfl]
          simp only [putT, List.set]
          refine wpL_nil (then_normal ?_)
          refine any_first 22 (v := .pointer (some ⟨g, 0, none⟩)) (by rfl) (by kernel_rfl) nopanic_not (by rfl) (by exact yl_nilCheck rfl rfl) ?_
          simp only [putT, List.set]
          refine any_first 23 (v := .pointer (some ⟨g, 0, none⟩)) (by rfl) (by kernel_rfl) nopanic_not (by rfl) (fun W => by (go_simp; exact rfl)) ?_
          simp only [putT, List.set]
          refine any_first 24 (v := .pointer (some ⟨g, 1, none⟩)) (by rfl) (by kernel_rfl) nopanic_not (by rfl) (fun W => by (go_simp; exact rfl)) ?_
          simp only [putT, List.set]
          refine any_step [25] (by kernel_rfl) rfl (any_one ?_)
          refine any_opL 25 (by rfl) ?_
          simp only [List.take, List.drop]
          refine wpL_store1 (g := g) (off := 1) (n := 2) (v := .slice (some ⟨g122, 0, none⟩) ((addP m ps s0).length) g122c) (by rfl) (by rfl) (by rfl) (by rfl) (by rfl) (M.t 2 rfl) (by decide) info48 rfl (fun w124 P R T => ?_)
          replace M := M.put1 (j := 1) 2 rfl P R T rfl
          simp only [List.set] at M
          refine wpL_nil (then_normal ?_)
          refine any_end (by kernel_rfl) (no_panic ?_)
          exact HK13 g119 g122 g122c _ Cg122 M
      · skip
        refine any_opL 20 (by rfl) ?_
        simp only [List.take, List.drop]
        refine wpL_rowN (vs := [.string (bs u)]) (z := .string { data := #[] }) (bytes := 16) (by rfl) (by rfl) Tryd.underlying48 (by kernel_rfl) (by decide) (by kernel_rfl) (fun g125 w126 Sw126 Hg125 Bg125 => ?_)
        replace M := ((M.sees Sw126).add (N := 1) (cs := [.string (bs u)]) (M.ge Hg125) (M.fresh Hg125) Bg125 rfl)
        clear Bg125
        simp only [putT, List.set]
        refine wpL_nil (then_normal ?_)
        refine any_step [5, 10] (by kernel_rfl) rfl (any_two ?_ (any_one ?_))
        · skip
          refine any_opL 5 (by rfl) ?_
          simp only [List.take, List.drop]
          refine wpL_chunk 1 (by rfl) (fun Lk hLk => ?_)
          simp only [List.take, List.drop]
          refine wpV_load1 (v := .slice ap q c1) (by rfl) rfl rfl (range_one (range_sub (M.r 1 0 rfl rfl) 1 1 1 (xs := [.slice ap q c1]) rfl rfl)) (M.lt 1 rfl) Tryd.underlying48 rfl ?_
          simp only [putT, List.set]
          refine wpV_nil (hLk _ (fun w127 Sw127 => ?_))
          clear hLk Lk
          simp only [List.take, List.drop]
          replace M := M.sees Sw127
          refine wpL_nil (then_normal ?_)
          refine any_step [10] (by kernel_rfl) rfl (any_one ?_)
          refine any_opL 10 (by rfl) ?_
          simp only [List.take, List.drop]
          refine wpL_chunk 1 (by rfl) (fun Lk hLk => ?_)
          simp only [List.take, List.drop]
          refine wpV_load1 (v := .slice ap q c1) (by rfl) rfl rfl (range_one (range_sub (M.r 1 0 rfl rfl) 1 1 1 (xs := [.slice ap q c1]) rfl rfl)) (M.lt 1 rfl) Tryd.underlying48 rfl ?_
          simp only [putT, List.set]
          refine wpV_nil (hLk _ (fun w128 Sw128 => ?_))
          clear hLk Lk
          simp only [List.take, List.drop]
          replace M := M.sees Sw128
          refine wpL_nil (then_normal ?_)
          refine any_first 11 (v := .int .i64 ((q : Nat) : Int)) (by rfl) (by kernel_rfl) nopanic_not (by rfl) (by exact yl_lenA (n := q) rfl rfl rfl Tryd.underlying48) ?_
          simp only [putT, List.set]
          refine any_first 18 (v := .slice ap q q) (by rfl) (by kernel_rfl) nopanic_not (by rfl) (by exact yl_slcHM (hi := q) (m := q) rfl rfl rfl rfl Tryd.underlying48 info9 (Nat.le_refl _) hq2) ?_
          simp only [putT, List.set]
          refine any_step [21] (by kernel_rfl) rfl (any_one ?_)
          refine any_opL 21 (by rfl) ?_
          simp only [List.take, List.drop]
          refine wpL_appendFA (n := q) (cap := q) (m := 1) (olds := scells ((ps.take q).take q)) (news := [.string (bs u)]) (z := .string { data := #[] }) (bytes := 16) (by rfl) (by rfl) (by rfl) (by rfl) Tryd.underlying48 (by kernel_rfl) rfl (((((Hp.mem M).takeM hq1 hq2 hq3).row.eq (scells_take2 _ _)).takeM (Nat.le_refl _) (Nat.le_refl _) hq2).eq (scells_take2 _ _)) rfl (by omega) (by omega) (M.r 0 0 rfl rfl) (by omega) (by simp only [maxLen]; omega) (fun g129 g129c w130 Sw130 Hg129 Cg129 R T L => ?_)
          replace M := (M.sees Sw130).addR (M.ge Hg129) (M.fresh Hg129) T R L
          clear T R L
          rw [show scells ((ps.take q).take q) ++ [.string (bs u)] = scells (addP m ps s0) from by rw [← hA, List.take_take, Nat.min_self]; exact scells_app _ [u]] at M
          rw [show q + 1 = (addP m ps s0).length by rw [← hA, List.length_append, hqt]; rfl] at Cg129
          rw [show q + 1 = (addP m ps s0).length by rw [← hA, List.length_append, hqt]; rfl]
          simp only [putT, List.set]
          refine wpL_nil (then_normal ?_)
          refine any_first 22 (v := .pointer (some ⟨g, 0, none⟩)) (by rfl) (by kernel_rfl) nopanic_not (by rfl) (by exact yl_nilCheck rfl rfl) ?_
          simp only [putT, List.set]
          refine any_first 23 (v := .pointer (some ⟨g, 0, none⟩)) (by rfl) (by kernel_rfl) nopanic_not (by rfl) (fun W => by (go_simp; exact rfl)) ?_
          simp only [putT, List.set]
          refine any_first 24 (v := .pointer (some ⟨g, 1, none⟩)) (by rfl) (by kernel_rfl) nopanic_not (by rfl) (fun W => by (go_simp; exact rfl)) ?_
          simp only [putT, List.set]
          refine any_step [25] (by kernel_rfl) rfl (any_one ?_)
          refine any_opL 25 (by rfl) ?_
          simp only [List.take, List.drop]
          refine wpL_store1 (g := g) (off := 1) (n := 2) (v := .slice (some ⟨g129, 0, none⟩) ((addP m ps s0).length) g129c) (by rfl) (by rfl) (by rfl) (by rfl) (by rfl) (M.t 2 rfl) (by decide) info48 rfl (fun w131 P R T => ?_)
          replace M := M.put1 (j := 1) 2 rfl P R T rfl
          simp only [List.set] at M
          refine wpL_nil (then_normal ?_)
          refine any_end (by kernel_rfl) (no_panic ?_)
          exact HK13 g125 g129 g129c _ Cg129 M
        · skip
          refine any_opL 10 (by rfl) ?_
          simp only [List.take, List.drop]
          refine wpL_chunk 1 (by rfl) (fun Lk hLk => ?_)
          simp only [List.take, List.drop]
          refine wpV_load1 (v := .slice ap q c1) (by rfl) rfl rfl (range_one (range_sub (M.r 1 0 rfl rfl) 1 1 1 (xs := [.slice ap q c1]) rfl rfl)) (M.lt 1 rfl) Tryd.underlying48 rfl ?_
          simp only [putT, List.set]
          refine wpV_nil (hLk _ (fun w132 Sw132 => ?_))
          clear hLk Lk
          simp only [List.take, List.drop]
          replace M := M.sees Sw132
          refine wpL_nil (then_normal ?_)
          refine any_first 11 (v := .int .i64 ((q : Nat) : Int)) (by rfl) (by kernel_rfl) nopanic_not (by rfl) (by exact yl_lenA (n := q) rfl rfl rfl Tryd.underlying48) ?_
          simp only [putT, List.set]
          refine any_step [5] (by kernel_rfl) rfl (any_one ?_)
          refine any_opL 5 (by rfl) ?_
          simp only [List.take, List.drop]
          refine wpL_chunk 1 (by rfl) (fun Lk hLk => ?_)
          simp only [List.take, List.drop]
          refine wpV_load1 (v := .slice ap q c1) (by rfl) rfl rfl (range_one (range_sub (M.r 1 0 rfl rfl) 1 1 1 (xs := [.slice ap q c1]) rfl rfl)) (M.lt 1 rfl) Tryd.underlying48 rfl ?_
          simp only [putT, List.set]
          refine wpV_nil (hLk _ (fun w133 Sw133 => ?_))
          clear hLk Lk
          simp only [List.take, List.drop]
          replace M := M.sees Sw133
          refine wpL_nil (then_normal ?_)
          refine any_first 18 (v := .slice ap q q) (by rfl) (by kernel_rfl) nopanic_not (by rfl) (by exact yl_slcHM (hi := q) (m := q) rfl rfl rfl rfl Tryd.underlying48 info9 (Nat.le_refl _) hq2) ?_
          simp only [putT, List.set]
          refine any_step [21] (by kernel_rfl) rfl (any_one ?_)
          refine any_opL 21 (by rfl) ?_
          simp only [List.take, List.drop]
          refine wpL_appendFA (n := q) (cap := q) (m := 1) (olds := scells ((ps.take q).take q)) (news := [.string (bs u)]) (z := .string { data := #[] }) (bytes := 16) (by rfl) (by rfl) (by rfl) (by rfl) Tryd.underlying48 (by kernel_rfl) rfl (((((Hp.mem M).takeM hq1 hq2 hq3).row.eq (scells_take2 _ _)).takeM (Nat.le_refl _) (Nat.le_refl _) hq2).eq (scells_take2 _ _)) rfl (by omega) (by omega) (M.r 0 0 rfl rfl) (by omega) (by simp only [maxLen]; omega) (fun g134 g134c w135 Sw135 Hg134 Cg134 R T L => ?_)
          replace M := (M.sees Sw135).addR (M.ge Hg134) (M.fresh Hg134) T R L
          clear T R L
          rw [show scells ((ps.take q).take q) ++ [.string (bs u)] = scells (addP m ps s0) from by rw [← hA, List.take_take, Nat.min_self]; exact scells_app _ [u]] at M
          rw [show q + 1 = (addP m ps s0).length by rw [← hA, List.length_append, hqt]; rfl] at Cg134
          rw [show q + 1 = (addP m ps s0).length by rw [← hA, List.length_append, hqt]; rfl]
          simp only [putT, List.set]
          refine wpL_nil (then_normal ?_)
          refine any_first 22 (v := .pointer (some ⟨g, 0, none⟩)) (by rfl) (by kernel_rfl) nopanic_not (by rfl) (by exact yl_nilCheck rfl rfl) ?_
          simp only [putT, List.set]
          refine any_first 23 (v := .pointer (some ⟨g, 0, none⟩)) (by rfl) (by kernel_rfl) nopanic_not (by rfl) (fun W => by (go_simp; exact rfl)) ?_
          simp only [putT, List.set]
          refine any_first 24 (v := .pointer (some ⟨g, 1, none⟩)) (by rfl) (by kernel_rfl) nopanic_not (by rfl) (fun W => by (go_simp; exact rfl)) ?_
          simp only [putT, List.set]
          refine any_step [25] (by kernel_rfl) rfl (any_one ?_)
          refine any_opL 25 (by rfl) ?_
          simp only [List.take, List.drop]
          refine wpL_store1 (g := g) (off := 1) (n := 2) (v := .slice (some ⟨g134, 0, none⟩) ((addP m ps s0).length) g134c) (by rfl) (by rfl) (by rfl) (by rfl) (by rfl) (M.t 2 rfl) (by decide) info48 rfl (fun w136 P R T => ?_)
          replace M := M.put1 (j := 1) 2 rfl P R T rfl
          simp only [List.set] at M
          refine wpL_nil (then_normal ?_)
          refine any_end (by kernel_rfl) (no_panic ?_)
          exact HK13 g125 g134 g134c _ Cg134 M
    · skip
      refine any_opL 20 (by rfl) ?_
      simp only [List.take, List.drop]
      refine wpL_rowN (vs := [.string (bs u)]) (z := .string { data := #[] }) (bytes := 16) (by rfl) (by rfl) Tryd.underlying48 (by kernel_rfl) (by decide) (by kernel_rfl) (fun g137 w138 Sw138 Hg137 Bg137 => ?_)
      replace M := ((M.sees Sw138).add (N := 1) (cs := [.string (bs u)]) (M.ge Hg137) (M.fresh Hg137) Bg137 rfl)
      clear Bg137
      simp only [putT, List.set]
      refine wpL_nil (then_normal ?_)
      refine any_step [5, 10, 16] (by kernel_rfl) rfl (any_two ?_ (any_two ?_ (any_one ?_)))
      · skip
        refine any_opL 5 (by rfl) ?_
        simp only [List.take, List.drop]
        refine wpL_chunk 1 (by rfl) (fun Lk hLk => ?_)
        simp only [List.take, List.drop]
        refine wpV_load1 (v := .slice ap q c1) (by rfl) rfl rfl (range_one (range_sub (M.r 1 0 rfl rfl) 1 1 1 (xs := [.slice ap q c1]) rfl rfl)) (M.lt 1 rfl) Tryd.underlying48 rfl ?_
        simp only [putT, List.set]
        refine wpV_nil (hLk _ (fun w139 Sw139 => ?_))
        clear hLk Lk
        simp only [List.take, List.drop]
        replace M := M.sees Sw139
        refine wpL_nil (then_normal ?_)
        refine any_step [10, 16] (by kernel_rfl) rfl (any_two ?_ (any_one ?_))
        · skip
          refine any_opL 10 (by rfl) ?_
          simp only [List.take, List.drop]
          refine wpL_chunk 1 (by rfl) (fun Lk hLk => ?_)
          simp only [List.take, List.drop]
          refine wpV_load1 (v := .slice ap q c1) (by rfl) rfl rfl (range_one (range_sub (M.r 1 0 rfl rfl) 1 1 1 (xs := [.slice ap q c1]) rfl rfl)) (M.lt 1 rfl) Tryd.underlying48 rfl ?_
          simp only [putT, List.set]
          refine wpV_nil (hLk _ (fun w140 Sw140 => ?_))
          clear hLk Lk
          simp only [List.take, List.drop]
          replace M := M.sees Sw140
          refine wpL_nil (then_normal ?_)
          refine any_first 11 (v := .int .i64 ((q : Nat) : Int)) (by rfl) (by kernel_rfl) nopanic_not (by rfl) (by exact yl_lenA (n := q) rfl rfl rfl Tryd.underlying48) ?_
          simp only [putT, List.set]
          refine any_step [16] (by kernel_rfl) rfl (any_one ?_)
          refine any_opL 16 (by rfl) ?_
          simp only [List.take, List.drop]
          refine wpL_chunk 1 (by rfl) (fun Lk hLk => ?_)
          simp only [List.take, List.drop]
          refine wpV_load1 (v := .slice ap q c1) (by rfl) rfl rfl (range_one (range_sub (M.r 1 0 rfl rfl) 1 1 1 (xs := [.slice ap q c1]) rfl rfl)) (M.lt 1 rfl) Tryd.underlying48 rfl ?_
          simp only [putT, List.set]
          refine wpV_nil (hLk _ (fun w141 Sw141 => ?_))
          clear hLk Lk
          simp only [List.take, List.drop]
          replace M := M.sees Sw141
          refine wpL_nil (then_normal ?_)
          refine any_first 17 (v := .int .i64 ((q : Nat) : Int)) (by rfl) (by kernel_rfl) nopanic_not (by rfl) (by exact yl_lenA (n := q) rfl rfl rfl Tryd.underlying48) ?_
          simp only [putT, List.set]
          refine any_first 18 (v := .slice ap q q) (by rfl) (by kernel_rfl) nopanic_not (by rfl) (by exact yl_slcHM (hi := q) (m := q) rfl rfl rfl rfl Tryd.underlying48 info9 (Nat.le_refl _) hq2) ?_
          simp only [putT, List.set]
          refine any_step [21] (by kernel_rfl) rfl (any_one ?_)
          refine any_opL 21 (by rfl) ?_
          simp only [List.take, List.drop]
          refine wpL_appendFA (n := q) (cap := q) (m := 1) (olds := scells ((ps.take q).take q)) (news := [.string (bs u)]) (z := .string { data := #[] }) (bytes := 16) (by rfl) (by rfl) (by rfl) (by rfl) Tryd.underlying48 (by kernel_rfl) rfl (((((Hp.mem M).takeM hq1 hq2 hq3).row.eq (scells_take2 _ _)).takeM (Nat.le_refl _) (Nat.le_refl _) hq2).eq (scells_take2 _ _)) rfl (by omega) (by omega) (M.r 0 0 rfl rfl) (by omega) (by simp only [maxLen]; omega) (fun g142 g142c w143 Sw143 Hg142 Cg142 R T L => ?_)
          replace M := (M.sees Sw143).addR (M.ge Hg142) (M.fresh Hg142) T R L
          clear T R L
          rw [show scells ((ps.take q).take q) ++ [.string (bs u)] = scells (addP m ps s0) from by rw [← hA, List.take_take, Nat.min_self]; exact scells_app _ [u]] at M
          rw [show q + 1 = (addP m ps s0).length by rw [← hA, List.length_append, hqt]; rfl] at Cg142
          rw [show q + 1 = (addP m ps s0).length by rw [← hA, List.length_append, hqt]; rfl]
          simp only [putT, List.set]
          refine wpL_nil (then_normal ?_)
          refine any_first 22 (v := .pointer (some ⟨g, 0, none⟩)) (by rfl) (by kernel_rfl) nopanic_not (by rfl) (by exact yl_nilCheck rfl rfl) ?_
          simp only [putT, List.set]
          refine any_first 23 (v := .pointer (some ⟨g, 0, none⟩)) (by rfl) (by kernel_rfl) nopanic_not (by rfl) (fun W => by (go_simp; exact rfl)) ?_
          simp only [putT, List.set]
          refine any_first 24 (v := .pointer (some ⟨g, 1, none⟩)) (by rfl) (by kernel_rfl) nopanic_not (by rfl) (fun W => by (go_simp; exact rfl)) ?_
          simp only [putT, List.set]
          refine any_step [25] (by kernel_rfl) rfl (any_one ?_)
          refine any_opL 25 (by rfl) ?_
          simp only [List.take, List.drop]
          refine wpL_store1 (g := g) (off := 1) (n := 2) (v := .slice (some ⟨g142, 0, none⟩) ((addP m ps s0).length) g142c) (by rfl) (by rfl) (by rfl) (by rfl) (by rfl) (M.t 2 rfl) (by decide) info48 rfl (fun w144 P R T => ?_)
          replace M := M.put1 (j := 1) 2 rfl P R T rfl
          simp only [List.set] at M
          refine wpL_nil (then_normal ?_)
          refine any_end (by kernel_rfl) (no_panic ?_)
          exact HK13 g137 g142 g142c _ Cg142 M
        · skip
          refine any_opL 16 (by rfl) ?_
          simp only [List.take, List.drop]
          refine wpL_chunk 1 (by rfl) (fun Lk hLk => ?_)
          simp only [List.take, List.drop]
          refine wpV_load1 (v := .slice ap q c1) (by rfl) rfl rfl (range_one (range_sub (M.r 1 0 rfl rfl) 1 1 1 (xs := [.slice ap q c1]) rfl rfl)) (M.lt 1 rfl) Tryd.underlying48 rfl ?_
          simp only [putT, List.set]
          refine wpV_nil (hLk _ (fun w145 Sw145 => ?_))
          clear hLk Lk
          simp only [List.take, List.drop]
          replace M := M.sees Sw145
          refine wpL_nil (then_normal ?_)
          refine any_first 17 (v := .int .i64 ((q : Nat) : Int)) (by rfl) (by kernel_rfl) nopanic_not (by rfl) (by exact yl_lenA (n := q) rfl rfl rfl Tryd.underlying48) ?_
          simp only [putT, List.set]
          refine any_step [10] (by kernel_rfl) rfl (any_one ?_)
          refine any_opL 10 (by rfl) ?_
          simp only [List.take, List.drop]
          refine wpL_chunk 1 (by rfl) (fun Lk hLk => ?_)
          simp only [List.take, List.drop]
          refine wpV_load1 (v := .slice ap q c1) (by rfl) rfl rfl (range_one (range_sub (M.r 1 0 rfl rfl) 1 1 1 (xs := [.slice ap q c1]) rfl rfl)) (M.lt 1 rfl) Tryd.underlying48 rfl ?_
          simp only [putT, List.set]
          refine wpV_nil (hLk _ (fun w146 Sw146 => ?_))
          clear hLk Lk
          simp only [List.take, List.drop]
          replace M := M.sees Sw146
          refine wpL_nil (then_normal ?_)
          refine any_first 11 (v := .int .i64 ((q : Nat) : Int)) (by rfl) (by kernel_rfl) nopanic_not (by rfl) (by exact yl_lenA (n := q) rfl rfl rfl Tryd.underlying48) ?_
          simp only [putT, List.set]
          refine any_first 18 (v := .slice ap q q) (by rfl) (by kernel_rfl) nopanic_not (by rfl) (by exact yl_slcHM (hi := q) (m := q) rfl rfl rfl rfl Tryd.underlying48 info9 (Nat.le_refl _) hq2) ?_
          simp only [putT, List.set]
          refine any_step [21] (by kernel_rfl) rfl (any_one ?_)
          refine any_opL 21 (by rfl) ?_
          simp only [List.take, List.drop]
          refine wpL_appendFA (n := q) (cap := q) (m := 1) (olds := scells ((ps.take q).take q)) (news := [.string (bs u)]) (z := .string { data := #[] }) (bytes := 16) (by rfl) (by rfl) (by rfl) (by rfl) Tryd.underlying48 (by kernel_rfl) rfl (((((Hp.mem M).takeM hq1 hq2 hq3).row.eq (scells_take2 _ _)).takeM (Nat.le_refl _) (Nat.le_refl _) hq2).eq (scells_take2 _ _)) rfl (by omega) (by omega) (M.r 0 0 rfl rfl) (by omega) (by simp only [maxLen]; omega) (fun g147 g147c w148 Sw148 Hg147 Cg147 R T L => ?_)
          replace M := (M.sees Sw148).addR (M.ge Hg147) (M.fresh Hg147) T R L
          clear T R L
          rw [show scells ((ps.take q).take q) ++ [.string (bs u)] = scells (addP m ps s0) from by rw [← hA, List.take_take, Nat.min_self]; exact scells_app _ [u]] at M
          rw [show q + 1 = (addP m ps s0).length by rw [← hA, List.length_append, hqt]; rfl] at Cg147
          rw [show q + 1 = (addP m ps s0).length by rw [← hA, List.length_append, hqt]; rfl]
          simp only [putT, List.set]
          refine wpL_nil (then_normal ?_)
          refine any_first 22 (v := .pointer (some ⟨g, 0, none⟩)) (by rfl) (by kernel_rfl) nopanic_not (by rfl) (by exact yl_nilCheck rfl rfl) ?_
          simp only [putT, List.set]
          refine any_first 23 (v := .pointer (some ⟨g, 0, none⟩)) (by rfl) (by kernel_rfl) nopanic_not (by rfl) (fun W => by (go_simp; exact rfl)) ?_
          simp only [putT, List.set]
          refine any_first 24 (v := .pointer (some ⟨g, 1, none⟩)) (by rfl) (by kernel_rfl) nopanic_not (by rfl) (fun W => by (go_simp; exact rfl)) ?_
          simp only [putT, List.set]
          refine any_step [25] (by kernel_rfl) rfl (any_one ?_)
          refine any_opL 25 (by rfl) ?_
          simp only [List.take, List.drop]
          refine wpL_store1 (g := g) (off := 1) (n := 2) (v := .slice (some ⟨g147, 0, none⟩) ((addP m ps s0).length) g147c) (by rfl) (by rfl) (by rfl) (by rfl) (by rfl) (M.t 2 rfl) (by decide) info48 rfl (fun w149 P R T => ?_)
          replace M := M.put1 (j := 1) 2 rfl P R T rfl
          simp only [List.set] at M
          refine wpL_nil (then_normal ?_)
          refine any_end (by kernel_rfl) (no_panic ?_)
          exact HK13 g137 g147 g147c _ Cg147 M
      · skip
        refine any_opL 10 (by rfl) ?_
        simp only [List.take, List.drop]
        refine wpL_chunk 1 (by rfl) (fun Lk hLk => ?_)
        simp only [List.take, List.drop]
        refine wpV_load1 (v := .slice ap q c1) (by rfl) rfl rfl (range_one (range_sub (M.r 1 0 rfl rfl) 1 1 1 (xs := [.slice ap q c1]) rfl rfl)) (M.lt 1 rfl) Tryd.underlying48 rfl ?_
        simp only [putT, List.set]
        refine wpV_nil (hLk _ (fun w150 Sw150 => ?_))
        clear hLk Lk
        simp only [List.take, List.drop]
        replace M := M.sees Sw150
        refine wpL_nil (then_normal ?_)
        refine any_first 11 (v := .int .i64 ((q : Nat) : Int)) (by rfl) (by kernel_rfl) nopanic_not (by rfl) (by exact yl_lenA (n := q) rfl rfl rfl Tryd.underlying48) ?_
        simp only [putT, List.set]
        refine any_step [5, 16] (by kernel_rfl) rfl (any_two ?_ (any_one ?_))
        · skip
          refine any_opL 5 (by rfl) ?_
          simp only [List.take, List.drop]
          refine wpL_chunk 1 (by rfl) (fun Lk hLk => ?_)
          simp only [List.take, List.drop]
          refine wpV_load1 (v := .slice ap q c1) (by rfl) rfl rfl (range_one (range_sub (M.r 1 0 rfl rfl) 1 1 1 (xs := [.slice ap q c1]) rfl rfl)) (M.lt 1 rfl) Tryd.underlying48 rfl ?_
          simp only [putT, List.set]
          refine wpV_nil (hLk _ (fun w151 Sw151 => ?_))
          clear hLk Lk
          simp only [List.take, List.drop]
          replace M := M.sees Sw151
          refine wpL_nil (then_normal ?_)
          refine any_step [16] (by kernel_rfl) rfl (any_one ?_)
          refine any_opL 16 (by rfl) ?_
          simp only [List.take, List.drop]
          refine wpL_chunk 1 (by rfl) (fun Lk hLk => ?_)
          simp only [List.take, List.drop]
          refine wpV_load1 (v := .slice ap q c1) (by rfl) rfl rfl (range_one (range_sub (M.r 1 0 rfl rfl) 1 1 1 (xs := [.slice ap q c1]) rfl rfl)) (M.lt 1 rfl) Tryd.underlying48 rfl ?_
          simp only [putT, List.set]
          refine wpV_nil (hLk _ (fun w152 Sw152 => ?_))
          clear hLk Lk
          simp only [List.take, List.drop]
          replace M := M.sees Sw152
          refine wpL_nil (then_normal ?_)
          refine any_first 17 (v := .int .i64 ((q : Nat) : Int)) (by rfl) (by kernel_rfl) nopanic_not (by rfl) (by exact yl_lenA (n := q) rfl rfl rfl Tryd.underlying48) ?_
          simp only [putT, List.set]
          refine any_first 18 (v := .slice ap q q) (by rfl) (by kernel_rfl) nopanic_not (by rfl) (by exact yl_slcHM (hi := q) (m := q) rfl rfl rfl rfl Tryd.underlying48 info9 (Nat.le_refl _) hq2) ?_
          simp only [putT, List.set]
          refine any_step [21] (by kernel_rfl) rfl (any_one ?_)
          refine any_opL 21 (by rfl) ?_
          simp only [List.take, List.drop]
          refine wpL_appendFA (n := q) (cap := q) (m := 1) (olds := scells ((ps.take q).take q)) (news := [.string (bs u)]) (z := .string { data := #[] }) (bytes := 16) (by rfl) (by rfl) (by rfl) (by rfl) Tryd.underlying48 (by kernel_rfl) rfl (((((Hp.mem M).takeM hq1 hq2 hq3).row.eq (scells_take2 _ _)).takeM (Nat.le_refl _) (Nat.le_refl _) hq2).eq (scells_take2 _ _)) rfl (by omega) (by omega) (M.r 0 0 rfl rfl) (by omega) (by simp only [maxLen]; omega) (fun g153 g153c w154 Sw154 Hg153 Cg153 R T L => ?_)
          replace M := (M.sees Sw154).addR (M.ge Hg153) (M.fresh Hg153) T R L
          clear T R L
          rw [show scells ((ps.take q).take q) ++ [.string (bs u)] = scells (addP m ps s0) from by rw [← hA, List.take_take, Nat.min_self]; exact scells_app _ [u]] at M
          rw [show q + 1 = (addP m ps s0).length by rw [← hA, List.length_append, hqt]; rfl] at Cg153
          rw [show q + 1 = (addP m ps s0).length by rw [← hA, List.length_append, hqt]; rfl]
          simp only [putT, List.set]
          refine wpL_nil (then_normal ?_)
          refine any_first 22 (v := .pointer (some ⟨g, 0, none⟩)) (by rfl) (by kernel_rfl) nopanic_not (by rfl) (by exact yl_nilCheck rfl rfl) ?_
          simp only [putT, List.set]
          refine any_first 23 (v := .pointer (some ⟨g, 0, none⟩)) (by rfl) (by kernel_rfl) nopanic_not (by rfl) (fun W => by (go_simp; exact rfl)) ?_
          simp only [putT, List.set]
          refine any_first 24 (v := .pointer (some ⟨g, 1, none⟩)) (by rfl) (by kernel_rfl) nopanic_not (by rfl) (fun W => by (go_simp; exact rfl)) ?_
          simp only [putT, List.set]
          refine any_step [25] (by kernel_rfl) rfl (any_one ?_)
          refine any_opL 25 (by rfl) ?_
          simp only [List.take, List.drop]
          refine wpL_store1 (g := g) (off := 1) (n := 2) (v := .slice (some ⟨g153, 0, none⟩) ((addP m ps s0).length) g153c) (by rfl) (by rfl) (by rfl) (by rfl) (by rfl) (M.t 2 rfl) (by decide) info48 rfl (fun w155 P R T => ?_)
          replace M := M.put1 (j := 1) 2 rfl P R T rfl
          simp only [List.set] at M
          refine wpL_nil (then_normal ?_)
          refine any_end (by kernel_rfl) (no_panic ?_)
          exact HK13 g137 g153 g153c _ Cg153 M
        · skip
          refine any_opL 16 (by rfl) ?_
          simp only [List.take, List.drop]
          refine wpL_chunk 1 (by rfl) (fun Lk hLk => ?_)
          simp only [List.take, List.drop]
          refine wpV_load1 (v := .slice ap q c1) (by rfl) rfl rfl (range_one (range_sub (M.r 1 0 rfl rfl) 1 1 1 (xs := [.slice ap q c1]) rfl rfl)) (M.lt 1 rfl) Tryd.underlying48 rfl ?_
          simp only [putT, List.set]
          refine wpV_nil (hLk _ (fun w156 Sw156 => ?_))
          clear hLk Lk
          simp only [List.take, List.drop]
          replace M := M.sees Sw156
          refine wpL_nil (then_normal ?_)
          refine any_first 17 (v := .int .i64 ((q : Nat) : Int)) (by rfl) (by kernel_rfl) nopanic_not (by rfl) (by exact yl_lenA (n := q) rfl rfl rfl Tryd.underlying48) ?_
          simp only [putT, List.set]
          refine any_step [5] (by kernel_rfl) rfl (any_one ?_)
          refine any_opL 5 (by rfl) ?_
          simp only [List.take, List.drop]
          refine wpL_chunk 1 (by rfl) (fun Lk hLk => ?_)
          simp only [List.take, List.drop]
          refine wpV_load1 (v := .slice ap q c1) (by rfl) rfl rfl (range_one (range_sub (M.r 1 0 rfl rfl) 1 1 1 (xs := [.slice ap q c1]) rfl rfl)) (M.lt 1 rfl) Tryd.underlying48 rfl ?_
          simp only [putT, List.set]
          refine wpV_nil (hLk _ (fun w157 Sw157 => ?_))
          clear hLk Lk
          simp only [List.take, List.drop]
          replace M := M.sees Sw157
          refine wpL_nil (then_normal ?_)
          refine any_first 18 (v := .slice ap q q) (by rfl) (by kernel_rfl) nopanic_not (by rfl) (by exact yl_slcHM (hi := q) (m := q) rfl rfl rfl rfl Tryd.underlying48 info9 (Nat.le_refl _) hq2) ?_
          simp only [putT, List.set]
          refine any_step [21] (by kernel_rfl) rfl (any_one ?_)
          refine any_opL 21 (by rfl) ?_
          simp only [List.take, List.drop]
          refine wpL_appendFA (n := q) (cap := q) (m := 1) (olds := scells ((ps.take q).take q)) (news := [.string (bs u)]) (z := .string { data := #[] }) (bytes := 16) (by rfl) (by rfl) (by rfl) (by rfl) Tryd.underlying48 (by kernel_rfl) rfl (((((Hp.mem M).takeM hq1 hq2 hq3).row.eq (scells_take2 _ _)).takeM (Nat.le_refl _) (Nat.le_refl _) hq2).eq (scells_take2 _ _)) rfl (by omega) (by omega) (M.r 0 0 rfl rfl) (by omega) (by simp only [maxLen]; omega) (fun g158 g158c w159 Sw159 Hg158 Cg158 R T L => ?_)
          replace M := (M.sees Sw159).addR (M.ge Hg158) (M.fresh Hg158) T R L
          clear T R L
          rw [show scells ((ps.take q).take q) ++ [.string (bs u)] = scells (addP m ps s0) from by rw [← hA, List.take_take, Nat.min_self]; exact scells_app _ [u]] at M
          rw [show q + 1 = (addP m ps s0).length by rw [← hA, List.length_append, hqt]; rfl] at Cg158
          rw [show q + 1 = (addP m ps s0).length by rw [← hA, List.length_append, hqt]; rfl]
          simp only [putT, List.set]
          refine wpL_nil (then_normal ?_)
          refine any_first 22 (v := .pointer (some ⟨g, 0, none⟩)) (by rfl) (by kernel_rfl) nopanic_not (by rfl) (by exact yl_nilCheck rfl rfl) ?_
          simp only [putT, List.set]
          refine any_first 23 (v := .pointer (some ⟨g, 0, none⟩)) (by rfl) (by kernel_rfl) nopanic_not (by rfl) (fun W => by (go_simp; exact rfl)) ?_
          simp only [putT, List.set]
          refine any_first 24 (v := .pointer (some ⟨g, 1, none⟩)) (by rfl) (by kernel_rfl) nopanic_not (by rfl) (fun W => by (go_simp; exact rfl)) ?_
          simp only [putT, List.set]
          refine any_step [25] (by kernel_rfl) rfl (any_one ?_)
          refine any_opL 25 (by rfl) ?_
          simp only [List.take, List.drop]
          refine wpL_store1 (g := g) (off := 1) (n := 2) (v := .slice (some ⟨g158, 0, none⟩) ((addP m ps s0).length) g158c) (by rfl) (by rfl) (by rfl) (by rfl) (by rfl) (M.t 2 rfl) (by decide) info48 rfl (fun w160 P R T => ?_)
          replace M := M.put1 (j := 1) 2 rfl P R T rfl
          simp only [List.set] at M
          refine wpL_nil (then_normal ?_)
          refine any_end (by kernel_rfl) (no_panic ?_)
          exact HK13 g137 g158 g158c _ Cg158 M
      · skip
        refine any_opL 16 (by rfl) ?_
        simp only [List.take, List.drop]
        refine wpL_chunk 1 (by rfl) (fun Lk hLk => ?_)
        simp only [List.take, List.drop]
        refine wpV_load1 (v := .slice ap q c1) (by rfl) rfl rfl (range_one (range_sub (M.r 1 0 rfl rfl) 1 1 1 (xs := [.slice ap q c1]) rfl rfl)) (M.lt 1 rfl) Tryd.underlying48 rfl ?_
        simp only [putT, List.set]
        refine wpV_nil (hLk _ (fun w161 Sw161 => ?_))
        clear hLk Lk
        simp only [List.take, List.drop]
        replace M := M.sees Sw161
        refine wpL_nil (then_normal ?_)
        refine any_first 17 (v := .int .i64 ((q : Nat) : Int)) (by rfl) (by kernel_rfl) nopanic_not (by rfl) (by exact yl_lenA (n := q) rfl rfl rfl Tryd.underlying48) ?_
        simp only [putT, List.set]
        refine any_step [5, 10] (by kernel_rfl) rfl (any_two ?_ (any_one ?_))
        · skip
          refine any_opL 5 (by rfl) ?_
          simp only [List.take, List.drop]
          refine wpL_chunk 1 (by rfl) (fun Lk hLk => ?_)
          simp only [List.take, List.drop]
          refine wpV_load1 (v := .slice ap q c1) (by rfl) rfl rfl (range_one (range_sub (M.r 1 0 rfl rfl) 1 1 1 (xs := [.slice ap q c1]) rfl rfl)) (M.lt 1 rfl) Tryd.underlying48 rfl ?_
          simp only [putT, List.set]
          refine wpV_nil (hLk _ (fun w162 Sw162 => ?_))
          clear hLk Lk
          simp only [List.take, List.drop]
          replace M := M.sees Sw162
          refine wpL_nil (then_normal ?_)
          refine any_step [10] (by kernel_rfl) rfl (any_one ?_)
          refine any_opL 10 (by rfl) ?_
          simp only [List.take, List.drop]
          refine wpL_chunk 1 (by rfl) (fun Lk hLk => ?_)
          simp only [List.take, List.drop]
          refine wpV_load1 (v := .slice ap q c1) (by rfl) rfl rfl (range_one (range_sub (M.r 1 0 rfl rfl) 1 1 1 (xs := [.slice ap q c1]) rfl rfl)) (M.lt 1 rfl) Tryd.underlying48 rfl ?_
          simp only [putT, List.set]
          refine wpV_nil (hLk _ (fun w163 Sw163 => ?_))
          clear hLk Lk
          simp only [List.take, List.drop]
          replace M := M.sees Sw163
          refine wpL_nil (then_normal ?_)
          refine any_first 11 (v := .int .i64 ((q : Nat) : Int)) (by rfl) (by kernel_rfl) nopanic_not (by rfl) (by exact yl_lenA (n := q) rfl rfl rfl Tryd.underlying48) ?_
          simp only [putT, List.set]
          refine any_first 18 (v := .slice ap q q) (by rfl) (by kernel_rfl) nopanic_not (by rfl) (by exact yl_slcHM (hi := q) (m := q) rfl rfl rfl rfl Tryd.underlying48 info9 (Nat.le_refl _) hq2) ?_
          simp only [putT, List.set]
          refine any_step [21] (by kernel_rfl) rfl (any_one ?_)
          refine any_opL 21 (by rfl) ?_
          simp only [List.take, List.drop]
          refine wpL_appendFA (n := q) (cap := q) (m := 1) (olds := scells ((ps.take q).take q)) (news := [.string (bs u)]) (z := .string { data := #[] }) (bytes := 16) (by rfl) (by rfl) (by rfl) (by rfl) Tryd.underlying48 (by kernel_rfl) rfl (((((Hp.mem M).takeM hq1 hq2 hq3).row.eq (scells_take2 _ _)).takeM (Nat.le_refl _) (Nat.le_refl _) hq2).eq (scells_take2 _ _)) rfl (by omega) (by omega) (M.r 0 0 rfl rfl) (by omega) (by simp only [maxLen]; omega) (fun g164 g164c w165 Sw165 Hg164 Cg164 R T L => ?_)
          replace M := (M.sees Sw165).addR (M.ge Hg164) (M.fresh Hg164) T R L
          clear T R L
          rw [show scells ((ps.take q).take q) ++ [.string (bs u)] = scells (addP m ps s0) from by rw [← hA, List.take_take, Nat.min_self]; exact scells_app _ [u]] at M
          rw [show q + 1 = (addP m ps s0).length by rw [← hA, List.length_append, hqt]; rfl] at Cg164
          rw [show q + 1 = (addP m ps s0).length by rw [← hA, List.length_append, hqt]; rfl]
          simp only [putT, List.set]
          refine wpL_nil (then_normal ?_)
          refine any_first 22 (v := .pointer (some ⟨g, 0, none⟩)) (by rfl) (by kernel_rfl) nopanic_not (by rfl) (by exact yl_nilCheck rfl rfl) ?_
          simp only [putT, List.set]
          refine any_first 23 (v := .pointer (some ⟨g, 0, none⟩)) (by rfl) (by kernel_rfl) nopanic_not (by rfl) (fun W => by (go_simp; exact rfl)) ?_
          simp only [putT, List.set]
          refine any_first 24 (v := .pointer (some ⟨g, 1, none⟩)) (by rfl) (by kernel_rfl) nopanic_not (by rfl) (fun W => by (go_simp; exact rfl)) ?_
          simp only [putT, List.set]
          refine any_step [25] (by kernel_rfl) rfl (any_one ?_)
          refine any_opL 25 (by rfl) ?_
          simp only [List.take, List.drop]
          refine wpL_store1 (g := g) (off := 1) (n := 2) (v := .slice (some ⟨g164, 0, none⟩) ((addP m ps s0).length) g164c) (by rfl) (by rfl) (by rfl) (by rfl) (by rfl) (M.t 2 rfl) (by decide) info48 rfl (fun w166 P R T => ?_)
          replace M := M.put1 (j := 1) 2 rfl P R T rfl
          simp only [List.set] at M
          refine wpL_nil (then_normal ?_)
          refine any_end (by kernel_rfl) (no_panic ?_)
          exact HK13 g137 g164 g164c _ Cg164 M
        · skip
          refine any_opL 10 (by rfl) ?_
          simp only [List.take, List.drop]
          refine wpL_chunk 1 (by rfl) (fun Lk hLk => ?_)
          simp only [List.take, List.drop]
          refine wpV_load1 (v := .slice ap q c1) (by rfl) rfl rfl (range_one (range_sub (M.r 1 0 rfl rfl) 1 1 1 (xs := [.slice ap q c1]) rfl rfl)) (M.lt 1 rfl) Tryd.underlying48 rfl ?_
          simp only [putT, List.set]
          refine wpV_nil (hLk _ (fun w167 Sw167 => ?_))
          clear hLk Lk
          simp only [List.take, List.drop]
          replace M := M.sees Sw167
          refine wpL_nil (then_normal ?_)
          refine any_first 11 (v := .int .i64 ((q : Nat) : Int)) (by rfl) (by kernel_rfl) nopanic_not (by rfl) (by exact yl_lenA (n := q) rfl rfl rfl Tryd.underlying48) ?_
          simp only [putT, List.set]
          refine any_step [5] (by kernel_rfl) rfl (any_one ?_)
          refine any_opL 5 (by rfl) ?_
          simp only [List.take, List.drop]
          refine wpL_chunk 1 (by rfl) (fun Lk hLk => ?_)
          simp only [List.take, List.drop]
          refine wpV_load1 (v := .slice ap q c1) (by rfl) rfl rfl (range_one (range_sub (M.r 1 0 rfl rfl) 1 1 1 (xs := [.slice ap q c1]) rfl rfl)) (M.lt 1 rfl) Tryd.underlying48 rfl ?_
          simp only [putT, List.set]
          refine wpV_nil (hLk _ (fun w168 Sw168 => ?_))
          clear hLk Lk
          simp only [List.take, List.drop]
          replace M := M.sees Sw168
          refine wpL_nil (then_normal ?_)
          refine any_first 18 (v := .slice ap q q) (by rfl) (by kernel_rfl) nopanic_not (by rfl) (by exact yl_slcHM (hi := q) (m := q) rfl rfl rfl rfl Tryd.underlying48 info9 (Nat.le_refl _) hq2) ?_
          simp only [putT, List.set]
          refine any_step [21] (by kernel_rfl) rfl (any_one ?_)
          refine any_opL 21 (by rfl) ?_
          simp only [List.take, List.drop]
          refine wpL_appendFA (n := q) (cap := q) (m := 1) (olds := scells ((ps.take q).take q)) (news := [.string (bs u)]) (z := .string { data := #[] }) (bytes := 16) (by rfl) (by rfl) (by rfl) (by rfl) Tryd.underlying48 (by kernel_rfl) rfl (((((Hp.mem M).takeM hq1 hq2 hq3).row.eq (scells_take2 _ _)).takeM (Nat.le_refl _) (Nat.le_refl _) hq2).eq (scells_take2 _ _)) rfl (by omega) (by omega) (M.r 0 0 rfl rfl) (by omega) (by simp only [maxLen]; omega) (fun g169 g169c w170 Sw170 Hg169 Cg169 R T L => ?_)
          replace M := (M.sees Sw170).addR (M.ge Hg169) (M.fresh Hg169) T R L
          clear T R L
          rw [show scells ((ps.take q).take q) ++ [.string (bs u)] = scells (addP m ps s0) from by rw [← hA, List.take_take, Nat.min_self]; exact scells_app _ [u]] at M
          rw [show q + 1 = (addP m ps s0).length by rw [← hA, List.length_append, hqt]; rfl] at Cg169
          rw [show q + 1 = (addP m ps s0).length by rw [← hA, List.length_append, hqt]; rfl]
          simp only [putT, List.set]
          refine wpL_nil (then_normal ?_)
          refine any_first 22 (v := .pointer (some ⟨g, 0, none⟩)) (by rfl) (by kernel_rfl) nopanic_not (by rfl) (by exact yl_nilCheck rfl rfl) ?_
          simp only [putT, List.set]
          refine any_first 23 (v := .pointer (some ⟨g, 0, none⟩)) (by rfl) (by kernel_rfl) nopanic_not (by rfl) (fun W => by (go_simp; exact rfl)) ?_
          simp only [putT, List.set]
          refine any_first 24 (v := .pointer (some ⟨g, 1, none⟩)) (by rfl) (by kernel_rfl) nopanic_not (by rfl) (fun W => by (go_simp; exact rfl)) ?_
          simp only [putT, List.set]
          refine any_step [25] (by kernel_rfl) rfl (any_one ?_)
          refine any_opL 25 (by rfl) ?_
          simp only [List.take, List.drop]
          refine wpL_store1 (g := g) (off := 1) (n := 2) (v := .slice (some ⟨g169, 0, none⟩) ((addP m ps s0).length) g169c) (by rfl) (by rfl) (by rfl) (by rfl) (by rfl) (M.t 2 rfl) (by decide) info48 rfl (fun w171 P R T => ?_)
          replace M := M.put1 (j := 1) 2 rfl P R T rfl
          simp only [List.set] at M
          refine wpL_nil (then_normal ?_)
          refine any_end (by kernel_rfl) (no_panic ?_)
          exact HK13 g137 g169 g169c _ Cg169 M
  · skip
    have hodd : k % 2 = 1 := of_decide_eq_true hc11
    have hq0 : 1 ≤ q := by rw [hqk, ones_odd hodd]; omega
    refine wp_cond_true rfl ?_
    refine wp_skip ?_
    refine hK7 _ _ ?_
    refine wp_seq_k (fun K172 hK172 => ?_)
    refine wp_block ?_
    refine wp_region_seq ?_
    refine wpL_move (v := .pointer (some ⟨g, 0, none⟩)) (by rfl) (by rfl) (by rfl) ?_
    simp only [putT, List.set]
    refine wpL_callM (f := 85) (args := #[.pointer (some ⟨g, 0, none⟩)]) (R := fun v9 W9 => v9 = .string (bs (lastS (ps.take q))) ∧ Mem [g] w10 W9 [⟨g, 2, [(0, [.int .i64 ((m : Nat) : Int), .slice ap (q - 1) (q - 1)])]⟩]) (by rfl) (by rfl) rfl Tryd.func85 (by kernel_rfl) (by kernel_rfl) (last_c (ps := ps.take q) (by rw [List.length_take]; omega) (by rw [List.length_take]; omega) (((Hp.mem M).takeM hq1 hq2 hq3).eq (scells_take2 _ _)) (M.one 0 rfl)) (fun v9 w174 h9 => ?_)
    obtain ⟨rfl, M9⟩ := h9
    replace M := M.callM1 0 rfl M9
    simp only [List.set] at M
    simp only [putT, List.set]
    refine wpL_move (v := .string (bs u)) (by rfl) (by rfl) (by rfl) ?_
    simp only [putT, List.set]
    refine wpL_chunk 1 (by rfl) (fun Lk hLk => ?_)
    simp only [List.take, List.drop]
    refine wpV_callf (v := .string (bs (nodeS (lastS (ps.take q)) u))) (args := #[.string (bs (lastS (ps.take q))), .string (bs u)]) (by rfl) rfl Tryd.func40 (by kernel_rfl) (by kernel_rfl) rfl (fun W hW => node_c (a := lastS (ps.take q)) (b := u) (by rw [last_len h32 hq0 hq1]; decide) (by rw [hul]; decide) ((M.sees hW).oldL L0) ((M.sees hW).oldG R0_0 L0 (by simpa using Ne.symm hg0))) ?_
    simp only [putT, List.set]
    refine wpV_nil (hLk _ (fun w175 Sw175 => ?_))
    clear hLk Lk
    simp only [List.take, List.drop]
    replace M := M.sees Sw175
    refine wpL_assign (v := .string (bs (nodeS (lastS (ps.take q)) u))) (by rfl) (by rfl) (by rfl) ?_
    simp only [putT, List.set]
    refine wpL_nil (no_panic ?_)
    refine hK172 _ _ ?_
    refine wp_region_seq ?_
    refine wpL_move (v := .int .i64 ((k : Nat) : Int)) (by rfl) (by rfl) (by rfl) ?_
    simp only [putT, List.set]
    refine wpL_chunk 1 (by rfl) (fun Lk hLk => ?_)
    simp only [List.take, List.drop]
    refine wpV_bin (v := .int .i64 ((k / 2 ^ 1 : Nat) : Int)) (by rfl) rfl rfl rfl (fun W => run_shr (n := 1) (by decide) rfl W) ?_
    simp only [putT, List.set]
    refine wpV_nil (hLk _ (fun w177 Sw177 => ?_))
    clear hLk Lk
    simp only [List.take, List.drop]
    replace M := M.sees Sw177
    refine wpL_assign (v := .int .i64 ((k / 2 ^ 1 : Nat) : Int)) (by rfl) (by rfl) (by rfl) ?_
    simp only [putT, List.set]
    refine wpL_nil (no_panic ?_)
    refine Exists.intro _ ⟨?_, (k / 2 ^ 1), (nodeS (lastS (ps.take q)) u), (q - 1), (q - 1), (fun q9 => (#[undef, undef, undef, undef, undef, undef, undef, undef, undef, undef, .int .i64 ((k : Nat) : Int), .int .i64 ((k % 2 : Nat) : Int), .bool true, .int .i64 ((k : Nat) : Int), .int .i64 ((k / 2 ^ 1 : Nat) : Int), .pointer (some ⟨g, 0, none⟩), .string (bs (lastS (ps.take q))), .string (bs u), .string (bs (nodeS (lastS (ps.take q)) u))] : Array Value).getD q9 undef), rfl, rfl, M, (by omega), (by show q - 1 = ones (k / 2); rw [hqk, ones_odd hodd]; omega), (by omega), (Nat.le_refl _), (by omega), (addP_go hodd hq1 hA), (nodeS_len _ _)⟩
    omega
end Go.Proofs.Yb

