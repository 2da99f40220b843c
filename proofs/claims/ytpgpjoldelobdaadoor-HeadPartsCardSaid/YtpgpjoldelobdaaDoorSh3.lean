import Derived.WalkKit
import Derived.WalkSpells
import Derived.Laws.Pointers
import Derived.RowKit3
import Derived.Below
import Derived.Outline
import Derived.LoopN
import Derived.Lib.Hide
import Derived.Handy
import Derived.Laws.Bits64b
import Derived.Test.YtpgpjoldelobdaaDoorOcC
import Derived.Test.YtpgpjoldelobdaaDoorHeadA
import Derived.Test.YtpgpjoldelobdaaDoorBld
import Derived.Test.YtpgpjoldelobdaaDoorShq
set_option linter.unusedSimpArgs false
set_option linter.unusedVariables false
namespace Go.Proofs.Yc
open Go Go.RowKit Go.Proofs.Num
open Tryd renaming underlying3 → U93, underlying9 → U99
open Go.Proofs.Num  renaming putT → Z0
open List renaming set → Z6, take → Z7, drop → Z8
open Go renaming wp_seq_k → Z10, wp_cond_true → Z11, wp_cond_false → Z12
open Go.Proofs.Num renaming wp_region_seq → Z13, wpV_nil → Z19, wpL_var → Z36
attribute [local irreducible] wpV wpN wpList
open Go.Proofs.Ya
set_option maxHeartbeats 2000000 in
theorem hright_c {z t : Int} {r g : List UInt8} {w : World}  :
  Calls Tryd.prog 27 #[.agg ([.int .i64 z, .string (bs r), .int .i64 t, .string (bs g)]).toArray] w fun e w' => e = .returned (.bool (rightH z r t g)) ∧ Below w.heap.size w w' := by
 go_enter Tryd.func27, Tryd.ntmps27
 have M := Mem.start w
 refine Z10 (fun K1 hK1 => Z13 ?_)
 refine Z36 (t := 33) (cs := [.int .i64 z, .string (bs r), .int .i64 t, .string (bs g)]) (by rfl) (fun W => ?_) (fun g3 w4 Sw4 Hg3 Bg3 => ?_)
 ·
  (first | rfl | go_simp)
 replace M := ((M.sees Sw4).addS (N := 4) (cs := [.int .i64 z, .string (bs r), .int .i64 t, .string (bs g)]) (segs := [(0, [.int .i64 z]), (1, [.string (bs r)]), (2, [.int .i64 t]), (3, [.string (bs g)])]) (M.ge Hg3) (M.fresh Hg3) Bg3 rfl ⟨rfl, rfl, rfl, rfl, trivial⟩)
 clear Bg3
 simp only [Z0, Z6]
 refine lAs (v := .bool false) ?_
 simp only [Z0, Z6]
 refine lNp (hK1 _ _ ?_)
 refine Z10 (fun K5 hK5 => ?_)
 cases hg6 : (decide (0 ≤ z))
 ·
  have q7 : ¬ (0 ≤ z) := of_decide_eq_false hg6
  refine Z13 ?_
  refine lCh 30 (fun Lk hLk => ?_)
  refine vGo (v := .pointer (some ⟨g3, 0, none⟩)) ?_
  simp only [Z0, Z6]
  refine vL1 (v := .int .i64 z) (range_one (M.r 0 0 rfl rfl)) (M.lt 0 rfl) U93 ?_
  simp only [Z0, Z6]
  refine vBn (v := .bool false) (hr := fun W => (run_geq _ _ _ _ W).trans (by rw [hg6])) ?_
  simp only [Z0, Z6]
  refine vMv (v := .bool false) ?_
  simp only [Z0, Z6]
  refine vSk ?_
  simp only [Z0, Z6]
  refine vSk ?_
  simp only [Z0, Z6]
  refine vSk ?_
  simp only [Z0, Z6]
  refine vPk (v := .bool false) ?_
  simp only [Z0, Z6]
  refine vMv (v := .bool false) ?_
  simp only [Z0, Z6]
  refine vSk ?_
  simp only [Z0, Z6]
  refine vSk ?_
  simp only [Z0, Z6]
  refine vSk ?_
  simp only [Z0, Z6]
  refine vPk (v := .bool false) ?_
  simp only [Z0, Z6]
  refine vMv (v := .bool false) ?_
  simp only [Z0, Z6]
  refine vSk ?_
  simp only [Z0, Z6]
  refine vSk ?_
  simp only [Z0, Z6]
  refine vSk ?_
  simp only [Z0, Z6]
  refine vPk (v := .bool false) ?_
  simp only [Z0, Z6]
  refine vMv (v := .bool false) ?_
  simp only [Z0, Z6]
  refine vSk ?_
  simp only [Z0, Z6]
  refine vSk ?_
  simp only [Z0, Z6]
  refine vSk ?_
  simp only [Z0, Z6]
  refine vSk ?_
  simp only [Z0, Z6]
  refine vPk (v := .bool false) ?_
  simp only [Z0, Z6]
  refine vMv (v := .bool false) ?_
  simp only [Z0, Z6]
  refine vSk ?_
  simp only [Z0, Z6]
  refine vSk ?_
  simp only [Z0, Z6]
  refine vSk ?_
  simp only [Z0, Z6]
  refine vSk ?_
  simp only [Z0, Z6]
  refine vPk (v := .bool false) ?_
  simp only [Z0, Z6]
  refine Z19 (hLk _ (fun w9 Sw9 => ?_))
  simp only [Z7, Z8]
  replace M := M.sees Sw9
  refine lAs (v := .bool false) ?_
  simp only [Z0, Z6]
  refine lNp (hK5 _ _ ?_)
  refine wp_ret ?_
  repeat (first | with_reducible refine then_ret ?_ | with_reducible refine inblock_ret ?_)
  refine bodyPost_ret (v := .bool false) (res1 rfl (.tmp (by rfl))) rfl ?_
  have BE := M.below
  exact ⟨by unfold rightH; (first | (simp [q7]; done) | (simp [q7]; omega)), BE⟩
 have q10 : (0 ≤ z) := of_decide_eq_true hg6
 cases hg11 : (decide (z ≤ 4096))
 ·
  have q12 : ¬ (z ≤ 4096) := of_decide_eq_false hg11
  refine Z13 ?_
  refine lCh 30 (fun Lk hLk => ?_)
  refine vGo (v := .pointer (some ⟨g3, 0, none⟩)) ?_
  simp only [Z0, Z6]
  refine vL1 (v := .int .i64 z) (range_one (M.r 0 0 rfl rfl)) (M.lt 0 rfl) U93 ?_
  simp only [Z0, Z6]
  refine vBn (v := .bool true) (hr := fun W => (run_geq _ _ _ _ W).trans (by rw [hg6])) ?_
  simp only [Z0, Z6]
  refine vMv (v := .bool true) ?_
  simp only [Z0, Z6]
  refine vGo (v := .pointer (some ⟨g3, 0, none⟩)) ?_
  simp only [Z0, Z6]
  refine vL1 (v := .int .i64 z) (range_one (M.r 0 0 rfl rfl)) (M.lt 0 rfl) U93 ?_
  simp only [Z0, Z6]
  refine vBn (v := .bool false) (hr := fun W => (run_leq _ _ _ _ W).trans (by rw [hg11])) ?_
  simp only [Z0, Z6]
  refine vPk (v := .bool false) ?_
  simp only [Z0, Z6]
  refine vMv (v := .bool false) ?_
  simp only [Z0, Z6]
  refine vSk ?_
  simp only [Z0, Z6]
  refine vSk ?_
  simp only [Z0, Z6]
  refine vSk ?_
  simp only [Z0, Z6]
  refine vPk (v := .bool false) ?_
  simp only [Z0, Z6]
  refine vMv (v := .bool false) ?_
  simp only [Z0, Z6]
  refine vSk ?_
  simp only [Z0, Z6]
  refine vSk ?_
  simp only [Z0, Z6]
  refine vSk ?_
  simp only [Z0, Z6]
  refine vPk (v := .bool false) ?_
  simp only [Z0, Z6]
  refine vMv (v := .bool false) ?_
  simp only [Z0, Z6]
  refine vSk ?_
  simp only [Z0, Z6]
  refine vSk ?_
  simp only [Z0, Z6]
  refine vSk ?_
  simp only [Z0, Z6]
  refine vSk ?_
  simp only [Z0, Z6]
  refine vPk (v := .bool false) ?_
  simp only [Z0, Z6]
  refine vMv (v := .bool false) ?_
  simp only [Z0, Z6]
  refine vSk ?_
  simp only [Z0, Z6]
  refine vSk ?_
  simp only [Z0, Z6]
  refine vSk ?_
  simp only [Z0, Z6]
  refine vSk ?_
  simp only [Z0, Z6]
  refine vPk (v := .bool false) ?_
  simp only [Z0, Z6]
  refine Z19 (hLk _ (fun w14 Sw14 => ?_))
  simp only [Z7, Z8]
  replace M := M.sees Sw14
  refine lAs (v := .bool false) ?_
  simp only [Z0, Z6]
  refine lNp (hK5 _ _ ?_)
  refine wp_ret ?_
  repeat (first | with_reducible refine then_ret ?_ | with_reducible refine inblock_ret ?_)
  refine bodyPost_ret (v := .bool false) (res1 rfl (.tmp (by rfl))) rfl ?_
  have BE := M.below
  exact ⟨by unfold rightH; (first | (simp [q10, q12]; done) | (simp [q10, q12]; omega)), BE⟩
 have q15 : (z ≤ 4096) := of_decide_eq_true hg11
 cases hg16 : (decide (0 ≤ t))
 ·
  have q17 : ¬ (0 ≤ t) := of_decide_eq_false hg16
  refine Z13 ?_
  refine lCh 30 (fun Lk hLk => ?_)
  refine vGo (v := .pointer (some ⟨g3, 0, none⟩)) ?_
  simp only [Z0, Z6]
  refine vL1 (v := .int .i64 z) (range_one (M.r 0 0 rfl rfl)) (M.lt 0 rfl) U93 ?_
  simp only [Z0, Z6]
  refine vBn (v := .bool true) (hr := fun W => (run_geq _ _ _ _ W).trans (by rw [hg6])) ?_
  simp only [Z0, Z6]
  refine vMv (v := .bool true) ?_
  simp only [Z0, Z6]
  refine vGo (v := .pointer (some ⟨g3, 0, none⟩)) ?_
  simp only [Z0, Z6]
  refine vL1 (v := .int .i64 z) (range_one (M.r 0 0 rfl rfl)) (M.lt 0 rfl) U93 ?_
  simp only [Z0, Z6]
  refine vBn (v := .bool true) (hr := fun W => (run_leq _ _ _ _ W).trans (by rw [hg11])) ?_
  simp only [Z0, Z6]
  refine vPk (v := .bool true) ?_
  simp only [Z0, Z6]
  refine vMv (v := .bool true) ?_
  simp only [Z0, Z6]
  refine vGo (v := .pointer (some ⟨g3, 2, none⟩)) ?_
  simp only [Z0, Z6]
  refine vL1 (v := .int .i64 t) (range_one (M.r 0 2 rfl rfl)) (M.lt 0 rfl) U93 ?_
  simp only [Z0, Z6]
  refine vBn (v := .bool false) (hr := fun W => (run_geq _ _ _ _ W).trans (by rw [hg16])) ?_
  simp only [Z0, Z6]
  refine vPk (v := .bool false) ?_
  simp only [Z0, Z6]
  refine vMv (v := .bool false) ?_
  simp only [Z0, Z6]
  refine vSk ?_
  simp only [Z0, Z6]
  refine vSk ?_
  simp only [Z0, Z6]
  refine vSk ?_
  simp only [Z0, Z6]
  refine vPk (v := .bool false) ?_
  simp only [Z0, Z6]
  refine vMv (v := .bool false) ?_
  simp only [Z0, Z6]
  refine vSk ?_
  simp only [Z0, Z6]
  refine vSk ?_
  simp only [Z0, Z6]
  refine vSk ?_
  simp only [Z0, Z6]
  refine vSk ?_
  simp only [Z0, Z6]
  refine vPk (v := .bool false) ?_
  simp only [Z0, Z6]
  refine vMv (v := .bool false) ?_
  simp only [Z0, Z6]
  refine vSk ?_
  simp only [Z0, Z6]
  refine vSk ?_
  simp only [Z0, Z6]
  refine vSk ?_
  simp only [Z0, Z6]
  refine vSk ?_
  simp only [Z0, Z6]
  refine vPk (v := .bool false) ?_
  simp only [Z0, Z6]
  refine Z19 (hLk _ (fun w19 Sw19 => ?_))
  simp only [Z7, Z8]
  replace M := M.sees Sw19
  refine lAs (v := .bool false) ?_
  simp only [Z0, Z6]
  refine lNp (hK5 _ _ ?_)
  refine wp_ret ?_
  repeat (first | with_reducible refine then_ret ?_ | with_reducible refine inblock_ret ?_)
  refine bodyPost_ret (v := .bool false) (res1 rfl (.tmp (by rfl))) rfl ?_
  have BE := M.below
  exact ⟨by unfold rightH; (first | (simp [q10, q15, q17]; done) | (simp [q10, q15, q17]; omega)), BE⟩
 have q20 : (0 ≤ t) := of_decide_eq_true hg16
 cases hg21 : (decide (t ≤ 1099511627776))
 ·
  have q22 : ¬ (t ≤ 1099511627776) := of_decide_eq_false hg21
  refine Z13 ?_
  refine lCh 30 (fun Lk hLk => ?_)
  refine vGo (v := .pointer (some ⟨g3, 0, none⟩)) ?_
  simp only [Z0, Z6]
  refine vL1 (v := .int .i64 z) (range_one (M.r 0 0 rfl rfl)) (M.lt 0 rfl) U93 ?_
  simp only [Z0, Z6]
  refine vBn (v := .bool true) (hr := fun W => (run_geq _ _ _ _ W).trans (by rw [hg6])) ?_
  simp only [Z0, Z6]
  refine vMv (v := .bool true) ?_
  simp only [Z0, Z6]
  refine vGo (v := .pointer (some ⟨g3, 0, none⟩)) ?_
  simp only [Z0, Z6]
  refine vL1 (v := .int .i64 z) (range_one (M.r 0 0 rfl rfl)) (M.lt 0 rfl) U93 ?_
  simp only [Z0, Z6]
  refine vBn (v := .bool true) (hr := fun W => (run_leq _ _ _ _ W).trans (by rw [hg11])) ?_
  simp only [Z0, Z6]
  refine vPk (v := .bool true) ?_
  simp only [Z0, Z6]
  refine vMv (v := .bool true) ?_
  simp only [Z0, Z6]
  refine vGo (v := .pointer (some ⟨g3, 2, none⟩)) ?_
  simp only [Z0, Z6]
  refine vL1 (v := .int .i64 t) (range_one (M.r 0 2 rfl rfl)) (M.lt 0 rfl) U93 ?_
  simp only [Z0, Z6]
  refine vBn (v := .bool true) (hr := fun W => (run_geq _ _ _ _ W).trans (by rw [hg16])) ?_
  simp only [Z0, Z6]
  refine vPk (v := .bool true) ?_
  simp only [Z0, Z6]
  refine vMv (v := .bool true) ?_
  simp only [Z0, Z6]
  refine vGo (v := .pointer (some ⟨g3, 2, none⟩)) ?_
  simp only [Z0, Z6]
  refine vL1 (v := .int .i64 t) (range_one (M.r 0 2 rfl rfl)) (M.lt 0 rfl) U93 ?_
  simp only [Z0, Z6]
  refine vBn (v := .bool false) (hr := fun W => (run_leq _ _ _ _ W).trans (by rw [hg21])) ?_
  simp only [Z0, Z6]
  refine vPk (v := .bool false) ?_
  simp only [Z0, Z6]
  refine vMv (v := .bool false) ?_
  simp only [Z0, Z6]
  refine vSk ?_
  simp only [Z0, Z6]
  refine vSk ?_
  simp only [Z0, Z6]
  refine vSk ?_
  simp only [Z0, Z6]
  refine vSk ?_
  simp only [Z0, Z6]
  refine vPk (v := .bool false) ?_
  simp only [Z0, Z6]
  refine vMv (v := .bool false) ?_
  simp only [Z0, Z6]
  refine vSk ?_
  simp only [Z0, Z6]
  refine vSk ?_
  simp only [Z0, Z6]
  refine vSk ?_
  simp only [Z0, Z6]
  refine vSk ?_
  simp only [Z0, Z6]
  refine vPk (v := .bool false) ?_
  simp only [Z0, Z6]
  refine Z19 (hLk _ (fun w24 Sw24 => ?_))
  simp only [Z7, Z8]
  replace M := M.sees Sw24
  refine lAs (v := .bool false) ?_
  simp only [Z0, Z6]
  refine lNp (hK5 _ _ ?_)
  refine wp_ret ?_
  repeat (first | with_reducible refine then_ret ?_ | with_reducible refine inblock_ret ?_)
  refine bodyPost_ret (v := .bool false) (res1 rfl (.tmp (by rfl))) rfl ?_
  have BE := M.below
  exact ⟨by unfold rightH; (first | (simp [q10, q15, q20, q22]; done) | (simp [q10, q15, q20, q22]; omega)), BE⟩
 have q25 : (t ≤ 1099511627776) := of_decide_eq_true hg21
 cases hg26 : (decide (r.length = 32))
 ·
  have q27 : ¬ (r.length = 32) := of_decide_eq_false hg26
  refine Z13 ?_
  refine lCh 30 (fun Lk hLk => ?_)
  refine vGo (v := .pointer (some ⟨g3, 0, none⟩)) ?_
  simp only [Z0, Z6]
  refine vL1 (v := .int .i64 z) (range_one (M.r 0 0 rfl rfl)) (M.lt 0 rfl) U93 ?_
  simp only [Z0, Z6]
  refine vBn (v := .bool true) (hr := fun W => (run_geq _ _ _ _ W).trans (by rw [hg6])) ?_
  simp only [Z0, Z6]
  refine vMv (v := .bool true) ?_
  simp only [Z0, Z6]
  refine vGo (v := .pointer (some ⟨g3, 0, none⟩)) ?_
  simp only [Z0, Z6]
  refine vL1 (v := .int .i64 z) (range_one (M.r 0 0 rfl rfl)) (M.lt 0 rfl) U93 ?_
  simp only [Z0, Z6]
  refine vBn (v := .bool true) (hr := fun W => (run_leq _ _ _ _ W).trans (by rw [hg11])) ?_
  simp only [Z0, Z6]
  refine vPk (v := .bool true) ?_
  simp only [Z0, Z6]
  refine vMv (v := .bool true) ?_
  simp only [Z0, Z6]
  refine vGo (v := .pointer (some ⟨g3, 2, none⟩)) ?_
  simp only [Z0, Z6]
  refine vL1 (v := .int .i64 t) (range_one (M.r 0 2 rfl rfl)) (M.lt 0 rfl) U93 ?_
  simp only [Z0, Z6]
  refine vBn (v := .bool true) (hr := fun W => (run_geq _ _ _ _ W).trans (by rw [hg16])) ?_
  simp only [Z0, Z6]
  refine vPk (v := .bool true) ?_
  simp only [Z0, Z6]
  refine vMv (v := .bool true) ?_
  simp only [Z0, Z6]
  refine vGo (v := .pointer (some ⟨g3, 2, none⟩)) ?_
  simp only [Z0, Z6]
  refine vL1 (v := .int .i64 t) (range_one (M.r 0 2 rfl rfl)) (M.lt 0 rfl) U93 ?_
  simp only [Z0, Z6]
  refine vBn (v := .bool true) (hr := fun W => (run_leq _ _ _ _ W).trans (by rw [hg21])) ?_
  simp only [Z0, Z6]
  refine vPk (v := .bool true) ?_
  simp only [Z0, Z6]
  refine vMv (v := .bool true) ?_
  simp only [Z0, Z6]
  refine vGo (v := .pointer (some ⟨g3, 1, none⟩)) ?_
  simp only [Z0, Z6]
  refine vL1 (v := .string (bs r)) (range_one (M.r 0 1 rfl rfl)) (M.lt 0 rfl) U99 ?_
  simp only [Z0, Z6]
  refine wpV_lenS (by rfl) rfl rfl rfl U99 ?_
  simp only [Z0, Z6]
  refine vBn (v := .bool false) (hr := fun W => (run_eqlN r.length 32 _ _ W).trans (by rw [hg26])) ?_
  simp only [Z0, Z6]
  refine vPk (v := .bool false) ?_
  simp only [Z0, Z6]
  refine vMv (v := .bool false) ?_
  simp only [Z0, Z6]
  refine vSk ?_
  simp only [Z0, Z6]
  refine vSk ?_
  simp only [Z0, Z6]
  refine vSk ?_
  simp only [Z0, Z6]
  refine vSk ?_
  simp only [Z0, Z6]
  refine vPk (v := .bool false) ?_
  simp only [Z0, Z6]
  refine Z19 (hLk _ (fun w29 Sw29 => ?_))
  simp only [Z7, Z8]
  replace M := M.sees Sw29
  refine lAs (v := .bool false) ?_
  simp only [Z0, Z6]
  refine lNp (hK5 _ _ ?_)
  refine wp_ret ?_
  repeat (first | with_reducible refine then_ret ?_ | with_reducible refine inblock_ret ?_)
  refine bodyPost_ret (v := .bool false) (res1 rfl (.tmp (by rfl))) rfl ?_
  have BE := M.below
  exact ⟨by unfold rightH; (first | (simp [q10, q15, q20, q25, q27]; done) | (simp [q10, q15, q20, q25, q27]; omega)), BE⟩
 have q30 : (r.length = 32) := of_decide_eq_true hg26
 refine Z13 ?_
 refine lCh 30 (fun Lk hLk => ?_)
 refine vGo (v := .pointer (some ⟨g3, 0, none⟩)) ?_
 simp only [Z0, Z6]
 refine vL1 (v := .int .i64 z) (range_one (M.r 0 0 rfl rfl)) (M.lt 0 rfl) U93 ?_
 simp only [Z0, Z6]
 refine vBn (v := .bool true) (hr := fun W => (run_geq _ _ _ _ W).trans (by rw [hg6])) ?_
 simp only [Z0, Z6]
 refine vMv (v := .bool true) ?_
 simp only [Z0, Z6]
 refine vGo (v := .pointer (some ⟨g3, 0, none⟩)) ?_
 simp only [Z0, Z6]
 refine vL1 (v := .int .i64 z) (range_one (M.r 0 0 rfl rfl)) (M.lt 0 rfl) U93 ?_
 simp only [Z0, Z6]
 refine vBn (v := .bool true) (hr := fun W => (run_leq _ _ _ _ W).trans (by rw [hg11])) ?_
 simp only [Z0, Z6]
 refine vPk (v := .bool true) ?_
 simp only [Z0, Z6]
 refine vMv (v := .bool true) ?_
 simp only [Z0, Z6]
 refine vGo (v := .pointer (some ⟨g3, 2, none⟩)) ?_
 simp only [Z0, Z6]
 refine vL1 (v := .int .i64 t) (range_one (M.r 0 2 rfl rfl)) (M.lt 0 rfl) U93 ?_
 simp only [Z0, Z6]
 refine vBn (v := .bool true) (hr := fun W => (run_geq _ _ _ _ W).trans (by rw [hg16])) ?_
 simp only [Z0, Z6]
 refine vPk (v := .bool true) ?_
 simp only [Z0, Z6]
 refine vMv (v := .bool true) ?_
 simp only [Z0, Z6]
 refine vGo (v := .pointer (some ⟨g3, 2, none⟩)) ?_
 simp only [Z0, Z6]
 refine vL1 (v := .int .i64 t) (range_one (M.r 0 2 rfl rfl)) (M.lt 0 rfl) U93 ?_
 simp only [Z0, Z6]
 refine vBn (v := .bool true) (hr := fun W => (run_leq _ _ _ _ W).trans (by rw [hg21])) ?_
 simp only [Z0, Z6]
 refine vPk (v := .bool true) ?_
 simp only [Z0, Z6]
 refine vMv (v := .bool true) ?_
 simp only [Z0, Z6]
 refine vGo (v := .pointer (some ⟨g3, 1, none⟩)) ?_
 simp only [Z0, Z6]
 refine vL1 (v := .string (bs r)) (range_one (M.r 0 1 rfl rfl)) (M.lt 0 rfl) U99 ?_
 simp only [Z0, Z6]
 refine wpV_lenS (by rfl) rfl rfl rfl U99 ?_
 simp only [Z0, Z6]
 refine vBn (v := .bool true) (hr := fun W => (run_eqlN r.length 32 _ _ W).trans (by rw [hg26])) ?_
 simp only [Z0, Z6]
 refine vPk (v := .bool true) ?_
 simp only [Z0, Z6]
 refine vMv (v := .bool true) ?_
 simp only [Z0, Z6]
 refine vGo (v := .pointer (some ⟨g3, 3, none⟩)) ?_
 simp only [Z0, Z6]
 refine vL1 (v := .string (bs g)) (range_one (M.r 0 3 rfl rfl)) (M.lt 0 rfl) U99 ?_
 simp only [Z0, Z6]
 refine wpV_lenS (by rfl) rfl rfl rfl U99 ?_
 simp only [Z0, Z6]
 refine vBn (v := .bool (decide (g.length = 64))) (hr := fun W => run_eqlN g.length 64 _ _ W) ?_
 simp only [Z0, Z6]
 refine vPk (v := .bool (decide (g.length = 64))) ?_
 simp only [Z0, Z6]
 refine Z19 (hLk _ (fun w32 Sw32 => ?_))
 simp only [Z7, Z8]
 replace M := M.sees Sw32
 refine lAs (v := .bool (decide (g.length = 64))) ?_
 simp only [Z0, Z6]
 refine lNp (hK5 _ _ ?_)
 refine wp_ret ?_
 repeat (first | with_reducible refine then_ret ?_ | with_reducible refine inblock_ret ?_)
 refine bodyPost_ret (v := .bool (decide (g.length = 64))) (res1 rfl (.tmp (by rfl))) rfl ?_
 have BE := M.below
 exact ⟨by unfold rightH; (first | (simp [q10, q15, q20, q25, q30]; done) | (simp [q10, q15, q20, q25, q30]; omega)), BE⟩
set_option maxHeartbeats 2000000 in
theorem rhright_c {z t : Int} {r g : List UInt8} {w : World}  :
  Calls Tryd.prog 23 #[.agg ([.int .i64 z, .string (bs r), .int .i64 t, .string (bs g)]).toArray] w fun e w' => e = .returned (.bool (rightH z r t g)) ∧ Below w.heap.size w w' := by
 go_enter Tryd.func23, Tryd.ntmps23
 have M := Mem.start w
 refine Z10 (fun K1 hK1 => Z13 ?_)
 refine Z36 (t := 33) (cs := [.int .i64 z, .string (bs r), .int .i64 t, .string (bs g)]) (by rfl) (fun W => ?_) (fun g3 w4 Sw4 Hg3 Bg3 => ?_)
 ·
  (first | rfl | go_simp)
 replace M := ((M.sees Sw4).addS (N := 4) (cs := [.int .i64 z, .string (bs r), .int .i64 t, .string (bs g)]) (segs := [(0, [.int .i64 z]), (1, [.string (bs r)]), (2, [.int .i64 t]), (3, [.string (bs g)])]) (M.ge Hg3) (M.fresh Hg3) Bg3 rfl ⟨rfl, rfl, rfl, rfl, trivial⟩)
 clear Bg3
 simp only [Z0, Z6]
 refine lAs (v := .bool false) ?_
 simp only [Z0, Z6]
 refine lNp (hK1 _ _ ?_)
 refine Z10 (fun K5 hK5 => ?_)
 refine Z10 (fun K6 hK6 => ?_)
 cases hg7 : (decide (z < 0))
 ·
  have q8 : ¬ (z < 0) := of_decide_eq_false hg7
  cases hg9 : (decide (4096 < z))
  ·
   have q10 : ¬ (4096 < z) := of_decide_eq_false hg9
   cases hg11 : (decide (t < 0))
   ·
    have q12 : ¬ (t < 0) := of_decide_eq_false hg11
    refine Z13 ?_
    refine lCh 18 (fun Lk hLk => ?_)
    refine vGo (v := .pointer (some ⟨g3, 0, none⟩)) ?_
    simp only [Z0, Z6]
    refine vL1 (v := .int .i64 z) (range_one (M.r 0 0 rfl rfl)) (M.lt 0 rfl) U93 ?_
    simp only [Z0, Z6]
    refine vBn (v := .bool false) (hr := fun W => (run_lss _ _ _ _ W).trans (by rw [hg7])) ?_
    simp only [Z0, Z6]
    refine vMv (v := .bool false) ?_
    simp only [Z0, Z6]
    refine vGo (v := .pointer (some ⟨g3, 0, none⟩)) ?_
    simp only [Z0, Z6]
    refine vL1 (v := .int .i64 z) (range_one (M.r 0 0 rfl rfl)) (M.lt 0 rfl) U93 ?_
    simp only [Z0, Z6]
    refine vBn (v := .bool false) (hr := fun W => (run_gtr _ _ _ _ W).trans (by rw [hg9])) ?_
    simp only [Z0, Z6]
    refine vPk (v := .bool false) ?_
    simp only [Z0, Z6]
    refine vMv (v := .bool false) ?_
    simp only [Z0, Z6]
    refine vGo (v := .pointer (some ⟨g3, 2, none⟩)) ?_
    simp only [Z0, Z6]
    refine vL1 (v := .int .i64 t) (range_one (M.r 0 2 rfl rfl)) (M.lt 0 rfl) U93 ?_
    simp only [Z0, Z6]
    refine vBn (v := .bool false) (hr := fun W => (run_lss _ _ _ _ W).trans (by rw [hg11])) ?_
    simp only [Z0, Z6]
    refine vPk (v := .bool false) ?_
    simp only [Z0, Z6]
    refine vMv (v := .bool false) ?_
    simp only [Z0, Z6]
    refine vGo (v := .pointer (some ⟨g3, 2, none⟩)) ?_
    simp only [Z0, Z6]
    refine vL1 (v := .int .i64 t) (range_one (M.r 0 2 rfl rfl)) (M.lt 0 rfl) U93 ?_
    simp only [Z0, Z6]
    refine vBn (v := .bool (decide (1099511627776 < t))) (hr := fun W => run_gtr _ _ _ _ W) ?_
    simp only [Z0, Z6]
    refine vPk (v := .bool (decide (1099511627776 < t))) ?_
    simp only [Z0, Z6]
    refine Z19 (hLk _ (fun w14 Sw14 => ?_))
    simp only [Z7, Z8]
    replace M := M.sees Sw14
    refine lNp (hK6 _ _ ?_)
    cases hc15 : (decide (1099511627776 < t))
    ·
     have q16 : ¬ (1099511627776 < t) := of_decide_eq_false hc15
     refine Z12 rfl ?_
     refine wp_skip ?_
     refine hK5 _ _ ?_
     refine Z10 (fun K17 hK17 => ?_)
     cases hg18 : (decide (r.length = 32))
     ·
      have q19 : ¬ (r.length = 32) := of_decide_eq_false hg18
      refine Z13 ?_
      refine lCh 10 (fun Lk hLk => ?_)
      refine vGo (v := .pointer (some ⟨g3, 1, none⟩)) ?_
      simp only [Z0, Z6]
      refine vL1 (v := .string (bs r)) (range_one (M.r 0 1 rfl rfl)) (M.lt 0 rfl) U99 ?_
      simp only [Z0, Z6]
      refine wpV_lenS (by rfl) rfl rfl rfl U99 ?_
      simp only [Z0, Z6]
      refine vBn (v := .bool false) (hr := fun W => (run_eqlN r.length 32 _ _ W).trans (by rw [hg18])) ?_
      simp only [Z0, Z6]
      refine vMv (v := .bool false) ?_
      simp only [Z0, Z6]
      refine vSk ?_
      simp only [Z0, Z6]
      refine vSk ?_
      simp only [Z0, Z6]
      refine vSk ?_
      simp only [Z0, Z6]
      refine vSk ?_
      simp only [Z0, Z6]
      refine vPk (v := .bool false) ?_
      simp only [Z0, Z6]
      refine Z19 (hLk _ (fun w21 Sw21 => ?_))
      simp only [Z7, Z8]
      replace M := M.sees Sw21
      refine lAs (v := .bool false) ?_
      simp only [Z0, Z6]
      refine lNp (hK17 _ _ ?_)
      refine wp_ret ?_
      repeat (first | with_reducible refine then_ret ?_ | with_reducible refine inblock_ret ?_)
      refine bodyPost_ret (v := .bool false) (res1 rfl (.tmp (by rfl))) rfl ?_
      have BE := M.below
      exact ⟨by unfold rightH; (first | (simp [q8, q10, q12, q16, q19]; done) | (simp [q8, q10, q12, q16, q19]; omega)), BE⟩
     have q22 : (r.length = 32) := of_decide_eq_true hg18
     refine Z13 ?_
     refine lCh 10 (fun Lk hLk => ?_)
     refine vGo (v := .pointer (some ⟨g3, 1, none⟩)) ?_
     simp only [Z0, Z6]
     refine vL1 (v := .string (bs r)) (range_one (M.r 0 1 rfl rfl)) (M.lt 0 rfl) U99 ?_
     simp only [Z0, Z6]
     refine wpV_lenS (by rfl) rfl rfl rfl U99 ?_
     simp only [Z0, Z6]
     refine vBn (v := .bool true) (hr := fun W => (run_eqlN r.length 32 _ _ W).trans (by rw [hg18])) ?_
     simp only [Z0, Z6]
     refine vMv (v := .bool true) ?_
     simp only [Z0, Z6]
     refine vGo (v := .pointer (some ⟨g3, 3, none⟩)) ?_
     simp only [Z0, Z6]
     refine vL1 (v := .string (bs g)) (range_one (M.r 0 3 rfl rfl)) (M.lt 0 rfl) U99 ?_
     simp only [Z0, Z6]
     refine wpV_lenS (by rfl) rfl rfl rfl U99 ?_
     simp only [Z0, Z6]
     refine vBn (v := .bool (decide (g.length = 64))) (hr := fun W => run_eqlN g.length 64 _ _ W) ?_
     simp only [Z0, Z6]
     refine vPk (v := .bool (decide (g.length = 64))) ?_
     simp only [Z0, Z6]
     refine Z19 (hLk _ (fun w24 Sw24 => ?_))
     simp only [Z7, Z8]
     replace M := M.sees Sw24
     refine lAs (v := .bool (decide (g.length = 64))) ?_
     simp only [Z0, Z6]
     refine lNp (hK17 _ _ ?_)
     refine wp_ret ?_
     repeat (first | with_reducible refine then_ret ?_ | with_reducible refine inblock_ret ?_)
     refine bodyPost_ret (v := .bool (decide (g.length = 64))) (res1 rfl (.tmp (by rfl))) rfl ?_
     have BE := M.below
     exact ⟨by unfold rightH; (first | (simp [q8, q10, q12, q16, q22]; done) | (simp [q8, q10, q12, q16, q22]; omega)), BE⟩
    have q25 : (1099511627776 < t) := of_decide_eq_true hc15
    refine Z11 rfl ?_
    refine Z10 (fun K26 hK26 => Z13 ?_)
    refine lAs (v := .bool false) ?_
    simp only [Z0, Z6]
    refine lNp (hK26 _ _ ?_)
    refine wp_ret ?_
    repeat (first | with_reducible refine then_ret ?_ | with_reducible refine inblock_ret ?_)
    refine bodyPost_ret (v := .bool false) (res1 rfl (.tmp (by rfl))) rfl ?_
    have BE := M.below
    exact ⟨by unfold rightH; (first | (simp [q8, q10, q12, q25]; done) | (simp [q8, q10, q12, q25]; omega)), BE⟩
   have q28 : (t < 0) := of_decide_eq_true hg11
   refine Z13 ?_
   refine lCh 18 (fun Lk hLk => ?_)
   refine vGo (v := .pointer (some ⟨g3, 0, none⟩)) ?_
   simp only [Z0, Z6]
   refine vL1 (v := .int .i64 z) (range_one (M.r 0 0 rfl rfl)) (M.lt 0 rfl) U93 ?_
   simp only [Z0, Z6]
   refine vBn (v := .bool false) (hr := fun W => (run_lss _ _ _ _ W).trans (by rw [hg7])) ?_
   simp only [Z0, Z6]
   refine vMv (v := .bool false) ?_
   simp only [Z0, Z6]
   refine vGo (v := .pointer (some ⟨g3, 0, none⟩)) ?_
   simp only [Z0, Z6]
   refine vL1 (v := .int .i64 z) (range_one (M.r 0 0 rfl rfl)) (M.lt 0 rfl) U93 ?_
   simp only [Z0, Z6]
   refine vBn (v := .bool false) (hr := fun W => (run_gtr _ _ _ _ W).trans (by rw [hg9])) ?_
   simp only [Z0, Z6]
   refine vPk (v := .bool false) ?_
   simp only [Z0, Z6]
   refine vMv (v := .bool false) ?_
   simp only [Z0, Z6]
   refine vGo (v := .pointer (some ⟨g3, 2, none⟩)) ?_
   simp only [Z0, Z6]
   refine vL1 (v := .int .i64 t) (range_one (M.r 0 2 rfl rfl)) (M.lt 0 rfl) U93 ?_
   simp only [Z0, Z6]
   refine vBn (v := .bool true) (hr := fun W => (run_lss _ _ _ _ W).trans (by rw [hg11])) ?_
   simp only [Z0, Z6]
   refine vPk (v := .bool true) ?_
   simp only [Z0, Z6]
   refine vMv (v := .bool true) ?_
   simp only [Z0, Z6]
   refine vSk ?_
   simp only [Z0, Z6]
   refine vSk ?_
   simp only [Z0, Z6]
   refine vSk ?_
   simp only [Z0, Z6]
   refine vPk (v := .bool true) ?_
   simp only [Z0, Z6]
   refine Z19 (hLk _ (fun w30 Sw30 => ?_))
   simp only [Z7, Z8]
   replace M := M.sees Sw30
   refine lNp (hK6 _ _ ?_)
   refine Z11 rfl ?_
   refine Z10 (fun K31 hK31 => Z13 ?_)
   refine lAs (v := .bool false) ?_
   simp only [Z0, Z6]
   refine lNp (hK31 _ _ ?_)
   refine wp_ret ?_
   repeat (first | with_reducible refine then_ret ?_ | with_reducible refine inblock_ret ?_)
   refine bodyPost_ret (v := .bool false) (res1 rfl (.tmp (by rfl))) rfl ?_
   have BE := M.below
   exact ⟨by unfold rightH; (first | (simp [q8, q10, q28]; done) | (simp [q8, q10, q28]; omega)), BE⟩
  have q33 : (4096 < z) := of_decide_eq_true hg9
  refine Z13 ?_
  refine lCh 18 (fun Lk hLk => ?_)
  refine vGo (v := .pointer (some ⟨g3, 0, none⟩)) ?_
  simp only [Z0, Z6]
  refine vL1 (v := .int .i64 z) (range_one (M.r 0 0 rfl rfl)) (M.lt 0 rfl) U93 ?_
  simp only [Z0, Z6]
  refine vBn (v := .bool false) (hr := fun W => (run_lss _ _ _ _ W).trans (by rw [hg7])) ?_
  simp only [Z0, Z6]
  refine vMv (v := .bool false) ?_
  simp only [Z0, Z6]
  refine vGo (v := .pointer (some ⟨g3, 0, none⟩)) ?_
  simp only [Z0, Z6]
  refine vL1 (v := .int .i64 z) (range_one (M.r 0 0 rfl rfl)) (M.lt 0 rfl) U93 ?_
  simp only [Z0, Z6]
  refine vBn (v := .bool true) (hr := fun W => (run_gtr _ _ _ _ W).trans (by rw [hg9])) ?_
  simp only [Z0, Z6]
  refine vPk (v := .bool true) ?_
  simp only [Z0, Z6]
  refine vMv (v := .bool true) ?_
  simp only [Z0, Z6]
  refine vSk ?_
  simp only [Z0, Z6]
  refine vSk ?_
  simp only [Z0, Z6]
  refine vSk ?_
  simp only [Z0, Z6]
  refine vPk (v := .bool true) ?_
  simp only [Z0, Z6]
  refine vMv (v := .bool true) ?_
  simp only [Z0, Z6]
  refine vSk ?_
  simp only [Z0, Z6]
  refine vSk ?_
  simp only [Z0, Z6]
  refine vSk ?_
  simp only [Z0, Z6]
  refine vPk (v := .bool true) ?_
  simp only [Z0, Z6]
  refine Z19 (hLk _ (fun w35 Sw35 => ?_))
  simp only [Z7, Z8]
  replace M := M.sees Sw35
  refine lNp (hK6 _ _ ?_)
  refine Z11 rfl ?_
  refine Z10 (fun K36 hK36 => Z13 ?_)
  refine lAs (v := .bool false) ?_
  simp only [Z0, Z6]
  refine lNp (hK36 _ _ ?_)
  refine wp_ret ?_
  repeat (first | with_reducible refine then_ret ?_ | with_reducible refine inblock_ret ?_)
  refine bodyPost_ret (v := .bool false) (res1 rfl (.tmp (by rfl))) rfl ?_
  have BE := M.below
  exact ⟨by unfold rightH; (first | (simp [q8, q33]; done) | (simp [q8, q33]; omega)), BE⟩
 have q38 : (z < 0) := of_decide_eq_true hg7
 refine Z13 ?_
 refine lCh 18 (fun Lk hLk => ?_)
 refine vGo (v := .pointer (some ⟨g3, 0, none⟩)) ?_
 simp only [Z0, Z6]
 refine vL1 (v := .int .i64 z) (range_one (M.r 0 0 rfl rfl)) (M.lt 0 rfl) U93 ?_
 simp only [Z0, Z6]
 refine vBn (v := .bool true) (hr := fun W => (run_lss _ _ _ _ W).trans (by rw [hg7])) ?_
 simp only [Z0, Z6]
 refine vMv (v := .bool true) ?_
 simp only [Z0, Z6]
 refine vSk ?_
 simp only [Z0, Z6]
 refine vSk ?_
 simp only [Z0, Z6]
 refine vSk ?_
 simp only [Z0, Z6]
 refine vPk (v := .bool true) ?_
 simp only [Z0, Z6]
 refine vMv (v := .bool true) ?_
 simp only [Z0, Z6]
 refine vSk ?_
 simp only [Z0, Z6]
 refine vSk ?_
 simp only [Z0, Z6]
 refine vSk ?_
 simp only [Z0, Z6]
 refine vPk (v := .bool true) ?_
 simp only [Z0, Z6]
 refine vMv (v := .bool true) ?_
 simp only [Z0, Z6]
 refine vSk ?_
 simp only [Z0, Z6]
 refine vSk ?_
 simp only [Z0, Z6]
 refine vSk ?_
 simp only [Z0, Z6]
 refine vPk (v := .bool true) ?_
 simp only [Z0, Z6]
 refine Z19 (hLk _ (fun w40 Sw40 => ?_))
 simp only [Z7, Z8]
 replace M := M.sees Sw40
 refine lNp (hK6 _ _ ?_)
 refine Z11 rfl ?_
 refine Z10 (fun K41 hK41 => Z13 ?_)
 refine lAs (v := .bool false) ?_
 simp only [Z0, Z6]
 refine lNp (hK41 _ _ ?_)
 refine wp_ret ?_
 repeat (first | with_reducible refine then_ret ?_ | with_reducible refine inblock_ret ?_)
 refine bodyPost_ret (v := .bool false) (res1 rfl (.tmp (by rfl))) rfl ?_
 have BE := M.below
 exact ⟨by unfold rightH; (first | (simp [q38]; done) | (simp [q38]; omega)), BE⟩
end Go.Proofs.Yc

namespace Go.Proofs.Yc
open Go Go.RowKit Go.Proofs.Num
open Tryd renaming func154 → G9154, underlying147 → U9147, underlying196 → U9196, underlying5 → U95, underlying9 → U99
open Go.Proofs.Num  renaming putT → Z0
open Nat renaming zero_add → Z2, mod_eq_of_lt → Z5
open List renaming set → Z6, take → Z7, drop → Z8
open Go renaming undef → Z9, wp_seq_k → Z10, wp_cond_true → Z11, wp_cond_false → Z12
open Go.Proofs.Num renaming wp_region_seq → Z13, wpL_nil → Z14, no_panic → Z15, wpV_nil → Z19, then_normal → Z22, wpV_callf → Z25, wpN_skip → Z28, wpN_nil → Z29, wpV_load1 → Z34, wpL_var → Z36
attribute [local irreducible] wpV wpN wpList
open Go.Proofs.Ya
theorem rotl_wrap {n : Nat} (h1 : 1 ≤ n) (h2 : n ≤ 31) : IntKind.u64.wrap (-((n : Nat) : Int)) = ((18446744073709551616 - n : Nat) : Int) := by
 rw [IntKind.wrap_u64]; omega
theorem rotl_and {n : Nat} (h1 : 1 ≤ n) (h2 : n ≤ 31) : bits .and .u64 ((18446744073709551616 - n : Nat) : Int) 31 = ((32 - n : Nat) : Int) := by
 have h := bits_and_u64_nat (18446744073709551616 - n) 31 (by omega) (by decide)
 refine h.trans ?_
 rw [show (31 : Nat) = 2 ^ 5 - 1 by decide, Nat.and_two_pow_sub_one_eq_mod]
 omega
theorem or8 {a b : Nat} (ha : a < 16777216) (hb : b < 256) : bits .or .u32 ((a * 256 : Nat) : Int) ((b : Nat) : Int) = ((a * 256 + b : Nat) : Int) := by
 have h1 := toNat_of (n := 32) (a := a * 256) (Nat.lt_of_lt_of_eq (by omega : a * 256 < 4294967296) (by decide))
 have h2 := toNat_of (n := 32) (a := b) (show b < 4294967296 by omega)
 have h : a * 256 + b < 2 ^ 32 := by omega
 show IntKind.wrap .u32 ((BitVec.ofInt 32 ((a * 256 : Nat) : Int) ||| BitVec.ofInt 32 ((b : Nat) : Int)).toNat : Int) = _
 rw [BitVec.toNat_or, h1, h2, show a * 256 ||| b = a * 256 + b by have := Nat.shiftLeft_add_eq_or_of_lt (i := 8) (b := b) (by omega) a; rw [Nat.shiftLeft_eq, show (2 : Nat) ^ 8 = 256 by decide] at this; exact this.symm, wrap32N, Z5 h]
set_option maxHeartbeats 1000000 in
theorem rotl_c {x n : Nat} {w : World} (hx : x < 4294967296) (hn1 : 1 ≤ n) (hn2 : n ≤ 31) :
  Calls Tryd.prog 154 #[.int .u32 x, .int .i64 (-((n : Nat) : Int))] w fun e w' => e = .returned (.int .u32 (rotr x n : Nat)) ∧ Below w.heap.size w w' := by
 go_enter G9154, Tryd.ntmps154
 have M := Mem.start w
 refine Z10 (fun K1 hK1 => Z13 ?_)
 refine lAs (v := .int .u32 0) ?_
 simp only [Z0, Z6]
 refine lNp (hK1 _ _ ?_)
 refine Z10 (fun K3 hK3 => Z13 ?_)
 refine lMv (v := .int .i64 (-((n : Nat) : Int))) ?_
 simp only [Z0, Z6]
 refine lCh 2 (fun Lk hLk => ?_)
 refine wpV_conv (d := .bool) (e := ((18446744073709551616 - n : Nat) : Int)) (by rfl) rfl rfl (run_conv_int Tryd.underlying3 Tryd.underlying99 (rotl_wrap hn1 hn2)) ?_
 simp only [Z0, Z6]
 refine vBn (v := .int .u64 (32 - n : Nat)) (hr := fun W => run_and (rotl_and hn1 hn2) W) ?_
 simp only [Z0, Z6]
 refine Z19 (hLk _ (fun w5 Sw5 => ?_))
 simp only [Z7, Z8]
 replace M := M.sees Sw5
 refine lAs (v := .int .u64 (32 - n : Nat)) ?_
 simp only [Z0, Z6]
 refine lNp (hK3 _ _ ?_)
 refine Z10 (fun K6 hK6 => Z13 ?_)
 refine lMv (v := .int .u32 x) ?_
 refine lMv (v := .int .u64 (32 - n : Nat)) ?_
 simp only [Z0, Z6]
 refine lCh 6 (fun Lk hLk => ?_)
 refine vBn (v := .int .u32 (x * 2 ^ (32 - n) % 4294967296 : Nat)) (hr := fun W => nr_shl32 (x := x) (n := 32 - n) (by omega) W) ?_
 simp only [Z0, Z6]
 refine vMv (v := .int .u32 x) ?_
 simp only [Z0, Z6]
 refine vMv (v := .int .u64 (32 - n : Nat)) ?_
 simp only [Z0, Z6]
 refine vBn (v := .int .u64 (32 - (32 - n) : Nat)) (hr := fun W => nr_sub64 (x := 32) (y := 32 - n) (by omega) (by decide) W) ?_
 simp only [Z0, Z6]
 refine vBn (v := .int .u32 (x / 2 ^ (32 - (32 - n)) : Nat)) (hr := fun W => nr_shr32 (x := x) (n := 32 - (32 - n)) (by omega) W) ?_
 simp only [Z0, Z6]
 refine vBn (v := .int .u32 (((x * 2 ^ (32 - n) % 4294967296) ||| (x / 2 ^ (32 - (32 - n))) : Nat) : Int)) (hr := fun W => nr_or32 (x := x * 2 ^ (32 - n) % 4294967296) (y := x / 2 ^ (32 - (32 - n))) (mod_lt32 _) (div_lt32 _ hx) W) ?_
 simp only [Z0, Z6]
 refine Z19 (hLk _ (fun w8 Sw8 => ?_))
 simp only [Z7, Z8]
 replace M := M.sees Sw8
 refine lAs (v := .int .u32 (((x * 2 ^ (32 - n) % 4294967296) ||| (x / 2 ^ (32 - (32 - n))) : Nat) : Int)) ?_
 simp only [Z0, Z6]
 refine lNp (hK6 _ _ ?_)
 refine wp_ret ?_
 repeat (first | with_reducible refine then_ret ?_ | with_reducible refine inblock_ret ?_)
 refine bodyPost_ret (v := .int .u32 (((x * 2 ^ (32 - n) % 4294967296) ||| (x / 2 ^ (32 - (32 - n))) : Nat) : Int)) (res1 rfl (.tmp (by rfl))) rfl ?_
 have BE := M.below
 exact ⟨by rw [show 32 - (32 - n) = n by omega, rotr_or hx (by omega)], BE⟩
set_option maxHeartbeats 1000000 in
theorem read_c {l : List UInt8} {w : World} (hl : 4 ≤ l.length) :
  Calls Tryd.prog 161 #[.string (bs l)] w fun e w' => e = .returned (.int .u32 (be4 l 0 : Nat)) ∧ Below w.heap.size w w' := by
 go_enter Tryd.func161, Tryd.ntmps161
 have M := Mem.start w
 refine Z10 (fun K1 hK1 => Z13 ?_)
 refine lAs (v := .int .u32 0) ?_
 simp only [Z0, Z6]
 refine lNp (hK1 _ _ ?_)
 refine Z10 (fun K3 hK3 => Z13 ?_)
 refine lAs (v := .int .u32 0) ?_
 simp only [Z0, Z6]
 refine lNp (hK3 _ _ ?_)
 refine Z10 (fun K5 hK5 => ?_)
 refine Z10 (fun K6 hK6 => Z13 ?_)
 refine lMv (v := .int .i64 0) ?_
 simp only [Z0, Z6]
 refine lNp (hK6 _ _ ?_)
 refine wp_block ?_
 refine wp_loop_rounds 5 ?_
 rw [rounds_succ]
 refine Z10 (fun K8 hK8 => Z13 ?_)
 refine lCh 1 (fun Lk hLk => ?_)
 refine vBn (v := .bool true) (hr := fun W => run_lss _ _ _ _ W) ?_
 simp only [Z0, Z6]
 refine Z19 (hLk _ (fun w10 Sw10 => ?_))
 simp only [Z7, Z8]
 replace M := M.sees Sw10
 refine lNp (hK8 _ _ ?_)
 refine Z10 (fun K11 hK11 => ?_)
 refine Z11 rfl ?_
 refine wp_skip ?_
 refine hK11 _ _ ?_
 refine Z10 (fun K12 hK12 => ?_)
 refine wp_block ?_
 refine Z10 (fun K13 hK13 => Z13 ?_)
 refine lMv (v := .int .i64 0) ?_
 refine lAs (v := .int .i64 0) ?_
 simp only [Z0, Z6]
 refine lNp (hK13 _ _ ?_)
 refine Z13 ?_
 refine lMv (v := .int .u32 0) ?_
 simp only [Z0, Z6]
 refine lCh 6 (fun Lk hLk => ?_)
 refine vBn (v := .int .u32 (0 * 256 : Nat)) (hr := fun W => run_shl (m := 0) (n := 8) (by decide) ((wrap32N _).trans (congrArg _ (by have := byteN_lt l 0; have := byteN_lt l 1; have := byteN_lt l 2; omega))) W) ?_
 simp only [Z0, Z6]
 refine vMv (v := .string (bs l)) ?_
 simp only [Z0, Z6]
 refine vMv (v := .int .i64 0) ?_
 simp only [Z0, Z6]
 refine wpV_indexb (n := 0) (by omega) (by rfl) rfl rfl rfl U99 ?_
 simp only [Z0, Z6]
 refine wpV_conv (d := .bool) (e := ((byteN l 0 : Nat) : Int)) (by rfl) rfl rfl (run_conv_int U95 U9147 (by have := (byteN_lt l 0); rw [wrap32N]; omega)) ?_
 simp only [Z0, Z6]
 refine vBn (v := .int .u32 (byteN l 0 : Nat)) (hr := fun W => run_or ((or8 (a := 0) (b := byteN l 0) (by decide) (byteN_lt l 0)).trans (by rw [Nat.zero_mul, Z2])) W) ?_
 simp only [Z0, Z6]
 refine Z19 (hLk _ (fun w16 Sw16 => ?_))
 simp only [Z7, Z8]
 replace M := M.sees Sw16
 refine lAs (v := .int .u32 (byteN l 0 : Nat)) ?_
 simp only [Z0, Z6]
 refine lNp (hK12 _ _ ?_)
 refine Z13 ?_
 refine lCh 1 (fun Lk hLk => ?_)
 refine vBn (v := .int .i64 1) (hr := fun W => run_add (by decide) W) ?_
 simp only [Z0, Z6]
 refine Z19 (hLk _ (fun w18 Sw18 => ?_))
 simp only [Z7, Z8]
 replace M := M.sees Sw18
 refine lMv (v := .int .i64 1) ?_
 simp only [Z0, Z6]
 refine Z14 (Z15 ?_)
 refine Z22 (Q := fun _ _ _ => True) ?_
 rw [rounds_succ]
 refine Z10 (fun K19 hK19 => Z13 ?_)
 refine lCh 1 (fun Lk hLk => ?_)
 refine vBn (v := .bool true) (hr := fun W => run_lss _ _ _ _ W) ?_
 simp only [Z0, Z6]
 refine Z19 (hLk _ (fun w21 Sw21 => ?_))
 simp only [Z7, Z8]
 replace M := M.sees Sw21
 refine lNp (hK19 _ _ ?_)
 refine Z10 (fun K22 hK22 => ?_)
 refine Z11 rfl ?_
 refine wp_skip ?_
 refine hK22 _ _ ?_
 refine Z10 (fun K23 hK23 => ?_)
 refine wp_block ?_
 refine Z10 (fun K24 hK24 => Z13 ?_)
 refine lMv (v := .int .i64 1) ?_
 refine lAs (v := .int .i64 1) ?_
 simp only [Z0, Z6]
 refine lNp (hK24 _ _ ?_)
 refine Z13 ?_
 refine lMv (v := .int .u32 (byteN l 0 : Nat)) ?_
 simp only [Z0, Z6]
 refine lCh 6 (fun Lk hLk => ?_)
 refine vBn (v := .int .u32 ((byteN l 0) * 256 : Nat)) (hr := fun W => run_shl (m := byteN l 0) (n := 8) (by decide) ((wrap32N _).trans (congrArg _ (by have := byteN_lt l 0; have := byteN_lt l 1; have := byteN_lt l 2; omega))) W) ?_
 simp only [Z0, Z6]
 refine vMv (v := .string (bs l)) ?_
 simp only [Z0, Z6]
 refine vMv (v := .int .i64 1) ?_
 simp only [Z0, Z6]
 refine wpV_indexb (n := 1) (by omega) (by rfl) rfl rfl rfl U99 ?_
 simp only [Z0, Z6]
 refine wpV_conv (d := .bool) (e := ((byteN l 1 : Nat) : Int)) (by rfl) rfl rfl (run_conv_int U95 U9147 (by have := (byteN_lt l 1); rw [wrap32N]; omega)) ?_
 simp only [Z0, Z6]
 refine vBn (v := .int .u32 (byteN l 0 * 256 + byteN l 1 : Nat)) (hr := fun W => run_or (or8 (a := byteN l 0) (b := byteN l 1) (by have := byteN_lt l 0; have := byteN_lt l 1; have := byteN_lt l 2; omega) (byteN_lt l 1)) W) ?_
 simp only [Z0, Z6]
 refine Z19 (hLk _ (fun w27 Sw27 => ?_))
 simp only [Z7, Z8]
 replace M := M.sees Sw27
 refine lAs (v := .int .u32 (byteN l 0 * 256 + byteN l 1 : Nat)) ?_
 simp only [Z0, Z6]
 refine lNp (hK23 _ _ ?_)
 refine Z13 ?_
 refine lCh 1 (fun Lk hLk => ?_)
 refine vBn (v := .int .i64 2) (hr := fun W => run_add (by decide) W) ?_
 simp only [Z0, Z6]
 refine Z19 (hLk _ (fun w29 Sw29 => ?_))
 simp only [Z7, Z8]
 replace M := M.sees Sw29
 refine lMv (v := .int .i64 2) ?_
 simp only [Z0, Z6]
 refine Z14 (Z15 ?_)
 refine Z22 (Q := fun _ _ _ => True) ?_
 rw [rounds_succ]
 refine Z10 (fun K30 hK30 => Z13 ?_)
 refine lCh 1 (fun Lk hLk => ?_)
 refine vBn (v := .bool true) (hr := fun W => run_lss _ _ _ _ W) ?_
 simp only [Z0, Z6]
 refine Z19 (hLk _ (fun w32 Sw32 => ?_))
 simp only [Z7, Z8]
 replace M := M.sees Sw32
 refine lNp (hK30 _ _ ?_)
 refine Z10 (fun K33 hK33 => ?_)
 refine Z11 rfl ?_
 refine wp_skip ?_
 refine hK33 _ _ ?_
 refine Z10 (fun K34 hK34 => ?_)
 refine wp_block ?_
 refine Z10 (fun K35 hK35 => Z13 ?_)
 refine lMv (v := .int .i64 2) ?_
 refine lAs (v := .int .i64 2) ?_
 simp only [Z0, Z6]
 refine lNp (hK35 _ _ ?_)
 refine Z13 ?_
 refine lMv (v := .int .u32 (byteN l 0 * 256 + byteN l 1 : Nat)) ?_
 simp only [Z0, Z6]
 refine lCh 6 (fun Lk hLk => ?_)
 refine vBn (v := .int .u32 ((byteN l 0 * 256 + byteN l 1) * 256 : Nat)) (hr := fun W => run_shl (m := byteN l 0 * 256 + byteN l 1) (n := 8) (by decide) ((wrap32N _).trans (congrArg _ (by have := byteN_lt l 0; have := byteN_lt l 1; have := byteN_lt l 2; omega))) W) ?_
 simp only [Z0, Z6]
 refine vMv (v := .string (bs l)) ?_
 simp only [Z0, Z6]
 refine vMv (v := .int .i64 2) ?_
 simp only [Z0, Z6]
 refine wpV_indexb (n := 2) (by omega) (by rfl) rfl rfl rfl U99 ?_
 simp only [Z0, Z6]
 refine wpV_conv (d := .bool) (e := ((byteN l 2 : Nat) : Int)) (by rfl) rfl rfl (run_conv_int U95 U9147 (by have := (byteN_lt l 2); rw [wrap32N]; omega)) ?_
 simp only [Z0, Z6]
 refine vBn (v := .int .u32 ((byteN l 0 * 256 + byteN l 1) * 256 + byteN l 2 : Nat)) (hr := fun W => run_or (or8 (a := byteN l 0 * 256 + byteN l 1) (b := byteN l 2) (by have := byteN_lt l 0; have := byteN_lt l 1; have := byteN_lt l 2; omega) (byteN_lt l 2)) W) ?_
 simp only [Z0, Z6]
 refine Z19 (hLk _ (fun w38 Sw38 => ?_))
 simp only [Z7, Z8]
 replace M := M.sees Sw38
 refine lAs (v := .int .u32 ((byteN l 0 * 256 + byteN l 1) * 256 + byteN l 2 : Nat)) ?_
 simp only [Z0, Z6]
 refine lNp (hK34 _ _ ?_)
 refine Z13 ?_
 refine lCh 1 (fun Lk hLk => ?_)
 refine vBn (v := .int .i64 3) (hr := fun W => run_add (by decide) W) ?_
 simp only [Z0, Z6]
 refine Z19 (hLk _ (fun w40 Sw40 => ?_))
 simp only [Z7, Z8]
 replace M := M.sees Sw40
 refine lMv (v := .int .i64 3) ?_
 simp only [Z0, Z6]
 refine Z14 (Z15 ?_)
 refine Z22 (Q := fun _ _ _ => True) ?_
 rw [rounds_succ]
 refine Z10 (fun K41 hK41 => Z13 ?_)
 refine lCh 1 (fun Lk hLk => ?_)
 refine vBn (v := .bool true) (hr := fun W => run_lss _ _ _ _ W) ?_
 simp only [Z0, Z6]
 refine Z19 (hLk _ (fun w43 Sw43 => ?_))
 simp only [Z7, Z8]
 replace M := M.sees Sw43
 refine lNp (hK41 _ _ ?_)
 refine Z10 (fun K44 hK44 => ?_)
 refine Z11 rfl ?_
 refine wp_skip ?_
 refine hK44 _ _ ?_
 refine Z10 (fun K45 hK45 => ?_)
 refine wp_block ?_
 refine Z10 (fun K46 hK46 => Z13 ?_)
 refine lMv (v := .int .i64 3) ?_
 refine lAs (v := .int .i64 3) ?_
 simp only [Z0, Z6]
 refine lNp (hK46 _ _ ?_)
 refine Z13 ?_
 refine lMv (v := .int .u32 ((byteN l 0 * 256 + byteN l 1) * 256 + byteN l 2 : Nat)) ?_
 simp only [Z0, Z6]
 refine lCh 6 (fun Lk hLk => ?_)
 refine vBn (v := .int .u32 (((byteN l 0 * 256 + byteN l 1) * 256 + byteN l 2) * 256 : Nat)) (hr := fun W => run_shl (m := (byteN l 0 * 256 + byteN l 1) * 256 + byteN l 2) (n := 8) (by decide) ((wrap32N _).trans (congrArg _ (by have := byteN_lt l 0; have := byteN_lt l 1; have := byteN_lt l 2; omega))) W) ?_
 simp only [Z0, Z6]
 refine vMv (v := .string (bs l)) ?_
 simp only [Z0, Z6]
 refine vMv (v := .int .i64 3) ?_
 simp only [Z0, Z6]
 refine wpV_indexb (n := 3) (by omega) (by rfl) rfl rfl rfl U99 ?_
 simp only [Z0, Z6]
 refine wpV_conv (d := .bool) (e := ((byteN l 3 : Nat) : Int)) (by rfl) rfl rfl (run_conv_int U95 U9147 (by have := (byteN_lt l 3); rw [wrap32N]; omega)) ?_
 simp only [Z0, Z6]
 refine vBn (v := .int .u32 (be4 l 0 : Nat)) (hr := fun W => run_or (or8 (a := (byteN l 0 * 256 + byteN l 1) * 256 + byteN l 2) (b := byteN l 3) (by have := byteN_lt l 0; have := byteN_lt l 1; have := byteN_lt l 2; omega) (byteN_lt l 3)) W) ?_
 simp only [Z0, Z6]
 refine Z19 (hLk _ (fun w49 Sw49 => ?_))
 simp only [Z7, Z8]
 replace M := M.sees Sw49
 refine lAs (v := .int .u32 (be4 l 0 : Nat)) ?_
 simp only [Z0, Z6]
 refine lNp (hK45 _ _ ?_)
 refine Z13 ?_
 refine lCh 1 (fun Lk hLk => ?_)
 refine vBn (v := .int .i64 4) (hr := fun W => run_add (by decide) W) ?_
 simp only [Z0, Z6]
 refine Z19 (hLk _ (fun w51 Sw51 => ?_))
 simp only [Z7, Z8]
 replace M := M.sees Sw51
 refine lMv (v := .int .i64 4) ?_
 simp only [Z0, Z6]
 refine Z14 (Z15 ?_)
 refine Z22 (Q := fun _ _ _ => True) ?_
 rw [rounds_succ]
 refine Z10 (fun K52 hK52 => Z13 ?_)
 refine lCh 1 (fun Lk hLk => ?_)
 refine vBn (v := .bool false) (hr := fun W => run_lss _ _ _ _ W) ?_
 simp only [Z0, Z6]
 refine Z19 (hLk _ (fun w54 Sw54 => ?_))
 simp only [Z7, Z8]
 replace M := M.sees Sw54
 refine lNp (hK52 _ _ ?_)
 refine Z10 (fun K55 hK55 => ?_)
 refine Z12 rfl ?_
 refine wp_exit ?_
 refine hK5 _ _ ?_
 refine Z10 (fun K56 hK56 => Z13 ?_)
 refine lMv (v := .int .u32 (be4 l 0 : Nat)) ?_
 refine lAs (v := .int .u32 (be4 l 0 : Nat)) ?_
 simp only [Z0, Z6]
 refine lNp (hK56 _ _ ?_)
 refine wp_ret ?_
 repeat (first | with_reducible refine then_ret ?_ | with_reducible refine inblock_ret ?_)
 refine bodyPost_ret (v := .int .u32 (be4 l 0 : Nat)) (res1 rfl (.tmp (by rfl))) rfl ?_
 have BE := M.below
 exact ⟨rfl, BE⟩
set_option maxHeartbeats 2000000 in
theorem spread_c {l : List UInt8} {w : World} (hl : 64 ≤ l.length) :
  Calls Tryd.prog 153 #[.string (bs l)] w fun e w' => e = .returned (.agg (wcells l 64).toArray) ∧ Below w.heap.size w w' := by
 go_enter Tryd.func153, Tryd.ntmps153
 have M := Mem.start w
 refine Z10 (fun K1 hK1 => Z13 ?_)
 refine Z36 (t := 196) (cs := [.int .u32 0, .int .u32 0, .int .u32 0, .int .u32 0, .int .u32 0, .int .u32 0, .int .u32 0, .int .u32 0, .int .u32 0, .int .u32 0, .int .u32 0, .int .u32 0, .int .u32 0, .int .u32 0, .int .u32 0, .int .u32 0, .int .u32 0, .int .u32 0, .int .u32 0, .int .u32 0, .int .u32 0, .int .u32 0, .int .u32 0, .int .u32 0, .int .u32 0, .int .u32 0, .int .u32 0, .int .u32 0, .int .u32 0, .int .u32 0, .int .u32 0, .int .u32 0, .int .u32 0, .int .u32 0, .int .u32 0, .int .u32 0, .int .u32 0, .int .u32 0, .int .u32 0, .int .u32 0, .int .u32 0, .int .u32 0, .int .u32 0, .int .u32 0, .int .u32 0, .int .u32 0, .int .u32 0, .int .u32 0, .int .u32 0, .int .u32 0, .int .u32 0, .int .u32 0, .int .u32 0, .int .u32 0, .int .u32 0, .int .u32 0, .int .u32 0, .int .u32 0, .int .u32 0, .int .u32 0, .int .u32 0, .int .u32 0, .int .u32 0, .int .u32 0]) (by rfl) (fun W => ?_) (fun g3 w4 Sw4 Hg3 Bg3 => ?_)
 ·
  go_simp
 replace M := ((M.sees Sw4).add (N := 64) (cs := [.int .u32 0, .int .u32 0, .int .u32 0, .int .u32 0, .int .u32 0, .int .u32 0, .int .u32 0, .int .u32 0, .int .u32 0, .int .u32 0, .int .u32 0, .int .u32 0, .int .u32 0, .int .u32 0, .int .u32 0, .int .u32 0, .int .u32 0, .int .u32 0, .int .u32 0, .int .u32 0, .int .u32 0, .int .u32 0, .int .u32 0, .int .u32 0, .int .u32 0, .int .u32 0, .int .u32 0, .int .u32 0, .int .u32 0, .int .u32 0, .int .u32 0, .int .u32 0, .int .u32 0, .int .u32 0, .int .u32 0, .int .u32 0, .int .u32 0, .int .u32 0, .int .u32 0, .int .u32 0, .int .u32 0, .int .u32 0, .int .u32 0, .int .u32 0, .int .u32 0, .int .u32 0, .int .u32 0, .int .u32 0, .int .u32 0, .int .u32 0, .int .u32 0, .int .u32 0, .int .u32 0, .int .u32 0, .int .u32 0, .int .u32 0, .int .u32 0, .int .u32 0, .int .u32 0, .int .u32 0, .int .u32 0, .int .u32 0, .int .u32 0, .int .u32 0]) (M.ge Hg3) (M.fresh Hg3) Bg3 rfl)
 clear Bg3
 simp only [Z0, Z6]
 refine lNp (hK1 _ _ ?_)
 refine Z10 (fun K5 hK5 => Z13 ?_)
 refine Z36 (t := 196) (cs := [.int .u32 0, .int .u32 0, .int .u32 0, .int .u32 0, .int .u32 0, .int .u32 0, .int .u32 0, .int .u32 0, .int .u32 0, .int .u32 0, .int .u32 0, .int .u32 0, .int .u32 0, .int .u32 0, .int .u32 0, .int .u32 0, .int .u32 0, .int .u32 0, .int .u32 0, .int .u32 0, .int .u32 0, .int .u32 0, .int .u32 0, .int .u32 0, .int .u32 0, .int .u32 0, .int .u32 0, .int .u32 0, .int .u32 0, .int .u32 0, .int .u32 0, .int .u32 0, .int .u32 0, .int .u32 0, .int .u32 0, .int .u32 0, .int .u32 0, .int .u32 0, .int .u32 0, .int .u32 0, .int .u32 0, .int .u32 0, .int .u32 0, .int .u32 0, .int .u32 0, .int .u32 0, .int .u32 0, .int .u32 0, .int .u32 0, .int .u32 0, .int .u32 0, .int .u32 0, .int .u32 0, .int .u32 0, .int .u32 0, .int .u32 0, .int .u32 0, .int .u32 0, .int .u32 0, .int .u32 0, .int .u32 0, .int .u32 0, .int .u32 0, .int .u32 0]) (by rfl) (fun W => ?_) (fun g7 w8 Sw8 Hg7 Bg7 => ?_)
 ·
  go_simp
 replace M := ((M.sees Sw8).add (N := 64) (cs := [.int .u32 0, .int .u32 0, .int .u32 0, .int .u32 0, .int .u32 0, .int .u32 0, .int .u32 0, .int .u32 0, .int .u32 0, .int .u32 0, .int .u32 0, .int .u32 0, .int .u32 0, .int .u32 0, .int .u32 0, .int .u32 0, .int .u32 0, .int .u32 0, .int .u32 0, .int .u32 0, .int .u32 0, .int .u32 0, .int .u32 0, .int .u32 0, .int .u32 0, .int .u32 0, .int .u32 0, .int .u32 0, .int .u32 0, .int .u32 0, .int .u32 0, .int .u32 0, .int .u32 0, .int .u32 0, .int .u32 0, .int .u32 0, .int .u32 0, .int .u32 0, .int .u32 0, .int .u32 0, .int .u32 0, .int .u32 0, .int .u32 0, .int .u32 0, .int .u32 0, .int .u32 0, .int .u32 0, .int .u32 0, .int .u32 0, .int .u32 0, .int .u32 0, .int .u32 0, .int .u32 0, .int .u32 0, .int .u32 0, .int .u32 0, .int .u32 0, .int .u32 0, .int .u32 0, .int .u32 0, .int .u32 0, .int .u32 0, .int .u32 0, .int .u32 0]) (M.ge Hg7) (M.fresh Hg7) Bg7 rfl)
 clear Bg7
 simp only [Z0, Z6]
 refine lNp (hK5 _ _ ?_)
 refine Z10 (fun K9 hK9 => ?_)
 refine Z10 (fun K10 hK10 => Z13 ?_)
 refine lMv (v := .int .i64 0) ?_
 simp only [Z0, Z6]
 refine lNp (hK10 _ _ ?_)
 refine wp_block ?_
 replace M := M.read1 (cs := wcells l 0) (o := 0) 0 rfl (by rw [wcells_zero]; exact (M.r 0 0 rfl rfl))
 simp only [Z6] at M
 refine wp_loop_ghost (fun n9 a9 W9 => ∃ (t : Nat) (u12 : Nat → Value), n9 = 64 - t ∧ a9 = { tmps := #[.string (bs l), Z9, .pointer (some ⟨g3, 0, none⟩), .pointer (some ⟨g7, 0, none⟩), u12 4, u12 5, u12 6, u12 7, u12 8, .int .i64 t, u12 10, u12 11, u12 12, u12 13, u12 14, u12 15, u12 16, u12 17, u12 18, u12 19, u12 20, u12 21, u12 22, u12 23, u12 24, u12 25, u12 26, u12 27, u12 28, u12 29, u12 30, u12 31, u12 32, u12 33, u12 34, u12 35, u12 36, u12 37, u12 38, u12 39, u12 40, u12 41, u12 42, u12 43, u12 44, u12 45, u12 46, u12 47, u12 48, u12 49, u12 50, u12 51, u12 52, u12 53, u12 54, u12 55, u12 56, u12 57, u12 58, u12 59, u12 60, Z9], defers := [] } ∧ Mem [] w W9 [⟨g7, 64, [(0, wcells l t)]⟩, ⟨g3, 64, [(0, [.int .u32 0, .int .u32 0, .int .u32 0, .int .u32 0, .int .u32 0, .int .u32 0, .int .u32 0, .int .u32 0, .int .u32 0, .int .u32 0, .int .u32 0, .int .u32 0, .int .u32 0, .int .u32 0, .int .u32 0, .int .u32 0, .int .u32 0, .int .u32 0, .int .u32 0, .int .u32 0, .int .u32 0, .int .u32 0, .int .u32 0, .int .u32 0, .int .u32 0, .int .u32 0, .int .u32 0, .int .u32 0, .int .u32 0, .int .u32 0, .int .u32 0, .int .u32 0, .int .u32 0, .int .u32 0, .int .u32 0, .int .u32 0, .int .u32 0, .int .u32 0, .int .u32 0, .int .u32 0, .int .u32 0, .int .u32 0, .int .u32 0, .int .u32 0, .int .u32 0, .int .u32 0, .int .u32 0, .int .u32 0, .int .u32 0, .int .u32 0, .int .u32 0, .int .u32 0, .int .u32 0, .int .u32 0, .int .u32 0, .int .u32 0, .int .u32 0, .int .u32 0, .int .u32 0, .int .u32 0, .int .u32 0, .int .u32 0, .int .u32 0, .int .u32 0])]⟩] ∧ (t ≤ 64)) (64 - (0)) ?_ (fun n9 a9 W9 hI => ?_)
 ·
  exact ⟨0, (fun q9 => (#[Z9, Z9, Z9, Z9, Z9, Z9, Z9, Z9, Z9, Z9, Z9, Z9, Z9, Z9, Z9, Z9, Z9, Z9, Z9, Z9, Z9, Z9, Z9, Z9, Z9, Z9, Z9, Z9, Z9, Z9, Z9, Z9, Z9, Z9, Z9, Z9, Z9, Z9, Z9, Z9, Z9, Z9, Z9, Z9, Z9, Z9, Z9, Z9, Z9, Z9, Z9, Z9, Z9, Z9, Z9, Z9, Z9, Z9, Z9, Z9, Z9] : Array Value).getD q9 Z9), rfl, rfl, M, (by omega)⟩
 clear M
 obtain ⟨t, u12, rfl, rfl, M, ht4⟩ := hI
 obtain ⟨w13, rfl⟩ : ∃ W8, W8 = W9 := ⟨_, rfl⟩
 refine Z10 (fun K14 hK14 => Z13 ?_)
 refine lCh 1 (fun Lk hLk => ?_)
 refine vBn (v := .bool (decide (t < 64))) (hr := fun W => run_lssN t 64 _ _ W) ?_
 simp only [Z0, Z6]
 refine Z19 (hLk _ (fun w16 Sw16 => ?_))
 simp only [Z7, Z8]
 replace M := M.sees Sw16
 refine lNp (hK14 _ _ ?_)
 refine Z10 (fun K17 hK17 => ?_)
 cases hc18 : (decide (t < 64))
 ·
  have et : t = 64 := by have := of_decide_eq_false hc18; omega
  subst et
  refine Z12 rfl ?_
  refine wp_exit ?_
  refine hK9 _ _ ?_
  refine Z10 (fun K19 hK19 => Z13 ?_)
  refine lCh 1 (fun Lk hLk => ?_)
  refine vLd (cs := wcells l 64) (M.r 0 0 rfl rfl) (M.lt 0 rfl) U9196 info196 ?_
  simp only [Z0, Z6]
  refine Z19 (hLk _ (fun w21 Sw21 => ?_))
  simp only [Z7, Z8]
  replace M := M.sees Sw21
  refine lSt (g := g3) (off := 0) (n := 64) (cs := wcells l 64) (M.t 1 rfl) (by rw [wcells_len]; decide) info196 (wcells_one _ _) (fun w22 P R T => ?_)
  replace M := M.putS 1 0 rfl P R T rfl ⟨.inl rfl, trivial⟩
  simp only [Z6] at M
  refine lNp (hK19 _ _ ?_)
  refine wp_ret ?_
  repeat (first | with_reducible refine then_ret ?_ | with_reducible refine inblock_ret ?_)
  refine bodyPost_ret (v := .agg (wcells l 64).toArray) (res1 rfl (.cell (by rfl) (run_loadVar_mid _ _ _ _ (wcells l 64) _ (M.r 1 0 rfl rfl) U9196 rfl info196))) rfl ?_
  have BE := M.below
  exact ⟨rfl, BE⟩
 have ht : t < 64 := of_decide_eq_true hc18
 refine Z11 rfl ?_
 refine wp_skip ?_
 refine hK17 _ _ ?_
 refine Z10 (fun K23 hK23 => ?_)
 refine wp_block ?_
 refine Z10 (fun K24 hK24 => Z13 ?_)
 refine lMv (v := .int .i64 t) ?_
 refine lAs (v := .int .i64 t) ?_
 simp only [Z0, Z6]
 refine lNp (hK24 _ _ ?_)
 refine Z10 (fun K26 hK26 => ?_)
 refine Z10 (fun K27 hK27 => Z13 ?_)
 refine lMv (v := .int .i64 t) ?_
 simp only [Z0, Z6]
 refine lCh 1 (fun Lk hLk => ?_)
 refine vBn (v := .bool (decide (t < 16))) (hr := fun W => run_lssN t 16 _ _ W) ?_
 simp only [Z0, Z6]
 refine Z19 (hLk _ (fun w29 Sw29 => ?_))
 simp only [Z7, Z8]
 replace M := M.sees Sw29
 refine lNp (hK27 _ _ ?_)
 cases hc30 : (decide (t < 16))
 ·
  have h16 : ¬ t < 16 := of_decide_eq_false hc30
  refine Z12 rfl ?_
  refine wp_skip ?_
  refine hK26 _ _ ?_
  refine Z10 (fun K31 hK31 => ?_)
  refine wp_region_grow 10 [] (by kernel_rfl) (by kernel_rfl) (by kernel_rfl) (fun Lk hLk => ?_)
  simp only [Z7, Z8]
  refine vMv (v := .int .i64 t) ?_
  simp only [Z0, Z6]
  refine vBn (v := .int .i64 (t - 15 : Nat)) (hr := fun W => run_sub (by simp only [IntKind.wrap_i64]; omega) W) ?_
  simp only [Z0, Z6]
  refine wpV_idx (n := t - 15) (by rfl) rfl rfl rfl U9196 info147 (by omega) ?_
  simp only [Z2]
  simp only [Z0, Z6]
  refine Z34 (v := .int .u32 (shW l (t - 15) : Nat)) (by rfl) rfl rfl (zadd ((M.r 0 0 rfl rfl) _ _ (wcells_at l (by omega) (by omega)))) (M.lt 0 rfl) U9147 rfl ?_
  simp only [Z0, Z6]
  refine vMv (v := .int .i64 t) ?_
  simp only [Z0, Z6]
  refine vBn (v := .int .i64 (t - 2 : Nat)) (hr := fun W => run_sub (by simp only [IntKind.wrap_i64]; omega) W) ?_
  simp only [Z0, Z6]
  refine wpV_idx (n := t - 2) (by rfl) rfl rfl rfl U9196 info147 (by omega) ?_
  simp only [Z2]
  simp only [Z0, Z6]
  refine Z34 (v := .int .u32 (shW l (t - 2) : Nat)) (by rfl) rfl rfl (zadd ((M.r 0 0 rfl rfl) _ _ (wcells_at l (by omega) (by omega)))) (M.lt 0 rfl) U9147 rfl ?_
  simp only [Z0, Z6]
  refine wpV_assign (v := .int .u32 (shW l (t - 15) : Nat)) (by rfl) rfl rfl ?_
  simp only [Z0, Z6]
  refine wpV_assign (v := .int .u32 (shW l (t - 2) : Nat)) (by rfl) rfl rfl ?_
  simp only [Z0, Z6]
  refine Z19 (hLk.out _ ?_)
  simp only [Z7, Z8]
  iterate 10 refine Z28 (by rfl) ?_
  refine Z29 (fun w33 Sw33 hbs => ?_)
  clear hbs
  replace M := M.sees Sw33
  refine lNp (hK31 _ _ ?_)
  refine Z10 (fun K34 hK34 => Z13 ?_)
  refine lMv (v := .int .u32 (shW l (t - 15) : Nat)) ?_
  simp only [Z0, Z6]
  refine lCh 7 (fun Lk hLk => ?_)
  refine Z25 (v := .int .u32 (rotr (shW l (t - 15)) 7 : Nat)) (args := #[.int .u32 (shW l (t - 15) : Nat), .int .i64 (-7)]) (by rfl) rfl G9154 (by kernel_rfl) (by kernel_rfl) rfl (fun W hW => (by have := rotl_c (x := shW l (t - 15)) (n := 7) (w := W) (shW_lt ..) (by decide) (by decide); exact this)) ?_
  simp only [Z0, Z6]
  refine vMv (v := .int .u32 (shW l (t - 15) : Nat)) ?_
  simp only [Z0, Z6]
  refine Z25 (v := .int .u32 (rotr (shW l (t - 15)) 18 : Nat)) (args := #[.int .u32 (shW l (t - 15) : Nat), .int .i64 (-18)]) (by rfl) rfl G9154 (by kernel_rfl) (by kernel_rfl) rfl (fun W hW => (by have := rotl_c (x := shW l (t - 15)) (n := 18) (w := W) (shW_lt ..) (by decide) (by decide); exact this)) ?_
  simp only [Z0, Z6]
  refine vBn (v := .int .u32 (((rotr (shW l (t - 15)) 7) ^^^ (rotr (shW l (t - 15)) 18) : Nat) : Int)) (hr := fun W => nr_xor32 (x := rotr (shW l (t - 15)) 7) (y := rotr (shW l (t - 15)) 18) (rotr_lt (shW_lt ..) (by decide)) (rotr_lt (shW_lt ..) (by decide)) W) ?_
  simp only [Z0, Z6]
  refine vMv (v := .int .u32 (shW l (t - 15) : Nat)) ?_
  simp only [Z0, Z6]
  refine vBn (v := .int .u32 ((shW l (t - 15)) / 2 ^ 3 : Nat)) (hr := fun W => nr_shr32 (x := shW l (t - 15)) (n := 3) (by omega) W) ?_
  simp only [Z0, Z6]
  refine vBn (v := .int .u32 (sg0 (shW l (t - 15)) : Nat)) (hr := fun W => nr_xor32 (x := (rotr (shW l (t - 15)) 7) ^^^ (rotr (shW l (t - 15)) 18)) (y := (shW l (t - 15)) / 2 ^ 3) (xor_lt32 (rotr_lt (shW_lt ..) (by decide)) (rotr_lt (shW_lt ..) (by decide))) (div_lt32 _ (shW_lt ..)) W) ?_
  simp only [Z0, Z6]
  refine Z19 (hLk _ (fun w36 Sw36 => ?_))
  simp only [Z7, Z8]
  replace M := M.sees Sw36
  refine lAs (v := .int .u32 (sg0 (shW l (t - 15)) : Nat)) ?_
  simp only [Z0, Z6]
  refine lNp (hK34 _ _ ?_)
  refine Z10 (fun K37 hK37 => Z13 ?_)
  refine lMv (v := .int .u32 (shW l (t - 2) : Nat)) ?_
  simp only [Z0, Z6]
  refine lCh 7 (fun Lk hLk => ?_)
  refine Z25 (v := .int .u32 (rotr (shW l (t - 2)) 17 : Nat)) (args := #[.int .u32 (shW l (t - 2) : Nat), .int .i64 (-17)]) (by rfl) rfl G9154 (by kernel_rfl) (by kernel_rfl) rfl (fun W hW => (by have := rotl_c (x := shW l (t - 2)) (n := 17) (w := W) (shW_lt ..) (by decide) (by decide); exact this)) ?_
  simp only [Z0, Z6]
  refine vMv (v := .int .u32 (shW l (t - 2) : Nat)) ?_
  simp only [Z0, Z6]
  refine Z25 (v := .int .u32 (rotr (shW l (t - 2)) 19 : Nat)) (args := #[.int .u32 (shW l (t - 2) : Nat), .int .i64 (-19)]) (by rfl) rfl G9154 (by kernel_rfl) (by kernel_rfl) rfl (fun W hW => (by have := rotl_c (x := shW l (t - 2)) (n := 19) (w := W) (shW_lt ..) (by decide) (by decide); exact this)) ?_
  simp only [Z0, Z6]
  refine vBn (v := .int .u32 (((rotr (shW l (t - 2)) 17) ^^^ (rotr (shW l (t - 2)) 19) : Nat) : Int)) (hr := fun W => nr_xor32 (x := rotr (shW l (t - 2)) 17) (y := rotr (shW l (t - 2)) 19) (rotr_lt (shW_lt ..) (by decide)) (rotr_lt (shW_lt ..) (by decide)) W) ?_
  simp only [Z0, Z6]
  refine vMv (v := .int .u32 (shW l (t - 2) : Nat)) ?_
  simp only [Z0, Z6]
  refine vBn (v := .int .u32 ((shW l (t - 2)) / 2 ^ 10 : Nat)) (hr := fun W => nr_shr32 (x := shW l (t - 2)) (n := 10) (by omega) W) ?_
  simp only [Z0, Z6]
  refine vBn (v := .int .u32 (sg1 (shW l (t - 2)) : Nat)) (hr := fun W => nr_xor32 (x := (rotr (shW l (t - 2)) 17) ^^^ (rotr (shW l (t - 2)) 19)) (y := (shW l (t - 2)) / 2 ^ 10) (xor_lt32 (rotr_lt (shW_lt ..) (by decide)) (rotr_lt (shW_lt ..) (by decide))) (div_lt32 _ (shW_lt ..)) W) ?_
  simp only [Z0, Z6]
  refine Z19 (hLk _ (fun w39 Sw39 => ?_))
  simp only [Z7, Z8]
  replace M := M.sees Sw39
  refine lAs (v := .int .u32 (sg1 (shW l (t - 2)) : Nat)) ?_
  simp only [Z0, Z6]
  refine lNp (hK37 _ _ ?_)
  refine wp_region_grow 15 [] (by kernel_rfl) (by kernel_rfl) (by kernel_rfl) (fun Lk hLk => ?_)
  simp only [Z7, Z8]
  refine vMv (v := .int .i64 t) ?_
  simp only [Z0, Z6]
  refine vMv (v := .int .i64 t) ?_
  simp only [Z0, Z6]
  refine vBn (v := .int .i64 (t - 16 : Nat)) (hr := fun W => run_sub (by simp only [IntKind.wrap_i64]; omega) W) ?_
  simp only [Z0, Z6]
  refine wpV_idx (n := t - 16) (by rfl) rfl rfl rfl U9196 info147 (by omega) ?_
  simp only [Z2]
  simp only [Z0, Z6]
  refine Z34 (v := .int .u32 (shW l (t - 16) : Nat)) (by rfl) rfl rfl (zadd ((M.r 0 0 rfl rfl) _ _ (wcells_at l (by omega) (by omega)))) (M.lt 0 rfl) U9147 rfl ?_
  simp only [Z0, Z6]
  refine vMv (v := .int .u32 (sg0 (shW l (t - 15)) : Nat)) ?_
  simp only [Z0, Z6]
  refine vBn (v := .int .u32 ((((shW l (t - 16)) + (sg0 (shW l (t - 15)))) % 4294967296 : Nat) : Int)) (hr := fun W => nr_add32 _ (shW l (t - 16)) (sg0 (shW l (t - 15))) W) ?_
  simp only [Z0, Z6]
  refine vMv (v := .int .i64 t) ?_
  simp only [Z0, Z6]
  refine vBn (v := .int .i64 (t - 7 : Nat)) (hr := fun W => run_sub (by simp only [IntKind.wrap_i64]; omega) W) ?_
  simp only [Z0, Z6]
  refine wpV_idx (n := t - 7) (by rfl) rfl rfl rfl U9196 info147 (by omega) ?_
  simp only [Z2]
  simp only [Z0, Z6]
  refine Z34 (v := .int .u32 (shW l (t - 7) : Nat)) (by rfl) rfl rfl (zadd ((M.r 0 0 rfl rfl) _ _ (wcells_at l (by omega) (by omega)))) (M.lt 0 rfl) U9147 rfl ?_
  simp only [Z0, Z6]
  refine vBn (v := .int .u32 ((((((shW l (t - 16)) + (sg0 (shW l (t - 15)))) % 4294967296) + (shW l (t - 7))) % 4294967296 : Nat) : Int)) (hr := fun W => nr_add32 _ (((shW l (t - 16)) + (sg0 (shW l (t - 15)))) % 4294967296) (shW l (t - 7)) W) ?_
  simp only [Z0, Z6]
  refine vMv (v := .int .u32 (sg1 (shW l (t - 2)) : Nat)) ?_
  simp only [Z0, Z6]
  refine vBn (v := .int .u32 (shW l t : Nat)) (hr := fun W => (by have := nr_add32 (P := Tryd.prog) 0 (((shW l (t - 16) + sg0 (shW l (t - 15))) % 4294967296 + shW l (t - 7)) % 4294967296) (sg1 (shW l (t - 2))) W; rw [← shW_hi h16] at this; exact this)) ?_
  simp only [Z0, Z6]
  refine wpV_idx (n := t) (by rfl) rfl rfl rfl U9196 info147 (by omega) ?_
  simp only [Z2]
  simp only [Z0, Z6]
  refine Z19 (hLk.out _ ?_)
  simp only [Z7, Z8]
  iterate 15 refine Z28 (by rfl) ?_
  refine Z29 (fun w41 Sw41 hbs => ?_)
  clear hbs
  replace M := M.sees Sw41
  refine lS1 (g := g7) (off := t) (n := 64) (v := .int .u32 (shW l t : Nat)) (M.t 0 rfl) (by omega) info147 rfl (fun w42 P R T => ?_)
  replace M := M.put1 (j := t) 0 rfl P R T (Z2 _).symm
  simp only [Z6] at M
  rw [wcells_set l ht] at M
  refine lNp (hK23 _ _ ?_)
  refine Z13 ?_
  refine lCh 1 (fun Lk hLk => ?_)
  refine vBn (v := .int .i64 (t + 1 : Nat)) (hr := fun W => run_add (by simp only [IntKind.wrap_i64]; omega) W) ?_
  simp only [Z0, Z6]
  refine Z19 (hLk _ (fun w44 Sw44 => ?_))
  simp only [Z7, Z8]
  replace M := M.sees Sw44
  refine lMv (v := .int .i64 (t + 1 : Nat)) ?_
  simp only [Z0, Z6]
  refine Z14 (Z15 ?_)
  refine Exists.intro _ ⟨?_, (t + 1), (fun q9 => (#[Z9, Z9, Z9, Z9, .int .i64 t, .int .u32 (shW l (t - 15) : Nat), .int .u32 (shW l (t - 2) : Nat), .int .u32 (sg0 (shW l (t - 15)) : Nat), .int .u32 (sg1 (shW l (t - 2)) : Nat), Z9, .bool true, .int .i64 t, .int .i64 t, .bool false, u12 14, u12 15, u12 16, u12 17, u12 18, u12 19, u12 20, .int .i64 t, .int .i64 (t - 15 : Nat), .pointer (some ⟨g7, t - 15, none⟩), .int .u32 (shW l (t - 15) : Nat), .int .i64 t, .int .i64 (t - 2 : Nat), .pointer (some ⟨g7, t - 2, none⟩), .int .u32 (shW l (t - 2) : Nat), .int .u32 (shW l (t - 15) : Nat), .int .u32 (rotr (shW l (t - 15)) 7 : Nat), .int .u32 (shW l (t - 15) : Nat), .int .u32 (rotr (shW l (t - 15)) 18 : Nat), .int .u32 (((rotr (shW l (t - 15)) 7) ^^^ (rotr (shW l (t - 15)) 18) : Nat) : Int), .int .u32 (shW l (t - 15) : Nat), .int .u32 ((shW l (t - 15)) / 2 ^ 3 : Nat), .int .u32 (sg0 (shW l (t - 15)) : Nat), .int .u32 (shW l (t - 2) : Nat), .int .u32 (rotr (shW l (t - 2)) 17 : Nat), .int .u32 (shW l (t - 2) : Nat), .int .u32 (rotr (shW l (t - 2)) 19 : Nat), .int .u32 (((rotr (shW l (t - 2)) 17) ^^^ (rotr (shW l (t - 2)) 19) : Nat) : Int), .int .u32 (shW l (t - 2) : Nat), .int .u32 ((shW l (t - 2)) / 2 ^ 10 : Nat), .int .u32 (sg1 (shW l (t - 2)) : Nat), .int .i64 t, .int .i64 t, .int .i64 (t - 16 : Nat), .pointer (some ⟨g7, t - 16, none⟩), .int .u32 (shW l (t - 16) : Nat), .int .u32 (sg0 (shW l (t - 15)) : Nat), .int .u32 ((((shW l (t - 16)) + (sg0 (shW l (t - 15)))) % 4294967296 : Nat) : Int), .int .i64 t, .int .i64 (t - 7 : Nat), .pointer (some ⟨g7, t - 7, none⟩), .int .u32 (shW l (t - 7) : Nat), .int .u32 ((((((shW l (t - 16)) + (sg0 (shW l (t - 15)))) % 4294967296) + (shW l (t - 7))) % 4294967296 : Nat) : Int), .int .u32 (sg1 (shW l (t - 2)) : Nat), .int .u32 (shW l t : Nat), .pointer (some ⟨g7, t, none⟩), .int .i64 (t + 1 : Nat)] : Array Value).getD q9 Z9), rfl, rfl, M, (by omega)⟩
  omega
 have h16 : t < 16 := of_decide_eq_true hc30
 refine Z11 rfl ?_
 refine Z10 (fun K45 hK45 => Z13 ?_)
 refine lMv (v := .int .i64 t) ?_
 refine lMv (v := .string (bs l)) ?_
 refine lMv (v := .int .i64 t) ?_
 simp only [Z0, Z6]
 refine lCh 4 (fun Lk hLk => ?_)
 refine vBn (v := .int .i64 (4 * t : Nat)) (hr := fun W => run_mul (by simp only [IntKind.wrap_i64]; omega) W) ?_
 simp only [Z0, Z6]
 refine wpV_drop (l := l) (lo := 4 * t) (by rfl) rfl rfl rfl U99 (by omega) ?_
 simp only [Z0, Z6]
 refine Z25 (v := .int .u32 (shW l t : Nat)) (args := #[.string (bs (l.drop (4 * t)))]) (by rfl) rfl Tryd.func161 (by kernel_rfl) (by kernel_rfl) rfl (fun W hW => (by have := read_c (l := l.drop (4 * t)) (w := W) (by rw [List.length_drop]; omega); rwa [show be4 (l.drop (4 * t)) 0 = shW l t by rw [shW_lo h16]; unfold be4; simp only [byteN_drop, Z2, Nat.add_zero]] at this)) ?_
 simp only [Z0, Z6]
 refine wpV_idx (n := t) (by rfl) rfl rfl rfl U9196 info147 (by omega) ?_
 simp only [Z2]
 simp only [Z0, Z6]
 refine Z19 (hLk _ (fun w47 Sw47 => ?_))
 simp only [Z7, Z8]
 replace M := M.sees Sw47
 refine lS1 (g := g7) (off := t) (n := 64) (v := .int .u32 (shW l t : Nat)) (M.t 0 rfl) (by omega) info147 rfl (fun w48 P R T => ?_)
 replace M := M.put1 (j := t) 0 rfl P R T (Z2 _).symm
 simp only [Z6] at M
 rw [wcells_set l ht] at M
 refine lNp (hK45 _ _ ?_)
 refine wp_exit ?_
 refine hK23 _ _ ?_
 refine Z13 ?_
 refine lCh 1 (fun Lk hLk => ?_)
 refine vBn (v := .int .i64 (t + 1 : Nat)) (hr := fun W => run_add (by simp only [IntKind.wrap_i64]; omega) W) ?_
 simp only [Z0, Z6]
 refine Z19 (hLk _ (fun w50 Sw50 => ?_))
 simp only [Z7, Z8]
 replace M := M.sees Sw50
 refine lMv (v := .int .i64 (t + 1 : Nat)) ?_
 simp only [Z0, Z6]
 refine Z14 (Z15 ?_)
 refine Exists.intro _ ⟨?_, (t + 1), (fun q9 => (#[Z9, Z9, Z9, Z9, .int .i64 t, u12 5, u12 6, u12 7, u12 8, Z9, .bool true, .int .i64 t, .int .i64 t, .bool true, .int .i64 t, .string (bs l), .int .i64 t, .int .i64 (4 * t : Nat), .string (bs (l.drop (4 * t))), .int .u32 (shW l t : Nat), .pointer (some ⟨g7, t, none⟩), u12 21, u12 22, u12 23, u12 24, u12 25, u12 26, u12 27, u12 28, u12 29, u12 30, u12 31, u12 32, u12 33, u12 34, u12 35, u12 36, u12 37, u12 38, u12 39, u12 40, u12 41, u12 42, u12 43, u12 44, u12 45, u12 46, u12 47, u12 48, u12 49, u12 50, u12 51, u12 52, u12 53, u12 54, u12 55, u12 56, u12 57, u12 58, u12 59, .int .i64 (t + 1 : Nat)] : Array Value).getD q9 Z9), rfl, rfl, M, (by omega)⟩
 omega
end Go.Proofs.Yc

namespace Go.Proofs.Yc
open Go Go.RowKit Go.Proofs.Num
open Tryd renaming func154 → G9154, underlying147 → U9147, underlying196 → U9196, underlying40 → U940, underlying9 → U99
open Go.Proofs.Num  renaming putT → Z0
open Nat renaming zero_add → Z2, mod_eq_of_lt → Z5
open List renaming set → Z6, take → Z7, drop → Z8
open Go renaming undef → Z9, wp_seq_k → Z10, wp_cond_true → Z11, wp_cond_false → Z12
open Go.Proofs.Num renaming wp_region_seq → Z13, wpL_nil → Z14, no_panic → Z15, wpV_nil → Z19, then_normal → Z22, wpV_callf → Z25, wpN_skip → Z28, wpN_nil → Z29, wpV_load1 → Z34, wpL_var → Z36
attribute [local irreducible] wpV wpN wpList
open Go.Proofs.Ya
set_option maxRecDepth 100000 in
set_option maxHeartbeats 4000000 in
theorem mix_c {g n : Nat} {h : S8} {b l : List UInt8} {w : World} (hh : h.Ok) (hl : 64 ≤ l.length) (hg : g ≠ 1) (L1 : 1 < w.heap.size) (R1_0 : w.rangeAt 1 0 kcells) (hM : Mem [g] w w [⟨g, 10, [(0, [.int .u32 h.a, .int .u32 h.b, .int .u32 h.c, .int .u32 h.d, .int .u32 h.e, .int .u32 h.f, .int .u32 h.g, .int .u32 h.h]), (8, [.string (bs b)]), (9, [.int .u64 n])]⟩]) :
  Calls Tryd.prog 141 #[.pointer (some ⟨g, 0, none⟩), .string (bs l)] w fun e w' => ∃ v, e = .returned v ∧ v = .tuple #[] ∧ Mem [g] w w' [⟨g, 10, [(0, [.int .u32 ((mixS h l).a : Nat), .int .u32 ((mixS h l).b : Nat), .int .u32 ((mixS h l).c : Nat), .int .u32 ((mixS h l).d : Nat), .int .u32 ((mixS h l).e : Nat), .int .u32 ((mixS h l).f : Nat), .int .u32 ((mixS h l).g : Nat), .int .u32 ((mixS h l).h : Nat)]), (8, [.string (bs b)]), (9, [.int .u64 n])]⟩] := by
 go_enter Tryd.func141, Tryd.ntmps141
 have M := hM
 refine Z10 (fun K1 hK1 => Z13 ?_)
 refine lMv (v := .string (bs l)) ?_
 simp only [Z0, Z6]
 refine lCh 1 (fun Lk hLk => ?_)
 refine Z25 (v := .agg (wcells l 64).toArray) (args := #[.string (bs l)]) (by rfl) rfl Tryd.func153 (by kernel_rfl) (by kernel_rfl) rfl (fun W hW => spread_c hl) ?_
 simp only [Z0, Z6]
 refine Z19 (hLk _ (fun w3 Sw3 => ?_))
 simp only [Z7, Z8]
 replace M := M.sees Sw3
 refine Z36 (t := 196) (cs := [.int .u32 0, .int .u32 0, .int .u32 0, .int .u32 0, .int .u32 0, .int .u32 0, .int .u32 0, .int .u32 0, .int .u32 0, .int .u32 0, .int .u32 0, .int .u32 0, .int .u32 0, .int .u32 0, .int .u32 0, .int .u32 0, .int .u32 0, .int .u32 0, .int .u32 0, .int .u32 0, .int .u32 0, .int .u32 0, .int .u32 0, .int .u32 0, .int .u32 0, .int .u32 0, .int .u32 0, .int .u32 0, .int .u32 0, .int .u32 0, .int .u32 0, .int .u32 0, .int .u32 0, .int .u32 0, .int .u32 0, .int .u32 0, .int .u32 0, .int .u32 0, .int .u32 0, .int .u32 0, .int .u32 0, .int .u32 0, .int .u32 0, .int .u32 0, .int .u32 0, .int .u32 0, .int .u32 0, .int .u32 0, .int .u32 0, .int .u32 0, .int .u32 0, .int .u32 0, .int .u32 0, .int .u32 0, .int .u32 0, .int .u32 0, .int .u32 0, .int .u32 0, .int .u32 0, .int .u32 0, .int .u32 0, .int .u32 0, .int .u32 0, .int .u32 0]) (by rfl) (fun W => ?_) (fun g4 w5 Sw5 Hg4 Bg4 => ?_)
 ·
  go_simp
 replace M := ((M.sees Sw5).add (N := 64) (cs := [.int .u32 0, .int .u32 0, .int .u32 0, .int .u32 0, .int .u32 0, .int .u32 0, .int .u32 0, .int .u32 0, .int .u32 0, .int .u32 0, .int .u32 0, .int .u32 0, .int .u32 0, .int .u32 0, .int .u32 0, .int .u32 0, .int .u32 0, .int .u32 0, .int .u32 0, .int .u32 0, .int .u32 0, .int .u32 0, .int .u32 0, .int .u32 0, .int .u32 0, .int .u32 0, .int .u32 0, .int .u32 0, .int .u32 0, .int .u32 0, .int .u32 0, .int .u32 0, .int .u32 0, .int .u32 0, .int .u32 0, .int .u32 0, .int .u32 0, .int .u32 0, .int .u32 0, .int .u32 0, .int .u32 0, .int .u32 0, .int .u32 0, .int .u32 0, .int .u32 0, .int .u32 0, .int .u32 0, .int .u32 0, .int .u32 0, .int .u32 0, .int .u32 0, .int .u32 0, .int .u32 0, .int .u32 0, .int .u32 0, .int .u32 0, .int .u32 0, .int .u32 0, .int .u32 0, .int .u32 0, .int .u32 0, .int .u32 0, .int .u32 0, .int .u32 0]) (M.ge Hg4) (M.fresh Hg4) Bg4 rfl)
 clear Bg4
 simp only [Z0, Z6]
 refine lSt (g := g4) (off := 0) (n := 64) (cs := wcells l 64) (M.t 0 rfl) (by rw [wcells_len]; decide) info196 (wcells_one _ _) (fun w6 P R T => ?_)
 replace M := M.putS 0 0 rfl P R T rfl ⟨.inl rfl, trivial⟩
 simp only [Z6] at M
 refine lNp (hK1 _ _ ?_)
 refine Z10 (fun K7 hK7 => Z13 ?_)
 refine lMv (v := .pointer (some ⟨g, 0, none⟩)) ?_
 simp only [Z0, Z6]
 refine lCh 4 (fun Lk hLk => ?_)
 refine vNc ?_
 simp only [Z0, Z6]
 refine vGo (v := .pointer (some ⟨g, 0, none⟩)) ?_
 simp only [Z0, Z6]
 refine vGo (v := .pointer (some ⟨g, 0, none⟩)) ?_
 simp only [Z0, Z6]
 refine vLd (cs := [.int .u32 h.a, .int .u32 h.b, .int .u32 h.c, .int .u32 h.d, .int .u32 h.e, .int .u32 h.f, .int .u32 h.g, .int .u32 h.h]) (M.r 1 0 rfl rfl) (M.lt 1 rfl) Tryd.underlying152 info152 ?_
 simp only [Z0, Z6]
 refine Z19 (hLk _ (fun w9 Sw9 => ?_))
 simp only [Z7, Z8]
 replace M := M.sees Sw9
 refine Z36 (t := 152) (cs := [.int .u32 0, .int .u32 0, .int .u32 0, .int .u32 0, .int .u32 0, .int .u32 0, .int .u32 0, .int .u32 0]) (by rfl) (fun W => ?_) (fun g10 w11 Sw11 Hg10 Bg10 => ?_)
 ·
  go_simp
 replace M := ((M.sees Sw11).add (N := 8) (cs := [.int .u32 0, .int .u32 0, .int .u32 0, .int .u32 0, .int .u32 0, .int .u32 0, .int .u32 0, .int .u32 0]) (M.ge Hg10) (M.fresh Hg10) Bg10 rfl)
 clear Bg10
 simp only [Z0, Z6]
 refine lSt (g := g10) (off := 0) (n := 8) (cs := [.int .u32 h.a, .int .u32 h.b, .int .u32 h.c, .int .u32 h.d, .int .u32 h.e, .int .u32 h.f, .int .u32 h.g, .int .u32 h.h]) (M.t 0 rfl) (by simp [flen]) info152 (by simp [fone, Value.oneCell']) (fun w12 P R T => ?_)
 replace M := M.putS 0 0 rfl P R T rfl ⟨.inl rfl, trivial⟩
 simp only [Z6] at M
 refine lNp (hK7 _ _ ?_)
 refine Z10 (fun K13 hK13 => ?_)
 refine Z10 (fun K14 hK14 => Z13 ?_)
 refine lMv (v := .int .i64 0) ?_
 simp only [Z0, Z6]
 refine lNp (hK14 _ _ ?_)
 refine wp_block ?_
 refine wp_loop_ghost (fun n9 a9 W9 => ∃ (t : Nat) (v : S8) (u16 : Nat → Value), n9 = 64 - t ∧ a9 = { tmps := #[.pointer (some ⟨g, 0, none⟩), .string (bs l), Z9, Z9, .pointer (some ⟨g4, 0, none⟩), .pointer (some ⟨g10, 0, none⟩), u16 6, u16 7, u16 8, u16 9, u16 10, Z9, .string (bs l), .agg (wcells l 64).toArray, .pointer (some ⟨g, 0, none⟩), .pointer (some ⟨g, 0, none⟩), .pointer (some ⟨g, 0, none⟩), .pointer (some ⟨g, 0, none⟩), .agg ([.int .u32 h.a, .int .u32 h.b, .int .u32 h.c, .int .u32 h.d, .int .u32 h.e, .int .u32 h.f, .int .u32 h.g, .int .u32 h.h]).toArray, .int .i64 t, u16 20, u16 21, u16 22, u16 23, u16 24, u16 25, u16 26, u16 27, u16 28, u16 29, u16 30, u16 31, u16 32, u16 33, u16 34, u16 35, u16 36, u16 37, u16 38, u16 39, u16 40, u16 41, u16 42, u16 43, u16 44, u16 45, u16 46, u16 47, u16 48, u16 49, u16 50, u16 51, u16 52, u16 53, u16 54, u16 55, u16 56, u16 57, u16 58, u16 59, u16 60, u16 61, u16 62, u16 63, u16 64, u16 65, u16 66, u16 67, u16 68, u16 69, u16 70, u16 71, u16 72, u16 73, u16 74, u16 75, u16 76, u16 77, u16 78, u16 79, u16 80, u16 81, u16 82, u16 83, u16 84, u16 85, u16 86, u16 87, u16 88, u16 89, u16 90, u16 91, u16 92, u16 93, u16 94, u16 95, u16 96, u16 97, u16 98, Z9, Z9, Z9, Z9, Z9, Z9, Z9, Z9, Z9, Z9, Z9, Z9, Z9, Z9, Z9, Z9, Z9, Z9, Z9], defers := [] } ∧ Mem [g] w W9 [⟨g10, 8, [(0, [.int .u32 v.a, .int .u32 v.b, .int .u32 v.c, .int .u32 v.d, .int .u32 v.e, .int .u32 v.f, .int .u32 v.g, .int .u32 v.h])]⟩, ⟨g4, 64, [(0, wcells l 64)]⟩, ⟨g, 10, [(0, [.int .u32 h.a, .int .u32 h.b, .int .u32 h.c, .int .u32 h.d, .int .u32 h.e, .int .u32 h.f, .int .u32 h.g, .int .u32 h.h]), (8, [.string (bs b)]), (9, [.int .u64 n])]⟩] ∧ (t ≤ 64) ∧ (v = rnds l h t)) (64 - (0)) ?_ (fun n9 a9 W9 hI => ?_)
 ·
  exact ⟨0, h, (fun q9 => (#[Z9, Z9, Z9, Z9, Z9, Z9, Z9, Z9, Z9, Z9, Z9, Z9, Z9, Z9, Z9, Z9, Z9, Z9, Z9, Z9, Z9, Z9, Z9, Z9, Z9, Z9, Z9, Z9, Z9, Z9, Z9, Z9, Z9, Z9, Z9, Z9, Z9, Z9, Z9, Z9, Z9, Z9, Z9, Z9, Z9, Z9, Z9, Z9, Z9, Z9, Z9, Z9, Z9, Z9, Z9, Z9, Z9, Z9, Z9, Z9, Z9, Z9, Z9, Z9, Z9, Z9, Z9, Z9, Z9, Z9, Z9, Z9, Z9, Z9, Z9, Z9, Z9, Z9, Z9, Z9, Z9, Z9, Z9, Z9, Z9, Z9, Z9, Z9, Z9, Z9, Z9, Z9, Z9, Z9, Z9, Z9, Z9, Z9, Z9] : Array Value).getD q9 Z9), rfl, rfl, M, (by omega), rfl⟩
 clear M
 obtain ⟨t, v, u16, rfl, rfl, M, ht4, hv⟩ := hI
 obtain ⟨w17, rfl⟩ : ∃ W8, W8 = W9 := ⟨_, rfl⟩
 have hok : v.Ok := hv ▸ rnds_ok hh t
 refine Z10 (fun K18 hK18 => Z13 ?_)
 refine lCh 1 (fun Lk hLk => ?_)
 refine vBn (v := .bool (decide (t < 64))) (hr := fun W => run_lssN t 64 _ _ W) ?_
 simp only [Z0, Z6]
 refine Z19 (hLk _ (fun w20 Sw20 => ?_))
 simp only [Z7, Z8]
 replace M := M.sees Sw20
 refine lNp (hK18 _ _ ?_)
 refine Z10 (fun K21 hK21 => ?_)
 cases hc22 : (decide (t < 64))
 ·
  have et : t = 64 := by have := of_decide_eq_false hc22; omega
  subst et
  subst hv
  refine Z12 rfl ?_
  refine wp_exit ?_
  refine hK13 _ _ ?_
  refine Z10 (fun K23 hK23 => Z13 ?_)
  refine lMv (v := .int .i64 0) ?_
  simp only [Z0, Z6]
  refine lNp (hK23 _ _ ?_)
  refine wp_block ?_
  refine wp_loop_rounds 9 ?_
  rw [rounds_succ]
  refine Z10 (fun K25 hK25 => Z13 ?_)
  refine lCh 1 (fun Lk hLk => ?_)
  refine vBn (v := .bool true) (hr := fun W => run_lss _ _ _ _ W) ?_
  simp only [Z0, Z6]
  refine Z19 (hLk _ (fun w27 Sw27 => ?_))
  simp only [Z7, Z8]
  replace M := M.sees Sw27
  refine lNp (hK25 _ _ ?_)
  refine Z10 (fun K28 hK28 => ?_)
  refine Z11 rfl ?_
  refine wp_skip ?_
  refine hK28 _ _ ?_
  refine Z10 (fun K29 hK29 => ?_)
  refine wp_block ?_
  refine Z10 (fun K30 hK30 => Z13 ?_)
  refine lMv (v := .int .i64 0) ?_
  refine lAs (v := .int .i64 0) ?_
  simp only [Z0, Z6]
  refine lNp (hK30 _ _ ?_)
  refine wp_region_grow 15 [] (by kernel_rfl) (by kernel_rfl) (by kernel_rfl) (fun Lk hLk => ?_)
  simp only [Z7, Z8]
  refine vMv (v := .pointer (some ⟨g, 0, none⟩)) ?_
  simp only [Z0, Z6]
  refine vMv (v := .int .i64 0) ?_
  simp only [Z0, Z6]
  refine vNc ?_
  simp only [Z0, Z6]
  refine vGo (v := .pointer (some ⟨g, 0, none⟩)) ?_
  simp only [Z0, Z6]
  refine vGo (v := .pointer (some ⟨g, 0, none⟩)) ?_
  simp only [Z0, Z6]
  refine vGo (v := .pointer (some ⟨g, 0, none⟩)) ?_
  simp only [Z0, Z6]
  refine vL1 (v := .int .u32 h.a) (range_one (range_sub (M.r 2 0 rfl rfl) 0 1 0 (xs := [.int .u32 h.a]) rfl rfl)) (M.lt 2 rfl) U9147 ?_
  simp only [Z0, Z6]
  refine vMv (v := .int .i64 0) ?_
  simp only [Z0, Z6]
  refine vGo (v := .pointer (some ⟨g10, 0, none⟩)) ?_
  simp only [Z0, Z6]
  refine vL1 (v := .int .u32 ((rnds l h 64).a : Nat)) (range_one (range_sub (M.r 0 0 rfl rfl) 0 1 0 (xs := [.int .u32 ((rnds l h 64).a : Nat)]) rfl rfl)) (M.lt 0 rfl) U9147 ?_
  simp only [Z0, Z6]
  refine vBn (v := .int .u32 (((h.a + ((rnds l h 64).a)) % 4294967296 : Nat) : Int)) (hr := fun W => nr_add32 _ h.a ((rnds l h 64).a) W) ?_
  simp only [Z0, Z6]
  refine vNc ?_
  simp only [Z0, Z6]
  refine vGo (v := .pointer (some ⟨g, 0, none⟩)) ?_
  simp only [Z0, Z6]
  refine vGo (v := .pointer (some ⟨g, 0, none⟩)) ?_
  simp only [Z0, Z6]
  refine vGo (v := .pointer (some ⟨g, 0, none⟩)) ?_
  simp only [Z0, Z6]
  refine Z19 (hLk.out _ ?_)
  simp only [Z7, Z8]
  iterate 15 refine Z28 (by rfl) ?_
  refine Z29 (fun w33 Sw33 hbs => ?_)
  clear hbs
  replace M := M.sees Sw33
  refine lS1 (g := g) (off := 0) (n := 10) (v := .int .u32 (((h.a + ((rnds l h 64).a)) % 4294967296 : Nat) : Int)) (M.t 2 rfl) (by decide) info147 rfl (fun w34 P R T => ?_)
  replace M := M.putI (i := 0) 2 0 rfl P R T rfl rfl (by simp) (by simp [SepS, flen])
  simp only [Z6] at M
  refine lNp (hK29 _ _ ?_)
  refine Z13 ?_
  refine lCh 1 (fun Lk hLk => ?_)
  refine vBn (v := .int .i64 1) (hr := fun W => run_add (by decide) W) ?_
  simp only [Z0, Z6]
  refine Z19 (hLk _ (fun w36 Sw36 => ?_))
  simp only [Z7, Z8]
  replace M := M.sees Sw36
  refine lMv (v := .int .i64 1) ?_
  simp only [Z0, Z6]
  refine Z14 (Z15 ?_)
  refine Z22 (Q := fun _ _ _ => True) ?_
  rw [rounds_succ]
  refine Z10 (fun K37 hK37 => Z13 ?_)
  refine lCh 1 (fun Lk hLk => ?_)
  refine vBn (v := .bool true) (hr := fun W => run_lss _ _ _ _ W) ?_
  simp only [Z0, Z6]
  refine Z19 (hLk _ (fun w39 Sw39 => ?_))
  simp only [Z7, Z8]
  replace M := M.sees Sw39
  refine lNp (hK37 _ _ ?_)
  refine Z10 (fun K40 hK40 => ?_)
  refine Z11 rfl ?_
  refine wp_skip ?_
  refine hK40 _ _ ?_
  refine Z10 (fun K41 hK41 => ?_)
  refine wp_block ?_
  refine Z10 (fun K42 hK42 => Z13 ?_)
  refine lMv (v := .int .i64 1) ?_
  refine lAs (v := .int .i64 1) ?_
  simp only [Z0, Z6]
  refine lNp (hK42 _ _ ?_)
  refine wp_region_grow 15 [] (by kernel_rfl) (by kernel_rfl) (by kernel_rfl) (fun Lk hLk => ?_)
  simp only [Z7, Z8]
  refine vMv (v := .pointer (some ⟨g, 0, none⟩)) ?_
  simp only [Z0, Z6]
  refine vMv (v := .int .i64 1) ?_
  simp only [Z0, Z6]
  refine vNc ?_
  simp only [Z0, Z6]
  refine vGo (v := .pointer (some ⟨g, 0, none⟩)) ?_
  simp only [Z0, Z6]
  refine vGo (v := .pointer (some ⟨g, 0, none⟩)) ?_
  simp only [Z0, Z6]
  refine vGo (v := .pointer (some ⟨g, 1, none⟩)) ?_
  simp only [Z0, Z6]
  refine vL1 (v := .int .u32 h.b) (range_one (range_sub (M.r 2 0 rfl rfl) 1 1 1 (xs := [.int .u32 h.b]) rfl rfl)) (M.lt 2 rfl) U9147 ?_
  simp only [Z0, Z6]
  refine vMv (v := .int .i64 1) ?_
  simp only [Z0, Z6]
  refine vGo (v := .pointer (some ⟨g10, 1, none⟩)) ?_
  simp only [Z0, Z6]
  refine vL1 (v := .int .u32 ((rnds l h 64).b : Nat)) (range_one (range_sub (M.r 0 0 rfl rfl) 1 1 1 (xs := [.int .u32 ((rnds l h 64).b : Nat)]) rfl rfl)) (M.lt 0 rfl) U9147 ?_
  simp only [Z0, Z6]
  refine vBn (v := .int .u32 (((h.b + ((rnds l h 64).b)) % 4294967296 : Nat) : Int)) (hr := fun W => nr_add32 _ h.b ((rnds l h 64).b) W) ?_
  simp only [Z0, Z6]
  refine vNc ?_
  simp only [Z0, Z6]
  refine vGo (v := .pointer (some ⟨g, 0, none⟩)) ?_
  simp only [Z0, Z6]
  refine vGo (v := .pointer (some ⟨g, 0, none⟩)) ?_
  simp only [Z0, Z6]
  refine vGo (v := .pointer (some ⟨g, 1, none⟩)) ?_
  simp only [Z0, Z6]
  refine Z19 (hLk.out _ ?_)
  simp only [Z7, Z8]
  iterate 15 refine Z28 (by rfl) ?_
  refine Z29 (fun w45 Sw45 hbs => ?_)
  clear hbs
  replace M := M.sees Sw45
  refine lS1 (g := g) (off := 1) (n := 10) (v := .int .u32 (((h.b + ((rnds l h 64).b)) % 4294967296 : Nat) : Int)) (M.t 2 rfl) (by decide) info147 rfl (fun w46 P R T => ?_)
  replace M := M.putI (i := 1) 2 0 rfl P R T rfl rfl (by simp) (by simp [SepS, flen])
  simp only [Z6] at M
  refine lNp (hK41 _ _ ?_)
  refine Z13 ?_
  refine lCh 1 (fun Lk hLk => ?_)
  refine vBn (v := .int .i64 2) (hr := fun W => run_add (by decide) W) ?_
  simp only [Z0, Z6]
  refine Z19 (hLk _ (fun w48 Sw48 => ?_))
  simp only [Z7, Z8]
  replace M := M.sees Sw48
  refine lMv (v := .int .i64 2) ?_
  simp only [Z0, Z6]
  refine Z14 (Z15 ?_)
  refine Z22 (Q := fun _ _ _ => True) ?_
  rw [rounds_succ]
  refine Z10 (fun K49 hK49 => Z13 ?_)
  refine lCh 1 (fun Lk hLk => ?_)
  refine vBn (v := .bool true) (hr := fun W => run_lss _ _ _ _ W) ?_
  simp only [Z0, Z6]
  refine Z19 (hLk _ (fun w51 Sw51 => ?_))
  simp only [Z7, Z8]
  replace M := M.sees Sw51
  refine lNp (hK49 _ _ ?_)
  refine Z10 (fun K52 hK52 => ?_)
  refine Z11 rfl ?_
  refine wp_skip ?_
  refine hK52 _ _ ?_
  refine Z10 (fun K53 hK53 => ?_)
  refine wp_block ?_
  refine Z10 (fun K54 hK54 => Z13 ?_)
  refine lMv (v := .int .i64 2) ?_
  refine lAs (v := .int .i64 2) ?_
  simp only [Z0, Z6]
  refine lNp (hK54 _ _ ?_)
  refine wp_region_grow 15 [] (by kernel_rfl) (by kernel_rfl) (by kernel_rfl) (fun Lk hLk => ?_)
  simp only [Z7, Z8]
  refine vMv (v := .pointer (some ⟨g, 0, none⟩)) ?_
  simp only [Z0, Z6]
  refine vMv (v := .int .i64 2) ?_
  simp only [Z0, Z6]
  refine vNc ?_
  simp only [Z0, Z6]
  refine vGo (v := .pointer (some ⟨g, 0, none⟩)) ?_
  simp only [Z0, Z6]
  refine vGo (v := .pointer (some ⟨g, 0, none⟩)) ?_
  simp only [Z0, Z6]
  refine vGo (v := .pointer (some ⟨g, 2, none⟩)) ?_
  simp only [Z0, Z6]
  refine vL1 (v := .int .u32 h.c) (range_one (range_sub (M.r 2 0 rfl rfl) 2 1 2 (xs := [.int .u32 h.c]) rfl rfl)) (M.lt 2 rfl) U9147 ?_
  simp only [Z0, Z6]
  refine vMv (v := .int .i64 2) ?_
  simp only [Z0, Z6]
  refine vGo (v := .pointer (some ⟨g10, 2, none⟩)) ?_
  simp only [Z0, Z6]
  refine vL1 (v := .int .u32 ((rnds l h 64).c : Nat)) (range_one (range_sub (M.r 0 0 rfl rfl) 2 1 2 (xs := [.int .u32 ((rnds l h 64).c : Nat)]) rfl rfl)) (M.lt 0 rfl) U9147 ?_
  simp only [Z0, Z6]
  refine vBn (v := .int .u32 (((h.c + ((rnds l h 64).c)) % 4294967296 : Nat) : Int)) (hr := fun W => nr_add32 _ h.c ((rnds l h 64).c) W) ?_
  simp only [Z0, Z6]
  refine vNc ?_
  simp only [Z0, Z6]
  refine vGo (v := .pointer (some ⟨g, 0, none⟩)) ?_
  simp only [Z0, Z6]
  refine vGo (v := .pointer (some ⟨g, 0, none⟩)) ?_
  simp only [Z0, Z6]
  refine vGo (v := .pointer (some ⟨g, 2, none⟩)) ?_
  simp only [Z0, Z6]
  refine Z19 (hLk.out _ ?_)
  simp only [Z7, Z8]
  iterate 15 refine Z28 (by rfl) ?_
  refine Z29 (fun w57 Sw57 hbs => ?_)
  clear hbs
  replace M := M.sees Sw57
  refine lS1 (g := g) (off := 2) (n := 10) (v := .int .u32 (((h.c + ((rnds l h 64).c)) % 4294967296 : Nat) : Int)) (M.t 2 rfl) (by decide) info147 rfl (fun w58 P R T => ?_)
  replace M := M.putI (i := 2) 2 0 rfl P R T rfl rfl (by simp) (by simp [SepS, flen])
  simp only [Z6] at M
  refine lNp (hK53 _ _ ?_)
  refine Z13 ?_
  refine lCh 1 (fun Lk hLk => ?_)
  refine vBn (v := .int .i64 3) (hr := fun W => run_add (by decide) W) ?_
  simp only [Z0, Z6]
  refine Z19 (hLk _ (fun w60 Sw60 => ?_))
  simp only [Z7, Z8]
  replace M := M.sees Sw60
  refine lMv (v := .int .i64 3) ?_
  simp only [Z0, Z6]
  refine Z14 (Z15 ?_)
  refine Z22 (Q := fun _ _ _ => True) ?_
  rw [rounds_succ]
  refine Z10 (fun K61 hK61 => Z13 ?_)
  refine lCh 1 (fun Lk hLk => ?_)
  refine vBn (v := .bool true) (hr := fun W => run_lss _ _ _ _ W) ?_
  simp only [Z0, Z6]
  refine Z19 (hLk _ (fun w63 Sw63 => ?_))
  simp only [Z7, Z8]
  replace M := M.sees Sw63
  refine lNp (hK61 _ _ ?_)
  refine Z10 (fun K64 hK64 => ?_)
  refine Z11 rfl ?_
  refine wp_skip ?_
  refine hK64 _ _ ?_
  refine Z10 (fun K65 hK65 => ?_)
  refine wp_block ?_
  refine Z10 (fun K66 hK66 => Z13 ?_)
  refine lMv (v := .int .i64 3) ?_
  refine lAs (v := .int .i64 3) ?_
  simp only [Z0, Z6]
  refine lNp (hK66 _ _ ?_)
  refine wp_region_grow 15 [] (by kernel_rfl) (by kernel_rfl) (by kernel_rfl) (fun Lk hLk => ?_)
  simp only [Z7, Z8]
  refine vMv (v := .pointer (some ⟨g, 0, none⟩)) ?_
  simp only [Z0, Z6]
  refine vMv (v := .int .i64 3) ?_
  simp only [Z0, Z6]
  refine vNc ?_
  simp only [Z0, Z6]
  refine vGo (v := .pointer (some ⟨g, 0, none⟩)) ?_
  simp only [Z0, Z6]
  refine vGo (v := .pointer (some ⟨g, 0, none⟩)) ?_
  simp only [Z0, Z6]
  refine vGo (v := .pointer (some ⟨g, 3, none⟩)) ?_
  simp only [Z0, Z6]
  refine vL1 (v := .int .u32 h.d) (range_one (range_sub (M.r 2 0 rfl rfl) 3 1 3 (xs := [.int .u32 h.d]) rfl rfl)) (M.lt 2 rfl) U9147 ?_
  simp only [Z0, Z6]
  refine vMv (v := .int .i64 3) ?_
  simp only [Z0, Z6]
  refine vGo (v := .pointer (some ⟨g10, 3, none⟩)) ?_
  simp only [Z0, Z6]
  refine vL1 (v := .int .u32 ((rnds l h 64).d : Nat)) (range_one (range_sub (M.r 0 0 rfl rfl) 3 1 3 (xs := [.int .u32 ((rnds l h 64).d : Nat)]) rfl rfl)) (M.lt 0 rfl) U9147 ?_
  simp only [Z0, Z6]
  refine vBn (v := .int .u32 (((h.d + ((rnds l h 64).d)) % 4294967296 : Nat) : Int)) (hr := fun W => nr_add32 _ h.d ((rnds l h 64).d) W) ?_
  simp only [Z0, Z6]
  refine vNc ?_
  simp only [Z0, Z6]
  refine vGo (v := .pointer (some ⟨g, 0, none⟩)) ?_
  simp only [Z0, Z6]
  refine vGo (v := .pointer (some ⟨g, 0, none⟩)) ?_
  simp only [Z0, Z6]
  refine vGo (v := .pointer (some ⟨g, 3, none⟩)) ?_
  simp only [Z0, Z6]
  refine Z19 (hLk.out _ ?_)
  simp only [Z7, Z8]
  iterate 15 refine Z28 (by rfl) ?_
  refine Z29 (fun w69 Sw69 hbs => ?_)
  clear hbs
  replace M := M.sees Sw69
  refine lS1 (g := g) (off := 3) (n := 10) (v := .int .u32 (((h.d + ((rnds l h 64).d)) % 4294967296 : Nat) : Int)) (M.t 2 rfl) (by decide) info147 rfl (fun w70 P R T => ?_)
  replace M := M.putI (i := 3) 2 0 rfl P R T rfl rfl (by simp) (by simp [SepS, flen])
  simp only [Z6] at M
  refine lNp (hK65 _ _ ?_)
  refine Z13 ?_
  refine lCh 1 (fun Lk hLk => ?_)
  refine vBn (v := .int .i64 4) (hr := fun W => run_add (by decide) W) ?_
  simp only [Z0, Z6]
  refine Z19 (hLk _ (fun w72 Sw72 => ?_))
  simp only [Z7, Z8]
  replace M := M.sees Sw72
  refine lMv (v := .int .i64 4) ?_
  simp only [Z0, Z6]
  refine Z14 (Z15 ?_)
  refine Z22 (Q := fun _ _ _ => True) ?_
  rw [rounds_succ]
  refine Z10 (fun K73 hK73 => Z13 ?_)
  refine lCh 1 (fun Lk hLk => ?_)
  refine vBn (v := .bool true) (hr := fun W => run_lss _ _ _ _ W) ?_
  simp only [Z0, Z6]
  refine Z19 (hLk _ (fun w75 Sw75 => ?_))
  simp only [Z7, Z8]
  replace M := M.sees Sw75
  refine lNp (hK73 _ _ ?_)
  refine Z10 (fun K76 hK76 => ?_)
  refine Z11 rfl ?_
  refine wp_skip ?_
  refine hK76 _ _ ?_
  refine Z10 (fun K77 hK77 => ?_)
  refine wp_block ?_
  refine Z10 (fun K78 hK78 => Z13 ?_)
  refine lMv (v := .int .i64 4) ?_
  refine lAs (v := .int .i64 4) ?_
  simp only [Z0, Z6]
  refine lNp (hK78 _ _ ?_)
  refine wp_region_grow 15 [] (by kernel_rfl) (by kernel_rfl) (by kernel_rfl) (fun Lk hLk => ?_)
  simp only [Z7, Z8]
  refine vMv (v := .pointer (some ⟨g, 0, none⟩)) ?_
  simp only [Z0, Z6]
  refine vMv (v := .int .i64 4) ?_
  simp only [Z0, Z6]
  refine vNc ?_
  simp only [Z0, Z6]
  refine vGo (v := .pointer (some ⟨g, 0, none⟩)) ?_
  simp only [Z0, Z6]
  refine vGo (v := .pointer (some ⟨g, 0, none⟩)) ?_
  simp only [Z0, Z6]
  refine vGo (v := .pointer (some ⟨g, 4, none⟩)) ?_
  simp only [Z0, Z6]
  refine vL1 (v := .int .u32 h.e) (range_one (range_sub (M.r 2 0 rfl rfl) 4 1 4 (xs := [.int .u32 h.e]) rfl rfl)) (M.lt 2 rfl) U9147 ?_
  simp only [Z0, Z6]
  refine vMv (v := .int .i64 4) ?_
  simp only [Z0, Z6]
  refine vGo (v := .pointer (some ⟨g10, 4, none⟩)) ?_
  simp only [Z0, Z6]
  refine vL1 (v := .int .u32 ((rnds l h 64).e : Nat)) (range_one (range_sub (M.r 0 0 rfl rfl) 4 1 4 (xs := [.int .u32 ((rnds l h 64).e : Nat)]) rfl rfl)) (M.lt 0 rfl) U9147 ?_
  simp only [Z0, Z6]
  refine vBn (v := .int .u32 (((h.e + ((rnds l h 64).e)) % 4294967296 : Nat) : Int)) (hr := fun W => nr_add32 _ h.e ((rnds l h 64).e) W) ?_
  simp only [Z0, Z6]
  refine vNc ?_
  simp only [Z0, Z6]
  refine vGo (v := .pointer (some ⟨g, 0, none⟩)) ?_
  simp only [Z0, Z6]
  refine vGo (v := .pointer (some ⟨g, 0, none⟩)) ?_
  simp only [Z0, Z6]
  refine vGo (v := .pointer (some ⟨g, 4, none⟩)) ?_
  simp only [Z0, Z6]
  refine Z19 (hLk.out _ ?_)
  simp only [Z7, Z8]
  iterate 15 refine Z28 (by rfl) ?_
  refine Z29 (fun w81 Sw81 hbs => ?_)
  clear hbs
  replace M := M.sees Sw81
  refine lS1 (g := g) (off := 4) (n := 10) (v := .int .u32 (((h.e + ((rnds l h 64).e)) % 4294967296 : Nat) : Int)) (M.t 2 rfl) (by decide) info147 rfl (fun w82 P R T => ?_)
  replace M := M.putI (i := 4) 2 0 rfl P R T rfl rfl (by simp) (by simp [SepS, flen])
  simp only [Z6] at M
  refine lNp (hK77 _ _ ?_)
  refine Z13 ?_
  refine lCh 1 (fun Lk hLk => ?_)
  refine vBn (v := .int .i64 5) (hr := fun W => run_add (by decide) W) ?_
  simp only [Z0, Z6]
  refine Z19 (hLk _ (fun w84 Sw84 => ?_))
  simp only [Z7, Z8]
  replace M := M.sees Sw84
  refine lMv (v := .int .i64 5) ?_
  simp only [Z0, Z6]
  refine Z14 (Z15 ?_)
  refine Z22 (Q := fun _ _ _ => True) ?_
  rw [rounds_succ]
  refine Z10 (fun K85 hK85 => Z13 ?_)
  refine lCh 1 (fun Lk hLk => ?_)
  refine vBn (v := .bool true) (hr := fun W => run_lss _ _ _ _ W) ?_
  simp only [Z0, Z6]
  refine Z19 (hLk _ (fun w87 Sw87 => ?_))
  simp only [Z7, Z8]
  replace M := M.sees Sw87
  refine lNp (hK85 _ _ ?_)
  refine Z10 (fun K88 hK88 => ?_)
  refine Z11 rfl ?_
  refine wp_skip ?_
  refine hK88 _ _ ?_
  refine Z10 (fun K89 hK89 => ?_)
  refine wp_block ?_
  refine Z10 (fun K90 hK90 => Z13 ?_)
  refine lMv (v := .int .i64 5) ?_
  refine lAs (v := .int .i64 5) ?_
  simp only [Z0, Z6]
  refine lNp (hK90 _ _ ?_)
  refine wp_region_grow 15 [] (by kernel_rfl) (by kernel_rfl) (by kernel_rfl) (fun Lk hLk => ?_)
  simp only [Z7, Z8]
  refine vMv (v := .pointer (some ⟨g, 0, none⟩)) ?_
  simp only [Z0, Z6]
  refine vMv (v := .int .i64 5) ?_
  simp only [Z0, Z6]
  refine vNc ?_
  simp only [Z0, Z6]
  refine vGo (v := .pointer (some ⟨g, 0, none⟩)) ?_
  simp only [Z0, Z6]
  refine vGo (v := .pointer (some ⟨g, 0, none⟩)) ?_
  simp only [Z0, Z6]
  refine vGo (v := .pointer (some ⟨g, 5, none⟩)) ?_
  simp only [Z0, Z6]
  refine vL1 (v := .int .u32 h.f) (range_one (range_sub (M.r 2 0 rfl rfl) 5 1 5 (xs := [.int .u32 h.f]) rfl rfl)) (M.lt 2 rfl) U9147 ?_
  simp only [Z0, Z6]
  refine vMv (v := .int .i64 5) ?_
  simp only [Z0, Z6]
  refine vGo (v := .pointer (some ⟨g10, 5, none⟩)) ?_
  simp only [Z0, Z6]
  refine vL1 (v := .int .u32 ((rnds l h 64).f : Nat)) (range_one (range_sub (M.r 0 0 rfl rfl) 5 1 5 (xs := [.int .u32 ((rnds l h 64).f : Nat)]) rfl rfl)) (M.lt 0 rfl) U9147 ?_
  simp only [Z0, Z6]
  refine vBn (v := .int .u32 (((h.f + ((rnds l h 64).f)) % 4294967296 : Nat) : Int)) (hr := fun W => nr_add32 _ h.f ((rnds l h 64).f) W) ?_
  simp only [Z0, Z6]
  refine vNc ?_
  simp only [Z0, Z6]
  refine vGo (v := .pointer (some ⟨g, 0, none⟩)) ?_
  simp only [Z0, Z6]
  refine vGo (v := .pointer (some ⟨g, 0, none⟩)) ?_
  simp only [Z0, Z6]
  refine vGo (v := .pointer (some ⟨g, 5, none⟩)) ?_
  simp only [Z0, Z6]
  refine Z19 (hLk.out _ ?_)
  simp only [Z7, Z8]
  iterate 15 refine Z28 (by rfl) ?_
  refine Z29 (fun w93 Sw93 hbs => ?_)
  clear hbs
  replace M := M.sees Sw93
  refine lS1 (g := g) (off := 5) (n := 10) (v := .int .u32 (((h.f + ((rnds l h 64).f)) % 4294967296 : Nat) : Int)) (M.t 2 rfl) (by decide) info147 rfl (fun w94 P R T => ?_)
  replace M := M.putI (i := 5) 2 0 rfl P R T rfl rfl (by simp) (by simp [SepS, flen])
  simp only [Z6] at M
  refine lNp (hK89 _ _ ?_)
  refine Z13 ?_
  refine lCh 1 (fun Lk hLk => ?_)
  refine vBn (v := .int .i64 6) (hr := fun W => run_add (by decide) W) ?_
  simp only [Z0, Z6]
  refine Z19 (hLk _ (fun w96 Sw96 => ?_))
  simp only [Z7, Z8]
  replace M := M.sees Sw96
  refine lMv (v := .int .i64 6) ?_
  simp only [Z0, Z6]
  refine Z14 (Z15 ?_)
  refine Z22 (Q := fun _ _ _ => True) ?_
  rw [rounds_succ]
  refine Z10 (fun K97 hK97 => Z13 ?_)
  refine lCh 1 (fun Lk hLk => ?_)
  refine vBn (v := .bool true) (hr := fun W => run_lss _ _ _ _ W) ?_
  simp only [Z0, Z6]
  refine Z19 (hLk _ (fun w99 Sw99 => ?_))
  simp only [Z7, Z8]
  replace M := M.sees Sw99
  refine lNp (hK97 _ _ ?_)
  refine Z10 (fun K100 hK100 => ?_)
  refine Z11 rfl ?_
  refine wp_skip ?_
  refine hK100 _ _ ?_
  refine Z10 (fun K101 hK101 => ?_)
  refine wp_block ?_
  refine Z10 (fun K102 hK102 => Z13 ?_)
  refine lMv (v := .int .i64 6) ?_
  refine lAs (v := .int .i64 6) ?_
  simp only [Z0, Z6]
  refine lNp (hK102 _ _ ?_)
  refine wp_region_grow 15 [] (by kernel_rfl) (by kernel_rfl) (by kernel_rfl) (fun Lk hLk => ?_)
  simp only [Z7, Z8]
  refine vMv (v := .pointer (some ⟨g, 0, none⟩)) ?_
  simp only [Z0, Z6]
  refine vMv (v := .int .i64 6) ?_
  simp only [Z0, Z6]
  refine vNc ?_
  simp only [Z0, Z6]
  refine vGo (v := .pointer (some ⟨g, 0, none⟩)) ?_
  simp only [Z0, Z6]
  refine vGo (v := .pointer (some ⟨g, 0, none⟩)) ?_
  simp only [Z0, Z6]
  refine vGo (v := .pointer (some ⟨g, 6, none⟩)) ?_
  simp only [Z0, Z6]
  refine vL1 (v := .int .u32 h.g) (range_one (range_sub (M.r 2 0 rfl rfl) 6 1 6 (xs := [.int .u32 h.g]) rfl rfl)) (M.lt 2 rfl) U9147 ?_
  simp only [Z0, Z6]
  refine vMv (v := .int .i64 6) ?_
  simp only [Z0, Z6]
  refine vGo (v := .pointer (some ⟨g10, 6, none⟩)) ?_
  simp only [Z0, Z6]
  refine vL1 (v := .int .u32 ((rnds l h 64).g : Nat)) (range_one (range_sub (M.r 0 0 rfl rfl) 6 1 6 (xs := [.int .u32 ((rnds l h 64).g : Nat)]) rfl rfl)) (M.lt 0 rfl) U9147 ?_
  simp only [Z0, Z6]
  refine vBn (v := .int .u32 (((h.g + ((rnds l h 64).g)) % 4294967296 : Nat) : Int)) (hr := fun W => nr_add32 _ h.g ((rnds l h 64).g) W) ?_
  simp only [Z0, Z6]
  refine vNc ?_
  simp only [Z0, Z6]
  refine vGo (v := .pointer (some ⟨g, 0, none⟩)) ?_
  simp only [Z0, Z6]
  refine vGo (v := .pointer (some ⟨g, 0, none⟩)) ?_
  simp only [Z0, Z6]
  refine vGo (v := .pointer (some ⟨g, 6, none⟩)) ?_
  simp only [Z0, Z6]
  refine Z19 (hLk.out _ ?_)
  simp only [Z7, Z8]
  iterate 15 refine Z28 (by rfl) ?_
  refine Z29 (fun w105 Sw105 hbs => ?_)
  clear hbs
  replace M := M.sees Sw105
  refine lS1 (g := g) (off := 6) (n := 10) (v := .int .u32 (((h.g + ((rnds l h 64).g)) % 4294967296 : Nat) : Int)) (M.t 2 rfl) (by decide) info147 rfl (fun w106 P R T => ?_)
  replace M := M.putI (i := 6) 2 0 rfl P R T rfl rfl (by simp) (by simp [SepS, flen])
  simp only [Z6] at M
  refine lNp (hK101 _ _ ?_)
  refine Z13 ?_
  refine lCh 1 (fun Lk hLk => ?_)
  refine vBn (v := .int .i64 7) (hr := fun W => run_add (by decide) W) ?_
  simp only [Z0, Z6]
  refine Z19 (hLk _ (fun w108 Sw108 => ?_))
  simp only [Z7, Z8]
  replace M := M.sees Sw108
  refine lMv (v := .int .i64 7) ?_
  simp only [Z0, Z6]
  refine Z14 (Z15 ?_)
  refine Z22 (Q := fun _ _ _ => True) ?_
  rw [rounds_succ]
  refine Z10 (fun K109 hK109 => Z13 ?_)
  refine lCh 1 (fun Lk hLk => ?_)
  refine vBn (v := .bool true) (hr := fun W => run_lss _ _ _ _ W) ?_
  simp only [Z0, Z6]
  refine Z19 (hLk _ (fun w111 Sw111 => ?_))
  simp only [Z7, Z8]
  replace M := M.sees Sw111
  refine lNp (hK109 _ _ ?_)
  refine Z10 (fun K112 hK112 => ?_)
  refine Z11 rfl ?_
  refine wp_skip ?_
  refine hK112 _ _ ?_
  refine Z10 (fun K113 hK113 => ?_)
  refine wp_block ?_
  refine Z10 (fun K114 hK114 => Z13 ?_)
  refine lMv (v := .int .i64 7) ?_
  refine lAs (v := .int .i64 7) ?_
  simp only [Z0, Z6]
  refine lNp (hK114 _ _ ?_)
  refine wp_region_grow 15 [] (by kernel_rfl) (by kernel_rfl) (by kernel_rfl) (fun Lk hLk => ?_)
  simp only [Z7, Z8]
  refine vMv (v := .pointer (some ⟨g, 0, none⟩)) ?_
  simp only [Z0, Z6]
  refine vMv (v := .int .i64 7) ?_
  simp only [Z0, Z6]
  refine vNc ?_
  simp only [Z0, Z6]
  refine vGo (v := .pointer (some ⟨g, 0, none⟩)) ?_
  simp only [Z0, Z6]
  refine vGo (v := .pointer (some ⟨g, 0, none⟩)) ?_
  simp only [Z0, Z6]
  refine vGo (v := .pointer (some ⟨g, 7, none⟩)) ?_
  simp only [Z0, Z6]
  refine vL1 (v := .int .u32 h.h) (range_one (range_sub (M.r 2 0 rfl rfl) 7 1 7 (xs := [.int .u32 h.h]) rfl rfl)) (M.lt 2 rfl) U9147 ?_
  simp only [Z0, Z6]
  refine vMv (v := .int .i64 7) ?_
  simp only [Z0, Z6]
  refine vGo (v := .pointer (some ⟨g10, 7, none⟩)) ?_
  simp only [Z0, Z6]
  refine vL1 (v := .int .u32 ((rnds l h 64).h : Nat)) (range_one (range_sub (M.r 0 0 rfl rfl) 7 1 7 (xs := [.int .u32 ((rnds l h 64).h : Nat)]) rfl rfl)) (M.lt 0 rfl) U9147 ?_
  simp only [Z0, Z6]
  refine vBn (v := .int .u32 (((h.h + ((rnds l h 64).h)) % 4294967296 : Nat) : Int)) (hr := fun W => nr_add32 _ h.h ((rnds l h 64).h) W) ?_
  simp only [Z0, Z6]
  refine vNc ?_
  simp only [Z0, Z6]
  refine vGo (v := .pointer (some ⟨g, 0, none⟩)) ?_
  simp only [Z0, Z6]
  refine vGo (v := .pointer (some ⟨g, 0, none⟩)) ?_
  simp only [Z0, Z6]
  refine vGo (v := .pointer (some ⟨g, 7, none⟩)) ?_
  simp only [Z0, Z6]
  refine Z19 (hLk.out _ ?_)
  simp only [Z7, Z8]
  iterate 15 refine Z28 (by rfl) ?_
  refine Z29 (fun w117 Sw117 hbs => ?_)
  clear hbs
  replace M := M.sees Sw117
  refine lS1 (g := g) (off := 7) (n := 10) (v := .int .u32 (((h.h + ((rnds l h 64).h)) % 4294967296 : Nat) : Int)) (M.t 2 rfl) (by decide) info147 rfl (fun w118 P R T => ?_)
  replace M := M.putI (i := 7) 2 0 rfl P R T rfl rfl (by simp) (by simp [SepS, flen])
  simp only [Z6] at M
  refine lNp (hK113 _ _ ?_)
  refine Z13 ?_
  refine lCh 1 (fun Lk hLk => ?_)
  refine vBn (v := .int .i64 8) (hr := fun W => run_add (by decide) W) ?_
  simp only [Z0, Z6]
  refine Z19 (hLk _ (fun w120 Sw120 => ?_))
  simp only [Z7, Z8]
  replace M := M.sees Sw120
  refine lMv (v := .int .i64 8) ?_
  simp only [Z0, Z6]
  refine Z14 (Z15 ?_)
  refine Z22 (Q := fun _ _ _ => True) ?_
  rw [rounds_succ]
  refine Z10 (fun K121 hK121 => Z13 ?_)
  refine lCh 1 (fun Lk hLk => ?_)
  refine vBn (v := .bool false) (hr := fun W => run_lss _ _ _ _ W) ?_
  simp only [Z0, Z6]
  refine Z19 (hLk _ (fun w123 Sw123 => ?_))
  simp only [Z7, Z8]
  replace M := M.sees Sw123
  refine lNp (hK121 _ _ ?_)
  refine Z10 (fun K124 hK124 => ?_)
  refine Z12 rfl ?_
  refine wp_exit ?_
  repeat (first | with_reducible refine then_exit ?_ | with_reducible refine inblock_exit ?_)
  refine bodyPost_end (v := .tuple #[]) (results_none rfl _ _ _) rfl ?_
  exact ⟨_, rfl, rfl, M.pick [2] (by decide) rfl⟩
 have ht : t < 64 := of_decide_eq_true hc22
 refine Z11 rfl ?_
 refine wp_skip ?_
 refine hK21 _ _ ?_
 refine Z10 (fun K125 hK125 => ?_)
 refine wp_block ?_
 refine Z10 (fun K126 hK126 => Z13 ?_)
 refine lMv (v := .int .i64 t) ?_
 refine lAs (v := .int .i64 t) ?_
 simp only [Z0, Z6]
 refine lNp (hK126 _ _ ?_)
 refine Z10 (fun K128 hK128 => ?_)
 refine wp_region_grow 6 [] (by kernel_rfl) (by kernel_rfl) (by kernel_rfl) (fun Lk hLk => ?_)
 simp only [Z7, Z8]
 refine vGo (v := .pointer (some ⟨g10, 0, none⟩)) ?_
 simp only [Z0, Z6]
 refine vL1 (v := .int .u32 v.a) (range_one (range_sub (M.r 0 0 rfl rfl) 0 1 0 (xs := [.int .u32 v.a]) rfl rfl)) (M.lt 0 rfl) U9147 ?_
 simp only [Z0, Z6]
 refine vGo (v := .pointer (some ⟨g10, 4, none⟩)) ?_
 simp only [Z0, Z6]
 refine vL1 (v := .int .u32 v.e) (range_one (range_sub (M.r 0 0 rfl rfl) 4 1 4 (xs := [.int .u32 v.e]) rfl rfl)) (M.lt 0 rfl) U9147 ?_
 simp only [Z0, Z6]
 refine wpV_assign (v := .int .u32 v.a) (by rfl) rfl rfl ?_
 simp only [Z0, Z6]
 refine wpV_assign (v := .int .u32 v.e) (by rfl) rfl rfl ?_
 simp only [Z0, Z6]
 refine Z19 (hLk.out _ ?_)
 simp only [Z7, Z8]
 iterate 6 refine Z28 (by rfl) ?_
 refine Z29 (fun w130 Sw130 hbs => ?_)
 clear hbs
 replace M := M.sees Sw130
 refine lNp (hK128 _ _ ?_)
 refine Z10 (fun K131 hK131 => ?_)
 refine wp_region_grow 30 [] (by kernel_rfl) (by kernel_rfl) (by kernel_rfl) (fun Lk hLk => ?_)
 simp only [Z7, Z8]
 refine vGo (v := .pointer (some ⟨g10, 7, none⟩)) ?_
 simp only [Z0, Z6]
 refine vL1 (v := .int .u32 v.h) (range_one (range_sub (M.r 0 0 rfl rfl) 7 1 7 (xs := [.int .u32 v.h]) rfl rfl)) (M.lt 0 rfl) U9147 ?_
 simp only [Z0, Z6]
 refine vMv (v := .int .u32 v.e) ?_
 simp only [Z0, Z6]
 refine Z25 (v := .int .u32 (rotr v.e 6 : Nat)) (args := #[.int .u32 v.e, .int .i64 (-6)]) (by rfl) rfl G9154 (by kernel_rfl) (by kernel_rfl) rfl (fun W hW => (by have := rotl_c (x := v.e) (n := 6) (w := W) hok.e (by decide) (by decide); exact this)) ?_
 simp only [Z0, Z6]
 refine vMv (v := .int .u32 v.e) ?_
 simp only [Z0, Z6]
 refine Z25 (v := .int .u32 (rotr v.e 11 : Nat)) (args := #[.int .u32 v.e, .int .i64 (-11)]) (by rfl) rfl G9154 (by kernel_rfl) (by kernel_rfl) rfl (fun W hW => (by have := rotl_c (x := v.e) (n := 11) (w := W) hok.e (by decide) (by decide); exact this)) ?_
 simp only [Z0, Z6]
 refine vBn (v := .int .u32 ((rotr v.e 6) ^^^ (rotr v.e 11) : Nat)) (hr := fun W => nr_xor32 (x := rotr v.e 6) (y := rotr v.e 11) (rotr_lt hok.e (by decide)) (rotr_lt hok.e (by decide)) W) ?_
 simp only [Z0, Z6]
 refine vMv (v := .int .u32 v.e) ?_
 simp only [Z0, Z6]
 refine Z25 (v := .int .u32 (rotr v.e 25 : Nat)) (args := #[.int .u32 v.e, .int .i64 (-25)]) (by rfl) rfl G9154 (by kernel_rfl) (by kernel_rfl) rfl (fun W hW => (by have := rotl_c (x := v.e) (n := 25) (w := W) hok.e (by decide) (by decide); exact this)) ?_
 simp only [Z0, Z6]
 refine vBn (v := .int .u32 (bg1 v.e : Nat)) (hr := fun W => nr_xor32 (x := (rotr v.e 6) ^^^ (rotr v.e 11)) (y := rotr v.e 25) (xor_lt32 (rotr_lt hok.e (by decide)) (rotr_lt hok.e (by decide))) (rotr_lt hok.e (by decide)) W) ?_
 simp only [Z0, Z6]
 refine vBn (v := .int .u32 ((v.h + (bg1 v.e)) % 4294967296 : Nat)) (hr := fun W => nr_add32 _ v.h (bg1 v.e) W) ?_
 simp only [Z0, Z6]
 refine vMv (v := .int .u32 v.e) ?_
 simp only [Z0, Z6]
 refine vGo (v := .pointer (some ⟨g10, 5, none⟩)) ?_
 simp only [Z0, Z6]
 refine vL1 (v := .int .u32 v.f) (range_one (range_sub (M.r 0 0 rfl rfl) 5 1 5 (xs := [.int .u32 v.f]) rfl rfl)) (M.lt 0 rfl) U9147 ?_
 simp only [Z0, Z6]
 refine vBn (v := .int .u32 (v.e &&& v.f : Nat)) (hr := fun W => nr_and32 (x := v.e) (y := v.f) hok.e hok.f W) ?_
 simp only [Z0, Z6]
 refine vMv (v := .int .u32 v.e) ?_
 simp only [Z0, Z6]
 refine wpV_un (v := .int .u32 (4294967295 ^^^ v.e : Nat)) (by rfl) rfl rfl (fun W => nr_not32 (x := v.e) hok.e W) ?_
 simp only [Z0, Z6]
 refine vGo (v := .pointer (some ⟨g10, 6, none⟩)) ?_
 simp only [Z0, Z6]
 refine vL1 (v := .int .u32 v.g) (range_one (range_sub (M.r 0 0 rfl rfl) 6 1 6 (xs := [.int .u32 v.g]) rfl rfl)) (M.lt 0 rfl) U9147 ?_
 simp only [Z0, Z6]
 refine vBn (v := .int .u32 ((4294967295 ^^^ v.e) &&& v.g : Nat)) (hr := fun W => nr_and32 (x := 4294967295 ^^^ v.e) (y := v.g) (xor_lt32 (by decide) hok.e) hok.g W) ?_
 simp only [Z0, Z6]
 refine vBn (v := .int .u32 (chs v.e v.f v.g : Nat)) (hr := fun W => nr_xor32 (x := v.e &&& v.f) (y := (4294967295 ^^^ v.e) &&& v.g) (and_lt32 hok.f) (and_lt32 hok.g) W) ?_
 simp only [Z0, Z6]
 refine vBn (v := .int .u32 (((((v.h + (bg1 v.e)) % 4294967296) + (chs v.e v.f v.g)) % 4294967296 : Nat) : Int)) (hr := fun W => nr_add32 _ ((v.h + (bg1 v.e)) % 4294967296) (chs v.e v.f v.g) W) ?_
 simp only [Z0, Z6]
 refine vMv (v := .int .i64 t) ?_
 simp only [Z0, Z6]
 refine wpV_idx (n := t) (by rfl) rfl rfl rfl U9196 info147 (by omega) ?_
 simp only [Z2]
 simp only [Z0, Z6]
 refine Z34 (v := .int .u32 (keyN t : Nat)) (by rfl) rfl rfl (zadd ((M.oldG R1_0 L1 (by simpa using Ne.symm hg)) _ _ (kcells_get (by omega)))) (M.oldL L1) U9147 rfl ?_
 simp only [Z0, Z6]
 refine vBn (v := .int .u32 (((((((v.h + (bg1 v.e)) % 4294967296) + (chs v.e v.f v.g)) % 4294967296) + (keyN t)) % 4294967296 : Nat) : Int)) (hr := fun W => nr_add32 _ ((((v.h + (bg1 v.e)) % 4294967296) + (chs v.e v.f v.g)) % 4294967296) (keyN t) W) ?_
 simp only [Z0, Z6]
 refine vMv (v := .int .i64 t) ?_
 simp only [Z0, Z6]
 refine wpV_idx (n := t) (by rfl) rfl rfl rfl U9196 info147 (by omega) ?_
 simp only [Z2]
 simp only [Z0, Z6]
 refine Z34 (v := .int .u32 (shW l t : Nat)) (by rfl) rfl rfl (zadd ((M.r 1 0 rfl rfl) _ _ (wcells_at l (by omega) (by omega)))) (M.lt 1 rfl) U9147 rfl ?_
 simp only [Z0, Z6]
 refine vBn (v := .int .u32 (one (keyN t) (shW l t) v : Nat)) (hr := fun W => nr_add32 _ ((((((v.h + (bg1 v.e)) % 4294967296) + (chs v.e v.f v.g)) % 4294967296) + (keyN t)) % 4294967296) (shW l t) W) ?_
 simp only [Z0, Z6]
 refine Z19 (hLk.out _ ?_)
 simp only [Z7, Z8]
 iterate 30 refine Z28 (by rfl) ?_
 refine Z29 (fun w133 Sw133 hbs => ?_)
 clear hbs
 replace M := M.sees Sw133
 refine lAs (v := .int .u32 (one (keyN t) (shW l t) v : Nat)) ?_
 simp only [Z0, Z6]
 refine lNp (hK131 _ _ ?_)
 refine Z10 (fun K134 hK134 => ?_)
 refine wp_region_grow 24 [] (by kernel_rfl) (by kernel_rfl) (by kernel_rfl) (fun Lk hLk => ?_)
 simp only [Z7, Z8]
 refine vMv (v := .int .u32 v.a) ?_
 simp only [Z0, Z6]
 refine Z25 (v := .int .u32 (rotr v.a 2 : Nat)) (args := #[.int .u32 v.a, .int .i64 (-2)]) (by rfl) rfl G9154 (by kernel_rfl) (by kernel_rfl) rfl (fun W hW => (by have := rotl_c (x := v.a) (n := 2) (w := W) hok.a (by decide) (by decide); exact this)) ?_
 simp only [Z0, Z6]
 refine vMv (v := .int .u32 v.a) ?_
 simp only [Z0, Z6]
 refine Z25 (v := .int .u32 (rotr v.a 13 : Nat)) (args := #[.int .u32 v.a, .int .i64 (-13)]) (by rfl) rfl G9154 (by kernel_rfl) (by kernel_rfl) rfl (fun W hW => (by have := rotl_c (x := v.a) (n := 13) (w := W) hok.a (by decide) (by decide); exact this)) ?_
 simp only [Z0, Z6]
 refine vBn (v := .int .u32 ((rotr v.a 2) ^^^ (rotr v.a 13) : Nat)) (hr := fun W => nr_xor32 (x := rotr v.a 2) (y := rotr v.a 13) (rotr_lt hok.a (by decide)) (rotr_lt hok.a (by decide)) W) ?_
 simp only [Z0, Z6]
 refine vMv (v := .int .u32 v.a) ?_
 simp only [Z0, Z6]
 refine Z25 (v := .int .u32 (rotr v.a 22 : Nat)) (args := #[.int .u32 v.a, .int .i64 (-22)]) (by rfl) rfl G9154 (by kernel_rfl) (by kernel_rfl) rfl (fun W hW => (by have := rotl_c (x := v.a) (n := 22) (w := W) hok.a (by decide) (by decide); exact this)) ?_
 simp only [Z0, Z6]
 refine vBn (v := .int .u32 (bg0 v.a : Nat)) (hr := fun W => nr_xor32 (x := (rotr v.a 2) ^^^ (rotr v.a 13)) (y := rotr v.a 22) (xor_lt32 (rotr_lt hok.a (by decide)) (rotr_lt hok.a (by decide))) (rotr_lt hok.a (by decide)) W) ?_
 simp only [Z0, Z6]
 refine vMv (v := .int .u32 v.a) ?_
 simp only [Z0, Z6]
 refine vGo (v := .pointer (some ⟨g10, 1, none⟩)) ?_
 simp only [Z0, Z6]
 refine vL1 (v := .int .u32 v.b) (range_one (range_sub (M.r 0 0 rfl rfl) 1 1 1 (xs := [.int .u32 v.b]) rfl rfl)) (M.lt 0 rfl) U9147 ?_
 simp only [Z0, Z6]
 refine vBn (v := .int .u32 (v.a &&& v.b : Nat)) (hr := fun W => nr_and32 (x := v.a) (y := v.b) hok.a hok.b W) ?_
 simp only [Z0, Z6]
 refine vMv (v := .int .u32 v.a) ?_
 simp only [Z0, Z6]
 refine vGo (v := .pointer (some ⟨g10, 2, none⟩)) ?_
 simp only [Z0, Z6]
 refine vL1 (v := .int .u32 v.c) (range_one (range_sub (M.r 0 0 rfl rfl) 2 1 2 (xs := [.int .u32 v.c]) rfl rfl)) (M.lt 0 rfl) U9147 ?_
 simp only [Z0, Z6]
 refine vBn (v := .int .u32 (v.a &&& v.c : Nat)) (hr := fun W => nr_and32 (x := v.a) (y := v.c) hok.a hok.c W) ?_
 simp only [Z0, Z6]
 refine vBn (v := .int .u32 ((v.a &&& v.b) ^^^ (v.a &&& v.c) : Nat)) (hr := fun W => nr_xor32 (x := v.a &&& v.b) (y := v.a &&& v.c) (and_lt32 hok.b) (and_lt32 hok.c) W) ?_
 simp only [Z0, Z6]
 refine vGo (v := .pointer (some ⟨g10, 1, none⟩)) ?_
 simp only [Z0, Z6]
 refine vL1 (v := .int .u32 v.b) (range_one (range_sub (M.r 0 0 rfl rfl) 1 1 1 (xs := [.int .u32 v.b]) rfl rfl)) (M.lt 0 rfl) U9147 ?_
 simp only [Z0, Z6]
 refine vGo (v := .pointer (some ⟨g10, 2, none⟩)) ?_
 simp only [Z0, Z6]
 refine vL1 (v := .int .u32 v.c) (range_one (range_sub (M.r 0 0 rfl rfl) 2 1 2 (xs := [.int .u32 v.c]) rfl rfl)) (M.lt 0 rfl) U9147 ?_
 simp only [Z0, Z6]
 refine vBn (v := .int .u32 (v.b &&& v.c : Nat)) (hr := fun W => nr_and32 (x := v.b) (y := v.c) hok.b hok.c W) ?_
 simp only [Z0, Z6]
 refine vBn (v := .int .u32 (maj v.a v.b v.c : Nat)) (hr := fun W => nr_xor32 (x := (v.a &&& v.b) ^^^ (v.a &&& v.c)) (y := v.b &&& v.c) (xor_lt32 (and_lt32 hok.b) (and_lt32 hok.c)) (and_lt32 hok.c) W) ?_
 simp only [Z0, Z6]
 refine vBn (v := .int .u32 (two v : Nat)) (hr := fun W => nr_add32 _ (bg0 v.a) (maj v.a v.b v.c) W) ?_
 simp only [Z0, Z6]
 refine Z19 (hLk.out _ ?_)
 simp only [Z7, Z8]
 iterate 24 refine Z28 (by rfl) ?_
 refine Z29 (fun w136 Sw136 hbs => ?_)
 clear hbs
 replace M := M.sees Sw136
 refine lAs (v := .int .u32 (two v : Nat)) ?_
 simp only [Z0, Z6]
 refine lNp (hK134 _ _ ?_)
 refine Z13 ?_
 refine lMv (v := .int .u32 (one (keyN t) (shW l t) v : Nat)) ?_
 refine lMv (v := .int .u32 (two v : Nat)) ?_
 simp only [Z0, Z6]
 refine lCh 16 (fun Lk hLk => ?_)
 refine vBn (v := .int .u32 ((((one (keyN t) (shW l t) v) + (two v)) % 4294967296 : Nat) : Int)) (hr := fun W => nr_add32 _ (one (keyN t) (shW l t) v) (two v) W) ?_
 simp only [Z0, Z6]
 refine vMv (v := .int .u32 v.a) ?_
 simp only [Z0, Z6]
 refine vGo (v := .pointer (some ⟨g10, 1, none⟩)) ?_
 simp only [Z0, Z6]
 refine vL1 (v := .int .u32 v.b) (range_one (range_sub (M.r 0 0 rfl rfl) 1 1 1 (xs := [.int .u32 v.b]) rfl rfl)) (M.lt 0 rfl) U9147 ?_
 simp only [Z0, Z6]
 refine vGo (v := .pointer (some ⟨g10, 2, none⟩)) ?_
 simp only [Z0, Z6]
 refine vL1 (v := .int .u32 v.c) (range_one (range_sub (M.r 0 0 rfl rfl) 2 1 2 (xs := [.int .u32 v.c]) rfl rfl)) (M.lt 0 rfl) U9147 ?_
 simp only [Z0, Z6]
 refine vGo (v := .pointer (some ⟨g10, 3, none⟩)) ?_
 simp only [Z0, Z6]
 refine vL1 (v := .int .u32 v.d) (range_one (range_sub (M.r 0 0 rfl rfl) 3 1 3 (xs := [.int .u32 v.d]) rfl rfl)) (M.lt 0 rfl) U9147 ?_
 simp only [Z0, Z6]
 refine vMv (v := .int .u32 (one (keyN t) (shW l t) v : Nat)) ?_
 simp only [Z0, Z6]
 refine vBn (v := .int .u32 (((v.d + (one (keyN t) (shW l t) v)) % 4294967296 : Nat) : Int)) (hr := fun W => nr_add32 _ v.d (one (keyN t) (shW l t) v) W) ?_
 simp only [Z0, Z6]
 refine vMv (v := .int .u32 v.e) ?_
 simp only [Z0, Z6]
 refine vGo (v := .pointer (some ⟨g10, 5, none⟩)) ?_
 simp only [Z0, Z6]
 refine vL1 (v := .int .u32 v.f) (range_one (range_sub (M.r 0 0 rfl rfl) 5 1 5 (xs := [.int .u32 v.f]) rfl rfl)) (M.lt 0 rfl) U9147 ?_
 simp only [Z0, Z6]
 refine vGo (v := .pointer (some ⟨g10, 6, none⟩)) ?_
 simp only [Z0, Z6]
 refine vL1 (v := .int .u32 v.g) (range_one (range_sub (M.r 0 0 rfl rfl) 6 1 6 (xs := [.int .u32 v.g]) rfl rfl)) (M.lt 0 rfl) U9147 ?_
 simp only [Z0, Z6]
 refine vGk (v := .agg ([.int .u32 ((((one (keyN t) (shW l t) v) + (two v)) % 4294967296 : Nat) : Int), .int .u32 v.a, .int .u32 v.b, .int .u32 v.c, .int .u32 (((v.d + (one (keyN t) (shW l t) v)) % 4294967296 : Nat) : Int), .int .u32 v.e, .int .u32 v.f, .int .u32 v.g]).toArray) ?_
 simp only [Z0, Z6]
 refine Z19 (hLk _ (fun w138 Sw138 => ?_))
 simp only [Z7, Z8]
 replace M := M.sees Sw138
 refine lSt (g := g10) (off := 0) (n := 8) (cs := [.int .u32 ((((one (keyN t) (shW l t) v) + (two v)) % 4294967296 : Nat) : Int), .int .u32 v.a, .int .u32 v.b, .int .u32 v.c, .int .u32 (((v.d + (one (keyN t) (shW l t) v)) % 4294967296 : Nat) : Int), .int .u32 v.e, .int .u32 v.f, .int .u32 v.g]) (M.t 0 rfl) (by simp [flen]) info152 (by simp [fone, Value.oneCell']) (fun w139 P R T => ?_)
 replace M := M.putS 0 0 rfl P R T rfl ⟨.inl rfl, trivial⟩
 simp only [Z6] at M
 refine lNp (hK125 _ _ ?_)
 refine Z13 ?_
 refine lCh 1 (fun Lk hLk => ?_)
 refine vBn (v := .int .i64 (t + 1 : Nat)) (hr := fun W => run_add (by simp only [IntKind.wrap_i64]; omega) W) ?_
 simp only [Z0, Z6]
 refine Z19 (hLk _ (fun w141 Sw141 => ?_))
 simp only [Z7, Z8]
 replace M := M.sees Sw141
 refine lMv (v := .int .i64 (t + 1 : Nat)) ?_
 simp only [Z0, Z6]
 refine Z14 (Z15 ?_)
 refine Exists.intro _ ⟨?_, (t + 1), (rnd (keyN t) (shW l t) v), (fun q9 => (#[Z9, Z9, Z9, Z9, Z9, Z9, .int .i64 t, .int .u32 v.a, .int .u32 v.e, .int .u32 (one (keyN t) (shW l t) v : Nat), .int .u32 (two v : Nat), Z9, Z9, Z9, Z9, Z9, Z9, Z9, Z9, Z9, .bool true, .int .i64 t, .pointer (some ⟨g10, 0, none⟩), .int .u32 v.a, .pointer (some ⟨g10, 4, none⟩), .int .u32 v.e, .pointer (some ⟨g10, 7, none⟩), .int .u32 v.h, .int .u32 v.e, .int .u32 (rotr v.e 6 : Nat), .int .u32 v.e, .int .u32 (rotr v.e 11 : Nat), .int .u32 ((rotr v.e 6) ^^^ (rotr v.e 11) : Nat), .int .u32 v.e, .int .u32 (rotr v.e 25 : Nat), .int .u32 (bg1 v.e : Nat), .int .u32 ((v.h + (bg1 v.e)) % 4294967296 : Nat), .int .u32 v.e, .pointer (some ⟨g10, 5, none⟩), .int .u32 v.f, .int .u32 (v.e &&& v.f : Nat), .int .u32 v.e, .int .u32 (4294967295 ^^^ v.e : Nat), .pointer (some ⟨g10, 6, none⟩), .int .u32 v.g, .int .u32 ((4294967295 ^^^ v.e) &&& v.g : Nat), .int .u32 (chs v.e v.f v.g : Nat), .int .u32 (((((v.h + (bg1 v.e)) % 4294967296) + (chs v.e v.f v.g)) % 4294967296 : Nat) : Int), .int .i64 t, .pointer (some ⟨1, t, none⟩), .int .u32 (keyN t : Nat), .int .u32 (((((((v.h + (bg1 v.e)) % 4294967296) + (chs v.e v.f v.g)) % 4294967296) + (keyN t)) % 4294967296 : Nat) : Int), .int .i64 t, .pointer (some ⟨g4, t, none⟩), .int .u32 (shW l t : Nat), .int .u32 (one (keyN t) (shW l t) v : Nat), .int .u32 v.a, .int .u32 (rotr v.a 2 : Nat), .int .u32 v.a, .int .u32 (rotr v.a 13 : Nat), .int .u32 ((rotr v.a 2) ^^^ (rotr v.a 13) : Nat), .int .u32 v.a, .int .u32 (rotr v.a 22 : Nat), .int .u32 (bg0 v.a : Nat), .int .u32 v.a, .pointer (some ⟨g10, 1, none⟩), .int .u32 v.b, .int .u32 (v.a &&& v.b : Nat), .int .u32 v.a, .pointer (some ⟨g10, 2, none⟩), .int .u32 v.c, .int .u32 (v.a &&& v.c : Nat), .int .u32 ((v.a &&& v.b) ^^^ (v.a &&& v.c) : Nat), .pointer (some ⟨g10, 1, none⟩), .int .u32 v.b, .pointer (some ⟨g10, 2, none⟩), .int .u32 v.c, .int .u32 (v.b &&& v.c : Nat), .int .u32 (maj v.a v.b v.c : Nat), .int .u32 (two v : Nat), .int .u32 (one (keyN t) (shW l t) v : Nat), .int .u32 (two v : Nat), .int .u32 ((((one (keyN t) (shW l t) v) + (two v)) % 4294967296 : Nat) : Int), .int .u32 v.a, .pointer (some ⟨g10, 1, none⟩), .int .u32 v.b, .pointer (some ⟨g10, 2, none⟩), .int .u32 v.c, .pointer (some ⟨g10, 3, none⟩), .int .u32 v.d, .int .u32 (one (keyN t) (shW l t) v : Nat), .int .u32 (((v.d + (one (keyN t) (shW l t) v)) % 4294967296 : Nat) : Int), .int .u32 v.e, .pointer (some ⟨g10, 5, none⟩), .int .u32 v.f, .pointer (some ⟨g10, 6, none⟩), .int .u32 v.g, .agg ([.int .u32 ((((one (keyN t) (shW l t) v) + (two v)) % 4294967296 : Nat) : Int), .int .u32 v.a, .int .u32 v.b, .int .u32 v.c, .int .u32 (((v.d + (one (keyN t) (shW l t) v)) % 4294967296 : Nat) : Int), .int .u32 v.e, .int .u32 v.f, .int .u32 v.g]).toArray, .int .i64 (t + 1 : Nat)] : Array Value).getD q9 Z9), rfl, rfl, M, (by omega), (by rw [hv]; rfl)⟩
 omega
set_option maxHeartbeats 4000000 in
theorem take_c {g n : Nat} {h : S8} {b l : List UInt8} {w : World} (hh : h.Ok) (hb : b.length < 64) (hl : l.length ≤ 9223372036854775744) (hg : g ≠ 1) (L1 : 1 < w.heap.size) (R1_0 : w.rangeAt 1 0 kcells) (hM : Mem [g] w w [⟨g, 10, [(0, [.int .u32 h.a, .int .u32 h.b, .int .u32 h.c, .int .u32 h.d, .int .u32 h.e, .int .u32 h.f, .int .u32 h.g, .int .u32 h.h]), (8, [.string (bs b)]), (9, [.int .u64 n])]⟩]) :
  Calls Tryd.prog 109 #[.pointer (some ⟨g, 0, none⟩), .string (bs l)] w fun e w' => ∃ v, e = .returned v ∧ v = .tuple #[] ∧ Mem [g] w w' [⟨g, 10, [(0, [.int .u32 ((takeH h (b ++ l)).a : Nat), .int .u32 ((takeH h (b ++ l)).b : Nat), .int .u32 ((takeH h (b ++ l)).c : Nat), .int .u32 ((takeH h (b ++ l)).d : Nat), .int .u32 ((takeH h (b ++ l)).e : Nat), .int .u32 ((takeH h (b ++ l)).f : Nat), .int .u32 ((takeH h (b ++ l)).g : Nat), .int .u32 ((takeH h (b ++ l)).h : Nat)]), (8, [.string (bs (takeR (b ++ l)))]), (9, [.int .u64 (((n + l.length) % 18446744073709551616) : Nat)])]⟩] := by
 go_enter Tryd.func109, Tryd.ntmps109
 have M := hM
 refine Z10 (fun K1 hK1 => Z13 ?_)
 refine lMv (v := .pointer (some ⟨g, 0, none⟩)) ?_
 simp only [Z0, Z6]
 refine lCh 11 (fun Lk hLk => ?_)
 refine vNc ?_
 simp only [Z0, Z6]
 refine vGo (v := .pointer (some ⟨g, 0, none⟩)) ?_
 simp only [Z0, Z6]
 refine vGo (v := .pointer (some ⟨g, 9, none⟩)) ?_
 simp only [Z0, Z6]
 refine vL1 (v := .int .u64 n) (range_one (M.r 0 2 rfl rfl)) (M.lt 0 rfl) U940 ?_
 simp only [Z0, Z6]
 refine vMv (v := .string (bs l)) ?_
 simp only [Z0, Z6]
 refine wpV_lenS (by rfl) rfl rfl rfl U99 ?_
 simp only [Z0, Z6]
 refine wpV_conv (d := .bool) (e := ((l.length : Nat) : Int)) (by rfl) rfl rfl (run_conv_int Tryd.underlying3 U940 ((wrap64N _).trans (congrArg _ (Z5 (by omega))))) ?_
 simp only [Z0, Z6]
 refine vBn (v := .int .u64 ((n + l.length) % 18446744073709551616 : Nat)) (hr := fun W => nr_add64 _ n l.length W) ?_
 simp only [Z0, Z6]
 refine vNc ?_
 simp only [Z0, Z6]
 refine vGo (v := .pointer (some ⟨g, 0, none⟩)) ?_
 simp only [Z0, Z6]
 refine vGo (v := .pointer (some ⟨g, 9, none⟩)) ?_
 simp only [Z0, Z6]
 refine Z19 (hLk _ (fun w3 Sw3 => ?_))
 simp only [Z7, Z8]
 replace M := M.sees Sw3
 refine lS1 (g := g) (off := 9) (n := 10) (v := .int .u64 ((n + l.length) % 18446744073709551616 : Nat)) (M.t 0 rfl) (by decide) info40 rfl (fun w4 P R T => ?_)
 replace M := M.putS (new := [.int .u64 ((n + l.length) % 18446744073709551616 : Nat)]) 0 2 rfl P R T rfl (by simp [SepS, flen])
 simp only [Z6] at M
 refine lNp (hK1 _ _ ?_)
 refine Z10 (fun K5 hK5 => Z13 ?_)
 refine lMv (v := .pointer (some ⟨g, 0, none⟩)) ?_
 simp only [Z0, Z6]
 refine lCh 6 (fun Lk hLk => ?_)
 refine vNc ?_
 simp only [Z0, Z6]
 refine vGo (v := .pointer (some ⟨g, 0, none⟩)) ?_
 simp only [Z0, Z6]
 refine vGo (v := .pointer (some ⟨g, 8, none⟩)) ?_
 simp only [Z0, Z6]
 refine vL1 (v := .string (bs b)) (range_one (M.r 0 1 rfl rfl)) (M.lt 0 rfl) U99 ?_
 simp only [Z0, Z6]
 refine vMv (v := .string (bs l)) ?_
 simp only [Z0, Z6]
 refine wpV_binS (v := .string (bs (b ++ l))) (by rfl) rfl rfl rfl (run_add_bs _ _ _ (by omega)) ?_
 simp only [Z0, Z6]
 refine Z19 (hLk _ (fun w7 Sw7 => ?_))
 simp only [Z7, Z8]
 replace M := M.sees Sw7
 refine lAs (v := .string (bs (b ++ l))) ?_
 simp only [Z0, Z6]
 refine lNp (hK5 _ _ ?_)
 refine Z10 (fun K8 hK8 => ?_)
 refine wp_block ?_
 refine wp_loop_ghost (fun n9 a9 W9 => ∃ (r : List UInt8) (s : S8) (u9 : Nat → Value), n9 = r.length ∧ a9 = { tmps := #[.pointer (some ⟨g, 0, none⟩), .string (bs r), Z9, Z9, .pointer (some ⟨g, 0, none⟩), .pointer (some ⟨g, 0, none⟩), .pointer (some ⟨g, 0, none⟩), .pointer (some ⟨g, 9, none⟩), .int .u64 n, .string (bs l), .int .i64 l.length, .int .u64 l.length, .int .u64 ((n + l.length) % 18446744073709551616 : Nat), .pointer (some ⟨g, 0, none⟩), .pointer (some ⟨g, 0, none⟩), .pointer (some ⟨g, 9, none⟩), .pointer (some ⟨g, 0, none⟩), .pointer (some ⟨g, 0, none⟩), .pointer (some ⟨g, 0, none⟩), .pointer (some ⟨g, 8, none⟩), .string (bs b), .string (bs l), .string (bs (b ++ l)), u9 23, u9 24, u9 25, u9 26, u9 27, u9 28, u9 29, u9 30, Z9, Z9, Z9, Z9, Z9], defers := [] } ∧ Mem [g] w W9 [⟨g, 10, [(0, [.int .u32 s.a, .int .u32 s.b, .int .u32 s.c, .int .u32 s.d, .int .u32 s.e, .int .u32 s.f, .int .u32 s.g, .int .u32 s.h]), (8, [.string (bs b)]), (9, [.int .u64 (((n + l.length) % 18446744073709551616) : Nat)])]⟩] ∧ (s.Ok) ∧ (takeH s r = takeH h (b ++ l)) ∧ (takeR r = takeR (b ++ l))) ((b ++ l).length) ?_ (fun n9 a9 W9 hI => ?_)
 ·
  exact ⟨(b ++ l), h, (fun q9 => (#[Z9, Z9, Z9, Z9, Z9, Z9, Z9, Z9, Z9, Z9, Z9, Z9, Z9, Z9, Z9, Z9, Z9, Z9, Z9, Z9, Z9, Z9, Z9, Z9, Z9, Z9, Z9, Z9, Z9, Z9, Z9] : Array Value).getD q9 Z9), rfl, rfl, M, hh, rfl, rfl⟩
 clear M
 obtain ⟨r, s, u9, rfl, rfl, M, hs, hH, hR⟩ := hI
 obtain ⟨w10, rfl⟩ : ∃ W8, W8 = W9 := ⟨_, rfl⟩
 refine Z10 (fun K11 hK11 => ?_)
 refine Z10 (fun K12 hK12 => Z13 ?_)
 refine lMv (v := .string (bs r)) ?_
 simp only [Z0, Z6]
 refine lCh 2 (fun Lk hLk => ?_)
 refine wpV_lenS (by rfl) rfl rfl rfl U99 ?_
 simp only [Z0, Z6]
 refine vBn (v := .bool (decide (64 ≤ r.length))) (hr := fun W => run_geqN r.length 64 _ _ W) ?_
 simp only [Z0, Z6]
 refine Z19 (hLk _ (fun w14 Sw14 => ?_))
 simp only [Z7, Z8]
 replace M := M.sees Sw14
 refine lNp (hK12 _ _ ?_)
 cases hc15 : (decide (64 ≤ r.length))
 ·
  have h64 : ¬ 64 ≤ r.length := of_decide_eq_false hc15
  rw [takeH_done h64] at hH
  rw [takeR_done h64] at hR
  subst hH hR
  refine Z12 rfl ?_
  refine wp_exit ?_
  refine hK8 _ _ ?_
  refine Z13 ?_
  refine lMv (v := .pointer (some ⟨g, 0, none⟩)) ?_
  refine lMv (v := .string (bs (takeR (b ++ l)))) ?_
  simp only [Z0, Z6]
  refine lCh 3 (fun Lk hLk => ?_)
  refine vNc ?_
  simp only [Z0, Z6]
  refine vGo (v := .pointer (some ⟨g, 0, none⟩)) ?_
  simp only [Z0, Z6]
  refine vGo (v := .pointer (some ⟨g, 8, none⟩)) ?_
  simp only [Z0, Z6]
  refine Z19 (hLk _ (fun w17 Sw17 => ?_))
  simp only [Z7, Z8]
  replace M := M.sees Sw17
  refine lS1 (g := g) (off := 8) (n := 10) (v := .string (bs (takeR (b ++ l)))) (M.t 0 rfl) (by decide) info9 rfl (fun w18 P R T => ?_)
  replace M := M.putS (new := [.string (bs (takeR (b ++ l)))]) 0 1 rfl P R T rfl (by simp [SepS, flen])
  simp only [Z6] at M
  refine Z14 (Z15 ?_)
  repeat (first | with_reducible refine then_exit ?_ | with_reducible refine inblock_exit ?_)
  refine bodyPost_end (v := .tuple #[]) (results_none rfl _ _ _) rfl ?_
  exact ⟨_, rfl, rfl, M.pick [0] (by decide) rfl⟩
 have h64 : 64 ≤ r.length := of_decide_eq_true hc15
 refine Z11 rfl ?_
 refine wp_skip ?_
 refine hK11 _ _ ?_
 refine Z10 (fun K19 hK19 => ?_)
 refine wp_block ?_
 refine Z13 ?_
 refine lMv (v := .pointer (some ⟨g, 0, none⟩)) ?_
 refine lMv (v := .string (bs r)) ?_
 simp only [Z0, Z6]
 refine wpL_callM (f := 141) (args := #[.pointer (some ⟨g, 0, none⟩), .string (bs r)]) (R := fun v9 W9 => v9 = .tuple #[] ∧ Mem [g] w14 W9 [⟨g, 10, [(0, [.int .u32 ((mixS s r).a : Nat), .int .u32 ((mixS s r).b : Nat), .int .u32 ((mixS s r).c : Nat), .int .u32 ((mixS s r).d : Nat), .int .u32 ((mixS s r).e : Nat), .int .u32 ((mixS s r).f : Nat), .int .u32 ((mixS s r).g : Nat), .int .u32 ((mixS s r).h : Nat)]), (8, [.string (bs b)]), (9, [.int .u64 (((n + l.length) % 18446744073709551616) : Nat)])]⟩]) (by rfl) (by rfl) rfl Tryd.func141 (by kernel_rfl) (by kernel_rfl) (mix_c (h := s) (l := r) hs h64 hg (M.oldL L1) (M.oldG R1_0 L1 (by simpa using Ne.symm hg)) (M.one 0 rfl)) (fun v9 w21 h9 => ?_)
 obtain ⟨rfl, M9⟩ := h9
 replace M := M.callM1 0 rfl M9
 simp only [Z6] at M
 simp only [Z0, Z6]
 refine lNp (hK19 _ _ ?_)
 refine Z13 ?_
 refine lMv (v := .string (bs r)) ?_
 simp only [Z0, Z6]
 refine lCh 1 (fun Lk hLk => ?_)
 refine wpV_drop (l := r) (lo := 64) (by rfl) rfl rfl rfl U99 h64 ?_
 simp only [Z0, Z6]
 refine Z19 (hLk _ (fun w23 Sw23 => ?_))
 simp only [Z7, Z8]
 replace M := M.sees Sw23
 refine lAs (v := .string (bs (r.drop 64))) ?_
 simp only [Z0, Z6]
 refine Z14 (Z15 ?_)
 refine Exists.intro _ ⟨?_, (r.drop 64), (mixS s r), (fun q9 => (#[Z9, Z9, Z9, Z9, Z9, Z9, Z9, Z9, Z9, Z9, Z9, Z9, Z9, Z9, Z9, Z9, Z9, Z9, Z9, Z9, Z9, Z9, Z9, .string (bs r), .int .i64 r.length, .bool true, .string (bs r), .string (bs (r.drop 64)), .pointer (some ⟨g, 0, none⟩), .string (bs r), .tuple #[]] : Array Value).getD q9 Z9), rfl, rfl, M, (plus8_ok ..), ((takeH_more h64).symm.trans hH), ((takeR_more h64).symm.trans hR)⟩
 rw [List.length_drop]; omega
end Go.Proofs.Yc

namespace Go.Proofs.Yc
open Go Go.RowKit Go.Proofs.Num
open Tryd renaming underlying147 → U9147, underlying152 → U9152, underlying29 → U929, underlying40 → U940, underlying5 → U95, underlying9 → U99
open Go.Proofs.Num  renaming putT → Z0
open Nat renaming zero_add → Z2, le_trans → Z3
open List renaming set → Z6, take → Z7, drop → Z8
open Go renaming undef → Z9, wp_seq_k → Z10, wp_cond_true → Z11, wp_cond_false → Z12
open Go.Proofs.Num renaming wp_region_seq → Z13, wpL_nil → Z14, no_panic → Z15, wpV_nil → Z19, wpL_var → Z36
attribute [local irreducible] wpV wpN wpList
open Go.Proofs.Ya
set_option maxHeartbeats 4000000 in
theorem end_c {g n : Nat} {h : S8} {b : List UInt8} {w : World} (hh : h.Ok) (hb : b.length < 64) (hn : n < 18446744073709551616) (hg : g ≠ 1) (L1 : 1 < w.heap.size) (R1_0 : w.rangeAt 1 0 kcells) (hM : Mem [g] w w [⟨g, 10, [(0, [.int .u32 h.a, .int .u32 h.b, .int .u32 h.c, .int .u32 h.d, .int .u32 h.e, .int .u32 h.f, .int .u32 h.g, .int .u32 h.h]), (8, [.string (bs b)]), (9, [.int .u64 n])]⟩]) :
  Calls Tryd.prog 110 #[.pointer (some ⟨g, 0, none⟩)] w fun e w' => ∃ v, e = .returned v ∧ v = .string (bs (endL h b n)) ∧ Mem [g] w w' [⟨g, 10, []⟩] := by
 go_enter Tryd.func110, Tryd.ntmps110
 have M := hM
 refine Z10 (fun K1 hK1 => Z13 ?_)
 refine lAs (v := .string (bs ([]))) ?_
 simp only [Z0, Z6]
 refine lNp (hK1 _ _ ?_)
 refine Z10 (fun K3 hK3 => Z13 ?_)
 refine lMv (v := .pointer (some ⟨g, 0, none⟩)) ?_
 simp only [Z0, Z6]
 refine lCh 5 (fun Lk hLk => ?_)
 refine vNc ?_
 simp only [Z0, Z6]
 refine vGo (v := .pointer (some ⟨g, 0, none⟩)) ?_
 simp only [Z0, Z6]
 refine vGo (v := .pointer (some ⟨g, 9, none⟩)) ?_
 simp only [Z0, Z6]
 refine vL1 (v := .int .u64 n) (range_one (M.r 0 2 rfl rfl)) (M.lt 0 rfl) U940 ?_
 simp only [Z0, Z6]
 refine vBn (v := .int .u64 ((n * 8) % 18446744073709551616 : Nat)) (hr := fun W => nr_mul64 _ n 8 W) ?_
 simp only [Z0, Z6]
 refine Z19 (hLk _ (fun w5 Sw5 => ?_))
 simp only [Z7, Z8]
 replace M := M.sees Sw5
 refine lAs (v := .int .u64 ((n * 8) % 18446744073709551616 : Nat)) ?_
 simp only [Z0, Z6]
 refine lNp (hK3 _ _ ?_)
 refine Z10 (fun K6 hK6 => Z13 ?_)
 refine lMv (v := .pointer (some ⟨g, 0, none⟩)) ?_
 simp only [Z0, Z6]
 refine lCh 7 (fun Lk hLk => ?_)
 refine vNc ?_
 simp only [Z0, Z6]
 refine vGo (v := .pointer (some ⟨g, 0, none⟩)) ?_
 simp only [Z0, Z6]
 refine vGo (v := .pointer (some ⟨g, 8, none⟩)) ?_
 simp only [Z0, Z6]
 refine vL1 (v := .string (bs b)) (range_one (M.r 0 1 rfl rfl)) (M.lt 0 rfl) U99 ?_
 simp only [Z0, Z6]
 refine wpV_lenS (by rfl) rfl rfl rfl U99 ?_
 simp only [Z0, Z6]
 refine vBn (v := .int .i64 (119 - b.length : Nat)) (hr := fun W => run_sub (by simp only [IntKind.wrap_i64]; omega) W) ?_
 simp only [Z0, Z6]
 refine vBn (v := .int .i64 ((119 - b.length) % 64 : Nat)) (hr := fun W => run_rem (by decide) (tmod_nat (119 - b.length) 64) W) ?_
 simp only [Z0, Z6]
 refine Z19 (hLk _ (fun w8 Sw8 => ?_))
 simp only [Z7, Z8]
 replace M := M.sees Sw8
 refine lAs (v := .int .i64 ((119 - b.length) % 64 : Nat)) ?_
 simp only [Z0, Z6]
 refine lNp (hK6 _ _ ?_)
 refine Z10 (fun K9 hK9 => Z13 ?_)
 refine lMv (v := .int .i64 ((119 - b.length) % 64 : Nat)) ?_
 simp only [Z0, Z6]
 refine lCh 2 (fun Lk hLk => ?_)
 refine vBn (v := .int .i64 (1 + (119 - b.length) % 64 : Nat)) (hr := fun W => run_add (by simp only [IntKind.wrap_i64]; omega) W) ?_
 simp only [Z0, Z6]
 refine vBn (v := .int .i64 (1 + (119 - b.length) % 64 + 8 : Nat)) (hr := fun W => run_add (by simp only [IntKind.wrap_i64]; omega) W) ?_
 simp only [Z0, Z6]
 refine Z19 (hLk _ (fun w11 Sw11 => ?_))
 simp only [Z7, Z8]
 replace M := M.sees Sw11
 refine wpL_make (n := 1 + (119 - b.length) % 64 + 8) (z := .int .u8 0) (bytes := 1) (by rfl) (by rfl) (by rfl) (by rfl) U929 (by kernel_rfl) rfl (by omega) (by omega) (fun g12 w13 Sw13 Hg12 Bg12 => ?_)
 replace M := ((M.sees Sw13).add (N := 1 + (119 - b.length) % 64 + 8) (cs := List.replicate (1 + (119 - b.length) % 64 + 8) (.int .u8 0)) (M.ge Hg12) (M.fresh Hg12) Bg12 (by simp [flen]))
 clear Bg12
 simp only [Z0, Z6]
 refine lAs (v := .slice (some ⟨g12, 0, none⟩) (1 + (119 - b.length) % 64 + 8) (1 + (119 - b.length) % 64 + 8)) ?_
 simp only [Z0, Z6]
 refine lNp (hK9 _ _ ?_)
 refine Z10 (fun K14 hK14 => Z13 ?_)
 refine lMv (v := .slice (some ⟨g12, 0, none⟩) (1 + (119 - b.length) % 64 + 8) (1 + (119 - b.length) % 64 + 8)) ?_
 simp only [Z0, Z6]
 refine lCh 1 (fun Lk hLk => ?_)
 refine wpV_idxs (n := 0) (by rfl) rfl rfl rfl U929 info5 (by omega) ?_
 simp only [Z2]
 simp only [Z0, Z6]
 refine Z19 (hLk _ (fun w16 Sw16 => ?_))
 simp only [Z7, Z8]
 replace M := M.sees Sw16
 refine lS1 (g := g12) (off := 0) (n := 1 + (119 - b.length) % 64 + 8) (v := .int .u8 128) (M.t 0 rfl) (by omega) info5 rfl (fun w17 P R T => ?_)
 replace M := M.put1 (j := 0) 0 rfl P R T (Z2 _).symm
 simp only [Z6] at M
 rw [tail_first _ (n * 8 % 18446744073709551616)] at M
 refine lNp (hK14 _ _ ?_)
 refine Z10 (fun K18 hK18 => ?_)
 refine Z10 (fun K19 hK19 => Z13 ?_)
 refine lMv (v := .int .i64 0) ?_
 simp only [Z0, Z6]
 refine lNp (hK19 _ _ ?_)
 refine wp_block ?_
 refine wp_loop_ghost (fun n9 a9 W9 => ∃ (q : Nat) (u21 : Nat → Value), n9 = 8 - q ∧ a9 = { tmps := #[.pointer (some ⟨g, 0, none⟩), Z9, .string (bs ([])), .int .u64 ((n * 8) % 18446744073709551616 : Nat), .int .i64 ((119 - b.length) % 64 : Nat), .slice (some ⟨g12, 0, none⟩) (1 + (119 - b.length) % 64 + 8) (1 + (119 - b.length) % 64 + 8), u21 6, Z9, Z9, Z9, Z9, .pointer (some ⟨g, 0, none⟩), .pointer (some ⟨g, 0, none⟩), .pointer (some ⟨g, 0, none⟩), .pointer (some ⟨g, 9, none⟩), .int .u64 n, .int .u64 ((n * 8) % 18446744073709551616 : Nat), .pointer (some ⟨g, 0, none⟩), .pointer (some ⟨g, 0, none⟩), .pointer (some ⟨g, 0, none⟩), .pointer (some ⟨g, 8, none⟩), .string (bs b), .int .i64 b.length, .int .i64 (119 - b.length : Nat), .int .i64 ((119 - b.length) % 64 : Nat), .int .i64 ((119 - b.length) % 64 : Nat), .int .i64 (1 + (119 - b.length) % 64 : Nat), .int .i64 (1 + (119 - b.length) % 64 + 8 : Nat), .slice (some ⟨g12, 0, none⟩) (1 + (119 - b.length) % 64 + 8) (1 + (119 - b.length) % 64 + 8), .slice (some ⟨g12, 0, none⟩) (1 + (119 - b.length) % 64 + 8) (1 + (119 - b.length) % 64 + 8), .pointer (some ⟨g12, 0, none⟩), .int .i64 q, u21 32, u21 33, u21 34, u21 35, u21 36, u21 37, u21 38, u21 39, u21 40, u21 41, u21 42, u21 43, u21 44, u21 45, u21 46, Z9, Z9, Z9, Z9, Z9, Z9, Z9, Z9, Z9, Z9, Z9, Z9, Z9, Z9, Z9, Z9, Z9, Z9, Z9, Z9, Z9, Z9, Z9, Z9, Z9], defers := [] } ∧ Mem [g] w W9 [⟨g12, 1 + (119 - b.length) % 64 + 8, [(0, bl (1 + (119 - b.length) % 64 + 8) (tailF ((119 - b.length) % 64) (n * 8 % 18446744073709551616) q))]⟩, ⟨g, 10, [(0, [.int .u32 h.a, .int .u32 h.b, .int .u32 h.c, .int .u32 h.d, .int .u32 h.e, .int .u32 h.f, .int .u32 h.g, .int .u32 h.h]), (8, [.string (bs b)]), (9, [.int .u64 n])]⟩] ∧ (q ≤ 8)) (8 - (0)) ?_ (fun n9 a9 W9 hI => ?_)
 ·
  exact ⟨0, (fun q9 => (#[Z9, Z9, Z9, Z9, Z9, Z9, Z9, Z9, Z9, Z9, Z9, Z9, Z9, Z9, Z9, Z9, Z9, Z9, Z9, Z9, Z9, Z9, Z9, Z9, Z9, Z9, Z9, Z9, Z9, Z9, Z9, Z9, Z9, Z9, Z9, Z9, Z9, Z9, Z9, Z9, Z9, Z9, Z9, Z9, Z9, Z9, Z9] : Array Value).getD q9 Z9), rfl, rfl, M, (by omega)⟩
 clear M
 obtain ⟨q, u21, rfl, rfl, M, hq4⟩ := hI
 obtain ⟨w22, rfl⟩ : ∃ W8, W8 = W9 := ⟨_, rfl⟩
 refine Z10 (fun K23 hK23 => Z13 ?_)
 refine lCh 1 (fun Lk hLk => ?_)
 refine vBn (v := .bool (decide (q < 8))) (hr := fun W => run_lssN q 8 _ _ W) ?_
 simp only [Z0, Z6]
 refine Z19 (hLk _ (fun w25 Sw25 => ?_))
 simp only [Z7, Z8]
 replace M := M.sees Sw25
 refine lNp (hK23 _ _ ?_)
 refine Z10 (fun K26 hK26 => ?_)
 cases hc27 : (decide (q < 8))
 ·
  have eq : q = 8 := by have := of_decide_eq_false hc27; omega
  subst eq
  refine Z12 rfl ?_
  refine wp_exit ?_
  refine hK18 _ _ ?_
  refine Z10 (fun K28 hK28 => ?_)
  rw [tail_end] at M
  refine Z13 ?_
  refine lMv (v := .pointer (some ⟨g, 0, none⟩)) ?_
  refine lMv (v := .slice (some ⟨g12, 0, none⟩) (1 + (119 - b.length) % 64 + 8) (1 + (119 - b.length) % 64 + 8)) ?_
  simp only [Z0, Z6]
  refine lCh 1 (fun Lk hLk => ?_)
  refine wpV_b2s (l := (tailL b.length n)) (by rfl) rfl rfl (tailL_len ..).symm U929 U95 U99 (M.r 0 0 rfl rfl) (M.lt 0 rfl) ?_
  simp only [Z0, Z6]
  refine Z19 (hLk _ (fun w30 Sw30 => ?_))
  simp only [Z7, Z8]
  replace M := M.sees Sw30
  refine wpL_callM (f := 109) (args := #[.pointer (some ⟨g, 0, none⟩), .string (bs (tailL b.length n))]) (R := fun v9 W9 => v9 = .tuple #[] ∧ Mem [g] w30 W9 [⟨g, 10, [(0, [.int .u32 (((takeH h (b ++ (tailL b.length n))).a : Nat) : Int), .int .u32 (((takeH h (b ++ (tailL b.length n))).b : Nat) : Int), .int .u32 (((takeH h (b ++ (tailL b.length n))).c : Nat) : Int), .int .u32 (((takeH h (b ++ (tailL b.length n))).d : Nat) : Int), .int .u32 (((takeH h (b ++ (tailL b.length n))).e : Nat) : Int), .int .u32 (((takeH h (b ++ (tailL b.length n))).f : Nat) : Int), .int .u32 (((takeH h (b ++ (tailL b.length n))).g : Nat) : Int), .int .u32 (((takeH h (b ++ (tailL b.length n))).h : Nat) : Int)]), (8, [.string (bs (takeR (b ++ (tailL b.length n))))]), (9, [.int .u64 ((((n + (tailL b.length n).length) % 18446744073709551616) : Nat) : Int)])]⟩]) (by rfl) (by rfl) rfl Tryd.func109 (by kernel_rfl) (by kernel_rfl) (take_c (h := h) (b := b) (l := (tailL b.length n)) (n := n) hh hb (by rw [tailL_len]; omega) hg (M.oldL L1) (M.oldG R1_0 L1 (by simpa using Ne.symm hg)) (M.one 1 rfl)) (fun v9 w31 h9 => ?_)
  obtain ⟨rfl, M9⟩ := h9
  replace M := M.callM1 1 rfl M9
  simp only [Z6] at M
  simp only [Z0, Z6]
  refine lNp (hK28 _ _ ?_)
  refine Z10 (fun K32 hK32 => ?_)
  have hok : (takeH h (b ++ (tailL b.length n))).Ok := takeH_ok _ _ _ (Nat.le_refl _) hh
  generalize hS : takeH h (b ++ (tailL b.length n)) = S at M hok
  have hgB := M.lt 1 rfl
  have hsz := M.size
  refine Z13 ?_
  refine Z36 (t := 107) (cs := [.pointer none, .slice none 0 0]) (by rfl) (fun W => ?_) (fun g34 w33 SB HB BB => ?_)
  ·
   go_simp
  have IB : Lib.IsBuilder 107 5 w31.heap.size g34 [] w33 := .inl ⟨HB, _, BB, World.ownsRow_nil _ _ _ _, by simp [Value.ownBlock]⟩
  have HB9 := SB.2.2.size
  replace M := M.sees SB
  simp only [Z0, Z6]
  refine lNp (hK32 _ _ ?_)
  refine Z10 (fun K35 hK35 => ?_)
  refine Z10 (fun K36 hK36 => Z13 ?_)
  refine lMv (v := .pointer (some ⟨g, 0, none⟩)) ?_
  simp only [Z0, Z6]
  refine lCh 4 (fun Lk hLk => ?_)
  refine vNc ?_
  simp only [Z0, Z6]
  refine vGo (v := .pointer (some ⟨g, 0, none⟩)) ?_
  simp only [Z0, Z6]
  refine vGo (v := .pointer (some ⟨g, 0, none⟩)) ?_
  simp only [Z0, Z6]
  refine vLd (cs := [.int .u32 S.a, .int .u32 S.b, .int .u32 S.c, .int .u32 S.d, .int .u32 S.e, .int .u32 S.f, .int .u32 S.g, .int .u32 S.h]) (M.r 1 0 rfl rfl) (M.lt 1 rfl) U9152 info152 ?_
  simp only [Z0, Z6]
  refine Z19 (hLk _ (fun w38 Sw38 => ?_))
  simp only [Z7, Z8]
  replace M := M.sees Sw38
  replace IB := isB_sees IB Sw38; replace HB9 := Z3 HB9 Sw38.2.2.size
  refine lMv (v := .int .i64 0) ?_
  simp only [Z0, Z6]
  refine Z14 (Z15 ?_)
  replace M := (M.pick [1] (by decide) rfl : Mem [g] w w38 [⟨g, 10, [(0, [.int .u32 S.a, .int .u32 S.b, .int .u32 S.c, .int .u32 S.d, .int .u32 S.e, .int .u32 S.f, .int .u32 S.g, .int .u32 S.h]), (8, [.string (bs (takeR (b ++ (tailL b.length n))))]), (9, [.int .u64 ((((n + (tailL b.length n).length) % 18446744073709551616) : Nat) : Int)])]⟩])
  replace M := M.read (segs' := []) 0 rfl (by simp)
  simp only [Z6] at M
  have hl9 : ∀ b9 ∈ ([⟨g, 10, []⟩] : List Bk), b9.g < w31.heap.size := fun b9 hb9 => by rw [List.mem_singleton.1 hb9]; exact hgB
  clear hgB
  refine hK36 _ _ ?_
  refine wp_block ?_
  refine wp_loop_ghost (fun n9 a9 W9 => ∃ (i : Nat) (u39 : Nat → Value), n9 = 8 - i ∧ a9 = { tmps := #[.pointer (some ⟨g, 0, none⟩), Z9, .string (bs ([])), .int .u64 ((n * 8) % 18446744073709551616 : Nat), .int .i64 ((119 - b.length) % 64 : Nat), .slice (some ⟨g12, 0, none⟩) (1 + (119 - b.length) % 64 + 8) (1 + (119 - b.length) % 64 + 8), u21 6, .pointer (some ⟨g34, 0, none⟩), Z9, u39 9, u39 10, .pointer (some ⟨g, 0, none⟩), .pointer (some ⟨g, 0, none⟩), .pointer (some ⟨g, 0, none⟩), .pointer (some ⟨g, 9, none⟩), .int .u64 n, .int .u64 ((n * 8) % 18446744073709551616 : Nat), .pointer (some ⟨g, 0, none⟩), .pointer (some ⟨g, 0, none⟩), .pointer (some ⟨g, 0, none⟩), .pointer (some ⟨g, 8, none⟩), .string (bs b), .int .i64 b.length, .int .i64 (119 - b.length : Nat), .int .i64 ((119 - b.length) % 64 : Nat), .int .i64 ((119 - b.length) % 64 : Nat), .int .i64 (1 + (119 - b.length) % 64 : Nat), .int .i64 (1 + (119 - b.length) % 64 + 8 : Nat), .slice (some ⟨g12, 0, none⟩) (1 + (119 - b.length) % 64 + 8) (1 + (119 - b.length) % 64 + 8), .slice (some ⟨g12, 0, none⟩) (1 + (119 - b.length) % 64 + 8) (1 + (119 - b.length) % 64 + 8), .pointer (some ⟨g12, 0, none⟩), .int .i64 (8 : Nat), .bool false, u21 33, u21 34, u21 35, u21 36, u21 37, u21 38, u21 39, u21 40, u21 41, u21 42, u21 43, u21 44, u21 45, u21 46, .pointer (some ⟨g, 0, none⟩), .slice (some ⟨g12, 0, none⟩) (1 + (119 - b.length) % 64 + 8) (1 + (119 - b.length) % 64 + 8), .string (bs (tailL b.length n)), .tuple #[], .pointer (some ⟨g, 0, none⟩), .pointer (some ⟨g, 0, none⟩), .pointer (some ⟨g, 0, none⟩), .pointer (some ⟨g, 0, none⟩), .agg ([.int .u32 S.a, .int .u32 S.b, .int .u32 S.c, .int .u32 S.d, .int .u32 S.e, .int .u32 S.f, .int .u32 S.g, .int .u32 S.h]).toArray, .int .i64 i, u39 57, u39 58, u39 59, u39 60, u39 61, u39 62, u39 63, u39 64, u39 65, u39 66, u39 67, u39 68, u39 69, u39 70, Z9], defers := [] } ∧ Mem [g] w W9 [⟨g, 10, []⟩] ∧ (i ≤ 8) ∧ (Lib.IsBuilder 107 5 w31.heap.size g34 (Lib.byteCells ((outS S).take (4 * i))) W9) ∧ (w31.heap.size ≤ W9.heap.size)) (8 - (0)) ?_ (fun n9 a9 W9 hI => ?_)
  ·
   exact ⟨0, (fun q9 => (#[Z9, Z9, Z9, Z9, Z9, Z9, Z9, Z9, Z9, Z9, Z9, Z9, Z9, Z9, Z9, Z9, Z9, Z9, Z9, Z9, Z9, Z9, Z9, Z9, Z9, Z9, Z9, Z9, Z9, Z9, Z9, Z9, Z9, Z9, Z9, Z9, Z9, Z9, Z9, Z9, Z9, Z9, Z9, Z9, Z9, Z9, Z9, Z9, Z9, Z9, Z9, Z9, Z9, Z9, Z9, Z9, Z9, Z9, Z9, Z9, Z9, Z9, Z9, Z9, Z9, Z9, Z9, Z9, Z9, Z9, Z9] : Array Value).getD q9 Z9), rfl, rfl, M, (by omega), IB, HB9⟩
  clear M
  obtain ⟨i, u39, rfl, rfl, M, hi4, IB, HB9⟩ := hI
  obtain ⟨w40, rfl⟩ : ∃ W8, W8 = W9 := ⟨_, rfl⟩
  refine Z10 (fun K41 hK41 => Z13 ?_)
  refine lCh 1 (fun Lk hLk => ?_)
  refine vBn (v := .bool (decide (i < 8))) (hr := fun W => run_lssN i 8 _ _ W) ?_
  simp only [Z0, Z6]
  refine Z19 (hLk _ (fun w43 Sw43 => ?_))
  simp only [Z7, Z8]
  replace M := M.sees Sw43
  replace IB := isB_sees IB Sw43; replace HB9 := Z3 HB9 Sw43.2.2.size
  refine lNp (hK41 _ _ ?_)
  refine Z10 (fun K44 hK44 => ?_)
  cases hc45 : (decide (i < 8))
  ·
   have ei : i = 8 := by have := of_decide_eq_false hc45; omega
   subst ei
   refine Z12 rfl ?_
   refine wp_exit ?_
   refine hK35 _ _ ?_
   refine Z10 (fun K46 hK46 => Z13 ?_)
   refine wpL_callM (f := 71) (args := #[.pointer (some ⟨g34, 0, none⟩)]) (R := fun v9 W9 => v9 = .string (bs (outS S)) ∧ Below w31.heap.size w43 W9) (by rfl) (by rfl) rfl Tryd.func71 (by kernel_rfl) (by kernel_rfl) ((Tryd.Builder_String_any w31.heap.size g34 (outS S) w43 (by rw [List.take_of_length_le (by rw [outS_len]; decide)] at IB; exact IB) HB9).mono fun e W9 h => ⟨_, h.1, rfl, h.2⟩) (fun v9 w48 h9 => ?_)
   obtain ⟨rfl, hBw⟩ := h9
   replace M := M.belowB hBw hsz hl9
   simp only [Z0, Z6]
   refine lAs (v := .string (bs (outS S))) ?_
   simp only [Z0, Z6]
   refine lNp (hK46 _ _ ?_)
   refine wp_ret ?_
   repeat (first | with_reducible refine then_ret ?_ | with_reducible refine inblock_ret ?_)
   refine bodyPost_ret (v := .string (bs (outS S))) (res1 rfl (.tmp (by rfl))) rfl ?_
   exact ⟨_, rfl, by rw [← hS]; rfl, M⟩
  have hi : i < 8 := of_decide_eq_true hc45
  refine Z11 rfl ?_
  refine wp_skip ?_
  refine hK44 _ _ ?_
  refine Z10 (fun K49 hK49 => ?_)
  refine wp_block ?_
  refine Z10 (fun K50 hK50 => Z13 ?_)
  refine lCh 1 (fun Lk hLk => ?_)
  refine wpV_index (n := i) (v := .int .u32 (S.get i : Nat)) (by rfl) rfl rfl rfl U9152 info147 U9147 rfl (by omega) (c8_get S hi) ?_
  simp only [Z0, Z6]
  refine Z19 (hLk _ (fun w52 Sw52 => ?_))
  simp only [Z7, Z8]
  replace M := M.sees Sw52
  replace IB := isB_sees IB Sw52; replace HB9 := Z3 HB9 Sw52.2.2.size
  refine lAs (v := .int .u32 (S.get i : Nat)) ?_
  simp only [Z0, Z6]
  refine lNp (hK50 _ _ ?_)
  refine Z10 (fun K53 hK53 => Z13 ?_)
  refine lMv (v := .int .i64 0) ?_
  simp only [Z0, Z6]
  refine lNp (hK53 _ _ ?_)
  refine wp_block ?_
  refine wp_loop_ghost (fun n9 a9 W9 => ∃ (j : Nat) (u55 : Nat → Value), n9 = 4 - j ∧ a9 = { tmps := #[.pointer (some ⟨g, 0, none⟩), Z9, .string (bs ([])), .int .u64 ((n * 8) % 18446744073709551616 : Nat), .int .i64 ((119 - b.length) % 64 : Nat), .slice (some ⟨g12, 0, none⟩) (1 + (119 - b.length) % 64 + 8) (1 + (119 - b.length) % 64 + 8), u21 6, .pointer (some ⟨g34, 0, none⟩), Z9, .int .u32 (S.get i : Nat), u55 10, .pointer (some ⟨g, 0, none⟩), .pointer (some ⟨g, 0, none⟩), .pointer (some ⟨g, 0, none⟩), .pointer (some ⟨g, 9, none⟩), .int .u64 n, .int .u64 ((n * 8) % 18446744073709551616 : Nat), .pointer (some ⟨g, 0, none⟩), .pointer (some ⟨g, 0, none⟩), .pointer (some ⟨g, 0, none⟩), .pointer (some ⟨g, 8, none⟩), .string (bs b), .int .i64 b.length, .int .i64 (119 - b.length : Nat), .int .i64 ((119 - b.length) % 64 : Nat), .int .i64 ((119 - b.length) % 64 : Nat), .int .i64 (1 + (119 - b.length) % 64 : Nat), .int .i64 (1 + (119 - b.length) % 64 + 8 : Nat), .slice (some ⟨g12, 0, none⟩) (1 + (119 - b.length) % 64 + 8) (1 + (119 - b.length) % 64 + 8), .slice (some ⟨g12, 0, none⟩) (1 + (119 - b.length) % 64 + 8) (1 + (119 - b.length) % 64 + 8), .pointer (some ⟨g12, 0, none⟩), .int .i64 (8 : Nat), .bool false, u21 33, u21 34, u21 35, u21 36, u21 37, u21 38, u21 39, u21 40, u21 41, u21 42, u21 43, u21 44, u21 45, u21 46, .pointer (some ⟨g, 0, none⟩), .slice (some ⟨g12, 0, none⟩) (1 + (119 - b.length) % 64 + 8) (1 + (119 - b.length) % 64 + 8), .string (bs (tailL b.length n)), .tuple #[], .pointer (some ⟨g, 0, none⟩), .pointer (some ⟨g, 0, none⟩), .pointer (some ⟨g, 0, none⟩), .pointer (some ⟨g, 0, none⟩), .agg ([.int .u32 S.a, .int .u32 S.b, .int .u32 S.c, .int .u32 S.d, .int .u32 S.e, .int .u32 S.f, .int .u32 S.g, .int .u32 S.h]).toArray, .int .i64 i, .bool true, .int .u32 (S.get i : Nat), .int .i64 j, u55 60, u55 61, u55 62, u55 63, u55 64, u55 65, u55 66, u55 67, u55 68, u55 69, u39 70, Z9], defers := [] } ∧ Mem [g] w W9 [⟨g, 10, []⟩] ∧ (j ≤ 4) ∧ (Lib.IsBuilder 107 5 w31.heap.size g34 (Lib.byteCells ((outS S).take (4 * i + j))) W9) ∧ (w31.heap.size ≤ W9.heap.size)) (4 - (0)) ?_ (fun n9 a9 W9 hI => ?_)
  ·
   exact ⟨0, (fun q9 => (#[Z9, Z9, Z9, Z9, Z9, Z9, Z9, Z9, Z9, Z9, u39 10, Z9, Z9, Z9, Z9, Z9, Z9, Z9, Z9, Z9, Z9, Z9, Z9, Z9, Z9, Z9, Z9, Z9, Z9, Z9, Z9, Z9, Z9, Z9, Z9, Z9, Z9, Z9, Z9, Z9, Z9, Z9, Z9, Z9, Z9, Z9, Z9, Z9, Z9, Z9, Z9, Z9, Z9, Z9, Z9, Z9, Z9, Z9, Z9, Z9, u39 60, u39 61, u39 62, u39 63, u39 64, u39 65, u39 66, u39 67, u39 68, u39 69] : Array Value).getD q9 Z9), rfl, rfl, M, (by omega), IB, HB9⟩
  clear M
  obtain ⟨j, u55, rfl, rfl, M, hj4, IB, HB9⟩ := hI
  obtain ⟨w56, rfl⟩ : ∃ W8, W8 = W9 := ⟨_, rfl⟩
  refine Z10 (fun K57 hK57 => Z13 ?_)
  refine lCh 1 (fun Lk hLk => ?_)
  refine vBn (v := .bool (decide (j < 4))) (hr := fun W => run_lssN j 4 _ _ W) ?_
  simp only [Z0, Z6]
  refine Z19 (hLk _ (fun w59 Sw59 => ?_))
  simp only [Z7, Z8]
  replace M := M.sees Sw59
  replace IB := isB_sees IB Sw59; replace HB9 := Z3 HB9 Sw59.2.2.size
  refine lNp (hK57 _ _ ?_)
  refine Z10 (fun K60 hK60 => ?_)
  cases hc61 : (decide (j < 4))
  ·
   have ej : j = 4 := by have := of_decide_eq_false hc61; omega
   subst ej
   refine Z12 rfl ?_
   refine wp_exit ?_
   refine hK49 _ _ ?_
   refine Z13 ?_
   refine lCh 1 (fun Lk hLk => ?_)
   refine vBn (v := .int .i64 (i + 1 : Nat)) (hr := fun W => run_add (by simp only [IntKind.wrap_i64]; omega) W) ?_
   simp only [Z0, Z6]
   refine Z19 (hLk _ (fun w63 Sw63 => ?_))
   simp only [Z7, Z8]
   replace M := M.sees Sw63
   replace IB := isB_sees IB Sw63; replace HB9 := Z3 HB9 Sw63.2.2.size
   refine lMv (v := .int .i64 (i + 1 : Nat)) ?_
   simp only [Z0, Z6]
   refine Z14 (Z15 ?_)
   refine Exists.intro _ ⟨?_, (i + 1), (fun q9 => (#[Z9, Z9, Z9, Z9, Z9, Z9, Z9, Z9, Z9, .int .u32 (S.get i : Nat), u55 10, Z9, Z9, Z9, Z9, Z9, Z9, Z9, Z9, Z9, Z9, Z9, Z9, Z9, Z9, Z9, Z9, Z9, Z9, Z9, Z9, Z9, Z9, Z9, Z9, Z9, Z9, Z9, Z9, Z9, Z9, Z9, Z9, Z9, Z9, Z9, Z9, Z9, Z9, Z9, Z9, Z9, Z9, Z9, Z9, Z9, Z9, .bool true, .int .u32 (S.get i : Nat), .int .i64 (4 : Nat), .bool false, u55 61, u55 62, u55 63, u55 64, u55 65, u55 66, u55 67, u55 68, u55 69, .int .i64 (i + 1 : Nat)] : Array Value).getD q9 Z9), rfl, rfl, M, (by omega), IB, HB9⟩
   omega
  have hj : j < 4 := of_decide_eq_true hc61
  refine Z11 rfl ?_
  refine wp_skip ?_
  refine hK60 _ _ ?_
  refine Z10 (fun K64 hK64 => ?_)
  refine wp_block ?_
  refine Z10 (fun K65 hK65 => Z13 ?_)
  refine lMv (v := .int .i64 j) ?_
  refine lAs (v := .int .i64 j) ?_
  simp only [Z0, Z6]
  refine lNp (hK65 _ _ ?_)
  refine Z13 ?_
  refine lMv (v := .int .u32 (S.get i : Nat)) ?_
  refine lMv (v := .int .i64 j) ?_
  simp only [Z0, Z6]
  refine lCh 4 (fun Lk hLk => ?_)
  refine vBn (v := .int .i64 (3 - j : Nat)) (hr := fun W => run_sub (by simp only [IntKind.wrap_i64]; omega) W) ?_
  simp only [Z0, Z6]
  refine vBn (v := .int .i64 (8 * (3 - j) : Nat)) (hr := fun W => run_mul (by simp only [IntKind.wrap_i64]; omega) W) ?_
  simp only [Z0, Z6]
  refine vBn (v := .int .u32 ((S.get i) / 2 ^ (8 * (3 - j)) : Nat)) (hr := fun W => nr_shr32 (x := S.get i) (n := 8 * (3 - j)) (by omega) W) ?_
  simp only [Z0, Z6]
  refine wpV_conv (d := .bool) (e := ((((S.get i) / 2 ^ (8 * (3 - j))) % 256 : Nat) : Int)) (by rfl) rfl rfl (run_conv_int U9147 U95 (wrap_u8N _)) ?_
  simp only [Z0, Z6]
  refine Z19 (hLk _ (fun w68 Sw68 => ?_))
  simp only [Z7, Z8]
  replace M := M.sees Sw68
  replace IB := isB_sees IB Sw68; replace HB9 := Z3 HB9 Sw68.2.2.size
  refine wpL_callM (f := 99) (args := #[.pointer (some ⟨g34, 0, none⟩), .int .u8 ((((S.get i) / 2 ^ (8 * (3 - j))) % 256 : Nat) : Int)]) (R := fun v9 W9 => v9 = .nilIface ∧ Lib.IsBuilder 107 5 w31.heap.size g34 ((Lib.byteCells ((outS S).take (4 * i + j))) ++ [.int .u8 ((((S.get i) / 2 ^ (8 * (3 - j))) % 256 : Nat) : Int)]) W9 ∧ Below w31.heap.size w68 W9) (by rfl) (by rfl) rfl Tryd.func99 (by kernel_rfl) (by kernel_rfl) ((writeByte_c w31.heap.size g34 _ _ w68 IB (by rw [Lib.byteCells_length, List.length_take, outS_len]; omega) HB9).mono fun e W9 h => ⟨_, h.1, rfl, .inr h.2.1, h.2.2⟩) (fun v9 w69 h9 => ?_)
  obtain ⟨rfl, IB2, hBw⟩ := h9
  replace IB := IB2; clear IB2
  replace M := M.belowB hBw hsz hl9
  replace HB9 := Z3 HB9 hBw.size
  simp only [Z0, Z6]
  refine lNp (hK64 _ _ ?_)
  refine Z13 ?_
  refine lCh 1 (fun Lk hLk => ?_)
  refine vBn (v := .int .i64 (j + 1 : Nat)) (hr := fun W => run_add (by simp only [IntKind.wrap_i64]; omega) W) ?_
  simp only [Z0, Z6]
  refine Z19 (hLk _ (fun w71 Sw71 => ?_))
  simp only [Z7, Z8]
  replace M := M.sees Sw71
  replace IB := isB_sees IB Sw71; replace HB9 := Z3 HB9 Sw71.2.2.size
  refine lMv (v := .int .i64 (j + 1 : Nat)) ?_
  simp only [Z0, Z6]
  refine Z14 (Z15 ?_)
  refine Exists.intro _ ⟨?_, (j + 1), (fun q9 => (#[Z9, Z9, Z9, Z9, Z9, Z9, Z9, Z9, Z9, Z9, .int .i64 j, Z9, Z9, Z9, Z9, Z9, Z9, Z9, Z9, Z9, Z9, Z9, Z9, Z9, Z9, Z9, Z9, Z9, Z9, Z9, Z9, Z9, Z9, Z9, Z9, Z9, Z9, Z9, Z9, Z9, Z9, Z9, Z9, Z9, Z9, Z9, Z9, Z9, Z9, Z9, Z9, Z9, Z9, Z9, Z9, Z9, Z9, Z9, Z9, Z9, .bool true, .int .i64 j, .int .u32 (S.get i : Nat), .int .i64 j, .int .i64 (3 - j : Nat), .int .i64 (8 * (3 - j) : Nat), .int .u32 ((S.get i) / 2 ^ (8 * (3 - j)) : Nat), .int .u8 ((((S.get i) / 2 ^ (8 * (3 - j))) % 256 : Nat) : Int), .nilIface, .int .i64 (j + 1 : Nat)] : Array Value).getD q9 Z9), rfl, rfl, M, (by omega), (by rw [show Lib.byteCells = bcells from rfl, out_step S hi hj] at IB; exact IB), HB9⟩
  omega
 have hq : q < 8 := of_decide_eq_true hc27
 refine Z11 rfl ?_
 refine wp_skip ?_
 refine hK26 _ _ ?_
 refine Z10 (fun K72 hK72 => ?_)
 refine wp_block ?_
 refine Z10 (fun K73 hK73 => Z13 ?_)
 refine lMv (v := .int .i64 q) ?_
 refine lAs (v := .int .i64 q) ?_
 simp only [Z0, Z6]
 refine lNp (hK73 _ _ ?_)
 refine Z13 ?_
 refine lMv (v := .slice (some ⟨g12, 0, none⟩) (1 + (119 - b.length) % 64 + 8) (1 + (119 - b.length) % 64 + 8)) ?_
 refine lMv (v := .slice (some ⟨g12, 0, none⟩) (1 + (119 - b.length) % 64 + 8) (1 + (119 - b.length) % 64 + 8)) ?_
 simp only [Z0, Z6]
 refine lCh 10 (fun Lk hLk => ?_)
 refine wpV_lenA (n := 1 + (119 - b.length) % 64 + 8) (by rfl) rfl rfl rfl U929 ?_
 simp only [Z0, Z6]
 refine vBn (v := .int .i64 ((1 + (119 - b.length) % 64 + 8) - 1 : Nat)) (hr := fun W => run_sub (by simp only [IntKind.wrap_i64]; omega) W) ?_
 simp only [Z0, Z6]
 refine vMv (v := .int .i64 q) ?_
 simp only [Z0, Z6]
 refine vBn (v := .int .i64 ((((1 + (119 - b.length) % 64 + 8) - 1) - q : Nat) : Int)) (hr := fun W => run_sub (by simp only [IntKind.wrap_i64]; omega) W) ?_
 simp only [Z0, Z6]
 refine vMv (v := .int .u64 ((n * 8) % 18446744073709551616 : Nat)) ?_
 simp only [Z0, Z6]
 refine vMv (v := .int .i64 q) ?_
 simp only [Z0, Z6]
 refine vBn (v := .int .i64 (8 * q : Nat)) (hr := fun W => run_mul (by simp only [IntKind.wrap_i64]; omega) W) ?_
 simp only [Z0, Z6]
 refine vBn (v := .int .u64 (((n * 8) % 18446744073709551616) / 2 ^ (8 * q) : Nat)) (hr := fun W => nr_shr64 (x := (n * 8) % 18446744073709551616) (n := 8 * q) (by omega) W) ?_
 simp only [Z0, Z6]
 refine wpV_conv (d := .bool) (e := (((((n * 8) % 18446744073709551616) / 2 ^ (8 * q)) % 256 : Nat) : Int)) (by rfl) rfl rfl (run_conv_int U940 U95 (wrap_u8N _)) ?_
 simp only [Z0, Z6]
 refine wpV_idxs (n := ((1 + (119 - b.length) % 64 + 8) - 1) - q) (by rfl) rfl rfl rfl U929 info5 (by omega) ?_
 simp only [Z2]
 simp only [Z0, Z6]
 refine Z19 (hLk _ (fun w76 Sw76 => ?_))
 simp only [Z7, Z8]
 replace M := M.sees Sw76
 refine lS1 (g := g12) (off := ((1 + (119 - b.length) % 64 + 8) - 1) - q) (n := 1 + (119 - b.length) % 64 + 8) (v := .int .u8 (((((n * 8) % 18446744073709551616) / 2 ^ (8 * q)) % 256 : Nat) : Int)) (M.t 0 rfl) (by omega) info5 rfl (fun w77 P R T => ?_)
 replace M := M.put1 (j := ((1 + (119 - b.length) % 64 + 8) - 1) - q) 0 rfl P R T (Z2 _).symm
 simp only [Z6] at M
 rw [tail_step _ _ hq] at M
 refine lNp (hK72 _ _ ?_)
 refine Z13 ?_
 refine lCh 1 (fun Lk hLk => ?_)
 refine vBn (v := .int .i64 (q + 1 : Nat)) (hr := fun W => run_add (by simp only [IntKind.wrap_i64]; omega) W) ?_
 simp only [Z0, Z6]
 refine Z19 (hLk _ (fun w79 Sw79 => ?_))
 simp only [Z7, Z8]
 replace M := M.sees Sw79
 refine lMv (v := .int .i64 (q + 1 : Nat)) ?_
 simp only [Z0, Z6]
 refine Z14 (Z15 ?_)
 refine Exists.intro _ ⟨?_, (q + 1), (fun q9 => (#[Z9, Z9, Z9, Z9, Z9, Z9, .int .i64 q, Z9, Z9, Z9, Z9, Z9, Z9, Z9, Z9, Z9, Z9, Z9, Z9, Z9, Z9, Z9, Z9, Z9, Z9, Z9, Z9, Z9, Z9, Z9, Z9, Z9, .bool true, .int .i64 q, .slice (some ⟨g12, 0, none⟩) (1 + (119 - b.length) % 64 + 8) (1 + (119 - b.length) % 64 + 8), .slice (some ⟨g12, 0, none⟩) (1 + (119 - b.length) % 64 + 8) (1 + (119 - b.length) % 64 + 8), .int .i64 (1 + (119 - b.length) % 64 + 8 : Nat), .int .i64 ((1 + (119 - b.length) % 64 + 8) - 1 : Nat), .int .i64 q, .int .i64 ((((1 + (119 - b.length) % 64 + 8) - 1) - q : Nat) : Int), .int .u64 ((n * 8) % 18446744073709551616 : Nat), .int .i64 q, .int .i64 (8 * q : Nat), .int .u64 (((n * 8) % 18446744073709551616) / 2 ^ (8 * q) : Nat), .int .u8 (((((n * 8) % 18446744073709551616) / 2 ^ (8 * q)) % 256 : Nat) : Int), .pointer (some ⟨g12, ((1 + (119 - b.length) % 64 + 8) - 1) - q, none⟩), .int .i64 (q + 1 : Nat)] : Array Value).getD q9 Z9), rfl, rfl, M, (by omega)⟩
 omega
end Go.Proofs.Yc

