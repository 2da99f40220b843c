import Derived.Test.YticdlngpljdhkaaF18
import Derived.Test.YticdlngpljdhkaaNumL
set_option linter.unusedSimpArgs false
set_option linter.unusedVariables false
namespace Go.Proofs.Ya
open Go Go.RowKit Go.Shelf Go.Proofs.Num
set_option maxHeartbeats 4000000 in
theorem srules_c {x : Nat} (hx : x < 2 ^ 256) {y : Nat} (hy : y < 2 ^ 256) {z : Nat} (hz : z < 2 ^ 256) {w : World}  :
    Calls Try.prog 3 #[fe x, fe y, fe z] w fun e w' => e = .returned (.bool true) ∧ Below w.heap.size w w' := by
  go_enter Try.func3, Try.ntmps3
  have BE := Below.refl w.heap.size w
  refine wp_seq_k (fun K1 hK1 => ?_)
  refine wp_region_plain 3 (by kernel_rfl) (fun Lk hLk => ?_)
  simp only [List.take_succ_cons, List.take_zero, List.drop_succ_cons, List.drop_zero]
  refine wpV_alloc (by rfl) ?_
  refine wpV_alloc (by rfl) ?_
  refine wpV_alloc (by rfl) ?_
  refine wpV_nil (hLk.out _ ?_)
  clear hLk Lk
  simp only [List.take_succ_cons, List.take_zero, List.drop_succ_cons, List.drop_zero]
  refine wpN_new (t := 24) (cs := (fel x).toArray) (by rfl) (fun W => ?_) (fun g3 Hg3 ng3 => ?_)
  · (first | rfl | go_simp)
  refine wpN_new (t := 24) (cs := (fel y).toArray) (by rfl) (fun W => ?_) (fun g4 Hg4 ng4 => ?_)
  · (first | rfl | go_simp)
  refine wpN_new (t := 24) (cs := (fel z).toArray) (by rfl) (fun W => ?_) (fun g5 Hg5 ng5 => ?_)
  · (first | rfl | go_simp)
  simp only [Act.put, List.setIfInBounds_toArray, List.set_cons_zero, List.set_cons_succ]
  refine wpN_nil (fun w6 Sw6 hbs => ?_)
  have Bg3 : Blk w6 g3 24 (fel x).toArray := hbs _ (List.mem_cons_of_mem _ (List.mem_cons_of_mem _ (List.mem_cons_self ..)))
  have Bg4 : Blk w6 g4 24 (fel y).toArray := hbs _ (List.mem_cons_of_mem _ (List.mem_cons_self ..))
  have Bg5 : Blk w6 g5 24 (fel z).toArray := hbs _ (List.mem_cons_self ..)
  clear hbs
  have Gg3 : w.heap.size ≤ g3 := Nat.le_trans BE.size Hg3
  have Ng3_g4 : g3 ≠ g4 := ng4 (g3, _, _) (List.mem_cons_self ..)
  have Gg4 : w.heap.size ≤ g4 := Nat.le_trans BE.size Hg4
  have Ng3_g5 : g3 ≠ g5 := ng5 (g3, _, _) (List.mem_cons_of_mem _ (List.mem_cons_self ..))
  have Ng4_g5 : g4 ≠ g5 := ng5 (g4, _, _) (List.mem_cons_self ..)
  have Gg5 : w.heap.size ≤ g5 := Nat.le_trans BE.size Hg5
  replace BE := BE.trans (Sw6.2.2.mono BE.size)
  have Tg3 := blk_there Bg3 (n := 4) (by simp [flen])
  have Rg3_0 := blk_range Bg3 (l := fel x) rfl
  have Lg3 := Bg3.lt
  have Tg4 := blk_there Bg4 (n := 4) (by simp [flen])
  have Rg4_0 := blk_range Bg4 (l := fel y) rfl
  have Lg4 := Bg4.lt
  have Tg5 := blk_there Bg5 (n := 4) (by simp [flen])
  have Rg5_0 := blk_range Bg5 (l := fel z) rfl
  have Lg5 := Bg5.lt
  clear ng3 ng4 ng5 Bg3 Bg4 Bg5
  refine wpL_assign (v := .bool false) (by rfl) (by rfl) (by rfl) ?_
  simp only [Act.put, List.setIfInBounds_toArray, List.set_cons_zero, List.set_cons_succ]
  refine wpL_nil (no_panic ?_)
  refine hK1 _ _ ?_
  refine wp_seq_k (fun K7 hK7 => ?_)
  refine wp_region_plain 0 (by kernel_rfl) (fun Lk hLk => ?_)
  simp only [List.take_succ_cons, List.take_zero, List.drop_succ_cons, List.drop_zero]
  refine wpV_nil (hLk.out _ ?_)
  clear hLk Lk
  simp only [List.take_succ_cons, List.take_zero, List.drop_succ_cons, List.drop_zero]
  refine wpN_nil (fun w9 Sw9 hbs => ?_)
  clear hbs
  replace Rg3_0 := range_sees Rg3_0 Lg3 Sw9
  replace Tg3 := there_sees Tg3 Lg3 Sw9
  replace Rg4_0 := range_sees Rg4_0 Lg4 Sw9
  replace Tg4 := there_sees Tg4 Lg4 Sw9
  replace Rg5_0 := range_sees Rg5_0 Lg5 Sw9
  replace Tg5 := there_sees Tg5 Lg5 Sw9
  replace Lg3 := Nat.lt_of_lt_of_le Lg3 Sw9.2.2.size
  replace Lg4 := Nat.lt_of_lt_of_le Lg4 Sw9.2.2.size
  replace Lg5 := Nat.lt_of_lt_of_le Lg5 Sw9.2.2.size
  replace BE := BE.trans (Sw9.2.2.mono BE.size)
  refine wpL_assign (v := .func (.func 14) #[] #[]) (by rfl) (by rfl) (by rfl) ?_
  simp only [Act.put, List.setIfInBounds_toArray, List.set_cons_zero, List.set_cons_succ]
  refine wpL_assign (v := .func (.func 15) #[] #[]) (by rfl) (by rfl) (by rfl) ?_
  simp only [Act.put, List.setIfInBounds_toArray, List.set_cons_zero, List.set_cons_succ]
  refine wpL_nil (no_panic ?_)
  refine hK7 _ _ ?_
  refine wp_seq_k (fun K10 hK10 => ?_)
  refine wp_seq_k (fun K11 hK11 => ?_)
  refine wp_region_grow 58 [] (by kernel_rfl) (by kernel_rfl) (by kernel_rfl) (fun Lk hLk => ?_)
  simp only [List.take_succ_cons, List.take_zero, List.drop_succ_cons, List.drop_zero]
  refine wpV_move (v := .func (.func 14) #[] #[]) (by rfl) rfl rfl ?_
  simp only [Act.put, List.setIfInBounds_toArray, List.set_cons_zero, List.set_cons_succ]
  refine wpV_load (cs := fel x) (by rfl) rfl rfl Rg3_0 Lg3 Try.underlying24 rfl info24 ?_
  simp only [Act.put, List.setIfInBounds_toArray, List.set_cons_zero, List.set_cons_succ]
  refine wpV_load (cs := fel y) (by rfl) rfl rfl Rg4_0 Lg4 Try.underlying24 rfl info24 ?_
  simp only [Act.put, List.setIfInBounds_toArray, List.set_cons_zero, List.set_cons_succ]
  refine wpV_callv (v := fe (sadd x y)) (args := #[fe x, fe y]) (by rfl) rfl rfl Try.func14 (by kernel_rfl) (by kernel_rfl) rfl (fun W hW => sadd_c hx hy W) ?_
  simp only [Act.put, List.setIfInBounds_toArray, List.set_cons_zero, List.set_cons_succ]
  refine wpV_move (v := .func (.func 14) #[] #[]) (by rfl) rfl rfl ?_
  simp only [Act.put, List.setIfInBounds_toArray, List.set_cons_zero, List.set_cons_succ]
  refine wpV_load (cs := fel y) (by rfl) rfl rfl Rg4_0 Lg4 Try.underlying24 rfl info24 ?_
  simp only [Act.put, List.setIfInBounds_toArray, List.set_cons_zero, List.set_cons_succ]
  refine wpV_load (cs := fel x) (by rfl) rfl rfl Rg3_0 Lg3 Try.underlying24 rfl info24 ?_
  simp only [Act.put, List.setIfInBounds_toArray, List.set_cons_zero, List.set_cons_succ]
  refine wpV_callv (v := fe (sadd y x)) (args := #[fe y, fe x]) (by rfl) rfl rfl Try.func14 (by kernel_rfl) (by kernel_rfl) rfl (fun W hW => sadd_c hy hx W) ?_
  simp only [Act.put, List.setIfInBounds_toArray, List.set_cons_zero, List.set_cons_succ]
  refine wpV_val (v := .bool false) (by rfl) (by rfl) (fun W hW => ?_) ?_
  · exact (decide_eq_false (fun h => h (sadd_comm x y)) : decide (sadd x y ≠ sadd y x) = false) ▸ run_neq_fe (sadd_lt ..) (sadd_lt ..) Try.underlying24 Try.underlying22 info22 (by kernel_rfl) rfl rfl rfl W
  simp only [Act.put, List.setIfInBounds_toArray, List.set_cons_zero, List.set_cons_succ]
  refine wpV_move (v := .bool false) (by rfl) rfl rfl ?_
  simp only [Act.put, List.setIfInBounds_toArray, List.set_cons_zero, List.set_cons_succ]
  refine wpV_move (v := .func (.func 15) #[] #[]) (by rfl) rfl rfl ?_
  simp only [Act.put, List.setIfInBounds_toArray, List.set_cons_zero, List.set_cons_succ]
  refine wpV_load (cs := fel x) (by rfl) rfl rfl Rg3_0 Lg3 Try.underlying24 rfl info24 ?_
  simp only [Act.put, List.setIfInBounds_toArray, List.set_cons_zero, List.set_cons_succ]
  refine wpV_load (cs := fel y) (by rfl) rfl rfl Rg4_0 Lg4 Try.underlying24 rfl info24 ?_
  simp only [Act.put, List.setIfInBounds_toArray, List.set_cons_zero, List.set_cons_succ]
  refine wpV_callv (v := fe (smul x y)) (args := #[fe x, fe y]) (by rfl) rfl rfl Try.func15 (by kernel_rfl) (by kernel_rfl) rfl (fun W hW => smul_c hx hy W) ?_
  simp only [Act.put, List.setIfInBounds_toArray, List.set_cons_zero, List.set_cons_succ]
  refine wpV_move (v := .func (.func 15) #[] #[]) (by rfl) rfl rfl ?_
  simp only [Act.put, List.setIfInBounds_toArray, List.set_cons_zero, List.set_cons_succ]
  refine wpV_load (cs := fel y) (by rfl) rfl rfl Rg4_0 Lg4 Try.underlying24 rfl info24 ?_
  simp only [Act.put, List.setIfInBounds_toArray, List.set_cons_zero, List.set_cons_succ]
  refine wpV_load (cs := fel x) (by rfl) rfl rfl Rg3_0 Lg3 Try.underlying24 rfl info24 ?_
  simp only [Act.put, List.setIfInBounds_toArray, List.set_cons_zero, List.set_cons_succ]
  refine wpV_callv (v := fe (smul y x)) (args := #[fe y, fe x]) (by rfl) rfl rfl Try.func15 (by kernel_rfl) (by kernel_rfl) rfl (fun W hW => smul_c hy hx W) ?_
  simp only [Act.put, List.setIfInBounds_toArray, List.set_cons_zero, List.set_cons_succ]
  refine wpV_val (v := .bool false) (by rfl) (by rfl) (fun W hW => ?_) ?_
  · exact (decide_eq_false (fun h => h (smul_comm x y)) : decide (smul x y ≠ smul y x) = false) ▸ run_neq_fe (smul_lt ..) (smul_lt ..) Try.underlying24 Try.underlying22 info22 (by kernel_rfl) rfl rfl rfl W
  simp only [Act.put, List.setIfInBounds_toArray, List.set_cons_zero, List.set_cons_succ]
  refine wpV_pick (v := .bool false) (by rfl) rfl rfl rfl ?_
  simp only [Act.put, List.setIfInBounds_toArray, List.set_cons_zero, List.set_cons_succ]
  refine wpV_move (v := .bool false) (by rfl) rfl rfl ?_
  simp only [Act.put, List.setIfInBounds_toArray, List.set_cons_zero, List.set_cons_succ]
  refine wpV_move (v := .func (.func 14) #[] #[]) (by rfl) rfl rfl ?_
  simp only [Act.put, List.setIfInBounds_toArray, List.set_cons_zero, List.set_cons_succ]
  refine wpV_move (v := .func (.func 14) #[] #[]) (by rfl) rfl rfl ?_
  simp only [Act.put, List.setIfInBounds_toArray, List.set_cons_zero, List.set_cons_succ]
  refine wpV_load (cs := fel x) (by rfl) rfl rfl Rg3_0 Lg3 Try.underlying24 rfl info24 ?_
  simp only [Act.put, List.setIfInBounds_toArray, List.set_cons_zero, List.set_cons_succ]
  refine wpV_load (cs := fel y) (by rfl) rfl rfl Rg4_0 Lg4 Try.underlying24 rfl info24 ?_
  simp only [Act.put, List.setIfInBounds_toArray, List.set_cons_zero, List.set_cons_succ]
  refine wpV_callv (v := fe (sadd x y)) (args := #[fe x, fe y]) (by rfl) rfl rfl Try.func14 (by kernel_rfl) (by kernel_rfl) rfl (fun W hW => sadd_c hx hy W) ?_
  simp only [Act.put, List.setIfInBounds_toArray, List.set_cons_zero, List.set_cons_succ]
  refine wpV_load (cs := fel z) (by rfl) rfl rfl Rg5_0 Lg5 Try.underlying24 rfl info24 ?_
  simp only [Act.put, List.setIfInBounds_toArray, List.set_cons_zero, List.set_cons_succ]
  refine wpV_callv (v := fe (sadd (sadd x y) z)) (args := #[fe (sadd x y), fe z]) (by rfl) rfl rfl Try.func14 (by kernel_rfl) (by kernel_rfl) rfl (fun W hW => sadd_c (sadd_lt ..) hz W) ?_
  simp only [Act.put, List.setIfInBounds_toArray, List.set_cons_zero, List.set_cons_succ]
  refine wpV_move (v := .func (.func 14) #[] #[]) (by rfl) rfl rfl ?_
  simp only [Act.put, List.setIfInBounds_toArray, List.set_cons_zero, List.set_cons_succ]
  refine wpV_load (cs := fel x) (by rfl) rfl rfl Rg3_0 Lg3 Try.underlying24 rfl info24 ?_
  simp only [Act.put, List.setIfInBounds_toArray, List.set_cons_zero, List.set_cons_succ]
  refine wpV_move (v := .func (.func 14) #[] #[]) (by rfl) rfl rfl ?_
  simp only [Act.put, List.setIfInBounds_toArray, List.set_cons_zero, List.set_cons_succ]
  refine wpV_load (cs := fel y) (by rfl) rfl rfl Rg4_0 Lg4 Try.underlying24 rfl info24 ?_
  simp only [Act.put, List.setIfInBounds_toArray, List.set_cons_zero, List.set_cons_succ]
  refine wpV_load (cs := fel z) (by rfl) rfl rfl Rg5_0 Lg5 Try.underlying24 rfl info24 ?_
  simp only [Act.put, List.setIfInBounds_toArray, List.set_cons_zero, List.set_cons_succ]
  refine wpV_callv (v := fe (sadd y z)) (args := #[fe y, fe z]) (by rfl) rfl rfl Try.func14 (by kernel_rfl) (by kernel_rfl) rfl (fun W hW => sadd_c hy hz W) ?_
  simp only [Act.put, List.setIfInBounds_toArray, List.set_cons_zero, List.set_cons_succ]
  refine wpV_callv (v := fe (sadd x (sadd y z))) (args := #[fe x, fe (sadd y z)]) (by rfl) rfl rfl Try.func14 (by kernel_rfl) (by kernel_rfl) rfl (fun W hW => sadd_c hx (sadd_lt ..) W) ?_
  simp only [Act.put, List.setIfInBounds_toArray, List.set_cons_zero, List.set_cons_succ]
  refine wpV_val (v := .bool false) (by rfl) (by rfl) (fun W hW => ?_) ?_
  · exact (decide_eq_false (fun h => h (sadd_assoc x y z)) : decide (sadd (sadd x y) z ≠ sadd x (sadd y z)) = false) ▸ run_neq_fe (sadd_lt ..) (sadd_lt ..) Try.underlying24 Try.underlying22 info22 (by kernel_rfl) rfl rfl rfl W
  simp only [Act.put, List.setIfInBounds_toArray, List.set_cons_zero, List.set_cons_succ]
  refine wpV_pick (v := .bool false) (by rfl) rfl rfl rfl ?_
  simp only [Act.put, List.setIfInBounds_toArray, List.set_cons_zero, List.set_cons_succ]
  refine wpV_move (v := .bool false) (by rfl) rfl rfl ?_
  simp only [Act.put, List.setIfInBounds_toArray, List.set_cons_zero, List.set_cons_succ]
  refine wpV_move (v := .func (.func 15) #[] #[]) (by rfl) rfl rfl ?_
  simp only [Act.put, List.setIfInBounds_toArray, List.set_cons_zero, List.set_cons_succ]
  refine wpV_move (v := .func (.func 15) #[] #[]) (by rfl) rfl rfl ?_
  simp only [Act.put, List.setIfInBounds_toArray, List.set_cons_zero, List.set_cons_succ]
  refine wpV_load (cs := fel x) (by rfl) rfl rfl Rg3_0 Lg3 Try.underlying24 rfl info24 ?_
  simp only [Act.put, List.setIfInBounds_toArray, List.set_cons_zero, List.set_cons_succ]
  refine wpV_load (cs := fel y) (by rfl) rfl rfl Rg4_0 Lg4 Try.underlying24 rfl info24 ?_
  simp only [Act.put, List.setIfInBounds_toArray, List.set_cons_zero, List.set_cons_succ]
  refine wpV_callv (v := fe (smul x y)) (args := #[fe x, fe y]) (by rfl) rfl rfl Try.func15 (by kernel_rfl) (by kernel_rfl) rfl (fun W hW => smul_c hx hy W) ?_
  simp only [Act.put, List.setIfInBounds_toArray, List.set_cons_zero, List.set_cons_succ]
  refine wpV_load (cs := fel z) (by rfl) rfl rfl Rg5_0 Lg5 Try.underlying24 rfl info24 ?_
  simp only [Act.put, List.setIfInBounds_toArray, List.set_cons_zero, List.set_cons_succ]
  refine wpV_callv (v := fe (smul (smul x y) z)) (args := #[fe (smul x y), fe z]) (by rfl) rfl rfl Try.func15 (by kernel_rfl) (by kernel_rfl) rfl (fun W hW => smul_c (smul_lt ..) hz W) ?_
  simp only [Act.put, List.setIfInBounds_toArray, List.set_cons_zero, List.set_cons_succ]
  refine wpV_move (v := .func (.func 15) #[] #[]) (by rfl) rfl rfl ?_
  simp only [Act.put, List.setIfInBounds_toArray, List.set_cons_zero, List.set_cons_succ]
  refine wpV_load (cs := fel x) (by rfl) rfl rfl Rg3_0 Lg3 Try.underlying24 rfl info24 ?_
  simp only [Act.put, List.setIfInBounds_toArray, List.set_cons_zero, List.set_cons_succ]
  refine wpV_move (v := .func (.func 15) #[] #[]) (by rfl) rfl rfl ?_
  simp only [Act.put, List.setIfInBounds_toArray, List.set_cons_zero, List.set_cons_succ]
  refine wpV_load (cs := fel y) (by rfl) rfl rfl Rg4_0 Lg4 Try.underlying24 rfl info24 ?_
  simp only [Act.put, List.setIfInBounds_toArray, List.set_cons_zero, List.set_cons_succ]
  refine wpV_load (cs := fel z) (by rfl) rfl rfl Rg5_0 Lg5 Try.underlying24 rfl info24 ?_
  simp only [Act.put, List.setIfInBounds_toArray, List.set_cons_zero, List.set_cons_succ]
  refine wpV_callv (v := fe (smul y z)) (args := #[fe y, fe z]) (by rfl) rfl rfl Try.func15 (by kernel_rfl) (by kernel_rfl) rfl (fun W hW => smul_c hy hz W) ?_
  simp only [Act.put, List.setIfInBounds_toArray, List.set_cons_zero, List.set_cons_succ]
  refine wpV_callv (v := fe (smul x (smul y z))) (args := #[fe x, fe (smul y z)]) (by rfl) rfl rfl Try.func15 (by kernel_rfl) (by kernel_rfl) rfl (fun W hW => smul_c hx (smul_lt ..) W) ?_
  simp only [Act.put, List.setIfInBounds_toArray, List.set_cons_zero, List.set_cons_succ]
  refine wpV_val (v := .bool false) (by rfl) (by rfl) (fun W hW => ?_) ?_
  · exact (decide_eq_false (fun h => h (smul_assoc x y z)) : decide (smul (smul x y) z ≠ smul x (smul y z)) = false) ▸ run_neq_fe (smul_lt ..) (smul_lt ..) Try.underlying24 Try.underlying22 info22 (by kernel_rfl) rfl rfl rfl W
  simp only [Act.put, List.setIfInBounds_toArray, List.set_cons_zero, List.set_cons_succ]
  refine wpV_pick (v := .bool false) (by rfl) rfl rfl rfl ?_
  simp only [Act.put, List.setIfInBounds_toArray, List.set_cons_zero, List.set_cons_succ]
  refine wpV_move (v := .bool false) (by rfl) rfl rfl ?_
  simp only [Act.put, List.setIfInBounds_toArray, List.set_cons_zero, List.set_cons_succ]
  refine wpV_callf (v := .bool true) (args := #[]) (by rfl) rfl Try.func16 (by kernel_rfl) (by kernel_rfl) rfl (fun W hW => alive05_c) ?_
  simp only [Act.put, List.setIfInBounds_toArray, List.set_cons_zero, List.set_cons_succ]
  refine wpV_not (b := true) (by rfl) rfl rfl ?_
  simp only [Bool.not_true, Bool.not_false]
  simp only [Act.put, List.setIfInBounds_toArray, List.set_cons_zero, List.set_cons_succ]
  refine wpV_pick (v := .bool false) (by rfl) rfl rfl rfl ?_
  simp only [Act.put, List.setIfInBounds_toArray, List.set_cons_zero, List.set_cons_succ]
  refine wpV_nil (hLk.out _ ?_)
  clear hLk Lk
  simp only [List.take_succ_cons, List.take_zero, List.drop_succ_cons, List.drop_zero]
  iterate 58 refine wpN_skip (by rfl) ?_
  refine wpN_nil (fun w13 Sw13 hbs => ?_)
  clear hbs
  replace Rg3_0 := range_sees Rg3_0 Lg3 Sw13
  replace Tg3 := there_sees Tg3 Lg3 Sw13
  replace Rg4_0 := range_sees Rg4_0 Lg4 Sw13
  replace Tg4 := there_sees Tg4 Lg4 Sw13
  replace Rg5_0 := range_sees Rg5_0 Lg5 Sw13
  replace Tg5 := there_sees Tg5 Lg5 Sw13
  replace Lg3 := Nat.lt_of_lt_of_le Lg3 Sw13.2.2.size
  replace Lg4 := Nat.lt_of_lt_of_le Lg4 Sw13.2.2.size
  replace Lg5 := Nat.lt_of_lt_of_le Lg5 Sw13.2.2.size
  replace BE := BE.trans (Sw13.2.2.mono BE.size)
  refine wpL_nil (no_panic ?_)
  refine hK11 _ _ ?_
  refine wp_cond_false rfl ?_
  refine wp_skip ?_
  refine hK10 _ _ ?_
  refine wp_seq_k (fun K14 hK14 => ?_)
  refine wp_region_plain 2 (by kernel_rfl) (fun Lk hLk => ?_)
  simp only [List.take_succ_cons, List.take_zero, List.drop_succ_cons, List.drop_zero]
  refine wpV_val (v := fe 7237005577332262213973186563042994240857116359379907606001950938285454250989) (by rfl) (by rfl) (fun W hW => ?_) ?_
  · rw [show fe 7237005577332262213973186563042994240857116359379907606001950938285454250989 = .agg ([.int .u64 6346243789798364141, .int .u64 1503914060200516822, .int .u64 0, .int .u64 1152921504606846976]).toArray from (by kernel_rfl)]; unfold RunsVal; kernel_rfl
  simp only [Act.put, List.setIfInBounds_toArray, List.set_cons_zero, List.set_cons_succ]
  refine wpV_alloc (by rfl) ?_
  refine wpV_nil (hLk.out _ ?_)
  clear hLk Lk
  simp only [List.take_succ_cons, List.take_zero, List.drop_succ_cons, List.drop_zero]
  iterate 1 refine wpN_skip (by rfl) ?_
  refine wpN_new (t := 24) (cs := ([.int .u64 0, .int .u64 0, .int .u64 0, .int .u64 0]).toArray) (by rfl) (fun W => ?_) (fun g16 Hg16 ng16 => ?_)
  · go_simp
  simp only [Act.put, List.setIfInBounds_toArray, List.set_cons_zero, List.set_cons_succ]
  refine wpN_nil (fun w17 Sw17 hbs => ?_)
  have Bg16 : Blk w17 g16 24 ([.int .u64 0, .int .u64 0, .int .u64 0, .int .u64 0]).toArray := hbs _ (List.mem_cons_self ..)
  clear hbs
  have Ng3_g16 : g3 ≠ g16 := Nat.ne_of_lt (Nat.lt_of_lt_of_le Lg3 Hg16)
  have Ng4_g16 : g4 ≠ g16 := Nat.ne_of_lt (Nat.lt_of_lt_of_le Lg4 Hg16)
  have Ng5_g16 : g5 ≠ g16 := Nat.ne_of_lt (Nat.lt_of_lt_of_le Lg5 Hg16)
  have Gg16 : w.heap.size ≤ g16 := Nat.le_trans BE.size Hg16
  replace Rg3_0 := range_sees Rg3_0 Lg3 Sw17
  replace Tg3 := there_sees Tg3 Lg3 Sw17
  replace Rg4_0 := range_sees Rg4_0 Lg4 Sw17
  replace Tg4 := there_sees Tg4 Lg4 Sw17
  replace Rg5_0 := range_sees Rg5_0 Lg5 Sw17
  replace Tg5 := there_sees Tg5 Lg5 Sw17
  replace Lg3 := Nat.lt_of_lt_of_le Lg3 Sw17.2.2.size
  replace Lg4 := Nat.lt_of_lt_of_le Lg4 Sw17.2.2.size
  replace Lg5 := Nat.lt_of_lt_of_le Lg5 Sw17.2.2.size
  replace BE := BE.trans (Sw17.2.2.mono BE.size)
  have Tg16 := blk_there Bg16 (n := 4) (by simp [flen])
  have Rg16_0 := blk_range Bg16 (l := [.int .u64 0, .int .u64 0, .int .u64 0, .int .u64 0]) rfl
  have Lg16 := Bg16.lt
  clear ng16 Bg16
  refine wpL_store (g := g16) (off := 0) (n := 4) (cs := fel 7237005577332262213973186563042994240857116359379907606001950938285454250989) (by rfl) (by rfl) (by rfl) (by rfl) (by rfl) Tg16 (by simp [flen]) info24 (fel_one _) (fun w18 Pw18 RR TT => ?_)
  replace Rg3_0 := Pw18.range Rg3_0 (.inl Ng3_g16)
  replace Tg3 := Pw18.other_there Tg3 Ng3_g16
  replace Rg4_0 := Pw18.range Rg4_0 (.inl Ng4_g16)
  replace Tg4 := Pw18.other_there Tg4 Ng4_g16
  replace Rg5_0 := Pw18.range Rg5_0 (.inl Ng5_g16)
  replace Tg5 := Pw18.other_there Tg5 Ng5_g16
  replace Rg16_0 := RR
  clear RR
  replace Tg16 := TT
  replace Lg3 := Pw18.lt Lg3
  replace Lg4 := Pw18.lt Lg4
  replace Lg5 := Pw18.lt Lg5
  replace Lg16 := Pw18.lt Lg16
  replace BE := Pw18.below BE Gg16
  refine wpL_nil (no_panic ?_)
  refine hK14 _ _ ?_
  refine wp_seq_k (fun K19 hK19 => ?_)
  refine wp_region_grow 44 [] (by kernel_rfl) (by kernel_rfl) (by kernel_rfl) (fun Lk hLk => ?_)
  simp only [List.take_succ_cons, List.take_zero, List.drop_succ_cons, List.drop_zero]
  refine wpV_move (v := .func (.func 15) #[] #[]) (by rfl) rfl rfl ?_
  simp only [Act.put, List.setIfInBounds_toArray, List.set_cons_zero, List.set_cons_succ]
  refine wpV_load (cs := fel x) (by rfl) rfl rfl Rg3_0 Lg3 Try.underlying24 rfl info24 ?_
  simp only [Act.put, List.setIfInBounds_toArray, List.set_cons_zero, List.set_cons_succ]
  refine wpV_move (v := .func (.func 14) #[] #[]) (by rfl) rfl rfl ?_
  simp only [Act.put, List.setIfInBounds_toArray, List.set_cons_zero, List.set_cons_succ]
  refine wpV_load (cs := fel y) (by rfl) rfl rfl Rg4_0 Lg4 Try.underlying24 rfl info24 ?_
  simp only [Act.put, List.setIfInBounds_toArray, List.set_cons_zero, List.set_cons_succ]
  refine wpV_load (cs := fel z) (by rfl) rfl rfl Rg5_0 Lg5 Try.underlying24 rfl info24 ?_
  simp only [Act.put, List.setIfInBounds_toArray, List.set_cons_zero, List.set_cons_succ]
  refine wpV_callv (v := fe (sadd y z)) (args := #[fe y, fe z]) (by rfl) rfl rfl Try.func14 (by kernel_rfl) (by kernel_rfl) rfl (fun W hW => sadd_c hy hz W) ?_
  simp only [Act.put, List.setIfInBounds_toArray, List.set_cons_zero, List.set_cons_succ]
  refine wpV_callv (v := fe (smul x (sadd y z))) (args := #[fe x, fe (sadd y z)]) (by rfl) rfl rfl Try.func15 (by kernel_rfl) (by kernel_rfl) rfl (fun W hW => smul_c hx (sadd_lt ..) W) ?_
  simp only [Act.put, List.setIfInBounds_toArray, List.set_cons_zero, List.set_cons_succ]
  refine wpV_move (v := .func (.func 14) #[] #[]) (by rfl) rfl rfl ?_
  simp only [Act.put, List.setIfInBounds_toArray, List.set_cons_zero, List.set_cons_succ]
  refine wpV_move (v := .func (.func 15) #[] #[]) (by rfl) rfl rfl ?_
  simp only [Act.put, List.setIfInBounds_toArray, List.set_cons_zero, List.set_cons_succ]
  refine wpV_load (cs := fel x) (by rfl) rfl rfl Rg3_0 Lg3 Try.underlying24 rfl info24 ?_
  simp only [Act.put, List.setIfInBounds_toArray, List.set_cons_zero, List.set_cons_succ]
  refine wpV_load (cs := fel y) (by rfl) rfl rfl Rg4_0 Lg4 Try.underlying24 rfl info24 ?_
  simp only [Act.put, List.setIfInBounds_toArray, List.set_cons_zero, List.set_cons_succ]
  refine wpV_callv (v := fe (smul x y)) (args := #[fe x, fe y]) (by rfl) rfl rfl Try.func15 (by kernel_rfl) (by kernel_rfl) rfl (fun W hW => smul_c hx hy W) ?_
  simp only [Act.put, List.setIfInBounds_toArray, List.set_cons_zero, List.set_cons_succ]
  refine wpV_move (v := .func (.func 15) #[] #[]) (by rfl) rfl rfl ?_
  simp only [Act.put, List.setIfInBounds_toArray, List.set_cons_zero, List.set_cons_succ]
  refine wpV_load (cs := fel x) (by rfl) rfl rfl Rg3_0 Lg3 Try.underlying24 rfl info24 ?_
  simp only [Act.put, List.setIfInBounds_toArray, List.set_cons_zero, List.set_cons_succ]
  refine wpV_load (cs := fel z) (by rfl) rfl rfl Rg5_0 Lg5 Try.underlying24 rfl info24 ?_
  simp only [Act.put, List.setIfInBounds_toArray, List.set_cons_zero, List.set_cons_succ]
  refine wpV_callv (v := fe (smul x z)) (args := #[fe x, fe z]) (by rfl) rfl rfl Try.func15 (by kernel_rfl) (by kernel_rfl) rfl (fun W hW => smul_c hx hz W) ?_
  simp only [Act.put, List.setIfInBounds_toArray, List.set_cons_zero, List.set_cons_succ]
  refine wpV_callv (v := fe (sadd (smul x y) (smul x z))) (args := #[fe (smul x y), fe (smul x z)]) (by rfl) rfl rfl Try.func14 (by kernel_rfl) (by kernel_rfl) rfl (fun W hW => sadd_c (smul_lt ..) (smul_lt ..) W) ?_
  simp only [Act.put, List.setIfInBounds_toArray, List.set_cons_zero, List.set_cons_succ]
  refine wpV_val (v := .bool true) (by rfl) (by rfl) (fun W hW => ?_) ?_
  · exact (decide_eq_true (smul_add x y z) : decide (smul x (sadd y z) = sadd (smul x y) (smul x z)) = true) ▸ run_eql_fe (smul_lt ..) (sadd_lt ..) Try.underlying24 Try.underlying22 info22 (by kernel_rfl) rfl rfl rfl W
  simp only [Act.put, List.setIfInBounds_toArray, List.set_cons_zero, List.set_cons_succ]
  refine wpV_move (v := .bool true) (by rfl) rfl rfl ?_
  simp only [Act.put, List.setIfInBounds_toArray, List.set_cons_zero, List.set_cons_succ]
  refine wpV_move (v := .func (.func 15) #[] #[]) (by rfl) rfl rfl ?_
  simp only [Act.put, List.setIfInBounds_toArray, List.set_cons_zero, List.set_cons_succ]
  refine wpV_load (cs := fel x) (by rfl) rfl rfl Rg3_0 Lg3 Try.underlying24 rfl info24 ?_
  simp only [Act.put, List.setIfInBounds_toArray, List.set_cons_zero, List.set_cons_succ]
  refine wpV_load (cs := fel 7237005577332262213973186563042994240857116359379907606001950938285454250989) (by rfl) rfl rfl Rg16_0 Lg16 Try.underlying24 rfl info24 ?_
  simp only [Act.put, List.setIfInBounds_toArray, List.set_cons_zero, List.set_cons_succ]
  refine wpV_callv (v := fe (smul x 7237005577332262213973186563042994240857116359379907606001950938285454250989)) (args := #[fe x, fe 7237005577332262213973186563042994240857116359379907606001950938285454250989]) (by rfl) rfl rfl Try.func15 (by kernel_rfl) (by kernel_rfl) rfl (fun W hW => smul_c hx (by decide) W) ?_
  simp only [Act.put, List.setIfInBounds_toArray, List.set_cons_zero, List.set_cons_succ]
  refine wpV_val (v := fe 0) (by rfl) (by rfl) (fun W hW => ?_) ?_
  · rw [show fe 0 = .agg ([.int .u64 0, .int .u64 0, .int .u64 0, .int .u64 0]).toArray from (by kernel_rfl)]; unfold RunsVal; kernel_rfl
  simp only [Act.put, List.setIfInBounds_toArray, List.set_cons_zero, List.set_cons_succ]
  refine wpV_val (v := .bool true) (by rfl) (by rfl) (fun W hW => ?_) ?_
  · exact (decide_eq_true (smul_order x) : decide (smul x 7237005577332262213973186563042994240857116359379907606001950938285454250989 = 0) = true) ▸ run_eql_fe (smul_lt ..) (by decide) Try.underlying24 Try.underlying22 info22 (by kernel_rfl) rfl rfl rfl W
  simp only [Act.put, List.setIfInBounds_toArray, List.set_cons_zero, List.set_cons_succ]
  refine wpV_pick (v := .bool true) (by rfl) rfl rfl rfl ?_
  simp only [Act.put, List.setIfInBounds_toArray, List.set_cons_zero, List.set_cons_succ]
  refine wpV_move (v := .bool true) (by rfl) rfl rfl ?_
  simp only [Act.put, List.setIfInBounds_toArray, List.set_cons_zero, List.set_cons_succ]
  refine wpV_move (v := .func (.func 15) #[] #[]) (by rfl) rfl rfl ?_
  simp only [Act.put, List.setIfInBounds_toArray, List.set_cons_zero, List.set_cons_succ]
  refine wpV_load (cs := fel x) (by rfl) rfl rfl Rg3_0 Lg3 Try.underlying24 rfl info24 ?_
  simp only [Act.put, List.setIfInBounds_toArray, List.set_cons_zero, List.set_cons_succ]
  refine wpV_val (v := fe 1) (by rfl) (by rfl) (fun W hW => ?_) ?_
  · rw [show fe 1 = .agg ([.int .u64 1, .int .u64 0, .int .u64 0, .int .u64 0]).toArray from (by kernel_rfl)]; unfold RunsVal; kernel_rfl
  simp only [Act.put, List.setIfInBounds_toArray, List.set_cons_zero, List.set_cons_succ]
  refine wpV_callv (v := fe (smul x 1)) (args := #[fe x, fe 1]) (by rfl) rfl rfl Try.func15 (by kernel_rfl) (by kernel_rfl) rfl (fun W hW => smul_c hx (by decide) W) ?_
  simp only [Act.put, List.setIfInBounds_toArray, List.set_cons_zero, List.set_cons_succ]
  refine wpV_load (cs := fel x) (by rfl) rfl rfl Rg3_0 Lg3 Try.underlying24 rfl info24 ?_
  simp only [Act.put, List.setIfInBounds_toArray, List.set_cons_zero, List.set_cons_succ]
  refine wpV_callf (v := fe (restS x)) (args := #[fe x]) (by rfl) rfl Try.func17 (by kernel_rfl) (by kernel_rfl) rfl (fun W hW => rleast05_c hx) ?_
  simp only [Act.put, List.setIfInBounds_toArray, List.set_cons_zero, List.set_cons_succ]
  refine wpV_val (v := .bool true) (by rfl) (by rfl) (fun W hW => ?_) ?_
  · exact (decide_eq_true (smul_one x) : decide (smul x 1 = restS x) = true) ▸ run_eql_fe (smul_lt ..) (restS_lt _) Try.underlying24 Try.underlying22 info22 (by kernel_rfl) rfl rfl rfl W
  simp only [Act.put, List.setIfInBounds_toArray, List.set_cons_zero, List.set_cons_succ]
  refine wpV_pick (v := .bool true) (by rfl) rfl rfl rfl ?_
  simp only [Act.put, List.setIfInBounds_toArray, List.set_cons_zero, List.set_cons_succ]
  refine wpV_move (v := .bool true) (by rfl) rfl rfl ?_
  simp only [Act.put, List.setIfInBounds_toArray, List.set_cons_zero, List.set_cons_succ]
  refine wpV_move (v := .func (.func 14) #[] #[]) (by rfl) rfl rfl ?_
  simp only [Act.put, List.setIfInBounds_toArray, List.set_cons_zero, List.set_cons_succ]
  refine wpV_load (cs := fel x) (by rfl) rfl rfl Rg3_0 Lg3 Try.underlying24 rfl info24 ?_
  simp only [Act.put, List.setIfInBounds_toArray, List.set_cons_zero, List.set_cons_succ]
  refine wpV_load (cs := fel 7237005577332262213973186563042994240857116359379907606001950938285454250989) (by rfl) rfl rfl Rg16_0 Lg16 Try.underlying24 rfl info24 ?_
  simp only [Act.put, List.setIfInBounds_toArray, List.set_cons_zero, List.set_cons_succ]
  refine wpV_callv (v := fe (sadd x 7237005577332262213973186563042994240857116359379907606001950938285454250989)) (args := #[fe x, fe 7237005577332262213973186563042994240857116359379907606001950938285454250989]) (by rfl) rfl rfl Try.func14 (by kernel_rfl) (by kernel_rfl) rfl (fun W hW => sadd_c hx (by decide) W) ?_
  simp only [Act.put, List.setIfInBounds_toArray, List.set_cons_zero, List.set_cons_succ]
  refine wpV_load (cs := fel x) (by rfl) rfl rfl Rg3_0 Lg3 Try.underlying24 rfl info24 ?_
  simp only [Act.put, List.setIfInBounds_toArray, List.set_cons_zero, List.set_cons_succ]
  refine wpV_callf (v := fe (restS x)) (args := #[fe x]) (by rfl) rfl Try.func17 (by kernel_rfl) (by kernel_rfl) rfl (fun W hW => rleast05_c hx) ?_
  simp only [Act.put, List.setIfInBounds_toArray, List.set_cons_zero, List.set_cons_succ]
  refine wpV_val (v := .bool true) (by rfl) (by rfl) (fun W hW => ?_) ?_
  · exact (decide_eq_true (sadd_order x) : decide (sadd x 7237005577332262213973186563042994240857116359379907606001950938285454250989 = restS x) = true) ▸ run_eql_fe (sadd_lt ..) (restS_lt _) Try.underlying24 Try.underlying22 info22 (by kernel_rfl) rfl rfl rfl W
  simp only [Act.put, List.setIfInBounds_toArray, List.set_cons_zero, List.set_cons_succ]
  refine wpV_pick (v := .bool true) (by rfl) rfl rfl rfl ?_
  simp only [Act.put, List.setIfInBounds_toArray, List.set_cons_zero, List.set_cons_succ]
  refine wpV_nil (hLk.out _ ?_)
  clear hLk Lk
  simp only [List.take_succ_cons, List.take_zero, List.drop_succ_cons, List.drop_zero]
  iterate 44 refine wpN_skip (by rfl) ?_
  refine wpN_nil (fun w21 Sw21 hbs => ?_)
  clear hbs
  replace Rg3_0 := range_sees Rg3_0 Lg3 Sw21
  replace Tg3 := there_sees Tg3 Lg3 Sw21
  replace Rg4_0 := range_sees Rg4_0 Lg4 Sw21
  replace Tg4 := there_sees Tg4 Lg4 Sw21
  replace Rg5_0 := range_sees Rg5_0 Lg5 Sw21
  replace Tg5 := there_sees Tg5 Lg5 Sw21
  replace Rg16_0 := range_sees Rg16_0 Lg16 Sw21
  replace Tg16 := there_sees Tg16 Lg16 Sw21
  replace Lg3 := Nat.lt_of_lt_of_le Lg3 Sw21.2.2.size
  replace Lg4 := Nat.lt_of_lt_of_le Lg4 Sw21.2.2.size
  replace Lg5 := Nat.lt_of_lt_of_le Lg5 Sw21.2.2.size
  replace Lg16 := Nat.lt_of_lt_of_le Lg16 Sw21.2.2.size
  replace BE := BE.trans (Sw21.2.2.mono BE.size)
  refine wpL_assign (v := .bool true) (by rfl) (by rfl) (by rfl) ?_
  simp only [Act.put, List.setIfInBounds_toArray, List.set_cons_zero, List.set_cons_succ]
  refine wpL_nil (no_panic ?_)
  refine hK19 _ _ ?_
  refine wp_ret ?_
  repeat (first | with_reducible refine then_ret ?_ | with_reducible refine inblock_ret ?_)
  refine bodyPost_ret (v := .bool true) (res1 rfl (.tmp (by rfl))) rfl ?_
  exact ⟨rfl, BE⟩
set_option maxHeartbeats 4000000 in
theorem frules_c {x : Nat} (hx : x < 2 ^ 256) {y : Nat} (hy : y < 2 ^ 256) {z : Nat} (hz : z < 2 ^ 256) {w : World}  :
    Calls Try.prog 7 #[fe x, fe y, fe z] w fun e w' => e = .returned (.bool true) ∧ Below w.heap.size w w' := by
  go_enter Try.func7, Try.ntmps7
  have BE := Below.refl w.heap.size w
  refine wp_seq_k (fun K1 hK1 => ?_)
  refine wp_region_plain 3 (by kernel_rfl) (fun Lk hLk => ?_)
  simp only [List.take_succ_cons, List.take_zero, List.drop_succ_cons, List.drop_zero]
  refine wpV_alloc (by rfl) ?_
  refine wpV_alloc (by rfl) ?_
  refine wpV_alloc (by rfl) ?_
  refine wpV_nil (hLk.out _ ?_)
  clear hLk Lk
  simp only [List.take_succ_cons, List.take_zero, List.drop_succ_cons, List.drop_zero]
  refine wpN_new (t := 34) (cs := (fel x).toArray) (by rfl) (fun W => ?_) (fun g3 Hg3 ng3 => ?_)
  · (first | rfl | go_simp)
  refine wpN_new (t := 34) (cs := (fel y).toArray) (by rfl) (fun W => ?_) (fun g4 Hg4 ng4 => ?_)
  · (first | rfl | go_simp)
  refine wpN_new (t := 34) (cs := (fel z).toArray) (by rfl) (fun W => ?_) (fun g5 Hg5 ng5 => ?_)
  · (first | rfl | go_simp)
  simp only [Act.put, List.setIfInBounds_toArray, List.set_cons_zero, List.set_cons_succ]
  refine wpN_nil (fun w6 Sw6 hbs => ?_)
  have Bg3 : Blk w6 g3 34 (fel x).toArray := hbs _ (List.mem_cons_of_mem _ (List.mem_cons_of_mem _ (List.mem_cons_self ..)))
  have Bg4 : Blk w6 g4 34 (fel y).toArray := hbs _ (List.mem_cons_of_mem _ (List.mem_cons_self ..))
  have Bg5 : Blk w6 g5 34 (fel z).toArray := hbs _ (List.mem_cons_self ..)
  clear hbs
  have Gg3 : w.heap.size ≤ g3 := Nat.le_trans BE.size Hg3
  have Ng3_g4 : g3 ≠ g4 := ng4 (g3, _, _) (List.mem_cons_self ..)
  have Gg4 : w.heap.size ≤ g4 := Nat.le_trans BE.size Hg4
  have Ng3_g5 : g3 ≠ g5 := ng5 (g3, _, _) (List.mem_cons_of_mem _ (List.mem_cons_self ..))
  have Ng4_g5 : g4 ≠ g5 := ng5 (g4, _, _) (List.mem_cons_self ..)
  have Gg5 : w.heap.size ≤ g5 := Nat.le_trans BE.size Hg5
  replace BE := BE.trans (Sw6.2.2.mono BE.size)
  have Tg3 := blk_there Bg3 (n := 4) (by simp [flen])
  have Rg3_0 := blk_range Bg3 (l := fel x) rfl
  have Lg3 := Bg3.lt
  have Tg4 := blk_there Bg4 (n := 4) (by simp [flen])
  have Rg4_0 := blk_range Bg4 (l := fel y) rfl
  have Lg4 := Bg4.lt
  have Tg5 := blk_there Bg5 (n := 4) (by simp [flen])
  have Rg5_0 := blk_range Bg5 (l := fel z) rfl
  have Lg5 := Bg5.lt
  clear ng3 ng4 ng5 Bg3 Bg4 Bg5
  refine wpL_assign (v := .bool false) (by rfl) (by rfl) (by rfl) ?_
  simp only [Act.put, List.setIfInBounds_toArray, List.set_cons_zero, List.set_cons_succ]
  refine wpL_nil (no_panic ?_)
  refine hK1 _ _ ?_
  refine wp_seq_k (fun K7 hK7 => ?_)
  refine wp_region_plain 0 (by kernel_rfl) (fun Lk hLk => ?_)
  simp only [List.take_succ_cons, List.take_zero, List.drop_succ_cons, List.drop_zero]
  refine wpV_nil (hLk.out _ ?_)
  clear hLk Lk
  simp only [List.take_succ_cons, List.take_zero, List.drop_succ_cons, List.drop_zero]
  refine wpN_nil (fun w9 Sw9 hbs => ?_)
  clear hbs
  replace Rg3_0 := range_sees Rg3_0 Lg3 Sw9
  replace Tg3 := there_sees Tg3 Lg3 Sw9
  replace Rg4_0 := range_sees Rg4_0 Lg4 Sw9
  replace Tg4 := there_sees Tg4 Lg4 Sw9
  replace Rg5_0 := range_sees Rg5_0 Lg5 Sw9
  replace Tg5 := there_sees Tg5 Lg5 Sw9
  replace Lg3 := Nat.lt_of_lt_of_le Lg3 Sw9.2.2.size
  replace Lg4 := Nat.lt_of_lt_of_le Lg4 Sw9.2.2.size
  replace Lg5 := Nat.lt_of_lt_of_le Lg5 Sw9.2.2.size
  replace BE := BE.trans (Sw9.2.2.mono BE.size)
  refine wpL_assign (v := .func (.func 26) #[] #[]) (by rfl) (by rfl) (by rfl) ?_
  simp only [Act.put, List.setIfInBounds_toArray, List.set_cons_zero, List.set_cons_succ]
  refine wpL_assign (v := .func (.func 30) #[] #[]) (by rfl) (by rfl) (by rfl) ?_
  simp only [Act.put, List.setIfInBounds_toArray, List.set_cons_zero, List.set_cons_succ]
  refine wpL_nil (no_panic ?_)
  refine hK7 _ _ ?_
  refine wp_seq_k (fun K10 hK10 => ?_)
  refine wp_seq_k (fun K11 hK11 => ?_)
  refine wp_region_grow 58 [] (by kernel_rfl) (by kernel_rfl) (by kernel_rfl) (fun Lk hLk => ?_)
  simp only [List.take_succ_cons, List.take_zero, List.drop_succ_cons, List.drop_zero]
  refine wpV_move (v := .func (.func 26) #[] #[]) (by rfl) rfl rfl ?_
  simp only [Act.put, List.setIfInBounds_toArray, List.set_cons_zero, List.set_cons_succ]
  refine wpV_load (cs := fel x) (by rfl) rfl rfl Rg3_0 Lg3 Try.underlying34 rfl info34 ?_
  simp only [Act.put, List.setIfInBounds_toArray, List.set_cons_zero, List.set_cons_succ]
  refine wpV_load (cs := fel y) (by rfl) rfl rfl Rg4_0 Lg4 Try.underlying34 rfl info34 ?_
  simp only [Act.put, List.setIfInBounds_toArray, List.set_cons_zero, List.set_cons_succ]
  refine wpV_callv (v := fe (fadd x y)) (args := #[fe x, fe y]) (by rfl) rfl rfl Try.func26 (by kernel_rfl) (by kernel_rfl) rfl (fun W hW => fadd_c hx hy W) ?_
  simp only [Act.put, List.setIfInBounds_toArray, List.set_cons_zero, List.set_cons_succ]
  refine wpV_move (v := .func (.func 26) #[] #[]) (by rfl) rfl rfl ?_
  simp only [Act.put, List.setIfInBounds_toArray, List.set_cons_zero, List.set_cons_succ]
  refine wpV_load (cs := fel y) (by rfl) rfl rfl Rg4_0 Lg4 Try.underlying34 rfl info34 ?_
  simp only [Act.put, List.setIfInBounds_toArray, List.set_cons_zero, List.set_cons_succ]
  refine wpV_load (cs := fel x) (by rfl) rfl rfl Rg3_0 Lg3 Try.underlying34 rfl info34 ?_
  simp only [Act.put, List.setIfInBounds_toArray, List.set_cons_zero, List.set_cons_succ]
  refine wpV_callv (v := fe (fadd y x)) (args := #[fe y, fe x]) (by rfl) rfl rfl Try.func26 (by kernel_rfl) (by kernel_rfl) rfl (fun W hW => fadd_c hy hx W) ?_
  simp only [Act.put, List.setIfInBounds_toArray, List.set_cons_zero, List.set_cons_succ]
  refine wpV_val (v := .bool false) (by rfl) (by rfl) (fun W hW => ?_) ?_
  · exact (decide_eq_false (fun h => h (fadd_comm x y)) : decide (fadd x y ≠ fadd y x) = false) ▸ run_neq_fe (fadd_lt ..) (fadd_lt ..) Try.underlying34 Try.underlying22 info22 (by kernel_rfl) rfl rfl rfl W
  simp only [Act.put, List.setIfInBounds_toArray, List.set_cons_zero, List.set_cons_succ]
  refine wpV_move (v := .bool false) (by rfl) rfl rfl ?_
  simp only [Act.put, List.setIfInBounds_toArray, List.set_cons_zero, List.set_cons_succ]
  refine wpV_move (v := .func (.func 30) #[] #[]) (by rfl) rfl rfl ?_
  simp only [Act.put, List.setIfInBounds_toArray, List.set_cons_zero, List.set_cons_succ]
  refine wpV_load (cs := fel x) (by rfl) rfl rfl Rg3_0 Lg3 Try.underlying34 rfl info34 ?_
  simp only [Act.put, List.setIfInBounds_toArray, List.set_cons_zero, List.set_cons_succ]
  refine wpV_load (cs := fel y) (by rfl) rfl rfl Rg4_0 Lg4 Try.underlying34 rfl info34 ?_
  simp only [Act.put, List.setIfInBounds_toArray, List.set_cons_zero, List.set_cons_succ]
  refine wpV_callv (v := fe (fmul x y)) (args := #[fe x, fe y]) (by rfl) rfl rfl Try.func30 (by kernel_rfl) (by kernel_rfl) rfl (fun W hW => fmul_c hx hy W) ?_
  simp only [Act.put, List.setIfInBounds_toArray, List.set_cons_zero, List.set_cons_succ]
  refine wpV_move (v := .func (.func 30) #[] #[]) (by rfl) rfl rfl ?_
  simp only [Act.put, List.setIfInBounds_toArray, List.set_cons_zero, List.set_cons_succ]
  refine wpV_load (cs := fel y) (by rfl) rfl rfl Rg4_0 Lg4 Try.underlying34 rfl info34 ?_
  simp only [Act.put, List.setIfInBounds_toArray, List.set_cons_zero, List.set_cons_succ]
  refine wpV_load (cs := fel x) (by rfl) rfl rfl Rg3_0 Lg3 Try.underlying34 rfl info34 ?_
  simp only [Act.put, List.setIfInBounds_toArray, List.set_cons_zero, List.set_cons_succ]
  refine wpV_callv (v := fe (fmul y x)) (args := #[fe y, fe x]) (by rfl) rfl rfl Try.func30 (by kernel_rfl) (by kernel_rfl) rfl (fun W hW => fmul_c hy hx W) ?_
  simp only [Act.put, List.setIfInBounds_toArray, List.set_cons_zero, List.set_cons_succ]
  refine wpV_val (v := .bool false) (by rfl) (by rfl) (fun W hW => ?_) ?_
  · exact (decide_eq_false (fun h => h (fmul_comm x y)) : decide (fmul x y ≠ fmul y x) = false) ▸ run_neq_fe (fmul_lt ..) (fmul_lt ..) Try.underlying34 Try.underlying22 info22 (by kernel_rfl) rfl rfl rfl W
  simp only [Act.put, List.setIfInBounds_toArray, List.set_cons_zero, List.set_cons_succ]
  refine wpV_pick (v := .bool false) (by rfl) rfl rfl rfl ?_
  simp only [Act.put, List.setIfInBounds_toArray, List.set_cons_zero, List.set_cons_succ]
  refine wpV_move (v := .bool false) (by rfl) rfl rfl ?_
  simp only [Act.put, List.setIfInBounds_toArray, List.set_cons_zero, List.set_cons_succ]
  refine wpV_move (v := .func (.func 26) #[] #[]) (by rfl) rfl rfl ?_
  simp only [Act.put, List.setIfInBounds_toArray, List.set_cons_zero, List.set_cons_succ]
  refine wpV_move (v := .func (.func 26) #[] #[]) (by rfl) rfl rfl ?_
  simp only [Act.put, List.setIfInBounds_toArray, List.set_cons_zero, List.set_cons_succ]
  refine wpV_load (cs := fel x) (by rfl) rfl rfl Rg3_0 Lg3 Try.underlying34 rfl info34 ?_
  simp only [Act.put, List.setIfInBounds_toArray, List.set_cons_zero, List.set_cons_succ]
  refine wpV_load (cs := fel y) (by rfl) rfl rfl Rg4_0 Lg4 Try.underlying34 rfl info34 ?_
  simp only [Act.put, List.setIfInBounds_toArray, List.set_cons_zero, List.set_cons_succ]
  refine wpV_callv (v := fe (fadd x y)) (args := #[fe x, fe y]) (by rfl) rfl rfl Try.func26 (by kernel_rfl) (by kernel_rfl) rfl (fun W hW => fadd_c hx hy W) ?_
  simp only [Act.put, List.setIfInBounds_toArray, List.set_cons_zero, List.set_cons_succ]
  refine wpV_load (cs := fel z) (by rfl) rfl rfl Rg5_0 Lg5 Try.underlying34 rfl info34 ?_
  simp only [Act.put, List.setIfInBounds_toArray, List.set_cons_zero, List.set_cons_succ]
  refine wpV_callv (v := fe (fadd (fadd x y) z)) (args := #[fe (fadd x y), fe z]) (by rfl) rfl rfl Try.func26 (by kernel_rfl) (by kernel_rfl) rfl (fun W hW => fadd_c (fadd_lt ..) hz W) ?_
  simp only [Act.put, List.setIfInBounds_toArray, List.set_cons_zero, List.set_cons_succ]
  refine wpV_move (v := .func (.func 26) #[] #[]) (by rfl) rfl rfl ?_
  simp only [Act.put, List.setIfInBounds_toArray, List.set_cons_zero, List.set_cons_succ]
  refine wpV_load (cs := fel x) (by rfl) rfl rfl Rg3_0 Lg3 Try.underlying34 rfl info34 ?_
  simp only [Act.put, List.setIfInBounds_toArray, List.set_cons_zero, List.set_cons_succ]
  refine wpV_move (v := .func (.func 26) #[] #[]) (by rfl) rfl rfl ?_
  simp only [Act.put, List.setIfInBounds_toArray, List.set_cons_zero, List.set_cons_succ]
  refine wpV_load (cs := fel y) (by rfl) rfl rfl Rg4_0 Lg4 Try.underlying34 rfl info34 ?_
  simp only [Act.put, List.setIfInBounds_toArray, List.set_cons_zero, List.set_cons_succ]
  refine wpV_load (cs := fel z) (by rfl) rfl rfl Rg5_0 Lg5 Try.underlying34 rfl info34 ?_
  simp only [Act.put, List.setIfInBounds_toArray, List.set_cons_zero, List.set_cons_succ]
  refine wpV_callv (v := fe (fadd y z)) (args := #[fe y, fe z]) (by rfl) rfl rfl Try.func26 (by kernel_rfl) (by kernel_rfl) rfl (fun W hW => fadd_c hy hz W) ?_
  simp only [Act.put, List.setIfInBounds_toArray, List.set_cons_zero, List.set_cons_succ]
  refine wpV_callv (v := fe (fadd x (fadd y z))) (args := #[fe x, fe (fadd y z)]) (by rfl) rfl rfl Try.func26 (by kernel_rfl) (by kernel_rfl) rfl (fun W hW => fadd_c hx (fadd_lt ..) W) ?_
  simp only [Act.put, List.setIfInBounds_toArray, List.set_cons_zero, List.set_cons_succ]
  refine wpV_val (v := .bool false) (by rfl) (by rfl) (fun W hW => ?_) ?_
  · exact (decide_eq_false (fun h => h (fadd_assoc x y z)) : decide (fadd (fadd x y) z ≠ fadd x (fadd y z)) = false) ▸ run_neq_fe (fadd_lt ..) (fadd_lt ..) Try.underlying34 Try.underlying22 info22 (by kernel_rfl) rfl rfl rfl W
  simp only [Act.put, List.setIfInBounds_toArray, List.set_cons_zero, List.set_cons_succ]
  refine wpV_pick (v := .bool false) (by rfl) rfl rfl rfl ?_
  simp only [Act.put, List.setIfInBounds_toArray, List.set_cons_zero, List.set_cons_succ]
  refine wpV_move (v := .bool false) (by rfl) rfl rfl ?_
  simp only [Act.put, List.setIfInBounds_toArray, List.set_cons_zero, List.set_cons_succ]
  refine wpV_move (v := .func (.func 30) #[] #[]) (by rfl) rfl rfl ?_
  simp only [Act.put, List.setIfInBounds_toArray, List.set_cons_zero, List.set_cons_succ]
  refine wpV_move (v := .func (.func 30) #[] #[]) (by rfl) rfl rfl ?_
  simp only [Act.put, List.setIfInBounds_toArray, List.set_cons_zero, List.set_cons_succ]
  refine wpV_load (cs := fel x) (by rfl) rfl rfl Rg3_0 Lg3 Try.underlying34 rfl info34 ?_
  simp only [Act.put, List.setIfInBounds_toArray, List.set_cons_zero, List.set_cons_succ]
  refine wpV_load (cs := fel y) (by rfl) rfl rfl Rg4_0 Lg4 Try.underlying34 rfl info34 ?_
  simp only [Act.put, List.setIfInBounds_toArray, List.set_cons_zero, List.set_cons_succ]
  refine wpV_callv (v := fe (fmul x y)) (args := #[fe x, fe y]) (by rfl) rfl rfl Try.func30 (by kernel_rfl) (by kernel_rfl) rfl (fun W hW => fmul_c hx hy W) ?_
  simp only [Act.put, List.setIfInBounds_toArray, List.set_cons_zero, List.set_cons_succ]
  refine wpV_load (cs := fel z) (by rfl) rfl rfl Rg5_0 Lg5 Try.underlying34 rfl info34 ?_
  simp only [Act.put, List.setIfInBounds_toArray, List.set_cons_zero, List.set_cons_succ]
  refine wpV_callv (v := fe (fmul (fmul x y) z)) (args := #[fe (fmul x y), fe z]) (by rfl) rfl rfl Try.func30 (by kernel_rfl) (by kernel_rfl) rfl (fun W hW => fmul_c (fmul_lt ..) hz W) ?_
  simp only [Act.put, List.setIfInBounds_toArray, List.set_cons_zero, List.set_cons_succ]
  refine wpV_move (v := .func (.func 30) #[] #[]) (by rfl) rfl rfl ?_
  simp only [Act.put, List.setIfInBounds_toArray, List.set_cons_zero, List.set_cons_succ]
  refine wpV_load (cs := fel x) (by rfl) rfl rfl Rg3_0 Lg3 Try.underlying34 rfl info34 ?_
  simp only [Act.put, List.setIfInBounds_toArray, List.set_cons_zero, List.set_cons_succ]
  refine wpV_move (v := .func (.func 30) #[] #[]) (by rfl) rfl rfl ?_
  simp only [Act.put, List.setIfInBounds_toArray, List.set_cons_zero, List.set_cons_succ]
  refine wpV_load (cs := fel y) (by rfl) rfl rfl Rg4_0 Lg4 Try.underlying34 rfl info34 ?_
  simp only [Act.put, List.setIfInBounds_toArray, List.set_cons_zero, List.set_cons_succ]
  refine wpV_load (cs := fel z) (by rfl) rfl rfl Rg5_0 Lg5 Try.underlying34 rfl info34 ?_
  simp only [Act.put, List.setIfInBounds_toArray, List.set_cons_zero, List.set_cons_succ]
  refine wpV_callv (v := fe (fmul y z)) (args := #[fe y, fe z]) (by rfl) rfl rfl Try.func30 (by kernel_rfl) (by kernel_rfl) rfl (fun W hW => fmul_c hy hz W) ?_
  simp only [Act.put, List.setIfInBounds_toArray, List.set_cons_zero, List.set_cons_succ]
  refine wpV_callv (v := fe (fmul x (fmul y z))) (args := #[fe x, fe (fmul y z)]) (by rfl) rfl rfl Try.func30 (by kernel_rfl) (by kernel_rfl) rfl (fun W hW => fmul_c hx (fmul_lt ..) W) ?_
  simp only [Act.put, List.setIfInBounds_toArray, List.set_cons_zero, List.set_cons_succ]
  refine wpV_val (v := .bool false) (by rfl) (by rfl) (fun W hW => ?_) ?_
  · exact (decide_eq_false (fun h => h (fmul_assoc x y z)) : decide (fmul (fmul x y) z ≠ fmul x (fmul y z)) = false) ▸ run_neq_fe (fmul_lt ..) (fmul_lt ..) Try.underlying34 Try.underlying22 info22 (by kernel_rfl) rfl rfl rfl W
  simp only [Act.put, List.setIfInBounds_toArray, List.set_cons_zero, List.set_cons_succ]
  refine wpV_pick (v := .bool false) (by rfl) rfl rfl rfl ?_
  simp only [Act.put, List.setIfInBounds_toArray, List.set_cons_zero, List.set_cons_succ]
  refine wpV_move (v := .bool false) (by rfl) rfl rfl ?_
  simp only [Act.put, List.setIfInBounds_toArray, List.set_cons_zero, List.set_cons_succ]
  refine wpV_callf (v := .bool true) (args := #[]) (by rfl) rfl Try.func22 (by kernel_rfl) (by kernel_rfl) rfl (fun W hW => alive04_c) ?_
  simp only [Act.put, List.setIfInBounds_toArray, List.set_cons_zero, List.set_cons_succ]
  refine wpV_not (b := true) (by rfl) rfl rfl ?_
  simp only [Bool.not_true, Bool.not_false]
  simp only [Act.put, List.setIfInBounds_toArray, List.set_cons_zero, List.set_cons_succ]
  refine wpV_pick (v := .bool false) (by rfl) rfl rfl rfl ?_
  simp only [Act.put, List.setIfInBounds_toArray, List.set_cons_zero, List.set_cons_succ]
  refine wpV_nil (hLk.out _ ?_)
  clear hLk Lk
  simp only [List.take_succ_cons, List.take_zero, List.drop_succ_cons, List.drop_zero]
  iterate 58 refine wpN_skip (by rfl) ?_
  refine wpN_nil (fun w13 Sw13 hbs => ?_)
  clear hbs
  replace Rg3_0 := range_sees Rg3_0 Lg3 Sw13
  replace Tg3 := there_sees Tg3 Lg3 Sw13
  replace Rg4_0 := range_sees Rg4_0 Lg4 Sw13
  replace Tg4 := there_sees Tg4 Lg4 Sw13
  replace Rg5_0 := range_sees Rg5_0 Lg5 Sw13
  replace Tg5 := there_sees Tg5 Lg5 Sw13
  replace Lg3 := Nat.lt_of_lt_of_le Lg3 Sw13.2.2.size
  replace Lg4 := Nat.lt_of_lt_of_le Lg4 Sw13.2.2.size
  replace Lg5 := Nat.lt_of_lt_of_le Lg5 Sw13.2.2.size
  replace BE := BE.trans (Sw13.2.2.mono BE.size)
  refine wpL_nil (no_panic ?_)
  refine hK11 _ _ ?_
  refine wp_cond_false rfl ?_
  refine wp_skip ?_
  refine hK10 _ _ ?_
  refine wp_seq_k (fun K14 hK14 => ?_)
  refine wp_region_grow 38 [] (by kernel_rfl) (by kernel_rfl) (by kernel_rfl) (fun Lk hLk => ?_)
  simp only [List.take_succ_cons, List.take_zero, List.drop_succ_cons, List.drop_zero]
  refine wpV_move (v := .func (.func 30) #[] #[]) (by rfl) rfl rfl ?_
  simp only [Act.put, List.setIfInBounds_toArray, List.set_cons_zero, List.set_cons_succ]
  refine wpV_load (cs := fel x) (by rfl) rfl rfl Rg3_0 Lg3 Try.underlying34 rfl info34 ?_
  simp only [Act.put, List.setIfInBounds_toArray, List.set_cons_zero, List.set_cons_succ]
  refine wpV_move (v := .func (.func 26) #[] #[]) (by rfl) rfl rfl ?_
  simp only [Act.put, List.setIfInBounds_toArray, List.set_cons_zero, List.set_cons_succ]
  refine wpV_load (cs := fel y) (by rfl) rfl rfl Rg4_0 Lg4 Try.underlying34 rfl info34 ?_
  simp only [Act.put, List.setIfInBounds_toArray, List.set_cons_zero, List.set_cons_succ]
  refine wpV_load (cs := fel z) (by rfl) rfl rfl Rg5_0 Lg5 Try.underlying34 rfl info34 ?_
  simp only [Act.put, List.setIfInBounds_toArray, List.set_cons_zero, List.set_cons_succ]
  refine wpV_callv (v := fe (fadd y z)) (args := #[fe y, fe z]) (by rfl) rfl rfl Try.func26 (by kernel_rfl) (by kernel_rfl) rfl (fun W hW => fadd_c hy hz W) ?_
  simp only [Act.put, List.setIfInBounds_toArray, List.set_cons_zero, List.set_cons_succ]
  refine wpV_callv (v := fe (fmul x (fadd y z))) (args := #[fe x, fe (fadd y z)]) (by rfl) rfl rfl Try.func30 (by kernel_rfl) (by kernel_rfl) rfl (fun W hW => fmul_c hx (fadd_lt ..) W) ?_
  simp only [Act.put, List.setIfInBounds_toArray, List.set_cons_zero, List.set_cons_succ]
  refine wpV_move (v := .func (.func 26) #[] #[]) (by rfl) rfl rfl ?_
  simp only [Act.put, List.setIfInBounds_toArray, List.set_cons_zero, List.set_cons_succ]
  refine wpV_move (v := .func (.func 30) #[] #[]) (by rfl) rfl rfl ?_
  simp only [Act.put, List.setIfInBounds_toArray, List.set_cons_zero, List.set_cons_succ]
  refine wpV_load (cs := fel x) (by rfl) rfl rfl Rg3_0 Lg3 Try.underlying34 rfl info34 ?_
  simp only [Act.put, List.setIfInBounds_toArray, List.set_cons_zero, List.set_cons_succ]
  refine wpV_load (cs := fel y) (by rfl) rfl rfl Rg4_0 Lg4 Try.underlying34 rfl info34 ?_
  simp only [Act.put, List.setIfInBounds_toArray, List.set_cons_zero, List.set_cons_succ]
  refine wpV_callv (v := fe (fmul x y)) (args := #[fe x, fe y]) (by rfl) rfl rfl Try.func30 (by kernel_rfl) (by kernel_rfl) rfl (fun W hW => fmul_c hx hy W) ?_
  simp only [Act.put, List.setIfInBounds_toArray, List.set_cons_zero, List.set_cons_succ]
  refine wpV_move (v := .func (.func 30) #[] #[]) (by rfl) rfl rfl ?_
  simp only [Act.put, List.setIfInBounds_toArray, List.set_cons_zero, List.set_cons_succ]
  refine wpV_load (cs := fel x) (by rfl) rfl rfl Rg3_0 Lg3 Try.underlying34 rfl info34 ?_
  simp only [Act.put, List.setIfInBounds_toArray, List.set_cons_zero, List.set_cons_succ]
  refine wpV_load (cs := fel z) (by rfl) rfl rfl Rg5_0 Lg5 Try.underlying34 rfl info34 ?_
  simp only [Act.put, List.setIfInBounds_toArray, List.set_cons_zero, List.set_cons_succ]
  refine wpV_callv (v := fe (fmul x z)) (args := #[fe x, fe z]) (by rfl) rfl rfl Try.func30 (by kernel_rfl) (by kernel_rfl) rfl (fun W hW => fmul_c hx hz W) ?_
  simp only [Act.put, List.setIfInBounds_toArray, List.set_cons_zero, List.set_cons_succ]
  refine wpV_callv (v := fe (fadd (fmul x y) (fmul x z))) (args := #[fe (fmul x y), fe (fmul x z)]) (by rfl) rfl rfl Try.func26 (by kernel_rfl) (by kernel_rfl) rfl (fun W hW => fadd_c (fmul_lt ..) (fmul_lt ..) W) ?_
  simp only [Act.put, List.setIfInBounds_toArray, List.set_cons_zero, List.set_cons_succ]
  refine wpV_val (v := .bool true) (by rfl) (by rfl) (fun W hW => ?_) ?_
  · exact (decide_eq_true (fmul_add x y z) : decide (fmul x (fadd y z) = fadd (fmul x y) (fmul x z)) = true) ▸ run_eql_fe (fmul_lt ..) (fadd_lt ..) Try.underlying34 Try.underlying22 info22 (by kernel_rfl) rfl rfl rfl W
  simp only [Act.put, List.setIfInBounds_toArray, List.set_cons_zero, List.set_cons_succ]
  refine wpV_move (v := .bool true) (by rfl) rfl rfl ?_
  simp only [Act.put, List.setIfInBounds_toArray, List.set_cons_zero, List.set_cons_succ]
  refine wpV_move (v := .func (.func 26) #[] #[]) (by rfl) rfl rfl ?_
  simp only [Act.put, List.setIfInBounds_toArray, List.set_cons_zero, List.set_cons_succ]
  refine wpV_load (cs := fel x) (by rfl) rfl rfl Rg3_0 Lg3 Try.underlying34 rfl info34 ?_
  simp only [Act.put, List.setIfInBounds_toArray, List.set_cons_zero, List.set_cons_succ]
  refine wpV_load (cs := fel y) (by rfl) rfl rfl Rg4_0 Lg4 Try.underlying34 rfl info34 ?_
  simp only [Act.put, List.setIfInBounds_toArray, List.set_cons_zero, List.set_cons_succ]
  refine wpV_callv (v := fe (fadd x y)) (args := #[fe x, fe y]) (by rfl) rfl rfl Try.func26 (by kernel_rfl) (by kernel_rfl) rfl (fun W hW => fadd_c hx hy W) ?_
  simp only [Act.put, List.setIfInBounds_toArray, List.set_cons_zero, List.set_cons_succ]
  refine wpV_load (cs := fel y) (by rfl) rfl rfl Rg4_0 Lg4 Try.underlying34 rfl info34 ?_
  simp only [Act.put, List.setIfInBounds_toArray, List.set_cons_zero, List.set_cons_succ]
  refine wpV_callf (v := fe (fsub (fadd x y) y)) (args := #[fe (fadd x y), fe y]) (by rfl) rfl Try.func28 (by kernel_rfl) (by kernel_rfl) rfl (fun W hW => fsub_c (fadd_lt ..) hy W) ?_
  simp only [Act.put, List.setIfInBounds_toArray, List.set_cons_zero, List.set_cons_succ]
  refine wpV_load (cs := fel x) (by rfl) rfl rfl Rg3_0 Lg3 Try.underlying34 rfl info34 ?_
  simp only [Act.put, List.setIfInBounds_toArray, List.set_cons_zero, List.set_cons_succ]
  refine wpV_callf (v := fe (leastF x)) (args := #[fe x]) (by rfl) rfl Try.func25 (by kernel_rfl) (by kernel_rfl) rfl (fun W hW => rleast04_c hx) ?_
  simp only [Act.put, List.setIfInBounds_toArray, List.set_cons_zero, List.set_cons_succ]
  refine wpV_val (v := .bool true) (by rfl) (by rfl) (fun W hW => ?_) ?_
  · exact (decide_eq_true (fsub_add x y) : decide (fsub (fadd x y) y = leastF x) = true) ▸ run_eql_fe (fsub_lt ..) (leastF_lt _) Try.underlying34 Try.underlying22 info22 (by kernel_rfl) rfl rfl rfl W
  simp only [Act.put, List.setIfInBounds_toArray, List.set_cons_zero, List.set_cons_succ]
  refine wpV_pick (v := .bool true) (by rfl) rfl rfl rfl ?_
  simp only [Act.put, List.setIfInBounds_toArray, List.set_cons_zero, List.set_cons_succ]
  refine wpV_move (v := .bool true) (by rfl) rfl rfl ?_
  simp only [Act.put, List.setIfInBounds_toArray, List.set_cons_zero, List.set_cons_succ]
  refine wpV_move (v := .func (.func 30) #[] #[]) (by rfl) rfl rfl ?_
  simp only [Act.put, List.setIfInBounds_toArray, List.set_cons_zero, List.set_cons_succ]
  refine wpV_load (cs := fel x) (by rfl) rfl rfl Rg3_0 Lg3 Try.underlying34 rfl info34 ?_
  simp only [Act.put, List.setIfInBounds_toArray, List.set_cons_zero, List.set_cons_succ]
  refine wpV_val (v := fe 1) (by rfl) (by rfl) (fun W hW => ?_) ?_
  · rw [show fe 1 = .agg ([.int .u64 1, .int .u64 0, .int .u64 0, .int .u64 0]).toArray from (by kernel_rfl)]; unfold RunsVal; kernel_rfl
  simp only [Act.put, List.setIfInBounds_toArray, List.set_cons_zero, List.set_cons_succ]
  refine wpV_callv (v := fe (fmul x 1)) (args := #[fe x, fe 1]) (by rfl) rfl rfl Try.func30 (by kernel_rfl) (by kernel_rfl) rfl (fun W hW => fmul_c hx (by decide) W) ?_
  simp only [Act.put, List.setIfInBounds_toArray, List.set_cons_zero, List.set_cons_succ]
  refine wpV_load (cs := fel x) (by rfl) rfl rfl Rg3_0 Lg3 Try.underlying34 rfl info34 ?_
  simp only [Act.put, List.setIfInBounds_toArray, List.set_cons_zero, List.set_cons_succ]
  refine wpV_callf (v := fe (leastF x)) (args := #[fe x]) (by rfl) rfl Try.func25 (by kernel_rfl) (by kernel_rfl) rfl (fun W hW => rleast04_c hx) ?_
  simp only [Act.put, List.setIfInBounds_toArray, List.set_cons_zero, List.set_cons_succ]
  refine wpV_val (v := .bool true) (by rfl) (by rfl) (fun W hW => ?_) ?_
  · exact (decide_eq_true (fmul_one x) : decide (fmul x 1 = leastF x) = true) ▸ run_eql_fe (fmul_lt ..) (leastF_lt _) Try.underlying34 Try.underlying22 info22 (by kernel_rfl) rfl rfl rfl W
  simp only [Act.put, List.setIfInBounds_toArray, List.set_cons_zero, List.set_cons_succ]
  refine wpV_pick (v := .bool true) (by rfl) rfl rfl rfl ?_
  simp only [Act.put, List.setIfInBounds_toArray, List.set_cons_zero, List.set_cons_succ]
  refine wpV_nil (hLk.out _ ?_)
  clear hLk Lk
  simp only [List.take_succ_cons, List.take_zero, List.drop_succ_cons, List.drop_zero]
  iterate 38 refine wpN_skip (by rfl) ?_
  refine wpN_nil (fun w16 Sw16 hbs => ?_)
  clear hbs
  replace Rg3_0 := range_sees Rg3_0 Lg3 Sw16
  replace Tg3 := there_sees Tg3 Lg3 Sw16
  replace Rg4_0 := range_sees Rg4_0 Lg4 Sw16
  replace Tg4 := there_sees Tg4 Lg4 Sw16
  replace Rg5_0 := range_sees Rg5_0 Lg5 Sw16
  replace Tg5 := there_sees Tg5 Lg5 Sw16
  replace Lg3 := Nat.lt_of_lt_of_le Lg3 Sw16.2.2.size
  replace Lg4 := Nat.lt_of_lt_of_le Lg4 Sw16.2.2.size
  replace Lg5 := Nat.lt_of_lt_of_le Lg5 Sw16.2.2.size
  replace BE := BE.trans (Sw16.2.2.mono BE.size)
  refine wpL_assign (v := .bool true) (by rfl) (by rfl) (by rfl) ?_
  simp only [Act.put, List.setIfInBounds_toArray, List.set_cons_zero, List.set_cons_succ]
  refine wpL_nil (no_panic ?_)
  refine hK14 _ _ ?_
  refine wp_ret ?_
  repeat (first | with_reducible refine then_ret ?_ | with_reducible refine inblock_ret ?_)
  refine bodyPost_ret (v := .bool true) (res1 rfl (.tmp (by rfl))) rfl ?_
  exact ⟨rfl, BE⟩
end Go.Proofs.Ya
