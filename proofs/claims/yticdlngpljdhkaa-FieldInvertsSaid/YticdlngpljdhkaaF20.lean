import Derived.Test.YticdlngpljdhkaaF17
import Derived.Test.YticdlngpljdhkaaNumL
import Derived.Test.YticdlngpljdhkaaNumS
set_option linter.unusedSimpArgs false
set_option linter.unusedVariables false
namespace Go.Proofs.Ya
open Go Go.RowKit Go.Shelf Go.Proofs.Num
set_option maxHeartbeats 4000000 in
theorem fhalves_c {x : Nat} (hx : x < 2 ^ 256) {w : World}  :
    Calls Try.prog 11 #[fe x] w fun e w' => e = .returned (.bool true) ∧ Below w.heap.size w w' := by
  go_enter Try.func11, Try.ntmps11
  have BE := Below.refl w.heap.size w
  refine wp_seq_k (fun K1 hK1 => ?_)
  refine wp_region_plain 1 (by kernel_rfl) (fun Lk hLk => ?_)
  simp only [List.take, List.drop]
  refine wpV_alloc (by rfl) ?_
  refine wpV_nil (hLk.out _ ?_)
  clear hLk Lk
  simp only [List.take, List.drop]
  refine wpN_new (t := 34) (cs := (fel x).toArray) (by rfl) (fun W => ?_) (fun g3 Hg3 ng3 => ?_)
  · (first | rfl | go_simp)
  simp only [putT, List.set]
  refine wpN_nil (fun w4 Sw4 hbs => ?_)
  have Bg3 : Blk w4 g3 34 (fel x).toArray := hbs _ (List.mem_cons_self ..)
  clear hbs
  have Gg3 : w.heap.size ≤ g3 := Nat.le_trans BE.size Hg3
  replace BE := BE.trans (Sw4.2.2.mono BE.size)
  have Tg3 := blk_there Bg3 (n := 4) (by simp [flen])
  have Rg3_0 := blk_range Bg3 (l := fel x) rfl
  have Lg3 := Bg3.lt
  clear ng3 Bg3
  refine wpL_assign (v := .bool false) (by rfl) (by rfl) (by rfl) ?_
  simp only [putT, List.set]
  refine wpL_nil (no_panic ?_)
  refine hK1 _ _ ?_
  refine wp_seq_k (fun K5 hK5 => ?_)
  refine wp_region_grow 5 [] (by kernel_rfl) (by kernel_rfl) (by kernel_rfl) (fun Lk hLk => ?_)
  simp only [List.take, List.drop]
  refine wpV_load (cs := fel x) (by rfl) rfl rfl Rg3_0 Lg3 Try.underlying34 rfl info34 ?_
  simp only [putT, List.set]
  refine wpV_callf (v := fe 2) (args := #[.int .u64 2]) (by rfl) rfl Try.func23 (by kernel_rfl) (by kernel_rfl) rfl (fun W hW => of_c (n := 2) (by decide) W) ?_
  simp only [putT, List.set]
  refine wpV_callf (v := fe (finv 2)) (args := #[fe 2]) (by rfl) rfl Try.func37 (by kernel_rfl) (by kernel_rfl) rfl (fun W hW => finv_c (by decide) W) ?_
  simp only [putT, List.set]
  refine wpV_callf (v := fe (fmul x (finv 2))) (args := #[fe x, fe (finv 2)]) (by rfl) rfl Try.func30 (by kernel_rfl) (by kernel_rfl) rfl (fun W hW => fmul_c hx (finv_lt ..) W) ?_
  simp only [putT, List.set]
  refine wpV_alloc (by rfl) ?_
  refine wpV_nil (hLk.out _ ?_)
  clear hLk Lk
  simp only [List.take, List.drop]
  iterate 4 refine wpN_skip (by rfl) ?_
  refine wpN_new (t := 34) (cs := ([.int .u64 0, .int .u64 0, .int .u64 0, .int .u64 0]).toArray) (by rfl) (fun W => ?_) (fun g7 Hg7 ng7 => ?_)
  · go_simp
  simp only [putT, List.set]
  refine wpN_nil (fun w8 Sw8 hbs => ?_)
  have Bg7 : Blk w8 g7 34 ([.int .u64 0, .int .u64 0, .int .u64 0, .int .u64 0]).toArray := hbs _ (List.mem_cons_self ..)
  clear hbs
  have Ng3_g7 : g3 ≠ g7 := Nat.ne_of_lt (Nat.lt_of_lt_of_le Lg3 Hg7)
  have Gg7 : w.heap.size ≤ g7 := Nat.le_trans BE.size Hg7
  replace Rg3_0 := range_sees Rg3_0 Lg3 Sw8
  replace Tg3 := there_sees Tg3 Lg3 Sw8
  replace Lg3 := Nat.lt_of_lt_of_le Lg3 Sw8.2.2.size
  replace BE := BE.trans (Sw8.2.2.mono BE.size)
  have Tg7 := blk_there Bg7 (n := 4) (by simp [flen])
  have Rg7_0 := blk_range Bg7 (l := [.int .u64 0, .int .u64 0, .int .u64 0, .int .u64 0]) rfl
  have Lg7 := Bg7.lt
  clear ng7 Bg7
  refine wpL_store (g := g7) (off := 0) (n := 4) (cs := fel (fmul x (finv 2))) (by rfl) (by rfl) (by rfl) (by rfl) (by rfl) Tg7 (by simp [flen]) info34 (fel_one _) (fun w9 Pw9 RR TT => ?_)
  replace Rg3_0 := Pw9.range Rg3_0 (.inl Ng3_g7)
  replace Tg3 := Pw9.other_there Tg3 Ng3_g7
  replace Rg7_0 := RR
  clear RR
  replace Tg7 := TT
  replace Lg3 := Pw9.lt Lg3
  replace Lg7 := Pw9.lt Lg7
  replace BE := Pw9.below BE Gg7
  refine wpL_nil (no_panic ?_)
  refine hK5 _ _ ?_
  refine wp_seq_k (fun K10 hK10 => ?_)
  refine wp_region_plain 2 (by kernel_rfl) (fun Lk hLk => ?_)
  simp only [List.take, List.drop]
  refine wpV_val (v := fe 57896044618658097711785492504343953926634992332820282019728792003956564819949) (by rfl) (by rfl) (fun W hW => ?_) ?_
  · rw [show fe 57896044618658097711785492504343953926634992332820282019728792003956564819949 = .agg ([.int .u64 18446744073709551597, .int .u64 18446744073709551615, .int .u64 18446744073709551615, .int .u64 9223372036854775807]).toArray from (by kernel_rfl)]; unfold RunsVal; kernel_rfl
  simp only [putT, List.set]
  refine wpV_alloc (by rfl) ?_
  refine wpV_nil (hLk.out _ ?_)
  clear hLk Lk
  simp only [List.take, List.drop]
  iterate 1 refine wpN_skip (by rfl) ?_
  refine wpN_new (t := 34) (cs := ([.int .u64 0, .int .u64 0, .int .u64 0, .int .u64 0]).toArray) (by rfl) (fun W => ?_) (fun g12 Hg12 ng12 => ?_)
  · go_simp
  simp only [putT, List.set]
  refine wpN_nil (fun w13 Sw13 hbs => ?_)
  have Bg12 : Blk w13 g12 34 ([.int .u64 0, .int .u64 0, .int .u64 0, .int .u64 0]).toArray := hbs _ (List.mem_cons_self ..)
  clear hbs
  have Ng3_g12 : g3 ≠ g12 := Nat.ne_of_lt (Nat.lt_of_lt_of_le Lg3 Hg12)
  have Ng7_g12 : g7 ≠ g12 := Nat.ne_of_lt (Nat.lt_of_lt_of_le Lg7 Hg12)
  have Gg12 : w.heap.size ≤ g12 := Nat.le_trans BE.size Hg12
  replace Rg3_0 := range_sees Rg3_0 Lg3 Sw13
  replace Tg3 := there_sees Tg3 Lg3 Sw13
  replace Rg7_0 := range_sees Rg7_0 Lg7 Sw13
  replace Tg7 := there_sees Tg7 Lg7 Sw13
  replace Lg3 := Nat.lt_of_lt_of_le Lg3 Sw13.2.2.size
  replace Lg7 := Nat.lt_of_lt_of_le Lg7 Sw13.2.2.size
  replace BE := BE.trans (Sw13.2.2.mono BE.size)
  have Tg12 := blk_there Bg12 (n := 4) (by simp [flen])
  have Rg12_0 := blk_range Bg12 (l := [.int .u64 0, .int .u64 0, .int .u64 0, .int .u64 0]) rfl
  have Lg12 := Bg12.lt
  clear ng12 Bg12
  refine wpL_store (g := g12) (off := 0) (n := 4) (cs := fel 57896044618658097711785492504343953926634992332820282019728792003956564819949) (by rfl) (by rfl) (by rfl) (by rfl) (by rfl) Tg12 (by simp [flen]) info34 (fel_one _) (fun w14 Pw14 RR TT => ?_)
  replace Rg3_0 := Pw14.range Rg3_0 (.inl Ng3_g12)
  replace Tg3 := Pw14.other_there Tg3 Ng3_g12
  replace Rg7_0 := Pw14.range Rg7_0 (.inl Ng7_g12)
  replace Tg7 := Pw14.other_there Tg7 Ng7_g12
  replace Rg12_0 := RR
  clear RR
  replace Tg12 := TT
  replace Lg3 := Pw14.lt Lg3
  replace Lg7 := Pw14.lt Lg7
  replace Lg12 := Pw14.lt Lg12
  replace BE := Pw14.below BE Gg12
  refine wpL_nil (no_panic ?_)
  refine hK10 _ _ ?_
  refine wp_seq_k (fun K15 hK15 => ?_)
  refine wp_region_grow 37 [] (by kernel_rfl) (by kernel_rfl) (by kernel_rfl) (fun Lk hLk => ?_)
  simp only [List.take, List.drop]
  refine wpV_callf (v := .bool true) (args := #[]) (by rfl) rfl Try.func22 (by kernel_rfl) (by kernel_rfl) rfl (fun W hW => alive04_c) ?_
  simp only [putT, List.set]
  refine wpV_move (v := .bool true) (by rfl) rfl rfl ?_
  simp only [putT, List.set]
  refine wpV_load (cs := fel (fmul x (finv 2))) (by rfl) rfl rfl Rg7_0 Lg7 Try.underlying34 rfl info34 ?_
  simp only [putT, List.set]
  refine wpV_load (cs := fel (fmul x (finv 2))) (by rfl) rfl rfl Rg7_0 Lg7 Try.underlying34 rfl info34 ?_
  simp only [putT, List.set]
  refine wpV_callf (v := fe (fadd (fmul x (finv 2)) (fmul x (finv 2)))) (args := #[fe (fmul x (finv 2)), fe (fmul x (finv 2))]) (by rfl) rfl Try.func26 (by kernel_rfl) (by kernel_rfl) rfl (fun W hW => fadd_c (fmul_lt ..) (fmul_lt ..) W) ?_
  simp only [putT, List.set]
  refine wpV_load (cs := fel x) (by rfl) rfl rfl Rg3_0 Lg3 Try.underlying34 rfl info34 ?_
  simp only [putT, List.set]
  refine wpV_callf (v := fe (leastF x)) (args := #[fe x]) (by rfl) rfl Try.func25 (by kernel_rfl) (by kernel_rfl) rfl (fun W hW => rleast04_c hx) ?_
  simp only [putT, List.set]
  refine wpV_val (v := .bool true) (by rfl) (by rfl) (fun W hW => ?_) ?_
  · exact (decide_eq_true (fhalf x) : decide (fadd (fmul x (finv 2)) (fmul x (finv 2)) = leastF x) = true) ▸ run_eql_fe (fadd_lt ..) (leastF_lt _) Try.underlying34 Try.underlying22 info22 (by kernel_rfl) rfl rfl rfl W
  simp only [putT, List.set]
  refine wpV_pick (v := .bool true) (by rfl) rfl rfl rfl ?_
  simp only [putT, List.set]
  refine wpV_move (v := .bool true) (by rfl) rfl rfl ?_
  simp only [putT, List.set]
  refine wpV_load (cs := fel x) (by rfl) rfl rfl Rg3_0 Lg3 Try.underlying34 rfl info34 ?_
  simp only [putT, List.set]
  refine wpV_load (cs := fel x) (by rfl) rfl rfl Rg3_0 Lg3 Try.underlying34 rfl info34 ?_
  simp only [putT, List.set]
  refine wpV_callf (v := fe (fsub x x)) (args := #[fe x, fe x]) (by rfl) rfl Try.func28 (by kernel_rfl) (by kernel_rfl) rfl (fun W hW => fsub_c hx hx W) ?_
  simp only [putT, List.set]
  refine wpV_val (v := fe 0) (by rfl) (by rfl) (fun W hW => ?_) ?_
  · rw [show fe 0 = .agg ([.int .u64 0, .int .u64 0, .int .u64 0, .int .u64 0]).toArray from (by kernel_rfl)]; unfold RunsVal; kernel_rfl
  simp only [putT, List.set]
  refine wpV_val (v := .bool true) (by rfl) (by rfl) (fun W hW => ?_) ?_
  · exact (decide_eq_true (fsub_self x) : decide (fsub x x = 0) = true) ▸ run_eql_fe (fsub_lt ..) (by decide) Try.underlying34 Try.underlying22 info22 (by kernel_rfl) rfl rfl rfl W
  simp only [putT, List.set]
  refine wpV_pick (v := .bool true) (by rfl) rfl rfl rfl ?_
  simp only [putT, List.set]
  refine wpV_move (v := .bool true) (by rfl) rfl rfl ?_
  simp only [putT, List.set]
  refine wpV_load (cs := fel x) (by rfl) rfl rfl Rg3_0 Lg3 Try.underlying34 rfl info34 ?_
  simp only [putT, List.set]
  refine wpV_load (cs := fel 57896044618658097711785492504343953926634992332820282019728792003956564819949) (by rfl) rfl rfl Rg12_0 Lg12 Try.underlying34 rfl info34 ?_
  simp only [putT, List.set]
  refine wpV_callf (v := fe (fadd x 57896044618658097711785492504343953926634992332820282019728792003956564819949)) (args := #[fe x, fe 57896044618658097711785492504343953926634992332820282019728792003956564819949]) (by rfl) rfl Try.func26 (by kernel_rfl) (by kernel_rfl) rfl (fun W hW => fadd_c hx (by decide) W) ?_
  simp only [putT, List.set]
  refine wpV_load (cs := fel x) (by rfl) rfl rfl Rg3_0 Lg3 Try.underlying34 rfl info34 ?_
  simp only [putT, List.set]
  refine wpV_callf (v := fe (leastF x)) (args := #[fe x]) (by rfl) rfl Try.func25 (by kernel_rfl) (by kernel_rfl) rfl (fun W hW => rleast04_c hx) ?_
  simp only [putT, List.set]
  refine wpV_val (v := .bool true) (by rfl) (by rfl) (fun W hW => ?_) ?_
  · exact (decide_eq_true (fadd_prime x) : decide (fadd x 57896044618658097711785492504343953926634992332820282019728792003956564819949 = leastF x) = true) ▸ run_eql_fe (fadd_lt ..) (leastF_lt _) Try.underlying34 Try.underlying22 info22 (by kernel_rfl) rfl rfl rfl W
  simp only [putT, List.set]
  refine wpV_pick (v := .bool true) (by rfl) rfl rfl rfl ?_
  simp only [putT, List.set]
  refine wpV_move (v := .bool true) (by rfl) rfl rfl ?_
  simp only [putT, List.set]
  refine wpV_load (cs := fel x) (by rfl) rfl rfl Rg3_0 Lg3 Try.underlying34 rfl info34 ?_
  simp only [putT, List.set]
  refine wpV_load (cs := fel 57896044618658097711785492504343953926634992332820282019728792003956564819949) (by rfl) rfl rfl Rg12_0 Lg12 Try.underlying34 rfl info34 ?_
  simp only [putT, List.set]
  refine wpV_callf (v := fe (fmul x 57896044618658097711785492504343953926634992332820282019728792003956564819949)) (args := #[fe x, fe 57896044618658097711785492504343953926634992332820282019728792003956564819949]) (by rfl) rfl Try.func30 (by kernel_rfl) (by kernel_rfl) rfl (fun W hW => fmul_c hx (by decide) W) ?_
  simp only [putT, List.set]
  refine wpV_val (v := fe 0) (by rfl) (by rfl) (fun W hW => ?_) ?_
  · rw [show fe 0 = .agg ([.int .u64 0, .int .u64 0, .int .u64 0, .int .u64 0]).toArray from (by kernel_rfl)]; unfold RunsVal; kernel_rfl
  simp only [putT, List.set]
  refine wpV_val (v := .bool true) (by rfl) (by rfl) (fun W hW => ?_) ?_
  · exact (decide_eq_true (fmul_prime x) : decide (fmul x 57896044618658097711785492504343953926634992332820282019728792003956564819949 = 0) = true) ▸ run_eql_fe (fmul_lt ..) (by decide) Try.underlying34 Try.underlying22 info22 (by kernel_rfl) rfl rfl rfl W
  simp only [putT, List.set]
  refine wpV_pick (v := .bool true) (by rfl) rfl rfl rfl ?_
  simp only [putT, List.set]
  refine wpV_move (v := .bool true) (by rfl) rfl rfl ?_
  simp only [putT, List.set]
  refine wpV_load (cs := fel 57896044618658097711785492504343953926634992332820282019728792003956564819949) (by rfl) rfl rfl Rg12_0 Lg12 Try.underlying34 rfl info34 ?_
  simp only [putT, List.set]
  refine wpV_callf (v := fe (leastF 57896044618658097711785492504343953926634992332820282019728792003956564819949)) (args := #[fe 57896044618658097711785492504343953926634992332820282019728792003956564819949]) (by rfl) rfl Try.func24 (by kernel_rfl) (by kernel_rfl) rfl (fun W hW => least_c (by decide) W) ?_
  simp only [putT, List.set]
  refine wpV_val (v := fe 0) (by rfl) (by rfl) (fun W hW => ?_) ?_
  · rw [show fe 0 = .agg ([.int .u64 0, .int .u64 0, .int .u64 0, .int .u64 0]).toArray from (by kernel_rfl)]; unfold RunsVal; kernel_rfl
  simp only [putT, List.set]
  refine wpV_val (v := .bool true) (by rfl) (by rfl) (fun W hW => ?_) ?_
  · exact (decide_eq_true (leastF_prime) : decide (leastF 57896044618658097711785492504343953926634992332820282019728792003956564819949 = 0) = true) ▸ run_eql_fe (leastF_lt ..) (by decide) Try.underlying34 Try.underlying22 info22 (by kernel_rfl) rfl rfl rfl W
  simp only [putT, List.set]
  refine wpV_pick (v := .bool true) (by rfl) rfl rfl rfl ?_
  simp only [putT, List.set]
  refine wpV_nil (hLk.out _ ?_)
  clear hLk Lk
  simp only [List.take, List.drop]
  iterate 37 refine wpN_skip (by rfl) ?_
  refine wpN_nil (fun w17 Sw17 hbs => ?_)
  clear hbs
  replace Rg3_0 := range_sees Rg3_0 Lg3 Sw17
  replace Tg3 := there_sees Tg3 Lg3 Sw17
  replace Rg7_0 := range_sees Rg7_0 Lg7 Sw17
  replace Tg7 := there_sees Tg7 Lg7 Sw17
  replace Rg12_0 := range_sees Rg12_0 Lg12 Sw17
  replace Tg12 := there_sees Tg12 Lg12 Sw17
  replace Lg3 := Nat.lt_of_lt_of_le Lg3 Sw17.2.2.size
  replace Lg7 := Nat.lt_of_lt_of_le Lg7 Sw17.2.2.size
  replace Lg12 := Nat.lt_of_lt_of_le Lg12 Sw17.2.2.size
  replace BE := BE.trans (Sw17.2.2.mono BE.size)
  refine wpL_assign (v := .bool true) (by rfl) (by rfl) (by rfl) ?_
  simp only [putT, List.set]
  refine wpL_nil (no_panic ?_)
  refine hK15 _ _ ?_
  refine wp_ret ?_
  repeat (first | with_reducible refine then_ret ?_ | with_reducible refine inblock_ret ?_)
  refine bodyPost_ret (v := .bool true) (res1 rfl (.tmp (by rfl))) rfl ?_
  exact ⟨rfl, BE⟩
set_option maxHeartbeats 4000000 in
theorem finverts_c {x : Nat} (hx : x < 2 ^ 256) {w : World}  :
    Calls Try.prog 10 #[fe x] w fun e w' => e = .returned (.bool true) ∧ Below w.heap.size w w' := by
  go_enter Try.func10, Try.ntmps10
  have BE := Below.refl w.heap.size w
  refine wp_seq_k (fun K1 hK1 => ?_)
  refine wp_region_plain 1 (by kernel_rfl) (fun Lk hLk => ?_)
  simp only [List.take, List.drop]
  refine wpV_alloc (by rfl) ?_
  refine wpV_nil (hLk.out _ ?_)
  clear hLk Lk
  simp only [List.take, List.drop]
  refine wpN_new (t := 34) (cs := (fel x).toArray) (by rfl) (fun W => ?_) (fun g3 Hg3 ng3 => ?_)
  · (first | rfl | go_simp)
  simp only [putT, List.set]
  refine wpN_nil (fun w4 Sw4 hbs => ?_)
  have Bg3 : Blk w4 g3 34 (fel x).toArray := hbs _ (List.mem_cons_self ..)
  clear hbs
  have Gg3 : w.heap.size ≤ g3 := Nat.le_trans BE.size Hg3
  replace BE := BE.trans (Sw4.2.2.mono BE.size)
  have Tg3 := blk_there Bg3 (n := 4) (by simp [flen])
  have Rg3_0 := blk_range Bg3 (l := fel x) rfl
  have Lg3 := Bg3.lt
  clear ng3 Bg3
  refine wpL_assign (v := .bool false) (by rfl) (by rfl) (by rfl) ?_
  simp only [putT, List.set]
  refine wpL_nil (no_panic ?_)
  refine hK1 _ _ ?_
  refine wp_seq_k (fun K5 hK5 => ?_)
  refine wp_region_plain 3 (by kernel_rfl) (fun Lk hLk => ?_)
  simp only [List.take, List.drop]
  refine wpV_load (cs := fel x) (by rfl) rfl rfl Rg3_0 Lg3 Try.underlying34 rfl info34 ?_
  simp only [putT, List.set]
  refine wpV_callf (v := fe (finv x)) (args := #[fe x]) (by rfl) rfl Try.func37 (by kernel_rfl) (by kernel_rfl) rfl (fun W hW => finv_c hx W) ?_
  simp only [putT, List.set]
  refine wpV_alloc (by rfl) ?_
  refine wpV_nil (hLk.out _ ?_)
  clear hLk Lk
  simp only [List.take, List.drop]
  iterate 2 refine wpN_skip (by rfl) ?_
  refine wpN_new (t := 34) (cs := ([.int .u64 0, .int .u64 0, .int .u64 0, .int .u64 0]).toArray) (by rfl) (fun W => ?_) (fun g7 Hg7 ng7 => ?_)
  · go_simp
  simp only [putT, List.set]
  refine wpN_nil (fun w8 Sw8 hbs => ?_)
  have Bg7 : Blk w8 g7 34 ([.int .u64 0, .int .u64 0, .int .u64 0, .int .u64 0]).toArray := hbs _ (List.mem_cons_self ..)
  clear hbs
  have Ng3_g7 : g3 ≠ g7 := Nat.ne_of_lt (Nat.lt_of_lt_of_le Lg3 Hg7)
  have Gg7 : w.heap.size ≤ g7 := Nat.le_trans BE.size Hg7
  replace Rg3_0 := range_sees Rg3_0 Lg3 Sw8
  replace Tg3 := there_sees Tg3 Lg3 Sw8
  replace Lg3 := Nat.lt_of_lt_of_le Lg3 Sw8.2.2.size
  replace BE := BE.trans (Sw8.2.2.mono BE.size)
  have Tg7 := blk_there Bg7 (n := 4) (by simp [flen])
  have Rg7_0 := blk_range Bg7 (l := [.int .u64 0, .int .u64 0, .int .u64 0, .int .u64 0]) rfl
  have Lg7 := Bg7.lt
  clear ng7 Bg7
  refine wpL_store (g := g7) (off := 0) (n := 4) (cs := fel (finv x)) (by rfl) (by rfl) (by rfl) (by rfl) (by rfl) Tg7 (by simp [flen]) info34 (fel_one _) (fun w9 Pw9 RR TT => ?_)
  replace Rg3_0 := Pw9.range Rg3_0 (.inl Ng3_g7)
  replace Tg3 := Pw9.other_there Tg3 Ng3_g7
  replace Rg7_0 := RR
  clear RR
  replace Tg7 := TT
  replace Lg3 := Pw9.lt Lg3
  replace Lg7 := Pw9.lt Lg7
  replace BE := Pw9.below BE Gg7
  refine wpL_nil (no_panic ?_)
  refine hK5 _ _ ?_
  refine wp_seq_k (fun K10 hK10 => ?_)
  refine wp_seq_k (fun K11 hK11 => ?_)
  refine wp_region_plain 4 (by kernel_rfl) (fun Lk hLk => ?_)
  simp only [List.take, List.drop]
  refine wpV_load (cs := fel x) (by rfl) rfl rfl Rg3_0 Lg3 Try.underlying34 rfl info34 ?_
  simp only [putT, List.set]
  refine wpV_callf (v := fe (leastF x)) (args := #[fe x]) (by rfl) rfl Try.func25 (by kernel_rfl) (by kernel_rfl) rfl (fun W hW => rleast04_c hx) ?_
  simp only [putT, List.set]
  refine wpV_val (v := fe 0) (by rfl) (by rfl) (fun W hW => ?_) ?_
  · rw [show fe 0 = .agg ([.int .u64 0, .int .u64 0, .int .u64 0, .int .u64 0]).toArray from (by kernel_rfl)]; unfold RunsVal; kernel_rfl
  simp only [putT, List.set]
  refine wpV_val (v := .bool (decide (leastF x = 0))) (by rfl) (by rfl) (fun W hW => ?_) ?_
  · exact run_eql_fe (leastF_lt _) (by decide) Try.underlying34 Try.underlying22 info22 (by kernel_rfl) rfl rfl rfl W
  simp only [putT, List.set]
  refine wpV_nil (hLk.out _ ?_)
  clear hLk Lk
  simp only [List.take, List.drop]
  iterate 4 refine wpN_skip (by rfl) ?_
  refine wpN_nil (fun w13 Sw13 hbs => ?_)
  clear hbs
  replace Rg3_0 := range_sees Rg3_0 Lg3 Sw13
  replace Tg3 := there_sees Tg3 Lg3 Sw13
  replace Rg7_0 := range_sees Rg7_0 Lg7 Sw13
  replace Tg7 := there_sees Tg7 Lg7 Sw13
  replace Lg3 := Nat.lt_of_lt_of_le Lg3 Sw13.2.2.size
  replace Lg7 := Nat.lt_of_lt_of_le Lg7 Sw13.2.2.size
  replace BE := BE.trans (Sw13.2.2.mono BE.size)
  refine wpL_nil (no_panic ?_)
  refine hK11 _ _ ?_
  cases hc14 : (decide (leastF x = 0))
  · skip
    refine wp_cond_false rfl ?_
    refine wp_skip ?_
    refine hK10 _ _ ?_
    refine wp_seq_k (fun K15 hK15 => ?_)
    refine wp_region_grow 21 [] (by kernel_rfl) (by kernel_rfl) (by kernel_rfl) (fun Lk hLk => ?_)
    simp only [List.take, List.drop]
    refine wpV_callf (v := .bool true) (args := #[]) (by rfl) rfl Try.func22 (by kernel_rfl) (by kernel_rfl) rfl (fun W hW => alive04_c) ?_
    simp only [putT, List.set]
    refine wpV_move (v := .bool true) (by rfl) rfl rfl ?_
    simp only [putT, List.set]
    refine wpV_load (cs := fel x) (by rfl) rfl rfl Rg3_0 Lg3 Try.underlying34 rfl info34 ?_
    simp only [putT, List.set]
    refine wpV_load (cs := fel (finv x)) (by rfl) rfl rfl Rg7_0 Lg7 Try.underlying34 rfl info34 ?_
    simp only [putT, List.set]
    refine wpV_callf (v := fe (fmul x (finv x))) (args := #[fe x, fe (finv x)]) (by rfl) rfl Try.func30 (by kernel_rfl) (by kernel_rfl) rfl (fun W hW => fmul_c hx (finv_lt ..) W) ?_
    simp only [putT, List.set]
    refine wpV_val (v := fe 1) (by rfl) (by rfl) (fun W hW => ?_) ?_
    · rw [show fe 1 = .agg ([.int .u64 1, .int .u64 0, .int .u64 0, .int .u64 0]).toArray from (by kernel_rfl)]; unfold RunsVal; kernel_rfl
    simp only [putT, List.set]
    refine wpV_val (v := .bool true) (by rfl) (by rfl) (fun W hW => ?_) ?_
    · exact (decide_eq_true (fmul_inv (of_decide_eq_false hc14)) : decide (fmul x (finv x) = 1) = true) ▸ run_eql_fe (fmul_lt ..) (by decide) Try.underlying34 Try.underlying22 info22 (by kernel_rfl) rfl rfl rfl W
    simp only [putT, List.set]
    refine wpV_pick (v := .bool true) (by rfl) rfl rfl rfl ?_
    simp only [putT, List.set]
    refine wpV_move (v := .bool true) (by rfl) rfl rfl ?_
    simp only [putT, List.set]
    refine wpV_load (cs := fel (finv x)) (by rfl) rfl rfl Rg7_0 Lg7 Try.underlying34 rfl info34 ?_
    simp only [putT, List.set]
    refine wpV_callf (v := fe (finv (finv x))) (args := #[fe (finv x)]) (by rfl) rfl Try.func37 (by kernel_rfl) (by kernel_rfl) rfl (fun W hW => finv_c (finv_lt ..) W) ?_
    simp only [putT, List.set]
    refine wpV_load (cs := fel x) (by rfl) rfl rfl Rg3_0 Lg3 Try.underlying34 rfl info34 ?_
    simp only [putT, List.set]
    refine wpV_callf (v := fe (leastF x)) (args := #[fe x]) (by rfl) rfl Try.func25 (by kernel_rfl) (by kernel_rfl) rfl (fun W hW => rleast04_c hx) ?_
    simp only [putT, List.set]
    refine wpV_val (v := .bool true) (by rfl) (by rfl) (fun W hW => ?_) ?_
    · exact (decide_eq_true (finv_inv (of_decide_eq_false hc14)) : decide (finv (finv x) = leastF x) = true) ▸ run_eql_fe (finv_lt ..) (leastF_lt _) Try.underlying34 Try.underlying22 info22 (by kernel_rfl) rfl rfl rfl W
    simp only [putT, List.set]
    refine wpV_pick (v := .bool true) (by rfl) rfl rfl rfl ?_
    simp only [putT, List.set]
    refine wpV_move (v := .bool true) (by rfl) rfl rfl ?_
    simp only [putT, List.set]
    refine wpV_load (cs := fel (finv x)) (by rfl) rfl rfl Rg7_0 Lg7 Try.underlying34 rfl info34 ?_
    simp only [putT, List.set]
    refine wpV_callf (v := fe (leastF (finv x))) (args := #[fe (finv x)]) (by rfl) rfl Try.func25 (by kernel_rfl) (by kernel_rfl) rfl (fun W hW => rleast04_c (finv_lt ..)) ?_
    simp only [putT, List.set]
    refine wpV_load (cs := fel (finv x)) (by rfl) rfl rfl Rg7_0 Lg7 Try.underlying34 rfl info34 ?_
    simp only [putT, List.set]
    refine wpV_val (v := .bool true) (by rfl) (by rfl) (fun W hW => ?_) ?_
    · exact (decide_eq_true (leastF_inv x) : decide (leastF (finv x) = finv x) = true) ▸ run_eql_fe (leastF_lt _) (finv_lt ..) Try.underlying34 Try.underlying22 info22 (by kernel_rfl) rfl rfl rfl W
    simp only [putT, List.set]
    refine wpV_pick (v := .bool true) (by rfl) rfl rfl rfl ?_
    simp only [putT, List.set]
    refine wpV_nil (hLk.out _ ?_)
    clear hLk Lk
    simp only [List.take, List.drop]
    iterate 21 refine wpN_skip (by rfl) ?_
    refine wpN_nil (fun w17 Sw17 hbs => ?_)
    clear hbs
    replace Rg3_0 := range_sees Rg3_0 Lg3 Sw17
    replace Tg3 := there_sees Tg3 Lg3 Sw17
    replace Rg7_0 := range_sees Rg7_0 Lg7 Sw17
    replace Tg7 := there_sees Tg7 Lg7 Sw17
    replace Lg3 := Nat.lt_of_lt_of_le Lg3 Sw17.2.2.size
    replace Lg7 := Nat.lt_of_lt_of_le Lg7 Sw17.2.2.size
    replace BE := BE.trans (Sw17.2.2.mono BE.size)
    refine wpL_assign (v := .bool true) (by rfl) (by rfl) (by rfl) ?_
    simp only [putT, List.set]
    refine wpL_nil (no_panic ?_)
    refine hK15 _ _ ?_
    refine wp_ret ?_
    repeat (first | with_reducible refine then_ret ?_ | with_reducible refine inblock_ret ?_)
    refine bodyPost_ret (v := .bool true) (res1 rfl (.tmp (by rfl))) rfl ?_
    exact ⟨rfl, BE⟩
  · skip
    refine wp_cond_true rfl ?_
    refine wp_seq_k (fun K18 hK18 => ?_)
    refine wp_region_plain 6 (by kernel_rfl) (fun Lk hLk => ?_)
    simp only [List.take, List.drop]
    refine wpV_callf (v := .bool true) (args := #[]) (by rfl) rfl Try.func22 (by kernel_rfl) (by kernel_rfl) rfl (fun W hW => alive04_c) ?_
    simp only [putT, List.set]
    refine wpV_move (v := .bool true) (by rfl) rfl rfl ?_
    simp only [putT, List.set]
    refine wpV_load (cs := fel (finv x)) (by rfl) rfl rfl Rg7_0 Lg7 Try.underlying34 rfl info34 ?_
    simp only [putT, List.set]
    refine wpV_val (v := fe 0) (by rfl) (by rfl) (fun W hW => ?_) ?_
    · rw [show fe 0 = .agg ([.int .u64 0, .int .u64 0, .int .u64 0, .int .u64 0]).toArray from (by kernel_rfl)]; unfold RunsVal; kernel_rfl
    simp only [putT, List.set]
    refine wpV_val (v := .bool true) (by rfl) (by rfl) (fun W hW => ?_) ?_
    · exact (decide_eq_true (finv_zero (of_decide_eq_true hc14)) : decide (finv x = 0) = true) ▸ run_eql_fe (finv_lt ..) (by decide) Try.underlying34 Try.underlying22 info22 (by kernel_rfl) rfl rfl rfl W
    simp only [putT, List.set]
    refine wpV_pick (v := .bool true) (by rfl) rfl rfl rfl ?_
    simp only [putT, List.set]
    refine wpV_nil (hLk.out _ ?_)
    clear hLk Lk
    simp only [List.take, List.drop]
    iterate 6 refine wpN_skip (by rfl) ?_
    refine wpN_nil (fun w20 Sw20 hbs => ?_)
    clear hbs
    replace Rg3_0 := range_sees Rg3_0 Lg3 Sw20
    replace Tg3 := there_sees Tg3 Lg3 Sw20
    replace Rg7_0 := range_sees Rg7_0 Lg7 Sw20
    replace Tg7 := there_sees Tg7 Lg7 Sw20
    replace Lg3 := Nat.lt_of_lt_of_le Lg3 Sw20.2.2.size
    replace Lg7 := Nat.lt_of_lt_of_le Lg7 Sw20.2.2.size
    replace BE := BE.trans (Sw20.2.2.mono BE.size)
    refine wpL_assign (v := .bool true) (by rfl) (by rfl) (by rfl) ?_
    simp only [putT, List.set]
    refine wpL_nil (no_panic ?_)
    refine hK18 _ _ ?_
    refine wp_ret ?_
    repeat (first | with_reducible refine then_ret ?_ | with_reducible refine inblock_ret ?_)
    refine bodyPost_ret (v := .bool true) (res1 rfl (.tmp (by rfl))) rfl ?_
    exact ⟨rfl, BE⟩
end Go.Proofs.Ya
