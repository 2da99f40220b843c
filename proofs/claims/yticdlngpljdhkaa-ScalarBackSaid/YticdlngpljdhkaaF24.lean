import Derived.Test.YticdlngpljdhkaaF18
import Derived.Test.YticdlngpljdhkaaF22
import Derived.Test.YticdlngpljdhkaaNumT
set_option linter.unusedSimpArgs false
set_option linter.unusedVariables false
namespace Go.Proofs.Ya
open Go Go.RowKit Go.Shelf Go.Proofs.Num
set_option maxHeartbeats 4000000 in
theorem lsback_c {x : Nat} (hx : x < 2 ^ 256) (l : List UInt8) {w : World}  :
    Calls Try.prog 9 #[fe x, .string (bs l)] w fun e w' => e = .returned (.bool true) ∧ Below w.heap.size w w' := by
  go_enter Try.func9, Try.ntmps9
  have BE := Below.refl w.heap.size w
  refine wp_seq_k (fun K1 hK1 => ?_)
  refine wp_region_plain 1 (by kernel_rfl) (fun Lk hLk => ?_)
  simp only [List.take, List.drop]
  refine wpV_alloc (by rfl) ?_
  refine wpV_nil (hLk.out _ ?_)
  clear hLk Lk
  simp only [List.take, List.drop]
  refine wpN_new (t := 24) (cs := (fel x).toArray) (by rfl) (fun W => ?_) (fun g3 Hg3 ng3 => ?_)
  · (first | rfl | go_simp)
  simp only [putT, List.set]
  refine wpN_nil (fun w4 Sw4 hbs => ?_)
  have Bg3 : Blk w4 g3 24 (fel x).toArray := hbs _ (List.mem_cons_self ..)
  clear hbs
  have Gg3 : w.heap.size ≤ g3 := Nat.le_trans BE.size Hg3
  replace BE := BE.trans (Sw4.2.2.mono BE.size)
  have Tg3 := blk_there Bg3 (n := 4) (by simp [flen])
  have Rg3_0 := blk_range Bg3 (l := fel x) rfl
  have Lg3 := Bg3.lt
  clear ng3 Bg3
  refine wpL_assign (v := .bool false) (by rfl) (by rfl) (by rfl) ?_
  simp only [putT, List.set]
  refine wpL_nil (no_panic ?_)
  refine hK1 _ _ ?_
  refine wp_seq_k (fun K5 hK5 => ?_)
  refine wp_region_plain 5 (by kernel_rfl) (fun Lk hLk => ?_)
  simp only [List.take, List.drop]
  refine wpV_move (v := .string (bs l)) (by rfl) rfl rfl ?_
  simp only [putT, List.set]
  refine wpV_move (v := .string (bs l)) (by rfl) rfl rfl ?_
  simp only [putT, List.set]
  refine wpV_lenS (by rfl) rfl rfl rfl Try.underlying9 ?_
  simp only [putT, List.set]
  refine wpV_min (n := l.length) (m := 40) (by rfl) rfl rfl rfl ?_
  simp only [putT, List.set]
  refine wpV_cut (l := l) (m := 40) (by rfl) rfl rfl rfl Try.underlying9 ?_
  simp only [putT, List.set]
  refine wpV_nil (hLk.out _ ?_)
  clear hLk Lk
  simp only [List.take, List.drop]
  iterate 5 refine wpN_skip (by rfl) ?_
  refine wpN_nil (fun w7 Sw7 hbs => ?_)
  clear hbs
  replace Rg3_0 := range_sees Rg3_0 Lg3 Sw7
  replace Tg3 := there_sees Tg3 Lg3 Sw7
  replace Lg3 := Nat.lt_of_lt_of_le Lg3 Sw7.2.2.size
  replace BE := BE.trans (Sw7.2.2.mono BE.size)
  refine wpL_assign (v := .string (bs (cut l 40))) (by rfl) (by rfl) (by rfl) ?_
  simp only [putT, List.set]
  refine wpL_nil (no_panic ?_)
  have hm_m := cut_len l 40
  generalize cut l 40 = m at hm_m ⊢
  refine hK5 _ _ ?_
  refine wp_seq_k (fun K8 hK8 => ?_)
  refine wp_region_plain 2 (by kernel_rfl) (fun Lk hLk => ?_)
  simp only [List.take, List.drop]
  refine wpV_load (cs := fel x) (by rfl) rfl rfl Rg3_0 Lg3 Try.underlying24 rfl info24 ?_
  simp only [putT, List.set]
  refine wpV_callf (v := .string (bs (bytesN 32 (restS x)))) (args := #[fe x]) (by rfl) rfl Try.func33 (by kernel_rfl) (by kernel_rfl) rfl (fun W hW => sbytes_c hx W) ?_
  simp only [putT, List.set]
  refine wpV_nil (hLk.out _ ?_)
  clear hLk Lk
  simp only [List.take, List.drop]
  iterate 2 refine wpN_skip (by rfl) ?_
  refine wpN_nil (fun w10 Sw10 hbs => ?_)
  clear hbs
  replace Rg3_0 := range_sees Rg3_0 Lg3 Sw10
  replace Tg3 := there_sees Tg3 Lg3 Sw10
  replace Lg3 := Nat.lt_of_lt_of_le Lg3 Sw10.2.2.size
  replace BE := BE.trans (Sw10.2.2.mono BE.size)
  refine wpL_assign (v := .string (bs (bytesN 32 (restS x)))) (by rfl) (by rfl) (by rfl) ?_
  simp only [putT, List.set]
  refine wpL_nil (no_panic ?_)
  refine hK8 _ _ ?_
  refine wp_seq_k (fun K11 hK11 => ?_)
  refine wp_region_plain 6 (by kernel_rfl) (fun Lk hLk => ?_)
  simp only [List.take, List.drop]
  refine wpV_move (v := .string (bs (bytesN 32 (restS x)))) (by rfl) rfl rfl ?_
  simp only [putT, List.set]
  refine wpV_callf (v := .tuple #[fe (sparseN (bytesN 32 (restS x))), .int .i64 (sparseE (bytesN 32 (restS x)))]) (args := #[.string (bs (bytesN 32 (restS x)))]) (by rfl) rfl Try.func32 (by kernel_rfl) (by kernel_rfl) rfl (fun W hW => sparse_c (bytesN 32 (restS x)) W) ?_
  simp only [putT, List.set]
  refine wpV_move (v := .tuple #[fe (sparseN (bytesN 32 (restS x))), .int .i64 (sparseE (bytesN 32 (restS x)))]) (by rfl) rfl rfl ?_
  simp only [putT, List.set]
  refine wpV_extract (v := fe (sparseN (bytesN 32 (restS x)))) (by rfl) rfl rfl rfl ?_
  simp only [putT, List.set]
  refine wpV_extract (v := .int .i64 (sparseE (bytesN 32 (restS x)))) (by rfl) rfl rfl rfl ?_
  simp only [putT, List.set]
  refine wpV_alloc (by rfl) ?_
  refine wpV_nil (hLk.out _ ?_)
  clear hLk Lk
  simp only [List.take, List.drop]
  iterate 5 refine wpN_skip (by rfl) ?_
  refine wpN_new (t := 24) (cs := ([.int .u64 0, .int .u64 0, .int .u64 0, .int .u64 0]).toArray) (by rfl) (fun W => ?_) (fun g13 Hg13 ng13 => ?_)
  · go_simp
  simp only [putT, List.set]
  refine wpN_nil (fun w14 Sw14 hbs => ?_)
  have Bg13 : Blk w14 g13 24 ([.int .u64 0, .int .u64 0, .int .u64 0, .int .u64 0]).toArray := hbs _ (List.mem_cons_self ..)
  clear hbs
  have Ng3_g13 : g3 ≠ g13 := Nat.ne_of_lt (Nat.lt_of_lt_of_le Lg3 Hg13)
  have Gg13 : w.heap.size ≤ g13 := Nat.le_trans BE.size Hg13
  replace Rg3_0 := range_sees Rg3_0 Lg3 Sw14
  replace Tg3 := there_sees Tg3 Lg3 Sw14
  replace Lg3 := Nat.lt_of_lt_of_le Lg3 Sw14.2.2.size
  replace BE := BE.trans (Sw14.2.2.mono BE.size)
  have Tg13 := blk_there Bg13 (n := 4) (by simp [flen])
  have Rg13_0 := blk_range Bg13 (l := [.int .u64 0, .int .u64 0, .int .u64 0, .int .u64 0]) rfl
  have Lg13 := Bg13.lt
  clear ng13 Bg13
  refine wpL_store (g := g13) (off := 0) (n := 4) (cs := fel (sparseN (bytesN 32 (restS x)))) (by rfl) (by rfl) (by rfl) (by rfl) (by rfl) Tg13 (by simp [flen]) info24 (fel_one _) (fun w15 Pw15 RR TT => ?_)
  replace Rg3_0 := Pw15.range Rg3_0 (.inl Ng3_g13)
  replace Tg3 := Pw15.other_there Tg3 Ng3_g13
  replace Rg13_0 := RR
  clear RR
  replace Tg13 := TT
  replace Lg3 := Pw15.lt Lg3
  replace Lg13 := Pw15.lt Lg13
  replace BE := Pw15.below BE Gg13
  refine wpL_assign (v := .int .i64 (sparseE (bytesN 32 (restS x)))) (by rfl) (by rfl) (by rfl) ?_
  simp only [putT, List.set]
  refine wpL_nil (no_panic ?_)
  refine hK11 _ _ ?_
  refine wp_seq_k (fun K16 hK16 => ?_)
  refine wp_seq_k (fun K17 hK17 => ?_)
  refine wp_region_grow 17 [] (by kernel_rfl) (by kernel_rfl) (by kernel_rfl) (fun Lk hLk => ?_)
  simp only [List.take, List.drop]
  refine wpV_move (v := .string (bs (bytesN 32 (restS x)))) (by rfl) rfl rfl ?_
  simp only [putT, List.set]
  refine wpV_lenS (by rfl) rfl rfl rfl Try.underlying9 ?_
  simp only [putT, List.set]
  refine wpV_bin (v := .bool false) (by rfl) rfl rfl rfl (fun W => (run_neq _ _ _ _ W).trans (by rw [(by rw [bytesN_len]; rfl : ((((bytesN 32 (restS x)).length : Nat) : Int) != 32) = false)])) ?_
  simp only [putT, List.set]
  refine wpV_move (v := .bool false) (by rfl) rfl rfl ?_
  simp only [putT, List.set]
  refine wpV_move (v := .int .i64 (sparseE (bytesN 32 (restS x)))) (by rfl) rfl rfl ?_
  simp only [putT, List.set]
  refine wpV_bin (v := .bool false) (by rfl) rfl rfl rfl (fun W => (run_neq _ _ _ _ W).trans (by rw [(by rw [(sp_bytes x).2]; rfl : (sparseE (bytesN 32 (restS x)) != 0) = false)])) ?_
  simp only [putT, List.set]
  refine wpV_pick (v := .bool false) (by rfl) rfl rfl rfl ?_
  simp only [putT, List.set]
  refine wpV_move (v := .bool false) (by rfl) rfl rfl ?_
  simp only [putT, List.set]
  refine wpV_load (cs := fel (sparseN (bytesN 32 (restS x)))) (by rfl) rfl rfl Rg13_0 Lg13 Try.underlying24 rfl info24 ?_
  simp only [putT, List.set]
  refine wpV_load (cs := fel x) (by rfl) rfl rfl Rg3_0 Lg3 Try.underlying24 rfl info24 ?_
  simp only [putT, List.set]
  refine wpV_callf (v := fe (restS x)) (args := #[fe x]) (by rfl) rfl Try.func17 (by kernel_rfl) (by kernel_rfl) rfl (fun W hW => rleast05_c hx) ?_
  simp only [putT, List.set]
  refine wpV_val (v := .bool false) (by rfl) (by rfl) (fun W hW => ?_) ?_
  · exact (decide_eq_false (fun h => h ((sp_bytes x).1)) : decide (sparseN (bytesN 32 (restS x)) ≠ restS x) = false) ▸ run_neq_fe (sparseN_lt ..) (restS_lt _) Try.underlying24 Try.underlying22 info22 (by kernel_rfl) rfl rfl rfl W
  simp only [putT, List.set]
  refine wpV_pick (v := .bool false) (by rfl) rfl rfl rfl ?_
  simp only [putT, List.set]
  refine wpV_move (v := .bool false) (by rfl) rfl rfl ?_
  simp only [putT, List.set]
  refine wpV_callf (v := .bool true) (args := #[]) (by rfl) rfl Try.func16 (by kernel_rfl) (by kernel_rfl) rfl (fun W hW => alive05_c) ?_
  simp only [putT, List.set]
  refine wpV_not (b := true) (by rfl) rfl rfl ?_
  simp only [Bool.not_true, Bool.not_false]
  simp only [putT, List.set]
  refine wpV_pick (v := .bool false) (by rfl) rfl rfl rfl ?_
  simp only [putT, List.set]
  refine wpV_nil (hLk.out _ ?_)
  clear hLk Lk
  simp only [List.take, List.drop]
  iterate 17 refine wpN_skip (by rfl) ?_
  refine wpN_nil (fun w19 Sw19 hbs => ?_)
  clear hbs
  replace Rg3_0 := range_sees Rg3_0 Lg3 Sw19
  replace Tg3 := there_sees Tg3 Lg3 Sw19
  replace Rg13_0 := range_sees Rg13_0 Lg13 Sw19
  replace Tg13 := there_sees Tg13 Lg13 Sw19
  replace Lg3 := Nat.lt_of_lt_of_le Lg3 Sw19.2.2.size
  replace Lg13 := Nat.lt_of_lt_of_le Lg13 Sw19.2.2.size
  replace BE := BE.trans (Sw19.2.2.mono BE.size)
  refine wpL_nil (no_panic ?_)
  refine hK17 _ _ ?_
  refine wp_cond_false rfl ?_
  refine wp_skip ?_
  refine hK16 _ _ ?_
  refine wp_seq_k (fun K20 hK20 => ?_)
  refine wp_region_plain 6 (by kernel_rfl) (fun Lk hLk => ?_)
  simp only [List.take, List.drop]
  refine wpV_move (v := .string (bs m)) (by rfl) rfl rfl ?_
  simp only [putT, List.set]
  refine wpV_callf (v := .tuple #[fe (sparseN m), .int .i64 (sparseE m)]) (args := #[.string (bs m)]) (by rfl) rfl Try.func32 (by kernel_rfl) (by kernel_rfl) rfl (fun W hW => sparse_c m W) ?_
  simp only [putT, List.set]
  refine wpV_move (v := .tuple #[fe (sparseN m), .int .i64 (sparseE m)]) (by rfl) rfl rfl ?_
  simp only [putT, List.set]
  refine wpV_extract (v := fe (sparseN m)) (by rfl) rfl rfl rfl ?_
  simp only [putT, List.set]
  refine wpV_extract (v := .int .i64 (sparseE m)) (by rfl) rfl rfl rfl ?_
  simp only [putT, List.set]
  refine wpV_alloc (by rfl) ?_
  refine wpV_nil (hLk.out _ ?_)
  clear hLk Lk
  simp only [List.take, List.drop]
  iterate 5 refine wpN_skip (by rfl) ?_
  refine wpN_new (t := 24) (cs := ([.int .u64 0, .int .u64 0, .int .u64 0, .int .u64 0]).toArray) (by rfl) (fun W => ?_) (fun g22 Hg22 ng22 => ?_)
  · go_simp
  simp only [putT, List.set]
  refine wpN_nil (fun w23 Sw23 hbs => ?_)
  have Bg22 : Blk w23 g22 24 ([.int .u64 0, .int .u64 0, .int .u64 0, .int .u64 0]).toArray := hbs _ (List.mem_cons_self ..)
  clear hbs
  have Ng3_g22 : g3 ≠ g22 := Nat.ne_of_lt (Nat.lt_of_lt_of_le Lg3 Hg22)
  have Ng13_g22 : g13 ≠ g22 := Nat.ne_of_lt (Nat.lt_of_lt_of_le Lg13 Hg22)
  have Gg22 : w.heap.size ≤ g22 := Nat.le_trans BE.size Hg22
  replace Rg3_0 := range_sees Rg3_0 Lg3 Sw23
  replace Tg3 := there_sees Tg3 Lg3 Sw23
  replace Rg13_0 := range_sees Rg13_0 Lg13 Sw23
  replace Tg13 := there_sees Tg13 Lg13 Sw23
  replace Lg3 := Nat.lt_of_lt_of_le Lg3 Sw23.2.2.size
  replace Lg13 := Nat.lt_of_lt_of_le Lg13 Sw23.2.2.size
  replace BE := BE.trans (Sw23.2.2.mono BE.size)
  have Tg22 := blk_there Bg22 (n := 4) (by simp [flen])
  have Rg22_0 := blk_range Bg22 (l := [.int .u64 0, .int .u64 0, .int .u64 0, .int .u64 0]) rfl
  have Lg22 := Bg22.lt
  clear ng22 Bg22
  refine wpL_store (g := g22) (off := 0) (n := 4) (cs := fel (sparseN m)) (by rfl) (by rfl) (by rfl) (by rfl) (by rfl) Tg22 (by simp [flen]) info24 (fel_one _) (fun w24 Pw24 RR TT => ?_)
  replace Rg3_0 := Pw24.range Rg3_0 (.inl Ng3_g22)
  replace Tg3 := Pw24.other_there Tg3 Ng3_g22
  replace Rg13_0 := Pw24.range Rg13_0 (.inl Ng13_g22)
  replace Tg13 := Pw24.other_there Tg13 Ng13_g22
  replace Rg22_0 := RR
  clear RR
  replace Tg22 := TT
  replace Lg3 := Pw24.lt Lg3
  replace Lg13 := Pw24.lt Lg13
  replace Lg22 := Pw24.lt Lg22
  replace BE := Pw24.below BE Gg22
  refine wpL_assign (v := .int .i64 (sparseE m)) (by rfl) (by rfl) (by rfl) ?_
  simp only [putT, List.set]
  refine wpL_nil (no_panic ?_)
  refine hK20 _ _ ?_
  refine wp_seq_k (fun K25 hK25 => ?_)
  cases hq26 : ((sparseE m) != 0)
  · skip
    have q0 : sparseE m = 0 := bne_eq_false_iff_eq.1 hq26
    refine wp_region_plain 13 (by kernel_rfl) (fun Lk hLk => ?_)
    simp only [List.take, List.drop]
    refine wpV_move (v := .int .i64 (sparseE m)) (by rfl) rfl rfl ?_
    simp only [putT, List.set]
    refine wpV_bin (v := .bool false) (by rfl) rfl rfl rfl (fun W => (run_neq _ _ _ _ W).trans (by rw [hq26])) ?_
    simp only [putT, List.set]
    refine wpV_move (v := .bool false) (by rfl) rfl rfl ?_
    simp only [putT, List.set]
    refine wpV_skip (by rfl) (by rfl) ?_
    simp only [putT, List.set]
    refine wpV_skip (by rfl) (by rfl) ?_
    simp only [putT, List.set]
    refine wpV_skip (by rfl) (by rfl) ?_
    simp only [putT, List.set]
    refine wpV_pick (v := .bool false) (by rfl) rfl rfl rfl ?_
    simp only [putT, List.set]
    refine wpV_move (v := .bool false) (by rfl) rfl rfl ?_
    simp only [putT, List.set]
    refine wpV_load (cs := fel (sparseN m)) (by rfl) rfl rfl Rg22_0 Lg22 Try.underlying24 rfl info24 ?_
    simp only [putT, List.set]
    refine wpV_callf (v := .string (bs (bytesN 32 (restS (sparseN m))))) (args := #[fe (sparseN m)]) (by rfl) rfl Try.func33 (by kernel_rfl) (by kernel_rfl) rfl (fun W hW => sbytes_c (sparseN_lt ..) W) ?_
    simp only [putT, List.set]
    refine wpV_move (v := .string (bs m)) (by rfl) rfl rfl ?_
    simp only [putT, List.set]
    refine wpV_binS (v := .bool true) (by rfl) rfl rfl rfl (fun W => (run_eql_bs _ _ _ W).trans (by rw [(decide_eq_true (sp_yes q0) : decide (bytesN 32 (restS (sparseN m)) = m) = true)])) ?_
    simp only [putT, List.set]
    refine wpV_pick (v := .bool true) (by rfl) rfl rfl rfl ?_
    simp only [putT, List.set]
    refine wpV_nil (hLk.out _ ?_)
    clear hLk Lk
    simp only [List.take, List.drop]
    iterate 13 refine wpN_skip (by rfl) ?_
    refine wpN_nil (fun w28 Sw28 hbs => ?_)
    clear hbs
    replace Rg3_0 := range_sees Rg3_0 Lg3 Sw28
    replace Tg3 := there_sees Tg3 Lg3 Sw28
    replace Rg13_0 := range_sees Rg13_0 Lg13 Sw28
    replace Tg13 := there_sees Tg13 Lg13 Sw28
    replace Rg22_0 := range_sees Rg22_0 Lg22 Sw28
    replace Tg22 := there_sees Tg22 Lg22 Sw28
    replace Lg3 := Nat.lt_of_lt_of_le Lg3 Sw28.2.2.size
    replace Lg13 := Nat.lt_of_lt_of_le Lg13 Sw28.2.2.size
    replace Lg22 := Nat.lt_of_lt_of_le Lg22 Sw28.2.2.size
    replace BE := BE.trans (Sw28.2.2.mono BE.size)
    refine wpL_assign (v := .bool true) (by rfl) (by rfl) (by rfl) ?_
    simp only [putT, List.set]
    refine wpL_nil (no_panic ?_)
    refine hK25 _ _ ?_
    refine wp_ret ?_
    repeat (first | with_reducible refine then_ret ?_ | with_reducible refine inblock_ret ?_)
    refine bodyPost_ret (v := .bool true) (res1 rfl (.tmp (by rfl))) rfl ?_
    exact ⟨rfl, BE⟩
  · skip
    have q0 : sparseE m ≠ 0 := bne_iff_ne.1 hq26
    refine wp_region_plain 13 (by kernel_rfl) (fun Lk hLk => ?_)
    simp only [List.take, List.drop]
    refine wpV_move (v := .int .i64 (sparseE m)) (by rfl) rfl rfl ?_
    simp only [putT, List.set]
    refine wpV_bin (v := .bool true) (by rfl) rfl rfl rfl (fun W => (run_neq _ _ _ _ W).trans (by rw [hq26])) ?_
    simp only [putT, List.set]
    refine wpV_move (v := .bool true) (by rfl) rfl rfl ?_
    simp only [putT, List.set]
    refine wpV_load (cs := fel (sparseN m)) (by rfl) rfl rfl Rg22_0 Lg22 Try.underlying24 rfl info24 ?_
    simp only [putT, List.set]
    refine wpV_val (v := fe 0) (by rfl) (by rfl) (fun W hW => ?_) ?_
    · rw [show fe 0 = .agg ([.int .u64 0, .int .u64 0, .int .u64 0, .int .u64 0]).toArray from (by kernel_rfl)]; unfold RunsVal; kernel_rfl
    simp only [putT, List.set]
    refine wpV_val (v := .bool true) (by rfl) (by rfl) (fun W hW => ?_) ?_
    · exact (decide_eq_true (sp_no q0) : decide (sparseN m = 0) = true) ▸ run_eql_fe (sparseN_lt ..) (by decide) Try.underlying24 Try.underlying22 info22 (by kernel_rfl) rfl rfl rfl W
    simp only [putT, List.set]
    refine wpV_pick (v := .bool true) (by rfl) rfl rfl rfl ?_
    simp only [putT, List.set]
    refine wpV_move (v := .bool true) (by rfl) rfl rfl ?_
    simp only [putT, List.set]
    refine wpV_skip (by rfl) (by rfl) ?_
    simp only [putT, List.set]
    refine wpV_skip (by rfl) (by rfl) ?_
    simp only [putT, List.set]
    refine wpV_skip (by rfl) (by rfl) ?_
    simp only [putT, List.set]
    refine wpV_skip (by rfl) (by rfl) ?_
    simp only [putT, List.set]
    refine wpV_pick (v := .bool true) (by rfl) rfl rfl rfl ?_
    simp only [putT, List.set]
    refine wpV_nil (hLk.out _ ?_)
    clear hLk Lk
    simp only [List.take, List.drop]
    iterate 13 refine wpN_skip (by rfl) ?_
    refine wpN_nil (fun w30 Sw30 hbs => ?_)
    clear hbs
    replace Rg3_0 := range_sees Rg3_0 Lg3 Sw30
    replace Tg3 := there_sees Tg3 Lg3 Sw30
    replace Rg13_0 := range_sees Rg13_0 Lg13 Sw30
    replace Tg13 := there_sees Tg13 Lg13 Sw30
    replace Rg22_0 := range_sees Rg22_0 Lg22 Sw30
    replace Tg22 := there_sees Tg22 Lg22 Sw30
    replace Lg3 := Nat.lt_of_lt_of_le Lg3 Sw30.2.2.size
    replace Lg13 := Nat.lt_of_lt_of_le Lg13 Sw30.2.2.size
    replace Lg22 := Nat.lt_of_lt_of_le Lg22 Sw30.2.2.size
    replace BE := BE.trans (Sw30.2.2.mono BE.size)
    refine wpL_assign (v := .bool true) (by rfl) (by rfl) (by rfl) ?_
    simp only [putT, List.set]
    refine wpL_nil (no_panic ?_)
    refine hK25 _ _ ?_
    refine wp_ret ?_
    repeat (first | with_reducible refine then_ret ?_ | with_reducible refine inblock_ret ?_)
    refine bodyPost_ret (v := .bool true) (res1 rfl (.tmp (by rfl))) rfl ?_
    exact ⟨rfl, BE⟩
end Go.Proofs.Ya
