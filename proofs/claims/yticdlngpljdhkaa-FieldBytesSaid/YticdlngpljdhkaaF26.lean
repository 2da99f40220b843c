import Derived.Test.YticdlngpljdhkaaF17
import Derived.Test.YticdlngpljdhkaaF22
import Derived.Test.YticdlngpljdhkaaNumT
set_option linter.unusedSimpArgs false
set_option linter.unusedVariables false
namespace Go.Proofs.Ya
open Go Go.RowKit Go.Shelf Go.Proofs.Num
set_option maxHeartbeats 4000000 in
theorem lfbytes_c {x : Nat} (hx : x < 2 ^ 256) (l : List UInt8) {w : World}  :
    Calls Try.prog 12 #[fe x, .string (bs l)] w fun e w' => e = .returned (.bool true) ∧ Below w.heap.size w w' := by
  go_enter Try.func12, Try.ntmps12
  have BE := Below.refl w.heap.size w
  refine wp_seq_k (fun K1 hK1 => ?_)
  refine wp_region_plain 1 (by kernel_rfl) (fun Lk hLk => ?_)
  simp only [List.take, List.drop]
  refine wpV_alloc (by rfl) ?_
  refine wpV_nil (hLk.out _ ?_)
  clear hLk Lk
  simp only [List.take, List.drop]
  refine wpN_new (t := 34) (cs := (fel x).toArray) (by rfl) (fun W => ?_) (fun g3 Hg3 ng3 => ?_)
  · (first | rfl | go_simp)
  simp only [putT, List.set]
  refine wpN_nil (fun w4 Sw4 hbs => ?_)
  have Bg3 : Blk w4 g3 34 (fel x).toArray := hbs _ (List.mem_cons_self ..)
  clear hbs
  have Gg3 : w.heap.size ≤ g3 := Nat.le_trans BE.size Hg3
  replace BE := BE.trans (Sw4.2.2.mono BE.size)
  have Tg3 := blk_there Bg3 (n := 4) (by simp [flen])
  have Rg3_0 := blk_range Bg3 (l := fel x) rfl
  have Lg3 := Bg3.lt
  clear ng3 Bg3
  refine wpL_assign (v := .bool false) (by rfl) (by rfl) (by rfl) ?_
  simp only [putT, List.set]
  refine wpL_nil (no_panic ?_)
  refine hK1 _ _ ?_
  refine wp_seq_k (fun K5 hK5 => ?_)
  refine wp_region_plain 5 (by kernel_rfl) (fun Lk hLk => ?_)
  simp only [List.take, List.drop]
  refine wpV_move (v := .string (bs l)) (by rfl) rfl rfl ?_
  simp only [putT, List.set]
  refine wpV_move (v := .string (bs l)) (by rfl) rfl rfl ?_
  simp only [putT, List.set]
  refine wpV_lenS (by rfl) rfl rfl rfl Try.underlying9 ?_
  simp only [putT, List.set]
  refine wpV_min (n := l.length) (m := 40) (by rfl) rfl rfl rfl ?_
  simp only [putT, List.set]
  refine wpV_cut (l := l) (m := 40) (by rfl) rfl rfl rfl Try.underlying9 ?_
  simp only [putT, List.set]
  refine wpV_nil (hLk.out _ ?_)
  clear hLk Lk
  simp only [List.take, List.drop]
  iterate 5 refine wpN_skip (by rfl) ?_
  refine wpN_nil (fun w7 Sw7 hbs => ?_)
  clear hbs
  replace Rg3_0 := range_sees Rg3_0 Lg3 Sw7
  replace Tg3 := there_sees Tg3 Lg3 Sw7
  replace Lg3 := Nat.lt_of_lt_of_le Lg3 Sw7.2.2.size
  replace BE := BE.trans (Sw7.2.2.mono BE.size)
  refine wpL_assign (v := .string (bs (cut l 40))) (by rfl) (by rfl) (by rfl) ?_
  simp only [putT, List.set]
  refine wpL_nil (no_panic ?_)
  have hm_m := cut_len l 40
  generalize cut l 40 = m at hm_m ⊢
  refine hK5 _ _ ?_
  refine wp_seq_k (fun K8 hK8 => ?_)
  refine wp_region_plain 2 (by kernel_rfl) (fun Lk hLk => ?_)
  simp only [List.take, List.drop]
  refine wpV_load (cs := fel x) (by rfl) rfl rfl Rg3_0 Lg3 Try.underlying34 rfl info34 ?_
  simp only [putT, List.set]
  refine wpV_callf (v := .string (bs (bytesN 32 (leastF x)))) (args := #[fe x]) (by rfl) rfl Try.func38 (by kernel_rfl) (by kernel_rfl) rfl (fun W hW => fbytes_c hx W) ?_
  simp only [putT, List.set]
  refine wpV_nil (hLk.out _ ?_)
  clear hLk Lk
  simp only [List.take, List.drop]
  iterate 2 refine wpN_skip (by rfl) ?_
  refine wpN_nil (fun w10 Sw10 hbs => ?_)
  clear hbs
  replace Rg3_0 := range_sees Rg3_0 Lg3 Sw10
  replace Tg3 := there_sees Tg3 Lg3 Sw10
  replace Lg3 := Nat.lt_of_lt_of_le Lg3 Sw10.2.2.size
  replace BE := BE.trans (Sw10.2.2.mono BE.size)
  refine wpL_assign (v := .string (bs (bytesN 32 (leastF x)))) (by rfl) (by rfl) (by rfl) ?_
  simp only [putT, List.set]
  refine wpL_nil (no_panic ?_)
  refine hK8 _ _ ?_
  refine wp_seq_k (fun K11 hK11 => ?_)
  refine wp_region_plain 6 (by kernel_rfl) (fun Lk hLk => ?_)
  simp only [List.take, List.drop]
  refine wpV_move (v := .string (bs (bytesN 32 (leastF x)))) (by rfl) rfl rfl ?_
  simp only [putT, List.set]
  refine wpV_callf (v := .tuple #[fe (fparseN (bytesN 32 (leastF x))), .int .i64 (fparseE (bytesN 32 (leastF x)))]) (args := #[.string (bs (bytesN 32 (leastF x)))]) (by rfl) rfl Try.func39 (by kernel_rfl) (by kernel_rfl) rfl (fun W hW => fparse_c (bytesN 32 (leastF x)) W) ?_
  simp only [putT, List.set]
  refine wpV_move (v := .tuple #[fe (fparseN (bytesN 32 (leastF x))), .int .i64 (fparseE (bytesN 32 (leastF x)))]) (by rfl) rfl rfl ?_
  simp only [putT, List.set]
  refine wpV_extract (v := fe (fparseN (bytesN 32 (leastF x)))) (by rfl) rfl rfl rfl ?_
  simp only [putT, List.set]
  refine wpV_extract (v := .int .i64 (fparseE (bytesN 32 (leastF x)))) (by rfl) rfl rfl rfl ?_
  simp only [putT, List.set]
  refine wpV_alloc (by rfl) ?_
  refine wpV_nil (hLk.out _ ?_)
  clear hLk Lk
  simp only [List.take, List.drop]
  iterate 5 refine wpN_skip (by rfl) ?_
  refine wpN_new (t := 34) (cs := ([.int .u64 0, .int .u64 0, .int .u64 0, .int .u64 0]).toArray) (by rfl) (fun W => ?_) (fun g13 Hg13 ng13 => ?_)
  · go_simp
  simp only [putT, List.set]
  refine wpN_nil (fun w14 Sw14 hbs => ?_)
  have Bg13 : Blk w14 g13 34 ([.int .u64 0, .int .u64 0, .int .u64 0, .int .u64 0]).toArray := hbs _ (List.mem_cons_self ..)
  clear hbs
  have Ng3_g13 : g3 ≠ g13 := Nat.ne_of_lt (Nat.lt_of_lt_of_le Lg3 Hg13)
  have Gg13 : w.heap.size ≤ g13 := Nat.le_trans BE.size Hg13
  replace Rg3_0 := range_sees Rg3_0 Lg3 Sw14
  replace Tg3 := there_sees Tg3 Lg3 Sw14
  replace Lg3 := Nat.lt_of_lt_of_le Lg3 Sw14.2.2.size
  replace BE := BE.trans (Sw14.2.2.mono BE.size)
  have Tg13 := blk_there Bg13 (n := 4) (by simp [flen])
  have Rg13_0 := blk_range Bg13 (l := [.int .u64 0, .int .u64 0, .int .u64 0, .int .u64 0]) rfl
  have Lg13 := Bg13.lt
  clear ng13 Bg13
  refine wpL_store (g := g13) (off := 0) (n := 4) (cs := fel (fparseN (bytesN 32 (leastF x)))) (by rfl) (by rfl) (by rfl) (by rfl) (by rfl) Tg13 (by simp [flen]) info34 (fel_one _) (fun w15 Pw15 RR TT => ?_)
  replace Rg3_0 := Pw15.range Rg3_0 (.inl Ng3_g13)
  replace Tg3 := Pw15.other_there Tg3 Ng3_g13
  replace Rg13_0 := RR
  clear RR
  replace Tg13 := TT
  replace Lg3 := Pw15.lt Lg3
  replace Lg13 := Pw15.lt Lg13
  replace BE := Pw15.below BE Gg13
  refine wpL_assign (v := .int .i64 (fparseE (bytesN 32 (leastF x)))) (by rfl) (by rfl) (by rfl) ?_
  simp only [putT, List.set]
  refine wpL_nil (no_panic ?_)
  refine hK11 _ _ ?_
  refine wp_seq_k (fun K16 hK16 => ?_)
  refine wp_region_plain 6 (by kernel_rfl) (fun Lk hLk => ?_)
  simp only [List.take, List.drop]
  refine wpV_move (v := .string (bs m)) (by rfl) rfl rfl ?_
  simp only [putT, List.set]
  refine wpV_callf (v := .tuple #[fe (fparseN m), .int .i64 (fparseE m)]) (args := #[.string (bs m)]) (by rfl) rfl Try.func39 (by kernel_rfl) (by kernel_rfl) rfl (fun W hW => fparse_c m W) ?_
  simp only [putT, List.set]
  refine wpV_move (v := .tuple #[fe (fparseN m), .int .i64 (fparseE m)]) (by rfl) rfl rfl ?_
  simp only [putT, List.set]
  refine wpV_extract (v := fe (fparseN m)) (by rfl) rfl rfl rfl ?_
  simp only [putT, List.set]
  refine wpV_extract (v := .int .i64 (fparseE m)) (by rfl) rfl rfl rfl ?_
  simp only [putT, List.set]
  refine wpV_alloc (by rfl) ?_
  refine wpV_nil (hLk.out _ ?_)
  clear hLk Lk
  simp only [List.take, List.drop]
  iterate 5 refine wpN_skip (by rfl) ?_
  refine wpN_new (t := 34) (cs := ([.int .u64 0, .int .u64 0, .int .u64 0, .int .u64 0]).toArray) (by rfl) (fun W => ?_) (fun g18 Hg18 ng18 => ?_)
  · go_simp
  simp only [putT, List.set]
  refine wpN_nil (fun w19 Sw19 hbs => ?_)
  have Bg18 : Blk w19 g18 34 ([.int .u64 0, .int .u64 0, .int .u64 0, .int .u64 0]).toArray := hbs _ (List.mem_cons_self ..)
  clear hbs
  have Ng3_g18 : g3 ≠ g18 := Nat.ne_of_lt (Nat.lt_of_lt_of_le Lg3 Hg18)
  have Ng13_g18 : g13 ≠ g18 := Nat.ne_of_lt (Nat.lt_of_lt_of_le Lg13 Hg18)
  have Gg18 : w.heap.size ≤ g18 := Nat.le_trans BE.size Hg18
  replace Rg3_0 := range_sees Rg3_0 Lg3 Sw19
  replace Tg3 := there_sees Tg3 Lg3 Sw19
  replace Rg13_0 := range_sees Rg13_0 Lg13 Sw19
  replace Tg13 := there_sees Tg13 Lg13 Sw19
  replace Lg3 := Nat.lt_of_lt_of_le Lg3 Sw19.2.2.size
  replace Lg13 := Nat.lt_of_lt_of_le Lg13 Sw19.2.2.size
  replace BE := BE.trans (Sw19.2.2.mono BE.size)
  have Tg18 := blk_there Bg18 (n := 4) (by simp [flen])
  have Rg18_0 := blk_range Bg18 (l := [.int .u64 0, .int .u64 0, .int .u64 0, .int .u64 0]) rfl
  have Lg18 := Bg18.lt
  clear ng18 Bg18
  refine wpL_store (g := g18) (off := 0) (n := 4) (cs := fel (fparseN m)) (by rfl) (by rfl) (by rfl) (by rfl) (by rfl) Tg18 (by simp [flen]) info34 (fel_one _) (fun w20 Pw20 RR TT => ?_)
  replace Rg3_0 := Pw20.range Rg3_0 (.inl Ng3_g18)
  replace Tg3 := Pw20.other_there Tg3 Ng3_g18
  replace Rg13_0 := Pw20.range Rg13_0 (.inl Ng13_g18)
  replace Tg13 := Pw20.other_there Tg13 Ng13_g18
  replace Rg18_0 := RR
  clear RR
  replace Tg18 := TT
  replace Lg3 := Pw20.lt Lg3
  replace Lg13 := Pw20.lt Lg13
  replace Lg18 := Pw20.lt Lg18
  replace BE := Pw20.below BE Gg18
  refine wpL_assign (v := .int .i64 (fparseE m)) (by rfl) (by rfl) (by rfl) ?_
  simp only [putT, List.set]
  refine wpL_nil (no_panic ?_)
  refine hK16 _ _ ?_
  refine wp_seq_k (fun K21 hK21 => ?_)
  refine wp_seq_k (fun K22 hK22 => ?_)
  refine wp_region_grow 18 [] (by kernel_rfl) (by kernel_rfl) (by kernel_rfl) (fun Lk hLk => ?_)
  simp only [List.take, List.drop]
  refine wpV_move (v := .string (bs (bytesN 32 (leastF x)))) (by rfl) rfl rfl ?_
  simp only [putT, List.set]
  refine wpV_load (cs := fel x) (by rfl) rfl rfl Rg3_0 Lg3 Try.underlying34 rfl info34 ?_
  simp only [putT, List.set]
  refine wpV_callf (v := .string (bs (bytesN 32 (leastF x)))) (args := #[fe x]) (by rfl) rfl Try.func40 (by kernel_rfl) (by kernel_rfl) rfl (fun W hW => rbytes04_c hx) ?_
  simp only [putT, List.set]
  refine wpV_binS (v := .bool false) (by rfl) rfl rfl rfl (fun W => (run_neq_bs _ _ _ W).trans (by rw [(decide_eq_false (fun h => h (rfl)) : decide (bytesN 32 (leastF x) ≠ bytesN 32 (leastF x)) = false)])) ?_
  simp only [putT, List.set]
  refine wpV_move (v := .bool false) (by rfl) rfl rfl ?_
  simp only [putT, List.set]
  refine wpV_move (v := .int .i64 (fparseE (bytesN 32 (leastF x)))) (by rfl) rfl rfl ?_
  simp only [putT, List.set]
  refine wpV_bin (v := .bool false) (by rfl) rfl rfl rfl (fun W => (run_neq _ _ _ _ W).trans (by rw [(by rw [(fp_bytes x).2]; rfl : (fparseE (bytesN 32 (leastF x)) != 0) = false)])) ?_
  simp only [putT, List.set]
  refine wpV_pick (v := .bool false) (by rfl) rfl rfl rfl ?_
  simp only [putT, List.set]
  refine wpV_move (v := .bool false) (by rfl) rfl rfl ?_
  simp only [putT, List.set]
  refine wpV_load (cs := fel (fparseN (bytesN 32 (leastF x)))) (by rfl) rfl rfl Rg13_0 Lg13 Try.underlying34 rfl info34 ?_
  simp only [putT, List.set]
  refine wpV_load (cs := fel x) (by rfl) rfl rfl Rg3_0 Lg3 Try.underlying34 rfl info34 ?_
  simp only [putT, List.set]
  refine wpV_callf (v := fe (leastF x)) (args := #[fe x]) (by rfl) rfl Try.func25 (by kernel_rfl) (by kernel_rfl) rfl (fun W hW => rleast04_c hx) ?_
  simp only [putT, List.set]
  refine wpV_val (v := .bool false) (by rfl) (by rfl) (fun W hW => ?_) ?_
  · exact (decide_eq_false (fun h => h ((fp_bytes x).1)) : decide (fparseN (bytesN 32 (leastF x)) ≠ leastF x) = false) ▸ run_neq_fe (fparseN_lt ..) (leastF_lt _) Try.underlying34 Try.underlying22 info22 (by kernel_rfl) rfl rfl rfl W
  simp only [putT, List.set]
  refine wpV_pick (v := .bool false) (by rfl) rfl rfl rfl ?_
  simp only [putT, List.set]
  refine wpV_move (v := .bool false) (by rfl) rfl rfl ?_
  simp only [putT, List.set]
  refine wpV_callf (v := .bool true) (args := #[]) (by rfl) rfl Try.func22 (by kernel_rfl) (by kernel_rfl) rfl (fun W hW => alive04_c) ?_
  simp only [putT, List.set]
  refine wpV_not (b := true) (by rfl) rfl rfl ?_
  simp only [Bool.not_true, Bool.not_false]
  simp only [putT, List.set]
  refine wpV_pick (v := .bool false) (by rfl) rfl rfl rfl ?_
  simp only [putT, List.set]
  refine wpV_nil (hLk.out _ ?_)
  clear hLk Lk
  simp only [List.take, List.drop]
  iterate 18 refine wpN_skip (by rfl) ?_
  refine wpN_nil (fun w24 Sw24 hbs => ?_)
  clear hbs
  replace Rg3_0 := range_sees Rg3_0 Lg3 Sw24
  replace Tg3 := there_sees Tg3 Lg3 Sw24
  replace Rg13_0 := range_sees Rg13_0 Lg13 Sw24
  replace Tg13 := there_sees Tg13 Lg13 Sw24
  replace Rg18_0 := range_sees Rg18_0 Lg18 Sw24
  replace Tg18 := there_sees Tg18 Lg18 Sw24
  replace Lg3 := Nat.lt_of_lt_of_le Lg3 Sw24.2.2.size
  replace Lg13 := Nat.lt_of_lt_of_le Lg13 Sw24.2.2.size
  replace Lg18 := Nat.lt_of_lt_of_le Lg18 Sw24.2.2.size
  replace BE := BE.trans (Sw24.2.2.mono BE.size)
  refine wpL_nil (no_panic ?_)
  refine hK22 _ _ ?_
  refine wp_cond_false rfl ?_
  refine wp_skip ?_
  refine hK21 _ _ ?_
  refine wp_seq_k (fun K25 hK25 => ?_)
  refine wp_seq_k (fun K26 hK26 => ?_)
  refine wp_region_plain 3 (by kernel_rfl) (fun Lk hLk => ?_)
  simp only [List.take, List.drop]
  refine wpV_move (v := .string (bs m)) (by rfl) rfl rfl ?_
  simp only [putT, List.set]
  refine wpV_lenS (by rfl) rfl rfl rfl Try.underlying9 ?_
  simp only [putT, List.set]
  refine wpV_bin (v := .bool (((m.length : Nat) : Int) != 32)) (by rfl) rfl rfl rfl (fun W => run_neq _ _ _ _ W) ?_
  simp only [putT, List.set]
  refine wpV_nil (hLk.out _ ?_)
  clear hLk Lk
  simp only [List.take, List.drop]
  iterate 3 refine wpN_skip (by rfl) ?_
  refine wpN_nil (fun w28 Sw28 hbs => ?_)
  clear hbs
  replace Rg3_0 := range_sees Rg3_0 Lg3 Sw28
  replace Tg3 := there_sees Tg3 Lg3 Sw28
  replace Rg13_0 := range_sees Rg13_0 Lg13 Sw28
  replace Tg13 := there_sees Tg13 Lg13 Sw28
  replace Rg18_0 := range_sees Rg18_0 Lg18 Sw28
  replace Tg18 := there_sees Tg18 Lg18 Sw28
  replace Lg3 := Nat.lt_of_lt_of_le Lg3 Sw28.2.2.size
  replace Lg13 := Nat.lt_of_lt_of_le Lg13 Sw28.2.2.size
  replace Lg18 := Nat.lt_of_lt_of_le Lg18 Sw28.2.2.size
  replace BE := BE.trans (Sw28.2.2.mono BE.size)
  refine wpL_nil (no_panic ?_)
  refine hK26 _ _ ?_
  cases hc29 : (((m.length : Nat) : Int) != 32)
  · skip
    have h32 : m.length = 32 := by have := bne_eq_false_iff_eq.1 hc29; omega
    refine wp_cond_false rfl ?_
    refine wp_skip ?_
    refine hK25 _ _ ?_
    refine wp_seq_k (fun K30 hK30 => ?_)
    refine wp_region_plain 6 (by kernel_rfl) (fun Lk hLk => ?_)
    simp only [List.take, List.drop]
    refine wpV_move (v := .string (bs m)) (by rfl) rfl rfl ?_
    simp only [putT, List.set]
    refine wpV_callf (v := .tuple #[fe (leN m), .bool (decide (leN m < pF))]) (args := #[.string (bs m)]) (by rfl) rfl Try.func41 (by kernel_rfl) (by kernel_rfl) rfl (fun W hW => rparse04_c (Nat.le_of_eq h32)) ?_
    simp only [putT, List.set]
    refine wpV_move (v := .tuple #[fe (leN m), .bool (decide (leN m < pF))]) (by rfl) rfl rfl ?_
    simp only [putT, List.set]
    refine wpV_extract (v := fe (leN m)) (by rfl) rfl rfl rfl ?_
    simp only [putT, List.set]
    refine wpV_extract (v := .bool (decide (leN m < pF))) (by rfl) rfl rfl rfl ?_
    simp only [putT, List.set]
    refine wpV_alloc (by rfl) ?_
    refine wpV_nil (hLk.out _ ?_)
    clear hLk Lk
    simp only [List.take, List.drop]
    iterate 5 refine wpN_skip (by rfl) ?_
    refine wpN_new (t := 34) (cs := ([.int .u64 0, .int .u64 0, .int .u64 0, .int .u64 0]).toArray) (by rfl) (fun W => ?_) (fun g32 Hg32 ng32 => ?_)
    · go_simp
    simp only [putT, List.set]
    refine wpN_nil (fun w33 Sw33 hbs => ?_)
    have Bg32 : Blk w33 g32 34 ([.int .u64 0, .int .u64 0, .int .u64 0, .int .u64 0]).toArray := hbs _ (List.mem_cons_self ..)
    clear hbs
    have Ng3_g32 : g3 ≠ g32 := Nat.ne_of_lt (Nat.lt_of_lt_of_le Lg3 Hg32)
    have Ng13_g32 : g13 ≠ g32 := Nat.ne_of_lt (Nat.lt_of_lt_of_le Lg13 Hg32)
    have Ng18_g32 : g18 ≠ g32 := Nat.ne_of_lt (Nat.lt_of_lt_of_le Lg18 Hg32)
    have Gg32 : w.heap.size ≤ g32 := Nat.le_trans BE.size Hg32
    replace Rg3_0 := range_sees Rg3_0 Lg3 Sw33
    replace Tg3 := there_sees Tg3 Lg3 Sw33
    replace Rg13_0 := range_sees Rg13_0 Lg13 Sw33
    replace Tg13 := there_sees Tg13 Lg13 Sw33
    replace Rg18_0 := range_sees Rg18_0 Lg18 Sw33
    replace Tg18 := there_sees Tg18 Lg18 Sw33
    replace Lg3 := Nat.lt_of_lt_of_le Lg3 Sw33.2.2.size
    replace Lg13 := Nat.lt_of_lt_of_le Lg13 Sw33.2.2.size
    replace Lg18 := Nat.lt_of_lt_of_le Lg18 Sw33.2.2.size
    replace BE := BE.trans (Sw33.2.2.mono BE.size)
    have Tg32 := blk_there Bg32 (n := 4) (by simp [flen])
    have Rg32_0 := blk_range Bg32 (l := [.int .u64 0, .int .u64 0, .int .u64 0, .int .u64 0]) rfl
    have Lg32 := Bg32.lt
    clear ng32 Bg32
    refine wpL_store (g := g32) (off := 0) (n := 4) (cs := fel (leN m)) (by rfl) (by rfl) (by rfl) (by rfl) (by rfl) Tg32 (by simp [flen]) info34 (fel_one _) (fun w34 Pw34 RR TT => ?_)
    replace Rg3_0 := Pw34.range Rg3_0 (.inl Ng3_g32)
    replace Tg3 := Pw34.other_there Tg3 Ng3_g32
    replace Rg13_0 := Pw34.range Rg13_0 (.inl Ng13_g32)
    replace Tg13 := Pw34.other_there Tg13 Ng13_g32
    replace Rg18_0 := Pw34.range Rg18_0 (.inl Ng18_g32)
    replace Tg18 := Pw34.other_there Tg18 Ng18_g32
    replace Rg32_0 := RR
    clear RR
    replace Tg32 := TT
    replace Lg3 := Pw34.lt Lg3
    replace Lg13 := Pw34.lt Lg13
    replace Lg18 := Pw34.lt Lg18
    replace Lg32 := Pw34.lt Lg32
    replace BE := Pw34.below BE Gg32
    refine wpL_assign (v := .bool (decide (leN m < pF))) (by rfl) (by rfl) (by rfl) ?_
    simp only [putT, List.set]
    refine wpL_nil (no_panic ?_)
    refine hK30 _ _ ?_
    refine wp_seq_k (fun K35 hK35 => ?_)
    refine wp_seq_k (fun K36 hK36 => ?_)
    refine wp_region_plain 2 (by kernel_rfl) (fun Lk hLk => ?_)
    simp only [List.take, List.drop]
    refine wpV_move (v := .bool (decide (leN m < pF))) (by rfl) rfl rfl ?_
    simp only [putT, List.set]
    refine wpV_not (b := decide (leN m < pF)) (by rfl) rfl rfl ?_
    simp only [putT, List.set]
    refine wpV_nil (hLk.out _ ?_)
    clear hLk Lk
    simp only [List.take, List.drop]
    iterate 2 refine wpN_skip (by rfl) ?_
    refine wpN_nil (fun w38 Sw38 hbs => ?_)
    clear hbs
    replace Rg3_0 := range_sees Rg3_0 Lg3 Sw38
    replace Tg3 := there_sees Tg3 Lg3 Sw38
    replace Rg13_0 := range_sees Rg13_0 Lg13 Sw38
    replace Tg13 := there_sees Tg13 Lg13 Sw38
    replace Rg18_0 := range_sees Rg18_0 Lg18 Sw38
    replace Tg18 := there_sees Tg18 Lg18 Sw38
    replace Rg32_0 := range_sees Rg32_0 Lg32 Sw38
    replace Tg32 := there_sees Tg32 Lg32 Sw38
    replace Lg3 := Nat.lt_of_lt_of_le Lg3 Sw38.2.2.size
    replace Lg13 := Nat.lt_of_lt_of_le Lg13 Sw38.2.2.size
    replace Lg18 := Nat.lt_of_lt_of_le Lg18 Sw38.2.2.size
    replace Lg32 := Nat.lt_of_lt_of_le Lg32 Sw38.2.2.size
    replace BE := BE.trans (Sw38.2.2.mono BE.size)
    refine wpL_nil (no_panic ?_)
    refine hK36 _ _ ?_
    cases hc39 : (!(decide (leN m < pF)))
    · skip
      have hb : leN m < pF := by simpa using hc39
      obtain ⟨q1, q2, q3⟩ := fp_yes h32 hb
      refine wp_cond_false rfl ?_
      refine wp_skip ?_
      refine hK35 _ _ ?_
      refine wp_seq_k (fun K40 hK40 => ?_)
      refine wp_region_plain 13 (by kernel_rfl) (fun Lk hLk => ?_)
      simp only [List.take, List.drop]
      refine wpV_move (v := .int .i64 (fparseE m)) (by rfl) rfl rfl ?_
      simp only [putT, List.set]
      refine wpV_bin (v := .bool true) (by rfl) rfl rfl rfl (fun W => (run_eql _ _ _ _ W).trans (by rw [(by rw [q1]; rfl : (fparseE m == 0) = true)])) ?_
      simp only [putT, List.set]
      refine wpV_move (v := .bool true) (by rfl) rfl rfl ?_
      simp only [putT, List.set]
      refine wpV_load (cs := fel (fparseN m)) (by rfl) rfl rfl Rg18_0 Lg18 Try.underlying34 rfl info34 ?_
      simp only [putT, List.set]
      refine wpV_load (cs := fel (leN m)) (by rfl) rfl rfl Rg32_0 Lg32 Try.underlying34 rfl info34 ?_
      simp only [putT, List.set]
      refine wpV_val (v := .bool true) (by rfl) (by rfl) (fun W hW => ?_) ?_
      · exact (decide_eq_true (q2) : decide (fparseN m = leN m) = true) ▸ run_eql_fe (fparseN_lt ..) (leN_256 h32) Try.underlying34 Try.underlying22 info22 (by kernel_rfl) rfl rfl rfl W
      simp only [putT, List.set]
      refine wpV_pick (v := .bool true) (by rfl) rfl rfl rfl ?_
      simp only [putT, List.set]
      refine wpV_move (v := .bool true) (by rfl) rfl rfl ?_
      simp only [putT, List.set]
      refine wpV_load (cs := fel (fparseN m)) (by rfl) rfl rfl Rg18_0 Lg18 Try.underlying34 rfl info34 ?_
      simp only [putT, List.set]
      refine wpV_callf (v := .string (bs (bytesN 32 (leastF (fparseN m))))) (args := #[fe (fparseN m)]) (by rfl) rfl Try.func38 (by kernel_rfl) (by kernel_rfl) rfl (fun W hW => fbytes_c (fparseN_lt ..) W) ?_
      simp only [putT, List.set]
      refine wpV_move (v := .string (bs m)) (by rfl) rfl rfl ?_
      simp only [putT, List.set]
      refine wpV_binS (v := .bool true) (by rfl) rfl rfl rfl (fun W => (run_eql_bs _ _ _ W).trans (by rw [(decide_eq_true q3 : decide (bytesN 32 (leastF (fparseN m)) = m) = true)])) ?_
      simp only [putT, List.set]
      refine wpV_pick (v := .bool true) (by rfl) rfl rfl rfl ?_
      simp only [putT, List.set]
      refine wpV_nil (hLk.out _ ?_)
      clear hLk Lk
      simp only [List.take, List.drop]
      iterate 13 refine wpN_skip (by rfl) ?_
      refine wpN_nil (fun w42 Sw42 hbs => ?_)
      clear hbs
      replace Rg3_0 := range_sees Rg3_0 Lg3 Sw42
      replace Tg3 := there_sees Tg3 Lg3 Sw42
      replace Rg13_0 := range_sees Rg13_0 Lg13 Sw42
      replace Tg13 := there_sees Tg13 Lg13 Sw42
      replace Rg18_0 := range_sees Rg18_0 Lg18 Sw42
      replace Tg18 := there_sees Tg18 Lg18 Sw42
      replace Rg32_0 := range_sees Rg32_0 Lg32 Sw42
      replace Tg32 := there_sees Tg32 Lg32 Sw42
      replace Lg3 := Nat.lt_of_lt_of_le Lg3 Sw42.2.2.size
      replace Lg13 := Nat.lt_of_lt_of_le Lg13 Sw42.2.2.size
      replace Lg18 := Nat.lt_of_lt_of_le Lg18 Sw42.2.2.size
      replace Lg32 := Nat.lt_of_lt_of_le Lg32 Sw42.2.2.size
      replace BE := BE.trans (Sw42.2.2.mono BE.size)
      refine wpL_assign (v := .bool true) (by rfl) (by rfl) (by rfl) ?_
      simp only [putT, List.set]
      refine wpL_nil (no_panic ?_)
      refine hK40 _ _ ?_
      refine wp_ret ?_
      repeat (first | with_reducible refine then_ret ?_ | with_reducible refine inblock_ret ?_)
      refine bodyPost_ret (v := .bool true) (res1 rfl (.tmp (by rfl))) rfl ?_
      exact ⟨rfl, BE⟩
    · skip
      have hb : ¬ leN m < pF := by simpa using hc39
      refine wp_cond_true rfl ?_
      refine wp_seq_k (fun K43 hK43 => ?_)
      refine wp_region_plain 7 (by kernel_rfl) (fun Lk hLk => ?_)
      simp only [List.take, List.drop]
      refine wpV_move (v := .int .i64 (fparseE m)) (by rfl) rfl rfl ?_
      simp only [putT, List.set]
      refine wpV_bin (v := .bool true) (by rfl) rfl rfl rfl (fun W => (run_eql _ _ _ _ W).trans (by rw [(by rw [(fp_no h32 hb).1]; rfl : (fparseE m == 2) = true)])) ?_
      simp only [putT, List.set]
      refine wpV_move (v := .bool true) (by rfl) rfl rfl ?_
      simp only [putT, List.set]
      refine wpV_load (cs := fel (fparseN m)) (by rfl) rfl rfl Rg18_0 Lg18 Try.underlying34 rfl info34 ?_
      simp only [putT, List.set]
      refine wpV_val (v := fe 0) (by rfl) (by rfl) (fun W hW => ?_) ?_
      · rw [show fe 0 = .agg ([.int .u64 0, .int .u64 0, .int .u64 0, .int .u64 0]).toArray from (by kernel_rfl)]; unfold RunsVal; kernel_rfl
      simp only [putT, List.set]
      refine wpV_val (v := .bool true) (by rfl) (by rfl) (fun W hW => ?_) ?_
      · exact (decide_eq_true ((fp_no h32 hb).2) : decide (fparseN m = 0) = true) ▸ run_eql_fe (fparseN_lt ..) (by decide) Try.underlying34 Try.underlying22 info22 (by kernel_rfl) rfl rfl rfl W
      simp only [putT, List.set]
      refine wpV_pick (v := .bool true) (by rfl) rfl rfl rfl ?_
      simp only [putT, List.set]
      refine wpV_nil (hLk.out _ ?_)
      clear hLk Lk
      simp only [List.take, List.drop]
      iterate 7 refine wpN_skip (by rfl) ?_
      refine wpN_nil (fun w45 Sw45 hbs => ?_)
      clear hbs
      replace Rg3_0 := range_sees Rg3_0 Lg3 Sw45
      replace Tg3 := there_sees Tg3 Lg3 Sw45
      replace Rg13_0 := range_sees Rg13_0 Lg13 Sw45
      replace Tg13 := there_sees Tg13 Lg13 Sw45
      replace Rg18_0 := range_sees Rg18_0 Lg18 Sw45
      replace Tg18 := there_sees Tg18 Lg18 Sw45
      replace Rg32_0 := range_sees Rg32_0 Lg32 Sw45
      replace Tg32 := there_sees Tg32 Lg32 Sw45
      replace Lg3 := Nat.lt_of_lt_of_le Lg3 Sw45.2.2.size
      replace Lg13 := Nat.lt_of_lt_of_le Lg13 Sw45.2.2.size
      replace Lg18 := Nat.lt_of_lt_of_le Lg18 Sw45.2.2.size
      replace Lg32 := Nat.lt_of_lt_of_le Lg32 Sw45.2.2.size
      replace BE := BE.trans (Sw45.2.2.mono BE.size)
      refine wpL_assign (v := .bool true) (by rfl) (by rfl) (by rfl) ?_
      simp only [putT, List.set]
      refine wpL_nil (no_panic ?_)
      refine hK43 _ _ ?_
      refine wp_ret ?_
      repeat (first | with_reducible refine then_ret ?_ | with_reducible refine inblock_ret ?_)
      refine bodyPost_ret (v := .bool true) (res1 rfl (.tmp (by rfl))) rfl ?_
      exact ⟨rfl, BE⟩
  · skip
    have h32 : m.length ≠ 32 := by have := bne_iff_ne.1 hc29; omega
    refine wp_cond_true rfl ?_
    refine wp_seq_k (fun K46 hK46 => ?_)
    refine wp_region_plain 7 (by kernel_rfl) (fun Lk hLk => ?_)
    simp only [List.take, List.drop]
    refine wpV_move (v := .int .i64 (fparseE m)) (by rfl) rfl rfl ?_
    simp only [putT, List.set]
    refine wpV_bin (v := .bool true) (by rfl) rfl rfl rfl (fun W => (run_eql _ _ _ _ W).trans (by rw [(by rw [(fp0 h32).2]; rfl : (fparseE m == 1) = true)])) ?_
    simp only [putT, List.set]
    refine wpV_move (v := .bool true) (by rfl) rfl rfl ?_
    simp only [putT, List.set]
    refine wpV_load (cs := fel (fparseN m)) (by rfl) rfl rfl Rg18_0 Lg18 Try.underlying34 rfl info34 ?_
    simp only [putT, List.set]
    refine wpV_val (v := fe 0) (by rfl) (by rfl) (fun W hW => ?_) ?_
    · rw [show fe 0 = .agg ([.int .u64 0, .int .u64 0, .int .u64 0, .int .u64 0]).toArray from (by kernel_rfl)]; unfold RunsVal; kernel_rfl
    simp only [putT, List.set]
    refine wpV_val (v := .bool true) (by rfl) (by rfl) (fun W hW => ?_) ?_
    · exact (decide_eq_true ((fp0 h32).1) : decide (fparseN m = 0) = true) ▸ run_eql_fe (fparseN_lt ..) (by decide) Try.underlying34 Try.underlying22 info22 (by kernel_rfl) rfl rfl rfl W
    simp only [putT, List.set]
    refine wpV_pick (v := .bool true) (by rfl) rfl rfl rfl ?_
    simp only [putT, List.set]
    refine wpV_nil (hLk.out _ ?_)
    clear hLk Lk
    simp only [List.take, List.drop]
    iterate 7 refine wpN_skip (by rfl) ?_
    refine wpN_nil (fun w48 Sw48 hbs => ?_)
    clear hbs
    replace Rg3_0 := range_sees Rg3_0 Lg3 Sw48
    replace Tg3 := there_sees Tg3 Lg3 Sw48
    replace Rg13_0 := range_sees Rg13_0 Lg13 Sw48
    replace Tg13 := there_sees Tg13 Lg13 Sw48
    replace Rg18_0 := range_sees Rg18_0 Lg18 Sw48
    replace Tg18 := there_sees Tg18 Lg18 Sw48
    replace Lg3 := Nat.lt_of_lt_of_le Lg3 Sw48.2.2.size
    replace Lg13 := Nat.lt_of_lt_of_le Lg13 Sw48.2.2.size
    replace Lg18 := Nat.lt_of_lt_of_le Lg18 Sw48.2.2.size
    replace BE := BE.trans (Sw48.2.2.mono BE.size)
    refine wpL_assign (v := .bool true) (by rfl) (by rfl) (by rfl) ?_
    simp only [putT, List.set]
    refine wpL_nil (no_panic ?_)
    refine hK46 _ _ ?_
    refine wp_ret ?_
    repeat (first | with_reducible refine then_ret ?_ | with_reducible refine inblock_ret ?_)
    refine bodyPost_ret (v := .bool true) (res1 rfl (.tmp (by rfl))) rfl ?_
    exact ⟨rfl, BE⟩
end Go.Proofs.Ya
