import Derived.Test.YticdlngpljdhkaaF18
import Derived.Test.YticdlngpljdhkaaF22
import Derived.Test.YticdlngpljdhkaaNumT
set_option linter.unusedSimpArgs false
set_option linter.unusedVariables false
namespace Go.Proofs.Ya
open Go Go.RowKit Go.Shelf Go.Proofs.Num
set_option maxHeartbeats 4000000 in
theorem lsjoins_c (l k : List UInt8) {w : World}  :
    Calls Try.prog 5 #[.string (bs l), .string (bs k)] w fun e w' => e = .returned (.bool true) ∧ Below w.heap.size w w' := by
  go_enter Try.func5, Try.ntmps5
  have BE := Below.refl w.heap.size w
  refine wp_seq_k (fun K1 hK1 => ?_)
  refine wp_region_plain 0 (by kernel_rfl) (fun Lk hLk => ?_)
  simp only [List.take, List.drop]
  refine wpV_nil (hLk.out _ ?_)
  clear hLk Lk
  simp only [List.take, List.drop]
  refine wpN_nil (fun w3 Sw3 hbs => ?_)
  clear hbs
  replace BE := BE.trans (Sw3.2.2.mono BE.size)
  refine wpL_assign (v := .bool false) (by rfl) (by rfl) (by rfl) ?_
  simp only [putT, List.set]
  refine wpL_nil (no_panic ?_)
  refine hK1 _ _ ?_
  refine wp_seq_k (fun K4 hK4 => ?_)
  refine wp_region_grow 12 [] (by kernel_rfl) (by kernel_rfl) (by kernel_rfl) (fun Lk hLk => ?_)
  simp only [List.take, List.drop]
  refine wpV_move (v := .string (bs l)) (by rfl) rfl rfl ?_
  simp only [putT, List.set]
  refine wpV_move (v := .string (bs l)) (by rfl) rfl rfl ?_
  simp only [putT, List.set]
  refine wpV_lenS (by rfl) rfl rfl rfl Try.underlying9 ?_
  simp only [putT, List.set]
  refine wpV_min (n := l.length) (m := 32) (by rfl) rfl rfl rfl ?_
  simp only [putT, List.set]
  refine wpV_cut (l := l) (m := 32) (by rfl) rfl rfl rfl Try.underlying9 ?_
  simp only [putT, List.set]
  refine wpV_move (v := .string (bs k)) (by rfl) rfl rfl ?_
  simp only [putT, List.set]
  refine wpV_move (v := .string (bs k)) (by rfl) rfl rfl ?_
  simp only [putT, List.set]
  refine wpV_lenS (by rfl) rfl rfl rfl Try.underlying9 ?_
  simp only [putT, List.set]
  refine wpV_min (n := k.length) (m := 32) (by rfl) rfl rfl rfl ?_
  simp only [putT, List.set]
  refine wpV_cut (l := k) (m := 32) (by rfl) rfl rfl rfl Try.underlying9 ?_
  simp only [putT, List.set]
  refine wpV_assign (v := .string (bs (cut l 32))) (by rfl) rfl rfl ?_
  simp only [putT, List.set]
  refine wpV_assign (v := .string (bs (cut k 32))) (by rfl) rfl rfl ?_
  simp only [putT, List.set]
  refine wpV_nil (hLk.out _ ?_)
  clear hLk Lk
  simp only [List.take, List.drop]
  iterate 12 refine wpN_skip (by rfl) ?_
  refine wpN_nil (fun w6 Sw6 hbs => ?_)
  clear hbs
  replace BE := BE.trans (Sw6.2.2.mono BE.size)
  refine wpL_nil (no_panic ?_)
  have hm_m := cut_len l 32
  generalize cut l 32 = m at hm_m ⊢
  have hm_n := cut_len k 32
  generalize cut k 32 = n at hm_n ⊢
  refine hK4 _ _ ?_
  refine wp_seq_k (fun K7 hK7 => ?_)
  refine wp_region_plain 6 (by kernel_rfl) (fun Lk hLk => ?_)
  simp only [List.take, List.drop]
  refine wpV_move (v := .string (bs m)) (by rfl) rfl rfl ?_
  simp only [putT, List.set]
  refine wpV_callf (v := .tuple #[fe (restS (leN m)), .int .i64 0]) (args := #[.string (bs m)]) (by rfl) rfl Try.func21 (by kernel_rfl) (by kernel_rfl) rfl (fun W hW => swide_c (l := m) (by omega) W) ?_
  simp only [putT, List.set]
  refine wpV_move (v := .tuple #[fe (restS (leN m)), .int .i64 0]) (by rfl) rfl rfl ?_
  simp only [putT, List.set]
  refine wpV_extract (v := fe (restS (leN m))) (by rfl) rfl rfl rfl ?_
  simp only [putT, List.set]
  refine wpV_extract (v := .int .i64 0) (by rfl) rfl rfl rfl ?_
  simp only [putT, List.set]
  refine wpV_alloc (by rfl) ?_
  refine wpV_nil (hLk.out _ ?_)
  clear hLk Lk
  simp only [List.take, List.drop]
  iterate 5 refine wpN_skip (by rfl) ?_
  refine wpN_new (t := 24) (cs := ([.int .u64 0, .int .u64 0, .int .u64 0, .int .u64 0]).toArray) (by rfl) (fun W => ?_) (fun g9 Hg9 ng9 => ?_)
  · go_simp
  simp only [putT, List.set]
  refine wpN_nil (fun w10 Sw10 hbs => ?_)
  have Bg9 : Blk w10 g9 24 ([.int .u64 0, .int .u64 0, .int .u64 0, .int .u64 0]).toArray := hbs _ (List.mem_cons_self ..)
  clear hbs
  have Gg9 : w.heap.size ≤ g9 := Nat.le_trans BE.size Hg9
  replace BE := BE.trans (Sw10.2.2.mono BE.size)
  have Tg9 := blk_there Bg9 (n := 4) (by simp [flen])
  have Rg9_0 := blk_range Bg9 (l := [.int .u64 0, .int .u64 0, .int .u64 0, .int .u64 0]) rfl
  have Lg9 := Bg9.lt
  clear ng9 Bg9
  refine wpL_store (g := g9) (off := 0) (n := 4) (cs := fel (restS (leN m))) (by rfl) (by rfl) (by rfl) (by rfl) (by rfl) Tg9 (by simp [flen]) info24 (fel_one _) (fun w11 Pw11 RR TT => ?_)
  replace Rg9_0 := RR
  clear RR
  replace Tg9 := TT
  replace Lg9 := Pw11.lt Lg9
  replace BE := Pw11.below BE Gg9
  refine wpL_assign (v := .int .i64 0) (by rfl) (by rfl) (by rfl) ?_
  simp only [putT, List.set]
  refine wpL_nil (no_panic ?_)
  refine hK7 _ _ ?_
  refine wp_seq_k (fun K12 hK12 => ?_)
  refine wp_region_plain 6 (by kernel_rfl) (fun Lk hLk => ?_)
  simp only [List.take, List.drop]
  refine wpV_move (v := .string (bs n)) (by rfl) rfl rfl ?_
  simp only [putT, List.set]
  refine wpV_callf (v := .tuple #[fe (restS (leN n)), .int .i64 0]) (args := #[.string (bs n)]) (by rfl) rfl Try.func21 (by kernel_rfl) (by kernel_rfl) rfl (fun W hW => swide_c (l := n) (by omega) W) ?_
  simp only [putT, List.set]
  refine wpV_move (v := .tuple #[fe (restS (leN n)), .int .i64 0]) (by rfl) rfl rfl ?_
  simp only [putT, List.set]
  refine wpV_extract (v := fe (restS (leN n))) (by rfl) rfl rfl rfl ?_
  simp only [putT, List.set]
  refine wpV_extract (v := .int .i64 0) (by rfl) rfl rfl rfl ?_
  simp only [putT, List.set]
  refine wpV_alloc (by rfl) ?_
  refine wpV_nil (hLk.out _ ?_)
  clear hLk Lk
  simp only [List.take, List.drop]
  iterate 5 refine wpN_skip (by rfl) ?_
  refine wpN_new (t := 24) (cs := ([.int .u64 0, .int .u64 0, .int .u64 0, .int .u64 0]).toArray) (by rfl) (fun W => ?_) (fun g14 Hg14 ng14 => ?_)
  · go_simp
  simp only [putT, List.set]
  refine wpN_nil (fun w15 Sw15 hbs => ?_)
  have Bg14 : Blk w15 g14 24 ([.int .u64 0, .int .u64 0, .int .u64 0, .int .u64 0]).toArray := hbs _ (List.mem_cons_self ..)
  clear hbs
  have Ng9_g14 : g9 ≠ g14 := Nat.ne_of_lt (Nat.lt_of_lt_of_le Lg9 Hg14)
  have Gg14 : w.heap.size ≤ g14 := Nat.le_trans BE.size Hg14
  replace Rg9_0 := range_sees Rg9_0 Lg9 Sw15
  replace Tg9 := there_sees Tg9 Lg9 Sw15
  replace Lg9 := Nat.lt_of_lt_of_le Lg9 Sw15.2.2.size
  replace BE := BE.trans (Sw15.2.2.mono BE.size)
  have Tg14 := blk_there Bg14 (n := 4) (by simp [flen])
  have Rg14_0 := blk_range Bg14 (l := [.int .u64 0, .int .u64 0, .int .u64 0, .int .u64 0]) rfl
  have Lg14 := Bg14.lt
  clear ng14 Bg14
  refine wpL_store (g := g14) (off := 0) (n := 4) (cs := fel (restS (leN n))) (by rfl) (by rfl) (by rfl) (by rfl) (by rfl) Tg14 (by simp [flen]) info24 (fel_one _) (fun w16 Pw16 RR TT => ?_)
  replace Rg9_0 := Pw16.range Rg9_0 (.inl Ng9_g14)
  replace Tg9 := Pw16.other_there Tg9 Ng9_g14
  replace Rg14_0 := RR
  clear RR
  replace Tg14 := TT
  replace Lg9 := Pw16.lt Lg9
  replace Lg14 := Pw16.lt Lg14
  replace BE := Pw16.below BE Gg14
  refine wpL_assign (v := .int .i64 0) (by rfl) (by rfl) (by rfl) ?_
  simp only [putT, List.set]
  refine wpL_nil (no_panic ?_)
  refine hK12 _ _ ?_
  refine wp_seq_k (fun K17 hK17 => ?_)
  refine wp_region_plain 8 (by kernel_rfl) (fun Lk hLk => ?_)
  simp only [List.take, List.drop]
  refine wpV_move (v := .string (bs m)) (by rfl) rfl rfl ?_
  simp only [putT, List.set]
  refine wpV_move (v := .string (bs n)) (by rfl) rfl rfl ?_
  simp only [putT, List.set]
  refine wpV_binS (v := .string (bs (m ++ n))) (by rfl) rfl rfl rfl (run_add_bs _ _ _ (by omega)) ?_
  simp only [putT, List.set]
  refine wpV_callf (v := .tuple #[fe (restS (leN (m ++ n))), .int .i64 0]) (args := #[.string (bs (m ++ n))]) (by rfl) rfl Try.func21 (by kernel_rfl) (by kernel_rfl) rfl (fun W hW => swide_c (l := m ++ n) (by rw [List.length_append]; omega) W) ?_
  simp only [putT, List.set]
  refine wpV_move (v := .tuple #[fe (restS (leN (m ++ n))), .int .i64 0]) (by rfl) rfl rfl ?_
  simp only [putT, List.set]
  refine wpV_extract (v := fe (restS (leN (m ++ n)))) (by rfl) rfl rfl rfl ?_
  simp only [putT, List.set]
  refine wpV_extract (v := .int .i64 0) (by rfl) rfl rfl rfl ?_
  simp only [putT, List.set]
  refine wpV_alloc (by rfl) ?_
  refine wpV_nil (hLk.out _ ?_)
  clear hLk Lk
  simp only [List.take, List.drop]
  iterate 7 refine wpN_skip (by rfl) ?_
  refine wpN_new (t := 24) (cs := ([.int .u64 0, .int .u64 0, .int .u64 0, .int .u64 0]).toArray) (by rfl) (fun W => ?_) (fun g19 Hg19 ng19 => ?_)
  · go_simp
  simp only [putT, List.set]
  refine wpN_nil (fun w20 Sw20 hbs => ?_)
  have Bg19 : Blk w20 g19 24 ([.int .u64 0, .int .u64 0, .int .u64 0, .int .u64 0]).toArray := hbs _ (List.mem_cons_self ..)
  clear hbs
  have Ng9_g19 : g9 ≠ g19 := Nat.ne_of_lt (Nat.lt_of_lt_of_le Lg9 Hg19)
  have Ng14_g19 : g14 ≠ g19 := Nat.ne_of_lt (Nat.lt_of_lt_of_le Lg14 Hg19)
  have Gg19 : w.heap.size ≤ g19 := Nat.le_trans BE.size Hg19
  replace Rg9_0 := range_sees Rg9_0 Lg9 Sw20
  replace Tg9 := there_sees Tg9 Lg9 Sw20
  replace Rg14_0 := range_sees Rg14_0 Lg14 Sw20
  replace Tg14 := there_sees Tg14 Lg14 Sw20
  replace Lg9 := Nat.lt_of_lt_of_le Lg9 Sw20.2.2.size
  replace Lg14 := Nat.lt_of_lt_of_le Lg14 Sw20.2.2.size
  replace BE := BE.trans (Sw20.2.2.mono BE.size)
  have Tg19 := blk_there Bg19 (n := 4) (by simp [flen])
  have Rg19_0 := blk_range Bg19 (l := [.int .u64 0, .int .u64 0, .int .u64 0, .int .u64 0]) rfl
  have Lg19 := Bg19.lt
  clear ng19 Bg19
  refine wpL_store (g := g19) (off := 0) (n := 4) (cs := fel (restS (leN (m ++ n)))) (by rfl) (by rfl) (by rfl) (by rfl) (by rfl) Tg19 (by simp [flen]) info24 (fel_one _) (fun w21 Pw21 RR TT => ?_)
  replace Rg9_0 := Pw21.range Rg9_0 (.inl Ng9_g19)
  replace Tg9 := Pw21.other_there Tg9 Ng9_g19
  replace Rg14_0 := Pw21.range Rg14_0 (.inl Ng14_g19)
  replace Tg14 := Pw21.other_there Tg14 Ng14_g19
  replace Rg19_0 := RR
  clear RR
  replace Tg19 := TT
  replace Lg9 := Pw21.lt Lg9
  replace Lg14 := Pw21.lt Lg14
  replace Lg19 := Pw21.lt Lg19
  replace BE := Pw21.below BE Gg19
  refine wpL_assign (v := .int .i64 0) (by rfl) (by rfl) (by rfl) ?_
  simp only [putT, List.set]
  refine wpL_nil (no_panic ?_)
  refine hK17 _ _ ?_
  refine wp_seq_k (fun K22 hK22 => ?_)
  refine wp_region_plain 2 (by kernel_rfl) (fun Lk hLk => ?_)
  simp only [List.take, List.drop]
  refine wpV_val (v := fe 1) (by rfl) (by rfl) (fun W hW => ?_) ?_
  · rw [show fe 1 = .agg ([.int .u64 1, .int .u64 0, .int .u64 0, .int .u64 0]).toArray from (by kernel_rfl)]; unfold RunsVal; kernel_rfl
  simp only [putT, List.set]
  refine wpV_alloc (by rfl) ?_
  refine wpV_nil (hLk.out _ ?_)
  clear hLk Lk
  simp only [List.take, List.drop]
  iterate 1 refine wpN_skip (by rfl) ?_
  refine wpN_new (t := 24) (cs := ([.int .u64 0, .int .u64 0, .int .u64 0, .int .u64 0]).toArray) (by rfl) (fun W => ?_) (fun g24 Hg24 ng24 => ?_)
  · go_simp
  simp only [putT, List.set]
  refine wpN_nil (fun w25 Sw25 hbs => ?_)
  have Bg24 : Blk w25 g24 24 ([.int .u64 0, .int .u64 0, .int .u64 0, .int .u64 0]).toArray := hbs _ (List.mem_cons_self ..)
  clear hbs
  have Ng9_g24 : g9 ≠ g24 := Nat.ne_of_lt (Nat.lt_of_lt_of_le Lg9 Hg24)
  have Ng14_g24 : g14 ≠ g24 := Nat.ne_of_lt (Nat.lt_of_lt_of_le Lg14 Hg24)
  have Ng19_g24 : g19 ≠ g24 := Nat.ne_of_lt (Nat.lt_of_lt_of_le Lg19 Hg24)
  have Gg24 : w.heap.size ≤ g24 := Nat.le_trans BE.size Hg24
  replace Rg9_0 := range_sees Rg9_0 Lg9 Sw25
  replace Tg9 := there_sees Tg9 Lg9 Sw25
  replace Rg14_0 := range_sees Rg14_0 Lg14 Sw25
  replace Tg14 := there_sees Tg14 Lg14 Sw25
  replace Rg19_0 := range_sees Rg19_0 Lg19 Sw25
  replace Tg19 := there_sees Tg19 Lg19 Sw25
  replace Lg9 := Nat.lt_of_lt_of_le Lg9 Sw25.2.2.size
  replace Lg14 := Nat.lt_of_lt_of_le Lg14 Sw25.2.2.size
  replace Lg19 := Nat.lt_of_lt_of_le Lg19 Sw25.2.2.size
  replace BE := BE.trans (Sw25.2.2.mono BE.size)
  have Tg24 := blk_there Bg24 (n := 4) (by simp [flen])
  have Rg24_0 := blk_range Bg24 (l := [.int .u64 0, .int .u64 0, .int .u64 0, .int .u64 0]) rfl
  have Lg24 := Bg24.lt
  clear ng24 Bg24
  refine wpL_store (g := g24) (off := 0) (n := 4) (cs := fel 1) (by rfl) (by rfl) (by rfl) (by rfl) (by rfl) Tg24 (by simp [flen]) info24 (fel_one _) (fun w26 Pw26 RR TT => ?_)
  replace Rg9_0 := Pw26.range Rg9_0 (.inl Ng9_g24)
  replace Tg9 := Pw26.other_there Tg9 Ng9_g24
  replace Rg14_0 := Pw26.range Rg14_0 (.inl Ng14_g24)
  replace Tg14 := Pw26.other_there Tg14 Ng14_g24
  replace Rg19_0 := Pw26.range Rg19_0 (.inl Ng19_g24)
  replace Tg19 := Pw26.other_there Tg19 Ng19_g24
  replace Rg24_0 := RR
  clear RR
  replace Tg24 := TT
  replace Lg9 := Pw26.lt Lg9
  replace Lg14 := Pw26.lt Lg14
  replace Lg19 := Pw26.lt Lg19
  replace Lg24 := Pw26.lt Lg24
  replace BE := Pw26.below BE Gg24
  refine wpL_nil (no_panic ?_)
  refine hK22 _ _ ?_
  refine wp_seq_k (fun K27 hK27 => ?_)
  refine wp_seq_k (fun K28 hK28 => ?_)
  refine wp_region_plain 3 (by kernel_rfl) (fun Lk hLk => ?_)
  simp only [List.take, List.drop]
  refine wpV_move (v := .string (bs m)) (by rfl) rfl rfl ?_
  simp only [putT, List.set]
  refine wpV_lenS (by rfl) rfl rfl rfl Try.underlying9 ?_
  simp only [putT, List.set]
  refine wpV_move (v := .int .i64 0) (by rfl) rfl rfl ?_
  simp only [putT, List.set]
  refine wpV_nil (hLk.out _ ?_)
  clear hLk Lk
  simp only [List.take, List.drop]
  iterate 3 refine wpN_skip (by rfl) ?_
  refine wpN_nil (fun w30 Sw30 hbs => ?_)
  clear hbs
  replace Rg9_0 := range_sees Rg9_0 Lg9 Sw30
  replace Tg9 := there_sees Tg9 Lg9 Sw30
  replace Rg14_0 := range_sees Rg14_0 Lg14 Sw30
  replace Tg14 := there_sees Tg14 Lg14 Sw30
  replace Rg19_0 := range_sees Rg19_0 Lg19 Sw30
  replace Tg19 := there_sees Tg19 Lg19 Sw30
  replace Rg24_0 := range_sees Rg24_0 Lg24 Sw30
  replace Tg24 := there_sees Tg24 Lg24 Sw30
  replace Lg9 := Nat.lt_of_lt_of_le Lg9 Sw30.2.2.size
  replace Lg14 := Nat.lt_of_lt_of_le Lg14 Sw30.2.2.size
  replace Lg19 := Nat.lt_of_lt_of_le Lg19 Sw30.2.2.size
  replace Lg24 := Nat.lt_of_lt_of_le Lg24 Sw30.2.2.size
  replace BE := BE.trans (Sw30.2.2.mono BE.size)
  refine wpL_nil (no_panic ?_)
  refine hK28 _ _ ?_
  refine wp_block ?_
  refine wp_loop_ghost (fun n9 a9 W9 => ∃ (i : Nat) (u31 : Nat → Value), n9 = m.length - i ∧ a9 = { tmps := #[.string (bs m), .string (bs n), undef, undef, .bool false, .pointer (some ⟨g9, 0, none⟩), .int .i64 0, .pointer (some ⟨g14, 0, none⟩), .int .i64 0, .pointer (some ⟨g19, 0, none⟩), .int .i64 0, .pointer (some ⟨g24, 0, none⟩), .string (bs l), .string (bs l), .int .i64 ((l.length : Nat) : Int), .int .i64 ((min l.length 32 : Nat) : Int), .string (bs m), .string (bs k), .string (bs k), .int .i64 ((k.length : Nat) : Int), .int .i64 ((min k.length 32 : Nat) : Int), .string (bs n), .tuple #[fe (restS (leN m)), .int .i64 0], .string (bs m), .tuple #[fe (restS (leN m)), .int .i64 0], fe (restS (leN m)), .int .i64 0, .tuple #[fe (restS (leN n)), .int .i64 0], .string (bs n), .tuple #[fe (restS (leN n)), .int .i64 0], fe (restS (leN n)), .int .i64 0, .tuple #[fe (restS (leN (m ++ n))), .int .i64 0], .string (bs m), .string (bs n), .string (bs (m ++ n)), .tuple #[fe (restS (leN (m ++ n))), .int .i64 0], fe (restS (leN (m ++ n))), .int .i64 0, fe 1, .string (bs m), .int .i64 ((m.length : Nat) : Int), .int .i64 ((i : Nat) : Int), u31 43, u31 44, u31 45, u31 46, u31 47, undef, undef, undef, undef, undef, undef, undef, undef, undef, undef, undef, undef, undef, undef, undef, undef, undef, undef, undef, undef, undef, undef], defers := [] } ∧ Below w.heap.size w W9 ∧ World.rangeAt W9 g9 0 (fel (restS (leN m))) ∧ World.there W9 g9 0 4 ∧ g9 < W9.heap.size ∧ World.rangeAt W9 g14 0 (fel (restS (leN n))) ∧ World.there W9 g14 0 4 ∧ g14 < W9.heap.size ∧ World.rangeAt W9 g19 0 (fel (restS (leN (m ++ n)))) ∧ World.there W9 g19 0 4 ∧ g19 < W9.heap.size ∧ World.rangeAt W9 g24 0 (fel (spow i)) ∧ World.there W9 g24 0 4 ∧ g24 < W9.heap.size ∧ (i ≤ m.length)) (m.length - (0)) ?_ (fun n9 a9 W9 hI => ?_)
  · exact ⟨0, (fun q9 => (#[undef, undef, undef, undef, undef, undef, undef, undef, undef, undef, undef, undef, undef, undef, undef, undef, undef, undef, undef, undef, undef, undef, undef, undef, undef, undef, undef, undef, undef, undef, undef, undef, undef, undef, undef, undef, undef, undef, undef, undef, undef, undef, undef, undef, undef, undef, undef, undef] : Array Value).getD q9 undef), rfl, rfl, BE, Rg9_0, Tg9, Lg9, Rg14_0, Tg14, Lg14, Rg19_0, Tg19, Lg19, (by rw [spow_zero]; exact Rg24_0), Tg24, Lg24, (by omega)⟩
  clear BE Rg9_0 Rg14_0 Rg19_0 Rg24_0 Tg9 Tg14 Tg19 Tg24 Lg9 Lg14 Lg19 Lg24
  obtain ⟨i, u31, rfl, rfl, BE, Rg9_0, Tg9, Lg9, Rg14_0, Tg14, Lg14, Rg19_0, Tg19, Lg19, Rg24_0, Tg24, Lg24, hi4⟩ := hI
  obtain ⟨w32, rfl⟩ : ∃ W8, W8 = W9 := ⟨_, rfl⟩
  refine wp_seq_k (fun K33 hK33 => ?_)
  refine wp_region_plain 1 (by kernel_rfl) (fun Lk hLk => ?_)
  simp only [List.take, List.drop]
  refine wpV_bin (v := .bool (decide (i < m.length))) (by rfl) rfl rfl rfl (fun W => run_lssN i m.length _ _ W) ?_
  simp only [putT, List.set]
  refine wpV_nil (hLk.out _ ?_)
  clear hLk Lk
  simp only [List.take, List.drop]
  iterate 1 refine wpN_skip (by rfl) ?_
  refine wpN_nil (fun w35 Sw35 hbs => ?_)
  clear hbs
  replace Rg9_0 := range_sees Rg9_0 Lg9 Sw35
  replace Tg9 := there_sees Tg9 Lg9 Sw35
  replace Rg14_0 := range_sees Rg14_0 Lg14 Sw35
  replace Tg14 := there_sees Tg14 Lg14 Sw35
  replace Rg19_0 := range_sees Rg19_0 Lg19 Sw35
  replace Tg19 := there_sees Tg19 Lg19 Sw35
  replace Rg24_0 := range_sees Rg24_0 Lg24 Sw35
  replace Tg24 := there_sees Tg24 Lg24 Sw35
  replace Lg9 := Nat.lt_of_lt_of_le Lg9 Sw35.2.2.size
  replace Lg14 := Nat.lt_of_lt_of_le Lg14 Sw35.2.2.size
  replace Lg19 := Nat.lt_of_lt_of_le Lg19 Sw35.2.2.size
  replace Lg24 := Nat.lt_of_lt_of_le Lg24 Sw35.2.2.size
  replace BE := BE.trans (Sw35.2.2.mono BE.size)
  refine wpL_nil (no_panic ?_)
  refine hK33 _ _ ?_
  refine wp_seq_k (fun K36 hK36 => ?_)
  cases hc37 : (decide (i < m.length))
  · skip
    have ei : m.length = i := by have := of_decide_eq_false hc37; omega
    subst ei
    refine wp_cond_false rfl ?_
    refine wp_exit ?_
    refine hK27 _ _ ?_
    refine wp_seq_k (fun K38 hK38 => ?_)
    refine wp_region_grow 22 [] (by kernel_rfl) (by kernel_rfl) (by kernel_rfl) (fun Lk hLk => ?_)
    simp only [List.take, List.drop]
    refine wpV_callf (v := .bool true) (args := #[]) (by rfl) rfl Try.func16 (by kernel_rfl) (by kernel_rfl) rfl (fun W hW => alive05_c) ?_
    simp only [putT, List.set]
    refine wpV_move (v := .bool true) (by rfl) rfl rfl ?_
    simp only [putT, List.set]
    refine wpV_move (v := .int .i64 0) (by rfl) rfl rfl ?_
    simp only [putT, List.set]
    refine wpV_bin (v := .bool true) (by rfl) rfl rfl rfl (fun W => run_eql _ _ _ _ W) ?_
    simp only [putT, List.set]
    refine wpV_pick (v := .bool true) (by rfl) rfl rfl rfl ?_
    simp only [putT, List.set]
    refine wpV_move (v := .bool true) (by rfl) rfl rfl ?_
    simp only [putT, List.set]
    refine wpV_move (v := .int .i64 0) (by rfl) rfl rfl ?_
    simp only [putT, List.set]
    refine wpV_bin (v := .bool true) (by rfl) rfl rfl rfl (fun W => run_eql _ _ _ _ W) ?_
    simp only [putT, List.set]
    refine wpV_pick (v := .bool true) (by rfl) rfl rfl rfl ?_
    simp only [putT, List.set]
    refine wpV_move (v := .bool true) (by rfl) rfl rfl ?_
    simp only [putT, List.set]
    refine wpV_move (v := .int .i64 0) (by rfl) rfl rfl ?_
    simp only [putT, List.set]
    refine wpV_bin (v := .bool true) (by rfl) rfl rfl rfl (fun W => run_eql _ _ _ _ W) ?_
    simp only [putT, List.set]
    refine wpV_pick (v := .bool true) (by rfl) rfl rfl rfl ?_
    simp only [putT, List.set]
    refine wpV_move (v := .bool true) (by rfl) rfl rfl ?_
    simp only [putT, List.set]
    refine wpV_load (cs := fel (restS (leN (m ++ n)))) (by rfl) rfl rfl Rg19_0 Lg19 Try.underlying24 rfl info24 ?_
    simp only [putT, List.set]
    refine wpV_load (cs := fel (restS (leN m))) (by rfl) rfl rfl Rg9_0 Lg9 Try.underlying24 rfl info24 ?_
    simp only [putT, List.set]
    refine wpV_load (cs := fel (restS (leN n))) (by rfl) rfl rfl Rg14_0 Lg14 Try.underlying24 rfl info24 ?_
    simp only [putT, List.set]
    refine wpV_load (cs := fel (spow m.length)) (by rfl) rfl rfl Rg24_0 Lg24 Try.underlying24 rfl info24 ?_
    simp only [putT, List.set]
    refine wpV_callf (v := fe (smul (restS (leN n)) (spow m.length))) (args := #[fe (restS (leN n)), fe (spow m.length)]) (by rfl) rfl Try.func15 (by kernel_rfl) (by kernel_rfl) rfl (fun W hW => smul_c (restS_lt ..) (spow_lt ..) W) ?_
    simp only [putT, List.set]
    refine wpV_callf (v := fe (sadd (restS (leN m)) (smul (restS (leN n)) (spow m.length)))) (args := #[fe (restS (leN m)), fe (smul (restS (leN n)) (spow m.length))]) (by rfl) rfl Try.func14 (by kernel_rfl) (by kernel_rfl) rfl (fun W hW => sadd_c (restS_lt ..) (smul_lt ..) W) ?_
    simp only [putT, List.set]
    refine wpV_val (v := .bool true) (by rfl) (by rfl) (fun W hW => ?_) ?_
    · exact (decide_eq_true (wide_join m n) : decide (restS (leN (m ++ n)) = sadd (restS (leN m)) (smul (restS (leN n)) (spow m.length))) = true) ▸ run_eql_fe (restS_lt ..) (sadd_lt ..) Try.underlying24 Try.underlying22 info22 (by kernel_rfl) rfl rfl rfl W
    simp only [putT, List.set]
    refine wpV_pick (v := .bool true) (by rfl) rfl rfl rfl ?_
    simp only [putT, List.set]
    refine wpV_nil (hLk.out _ ?_)
    clear hLk Lk
    simp only [List.take, List.drop]
    iterate 22 refine wpN_skip (by rfl) ?_
    refine wpN_nil (fun w40 Sw40 hbs => ?_)
    clear hbs
    replace Rg9_0 := range_sees Rg9_0 Lg9 Sw40
    replace Tg9 := there_sees Tg9 Lg9 Sw40
    replace Rg14_0 := range_sees Rg14_0 Lg14 Sw40
    replace Tg14 := there_sees Tg14 Lg14 Sw40
    replace Rg19_0 := range_sees Rg19_0 Lg19 Sw40
    replace Tg19 := there_sees Tg19 Lg19 Sw40
    replace Rg24_0 := range_sees Rg24_0 Lg24 Sw40
    replace Tg24 := there_sees Tg24 Lg24 Sw40
    replace Lg9 := Nat.lt_of_lt_of_le Lg9 Sw40.2.2.size
    replace Lg14 := Nat.lt_of_lt_of_le Lg14 Sw40.2.2.size
    replace Lg19 := Nat.lt_of_lt_of_le Lg19 Sw40.2.2.size
    replace Lg24 := Nat.lt_of_lt_of_le Lg24 Sw40.2.2.size
    replace BE := BE.trans (Sw40.2.2.mono BE.size)
    refine wpL_assign (v := .bool true) (by rfl) (by rfl) (by rfl) ?_
    simp only [putT, List.set]
    refine wpL_nil (no_panic ?_)
    refine hK38 _ _ ?_
    refine wp_ret ?_
    repeat (first | with_reducible refine then_ret ?_ | with_reducible refine inblock_ret ?_)
    refine bodyPost_ret (v := .bool true) (res1 rfl (.tmp (by rfl))) rfl ?_
    exact ⟨rfl, BE⟩
  · skip
    have hi : i < m.length := of_decide_eq_true hc37
    refine wp_cond_true rfl ?_
    refine wp_skip ?_
    refine hK36 _ _ ?_
    refine wp_seq_k (fun K41 hK41 => ?_)
    refine wp_block ?_
    refine wp_region_plain 3 (by kernel_rfl) (fun Lk hLk => ?_)
    simp only [List.take, List.drop]
    refine wpV_load (cs := fel (spow i)) (by rfl) rfl rfl Rg24_0 Lg24 Try.underlying24 rfl info24 ?_
    simp only [putT, List.set]
    refine wpV_val (v := fe 256) (by rfl) (by rfl) (fun W hW => ?_) ?_
    · rw [show fe 256 = .agg ([.int .u64 256, .int .u64 0, .int .u64 0, .int .u64 0]).toArray from (by kernel_rfl)]; unfold RunsVal; kernel_rfl
    simp only [putT, List.set]
    refine wpV_callf (v := fe (spow (i + 1))) (args := #[fe (spow i), fe 256]) (by rfl) rfl Try.func15 (by kernel_rfl) (by kernel_rfl) rfl (fun W hW => (by have h := smul_c (x := spow i) (y := 256) (spow_lt _) (by decide) W; rwa [spow_step] at h)) ?_
    simp only [putT, List.set]
    refine wpV_nil (hLk.out _ ?_)
    clear hLk Lk
    simp only [List.take, List.drop]
    iterate 3 refine wpN_skip (by rfl) ?_
    refine wpN_nil (fun w43 Sw43 hbs => ?_)
    clear hbs
    replace Rg9_0 := range_sees Rg9_0 Lg9 Sw43
    replace Tg9 := there_sees Tg9 Lg9 Sw43
    replace Rg14_0 := range_sees Rg14_0 Lg14 Sw43
    replace Tg14 := there_sees Tg14 Lg14 Sw43
    replace Rg19_0 := range_sees Rg19_0 Lg19 Sw43
    replace Tg19 := there_sees Tg19 Lg19 Sw43
    replace Rg24_0 := range_sees Rg24_0 Lg24 Sw43
    replace Tg24 := there_sees Tg24 Lg24 Sw43
    replace Lg9 := Nat.lt_of_lt_of_le Lg9 Sw43.2.2.size
    replace Lg14 := Nat.lt_of_lt_of_le Lg14 Sw43.2.2.size
    replace Lg19 := Nat.lt_of_lt_of_le Lg19 Sw43.2.2.size
    replace Lg24 := Nat.lt_of_lt_of_le Lg24 Sw43.2.2.size
    replace BE := BE.trans (Sw43.2.2.mono BE.size)
    refine wpL_store (g := g24) (off := 0) (n := 4) (cs := fel (spow (i + 1))) (by rfl) (by rfl) (by rfl) (by rfl) (by rfl) Tg24 (by simp [flen]) info24 (fel_one _) (fun w44 Pw44 RR TT => ?_)
    replace Rg9_0 := Pw44.range Rg9_0 (.inl Ng9_g24)
    replace Tg9 := Pw44.other_there Tg9 Ng9_g24
    replace Rg14_0 := Pw44.range Rg14_0 (.inl Ng14_g24)
    replace Tg14 := Pw44.other_there Tg14 Ng14_g24
    replace Rg19_0 := Pw44.range Rg19_0 (.inl Ng19_g24)
    replace Tg19 := Pw44.other_there Tg19 Ng19_g24
    replace Rg24_0 := RR
    clear RR
    replace Tg24 := TT
    replace Lg9 := Pw44.lt Lg9
    replace Lg14 := Pw44.lt Lg14
    replace Lg19 := Pw44.lt Lg19
    replace Lg24 := Pw44.lt Lg24
    replace BE := Pw44.below BE Gg24
    refine wpL_nil (no_panic ?_)
    refine hK41 _ _ ?_
    refine wp_region_plain 2 (by kernel_rfl) (fun Lk hLk => ?_)
    simp only [List.take, List.drop]
    refine wpV_bin (v := .int .i64 ((i + 1 : Nat) : Int)) (by rfl) rfl rfl rfl (fun W => run_add (by simp only [IntKind.wrap_i64]; omega) W) ?_
    simp only [putT, List.set]
    refine wpV_move (v := .int .i64 ((i + 1 : Nat) : Int)) (by rfl) rfl rfl ?_
    simp only [putT, List.set]
    refine wpV_nil (hLk.out _ ?_)
    clear hLk Lk
    simp only [List.take, List.drop]
    iterate 2 refine wpN_skip (by rfl) ?_
    refine wpN_nil (fun w46 Sw46 hbs => ?_)
    clear hbs
    replace Rg9_0 := range_sees Rg9_0 Lg9 Sw46
    replace Tg9 := there_sees Tg9 Lg9 Sw46
    replace Rg14_0 := range_sees Rg14_0 Lg14 Sw46
    replace Tg14 := there_sees Tg14 Lg14 Sw46
    replace Rg19_0 := range_sees Rg19_0 Lg19 Sw46
    replace Tg19 := there_sees Tg19 Lg19 Sw46
    replace Rg24_0 := range_sees Rg24_0 Lg24 Sw46
    replace Tg24 := there_sees Tg24 Lg24 Sw46
    replace Lg9 := Nat.lt_of_lt_of_le Lg9 Sw46.2.2.size
    replace Lg14 := Nat.lt_of_lt_of_le Lg14 Sw46.2.2.size
    replace Lg19 := Nat.lt_of_lt_of_le Lg19 Sw46.2.2.size
    replace Lg24 := Nat.lt_of_lt_of_le Lg24 Sw46.2.2.size
    replace BE := BE.trans (Sw46.2.2.mono BE.size)
    refine wpL_nil (no_panic ?_)
    refine Exists.intro _ ⟨?_, (i + 1), (fun q9 => (#[undef, undef, undef, undef, undef, undef, undef, undef, undef, undef, undef, undef, undef, undef, undef, undef, undef, undef, undef, undef, undef, undef, undef, undef, undef, undef, undef, undef, undef, undef, undef, undef, undef, undef, undef, undef, undef, undef, undef, undef, undef, undef, undef, .bool true, fe (spow i), fe 256, fe (spow (i + 1)), .int .i64 ((i + 1 : Nat) : Int)] : Array Value).getD q9 undef), rfl, rfl, BE, Rg9_0, Tg9, Lg9, Rg14_0, Tg14, Lg14, Rg19_0, Tg19, Lg19, Rg24_0, Tg24, Lg24, (by omega)⟩
    omega
end Go.Proofs.Ya
