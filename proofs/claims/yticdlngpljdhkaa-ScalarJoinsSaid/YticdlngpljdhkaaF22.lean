import Derived.Test.YticdlngpljdhkaaF17
import Derived.Test.YticdlngpljdhkaaSteps8
set_option linter.unusedSimpArgs false
set_option linter.unusedVariables false
namespace Go.Proofs.Ya
open Go Go.RowKit Go.Shelf Go.Proofs.Num
set_option maxHeartbeats 2000000 in
theorem raw_c {x : Nat} (hx : x < 2 ^ 256) {w : World}  :
    Calls Try.prog 59 #[fe x] w fun e w' => e = .returned (.string (bs (bytesN 32 x))) ∧ Below w.heap.size w w' := by
  go_enter Try.func59, Try.ntmps59
  have BE := Below.refl w.heap.size w
  refine wp_seq_k (fun K1 hK1 => ?_)
  refine wp_region_plain 1 (by kernel_rfl) (fun Lk hLk => ?_)
  simp only [List.take, List.drop]
  refine wpV_alloc (by rfl) ?_
  refine wpV_nil (hLk.out _ ?_)
  clear hLk Lk
  simp only [List.take, List.drop]
  refine wpN_new (t := 23) (cs := (fel x).toArray) (by rfl) (fun W => ?_) (fun g3 Hg3 ng3 => ?_)
  · (first | rfl | go_simp)
  simp only [putT, List.set]
  refine wpN_nil (fun w4 Sw4 hbs => ?_)
  have Bg3 : Blk w4 g3 23 (fel x).toArray := hbs _ (List.mem_cons_self ..)
  clear hbs
  have Gg3 : w.heap.size ≤ g3 := Nat.le_trans BE.size Hg3
  replace BE := BE.trans (Sw4.2.2.mono BE.size)
  have Tg3 := blk_there Bg3 (n := 4) (by simp [flen])
  have Rg3_0 := blk_range Bg3 (l := fel x) rfl
  have Lg3 := Bg3.lt
  clear ng3 Bg3
  refine wpL_assign (v := .string (bs ([]))) (by rfl) (by rfl) (by rfl) ?_
  simp only [putT, List.set]
  refine wpL_nil (no_panic ?_)
  refine hK1 _ _ ?_
  refine wp_seq_k (fun K5 hK5 => ?_)
  refine wp_region_seq ?_
  refine wpL_row0 (by rfl) (by rfl) Try.underlying72 info5 (fun g7 w8 Sw8 Hg7 Bg7 => ?_)
  have Ng3_g7 : g3 ≠ g7 := Nat.ne_of_lt (Nat.lt_of_lt_of_le Lg3 Hg7)
  have Gg7 : w.heap.size ≤ g7 := Nat.le_trans BE.size Hg7
  replace Rg3_0 := range_sees Rg3_0 Lg3 Sw8
  replace Tg3 := there_sees Tg3 Lg3 Sw8
  replace Lg3 := Nat.lt_of_lt_of_le Lg3 Sw8.2.2.size
  replace BE := BE.trans (Sw8.2.2.mono BE.size)
  have Tg7 := blk_there Bg7 (n := 0) (by rfl)
  have Rg7_0 := blk_range Bg7 (l := []) rfl
  have Lg7 := Bg7.lt
  clear Bg7
  simp only [putT, List.set]
  refine wpL_assign (v := .slice (some ⟨g7, 0, none⟩) 0 0) (by rfl) (by rfl) (by rfl) ?_
  simp only [putT, List.set]
  refine wpL_nil (no_panic ?_)
  refine hK5 _ _ ?_
  refine wp_seq_k (fun K9 hK9 => ?_)
  refine wp_seq_k (fun K10 hK10 => ?_)
  refine wp_region_seq ?_
  refine wpL_chunk 1 (by rfl) (fun Lk hLk => ?_)
  simp only [List.take, List.drop]
  refine wpV_load (cs := fel x) (by rfl) rfl rfl Rg3_0 Lg3 Try.underlying23 rfl info23 ?_
  simp only [putT, List.set]
  refine wpV_nil (hLk _ (fun w12 Sw12 => ?_))
  clear hLk Lk
  simp only [List.take, List.drop]
  replace Rg3_0 := range_sees Rg3_0 Lg3 Sw12
  replace Tg3 := there_sees Tg3 Lg3 Sw12
  replace Rg7_0 := range_sees Rg7_0 Lg7 Sw12
  replace Tg7 := there_sees Tg7 Lg7 Sw12
  replace Lg3 := Nat.lt_of_lt_of_le Lg3 Sw12.2.2.size
  replace Lg7 := Nat.lt_of_lt_of_le Lg7 Sw12.2.2.size
  replace BE := BE.trans (Sw12.2.2.mono BE.size)
  refine wpL_callE (f := 47) (args := #[fe x]) (R := NewRow w12 16 (dl 16 x)) (by rfl) (by rfl) rfl Try.func47 (by kernel_rfl) (by kernel_rfl) (digits_c hx) (fun v9 w14 hv9 Sw14 => ?_)
  obtain ⟨g13, g13c, rfl, Cg13, Hg13, Lg13, Rg13_0⟩ := hv9
  have Ng3_g13 : g3 ≠ g13 := Nat.ne_of_lt (Nat.lt_of_lt_of_le Lg3 Hg13)
  have Ng7_g13 : g7 ≠ g13 := Nat.ne_of_lt (Nat.lt_of_lt_of_le Lg7 Hg13)
  have Gg13 : w.heap.size ≤ g13 := Nat.le_trans BE.size Hg13
  replace Rg3_0 := range_sees Rg3_0 Lg3 Sw14
  replace Tg3 := there_sees Tg3 Lg3 Sw14
  replace Rg7_0 := range_sees Rg7_0 Lg7 Sw14
  replace Tg7 := there_sees Tg7 Lg7 Sw14
  replace Lg3 := Nat.lt_of_lt_of_le Lg3 Sw14.2.2.size
  replace Lg7 := Nat.lt_of_lt_of_le Lg7 Sw14.2.2.size
  replace BE := BE.trans (Sw14.2.2.mono BE.size)
  simp only [putT, List.set]
  refine wpL_chunk 1 (by rfl) (fun Lk hLk => ?_)
  simp only [List.take, List.drop]
  refine wpV_lenA (n := 16) (by rfl) rfl rfl rfl Try.underlying60 ?_
  simp only [putT, List.set]
  refine wpV_nil (hLk _ (fun w15 Sw15 => ?_))
  clear hLk Lk
  simp only [List.take, List.drop]
  replace Rg3_0 := range_sees Rg3_0 Lg3 Sw15
  replace Tg3 := there_sees Tg3 Lg3 Sw15
  replace Rg7_0 := range_sees Rg7_0 Lg7 Sw15
  replace Tg7 := there_sees Tg7 Lg7 Sw15
  replace Rg13_0 := range_sees Rg13_0 Lg13 Sw15
  replace Lg3 := Nat.lt_of_lt_of_le Lg3 Sw15.2.2.size
  replace Lg7 := Nat.lt_of_lt_of_le Lg7 Sw15.2.2.size
  replace Lg13 := Nat.lt_of_lt_of_le Lg13 Sw15.2.2.size
  replace BE := BE.trans (Sw15.2.2.mono BE.size)
  refine wpL_move (v := .int .i64 0) (by rfl) (by rfl) (by rfl) ?_
  simp only [putT, List.set]
  refine wpL_nil (no_panic ?_)
  refine hK10 _ _ ?_
  refine wp_block ?_
  refine wp_loop_ghost (fun n9 a9 W9 => ∃ (i : Nat) (gq : Nat) (gqc : Nat) (u16 : Nat → Value), n9 = 16 - i ∧ a9 = { tmps := #[fe x, .pointer (some ⟨g3, 0, none⟩), .string (bs ([])), .slice (some ⟨gq, 0, none⟩) (2 * i) gqc, undef, u16 5, .slice (some ⟨g7, 0, none⟩) 0 0, fe x, .slice (some ⟨g13, 0, none⟩) 16 g13c, .int .i64 16, .int .i64 ((i : Nat) : Int), u16 11, u16 12, u16 13, u16 14, u16 15, u16 16, u16 17, u16 18, u16 19, u16 20, u16 21, u16 22, u16 23, undef, undef], defers := [] } ∧ Below w.heap.size w W9 ∧ World.rangeAt W9 g3 0 (fel x) ∧ World.there W9 g3 0 4 ∧ g3 < W9.heap.size ∧ World.rangeAt W9 g13 0 (dl 16 x) ∧ g13 < W9.heap.size ∧ World.rangeAt W9 gq 0 (bcells (bytesN (2 * i) x)) ∧ World.there W9 gq 0 gqc ∧ gq < W9.heap.size ∧ 2 * i ≤ gqc ∧ w.heap.size ≤ gq ∧ g3 ≠ gq ∧ g13 ≠ gq ∧ (i ≤ 16)) (16 - (0)) ?_ (fun n9 a9 W9 hI => ?_)
  · exact ⟨0, g7, 0, (fun q9 => (#[undef, undef, undef, undef, undef, undef, undef, undef, undef, undef, undef, undef, undef, undef, undef, undef, undef, undef, undef, undef, undef, undef, undef, undef] : Array Value).getD q9 undef), rfl, rfl, BE, Rg3_0, Tg3, Lg3, Rg13_0, Lg13, (show World.rangeAt _ _ _ [] from Rg7_0), Tg7, Lg7, (Nat.le_refl _), Gg7, Ng3_g7, (Ne.symm Ng7_g13), (by omega)⟩
  clear BE Rg3_0 Rg7_0 Rg13_0 Tg3 Tg7 Lg3 Lg7 Lg13
  obtain ⟨i, gq, gqc, u16, rfl, rfl, BE, Rg3_0, Tg3, Lg3, Rg13_0, Lg13, Rgq_0, Tgq, Lgq, Cgq, Ggq, Ng3_gq, Ng13_gq, hi4⟩ := hI
  obtain ⟨w17, rfl⟩ : ∃ W8, W8 = W9 := ⟨_, rfl⟩
  refine wp_seq_k (fun K18 hK18 => ?_)
  refine wp_region_plain 1 (by kernel_rfl) (fun Lk hLk => ?_)
  simp only [List.take, List.drop]
  refine wpV_bin (v := .bool (decide (i < 16))) (by rfl) rfl rfl rfl (fun W => run_lssN i 16 _ _ W) ?_
  simp only [putT, List.set]
  refine wpV_nil (hLk.out _ ?_)
  clear hLk Lk
  simp only [List.take, List.drop]
  iterate 1 refine wpN_skip (by rfl) ?_
  refine wpN_nil (fun w20 Sw20 hbs => ?_)
  clear hbs
  replace Rg3_0 := range_sees Rg3_0 Lg3 Sw20
  replace Tg3 := there_sees Tg3 Lg3 Sw20
  replace Rg13_0 := range_sees Rg13_0 Lg13 Sw20
  replace Rgq_0 := range_sees Rgq_0 Lgq Sw20
  replace Tgq := there_sees Tgq Lgq Sw20
  replace Lg3 := Nat.lt_of_lt_of_le Lg3 Sw20.2.2.size
  replace Lg13 := Nat.lt_of_lt_of_le Lg13 Sw20.2.2.size
  replace Lgq := Nat.lt_of_lt_of_le Lgq Sw20.2.2.size
  replace BE := BE.trans (Sw20.2.2.mono BE.size)
  refine wpL_nil (no_panic ?_)
  refine hK18 _ _ ?_
  refine wp_seq_k (fun K21 hK21 => ?_)
  cases hc22 : (decide (i < 16))
  · skip
    have ei : 16 = i := by have := of_decide_eq_false hc22; omega
    subst ei
    refine wp_cond_false rfl ?_
    refine wp_exit ?_
    refine hK9 _ _ ?_
    refine wp_seq_k (fun K23 hK23 => ?_)
    refine wp_region_plain 2 (by kernel_rfl) (fun Lk hLk => ?_)
    simp only [List.take, List.drop]
    refine wpV_move (v := .slice (some ⟨gq, 0, none⟩) (2 * 16) gqc) (by rfl) rfl rfl ?_
    simp only [putT, List.set]
    refine wpV_b2s (l := (bytesN (2 * 16) x)) (by rfl) rfl rfl (by rw [bytesN_len]) Try.underlying72 Try.underlying5 Try.underlying9 Rgq_0 Lgq ?_
    simp only [putT, List.set]
    refine wpV_nil (hLk.out _ ?_)
    clear hLk Lk
    simp only [List.take, List.drop]
    iterate 2 refine wpN_skip (by rfl) ?_
    refine wpN_nil (fun w25 Sw25 hbs => ?_)
    clear hbs
    replace Rg3_0 := range_sees Rg3_0 Lg3 Sw25
    replace Tg3 := there_sees Tg3 Lg3 Sw25
    replace Rg13_0 := range_sees Rg13_0 Lg13 Sw25
    replace Rgq_0 := range_sees Rgq_0 Lgq Sw25
    replace Tgq := there_sees Tgq Lgq Sw25
    replace Lg3 := Nat.lt_of_lt_of_le Lg3 Sw25.2.2.size
    replace Lg13 := Nat.lt_of_lt_of_le Lg13 Sw25.2.2.size
    replace Lgq := Nat.lt_of_lt_of_le Lgq Sw25.2.2.size
    replace BE := BE.trans (Sw25.2.2.mono BE.size)
    refine wpL_assign (v := .string (bs (bytesN (2 * 16) x))) (by rfl) (by rfl) (by rfl) ?_
    simp only [putT, List.set]
    refine wpL_nil (no_panic ?_)
    refine hK23 _ _ ?_
    refine wp_ret ?_
    repeat (first | with_reducible refine then_ret ?_ | with_reducible refine inblock_ret ?_)
    refine bodyPost_ret (v := .string (bs (bytesN (2 * 16) x))) (res1 rfl (.tmp (by rfl))) rfl ?_
    exact ⟨rfl, BE⟩
  · skip
    have hi : i < 16 := of_decide_eq_true hc22
    have hd := digN_lt x i
    refine wp_cond_true rfl ?_
    refine wp_skip ?_
    refine hK21 _ _ ?_
    refine wp_seq_k (fun K26 hK26 => ?_)
    refine wp_block ?_
    refine wp_seq_k (fun K27 hK27 => ?_)
    refine wp_region_plain 2 (by kernel_rfl) (fun Lk hLk => ?_)
    simp only [List.take, List.drop]
    refine wpV_idxs (n := i) (by rfl) rfl rfl rfl Try.underlying60 info3 (by omega) ?_
    simp only [Nat.zero_add]
    simp only [putT, List.set]
    refine wpV_load1 (v := .int .i64 ((digN x i : Nat) : Int)) (by rfl) rfl rfl (by have := Rg13_0 _ _ (dl_get (j := i) 16 x (by omega)); rwa [Nat.zero_add] at this) Lg13 Try.underlying3 rfl ?_
    simp only [putT, List.set]
    refine wpV_nil (hLk.out _ ?_)
    clear hLk Lk
    simp only [List.take, List.drop]
    iterate 2 refine wpN_skip (by rfl) ?_
    refine wpN_nil (fun w29 Sw29 hbs => ?_)
    clear hbs
    replace Rg3_0 := range_sees Rg3_0 Lg3 Sw29
    replace Tg3 := there_sees Tg3 Lg3 Sw29
    replace Rg13_0 := range_sees Rg13_0 Lg13 Sw29
    replace Rgq_0 := range_sees Rgq_0 Lgq Sw29
    replace Tgq := there_sees Tgq Lgq Sw29
    replace Lg3 := Nat.lt_of_lt_of_le Lg3 Sw29.2.2.size
    replace Lg13 := Nat.lt_of_lt_of_le Lg13 Sw29.2.2.size
    replace Lgq := Nat.lt_of_lt_of_le Lgq Sw29.2.2.size
    replace BE := BE.trans (Sw29.2.2.mono BE.size)
    refine wpL_assign (v := .int .i64 ((digN x i : Nat) : Int)) (by rfl) (by rfl) (by rfl) ?_
    simp only [putT, List.set]
    refine wpL_nil (no_panic ?_)
    refine hK27 _ _ ?_
    refine wp_region_seq ?_
    refine wpL_move (v := .slice (some ⟨gq, 0, none⟩) (2 * i) gqc) (by rfl) (by rfl) (by rfl) ?_
    simp only [putT, List.set]
    refine wpL_move (v := .int .i64 ((digN x i : Nat) : Int)) (by rfl) (by rfl) (by rfl) ?_
    simp only [putT, List.set]
    refine wpL_chunk 5 (by rfl) (fun Lk hLk => ?_)
    simp only [List.take, List.drop]
    refine wpV_bin (v := .int .i64 (((digN x i) % 256 : Nat) : Int)) (by rfl) rfl rfl rfl (fun W => run_rem (by decide) (tmod_nat (digN x i) 256) W) ?_
    simp only [putT, List.set]
    refine wpV_conv (d := .bool) (e := ((((digN x i) % 256) % 256 : Nat) : Int)) (by rfl) rfl rfl (run_conv_int Try.underlying3 Try.underlying5 (wrap_u8N _)) ?_
    simp only [putT, List.set]
    refine wpV_move (v := .int .i64 ((digN x i : Nat) : Int)) (by rfl) rfl rfl ?_
    simp only [putT, List.set]
    refine wpV_bin (v := .int .i64 (((digN x i) / 256 : Nat) : Int)) (by rfl) rfl rfl rfl (fun W => run_quo (by decide) ((congrArg _ (tdiv_nat (digN x i) 256)).trans (wrap_nat _ (by omega))) W) ?_
    simp only [putT, List.set]
    refine wpV_conv (d := .bool) (e := ((((digN x i) / 256) % 256 : Nat) : Int)) (by rfl) rfl rfl (run_conv_int Try.underlying3 Try.underlying5 (wrap_u8N _)) ?_
    simp only [putT, List.set]
    refine wpV_nil (hLk _ (fun w31 Sw31 => ?_))
    clear hLk Lk
    simp only [List.take, List.drop]
    replace Rg3_0 := range_sees Rg3_0 Lg3 Sw31
    replace Tg3 := there_sees Tg3 Lg3 Sw31
    replace Rg13_0 := range_sees Rg13_0 Lg13 Sw31
    replace Rgq_0 := range_sees Rgq_0 Lgq Sw31
    replace Tgq := there_sees Tgq Lgq Sw31
    replace Lg3 := Nat.lt_of_lt_of_le Lg3 Sw31.2.2.size
    replace Lg13 := Nat.lt_of_lt_of_le Lg13 Sw31.2.2.size
    replace Lgq := Nat.lt_of_lt_of_le Lgq Sw31.2.2.size
    replace BE := BE.trans (Sw31.2.2.mono BE.size)
    refine wpL_row2 (z := .int .u8 0) (bytes := 1) (n := ((((digN x i) % 256) % 256 : Nat) : Int)) (m := ((((digN x i) / 256) % 256 : Nat) : Int)) (by rfl) (by rfl) (by rfl) (by rfl) Try.underlying72 (by kernel_rfl) rfl (fun g32 w33 Sw33 Hg32 Bg32 => ?_)
    have Ng3_g32 : g3 ≠ g32 := Nat.ne_of_lt (Nat.lt_of_lt_of_le Lg3 Hg32)
    have Ng13_g32 : g13 ≠ g32 := Nat.ne_of_lt (Nat.lt_of_lt_of_le Lg13 Hg32)
    have Ngq_g32 : gq ≠ g32 := Nat.ne_of_lt (Nat.lt_of_lt_of_le Lgq Hg32)
    have Gg32 : w.heap.size ≤ g32 := Nat.le_trans BE.size Hg32
    replace Rg3_0 := range_sees Rg3_0 Lg3 Sw33
    replace Tg3 := there_sees Tg3 Lg3 Sw33
    replace Rg13_0 := range_sees Rg13_0 Lg13 Sw33
    replace Rgq_0 := range_sees Rgq_0 Lgq Sw33
    replace Tgq := there_sees Tgq Lgq Sw33
    replace Lg3 := Nat.lt_of_lt_of_le Lg3 Sw33.2.2.size
    replace Lg13 := Nat.lt_of_lt_of_le Lg13 Sw33.2.2.size
    replace Lgq := Nat.lt_of_lt_of_le Lgq Sw33.2.2.size
    replace BE := BE.trans (Sw33.2.2.mono BE.size)
    have Tg32 := blk_there Bg32 (n := 2) (by rfl)
    have Rg32_0 := blk_range Bg32 (l := [.int .u8 ((((digN x i) % 256) % 256 : Nat) : Int), .int .u8 ((((digN x i) / 256) % 256 : Nat) : Int)]) rfl
    have Lg32 := Bg32.lt
    clear Bg32
    simp only [putT, List.set]
    refine wpL_append (olds := bcells (bytesN (2 * i) x)) (news := [.int .u8 ((((digN x i) % 256) % 256 : Nat) : Int), .int .u8 ((((digN x i) / 256) % 256 : Nat) : Int)]) (z := .int .u8 0) (bytes := 1) (by rfl) (by rfl) (by rfl) (by rfl) Try.underlying72 (by kernel_rfl) rfl rfl (by rw [bcells_len, bytesN_len]) (by rfl) Rgq_0 Tgq Lgq Rg32_0 (by simp [Value.oneCell']) (by omega) (by unfold maxLen; omega) (fun g34 g34c w35 Sw35 Qg34 Cg34 Rg34_0 Tg34 Lg34 => ?_)
    rw [raw_app] at Rg34_0
    have Ng3_g34 : g3 ≠ g34 := Qg34.elim (fun q => q ▸ Ng3_gq) (fun q => Nat.ne_of_lt (Nat.lt_of_lt_of_le Lg3 q))
    have Ng13_g34 : g13 ≠ g34 := Qg34.elim (fun q => q ▸ Ng13_gq) (fun q => Nat.ne_of_lt (Nat.lt_of_lt_of_le Lg13 q))
    have Gg34 : w.heap.size ≤ g34 := Qg34.elim (fun q => q ▸ Ggq) (fun q => Nat.le_trans BE.size q)
    replace Rg3_0 := Sw35.range Rg3_0 Ng3_gq Lg3
    replace Tg3 := Sw35.there Tg3 Ng3_gq Lg3
    replace Rg13_0 := Sw35.range Rg13_0 Ng13_gq Lg13
    replace Lg3 := Sw35.lt Lg3
    replace Lg13 := Sw35.lt Lg13
    replace BE := Sw35.below BE (Nat.le_refl _) Ggq
    simp only [putT, List.set]
    refine wpL_assign (v := .slice (some ⟨g34, 0, none⟩) (2 * i + 2) g34c) (by rfl) (by rfl) (by rfl) ?_
    simp only [putT, List.set]
    refine wpL_nil (no_panic ?_)
    refine hK26 _ _ ?_
    refine wp_region_plain 1 (by kernel_rfl) (fun Lk hLk => ?_)
    simp only [List.take, List.drop]
    refine wpV_bin (v := .int .i64 ((i + 1 : Nat) : Int)) (by rfl) rfl rfl rfl (fun W => run_add (by simp only [IntKind.wrap_i64]; omega) W) ?_
    simp only [putT, List.set]
    refine wpV_nil (hLk.out _ ?_)
    clear hLk Lk
    simp only [List.take, List.drop]
    iterate 1 refine wpN_skip (by rfl) ?_
    refine wpN_nil (fun w37 Sw37 hbs => ?_)
    clear hbs
    replace Rg3_0 := range_sees Rg3_0 Lg3 Sw37
    replace Tg3 := there_sees Tg3 Lg3 Sw37
    replace Rg13_0 := range_sees Rg13_0 Lg13 Sw37
    replace Rg34_0 := range_sees Rg34_0 Lg34 Sw37
    replace Tg34 := there_sees Tg34 Lg34 Sw37
    replace Lg3 := Nat.lt_of_lt_of_le Lg3 Sw37.2.2.size
    replace Lg13 := Nat.lt_of_lt_of_le Lg13 Sw37.2.2.size
    replace Lg34 := Nat.lt_of_lt_of_le Lg34 Sw37.2.2.size
    replace BE := BE.trans (Sw37.2.2.mono BE.size)
    refine wpL_move (v := .int .i64 ((i + 1 : Nat) : Int)) (by rfl) (by rfl) (by rfl) ?_
    simp only [putT, List.set]
    refine wpL_nil (no_panic ?_)
    refine Exists.intro _ ⟨?_, (i + 1), g34, g34c, (fun q9 => (#[undef, undef, undef, undef, undef, .int .i64 ((digN x i : Nat) : Int), undef, undef, undef, undef, undef, .bool true, .pointer (some ⟨g13, i, none⟩), .int .i64 ((digN x i : Nat) : Int), .slice (some ⟨gq, 0, none⟩) (2 * i) gqc, .int .i64 ((digN x i : Nat) : Int), .int .i64 (((digN x i) % 256 : Nat) : Int), .int .u8 ((((digN x i) % 256) % 256 : Nat) : Int), .int .i64 ((digN x i : Nat) : Int), .int .i64 (((digN x i) / 256 : Nat) : Int), .int .u8 ((((digN x i) / 256) % 256 : Nat) : Int), .slice (some ⟨g32, 0, none⟩) 2 2, .slice (some ⟨g34, 0, none⟩) (2 * i + 2) g34c, .int .i64 ((i + 1 : Nat) : Int)] : Array Value).getD q9 undef), rfl, rfl, BE, Rg3_0, Tg3, Lg3, Rg13_0, Lg13, Rg34_0, Tg34, Lg34, Cg34, Gg34, Ng3_g34, Ng13_g34, (by omega)⟩
    omega
set_option maxHeartbeats 2000000 in
theorem read_c {l : List UInt8} {w : World} (hl : l.length ≤ 1000) :
    Calls Try.prog 60 #[.string (bs l)] w fun e w' => ∃ v, e = .returned v ∧ NewRow w ((l.length + 1) / 2) (dl ((l.length + 1) / 2) (leN l)) v w' ∧ Below w.heap.size w w' := by
  go_enter Try.func60, Try.ntmps60
  have BE := Below.refl w.heap.size w
  refine wp_seq_k (fun K1 hK1 => ?_)
  refine wp_region_plain 0 (by kernel_rfl) (fun Lk hLk => ?_)
  simp only [List.take, List.drop]
  refine wpV_nil (hLk.out _ ?_)
  clear hLk Lk
  simp only [List.take, List.drop]
  refine wpN_nil (fun w3 Sw3 hbs => ?_)
  clear hbs
  replace BE := BE.trans (Sw3.2.2.mono BE.size)
  refine wpL_assign (v := (.slice none 0 0)) (by rfl) (by rfl) (by rfl) ?_
  simp only [putT, List.set]
  refine wpL_nil (no_panic ?_)
  refine hK1 _ _ ?_
  refine wp_seq_k (fun K4 hK4 => ?_)
  refine wp_region_seq ?_
  refine wpL_row0 (by rfl) (by rfl) Try.underlying60 info3 (fun g6 w7 Sw7 Hg6 Bg6 => ?_)
  have Gg6 : w.heap.size ≤ g6 := Nat.le_trans BE.size Hg6
  replace BE := BE.trans (Sw7.2.2.mono BE.size)
  have Tg6 := blk_there Bg6 (n := 0) (by rfl)
  have Rg6_0 := blk_range Bg6 (l := []) rfl
  rw [← dl_none] at Rg6_0
  have Lg6 := Bg6.lt
  clear Bg6
  simp only [putT, List.set]
  refine wpL_assign (v := .slice (some ⟨g6, 0, none⟩) 0 0) (by rfl) (by rfl) (by rfl) ?_
  simp only [putT, List.set]
  refine wpL_nil (no_panic ?_)
  refine hK4 _ _ ?_
  refine wp_seq_k (fun K8 hK8 => ?_)
  refine wp_seq_k (fun K9 hK9 => ?_)
  refine wp_region_plain 0 (by kernel_rfl) (fun Lk hLk => ?_)
  simp only [List.take, List.drop]
  refine wpV_nil (hLk.out _ ?_)
  clear hLk Lk
  simp only [List.take, List.drop]
  refine wpN_nil (fun w11 Sw11 hbs => ?_)
  clear hbs
  replace Rg6_0 := range_sees Rg6_0 Lg6 Sw11
  replace Tg6 := there_sees Tg6 Lg6 Sw11
  replace Lg6 := Nat.lt_of_lt_of_le Lg6 Sw11.2.2.size
  replace BE := BE.trans (Sw11.2.2.mono BE.size)
  refine wpL_assign (v := .int .i64 0) (by rfl) (by rfl) (by rfl) ?_
  simp only [putT, List.set]
  refine wpL_nil (no_panic ?_)
  refine hK9 _ _ ?_
  refine wp_block ?_
  refine wp_loop_ghost (fun n9 a9 W9 => ∃ (k : Nat) (gq : Nat) (gqc : Nat) (u12 : Nat → Value), n9 = l.length + 1 - 2 * k ∧ a9 = { tmps := #[.string (bs l), undef, (.slice none 0 0), .slice (some ⟨gq, 0, none⟩) k gqc, .int .i64 ((2 * k : Nat) : Int), u12 5, .slice (some ⟨g6, 0, none⟩) 0 0, u12 7, u12 8, u12 9, u12 10, u12 11, u12 12, u12 13, u12 14, u12 15, u12 16, u12 17, u12 18, u12 19, u12 20, u12 21, u12 22, u12 23, u12 24, u12 25, u12 26, u12 27, u12 28, u12 29, u12 30, u12 31, u12 32, u12 33, undef], defers := [] } ∧ Below w.heap.size w W9 ∧ World.rangeAt W9 gq 0 (dl k (leN l)) ∧ World.there W9 gq 0 gqc ∧ gq < W9.heap.size ∧ k ≤ gqc ∧ w.heap.size ≤ gq ∧ (2 * k ≤ l.length + 1)) (l.length + 1 - 2 * (0)) ?_ (fun n9 a9 W9 hI => ?_)
  · exact ⟨0, g6, 0, (fun q9 => (#[undef, undef, undef, undef, undef, undef, undef, undef, undef, undef, undef, undef, undef, undef, undef, undef, undef, undef, undef, undef, undef, undef, undef, undef, undef, undef, undef, undef, undef, undef, undef, undef, undef, undef] : Array Value).getD q9 undef), rfl, rfl, BE, (show World.rangeAt _ _ _ [] from Rg6_0), Tg6, Lg6, (Nat.le_refl _), Gg6, (by omega)⟩
  clear BE Rg6_0 Tg6 Lg6
  obtain ⟨k, gq, gqc, u12, rfl, rfl, BE, Rgq_0, Tgq, Lgq, Cgq, Ggq, hk⟩ := hI
  obtain ⟨w13, rfl⟩ : ∃ W8, W8 = W9 := ⟨_, rfl⟩
  have hb1 := byteN_lt l (2 * k)
  have hb2 := byteN_lt l (2 * k + 1)
  have hrd := read_dig l k
  refine wp_seq_k (fun K14 hK14 => ?_)
  refine wp_seq_k (fun K15 hK15 => ?_)
  refine wp_region_plain 4 (by kernel_rfl) (fun Lk hLk => ?_)
  simp only [List.take, List.drop]
  refine wpV_move (v := .int .i64 ((2 * k : Nat) : Int)) (by rfl) rfl rfl ?_
  simp only [putT, List.set]
  refine wpV_move (v := .string (bs l)) (by rfl) rfl rfl ?_
  simp only [putT, List.set]
  refine wpV_lenS (by rfl) rfl rfl rfl Try.underlying9 ?_
  simp only [putT, List.set]
  refine wpV_bin (v := .bool (decide (2 * k < l.length))) (by rfl) rfl rfl rfl (fun W => run_lssN (2 * k) l.length _ _ W) ?_
  simp only [putT, List.set]
  refine wpV_nil (hLk.out _ ?_)
  clear hLk Lk
  simp only [List.take, List.drop]
  iterate 4 refine wpN_skip (by rfl) ?_
  refine wpN_nil (fun w17 Sw17 hbs => ?_)
  clear hbs
  replace Rgq_0 := range_sees Rgq_0 Lgq Sw17
  replace Tgq := there_sees Tgq Lgq Sw17
  replace Lgq := Nat.lt_of_lt_of_le Lgq Sw17.2.2.size
  replace BE := BE.trans (Sw17.2.2.mono BE.size)
  refine wpL_nil (no_panic ?_)
  refine hK15 _ _ ?_
  cases hc18 : (decide (2 * k < l.length))
  · skip
    have ek : k = ((l.length + 1) / 2) := by have := of_decide_eq_false hc18; omega
    subst ek
    refine wp_cond_false rfl ?_
    refine wp_exit ?_
    refine hK8 _ _ ?_
    refine wp_seq_k (fun K19 hK19 => ?_)
    refine wp_region_plain 1 (by kernel_rfl) (fun Lk hLk => ?_)
    simp only [List.take, List.drop]
    refine wpV_move (v := .slice (some ⟨gq, 0, none⟩) ((l.length + 1) / 2) gqc) (by rfl) rfl rfl ?_
    simp only [putT, List.set]
    refine wpV_nil (hLk.out _ ?_)
    clear hLk Lk
    simp only [List.take, List.drop]
    iterate 1 refine wpN_skip (by rfl) ?_
    refine wpN_nil (fun w21 Sw21 hbs => ?_)
    clear hbs
    replace Rgq_0 := range_sees Rgq_0 Lgq Sw21
    replace Tgq := there_sees Tgq Lgq Sw21
    replace Lgq := Nat.lt_of_lt_of_le Lgq Sw21.2.2.size
    replace BE := BE.trans (Sw21.2.2.mono BE.size)
    refine wpL_assign (v := .slice (some ⟨gq, 0, none⟩) ((l.length + 1) / 2) gqc) (by rfl) (by rfl) (by rfl) ?_
    simp only [putT, List.set]
    refine wpL_nil (no_panic ?_)
    refine hK19 _ _ ?_
    refine wp_ret ?_
    repeat (first | with_reducible refine then_ret ?_ | with_reducible refine inblock_ret ?_)
    refine bodyPost_ret (v := .slice (some ⟨gq, 0, none⟩) ((l.length + 1) / 2) gqc) (res1 rfl (.tmp (by rfl))) rfl ?_
    exact ⟨_, rfl, ⟨gq, gqc, rfl, Cgq, Ggq, Lgq, (range_dl_take (m := ((l.length + 1) / 2)) Rgq_0 (by omega))⟩, BE⟩
  · skip
    have h2k : 2 * k < l.length := of_decide_eq_true hc18
    refine wp_cond_true rfl ?_
    refine wp_skip ?_
    refine hK14 _ _ ?_
    refine wp_seq_k (fun K22 hK22 => ?_)
    refine wp_block ?_
    refine wp_seq_k (fun K23 hK23 => ?_)
    refine wp_region_plain 4 (by kernel_rfl) (fun Lk hLk => ?_)
    simp only [List.take, List.drop]
    refine wpV_move (v := .string (bs l)) (by rfl) rfl rfl ?_
    simp only [putT, List.set]
    refine wpV_move (v := .int .i64 ((2 * k : Nat) : Int)) (by rfl) rfl rfl ?_
    simp only [putT, List.set]
    refine wpV_indexb (n := 2 * k) (by omega) (by rfl) rfl rfl rfl Try.underlying9 ?_
    simp only [putT, List.set]
    refine wpV_conv (d := .bool) (e := ((byteN l (2 * k) : Nat) : Int)) (by rfl) rfl rfl (run_conv_int Try.underlying5 Try.underlying3 (by have := (byteN_lt l (2 * k)); simp only [IntKind.wrap_i64]; omega)) ?_
    simp only [putT, List.set]
    refine wpV_nil (hLk.out _ ?_)
    clear hLk Lk
    simp only [List.take, List.drop]
    iterate 4 refine wpN_skip (by rfl) ?_
    refine wpN_nil (fun w25 Sw25 hbs => ?_)
    clear hbs
    replace Rgq_0 := range_sees Rgq_0 Lgq Sw25
    replace Tgq := there_sees Tgq Lgq Sw25
    replace Lgq := Nat.lt_of_lt_of_le Lgq Sw25.2.2.size
    replace BE := BE.trans (Sw25.2.2.mono BE.size)
    refine wpL_assign (v := .int .i64 ((byteN l (2 * k) : Nat) : Int)) (by rfl) (by rfl) (by rfl) ?_
    simp only [putT, List.set]
    refine wpL_nil (no_panic ?_)
    refine hK23 _ _ ?_
    refine wp_seq_k (fun K26 hK26 => ?_)
    refine wp_seq_k (fun K27 hK27 => ?_)
    refine wp_region_plain 5 (by kernel_rfl) (fun Lk hLk => ?_)
    simp only [List.take, List.drop]
    refine wpV_move (v := .int .i64 ((2 * k : Nat) : Int)) (by rfl) rfl rfl ?_
    simp only [putT, List.set]
    refine wpV_bin (v := .int .i64 ((2 * k + 1 : Nat) : Int)) (by rfl) rfl rfl rfl (fun W => run_add (by simp only [IntKind.wrap_i64]; omega) W) ?_
    simp only [putT, List.set]
    refine wpV_move (v := .string (bs l)) (by rfl) rfl rfl ?_
    simp only [putT, List.set]
    refine wpV_lenS (by rfl) rfl rfl rfl Try.underlying9 ?_
    simp only [putT, List.set]
    refine wpV_bin (v := .bool (decide (2 * k + 1 < l.length))) (by rfl) rfl rfl rfl (fun W => run_lssN (2 * k + 1) l.length _ _ W) ?_
    simp only [putT, List.set]
    refine wpV_nil (hLk.out _ ?_)
    clear hLk Lk
    simp only [List.take, List.drop]
    iterate 5 refine wpN_skip (by rfl) ?_
    refine wpN_nil (fun w29 Sw29 hbs => ?_)
    clear hbs
    replace Rgq_0 := range_sees Rgq_0 Lgq Sw29
    replace Tgq := there_sees Tgq Lgq Sw29
    replace Lgq := Nat.lt_of_lt_of_le Lgq Sw29.2.2.size
    replace BE := BE.trans (Sw29.2.2.mono BE.size)
    refine wpL_nil (no_panic ?_)
    refine hK27 _ _ ?_
    cases hc30 : (decide (2 * k + 1 < l.length))
    · skip
      have h2k1 : ¬ 2 * k + 1 < l.length := of_decide_eq_false hc30
      have hdig : byteN l (2 * k) = digN (leN l) k := by rw [← hrd, byteN_over (i := 2 * k + 1) (by omega)]; omega
      refine wp_cond_false rfl ?_
      refine wp_skip ?_
      refine hK26 _ _ ?_
      refine wp_region_seq ?_
      refine wpL_move (v := .slice (some ⟨gq, 0, none⟩) k gqc) (by rfl) (by rfl) (by rfl) ?_
      simp only [putT, List.set]
      refine wpL_move (v := .int .i64 ((byteN l (2 * k) : Nat) : Int)) (by rfl) (by rfl) (by rfl) ?_
      simp only [putT, List.set]
      refine wpL_row1 (z := .int .i64 0) (bytes := 8) (n := ((byteN l (2 * k) : Nat) : Int)) (by rfl) (by rfl) (by rfl) Try.underlying60 (by kernel_rfl) rfl (fun g32 w33 Sw33 Hg32 Bg32 => ?_)
      have Ngq_g32 : gq ≠ g32 := Nat.ne_of_lt (Nat.lt_of_lt_of_le Lgq Hg32)
      have Gg32 : w.heap.size ≤ g32 := Nat.le_trans BE.size Hg32
      replace Rgq_0 := range_sees Rgq_0 Lgq Sw33
      replace Tgq := there_sees Tgq Lgq Sw33
      replace Lgq := Nat.lt_of_lt_of_le Lgq Sw33.2.2.size
      replace BE := BE.trans (Sw33.2.2.mono BE.size)
      have Tg32 := blk_there Bg32 (n := 1) (by rfl)
      have Rg32_0 := blk_range Bg32 (l := [.int .i64 ((byteN l (2 * k) : Nat) : Int)]) rfl
      replace Rg32_0 : World.rangeAt w33 g32 0 (dl 1 (byteN l (2 * k))) := by rw [dl_one (v := byteN l (2 * k)) (by omega)]; exact Rg32_0
      have Lg32 := Bg32.lt
      clear Bg32
      simp only [putT, List.set]
      refine wpL_append (olds := dl k (leN l)) (news := dl 1 (byteN l (2 * k))) (z := .int .i64 0) (bytes := 8) (by rfl) (by rfl) (by rfl) (by rfl) Try.underlying60 (by kernel_rfl) rfl rfl (dl_len _ _) (dl_len _ _) Rgq_0 Tgq Lgq Rg32_0 (nl_one _ _) (by omega) (by unfold maxLen; omega) (fun g34 g34c w35 Sw35 Qg34 Cg34 Rg34_0 Tg34 Lg34 => ?_)
      rw [hdig, dl_app1] at Rg34_0
      have Gg34 : w.heap.size ≤ g34 := Qg34.elim (fun q => q ▸ Ggq) (fun q => Nat.le_trans BE.size q)
      replace BE := Sw35.below BE (Nat.le_refl _) Ggq
      simp only [putT, List.set]
      refine wpL_assign (v := .slice (some ⟨g34, 0, none⟩) (k + 1) g34c) (by rfl) (by rfl) (by rfl) ?_
      simp only [putT, List.set]
      refine wpL_nil (no_panic ?_)
      refine hK22 _ _ ?_
      refine wp_region_plain 2 (by kernel_rfl) (fun Lk hLk => ?_)
      simp only [List.take, List.drop]
      refine wpV_move (v := .int .i64 ((2 * k : Nat) : Int)) (by rfl) rfl rfl ?_
      simp only [putT, List.set]
      refine wpV_bin (v := .int .i64 ((2 * k + 2 : Nat) : Int)) (by rfl) rfl rfl rfl (fun W => run_add (by simp only [IntKind.wrap_i64]; omega) W) ?_
      simp only [putT, List.set]
      refine wpV_nil (hLk.out _ ?_)
      clear hLk Lk
      simp only [List.take, List.drop]
      iterate 2 refine wpN_skip (by rfl) ?_
      refine wpN_nil (fun w37 Sw37 hbs => ?_)
      clear hbs
      replace Rg34_0 := range_sees Rg34_0 Lg34 Sw37
      replace Tg34 := there_sees Tg34 Lg34 Sw37
      replace Lg34 := Nat.lt_of_lt_of_le Lg34 Sw37.2.2.size
      replace BE := BE.trans (Sw37.2.2.mono BE.size)
      refine wpL_assign (v := .int .i64 ((2 * k + 2 : Nat) : Int)) (by rfl) (by rfl) (by rfl) ?_
      simp only [putT, List.set]
      refine wpL_nil (no_panic ?_)
      refine Exists.intro _ ⟨?_, (k + 1), g34, g34c, (fun q9 => (#[undef, undef, undef, undef, undef, .int .i64 ((byteN l (2 * k) : Nat) : Int), undef, .int .i64 ((2 * k : Nat) : Int), .string (bs l), .int .i64 ((l.length : Nat) : Int), .bool true, .int .i64 ((2 * k : Nat) : Int), .int .i64 ((2 * k + 2 : Nat) : Int), .string (bs l), .int .i64 ((2 * k : Nat) : Int), .int .u8 ((byteN l (2 * k) : Nat) : Int), .int .i64 ((byteN l (2 * k) : Nat) : Int), .int .i64 ((2 * k : Nat) : Int), .int .i64 ((2 * k + 1 : Nat) : Int), .string (bs l), .int .i64 ((l.length : Nat) : Int), .bool false, u12 22, u12 23, u12 24, u12 25, u12 26, u12 27, u12 28, u12 29, .slice (some ⟨gq, 0, none⟩) k gqc, .int .i64 ((byteN l (2 * k) : Nat) : Int), .slice (some ⟨g32, 0, none⟩) 1 1, .slice (some ⟨g34, 0, none⟩) (k + 1) g34c] : Array Value).getD q9 undef), rfl, rfl, BE, Rg34_0, Tg34, Lg34, Cg34, Gg34, (by omega)⟩
      omega
    · skip
      have h2k1 : 2 * k + 1 < l.length := of_decide_eq_true hc30
      have hdig : byteN l (2 * k) + 256 * (byteN l (2 * k + 1)) = digN (leN l) k := hrd
      refine wp_cond_true rfl ?_
      refine wp_region_plain 8 (by kernel_rfl) (fun Lk hLk => ?_)
      simp only [List.take, List.drop]
      refine wpV_move (v := .int .i64 ((byteN l (2 * k) : Nat) : Int)) (by rfl) rfl rfl ?_
      simp only [putT, List.set]
      refine wpV_move (v := .string (bs l)) (by rfl) rfl rfl ?_
      simp only [putT, List.set]
      refine wpV_move (v := .int .i64 ((2 * k : Nat) : Int)) (by rfl) rfl rfl ?_
      simp only [putT, List.set]
      refine wpV_bin (v := .int .i64 ((2 * k + 1 : Nat) : Int)) (by rfl) rfl rfl rfl (fun W => run_add (by simp only [IntKind.wrap_i64]; omega) W) ?_
      simp only [putT, List.set]
      refine wpV_indexb (n := 2 * k + 1) (by omega) (by rfl) rfl rfl rfl Try.underlying9 ?_
      simp only [putT, List.set]
      refine wpV_conv (d := .bool) (e := ((byteN l (2 * k + 1) : Nat) : Int)) (by rfl) rfl rfl (run_conv_int Try.underlying5 Try.underlying3 (by have := (byteN_lt l (2 * k + 1)); simp only [IntKind.wrap_i64]; omega)) ?_
      simp only [putT, List.set]
      refine wpV_bin (v := .int .i64 ((256 * (byteN l (2 * k + 1)) : Nat) : Int)) (by rfl) rfl rfl rfl (fun W => run_mul (by simp only [IntKind.wrap_i64]; omega) W) ?_
      simp only [putT, List.set]
      refine wpV_bin (v := .int .i64 ((byteN l (2 * k) + 256 * (byteN l (2 * k + 1)) : Nat) : Int)) (by rfl) rfl rfl rfl (fun W => run_add (by simp only [IntKind.wrap_i64]; omega) W) ?_
      simp only [putT, List.set]
      refine wpV_nil (hLk.out _ ?_)
      clear hLk Lk
      simp only [List.take, List.drop]
      iterate 8 refine wpN_skip (by rfl) ?_
      refine wpN_nil (fun w39 Sw39 hbs => ?_)
      clear hbs
      replace Rgq_0 := range_sees Rgq_0 Lgq Sw39
      replace Tgq := there_sees Tgq Lgq Sw39
      replace Lgq := Nat.lt_of_lt_of_le Lgq Sw39.2.2.size
      replace BE := BE.trans (Sw39.2.2.mono BE.size)
      refine wpL_assign (v := .int .i64 ((byteN l (2 * k) + 256 * (byteN l (2 * k + 1)) : Nat) : Int)) (by rfl) (by rfl) (by rfl) ?_
      simp only [putT, List.set]
      refine wpL_nil (no_panic ?_)
      refine hK26 _ _ ?_
      refine wp_region_seq ?_
      refine wpL_move (v := .slice (some ⟨gq, 0, none⟩) k gqc) (by rfl) (by rfl) (by rfl) ?_
      simp only [putT, List.set]
      refine wpL_move (v := .int .i64 ((byteN l (2 * k) + 256 * (byteN l (2 * k + 1)) : Nat) : Int)) (by rfl) (by rfl) (by rfl) ?_
      simp only [putT, List.set]
      refine wpL_row1 (z := .int .i64 0) (bytes := 8) (n := ((byteN l (2 * k) + 256 * (byteN l (2 * k + 1)) : Nat) : Int)) (by rfl) (by rfl) (by rfl) Try.underlying60 (by kernel_rfl) rfl (fun g41 w42 Sw42 Hg41 Bg41 => ?_)
      have Ngq_g41 : gq ≠ g41 := Nat.ne_of_lt (Nat.lt_of_lt_of_le Lgq Hg41)
      have Gg41 : w.heap.size ≤ g41 := Nat.le_trans BE.size Hg41
      replace Rgq_0 := range_sees Rgq_0 Lgq Sw42
      replace Tgq := there_sees Tgq Lgq Sw42
      replace Lgq := Nat.lt_of_lt_of_le Lgq Sw42.2.2.size
      replace BE := BE.trans (Sw42.2.2.mono BE.size)
      have Tg41 := blk_there Bg41 (n := 1) (by rfl)
      have Rg41_0 := blk_range Bg41 (l := [.int .i64 ((byteN l (2 * k) + 256 * (byteN l (2 * k + 1)) : Nat) : Int)]) rfl
      replace Rg41_0 : World.rangeAt w42 g41 0 (dl 1 (byteN l (2 * k) + 256 * (byteN l (2 * k + 1)))) := by rw [dl_one (v := byteN l (2 * k) + 256 * (byteN l (2 * k + 1))) (by omega)]; exact Rg41_0
      have Lg41 := Bg41.lt
      clear Bg41
      simp only [putT, List.set]
      refine wpL_append (olds := dl k (leN l)) (news := dl 1 (byteN l (2 * k) + 256 * (byteN l (2 * k + 1)))) (z := .int .i64 0) (bytes := 8) (by rfl) (by rfl) (by rfl) (by rfl) Try.underlying60 (by kernel_rfl) rfl rfl (dl_len _ _) (dl_len _ _) Rgq_0 Tgq Lgq Rg41_0 (nl_one _ _) (by omega) (by unfold maxLen; omega) (fun g43 g43c w44 Sw44 Qg43 Cg43 Rg43_0 Tg43 Lg43 => ?_)
      rw [hdig, dl_app1] at Rg43_0
      have Gg43 : w.heap.size ≤ g43 := Qg43.elim (fun q => q ▸ Ggq) (fun q => Nat.le_trans BE.size q)
      replace BE := Sw44.below BE (Nat.le_refl _) Ggq
      simp only [putT, List.set]
      refine wpL_assign (v := .slice (some ⟨g43, 0, none⟩) (k + 1) g43c) (by rfl) (by rfl) (by rfl) ?_
      simp only [putT, List.set]
      refine wpL_nil (no_panic ?_)
      refine hK22 _ _ ?_
      refine wp_region_plain 2 (by kernel_rfl) (fun Lk hLk => ?_)
      simp only [List.take, List.drop]
      refine wpV_move (v := .int .i64 ((2 * k : Nat) : Int)) (by rfl) rfl rfl ?_
      simp only [putT, List.set]
      refine wpV_bin (v := .int .i64 ((2 * k + 2 : Nat) : Int)) (by rfl) rfl rfl rfl (fun W => run_add (by simp only [IntKind.wrap_i64]; omega) W) ?_
      simp only [putT, List.set]
      refine wpV_nil (hLk.out _ ?_)
      clear hLk Lk
      simp only [List.take, List.drop]
      iterate 2 refine wpN_skip (by rfl) ?_
      refine wpN_nil (fun w46 Sw46 hbs => ?_)
      clear hbs
      replace Rg43_0 := range_sees Rg43_0 Lg43 Sw46
      replace Tg43 := there_sees Tg43 Lg43 Sw46
      replace Lg43 := Nat.lt_of_lt_of_le Lg43 Sw46.2.2.size
      replace BE := BE.trans (Sw46.2.2.mono BE.size)
      refine wpL_assign (v := .int .i64 ((2 * k + 2 : Nat) : Int)) (by rfl) (by rfl) (by rfl) ?_
      simp only [putT, List.set]
      refine wpL_nil (no_panic ?_)
      refine Exists.intro _ ⟨?_, (k + 1), g43, g43c, (fun q9 => (#[undef, undef, undef, undef, undef, .int .i64 ((byteN l (2 * k) + 256 * (byteN l (2 * k + 1)) : Nat) : Int), undef, .int .i64 ((2 * k : Nat) : Int), .string (bs l), .int .i64 ((l.length : Nat) : Int), .bool true, .int .i64 ((2 * k : Nat) : Int), .int .i64 ((2 * k + 2 : Nat) : Int), .string (bs l), .int .i64 ((2 * k : Nat) : Int), .int .u8 ((byteN l (2 * k) : Nat) : Int), .int .i64 ((byteN l (2 * k) : Nat) : Int), .int .i64 ((2 * k : Nat) : Int), .int .i64 ((2 * k + 1 : Nat) : Int), .string (bs l), .int .i64 ((l.length : Nat) : Int), .bool true, .int .i64 ((byteN l (2 * k) : Nat) : Int), .string (bs l), .int .i64 ((2 * k : Nat) : Int), .int .i64 ((2 * k + 1 : Nat) : Int), .int .u8 ((byteN l (2 * k + 1) : Nat) : Int), .int .i64 ((byteN l (2 * k + 1) : Nat) : Int), .int .i64 ((256 * (byteN l (2 * k + 1)) : Nat) : Int), .int .i64 ((byteN l (2 * k) + 256 * (byteN l (2 * k + 1)) : Nat) : Int), .slice (some ⟨gq, 0, none⟩) k gqc, .int .i64 ((byteN l (2 * k) + 256 * (byteN l (2 * k + 1)) : Nat) : Int), .slice (some ⟨g41, 0, none⟩) 1 1, .slice (some ⟨g43, 0, none⟩) (k + 1) g43c] : Array Value).getD q9 undef), rfl, rfl, BE, Rg43_0, Tg43, Lg43, Cg43, Gg43, (by omega)⟩
      omega
set_option maxHeartbeats 1000000 in
theorem rbytes04_c {x : Nat} (hx : x < 2 ^ 256) {w : World}  :
    Calls Try.prog 40 #[fe x] w fun e w' => e = .returned (.string (bs (bytesN 32 (leastF x)))) ∧ Below w.heap.size w w' := by
  go_enter Try.func40, Try.ntmps40
  have BE := Below.refl w.heap.size w
  refine wp_seq_k (fun K1 hK1 => ?_)
  refine wp_region_plain 1 (by kernel_rfl) (fun Lk hLk => ?_)
  simp only [List.take, List.drop]
  refine wpV_alloc (by rfl) ?_
  refine wpV_nil (hLk.out _ ?_)
  clear hLk Lk
  simp only [List.take, List.drop]
  refine wpN_new (t := 34) (cs := (fel x).toArray) (by rfl) (fun W => ?_) (fun g3 Hg3 ng3 => ?_)
  · (first | rfl | go_simp)
  simp only [putT, List.set]
  refine wpN_nil (fun w4 Sw4 hbs => ?_)
  have Bg3 : Blk w4 g3 34 (fel x).toArray := hbs _ (List.mem_cons_self ..)
  clear hbs
  have Gg3 : w.heap.size ≤ g3 := Nat.le_trans BE.size Hg3
  replace BE := BE.trans (Sw4.2.2.mono BE.size)
  have Tg3 := blk_there Bg3 (n := 4) (by simp [flen])
  have Rg3_0 := blk_range Bg3 (l := fel x) rfl
  have Lg3 := Bg3.lt
  clear ng3 Bg3
  refine wpL_assign (v := .string (bs ([]))) (by rfl) (by rfl) (by rfl) ?_
  simp only [putT, List.set]
  refine wpL_nil (no_panic ?_)
  refine hK1 _ _ ?_
  refine wp_seq_k (fun K5 hK5 => ?_)
  refine wp_region_plain 3 (by kernel_rfl) (fun Lk hLk => ?_)
  simp only [List.take, List.drop]
  refine wpV_load (cs := fel x) (by rfl) rfl rfl Rg3_0 Lg3 Try.underlying34 rfl info34 ?_
  simp only [putT, List.set]
  refine wpV_callf (v := fe (leastF x)) (args := #[fe x]) (by rfl) rfl Try.func25 (by kernel_rfl) (by kernel_rfl) rfl (fun W hW => rleast04_c hx) ?_
  simp only [putT, List.set]
  refine wpV_callf (v := .string (bs (bytesN 32 (leastF x)))) (args := #[fe (leastF x)]) (by rfl) rfl Try.func59 (by kernel_rfl) (by kernel_rfl) rfl (fun W hW => raw_c (leastF_lt _)) ?_
  simp only [putT, List.set]
  refine wpV_nil (hLk.out _ ?_)
  clear hLk Lk
  simp only [List.take, List.drop]
  iterate 3 refine wpN_skip (by rfl) ?_
  refine wpN_nil (fun w7 Sw7 hbs => ?_)
  clear hbs
  replace Rg3_0 := range_sees Rg3_0 Lg3 Sw7
  replace Tg3 := there_sees Tg3 Lg3 Sw7
  replace Lg3 := Nat.lt_of_lt_of_le Lg3 Sw7.2.2.size
  replace BE := BE.trans (Sw7.2.2.mono BE.size)
  refine wpL_assign (v := .string (bs (bytesN 32 (leastF x)))) (by rfl) (by rfl) (by rfl) ?_
  simp only [putT, List.set]
  refine wpL_nil (no_panic ?_)
  refine hK5 _ _ ?_
  refine wp_ret ?_
  repeat (first | with_reducible refine then_ret ?_ | with_reducible refine inblock_ret ?_)
  refine bodyPost_ret (v := .string (bs (bytesN 32 (leastF x)))) (res1 rfl (.tmp (by rfl))) rfl ?_
  exact ⟨rfl, BE⟩
set_option maxHeartbeats 1000000 in
theorem rbytes05_c {x : Nat} (hx : x < 2 ^ 256) {w : World}  :
    Calls Try.prog 34 #[fe x] w fun e w' => e = .returned (.string (bs (bytesN 32 (restS x)))) ∧ Below w.heap.size w w' := by
  go_enter Try.func34, Try.ntmps34
  have BE := Below.refl w.heap.size w
  refine wp_seq_k (fun K1 hK1 => ?_)
  refine wp_region_plain 1 (by kernel_rfl) (fun Lk hLk => ?_)
  simp only [List.take, List.drop]
  refine wpV_alloc (by rfl) ?_
  refine wpV_nil (hLk.out _ ?_)
  clear hLk Lk
  simp only [List.take, List.drop]
  refine wpN_new (t := 24) (cs := (fel x).toArray) (by rfl) (fun W => ?_) (fun g3 Hg3 ng3 => ?_)
  · (first | rfl | go_simp)
  simp only [putT, List.set]
  refine wpN_nil (fun w4 Sw4 hbs => ?_)
  have Bg3 : Blk w4 g3 24 (fel x).toArray := hbs _ (List.mem_cons_self ..)
  clear hbs
  have Gg3 : w.heap.size ≤ g3 := Nat.le_trans BE.size Hg3
  replace BE := BE.trans (Sw4.2.2.mono BE.size)
  have Tg3 := blk_there Bg3 (n := 4) (by simp [flen])
  have Rg3_0 := blk_range Bg3 (l := fel x) rfl
  have Lg3 := Bg3.lt
  clear ng3 Bg3
  refine wpL_assign (v := .string (bs ([]))) (by rfl) (by rfl) (by rfl) ?_
  simp only [putT, List.set]
  refine wpL_nil (no_panic ?_)
  refine hK1 _ _ ?_
  refine wp_seq_k (fun K5 hK5 => ?_)
  refine wp_region_plain 3 (by kernel_rfl) (fun Lk hLk => ?_)
  simp only [List.take, List.drop]
  refine wpV_load (cs := fel x) (by rfl) rfl rfl Rg3_0 Lg3 Try.underlying24 rfl info24 ?_
  simp only [putT, List.set]
  refine wpV_callf (v := fe (restS x)) (args := #[fe x]) (by rfl) rfl Try.func17 (by kernel_rfl) (by kernel_rfl) rfl (fun W hW => rleast05_c hx) ?_
  simp only [putT, List.set]
  refine wpV_callf (v := .string (bs (bytesN 32 (restS x)))) (args := #[fe (restS x)]) (by rfl) rfl Try.func59 (by kernel_rfl) (by kernel_rfl) rfl (fun W hW => raw_c (restS_lt _)) ?_
  simp only [putT, List.set]
  refine wpV_nil (hLk.out _ ?_)
  clear hLk Lk
  simp only [List.take, List.drop]
  iterate 3 refine wpN_skip (by rfl) ?_
  refine wpN_nil (fun w7 Sw7 hbs => ?_)
  clear hbs
  replace Rg3_0 := range_sees Rg3_0 Lg3 Sw7
  replace Tg3 := there_sees Tg3 Lg3 Sw7
  replace Lg3 := Nat.lt_of_lt_of_le Lg3 Sw7.2.2.size
  replace BE := BE.trans (Sw7.2.2.mono BE.size)
  refine wpL_assign (v := .string (bs (bytesN 32 (restS x)))) (by rfl) (by rfl) (by rfl) ?_
  simp only [putT, List.set]
  refine wpL_nil (no_panic ?_)
  refine hK5 _ _ ?_
  refine wp_ret ?_
  repeat (first | with_reducible refine then_ret ?_ | with_reducible refine inblock_ret ?_)
  refine bodyPost_ret (v := .string (bs (bytesN 32 (restS x)))) (res1 rfl (.tmp (by rfl))) rfl ?_
  exact ⟨rfl, BE⟩
set_option maxHeartbeats 2000000 in
theorem rparse04_c {l : List UInt8} {w : World} (hl : l.length ≤ 32) :
    Calls Try.prog 41 #[.string (bs l)] w fun e w' => e = .returned (.tuple #[fe (leN l), .bool (decide (leN l < pF))]) ∧ Below w.heap.size w w' := by
  have hlt : leN l < 2 ^ 256 := Nat.lt_of_lt_of_le (read_lt (n := 16) (by omega)) (by decide)
  have h16 : dlen (leN l) ≤ 16 := (dlen_le _ _).2 (read_lt (by omega))
  go_enter Try.func41, Try.ntmps41
  have BE := Below.refl w.heap.size w
  refine wp_seq_k (fun K1 hK1 => ?_)
  refine wp_region_plain 1 (by kernel_rfl) (fun Lk hLk => ?_)
  simp only [List.take, List.drop]
  refine wpV_alloc (by rfl) ?_
  refine wpV_nil (hLk.out _ ?_)
  clear hLk Lk
  simp only [List.take, List.drop]
  refine wpN_new (t := 34) (cs := ([.int .u64 0, .int .u64 0, .int .u64 0, .int .u64 0]).toArray) (by rfl) (fun W => ?_) (fun g3 Hg3 ng3 => ?_)
  · go_simp
  simp only [putT, List.set]
  refine wpN_nil (fun w4 Sw4 hbs => ?_)
  have Bg3 : Blk w4 g3 34 ([.int .u64 0, .int .u64 0, .int .u64 0, .int .u64 0]).toArray := hbs _ (List.mem_cons_self ..)
  clear hbs
  have Gg3 : w.heap.size ≤ g3 := Nat.le_trans BE.size Hg3
  replace BE := BE.trans (Sw4.2.2.mono BE.size)
  have Tg3 := blk_there Bg3 (n := 4) (by simp [flen])
  have Rg3_0 := blk_range Bg3 (l := [.int .u64 0, .int .u64 0, .int .u64 0, .int .u64 0]) rfl
  have Lg3 := Bg3.lt
  clear ng3 Bg3
  refine wpL_assign (v := .bool false) (by rfl) (by rfl) (by rfl) ?_
  simp only [putT, List.set]
  refine wpL_nil (no_panic ?_)
  refine hK1 _ _ ?_
  refine wp_seq_k (fun K5 hK5 => ?_)
  refine wp_region_seq ?_
  refine wpL_move (v := .string (bs l)) (by rfl) (by rfl) (by rfl) ?_
  simp only [putT, List.set]
  refine wpL_callE (f := 60) (args := #[.string (bs l)]) (R := NewRow w4 ((l.length + 1) / 2) (dl ((l.length + 1) / 2) (leN l))) (by rfl) (by rfl) rfl Try.func60 (by kernel_rfl) (by kernel_rfl) (read_c (by omega)) (fun v9 w8 hv9 Sw8 => ?_)
  obtain ⟨g7, g7c, rfl, Cg7, Hg7, Lg7, Rg7_0⟩ := hv9
  have Ng3_g7 : g3 ≠ g7 := Nat.ne_of_lt (Nat.lt_of_lt_of_le Lg3 Hg7)
  have Gg7 : w.heap.size ≤ g7 := Nat.le_trans BE.size Hg7
  replace Rg3_0 := range_sees Rg3_0 Lg3 Sw8
  replace Tg3 := there_sees Tg3 Lg3 Sw8
  replace Lg3 := Nat.lt_of_lt_of_le Lg3 Sw8.2.2.size
  replace BE := BE.trans (Sw8.2.2.mono BE.size)
  simp only [putT, List.set]
  refine wpL_chunk 1 (by rfl) (fun Lk hLk => ?_)
  simp only [List.take, List.drop]
  refine wpV_callf (v := .slice (some ⟨g7, 0, none⟩) (dlen (leN l)) g7c) (args := #[.slice (some ⟨g7, 0, none⟩) ((l.length + 1) / 2) g7c]) (by rfl) rfl Try.func57 (by kernel_rfl) (by kernel_rfl) rfl (fun W hW => trim_c (x := (leN l)) (by omega) (read_lt (by omega)) Cg7 (Nat.lt_of_lt_of_le Lg7 hW.2.2.size) (range_sees Rg7_0 Lg7 hW)) ?_
  simp only [putT, List.set]
  refine wpV_nil (hLk _ (fun w9 Sw9 => ?_))
  clear hLk Lk
  simp only [List.take, List.drop]
  replace Rg3_0 := range_sees Rg3_0 Lg3 Sw9
  replace Tg3 := there_sees Tg3 Lg3 Sw9
  replace Rg7_0 := range_sees Rg7_0 Lg7 Sw9
  replace Lg3 := Nat.lt_of_lt_of_le Lg3 Sw9.2.2.size
  replace Lg7 := Nat.lt_of_lt_of_le Lg7 Sw9.2.2.size
  replace BE := BE.trans (Sw9.2.2.mono BE.size)
  refine wpL_assign (v := .slice (some ⟨g7, 0, none⟩) (dlen (leN l)) g7c) (by rfl) (by rfl) (by rfl) ?_
  simp only [putT, List.set]
  refine wpL_nil (no_panic ?_)
  refine hK5 _ _ ?_
  refine wp_seq_k (fun K10 hK10 => ?_)
  refine wp_region_seq ?_
  refine wpL_move (v := .slice (some ⟨g7, 0, none⟩) (dlen (leN l)) g7c) (by rfl) (by rfl) (by rfl) ?_
  simp only [putT, List.set]
  refine wpL_chunk 1 (by rfl) (fun Lk hLk => ?_)
  simp only [List.take, List.drop]
  refine wpV_callf (v := fe (leN l)) (args := #[.slice (some ⟨g7, 0, none⟩) (dlen (leN l)) g7c]) (by rfl) rfl Try.func62 (by kernel_rfl) (by kernel_rfl) rfl (fun W hW => words_c (n := dlen (leN l)) (x := (leN l)) (by omega) (dlen_lt _) (Nat.le_trans ((dlen_le _ _).2 (read_lt (by omega))) Cg7) (Nat.lt_of_lt_of_le Lg7 hW.2.2.size) (range_sees (range_dl_take (m := dlen (leN l)) Rg7_0 ((dlen_le _ _).2 (read_lt (by omega)))) Lg7 hW)) ?_
  simp only [putT, List.set]
  refine wpV_nil (hLk _ (fun w12 Sw12 => ?_))
  clear hLk Lk
  simp only [List.take, List.drop]
  replace Rg3_0 := range_sees Rg3_0 Lg3 Sw12
  replace Tg3 := there_sees Tg3 Lg3 Sw12
  replace Rg7_0 := range_sees Rg7_0 Lg7 Sw12
  replace Lg3 := Nat.lt_of_lt_of_le Lg3 Sw12.2.2.size
  replace Lg7 := Nat.lt_of_lt_of_le Lg7 Sw12.2.2.size
  replace BE := BE.trans (Sw12.2.2.mono BE.size)
  refine wpL_move (v := .slice (some ⟨g7, 0, none⟩) (dlen (leN l)) g7c) (by rfl) (by rfl) (by rfl) ?_
  simp only [putT, List.set]
  refine wpL_callE (f := 56) (args := #[]) (R := NewRow w12 16 (dl 16 pF)) (by rfl) (by rfl) rfl Try.func56 (by kernel_rfl) (by kernel_rfl) (prime04_c) (fun v9 w14 hv9 Sw14 => ?_)
  obtain ⟨g13, g13c, rfl, Cg13, Hg13, Lg13, Rg13_0⟩ := hv9
  have Ng3_g13 : g3 ≠ g13 := Nat.ne_of_lt (Nat.lt_of_lt_of_le Lg3 Hg13)
  have Ng7_g13 : g7 ≠ g13 := Nat.ne_of_lt (Nat.lt_of_lt_of_le Lg7 Hg13)
  have Gg13 : w.heap.size ≤ g13 := Nat.le_trans BE.size Hg13
  replace Rg3_0 := range_sees Rg3_0 Lg3 Sw14
  replace Tg3 := there_sees Tg3 Lg3 Sw14
  replace Rg7_0 := range_sees Rg7_0 Lg7 Sw14
  replace Lg3 := Nat.lt_of_lt_of_le Lg3 Sw14.2.2.size
  replace Lg7 := Nat.lt_of_lt_of_le Lg7 Sw14.2.2.size
  replace BE := BE.trans (Sw14.2.2.mono BE.size)
  simp only [putT, List.set]
  refine wpL_chunk 1 (by rfl) (fun Lk hLk => ?_)
  simp only [List.take, List.drop]
  refine wpV_callf (v := .bool (decide ((leN l) < pF))) (args := #[.slice (some ⟨g7, 0, none⟩) (dlen (leN l)) g7c, .slice (some ⟨g13, 0, none⟩) 16 g13c]) (by rfl) rfl Try.func63 (by kernel_rfl) (by kernel_rfl) rfl (fun W hW => less_c (n := dlen (leN l)) (x := (leN l)) (m := 16) (y := pF) (by omega) rfl dlen_pF.symm (Nat.le_trans ((dlen_le _ _).2 (read_lt (by omega))) Cg7) (Nat.lt_of_lt_of_le Lg7 hW.2.2.size) (range_sees (range_dl_take (m := dlen (leN l)) Rg7_0 ((dlen_le _ _).2 (read_lt (by omega)))) Lg7 hW) Cg13 (Nat.lt_of_lt_of_le Lg13 hW.2.2.size) (range_sees Rg13_0 Lg13 hW)) ?_
  simp only [putT, List.set]
  refine wpV_nil (hLk _ (fun w15 Sw15 => ?_))
  clear hLk Lk
  simp only [List.take, List.drop]
  replace Rg3_0 := range_sees Rg3_0 Lg3 Sw15
  replace Tg3 := there_sees Tg3 Lg3 Sw15
  replace Rg7_0 := range_sees Rg7_0 Lg7 Sw15
  replace Rg13_0 := range_sees Rg13_0 Lg13 Sw15
  replace Lg3 := Nat.lt_of_lt_of_le Lg3 Sw15.2.2.size
  replace Lg7 := Nat.lt_of_lt_of_le Lg7 Sw15.2.2.size
  replace Lg13 := Nat.lt_of_lt_of_le Lg13 Sw15.2.2.size
  replace BE := BE.trans (Sw15.2.2.mono BE.size)
  refine wpL_store (g := g3) (off := 0) (n := 4) (cs := fel (leN l)) (by rfl) (by rfl) (by rfl) (by rfl) (by rfl) Tg3 (by simp [flen]) info34 (fel_one _) (fun w16 Pw16 RR TT => ?_)
  replace Rg7_0 := Pw16.range Rg7_0 (.inl (Ne.symm Ng3_g7))
  replace Rg13_0 := Pw16.range Rg13_0 (.inl (Ne.symm Ng3_g13))
  replace Rg3_0 := RR
  clear RR
  replace Tg3 := TT
  replace Lg3 := Pw16.lt Lg3
  replace Lg7 := Pw16.lt Lg7
  replace Lg13 := Pw16.lt Lg13
  replace BE := Pw16.below BE Gg3
  refine wpL_assign (v := .bool (decide ((leN l) < pF))) (by rfl) (by rfl) (by rfl) ?_
  simp only [putT, List.set]
  refine wpL_nil (no_panic ?_)
  refine hK10 _ _ ?_
  refine wp_ret ?_
  repeat (first | with_reducible refine then_ret ?_ | with_reducible refine inblock_ret ?_)
  refine bodyPost_ret (v := .tuple #[fe (leN l), .bool (decide ((leN l) < pF))]) (res2 rfl (.cell (by rfl) (run_loadVar_mid _ _ _ _ (fel (leN l)) _ Rg3_0 Try.underlying34 rfl info34)) (.tmp (by rfl))) rfl ?_
  exact ⟨rfl, BE⟩
set_option maxHeartbeats 2000000 in
theorem rwide05_c {l : List UInt8} {w : World} (hl : l.length ≤ 64) :
    Calls Try.prog 35 #[.string (bs l)] w fun e w' => e = .returned (fe (restS (leN l))) ∧ Below w.heap.size w w' := by
  go_enter Try.func35, Try.ntmps35
  have BE := Below.refl w.heap.size w
  refine wp_seq_k (fun K1 hK1 => ?_)
  refine wp_region_plain 1 (by kernel_rfl) (fun Lk hLk => ?_)
  simp only [List.take, List.drop]
  refine wpV_alloc (by rfl) ?_
  refine wpV_nil (hLk.out _ ?_)
  clear hLk Lk
  simp only [List.take, List.drop]
  refine wpN_new (t := 24) (cs := ([.int .u64 0, .int .u64 0, .int .u64 0, .int .u64 0]).toArray) (by rfl) (fun W => ?_) (fun g3 Hg3 ng3 => ?_)
  · go_simp
  simp only [putT, List.set]
  refine wpN_nil (fun w4 Sw4 hbs => ?_)
  have Bg3 : Blk w4 g3 24 ([.int .u64 0, .int .u64 0, .int .u64 0, .int .u64 0]).toArray := hbs _ (List.mem_cons_self ..)
  clear hbs
  have Gg3 : w.heap.size ≤ g3 := Nat.le_trans BE.size Hg3
  replace BE := BE.trans (Sw4.2.2.mono BE.size)
  have Tg3 := blk_there Bg3 (n := 4) (by simp [flen])
  have Rg3_0 := blk_range Bg3 (l := [.int .u64 0, .int .u64 0, .int .u64 0, .int .u64 0]) rfl
  have Lg3 := Bg3.lt
  clear ng3 Bg3
  refine wpL_nil (no_panic ?_)
  refine hK1 _ _ ?_
  refine wp_seq_k (fun K5 hK5 => ?_)
  refine wp_region_seq ?_
  refine wpL_move (v := .string (bs l)) (by rfl) (by rfl) (by rfl) ?_
  simp only [putT, List.set]
  refine wpL_callE (f := 60) (args := #[.string (bs l)]) (R := NewRow w4 ((l.length + 1) / 2) (dl ((l.length + 1) / 2) (leN l))) (by rfl) (by rfl) rfl Try.func60 (by kernel_rfl) (by kernel_rfl) (read_c (by omega)) (fun v9 w8 hv9 Sw8 => ?_)
  obtain ⟨g7, g7c, rfl, Cg7, Hg7, Lg7, Rg7_0⟩ := hv9
  have Ng3_g7 : g3 ≠ g7 := Nat.ne_of_lt (Nat.lt_of_lt_of_le Lg3 Hg7)
  have Gg7 : w.heap.size ≤ g7 := Nat.le_trans BE.size Hg7
  replace Rg3_0 := range_sees Rg3_0 Lg3 Sw8
  replace Tg3 := there_sees Tg3 Lg3 Sw8
  replace Lg3 := Nat.lt_of_lt_of_le Lg3 Sw8.2.2.size
  replace BE := BE.trans (Sw8.2.2.mono BE.size)
  simp only [putT, List.set]
  refine wpL_chunk 1 (by rfl) (fun Lk hLk => ?_)
  simp only [List.take, List.drop]
  refine wpV_callf (v := fe (restS (leN l))) (args := #[.slice (some ⟨g7, 0, none⟩) ((l.length + 1) / 2) g7c]) (by rfl) rfl Try.func46 (by kernel_rfl) (by kernel_rfl) rfl (fun W hW => left_c (n := (l.length + 1) / 2) (x := (leN l)) (by omega) (read_lt (by omega)) Cg7 (Nat.lt_of_lt_of_le Lg7 hW.2.2.size) (range_sees Rg7_0 Lg7 hW)) ?_
  simp only [putT, List.set]
  refine wpV_nil (hLk _ (fun w9 Sw9 => ?_))
  clear hLk Lk
  simp only [List.take, List.drop]
  replace Rg3_0 := range_sees Rg3_0 Lg3 Sw9
  replace Tg3 := there_sees Tg3 Lg3 Sw9
  replace Rg7_0 := range_sees Rg7_0 Lg7 Sw9
  replace Lg3 := Nat.lt_of_lt_of_le Lg3 Sw9.2.2.size
  replace Lg7 := Nat.lt_of_lt_of_le Lg7 Sw9.2.2.size
  replace BE := BE.trans (Sw9.2.2.mono BE.size)
  refine wpL_store (g := g3) (off := 0) (n := 4) (cs := fel (restS (leN l))) (by rfl) (by rfl) (by rfl) (by rfl) (by rfl) Tg3 (by simp [flen]) info24 (fel_one _) (fun w10 Pw10 RR TT => ?_)
  replace Rg7_0 := Pw10.range Rg7_0 (.inl (Ne.symm Ng3_g7))
  replace Rg3_0 := RR
  clear RR
  replace Tg3 := TT
  replace Lg3 := Pw10.lt Lg3
  replace Lg7 := Pw10.lt Lg7
  replace BE := Pw10.below BE Gg3
  refine wpL_nil (no_panic ?_)
  refine hK5 _ _ ?_
  refine wp_ret ?_
  repeat (first | with_reducible refine then_ret ?_ | with_reducible refine inblock_ret ?_)
  refine bodyPost_ret (v := fe (restS (leN l))) (res1 rfl (.cell (by rfl) (run_loadVar_mid _ _ _ _ (fel (restS (leN l))) _ Rg3_0 Try.underlying24 rfl info24))) rfl ?_
  exact ⟨rfl, BE⟩
set_option maxHeartbeats 2000000 in
theorem rbelow05_c {l : List UInt8} {w : World} (hl : l.length ≤ 64) :
    Calls Try.prog 36 #[.string (bs l)] w fun e w' => e = .returned (.bool (decide (bytesN 32 (restS (restS (leN l))) = l))) ∧ Below w.heap.size w w' := by
  go_enter Try.func36, Try.ntmps36
  have BE := Below.refl w.heap.size w
  refine wp_seq_k (fun K1 hK1 => ?_)
  refine wp_region_plain 0 (by kernel_rfl) (fun Lk hLk => ?_)
  simp only [List.take, List.drop]
  refine wpV_nil (hLk.out _ ?_)
  clear hLk Lk
  simp only [List.take, List.drop]
  refine wpN_nil (fun w3 Sw3 hbs => ?_)
  clear hbs
  replace BE := BE.trans (Sw3.2.2.mono BE.size)
  refine wpL_assign (v := .bool false) (by rfl) (by rfl) (by rfl) ?_
  simp only [putT, List.set]
  refine wpL_nil (no_panic ?_)
  refine hK1 _ _ ?_
  refine wp_seq_k (fun K4 hK4 => ?_)
  refine wp_region_plain 5 (by kernel_rfl) (fun Lk hLk => ?_)
  simp only [List.take, List.drop]
  refine wpV_move (v := .string (bs l)) (by rfl) rfl rfl ?_
  simp only [putT, List.set]
  refine wpV_callf (v := fe (restS (leN l))) (args := #[.string (bs l)]) (by rfl) rfl Try.func35 (by kernel_rfl) (by kernel_rfl) rfl (fun W hW => rwide05_c hl) ?_
  simp only [putT, List.set]
  refine wpV_callf (v := .string (bs (bytesN 32 (restS (restS (leN l)))))) (args := #[fe (restS (leN l))]) (by rfl) rfl Try.func34 (by kernel_rfl) (by kernel_rfl) rfl (fun W hW => rbytes05_c (restS_lt _)) ?_
  simp only [putT, List.set]
  refine wpV_move (v := .string (bs l)) (by rfl) rfl rfl ?_
  simp only [putT, List.set]
  refine wpV_binS (v := .bool (decide (bytesN 32 (restS (restS (leN l))) = l))) (by rfl) rfl rfl rfl (run_eql_bs _ _ _) ?_
  simp only [putT, List.set]
  refine wpV_nil (hLk.out _ ?_)
  clear hLk Lk
  simp only [List.take, List.drop]
  iterate 5 refine wpN_skip (by rfl) ?_
  refine wpN_nil (fun w6 Sw6 hbs => ?_)
  clear hbs
  replace BE := BE.trans (Sw6.2.2.mono BE.size)
  refine wpL_assign (v := .bool (decide (bytesN 32 (restS (restS (leN l))) = l))) (by rfl) (by rfl) (by rfl) ?_
  simp only [putT, List.set]
  refine wpL_nil (no_panic ?_)
  refine hK4 _ _ ?_
  refine wp_ret ?_
  repeat (first | with_reducible refine then_ret ?_ | with_reducible refine inblock_ret ?_)
  refine bodyPost_ret (v := .bool (decide (bytesN 32 (restS (restS (leN l))) = l))) (res1 rfl (.tmp (by rfl))) rfl ?_
  exact ⟨rfl, BE⟩
end Go.Proofs.Ya
