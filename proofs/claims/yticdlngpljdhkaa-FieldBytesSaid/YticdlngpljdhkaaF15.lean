import Derived.Test.YticdlngpljdhkaaF14
import Derived.Test.YticdlngpljdhkaaSteps7
set_option linter.unusedSimpArgs false
set_option linter.unusedVariables false
namespace Go.Proofs.Ya
open Go Go.RowKit Go.Shelf Go.Proofs.Num
set_option maxHeartbeats 1000000 in
theorem order05_c  {w : World}  :
    Calls Try.prog 67 #[] w fun e w' => ∃ v, e = .returned v ∧ NewRow w 16 (dl 16 ordL) v w' ∧ Below w.heap.size w w' := by
  go_enter Try.func67, Try.ntmps67
  have BE := Below.refl w.heap.size w
  refine wp_seq_k (fun K1 hK1 => ?_)
  refine wp_region_plain 0 (by kernel_rfl) (fun Lk hLk => ?_)
  simp only [List.take, List.drop]
  refine wpV_nil (hLk.out _ ?_)
  clear hLk Lk
  simp only [List.take, List.drop]
  refine wpN_nil (fun w3 Sw3 hbs => ?_)
  clear hbs
  replace BE := BE.trans (Sw3.2.2.mono BE.size)
  refine wpL_assign (v := (.slice none 0 0)) (by rfl) (by rfl) (by rfl) ?_
  simp only [putT, List.set]
  refine wpL_nil (no_panic ?_)
  refine hK1 _ _ ?_
  refine wp_seq_k (fun K4 hK4 => ?_)
  refine wp_region_seq ?_
  refine wpL_row0 (by rfl) (by rfl) Try.underlying60 info3 (fun g6 w7 Sw7 Hg6 Bg6 => ?_)
  have Gg6 : w.heap.size ≤ g6 := Nat.le_trans BE.size Hg6
  replace BE := BE.trans (Sw7.2.2.mono BE.size)
  have Tg6 := blk_there Bg6 (n := 0) (by rfl)
  have Rg6_0 := blk_range Bg6 (l := []) rfl
  rw [← dl_none] at Rg6_0
  have Lg6 := Bg6.lt
  clear Bg6
  simp only [putT, List.set]
  refine wpL_assign (v := .slice (some ⟨g6, 0, none⟩) 0 0) (by rfl) (by rfl) (by rfl) ?_
  simp only [putT, List.set]
  refine wpL_nil (no_panic ?_)
  refine hK4 _ _ ?_
  refine wp_seq_k (fun K8 hK8 => ?_)
  refine wp_seq_k (fun K9 hK9 => ?_)
  refine wp_region_seq ?_
  refine wpL_range (l := ordS) (by rfl) (by rfl) (by rfl) Try.underlying9 (fun g11 w12 Sw12 Hg11 Lg11 Ig11 => ?_)
  have Ng6_g11 : g6 ≠ g11 := Nat.ne_of_lt (Nat.lt_of_lt_of_le Lg6 Hg11)
  have Gg11 : w.heap.size ≤ g11 := Nat.le_trans BE.size Hg11
  replace Rg6_0 := range_sees Rg6_0 Lg6 Sw12
  replace Tg6 := there_sees Tg6 Lg6 Sw12
  replace Lg6 := Nat.lt_of_lt_of_le Lg6 Sw12.2.2.size
  replace BE := BE.trans (Sw12.2.2.mono BE.size)
  simp only [putT, List.set]
  refine wpL_nil (no_panic ?_)
  refine hK9 _ _ ?_
  refine wp_block ?_
  refine wp_loop_ghost (fun n9 a9 W9 => ∃ (i : Nat) (dn : Nat) (d : Nat) (gd : Nat) (gdc : Nat) (u13 : Nat → Value), n9 = 38 - i ∧ a9 = { tmps := #[(.slice none 0 0), .slice (some ⟨gd, 0, none⟩) dn gdc, undef, u13 3, undef, .slice (some ⟨g6, 0, none⟩) 0 0, .pointer (some ⟨g11, 0, none⟩), u13 7, u13 8, u13 9, u13 10, u13 11, u13 12, u13 13, u13 14, u13 15, u13 16, u13 17, undef, undef, undef, undef, undef, undef], defers := [] } ∧ Below w.heap.size w W9 ∧ Iter W9 g11 ordS i ∧ g11 < W9.heap.size ∧ World.rangeAt W9 gd 0 (dl dn d) ∧ gd < W9.heap.size ∧ dn ≤ gdc ∧ w.heap.size ≤ gd ∧ g11 ≠ gd ∧ (i ≤ 38) ∧ (dn = dlen d) ∧ (d = decN i)) (38 - (0)) ?_ (fun n9 a9 W9 hI => ?_)
  · exact ⟨0, 0, 0, g6, 0, (fun q9 => (#[undef, undef, undef, undef, undef, undef, undef, undef, undef, undef, undef, undef, undef, undef, undef, undef, undef, undef] : Array Value).getD q9 undef), rfl, rfl, BE, Ig11, Lg11, (show World.rangeAt _ _ _ [] from Rg6_0), Lg6, (Nat.le_refl _), Gg6, (Ne.symm Ng6_g11), (by omega), dlen_zero.symm, rfl⟩
  clear BE Rg6_0 Tg6 Ig11 Lg6 Lg11
  obtain ⟨i, dn, d, gd, gdc, u13, rfl, rfl, BE, Ig11, Lg11, Rgd_0, Lgd, Cgd, Ggd, Ng11_gd, hi4, hdn, hd⟩ := hI
  obtain ⟨w14, rfl⟩ : ∃ W8, W8 = W9 := ⟨_, rfl⟩
  have hdl0 := dec_len hi4
  rw [← hd, ← hdn] at hdl0
  refine wp_seq_k (fun K15 hK15 => ?_)
  by_cases hi : i < 38
  · skip
    obtain ⟨hb1, hb2, hdec⟩ := dec_step i hi
    rw [← hd] at hdec
    have hdl := dec_len (i := i + 1) hi
    have hdl2 : dlen (d * 10) ≤ 8 := Nat.le_trans (dlen_mono (by omega)) hdl
    refine wp_region_seq ?_
    refine wpL_next (by rfl) (by rfl) (by rfl) Ig11 hi (by omega) (fun w17 Sw17 Inew => ?_)
    replace Rgd_0 := Sw17.range Rgd_0 (Ne.symm Ng11_gd) Lgd
    replace Lg11 := Sw17.lt Lg11
    replace Lgd := Sw17.lt Lgd
    replace BE := Sw17.below BE (Nat.le_refl _) Gg11
    replace Ig11 := Inew
    clear Inew
    simp only [putT, List.set]
    refine wpL_chunk 1 (by rfl) (fun Lk hLk => ?_)
    simp only [List.take, List.drop]
    refine wpV_extract (v := .bool true) (by rfl) rfl rfl rfl ?_
    simp only [putT, List.set]
    refine wpV_nil (hLk _ (fun w18 Sw18 => ?_))
    clear hLk Lk
    simp only [List.take, List.drop]
    replace Ig11 := Ig11.sees Lg11 Sw18
    replace Rgd_0 := range_sees Rgd_0 Lgd Sw18
    replace Lg11 := Nat.lt_of_lt_of_le Lg11 Sw18.2.2.size
    replace Lgd := Nat.lt_of_lt_of_le Lgd Sw18.2.2.size
    replace BE := BE.trans (Sw18.2.2.mono BE.size)
    refine wpL_nil (no_panic ?_)
    refine hK15 _ _ ?_
    refine wp_seq_k (fun K19 hK19 => ?_)
    refine wp_cond_true rfl ?_
    refine wp_skip ?_
    refine hK19 _ _ ?_
    refine wp_block ?_
    refine wp_seq_k (fun K20 hK20 => ?_)
    refine wp_region_plain 1 (by kernel_rfl) (fun Lk hLk => ?_)
    simp only [List.take, List.drop]
    refine wpV_extract (v := .int .i32 ((byteN ordS i : Nat) : Int)) (by rfl) rfl rfl rfl ?_
    simp only [putT, List.set]
    refine wpV_nil (hLk.out _ ?_)
    clear hLk Lk
    simp only [List.take, List.drop]
    iterate 1 refine wpN_skip (by rfl) ?_
    refine wpN_nil (fun w22 Sw22 hbs => ?_)
    clear hbs
    replace Ig11 := Ig11.sees Lg11 Sw22
    replace Rgd_0 := range_sees Rgd_0 Lgd Sw22
    replace Lg11 := Nat.lt_of_lt_of_le Lg11 Sw22.2.2.size
    replace Lgd := Nat.lt_of_lt_of_le Lgd Sw22.2.2.size
    replace BE := BE.trans (Sw22.2.2.mono BE.size)
    refine wpL_assign (v := .int .i32 ((byteN ordS i : Nat) : Int)) (by rfl) (by rfl) (by rfl) ?_
    simp only [putT, List.set]
    refine wpL_nil (no_panic ?_)
    refine hK20 _ _ ?_
    refine wp_region_seq ?_
    refine wpL_move (v := .slice (some ⟨gd, 0, none⟩) dn gdc) (by rfl) (by rfl) (by rfl) ?_
    simp only [putT, List.set]
    refine wpL_row1 (z := .int .i64 0) (bytes := 8) (n := 10) (by rfl) (by rfl) (by rfl) Try.underlying60 (by kernel_rfl) rfl (fun g24 w25 Sw25 Hg24 Bg24 => ?_)
    have Ng11_g24 : g11 ≠ g24 := Nat.ne_of_lt (Nat.lt_of_lt_of_le Lg11 Hg24)
    have Ngd_g24 : gd ≠ g24 := Nat.ne_of_lt (Nat.lt_of_lt_of_le Lgd Hg24)
    have Gg24 : w.heap.size ≤ g24 := Nat.le_trans BE.size Hg24
    replace Ig11 := Ig11.sees Lg11 Sw25
    replace Rgd_0 := range_sees Rgd_0 Lgd Sw25
    replace Lg11 := Nat.lt_of_lt_of_le Lg11 Sw25.2.2.size
    replace Lgd := Nat.lt_of_lt_of_le Lgd Sw25.2.2.size
    replace BE := BE.trans (Sw25.2.2.mono BE.size)
    have Tg24 := blk_there Bg24 (n := 1) (by rfl)
    have Rg24_0 := blk_range Bg24 (l := [.int .i64 10]) rfl
    replace Rg24_0 : World.rangeAt w25 g24 0 (dl 1 10) := by rw [dl_one (v := 10) (by decide)]; exact Rg24_0
    have Lg24 := Bg24.lt
    clear Bg24
    simp only [putT, List.set]
    refine wpL_callE (f := 49) (args := #[.slice (some ⟨gd, 0, none⟩) dn gdc, .slice (some ⟨g24, 0, none⟩) 1 1]) (R := NewRow w25 (dlen (d * 10)) (dl (dlen (d * 10)) (d * 10))) (by rfl) (by rfl) rfl Try.func49 (by kernel_rfl) (by kernel_rfl) (times04_c (n := dn) (x := d) (m := 1) (y := 10) (by omega) (by omega) (hdn ▸ dlen_lt _) (by decide) Cgd Lgd Rgd_0 (Nat.le_refl _) Lg24 Rg24_0) (fun v9 w27 hv9 Sw27 => ?_)
    obtain ⟨g26, g26c, rfl, Cg26, Hg26, Lg26, Rg26_0⟩ := hv9
    have Ng11_g26 : g11 ≠ g26 := Nat.ne_of_lt (Nat.lt_of_lt_of_le Lg11 Hg26)
    have Ngd_g26 : gd ≠ g26 := Nat.ne_of_lt (Nat.lt_of_lt_of_le Lgd Hg26)
    have Ng24_g26 : g24 ≠ g26 := Nat.ne_of_lt (Nat.lt_of_lt_of_le Lg24 Hg26)
    have Gg26 : w.heap.size ≤ g26 := Nat.le_trans BE.size Hg26
    replace Ig11 := Ig11.sees Lg11 Sw27
    replace Rgd_0 := range_sees Rgd_0 Lgd Sw27
    replace Rg24_0 := range_sees Rg24_0 Lg24 Sw27
    replace Tg24 := there_sees Tg24 Lg24 Sw27
    replace Lg11 := Nat.lt_of_lt_of_le Lg11 Sw27.2.2.size
    replace Lgd := Nat.lt_of_lt_of_le Lgd Sw27.2.2.size
    replace Lg24 := Nat.lt_of_lt_of_le Lg24 Sw27.2.2.size
    replace BE := BE.trans (Sw27.2.2.mono BE.size)
    simp only [putT, List.set]
    refine wpL_move (v := .int .i32 ((byteN ordS i : Nat) : Int)) (by rfl) (by rfl) (by rfl) ?_
    simp only [putT, List.set]
    refine wpL_chunk 2 (by rfl) (fun Lk hLk => ?_)
    simp only [List.take, List.drop]
    refine wpV_bin (v := .int .i32 ((byteN ordS i - 48 : Nat) : Int)) (by rfl) rfl rfl rfl (fun W => run_sub (by simp [IntKind.wrap, IntKind.bits, IntKind.signed]; omega) W) ?_
    simp only [putT, List.set]
    refine wpV_conv (d := .bool) (e := ((byteN ordS i - 48 : Nat) : Int)) (by rfl) rfl rfl (run_conv_int Try.underlying21 Try.underlying3 (by simp only [IntKind.wrap_i64]; omega)) ?_
    simp only [putT, List.set]
    refine wpV_nil (hLk _ (fun w28 Sw28 => ?_))
    clear hLk Lk
    simp only [List.take, List.drop]
    replace Ig11 := Ig11.sees Lg11 Sw28
    replace Rgd_0 := range_sees Rgd_0 Lgd Sw28
    replace Rg24_0 := range_sees Rg24_0 Lg24 Sw28
    replace Tg24 := there_sees Tg24 Lg24 Sw28
    replace Rg26_0 := range_sees Rg26_0 Lg26 Sw28
    replace Lg11 := Nat.lt_of_lt_of_le Lg11 Sw28.2.2.size
    replace Lgd := Nat.lt_of_lt_of_le Lgd Sw28.2.2.size
    replace Lg24 := Nat.lt_of_lt_of_le Lg24 Sw28.2.2.size
    replace Lg26 := Nat.lt_of_lt_of_le Lg26 Sw28.2.2.size
    replace BE := BE.trans (Sw28.2.2.mono BE.size)
    refine wpL_row1 (z := .int .i64 0) (bytes := 8) (n := ((byteN ordS i - 48 : Nat) : Int)) (by rfl) (by rfl) (by rfl) Try.underlying60 (by kernel_rfl) rfl (fun g29 w30 Sw30 Hg29 Bg29 => ?_)
    have Ng11_g29 : g11 ≠ g29 := Nat.ne_of_lt (Nat.lt_of_lt_of_le Lg11 Hg29)
    have Ngd_g29 : gd ≠ g29 := Nat.ne_of_lt (Nat.lt_of_lt_of_le Lgd Hg29)
    have Ng24_g29 : g24 ≠ g29 := Nat.ne_of_lt (Nat.lt_of_lt_of_le Lg24 Hg29)
    have Ng26_g29 : g26 ≠ g29 := Nat.ne_of_lt (Nat.lt_of_lt_of_le Lg26 Hg29)
    have Gg29 : w.heap.size ≤ g29 := Nat.le_trans BE.size Hg29
    replace Ig11 := Ig11.sees Lg11 Sw30
    replace Rgd_0 := range_sees Rgd_0 Lgd Sw30
    replace Rg24_0 := range_sees Rg24_0 Lg24 Sw30
    replace Tg24 := there_sees Tg24 Lg24 Sw30
    replace Rg26_0 := range_sees Rg26_0 Lg26 Sw30
    replace Lg11 := Nat.lt_of_lt_of_le Lg11 Sw30.2.2.size
    replace Lgd := Nat.lt_of_lt_of_le Lgd Sw30.2.2.size
    replace Lg24 := Nat.lt_of_lt_of_le Lg24 Sw30.2.2.size
    replace Lg26 := Nat.lt_of_lt_of_le Lg26 Sw30.2.2.size
    replace BE := BE.trans (Sw30.2.2.mono BE.size)
    have Tg29 := blk_there Bg29 (n := 1) (by rfl)
    have Rg29_0 := blk_range Bg29 (l := [.int .i64 ((byteN ordS i - 48 : Nat) : Int)]) rfl
    replace Rg29_0 : World.rangeAt w30 g29 0 (dl 1 (byteN ordS i - 48)) := by rw [dl_one (v := byteN ordS i - 48) (by omega)]; exact Rg29_0
    have Lg29 := Bg29.lt
    clear Bg29
    simp only [putT, List.set]
    refine wpL_callE (f := 48) (args := #[.slice (some ⟨g26, 0, none⟩) (dlen (d * 10)) g26c, .slice (some ⟨g29, 0, none⟩) 1 1]) (R := NewRow w30 (dlen ((d * 10) + (byteN ordS i - 48))) (dl (dlen ((d * 10) + (byteN ordS i - 48))) ((d * 10) + (byteN ordS i - 48)))) (by rfl) (by rfl) rfl Try.func48 (by kernel_rfl) (by kernel_rfl) (plus04_c (n := dlen (d * 10)) (x := (d * 10)) (m := 1) (y := (byteN ordS i - 48)) (by omega) (by omega) (dlen_lt _) (show _ < 65536 ^ 1 by omega) Cg26 Lg26 Rg26_0 (Nat.le_refl _) Lg29 Rg29_0) (fun v9 w32 hv9 Sw32 => ?_)
    obtain ⟨g31, g31c, rfl, Cg31, Hg31, Lg31, Rg31_0⟩ := hv9
    have Ng11_g31 : g11 ≠ g31 := Nat.ne_of_lt (Nat.lt_of_lt_of_le Lg11 Hg31)
    have Ngd_g31 : gd ≠ g31 := Nat.ne_of_lt (Nat.lt_of_lt_of_le Lgd Hg31)
    have Ng24_g31 : g24 ≠ g31 := Nat.ne_of_lt (Nat.lt_of_lt_of_le Lg24 Hg31)
    have Ng26_g31 : g26 ≠ g31 := Nat.ne_of_lt (Nat.lt_of_lt_of_le Lg26 Hg31)
    have Ng29_g31 : g29 ≠ g31 := Nat.ne_of_lt (Nat.lt_of_lt_of_le Lg29 Hg31)
    have Gg31 : w.heap.size ≤ g31 := Nat.le_trans BE.size Hg31
    replace Ig11 := Ig11.sees Lg11 Sw32
    replace Rgd_0 := range_sees Rgd_0 Lgd Sw32
    replace Rg24_0 := range_sees Rg24_0 Lg24 Sw32
    replace Tg24 := there_sees Tg24 Lg24 Sw32
    replace Rg26_0 := range_sees Rg26_0 Lg26 Sw32
    replace Rg29_0 := range_sees Rg29_0 Lg29 Sw32
    replace Tg29 := there_sees Tg29 Lg29 Sw32
    replace Lg11 := Nat.lt_of_lt_of_le Lg11 Sw32.2.2.size
    replace Lgd := Nat.lt_of_lt_of_le Lgd Sw32.2.2.size
    replace Lg24 := Nat.lt_of_lt_of_le Lg24 Sw32.2.2.size
    replace Lg26 := Nat.lt_of_lt_of_le Lg26 Sw32.2.2.size
    replace Lg29 := Nat.lt_of_lt_of_le Lg29 Sw32.2.2.size
    replace BE := BE.trans (Sw32.2.2.mono BE.size)
    simp only [putT, List.set]
    refine wpL_assign (v := .slice (some ⟨g31, 0, none⟩) (dlen ((d * 10) + (byteN ordS i - 48))) g31c) (by rfl) (by rfl) (by rfl) ?_
    simp only [putT, List.set]
    refine wpL_nil (no_panic ?_)
    refine Exists.intro _ ⟨?_, (i + 1), (dlen (d * 10 + (byteN ordS i - 48))), (d * 10 + (byteN ordS i - 48)), g31, g31c, (fun q9 => (#[undef, undef, undef, .int .i32 ((byteN ordS i : Nat) : Int), undef, undef, undef, .tuple #[.bool true, .int .i64 ((i : Nat) : Int), .int .i32 ((byteN ordS i : Nat) : Int)], .bool true, .int .i32 ((byteN ordS i : Nat) : Int), .slice (some ⟨gd, 0, none⟩) dn gdc, .slice (some ⟨g24, 0, none⟩) 1 1, .slice (some ⟨g26, 0, none⟩) (dlen (d * 10)) g26c, .int .i32 ((byteN ordS i : Nat) : Int), .int .i32 ((byteN ordS i - 48 : Nat) : Int), .int .i64 ((byteN ordS i - 48 : Nat) : Int), .slice (some ⟨g29, 0, none⟩) 1 1, .slice (some ⟨g31, 0, none⟩) (dlen ((d * 10) + (byteN ordS i - 48))) g31c] : Array Value).getD q9 undef), rfl, rfl, BE, Ig11, Lg11, Rg31_0, Lg31, Cg31, Gg31, Ng11_g31, (by omega), rfl, hdec⟩
    omega
  · skip
    have ei : i = 38 := by omega
    subst ei
    refine wp_region_seq ?_
    refine wpL_over (by rfl) (by rfl) (by rfl) Ig11 (by decide) ?_
    simp only [putT, List.set]
    refine wpL_chunk 1 (by rfl) (fun Lk hLk => ?_)
    simp only [List.take, List.drop]
    refine wpV_extract (v := .bool false) (by rfl) rfl rfl rfl ?_
    simp only [putT, List.set]
    refine wpV_nil (hLk _ (fun w34 Sw34 => ?_))
    clear hLk Lk
    simp only [List.take, List.drop]
    replace Ig11 := Ig11.sees Lg11 Sw34
    replace Rgd_0 := range_sees Rgd_0 Lgd Sw34
    replace Lg11 := Nat.lt_of_lt_of_le Lg11 Sw34.2.2.size
    replace Lgd := Nat.lt_of_lt_of_le Lgd Sw34.2.2.size
    replace BE := BE.trans (Sw34.2.2.mono BE.size)
    refine wpL_nil (no_panic ?_)
    refine hK15 _ _ ?_
    refine wp_seq_k (fun K35 hK35 => ?_)
    refine wp_cond_false rfl ?_
    refine wp_exit ?_
    refine hK8 _ _ ?_
    refine wp_seq_k (fun K36 hK36 => ?_)
    refine wp_region_plain 0 (by kernel_rfl) (fun Lk hLk => ?_)
    simp only [List.take, List.drop]
    refine wpV_nil (hLk.out _ ?_)
    clear hLk Lk
    simp only [List.take, List.drop]
    refine wpN_nil (fun w38 Sw38 hbs => ?_)
    clear hbs
    replace Ig11 := Ig11.sees Lg11 Sw38
    replace Rgd_0 := range_sees Rgd_0 Lgd Sw38
    replace Lg11 := Nat.lt_of_lt_of_le Lg11 Sw38.2.2.size
    replace Lgd := Nat.lt_of_lt_of_le Lgd Sw38.2.2.size
    replace BE := BE.trans (Sw38.2.2.mono BE.size)
    refine wpL_make (n := 16) (z := .int .i64 0) (bytes := 8) (by rfl) (by rfl) (by rfl) (by rfl) Try.underlying60 (by kernel_rfl) rfl (by decide) (by decide) (fun g39 w40 Sw40 Hg39 Bg39 => ?_)
    have Ng11_g39 : g11 ≠ g39 := Nat.ne_of_lt (Nat.lt_of_lt_of_le Lg11 Hg39)
    have Ngd_g39 : gd ≠ g39 := Nat.ne_of_lt (Nat.lt_of_lt_of_le Lgd Hg39)
    have Gg39 : w.heap.size ≤ g39 := Nat.le_trans BE.size Hg39
    replace Ig11 := Ig11.sees Lg11 Sw40
    replace Rgd_0 := range_sees Rgd_0 Lgd Sw40
    replace Lg11 := Nat.lt_of_lt_of_le Lg11 Sw40.2.2.size
    replace Lgd := Nat.lt_of_lt_of_le Lgd Sw40.2.2.size
    replace BE := BE.trans (Sw40.2.2.mono BE.size)
    have Tg39 := blk_there Bg39 (n := 16) (by simp)
    have Rg39_0 := blk_range Bg39 (l := List.replicate 16 (.int .i64 0)) rfl
    have Lg39 := Bg39.lt
    clear Bg39
    simp only [putT, List.set]
    refine wpL_assign (v := .slice (some ⟨g39, 0, none⟩) 16 16) (by rfl) (by rfl) (by rfl) ?_
    simp only [putT, List.set]
    refine wpL_nil (no_panic ?_)
    refine hK36 _ _ ?_
    refine wp_seq_k (fun K41 hK41 => ?_)
    have R9 : World.rangeAt w40 g39 0 ([.int .i64 0, .int .i64 0, .int .i64 0, .int .i64 0, .int .i64 0, .int .i64 0, .int .i64 0, .int .i64 0, .int .i64 0, .int .i64 0, .int .i64 0, .int .i64 0, .int .i64 0, .int .i64 0, .int .i64 0, .int .i64 0]) := Rg39_0
    clear Rg39_0
    have Rg39_0 := R9
    clear R9
    refine wp_region_plain 2 (by kernel_rfl) (fun Lk hLk => ?_)
    simp only [List.take, List.drop]
    refine wpV_move (v := .slice (some ⟨g39, 0, none⟩) 16 16) (by rfl) rfl rfl ?_
    simp only [putT, List.set]
    refine wpV_idxs (n := 15) (by rfl) rfl rfl rfl Try.underlying60 info3 (by omega) ?_
    simp only [Nat.zero_add]
    simp only [putT, List.set]
    refine wpV_nil (hLk.out _ ?_)
    clear hLk Lk
    simp only [List.take, List.drop]
    iterate 2 refine wpN_skip (by rfl) ?_
    refine wpN_nil (fun w43 Sw43 hbs => ?_)
    clear hbs
    replace Ig11 := Ig11.sees Lg11 Sw43
    replace Rgd_0 := range_sees Rgd_0 Lgd Sw43
    replace Rg39_0 := range_sees Rg39_0 Lg39 Sw43
    replace Tg39 := there_sees Tg39 Lg39 Sw43
    replace Lg11 := Nat.lt_of_lt_of_le Lg11 Sw43.2.2.size
    replace Lgd := Nat.lt_of_lt_of_le Lgd Sw43.2.2.size
    replace Lg39 := Nat.lt_of_lt_of_le Lg39 Sw43.2.2.size
    replace BE := BE.trans (Sw43.2.2.mono BE.size)
    refine wpL_store1 (g := g39) (off := 15) (n := 16) (v := .int .i64 4096) (by rfl) (by rfl) (by rfl) (by rfl) (by rfl) Tg39 (by omega) info3 rfl (fun w44 Pw44 RR TT => ?_)
    replace Ig11 := Ig11.puts Pw44 Ng11_g39
    replace Rgd_0 := Pw44.range Rgd_0 (.inl Ngd_g39)
    replace Rg39_0 := range_set Rg39_0 Pw44 RR
    clear RR
    replace Tg39 := TT
    replace Lg11 := Pw44.lt Lg11
    replace Lgd := Pw44.lt Lgd
    replace Lg39 := Pw44.lt Lg39
    replace BE := Pw44.below BE Gg39
    refine wpL_nil (no_panic ?_)
    refine hK41 _ _ ?_
    refine wp_seq_k (fun K45 hK45 => ?_)
    have R9 : World.rangeAt w44 g39 0 (dl 16 7237005577332262213973186563042994240829374041602535252466099000494570602496) := by rw [show dl 16 7237005577332262213973186563042994240829374041602535252466099000494570602496 = [.int .i64 0, .int .i64 0, .int .i64 0, .int .i64 0, .int .i64 0, .int .i64 0, .int .i64 0, .int .i64 0, .int .i64 0, .int .i64 0, .int .i64 0, .int .i64 0, .int .i64 0, .int .i64 0, .int .i64 0, .int .i64 4096] by kernel_rfl]; exact Rg39_0
    clear Rg39_0
    have Rg39_0 := R9
    clear R9
    refine wp_region_seq ?_
    refine wpL_move (v := .slice (some ⟨gd, 0, none⟩) dn gdc) (by rfl) (by rfl) (by rfl) ?_
    simp only [putT, List.set]
    refine wpL_move (v := .slice (some ⟨g39, 0, none⟩) 16 16) (by rfl) (by rfl) (by rfl) ?_
    simp only [putT, List.set]
    refine wpL_callE (f := 48) (args := #[.slice (some ⟨gd, 0, none⟩) dn gdc, .slice (some ⟨g39, 0, none⟩) 16 16]) (R := NewRow w44 (dlen (d + 7237005577332262213973186563042994240829374041602535252466099000494570602496)) (dl (dlen (d + 7237005577332262213973186563042994240829374041602535252466099000494570602496)) (d + 7237005577332262213973186563042994240829374041602535252466099000494570602496))) (by rfl) (by rfl) rfl Try.func48 (by kernel_rfl) (by kernel_rfl) (plus04_c (n := dn) (x := d) (m := 16) (y := 7237005577332262213973186563042994240829374041602535252466099000494570602496) (by omega) (by omega) (hdn ▸ dlen_lt _) (by decide) Cgd Lgd Rgd_0 (Nat.le_refl _) Lg39 Rg39_0) (fun v9 w48 hv9 Sw48 => ?_)
    obtain ⟨g47, g47c, rfl, Cg47, Hg47, Lg47, Rg47_0⟩ := hv9
    have Ng11_g47 : g11 ≠ g47 := Nat.ne_of_lt (Nat.lt_of_lt_of_le Lg11 Hg47)
    have Ngd_g47 : gd ≠ g47 := Nat.ne_of_lt (Nat.lt_of_lt_of_le Lgd Hg47)
    have Ng39_g47 : g39 ≠ g47 := Nat.ne_of_lt (Nat.lt_of_lt_of_le Lg39 Hg47)
    have Gg47 : w.heap.size ≤ g47 := Nat.le_trans BE.size Hg47
    replace Ig11 := Ig11.sees Lg11 Sw48
    replace Rgd_0 := range_sees Rgd_0 Lgd Sw48
    replace Rg39_0 := range_sees Rg39_0 Lg39 Sw48
    replace Tg39 := there_sees Tg39 Lg39 Sw48
    replace Lg11 := Nat.lt_of_lt_of_le Lg11 Sw48.2.2.size
    replace Lgd := Nat.lt_of_lt_of_le Lgd Sw48.2.2.size
    replace Lg39 := Nat.lt_of_lt_of_le Lg39 Sw48.2.2.size
    replace BE := BE.trans (Sw48.2.2.mono BE.size)
    simp only [putT, List.set]
    refine wpL_assign (v := .slice (some ⟨g47, 0, none⟩) (dlen (d + 7237005577332262213973186563042994240829374041602535252466099000494570602496)) g47c) (by rfl) (by rfl) (by rfl) ?_
    simp only [putT, List.set]
    refine wpL_nil (no_panic ?_)
    refine hK45 _ _ ?_
    refine wp_ret ?_
    repeat (first | with_reducible refine then_ret ?_ | with_reducible refine inblock_ret ?_)
    refine bodyPost_ret (v := .slice (some ⟨g47, 0, none⟩) (dlen (d + 7237005577332262213973186563042994240829374041602535252466099000494570602496)) g47c) (res1 rfl (.tmp (by rfl))) rfl ?_
    have eO := dec_end
    rw [← hd] at eO
    have eD := dlen_ordL
    rw [← eO] at eD ⊢
    rw [← eD]
    exact ⟨_, rfl, ⟨g47, g47c, rfl, Cg47, Gg47, Lg47, Rg47_0⟩, BE⟩
end Go.Proofs.Ya
