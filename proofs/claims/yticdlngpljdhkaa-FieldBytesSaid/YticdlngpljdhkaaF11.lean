import Derived.Test.YticdlngpljdhkaaF10
import Derived.Test.YticdlngpljdhkaaNumI
set_option linter.unusedSimpArgs false
set_option linter.unusedVariables false
namespace Go.Proofs.Ya
open Go Go.RowKit Go.Shelf Go.Proofs.Num
set_option maxHeartbeats 1000000 in
theorem carry_c {n x g cg : Nat} {f : Nat → Nat} {w : World} (hn : n ≤ 10000) (hf : ∀ i, i < n → f i ≤ 2305843009213693952) (hx : valN n f = x) (hcg : n ≤ cg) (Lg : g < w.heap.size) (Rg_0 : w.rangeAt g 0 (nl n f)) :
    Calls Try.prog 68 #[.slice (some ⟨g, 0, none⟩) n cg] w fun e w' => ∃ v, e = .returned v ∧ NewRow w (dlen x) (dl (dlen x) x) v w' ∧ Below w.heap.size w w' := by
  go_enter Try.func68, Try.ntmps68
  have BE := Below.refl w.heap.size w
  refine wp_seq_k (fun K1 hK1 => ?_)
  refine wp_region_plain 0 (by kernel_rfl) (fun Lk hLk => ?_)
  simp only [List.take, List.drop]
  refine wpV_nil (hLk.out _ ?_)
  clear hLk Lk
  simp only [List.take, List.drop]
  refine wpN_nil (fun w3 Sw3 hbs => ?_)
  clear hbs
  replace Rg_0 := range_sees Rg_0 Lg Sw3
  replace Lg := Nat.lt_of_lt_of_le Lg Sw3.2.2.size
  replace BE := BE.trans (Sw3.2.2.mono BE.size)
  refine wpL_assign (v := (.slice none 0 0)) (by rfl) (by rfl) (by rfl) ?_
  simp only [putT, List.set]
  refine wpL_nil (no_panic ?_)
  refine hK1 _ _ ?_
  refine wp_seq_k (fun K4 hK4 => ?_)
  refine wp_region_plain 3 (by kernel_rfl) (fun Lk hLk => ?_)
  simp only [List.take, List.drop]
  refine wpV_move (v := .slice (some ⟨g, 0, none⟩) n cg) (by rfl) rfl rfl ?_
  simp only [putT, List.set]
  refine wpV_lenA (n := n) (by rfl) rfl rfl rfl Try.underlying60 ?_
  simp only [putT, List.set]
  refine wpV_bin (v := .int .i64 ((n + 4 : Nat) : Int)) (by rfl) rfl rfl rfl (fun W => run_add (by simp only [IntKind.wrap_i64]; omega) W) ?_
  simp only [putT, List.set]
  refine wpV_nil (hLk.out _ ?_)
  clear hLk Lk
  simp only [List.take, List.drop]
  iterate 3 refine wpN_skip (by rfl) ?_
  refine wpN_nil (fun w6 Sw6 hbs => ?_)
  clear hbs
  replace Rg_0 := range_sees Rg_0 Lg Sw6
  replace Lg := Nat.lt_of_lt_of_le Lg Sw6.2.2.size
  replace BE := BE.trans (Sw6.2.2.mono BE.size)
  refine wpL_make (n := n + 4) (z := .int .i64 0) (bytes := 8) (by rfl) (by rfl) (by rfl) (by rfl) Try.underlying60 (by kernel_rfl) rfl (by omega) (by omega) (fun g7 w8 Sw8 Hg7 Bg7 => ?_)
  have Ng_g7 : g ≠ g7 := Nat.ne_of_lt (Nat.lt_of_lt_of_le Lg Hg7)
  have Gg7 : w.heap.size ≤ g7 := Nat.le_trans BE.size Hg7
  replace Rg_0 := range_sees Rg_0 Lg Sw8
  replace Lg := Nat.lt_of_lt_of_le Lg Sw8.2.2.size
  replace BE := BE.trans (Sw8.2.2.mono BE.size)
  have Tg7 := blk_there Bg7 (n := n + 4) (by simp)
  have Rg7_0 := blk_range Bg7 (l := List.replicate (n + 4) (.int .i64 0)) rfl
  rw [← dl_zero] at Rg7_0
  have Lg7 := Bg7.lt
  clear Bg7
  simp only [putT, List.set]
  refine wpL_assign (v := .slice (some ⟨g7, 0, none⟩) (n + 4) (n + 4)) (by rfl) (by rfl) (by rfl) ?_
  simp only [putT, List.set]
  refine wpL_nil (no_panic ?_)
  refine hK4 _ _ ?_
  refine wp_seq_k (fun K9 hK9 => ?_)
  refine wp_region_plain 0 (by kernel_rfl) (fun Lk hLk => ?_)
  simp only [List.take, List.drop]
  refine wpV_nil (hLk.out _ ?_)
  clear hLk Lk
  simp only [List.take, List.drop]
  refine wpN_nil (fun w11 Sw11 hbs => ?_)
  clear hbs
  replace Rg_0 := range_sees Rg_0 Lg Sw11
  replace Rg7_0 := range_sees Rg7_0 Lg7 Sw11
  replace Tg7 := there_sees Tg7 Lg7 Sw11
  replace Lg := Nat.lt_of_lt_of_le Lg Sw11.2.2.size
  replace Lg7 := Nat.lt_of_lt_of_le Lg7 Sw11.2.2.size
  replace BE := BE.trans (Sw11.2.2.mono BE.size)
  refine wpL_assign (v := .int .i64 0) (by rfl) (by rfl) (by rfl) ?_
  simp only [putT, List.set]
  refine wpL_nil (no_panic ?_)
  refine hK9 _ _ ?_
  refine wp_seq_k (fun K12 hK12 => ?_)
  refine wp_seq_k (fun K13 hK13 => ?_)
  refine wp_region_plain 3 (by kernel_rfl) (fun Lk hLk => ?_)
  simp only [List.take, List.drop]
  refine wpV_move (v := .slice (some ⟨g7, 0, none⟩) (n + 4) (n + 4)) (by rfl) rfl rfl ?_
  simp only [putT, List.set]
  refine wpV_lenA (n := n + 4) (by rfl) rfl rfl rfl Try.underlying60 ?_
  simp only [putT, List.set]
  refine wpV_move (v := .int .i64 0) (by rfl) rfl rfl ?_
  simp only [putT, List.set]
  refine wpV_nil (hLk.out _ ?_)
  clear hLk Lk
  simp only [List.take, List.drop]
  iterate 3 refine wpN_skip (by rfl) ?_
  refine wpN_nil (fun w15 Sw15 hbs => ?_)
  clear hbs
  replace Rg_0 := range_sees Rg_0 Lg Sw15
  replace Rg7_0 := range_sees Rg7_0 Lg7 Sw15
  replace Tg7 := there_sees Tg7 Lg7 Sw15
  replace Lg := Nat.lt_of_lt_of_le Lg Sw15.2.2.size
  replace Lg7 := Nat.lt_of_lt_of_le Lg7 Sw15.2.2.size
  replace BE := BE.trans (Sw15.2.2.mono BE.size)
  refine wpL_nil (no_panic ?_)
  refine hK13 _ _ ?_
  refine wp_block ?_
  refine wp_loop_ghost (fun n9 a9 W9 => ∃ (i : Nat) (N : Nat) (u16 : Nat → Value), n9 = n + 4 - i ∧ a9 = { tmps := #[.slice (some ⟨g, 0, none⟩) n cg, undef, (.slice none 0 0), .slice (some ⟨g7, 0, none⟩) (n + 4) (n + 4), .int .i64 ((N : Nat) : Int), u16 5, .slice (some ⟨g, 0, none⟩) n cg, .int .i64 ((n : Nat) : Int), .int .i64 ((n + 4 : Nat) : Int), .slice (some ⟨g7, 0, none⟩) (n + 4) (n + 4), .slice (some ⟨g7, 0, none⟩) (n + 4) (n + 4), .int .i64 ((n + 4 : Nat) : Int), .int .i64 ((i : Nat) : Int), u16 13, u16 14, u16 15, u16 16, u16 17, u16 18, u16 19, u16 20, u16 21, u16 22, u16 23, u16 24, u16 25, u16 26, u16 27, u16 28, u16 29, u16 30, u16 31, u16 32, undef, undef], defers := [] } ∧ Below w.heap.size w W9 ∧ World.rangeAt W9 g 0 (nl n f) ∧ g < W9.heap.size ∧ World.rangeAt W9 g7 0 (dl (n + 4) (cvV f n i % 65536 ^ i)) ∧ World.there W9 g7 0 (n + 4) ∧ g7 < W9.heap.size ∧ (i ≤ n + 4) ∧ (N = cvV f n i / 65536 ^ i)) (n + 4 - (0)) ?_ (fun n9 a9 W9 hI => ?_)
  · exact ⟨0, 0, (fun q9 => (#[undef, undef, undef, undef, undef, undef, undef, undef, undef, undef, undef, undef, undef, undef, undef, undef, undef, undef, undef, undef, undef, undef, undef, undef, undef, undef, undef, undef, undef, undef, undef, undef, undef] : Array Value).getD q9 undef), rfl, rfl, BE, Rg_0, Lg, (by rw [show cvV f n 0 % 65536 ^ 0 = 0 by rw [Nat.pow_zero, Nat.mod_one]]; exact Rg7_0), Tg7, Lg7, (by omega), (by simp [cvV, valN])⟩
  clear BE Rg_0 Rg7_0 Tg7 Lg Lg7
  obtain ⟨i, N, u16, rfl, rfl, BE, Rg_0, Lg, Rg7_0, Tg7, Lg7, hi4, hN⟩ := hI
  obtain ⟨w17, rfl⟩ : ∃ W8, W8 = W9 := ⟨_, rfl⟩
  have hcb := cv_bound hf i
  rw [← hN] at hcb
  refine wp_seq_k (fun K18 hK18 => ?_)
  refine wp_region_plain 1 (by kernel_rfl) (fun Lk hLk => ?_)
  simp only [List.take, List.drop]
  refine wpV_bin (v := .bool (decide (i < n + 4))) (by rfl) rfl rfl rfl (fun W => run_lssN i (n + 4) _ _ W) ?_
  simp only [putT, List.set]
  refine wpV_nil (hLk.out _ ?_)
  clear hLk Lk
  simp only [List.take, List.drop]
  iterate 1 refine wpN_skip (by rfl) ?_
  refine wpN_nil (fun w20 Sw20 hbs => ?_)
  clear hbs
  replace Rg_0 := range_sees Rg_0 Lg Sw20
  replace Rg7_0 := range_sees Rg7_0 Lg7 Sw20
  replace Tg7 := there_sees Tg7 Lg7 Sw20
  replace Lg := Nat.lt_of_lt_of_le Lg Sw20.2.2.size
  replace Lg7 := Nat.lt_of_lt_of_le Lg7 Sw20.2.2.size
  replace BE := BE.trans (Sw20.2.2.mono BE.size)
  refine wpL_nil (no_panic ?_)
  refine hK18 _ _ ?_
  refine wp_seq_k (fun K21 hK21 => ?_)
  cases hc22 : (decide (i < n + 4))
  · skip
    have ei : i = n + 4 := by have := of_decide_eq_false hc22; omega
    subst ei
    refine wp_cond_false rfl ?_
    refine wp_exit ?_
    refine hK12 _ _ ?_
    refine wp_seq_k (fun K23 hK23 => ?_)
    rw [cv_end, Nat.mod_eq_of_lt (valN_lt4 hf), hx] at Rg7_0
    have hx4 := valN_lt4 hf
    rw [hx] at hx4
    refine wp_region_plain 2 (by kernel_rfl) (fun Lk hLk => ?_)
    simp only [List.take, List.drop]
    refine wpV_move (v := .slice (some ⟨g7, 0, none⟩) (n + 4) (n + 4)) (by rfl) rfl rfl ?_
    simp only [putT, List.set]
    refine wpV_callf (v := .slice (some ⟨g7, 0, none⟩) (dlen x) (n + 4)) (args := #[.slice (some ⟨g7, 0, none⟩) (n + 4) (n + 4)]) (by rfl) rfl Try.func57 (by kernel_rfl) (by kernel_rfl) rfl (fun W hW => trim_c (x := x) (by omega) hx4 (Nat.le_refl _) (Nat.lt_of_lt_of_le Lg7 hW.2.2.size) (range_sees Rg7_0 Lg7 hW)) ?_
    simp only [putT, List.set]
    refine wpV_nil (hLk.out _ ?_)
    clear hLk Lk
    simp only [List.take, List.drop]
    iterate 2 refine wpN_skip (by rfl) ?_
    refine wpN_nil (fun w25 Sw25 hbs => ?_)
    clear hbs
    replace Rg_0 := range_sees Rg_0 Lg Sw25
    replace Rg7_0 := range_sees Rg7_0 Lg7 Sw25
    replace Tg7 := there_sees Tg7 Lg7 Sw25
    replace Lg := Nat.lt_of_lt_of_le Lg Sw25.2.2.size
    replace Lg7 := Nat.lt_of_lt_of_le Lg7 Sw25.2.2.size
    replace BE := BE.trans (Sw25.2.2.mono BE.size)
    refine wpL_assign (v := .slice (some ⟨g7, 0, none⟩) (dlen x) (n + 4)) (by rfl) (by rfl) (by rfl) ?_
    simp only [putT, List.set]
    refine wpL_nil (no_panic ?_)
    refine hK23 _ _ ?_
    refine wp_ret ?_
    repeat (first | with_reducible refine then_ret ?_ | with_reducible refine inblock_ret ?_)
    refine bodyPost_ret (v := .slice (some ⟨g7, 0, none⟩) (dlen x) (n + 4)) (res1 rfl (.tmp (by rfl))) rfl ?_
    exact ⟨_, rfl, ⟨g7, n + 4, rfl, (Nat.le_trans ((dlen_le _ _).2 hx4) (Nat.le_refl _)), Gg7, Lg7, (range_dl_take (m := dlen x) Rg7_0 ((dlen_le _ _).2 hx4))⟩, BE⟩
  · skip
    have hi : i < n + 4 := of_decide_eq_true hc22
    refine wp_cond_true rfl ?_
    refine wp_skip ?_
    refine hK21 _ _ ?_
    refine wp_seq_k (fun K26 hK26 => ?_)
    refine wp_block ?_
    refine wp_seq_k (fun K27 hK27 => ?_)
    refine wp_region_plain 1 (by kernel_rfl) (fun Lk hLk => ?_)
    simp only [List.take, List.drop]
    refine wpV_move (v := .int .i64 ((i : Nat) : Int)) (by rfl) rfl rfl ?_
    simp only [putT, List.set]
    refine wpV_nil (hLk.out _ ?_)
    clear hLk Lk
    simp only [List.take, List.drop]
    iterate 1 refine wpN_skip (by rfl) ?_
    refine wpN_nil (fun w29 Sw29 hbs => ?_)
    clear hbs
    replace Rg_0 := range_sees Rg_0 Lg Sw29
    replace Rg7_0 := range_sees Rg7_0 Lg7 Sw29
    replace Tg7 := there_sees Tg7 Lg7 Sw29
    replace Lg := Nat.lt_of_lt_of_le Lg Sw29.2.2.size
    replace Lg7 := Nat.lt_of_lt_of_le Lg7 Sw29.2.2.size
    replace BE := BE.trans (Sw29.2.2.mono BE.size)
    refine wpL_assign (v := .int .i64 ((i : Nat) : Int)) (by rfl) (by rfl) (by rfl) ?_
    simp only [putT, List.set]
    refine wpL_nil (no_panic ?_)
    refine hK27 _ _ ?_
    refine wp_seq_k (fun K30 hK30 => ?_)
    refine wp_seq_k (fun K31 hK31 => ?_)
    refine wp_region_plain 4 (by kernel_rfl) (fun Lk hLk => ?_)
    simp only [List.take, List.drop]
    refine wpV_move (v := .int .i64 ((i : Nat) : Int)) (by rfl) rfl rfl ?_
    simp only [putT, List.set]
    refine wpV_move (v := .slice (some ⟨g, 0, none⟩) n cg) (by rfl) rfl rfl ?_
    simp only [putT, List.set]
    refine wpV_lenA (n := n) (by rfl) rfl rfl rfl Try.underlying60 ?_
    simp only [putT, List.set]
    refine wpV_bin (v := .bool (decide (i < n))) (by rfl) rfl rfl rfl (fun W => run_lssN i n _ _ W) ?_
    simp only [putT, List.set]
    refine wpV_nil (hLk.out _ ?_)
    clear hLk Lk
    simp only [List.take, List.drop]
    iterate 4 refine wpN_skip (by rfl) ?_
    refine wpN_nil (fun w33 Sw33 hbs => ?_)
    clear hbs
    replace Rg_0 := range_sees Rg_0 Lg Sw33
    replace Rg7_0 := range_sees Rg7_0 Lg7 Sw33
    replace Tg7 := there_sees Tg7 Lg7 Sw33
    replace Lg := Nat.lt_of_lt_of_le Lg Sw33.2.2.size
    replace Lg7 := Nat.lt_of_lt_of_le Lg7 Sw33.2.2.size
    replace BE := BE.trans (Sw33.2.2.mono BE.size)
    refine wpL_nil (no_panic ?_)
    refine hK31 _ _ ?_
    cases hc34 : (decide (i < n))
    · skip
      have hin : ¬ i < n := of_decide_eq_false hc34
      have ecv := cvf_ge (f := f) hin
      refine wp_cond_false rfl ?_
      refine wp_skip ?_
      refine hK30 _ _ ?_
      refine wp_seq_k (fun K35 hK35 => ?_)
      refine wp_region_plain 5 (by kernel_rfl) (fun Lk hLk => ?_)
      simp only [List.take, List.drop]
      refine wpV_move (v := .slice (some ⟨g7, 0, none⟩) (n + 4) (n + 4)) (by rfl) rfl rfl ?_
      simp only [putT, List.set]
      refine wpV_move (v := .int .i64 ((i : Nat) : Int)) (by rfl) rfl rfl ?_
      simp only [putT, List.set]
      refine wpV_move (v := .int .i64 ((N : Nat) : Int)) (by rfl) rfl rfl ?_
      simp only [putT, List.set]
      refine wpV_bin (v := .int .i64 ((N % 65536 : Nat) : Int)) (by rfl) rfl rfl rfl (fun W => run_rem (by decide) (tmod_nat N 65536) W) ?_
      simp only [putT, List.set]
      refine wpV_idxs (n := i) (by rfl) rfl rfl rfl Try.underlying60 info3 (by omega) ?_
      simp only [Nat.zero_add]
      simp only [putT, List.set]
      refine wpV_nil (hLk.out _ ?_)
      clear hLk Lk
      simp only [List.take, List.drop]
      iterate 5 refine wpN_skip (by rfl) ?_
      refine wpN_nil (fun w37 Sw37 hbs => ?_)
      clear hbs
      replace Rg_0 := range_sees Rg_0 Lg Sw37
      replace Rg7_0 := range_sees Rg7_0 Lg7 Sw37
      replace Tg7 := there_sees Tg7 Lg7 Sw37
      replace Lg := Nat.lt_of_lt_of_le Lg Sw37.2.2.size
      replace Lg7 := Nat.lt_of_lt_of_le Lg7 Sw37.2.2.size
      replace BE := BE.trans (Sw37.2.2.mono BE.size)
      refine wpL_store1 (g := g7) (off := i) (n := n + 4) (v := .int .i64 ((N % 65536 : Nat) : Int)) (by rfl) (by rfl) (by rfl) (by rfl) (by rfl) Tg7 (by omega) info3 rfl (fun w38 Pw38 RR TT => ?_)
      replace Rg_0 := Pw38.range Rg_0 (.inl Ng_g7)
      replace Rg7_0 := range_set Rg7_0 Pw38 RR
      clear RR
      replace Tg7 := TT
      replace Lg := Pw38.lt Lg
      replace Lg7 := Pw38.lt Lg7
      replace BE := Pw38.below BE Gg7
      rw [show (N % 65536) = (cvV f n i / 65536 ^ i + cvf f n i) % 65536 by rw [hN, ecv, Nat.add_zero], cv_put] at Rg7_0
      refine wpL_nil (no_panic ?_)
      refine hK35 _ _ ?_
      refine wp_region_plain 2 (by kernel_rfl) (fun Lk hLk => ?_)
      simp only [List.take, List.drop]
      refine wpV_move (v := .int .i64 ((N : Nat) : Int)) (by rfl) rfl rfl ?_
      simp only [putT, List.set]
      refine wpV_bin (v := .int .i64 ((N / 65536 : Nat) : Int)) (by rfl) rfl rfl rfl (fun W => run_quo (by decide) ((congrArg _ (tdiv_nat _ 65536)).trans (wrap_nat _ (by omega))) W) ?_
      simp only [putT, List.set]
      refine wpV_nil (hLk.out _ ?_)
      clear hLk Lk
      simp only [List.take, List.drop]
      iterate 2 refine wpN_skip (by rfl) ?_
      refine wpN_nil (fun w40 Sw40 hbs => ?_)
      clear hbs
      replace Rg_0 := range_sees Rg_0 Lg Sw40
      replace Rg7_0 := range_sees Rg7_0 Lg7 Sw40
      replace Tg7 := there_sees Tg7 Lg7 Sw40
      replace Lg := Nat.lt_of_lt_of_le Lg Sw40.2.2.size
      replace Lg7 := Nat.lt_of_lt_of_le Lg7 Sw40.2.2.size
      replace BE := BE.trans (Sw40.2.2.mono BE.size)
      refine wpL_assign (v := .int .i64 ((N / 65536 : Nat) : Int)) (by rfl) (by rfl) (by rfl) ?_
      simp only [putT, List.set]
      refine wpL_nil (no_panic ?_)
      refine hK26 _ _ ?_
      refine wp_region_plain 1 (by kernel_rfl) (fun Lk hLk => ?_)
      simp only [List.take, List.drop]
      refine wpV_bin (v := .int .i64 ((i + 1 : Nat) : Int)) (by rfl) rfl rfl rfl (fun W => run_add (by simp only [IntKind.wrap_i64]; omega) W) ?_
      simp only [putT, List.set]
      refine wpV_nil (hLk.out _ ?_)
      clear hLk Lk
      simp only [List.take, List.drop]
      iterate 1 refine wpN_skip (by rfl) ?_
      refine wpN_nil (fun w42 Sw42 hbs => ?_)
      clear hbs
      replace Rg_0 := range_sees Rg_0 Lg Sw42
      replace Rg7_0 := range_sees Rg7_0 Lg7 Sw42
      replace Tg7 := there_sees Tg7 Lg7 Sw42
      replace Lg := Nat.lt_of_lt_of_le Lg Sw42.2.2.size
      replace Lg7 := Nat.lt_of_lt_of_le Lg7 Sw42.2.2.size
      replace BE := BE.trans (Sw42.2.2.mono BE.size)
      refine wpL_move (v := .int .i64 ((i + 1 : Nat) : Int)) (by rfl) (by rfl) (by rfl) ?_
      simp only [putT, List.set]
      refine wpL_nil (no_panic ?_)
      refine Exists.intro _ ⟨?_, (i + 1), (N / 65536), (fun q9 => (#[undef, undef, undef, undef, undef, .int .i64 ((i : Nat) : Int), undef, undef, undef, undef, undef, undef, undef, .bool true, .int .i64 ((i : Nat) : Int), .int .i64 ((i : Nat) : Int), .slice (some ⟨g, 0, none⟩) n cg, .int .i64 ((n : Nat) : Int), .bool false, u16 19, u16 20, u16 21, u16 22, u16 23, u16 24, .slice (some ⟨g7, 0, none⟩) (n + 4) (n + 4), .int .i64 ((i : Nat) : Int), .int .i64 ((N : Nat) : Int), .int .i64 ((N % 65536 : Nat) : Int), .pointer (some ⟨g7, i, none⟩), .int .i64 ((N : Nat) : Int), .int .i64 ((N / 65536 : Nat) : Int), .int .i64 ((i + 1 : Nat) : Int)] : Array Value).getD q9 undef), rfl, rfl, BE, Rg_0, Lg, Rg7_0, Tg7, Lg7, (by omega), (by rw [hN, ← cv_next, ecv, Nat.add_zero])⟩
      omega
    · skip
      have hin : i < n := of_decide_eq_true hc34
      have hfi := hf i hin
      have ecv := cvf_lt (f := f) hin
      refine wp_cond_true rfl ?_
      refine wp_region_plain 6 (by kernel_rfl) (fun Lk hLk => ?_)
      simp only [List.take, List.drop]
      refine wpV_move (v := .int .i64 ((N : Nat) : Int)) (by rfl) rfl rfl ?_
      simp only [putT, List.set]
      refine wpV_move (v := .slice (some ⟨g, 0, none⟩) n cg) (by rfl) rfl rfl ?_
      simp only [putT, List.set]
      refine wpV_move (v := .int .i64 ((i : Nat) : Int)) (by rfl) rfl rfl ?_
      simp only [putT, List.set]
      refine wpV_idxs (n := i) (by rfl) rfl rfl rfl Try.underlying60 info3 (by omega) ?_
      simp only [Nat.zero_add]
      simp only [putT, List.set]
      refine wpV_load1 (v := .int .i64 ((f i : Nat) : Int)) (by rfl) rfl rfl (by have := Rg_0 _ _ (nl_get (j := i) n f (by omega)); rwa [Nat.zero_add] at this) Lg Try.underlying3 rfl ?_
      simp only [putT, List.set]
      refine wpV_bin (v := .int .i64 ((N + f i : Nat) : Int)) (by rfl) rfl rfl rfl (fun W => run_add (by simp only [IntKind.wrap_i64]; omega) W) ?_
      simp only [putT, List.set]
      refine wpV_nil (hLk.out _ ?_)
      clear hLk Lk
      simp only [List.take, List.drop]
      iterate 6 refine wpN_skip (by rfl) ?_
      refine wpN_nil (fun w44 Sw44 hbs => ?_)
      clear hbs
      replace Rg_0 := range_sees Rg_0 Lg Sw44
      replace Rg7_0 := range_sees Rg7_0 Lg7 Sw44
      replace Tg7 := there_sees Tg7 Lg7 Sw44
      replace Lg := Nat.lt_of_lt_of_le Lg Sw44.2.2.size
      replace Lg7 := Nat.lt_of_lt_of_le Lg7 Sw44.2.2.size
      replace BE := BE.trans (Sw44.2.2.mono BE.size)
      refine wpL_assign (v := .int .i64 ((N + f i : Nat) : Int)) (by rfl) (by rfl) (by rfl) ?_
      simp only [putT, List.set]
      refine wpL_nil (no_panic ?_)
      refine hK30 _ _ ?_
      refine wp_seq_k (fun K45 hK45 => ?_)
      refine wp_region_plain 5 (by kernel_rfl) (fun Lk hLk => ?_)
      simp only [List.take, List.drop]
      refine wpV_move (v := .slice (some ⟨g7, 0, none⟩) (n + 4) (n + 4)) (by rfl) rfl rfl ?_
      simp only [putT, List.set]
      refine wpV_move (v := .int .i64 ((i : Nat) : Int)) (by rfl) rfl rfl ?_
      simp only [putT, List.set]
      refine wpV_move (v := .int .i64 ((N + f i : Nat) : Int)) (by rfl) rfl rfl ?_
      simp only [putT, List.set]
      refine wpV_bin (v := .int .i64 (((N + f i) % 65536 : Nat) : Int)) (by rfl) rfl rfl rfl (fun W => run_rem (by decide) (tmod_nat (N + f i) 65536) W) ?_
      simp only [putT, List.set]
      refine wpV_idxs (n := i) (by rfl) rfl rfl rfl Try.underlying60 info3 (by omega) ?_
      simp only [Nat.zero_add]
      simp only [putT, List.set]
      refine wpV_nil (hLk.out _ ?_)
      clear hLk Lk
      simp only [List.take, List.drop]
      iterate 5 refine wpN_skip (by rfl) ?_
      refine wpN_nil (fun w47 Sw47 hbs => ?_)
      clear hbs
      replace Rg_0 := range_sees Rg_0 Lg Sw47
      replace Rg7_0 := range_sees Rg7_0 Lg7 Sw47
      replace Tg7 := there_sees Tg7 Lg7 Sw47
      replace Lg := Nat.lt_of_lt_of_le Lg Sw47.2.2.size
      replace Lg7 := Nat.lt_of_lt_of_le Lg7 Sw47.2.2.size
      replace BE := BE.trans (Sw47.2.2.mono BE.size)
      refine wpL_store1 (g := g7) (off := i) (n := n + 4) (v := .int .i64 (((N + f i) % 65536 : Nat) : Int)) (by rfl) (by rfl) (by rfl) (by rfl) (by rfl) Tg7 (by omega) info3 rfl (fun w48 Pw48 RR TT => ?_)
      replace Rg_0 := Pw48.range Rg_0 (.inl Ng_g7)
      replace Rg7_0 := range_set Rg7_0 Pw48 RR
      clear RR
      replace Tg7 := TT
      replace Lg := Pw48.lt Lg
      replace Lg7 := Pw48.lt Lg7
      replace BE := Pw48.below BE Gg7
      rw [show ((N + f i) % 65536) = (cvV f n i / 65536 ^ i + cvf f n i) % 65536 by rw [hN, ecv], cv_put] at Rg7_0
      refine wpL_nil (no_panic ?_)
      refine hK45 _ _ ?_
      refine wp_region_plain 2 (by kernel_rfl) (fun Lk hLk => ?_)
      simp only [List.take, List.drop]
      refine wpV_move (v := .int .i64 ((N + f i : Nat) : Int)) (by rfl) rfl rfl ?_
      simp only [putT, List.set]
      refine wpV_bin (v := .int .i64 (((N + f i) / 65536 : Nat) : Int)) (by rfl) rfl rfl rfl (fun W => run_quo (by decide) ((congrArg _ (tdiv_nat _ 65536)).trans (wrap_nat _ (by omega))) W) ?_
      simp only [putT, List.set]
      refine wpV_nil (hLk.out _ ?_)
      clear hLk Lk
      simp only [List.take, List.drop]
      iterate 2 refine wpN_skip (by rfl) ?_
      refine wpN_nil (fun w50 Sw50 hbs => ?_)
      clear hbs
      replace Rg_0 := range_sees Rg_0 Lg Sw50
      replace Rg7_0 := range_sees Rg7_0 Lg7 Sw50
      replace Tg7 := there_sees Tg7 Lg7 Sw50
      replace Lg := Nat.lt_of_lt_of_le Lg Sw50.2.2.size
      replace Lg7 := Nat.lt_of_lt_of_le Lg7 Sw50.2.2.size
      replace BE := BE.trans (Sw50.2.2.mono BE.size)
      refine wpL_assign (v := .int .i64 (((N + f i) / 65536 : Nat) : Int)) (by rfl) (by rfl) (by rfl) ?_
      simp only [putT, List.set]
      refine wpL_nil (no_panic ?_)
      refine hK26 _ _ ?_
      refine wp_region_plain 1 (by kernel_rfl) (fun Lk hLk => ?_)
      simp only [List.take, List.drop]
      refine wpV_bin (v := .int .i64 ((i + 1 : Nat) : Int)) (by rfl) rfl rfl rfl (fun W => run_add (by simp only [IntKind.wrap_i64]; omega) W) ?_
      simp only [putT, List.set]
      refine wpV_nil (hLk.out _ ?_)
      clear hLk Lk
      simp only [List.take, List.drop]
      iterate 1 refine wpN_skip (by rfl) ?_
      refine wpN_nil (fun w52 Sw52 hbs => ?_)
      clear hbs
      replace Rg_0 := range_sees Rg_0 Lg Sw52
      replace Rg7_0 := range_sees Rg7_0 Lg7 Sw52
      replace Tg7 := there_sees Tg7 Lg7 Sw52
      replace Lg := Nat.lt_of_lt_of_le Lg Sw52.2.2.size
      replace Lg7 := Nat.lt_of_lt_of_le Lg7 Sw52.2.2.size
      replace BE := BE.trans (Sw52.2.2.mono BE.size)
      refine wpL_move (v := .int .i64 ((i + 1 : Nat) : Int)) (by rfl) (by rfl) (by rfl) ?_
      simp only [putT, List.set]
      refine wpL_nil (no_panic ?_)
      refine Exists.intro _ ⟨?_, (i + 1), ((N + f i) / 65536), (fun q9 => (#[undef, undef, undef, undef, undef, .int .i64 ((i : Nat) : Int), undef, undef, undef, undef, undef, undef, undef, .bool true, .int .i64 ((i : Nat) : Int), .int .i64 ((i : Nat) : Int), .slice (some ⟨g, 0, none⟩) n cg, .int .i64 ((n : Nat) : Int), .bool true, .int .i64 ((N : Nat) : Int), .slice (some ⟨g, 0, none⟩) n cg, .int .i64 ((i : Nat) : Int), .pointer (some ⟨g, i, none⟩), .int .i64 ((f i : Nat) : Int), .int .i64 ((N + f i : Nat) : Int), .slice (some ⟨g7, 0, none⟩) (n + 4) (n + 4), .int .i64 ((i : Nat) : Int), .int .i64 ((N + f i : Nat) : Int), .int .i64 (((N + f i) % 65536 : Nat) : Int), .pointer (some ⟨g7, i, none⟩), .int .i64 ((N + f i : Nat) : Int), .int .i64 (((N + f i) / 65536 : Nat) : Int), .int .i64 ((i + 1 : Nat) : Int)] : Array Value).getD q9 undef), rfl, rfl, BE, Rg_0, Lg, Rg7_0, Tg7, Lg7, (by omega), (by rw [hN, ← cv_next, ecv])⟩
      omega
end Go.Proofs.Ya
