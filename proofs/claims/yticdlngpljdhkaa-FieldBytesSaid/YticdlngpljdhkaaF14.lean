import Derived.Test.YticdlngpljdhkaaF13
set_option linter.unusedSimpArgs false
set_option linter.unusedVariables false
namespace Go.Proofs.Ya
open Go Go.RowKit Go.Shelf Go.Proofs.Num
set_option maxHeartbeats 4000000 in
theorem mod_c {n A m M g0 g1 cg0 cg1 : Nat} {w : World} (hn : n ≤ 1000) (hA : A < 65536 ^ n) (hM : 0 < M) (hm : m = dlen M) (hm3 : m ≤ 1000) (hcg0 : n ≤ cg0) (Lg0 : g0 < w.heap.size) (Rg0_0 : w.rangeAt g0 0 (dl n A)) (hcg1 : m ≤ cg1) (Lg1 : g1 < w.heap.size) (Rg1_0 : w.rangeAt g1 0 (dl m M)) :
    Calls Try.prog 66 #[.slice (some ⟨g0, 0, none⟩) n cg0, .slice (some ⟨g1, 0, none⟩) m cg1] w fun e w' => ∃ v, e = .returned v ∧ NewRow w (dlen (A % M)) (dl (dlen (A % M)) (A % M)) v w' ∧ Below w.heap.size w w' := by
  go_enter Try.func66, Try.ntmps66
  have BE := Below.refl w.heap.size w
  refine wp_seq_k (fun K1 hK1 => ?_)
  refine wp_region_plain 0 (by kernel_rfl) (fun Lk hLk => ?_)
  simp only [List.take, List.drop]
  refine wpV_nil (hLk.out _ ?_)
  clear hLk Lk
  simp only [List.take, List.drop]
  refine wpN_nil (fun w3 Sw3 hbs => ?_)
  clear hbs
  replace Rg0_0 := range_sees Rg0_0 Lg0 Sw3
  replace Rg1_0 := range_sees Rg1_0 Lg1 Sw3
  replace Lg0 := Nat.lt_of_lt_of_le Lg0 Sw3.2.2.size
  replace Lg1 := Nat.lt_of_lt_of_le Lg1 Sw3.2.2.size
  replace BE := BE.trans (Sw3.2.2.mono BE.size)
  refine wpL_assign (v := (.slice none 0 0)) (by rfl) (by rfl) (by rfl) ?_
  simp only [putT, List.set]
  refine wpL_nil (no_panic ?_)
  refine hK1 _ _ ?_
  refine wp_seq_k (fun K4 hK4 => ?_)
  refine wp_region_seq ?_
  refine wpL_row0 (by rfl) (by rfl) Try.underlying60 info3 (fun g6 w7 Sw7 Hg6 Bg6 => ?_)
  have Ng0_g6 : g0 ≠ g6 := Nat.ne_of_lt (Nat.lt_of_lt_of_le Lg0 Hg6)
  have Ng1_g6 : g1 ≠ g6 := Nat.ne_of_lt (Nat.lt_of_lt_of_le Lg1 Hg6)
  have Gg6 : w.heap.size ≤ g6 := Nat.le_trans BE.size Hg6
  replace Rg0_0 := range_sees Rg0_0 Lg0 Sw7
  replace Rg1_0 := range_sees Rg1_0 Lg1 Sw7
  replace Lg0 := Nat.lt_of_lt_of_le Lg0 Sw7.2.2.size
  replace Lg1 := Nat.lt_of_lt_of_le Lg1 Sw7.2.2.size
  replace BE := BE.trans (Sw7.2.2.mono BE.size)
  have Tg6 := blk_there Bg6 (n := 0) (by rfl)
  have Rg6_0 := blk_range Bg6 (l := []) rfl
  rw [← dl_none] at Rg6_0
  have Lg6 := Bg6.lt
  clear Bg6
  simp only [putT, List.set]
  refine wpL_assign (v := .slice (some ⟨g6, 0, none⟩) 0 0) (by rfl) (by rfl) (by rfl) ?_
  simp only [putT, List.set]
  refine wpL_nil (no_panic ?_)
  refine hK4 _ _ ?_
  refine wp_seq_k (fun K8 hK8 => ?_)
  refine wp_seq_k (fun K9 hK9 => ?_)
  refine wp_region_plain 3 (by kernel_rfl) (fun Lk hLk => ?_)
  simp only [List.take, List.drop]
  refine wpV_move (v := .slice (some ⟨g0, 0, none⟩) n cg0) (by rfl) rfl rfl ?_
  simp only [putT, List.set]
  refine wpV_lenA (n := n) (by rfl) rfl rfl rfl Try.underlying60 ?_
  simp only [putT, List.set]
  refine wpV_bin (v := .int .i64 (((n : Nat) : Int) - 1)) (by rfl) rfl rfl rfl (fun W => run_sub (by simp only [IntKind.wrap_i64]; omega) W) ?_
  simp only [putT, List.set]
  refine wpV_nil (hLk.out _ ?_)
  clear hLk Lk
  simp only [List.take, List.drop]
  iterate 3 refine wpN_skip (by rfl) ?_
  refine wpN_nil (fun w11 Sw11 hbs => ?_)
  clear hbs
  replace Rg0_0 := range_sees Rg0_0 Lg0 Sw11
  replace Rg1_0 := range_sees Rg1_0 Lg1 Sw11
  replace Rg6_0 := range_sees Rg6_0 Lg6 Sw11
  replace Tg6 := there_sees Tg6 Lg6 Sw11
  replace Lg0 := Nat.lt_of_lt_of_le Lg0 Sw11.2.2.size
  replace Lg1 := Nat.lt_of_lt_of_le Lg1 Sw11.2.2.size
  replace Lg6 := Nat.lt_of_lt_of_le Lg6 Sw11.2.2.size
  replace BE := BE.trans (Sw11.2.2.mono BE.size)
  refine wpL_assign (v := .int .i64 (((n : Nat) : Int) - 1)) (by rfl) (by rfl) (by rfl) ?_
  simp only [putT, List.set]
  refine wpL_nil (no_panic ?_)
  refine hK9 _ _ ?_
  refine wp_block ?_
  refine wp_loop_ghost (fun n9 a9 W9 => ∃ (k : Nat) (rl : Nat) (r : Nat) (gq : Nat) (gqc : Nat) (u12 : Nat → Value), n9 = 2 * k ∧ a9 = { tmps := #[.slice (some ⟨g0, 0, none⟩) n cg0, .slice (some ⟨g1, 0, none⟩) m cg1, undef, undef, (.slice none 0 0), .slice (some ⟨gq, 0, none⟩) rl gqc, .int .i64 (((k : Nat) : Int) - 1), u12 7, u12 8, .slice (some ⟨g6, 0, none⟩) 0 0, .slice (some ⟨g0, 0, none⟩) n cg0, .int .i64 ((n : Nat) : Int), .int .i64 (((n : Nat) : Int) - 1), u12 13, u12 14, u12 15, u12 16, u12 17, u12 18, u12 19, u12 20, u12 21, u12 22, u12 23, u12 24, u12 25, u12 26, u12 27, u12 28, u12 29, u12 30, u12 31, u12 32, u12 33, u12 34, u12 35, u12 36, u12 37, u12 38, u12 39, u12 40, u12 41, u12 42, undef], defers := [] } ∧ Below w.heap.size w W9 ∧ World.rangeAt W9 g0 0 (dl n A) ∧ g0 < W9.heap.size ∧ World.rangeAt W9 g1 0 (dl m M) ∧ g1 < W9.heap.size ∧ World.rangeAt W9 gq 0 (dl rl r) ∧ gq < W9.heap.size ∧ rl ≤ gqc ∧ w.heap.size ≤ gq ∧ g0 ≠ gq ∧ g1 ≠ gq ∧ (k ≤ n) ∧ (rl = dlen r) ∧ (r = A / 2 ^ (16 * k) % M)) (2 * (n)) ?_ (fun n9 a9 W9 hI => ?_)
  · exact ⟨n, 0, 0, g6, 0, (fun q9 => (#[undef, undef, undef, undef, undef, undef, undef, undef, undef, undef, undef, undef, undef, undef, undef, undef, undef, undef, undef, undef, undef, undef, undef, undef, undef, undef, undef, undef, undef, undef, undef, undef, undef, undef, undef, undef, undef, undef, undef, undef, undef, undef, undef] : Array Value).getD q9 undef), rfl, rfl, BE, Rg0_0, Lg0, Rg1_0, Lg1, (show World.rangeAt _ _ _ [] from Rg6_0), Lg6, (Nat.le_refl _), Gg6, Ng0_g6, Ng1_g6, (Nat.le_refl _), dlen_zero.symm, (by rw [← two16, Nat.div_eq_of_lt hA, Nat.zero_mod])⟩
  clear BE Rg0_0 Rg1_0 Rg6_0 Tg6 Lg0 Lg1 Lg6
  obtain ⟨k, rl, r, gq, gqc, u12, rfl, rfl, BE, Rg0_0, Lg0, Rg1_0, Lg1, Rgq_0, Lgq, Cgq, Ggq, Ng0_gq, Ng1_gq, hkn, hrl, hr⟩ := hI
  obtain ⟨w13, rfl⟩ : ∃ W8, W8 = W9 := ⟨_, rfl⟩
  have hrM : r < M := by rw [hr]; exact Nat.mod_lt _ hM
  have hrlm : rl ≤ m := by rw [hrl, hm]; exact dlen_mono (Nat.le_of_lt hrM)
  refine wp_seq_k (fun K14 hK14 => ?_)
  refine wp_seq_k (fun K15 hK15 => ?_)
  refine wp_region_plain 2 (by kernel_rfl) (fun Lk hLk => ?_)
  simp only [List.take, List.drop]
  refine wpV_move (v := .int .i64 (((k : Nat) : Int) - 1)) (by rfl) rfl rfl ?_
  simp only [putT, List.set]
  refine wpV_bin (v := .bool (decide (0 ≤ ((k : Nat) : Int) - 1))) (by rfl) rfl rfl rfl (fun W => run_geq _ _ _ _ W) ?_
  simp only [putT, List.set]
  refine wpV_nil (hLk.out _ ?_)
  clear hLk Lk
  simp only [List.take, List.drop]
  iterate 2 refine wpN_skip (by rfl) ?_
  refine wpN_nil (fun w17 Sw17 hbs => ?_)
  clear hbs
  replace Rg0_0 := range_sees Rg0_0 Lg0 Sw17
  replace Rg1_0 := range_sees Rg1_0 Lg1 Sw17
  replace Rgq_0 := range_sees Rgq_0 Lgq Sw17
  replace Lg0 := Nat.lt_of_lt_of_le Lg0 Sw17.2.2.size
  replace Lg1 := Nat.lt_of_lt_of_le Lg1 Sw17.2.2.size
  replace Lgq := Nat.lt_of_lt_of_le Lgq Sw17.2.2.size
  replace BE := BE.trans (Sw17.2.2.mono BE.size)
  refine wpL_nil (no_panic ?_)
  refine hK15 _ _ ?_
  cases hc18 : (decide (0 ≤ ((k : Nat) : Int) - 1))
  · skip
    have ek : k = 0 := by have := of_decide_eq_false hc18; omega
    subst ek
    refine wp_cond_false rfl ?_
    refine wp_exit ?_
    refine hK8 _ _ ?_
    refine wp_seq_k (fun K19 hK19 => ?_)
    refine wp_region_plain 1 (by kernel_rfl) (fun Lk hLk => ?_)
    simp only [List.take, List.drop]
    refine wpV_move (v := .slice (some ⟨gq, 0, none⟩) rl gqc) (by rfl) rfl rfl ?_
    simp only [putT, List.set]
    refine wpV_nil (hLk.out _ ?_)
    clear hLk Lk
    simp only [List.take, List.drop]
    iterate 1 refine wpN_skip (by rfl) ?_
    refine wpN_nil (fun w21 Sw21 hbs => ?_)
    clear hbs
    replace Rg0_0 := range_sees Rg0_0 Lg0 Sw21
    replace Rg1_0 := range_sees Rg1_0 Lg1 Sw21
    replace Rgq_0 := range_sees Rgq_0 Lgq Sw21
    replace Lg0 := Nat.lt_of_lt_of_le Lg0 Sw21.2.2.size
    replace Lg1 := Nat.lt_of_lt_of_le Lg1 Sw21.2.2.size
    replace Lgq := Nat.lt_of_lt_of_le Lgq Sw21.2.2.size
    replace BE := BE.trans (Sw21.2.2.mono BE.size)
    refine wpL_assign (v := .slice (some ⟨gq, 0, none⟩) rl gqc) (by rfl) (by rfl) (by rfl) ?_
    simp only [putT, List.set]
    refine wpL_nil (no_panic ?_)
    refine hK19 _ _ ?_
    refine wp_ret ?_
    repeat (first | with_reducible refine then_ret ?_ | with_reducible refine inblock_ret ?_)
    refine bodyPost_ret (v := .slice (some ⟨gq, 0, none⟩) rl gqc) (res1 rfl (.tmp (by rfl))) rfl ?_
    have hrA : r = A % M := by rw [hr]; simp
    rw [← hrA, ← hrl]
    exact ⟨_, rfl, ⟨gq, gqc, rfl, Cgq, Ggq, Lgq, Rgq_0⟩, BE⟩
  · skip
    obtain ⟨j, rfl⟩ : ∃ j, k = j + 1 := ⟨k - 1, by have := of_decide_eq_true hc18; omega⟩
    rw [show (((j + 1 : Nat) : Int) - 1) = ((j : Nat) : Int) by omega]
    refine wp_cond_true rfl ?_
    refine wp_skip ?_
    refine hK14 _ _ ?_
    refine wp_seq_k (fun K22 hK22 => ?_)
    refine wp_block ?_
    refine wp_seq_k (fun K23 hK23 => ?_)
    refine wp_region_plain 0 (by kernel_rfl) (fun Lk hLk => ?_)
    simp only [List.take, List.drop]
    refine wpV_nil (hLk.out _ ?_)
    clear hLk Lk
    simp only [List.take, List.drop]
    refine wpN_nil (fun w25 Sw25 hbs => ?_)
    clear hbs
    replace Rg0_0 := range_sees Rg0_0 Lg0 Sw25
    replace Rg1_0 := range_sees Rg1_0 Lg1 Sw25
    replace Rgq_0 := range_sees Rgq_0 Lgq Sw25
    replace Lg0 := Nat.lt_of_lt_of_le Lg0 Sw25.2.2.size
    replace Lg1 := Nat.lt_of_lt_of_le Lg1 Sw25.2.2.size
    replace Lgq := Nat.lt_of_lt_of_le Lgq Sw25.2.2.size
    replace BE := BE.trans (Sw25.2.2.mono BE.size)
    refine wpL_assign (v := .int .i64 32768) (by rfl) (by rfl) (by rfl) ?_
    simp only [putT, List.set]
    refine wpL_nil (no_panic ?_)
    refine hK23 _ _ ?_
    refine wp_block ?_
    refine wp_loop_ghost (fun n9 a9 W9 => ∃ (t : Nat) (rl : Nat) (r : Nat) (gr : Nat) (grc : Nat) (u26 : Nat → Value), n9 = 2 * t ∧ a9 = { tmps := #[.slice (some ⟨g0, 0, none⟩) n cg0, .slice (some ⟨g1, 0, none⟩) m cg1, undef, undef, (.slice none 0 0), .slice (some ⟨gr, 0, none⟩) rl grc, .int .i64 ((j : Nat) : Int), .int .i64 ((2 ^ t / 2 : Nat) : Int), u26 8, .slice (some ⟨g6, 0, none⟩) 0 0, .slice (some ⟨g0, 0, none⟩) n cg0, .int .i64 ((n : Nat) : Int), .int .i64 (((n : Nat) : Int) - 1), .int .i64 ((j : Nat) : Int), .bool true, u12 15, u12 16, u26 17, u26 18, u26 19, u26 20, u26 21, u26 22, u26 23, u26 24, u26 25, u26 26, u26 27, u26 28, u26 29, u26 30, u26 31, u26 32, u26 33, u26 34, u26 35, u26 36, u26 37, u26 38, u26 39, u26 40, u26 41, u26 42, undef], defers := [] } ∧ Below w.heap.size w W9 ∧ World.rangeAt W9 g0 0 (dl n A) ∧ g0 < W9.heap.size ∧ World.rangeAt W9 g1 0 (dl m M) ∧ g1 < W9.heap.size ∧ World.rangeAt W9 gr 0 (dl rl r) ∧ gr < W9.heap.size ∧ rl ≤ grc ∧ w.heap.size ≤ gr ∧ g0 ≠ gr ∧ g1 ≠ gr ∧ (t ≤ 16) ∧ (rl = dlen r) ∧ (r = A / 2 ^ (16 * j + t) % M)) (2 * (16)) ?_ (fun n9 a9 W9 hI => ?_)
    · exact ⟨16, rl, r, gq, gqc, (fun q9 => (#[undef, undef, undef, undef, undef, undef, undef, undef, u12 8, undef, undef, undef, undef, undef, undef, undef, undef, u12 17, u12 18, u12 19, u12 20, u12 21, u12 22, u12 23, u12 24, u12 25, u12 26, u12 27, u12 28, u12 29, u12 30, u12 31, u12 32, u12 33, u12 34, u12 35, u12 36, u12 37, u12 38, u12 39, u12 40, u12 41, u12 42] : Array Value).getD q9 undef), rfl, rfl, BE, Rg0_0, Lg0, Rg1_0, Lg1, Rgq_0, Lgq, Cgq, Ggq, Ng0_gq, Ng1_gq, (Nat.le_refl _), hrl, hr⟩
    clear BE Rg0_0 Rg1_0 Rgq_0 Lg0 Lg1 Lgq
    obtain ⟨t, rl, r, gr, grc, u26, rfl, rfl, BE, Rg0_0, Lg0, Rg1_0, Lg1, Rgr_0, Lgr, Cgr, Ggr, Ng0_gr, Ng1_gr, ht16, hrl, hr⟩ := hI
    obtain ⟨w27, rfl⟩ : ∃ W8, W8 = W9 := ⟨_, rfl⟩
    have hrM : r < M := by rw [hr]; exact Nat.mod_lt _ hM
    have hrlm : rl ≤ m := by rw [hrl, hm]; exact dlen_mono (Nat.le_of_lt hrM)
    refine wp_seq_k (fun K28 hK28 => ?_)
    refine wp_seq_k (fun K29 hK29 => ?_)
    refine wp_region_plain 2 (by kernel_rfl) (fun Lk hLk => ?_)
    simp only [List.take, List.drop]
    refine wpV_move (v := .int .i64 ((2 ^ t / 2 : Nat) : Int)) (by rfl) rfl rfl ?_
    simp only [putT, List.set]
    refine wpV_bin (v := .bool (decide (0 < 2 ^ t / 2))) (by rfl) rfl rfl rfl (fun W => run_gtrN (2 ^ t / 2) 0 _ _ W) ?_
    simp only [putT, List.set]
    refine wpV_nil (hLk.out _ ?_)
    clear hLk Lk
    simp only [List.take, List.drop]
    iterate 2 refine wpN_skip (by rfl) ?_
    refine wpN_nil (fun w31 Sw31 hbs => ?_)
    clear hbs
    replace Rg0_0 := range_sees Rg0_0 Lg0 Sw31
    replace Rg1_0 := range_sees Rg1_0 Lg1 Sw31
    replace Rgr_0 := range_sees Rgr_0 Lgr Sw31
    replace Lg0 := Nat.lt_of_lt_of_le Lg0 Sw31.2.2.size
    replace Lg1 := Nat.lt_of_lt_of_le Lg1 Sw31.2.2.size
    replace Lgr := Nat.lt_of_lt_of_le Lgr Sw31.2.2.size
    replace BE := BE.trans (Sw31.2.2.mono BE.size)
    refine wpL_nil (no_panic ?_)
    refine hK29 _ _ ?_
    cases hc32 : (decide (0 < 2 ^ t / 2))
    · skip
      have et : t = 0 := half_zero (of_decide_eq_false hc32)
      subst et
      refine wp_cond_false rfl ?_
      refine wp_exit ?_
      refine hK22 _ _ ?_
      refine wp_region_plain 2 (by kernel_rfl) (fun Lk hLk => ?_)
      simp only [List.take, List.drop]
      refine wpV_move (v := .int .i64 ((j : Nat) : Int)) (by rfl) rfl rfl ?_
      simp only [putT, List.set]
      refine wpV_bin (v := .int .i64 (((j : Nat) : Int) - 1)) (by rfl) rfl rfl rfl (fun W => run_sub (by simp only [IntKind.wrap_i64]; omega) W) ?_
      simp only [putT, List.set]
      refine wpV_nil (hLk.out _ ?_)
      clear hLk Lk
      simp only [List.take, List.drop]
      iterate 2 refine wpN_skip (by rfl) ?_
      refine wpN_nil (fun w34 Sw34 hbs => ?_)
      clear hbs
      replace Rg0_0 := range_sees Rg0_0 Lg0 Sw34
      replace Rg1_0 := range_sees Rg1_0 Lg1 Sw34
      replace Rgr_0 := range_sees Rgr_0 Lgr Sw34
      replace Lg0 := Nat.lt_of_lt_of_le Lg0 Sw34.2.2.size
      replace Lg1 := Nat.lt_of_lt_of_le Lg1 Sw34.2.2.size
      replace Lgr := Nat.lt_of_lt_of_le Lgr Sw34.2.2.size
      replace BE := BE.trans (Sw34.2.2.mono BE.size)
      refine wpL_assign (v := .int .i64 (((j : Nat) : Int) - 1)) (by rfl) (by rfl) (by rfl) ?_
      simp only [putT, List.set]
      refine wpL_nil (no_panic ?_)
      refine Exists.intro _ ⟨?_, j, rl, r, gr, grc, (fun q9 => (#[undef, undef, undef, undef, undef, undef, undef, .int .i64 ((2 ^ 0 / 2 : Nat) : Int), u26 8, undef, undef, undef, undef, .int .i64 ((j : Nat) : Int), .bool true, .int .i64 ((j : Nat) : Int), .int .i64 (((j : Nat) : Int) - 1), .int .i64 ((2 ^ 0 / 2 : Nat) : Int), .bool false, u26 19, u26 20, u26 21, u26 22, u26 23, u26 24, u26 25, u26 26, u26 27, u26 28, u26 29, u26 30, u26 31, u26 32, u26 33, u26 34, u26 35, u26 36, u26 37, u26 38, u26 39, u26 40, u26 41, u26 42] : Array Value).getD q9 undef), rfl, rfl, BE, Rg0_0, Lg0, Rg1_0, Lg1, Rgr_0, Lgr, Cgr, Ggr, Ng0_gr, Ng1_gr, (by omega), hrl, hr⟩
      omega
    · skip
      obtain ⟨u, rfl⟩ := half_some (of_decide_eq_true hc32)
      rw [half_pow]
      have hu16 : u < 16 := by omega
      have hu := pow_16 hu16
      have hup := Nat.two_pow_pos u
      have hdb := dig_bit A j u hu16
      have hd2 : dlen (r + r) ≤ m + 1 := by rw [hm]; exact dlen_dbl (by omega)
      have hd3 : dlen (r + r + 1) ≤ m + 1 := by rw [hm]; exact dlen_dbl (by omega)
      refine wp_cond_true rfl ?_
      refine wp_skip ?_
      refine hK28 _ _ ?_
      refine wp_block ?_
      refine wp_seq_k (fun K35 hK35 => ?_)
      refine wp_region_seq ?_
      refine wpL_move (v := .slice (some ⟨gr, 0, none⟩) rl grc) (by rfl) (by rfl) (by rfl) ?_
      simp only [putT, List.set]
      refine wpL_move (v := .slice (some ⟨gr, 0, none⟩) rl grc) (by rfl) (by rfl) (by rfl) ?_
      simp only [putT, List.set]
      refine wpL_callE (f := 48) (args := #[.slice (some ⟨gr, 0, none⟩) rl grc, .slice (some ⟨gr, 0, none⟩) rl grc]) (R := NewRow w31 (dlen (r + r)) (dl (dlen (r + r)) (r + r))) (by rfl) (by rfl) rfl Try.func48 (by kernel_rfl) (by kernel_rfl) (plus04_c (n := rl) (x := r) (m := rl) (y := r) (by omega) (by omega) (hrl ▸ dlen_lt r) (hrl ▸ dlen_lt r) Cgr Lgr Rgr_0 Cgr Lgr Rgr_0) (fun v9 w38 hv9 Sw38 => ?_)
      obtain ⟨g37, g37c, rfl, Cg37, Hg37, Lg37, Rg37_0⟩ := hv9
      have Ng0_g37 : g0 ≠ g37 := Nat.ne_of_lt (Nat.lt_of_lt_of_le Lg0 Hg37)
      have Ng1_g37 : g1 ≠ g37 := Nat.ne_of_lt (Nat.lt_of_lt_of_le Lg1 Hg37)
      have Ngr_g37 : gr ≠ g37 := Nat.ne_of_lt (Nat.lt_of_lt_of_le Lgr Hg37)
      have Gg37 : w.heap.size ≤ g37 := Nat.le_trans BE.size Hg37
      replace Rg0_0 := range_sees Rg0_0 Lg0 Sw38
      replace Rg1_0 := range_sees Rg1_0 Lg1 Sw38
      replace Rgr_0 := range_sees Rgr_0 Lgr Sw38
      replace Lg0 := Nat.lt_of_lt_of_le Lg0 Sw38.2.2.size
      replace Lg1 := Nat.lt_of_lt_of_le Lg1 Sw38.2.2.size
      replace Lgr := Nat.lt_of_lt_of_le Lgr Sw38.2.2.size
      replace BE := BE.trans (Sw38.2.2.mono BE.size)
      simp only [putT, List.set]
      refine wpL_assign (v := .slice (some ⟨g37, 0, none⟩) (dlen (r + r)) g37c) (by rfl) (by rfl) (by rfl) ?_
      simp only [putT, List.set]
      refine wpL_nil (no_panic ?_)
      refine hK35 _ _ ?_
      refine wp_seq_k (fun K39 hK39 => ?_)
      refine wp_seq_k (fun K40 hK40 => ?_)
      refine wp_region_plain 8 (by kernel_rfl) (fun Lk hLk => ?_)
      simp only [List.take, List.drop]
      refine wpV_move (v := .slice (some ⟨g0, 0, none⟩) n cg0) (by rfl) rfl rfl ?_
      simp only [putT, List.set]
      refine wpV_move (v := .int .i64 ((j : Nat) : Int)) (by rfl) rfl rfl ?_
      simp only [putT, List.set]
      refine wpV_idxs (n := j) (by rfl) rfl rfl rfl Try.underlying60 info3 (by omega) ?_
      simp only [Nat.zero_add]
      simp only [putT, List.set]
      refine wpV_load1 (v := .int .i64 ((digN A j : Nat) : Int)) (by rfl) rfl rfl (by have := Rg0_0 _ _ (dl_get (j := j) n A (by omega)); rwa [Nat.zero_add] at this) Lg0 Try.underlying3 rfl ?_
      simp only [putT, List.set]
      refine wpV_move (v := .int .i64 ((2 ^ u : Nat) : Int)) (by rfl) rfl rfl ?_
      simp only [putT, List.set]
      refine wpV_bin (v := .int .i64 ((digN A j / 2 ^ u : Nat) : Int)) (by rfl) rfl rfl rfl (fun W => run_quo (by omega) ((congrArg _ (tdiv_nat (digN A j) (2 ^ u))).trans (wrap_nat _ (Nat.lt_of_le_of_lt (Nat.div_le_self _ _) (Nat.lt_trans (digN_lt A j) (by decide))))) W) ?_
      simp only [putT, List.set]
      refine wpV_bin (v := .int .i64 (((digN A j / 2 ^ u) % 2 : Nat) : Int)) (by rfl) rfl rfl rfl (fun W => run_rem (by decide) (tmod_nat (digN A j / 2 ^ u) 2) W) ?_
      simp only [putT, List.set]
      refine wpV_bin (v := .bool ((((digN A j / 2 ^ u) % 2 : Nat) : Int) == 1)) (by rfl) rfl rfl rfl (fun W => run_eql _ _ _ _ W) ?_
      simp only [putT, List.set]
      refine wpV_nil (hLk.out _ ?_)
      clear hLk Lk
      simp only [List.take, List.drop]
      iterate 8 refine wpN_skip (by rfl) ?_
      refine wpN_nil (fun w42 Sw42 hbs => ?_)
      clear hbs
      replace Rg0_0 := range_sees Rg0_0 Lg0 Sw42
      replace Rg1_0 := range_sees Rg1_0 Lg1 Sw42
      replace Rgr_0 := range_sees Rgr_0 Lgr Sw42
      replace Rg37_0 := range_sees Rg37_0 Lg37 Sw42
      replace Lg0 := Nat.lt_of_lt_of_le Lg0 Sw42.2.2.size
      replace Lg1 := Nat.lt_of_lt_of_le Lg1 Sw42.2.2.size
      replace Lgr := Nat.lt_of_lt_of_le Lgr Sw42.2.2.size
      replace Lg37 := Nat.lt_of_lt_of_le Lg37 Sw42.2.2.size
      replace BE := BE.trans (Sw42.2.2.mono BE.size)
      refine wpL_nil (no_panic ?_)
      refine hK40 _ _ ?_
      cases hc43 : ((((digN A j / 2 ^ u) % 2 : Nat) : Int) == 1)
      · skip
        have hb : A / 2 ^ (16 * j + u) % 2 = 0 := by rw [← hdb]; have h9 : ¬ digN A j / 2 ^ u % 2 = 1 := (fun e => by rw [e] at hc43; simp at hc43); omega
        have hs : r + r = 2 * r + A / 2 ^ (16 * j + u) % 2 := by omega
        have hs2 := gmod_lt (A := A) (M := M) (e := 16 * j + u) hM hr hs
        refine wp_cond_false rfl ?_
        refine wp_skip ?_
        refine hK39 _ _ ?_
        refine wp_seq_k (fun K44 hK44 => ?_)
        refine wp_region_plain 1 (by kernel_rfl) (fun Lk hLk => ?_)
        simp only [List.take, List.drop]
        refine wpV_move (v := .slice (some ⟨g37, 0, none⟩) (dlen (r + r)) g37c) (by rfl) rfl rfl ?_
        simp only [putT, List.set]
        refine wpV_nil (hLk.out _ ?_)
        clear hLk Lk
        simp only [List.take, List.drop]
        iterate 1 refine wpN_skip (by rfl) ?_
        refine wpN_nil (fun w46 Sw46 hbs => ?_)
        clear hbs
        replace Rg0_0 := range_sees Rg0_0 Lg0 Sw46
        replace Rg1_0 := range_sees Rg1_0 Lg1 Sw46
        replace Rgr_0 := range_sees Rgr_0 Lgr Sw46
        replace Rg37_0 := range_sees Rg37_0 Lg37 Sw46
        replace Lg0 := Nat.lt_of_lt_of_le Lg0 Sw46.2.2.size
        replace Lg1 := Nat.lt_of_lt_of_le Lg1 Sw46.2.2.size
        replace Lgr := Nat.lt_of_lt_of_le Lgr Sw46.2.2.size
        replace Lg37 := Nat.lt_of_lt_of_le Lg37 Sw46.2.2.size
        replace BE := BE.trans (Sw46.2.2.mono BE.size)
        refine wpL_assign (v := .slice (some ⟨g37, 0, none⟩) (dlen (r + r)) g37c) (by rfl) (by rfl) (by rfl) ?_
        simp only [putT, List.set]
        refine wpL_nil (no_panic ?_)
        refine hK44 _ _ ?_
        refine wp_seq_k (fun K47 hK47 => ?_)
        refine wp_seq_k (fun K48 hK48 => ?_)
        refine wp_region_plain 4 (by kernel_rfl) (fun Lk hLk => ?_)
        simp only [List.take, List.drop]
        refine wpV_move (v := .slice (some ⟨g37, 0, none⟩) (dlen (r + r)) g37c) (by rfl) rfl rfl ?_
        simp only [putT, List.set]
        refine wpV_move (v := .slice (some ⟨g1, 0, none⟩) m cg1) (by rfl) rfl rfl ?_
        simp only [putT, List.set]
        refine wpV_callf (v := .bool (decide ((r + r) < M))) (args := #[.slice (some ⟨g37, 0, none⟩) (dlen (r + r)) g37c, .slice (some ⟨g1, 0, none⟩) m cg1]) (by rfl) rfl Try.func63 (by kernel_rfl) (by kernel_rfl) rfl (fun W hW => less_c (n := dlen (r + r)) (x := (r + r)) (m := m) (y := M) (by omega) rfl hm Cg37 (Nat.lt_of_lt_of_le Lg37 hW.2.2.size) (range_sees Rg37_0 Lg37 hW) hcg1 (Nat.lt_of_lt_of_le Lg1 hW.2.2.size) (range_sees Rg1_0 Lg1 hW)) ?_
        simp only [putT, List.set]
        refine wpV_not (b := decide ((r + r) < M)) (by rfl) rfl rfl ?_
        simp only [putT, List.set]
        refine wpV_nil (hLk.out _ ?_)
        clear hLk Lk
        simp only [List.take, List.drop]
        iterate 4 refine wpN_skip (by rfl) ?_
        refine wpN_nil (fun w50 Sw50 hbs => ?_)
        clear hbs
        replace Rg0_0 := range_sees Rg0_0 Lg0 Sw50
        replace Rg1_0 := range_sees Rg1_0 Lg1 Sw50
        replace Rgr_0 := range_sees Rgr_0 Lgr Sw50
        replace Rg37_0 := range_sees Rg37_0 Lg37 Sw50
        replace Lg0 := Nat.lt_of_lt_of_le Lg0 Sw50.2.2.size
        replace Lg1 := Nat.lt_of_lt_of_le Lg1 Sw50.2.2.size
        replace Lgr := Nat.lt_of_lt_of_le Lgr Sw50.2.2.size
        replace Lg37 := Nat.lt_of_lt_of_le Lg37 Sw50.2.2.size
        replace BE := BE.trans (Sw50.2.2.mono BE.size)
        refine wpL_nil (no_panic ?_)
        refine hK48 _ _ ?_
        cases hc51 : (!(decide ((r + r) < M)))
        · skip
          have hlt : r + r < M := by have h9 := hc51; simp at h9; omega
          have hfin := gmod_no hM hr hs hlt
          skip
          refine wp_cond_false rfl ?_
          refine wp_skip ?_
          refine hK47 _ _ ?_
          refine wp_region_plain 2 (by kernel_rfl) (fun Lk hLk => ?_)
          simp only [List.take, List.drop]
          refine wpV_move (v := .int .i64 ((2 ^ u : Nat) : Int)) (by rfl) rfl rfl ?_
          simp only [putT, List.set]
          refine wpV_bin (v := .int .i64 ((2 ^ u / 2 : Nat) : Int)) (by rfl) rfl rfl rfl (fun W => run_quo (by decide) ((congrArg _ (tdiv_nat (2 ^ u) 2)).trans (wrap_nat _ (by omega))) W) ?_
          simp only [putT, List.set]
          refine wpV_nil (hLk.out _ ?_)
          clear hLk Lk
          simp only [List.take, List.drop]
          iterate 2 refine wpN_skip (by rfl) ?_
          refine wpN_nil (fun w53 Sw53 hbs => ?_)
          clear hbs
          replace Rg0_0 := range_sees Rg0_0 Lg0 Sw53
          replace Rg1_0 := range_sees Rg1_0 Lg1 Sw53
          replace Rgr_0 := range_sees Rgr_0 Lgr Sw53
          replace Rg37_0 := range_sees Rg37_0 Lg37 Sw53
          replace Lg0 := Nat.lt_of_lt_of_le Lg0 Sw53.2.2.size
          replace Lg1 := Nat.lt_of_lt_of_le Lg1 Sw53.2.2.size
          replace Lgr := Nat.lt_of_lt_of_le Lgr Sw53.2.2.size
          replace Lg37 := Nat.lt_of_lt_of_le Lg37 Sw53.2.2.size
          replace BE := BE.trans (Sw53.2.2.mono BE.size)
          refine wpL_assign (v := .int .i64 ((2 ^ u / 2 : Nat) : Int)) (by rfl) (by rfl) (by rfl) ?_
          simp only [putT, List.set]
          refine wpL_nil (no_panic ?_)
          refine Exists.intro _ ⟨?_, u, (dlen (r + r)), (r + r), g37, g37c, (fun q9 => (#[undef, undef, undef, undef, undef, undef, undef, undef, .slice (some ⟨g37, 0, none⟩) (dlen (r + r)) g37c, undef, undef, undef, undef, undef, undef, undef, undef, .int .i64 ((2 ^ u : Nat) : Int), .bool true, .slice (some ⟨gr, 0, none⟩) rl grc, .slice (some ⟨gr, 0, none⟩) rl grc, .slice (some ⟨g37, 0, none⟩) (dlen (r + r)) g37c, .slice (some ⟨g0, 0, none⟩) n cg0, .int .i64 ((j : Nat) : Int), .pointer (some ⟨g0, j, none⟩), .int .i64 ((digN A j : Nat) : Int), .int .i64 ((2 ^ u : Nat) : Int), .int .i64 ((digN A j / 2 ^ u : Nat) : Int), .int .i64 (((digN A j / 2 ^ u) % 2 : Nat) : Int), .bool false, u26 30, u26 31, u26 32, .slice (some ⟨g37, 0, none⟩) (dlen (r + r)) g37c, .slice (some ⟨g37, 0, none⟩) (dlen (r + r)) g37c, .slice (some ⟨g1, 0, none⟩) m cg1, .bool (decide ((r + r) < M)), .bool false, u26 38, u26 39, u26 40, .int .i64 ((2 ^ u : Nat) : Int), .int .i64 ((2 ^ u / 2 : Nat) : Int)] : Array Value).getD q9 undef), rfl, rfl, BE, Rg0_0, Lg0, Rg1_0, Lg1, Rg37_0, Lg37, Cg37, Gg37, Ng0_g37, Ng1_g37, (by omega), rfl, hfin⟩
          omega
        · skip
          have hlt : ¬ r + r < M := by have h9 := hc51; simp at h9; omega
          have hfin := gmod_yes hM hr hs hlt
          have hsub : r + r - M < M := by omega
          refine wp_cond_true rfl ?_
          refine wp_region_seq ?_
          refine wpL_move (v := .slice (some ⟨g37, 0, none⟩) (dlen (r + r)) g37c) (by rfl) (by rfl) (by rfl) ?_
          simp only [putT, List.set]
          refine wpL_move (v := .slice (some ⟨g1, 0, none⟩) m cg1) (by rfl) (by rfl) (by rfl) ?_
          simp only [putT, List.set]
          refine wpL_callE (f := 55) (args := #[.slice (some ⟨g37, 0, none⟩) (dlen (r + r)) g37c, .slice (some ⟨g1, 0, none⟩) m cg1]) (R := NewRow w50 (dlen ((r + r) - M)) (dl (dlen ((r + r) - M)) ((r + r) - M))) (by rfl) (by rfl) rfl Try.func55 (by kernel_rfl) (by kernel_rfl) (minus04_c (n := dlen (r + r)) (x := (r + r)) (m := m) (y := M) (by omega) (by omega) (dlen_lt _) (hm ▸ dlen_lt M) (by omega) Cg37 Lg37 Rg37_0 hcg1 Lg1 Rg1_0) (fun v9 w56 hv9 Sw56 => ?_)
          obtain ⟨g55, g55c, rfl, Cg55, Hg55, Lg55, Rg55_0⟩ := hv9
          have Ng0_g55 : g0 ≠ g55 := Nat.ne_of_lt (Nat.lt_of_lt_of_le Lg0 Hg55)
          have Ng1_g55 : g1 ≠ g55 := Nat.ne_of_lt (Nat.lt_of_lt_of_le Lg1 Hg55)
          have Ngr_g55 : gr ≠ g55 := Nat.ne_of_lt (Nat.lt_of_lt_of_le Lgr Hg55)
          have Ng37_g55 : g37 ≠ g55 := Nat.ne_of_lt (Nat.lt_of_lt_of_le Lg37 Hg55)
          have Gg55 : w.heap.size ≤ g55 := Nat.le_trans BE.size Hg55
          replace Rg0_0 := range_sees Rg0_0 Lg0 Sw56
          replace Rg1_0 := range_sees Rg1_0 Lg1 Sw56
          replace Rgr_0 := range_sees Rgr_0 Lgr Sw56
          replace Rg37_0 := range_sees Rg37_0 Lg37 Sw56
          replace Lg0 := Nat.lt_of_lt_of_le Lg0 Sw56.2.2.size
          replace Lg1 := Nat.lt_of_lt_of_le Lg1 Sw56.2.2.size
          replace Lgr := Nat.lt_of_lt_of_le Lgr Sw56.2.2.size
          replace Lg37 := Nat.lt_of_lt_of_le Lg37 Sw56.2.2.size
          replace BE := BE.trans (Sw56.2.2.mono BE.size)
          simp only [putT, List.set]
          refine wpL_assign (v := .slice (some ⟨g55, 0, none⟩) (dlen ((r + r) - M)) g55c) (by rfl) (by rfl) (by rfl) ?_
          simp only [putT, List.set]
          refine wpL_nil (no_panic ?_)
          refine hK47 _ _ ?_
          refine wp_region_plain 2 (by kernel_rfl) (fun Lk hLk => ?_)
          simp only [List.take, List.drop]
          refine wpV_move (v := .int .i64 ((2 ^ u : Nat) : Int)) (by rfl) rfl rfl ?_
          simp only [putT, List.set]
          refine wpV_bin (v := .int .i64 ((2 ^ u / 2 : Nat) : Int)) (by rfl) rfl rfl rfl (fun W => run_quo (by decide) ((congrArg _ (tdiv_nat (2 ^ u) 2)).trans (wrap_nat _ (by omega))) W) ?_
          simp only [putT, List.set]
          refine wpV_nil (hLk.out _ ?_)
          clear hLk Lk
          simp only [List.take, List.drop]
          iterate 2 refine wpN_skip (by rfl) ?_
          refine wpN_nil (fun w58 Sw58 hbs => ?_)
          clear hbs
          replace Rg0_0 := range_sees Rg0_0 Lg0 Sw58
          replace Rg1_0 := range_sees Rg1_0 Lg1 Sw58
          replace Rgr_0 := range_sees Rgr_0 Lgr Sw58
          replace Rg37_0 := range_sees Rg37_0 Lg37 Sw58
          replace Rg55_0 := range_sees Rg55_0 Lg55 Sw58
          replace Lg0 := Nat.lt_of_lt_of_le Lg0 Sw58.2.2.size
          replace Lg1 := Nat.lt_of_lt_of_le Lg1 Sw58.2.2.size
          replace Lgr := Nat.lt_of_lt_of_le Lgr Sw58.2.2.size
          replace Lg37 := Nat.lt_of_lt_of_le Lg37 Sw58.2.2.size
          replace Lg55 := Nat.lt_of_lt_of_le Lg55 Sw58.2.2.size
          replace BE := BE.trans (Sw58.2.2.mono BE.size)
          refine wpL_assign (v := .int .i64 ((2 ^ u / 2 : Nat) : Int)) (by rfl) (by rfl) (by rfl) ?_
          simp only [putT, List.set]
          refine wpL_nil (no_panic ?_)
          refine Exists.intro _ ⟨?_, u, (dlen (r + r - M)), (r + r - M), g55, g55c, (fun q9 => (#[undef, undef, undef, undef, undef, undef, undef, undef, .slice (some ⟨g37, 0, none⟩) (dlen (r + r)) g37c, undef, undef, undef, undef, undef, undef, undef, undef, .int .i64 ((2 ^ u : Nat) : Int), .bool true, .slice (some ⟨gr, 0, none⟩) rl grc, .slice (some ⟨gr, 0, none⟩) rl grc, .slice (some ⟨g37, 0, none⟩) (dlen (r + r)) g37c, .slice (some ⟨g0, 0, none⟩) n cg0, .int .i64 ((j : Nat) : Int), .pointer (some ⟨g0, j, none⟩), .int .i64 ((digN A j : Nat) : Int), .int .i64 ((2 ^ u : Nat) : Int), .int .i64 ((digN A j / 2 ^ u : Nat) : Int), .int .i64 (((digN A j / 2 ^ u) % 2 : Nat) : Int), .bool false, u26 30, u26 31, u26 32, .slice (some ⟨g37, 0, none⟩) (dlen (r + r)) g37c, .slice (some ⟨g37, 0, none⟩) (dlen (r + r)) g37c, .slice (some ⟨g1, 0, none⟩) m cg1, .bool (decide ((r + r) < M)), .bool true, .slice (some ⟨g37, 0, none⟩) (dlen (r + r)) g37c, .slice (some ⟨g1, 0, none⟩) m cg1, .slice (some ⟨g55, 0, none⟩) (dlen ((r + r) - M)) g55c, .int .i64 ((2 ^ u : Nat) : Int), .int .i64 ((2 ^ u / 2 : Nat) : Int)] : Array Value).getD q9 undef), rfl, rfl, BE, Rg0_0, Lg0, Rg1_0, Lg1, Rg55_0, Lg55, Cg55, Gg55, Ng0_g55, Ng1_g55, (by omega), rfl, hfin⟩
          omega
      · skip
        have hb : A / 2 ^ (16 * j + u) % 2 = 1 := by rw [← hdb]; have := beq_iff_eq.1 hc43; omega
        have hs : r + r + 1 = 2 * r + A / 2 ^ (16 * j + u) % 2 := by omega
        have hs2 := gmod_lt (A := A) (M := M) (e := 16 * j + u) hM hr hs
        refine wp_cond_true rfl ?_
        refine wp_region_seq ?_
        refine wpL_move (v := .slice (some ⟨g37, 0, none⟩) (dlen (r + r)) g37c) (by rfl) (by rfl) (by rfl) ?_
        simp only [putT, List.set]
        refine wpL_row1 (z := .int .i64 0) (bytes := 8) (n := 1) (by rfl) (by rfl) (by rfl) Try.underlying60 (by kernel_rfl) rfl (fun g60 w61 Sw61 Hg60 Bg60 => ?_)
        have Ng0_g60 : g0 ≠ g60 := Nat.ne_of_lt (Nat.lt_of_lt_of_le Lg0 Hg60)
        have Ng1_g60 : g1 ≠ g60 := Nat.ne_of_lt (Nat.lt_of_lt_of_le Lg1 Hg60)
        have Ngr_g60 : gr ≠ g60 := Nat.ne_of_lt (Nat.lt_of_lt_of_le Lgr Hg60)
        have Ng37_g60 : g37 ≠ g60 := Nat.ne_of_lt (Nat.lt_of_lt_of_le Lg37 Hg60)
        have Gg60 : w.heap.size ≤ g60 := Nat.le_trans BE.size Hg60
        replace Rg0_0 := range_sees Rg0_0 Lg0 Sw61
        replace Rg1_0 := range_sees Rg1_0 Lg1 Sw61
        replace Rgr_0 := range_sees Rgr_0 Lgr Sw61
        replace Rg37_0 := range_sees Rg37_0 Lg37 Sw61
        replace Lg0 := Nat.lt_of_lt_of_le Lg0 Sw61.2.2.size
        replace Lg1 := Nat.lt_of_lt_of_le Lg1 Sw61.2.2.size
        replace Lgr := Nat.lt_of_lt_of_le Lgr Sw61.2.2.size
        replace Lg37 := Nat.lt_of_lt_of_le Lg37 Sw61.2.2.size
        replace BE := BE.trans (Sw61.2.2.mono BE.size)
        have Tg60 := blk_there Bg60 (n := 1) (by rfl)
        have Rg60_0 := blk_range Bg60 (l := [.int .i64 1]) rfl
        replace Rg60_0 : World.rangeAt w61 g60 0 (dl 1 1) := by rw [dl_one (v := 1) (by omega)]; exact Rg60_0
        have Lg60 := Bg60.lt
        clear Bg60
        simp only [putT, List.set]
        refine wpL_callE (f := 48) (args := #[.slice (some ⟨g37, 0, none⟩) (dlen (r + r)) g37c, .slice (some ⟨g60, 0, none⟩) 1 1]) (R := NewRow w61 (dlen ((r + r) + 1)) (dl (dlen ((r + r) + 1)) ((r + r) + 1))) (by rfl) (by rfl) rfl Try.func48 (by kernel_rfl) (by kernel_rfl) (plus04_c (n := dlen (r + r)) (x := (r + r)) (m := 1) (y := 1) (by omega) (by omega) (dlen_lt _) (by decide) Cg37 Lg37 Rg37_0 (Nat.le_refl _) Lg60 Rg60_0) (fun v9 w63 hv9 Sw63 => ?_)
        obtain ⟨g62, g62c, rfl, Cg62, Hg62, Lg62, Rg62_0⟩ := hv9
        have Ng0_g62 : g0 ≠ g62 := Nat.ne_of_lt (Nat.lt_of_lt_of_le Lg0 Hg62)
        have Ng1_g62 : g1 ≠ g62 := Nat.ne_of_lt (Nat.lt_of_lt_of_le Lg1 Hg62)
        have Ngr_g62 : gr ≠ g62 := Nat.ne_of_lt (Nat.lt_of_lt_of_le Lgr Hg62)
        have Ng37_g62 : g37 ≠ g62 := Nat.ne_of_lt (Nat.lt_of_lt_of_le Lg37 Hg62)
        have Ng60_g62 : g60 ≠ g62 := Nat.ne_of_lt (Nat.lt_of_lt_of_le Lg60 Hg62)
        have Gg62 : w.heap.size ≤ g62 := Nat.le_trans BE.size Hg62
        replace Rg0_0 := range_sees Rg0_0 Lg0 Sw63
        replace Rg1_0 := range_sees Rg1_0 Lg1 Sw63
        replace Rgr_0 := range_sees Rgr_0 Lgr Sw63
        replace Rg37_0 := range_sees Rg37_0 Lg37 Sw63
        replace Rg60_0 := range_sees Rg60_0 Lg60 Sw63
        replace Tg60 := there_sees Tg60 Lg60 Sw63
        replace Lg0 := Nat.lt_of_lt_of_le Lg0 Sw63.2.2.size
        replace Lg1 := Nat.lt_of_lt_of_le Lg1 Sw63.2.2.size
        replace Lgr := Nat.lt_of_lt_of_le Lgr Sw63.2.2.size
        replace Lg37 := Nat.lt_of_lt_of_le Lg37 Sw63.2.2.size
        replace Lg60 := Nat.lt_of_lt_of_le Lg60 Sw63.2.2.size
        replace BE := BE.trans (Sw63.2.2.mono BE.size)
        simp only [putT, List.set]
        refine wpL_assign (v := .slice (some ⟨g62, 0, none⟩) (dlen ((r + r) + 1)) g62c) (by rfl) (by rfl) (by rfl) ?_
        simp only [putT, List.set]
        refine wpL_nil (no_panic ?_)
        refine hK39 _ _ ?_
        refine wp_seq_k (fun K64 hK64 => ?_)
        refine wp_region_plain 1 (by kernel_rfl) (fun Lk hLk => ?_)
        simp only [List.take, List.drop]
        refine wpV_move (v := .slice (some ⟨g62, 0, none⟩) (dlen ((r + r) + 1)) g62c) (by rfl) rfl rfl ?_
        simp only [putT, List.set]
        refine wpV_nil (hLk.out _ ?_)
        clear hLk Lk
        simp only [List.take, List.drop]
        iterate 1 refine wpN_skip (by rfl) ?_
        refine wpN_nil (fun w66 Sw66 hbs => ?_)
        clear hbs
        replace Rg0_0 := range_sees Rg0_0 Lg0 Sw66
        replace Rg1_0 := range_sees Rg1_0 Lg1 Sw66
        replace Rgr_0 := range_sees Rgr_0 Lgr Sw66
        replace Rg37_0 := range_sees Rg37_0 Lg37 Sw66
        replace Rg60_0 := range_sees Rg60_0 Lg60 Sw66
        replace Tg60 := there_sees Tg60 Lg60 Sw66
        replace Rg62_0 := range_sees Rg62_0 Lg62 Sw66
        replace Lg0 := Nat.lt_of_lt_of_le Lg0 Sw66.2.2.size
        replace Lg1 := Nat.lt_of_lt_of_le Lg1 Sw66.2.2.size
        replace Lgr := Nat.lt_of_lt_of_le Lgr Sw66.2.2.size
        replace Lg37 := Nat.lt_of_lt_of_le Lg37 Sw66.2.2.size
        replace Lg60 := Nat.lt_of_lt_of_le Lg60 Sw66.2.2.size
        replace Lg62 := Nat.lt_of_lt_of_le Lg62 Sw66.2.2.size
        replace BE := BE.trans (Sw66.2.2.mono BE.size)
        refine wpL_assign (v := .slice (some ⟨g62, 0, none⟩) (dlen ((r + r) + 1)) g62c) (by rfl) (by rfl) (by rfl) ?_
        simp only [putT, List.set]
        refine wpL_nil (no_panic ?_)
        refine hK64 _ _ ?_
        refine wp_seq_k (fun K67 hK67 => ?_)
        refine wp_seq_k (fun K68 hK68 => ?_)
        refine wp_region_plain 4 (by kernel_rfl) (fun Lk hLk => ?_)
        simp only [List.take, List.drop]
        refine wpV_move (v := .slice (some ⟨g62, 0, none⟩) (dlen ((r + r) + 1)) g62c) (by rfl) rfl rfl ?_
        simp only [putT, List.set]
        refine wpV_move (v := .slice (some ⟨g1, 0, none⟩) m cg1) (by rfl) rfl rfl ?_
        simp only [putT, List.set]
        refine wpV_callf (v := .bool (decide (((r + r) + 1) < M))) (args := #[.slice (some ⟨g62, 0, none⟩) (dlen ((r + r) + 1)) g62c, .slice (some ⟨g1, 0, none⟩) m cg1]) (by rfl) rfl Try.func63 (by kernel_rfl) (by kernel_rfl) rfl (fun W hW => less_c (n := dlen ((r + r) + 1)) (x := ((r + r) + 1)) (m := m) (y := M) (by omega) rfl hm Cg62 (Nat.lt_of_lt_of_le Lg62 hW.2.2.size) (range_sees Rg62_0 Lg62 hW) hcg1 (Nat.lt_of_lt_of_le Lg1 hW.2.2.size) (range_sees Rg1_0 Lg1 hW)) ?_
        simp only [putT, List.set]
        refine wpV_not (b := decide (((r + r) + 1) < M)) (by rfl) rfl rfl ?_
        simp only [putT, List.set]
        refine wpV_nil (hLk.out _ ?_)
        clear hLk Lk
        simp only [List.take, List.drop]
        iterate 4 refine wpN_skip (by rfl) ?_
        refine wpN_nil (fun w70 Sw70 hbs => ?_)
        clear hbs
        replace Rg0_0 := range_sees Rg0_0 Lg0 Sw70
        replace Rg1_0 := range_sees Rg1_0 Lg1 Sw70
        replace Rgr_0 := range_sees Rgr_0 Lgr Sw70
        replace Rg37_0 := range_sees Rg37_0 Lg37 Sw70
        replace Rg60_0 := range_sees Rg60_0 Lg60 Sw70
        replace Tg60 := there_sees Tg60 Lg60 Sw70
        replace Rg62_0 := range_sees Rg62_0 Lg62 Sw70
        replace Lg0 := Nat.lt_of_lt_of_le Lg0 Sw70.2.2.size
        replace Lg1 := Nat.lt_of_lt_of_le Lg1 Sw70.2.2.size
        replace Lgr := Nat.lt_of_lt_of_le Lgr Sw70.2.2.size
        replace Lg37 := Nat.lt_of_lt_of_le Lg37 Sw70.2.2.size
        replace Lg60 := Nat.lt_of_lt_of_le Lg60 Sw70.2.2.size
        replace Lg62 := Nat.lt_of_lt_of_le Lg62 Sw70.2.2.size
        replace BE := BE.trans (Sw70.2.2.mono BE.size)
        refine wpL_nil (no_panic ?_)
        refine hK68 _ _ ?_
        cases hc71 : (!(decide (((r + r) + 1) < M)))
        · skip
          have hlt : r + r + 1 < M := by have h9 := hc71; simp at h9; omega
          have hfin := gmod_no hM hr hs hlt
          skip
          refine wp_cond_false rfl ?_
          refine wp_skip ?_
          refine hK67 _ _ ?_
          refine wp_region_plain 2 (by kernel_rfl) (fun Lk hLk => ?_)
          simp only [List.take, List.drop]
          refine wpV_move (v := .int .i64 ((2 ^ u : Nat) : Int)) (by rfl) rfl rfl ?_
          simp only [putT, List.set]
          refine wpV_bin (v := .int .i64 ((2 ^ u / 2 : Nat) : Int)) (by rfl) rfl rfl rfl (fun W => run_quo (by decide) ((congrArg _ (tdiv_nat (2 ^ u) 2)).trans (wrap_nat _ (by omega))) W) ?_
          simp only [putT, List.set]
          refine wpV_nil (hLk.out _ ?_)
          clear hLk Lk
          simp only [List.take, List.drop]
          iterate 2 refine wpN_skip (by rfl) ?_
          refine wpN_nil (fun w73 Sw73 hbs => ?_)
          clear hbs
          replace Rg0_0 := range_sees Rg0_0 Lg0 Sw73
          replace Rg1_0 := range_sees Rg1_0 Lg1 Sw73
          replace Rgr_0 := range_sees Rgr_0 Lgr Sw73
          replace Rg37_0 := range_sees Rg37_0 Lg37 Sw73
          replace Rg60_0 := range_sees Rg60_0 Lg60 Sw73
          replace Tg60 := there_sees Tg60 Lg60 Sw73
          replace Rg62_0 := range_sees Rg62_0 Lg62 Sw73
          replace Lg0 := Nat.lt_of_lt_of_le Lg0 Sw73.2.2.size
          replace Lg1 := Nat.lt_of_lt_of_le Lg1 Sw73.2.2.size
          replace Lgr := Nat.lt_of_lt_of_le Lgr Sw73.2.2.size
          replace Lg37 := Nat.lt_of_lt_of_le Lg37 Sw73.2.2.size
          replace Lg60 := Nat.lt_of_lt_of_le Lg60 Sw73.2.2.size
          replace Lg62 := Nat.lt_of_lt_of_le Lg62 Sw73.2.2.size
          replace BE := BE.trans (Sw73.2.2.mono BE.size)
          refine wpL_assign (v := .int .i64 ((2 ^ u / 2 : Nat) : Int)) (by rfl) (by rfl) (by rfl) ?_
          simp only [putT, List.set]
          refine wpL_nil (no_panic ?_)
          refine Exists.intro _ ⟨?_, u, (dlen (r + r + 1)), (r + r + 1), g62, g62c, (fun q9 => (#[undef, undef, undef, undef, undef, undef, undef, undef, .slice (some ⟨g62, 0, none⟩) (dlen ((r + r) + 1)) g62c, undef, undef, undef, undef, undef, undef, undef, undef, .int .i64 ((2 ^ u : Nat) : Int), .bool true, .slice (some ⟨gr, 0, none⟩) rl grc, .slice (some ⟨gr, 0, none⟩) rl grc, .slice (some ⟨g37, 0, none⟩) (dlen (r + r)) g37c, .slice (some ⟨g0, 0, none⟩) n cg0, .int .i64 ((j : Nat) : Int), .pointer (some ⟨g0, j, none⟩), .int .i64 ((digN A j : Nat) : Int), .int .i64 ((2 ^ u : Nat) : Int), .int .i64 ((digN A j / 2 ^ u : Nat) : Int), .int .i64 (((digN A j / 2 ^ u) % 2 : Nat) : Int), .bool true, .slice (some ⟨g37, 0, none⟩) (dlen (r + r)) g37c, .slice (some ⟨g60, 0, none⟩) 1 1, .slice (some ⟨g62, 0, none⟩) (dlen ((r + r) + 1)) g62c, .slice (some ⟨g62, 0, none⟩) (dlen ((r + r) + 1)) g62c, .slice (some ⟨g62, 0, none⟩) (dlen ((r + r) + 1)) g62c, .slice (some ⟨g1, 0, none⟩) m cg1, .bool (decide (((r + r) + 1) < M)), .bool false, u26 38, u26 39, u26 40, .int .i64 ((2 ^ u : Nat) : Int), .int .i64 ((2 ^ u / 2 : Nat) : Int)] : Array Value).getD q9 undef), rfl, rfl, BE, Rg0_0, Lg0, Rg1_0, Lg1, Rg62_0, Lg62, Cg62, Gg62, Ng0_g62, Ng1_g62, (by omega), rfl, hfin⟩
          omega
        · skip
          have hlt : ¬ r + r + 1 < M := by have h9 := hc71; simp at h9; omega
          have hfin := gmod_yes hM hr hs hlt
          have hsub : r + r + 1 - M < M := by omega
          refine wp_cond_true rfl ?_
          refine wp_region_seq ?_
          refine wpL_move (v := .slice (some ⟨g62, 0, none⟩) (dlen ((r + r) + 1)) g62c) (by rfl) (by rfl) (by rfl) ?_
          simp only [putT, List.set]
          refine wpL_move (v := .slice (some ⟨g1, 0, none⟩) m cg1) (by rfl) (by rfl) (by rfl) ?_
          simp only [putT, List.set]
          refine wpL_callE (f := 55) (args := #[.slice (some ⟨g62, 0, none⟩) (dlen ((r + r) + 1)) g62c, .slice (some ⟨g1, 0, none⟩) m cg1]) (R := NewRow w70 (dlen (((r + r) + 1) - M)) (dl (dlen (((r + r) + 1) - M)) (((r + r) + 1) - M))) (by rfl) (by rfl) rfl Try.func55 (by kernel_rfl) (by kernel_rfl) (minus04_c (n := dlen ((r + r) + 1)) (x := ((r + r) + 1)) (m := m) (y := M) (by omega) (by omega) (dlen_lt _) (hm ▸ dlen_lt M) (by omega) Cg62 Lg62 Rg62_0 hcg1 Lg1 Rg1_0) (fun v9 w76 hv9 Sw76 => ?_)
          obtain ⟨g75, g75c, rfl, Cg75, Hg75, Lg75, Rg75_0⟩ := hv9
          have Ng0_g75 : g0 ≠ g75 := Nat.ne_of_lt (Nat.lt_of_lt_of_le Lg0 Hg75)
          have Ng1_g75 : g1 ≠ g75 := Nat.ne_of_lt (Nat.lt_of_lt_of_le Lg1 Hg75)
          have Ngr_g75 : gr ≠ g75 := Nat.ne_of_lt (Nat.lt_of_lt_of_le Lgr Hg75)
          have Ng37_g75 : g37 ≠ g75 := Nat.ne_of_lt (Nat.lt_of_lt_of_le Lg37 Hg75)
          have Ng60_g75 : g60 ≠ g75 := Nat.ne_of_lt (Nat.lt_of_lt_of_le Lg60 Hg75)
          have Ng62_g75 : g62 ≠ g75 := Nat.ne_of_lt (Nat.lt_of_lt_of_le Lg62 Hg75)
          have Gg75 : w.heap.size ≤ g75 := Nat.le_trans BE.size Hg75
          replace Rg0_0 := range_sees Rg0_0 Lg0 Sw76
          replace Rg1_0 := range_sees Rg1_0 Lg1 Sw76
          replace Rgr_0 := range_sees Rgr_0 Lgr Sw76
          replace Rg37_0 := range_sees Rg37_0 Lg37 Sw76
          replace Rg60_0 := range_sees Rg60_0 Lg60 Sw76
          replace Tg60 := there_sees Tg60 Lg60 Sw76
          replace Rg62_0 := range_sees Rg62_0 Lg62 Sw76
          replace Lg0 := Nat.lt_of_lt_of_le Lg0 Sw76.2.2.size
          replace Lg1 := Nat.lt_of_lt_of_le Lg1 Sw76.2.2.size
          replace Lgr := Nat.lt_of_lt_of_le Lgr Sw76.2.2.size
          replace Lg37 := Nat.lt_of_lt_of_le Lg37 Sw76.2.2.size
          replace Lg60 := Nat.lt_of_lt_of_le Lg60 Sw76.2.2.size
          replace Lg62 := Nat.lt_of_lt_of_le Lg62 Sw76.2.2.size
          replace BE := BE.trans (Sw76.2.2.mono BE.size)
          simp only [putT, List.set]
          refine wpL_assign (v := .slice (some ⟨g75, 0, none⟩) (dlen (((r + r) + 1) - M)) g75c) (by rfl) (by rfl) (by rfl) ?_
          simp only [putT, List.set]
          refine wpL_nil (no_panic ?_)
          refine hK67 _ _ ?_
          refine wp_region_plain 2 (by kernel_rfl) (fun Lk hLk => ?_)
          simp only [List.take, List.drop]
          refine wpV_move (v := .int .i64 ((2 ^ u : Nat) : Int)) (by rfl) rfl rfl ?_
          simp only [putT, List.set]
          refine wpV_bin (v := .int .i64 ((2 ^ u / 2 : Nat) : Int)) (by rfl) rfl rfl rfl (fun W => run_quo (by decide) ((congrArg _ (tdiv_nat (2 ^ u) 2)).trans (wrap_nat _ (by omega))) W) ?_
          simp only [putT, List.set]
          refine wpV_nil (hLk.out _ ?_)
          clear hLk Lk
          simp only [List.take, List.drop]
          iterate 2 refine wpN_skip (by rfl) ?_
          refine wpN_nil (fun w78 Sw78 hbs => ?_)
          clear hbs
          replace Rg0_0 := range_sees Rg0_0 Lg0 Sw78
          replace Rg1_0 := range_sees Rg1_0 Lg1 Sw78
          replace Rgr_0 := range_sees Rgr_0 Lgr Sw78
          replace Rg37_0 := range_sees Rg37_0 Lg37 Sw78
          replace Rg60_0 := range_sees Rg60_0 Lg60 Sw78
          replace Tg60 := there_sees Tg60 Lg60 Sw78
          replace Rg62_0 := range_sees Rg62_0 Lg62 Sw78
          replace Rg75_0 := range_sees Rg75_0 Lg75 Sw78
          replace Lg0 := Nat.lt_of_lt_of_le Lg0 Sw78.2.2.size
          replace Lg1 := Nat.lt_of_lt_of_le Lg1 Sw78.2.2.size
          replace Lgr := Nat.lt_of_lt_of_le Lgr Sw78.2.2.size
          replace Lg37 := Nat.lt_of_lt_of_le Lg37 Sw78.2.2.size
          replace Lg60 := Nat.lt_of_lt_of_le Lg60 Sw78.2.2.size
          replace Lg62 := Nat.lt_of_lt_of_le Lg62 Sw78.2.2.size
          replace Lg75 := Nat.lt_of_lt_of_le Lg75 Sw78.2.2.size
          replace BE := BE.trans (Sw78.2.2.mono BE.size)
          refine wpL_assign (v := .int .i64 ((2 ^ u / 2 : Nat) : Int)) (by rfl) (by rfl) (by rfl) ?_
          simp only [putT, List.set]
          refine wpL_nil (no_panic ?_)
          refine Exists.intro _ ⟨?_, u, (dlen (r + r + 1 - M)), (r + r + 1 - M), g75, g75c, (fun q9 => (#[undef, undef, undef, undef, undef, undef, undef, undef, .slice (some ⟨g62, 0, none⟩) (dlen ((r + r) + 1)) g62c, undef, undef, undef, undef, undef, undef, undef, undef, .int .i64 ((2 ^ u : Nat) : Int), .bool true, .slice (some ⟨gr, 0, none⟩) rl grc, .slice (some ⟨gr, 0, none⟩) rl grc, .slice (some ⟨g37, 0, none⟩) (dlen (r + r)) g37c, .slice (some ⟨g0, 0, none⟩) n cg0, .int .i64 ((j : Nat) : Int), .pointer (some ⟨g0, j, none⟩), .int .i64 ((digN A j : Nat) : Int), .int .i64 ((2 ^ u : Nat) : Int), .int .i64 ((digN A j / 2 ^ u : Nat) : Int), .int .i64 (((digN A j / 2 ^ u) % 2 : Nat) : Int), .bool true, .slice (some ⟨g37, 0, none⟩) (dlen (r + r)) g37c, .slice (some ⟨g60, 0, none⟩) 1 1, .slice (some ⟨g62, 0, none⟩) (dlen ((r + r) + 1)) g62c, .slice (some ⟨g62, 0, none⟩) (dlen ((r + r) + 1)) g62c, .slice (some ⟨g62, 0, none⟩) (dlen ((r + r) + 1)) g62c, .slice (some ⟨g1, 0, none⟩) m cg1, .bool (decide (((r + r) + 1) < M)), .bool true, .slice (some ⟨g62, 0, none⟩) (dlen ((r + r) + 1)) g62c, .slice (some ⟨g1, 0, none⟩) m cg1, .slice (some ⟨g75, 0, none⟩) (dlen (((r + r) + 1) - M)) g75c, .int .i64 ((2 ^ u : Nat) : Int), .int .i64 ((2 ^ u / 2 : Nat) : Int)] : Array Value).getD q9 undef), rfl, rfl, BE, Rg0_0, Lg0, Rg1_0, Lg1, Rg75_0, Lg75, Cg75, Gg75, Ng0_g75, Ng1_g75, (by omega), rfl, hfin⟩
          omega
end Go.Proofs.Ya
