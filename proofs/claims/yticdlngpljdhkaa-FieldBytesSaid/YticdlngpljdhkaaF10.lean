import Derived.Test.YticdlngpljdhkaaF9
import Derived.Test.YticdlngpljdhkaaSteps5
set_option linter.unusedSimpArgs false
set_option linter.unusedVariables false
namespace Go.Proofs.Ya
open Go Go.RowKit Go.Shelf Go.Proofs.Num
theorem info3 : (Try.prog.info? 3).map (·.size) = some 1 := by kernel_rfl
set_option maxHeartbeats 1000000 in
theorem trim_c {n x g o cg : Nat} {w : World} (hn : n ≤ 100000) (hx : x < 65536 ^ n) (hcg : n ≤ cg) (Lg : g < w.heap.size) (Rg_o : w.rangeAt g o (dl n x)) :
    Calls Try.prog 57 #[.slice (some ⟨g, o, none⟩) n cg] w fun e w' => e = .returned (.slice (some ⟨g, o, none⟩) (dlen x) cg) ∧ Below w.heap.size w w' := by
  go_enter Try.func57, Try.ntmps57
  have BE := Below.refl w.heap.size w
  refine wp_seq_k (fun K1 hK1 => ?_)
  refine wp_region_plain 0 (by kernel_rfl) (fun Lk hLk => ?_)
  simp only [List.take, List.drop]
  refine wpV_nil (hLk.out _ ?_)
  clear hLk Lk
  simp only [List.take, List.drop]
  refine wpN_nil (fun w3 Sw3 hbs => ?_)
  clear hbs
  replace Rg_o := range_sees Rg_o Lg Sw3
  replace Lg := Nat.lt_of_lt_of_le Lg Sw3.2.2.size
  replace BE := BE.trans (Sw3.2.2.mono BE.size)
  refine wpL_assign (v := (.slice none 0 0)) (by rfl) (by rfl) (by rfl) ?_
  simp only [putT, List.set]
  refine wpL_nil (no_panic ?_)
  refine hK1 _ _ ?_
  refine wp_seq_k (fun K4 hK4 => ?_)
  refine wp_region_plain 2 (by kernel_rfl) (fun Lk hLk => ?_)
  simp only [List.take, List.drop]
  refine wpV_move (v := .slice (some ⟨g, o, none⟩) n cg) (by rfl) rfl rfl ?_
  simp only [putT, List.set]
  refine wpV_lenA (n := n) (by rfl) rfl rfl rfl Try.underlying60 ?_
  simp only [putT, List.set]
  refine wpV_nil (hLk.out _ ?_)
  clear hLk Lk
  simp only [List.take, List.drop]
  iterate 2 refine wpN_skip (by rfl) ?_
  refine wpN_nil (fun w6 Sw6 hbs => ?_)
  clear hbs
  replace Rg_o := range_sees Rg_o Lg Sw6
  replace Lg := Nat.lt_of_lt_of_le Lg Sw6.2.2.size
  replace BE := BE.trans (Sw6.2.2.mono BE.size)
  refine wpL_assign (v := .int .i64 ((n : Nat) : Int)) (by rfl) (by rfl) (by rfl) ?_
  simp only [putT, List.set]
  refine wpL_nil (no_panic ?_)
  refine hK4 _ _ ?_
  refine wp_seq_k (fun K7 hK7 => ?_)
  refine wp_block ?_
  refine wp_loop_ghost (fun n9 a9 W9 => ∃ (k : Nat) (u8 : Nat → Value), n9 = 2 * k ∧ a9 = { tmps := #[.slice (some ⟨g, o, none⟩) n cg, undef, (.slice none 0 0), .int .i64 ((k : Nat) : Int), .slice (some ⟨g, o, none⟩) n cg, .int .i64 ((n : Nat) : Int), u8 6, u8 7, u8 8, u8 9, u8 10, u8 11, u8 12, u8 13, u8 14, u8 15, u8 16, u8 17, undef, undef, undef], defers := [] } ∧ Below w.heap.size w W9 ∧ World.rangeAt W9 g o (dl n x) ∧ g < W9.heap.size ∧ (dlen x ≤ k) ∧ (k ≤ n)) (2 * (n)) ?_ (fun n9 a9 W9 hI => ?_)
  · exact ⟨n, (fun q9 => (#[undef, undef, undef, undef, undef, undef, undef, undef, undef, undef, undef, undef, undef, undef, undef, undef, undef, undef] : Array Value).getD q9 undef), rfl, rfl, BE, Rg_o, Lg, ((dlen_le _ _).2 hx), (Nat.le_refl _)⟩
  clear BE Rg_o Lg
  obtain ⟨k, u8, rfl, rfl, BE, Rg_o, Lg, hk, hkn⟩ := hI
  obtain ⟨w9, rfl⟩ : ∃ W8, W8 = W9 := ⟨_, rfl⟩
  refine wp_seq_k (fun K10 hK10 => ?_)
  refine wp_seq_k (fun K11 hK11 => ?_)
  rcases k with _ | j
  · skip
    refine wp_region_plain 10 (by kernel_rfl) (fun Lk hLk => ?_)
    simp only [List.take, List.drop]
    refine wpV_move (v := .int .i64 ((0 : Nat) : Int)) (by rfl) rfl rfl ?_
    simp only [putT, List.set]
    refine wpV_bin (v := .bool false) (by rfl) rfl rfl rfl (fun W => run_gtr _ _ _ _ W) ?_
    simp only [putT, List.set]
    refine wpV_move (v := .bool false) (by rfl) rfl rfl ?_
    simp only [putT, List.set]
    refine wpV_skip (by rfl) (by rfl) ?_
    simp only [putT, List.set]
    refine wpV_skip (by rfl) (by rfl) ?_
    simp only [putT, List.set]
    refine wpV_skip (by rfl) (by rfl) ?_
    simp only [putT, List.set]
    refine wpV_skip (by rfl) (by rfl) ?_
    simp only [putT, List.set]
    refine wpV_skip (by rfl) (by rfl) ?_
    simp only [putT, List.set]
    refine wpV_skip (by rfl) (by rfl) ?_
    simp only [putT, List.set]
    refine wpV_pick (v := .bool false) (by rfl) rfl rfl rfl ?_
    simp only [putT, List.set]
    refine wpV_nil (hLk.out _ ?_)
    clear hLk Lk
    simp only [List.take, List.drop]
    iterate 10 refine wpN_skip (by rfl) ?_
    refine wpN_nil (fun w13 Sw13 hbs => ?_)
    clear hbs
    replace Rg_o := range_sees Rg_o Lg Sw13
    replace Lg := Nat.lt_of_lt_of_le Lg Sw13.2.2.size
    replace BE := BE.trans (Sw13.2.2.mono BE.size)
    refine wpL_nil (no_panic ?_)
    refine hK11 _ _ ?_
    refine wp_cond_false rfl ?_
    refine wp_exit ?_
    refine hK7 _ _ ?_
    refine wp_seq_k (fun K14 hK14 => ?_)
    have eK : dlen x = 0 := Nat.le_zero.1 hk
    refine wp_region_plain 3 (by kernel_rfl) (fun Lk hLk => ?_)
    simp only [List.take, List.drop]
    refine wpV_move (v := .slice (some ⟨g, o, none⟩) n cg) (by rfl) rfl rfl ?_
    simp only [putT, List.set]
    refine wpV_move (v := .int .i64 ((0 : Nat) : Int)) (by rfl) rfl rfl ?_
    simp only [putT, List.set]
    refine wpV_sliceH (hi := 0) (by rfl) rfl rfl rfl Try.underlying60 info3 (by omega) ?_
    simp only [putT, List.set]
    refine wpV_nil (hLk.out _ ?_)
    clear hLk Lk
    simp only [List.take, List.drop]
    iterate 3 refine wpN_skip (by rfl) ?_
    refine wpN_nil (fun w16 Sw16 hbs => ?_)
    clear hbs
    replace Rg_o := range_sees Rg_o Lg Sw16
    replace Lg := Nat.lt_of_lt_of_le Lg Sw16.2.2.size
    replace BE := BE.trans (Sw16.2.2.mono BE.size)
    refine wpL_assign (v := .slice (some ⟨g, o, none⟩) 0 cg) (by rfl) (by rfl) (by rfl) ?_
    simp only [putT, List.set]
    refine wpL_nil (no_panic ?_)
    refine hK14 _ _ ?_
    refine wp_ret ?_
    repeat (first | with_reducible refine then_ret ?_ | with_reducible refine inblock_ret ?_)
    refine bodyPost_ret (v := .slice (some ⟨g, o, none⟩) 0 cg) (res1 rfl (.tmp (by rfl))) rfl ?_
    exact ⟨by rw [eK], BE⟩
  · skip
    refine wp_region_plain 10 (by kernel_rfl) (fun Lk hLk => ?_)
    simp only [List.take, List.drop]
    refine wpV_move (v := .int .i64 (((j + 1) : Nat) : Int)) (by rfl) rfl rfl ?_
    simp only [putT, List.set]
    refine wpV_bin (v := .bool true) (by rfl) rfl rfl rfl (fun W => (run_gtrN _ _ _ _ W).trans (by simp)) ?_
    simp only [putT, List.set]
    refine wpV_move (v := .bool true) (by rfl) rfl rfl ?_
    simp only [putT, List.set]
    refine wpV_move (v := .slice (some ⟨g, o, none⟩) n cg) (by rfl) rfl rfl ?_
    simp only [putT, List.set]
    refine wpV_move (v := .int .i64 (((j + 1) : Nat) : Int)) (by rfl) rfl rfl ?_
    simp only [putT, List.set]
    refine wpV_bin (v := .int .i64 ((j : Nat) : Int)) (by rfl) rfl rfl rfl (fun W => run_sub (by simp only [IntKind.wrap_i64]; omega) W) ?_
    simp only [putT, List.set]
    refine wpV_idxs (n := j) (by rfl) rfl rfl rfl Try.underlying60 info3 (by omega) ?_
    simp only [putT, List.set]
    refine wpV_load1 (v := .int .i64 ((digN x j : Nat) : Int)) (by rfl) rfl rfl (Rg_o _ _ (dl_get (j := j) n x (by omega))) Lg Try.underlying3 rfl ?_
    simp only [putT, List.set]
    refine wpV_bin (v := .bool (((digN x j : Nat) : Int) == 0)) (by rfl) rfl rfl rfl (fun W => run_eql _ _ _ _ W) ?_
    simp only [putT, List.set]
    refine wpV_pick (v := .bool (((digN x j : Nat) : Int) == 0)) (by rfl) rfl rfl rfl ?_
    simp only [putT, List.set]
    refine wpV_nil (hLk.out _ ?_)
    clear hLk Lk
    simp only [List.take, List.drop]
    iterate 10 refine wpN_skip (by rfl) ?_
    refine wpN_nil (fun w18 Sw18 hbs => ?_)
    clear hbs
    replace Rg_o := range_sees Rg_o Lg Sw18
    replace Lg := Nat.lt_of_lt_of_le Lg Sw18.2.2.size
    replace BE := BE.trans (Sw18.2.2.mono BE.size)
    refine wpL_nil (no_panic ?_)
    refine hK11 _ _ ?_
    cases hc19 : (((digN x j : Nat) : Int) == 0)
    · skip
      have hd : digN x j ≠ 0 := by intro e; rw [e] at hc19; simp at hc19
      refine wp_cond_false rfl ?_
      refine wp_exit ?_
      refine hK7 _ _ ?_
      refine wp_seq_k (fun K20 hK20 => ?_)
      have eK : dlen x = (j + 1) := trim_end hk hd
      refine wp_region_plain 3 (by kernel_rfl) (fun Lk hLk => ?_)
      simp only [List.take, List.drop]
      refine wpV_move (v := .slice (some ⟨g, o, none⟩) n cg) (by rfl) rfl rfl ?_
      simp only [putT, List.set]
      refine wpV_move (v := .int .i64 (((j + 1) : Nat) : Int)) (by rfl) rfl rfl ?_
      simp only [putT, List.set]
      refine wpV_sliceH (hi := (j + 1)) (by rfl) rfl rfl rfl Try.underlying60 info3 (by omega) ?_
      simp only [putT, List.set]
      refine wpV_nil (hLk.out _ ?_)
      clear hLk Lk
      simp only [List.take, List.drop]
      iterate 3 refine wpN_skip (by rfl) ?_
      refine wpN_nil (fun w22 Sw22 hbs => ?_)
      clear hbs
      replace Rg_o := range_sees Rg_o Lg Sw22
      replace Lg := Nat.lt_of_lt_of_le Lg Sw22.2.2.size
      replace BE := BE.trans (Sw22.2.2.mono BE.size)
      refine wpL_assign (v := .slice (some ⟨g, o, none⟩) (j + 1) cg) (by rfl) (by rfl) (by rfl) ?_
      simp only [putT, List.set]
      refine wpL_nil (no_panic ?_)
      refine hK20 _ _ ?_
      refine wp_ret ?_
      repeat (first | with_reducible refine then_ret ?_ | with_reducible refine inblock_ret ?_)
      refine bodyPost_ret (v := .slice (some ⟨g, o, none⟩) (j + 1) cg) (res1 rfl (.tmp (by rfl))) rfl ?_
      exact ⟨by rw [eK], BE⟩
    · skip
      have hd : digN x j = 0 := by have := beq_iff_eq.1 hc19; omega
      refine wp_cond_true rfl ?_
      refine wp_skip ?_
      refine hK10 _ _ ?_
      refine wp_block ?_
      refine wp_region_plain 2 (by kernel_rfl) (fun Lk hLk => ?_)
      simp only [List.take, List.drop]
      refine wpV_move (v := .int .i64 (((j + 1) : Nat) : Int)) (by rfl) rfl rfl ?_
      simp only [putT, List.set]
      refine wpV_bin (v := .int .i64 ((j : Nat) : Int)) (by rfl) rfl rfl rfl (fun W => run_sub (by simp only [IntKind.wrap_i64]; omega) W) ?_
      simp only [putT, List.set]
      refine wpV_nil (hLk.out _ ?_)
      clear hLk Lk
      simp only [List.take, List.drop]
      iterate 2 refine wpN_skip (by rfl) ?_
      refine wpN_nil (fun w24 Sw24 hbs => ?_)
      clear hbs
      replace Rg_o := range_sees Rg_o Lg Sw24
      replace Lg := Nat.lt_of_lt_of_le Lg Sw24.2.2.size
      replace BE := BE.trans (Sw24.2.2.mono BE.size)
      refine wpL_assign (v := .int .i64 ((j : Nat) : Int)) (by rfl) (by rfl) (by rfl) ?_
      simp only [putT, List.set]
      refine wpL_nil (no_panic ?_)
      refine Exists.intro _ ⟨?_, j, (fun q9 => (#[undef, undef, undef, undef, undef, undef, .int .i64 (((j + 1) : Nat) : Int), .bool true, .bool true, .slice (some ⟨g, o, none⟩) n cg, .int .i64 (((j + 1) : Nat) : Int), .int .i64 ((j : Nat) : Int), .pointer (some ⟨g, o + j, none⟩), .int .i64 ((digN x j : Nat) : Int), .bool true, .bool true, .int .i64 (((j + 1) : Nat) : Int), .int .i64 ((j : Nat) : Int)] : Array Value).getD q9 undef), rfl, rfl, BE, Rg_o, Lg, (trim_step hk hd), (by omega)⟩
      omega
end Go.Proofs.Ya
