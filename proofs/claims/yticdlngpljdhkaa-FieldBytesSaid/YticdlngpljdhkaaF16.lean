import Derived.Test.YticdlngpljdhkaaF15
set_option linter.unusedSimpArgs false
set_option linter.unusedVariables false
namespace Go.Proofs.Ya
open Go Go.RowKit Go.Shelf Go.Proofs.Num
set_option maxHeartbeats 2000000 in
theorem fold_c {n x g0 cg0 : Nat} {w : World} (hn : n ≤ 500) (hx : x < 65536 ^ n) (hcg0 : n ≤ cg0) (Lg0 : g0 < w.heap.size) (Rg0_0 : w.rangeAt g0 0 (dl n x)) :
    Calls Try.prog 52 #[.slice (some ⟨g0, 0, none⟩) n cg0] w fun e w' => e = .returned (fe (leastF x)) ∧ Below w.heap.size w w' := by
  go_enter Try.func52, Try.ntmps52
  have BE := Below.refl w.heap.size w
  refine wp_seq_k (fun K1 hK1 => ?_)
  refine wp_region_plain 1 (by kernel_rfl) (fun Lk hLk => ?_)
  simp only [List.take, List.drop]
  refine wpV_alloc (by rfl) ?_
  refine wpV_nil (hLk.out _ ?_)
  clear hLk Lk
  simp only [List.take, List.drop]
  refine wpN_new (t := 23) (cs := ([.int .u64 0, .int .u64 0, .int .u64 0, .int .u64 0]).toArray) (by rfl) (fun W => ?_) (fun g3 Hg3 ng3 => ?_)
  · go_simp
  simp only [putT, List.set]
  refine wpN_nil (fun w4 Sw4 hbs => ?_)
  have Bg3 : Blk w4 g3 23 ([.int .u64 0, .int .u64 0, .int .u64 0, .int .u64 0]).toArray := hbs _ (List.mem_cons_self ..)
  clear hbs
  have Ng0_g3 : g0 ≠ g3 := Nat.ne_of_lt (Nat.lt_of_lt_of_le Lg0 Hg3)
  have Gg3 : w.heap.size ≤ g3 := Nat.le_trans BE.size Hg3
  replace Rg0_0 := range_sees Rg0_0 Lg0 Sw4
  replace Lg0 := Nat.lt_of_lt_of_le Lg0 Sw4.2.2.size
  replace BE := BE.trans (Sw4.2.2.mono BE.size)
  have Tg3 := blk_there Bg3 (n := 4) (by simp [flen])
  have Rg3_0 := blk_range Bg3 (l := [.int .u64 0, .int .u64 0, .int .u64 0, .int .u64 0]) rfl
  have Lg3 := Bg3.lt
  clear ng3 Bg3
  refine wpL_nil (no_panic ?_)
  refine hK1 _ _ ?_
  refine wp_seq_k (fun K5 hK5 => ?_)
  refine wp_region_plain 2 (by kernel_rfl) (fun Lk hLk => ?_)
  simp only [List.take, List.drop]
  refine wpV_move (v := .slice (some ⟨g0, 0, none⟩) n cg0) (by rfl) rfl rfl ?_
  simp only [putT, List.set]
  refine wpV_callf (v := .slice (some ⟨g0, 0, none⟩) (dlen x) cg0) (args := #[.slice (some ⟨g0, 0, none⟩) n cg0]) (by rfl) rfl Try.func57 (by kernel_rfl) (by kernel_rfl) rfl (fun W hW => trim_c (x := x) (by omega) hx hcg0 (Nat.lt_of_lt_of_le Lg0 hW.2.2.size) (range_sees Rg0_0 Lg0 hW)) ?_
  simp only [putT, List.set]
  refine wpV_nil (hLk.out _ ?_)
  clear hLk Lk
  simp only [List.take, List.drop]
  iterate 2 refine wpN_skip (by rfl) ?_
  refine wpN_nil (fun w7 Sw7 hbs => ?_)
  clear hbs
  replace Rg0_0 := range_sees Rg0_0 Lg0 Sw7
  replace Rg3_0 := range_sees Rg3_0 Lg3 Sw7
  replace Tg3 := there_sees Tg3 Lg3 Sw7
  replace Lg0 := Nat.lt_of_lt_of_le Lg0 Sw7.2.2.size
  replace Lg3 := Nat.lt_of_lt_of_le Lg3 Sw7.2.2.size
  replace BE := BE.trans (Sw7.2.2.mono BE.size)
  refine wpL_assign (v := .slice (some ⟨g0, 0, none⟩) (dlen x) cg0) (by rfl) (by rfl) (by rfl) ?_
  simp only [putT, List.set]
  refine wpL_nil (no_panic ?_)
  refine hK5 _ _ ?_
  refine wp_seq_k (fun K8 hK8 => ?_)
  refine wp_block ?_
  refine wp_loop_ghost (fun n9 a9 W9 => ∃ (dn : Nat) (d : Nat) (gd : Nat) (gdc : Nat) (u9 : Nat → Value), n9 = 2 * d ∧ a9 = { tmps := #[.slice (some ⟨gd, 0, none⟩) dn gdc, undef, .pointer (some ⟨g3, 0, none⟩), u9 3, undef, .slice (some ⟨g0, 0, none⟩) n cg0, .slice (some ⟨g0, 0, none⟩) (dlen x) cg0, u9 7, u9 8, u9 9, u9 10, u9 11, u9 12, u9 13, u9 14, u9 15, u9 16, u9 17, u9 18, undef, undef, undef, undef, undef, undef, undef, undef, undef, undef], defers := [] } ∧ Below w.heap.size w W9 ∧ World.rangeAt W9 g3 0 ([.int .u64 0, .int .u64 0, .int .u64 0, .int .u64 0]) ∧ World.there W9 g3 0 4 ∧ g3 < W9.heap.size ∧ World.rangeAt W9 gd 0 (dl dn d) ∧ gd < W9.heap.size ∧ dn ≤ gdc ∧ g3 ≠ gd ∧ (dn = dlen d) ∧ (d % pF = x % pF) ∧ (d ≤ x)) (2 * (x)) ?_ (fun n9 a9 W9 hI => ?_)
  · exact ⟨(dlen x), x, g0, cg0, (fun q9 => (#[undef, undef, undef, undef, undef, undef, undef, undef, undef, undef, undef, undef, undef, undef, undef, undef, undef, undef, undef] : Array Value).getD q9 undef), rfl, rfl, BE, Rg3_0, Tg3, Lg3, (range_dl_take (m := dlen x) Rg0_0 ((dlen_le _ _).2 hx)), Lg0, (Nat.le_trans ((dlen_le _ _).2 hx) hcg0), (Ne.symm Ng0_g3), rfl, rfl, (Nat.le_refl _)⟩
  clear BE Rg0_0 Rg3_0 Tg3 Lg0 Lg3
  obtain ⟨dn, d, gd, gdc, u9, rfl, rfl, BE, Rg3_0, Tg3, Lg3, Rgd_0, Lgd, Cgd, Ng3_gd, hdn, hmod, hdx⟩ := hI
  obtain ⟨w10, rfl⟩ : ∃ W8, W8 = W9 := ⟨_, rfl⟩
  have hdn9 : dn ≤ n := by rw [hdn]; exact Nat.le_trans (dlen_mono hdx) ((dlen_le _ _).2 hx)
  refine wp_seq_k (fun K11 hK11 => ?_)
  refine wp_seq_k (fun K12 hK12 => ?_)
  refine wp_region_plain 3 (by kernel_rfl) (fun Lk hLk => ?_)
  simp only [List.take, List.drop]
  refine wpV_move (v := .slice (some ⟨gd, 0, none⟩) dn gdc) (by rfl) rfl rfl ?_
  simp only [putT, List.set]
  refine wpV_lenA (n := dn) (by rfl) rfl rfl rfl Try.underlying60 ?_
  simp only [putT, List.set]
  refine wpV_bin (v := .bool (decide (16 < dn))) (by rfl) rfl rfl rfl (fun W => run_gtrN dn 16 _ _ W) ?_
  simp only [putT, List.set]
  refine wpV_nil (hLk.out _ ?_)
  clear hLk Lk
  simp only [List.take, List.drop]
  iterate 3 refine wpN_skip (by rfl) ?_
  refine wpN_nil (fun w14 Sw14 hbs => ?_)
  clear hbs
  replace Rg3_0 := range_sees Rg3_0 Lg3 Sw14
  replace Tg3 := there_sees Tg3 Lg3 Sw14
  replace Rgd_0 := range_sees Rgd_0 Lgd Sw14
  replace Lg3 := Nat.lt_of_lt_of_le Lg3 Sw14.2.2.size
  replace Lgd := Nat.lt_of_lt_of_le Lgd Sw14.2.2.size
  replace BE := BE.trans (Sw14.2.2.mono BE.size)
  refine wpL_nil (no_panic ?_)
  refine hK12 _ _ ?_
  cases hc15 : (decide (16 < dn))
  · skip
    have hd16 : dn ≤ 16 := Nat.le_of_not_lt (of_decide_eq_false hc15)
    refine wp_cond_false rfl ?_
    refine wp_exit ?_
    refine hK8 _ _ ?_
    refine wp_seq_k (fun K16 hK16 => ?_)
    refine wp_region_seq ?_
    refine wpL_callE (f := 56) (args := #[]) (R := NewRow w14 16 (dl 16 pF)) (by rfl) (by rfl) rfl Try.func56 (by kernel_rfl) (by kernel_rfl) (prime04_c) (fun v9 w19 hv9 Sw19 => ?_)
    obtain ⟨g18, g18c, rfl, Cg18, Hg18, Lg18, Rg18_0⟩ := hv9
    have Ng3_g18 : g3 ≠ g18 := Nat.ne_of_lt (Nat.lt_of_lt_of_le Lg3 Hg18)
    have Ngd_g18 : gd ≠ g18 := Nat.ne_of_lt (Nat.lt_of_lt_of_le Lgd Hg18)
    have Gg18 : w.heap.size ≤ g18 := Nat.le_trans BE.size Hg18
    replace Rg3_0 := range_sees Rg3_0 Lg3 Sw19
    replace Tg3 := there_sees Tg3 Lg3 Sw19
    replace Rgd_0 := range_sees Rgd_0 Lgd Sw19
    replace Lg3 := Nat.lt_of_lt_of_le Lg3 Sw19.2.2.size
    replace Lgd := Nat.lt_of_lt_of_le Lgd Sw19.2.2.size
    replace BE := BE.trans (Sw19.2.2.mono BE.size)
    simp only [putT, List.set]
    refine wpL_assign (v := .slice (some ⟨g18, 0, none⟩) 16 g18c) (by rfl) (by rfl) (by rfl) ?_
    simp only [putT, List.set]
    refine wpL_nil (no_panic ?_)
    refine hK16 _ _ ?_
    refine wp_seq_k (fun K20 hK20 => ?_)
    refine wp_block ?_
    refine wp_loop_ghost (fun n9 a9 W9 => ∃ (en : Nat) (e : Nat) (ge : Nat) (gec : Nat) (u21 : Nat → Value), n9 = 2 * e ∧ a9 = { tmps := #[.slice (some ⟨ge, 0, none⟩) en gec, undef, .pointer (some ⟨g3, 0, none⟩), u9 3, .slice (some ⟨g18, 0, none⟩) 16 g18c, .slice (some ⟨g0, 0, none⟩) n cg0, .slice (some ⟨g0, 0, none⟩) (dlen x) cg0, .slice (some ⟨gd, 0, none⟩) dn gdc, .int .i64 ((dn : Nat) : Int), .bool false, u9 10, u9 11, u9 12, u9 13, u9 14, u9 15, u9 16, u9 17, u9 18, .slice (some ⟨g18, 0, none⟩) 16 g18c, u21 20, u21 21, u21 22, u21 23, u21 24, u21 25, u21 26, undef, undef], defers := [] } ∧ Below w.heap.size w W9 ∧ World.rangeAt W9 g3 0 ([.int .u64 0, .int .u64 0, .int .u64 0, .int .u64 0]) ∧ World.there W9 g3 0 4 ∧ g3 < W9.heap.size ∧ World.rangeAt W9 g18 0 (dl 16 pF) ∧ g18 < W9.heap.size ∧ World.rangeAt W9 ge 0 (dl en e) ∧ ge < W9.heap.size ∧ en ≤ gec ∧ g3 ≠ ge ∧ g18 ≠ ge ∧ (en = dlen e) ∧ (e % pF = x % pF) ∧ (en ≤ 16)) (2 * (d)) ?_ (fun n9 a9 W9 hI => ?_)
    · exact ⟨dn, d, gd, gdc, (fun q9 => (#[undef, undef, undef, undef, undef, undef, undef, undef, undef, undef, undef, undef, undef, undef, undef, undef, undef, undef, undef, undef, undef, undef, undef, undef, undef, undef, undef] : Array Value).getD q9 undef), rfl, rfl, BE, Rg3_0, Tg3, Lg3, Rg18_0, Lg18, Rgd_0, Lgd, Cgd, Ng3_gd, (Ne.symm Ngd_g18), hdn, hmod, hd16⟩
    clear BE Rg3_0 Rgd_0 Rg18_0 Tg3 Lg3 Lgd Lg18
    obtain ⟨en, e, ge, gec, u21, rfl, rfl, BE, Rg3_0, Tg3, Lg3, Rg18_0, Lg18, Rge_0, Lge, Cge, Ng3_ge, Ng18_ge, hen, hmod, hd16⟩ := hI
    obtain ⟨w22, rfl⟩ : ∃ W8, W8 = W9 := ⟨_, rfl⟩
    refine wp_seq_k (fun K23 hK23 => ?_)
    refine wp_seq_k (fun K24 hK24 => ?_)
    refine wp_region_plain 4 (by kernel_rfl) (fun Lk hLk => ?_)
    simp only [List.take, List.drop]
    refine wpV_move (v := .slice (some ⟨ge, 0, none⟩) en gec) (by rfl) rfl rfl ?_
    simp only [putT, List.set]
    refine wpV_move (v := .slice (some ⟨g18, 0, none⟩) 16 g18c) (by rfl) rfl rfl ?_
    simp only [putT, List.set]
    refine wpV_callf (v := .bool (decide (e < pF))) (args := #[.slice (some ⟨ge, 0, none⟩) en gec, .slice (some ⟨g18, 0, none⟩) 16 g18c]) (by rfl) rfl Try.func63 (by kernel_rfl) (by kernel_rfl) rfl (fun W hW => less_c (n := en) (x := e) (m := 16) (y := pF) (by omega) hen dlen_pF.symm Cge (Nat.lt_of_lt_of_le Lge hW.2.2.size) (range_sees Rge_0 Lge hW) Cg18 (Nat.lt_of_lt_of_le Lg18 hW.2.2.size) (range_sees Rg18_0 Lg18 hW)) ?_
    simp only [putT, List.set]
    refine wpV_not (b := decide (e < pF)) (by rfl) rfl rfl ?_
    simp only [putT, List.set]
    refine wpV_nil (hLk.out _ ?_)
    clear hLk Lk
    simp only [List.take, List.drop]
    iterate 4 refine wpN_skip (by rfl) ?_
    refine wpN_nil (fun w26 Sw26 hbs => ?_)
    clear hbs
    replace Rg3_0 := range_sees Rg3_0 Lg3 Sw26
    replace Tg3 := there_sees Tg3 Lg3 Sw26
    replace Rg18_0 := range_sees Rg18_0 Lg18 Sw26
    replace Rge_0 := range_sees Rge_0 Lge Sw26
    replace Lg3 := Nat.lt_of_lt_of_le Lg3 Sw26.2.2.size
    replace Lg18 := Nat.lt_of_lt_of_le Lg18 Sw26.2.2.size
    replace Lge := Nat.lt_of_lt_of_le Lge Sw26.2.2.size
    replace BE := BE.trans (Sw26.2.2.mono BE.size)
    refine wpL_nil (no_panic ?_)
    refine hK24 _ _ ?_
    cases hc27 : (!(decide (e < pF)))
    · skip
      have hlt : e < pF := by have h9 := hc27; simp at h9; exact h9
      refine wp_cond_false rfl ?_
      refine wp_exit ?_
      refine hK20 _ _ ?_
      refine wp_seq_k (fun K28 hK28 => ?_)
      refine wp_region_plain 2 (by kernel_rfl) (fun Lk hLk => ?_)
      simp only [List.take, List.drop]
      refine wpV_move (v := .slice (some ⟨ge, 0, none⟩) en gec) (by rfl) rfl rfl ?_
      simp only [putT, List.set]
      refine wpV_callf (v := fe e) (args := #[.slice (some ⟨ge, 0, none⟩) en gec]) (by rfl) rfl Try.func62 (by kernel_rfl) (by kernel_rfl) rfl (fun W hW => words_c (n := en) (x := e) (by omega) (hen ▸ dlen_lt e) Cge (Nat.lt_of_lt_of_le Lge hW.2.2.size) (range_sees Rge_0 Lge hW)) ?_
      simp only [putT, List.set]
      refine wpV_nil (hLk.out _ ?_)
      clear hLk Lk
      simp only [List.take, List.drop]
      iterate 2 refine wpN_skip (by rfl) ?_
      refine wpN_nil (fun w30 Sw30 hbs => ?_)
      clear hbs
      replace Rg3_0 := range_sees Rg3_0 Lg3 Sw30
      replace Tg3 := there_sees Tg3 Lg3 Sw30
      replace Rg18_0 := range_sees Rg18_0 Lg18 Sw30
      replace Rge_0 := range_sees Rge_0 Lge Sw30
      replace Lg3 := Nat.lt_of_lt_of_le Lg3 Sw30.2.2.size
      replace Lg18 := Nat.lt_of_lt_of_le Lg18 Sw30.2.2.size
      replace Lge := Nat.lt_of_lt_of_le Lge Sw30.2.2.size
      replace BE := BE.trans (Sw30.2.2.mono BE.size)
      refine wpL_store (g := g3) (off := 0) (n := 4) (cs := fel e) (by rfl) (by rfl) (by rfl) (by rfl) (by rfl) Tg3 (by simp [flen]) info23 (fel_one _) (fun w31 Pw31 RR TT => ?_)
      replace Rg18_0 := Pw31.range Rg18_0 (.inl (Ne.symm Ng3_g18))
      replace Rge_0 := Pw31.range Rge_0 (.inl (Ne.symm Ng3_ge))
      replace Rg3_0 := RR
      clear RR
      replace Tg3 := TT
      replace Lg3 := Pw31.lt Lg3
      replace Lg18 := Pw31.lt Lg18
      replace Lge := Pw31.lt Lge
      replace BE := Pw31.below BE Gg3
      refine wpL_nil (no_panic ?_)
      refine hK28 _ _ ?_
      refine wp_ret ?_
      repeat (first | with_reducible refine then_ret ?_ | with_reducible refine inblock_ret ?_)
      refine bodyPost_ret (v := fe e) (res1 rfl (.cell (by rfl) (run_loadVar_mid _ _ _ _ (fel e) _ Rg3_0 Try.underlying23 rfl info23))) rfl ?_
      exact ⟨by rw [show leastF x = e by unfold leastF; rw [← hmod, Nat.mod_eq_of_lt hlt]], BE⟩
    · skip
      have hge : pF ≤ e := by have h9 := hc27; simp at h9; exact h9
      refine wp_cond_true rfl ?_
      refine wp_skip ?_
      refine hK23 _ _ ?_
      refine wp_block ?_
      refine wp_region_seq ?_
      refine wpL_move (v := .slice (some ⟨ge, 0, none⟩) en gec) (by rfl) (by rfl) (by rfl) ?_
      simp only [putT, List.set]
      refine wpL_move (v := .slice (some ⟨g18, 0, none⟩) 16 g18c) (by rfl) (by rfl) (by rfl) ?_
      simp only [putT, List.set]
      refine wpL_callE (f := 55) (args := #[.slice (some ⟨ge, 0, none⟩) en gec, .slice (some ⟨g18, 0, none⟩) 16 g18c]) (R := NewRow w26 (dlen (e - pF)) (dl (dlen (e - pF)) (e - pF))) (by rfl) (by rfl) rfl Try.func55 (by kernel_rfl) (by kernel_rfl) (minus04_c (n := en) (x := e) (m := 16) (y := pF) (by omega) (by omega) (hen ▸ dlen_lt e) (by decide) hge Cge Lge Rge_0 Cg18 Lg18 Rg18_0) (fun v9 w34 hv9 Sw34 => ?_)
      obtain ⟨g33, g33c, rfl, Cg33, Hg33, Lg33, Rg33_0⟩ := hv9
      have Ng3_g33 : g3 ≠ g33 := Nat.ne_of_lt (Nat.lt_of_lt_of_le Lg3 Hg33)
      have Ng18_g33 : g18 ≠ g33 := Nat.ne_of_lt (Nat.lt_of_lt_of_le Lg18 Hg33)
      have Nge_g33 : ge ≠ g33 := Nat.ne_of_lt (Nat.lt_of_lt_of_le Lge Hg33)
      have Gg33 : w.heap.size ≤ g33 := Nat.le_trans BE.size Hg33
      replace Rg3_0 := range_sees Rg3_0 Lg3 Sw34
      replace Tg3 := there_sees Tg3 Lg3 Sw34
      replace Rg18_0 := range_sees Rg18_0 Lg18 Sw34
      replace Rge_0 := range_sees Rge_0 Lge Sw34
      replace Lg3 := Nat.lt_of_lt_of_le Lg3 Sw34.2.2.size
      replace Lg18 := Nat.lt_of_lt_of_le Lg18 Sw34.2.2.size
      replace Lge := Nat.lt_of_lt_of_le Lge Sw34.2.2.size
      replace BE := BE.trans (Sw34.2.2.mono BE.size)
      simp only [putT, List.set]
      refine wpL_assign (v := .slice (some ⟨g33, 0, none⟩) (dlen (e - pF)) g33c) (by rfl) (by rfl) (by rfl) ?_
      simp only [putT, List.set]
      refine wpL_nil (no_panic ?_)
      refine Exists.intro _ ⟨?_, (dlen (e - pF)), (e - pF), g33, g33c, (fun q9 => (#[undef, undef, undef, undef, undef, undef, undef, undef, undef, undef, undef, undef, undef, undef, undef, undef, undef, undef, undef, undef, .slice (some ⟨ge, 0, none⟩) en gec, .slice (some ⟨g18, 0, none⟩) 16 g18c, .bool (decide (e < pF)), .bool true, .slice (some ⟨ge, 0, none⟩) en gec, .slice (some ⟨g18, 0, none⟩) 16 g18c, .slice (some ⟨g33, 0, none⟩) (dlen (e - pF)) g33c] : Array Value).getD q9 undef), rfl, rfl, BE, Rg3_0, Tg3, Lg3, Rg18_0, Lg18, Rg33_0, Lg33, Cg33, Ng3_g33, Ng18_g33, rfl, (by rw [← hmod, Nat.mod_eq_sub_mod hge]), (Nat.le_trans (dlen_mono (Nat.sub_le _ _)) (hen ▸ hd16))⟩
      have h0 : 0 < pF := by decide
      omega
  · skip
    have h16 : 16 < dn := of_decide_eq_true hc15
    have hfl := fold_lt (hdn ▸ h16)
    have hdl := hdn ▸ dlen_lt d
    have hd1 := drop_lt 16 hdl (by omega)
    have hq1 : d / 65536 ^ 16 * 38 ≤ d := by omega
    have hq2 : dlen (d / 65536 ^ 16 * 38) ≤ dn := by rw [hdn]; exact dlen_mono hq1
    have hq3 : d % 65536 ^ 16 < 65536 ^ 16 := Nat.mod_lt _ (by decide)
    have hq4 : dlen (d % 65536 ^ 16) ≤ 16 := (dlen_le _ _).2 hq3
    refine wp_cond_true rfl ?_
    refine wp_skip ?_
    refine hK11 _ _ ?_
    refine wp_block ?_
    refine wp_seq_k (fun K35 hK35 => ?_)
    refine wp_region_seq ?_
    refine wpL_move (v := .slice (some ⟨gd, 0, none⟩) dn gdc) (by rfl) (by rfl) (by rfl) ?_
    simp only [putT, List.set]
    refine wpL_chunk 1 (by rfl) (fun Lk hLk => ?_)
    simp only [List.take, List.drop]
    refine wpV_sliceL (lo := 16) (by rfl) rfl rfl rfl Try.underlying60 info3 (by omega) Cgd (by have := Cgd; omega) ?_
    simp only [Nat.zero_add]
    simp only [putT, List.set]
    refine wpV_nil (hLk _ (fun w37 Sw37 => ?_))
    clear hLk Lk
    simp only [List.take, List.drop]
    replace Rg3_0 := range_sees Rg3_0 Lg3 Sw37
    replace Tg3 := there_sees Tg3 Lg3 Sw37
    replace Rgd_0 := range_sees Rgd_0 Lgd Sw37
    replace Lg3 := Nat.lt_of_lt_of_le Lg3 Sw37.2.2.size
    replace Lgd := Nat.lt_of_lt_of_le Lgd Sw37.2.2.size
    replace BE := BE.trans (Sw37.2.2.mono BE.size)
    refine wpL_row1 (z := .int .i64 0) (bytes := 8) (n := 38) (by rfl) (by rfl) (by rfl) Try.underlying60 (by kernel_rfl) rfl (fun g38 w39 Sw39 Hg38 Bg38 => ?_)
    have Ng3_g38 : g3 ≠ g38 := Nat.ne_of_lt (Nat.lt_of_lt_of_le Lg3 Hg38)
    have Ngd_g38 : gd ≠ g38 := Nat.ne_of_lt (Nat.lt_of_lt_of_le Lgd Hg38)
    have Gg38 : w.heap.size ≤ g38 := Nat.le_trans BE.size Hg38
    replace Rg3_0 := range_sees Rg3_0 Lg3 Sw39
    replace Tg3 := there_sees Tg3 Lg3 Sw39
    replace Rgd_0 := range_sees Rgd_0 Lgd Sw39
    replace Lg3 := Nat.lt_of_lt_of_le Lg3 Sw39.2.2.size
    replace Lgd := Nat.lt_of_lt_of_le Lgd Sw39.2.2.size
    replace BE := BE.trans (Sw39.2.2.mono BE.size)
    have Tg38 := blk_there Bg38 (n := 1) (by rfl)
    have Rg38_0 := blk_range Bg38 (l := [.int .i64 38]) rfl
    replace Rg38_0 : World.rangeAt w39 g38 0 (dl 1 38) := by rw [dl_one (v := 38) (by omega)]; exact Rg38_0
    have Lg38 := Bg38.lt
    clear Bg38
    simp only [putT, List.set]
    refine wpL_callE (f := 49) (args := #[.slice (some ⟨gd, 16, none⟩) (dn - 16) (gdc - 16), .slice (some ⟨g38, 0, none⟩) 1 1]) (R := NewRow w39 (dlen ((d / 65536 ^ 16) * 38)) (dl (dlen ((d / 65536 ^ 16) * 38)) ((d / 65536 ^ 16) * 38))) (by rfl) (by rfl) rfl Try.func49 (by kernel_rfl) (by kernel_rfl) (times04_c (n := dn - 16) (x := (d / 65536 ^ 16)) (m := 1) (y := 38) (by omega) (by omega) hd1 (by decide) (Nat.sub_le_sub_right Cgd _) Lgd (range_dl_drop 16 Rgd_0) (Nat.le_refl _) Lg38 Rg38_0) (fun v9 w41 hv9 Sw41 => ?_)
    obtain ⟨g40, g40c, rfl, Cg40, Hg40, Lg40, Rg40_0⟩ := hv9
    have Ng3_g40 : g3 ≠ g40 := Nat.ne_of_lt (Nat.lt_of_lt_of_le Lg3 Hg40)
    have Ngd_g40 : gd ≠ g40 := Nat.ne_of_lt (Nat.lt_of_lt_of_le Lgd Hg40)
    have Ng38_g40 : g38 ≠ g40 := Nat.ne_of_lt (Nat.lt_of_lt_of_le Lg38 Hg40)
    have Gg40 : w.heap.size ≤ g40 := Nat.le_trans BE.size Hg40
    replace Rg3_0 := range_sees Rg3_0 Lg3 Sw41
    replace Tg3 := there_sees Tg3 Lg3 Sw41
    replace Rgd_0 := range_sees Rgd_0 Lgd Sw41
    replace Rg38_0 := range_sees Rg38_0 Lg38 Sw41
    replace Tg38 := there_sees Tg38 Lg38 Sw41
    replace Lg3 := Nat.lt_of_lt_of_le Lg3 Sw41.2.2.size
    replace Lgd := Nat.lt_of_lt_of_le Lgd Sw41.2.2.size
    replace Lg38 := Nat.lt_of_lt_of_le Lg38 Sw41.2.2.size
    replace BE := BE.trans (Sw41.2.2.mono BE.size)
    simp only [putT, List.set]
    refine wpL_assign (v := .slice (some ⟨g40, 0, none⟩) (dlen ((d / 65536 ^ 16) * 38)) g40c) (by rfl) (by rfl) (by rfl) ?_
    simp only [putT, List.set]
    refine wpL_nil (no_panic ?_)
    refine hK35 _ _ ?_
    refine wp_region_seq ?_
    refine wpL_move (v := .slice (some ⟨gd, 0, none⟩) dn gdc) (by rfl) (by rfl) (by rfl) ?_
    simp only [putT, List.set]
    refine wpL_chunk 2 (by rfl) (fun Lk hLk => ?_)
    simp only [List.take, List.drop]
    refine wpV_sliceH (hi := 16) (by rfl) rfl rfl rfl Try.underlying60 info3 (by omega) ?_
    simp only [putT, List.set]
    refine wpV_callf (v := .slice (some ⟨gd, 0, none⟩) (dlen (d % 65536 ^ 16)) gdc) (args := #[.slice (some ⟨gd, 0, none⟩) 16 gdc]) (by rfl) rfl Try.func57 (by kernel_rfl) (by kernel_rfl) rfl (fun W hW => trim_c (x := (d % 65536 ^ 16)) (by omega) hq3 (by omega) (Nat.lt_of_lt_of_le Lgd hW.2.2.size) (range_sees (range_dl_mod (m := 16) Rgd_0 (by omega)) Lgd hW)) ?_
    simp only [putT, List.set]
    refine wpV_nil (hLk _ (fun w43 Sw43 => ?_))
    clear hLk Lk
    simp only [List.take, List.drop]
    replace Rg3_0 := range_sees Rg3_0 Lg3 Sw43
    replace Tg3 := there_sees Tg3 Lg3 Sw43
    replace Rgd_0 := range_sees Rgd_0 Lgd Sw43
    replace Rg38_0 := range_sees Rg38_0 Lg38 Sw43
    replace Tg38 := there_sees Tg38 Lg38 Sw43
    replace Rg40_0 := range_sees Rg40_0 Lg40 Sw43
    replace Lg3 := Nat.lt_of_lt_of_le Lg3 Sw43.2.2.size
    replace Lgd := Nat.lt_of_lt_of_le Lgd Sw43.2.2.size
    replace Lg38 := Nat.lt_of_lt_of_le Lg38 Sw43.2.2.size
    replace Lg40 := Nat.lt_of_lt_of_le Lg40 Sw43.2.2.size
    replace BE := BE.trans (Sw43.2.2.mono BE.size)
    refine wpL_move (v := .slice (some ⟨g40, 0, none⟩) (dlen ((d / 65536 ^ 16) * 38)) g40c) (by rfl) (by rfl) (by rfl) ?_
    simp only [putT, List.set]
    refine wpL_callE (f := 48) (args := #[.slice (some ⟨gd, 0, none⟩) (dlen (d % 65536 ^ 16)) gdc, .slice (some ⟨g40, 0, none⟩) (dlen ((d / 65536 ^ 16) * 38)) g40c]) (R := NewRow w43 (dlen ((d % 65536 ^ 16) + ((d / 65536 ^ 16) * 38))) (dl (dlen ((d % 65536 ^ 16) + ((d / 65536 ^ 16) * 38))) ((d % 65536 ^ 16) + ((d / 65536 ^ 16) * 38)))) (by rfl) (by rfl) rfl Try.func48 (by kernel_rfl) (by kernel_rfl) (plus04_c (n := dlen (d % 65536 ^ 16)) (x := (d % 65536 ^ 16)) (m := dlen ((d / 65536 ^ 16) * 38)) (y := ((d / 65536 ^ 16) * 38)) (by omega) (by omega) (dlen_lt _) (dlen_lt _) (Nat.le_trans ((dlen_le _ _).2 hq3) (by omega)) Lgd (range_dl_take (m := dlen (d % 65536 ^ 16)) (range_dl_mod (m := 16) Rgd_0 (by omega)) ((dlen_le _ _).2 hq3)) Cg40 Lg40 Rg40_0) (fun v9 w45 hv9 Sw45 => ?_)
    obtain ⟨g44, g44c, rfl, Cg44, Hg44, Lg44, Rg44_0⟩ := hv9
    have Ng3_g44 : g3 ≠ g44 := Nat.ne_of_lt (Nat.lt_of_lt_of_le Lg3 Hg44)
    have Ngd_g44 : gd ≠ g44 := Nat.ne_of_lt (Nat.lt_of_lt_of_le Lgd Hg44)
    have Ng38_g44 : g38 ≠ g44 := Nat.ne_of_lt (Nat.lt_of_lt_of_le Lg38 Hg44)
    have Ng40_g44 : g40 ≠ g44 := Nat.ne_of_lt (Nat.lt_of_lt_of_le Lg40 Hg44)
    have Gg44 : w.heap.size ≤ g44 := Nat.le_trans BE.size Hg44
    replace Rg3_0 := range_sees Rg3_0 Lg3 Sw45
    replace Tg3 := there_sees Tg3 Lg3 Sw45
    replace Rgd_0 := range_sees Rgd_0 Lgd Sw45
    replace Rg38_0 := range_sees Rg38_0 Lg38 Sw45
    replace Tg38 := there_sees Tg38 Lg38 Sw45
    replace Rg40_0 := range_sees Rg40_0 Lg40 Sw45
    replace Lg3 := Nat.lt_of_lt_of_le Lg3 Sw45.2.2.size
    replace Lgd := Nat.lt_of_lt_of_le Lgd Sw45.2.2.size
    replace Lg38 := Nat.lt_of_lt_of_le Lg38 Sw45.2.2.size
    replace Lg40 := Nat.lt_of_lt_of_le Lg40 Sw45.2.2.size
    replace BE := BE.trans (Sw45.2.2.mono BE.size)
    simp only [putT, List.set]
    refine wpL_assign (v := .slice (some ⟨g44, 0, none⟩) (dlen ((d % 65536 ^ 16) + ((d / 65536 ^ 16) * 38))) g44c) (by rfl) (by rfl) (by rfl) ?_
    simp only [putT, List.set]
    refine wpL_nil (no_panic ?_)
    refine Exists.intro _ ⟨?_, (dlen (d % 65536 ^ 16 + d / 65536 ^ 16 * 38)), (d % 65536 ^ 16 + d / 65536 ^ 16 * 38), g44, g44c, (fun q9 => (#[undef, undef, undef, .slice (some ⟨g40, 0, none⟩) (dlen ((d / 65536 ^ 16) * 38)) g40c, undef, undef, undef, .slice (some ⟨gd, 0, none⟩) dn gdc, .int .i64 ((dn : Nat) : Int), .bool true, .slice (some ⟨gd, 0, none⟩) dn gdc, .slice (some ⟨gd, 16, none⟩) (dn - 16) (gdc - 16), .slice (some ⟨g38, 0, none⟩) 1 1, .slice (some ⟨g40, 0, none⟩) (dlen ((d / 65536 ^ 16) * 38)) g40c, .slice (some ⟨gd, 0, none⟩) dn gdc, .slice (some ⟨gd, 0, none⟩) 16 gdc, .slice (some ⟨gd, 0, none⟩) (dlen (d % 65536 ^ 16)) gdc, .slice (some ⟨g40, 0, none⟩) (dlen ((d / 65536 ^ 16) * 38)) g40c, .slice (some ⟨g44, 0, none⟩) (dlen ((d % 65536 ^ 16) + ((d / 65536 ^ 16) * 38))) g44c] : Array Value).getD q9 undef), rfl, rfl, BE, Rg3_0, Tg3, Lg3, Rg44_0, Lg44, Cg44, Ng3_g44, rfl, ((fold_mod d).trans hmod), (Nat.le_trans (Nat.le_of_lt hfl) hdx)⟩
    omega
set_option maxHeartbeats 1000000 in
theorem left_c {n x g0 cg0 : Nat} {w : World} (hn : n ≤ 500) (hx : x < 65536 ^ n) (hcg0 : n ≤ cg0) (Lg0 : g0 < w.heap.size) (Rg0_0 : w.rangeAt g0 0 (dl n x)) :
    Calls Try.prog 46 #[.slice (some ⟨g0, 0, none⟩) n cg0] w fun e w' => e = .returned (fe (restS x)) ∧ Below w.heap.size w w' := by
  have h16 : dlen (x % ordL) ≤ 16 := by rw [← dlen_ordL]; exact dlen_mono (Nat.le_of_lt (Nat.mod_lt _ (by decide)))
  go_enter Try.func46, Try.ntmps46
  have BE := Below.refl w.heap.size w
  refine wp_seq_k (fun K1 hK1 => ?_)
  refine wp_region_plain 1 (by kernel_rfl) (fun Lk hLk => ?_)
  simp only [List.take, List.drop]
  refine wpV_alloc (by rfl) ?_
  refine wpV_nil (hLk.out _ ?_)
  clear hLk Lk
  simp only [List.take, List.drop]
  refine wpN_new (t := 24) (cs := ([.int .u64 0, .int .u64 0, .int .u64 0, .int .u64 0]).toArray) (by rfl) (fun W => ?_) (fun g3 Hg3 ng3 => ?_)
  · go_simp
  simp only [putT, List.set]
  refine wpN_nil (fun w4 Sw4 hbs => ?_)
  have Bg3 : Blk w4 g3 24 ([.int .u64 0, .int .u64 0, .int .u64 0, .int .u64 0]).toArray := hbs _ (List.mem_cons_self ..)
  clear hbs
  have Ng0_g3 : g0 ≠ g3 := Nat.ne_of_lt (Nat.lt_of_lt_of_le Lg0 Hg3)
  have Gg3 : w.heap.size ≤ g3 := Nat.le_trans BE.size Hg3
  replace Rg0_0 := range_sees Rg0_0 Lg0 Sw4
  replace Lg0 := Nat.lt_of_lt_of_le Lg0 Sw4.2.2.size
  replace BE := BE.trans (Sw4.2.2.mono BE.size)
  have Tg3 := blk_there Bg3 (n := 4) (by simp [flen])
  have Rg3_0 := blk_range Bg3 (l := [.int .u64 0, .int .u64 0, .int .u64 0, .int .u64 0]) rfl
  have Lg3 := Bg3.lt
  clear ng3 Bg3
  refine wpL_nil (no_panic ?_)
  refine hK1 _ _ ?_
  refine wp_seq_k (fun K5 hK5 => ?_)
  refine wp_region_seq ?_
  refine wpL_move (v := .slice (some ⟨g0, 0, none⟩) n cg0) (by rfl) (by rfl) (by rfl) ?_
  simp only [putT, List.set]
  refine wpL_callE (f := 67) (args := #[]) (R := NewRow w4 16 (dl 16 ordL)) (by rfl) (by rfl) rfl Try.func67 (by kernel_rfl) (by kernel_rfl) (order05_c) (fun v9 w8 hv9 Sw8 => ?_)
  obtain ⟨g7, g7c, rfl, Cg7, Hg7, Lg7, Rg7_0⟩ := hv9
  have Ng0_g7 : g0 ≠ g7 := Nat.ne_of_lt (Nat.lt_of_lt_of_le Lg0 Hg7)
  have Ng3_g7 : g3 ≠ g7 := Nat.ne_of_lt (Nat.lt_of_lt_of_le Lg3 Hg7)
  have Gg7 : w.heap.size ≤ g7 := Nat.le_trans BE.size Hg7
  replace Rg0_0 := range_sees Rg0_0 Lg0 Sw8
  replace Rg3_0 := range_sees Rg3_0 Lg3 Sw8
  replace Tg3 := there_sees Tg3 Lg3 Sw8
  replace Lg0 := Nat.lt_of_lt_of_le Lg0 Sw8.2.2.size
  replace Lg3 := Nat.lt_of_lt_of_le Lg3 Sw8.2.2.size
  replace BE := BE.trans (Sw8.2.2.mono BE.size)
  simp only [putT, List.set]
  refine wpL_callE (f := 66) (args := #[.slice (some ⟨g0, 0, none⟩) n cg0, .slice (some ⟨g7, 0, none⟩) 16 g7c]) (R := NewRow w8 (dlen (x % ordL)) (dl (dlen (x % ordL)) (x % ordL))) (by rfl) (by rfl) rfl Try.func66 (by kernel_rfl) (by kernel_rfl) (mod_c (n := n) (A := x) (m := 16) (M := ordL) (by omega) hx (by decide) dlen_ordL.symm (by omega) hcg0 Lg0 Rg0_0 Cg7 Lg7 Rg7_0) (fun v9 w10 hv9 Sw10 => ?_)
  obtain ⟨g9, g9c, rfl, Cg9, Hg9, Lg9, Rg9_0⟩ := hv9
  have Ng0_g9 : g0 ≠ g9 := Nat.ne_of_lt (Nat.lt_of_lt_of_le Lg0 Hg9)
  have Ng3_g9 : g3 ≠ g9 := Nat.ne_of_lt (Nat.lt_of_lt_of_le Lg3 Hg9)
  have Ng7_g9 : g7 ≠ g9 := Nat.ne_of_lt (Nat.lt_of_lt_of_le Lg7 Hg9)
  have Gg9 : w.heap.size ≤ g9 := Nat.le_trans BE.size Hg9
  replace Rg0_0 := range_sees Rg0_0 Lg0 Sw10
  replace Rg3_0 := range_sees Rg3_0 Lg3 Sw10
  replace Tg3 := there_sees Tg3 Lg3 Sw10
  replace Rg7_0 := range_sees Rg7_0 Lg7 Sw10
  replace Lg0 := Nat.lt_of_lt_of_le Lg0 Sw10.2.2.size
  replace Lg3 := Nat.lt_of_lt_of_le Lg3 Sw10.2.2.size
  replace Lg7 := Nat.lt_of_lt_of_le Lg7 Sw10.2.2.size
  replace BE := BE.trans (Sw10.2.2.mono BE.size)
  simp only [putT, List.set]
  refine wpL_chunk 1 (by rfl) (fun Lk hLk => ?_)
  simp only [List.take, List.drop]
  refine wpV_callf (v := fe (x % ordL)) (args := #[.slice (some ⟨g9, 0, none⟩) (dlen (x % ordL)) g9c]) (by rfl) rfl Try.func62 (by kernel_rfl) (by kernel_rfl) rfl (fun W hW => words_c (n := dlen (x % ordL)) (x := (x % ordL)) (by omega) (dlen_lt _) Cg9 (Nat.lt_of_lt_of_le Lg9 hW.2.2.size) (range_sees Rg9_0 Lg9 hW)) ?_
  simp only [putT, List.set]
  refine wpV_nil (hLk _ (fun w11 Sw11 => ?_))
  clear hLk Lk
  simp only [List.take, List.drop]
  replace Rg0_0 := range_sees Rg0_0 Lg0 Sw11
  replace Rg3_0 := range_sees Rg3_0 Lg3 Sw11
  replace Tg3 := there_sees Tg3 Lg3 Sw11
  replace Rg7_0 := range_sees Rg7_0 Lg7 Sw11
  replace Rg9_0 := range_sees Rg9_0 Lg9 Sw11
  replace Lg0 := Nat.lt_of_lt_of_le Lg0 Sw11.2.2.size
  replace Lg3 := Nat.lt_of_lt_of_le Lg3 Sw11.2.2.size
  replace Lg7 := Nat.lt_of_lt_of_le Lg7 Sw11.2.2.size
  replace Lg9 := Nat.lt_of_lt_of_le Lg9 Sw11.2.2.size
  replace BE := BE.trans (Sw11.2.2.mono BE.size)
  refine wpL_store (g := g3) (off := 0) (n := 4) (cs := fel (x % ordL)) (by rfl) (by rfl) (by rfl) (by rfl) (by rfl) Tg3 (by simp [flen]) info24 (fel_one _) (fun w12 Pw12 RR TT => ?_)
  replace Rg0_0 := Pw12.range Rg0_0 (.inl Ng0_g3)
  replace Rg7_0 := Pw12.range Rg7_0 (.inl (Ne.symm Ng3_g7))
  replace Rg9_0 := Pw12.range Rg9_0 (.inl (Ne.symm Ng3_g9))
  replace Rg3_0 := RR
  clear RR
  replace Tg3 := TT
  replace Lg0 := Pw12.lt Lg0
  replace Lg3 := Pw12.lt Lg3
  replace Lg7 := Pw12.lt Lg7
  replace Lg9 := Pw12.lt Lg9
  replace BE := Pw12.below BE Gg3
  refine wpL_nil (no_panic ?_)
  refine hK5 _ _ ?_
  refine wp_ret ?_
  repeat (first | with_reducible refine then_ret ?_ | with_reducible refine inblock_ret ?_)
  refine bodyPost_ret (v := fe (x % ordL)) (res1 rfl (.cell (by rfl) (run_loadVar_mid _ _ _ _ (fel (x % ordL)) _ Rg3_0 Try.underlying24 rfl info24))) rfl ?_
  exact ⟨rfl, BE⟩
set_option maxHeartbeats 1000000 in
theorem rleast05_c {x : Nat} (hx : x < 2 ^ 256) {w : World}  :
    Calls Try.prog 17 #[fe x] w fun e w' => e = .returned (fe (restS x)) ∧ Below w.heap.size w w' := by
  go_enter Try.func17, Try.ntmps17
  have BE := Below.refl w.heap.size w
  refine wp_seq_k (fun K1 hK1 => ?_)
  refine wp_region_plain 2 (by kernel_rfl) (fun Lk hLk => ?_)
  simp only [List.take, List.drop]
  refine wpV_alloc (by rfl) ?_
  refine wpV_alloc (by rfl) ?_
  refine wpV_nil (hLk.out _ ?_)
  clear hLk Lk
  simp only [List.take, List.drop]
  refine wpN_new (t := 24) (cs := (fel x).toArray) (by rfl) (fun W => ?_) (fun g3 Hg3 ng3 => ?_)
  · (first | rfl | go_simp)
  refine wpN_new (t := 24) (cs := ([.int .u64 0, .int .u64 0, .int .u64 0, .int .u64 0]).toArray) (by rfl) (fun W => ?_) (fun g4 Hg4 ng4 => ?_)
  · go_simp
  simp only [putT, List.set]
  refine wpN_nil (fun w5 Sw5 hbs => ?_)
  have Bg3 : Blk w5 g3 24 (fel x).toArray := hbs _ (List.mem_cons_of_mem _ (List.mem_cons_self ..))
  have Bg4 : Blk w5 g4 24 ([.int .u64 0, .int .u64 0, .int .u64 0, .int .u64 0]).toArray := hbs _ (List.mem_cons_self ..)
  clear hbs
  have Gg3 : w.heap.size ≤ g3 := Nat.le_trans BE.size Hg3
  have Ng3_g4 : g3 ≠ g4 := ng4 (g3, _, _) (List.mem_cons_self ..)
  have Gg4 : w.heap.size ≤ g4 := Nat.le_trans BE.size Hg4
  replace BE := BE.trans (Sw5.2.2.mono BE.size)
  have Tg3 := blk_there Bg3 (n := 4) (by simp [flen])
  have Rg3_0 := blk_range Bg3 (l := fel x) rfl
  have Lg3 := Bg3.lt
  have Tg4 := blk_there Bg4 (n := 4) (by simp [flen])
  have Rg4_0 := blk_range Bg4 (l := [.int .u64 0, .int .u64 0, .int .u64 0, .int .u64 0]) rfl
  have Lg4 := Bg4.lt
  clear ng3 ng4 Bg3 Bg4
  refine wpL_nil (no_panic ?_)
  refine hK1 _ _ ?_
  refine wp_seq_k (fun K6 hK6 => ?_)
  refine wp_region_seq ?_
  refine wpL_chunk 1 (by rfl) (fun Lk hLk => ?_)
  simp only [List.take, List.drop]
  refine wpV_load (cs := fel x) (by rfl) rfl rfl Rg3_0 Lg3 Try.underlying24 rfl info24 ?_
  simp only [putT, List.set]
  refine wpV_nil (hLk _ (fun w8 Sw8 => ?_))
  clear hLk Lk
  simp only [List.take, List.drop]
  replace Rg3_0 := range_sees Rg3_0 Lg3 Sw8
  replace Tg3 := there_sees Tg3 Lg3 Sw8
  replace Rg4_0 := range_sees Rg4_0 Lg4 Sw8
  replace Tg4 := there_sees Tg4 Lg4 Sw8
  replace Lg3 := Nat.lt_of_lt_of_le Lg3 Sw8.2.2.size
  replace Lg4 := Nat.lt_of_lt_of_le Lg4 Sw8.2.2.size
  replace BE := BE.trans (Sw8.2.2.mono BE.size)
  refine wpL_callE (f := 47) (args := #[fe x]) (R := NewRow w8 16 (dl 16 x)) (by rfl) (by rfl) rfl Try.func47 (by kernel_rfl) (by kernel_rfl) (digits_c hx) (fun v9 w10 hv9 Sw10 => ?_)
  obtain ⟨g9, g9c, rfl, Cg9, Hg9, Lg9, Rg9_0⟩ := hv9
  have Ng3_g9 : g3 ≠ g9 := Nat.ne_of_lt (Nat.lt_of_lt_of_le Lg3 Hg9)
  have Ng4_g9 : g4 ≠ g9 := Nat.ne_of_lt (Nat.lt_of_lt_of_le Lg4 Hg9)
  have Gg9 : w.heap.size ≤ g9 := Nat.le_trans BE.size Hg9
  replace Rg3_0 := range_sees Rg3_0 Lg3 Sw10
  replace Tg3 := there_sees Tg3 Lg3 Sw10
  replace Rg4_0 := range_sees Rg4_0 Lg4 Sw10
  replace Tg4 := there_sees Tg4 Lg4 Sw10
  replace Lg3 := Nat.lt_of_lt_of_le Lg3 Sw10.2.2.size
  replace Lg4 := Nat.lt_of_lt_of_le Lg4 Sw10.2.2.size
  replace BE := BE.trans (Sw10.2.2.mono BE.size)
  simp only [putT, List.set]
  refine wpL_chunk 1 (by rfl) (fun Lk hLk => ?_)
  simp only [List.take, List.drop]
  refine wpV_callf (v := fe (restS x)) (args := #[.slice (some ⟨g9, 0, none⟩) 16 g9c]) (by rfl) rfl Try.func46 (by kernel_rfl) (by kernel_rfl) rfl (fun W hW => left_c (n := 16) (x := x) (by omega) hx Cg9 (Nat.lt_of_lt_of_le Lg9 hW.2.2.size) (range_sees Rg9_0 Lg9 hW)) ?_
  simp only [putT, List.set]
  refine wpV_nil (hLk _ (fun w11 Sw11 => ?_))
  clear hLk Lk
  simp only [List.take, List.drop]
  replace Rg3_0 := range_sees Rg3_0 Lg3 Sw11
  replace Tg3 := there_sees Tg3 Lg3 Sw11
  replace Rg4_0 := range_sees Rg4_0 Lg4 Sw11
  replace Tg4 := there_sees Tg4 Lg4 Sw11
  replace Rg9_0 := range_sees Rg9_0 Lg9 Sw11
  replace Lg3 := Nat.lt_of_lt_of_le Lg3 Sw11.2.2.size
  replace Lg4 := Nat.lt_of_lt_of_le Lg4 Sw11.2.2.size
  replace Lg9 := Nat.lt_of_lt_of_le Lg9 Sw11.2.2.size
  replace BE := BE.trans (Sw11.2.2.mono BE.size)
  refine wpL_store (g := g4) (off := 0) (n := 4) (cs := fel (restS x)) (by rfl) (by rfl) (by rfl) (by rfl) (by rfl) Tg4 (by simp [flen]) info24 (fel_one _) (fun w12 Pw12 RR TT => ?_)
  replace Rg3_0 := Pw12.range Rg3_0 (.inl Ng3_g4)
  replace Tg3 := Pw12.other_there Tg3 Ng3_g4
  replace Rg9_0 := Pw12.range Rg9_0 (.inl (Ne.symm Ng4_g9))
  replace Rg4_0 := RR
  clear RR
  replace Tg4 := TT
  replace Lg3 := Pw12.lt Lg3
  replace Lg4 := Pw12.lt Lg4
  replace Lg9 := Pw12.lt Lg9
  replace BE := Pw12.below BE Gg4
  refine wpL_nil (no_panic ?_)
  refine hK6 _ _ ?_
  refine wp_ret ?_
  repeat (first | with_reducible refine then_ret ?_ | with_reducible refine inblock_ret ?_)
  refine bodyPost_ret (v := fe (restS x)) (res1 rfl (.cell (by rfl) (run_loadVar_mid _ _ _ _ (fel (restS x)) _ Rg4_0 Try.underlying24 rfl info24))) rfl ?_
  exact ⟨rfl, BE⟩
set_option maxHeartbeats 1000000 in
theorem radd05_c {x : Nat} (hx : x < 2 ^ 256) {y : Nat} (hy : y < 2 ^ 256) {w : World}  :
    Calls Try.prog 19 #[fe x, fe y] w fun e w' => e = .returned (fe (sadd x y)) ∧ Below w.heap.size w w' := by
  have hs17 : dlen (x + y) ≤ 17 := (dlen_le _ _).2 (Nat.lt_of_lt_of_le (Nat.add_lt_add hx hy) (by decide))
  go_enter Try.func19, Try.ntmps19
  have BE := Below.refl w.heap.size w
  refine wp_seq_k (fun K1 hK1 => ?_)
  refine wp_region_plain 3 (by kernel_rfl) (fun Lk hLk => ?_)
  simp only [List.take, List.drop]
  refine wpV_alloc (by rfl) ?_
  refine wpV_alloc (by rfl) ?_
  refine wpV_alloc (by rfl) ?_
  refine wpV_nil (hLk.out _ ?_)
  clear hLk Lk
  simp only [List.take, List.drop]
  refine wpN_new (t := 24) (cs := (fel x).toArray) (by rfl) (fun W => ?_) (fun g3 Hg3 ng3 => ?_)
  · (first | rfl | go_simp)
  refine wpN_new (t := 24) (cs := (fel y).toArray) (by rfl) (fun W => ?_) (fun g4 Hg4 ng4 => ?_)
  · (first | rfl | go_simp)
  refine wpN_new (t := 24) (cs := ([.int .u64 0, .int .u64 0, .int .u64 0, .int .u64 0]).toArray) (by rfl) (fun W => ?_) (fun g5 Hg5 ng5 => ?_)
  · go_simp
  simp only [putT, List.set]
  refine wpN_nil (fun w6 Sw6 hbs => ?_)
  have Bg3 : Blk w6 g3 24 (fel x).toArray := hbs _ (List.mem_cons_of_mem _ (List.mem_cons_of_mem _ (List.mem_cons_self ..)))
  have Bg4 : Blk w6 g4 24 (fel y).toArray := hbs _ (List.mem_cons_of_mem _ (List.mem_cons_self ..))
  have Bg5 : Blk w6 g5 24 ([.int .u64 0, .int .u64 0, .int .u64 0, .int .u64 0]).toArray := hbs _ (List.mem_cons_self ..)
  clear hbs
  have Gg3 : w.heap.size ≤ g3 := Nat.le_trans BE.size Hg3
  have Ng3_g4 : g3 ≠ g4 := ng4 (g3, _, _) (List.mem_cons_self ..)
  have Gg4 : w.heap.size ≤ g4 := Nat.le_trans BE.size Hg4
  have Ng3_g5 : g3 ≠ g5 := ng5 (g3, _, _) (List.mem_cons_of_mem _ (List.mem_cons_self ..))
  have Ng4_g5 : g4 ≠ g5 := ng5 (g4, _, _) (List.mem_cons_self ..)
  have Gg5 : w.heap.size ≤ g5 := Nat.le_trans BE.size Hg5
  replace BE := BE.trans (Sw6.2.2.mono BE.size)
  have Tg3 := blk_there Bg3 (n := 4) (by simp [flen])
  have Rg3_0 := blk_range Bg3 (l := fel x) rfl
  have Lg3 := Bg3.lt
  have Tg4 := blk_there Bg4 (n := 4) (by simp [flen])
  have Rg4_0 := blk_range Bg4 (l := fel y) rfl
  have Lg4 := Bg4.lt
  have Tg5 := blk_there Bg5 (n := 4) (by simp [flen])
  have Rg5_0 := blk_range Bg5 (l := [.int .u64 0, .int .u64 0, .int .u64 0, .int .u64 0]) rfl
  have Lg5 := Bg5.lt
  clear ng3 ng4 ng5 Bg3 Bg4 Bg5
  refine wpL_nil (no_panic ?_)
  refine hK1 _ _ ?_
  refine wp_seq_k (fun K7 hK7 => ?_)
  refine wp_region_tree (by kernel_rfl) (fun w9 Sw9 => ?_)
  replace Rg3_0 := range_sees Rg3_0 Lg3 Sw9
  replace Tg3 := there_sees Tg3 Lg3 Sw9
  replace Rg4_0 := range_sees Rg4_0 Lg4 Sw9
  replace Tg4 := there_sees Tg4 Lg4 Sw9
  replace Rg5_0 := range_sees Rg5_0 Lg5 Sw9
  replace Tg5 := there_sees Tg5 Lg5 Sw9
  replace Lg3 := Nat.lt_of_lt_of_le Lg3 Sw9.2.2.size
  replace Lg4 := Nat.lt_of_lt_of_le Lg4 Sw9.2.2.size
  replace Lg5 := Nat.lt_of_lt_of_le Lg5 Sw9.2.2.size
  replace BE := BE.trans (Sw9.2.2.mono BE.size)
  refine any_step [0, 2] (by kernel_rfl) rfl (any_two ?_ (any_one ?_))
  · skip
    refine any_opL 0 (by rfl) ?_
    simp only [List.take, List.drop]
    refine wpL_chunk 1 (by rfl) (fun Lk hLk => ?_)
    simp only [List.take, List.drop]
    refine wpV_load (cs := fel x) (by rfl) rfl rfl Rg3_0 Lg3 Try.underlying24 rfl info24 ?_
    simp only [putT, List.set]
    refine wpV_nil (hLk _ (fun w10 Sw10 => ?_))
    clear hLk Lk
    simp only [List.take, List.drop]
    replace Rg3_0 := range_sees Rg3_0 Lg3 Sw10
    replace Tg3 := there_sees Tg3 Lg3 Sw10
    replace Rg4_0 := range_sees Rg4_0 Lg4 Sw10
    replace Tg4 := there_sees Tg4 Lg4 Sw10
    replace Rg5_0 := range_sees Rg5_0 Lg5 Sw10
    replace Tg5 := there_sees Tg5 Lg5 Sw10
    replace Lg3 := Nat.lt_of_lt_of_le Lg3 Sw10.2.2.size
    replace Lg4 := Nat.lt_of_lt_of_le Lg4 Sw10.2.2.size
    replace Lg5 := Nat.lt_of_lt_of_le Lg5 Sw10.2.2.size
    replace BE := BE.trans (Sw10.2.2.mono BE.size)
    refine wpL_nil (then_normal ?_)
    refine any_step [1, 2] (by kernel_rfl) rfl (any_two ?_ (any_one ?_))
    · skip
      refine any_opL 1 (by rfl) ?_
      simp only [List.take, List.drop]
      refine wpL_callE (f := 47) (args := #[fe x]) (R := NewRow w10 16 (dl 16 x)) (by rfl) (by rfl) rfl Try.func47 (by kernel_rfl) (by kernel_rfl) (digits_c hx) (fun v9 w12 hv9 Sw12 => ?_)
      obtain ⟨g11, g11c, rfl, Cg11, Hg11, Lg11, Rg11_0⟩ := hv9
      have Ng3_g11 : g3 ≠ g11 := Nat.ne_of_lt (Nat.lt_of_lt_of_le Lg3 Hg11)
      have Ng4_g11 : g4 ≠ g11 := Nat.ne_of_lt (Nat.lt_of_lt_of_le Lg4 Hg11)
      have Ng5_g11 : g5 ≠ g11 := Nat.ne_of_lt (Nat.lt_of_lt_of_le Lg5 Hg11)
      have Gg11 : w.heap.size ≤ g11 := Nat.le_trans BE.size Hg11
      replace Rg3_0 := range_sees Rg3_0 Lg3 Sw12
      replace Tg3 := there_sees Tg3 Lg3 Sw12
      replace Rg4_0 := range_sees Rg4_0 Lg4 Sw12
      replace Tg4 := there_sees Tg4 Lg4 Sw12
      replace Rg5_0 := range_sees Rg5_0 Lg5 Sw12
      replace Tg5 := there_sees Tg5 Lg5 Sw12
      replace Lg3 := Nat.lt_of_lt_of_le Lg3 Sw12.2.2.size
      replace Lg4 := Nat.lt_of_lt_of_le Lg4 Sw12.2.2.size
      replace Lg5 := Nat.lt_of_lt_of_le Lg5 Sw12.2.2.size
      replace BE := BE.trans (Sw12.2.2.mono BE.size)
      simp only [putT, List.set]
      refine wpL_nil (then_normal ?_)
      refine any_rest 2 (by rfl) (by kernel_rfl) ?_
      simp only [List.take, List.drop]
      refine wpL_chunk 1 (by rfl) (fun Lk hLk => ?_)
      simp only [List.take, List.drop]
      refine wpV_load (cs := fel y) (by rfl) rfl rfl Rg4_0 Lg4 Try.underlying24 rfl info24 ?_
      simp only [putT, List.set]
      refine wpV_nil (hLk _ (fun w13 Sw13 => ?_))
      clear hLk Lk
      simp only [List.take, List.drop]
      replace Rg3_0 := range_sees Rg3_0 Lg3 Sw13
      replace Tg3 := there_sees Tg3 Lg3 Sw13
      replace Rg4_0 := range_sees Rg4_0 Lg4 Sw13
      replace Tg4 := there_sees Tg4 Lg4 Sw13
      replace Rg5_0 := range_sees Rg5_0 Lg5 Sw13
      replace Tg5 := there_sees Tg5 Lg5 Sw13
      replace Rg11_0 := range_sees Rg11_0 Lg11 Sw13
      replace Lg3 := Nat.lt_of_lt_of_le Lg3 Sw13.2.2.size
      replace Lg4 := Nat.lt_of_lt_of_le Lg4 Sw13.2.2.size
      replace Lg5 := Nat.lt_of_lt_of_le Lg5 Sw13.2.2.size
      replace Lg11 := Nat.lt_of_lt_of_le Lg11 Sw13.2.2.size
      replace BE := BE.trans (Sw13.2.2.mono BE.size)
      refine wpL_callE (f := 47) (args := #[fe y]) (R := NewRow w13 16 (dl 16 y)) (by rfl) (by rfl) rfl Try.func47 (by kernel_rfl) (by kernel_rfl) (digits_c hy) (fun v9 w15 hv9 Sw15 => ?_)
      obtain ⟨g14, g14c, rfl, Cg14, Hg14, Lg14, Rg14_0⟩ := hv9
      have Ng3_g14 : g3 ≠ g14 := Nat.ne_of_lt (Nat.lt_of_lt_of_le Lg3 Hg14)
      have Ng4_g14 : g4 ≠ g14 := Nat.ne_of_lt (Nat.lt_of_lt_of_le Lg4 Hg14)
      have Ng5_g14 : g5 ≠ g14 := Nat.ne_of_lt (Nat.lt_of_lt_of_le Lg5 Hg14)
      have Ng11_g14 : g11 ≠ g14 := Nat.ne_of_lt (Nat.lt_of_lt_of_le Lg11 Hg14)
      have Gg14 : w.heap.size ≤ g14 := Nat.le_trans BE.size Hg14
      replace Rg3_0 := range_sees Rg3_0 Lg3 Sw15
      replace Tg3 := there_sees Tg3 Lg3 Sw15
      replace Rg4_0 := range_sees Rg4_0 Lg4 Sw15
      replace Tg4 := there_sees Tg4 Lg4 Sw15
      replace Rg5_0 := range_sees Rg5_0 Lg5 Sw15
      replace Tg5 := there_sees Tg5 Lg5 Sw15
      replace Rg11_0 := range_sees Rg11_0 Lg11 Sw15
      replace Lg3 := Nat.lt_of_lt_of_le Lg3 Sw15.2.2.size
      replace Lg4 := Nat.lt_of_lt_of_le Lg4 Sw15.2.2.size
      replace Lg5 := Nat.lt_of_lt_of_le Lg5 Sw15.2.2.size
      replace Lg11 := Nat.lt_of_lt_of_le Lg11 Sw15.2.2.size
      replace BE := BE.trans (Sw15.2.2.mono BE.size)
      simp only [putT, List.set]
      refine wpL_callE (f := 48) (args := #[.slice (some ⟨g11, 0, none⟩) 16 g11c, .slice (some ⟨g14, 0, none⟩) 16 g14c]) (R := NewRow w15 (dlen (x + y)) (dl (dlen (x + y)) (x + y))) (by rfl) (by rfl) rfl Try.func48 (by kernel_rfl) (by kernel_rfl) (plus04_c (n := 16) (x := x) (m := 16) (y := y) (by omega) (by omega) hx hy Cg11 Lg11 Rg11_0 Cg14 Lg14 Rg14_0) (fun v9 w17 hv9 Sw17 => ?_)
      obtain ⟨g16, g16c, rfl, Cg16, Hg16, Lg16, Rg16_0⟩ := hv9
      have Ng3_g16 : g3 ≠ g16 := Nat.ne_of_lt (Nat.lt_of_lt_of_le Lg3 Hg16)
      have Ng4_g16 : g4 ≠ g16 := Nat.ne_of_lt (Nat.lt_of_lt_of_le Lg4 Hg16)
      have Ng5_g16 : g5 ≠ g16 := Nat.ne_of_lt (Nat.lt_of_lt_of_le Lg5 Hg16)
      have Ng11_g16 : g11 ≠ g16 := Nat.ne_of_lt (Nat.lt_of_lt_of_le Lg11 Hg16)
      have Ng14_g16 : g14 ≠ g16 := Nat.ne_of_lt (Nat.lt_of_lt_of_le Lg14 Hg16)
      have Gg16 : w.heap.size ≤ g16 := Nat.le_trans BE.size Hg16
      replace Rg3_0 := range_sees Rg3_0 Lg3 Sw17
      replace Tg3 := there_sees Tg3 Lg3 Sw17
      replace Rg4_0 := range_sees Rg4_0 Lg4 Sw17
      replace Tg4 := there_sees Tg4 Lg4 Sw17
      replace Rg5_0 := range_sees Rg5_0 Lg5 Sw17
      replace Tg5 := there_sees Tg5 Lg5 Sw17
      replace Rg11_0 := range_sees Rg11_0 Lg11 Sw17
      replace Rg14_0 := range_sees Rg14_0 Lg14 Sw17
      replace Lg3 := Nat.lt_of_lt_of_le Lg3 Sw17.2.2.size
      replace Lg4 := Nat.lt_of_lt_of_le Lg4 Sw17.2.2.size
      replace Lg5 := Nat.lt_of_lt_of_le Lg5 Sw17.2.2.size
      replace Lg11 := Nat.lt_of_lt_of_le Lg11 Sw17.2.2.size
      replace Lg14 := Nat.lt_of_lt_of_le Lg14 Sw17.2.2.size
      replace BE := BE.trans (Sw17.2.2.mono BE.size)
      simp only [putT, List.set]
      refine wpL_chunk 1 (by rfl) (fun Lk hLk => ?_)
      simp only [List.take, List.drop]
      refine wpV_callf (v := fe (restS (x + y))) (args := #[.slice (some ⟨g16, 0, none⟩) (dlen (x + y)) g16c]) (by rfl) rfl Try.func46 (by kernel_rfl) (by kernel_rfl) rfl (fun W hW => left_c (n := dlen (x + y)) (x := (x + y)) (by omega) (dlen_lt _) Cg16 (Nat.lt_of_lt_of_le Lg16 hW.2.2.size) (range_sees Rg16_0 Lg16 hW)) ?_
      simp only [putT, List.set]
      refine wpV_nil (hLk _ (fun w18 Sw18 => ?_))
      clear hLk Lk
      simp only [List.take, List.drop]
      replace Rg3_0 := range_sees Rg3_0 Lg3 Sw18
      replace Tg3 := there_sees Tg3 Lg3 Sw18
      replace Rg4_0 := range_sees Rg4_0 Lg4 Sw18
      replace Tg4 := there_sees Tg4 Lg4 Sw18
      replace Rg5_0 := range_sees Rg5_0 Lg5 Sw18
      replace Tg5 := there_sees Tg5 Lg5 Sw18
      replace Rg11_0 := range_sees Rg11_0 Lg11 Sw18
      replace Rg14_0 := range_sees Rg14_0 Lg14 Sw18
      replace Rg16_0 := range_sees Rg16_0 Lg16 Sw18
      replace Lg3 := Nat.lt_of_lt_of_le Lg3 Sw18.2.2.size
      replace Lg4 := Nat.lt_of_lt_of_le Lg4 Sw18.2.2.size
      replace Lg5 := Nat.lt_of_lt_of_le Lg5 Sw18.2.2.size
      replace Lg11 := Nat.lt_of_lt_of_le Lg11 Sw18.2.2.size
      replace Lg14 := Nat.lt_of_lt_of_le Lg14 Sw18.2.2.size
      replace Lg16 := Nat.lt_of_lt_of_le Lg16 Sw18.2.2.size
      replace BE := BE.trans (Sw18.2.2.mono BE.size)
      refine wpL_store (g := g5) (off := 0) (n := 4) (cs := fel (restS (x + y))) (by rfl) (by rfl) (by rfl) (by rfl) (by rfl) Tg5 (by simp [flen]) info24 (fel_one _) (fun w19 Pw19 RR TT => ?_)
      replace Rg3_0 := Pw19.range Rg3_0 (.inl Ng3_g5)
      replace Tg3 := Pw19.other_there Tg3 Ng3_g5
      replace Rg4_0 := Pw19.range Rg4_0 (.inl Ng4_g5)
      replace Tg4 := Pw19.other_there Tg4 Ng4_g5
      replace Rg11_0 := Pw19.range Rg11_0 (.inl (Ne.symm Ng5_g11))
      replace Rg14_0 := Pw19.range Rg14_0 (.inl (Ne.symm Ng5_g14))
      replace Rg16_0 := Pw19.range Rg16_0 (.inl (Ne.symm Ng5_g16))
      replace Rg5_0 := RR
      clear RR
      replace Tg5 := TT
      replace Lg3 := Pw19.lt Lg3
      replace Lg4 := Pw19.lt Lg4
      replace Lg5 := Pw19.lt Lg5
      replace Lg11 := Pw19.lt Lg11
      replace Lg14 := Pw19.lt Lg14
      replace Lg16 := Pw19.lt Lg16
      replace BE := Pw19.below BE Gg5
      refine wpL_nil ?_
      refine hK7 _ _ ?_
      refine wp_ret ?_
      repeat (first | with_reducible refine then_ret ?_ | with_reducible refine inblock_ret ?_)
      refine bodyPost_ret (v := fe (restS (x + y))) (res1 rfl (.cell (by rfl) (run_loadVar_mid _ _ _ _ (fel (restS (x + y))) _ Rg5_0 Try.underlying24 rfl info24))) rfl ?_
      exact ⟨rfl, BE⟩
    · skip
      refine any_opL 2 (by rfl) ?_
      simp only [List.take, List.drop]
      refine wpL_chunk 1 (by rfl) (fun Lk hLk => ?_)
      simp only [List.take, List.drop]
      refine wpV_load (cs := fel y) (by rfl) rfl rfl Rg4_0 Lg4 Try.underlying24 rfl info24 ?_
      simp only [putT, List.set]
      refine wpV_nil (hLk _ (fun w20 Sw20 => ?_))
      clear hLk Lk
      simp only [List.take, List.drop]
      replace Rg3_0 := range_sees Rg3_0 Lg3 Sw20
      replace Tg3 := there_sees Tg3 Lg3 Sw20
      replace Rg4_0 := range_sees Rg4_0 Lg4 Sw20
      replace Tg4 := there_sees Tg4 Lg4 Sw20
      replace Rg5_0 := range_sees Rg5_0 Lg5 Sw20
      replace Tg5 := there_sees Tg5 Lg5 Sw20
      replace Lg3 := Nat.lt_of_lt_of_le Lg3 Sw20.2.2.size
      replace Lg4 := Nat.lt_of_lt_of_le Lg4 Sw20.2.2.size
      replace Lg5 := Nat.lt_of_lt_of_le Lg5 Sw20.2.2.size
      replace BE := BE.trans (Sw20.2.2.mono BE.size)
      refine wpL_nil (then_normal ?_)
      refine any_step [1] (by kernel_rfl) rfl (any_one ?_)
      refine any_opL 1 (by rfl) ?_
      simp only [List.take, List.drop]
      refine wpL_callE (f := 47) (args := #[fe x]) (R := NewRow w20 16 (dl 16 x)) (by rfl) (by rfl) rfl Try.func47 (by kernel_rfl) (by kernel_rfl) (digits_c hx) (fun v9 w22 hv9 Sw22 => ?_)
      obtain ⟨g21, g21c, rfl, Cg21, Hg21, Lg21, Rg21_0⟩ := hv9
      have Ng3_g21 : g3 ≠ g21 := Nat.ne_of_lt (Nat.lt_of_lt_of_le Lg3 Hg21)
      have Ng4_g21 : g4 ≠ g21 := Nat.ne_of_lt (Nat.lt_of_lt_of_le Lg4 Hg21)
      have Ng5_g21 : g5 ≠ g21 := Nat.ne_of_lt (Nat.lt_of_lt_of_le Lg5 Hg21)
      have Gg21 : w.heap.size ≤ g21 := Nat.le_trans BE.size Hg21
      replace Rg3_0 := range_sees Rg3_0 Lg3 Sw22
      replace Tg3 := there_sees Tg3 Lg3 Sw22
      replace Rg4_0 := range_sees Rg4_0 Lg4 Sw22
      replace Tg4 := there_sees Tg4 Lg4 Sw22
      replace Rg5_0 := range_sees Rg5_0 Lg5 Sw22
      replace Tg5 := there_sees Tg5 Lg5 Sw22
      replace Lg3 := Nat.lt_of_lt_of_le Lg3 Sw22.2.2.size
      replace Lg4 := Nat.lt_of_lt_of_le Lg4 Sw22.2.2.size
      replace Lg5 := Nat.lt_of_lt_of_le Lg5 Sw22.2.2.size
      replace BE := BE.trans (Sw22.2.2.mono BE.size)
      simp only [putT, List.set]
      refine wpL_nil (then_normal ?_)
      refine any_rest 3 (by rfl) (by kernel_rfl) ?_
      simp only [List.take, List.drop]
      refine wpL_callE (f := 47) (args := #[fe y]) (R := NewRow w22 16 (dl 16 y)) (by rfl) (by rfl) rfl Try.func47 (by kernel_rfl) (by kernel_rfl) (digits_c hy) (fun v9 w24 hv9 Sw24 => ?_)
      obtain ⟨g23, g23c, rfl, Cg23, Hg23, Lg23, Rg23_0⟩ := hv9
      have Ng3_g23 : g3 ≠ g23 := Nat.ne_of_lt (Nat.lt_of_lt_of_le Lg3 Hg23)
      have Ng4_g23 : g4 ≠ g23 := Nat.ne_of_lt (Nat.lt_of_lt_of_le Lg4 Hg23)
      have Ng5_g23 : g5 ≠ g23 := Nat.ne_of_lt (Nat.lt_of_lt_of_le Lg5 Hg23)
      have Ng21_g23 : g21 ≠ g23 := Nat.ne_of_lt (Nat.lt_of_lt_of_le Lg21 Hg23)
      have Gg23 : w.heap.size ≤ g23 := Nat.le_trans BE.size Hg23
      replace Rg3_0 := range_sees Rg3_0 Lg3 Sw24
      replace Tg3 := there_sees Tg3 Lg3 Sw24
      replace Rg4_0 := range_sees Rg4_0 Lg4 Sw24
      replace Tg4 := there_sees Tg4 Lg4 Sw24
      replace Rg5_0 := range_sees Rg5_0 Lg5 Sw24
      replace Tg5 := there_sees Tg5 Lg5 Sw24
      replace Rg21_0 := range_sees Rg21_0 Lg21 Sw24
      replace Lg3 := Nat.lt_of_lt_of_le Lg3 Sw24.2.2.size
      replace Lg4 := Nat.lt_of_lt_of_le Lg4 Sw24.2.2.size
      replace Lg5 := Nat.lt_of_lt_of_le Lg5 Sw24.2.2.size
      replace Lg21 := Nat.lt_of_lt_of_le Lg21 Sw24.2.2.size
      replace BE := BE.trans (Sw24.2.2.mono BE.size)
      simp only [putT, List.set]
      refine wpL_callE (f := 48) (args := #[.slice (some ⟨g21, 0, none⟩) 16 g21c, .slice (some ⟨g23, 0, none⟩) 16 g23c]) (R := NewRow w24 (dlen (x + y)) (dl (dlen (x + y)) (x + y))) (by rfl) (by rfl) rfl Try.func48 (by kernel_rfl) (by kernel_rfl) (plus04_c (n := 16) (x := x) (m := 16) (y := y) (by omega) (by omega) hx hy Cg21 Lg21 Rg21_0 Cg23 Lg23 Rg23_0) (fun v9 w26 hv9 Sw26 => ?_)
      obtain ⟨g25, g25c, rfl, Cg25, Hg25, Lg25, Rg25_0⟩ := hv9
      have Ng3_g25 : g3 ≠ g25 := Nat.ne_of_lt (Nat.lt_of_lt_of_le Lg3 Hg25)
      have Ng4_g25 : g4 ≠ g25 := Nat.ne_of_lt (Nat.lt_of_lt_of_le Lg4 Hg25)
      have Ng5_g25 : g5 ≠ g25 := Nat.ne_of_lt (Nat.lt_of_lt_of_le Lg5 Hg25)
      have Ng21_g25 : g21 ≠ g25 := Nat.ne_of_lt (Nat.lt_of_lt_of_le Lg21 Hg25)
      have Ng23_g25 : g23 ≠ g25 := Nat.ne_of_lt (Nat.lt_of_lt_of_le Lg23 Hg25)
      have Gg25 : w.heap.size ≤ g25 := Nat.le_trans BE.size Hg25
      replace Rg3_0 := range_sees Rg3_0 Lg3 Sw26
      replace Tg3 := there_sees Tg3 Lg3 Sw26
      replace Rg4_0 := range_sees Rg4_0 Lg4 Sw26
      replace Tg4 := there_sees Tg4 Lg4 Sw26
      replace Rg5_0 := range_sees Rg5_0 Lg5 Sw26
      replace Tg5 := there_sees Tg5 Lg5 Sw26
      replace Rg21_0 := range_sees Rg21_0 Lg21 Sw26
      replace Rg23_0 := range_sees Rg23_0 Lg23 Sw26
      replace Lg3 := Nat.lt_of_lt_of_le Lg3 Sw26.2.2.size
      replace Lg4 := Nat.lt_of_lt_of_le Lg4 Sw26.2.2.size
      replace Lg5 := Nat.lt_of_lt_of_le Lg5 Sw26.2.2.size
      replace Lg21 := Nat.lt_of_lt_of_le Lg21 Sw26.2.2.size
      replace Lg23 := Nat.lt_of_lt_of_le Lg23 Sw26.2.2.size
      replace BE := BE.trans (Sw26.2.2.mono BE.size)
      simp only [putT, List.set]
      refine wpL_chunk 1 (by rfl) (fun Lk hLk => ?_)
      simp only [List.take, List.drop]
      refine wpV_callf (v := fe (restS (x + y))) (args := #[.slice (some ⟨g25, 0, none⟩) (dlen (x + y)) g25c]) (by rfl) rfl Try.func46 (by kernel_rfl) (by kernel_rfl) rfl (fun W hW => left_c (n := dlen (x + y)) (x := (x + y)) (by omega) (dlen_lt _) Cg25 (Nat.lt_of_lt_of_le Lg25 hW.2.2.size) (range_sees Rg25_0 Lg25 hW)) ?_
      simp only [putT, List.set]
      refine wpV_nil (hLk _ (fun w27 Sw27 => ?_))
      clear hLk Lk
      simp only [List.take, List.drop]
      replace Rg3_0 := range_sees Rg3_0 Lg3 Sw27
      replace Tg3 := there_sees Tg3 Lg3 Sw27
      replace Rg4_0 := range_sees Rg4_0 Lg4 Sw27
      replace Tg4 := there_sees Tg4 Lg4 Sw27
      replace Rg5_0 := range_sees Rg5_0 Lg5 Sw27
      replace Tg5 := there_sees Tg5 Lg5 Sw27
      replace Rg21_0 := range_sees Rg21_0 Lg21 Sw27
      replace Rg23_0 := range_sees Rg23_0 Lg23 Sw27
      replace Rg25_0 := range_sees Rg25_0 Lg25 Sw27
      replace Lg3 := Nat.lt_of_lt_of_le Lg3 Sw27.2.2.size
      replace Lg4 := Nat.lt_of_lt_of_le Lg4 Sw27.2.2.size
      replace Lg5 := Nat.lt_of_lt_of_le Lg5 Sw27.2.2.size
      replace Lg21 := Nat.lt_of_lt_of_le Lg21 Sw27.2.2.size
      replace Lg23 := Nat.lt_of_lt_of_le Lg23 Sw27.2.2.size
      replace Lg25 := Nat.lt_of_lt_of_le Lg25 Sw27.2.2.size
      replace BE := BE.trans (Sw27.2.2.mono BE.size)
      refine wpL_store (g := g5) (off := 0) (n := 4) (cs := fel (restS (x + y))) (by rfl) (by rfl) (by rfl) (by rfl) (by rfl) Tg5 (by simp [flen]) info24 (fel_one _) (fun w28 Pw28 RR TT => ?_)
      replace Rg3_0 := Pw28.range Rg3_0 (.inl Ng3_g5)
      replace Tg3 := Pw28.other_there Tg3 Ng3_g5
      replace Rg4_0 := Pw28.range Rg4_0 (.inl Ng4_g5)
      replace Tg4 := Pw28.other_there Tg4 Ng4_g5
      replace Rg21_0 := Pw28.range Rg21_0 (.inl (Ne.symm Ng5_g21))
      replace Rg23_0 := Pw28.range Rg23_0 (.inl (Ne.symm Ng5_g23))
      replace Rg25_0 := Pw28.range Rg25_0 (.inl (Ne.symm Ng5_g25))
      replace Rg5_0 := RR
      clear RR
      replace Tg5 := TT
      replace Lg3 := Pw28.lt Lg3
      replace Lg4 := Pw28.lt Lg4
      replace Lg5 := Pw28.lt Lg5
      replace Lg21 := Pw28.lt Lg21
      replace Lg23 := Pw28.lt Lg23
      replace Lg25 := Pw28.lt Lg25
      replace BE := Pw28.below BE Gg5
      refine wpL_nil ?_
      refine hK7 _ _ ?_
      refine wp_ret ?_
      repeat (first | with_reducible refine then_ret ?_ | with_reducible refine inblock_ret ?_)
      refine bodyPost_ret (v := fe (restS (x + y))) (res1 rfl (.cell (by rfl) (run_loadVar_mid _ _ _ _ (fel (restS (x + y))) _ Rg5_0 Try.underlying24 rfl info24))) rfl ?_
      exact ⟨rfl, BE⟩
  · skip
    refine any_opL 2 (by rfl) ?_
    simp only [List.take, List.drop]
    refine wpL_chunk 1 (by rfl) (fun Lk hLk => ?_)
    simp only [List.take, List.drop]
    refine wpV_load (cs := fel y) (by rfl) rfl rfl Rg4_0 Lg4 Try.underlying24 rfl info24 ?_
    simp only [putT, List.set]
    refine wpV_nil (hLk _ (fun w29 Sw29 => ?_))
    clear hLk Lk
    simp only [List.take, List.drop]
    replace Rg3_0 := range_sees Rg3_0 Lg3 Sw29
    replace Tg3 := there_sees Tg3 Lg3 Sw29
    replace Rg4_0 := range_sees Rg4_0 Lg4 Sw29
    replace Tg4 := there_sees Tg4 Lg4 Sw29
    replace Rg5_0 := range_sees Rg5_0 Lg5 Sw29
    replace Tg5 := there_sees Tg5 Lg5 Sw29
    replace Lg3 := Nat.lt_of_lt_of_le Lg3 Sw29.2.2.size
    replace Lg4 := Nat.lt_of_lt_of_le Lg4 Sw29.2.2.size
    replace Lg5 := Nat.lt_of_lt_of_le Lg5 Sw29.2.2.size
    replace BE := BE.trans (Sw29.2.2.mono BE.size)
    refine wpL_nil (then_normal ?_)
    refine any_step [0] (by kernel_rfl) rfl (any_one ?_)
    refine any_opL 0 (by rfl) ?_
    simp only [List.take, List.drop]
    refine wpL_chunk 1 (by rfl) (fun Lk hLk => ?_)
    simp only [List.take, List.drop]
    refine wpV_load (cs := fel x) (by rfl) rfl rfl Rg3_0 Lg3 Try.underlying24 rfl info24 ?_
    simp only [putT, List.set]
    refine wpV_nil (hLk _ (fun w30 Sw30 => ?_))
    clear hLk Lk
    simp only [List.take, List.drop]
    replace Rg3_0 := range_sees Rg3_0 Lg3 Sw30
    replace Tg3 := there_sees Tg3 Lg3 Sw30
    replace Rg4_0 := range_sees Rg4_0 Lg4 Sw30
    replace Tg4 := there_sees Tg4 Lg4 Sw30
    replace Rg5_0 := range_sees Rg5_0 Lg5 Sw30
    replace Tg5 := there_sees Tg5 Lg5 Sw30
    replace Lg3 := Nat.lt_of_lt_of_le Lg3 Sw30.2.2.size
    replace Lg4 := Nat.lt_of_lt_of_le Lg4 Sw30.2.2.size
    replace Lg5 := Nat.lt_of_lt_of_le Lg5 Sw30.2.2.size
    replace BE := BE.trans (Sw30.2.2.mono BE.size)
    refine wpL_nil (then_normal ?_)
    refine any_step [1] (by kernel_rfl) rfl (any_one ?_)
    refine any_opL 1 (by rfl) ?_
    simp only [List.take, List.drop]
    refine wpL_callE (f := 47) (args := #[fe x]) (R := NewRow w30 16 (dl 16 x)) (by rfl) (by rfl) rfl Try.func47 (by kernel_rfl) (by kernel_rfl) (digits_c hx) (fun v9 w32 hv9 Sw32 => ?_)
    obtain ⟨g31, g31c, rfl, Cg31, Hg31, Lg31, Rg31_0⟩ := hv9
    have Ng3_g31 : g3 ≠ g31 := Nat.ne_of_lt (Nat.lt_of_lt_of_le Lg3 Hg31)
    have Ng4_g31 : g4 ≠ g31 := Nat.ne_of_lt (Nat.lt_of_lt_of_le Lg4 Hg31)
    have Ng5_g31 : g5 ≠ g31 := Nat.ne_of_lt (Nat.lt_of_lt_of_le Lg5 Hg31)
    have Gg31 : w.heap.size ≤ g31 := Nat.le_trans BE.size Hg31
    replace Rg3_0 := range_sees Rg3_0 Lg3 Sw32
    replace Tg3 := there_sees Tg3 Lg3 Sw32
    replace Rg4_0 := range_sees Rg4_0 Lg4 Sw32
    replace Tg4 := there_sees Tg4 Lg4 Sw32
    replace Rg5_0 := range_sees Rg5_0 Lg5 Sw32
    replace Tg5 := there_sees Tg5 Lg5 Sw32
    replace Lg3 := Nat.lt_of_lt_of_le Lg3 Sw32.2.2.size
    replace Lg4 := Nat.lt_of_lt_of_le Lg4 Sw32.2.2.size
    replace Lg5 := Nat.lt_of_lt_of_le Lg5 Sw32.2.2.size
    replace BE := BE.trans (Sw32.2.2.mono BE.size)
    simp only [putT, List.set]
    refine wpL_nil (then_normal ?_)
    refine any_rest 3 (by rfl) (by kernel_rfl) ?_
    simp only [List.take, List.drop]
    refine wpL_callE (f := 47) (args := #[fe y]) (R := NewRow w32 16 (dl 16 y)) (by rfl) (by rfl) rfl Try.func47 (by kernel_rfl) (by kernel_rfl) (digits_c hy) (fun v9 w34 hv9 Sw34 => ?_)
    obtain ⟨g33, g33c, rfl, Cg33, Hg33, Lg33, Rg33_0⟩ := hv9
    have Ng3_g33 : g3 ≠ g33 := Nat.ne_of_lt (Nat.lt_of_lt_of_le Lg3 Hg33)
    have Ng4_g33 : g4 ≠ g33 := Nat.ne_of_lt (Nat.lt_of_lt_of_le Lg4 Hg33)
    have Ng5_g33 : g5 ≠ g33 := Nat.ne_of_lt (Nat.lt_of_lt_of_le Lg5 Hg33)
    have Ng31_g33 : g31 ≠ g33 := Nat.ne_of_lt (Nat.lt_of_lt_of_le Lg31 Hg33)
    have Gg33 : w.heap.size ≤ g33 := Nat.le_trans BE.size Hg33
    replace Rg3_0 := range_sees Rg3_0 Lg3 Sw34
    replace Tg3 := there_sees Tg3 Lg3 Sw34
    replace Rg4_0 := range_sees Rg4_0 Lg4 Sw34
    replace Tg4 := there_sees Tg4 Lg4 Sw34
    replace Rg5_0 := range_sees Rg5_0 Lg5 Sw34
    replace Tg5 := there_sees Tg5 Lg5 Sw34
    replace Rg31_0 := range_sees Rg31_0 Lg31 Sw34
    replace Lg3 := Nat.lt_of_lt_of_le Lg3 Sw34.2.2.size
    replace Lg4 := Nat.lt_of_lt_of_le Lg4 Sw34.2.2.size
    replace Lg5 := Nat.lt_of_lt_of_le Lg5 Sw34.2.2.size
    replace Lg31 := Nat.lt_of_lt_of_le Lg31 Sw34.2.2.size
    replace BE := BE.trans (Sw34.2.2.mono BE.size)
    simp only [putT, List.set]
    refine wpL_callE (f := 48) (args := #[.slice (some ⟨g31, 0, none⟩) 16 g31c, .slice (some ⟨g33, 0, none⟩) 16 g33c]) (R := NewRow w34 (dlen (x + y)) (dl (dlen (x + y)) (x + y))) (by rfl) (by rfl) rfl Try.func48 (by kernel_rfl) (by kernel_rfl) (plus04_c (n := 16) (x := x) (m := 16) (y := y) (by omega) (by omega) hx hy Cg31 Lg31 Rg31_0 Cg33 Lg33 Rg33_0) (fun v9 w36 hv9 Sw36 => ?_)
    obtain ⟨g35, g35c, rfl, Cg35, Hg35, Lg35, Rg35_0⟩ := hv9
    have Ng3_g35 : g3 ≠ g35 := Nat.ne_of_lt (Nat.lt_of_lt_of_le Lg3 Hg35)
    have Ng4_g35 : g4 ≠ g35 := Nat.ne_of_lt (Nat.lt_of_lt_of_le Lg4 Hg35)
    have Ng5_g35 : g5 ≠ g35 := Nat.ne_of_lt (Nat.lt_of_lt_of_le Lg5 Hg35)
    have Ng31_g35 : g31 ≠ g35 := Nat.ne_of_lt (Nat.lt_of_lt_of_le Lg31 Hg35)
    have Ng33_g35 : g33 ≠ g35 := Nat.ne_of_lt (Nat.lt_of_lt_of_le Lg33 Hg35)
    have Gg35 : w.heap.size ≤ g35 := Nat.le_trans BE.size Hg35
    replace Rg3_0 := range_sees Rg3_0 Lg3 Sw36
    replace Tg3 := there_sees Tg3 Lg3 Sw36
    replace Rg4_0 := range_sees Rg4_0 Lg4 Sw36
    replace Tg4 := there_sees Tg4 Lg4 Sw36
    replace Rg5_0 := range_sees Rg5_0 Lg5 Sw36
    replace Tg5 := there_sees Tg5 Lg5 Sw36
    replace Rg31_0 := range_sees Rg31_0 Lg31 Sw36
    replace Rg33_0 := range_sees Rg33_0 Lg33 Sw36
    replace Lg3 := Nat.lt_of_lt_of_le Lg3 Sw36.2.2.size
    replace Lg4 := Nat.lt_of_lt_of_le Lg4 Sw36.2.2.size
    replace Lg5 := Nat.lt_of_lt_of_le Lg5 Sw36.2.2.size
    replace Lg31 := Nat.lt_of_lt_of_le Lg31 Sw36.2.2.size
    replace Lg33 := Nat.lt_of_lt_of_le Lg33 Sw36.2.2.size
    replace BE := BE.trans (Sw36.2.2.mono BE.size)
    simp only [putT, List.set]
    refine wpL_chunk 1 (by rfl) (fun Lk hLk => ?_)
    simp only [List.take, List.drop]
    refine wpV_callf (v := fe (restS (x + y))) (args := #[.slice (some ⟨g35, 0, none⟩) (dlen (x + y)) g35c]) (by rfl) rfl Try.func46 (by kernel_rfl) (by kernel_rfl) rfl (fun W hW => left_c (n := dlen (x + y)) (x := (x + y)) (by omega) (dlen_lt _) Cg35 (Nat.lt_of_lt_of_le Lg35 hW.2.2.size) (range_sees Rg35_0 Lg35 hW)) ?_
    simp only [putT, List.set]
    refine wpV_nil (hLk _ (fun w37 Sw37 => ?_))
    clear hLk Lk
    simp only [List.take, List.drop]
    replace Rg3_0 := range_sees Rg3_0 Lg3 Sw37
    replace Tg3 := there_sees Tg3 Lg3 Sw37
    replace Rg4_0 := range_sees Rg4_0 Lg4 Sw37
    replace Tg4 := there_sees Tg4 Lg4 Sw37
    replace Rg5_0 := range_sees Rg5_0 Lg5 Sw37
    replace Tg5 := there_sees Tg5 Lg5 Sw37
    replace Rg31_0 := range_sees Rg31_0 Lg31 Sw37
    replace Rg33_0 := range_sees Rg33_0 Lg33 Sw37
    replace Rg35_0 := range_sees Rg35_0 Lg35 Sw37
    replace Lg3 := Nat.lt_of_lt_of_le Lg3 Sw37.2.2.size
    replace Lg4 := Nat.lt_of_lt_of_le Lg4 Sw37.2.2.size
    replace Lg5 := Nat.lt_of_lt_of_le Lg5 Sw37.2.2.size
    replace Lg31 := Nat.lt_of_lt_of_le Lg31 Sw37.2.2.size
    replace Lg33 := Nat.lt_of_lt_of_le Lg33 Sw37.2.2.size
    replace Lg35 := Nat.lt_of_lt_of_le Lg35 Sw37.2.2.size
    replace BE := BE.trans (Sw37.2.2.mono BE.size)
    refine wpL_store (g := g5) (off := 0) (n := 4) (cs := fel (restS (x + y))) (by rfl) (by rfl) (by rfl) (by rfl) (by rfl) Tg5 (by simp [flen]) info24 (fel_one _) (fun w38 Pw38 RR TT => ?_)
    replace Rg3_0 := Pw38.range Rg3_0 (.inl Ng3_g5)
    replace Tg3 := Pw38.other_there Tg3 Ng3_g5
    replace Rg4_0 := Pw38.range Rg4_0 (.inl Ng4_g5)
    replace Tg4 := Pw38.other_there Tg4 Ng4_g5
    replace Rg31_0 := Pw38.range Rg31_0 (.inl (Ne.symm Ng5_g31))
    replace Rg33_0 := Pw38.range Rg33_0 (.inl (Ne.symm Ng5_g33))
    replace Rg35_0 := Pw38.range Rg35_0 (.inl (Ne.symm Ng5_g35))
    replace Rg5_0 := RR
    clear RR
    replace Tg5 := TT
    replace Lg3 := Pw38.lt Lg3
    replace Lg4 := Pw38.lt Lg4
    replace Lg5 := Pw38.lt Lg5
    replace Lg31 := Pw38.lt Lg31
    replace Lg33 := Pw38.lt Lg33
    replace Lg35 := Pw38.lt Lg35
    replace BE := Pw38.below BE Gg5
    refine wpL_nil ?_
    refine hK7 _ _ ?_
    refine wp_ret ?_
    repeat (first | with_reducible refine then_ret ?_ | with_reducible refine inblock_ret ?_)
    refine bodyPost_ret (v := fe (restS (x + y))) (res1 rfl (.cell (by rfl) (run_loadVar_mid _ _ _ _ (fel (restS (x + y))) _ Rg5_0 Try.underlying24 rfl info24))) rfl ?_
    exact ⟨rfl, BE⟩
set_option maxHeartbeats 1000000 in
theorem rmul05_c {x : Nat} (hx : x < 2 ^ 256) {y : Nat} (hy : y < 2 ^ 256) {w : World}  :
    Calls Try.prog 20 #[fe x, fe y] w fun e w' => e = .returned (fe (smul x y)) ∧ Below w.heap.size w w' := by
  have hs17 : dlen (x * y) ≤ 32 := (dlen_le _ _).2 (Nat.lt_of_lt_of_le (Nat.mul_lt_mul'' hx hy) (by decide))
  go_enter Try.func20, Try.ntmps20
  have BE := Below.refl w.heap.size w
  refine wp_seq_k (fun K1 hK1 => ?_)
  refine wp_region_plain 3 (by kernel_rfl) (fun Lk hLk => ?_)
  simp only [List.take, List.drop]
  refine wpV_alloc (by rfl) ?_
  refine wpV_alloc (by rfl) ?_
  refine wpV_alloc (by rfl) ?_
  refine wpV_nil (hLk.out _ ?_)
  clear hLk Lk
  simp only [List.take, List.drop]
  refine wpN_new (t := 24) (cs := (fel x).toArray) (by rfl) (fun W => ?_) (fun g3 Hg3 ng3 => ?_)
  · (first | rfl | go_simp)
  refine wpN_new (t := 24) (cs := (fel y).toArray) (by rfl) (fun W => ?_) (fun g4 Hg4 ng4 => ?_)
  · (first | rfl | go_simp)
  refine wpN_new (t := 24) (cs := ([.int .u64 0, .int .u64 0, .int .u64 0, .int .u64 0]).toArray) (by rfl) (fun W => ?_) (fun g5 Hg5 ng5 => ?_)
  · go_simp
  simp only [putT, List.set]
  refine wpN_nil (fun w6 Sw6 hbs => ?_)
  have Bg3 : Blk w6 g3 24 (fel x).toArray := hbs _ (List.mem_cons_of_mem _ (List.mem_cons_of_mem _ (List.mem_cons_self ..)))
  have Bg4 : Blk w6 g4 24 (fel y).toArray := hbs _ (List.mem_cons_of_mem _ (List.mem_cons_self ..))
  have Bg5 : Blk w6 g5 24 ([.int .u64 0, .int .u64 0, .int .u64 0, .int .u64 0]).toArray := hbs _ (List.mem_cons_self ..)
  clear hbs
  have Gg3 : w.heap.size ≤ g3 := Nat.le_trans BE.size Hg3
  have Ng3_g4 : g3 ≠ g4 := ng4 (g3, _, _) (List.mem_cons_self ..)
  have Gg4 : w.heap.size ≤ g4 := Nat.le_trans BE.size Hg4
  have Ng3_g5 : g3 ≠ g5 := ng5 (g3, _, _) (List.mem_cons_of_mem _ (List.mem_cons_self ..))
  have Ng4_g5 : g4 ≠ g5 := ng5 (g4, _, _) (List.mem_cons_self ..)
  have Gg5 : w.heap.size ≤ g5 := Nat.le_trans BE.size Hg5
  replace BE := BE.trans (Sw6.2.2.mono BE.size)
  have Tg3 := blk_there Bg3 (n := 4) (by simp [flen])
  have Rg3_0 := blk_range Bg3 (l := fel x) rfl
  have Lg3 := Bg3.lt
  have Tg4 := blk_there Bg4 (n := 4) (by simp [flen])
  have Rg4_0 := blk_range Bg4 (l := fel y) rfl
  have Lg4 := Bg4.lt
  have Tg5 := blk_there Bg5 (n := 4) (by simp [flen])
  have Rg5_0 := blk_range Bg5 (l := [.int .u64 0, .int .u64 0, .int .u64 0, .int .u64 0]) rfl
  have Lg5 := Bg5.lt
  clear ng3 ng4 ng5 Bg3 Bg4 Bg5
  refine wpL_nil (no_panic ?_)
  refine hK1 _ _ ?_
  refine wp_seq_k (fun K7 hK7 => ?_)
  refine wp_region_tree (by kernel_rfl) (fun w9 Sw9 => ?_)
  replace Rg3_0 := range_sees Rg3_0 Lg3 Sw9
  replace Tg3 := there_sees Tg3 Lg3 Sw9
  replace Rg4_0 := range_sees Rg4_0 Lg4 Sw9
  replace Tg4 := there_sees Tg4 Lg4 Sw9
  replace Rg5_0 := range_sees Rg5_0 Lg5 Sw9
  replace Tg5 := there_sees Tg5 Lg5 Sw9
  replace Lg3 := Nat.lt_of_lt_of_le Lg3 Sw9.2.2.size
  replace Lg4 := Nat.lt_of_lt_of_le Lg4 Sw9.2.2.size
  replace Lg5 := Nat.lt_of_lt_of_le Lg5 Sw9.2.2.size
  replace BE := BE.trans (Sw9.2.2.mono BE.size)
  refine any_step [0, 2] (by kernel_rfl) rfl (any_two ?_ (any_one ?_))
  · skip
    refine any_opL 0 (by rfl) ?_
    simp only [List.take, List.drop]
    refine wpL_chunk 1 (by rfl) (fun Lk hLk => ?_)
    simp only [List.take, List.drop]
    refine wpV_load (cs := fel x) (by rfl) rfl rfl Rg3_0 Lg3 Try.underlying24 rfl info24 ?_
    simp only [putT, List.set]
    refine wpV_nil (hLk _ (fun w10 Sw10 => ?_))
    clear hLk Lk
    simp only [List.take, List.drop]
    replace Rg3_0 := range_sees Rg3_0 Lg3 Sw10
    replace Tg3 := there_sees Tg3 Lg3 Sw10
    replace Rg4_0 := range_sees Rg4_0 Lg4 Sw10
    replace Tg4 := there_sees Tg4 Lg4 Sw10
    replace Rg5_0 := range_sees Rg5_0 Lg5 Sw10
    replace Tg5 := there_sees Tg5 Lg5 Sw10
    replace Lg3 := Nat.lt_of_lt_of_le Lg3 Sw10.2.2.size
    replace Lg4 := Nat.lt_of_lt_of_le Lg4 Sw10.2.2.size
    replace Lg5 := Nat.lt_of_lt_of_le Lg5 Sw10.2.2.size
    replace BE := BE.trans (Sw10.2.2.mono BE.size)
    refine wpL_nil (then_normal ?_)
    refine any_step [1, 2] (by kernel_rfl) rfl (any_two ?_ (any_one ?_))
    · skip
      refine any_opL 1 (by rfl) ?_
      simp only [List.take, List.drop]
      refine wpL_callE (f := 47) (args := #[fe x]) (R := NewRow w10 16 (dl 16 x)) (by rfl) (by rfl) rfl Try.func47 (by kernel_rfl) (by kernel_rfl) (digits_c hx) (fun v9 w12 hv9 Sw12 => ?_)
      obtain ⟨g11, g11c, rfl, Cg11, Hg11, Lg11, Rg11_0⟩ := hv9
      have Ng3_g11 : g3 ≠ g11 := Nat.ne_of_lt (Nat.lt_of_lt_of_le Lg3 Hg11)
      have Ng4_g11 : g4 ≠ g11 := Nat.ne_of_lt (Nat.lt_of_lt_of_le Lg4 Hg11)
      have Ng5_g11 : g5 ≠ g11 := Nat.ne_of_lt (Nat.lt_of_lt_of_le Lg5 Hg11)
      have Gg11 : w.heap.size ≤ g11 := Nat.le_trans BE.size Hg11
      replace Rg3_0 := range_sees Rg3_0 Lg3 Sw12
      replace Tg3 := there_sees Tg3 Lg3 Sw12
      replace Rg4_0 := range_sees Rg4_0 Lg4 Sw12
      replace Tg4 := there_sees Tg4 Lg4 Sw12
      replace Rg5_0 := range_sees Rg5_0 Lg5 Sw12
      replace Tg5 := there_sees Tg5 Lg5 Sw12
      replace Lg3 := Nat.lt_of_lt_of_le Lg3 Sw12.2.2.size
      replace Lg4 := Nat.lt_of_lt_of_le Lg4 Sw12.2.2.size
      replace Lg5 := Nat.lt_of_lt_of_le Lg5 Sw12.2.2.size
      replace BE := BE.trans (Sw12.2.2.mono BE.size)
      simp only [putT, List.set]
      refine wpL_nil (then_normal ?_)
      refine any_rest 2 (by rfl) (by kernel_rfl) ?_
      simp only [List.take, List.drop]
      refine wpL_chunk 1 (by rfl) (fun Lk hLk => ?_)
      simp only [List.take, List.drop]
      refine wpV_load (cs := fel y) (by rfl) rfl rfl Rg4_0 Lg4 Try.underlying24 rfl info24 ?_
      simp only [putT, List.set]
      refine wpV_nil (hLk _ (fun w13 Sw13 => ?_))
      clear hLk Lk
      simp only [List.take, List.drop]
      replace Rg3_0 := range_sees Rg3_0 Lg3 Sw13
      replace Tg3 := there_sees Tg3 Lg3 Sw13
      replace Rg4_0 := range_sees Rg4_0 Lg4 Sw13
      replace Tg4 := there_sees Tg4 Lg4 Sw13
      replace Rg5_0 := range_sees Rg5_0 Lg5 Sw13
      replace Tg5 := there_sees Tg5 Lg5 Sw13
      replace Rg11_0 := range_sees Rg11_0 Lg11 Sw13
      replace Lg3 := Nat.lt_of_lt_of_le Lg3 Sw13.2.2.size
      replace Lg4 := Nat.lt_of_lt_of_le Lg4 Sw13.2.2.size
      replace Lg5 := Nat.lt_of_lt_of_le Lg5 Sw13.2.2.size
      replace Lg11 := Nat.lt_of_lt_of_le Lg11 Sw13.2.2.size
      replace BE := BE.trans (Sw13.2.2.mono BE.size)
      refine wpL_callE (f := 47) (args := #[fe y]) (R := NewRow w13 16 (dl 16 y)) (by rfl) (by rfl) rfl Try.func47 (by kernel_rfl) (by kernel_rfl) (digits_c hy) (fun v9 w15 hv9 Sw15 => ?_)
      obtain ⟨g14, g14c, rfl, Cg14, Hg14, Lg14, Rg14_0⟩ := hv9
      have Ng3_g14 : g3 ≠ g14 := Nat.ne_of_lt (Nat.lt_of_lt_of_le Lg3 Hg14)
      have Ng4_g14 : g4 ≠ g14 := Nat.ne_of_lt (Nat.lt_of_lt_of_le Lg4 Hg14)
      have Ng5_g14 : g5 ≠ g14 := Nat.ne_of_lt (Nat.lt_of_lt_of_le Lg5 Hg14)
      have Ng11_g14 : g11 ≠ g14 := Nat.ne_of_lt (Nat.lt_of_lt_of_le Lg11 Hg14)
      have Gg14 : w.heap.size ≤ g14 := Nat.le_trans BE.size Hg14
      replace Rg3_0 := range_sees Rg3_0 Lg3 Sw15
      replace Tg3 := there_sees Tg3 Lg3 Sw15
      replace Rg4_0 := range_sees Rg4_0 Lg4 Sw15
      replace Tg4 := there_sees Tg4 Lg4 Sw15
      replace Rg5_0 := range_sees Rg5_0 Lg5 Sw15
      replace Tg5 := there_sees Tg5 Lg5 Sw15
      replace Rg11_0 := range_sees Rg11_0 Lg11 Sw15
      replace Lg3 := Nat.lt_of_lt_of_le Lg3 Sw15.2.2.size
      replace Lg4 := Nat.lt_of_lt_of_le Lg4 Sw15.2.2.size
      replace Lg5 := Nat.lt_of_lt_of_le Lg5 Sw15.2.2.size
      replace Lg11 := Nat.lt_of_lt_of_le Lg11 Sw15.2.2.size
      replace BE := BE.trans (Sw15.2.2.mono BE.size)
      simp only [putT, List.set]
      refine wpL_callE (f := 49) (args := #[.slice (some ⟨g11, 0, none⟩) 16 g11c, .slice (some ⟨g14, 0, none⟩) 16 g14c]) (R := NewRow w15 (dlen (x * y)) (dl (dlen (x * y)) (x * y))) (by rfl) (by rfl) rfl Try.func49 (by kernel_rfl) (by kernel_rfl) (times04_c (n := 16) (x := x) (m := 16) (y := y) (by omega) (by omega) hx hy Cg11 Lg11 Rg11_0 Cg14 Lg14 Rg14_0) (fun v9 w17 hv9 Sw17 => ?_)
      obtain ⟨g16, g16c, rfl, Cg16, Hg16, Lg16, Rg16_0⟩ := hv9
      have Ng3_g16 : g3 ≠ g16 := Nat.ne_of_lt (Nat.lt_of_lt_of_le Lg3 Hg16)
      have Ng4_g16 : g4 ≠ g16 := Nat.ne_of_lt (Nat.lt_of_lt_of_le Lg4 Hg16)
      have Ng5_g16 : g5 ≠ g16 := Nat.ne_of_lt (Nat.lt_of_lt_of_le Lg5 Hg16)
      have Ng11_g16 : g11 ≠ g16 := Nat.ne_of_lt (Nat.lt_of_lt_of_le Lg11 Hg16)
      have Ng14_g16 : g14 ≠ g16 := Nat.ne_of_lt (Nat.lt_of_lt_of_le Lg14 Hg16)
      have Gg16 : w.heap.size ≤ g16 := Nat.le_trans BE.size Hg16
      replace Rg3_0 := range_sees Rg3_0 Lg3 Sw17
      replace Tg3 := there_sees Tg3 Lg3 Sw17
      replace Rg4_0 := range_sees Rg4_0 Lg4 Sw17
      replace Tg4 := there_sees Tg4 Lg4 Sw17
      replace Rg5_0 := range_sees Rg5_0 Lg5 Sw17
      replace Tg5 := there_sees Tg5 Lg5 Sw17
      replace Rg11_0 := range_sees Rg11_0 Lg11 Sw17
      replace Rg14_0 := range_sees Rg14_0 Lg14 Sw17
      replace Lg3 := Nat.lt_of_lt_of_le Lg3 Sw17.2.2.size
      replace Lg4 := Nat.lt_of_lt_of_le Lg4 Sw17.2.2.size
      replace Lg5 := Nat.lt_of_lt_of_le Lg5 Sw17.2.2.size
      replace Lg11 := Nat.lt_of_lt_of_le Lg11 Sw17.2.2.size
      replace Lg14 := Nat.lt_of_lt_of_le Lg14 Sw17.2.2.size
      replace BE := BE.trans (Sw17.2.2.mono BE.size)
      simp only [putT, List.set]
      refine wpL_chunk 1 (by rfl) (fun Lk hLk => ?_)
      simp only [List.take, List.drop]
      refine wpV_callf (v := fe (restS (x * y))) (args := #[.slice (some ⟨g16, 0, none⟩) (dlen (x * y)) g16c]) (by rfl) rfl Try.func46 (by kernel_rfl) (by kernel_rfl) rfl (fun W hW => left_c (n := dlen (x * y)) (x := (x * y)) (by omega) (dlen_lt _) Cg16 (Nat.lt_of_lt_of_le Lg16 hW.2.2.size) (range_sees Rg16_0 Lg16 hW)) ?_
      simp only [putT, List.set]
      refine wpV_nil (hLk _ (fun w18 Sw18 => ?_))
      clear hLk Lk
      simp only [List.take, List.drop]
      replace Rg3_0 := range_sees Rg3_0 Lg3 Sw18
      replace Tg3 := there_sees Tg3 Lg3 Sw18
      replace Rg4_0 := range_sees Rg4_0 Lg4 Sw18
      replace Tg4 := there_sees Tg4 Lg4 Sw18
      replace Rg5_0 := range_sees Rg5_0 Lg5 Sw18
      replace Tg5 := there_sees Tg5 Lg5 Sw18
      replace Rg11_0 := range_sees Rg11_0 Lg11 Sw18
      replace Rg14_0 := range_sees Rg14_0 Lg14 Sw18
      replace Rg16_0 := range_sees Rg16_0 Lg16 Sw18
      replace Lg3 := Nat.lt_of_lt_of_le Lg3 Sw18.2.2.size
      replace Lg4 := Nat.lt_of_lt_of_le Lg4 Sw18.2.2.size
      replace Lg5 := Nat.lt_of_lt_of_le Lg5 Sw18.2.2.size
      replace Lg11 := Nat.lt_of_lt_of_le Lg11 Sw18.2.2.size
      replace Lg14 := Nat.lt_of_lt_of_le Lg14 Sw18.2.2.size
      replace Lg16 := Nat.lt_of_lt_of_le Lg16 Sw18.2.2.size
      replace BE := BE.trans (Sw18.2.2.mono BE.size)
      refine wpL_store (g := g5) (off := 0) (n := 4) (cs := fel (restS (x * y))) (by rfl) (by rfl) (by rfl) (by rfl) (by rfl) Tg5 (by simp [flen]) info24 (fel_one _) (fun w19 Pw19 RR TT => ?_)
      replace Rg3_0 := Pw19.range Rg3_0 (.inl Ng3_g5)
      replace Tg3 := Pw19.other_there Tg3 Ng3_g5
      replace Rg4_0 := Pw19.range Rg4_0 (.inl Ng4_g5)
      replace Tg4 := Pw19.other_there Tg4 Ng4_g5
      replace Rg11_0 := Pw19.range Rg11_0 (.inl (Ne.symm Ng5_g11))
      replace Rg14_0 := Pw19.range Rg14_0 (.inl (Ne.symm Ng5_g14))
      replace Rg16_0 := Pw19.range Rg16_0 (.inl (Ne.symm Ng5_g16))
      replace Rg5_0 := RR
      clear RR
      replace Tg5 := TT
      replace Lg3 := Pw19.lt Lg3
      replace Lg4 := Pw19.lt Lg4
      replace Lg5 := Pw19.lt Lg5
      replace Lg11 := Pw19.lt Lg11
      replace Lg14 := Pw19.lt Lg14
      replace Lg16 := Pw19.lt Lg16
      replace BE := Pw19.below BE Gg5
      refine wpL_nil ?_
      refine hK7 _ _ ?_
      refine wp_ret ?_
      repeat (first | with_reducible refine then_ret ?_ | with_reducible refine inblock_ret ?_)
      refine bodyPost_ret (v := fe (restS (x * y))) (res1 rfl (.cell (by rfl) (run_loadVar_mid _ _ _ _ (fel (restS (x * y))) _ Rg5_0 Try.underlying24 rfl info24))) rfl ?_
      exact ⟨rfl, BE⟩
    · skip
      refine any_opL 2 (by rfl) ?_
      simp only [List.take, List.drop]
      refine wpL_chunk 1 (by rfl) (fun Lk hLk => ?_)
      simp only [List.take, List.drop]
      refine wpV_load (cs := fel y) (by rfl) rfl rfl Rg4_0 Lg4 Try.underlying24 rfl info24 ?_
      simp only [putT, List.set]
      refine wpV_nil (hLk _ (fun w20 Sw20 => ?_))
      clear hLk Lk
      simp only [List.take, List.drop]
      replace Rg3_0 := range_sees Rg3_0 Lg3 Sw20
      replace Tg3 := there_sees Tg3 Lg3 Sw20
      replace Rg4_0 := range_sees Rg4_0 Lg4 Sw20
      replace Tg4 := there_sees Tg4 Lg4 Sw20
      replace Rg5_0 := range_sees Rg5_0 Lg5 Sw20
      replace Tg5 := there_sees Tg5 Lg5 Sw20
      replace Lg3 := Nat.lt_of_lt_of_le Lg3 Sw20.2.2.size
      replace Lg4 := Nat.lt_of_lt_of_le Lg4 Sw20.2.2.size
      replace Lg5 := Nat.lt_of_lt_of_le Lg5 Sw20.2.2.size
      replace BE := BE.trans (Sw20.2.2.mono BE.size)
      refine wpL_nil (then_normal ?_)
      refine any_step [1] (by kernel_rfl) rfl (any_one ?_)
      refine any_opL 1 (by rfl) ?_
      simp only [List.take, List.drop]
      refine wpL_callE (f := 47) (args := #[fe x]) (R := NewRow w20 16 (dl 16 x)) (by rfl) (by rfl) rfl Try.func47 (by kernel_rfl) (by kernel_rfl) (digits_c hx) (fun v9 w22 hv9 Sw22 => ?_)
      obtain ⟨g21, g21c, rfl, Cg21, Hg21, Lg21, Rg21_0⟩ := hv9
      have Ng3_g21 : g3 ≠ g21 := Nat.ne_of_lt (Nat.lt_of_lt_of_le Lg3 Hg21)
      have Ng4_g21 : g4 ≠ g21 := Nat.ne_of_lt (Nat.lt_of_lt_of_le Lg4 Hg21)
      have Ng5_g21 : g5 ≠ g21 := Nat.ne_of_lt (Nat.lt_of_lt_of_le Lg5 Hg21)
      have Gg21 : w.heap.size ≤ g21 := Nat.le_trans BE.size Hg21
      replace Rg3_0 := range_sees Rg3_0 Lg3 Sw22
      replace Tg3 := there_sees Tg3 Lg3 Sw22
      replace Rg4_0 := range_sees Rg4_0 Lg4 Sw22
      replace Tg4 := there_sees Tg4 Lg4 Sw22
      replace Rg5_0 := range_sees Rg5_0 Lg5 Sw22
      replace Tg5 := there_sees Tg5 Lg5 Sw22
      replace Lg3 := Nat.lt_of_lt_of_le Lg3 Sw22.2.2.size
      replace Lg4 := Nat.lt_of_lt_of_le Lg4 Sw22.2.2.size
      replace Lg5 := Nat.lt_of_lt_of_le Lg5 Sw22.2.2.size
      replace BE := BE.trans (Sw22.2.2.mono BE.size)
      simp only [putT, List.set]
      refine wpL_nil (then_normal ?_)
      refine any_rest 3 (by rfl) (by kernel_rfl) ?_
      simp only [List.take, List.drop]
      refine wpL_callE (f := 47) (args := #[fe y]) (R := NewRow w22 16 (dl 16 y)) (by rfl) (by rfl) rfl Try.func47 (by kernel_rfl) (by kernel_rfl) (digits_c hy) (fun v9 w24 hv9 Sw24 => ?_)
      obtain ⟨g23, g23c, rfl, Cg23, Hg23, Lg23, Rg23_0⟩ := hv9
      have Ng3_g23 : g3 ≠ g23 := Nat.ne_of_lt (Nat.lt_of_lt_of_le Lg3 Hg23)
      have Ng4_g23 : g4 ≠ g23 := Nat.ne_of_lt (Nat.lt_of_lt_of_le Lg4 Hg23)
      have Ng5_g23 : g5 ≠ g23 := Nat.ne_of_lt (Nat.lt_of_lt_of_le Lg5 Hg23)
      have Ng21_g23 : g21 ≠ g23 := Nat.ne_of_lt (Nat.lt_of_lt_of_le Lg21 Hg23)
      have Gg23 : w.heap.size ≤ g23 := Nat.le_trans BE.size Hg23
      replace Rg3_0 := range_sees Rg3_0 Lg3 Sw24
      replace Tg3 := there_sees Tg3 Lg3 Sw24
      replace Rg4_0 := range_sees Rg4_0 Lg4 Sw24
      replace Tg4 := there_sees Tg4 Lg4 Sw24
      replace Rg5_0 := range_sees Rg5_0 Lg5 Sw24
      replace Tg5 := there_sees Tg5 Lg5 Sw24
      replace Rg21_0 := range_sees Rg21_0 Lg21 Sw24
      replace Lg3 := Nat.lt_of_lt_of_le Lg3 Sw24.2.2.size
      replace Lg4 := Nat.lt_of_lt_of_le Lg4 Sw24.2.2.size
      replace Lg5 := Nat.lt_of_lt_of_le Lg5 Sw24.2.2.size
      replace Lg21 := Nat.lt_of_lt_of_le Lg21 Sw24.2.2.size
      replace BE := BE.trans (Sw24.2.2.mono BE.size)
      simp only [putT, List.set]
      refine wpL_callE (f := 49) (args := #[.slice (some ⟨g21, 0, none⟩) 16 g21c, .slice (some ⟨g23, 0, none⟩) 16 g23c]) (R := NewRow w24 (dlen (x * y)) (dl (dlen (x * y)) (x * y))) (by rfl) (by rfl) rfl Try.func49 (by kernel_rfl) (by kernel_rfl) (times04_c (n := 16) (x := x) (m := 16) (y := y) (by omega) (by omega) hx hy Cg21 Lg21 Rg21_0 Cg23 Lg23 Rg23_0) (fun v9 w26 hv9 Sw26 => ?_)
      obtain ⟨g25, g25c, rfl, Cg25, Hg25, Lg25, Rg25_0⟩ := hv9
      have Ng3_g25 : g3 ≠ g25 := Nat.ne_of_lt (Nat.lt_of_lt_of_le Lg3 Hg25)
      have Ng4_g25 : g4 ≠ g25 := Nat.ne_of_lt (Nat.lt_of_lt_of_le Lg4 Hg25)
      have Ng5_g25 : g5 ≠ g25 := Nat.ne_of_lt (Nat.lt_of_lt_of_le Lg5 Hg25)
      have Ng21_g25 : g21 ≠ g25 := Nat.ne_of_lt (Nat.lt_of_lt_of_le Lg21 Hg25)
      have Ng23_g25 : g23 ≠ g25 := Nat.ne_of_lt (Nat.lt_of_lt_of_le Lg23 Hg25)
      have Gg25 : w.heap.size ≤ g25 := Nat.le_trans BE.size Hg25
      replace Rg3_0 := range_sees Rg3_0 Lg3 Sw26
      replace Tg3 := there_sees Tg3 Lg3 Sw26
      replace Rg4_0 := range_sees Rg4_0 Lg4 Sw26
      replace Tg4 := there_sees Tg4 Lg4 Sw26
      replace Rg5_0 := range_sees Rg5_0 Lg5 Sw26
      replace Tg5 := there_sees Tg5 Lg5 Sw26
      replace Rg21_0 := range_sees Rg21_0 Lg21 Sw26
      replace Rg23_0 := range_sees Rg23_0 Lg23 Sw26
      replace Lg3 := Nat.lt_of_lt_of_le Lg3 Sw26.2.2.size
      replace Lg4 := Nat.lt_of_lt_of_le Lg4 Sw26.2.2.size
      replace Lg5 := Nat.lt_of_lt_of_le Lg5 Sw26.2.2.size
      replace Lg21 := Nat.lt_of_lt_of_le Lg21 Sw26.2.2.size
      replace Lg23 := Nat.lt_of_lt_of_le Lg23 Sw26.2.2.size
      replace BE := BE.trans (Sw26.2.2.mono BE.size)
      simp only [putT, List.set]
      refine wpL_chunk 1 (by rfl) (fun Lk hLk => ?_)
      simp only [List.take, List.drop]
      refine wpV_callf (v := fe (restS (x * y))) (args := #[.slice (some ⟨g25, 0, none⟩) (dlen (x * y)) g25c]) (by rfl) rfl Try.func46 (by kernel_rfl) (by kernel_rfl) rfl (fun W hW => left_c (n := dlen (x * y)) (x := (x * y)) (by omega) (dlen_lt _) Cg25 (Nat.lt_of_lt_of_le Lg25 hW.2.2.size) (range_sees Rg25_0 Lg25 hW)) ?_
      simp only [putT, List.set]
      refine wpV_nil (hLk _ (fun w27 Sw27 => ?_))
      clear hLk Lk
      simp only [List.take, List.drop]
      replace Rg3_0 := range_sees Rg3_0 Lg3 Sw27
      replace Tg3 := there_sees Tg3 Lg3 Sw27
      replace Rg4_0 := range_sees Rg4_0 Lg4 Sw27
      replace Tg4 := there_sees Tg4 Lg4 Sw27
      replace Rg5_0 := range_sees Rg5_0 Lg5 Sw27
      replace Tg5 := there_sees Tg5 Lg5 Sw27
      replace Rg21_0 := range_sees Rg21_0 Lg21 Sw27
      replace Rg23_0 := range_sees Rg23_0 Lg23 Sw27
      replace Rg25_0 := range_sees Rg25_0 Lg25 Sw27
      replace Lg3 := Nat.lt_of_lt_of_le Lg3 Sw27.2.2.size
      replace Lg4 := Nat.lt_of_lt_of_le Lg4 Sw27.2.2.size
      replace Lg5 := Nat.lt_of_lt_of_le Lg5 Sw27.2.2.size
      replace Lg21 := Nat.lt_of_lt_of_le Lg21 Sw27.2.2.size
      replace Lg23 := Nat.lt_of_lt_of_le Lg23 Sw27.2.2.size
      replace Lg25 := Nat.lt_of_lt_of_le Lg25 Sw27.2.2.size
      replace BE := BE.trans (Sw27.2.2.mono BE.size)
      refine wpL_store (g := g5) (off := 0) (n := 4) (cs := fel (restS (x * y))) (by rfl) (by rfl) (by rfl) (by rfl) (by rfl) Tg5 (by simp [flen]) info24 (fel_one _) (fun w28 Pw28 RR TT => ?_)
      replace Rg3_0 := Pw28.range Rg3_0 (.inl Ng3_g5)
      replace Tg3 := Pw28.other_there Tg3 Ng3_g5
      replace Rg4_0 := Pw28.range Rg4_0 (.inl Ng4_g5)
      replace Tg4 := Pw28.other_there Tg4 Ng4_g5
      replace Rg21_0 := Pw28.range Rg21_0 (.inl (Ne.symm Ng5_g21))
      replace Rg23_0 := Pw28.range Rg23_0 (.inl (Ne.symm Ng5_g23))
      replace Rg25_0 := Pw28.range Rg25_0 (.inl (Ne.symm Ng5_g25))
      replace Rg5_0 := RR
      clear RR
      replace Tg5 := TT
      replace Lg3 := Pw28.lt Lg3
      replace Lg4 := Pw28.lt Lg4
      replace Lg5 := Pw28.lt Lg5
      replace Lg21 := Pw28.lt Lg21
      replace Lg23 := Pw28.lt Lg23
      replace Lg25 := Pw28.lt Lg25
      replace BE := Pw28.below BE Gg5
      refine wpL_nil ?_
      refine hK7 _ _ ?_
      refine wp_ret ?_
      repeat (first | with_reducible refine then_ret ?_ | with_reducible refine inblock_ret ?_)
      refine bodyPost_ret (v := fe (restS (x * y))) (res1 rfl (.cell (by rfl) (run_loadVar_mid _ _ _ _ (fel (restS (x * y))) _ Rg5_0 Try.underlying24 rfl info24))) rfl ?_
      exact ⟨rfl, BE⟩
  · skip
    refine any_opL 2 (by rfl) ?_
    simp only [List.take, List.drop]
    refine wpL_chunk 1 (by rfl) (fun Lk hLk => ?_)
    simp only [List.take, List.drop]
    refine wpV_load (cs := fel y) (by rfl) rfl rfl Rg4_0 Lg4 Try.underlying24 rfl info24 ?_
    simp only [putT, List.set]
    refine wpV_nil (hLk _ (fun w29 Sw29 => ?_))
    clear hLk Lk
    simp only [List.take, List.drop]
    replace Rg3_0 := range_sees Rg3_0 Lg3 Sw29
    replace Tg3 := there_sees Tg3 Lg3 Sw29
    replace Rg4_0 := range_sees Rg4_0 Lg4 Sw29
    replace Tg4 := there_sees Tg4 Lg4 Sw29
    replace Rg5_0 := range_sees Rg5_0 Lg5 Sw29
    replace Tg5 := there_sees Tg5 Lg5 Sw29
    replace Lg3 := Nat.lt_of_lt_of_le Lg3 Sw29.2.2.size
    replace Lg4 := Nat.lt_of_lt_of_le Lg4 Sw29.2.2.size
    replace Lg5 := Nat.lt_of_lt_of_le Lg5 Sw29.2.2.size
    replace BE := BE.trans (Sw29.2.2.mono BE.size)
    refine wpL_nil (then_normal ?_)
    refine any_step [0] (by kernel_rfl) rfl (any_one ?_)
    refine any_opL 0 (by rfl) ?_
    simp only [List.take, List.drop]
    refine wpL_chunk 1 (by rfl) (fun Lk hLk => ?_)
    simp only [List.take, List.drop]
    refine wpV_load (cs := fel x) (by rfl) rfl rfl Rg3_0 Lg3 Try.underlying24 rfl info24 ?_
    simp only [putT, List.set]
    refine wpV_nil (hLk _ (fun w30 Sw30 => ?_))
    clear hLk Lk
    simp only [List.take, List.drop]
    replace Rg3_0 := range_sees Rg3_0 Lg3 Sw30
    replace Tg3 := there_sees Tg3 Lg3 Sw30
    replace Rg4_0 := range_sees Rg4_0 Lg4 Sw30
    replace Tg4 := there_sees Tg4 Lg4 Sw30
    replace Rg5_0 := range_sees Rg5_0 Lg5 Sw30
    replace Tg5 := there_sees Tg5 Lg5 Sw30
    replace Lg3 := Nat.lt_of_lt_of_le Lg3 Sw30.2.2.size
    replace Lg4 := Nat.lt_of_lt_of_le Lg4 Sw30.2.2.size
    replace Lg5 := Nat.lt_of_lt_of_le Lg5 Sw30.2.2.size
    replace BE := BE.trans (Sw30.2.2.mono BE.size)
    refine wpL_nil (then_normal ?_)
    refine any_step [1] (by kernel_rfl) rfl (any_one ?_)
    refine any_opL 1 (by rfl) ?_
    simp only [List.take, List.drop]
    refine wpL_callE (f := 47) (args := #[fe x]) (R := NewRow w30 16 (dl 16 x)) (by rfl) (by rfl) rfl Try.func47 (by kernel_rfl) (by kernel_rfl) (digits_c hx) (fun v9 w32 hv9 Sw32 => ?_)
    obtain ⟨g31, g31c, rfl, Cg31, Hg31, Lg31, Rg31_0⟩ := hv9
    have Ng3_g31 : g3 ≠ g31 := Nat.ne_of_lt (Nat.lt_of_lt_of_le Lg3 Hg31)
    have Ng4_g31 : g4 ≠ g31 := Nat.ne_of_lt (Nat.lt_of_lt_of_le Lg4 Hg31)
    have Ng5_g31 : g5 ≠ g31 := Nat.ne_of_lt (Nat.lt_of_lt_of_le Lg5 Hg31)
    have Gg31 : w.heap.size ≤ g31 := Nat.le_trans BE.size Hg31
    replace Rg3_0 := range_sees Rg3_0 Lg3 Sw32
    replace Tg3 := there_sees Tg3 Lg3 Sw32
    replace Rg4_0 := range_sees Rg4_0 Lg4 Sw32
    replace Tg4 := there_sees Tg4 Lg4 Sw32
    replace Rg5_0 := range_sees Rg5_0 Lg5 Sw32
    replace Tg5 := there_sees Tg5 Lg5 Sw32
    replace Lg3 := Nat.lt_of_lt_of_le Lg3 Sw32.2.2.size
    replace Lg4 := Nat.lt_of_lt_of_le Lg4 Sw32.2.2.size
    replace Lg5 := Nat.lt_of_lt_of_le Lg5 Sw32.2.2.size
    replace BE := BE.trans (Sw32.2.2.mono BE.size)
    simp only [putT, List.set]
    refine wpL_nil (then_normal ?_)
    refine any_rest 3 (by rfl) (by kernel_rfl) ?_
    simp only [List.take, List.drop]
    refine wpL_callE (f := 47) (args := #[fe y]) (R := NewRow w32 16 (dl 16 y)) (by rfl) (by rfl) rfl Try.func47 (by kernel_rfl) (by kernel_rfl) (digits_c hy) (fun v9 w34 hv9 Sw34 => ?_)
    obtain ⟨g33, g33c, rfl, Cg33, Hg33, Lg33, Rg33_0⟩ := hv9
    have Ng3_g33 : g3 ≠ g33 := Nat.ne_of_lt (Nat.lt_of_lt_of_le Lg3 Hg33)
    have Ng4_g33 : g4 ≠ g33 := Nat.ne_of_lt (Nat.lt_of_lt_of_le Lg4 Hg33)
    have Ng5_g33 : g5 ≠ g33 := Nat.ne_of_lt (Nat.lt_of_lt_of_le Lg5 Hg33)
    have Ng31_g33 : g31 ≠ g33 := Nat.ne_of_lt (Nat.lt_of_lt_of_le Lg31 Hg33)
    have Gg33 : w.heap.size ≤ g33 := Nat.le_trans BE.size Hg33
    replace Rg3_0 := range_sees Rg3_0 Lg3 Sw34
    replace Tg3 := there_sees Tg3 Lg3 Sw34
    replace Rg4_0 := range_sees Rg4_0 Lg4 Sw34
    replace Tg4 := there_sees Tg4 Lg4 Sw34
    replace Rg5_0 := range_sees Rg5_0 Lg5 Sw34
    replace Tg5 := there_sees Tg5 Lg5 Sw34
    replace Rg31_0 := range_sees Rg31_0 Lg31 Sw34
    replace Lg3 := Nat.lt_of_lt_of_le Lg3 Sw34.2.2.size
    replace Lg4 := Nat.lt_of_lt_of_le Lg4 Sw34.2.2.size
    replace Lg5 := Nat.lt_of_lt_of_le Lg5 Sw34.2.2.size
    replace Lg31 := Nat.lt_of_lt_of_le Lg31 Sw34.2.2.size
    replace BE := BE.trans (Sw34.2.2.mono BE.size)
    simp only [putT, List.set]
    refine wpL_callE (f := 49) (args := #[.slice (some ⟨g31, 0, none⟩) 16 g31c, .slice (some ⟨g33, 0, none⟩) 16 g33c]) (R := NewRow w34 (dlen (x * y)) (dl (dlen (x * y)) (x * y))) (by rfl) (by rfl) rfl Try.func49 (by kernel_rfl) (by kernel_rfl) (times04_c (n := 16) (x := x) (m := 16) (y := y) (by omega) (by omega) hx hy Cg31 Lg31 Rg31_0 Cg33 Lg33 Rg33_0) (fun v9 w36 hv9 Sw36 => ?_)
    obtain ⟨g35, g35c, rfl, Cg35, Hg35, Lg35, Rg35_0⟩ := hv9
    have Ng3_g35 : g3 ≠ g35 := Nat.ne_of_lt (Nat.lt_of_lt_of_le Lg3 Hg35)
    have Ng4_g35 : g4 ≠ g35 := Nat.ne_of_lt (Nat.lt_of_lt_of_le Lg4 Hg35)
    have Ng5_g35 : g5 ≠ g35 := Nat.ne_of_lt (Nat.lt_of_lt_of_le Lg5 Hg35)
    have Ng31_g35 : g31 ≠ g35 := Nat.ne_of_lt (Nat.lt_of_lt_of_le Lg31 Hg35)
    have Ng33_g35 : g33 ≠ g35 := Nat.ne_of_lt (Nat.lt_of_lt_of_le Lg33 Hg35)
    have Gg35 : w.heap.size ≤ g35 := Nat.le_trans BE.size Hg35
    replace Rg3_0 := range_sees Rg3_0 Lg3 Sw36
    replace Tg3 := there_sees Tg3 Lg3 Sw36
    replace Rg4_0 := range_sees Rg4_0 Lg4 Sw36
    replace Tg4 := there_sees Tg4 Lg4 Sw36
    replace Rg5_0 := range_sees Rg5_0 Lg5 Sw36
    replace Tg5 := there_sees Tg5 Lg5 Sw36
    replace Rg31_0 := range_sees Rg31_0 Lg31 Sw36
    replace Rg33_0 := range_sees Rg33_0 Lg33 Sw36
    replace Lg3 := Nat.lt_of_lt_of_le Lg3 Sw36.2.2.size
    replace Lg4 := Nat.lt_of_lt_of_le Lg4 Sw36.2.2.size
    replace Lg5 := Nat.lt_of_lt_of_le Lg5 Sw36.2.2.size
    replace Lg31 := Nat.lt_of_lt_of_le Lg31 Sw36.2.2.size
    replace Lg33 := Nat.lt_of_lt_of_le Lg33 Sw36.2.2.size
    replace BE := BE.trans (Sw36.2.2.mono BE.size)
    simp only [putT, List.set]
    refine wpL_chunk 1 (by rfl) (fun Lk hLk => ?_)
    simp only [List.take, List.drop]
    refine wpV_callf (v := fe (restS (x * y))) (args := #[.slice (some ⟨g35, 0, none⟩) (dlen (x * y)) g35c]) (by rfl) rfl Try.func46 (by kernel_rfl) (by kernel_rfl) rfl (fun W hW => left_c (n := dlen (x * y)) (x := (x * y)) (by omega) (dlen_lt _) Cg35 (Nat.lt_of_lt_of_le Lg35 hW.2.2.size) (range_sees Rg35_0 Lg35 hW)) ?_
    simp only [putT, List.set]
    refine wpV_nil (hLk _ (fun w37 Sw37 => ?_))
    clear hLk Lk
    simp only [List.take, List.drop]
    replace Rg3_0 := range_sees Rg3_0 Lg3 Sw37
    replace Tg3 := there_sees Tg3 Lg3 Sw37
    replace Rg4_0 := range_sees Rg4_0 Lg4 Sw37
    replace Tg4 := there_sees Tg4 Lg4 Sw37
    replace Rg5_0 := range_sees Rg5_0 Lg5 Sw37
    replace Tg5 := there_sees Tg5 Lg5 Sw37
    replace Rg31_0 := range_sees Rg31_0 Lg31 Sw37
    replace Rg33_0 := range_sees Rg33_0 Lg33 Sw37
    replace Rg35_0 := range_sees Rg35_0 Lg35 Sw37
    replace Lg3 := Nat.lt_of_lt_of_le Lg3 Sw37.2.2.size
    replace Lg4 := Nat.lt_of_lt_of_le Lg4 Sw37.2.2.size
    replace Lg5 := Nat.lt_of_lt_of_le Lg5 Sw37.2.2.size
    replace Lg31 := Nat.lt_of_lt_of_le Lg31 Sw37.2.2.size
    replace Lg33 := Nat.lt_of_lt_of_le Lg33 Sw37.2.2.size
    replace Lg35 := Nat.lt_of_lt_of_le Lg35 Sw37.2.2.size
    replace BE := BE.trans (Sw37.2.2.mono BE.size)
    refine wpL_store (g := g5) (off := 0) (n := 4) (cs := fel (restS (x * y))) (by rfl) (by rfl) (by rfl) (by rfl) (by rfl) Tg5 (by simp [flen]) info24 (fel_one _) (fun w38 Pw38 RR TT => ?_)
    replace Rg3_0 := Pw38.range Rg3_0 (.inl Ng3_g5)
    replace Tg3 := Pw38.other_there Tg3 Ng3_g5
    replace Rg4_0 := Pw38.range Rg4_0 (.inl Ng4_g5)
    replace Tg4 := Pw38.other_there Tg4 Ng4_g5
    replace Rg31_0 := Pw38.range Rg31_0 (.inl (Ne.symm Ng5_g31))
    replace Rg33_0 := Pw38.range Rg33_0 (.inl (Ne.symm Ng5_g33))
    replace Rg35_0 := Pw38.range Rg35_0 (.inl (Ne.symm Ng5_g35))
    replace Rg5_0 := RR
    clear RR
    replace Tg5 := TT
    replace Lg3 := Pw38.lt Lg3
    replace Lg4 := Pw38.lt Lg4
    replace Lg5 := Pw38.lt Lg5
    replace Lg31 := Pw38.lt Lg31
    replace Lg33 := Pw38.lt Lg33
    replace Lg35 := Pw38.lt Lg35
    replace BE := Pw38.below BE Gg5
    refine wpL_nil ?_
    refine hK7 _ _ ?_
    refine wp_ret ?_
    repeat (first | with_reducible refine then_ret ?_ | with_reducible refine inblock_ret ?_)
    refine bodyPost_ret (v := fe (restS (x * y))) (res1 rfl (.cell (by rfl) (run_loadVar_mid _ _ _ _ (fel (restS (x * y))) _ Rg5_0 Try.underlying24 rfl info24))) rfl ?_
    exact ⟨rfl, BE⟩
set_option maxHeartbeats 1000000 in
theorem rleast04_c {x : Nat} (hx : x < 2 ^ 256) {w : World}  :
    Calls Try.prog 25 #[fe x] w fun e w' => e = .returned (fe (leastF x)) ∧ Below w.heap.size w w' := by
  go_enter Try.func25, Try.ntmps25
  have BE := Below.refl w.heap.size w
  refine wp_seq_k (fun K1 hK1 => ?_)
  refine wp_region_plain 2 (by kernel_rfl) (fun Lk hLk => ?_)
  simp only [List.take, List.drop]
  refine wpV_alloc (by rfl) ?_
  refine wpV_alloc (by rfl) ?_
  refine wpV_nil (hLk.out _ ?_)
  clear hLk Lk
  simp only [List.take, List.drop]
  refine wpN_new (t := 34) (cs := (fel x).toArray) (by rfl) (fun W => ?_) (fun g3 Hg3 ng3 => ?_)
  · (first | rfl | go_simp)
  refine wpN_new (t := 34) (cs := ([.int .u64 0, .int .u64 0, .int .u64 0, .int .u64 0]).toArray) (by rfl) (fun W => ?_) (fun g4 Hg4 ng4 => ?_)
  · go_simp
  simp only [putT, List.set]
  refine wpN_nil (fun w5 Sw5 hbs => ?_)
  have Bg3 : Blk w5 g3 34 (fel x).toArray := hbs _ (List.mem_cons_of_mem _ (List.mem_cons_self ..))
  have Bg4 : Blk w5 g4 34 ([.int .u64 0, .int .u64 0, .int .u64 0, .int .u64 0]).toArray := hbs _ (List.mem_cons_self ..)
  clear hbs
  have Gg3 : w.heap.size ≤ g3 := Nat.le_trans BE.size Hg3
  have Ng3_g4 : g3 ≠ g4 := ng4 (g3, _, _) (List.mem_cons_self ..)
  have Gg4 : w.heap.size ≤ g4 := Nat.le_trans BE.size Hg4
  replace BE := BE.trans (Sw5.2.2.mono BE.size)
  have Tg3 := blk_there Bg3 (n := 4) (by simp [flen])
  have Rg3_0 := blk_range Bg3 (l := fel x) rfl
  have Lg3 := Bg3.lt
  have Tg4 := blk_there Bg4 (n := 4) (by simp [flen])
  have Rg4_0 := blk_range Bg4 (l := [.int .u64 0, .int .u64 0, .int .u64 0, .int .u64 0]) rfl
  have Lg4 := Bg4.lt
  clear ng3 ng4 Bg3 Bg4
  refine wpL_nil (no_panic ?_)
  refine hK1 _ _ ?_
  refine wp_seq_k (fun K6 hK6 => ?_)
  refine wp_region_seq ?_
  refine wpL_chunk 1 (by rfl) (fun Lk hLk => ?_)
  simp only [List.take, List.drop]
  refine wpV_load (cs := fel x) (by rfl) rfl rfl Rg3_0 Lg3 Try.underlying34 rfl info34 ?_
  simp only [putT, List.set]
  refine wpV_nil (hLk _ (fun w8 Sw8 => ?_))
  clear hLk Lk
  simp only [List.take, List.drop]
  replace Rg3_0 := range_sees Rg3_0 Lg3 Sw8
  replace Tg3 := there_sees Tg3 Lg3 Sw8
  replace Rg4_0 := range_sees Rg4_0 Lg4 Sw8
  replace Tg4 := there_sees Tg4 Lg4 Sw8
  replace Lg3 := Nat.lt_of_lt_of_le Lg3 Sw8.2.2.size
  replace Lg4 := Nat.lt_of_lt_of_le Lg4 Sw8.2.2.size
  replace BE := BE.trans (Sw8.2.2.mono BE.size)
  refine wpL_callE (f := 47) (args := #[fe x]) (R := NewRow w8 16 (dl 16 x)) (by rfl) (by rfl) rfl Try.func47 (by kernel_rfl) (by kernel_rfl) (digits_c hx) (fun v9 w10 hv9 Sw10 => ?_)
  obtain ⟨g9, g9c, rfl, Cg9, Hg9, Lg9, Rg9_0⟩ := hv9
  have Ng3_g9 : g3 ≠ g9 := Nat.ne_of_lt (Nat.lt_of_lt_of_le Lg3 Hg9)
  have Ng4_g9 : g4 ≠ g9 := Nat.ne_of_lt (Nat.lt_of_lt_of_le Lg4 Hg9)
  have Gg9 : w.heap.size ≤ g9 := Nat.le_trans BE.size Hg9
  replace Rg3_0 := range_sees Rg3_0 Lg3 Sw10
  replace Tg3 := there_sees Tg3 Lg3 Sw10
  replace Rg4_0 := range_sees Rg4_0 Lg4 Sw10
  replace Tg4 := there_sees Tg4 Lg4 Sw10
  replace Lg3 := Nat.lt_of_lt_of_le Lg3 Sw10.2.2.size
  replace Lg4 := Nat.lt_of_lt_of_le Lg4 Sw10.2.2.size
  replace BE := BE.trans (Sw10.2.2.mono BE.size)
  simp only [putT, List.set]
  refine wpL_chunk 1 (by rfl) (fun Lk hLk => ?_)
  simp only [List.take, List.drop]
  refine wpV_callf (v := fe (leastF x)) (args := #[.slice (some ⟨g9, 0, none⟩) 16 g9c]) (by rfl) rfl Try.func52 (by kernel_rfl) (by kernel_rfl) rfl (fun W hW => fold_c (n := 16) (x := x) (by omega) hx Cg9 (Nat.lt_of_lt_of_le Lg9 hW.2.2.size) (range_sees Rg9_0 Lg9 hW)) ?_
  simp only [putT, List.set]
  refine wpV_nil (hLk _ (fun w11 Sw11 => ?_))
  clear hLk Lk
  simp only [List.take, List.drop]
  replace Rg3_0 := range_sees Rg3_0 Lg3 Sw11
  replace Tg3 := there_sees Tg3 Lg3 Sw11
  replace Rg4_0 := range_sees Rg4_0 Lg4 Sw11
  replace Tg4 := there_sees Tg4 Lg4 Sw11
  replace Rg9_0 := range_sees Rg9_0 Lg9 Sw11
  replace Lg3 := Nat.lt_of_lt_of_le Lg3 Sw11.2.2.size
  replace Lg4 := Nat.lt_of_lt_of_le Lg4 Sw11.2.2.size
  replace Lg9 := Nat.lt_of_lt_of_le Lg9 Sw11.2.2.size
  replace BE := BE.trans (Sw11.2.2.mono BE.size)
  refine wpL_store (g := g4) (off := 0) (n := 4) (cs := fel (leastF x)) (by rfl) (by rfl) (by rfl) (by rfl) (by rfl) Tg4 (by simp [flen]) info34 (fel_one _) (fun w12 Pw12 RR TT => ?_)
  replace Rg3_0 := Pw12.range Rg3_0 (.inl Ng3_g4)
  replace Tg3 := Pw12.other_there Tg3 Ng3_g4
  replace Rg9_0 := Pw12.range Rg9_0 (.inl (Ne.symm Ng4_g9))
  replace Rg4_0 := RR
  clear RR
  replace Tg4 := TT
  replace Lg3 := Pw12.lt Lg3
  replace Lg4 := Pw12.lt Lg4
  replace Lg9 := Pw12.lt Lg9
  replace BE := Pw12.below BE Gg4
  refine wpL_nil (no_panic ?_)
  refine hK6 _ _ ?_
  refine wp_ret ?_
  repeat (first | with_reducible refine then_ret ?_ | with_reducible refine inblock_ret ?_)
  refine bodyPost_ret (v := fe (leastF x)) (res1 rfl (.cell (by rfl) (run_loadVar_mid _ _ _ _ (fel (leastF x)) _ Rg4_0 Try.underlying34 rfl info34))) rfl ?_
  exact ⟨rfl, BE⟩
set_option maxHeartbeats 1000000 in
theorem radd04_c {x : Nat} (hx : x < 2 ^ 256) {y : Nat} (hy : y < 2 ^ 256) {w : World}  :
    Calls Try.prog 27 #[fe x, fe y] w fun e w' => e = .returned (fe (fadd x y)) ∧ Below w.heap.size w w' := by
  have hs17 : dlen (x + y) ≤ 17 := (dlen_le _ _).2 (Nat.lt_of_lt_of_le (Nat.add_lt_add hx hy) (by decide))
  go_enter Try.func27, Try.ntmps27
  have BE := Below.refl w.heap.size w
  refine wp_seq_k (fun K1 hK1 => ?_)
  refine wp_region_plain 3 (by kernel_rfl) (fun Lk hLk => ?_)
  simp only [List.take, List.drop]
  refine wpV_alloc (by rfl) ?_
  refine wpV_alloc (by rfl) ?_
  refine wpV_alloc (by rfl) ?_
  refine wpV_nil (hLk.out _ ?_)
  clear hLk Lk
  simp only [List.take, List.drop]
  refine wpN_new (t := 34) (cs := (fel x).toArray) (by rfl) (fun W => ?_) (fun g3 Hg3 ng3 => ?_)
  · (first | rfl | go_simp)
  refine wpN_new (t := 34) (cs := (fel y).toArray) (by rfl) (fun W => ?_) (fun g4 Hg4 ng4 => ?_)
  · (first | rfl | go_simp)
  refine wpN_new (t := 34) (cs := ([.int .u64 0, .int .u64 0, .int .u64 0, .int .u64 0]).toArray) (by rfl) (fun W => ?_) (fun g5 Hg5 ng5 => ?_)
  · go_simp
  simp only [putT, List.set]
  refine wpN_nil (fun w6 Sw6 hbs => ?_)
  have Bg3 : Blk w6 g3 34 (fel x).toArray := hbs _ (List.mem_cons_of_mem _ (List.mem_cons_of_mem _ (List.mem_cons_self ..)))
  have Bg4 : Blk w6 g4 34 (fel y).toArray := hbs _ (List.mem_cons_of_mem _ (List.mem_cons_self ..))
  have Bg5 : Blk w6 g5 34 ([.int .u64 0, .int .u64 0, .int .u64 0, .int .u64 0]).toArray := hbs _ (List.mem_cons_self ..)
  clear hbs
  have Gg3 : w.heap.size ≤ g3 := Nat.le_trans BE.size Hg3
  have Ng3_g4 : g3 ≠ g4 := ng4 (g3, _, _) (List.mem_cons_self ..)
  have Gg4 : w.heap.size ≤ g4 := Nat.le_trans BE.size Hg4
  have Ng3_g5 : g3 ≠ g5 := ng5 (g3, _, _) (List.mem_cons_of_mem _ (List.mem_cons_self ..))
  have Ng4_g5 : g4 ≠ g5 := ng5 (g4, _, _) (List.mem_cons_self ..)
  have Gg5 : w.heap.size ≤ g5 := Nat.le_trans BE.size Hg5
  replace BE := BE.trans (Sw6.2.2.mono BE.size)
  have Tg3 := blk_there Bg3 (n := 4) (by simp [flen])
  have Rg3_0 := blk_range Bg3 (l := fel x) rfl
  have Lg3 := Bg3.lt
  have Tg4 := blk_there Bg4 (n := 4) (by simp [flen])
  have Rg4_0 := blk_range Bg4 (l := fel y) rfl
  have Lg4 := Bg4.lt
  have Tg5 := blk_there Bg5 (n := 4) (by simp [flen])
  have Rg5_0 := blk_range Bg5 (l := [.int .u64 0, .int .u64 0, .int .u64 0, .int .u64 0]) rfl
  have Lg5 := Bg5.lt
  clear ng3 ng4 ng5 Bg3 Bg4 Bg5
  refine wpL_nil (no_panic ?_)
  refine hK1 _ _ ?_
  refine wp_seq_k (fun K7 hK7 => ?_)
  refine wp_region_tree (by kernel_rfl) (fun w9 Sw9 => ?_)
  replace Rg3_0 := range_sees Rg3_0 Lg3 Sw9
  replace Tg3 := there_sees Tg3 Lg3 Sw9
  replace Rg4_0 := range_sees Rg4_0 Lg4 Sw9
  replace Tg4 := there_sees Tg4 Lg4 Sw9
  replace Rg5_0 := range_sees Rg5_0 Lg5 Sw9
  replace Tg5 := there_sees Tg5 Lg5 Sw9
  replace Lg3 := Nat.lt_of_lt_of_le Lg3 Sw9.2.2.size
  replace Lg4 := Nat.lt_of_lt_of_le Lg4 Sw9.2.2.size
  replace Lg5 := Nat.lt_of_lt_of_le Lg5 Sw9.2.2.size
  replace BE := BE.trans (Sw9.2.2.mono BE.size)
  refine any_step [0, 2] (by kernel_rfl) rfl (any_two ?_ (any_one ?_))
  · skip
    refine any_opL 0 (by rfl) ?_
    simp only [List.take, List.drop]
    refine wpL_chunk 1 (by rfl) (fun Lk hLk => ?_)
    simp only [List.take, List.drop]
    refine wpV_load (cs := fel x) (by rfl) rfl rfl Rg3_0 Lg3 Try.underlying34 rfl info34 ?_
    simp only [putT, List.set]
    refine wpV_nil (hLk _ (fun w10 Sw10 => ?_))
    clear hLk Lk
    simp only [List.take, List.drop]
    replace Rg3_0 := range_sees Rg3_0 Lg3 Sw10
    replace Tg3 := there_sees Tg3 Lg3 Sw10
    replace Rg4_0 := range_sees Rg4_0 Lg4 Sw10
    replace Tg4 := there_sees Tg4 Lg4 Sw10
    replace Rg5_0 := range_sees Rg5_0 Lg5 Sw10
    replace Tg5 := there_sees Tg5 Lg5 Sw10
    replace Lg3 := Nat.lt_of_lt_of_le Lg3 Sw10.2.2.size
    replace Lg4 := Nat.lt_of_lt_of_le Lg4 Sw10.2.2.size
    replace Lg5 := Nat.lt_of_lt_of_le Lg5 Sw10.2.2.size
    replace BE := BE.trans (Sw10.2.2.mono BE.size)
    refine wpL_nil (then_normal ?_)
    refine any_step [1, 2] (by kernel_rfl) rfl (any_two ?_ (any_one ?_))
    · skip
      refine any_opL 1 (by rfl) ?_
      simp only [List.take, List.drop]
      refine wpL_callE (f := 47) (args := #[fe x]) (R := NewRow w10 16 (dl 16 x)) (by rfl) (by rfl) rfl Try.func47 (by kernel_rfl) (by kernel_rfl) (digits_c hx) (fun v9 w12 hv9 Sw12 => ?_)
      obtain ⟨g11, g11c, rfl, Cg11, Hg11, Lg11, Rg11_0⟩ := hv9
      have Ng3_g11 : g3 ≠ g11 := Nat.ne_of_lt (Nat.lt_of_lt_of_le Lg3 Hg11)
      have Ng4_g11 : g4 ≠ g11 := Nat.ne_of_lt (Nat.lt_of_lt_of_le Lg4 Hg11)
      have Ng5_g11 : g5 ≠ g11 := Nat.ne_of_lt (Nat.lt_of_lt_of_le Lg5 Hg11)
      have Gg11 : w.heap.size ≤ g11 := Nat.le_trans BE.size Hg11
      replace Rg3_0 := range_sees Rg3_0 Lg3 Sw12
      replace Tg3 := there_sees Tg3 Lg3 Sw12
      replace Rg4_0 := range_sees Rg4_0 Lg4 Sw12
      replace Tg4 := there_sees Tg4 Lg4 Sw12
      replace Rg5_0 := range_sees Rg5_0 Lg5 Sw12
      replace Tg5 := there_sees Tg5 Lg5 Sw12
      replace Lg3 := Nat.lt_of_lt_of_le Lg3 Sw12.2.2.size
      replace Lg4 := Nat.lt_of_lt_of_le Lg4 Sw12.2.2.size
      replace Lg5 := Nat.lt_of_lt_of_le Lg5 Sw12.2.2.size
      replace BE := BE.trans (Sw12.2.2.mono BE.size)
      simp only [putT, List.set]
      refine wpL_nil (then_normal ?_)
      refine any_rest 2 (by rfl) (by kernel_rfl) ?_
      simp only [List.take, List.drop]
      refine wpL_chunk 1 (by rfl) (fun Lk hLk => ?_)
      simp only [List.take, List.drop]
      refine wpV_load (cs := fel y) (by rfl) rfl rfl Rg4_0 Lg4 Try.underlying34 rfl info34 ?_
      simp only [putT, List.set]
      refine wpV_nil (hLk _ (fun w13 Sw13 => ?_))
      clear hLk Lk
      simp only [List.take, List.drop]
      replace Rg3_0 := range_sees Rg3_0 Lg3 Sw13
      replace Tg3 := there_sees Tg3 Lg3 Sw13
      replace Rg4_0 := range_sees Rg4_0 Lg4 Sw13
      replace Tg4 := there_sees Tg4 Lg4 Sw13
      replace Rg5_0 := range_sees Rg5_0 Lg5 Sw13
      replace Tg5 := there_sees Tg5 Lg5 Sw13
      replace Rg11_0 := range_sees Rg11_0 Lg11 Sw13
      replace Lg3 := Nat.lt_of_lt_of_le Lg3 Sw13.2.2.size
      replace Lg4 := Nat.lt_of_lt_of_le Lg4 Sw13.2.2.size
      replace Lg5 := Nat.lt_of_lt_of_le Lg5 Sw13.2.2.size
      replace Lg11 := Nat.lt_of_lt_of_le Lg11 Sw13.2.2.size
      replace BE := BE.trans (Sw13.2.2.mono BE.size)
      refine wpL_callE (f := 47) (args := #[fe y]) (R := NewRow w13 16 (dl 16 y)) (by rfl) (by rfl) rfl Try.func47 (by kernel_rfl) (by kernel_rfl) (digits_c hy) (fun v9 w15 hv9 Sw15 => ?_)
      obtain ⟨g14, g14c, rfl, Cg14, Hg14, Lg14, Rg14_0⟩ := hv9
      have Ng3_g14 : g3 ≠ g14 := Nat.ne_of_lt (Nat.lt_of_lt_of_le Lg3 Hg14)
      have Ng4_g14 : g4 ≠ g14 := Nat.ne_of_lt (Nat.lt_of_lt_of_le Lg4 Hg14)
      have Ng5_g14 : g5 ≠ g14 := Nat.ne_of_lt (Nat.lt_of_lt_of_le Lg5 Hg14)
      have Ng11_g14 : g11 ≠ g14 := Nat.ne_of_lt (Nat.lt_of_lt_of_le Lg11 Hg14)
      have Gg14 : w.heap.size ≤ g14 := Nat.le_trans BE.size Hg14
      replace Rg3_0 := range_sees Rg3_0 Lg3 Sw15
      replace Tg3 := there_sees Tg3 Lg3 Sw15
      replace Rg4_0 := range_sees Rg4_0 Lg4 Sw15
      replace Tg4 := there_sees Tg4 Lg4 Sw15
      replace Rg5_0 := range_sees Rg5_0 Lg5 Sw15
      replace Tg5 := there_sees Tg5 Lg5 Sw15
      replace Rg11_0 := range_sees Rg11_0 Lg11 Sw15
      replace Lg3 := Nat.lt_of_lt_of_le Lg3 Sw15.2.2.size
      replace Lg4 := Nat.lt_of_lt_of_le Lg4 Sw15.2.2.size
      replace Lg5 := Nat.lt_of_lt_of_le Lg5 Sw15.2.2.size
      replace Lg11 := Nat.lt_of_lt_of_le Lg11 Sw15.2.2.size
      replace BE := BE.trans (Sw15.2.2.mono BE.size)
      simp only [putT, List.set]
      refine wpL_callE (f := 48) (args := #[.slice (some ⟨g11, 0, none⟩) 16 g11c, .slice (some ⟨g14, 0, none⟩) 16 g14c]) (R := NewRow w15 (dlen (x + y)) (dl (dlen (x + y)) (x + y))) (by rfl) (by rfl) rfl Try.func48 (by kernel_rfl) (by kernel_rfl) (plus04_c (n := 16) (x := x) (m := 16) (y := y) (by omega) (by omega) hx hy Cg11 Lg11 Rg11_0 Cg14 Lg14 Rg14_0) (fun v9 w17 hv9 Sw17 => ?_)
      obtain ⟨g16, g16c, rfl, Cg16, Hg16, Lg16, Rg16_0⟩ := hv9
      have Ng3_g16 : g3 ≠ g16 := Nat.ne_of_lt (Nat.lt_of_lt_of_le Lg3 Hg16)
      have Ng4_g16 : g4 ≠ g16 := Nat.ne_of_lt (Nat.lt_of_lt_of_le Lg4 Hg16)
      have Ng5_g16 : g5 ≠ g16 := Nat.ne_of_lt (Nat.lt_of_lt_of_le Lg5 Hg16)
      have Ng11_g16 : g11 ≠ g16 := Nat.ne_of_lt (Nat.lt_of_lt_of_le Lg11 Hg16)
      have Ng14_g16 : g14 ≠ g16 := Nat.ne_of_lt (Nat.lt_of_lt_of_le Lg14 Hg16)
      have Gg16 : w.heap.size ≤ g16 := Nat.le_trans BE.size Hg16
      replace Rg3_0 := range_sees Rg3_0 Lg3 Sw17
      replace Tg3 := there_sees Tg3 Lg3 Sw17
      replace Rg4_0 := range_sees Rg4_0 Lg4 Sw17
      replace Tg4 := there_sees Tg4 Lg4 Sw17
      replace Rg5_0 := range_sees Rg5_0 Lg5 Sw17
      replace Tg5 := there_sees Tg5 Lg5 Sw17
      replace Rg11_0 := range_sees Rg11_0 Lg11 Sw17
      replace Rg14_0 := range_sees Rg14_0 Lg14 Sw17
      replace Lg3 := Nat.lt_of_lt_of_le Lg3 Sw17.2.2.size
      replace Lg4 := Nat.lt_of_lt_of_le Lg4 Sw17.2.2.size
      replace Lg5 := Nat.lt_of_lt_of_le Lg5 Sw17.2.2.size
      replace Lg11 := Nat.lt_of_lt_of_le Lg11 Sw17.2.2.size
      replace Lg14 := Nat.lt_of_lt_of_le Lg14 Sw17.2.2.size
      replace BE := BE.trans (Sw17.2.2.mono BE.size)
      simp only [putT, List.set]
      refine wpL_chunk 1 (by rfl) (fun Lk hLk => ?_)
      simp only [List.take, List.drop]
      refine wpV_callf (v := fe (leastF (x + y))) (args := #[.slice (some ⟨g16, 0, none⟩) (dlen (x + y)) g16c]) (by rfl) rfl Try.func52 (by kernel_rfl) (by kernel_rfl) rfl (fun W hW => fold_c (n := dlen (x + y)) (x := (x + y)) (by omega) (dlen_lt _) Cg16 (Nat.lt_of_lt_of_le Lg16 hW.2.2.size) (range_sees Rg16_0 Lg16 hW)) ?_
      simp only [putT, List.set]
      refine wpV_nil (hLk _ (fun w18 Sw18 => ?_))
      clear hLk Lk
      simp only [List.take, List.drop]
      replace Rg3_0 := range_sees Rg3_0 Lg3 Sw18
      replace Tg3 := there_sees Tg3 Lg3 Sw18
      replace Rg4_0 := range_sees Rg4_0 Lg4 Sw18
      replace Tg4 := there_sees Tg4 Lg4 Sw18
      replace Rg5_0 := range_sees Rg5_0 Lg5 Sw18
      replace Tg5 := there_sees Tg5 Lg5 Sw18
      replace Rg11_0 := range_sees Rg11_0 Lg11 Sw18
      replace Rg14_0 := range_sees Rg14_0 Lg14 Sw18
      replace Rg16_0 := range_sees Rg16_0 Lg16 Sw18
      replace Lg3 := Nat.lt_of_lt_of_le Lg3 Sw18.2.2.size
      replace Lg4 := Nat.lt_of_lt_of_le Lg4 Sw18.2.2.size
      replace Lg5 := Nat.lt_of_lt_of_le Lg5 Sw18.2.2.size
      replace Lg11 := Nat.lt_of_lt_of_le Lg11 Sw18.2.2.size
      replace Lg14 := Nat.lt_of_lt_of_le Lg14 Sw18.2.2.size
      replace Lg16 := Nat.lt_of_lt_of_le Lg16 Sw18.2.2.size
      replace BE := BE.trans (Sw18.2.2.mono BE.size)
      refine wpL_store (g := g5) (off := 0) (n := 4) (cs := fel (leastF (x + y))) (by rfl) (by rfl) (by rfl) (by rfl) (by rfl) Tg5 (by simp [flen]) info34 (fel_one _) (fun w19 Pw19 RR TT => ?_)
      replace Rg3_0 := Pw19.range Rg3_0 (.inl Ng3_g5)
      replace Tg3 := Pw19.other_there Tg3 Ng3_g5
      replace Rg4_0 := Pw19.range Rg4_0 (.inl Ng4_g5)
      replace Tg4 := Pw19.other_there Tg4 Ng4_g5
      replace Rg11_0 := Pw19.range Rg11_0 (.inl (Ne.symm Ng5_g11))
      replace Rg14_0 := Pw19.range Rg14_0 (.inl (Ne.symm Ng5_g14))
      replace Rg16_0 := Pw19.range Rg16_0 (.inl (Ne.symm Ng5_g16))
      replace Rg5_0 := RR
      clear RR
      replace Tg5 := TT
      replace Lg3 := Pw19.lt Lg3
      replace Lg4 := Pw19.lt Lg4
      replace Lg5 := Pw19.lt Lg5
      replace Lg11 := Pw19.lt Lg11
      replace Lg14 := Pw19.lt Lg14
      replace Lg16 := Pw19.lt Lg16
      replace BE := Pw19.below BE Gg5
      refine wpL_nil ?_
      refine hK7 _ _ ?_
      refine wp_ret ?_
      repeat (first | with_reducible refine then_ret ?_ | with_reducible refine inblock_ret ?_)
      refine bodyPost_ret (v := fe (leastF (x + y))) (res1 rfl (.cell (by rfl) (run_loadVar_mid _ _ _ _ (fel (leastF (x + y))) _ Rg5_0 Try.underlying34 rfl info34))) rfl ?_
      exact ⟨rfl, BE⟩
    · skip
      refine any_opL 2 (by rfl) ?_
      simp only [List.take, List.drop]
      refine wpL_chunk 1 (by rfl) (fun Lk hLk => ?_)
      simp only [List.take, List.drop]
      refine wpV_load (cs := fel y) (by rfl) rfl rfl Rg4_0 Lg4 Try.underlying34 rfl info34 ?_
      simp only [putT, List.set]
      refine wpV_nil (hLk _ (fun w20 Sw20 => ?_))
      clear hLk Lk
      simp only [List.take, List.drop]
      replace Rg3_0 := range_sees Rg3_0 Lg3 Sw20
      replace Tg3 := there_sees Tg3 Lg3 Sw20
      replace Rg4_0 := range_sees Rg4_0 Lg4 Sw20
      replace Tg4 := there_sees Tg4 Lg4 Sw20
      replace Rg5_0 := range_sees Rg5_0 Lg5 Sw20
      replace Tg5 := there_sees Tg5 Lg5 Sw20
      replace Lg3 := Nat.lt_of_lt_of_le Lg3 Sw20.2.2.size
      replace Lg4 := Nat.lt_of_lt_of_le Lg4 Sw20.2.2.size
      replace Lg5 := Nat.lt_of_lt_of_le Lg5 Sw20.2.2.size
      replace BE := BE.trans (Sw20.2.2.mono BE.size)
      refine wpL_nil (then_normal ?_)
      refine any_step [1] (by kernel_rfl) rfl (any_one ?_)
      refine any_opL 1 (by rfl) ?_
      simp only [List.take, List.drop]
      refine wpL_callE (f := 47) (args := #[fe x]) (R := NewRow w20 16 (dl 16 x)) (by rfl) (by rfl) rfl Try.func47 (by kernel_rfl) (by kernel_rfl) (digits_c hx) (fun v9 w22 hv9 Sw22 => ?_)
      obtain ⟨g21, g21c, rfl, Cg21, Hg21, Lg21, Rg21_0⟩ := hv9
      have Ng3_g21 : g3 ≠ g21 := Nat.ne_of_lt (Nat.lt_of_lt_of_le Lg3 Hg21)
      have Ng4_g21 : g4 ≠ g21 := Nat.ne_of_lt (Nat.lt_of_lt_of_le Lg4 Hg21)
      have Ng5_g21 : g5 ≠ g21 := Nat.ne_of_lt (Nat.lt_of_lt_of_le Lg5 Hg21)
      have Gg21 : w.heap.size ≤ g21 := Nat.le_trans BE.size Hg21
      replace Rg3_0 := range_sees Rg3_0 Lg3 Sw22
      replace Tg3 := there_sees Tg3 Lg3 Sw22
      replace Rg4_0 := range_sees Rg4_0 Lg4 Sw22
      replace Tg4 := there_sees Tg4 Lg4 Sw22
      replace Rg5_0 := range_sees Rg5_0 Lg5 Sw22
      replace Tg5 := there_sees Tg5 Lg5 Sw22
      replace Lg3 := Nat.lt_of_lt_of_le Lg3 Sw22.2.2.size
      replace Lg4 := Nat.lt_of_lt_of_le Lg4 Sw22.2.2.size
      replace Lg5 := Nat.lt_of_lt_of_le Lg5 Sw22.2.2.size
      replace BE := BE.trans (Sw22.2.2.mono BE.size)
      simp only [putT, List.set]
      refine wpL_nil (then_normal ?_)
      refine any_rest 3 (by rfl) (by kernel_rfl) ?_
      simp only [List.take, List.drop]
      refine wpL_callE (f := 47) (args := #[fe y]) (R := NewRow w22 16 (dl 16 y)) (by rfl) (by rfl) rfl Try.func47 (by kernel_rfl) (by kernel_rfl) (digits_c hy) (fun v9 w24 hv9 Sw24 => ?_)
      obtain ⟨g23, g23c, rfl, Cg23, Hg23, Lg23, Rg23_0⟩ := hv9
      have Ng3_g23 : g3 ≠ g23 := Nat.ne_of_lt (Nat.lt_of_lt_of_le Lg3 Hg23)
      have Ng4_g23 : g4 ≠ g23 := Nat.ne_of_lt (Nat.lt_of_lt_of_le Lg4 Hg23)
      have Ng5_g23 : g5 ≠ g23 := Nat.ne_of_lt (Nat.lt_of_lt_of_le Lg5 Hg23)
      have Ng21_g23 : g21 ≠ g23 := Nat.ne_of_lt (Nat.lt_of_lt_of_le Lg21 Hg23)
      have Gg23 : w.heap.size ≤ g23 := Nat.le_trans BE.size Hg23
      replace Rg3_0 := range_sees Rg3_0 Lg3 Sw24
      replace Tg3 := there_sees Tg3 Lg3 Sw24
      replace Rg4_0 := range_sees Rg4_0 Lg4 Sw24
      replace Tg4 := there_sees Tg4 Lg4 Sw24
      replace Rg5_0 := range_sees Rg5_0 Lg5 Sw24
      replace Tg5 := there_sees Tg5 Lg5 Sw24
      replace Rg21_0 := range_sees Rg21_0 Lg21 Sw24
      replace Lg3 := Nat.lt_of_lt_of_le Lg3 Sw24.2.2.size
      replace Lg4 := Nat.lt_of_lt_of_le Lg4 Sw24.2.2.size
      replace Lg5 := Nat.lt_of_lt_of_le Lg5 Sw24.2.2.size
      replace Lg21 := Nat.lt_of_lt_of_le Lg21 Sw24.2.2.size
      replace BE := BE.trans (Sw24.2.2.mono BE.size)
      simp only [putT, List.set]
      refine wpL_callE (f := 48) (args := #[.slice (some ⟨g21, 0, none⟩) 16 g21c, .slice (some ⟨g23, 0, none⟩) 16 g23c]) (R := NewRow w24 (dlen (x + y)) (dl (dlen (x + y)) (x + y))) (by rfl) (by rfl) rfl Try.func48 (by kernel_rfl) (by kernel_rfl) (plus04_c (n := 16) (x := x) (m := 16) (y := y) (by omega) (by omega) hx hy Cg21 Lg21 Rg21_0 Cg23 Lg23 Rg23_0) (fun v9 w26 hv9 Sw26 => ?_)
      obtain ⟨g25, g25c, rfl, Cg25, Hg25, Lg25, Rg25_0⟩ := hv9
      have Ng3_g25 : g3 ≠ g25 := Nat.ne_of_lt (Nat.lt_of_lt_of_le Lg3 Hg25)
      have Ng4_g25 : g4 ≠ g25 := Nat.ne_of_lt (Nat.lt_of_lt_of_le Lg4 Hg25)
      have Ng5_g25 : g5 ≠ g25 := Nat.ne_of_lt (Nat.lt_of_lt_of_le Lg5 Hg25)
      have Ng21_g25 : g21 ≠ g25 := Nat.ne_of_lt (Nat.lt_of_lt_of_le Lg21 Hg25)
      have Ng23_g25 : g23 ≠ g25 := Nat.ne_of_lt (Nat.lt_of_lt_of_le Lg23 Hg25)
      have Gg25 : w.heap.size ≤ g25 := Nat.le_trans BE.size Hg25
      replace Rg3_0 := range_sees Rg3_0 Lg3 Sw26
      replace Tg3 := there_sees Tg3 Lg3 Sw26
      replace Rg4_0 := range_sees Rg4_0 Lg4 Sw26
      replace Tg4 := there_sees Tg4 Lg4 Sw26
      replace Rg5_0 := range_sees Rg5_0 Lg5 Sw26
      replace Tg5 := there_sees Tg5 Lg5 Sw26
      replace Rg21_0 := range_sees Rg21_0 Lg21 Sw26
      replace Rg23_0 := range_sees Rg23_0 Lg23 Sw26
      replace Lg3 := Nat.lt_of_lt_of_le Lg3 Sw26.2.2.size
      replace Lg4 := Nat.lt_of_lt_of_le Lg4 Sw26.2.2.size
      replace Lg5 := Nat.lt_of_lt_of_le Lg5 Sw26.2.2.size
      replace Lg21 := Nat.lt_of_lt_of_le Lg21 Sw26.2.2.size
      replace Lg23 := Nat.lt_of_lt_of_le Lg23 Sw26.2.2.size
      replace BE := BE.trans (Sw26.2.2.mono BE.size)
      simp only [putT, List.set]
      refine wpL_chunk 1 (by rfl) (fun Lk hLk => ?_)
      simp only [List.take, List.drop]
      refine wpV_callf (v := fe (leastF (x + y))) (args := #[.slice (some ⟨g25, 0, none⟩) (dlen (x + y)) g25c]) (by rfl) rfl Try.func52 (by kernel_rfl) (by kernel_rfl) rfl (fun W hW => fold_c (n := dlen (x + y)) (x := (x + y)) (by omega) (dlen_lt _) Cg25 (Nat.lt_of_lt_of_le Lg25 hW.2.2.size) (range_sees Rg25_0 Lg25 hW)) ?_
      simp only [putT, List.set]
      refine wpV_nil (hLk _ (fun w27 Sw27 => ?_))
      clear hLk Lk
      simp only [List.take, List.drop]
      replace Rg3_0 := range_sees Rg3_0 Lg3 Sw27
      replace Tg3 := there_sees Tg3 Lg3 Sw27
      replace Rg4_0 := range_sees Rg4_0 Lg4 Sw27
      replace Tg4 := there_sees Tg4 Lg4 Sw27
      replace Rg5_0 := range_sees Rg5_0 Lg5 Sw27
      replace Tg5 := there_sees Tg5 Lg5 Sw27
      replace Rg21_0 := range_sees Rg21_0 Lg21 Sw27
      replace Rg23_0 := range_sees Rg23_0 Lg23 Sw27
      replace Rg25_0 := range_sees Rg25_0 Lg25 Sw27
      replace Lg3 := Nat.lt_of_lt_of_le Lg3 Sw27.2.2.size
      replace Lg4 := Nat.lt_of_lt_of_le Lg4 Sw27.2.2.size
      replace Lg5 := Nat.lt_of_lt_of_le Lg5 Sw27.2.2.size
      replace Lg21 := Nat.lt_of_lt_of_le Lg21 Sw27.2.2.size
      replace Lg23 := Nat.lt_of_lt_of_le Lg23 Sw27.2.2.size
      replace Lg25 := Nat.lt_of_lt_of_le Lg25 Sw27.2.2.size
      replace BE := BE.trans (Sw27.2.2.mono BE.size)
      refine wpL_store (g := g5) (off := 0) (n := 4) (cs := fel (leastF (x + y))) (by rfl) (by rfl) (by rfl) (by rfl) (by rfl) Tg5 (by simp [flen]) info34 (fel_one _) (fun w28 Pw28 RR TT => ?_)
      replace Rg3_0 := Pw28.range Rg3_0 (.inl Ng3_g5)
      replace Tg3 := Pw28.other_there Tg3 Ng3_g5
      replace Rg4_0 := Pw28.range Rg4_0 (.inl Ng4_g5)
      replace Tg4 := Pw28.other_there Tg4 Ng4_g5
      replace Rg21_0 := Pw28.range Rg21_0 (.inl (Ne.symm Ng5_g21))
      replace Rg23_0 := Pw28.range Rg23_0 (.inl (Ne.symm Ng5_g23))
      replace Rg25_0 := Pw28.range Rg25_0 (.inl (Ne.symm Ng5_g25))
      replace Rg5_0 := RR
      clear RR
      replace Tg5 := TT
      replace Lg3 := Pw28.lt Lg3
      replace Lg4 := Pw28.lt Lg4
      replace Lg5 := Pw28.lt Lg5
      replace Lg21 := Pw28.lt Lg21
      replace Lg23 := Pw28.lt Lg23
      replace Lg25 := Pw28.lt Lg25
      replace BE := Pw28.below BE Gg5
      refine wpL_nil ?_
      refine hK7 _ _ ?_
      refine wp_ret ?_
      repeat (first | with_reducible refine then_ret ?_ | with_reducible refine inblock_ret ?_)
      refine bodyPost_ret (v := fe (leastF (x + y))) (res1 rfl (.cell (by rfl) (run_loadVar_mid _ _ _ _ (fel (leastF (x + y))) _ Rg5_0 Try.underlying34 rfl info34))) rfl ?_
      exact ⟨rfl, BE⟩
  · skip
    refine any_opL 2 (by rfl) ?_
    simp only [List.take, List.drop]
    refine wpL_chunk 1 (by rfl) (fun Lk hLk => ?_)
    simp only [List.take, List.drop]
    refine wpV_load (cs := fel y) (by rfl) rfl rfl Rg4_0 Lg4 Try.underlying34 rfl info34 ?_
    simp only [putT, List.set]
    refine wpV_nil (hLk _ (fun w29 Sw29 => ?_))
    clear hLk Lk
    simp only [List.take, List.drop]
    replace Rg3_0 := range_sees Rg3_0 Lg3 Sw29
    replace Tg3 := there_sees Tg3 Lg3 Sw29
    replace Rg4_0 := range_sees Rg4_0 Lg4 Sw29
    replace Tg4 := there_sees Tg4 Lg4 Sw29
    replace Rg5_0 := range_sees Rg5_0 Lg5 Sw29
    replace Tg5 := there_sees Tg5 Lg5 Sw29
    replace Lg3 := Nat.lt_of_lt_of_le Lg3 Sw29.2.2.size
    replace Lg4 := Nat.lt_of_lt_of_le Lg4 Sw29.2.2.size
    replace Lg5 := Nat.lt_of_lt_of_le Lg5 Sw29.2.2.size
    replace BE := BE.trans (Sw29.2.2.mono BE.size)
    refine wpL_nil (then_normal ?_)
    refine any_step [0] (by kernel_rfl) rfl (any_one ?_)
    refine any_opL 0 (by rfl) ?_
    simp only [List.take, List.drop]
    refine wpL_chunk 1 (by rfl) (fun Lk hLk => ?_)
    simp only [List.take, List.drop]
    refine wpV_load (cs := fel x) (by rfl) rfl rfl Rg3_0 Lg3 Try.underlying34 rfl info34 ?_
    simp only [putT, List.set]
    refine wpV_nil (hLk _ (fun w30 Sw30 => ?_))
    clear hLk Lk
    simp only [List.take, List.drop]
    replace Rg3_0 := range_sees Rg3_0 Lg3 Sw30
    replace Tg3 := there_sees Tg3 Lg3 Sw30
    replace Rg4_0 := range_sees Rg4_0 Lg4 Sw30
    replace Tg4 := there_sees Tg4 Lg4 Sw30
    replace Rg5_0 := range_sees Rg5_0 Lg5 Sw30
    replace Tg5 := there_sees Tg5 Lg5 Sw30
    replace Lg3 := Nat.lt_of_lt_of_le Lg3 Sw30.2.2.size
    replace Lg4 := Nat.lt_of_lt_of_le Lg4 Sw30.2.2.size
    replace Lg5 := Nat.lt_of_lt_of_le Lg5 Sw30.2.2.size
    replace BE := BE.trans (Sw30.2.2.mono BE.size)
    refine wpL_nil (then_normal ?_)
    refine any_step [1] (by kernel_rfl) rfl (any_one ?_)
    refine any_opL 1 (by rfl) ?_
    simp only [List.take, List.drop]
    refine wpL_callE (f := 47) (args := #[fe x]) (R := NewRow w30 16 (dl 16 x)) (by rfl) (by rfl) rfl Try.func47 (by kernel_rfl) (by kernel_rfl) (digits_c hx) (fun v9 w32 hv9 Sw32 => ?_)
    obtain ⟨g31, g31c, rfl, Cg31, Hg31, Lg31, Rg31_0⟩ := hv9
    have Ng3_g31 : g3 ≠ g31 := Nat.ne_of_lt (Nat.lt_of_lt_of_le Lg3 Hg31)
    have Ng4_g31 : g4 ≠ g31 := Nat.ne_of_lt (Nat.lt_of_lt_of_le Lg4 Hg31)
    have Ng5_g31 : g5 ≠ g31 := Nat.ne_of_lt (Nat.lt_of_lt_of_le Lg5 Hg31)
    have Gg31 : w.heap.size ≤ g31 := Nat.le_trans BE.size Hg31
    replace Rg3_0 := range_sees Rg3_0 Lg3 Sw32
    replace Tg3 := there_sees Tg3 Lg3 Sw32
    replace Rg4_0 := range_sees Rg4_0 Lg4 Sw32
    replace Tg4 := there_sees Tg4 Lg4 Sw32
    replace Rg5_0 := range_sees Rg5_0 Lg5 Sw32
    replace Tg5 := there_sees Tg5 Lg5 Sw32
    replace Lg3 := Nat.lt_of_lt_of_le Lg3 Sw32.2.2.size
    replace Lg4 := Nat.lt_of_lt_of_le Lg4 Sw32.2.2.size
    replace Lg5 := Nat.lt_of_lt_of_le Lg5 Sw32.2.2.size
    replace BE := BE.trans (Sw32.2.2.mono BE.size)
    simp only [putT, List.set]
    refine wpL_nil (then_normal ?_)
    refine any_rest 3 (by rfl) (by kernel_rfl) ?_
    simp only [List.take, List.drop]
    refine wpL_callE (f := 47) (args := #[fe y]) (R := NewRow w32 16 (dl 16 y)) (by rfl) (by rfl) rfl Try.func47 (by kernel_rfl) (by kernel_rfl) (digits_c hy) (fun v9 w34 hv9 Sw34 => ?_)
    obtain ⟨g33, g33c, rfl, Cg33, Hg33, Lg33, Rg33_0⟩ := hv9
    have Ng3_g33 : g3 ≠ g33 := Nat.ne_of_lt (Nat.lt_of_lt_of_le Lg3 Hg33)
    have Ng4_g33 : g4 ≠ g33 := Nat.ne_of_lt (Nat.lt_of_lt_of_le Lg4 Hg33)
    have Ng5_g33 : g5 ≠ g33 := Nat.ne_of_lt (Nat.lt_of_lt_of_le Lg5 Hg33)
    have Ng31_g33 : g31 ≠ g33 := Nat.ne_of_lt (Nat.lt_of_lt_of_le Lg31 Hg33)
    have Gg33 : w.heap.size ≤ g33 := Nat.le_trans BE.size Hg33
    replace Rg3_0 := range_sees Rg3_0 Lg3 Sw34
    replace Tg3 := there_sees Tg3 Lg3 Sw34
    replace Rg4_0 := range_sees Rg4_0 Lg4 Sw34
    replace Tg4 := there_sees Tg4 Lg4 Sw34
    replace Rg5_0 := range_sees Rg5_0 Lg5 Sw34
    replace Tg5 := there_sees Tg5 Lg5 Sw34
    replace Rg31_0 := range_sees Rg31_0 Lg31 Sw34
    replace Lg3 := Nat.lt_of_lt_of_le Lg3 Sw34.2.2.size
    replace Lg4 := Nat.lt_of_lt_of_le Lg4 Sw34.2.2.size
    replace Lg5 := Nat.lt_of_lt_of_le Lg5 Sw34.2.2.size
    replace Lg31 := Nat.lt_of_lt_of_le Lg31 Sw34.2.2.size
    replace BE := BE.trans (Sw34.2.2.mono BE.size)
    simp only [putT, List.set]
    refine wpL_callE (f := 48) (args := #[.slice (some ⟨g31, 0, none⟩) 16 g31c, .slice (some ⟨g33, 0, none⟩) 16 g33c]) (R := NewRow w34 (dlen (x + y)) (dl (dlen (x + y)) (x + y))) (by rfl) (by rfl) rfl Try.func48 (by kernel_rfl) (by kernel_rfl) (plus04_c (n := 16) (x := x) (m := 16) (y := y) (by omega) (by omega) hx hy Cg31 Lg31 Rg31_0 Cg33 Lg33 Rg33_0) (fun v9 w36 hv9 Sw36 => ?_)
    obtain ⟨g35, g35c, rfl, Cg35, Hg35, Lg35, Rg35_0⟩ := hv9
    have Ng3_g35 : g3 ≠ g35 := Nat.ne_of_lt (Nat.lt_of_lt_of_le Lg3 Hg35)
    have Ng4_g35 : g4 ≠ g35 := Nat.ne_of_lt (Nat.lt_of_lt_of_le Lg4 Hg35)
    have Ng5_g35 : g5 ≠ g35 := Nat.ne_of_lt (Nat.lt_of_lt_of_le Lg5 Hg35)
    have Ng31_g35 : g31 ≠ g35 := Nat.ne_of_lt (Nat.lt_of_lt_of_le Lg31 Hg35)
    have Ng33_g35 : g33 ≠ g35 := Nat.ne_of_lt (Nat.lt_of_lt_of_le Lg33 Hg35)
    have Gg35 : w.heap.size ≤ g35 := Nat.le_trans BE.size Hg35
    replace Rg3_0 := range_sees Rg3_0 Lg3 Sw36
    replace Tg3 := there_sees Tg3 Lg3 Sw36
    replace Rg4_0 := range_sees Rg4_0 Lg4 Sw36
    replace Tg4 := there_sees Tg4 Lg4 Sw36
    replace Rg5_0 := range_sees Rg5_0 Lg5 Sw36
    replace Tg5 := there_sees Tg5 Lg5 Sw36
    replace Rg31_0 := range_sees Rg31_0 Lg31 Sw36
    replace Rg33_0 := range_sees Rg33_0 Lg33 Sw36
    replace Lg3 := Nat.lt_of_lt_of_le Lg3 Sw36.2.2.size
    replace Lg4 := Nat.lt_of_lt_of_le Lg4 Sw36.2.2.size
    replace Lg5 := Nat.lt_of_lt_of_le Lg5 Sw36.2.2.size
    replace Lg31 := Nat.lt_of_lt_of_le Lg31 Sw36.2.2.size
    replace Lg33 := Nat.lt_of_lt_of_le Lg33 Sw36.2.2.size
    replace BE := BE.trans (Sw36.2.2.mono BE.size)
    simp only [putT, List.set]
    refine wpL_chunk 1 (by rfl) (fun Lk hLk => ?_)
    simp only [List.take, List.drop]
    refine wpV_callf (v := fe (leastF (x + y))) (args := #[.slice (some ⟨g35, 0, none⟩) (dlen (x + y)) g35c]) (by rfl) rfl Try.func52 (by kernel_rfl) (by kernel_rfl) rfl (fun W hW => fold_c (n := dlen (x + y)) (x := (x + y)) (by omega) (dlen_lt _) Cg35 (Nat.lt_of_lt_of_le Lg35 hW.2.2.size) (range_sees Rg35_0 Lg35 hW)) ?_
    simp only [putT, List.set]
    refine wpV_nil (hLk _ (fun w37 Sw37 => ?_))
    clear hLk Lk
    simp only [List.take, List.drop]
    replace Rg3_0 := range_sees Rg3_0 Lg3 Sw37
    replace Tg3 := there_sees Tg3 Lg3 Sw37
    replace Rg4_0 := range_sees Rg4_0 Lg4 Sw37
    replace Tg4 := there_sees Tg4 Lg4 Sw37
    replace Rg5_0 := range_sees Rg5_0 Lg5 Sw37
    replace Tg5 := there_sees Tg5 Lg5 Sw37
    replace Rg31_0 := range_sees Rg31_0 Lg31 Sw37
    replace Rg33_0 := range_sees Rg33_0 Lg33 Sw37
    replace Rg35_0 := range_sees Rg35_0 Lg35 Sw37
    replace Lg3 := Nat.lt_of_lt_of_le Lg3 Sw37.2.2.size
    replace Lg4 := Nat.lt_of_lt_of_le Lg4 Sw37.2.2.size
    replace Lg5 := Nat.lt_of_lt_of_le Lg5 Sw37.2.2.size
    replace Lg31 := Nat.lt_of_lt_of_le Lg31 Sw37.2.2.size
    replace Lg33 := Nat.lt_of_lt_of_le Lg33 Sw37.2.2.size
    replace Lg35 := Nat.lt_of_lt_of_le Lg35 Sw37.2.2.size
    replace BE := BE.trans (Sw37.2.2.mono BE.size)
    refine wpL_store (g := g5) (off := 0) (n := 4) (cs := fel (leastF (x + y))) (by rfl) (by rfl) (by rfl) (by rfl) (by rfl) Tg5 (by simp [flen]) info34 (fel_one _) (fun w38 Pw38 RR TT => ?_)
    replace Rg3_0 := Pw38.range Rg3_0 (.inl Ng3_g5)
    replace Tg3 := Pw38.other_there Tg3 Ng3_g5
    replace Rg4_0 := Pw38.range Rg4_0 (.inl Ng4_g5)
    replace Tg4 := Pw38.other_there Tg4 Ng4_g5
    replace Rg31_0 := Pw38.range Rg31_0 (.inl (Ne.symm Ng5_g31))
    replace Rg33_0 := Pw38.range Rg33_0 (.inl (Ne.symm Ng5_g33))
    replace Rg35_0 := Pw38.range Rg35_0 (.inl (Ne.symm Ng5_g35))
    replace Rg5_0 := RR
    clear RR
    replace Tg5 := TT
    replace Lg3 := Pw38.lt Lg3
    replace Lg4 := Pw38.lt Lg4
    replace Lg5 := Pw38.lt Lg5
    replace Lg31 := Pw38.lt Lg31
    replace Lg33 := Pw38.lt Lg33
    replace Lg35 := Pw38.lt Lg35
    replace BE := Pw38.below BE Gg5
    refine wpL_nil ?_
    refine hK7 _ _ ?_
    refine wp_ret ?_
    repeat (first | with_reducible refine then_ret ?_ | with_reducible refine inblock_ret ?_)
    refine bodyPost_ret (v := fe (leastF (x + y))) (res1 rfl (.cell (by rfl) (run_loadVar_mid _ _ _ _ (fel (leastF (x + y))) _ Rg5_0 Try.underlying34 rfl info34))) rfl ?_
    exact ⟨rfl, BE⟩
set_option maxHeartbeats 1000000 in
theorem rmul04_c {x : Nat} (hx : x < 2 ^ 256) {y : Nat} (hy : y < 2 ^ 256) {w : World}  :
    Calls Try.prog 31 #[fe x, fe y] w fun e w' => e = .returned (fe (fmul x y)) ∧ Below w.heap.size w w' := by
  have hs17 : dlen (x * y) ≤ 32 := (dlen_le _ _).2 (Nat.lt_of_lt_of_le (Nat.mul_lt_mul'' hx hy) (by decide))
  go_enter Try.func31, Try.ntmps31
  have BE := Below.refl w.heap.size w
  refine wp_seq_k (fun K1 hK1 => ?_)
  refine wp_region_plain 3 (by kernel_rfl) (fun Lk hLk => ?_)
  simp only [List.take, List.drop]
  refine wpV_alloc (by rfl) ?_
  refine wpV_alloc (by rfl) ?_
  refine wpV_alloc (by rfl) ?_
  refine wpV_nil (hLk.out _ ?_)
  clear hLk Lk
  simp only [List.take, List.drop]
  refine wpN_new (t := 34) (cs := (fel x).toArray) (by rfl) (fun W => ?_) (fun g3 Hg3 ng3 => ?_)
  · (first | rfl | go_simp)
  refine wpN_new (t := 34) (cs := (fel y).toArray) (by rfl) (fun W => ?_) (fun g4 Hg4 ng4 => ?_)
  · (first | rfl | go_simp)
  refine wpN_new (t := 34) (cs := ([.int .u64 0, .int .u64 0, .int .u64 0, .int .u64 0]).toArray) (by rfl) (fun W => ?_) (fun g5 Hg5 ng5 => ?_)
  · go_simp
  simp only [putT, List.set]
  refine wpN_nil (fun w6 Sw6 hbs => ?_)
  have Bg3 : Blk w6 g3 34 (fel x).toArray := hbs _ (List.mem_cons_of_mem _ (List.mem_cons_of_mem _ (List.mem_cons_self ..)))
  have Bg4 : Blk w6 g4 34 (fel y).toArray := hbs _ (List.mem_cons_of_mem _ (List.mem_cons_self ..))
  have Bg5 : Blk w6 g5 34 ([.int .u64 0, .int .u64 0, .int .u64 0, .int .u64 0]).toArray := hbs _ (List.mem_cons_self ..)
  clear hbs
  have Gg3 : w.heap.size ≤ g3 := Nat.le_trans BE.size Hg3
  have Ng3_g4 : g3 ≠ g4 := ng4 (g3, _, _) (List.mem_cons_self ..)
  have Gg4 : w.heap.size ≤ g4 := Nat.le_trans BE.size Hg4
  have Ng3_g5 : g3 ≠ g5 := ng5 (g3, _, _) (List.mem_cons_of_mem _ (List.mem_cons_self ..))
  have Ng4_g5 : g4 ≠ g5 := ng5 (g4, _, _) (List.mem_cons_self ..)
  have Gg5 : w.heap.size ≤ g5 := Nat.le_trans BE.size Hg5
  replace BE := BE.trans (Sw6.2.2.mono BE.size)
  have Tg3 := blk_there Bg3 (n := 4) (by simp [flen])
  have Rg3_0 := blk_range Bg3 (l := fel x) rfl
  have Lg3 := Bg3.lt
  have Tg4 := blk_there Bg4 (n := 4) (by simp [flen])
  have Rg4_0 := blk_range Bg4 (l := fel y) rfl
  have Lg4 := Bg4.lt
  have Tg5 := blk_there Bg5 (n := 4) (by simp [flen])
  have Rg5_0 := blk_range Bg5 (l := [.int .u64 0, .int .u64 0, .int .u64 0, .int .u64 0]) rfl
  have Lg5 := Bg5.lt
  clear ng3 ng4 ng5 Bg3 Bg4 Bg5
  refine wpL_nil (no_panic ?_)
  refine hK1 _ _ ?_
  refine wp_seq_k (fun K7 hK7 => ?_)
  refine wp_region_tree (by kernel_rfl) (fun w9 Sw9 => ?_)
  replace Rg3_0 := range_sees Rg3_0 Lg3 Sw9
  replace Tg3 := there_sees Tg3 Lg3 Sw9
  replace Rg4_0 := range_sees Rg4_0 Lg4 Sw9
  replace Tg4 := there_sees Tg4 Lg4 Sw9
  replace Rg5_0 := range_sees Rg5_0 Lg5 Sw9
  replace Tg5 := there_sees Tg5 Lg5 Sw9
  replace Lg3 := Nat.lt_of_lt_of_le Lg3 Sw9.2.2.size
  replace Lg4 := Nat.lt_of_lt_of_le Lg4 Sw9.2.2.size
  replace Lg5 := Nat.lt_of_lt_of_le Lg5 Sw9.2.2.size
  replace BE := BE.trans (Sw9.2.2.mono BE.size)
  refine any_step [0, 2] (by kernel_rfl) rfl (any_two ?_ (any_one ?_))
  · skip
    refine any_opL 0 (by rfl) ?_
    simp only [List.take, List.drop]
    refine wpL_chunk 1 (by rfl) (fun Lk hLk => ?_)
    simp only [List.take, List.drop]
    refine wpV_load (cs := fel x) (by rfl) rfl rfl Rg3_0 Lg3 Try.underlying34 rfl info34 ?_
    simp only [putT, List.set]
    refine wpV_nil (hLk _ (fun w10 Sw10 => ?_))
    clear hLk Lk
    simp only [List.take, List.drop]
    replace Rg3_0 := range_sees Rg3_0 Lg3 Sw10
    replace Tg3 := there_sees Tg3 Lg3 Sw10
    replace Rg4_0 := range_sees Rg4_0 Lg4 Sw10
    replace Tg4 := there_sees Tg4 Lg4 Sw10
    replace Rg5_0 := range_sees Rg5_0 Lg5 Sw10
    replace Tg5 := there_sees Tg5 Lg5 Sw10
    replace Lg3 := Nat.lt_of_lt_of_le Lg3 Sw10.2.2.size
    replace Lg4 := Nat.lt_of_lt_of_le Lg4 Sw10.2.2.size
    replace Lg5 := Nat.lt_of_lt_of_le Lg5 Sw10.2.2.size
    replace BE := BE.trans (Sw10.2.2.mono BE.size)
    refine wpL_nil (then_normal ?_)
    refine any_step [1, 2] (by kernel_rfl) rfl (any_two ?_ (any_one ?_))
    · skip
      refine any_opL 1 (by rfl) ?_
      simp only [List.take, List.drop]
      refine wpL_callE (f := 47) (args := #[fe x]) (R := NewRow w10 16 (dl 16 x)) (by rfl) (by rfl) rfl Try.func47 (by kernel_rfl) (by kernel_rfl) (digits_c hx) (fun v9 w12 hv9 Sw12 => ?_)
      obtain ⟨g11, g11c, rfl, Cg11, Hg11, Lg11, Rg11_0⟩ := hv9
      have Ng3_g11 : g3 ≠ g11 := Nat.ne_of_lt (Nat.lt_of_lt_of_le Lg3 Hg11)
      have Ng4_g11 : g4 ≠ g11 := Nat.ne_of_lt (Nat.lt_of_lt_of_le Lg4 Hg11)
      have Ng5_g11 : g5 ≠ g11 := Nat.ne_of_lt (Nat.lt_of_lt_of_le Lg5 Hg11)
      have Gg11 : w.heap.size ≤ g11 := Nat.le_trans BE.size Hg11
      replace Rg3_0 := range_sees Rg3_0 Lg3 Sw12
      replace Tg3 := there_sees Tg3 Lg3 Sw12
      replace Rg4_0 := range_sees Rg4_0 Lg4 Sw12
      replace Tg4 := there_sees Tg4 Lg4 Sw12
      replace Rg5_0 := range_sees Rg5_0 Lg5 Sw12
      replace Tg5 := there_sees Tg5 Lg5 Sw12
      replace Lg3 := Nat.lt_of_lt_of_le Lg3 Sw12.2.2.size
      replace Lg4 := Nat.lt_of_lt_of_le Lg4 Sw12.2.2.size
      replace Lg5 := Nat.lt_of_lt_of_le Lg5 Sw12.2.2.size
      replace BE := BE.trans (Sw12.2.2.mono BE.size)
      simp only [putT, List.set]
      refine wpL_nil (then_normal ?_)
      refine any_rest 2 (by rfl) (by kernel_rfl) ?_
      simp only [List.take, List.drop]
      refine wpL_chunk 1 (by rfl) (fun Lk hLk => ?_)
      simp only [List.take, List.drop]
      refine wpV_load (cs := fel y) (by rfl) rfl rfl Rg4_0 Lg4 Try.underlying34 rfl info34 ?_
      simp only [putT, List.set]
      refine wpV_nil (hLk _ (fun w13 Sw13 => ?_))
      clear hLk Lk
      simp only [List.take, List.drop]
      replace Rg3_0 := range_sees Rg3_0 Lg3 Sw13
      replace Tg3 := there_sees Tg3 Lg3 Sw13
      replace Rg4_0 := range_sees Rg4_0 Lg4 Sw13
      replace Tg4 := there_sees Tg4 Lg4 Sw13
      replace Rg5_0 := range_sees Rg5_0 Lg5 Sw13
      replace Tg5 := there_sees Tg5 Lg5 Sw13
      replace Rg11_0 := range_sees Rg11_0 Lg11 Sw13
      replace Lg3 := Nat.lt_of_lt_of_le Lg3 Sw13.2.2.size
      replace Lg4 := Nat.lt_of_lt_of_le Lg4 Sw13.2.2.size
      replace Lg5 := Nat.lt_of_lt_of_le Lg5 Sw13.2.2.size
      replace Lg11 := Nat.lt_of_lt_of_le Lg11 Sw13.2.2.size
      replace BE := BE.trans (Sw13.2.2.mono BE.size)
      refine wpL_callE (f := 47) (args := #[fe y]) (R := NewRow w13 16 (dl 16 y)) (by rfl) (by rfl) rfl Try.func47 (by kernel_rfl) (by kernel_rfl) (digits_c hy) (fun v9 w15 hv9 Sw15 => ?_)
      obtain ⟨g14, g14c, rfl, Cg14, Hg14, Lg14, Rg14_0⟩ := hv9
      have Ng3_g14 : g3 ≠ g14 := Nat.ne_of_lt (Nat.lt_of_lt_of_le Lg3 Hg14)
      have Ng4_g14 : g4 ≠ g14 := Nat.ne_of_lt (Nat.lt_of_lt_of_le Lg4 Hg14)
      have Ng5_g14 : g5 ≠ g14 := Nat.ne_of_lt (Nat.lt_of_lt_of_le Lg5 Hg14)
      have Ng11_g14 : g11 ≠ g14 := Nat.ne_of_lt (Nat.lt_of_lt_of_le Lg11 Hg14)
      have Gg14 : w.heap.size ≤ g14 := Nat.le_trans BE.size Hg14
      replace Rg3_0 := range_sees Rg3_0 Lg3 Sw15
      replace Tg3 := there_sees Tg3 Lg3 Sw15
      replace Rg4_0 := range_sees Rg4_0 Lg4 Sw15
      replace Tg4 := there_sees Tg4 Lg4 Sw15
      replace Rg5_0 := range_sees Rg5_0 Lg5 Sw15
      replace Tg5 := there_sees Tg5 Lg5 Sw15
      replace Rg11_0 := range_sees Rg11_0 Lg11 Sw15
      replace Lg3 := Nat.lt_of_lt_of_le Lg3 Sw15.2.2.size
      replace Lg4 := Nat.lt_of_lt_of_le Lg4 Sw15.2.2.size
      replace Lg5 := Nat.lt_of_lt_of_le Lg5 Sw15.2.2.size
      replace Lg11 := Nat.lt_of_lt_of_le Lg11 Sw15.2.2.size
      replace BE := BE.trans (Sw15.2.2.mono BE.size)
      simp only [putT, List.set]
      refine wpL_callE (f := 49) (args := #[.slice (some ⟨g11, 0, none⟩) 16 g11c, .slice (some ⟨g14, 0, none⟩) 16 g14c]) (R := NewRow w15 (dlen (x * y)) (dl (dlen (x * y)) (x * y))) (by rfl) (by rfl) rfl Try.func49 (by kernel_rfl) (by kernel_rfl) (times04_c (n := 16) (x := x) (m := 16) (y := y) (by omega) (by omega) hx hy Cg11 Lg11 Rg11_0 Cg14 Lg14 Rg14_0) (fun v9 w17 hv9 Sw17 => ?_)
      obtain ⟨g16, g16c, rfl, Cg16, Hg16, Lg16, Rg16_0⟩ := hv9
      have Ng3_g16 : g3 ≠ g16 := Nat.ne_of_lt (Nat.lt_of_lt_of_le Lg3 Hg16)
      have Ng4_g16 : g4 ≠ g16 := Nat.ne_of_lt (Nat.lt_of_lt_of_le Lg4 Hg16)
      have Ng5_g16 : g5 ≠ g16 := Nat.ne_of_lt (Nat.lt_of_lt_of_le Lg5 Hg16)
      have Ng11_g16 : g11 ≠ g16 := Nat.ne_of_lt (Nat.lt_of_lt_of_le Lg11 Hg16)
      have Ng14_g16 : g14 ≠ g16 := Nat.ne_of_lt (Nat.lt_of_lt_of_le Lg14 Hg16)
      have Gg16 : w.heap.size ≤ g16 := Nat.le_trans BE.size Hg16
      replace Rg3_0 := range_sees Rg3_0 Lg3 Sw17
      replace Tg3 := there_sees Tg3 Lg3 Sw17
      replace Rg4_0 := range_sees Rg4_0 Lg4 Sw17
      replace Tg4 := there_sees Tg4 Lg4 Sw17
      replace Rg5_0 := range_sees Rg5_0 Lg5 Sw17
      replace Tg5 := there_sees Tg5 Lg5 Sw17
      replace Rg11_0 := range_sees Rg11_0 Lg11 Sw17
      replace Rg14_0 := range_sees Rg14_0 Lg14 Sw17
      replace Lg3 := Nat.lt_of_lt_of_le Lg3 Sw17.2.2.size
      replace Lg4 := Nat.lt_of_lt_of_le Lg4 Sw17.2.2.size
      replace Lg5 := Nat.lt_of_lt_of_le Lg5 Sw17.2.2.size
      replace Lg11 := Nat.lt_of_lt_of_le Lg11 Sw17.2.2.size
      replace Lg14 := Nat.lt_of_lt_of_le Lg14 Sw17.2.2.size
      replace BE := BE.trans (Sw17.2.2.mono BE.size)
      simp only [putT, List.set]
      refine wpL_chunk 1 (by rfl) (fun Lk hLk => ?_)
      simp only [List.take, List.drop]
      refine wpV_callf (v := fe (leastF (x * y))) (args := #[.slice (some ⟨g16, 0, none⟩) (dlen (x * y)) g16c]) (by rfl) rfl Try.func52 (by kernel_rfl) (by kernel_rfl) rfl (fun W hW => fold_c (n := dlen (x * y)) (x := (x * y)) (by omega) (dlen_lt _) Cg16 (Nat.lt_of_lt_of_le Lg16 hW.2.2.size) (range_sees Rg16_0 Lg16 hW)) ?_
      simp only [putT, List.set]
      refine wpV_nil (hLk _ (fun w18 Sw18 => ?_))
      clear hLk Lk
      simp only [List.take, List.drop]
      replace Rg3_0 := range_sees Rg3_0 Lg3 Sw18
      replace Tg3 := there_sees Tg3 Lg3 Sw18
      replace Rg4_0 := range_sees Rg4_0 Lg4 Sw18
      replace Tg4 := there_sees Tg4 Lg4 Sw18
      replace Rg5_0 := range_sees Rg5_0 Lg5 Sw18
      replace Tg5 := there_sees Tg5 Lg5 Sw18
      replace Rg11_0 := range_sees Rg11_0 Lg11 Sw18
      replace Rg14_0 := range_sees Rg14_0 Lg14 Sw18
      replace Rg16_0 := range_sees Rg16_0 Lg16 Sw18
      replace Lg3 := Nat.lt_of_lt_of_le Lg3 Sw18.2.2.size
      replace Lg4 := Nat.lt_of_lt_of_le Lg4 Sw18.2.2.size
      replace Lg5 := Nat.lt_of_lt_of_le Lg5 Sw18.2.2.size
      replace Lg11 := Nat.lt_of_lt_of_le Lg11 Sw18.2.2.size
      replace Lg14 := Nat.lt_of_lt_of_le Lg14 Sw18.2.2.size
      replace Lg16 := Nat.lt_of_lt_of_le Lg16 Sw18.2.2.size
      replace BE := BE.trans (Sw18.2.2.mono BE.size)
      refine wpL_store (g := g5) (off := 0) (n := 4) (cs := fel (leastF (x * y))) (by rfl) (by rfl) (by rfl) (by rfl) (by rfl) Tg5 (by simp [flen]) info34 (fel_one _) (fun w19 Pw19 RR TT => ?_)
      replace Rg3_0 := Pw19.range Rg3_0 (.inl Ng3_g5)
      replace Tg3 := Pw19.other_there Tg3 Ng3_g5
      replace Rg4_0 := Pw19.range Rg4_0 (.inl Ng4_g5)
      replace Tg4 := Pw19.other_there Tg4 Ng4_g5
      replace Rg11_0 := Pw19.range Rg11_0 (.inl (Ne.symm Ng5_g11))
      replace Rg14_0 := Pw19.range Rg14_0 (.inl (Ne.symm Ng5_g14))
      replace Rg16_0 := Pw19.range Rg16_0 (.inl (Ne.symm Ng5_g16))
      replace Rg5_0 := RR
      clear RR
      replace Tg5 := TT
      replace Lg3 := Pw19.lt Lg3
      replace Lg4 := Pw19.lt Lg4
      replace Lg5 := Pw19.lt Lg5
      replace Lg11 := Pw19.lt Lg11
      replace Lg14 := Pw19.lt Lg14
      replace Lg16 := Pw19.lt Lg16
      replace BE := Pw19.below BE Gg5
      refine wpL_nil ?_
      refine hK7 _ _ ?_
      refine wp_ret ?_
      repeat (first | with_reducible refine then_ret ?_ | with_reducible refine inblock_ret ?_)
      refine bodyPost_ret (v := fe (leastF (x * y))) (res1 rfl (.cell (by rfl) (run_loadVar_mid _ _ _ _ (fel (leastF (x * y))) _ Rg5_0 Try.underlying34 rfl info34))) rfl ?_
      exact ⟨rfl, BE⟩
    · skip
      refine any_opL 2 (by rfl) ?_
      simp only [List.take, List.drop]
      refine wpL_chunk 1 (by rfl) (fun Lk hLk => ?_)
      simp only [List.take, List.drop]
      refine wpV_load (cs := fel y) (by rfl) rfl rfl Rg4_0 Lg4 Try.underlying34 rfl info34 ?_
      simp only [putT, List.set]
      refine wpV_nil (hLk _ (fun w20 Sw20 => ?_))
      clear hLk Lk
      simp only [List.take, List.drop]
      replace Rg3_0 := range_sees Rg3_0 Lg3 Sw20
      replace Tg3 := there_sees Tg3 Lg3 Sw20
      replace Rg4_0 := range_sees Rg4_0 Lg4 Sw20
      replace Tg4 := there_sees Tg4 Lg4 Sw20
      replace Rg5_0 := range_sees Rg5_0 Lg5 Sw20
      replace Tg5 := there_sees Tg5 Lg5 Sw20
      replace Lg3 := Nat.lt_of_lt_of_le Lg3 Sw20.2.2.size
      replace Lg4 := Nat.lt_of_lt_of_le Lg4 Sw20.2.2.size
      replace Lg5 := Nat.lt_of_lt_of_le Lg5 Sw20.2.2.size
      replace BE := BE.trans (Sw20.2.2.mono BE.size)
      refine wpL_nil (then_normal ?_)
      refine any_step [1] (by kernel_rfl) rfl (any_one ?_)
      refine any_opL 1 (by rfl) ?_
      simp only [List.take, List.drop]
      refine wpL_callE (f := 47) (args := #[fe x]) (R := NewRow w20 16 (dl 16 x)) (by rfl) (by rfl) rfl Try.func47 (by kernel_rfl) (by kernel_rfl) (digits_c hx) (fun v9 w22 hv9 Sw22 => ?_)
      obtain ⟨g21, g21c, rfl, Cg21, Hg21, Lg21, Rg21_0⟩ := hv9
      have Ng3_g21 : g3 ≠ g21 := Nat.ne_of_lt (Nat.lt_of_lt_of_le Lg3 Hg21)
      have Ng4_g21 : g4 ≠ g21 := Nat.ne_of_lt (Nat.lt_of_lt_of_le Lg4 Hg21)
      have Ng5_g21 : g5 ≠ g21 := Nat.ne_of_lt (Nat.lt_of_lt_of_le Lg5 Hg21)
      have Gg21 : w.heap.size ≤ g21 := Nat.le_trans BE.size Hg21
      replace Rg3_0 := range_sees Rg3_0 Lg3 Sw22
      replace Tg3 := there_sees Tg3 Lg3 Sw22
      replace Rg4_0 := range_sees Rg4_0 Lg4 Sw22
      replace Tg4 := there_sees Tg4 Lg4 Sw22
      replace Rg5_0 := range_sees Rg5_0 Lg5 Sw22
      replace Tg5 := there_sees Tg5 Lg5 Sw22
      replace Lg3 := Nat.lt_of_lt_of_le Lg3 Sw22.2.2.size
      replace Lg4 := Nat.lt_of_lt_of_le Lg4 Sw22.2.2.size
      replace Lg5 := Nat.lt_of_lt_of_le Lg5 Sw22.2.2.size
      replace BE := BE.trans (Sw22.2.2.mono BE.size)
      simp only [putT, List.set]
      refine wpL_nil (then_normal ?_)
      refine any_rest 3 (by rfl) (by kernel_rfl) ?_
      simp only [List.take, List.drop]
      refine wpL_callE (f := 47) (args := #[fe y]) (R := NewRow w22 16 (dl 16 y)) (by rfl) (by rfl) rfl Try.func47 (by kernel_rfl) (by kernel_rfl) (digits_c hy) (fun v9 w24 hv9 Sw24 => ?_)
      obtain ⟨g23, g23c, rfl, Cg23, Hg23, Lg23, Rg23_0⟩ := hv9
      have Ng3_g23 : g3 ≠ g23 := Nat.ne_of_lt (Nat.lt_of_lt_of_le Lg3 Hg23)
      have Ng4_g23 : g4 ≠ g23 := Nat.ne_of_lt (Nat.lt_of_lt_of_le Lg4 Hg23)
      have Ng5_g23 : g5 ≠ g23 := Nat.ne_of_lt (Nat.lt_of_lt_of_le Lg5 Hg23)
      have Ng21_g23 : g21 ≠ g23 := Nat.ne_of_lt (Nat.lt_of_lt_of_le Lg21 Hg23)
      have Gg23 : w.heap.size ≤ g23 := Nat.le_trans BE.size Hg23
      replace Rg3_0 := range_sees Rg3_0 Lg3 Sw24
      replace Tg3 := there_sees Tg3 Lg3 Sw24
      replace Rg4_0 := range_sees Rg4_0 Lg4 Sw24
      replace Tg4 := there_sees Tg4 Lg4 Sw24
      replace Rg5_0 := range_sees Rg5_0 Lg5 Sw24
      replace Tg5 := there_sees Tg5 Lg5 Sw24
      replace Rg21_0 := range_sees Rg21_0 Lg21 Sw24
      replace Lg3 := Nat.lt_of_lt_of_le Lg3 Sw24.2.2.size
      replace Lg4 := Nat.lt_of_lt_of_le Lg4 Sw24.2.2.size
      replace Lg5 := Nat.lt_of_lt_of_le Lg5 Sw24.2.2.size
      replace Lg21 := Nat.lt_of_lt_of_le Lg21 Sw24.2.2.size
      replace BE := BE.trans (Sw24.2.2.mono BE.size)
      simp only [putT, List.set]
      refine wpL_callE (f := 49) (args := #[.slice (some ⟨g21, 0, none⟩) 16 g21c, .slice (some ⟨g23, 0, none⟩) 16 g23c]) (R := NewRow w24 (dlen (x * y)) (dl (dlen (x * y)) (x * y))) (by rfl) (by rfl) rfl Try.func49 (by kernel_rfl) (by kernel_rfl) (times04_c (n := 16) (x := x) (m := 16) (y := y) (by omega) (by omega) hx hy Cg21 Lg21 Rg21_0 Cg23 Lg23 Rg23_0) (fun v9 w26 hv9 Sw26 => ?_)
      obtain ⟨g25, g25c, rfl, Cg25, Hg25, Lg25, Rg25_0⟩ := hv9
      have Ng3_g25 : g3 ≠ g25 := Nat.ne_of_lt (Nat.lt_of_lt_of_le Lg3 Hg25)
      have Ng4_g25 : g4 ≠ g25 := Nat.ne_of_lt (Nat.lt_of_lt_of_le Lg4 Hg25)
      have Ng5_g25 : g5 ≠ g25 := Nat.ne_of_lt (Nat.lt_of_lt_of_le Lg5 Hg25)
      have Ng21_g25 : g21 ≠ g25 := Nat.ne_of_lt (Nat.lt_of_lt_of_le Lg21 Hg25)
      have Ng23_g25 : g23 ≠ g25 := Nat.ne_of_lt (Nat.lt_of_lt_of_le Lg23 Hg25)
      have Gg25 : w.heap.size ≤ g25 := Nat.le_trans BE.size Hg25
      replace Rg3_0 := range_sees Rg3_0 Lg3 Sw26
      replace Tg3 := there_sees Tg3 Lg3 Sw26
      replace Rg4_0 := range_sees Rg4_0 Lg4 Sw26
      replace Tg4 := there_sees Tg4 Lg4 Sw26
      replace Rg5_0 := range_sees Rg5_0 Lg5 Sw26
      replace Tg5 := there_sees Tg5 Lg5 Sw26
      replace Rg21_0 := range_sees Rg21_0 Lg21 Sw26
      replace Rg23_0 := range_sees Rg23_0 Lg23 Sw26
      replace Lg3 := Nat.lt_of_lt_of_le Lg3 Sw26.2.2.size
      replace Lg4 := Nat.lt_of_lt_of_le Lg4 Sw26.2.2.size
      replace Lg5 := Nat.lt_of_lt_of_le Lg5 Sw26.2.2.size
      replace Lg21 := Nat.lt_of_lt_of_le Lg21 Sw26.2.2.size
      replace Lg23 := Nat.lt_of_lt_of_le Lg23 Sw26.2.2.size
      replace BE := BE.trans (Sw26.2.2.mono BE.size)
      simp only [putT, List.set]
      refine wpL_chunk 1 (by rfl) (fun Lk hLk => ?_)
      simp only [List.take, List.drop]
      refine wpV_callf (v := fe (leastF (x * y))) (args := #[.slice (some ⟨g25, 0, none⟩) (dlen (x * y)) g25c]) (by rfl) rfl Try.func52 (by kernel_rfl) (by kernel_rfl) rfl (fun W hW => fold_c (n := dlen (x * y)) (x := (x * y)) (by omega) (dlen_lt _) Cg25 (Nat.lt_of_lt_of_le Lg25 hW.2.2.size) (range_sees Rg25_0 Lg25 hW)) ?_
      simp only [putT, List.set]
      refine wpV_nil (hLk _ (fun w27 Sw27 => ?_))
      clear hLk Lk
      simp only [List.take, List.drop]
      replace Rg3_0 := range_sees Rg3_0 Lg3 Sw27
      replace Tg3 := there_sees Tg3 Lg3 Sw27
      replace Rg4_0 := range_sees Rg4_0 Lg4 Sw27
      replace Tg4 := there_sees Tg4 Lg4 Sw27
      replace Rg5_0 := range_sees Rg5_0 Lg5 Sw27
      replace Tg5 := there_sees Tg5 Lg5 Sw27
      replace Rg21_0 := range_sees Rg21_0 Lg21 Sw27
      replace Rg23_0 := range_sees Rg23_0 Lg23 Sw27
      replace Rg25_0 := range_sees Rg25_0 Lg25 Sw27
      replace Lg3 := Nat.lt_of_lt_of_le Lg3 Sw27.2.2.size
      replace Lg4 := Nat.lt_of_lt_of_le Lg4 Sw27.2.2.size
      replace Lg5 := Nat.lt_of_lt_of_le Lg5 Sw27.2.2.size
      replace Lg21 := Nat.lt_of_lt_of_le Lg21 Sw27.2.2.size
      replace Lg23 := Nat.lt_of_lt_of_le Lg23 Sw27.2.2.size
      replace Lg25 := Nat.lt_of_lt_of_le Lg25 Sw27.2.2.size
      replace BE := BE.trans (Sw27.2.2.mono BE.size)
      refine wpL_store (g := g5) (off := 0) (n := 4) (cs := fel (leastF (x * y))) (by rfl) (by rfl) (by rfl) (by rfl) (by rfl) Tg5 (by simp [flen]) info34 (fel_one _) (fun w28 Pw28 RR TT => ?_)
      replace Rg3_0 := Pw28.range Rg3_0 (.inl Ng3_g5)
      replace Tg3 := Pw28.other_there Tg3 Ng3_g5
      replace Rg4_0 := Pw28.range Rg4_0 (.inl Ng4_g5)
      replace Tg4 := Pw28.other_there Tg4 Ng4_g5
      replace Rg21_0 := Pw28.range Rg21_0 (.inl (Ne.symm Ng5_g21))
      replace Rg23_0 := Pw28.range Rg23_0 (.inl (Ne.symm Ng5_g23))
      replace Rg25_0 := Pw28.range Rg25_0 (.inl (Ne.symm Ng5_g25))
      replace Rg5_0 := RR
      clear RR
      replace Tg5 := TT
      replace Lg3 := Pw28.lt Lg3
      replace Lg4 := Pw28.lt Lg4
      replace Lg5 := Pw28.lt Lg5
      replace Lg21 := Pw28.lt Lg21
      replace Lg23 := Pw28.lt Lg23
      replace Lg25 := Pw28.lt Lg25
      replace BE := Pw28.below BE Gg5
      refine wpL_nil ?_
      refine hK7 _ _ ?_
      refine wp_ret ?_
      repeat (first | with_reducible refine then_ret ?_ | with_reducible refine inblock_ret ?_)
      refine bodyPost_ret (v := fe (leastF (x * y))) (res1 rfl (.cell (by rfl) (run_loadVar_mid _ _ _ _ (fel (leastF (x * y))) _ Rg5_0 Try.underlying34 rfl info34))) rfl ?_
      exact ⟨rfl, BE⟩
  · skip
    refine any_opL 2 (by rfl) ?_
    simp only [List.take, List.drop]
    refine wpL_chunk 1 (by rfl) (fun Lk hLk => ?_)
    simp only [List.take, List.drop]
    refine wpV_load (cs := fel y) (by rfl) rfl rfl Rg4_0 Lg4 Try.underlying34 rfl info34 ?_
    simp only [putT, List.set]
    refine wpV_nil (hLk _ (fun w29 Sw29 => ?_))
    clear hLk Lk
    simp only [List.take, List.drop]
    replace Rg3_0 := range_sees Rg3_0 Lg3 Sw29
    replace Tg3 := there_sees Tg3 Lg3 Sw29
    replace Rg4_0 := range_sees Rg4_0 Lg4 Sw29
    replace Tg4 := there_sees Tg4 Lg4 Sw29
    replace Rg5_0 := range_sees Rg5_0 Lg5 Sw29
    replace Tg5 := there_sees Tg5 Lg5 Sw29
    replace Lg3 := Nat.lt_of_lt_of_le Lg3 Sw29.2.2.size
    replace Lg4 := Nat.lt_of_lt_of_le Lg4 Sw29.2.2.size
    replace Lg5 := Nat.lt_of_lt_of_le Lg5 Sw29.2.2.size
    replace BE := BE.trans (Sw29.2.2.mono BE.size)
    refine wpL_nil (then_normal ?_)
    refine any_step [0] (by kernel_rfl) rfl (any_one ?_)
    refine any_opL 0 (by rfl) ?_
    simp only [List.take, List.drop]
    refine wpL_chunk 1 (by rfl) (fun Lk hLk => ?_)
    simp only [List.take, List.drop]
    refine wpV_load (cs := fel x) (by rfl) rfl rfl Rg3_0 Lg3 Try.underlying34 rfl info34 ?_
    simp only [putT, List.set]
    refine wpV_nil (hLk _ (fun w30 Sw30 => ?_))
    clear hLk Lk
    simp only [List.take, List.drop]
    replace Rg3_0 := range_sees Rg3_0 Lg3 Sw30
    replace Tg3 := there_sees Tg3 Lg3 Sw30
    replace Rg4_0 := range_sees Rg4_0 Lg4 Sw30
    replace Tg4 := there_sees Tg4 Lg4 Sw30
    replace Rg5_0 := range_sees Rg5_0 Lg5 Sw30
    replace Tg5 := there_sees Tg5 Lg5 Sw30
    replace Lg3 := Nat.lt_of_lt_of_le Lg3 Sw30.2.2.size
    replace Lg4 := Nat.lt_of_lt_of_le Lg4 Sw30.2.2.size
    replace Lg5 := Nat.lt_of_lt_of_le Lg5 Sw30.2.2.size
    replace BE := BE.trans (Sw30.2.2.mono BE.size)
    refine wpL_nil (then_normal ?_)
    refine any_step [1] (by kernel_rfl) rfl (any_one ?_)
    refine any_opL 1 (by rfl) ?_
    simp only [List.take, List.drop]
    refine wpL_callE (f := 47) (args := #[fe x]) (R := NewRow w30 16 (dl 16 x)) (by rfl) (by rfl) rfl Try.func47 (by kernel_rfl) (by kernel_rfl) (digits_c hx) (fun v9 w32 hv9 Sw32 => ?_)
    obtain ⟨g31, g31c, rfl, Cg31, Hg31, Lg31, Rg31_0⟩ := hv9
    have Ng3_g31 : g3 ≠ g31 := Nat.ne_of_lt (Nat.lt_of_lt_of_le Lg3 Hg31)
    have Ng4_g31 : g4 ≠ g31 := Nat.ne_of_lt (Nat.lt_of_lt_of_le Lg4 Hg31)
    have Ng5_g31 : g5 ≠ g31 := Nat.ne_of_lt (Nat.lt_of_lt_of_le Lg5 Hg31)
    have Gg31 : w.heap.size ≤ g31 := Nat.le_trans BE.size Hg31
    replace Rg3_0 := range_sees Rg3_0 Lg3 Sw32
    replace Tg3 := there_sees Tg3 Lg3 Sw32
    replace Rg4_0 := range_sees Rg4_0 Lg4 Sw32
    replace Tg4 := there_sees Tg4 Lg4 Sw32
    replace Rg5_0 := range_sees Rg5_0 Lg5 Sw32
    replace Tg5 := there_sees Tg5 Lg5 Sw32
    replace Lg3 := Nat.lt_of_lt_of_le Lg3 Sw32.2.2.size
    replace Lg4 := Nat.lt_of_lt_of_le Lg4 Sw32.2.2.size
    replace Lg5 := Nat.lt_of_lt_of_le Lg5 Sw32.2.2.size
    replace BE := BE.trans (Sw32.2.2.mono BE.size)
    simp only [putT, List.set]
    refine wpL_nil (then_normal ?_)
    refine any_rest 3 (by rfl) (by kernel_rfl) ?_
    simp only [List.take, List.drop]
    refine wpL_callE (f := 47) (args := #[fe y]) (R := NewRow w32 16 (dl 16 y)) (by rfl) (by rfl) rfl Try.func47 (by kernel_rfl) (by kernel_rfl) (digits_c hy) (fun v9 w34 hv9 Sw34 => ?_)
    obtain ⟨g33, g33c, rfl, Cg33, Hg33, Lg33, Rg33_0⟩ := hv9
    have Ng3_g33 : g3 ≠ g33 := Nat.ne_of_lt (Nat.lt_of_lt_of_le Lg3 Hg33)
    have Ng4_g33 : g4 ≠ g33 := Nat.ne_of_lt (Nat.lt_of_lt_of_le Lg4 Hg33)
    have Ng5_g33 : g5 ≠ g33 := Nat.ne_of_lt (Nat.lt_of_lt_of_le Lg5 Hg33)
    have Ng31_g33 : g31 ≠ g33 := Nat.ne_of_lt (Nat.lt_of_lt_of_le Lg31 Hg33)
    have Gg33 : w.heap.size ≤ g33 := Nat.le_trans BE.size Hg33
    replace Rg3_0 := range_sees Rg3_0 Lg3 Sw34
    replace Tg3 := there_sees Tg3 Lg3 Sw34
    replace Rg4_0 := range_sees Rg4_0 Lg4 Sw34
    replace Tg4 := there_sees Tg4 Lg4 Sw34
    replace Rg5_0 := range_sees Rg5_0 Lg5 Sw34
    replace Tg5 := there_sees Tg5 Lg5 Sw34
    replace Rg31_0 := range_sees Rg31_0 Lg31 Sw34
    replace Lg3 := Nat.lt_of_lt_of_le Lg3 Sw34.2.2.size
    replace Lg4 := Nat.lt_of_lt_of_le Lg4 Sw34.2.2.size
    replace Lg5 := Nat.lt_of_lt_of_le Lg5 Sw34.2.2.size
    replace Lg31 := Nat.lt_of_lt_of_le Lg31 Sw34.2.2.size
    replace BE := BE.trans (Sw34.2.2.mono BE.size)
    simp only [putT, List.set]
    refine wpL_callE (f := 49) (args := #[.slice (some ⟨g31, 0, none⟩) 16 g31c, .slice (some ⟨g33, 0, none⟩) 16 g33c]) (R := NewRow w34 (dlen (x * y)) (dl (dlen (x * y)) (x * y))) (by rfl) (by rfl) rfl Try.func49 (by kernel_rfl) (by kernel_rfl) (times04_c (n := 16) (x := x) (m := 16) (y := y) (by omega) (by omega) hx hy Cg31 Lg31 Rg31_0 Cg33 Lg33 Rg33_0) (fun v9 w36 hv9 Sw36 => ?_)
    obtain ⟨g35, g35c, rfl, Cg35, Hg35, Lg35, Rg35_0⟩ := hv9
    have Ng3_g35 : g3 ≠ g35 := Nat.ne_of_lt (Nat.lt_of_lt_of_le Lg3 Hg35)
    have Ng4_g35 : g4 ≠ g35 := Nat.ne_of_lt (Nat.lt_of_lt_of_le Lg4 Hg35)
    have Ng5_g35 : g5 ≠ g35 := Nat.ne_of_lt (Nat.lt_of_lt_of_le Lg5 Hg35)
    have Ng31_g35 : g31 ≠ g35 := Nat.ne_of_lt (Nat.lt_of_lt_of_le Lg31 Hg35)
    have Ng33_g35 : g33 ≠ g35 := Nat.ne_of_lt (Nat.lt_of_lt_of_le Lg33 Hg35)
    have Gg35 : w.heap.size ≤ g35 := Nat.le_trans BE.size Hg35
    replace Rg3_0 := range_sees Rg3_0 Lg3 Sw36
    replace Tg3 := there_sees Tg3 Lg3 Sw36
    replace Rg4_0 := range_sees Rg4_0 Lg4 Sw36
    replace Tg4 := there_sees Tg4 Lg4 Sw36
    replace Rg5_0 := range_sees Rg5_0 Lg5 Sw36
    replace Tg5 := there_sees Tg5 Lg5 Sw36
    replace Rg31_0 := range_sees Rg31_0 Lg31 Sw36
    replace Rg33_0 := range_sees Rg33_0 Lg33 Sw36
    replace Lg3 := Nat.lt_of_lt_of_le Lg3 Sw36.2.2.size
    replace Lg4 := Nat.lt_of_lt_of_le Lg4 Sw36.2.2.size
    replace Lg5 := Nat.lt_of_lt_of_le Lg5 Sw36.2.2.size
    replace Lg31 := Nat.lt_of_lt_of_le Lg31 Sw36.2.2.size
    replace Lg33 := Nat.lt_of_lt_of_le Lg33 Sw36.2.2.size
    replace BE := BE.trans (Sw36.2.2.mono BE.size)
    simp only [putT, List.set]
    refine wpL_chunk 1 (by rfl) (fun Lk hLk => ?_)
    simp only [List.take, List.drop]
    refine wpV_callf (v := fe (leastF (x * y))) (args := #[.slice (some ⟨g35, 0, none⟩) (dlen (x * y)) g35c]) (by rfl) rfl Try.func52 (by kernel_rfl) (by kernel_rfl) rfl (fun W hW => fold_c (n := dlen (x * y)) (x := (x * y)) (by omega) (dlen_lt _) Cg35 (Nat.lt_of_lt_of_le Lg35 hW.2.2.size) (range_sees Rg35_0 Lg35 hW)) ?_
    simp only [putT, List.set]
    refine wpV_nil (hLk _ (fun w37 Sw37 => ?_))
    clear hLk Lk
    simp only [List.take, List.drop]
    replace Rg3_0 := range_sees Rg3_0 Lg3 Sw37
    replace Tg3 := there_sees Tg3 Lg3 Sw37
    replace Rg4_0 := range_sees Rg4_0 Lg4 Sw37
    replace Tg4 := there_sees Tg4 Lg4 Sw37
    replace Rg5_0 := range_sees Rg5_0 Lg5 Sw37
    replace Tg5 := there_sees Tg5 Lg5 Sw37
    replace Rg31_0 := range_sees Rg31_0 Lg31 Sw37
    replace Rg33_0 := range_sees Rg33_0 Lg33 Sw37
    replace Rg35_0 := range_sees Rg35_0 Lg35 Sw37
    replace Lg3 := Nat.lt_of_lt_of_le Lg3 Sw37.2.2.size
    replace Lg4 := Nat.lt_of_lt_of_le Lg4 Sw37.2.2.size
    replace Lg5 := Nat.lt_of_lt_of_le Lg5 Sw37.2.2.size
    replace Lg31 := Nat.lt_of_lt_of_le Lg31 Sw37.2.2.size
    replace Lg33 := Nat.lt_of_lt_of_le Lg33 Sw37.2.2.size
    replace Lg35 := Nat.lt_of_lt_of_le Lg35 Sw37.2.2.size
    replace BE := BE.trans (Sw37.2.2.mono BE.size)
    refine wpL_store (g := g5) (off := 0) (n := 4) (cs := fel (leastF (x * y))) (by rfl) (by rfl) (by rfl) (by rfl) (by rfl) Tg5 (by simp [flen]) info34 (fel_one _) (fun w38 Pw38 RR TT => ?_)
    replace Rg3_0 := Pw38.range Rg3_0 (.inl Ng3_g5)
    replace Tg3 := Pw38.other_there Tg3 Ng3_g5
    replace Rg4_0 := Pw38.range Rg4_0 (.inl Ng4_g5)
    replace Tg4 := Pw38.other_there Tg4 Ng4_g5
    replace Rg31_0 := Pw38.range Rg31_0 (.inl (Ne.symm Ng5_g31))
    replace Rg33_0 := Pw38.range Rg33_0 (.inl (Ne.symm Ng5_g33))
    replace Rg35_0 := Pw38.range Rg35_0 (.inl (Ne.symm Ng5_g35))
    replace Rg5_0 := RR
    clear RR
    replace Tg5 := TT
    replace Lg3 := Pw38.lt Lg3
    replace Lg4 := Pw38.lt Lg4
    replace Lg5 := Pw38.lt Lg5
    replace Lg31 := Pw38.lt Lg31
    replace Lg33 := Pw38.lt Lg33
    replace Lg35 := Pw38.lt Lg35
    replace BE := Pw38.below BE Gg5
    refine wpL_nil ?_
    refine hK7 _ _ ?_
    refine wp_ret ?_
    repeat (first | with_reducible refine then_ret ?_ | with_reducible refine inblock_ret ?_)
    refine bodyPost_ret (v := fe (leastF (x * y))) (res1 rfl (.cell (by rfl) (run_loadVar_mid _ _ _ _ (fel (leastF (x * y))) _ Rg5_0 Try.underlying34 rfl info34))) rfl ?_
    exact ⟨rfl, BE⟩
end Go.Proofs.Ya
