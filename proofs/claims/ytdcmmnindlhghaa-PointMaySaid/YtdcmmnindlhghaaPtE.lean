import Derived.Test.YtdcmmnindlhghaaF13
import Derived.Test.YtdcmmnindlhghaaJoinP
import Derived.WalkKit
import Derived.WalkSpells
import Derived.Laws.Pointers
import Derived.RowKit3
import Derived.Below
import Derived.Outline
import Derived.LoopN
import Derived.Lib.Hide
import Derived.Handy
import Derived.Laws.Bits64b
import Derived.Test.YtdcmmnindlhghaaF11
set_option linter.unusedSimpArgs false
set_option linter.unusedVariables false
namespace Go.Proofs.Ya
open Go Go.RowKit Go.Shelf Go.Proofs.Num
open List renaming set → Z0, take → Z1, drop → Z2
open Go renaming undef → Z3, wp_seq_k → Z4, wp_cond_true → Z5, wp_cond_false → Z6
open Go.Proofs.Num renaming putT → Z7, wp_region_seq → Z8, wpL_nil → Z9, no_panic → Z10, wpL_chunk → Z11, wpL_move → Z12, wpL_assign → Z13, wpV_nil → Z14, wpV_bin → Z15, wpV_move → Z16, then_normal → Z17, wpV_callf → Z20
set_option maxHeartbeats 2000000 in
theorem fold_c {n x g0 cg0 : Nat} {w : World} (hn : n ≤ 500) (hx : x < 65536 ^ n) (hcg0 : n ≤ cg0) (Lg0 : g0 < w.heap.size) (Rg0_0 : w.rangeAt g0 0 (dl n x)) :
  Calls Try.prog 72 #[.slice (some ⟨g0, 0, none⟩) n cg0] w fun e w' => e = .returned (fe (leastF x)) ∧ Below w.heap.size w w' := by
 go_enter Try.func72, Try.ntmps72
 have BE := Below.refl w.heap.size w
 refine Z4 (fun K1 hK1 => ?_)
 refine wp_region_plain 1 (by kernel_rfl) (fun Lk hLk => ?_)
 simp only [Z1,Z2]
 refine wpV_alloc (by rfl) ?_
 refine Z14 (hLk.out _ ?_)
 clear hLk Lk
 simp only [Z1,Z2]
 refine wpN_new (t := 23) (cs := ([.int .u64 0, .int .u64 0, .int .u64 0, .int .u64 0]).toArray) (by rfl) (fun W => ?_) (fun g3 Hg3 ng3 => ?_)
 ·
  go_simp
 simp only [Z7,Z0]
 refine wpN_nil (fun w4 Sw4 hbs => ?_)
 have Bg3 : Blk w4 g3 23 ([.int .u64 0, .int .u64 0, .int .u64 0, .int .u64 0]).toArray := hbs _ (List.mem_cons_self ..)
 clear hbs
 have Ng0_g3 : g0 ≠ g3 := Nat.ne_of_lt (Nat.lt_of_lt_of_le Lg0 Hg3)
 have Gg3 : w.heap.size ≤ g3 := Nat.le_trans BE.size Hg3
 replace Rg0_0 := range_sees Rg0_0 Lg0 Sw4
 replace Lg0 := Nat.lt_of_lt_of_le Lg0 Sw4.2.2.size
 replace BE := BE.trans (Sw4.2.2.mono BE.size)
 have Tg3 := blk_there Bg3 (n := 4) (by simp [flen])
 have Rg3_0 := blk_range Bg3 (l := [.int .u64 0, .int .u64 0, .int .u64 0, .int .u64 0]) rfl
 have Lg3 := Bg3.lt
 clear ng3 Bg3
 refine Z9 (Z10 ?_)
 refine hK1 _ _ ?_
 refine Z4 (fun K5 hK5 => ?_)
 refine wp_region_plain 2 (by kernel_rfl) (fun Lk hLk => ?_)
 simp only [Z1,Z2]
 refine Z16 (v := .slice (some ⟨g0, 0, none⟩) n cg0) (by rfl) rfl rfl ?_
 simp only [Z7,Z0]
 refine Z20 (v := .slice (some ⟨g0, 0, none⟩) (dlen x) cg0) (args := #[.slice (some ⟨g0, 0, none⟩) n cg0]) (by rfl) rfl Try.func64 (by kernel_rfl) (by kernel_rfl) rfl (fun W hW => trim_c (x := x) (by omega) hx hcg0 (Nat.lt_of_lt_of_le Lg0 hW.2.2.size) (range_sees Rg0_0 Lg0 hW)) ?_
 simp only [Z7,Z0]
 refine Z14 (hLk.out _ ?_)
 clear hLk Lk
 simp only [Z1,Z2]
 iterate 2 refine wpN_skip (by rfl) ?_
 refine wpN_nil (fun w7 Sw7 hbs => ?_)
 clear hbs
 replace Rg0_0 := range_sees Rg0_0 Lg0 Sw7
 replace Rg3_0 := range_sees Rg3_0 Lg3 Sw7
 replace Tg3 := there_sees Tg3 Lg3 Sw7
 replace Lg0 := Nat.lt_of_lt_of_le Lg0 Sw7.2.2.size
 replace Lg3 := Nat.lt_of_lt_of_le Lg3 Sw7.2.2.size
 replace BE := BE.trans (Sw7.2.2.mono BE.size)
 refine Z13 (v := .slice (some ⟨g0, 0, none⟩) (dlen x) cg0) (by rfl) (by rfl) (by rfl) ?_
 simp only [Z7,Z0]
 refine Z9 (Z10 ?_)
 refine hK5 _ _ ?_
 refine Z4 (fun K8 hK8 => ?_)
 refine wp_block ?_
 refine wp_loop_ghost (fun n9 a9 W9 => ∃ (dn : Nat) (d : Nat) (gd : Nat) (gdc : Nat) (u9 : Nat → Value), n9 = 2 * d ∧ a9 = { tmps := #[.slice (some ⟨gd, 0, none⟩) dn gdc, Z3, .pointer (some ⟨g3, 0, none⟩), u9 3, Z3, .slice (some ⟨g0, 0, none⟩) n cg0, .slice (some ⟨g0, 0, none⟩) (dlen x) cg0, u9 7, u9 8, u9 9, u9 10, u9 11, u9 12, u9 13, u9 14, u9 15, u9 16, u9 17, u9 18, Z3, Z3, Z3, Z3, Z3, Z3, Z3, Z3, Z3, Z3], defers := [] } ∧ Below w.heap.size w W9 ∧ World.rangeAt W9 g3 0 ([.int .u64 0, .int .u64 0, .int .u64 0, .int .u64 0]) ∧ World.there W9 g3 0 4 ∧ g3 < W9.heap.size ∧ World.rangeAt W9 gd 0 (dl dn d) ∧ gd < W9.heap.size ∧ dn ≤ gdc ∧ g3 ≠ gd ∧ (dn = dlen d) ∧ (d % pF = x % pF) ∧ (d ≤ x)) (2 * (x)) ?_ (fun n9 a9 W9 hI => ?_)
 ·
  exact ⟨(dlen x), x, g0, cg0, (fun q9 => (#[Z3, Z3, Z3, Z3, Z3, Z3, Z3, Z3, Z3, Z3, Z3, Z3, Z3, Z3, Z3, Z3, Z3, Z3, Z3] : Array Value).getD q9 Z3), rfl, rfl, BE, Rg3_0, Tg3, Lg3, (range_dl_take (m := dlen x) Rg0_0 ((dlen_le _ _).2 hx)), Lg0, (Nat.le_trans ((dlen_le _ _).2 hx) hcg0), (Ne.symm Ng0_g3), rfl, rfl, (Nat.le_refl _)⟩
 clear BE Rg0_0 Rg3_0 Tg3 Lg0 Lg3
 obtain ⟨dn, d, gd, gdc, u9, rfl, rfl, BE, Rg3_0, Tg3, Lg3, Rgd_0, Lgd, Cgd, Ng3_gd, hdn, hmod, hdx⟩ := hI
 obtain ⟨w10, rfl⟩ : ∃ W8, W8 = W9 := ⟨_, rfl⟩
 have hdn9 : dn ≤ n := by rw [hdn]; exact Nat.le_trans (dlen_mono hdx) ((dlen_le _ _).2 hx)
 refine Z4 (fun K11 hK11 => ?_)
 refine Z4 (fun K12 hK12 => ?_)
 refine wp_region_plain 3 (by kernel_rfl) (fun Lk hLk => ?_)
 simp only [Z1,Z2]
 refine Z16 (v := .slice (some ⟨gd, 0, none⟩) dn gdc) (by rfl) rfl rfl ?_
 simp only [Z7,Z0]
 refine wpV_lenA (n := dn) (by rfl) rfl rfl rfl Try.underlying100 ?_
 simp only [Z7,Z0]
 refine Z15 (v := .bool (decide (16 < dn))) (by rfl) rfl rfl rfl (fun W => run_gtrN dn 16 _ _ W) ?_
 simp only [Z7,Z0]
 refine Z14 (hLk.out _ ?_)
 clear hLk Lk
 simp only [Z1,Z2]
 iterate 3 refine wpN_skip (by rfl) ?_
 refine wpN_nil (fun w14 Sw14 hbs => ?_)
 clear hbs
 replace Rg3_0 := range_sees Rg3_0 Lg3 Sw14
 replace Tg3 := there_sees Tg3 Lg3 Sw14
 replace Rgd_0 := range_sees Rgd_0 Lgd Sw14
 replace Lg3 := Nat.lt_of_lt_of_le Lg3 Sw14.2.2.size
 replace Lgd := Nat.lt_of_lt_of_le Lgd Sw14.2.2.size
 replace BE := BE.trans (Sw14.2.2.mono BE.size)
 refine Z9 (Z10 ?_)
 refine hK12 _ _ ?_
 cases hc15 : (decide (16 < dn))
 ·
  have hd16 : dn ≤ 16 := Nat.le_of_not_lt (of_decide_eq_false hc15)
  refine Z6 rfl ?_
  refine wp_exit ?_
  refine hK8 _ _ ?_
  refine Z4 (fun K16 hK16 => ?_)
  refine Z8 ?_
  refine wpL_callE (f := 68) (args := #[]) (R := NewRow w14 16 (dl 16 pF)) (by rfl) (by rfl) rfl Try.func68 (by kernel_rfl) (by kernel_rfl) (prime04_c) (fun v9 w19 hv9 Sw19 => ?_)
  obtain ⟨g18, g18c, rfl, Cg18, Hg18, Lg18, Rg18_0⟩ := hv9
  have Ng3_g18 : g3 ≠ g18 := Nat.ne_of_lt (Nat.lt_of_lt_of_le Lg3 Hg18)
  have Ngd_g18 : gd ≠ g18 := Nat.ne_of_lt (Nat.lt_of_lt_of_le Lgd Hg18)
  have Gg18 : w.heap.size ≤ g18 := Nat.le_trans BE.size Hg18
  replace Rg3_0 := range_sees Rg3_0 Lg3 Sw19
  replace Tg3 := there_sees Tg3 Lg3 Sw19
  replace Rgd_0 := range_sees Rgd_0 Lgd Sw19
  replace Lg3 := Nat.lt_of_lt_of_le Lg3 Sw19.2.2.size
  replace Lgd := Nat.lt_of_lt_of_le Lgd Sw19.2.2.size
  replace BE := BE.trans (Sw19.2.2.mono BE.size)
  simp only [Z7,Z0]
  refine Z13 (v := .slice (some ⟨g18, 0, none⟩) 16 g18c) (by rfl) (by rfl) (by rfl) ?_
  simp only [Z7,Z0]
  refine Z9 (Z10 ?_)
  refine hK16 _ _ ?_
  refine Z4 (fun K20 hK20 => ?_)
  refine wp_block ?_
  refine wp_loop_ghost (fun n9 a9 W9 => ∃ (en : Nat) (e : Nat) (ge : Nat) (gec : Nat) (u21 : Nat → Value), n9 = 2 * e ∧ a9 = { tmps := #[.slice (some ⟨ge, 0, none⟩) en gec, Z3, .pointer (some ⟨g3, 0, none⟩), u9 3, .slice (some ⟨g18, 0, none⟩) 16 g18c, .slice (some ⟨g0, 0, none⟩) n cg0, .slice (some ⟨g0, 0, none⟩) (dlen x) cg0, .slice (some ⟨gd, 0, none⟩) dn gdc, .int .i64 ((dn : Nat) : Int), .bool false, u9 10, u9 11, u9 12, u9 13, u9 14, u9 15, u9 16, u9 17, u9 18, .slice (some ⟨g18, 0, none⟩) 16 g18c, u21 20, u21 21, u21 22, u21 23, u21 24, u21 25, u21 26, Z3, Z3], defers := [] } ∧ Below w.heap.size w W9 ∧ World.rangeAt W9 g3 0 ([.int .u64 0, .int .u64 0, .int .u64 0, .int .u64 0]) ∧ World.there W9 g3 0 4 ∧ g3 < W9.heap.size ∧ World.rangeAt W9 g18 0 (dl 16 pF) ∧ g18 < W9.heap.size ∧ World.rangeAt W9 ge 0 (dl en e) ∧ ge < W9.heap.size ∧ en ≤ gec ∧ g3 ≠ ge ∧ g18 ≠ ge ∧ (en = dlen e) ∧ (e % pF = x % pF) ∧ (en ≤ 16)) (2 * (d)) ?_ (fun n9 a9 W9 hI => ?_)
  ·
   exact ⟨dn, d, gd, gdc, (fun q9 => (#[Z3, Z3, Z3, Z3, Z3, Z3, Z3, Z3, Z3, Z3, Z3, Z3, Z3, Z3, Z3, Z3, Z3, Z3, Z3, Z3, Z3, Z3, Z3, Z3, Z3, Z3, Z3] : Array Value).getD q9 Z3), rfl, rfl, BE, Rg3_0, Tg3, Lg3, Rg18_0, Lg18, Rgd_0, Lgd, Cgd, Ng3_gd, (Ne.symm Ngd_g18), hdn, hmod, hd16⟩
  clear BE Rg3_0 Rgd_0 Rg18_0 Tg3 Lg3 Lgd Lg18
  obtain ⟨en, e, ge, gec, u21, rfl, rfl, BE, Rg3_0, Tg3, Lg3, Rg18_0, Lg18, Rge_0, Lge, Cge, Ng3_ge, Ng18_ge, hen, hmod, hd16⟩ := hI
  obtain ⟨w22, rfl⟩ : ∃ W8, W8 = W9 := ⟨_, rfl⟩
  refine Z4 (fun K23 hK23 => ?_)
  refine Z4 (fun K24 hK24 => ?_)
  refine wp_region_plain 4 (by kernel_rfl) (fun Lk hLk => ?_)
  simp only [Z1,Z2]
  refine Z16 (v := .slice (some ⟨ge, 0, none⟩) en gec) (by rfl) rfl rfl ?_
  simp only [Z7,Z0]
  refine Z16 (v := .slice (some ⟨g18, 0, none⟩) 16 g18c) (by rfl) rfl rfl ?_
  simp only [Z7,Z0]
  refine Z20 (v := .bool (decide (e < pF))) (args := #[.slice (some ⟨ge, 0, none⟩) en gec, .slice (some ⟨g18, 0, none⟩) 16 g18c]) (by rfl) rfl Try.func67 (by kernel_rfl) (by kernel_rfl) rfl (fun W hW => less_c (n := en) (x := e) (m := 16) (y := pF) (by omega) hen dlen_pF.symm Cge (Nat.lt_of_lt_of_le Lge hW.2.2.size) (range_sees Rge_0 Lge hW) Cg18 (Nat.lt_of_lt_of_le Lg18 hW.2.2.size) (range_sees Rg18_0 Lg18 hW)) ?_
  simp only [Z7,Z0]
  refine wpV_not (b := decide (e < pF)) (by rfl) rfl rfl ?_
  simp only [Z7,Z0]
  refine Z14 (hLk.out _ ?_)
  clear hLk Lk
  simp only [Z1,Z2]
  iterate 4 refine wpN_skip (by rfl) ?_
  refine wpN_nil (fun w26 Sw26 hbs => ?_)
  clear hbs
  replace Rg3_0 := range_sees Rg3_0 Lg3 Sw26
  replace Tg3 := there_sees Tg3 Lg3 Sw26
  replace Rg18_0 := range_sees Rg18_0 Lg18 Sw26
  replace Rge_0 := range_sees Rge_0 Lge Sw26
  replace Lg3 := Nat.lt_of_lt_of_le Lg3 Sw26.2.2.size
  replace Lg18 := Nat.lt_of_lt_of_le Lg18 Sw26.2.2.size
  replace Lge := Nat.lt_of_lt_of_le Lge Sw26.2.2.size
  replace BE := BE.trans (Sw26.2.2.mono BE.size)
  refine Z9 (Z10 ?_)
  refine hK24 _ _ ?_
  cases hc27 : (!(decide (e < pF)))
  ·
   have hlt : e < pF := by have h9 := hc27; simp at h9; exact h9
   refine Z6 rfl ?_
   refine wp_exit ?_
   refine hK20 _ _ ?_
   refine Z4 (fun K28 hK28 => ?_)
   refine wp_region_plain 2 (by kernel_rfl) (fun Lk hLk => ?_)
   simp only [Z1,Z2]
   refine Z16 (v := .slice (some ⟨ge, 0, none⟩) en gec) (by rfl) rfl rfl ?_
   simp only [Z7,Z0]
   refine Z20 (v := fe e) (args := #[.slice (some ⟨ge, 0, none⟩) en gec]) (by rfl) rfl Try.func66 (by kernel_rfl) (by kernel_rfl) rfl (fun W hW => words_c (n := en) (x := e) (by omega) (hen ▸ dlen_lt e) Cge (Nat.lt_of_lt_of_le Lge hW.2.2.size) (range_sees Rge_0 Lge hW)) ?_
   simp only [Z7,Z0]
   refine Z14 (hLk.out _ ?_)
   clear hLk Lk
   simp only [Z1,Z2]
   iterate 2 refine wpN_skip (by rfl) ?_
   refine wpN_nil (fun w30 Sw30 hbs => ?_)
   clear hbs
   replace Rg3_0 := range_sees Rg3_0 Lg3 Sw30
   replace Tg3 := there_sees Tg3 Lg3 Sw30
   replace Rg18_0 := range_sees Rg18_0 Lg18 Sw30
   replace Rge_0 := range_sees Rge_0 Lge Sw30
   replace Lg3 := Nat.lt_of_lt_of_le Lg3 Sw30.2.2.size
   replace Lg18 := Nat.lt_of_lt_of_le Lg18 Sw30.2.2.size
   replace Lge := Nat.lt_of_lt_of_le Lge Sw30.2.2.size
   replace BE := BE.trans (Sw30.2.2.mono BE.size)
   refine wpL_store (g := g3) (off := 0) (n := 4) (cs := fel e) (by rfl) (by rfl) (by rfl) (by rfl) (by rfl) Tg3 (by simp [flen]) info23 (fel_one _) (fun w31 Pw31 RR TT => ?_)
   replace Rg18_0 := Pw31.range Rg18_0 (.inl (Ne.symm Ng3_g18))
   replace Rge_0 := Pw31.range Rge_0 (.inl (Ne.symm Ng3_ge))
   replace Rg3_0 := RR
   clear RR
   replace Tg3 := TT
   replace Lg3 := Pw31.lt Lg3
   replace Lg18 := Pw31.lt Lg18
   replace Lge := Pw31.lt Lge
   replace BE := Pw31.below BE Gg3
   refine Z9 (Z10 ?_)
   refine hK28 _ _ ?_
   refine wp_ret ?_
   repeat (first | with_reducible refine then_ret ?_ | with_reducible refine inblock_ret ?_)
   refine bodyPost_ret (v := fe e) (res1 rfl (.cell (by rfl) (run_loadVar_mid _ _ _ _ (fel e) _ Rg3_0 Try.underlying23 rfl info23))) rfl ?_
   exact ⟨by rw [show leastF x = e by unfold leastF; rw [← hmod, Nat.mod_eq_of_lt hlt]], BE⟩
  ·
   have hge : pF ≤ e := by have h9 := hc27; simp at h9; exact h9
   refine Z5 rfl ?_
   refine wp_skip ?_
   refine hK23 _ _ ?_
   refine wp_block ?_
   refine Z8 ?_
   refine Z12 (v := .slice (some ⟨ge, 0, none⟩) en gec) (by rfl) (by rfl) (by rfl) ?_
   simp only [Z7,Z0]
   refine Z12 (v := .slice (some ⟨g18, 0, none⟩) 16 g18c) (by rfl) (by rfl) (by rfl) ?_
   simp only [Z7,Z0]
   refine wpL_callE (f := 70) (args := #[.slice (some ⟨ge, 0, none⟩) en gec, .slice (some ⟨g18, 0, none⟩) 16 g18c]) (R := NewRow w26 (dlen (e - pF)) (dl (dlen (e - pF)) (e - pF))) (by rfl) (by rfl) rfl Try.func70 (by kernel_rfl) (by kernel_rfl) (minus04_c (n := en) (x := e) (m := 16) (y := pF) (by omega) (by omega) (hen ▸ dlen_lt e) (by decide) hge Cge Lge Rge_0 Cg18 Lg18 Rg18_0) (fun v9 w34 hv9 Sw34 => ?_)
   obtain ⟨g33, g33c, rfl, Cg33, Hg33, Lg33, Rg33_0⟩ := hv9
   have Ng3_g33 : g3 ≠ g33 := Nat.ne_of_lt (Nat.lt_of_lt_of_le Lg3 Hg33)
   have Ng18_g33 : g18 ≠ g33 := Nat.ne_of_lt (Nat.lt_of_lt_of_le Lg18 Hg33)
   have Nge_g33 : ge ≠ g33 := Nat.ne_of_lt (Nat.lt_of_lt_of_le Lge Hg33)
   have Gg33 : w.heap.size ≤ g33 := Nat.le_trans BE.size Hg33
   replace Rg3_0 := range_sees Rg3_0 Lg3 Sw34
   replace Tg3 := there_sees Tg3 Lg3 Sw34
   replace Rg18_0 := range_sees Rg18_0 Lg18 Sw34
   replace Rge_0 := range_sees Rge_0 Lge Sw34
   replace Lg3 := Nat.lt_of_lt_of_le Lg3 Sw34.2.2.size
   replace Lg18 := Nat.lt_of_lt_of_le Lg18 Sw34.2.2.size
   replace Lge := Nat.lt_of_lt_of_le Lge Sw34.2.2.size
   replace BE := BE.trans (Sw34.2.2.mono BE.size)
   simp only [Z7,Z0]
   refine Z13 (v := .slice (some ⟨g33, 0, none⟩) (dlen (e - pF)) g33c) (by rfl) (by rfl) (by rfl) ?_
   simp only [Z7,Z0]
   refine Z9 (Z10 ?_)
   refine Exists.intro _ ⟨?_, (dlen (e - pF)), (e - pF), g33, g33c, (fun q9 => (#[Z3, Z3, Z3, Z3, Z3, Z3, Z3, Z3, Z3, Z3, Z3, Z3, Z3, Z3, Z3, Z3, Z3, Z3, Z3, Z3, .slice (some ⟨ge, 0, none⟩) en gec, .slice (some ⟨g18, 0, none⟩) 16 g18c, .bool (decide (e < pF)), .bool true, .slice (some ⟨ge, 0, none⟩) en gec, .slice (some ⟨g18, 0, none⟩) 16 g18c, .slice (some ⟨g33, 0, none⟩) (dlen (e - pF)) g33c] : Array Value).getD q9 Z3), rfl, rfl, BE, Rg3_0, Tg3, Lg3, Rg18_0, Lg18, Rg33_0, Lg33, Cg33, Ng3_g33, Ng18_g33, rfl, (by rw [← hmod, Nat.mod_eq_sub_mod hge]), (Nat.le_trans (dlen_mono (Nat.sub_le _ _)) (hen ▸ hd16))⟩
   have h0 : 0 < pF := by decide
   omega
 ·
  have h16 : 16 < dn := of_decide_eq_true hc15
  have hfl := fold_lt (hdn ▸ h16)
  have hdl := hdn ▸ dlen_lt d
  have hd1 := drop_lt 16 hdl (by omega)
  have hq1 : d / 65536 ^ 16 * 38 ≤ d := by omega
  have hq2 : dlen (d / 65536 ^ 16 * 38) ≤ dn := by rw [hdn]; exact dlen_mono hq1
  have hq3 : d % 65536 ^ 16 < 65536 ^ 16 := Nat.mod_lt _ (by decide)
  have hq4 : dlen (d % 65536 ^ 16) ≤ 16 := (dlen_le _ _).2 hq3
  refine Z5 rfl ?_
  refine wp_skip ?_
  refine hK11 _ _ ?_
  refine wp_block ?_
  refine Z4 (fun K35 hK35 => ?_)
  refine Z8 ?_
  refine Z12 (v := .slice (some ⟨gd, 0, none⟩) dn gdc) (by rfl) (by rfl) (by rfl) ?_
  simp only [Z7,Z0]
  refine Z11 1 (by rfl) (fun Lk hLk => ?_)
  simp only [Z1,Z2]
  refine wpV_sliceL (lo := 16) (by rfl) rfl rfl rfl Try.underlying100 info3 (by omega) Cgd (by have := Cgd; omega) ?_
  simp only [Nat.zero_add]
  simp only [Z7,Z0]
  refine Z14 (hLk _ (fun w37 Sw37 => ?_))
  clear hLk Lk
  simp only [Z1,Z2]
  replace Rg3_0 := range_sees Rg3_0 Lg3 Sw37
  replace Tg3 := there_sees Tg3 Lg3 Sw37
  replace Rgd_0 := range_sees Rgd_0 Lgd Sw37
  replace Lg3 := Nat.lt_of_lt_of_le Lg3 Sw37.2.2.size
  replace Lgd := Nat.lt_of_lt_of_le Lgd Sw37.2.2.size
  replace BE := BE.trans (Sw37.2.2.mono BE.size)
  refine wpL_row1 (z := .int .i64 0) (bytes := 8) (n := 38) (by rfl) (by rfl) (by rfl) Try.underlying100 (by kernel_rfl) rfl (fun g38 w39 Sw39 Hg38 Bg38 => ?_)
  have Ng3_g38 : g3 ≠ g38 := Nat.ne_of_lt (Nat.lt_of_lt_of_le Lg3 Hg38)
  have Ngd_g38 : gd ≠ g38 := Nat.ne_of_lt (Nat.lt_of_lt_of_le Lgd Hg38)
  have Gg38 : w.heap.size ≤ g38 := Nat.le_trans BE.size Hg38
  replace Rg3_0 := range_sees Rg3_0 Lg3 Sw39
  replace Tg3 := there_sees Tg3 Lg3 Sw39
  replace Rgd_0 := range_sees Rgd_0 Lgd Sw39
  replace Lg3 := Nat.lt_of_lt_of_le Lg3 Sw39.2.2.size
  replace Lgd := Nat.lt_of_lt_of_le Lgd Sw39.2.2.size
  replace BE := BE.trans (Sw39.2.2.mono BE.size)
  have Tg38 := blk_there Bg38 (n := 1) (by rfl)
  have Rg38_0 := blk_range Bg38 (l := [.int .i64 38]) rfl
  replace Rg38_0 : World.rangeAt w39 g38 0 (dl 1 38) := by rw [dl_one (v := 38) (by omega)]; exact Rg38_0
  have Lg38 := Bg38.lt
  clear Bg38
  simp only [Z7,Z0]
  refine wpL_callE (f := 77) (args := #[.slice (some ⟨gd, 16, none⟩) (dn - 16) (gdc - 16), .slice (some ⟨g38, 0, none⟩) 1 1]) (R := NewRow w39 (dlen ((d / 65536 ^ 16) * 38)) (dl (dlen ((d / 65536 ^ 16) * 38)) ((d / 65536 ^ 16) * 38))) (by rfl) (by rfl) rfl Try.func77 (by kernel_rfl) (by kernel_rfl) (times04_c (n := dn - 16) (x := (d / 65536 ^ 16)) (m := 1) (y := 38) (by omega) (by omega) hd1 (by decide) (Nat.sub_le_sub_right Cgd _) Lgd (range_dl_drop 16 Rgd_0) (Nat.le_refl _) Lg38 Rg38_0) (fun v9 w41 hv9 Sw41 => ?_)
  obtain ⟨g40, g40c, rfl, Cg40, Hg40, Lg40, Rg40_0⟩ := hv9
  have Ng3_g40 : g3 ≠ g40 := Nat.ne_of_lt (Nat.lt_of_lt_of_le Lg3 Hg40)
  have Ngd_g40 : gd ≠ g40 := Nat.ne_of_lt (Nat.lt_of_lt_of_le Lgd Hg40)
  have Ng38_g40 : g38 ≠ g40 := Nat.ne_of_lt (Nat.lt_of_lt_of_le Lg38 Hg40)
  have Gg40 : w.heap.size ≤ g40 := Nat.le_trans BE.size Hg40
  replace Rg3_0 := range_sees Rg3_0 Lg3 Sw41
  replace Tg3 := there_sees Tg3 Lg3 Sw41
  replace Rgd_0 := range_sees Rgd_0 Lgd Sw41
  replace Rg38_0 := range_sees Rg38_0 Lg38 Sw41
  replace Tg38 := there_sees Tg38 Lg38 Sw41
  replace Lg3 := Nat.lt_of_lt_of_le Lg3 Sw41.2.2.size
  replace Lgd := Nat.lt_of_lt_of_le Lgd Sw41.2.2.size
  replace Lg38 := Nat.lt_of_lt_of_le Lg38 Sw41.2.2.size
  replace BE := BE.trans (Sw41.2.2.mono BE.size)
  simp only [Z7,Z0]
  refine Z13 (v := .slice (some ⟨g40, 0, none⟩) (dlen ((d / 65536 ^ 16) * 38)) g40c) (by rfl) (by rfl) (by rfl) ?_
  simp only [Z7,Z0]
  refine Z9 (Z10 ?_)
  refine hK35 _ _ ?_
  refine Z8 ?_
  refine Z12 (v := .slice (some ⟨gd, 0, none⟩) dn gdc) (by rfl) (by rfl) (by rfl) ?_
  simp only [Z7,Z0]
  refine Z11 2 (by rfl) (fun Lk hLk => ?_)
  simp only [Z1,Z2]
  refine wpV_sliceH (hi := 16) (by rfl) rfl rfl rfl Try.underlying100 info3 (by omega) ?_
  simp only [Z7,Z0]
  refine Z20 (v := .slice (some ⟨gd, 0, none⟩) (dlen (d % 65536 ^ 16)) gdc) (args := #[.slice (some ⟨gd, 0, none⟩) 16 gdc]) (by rfl) rfl Try.func64 (by kernel_rfl) (by kernel_rfl) rfl (fun W hW => trim_c (x := (d % 65536 ^ 16)) (by omega) hq3 (by omega) (Nat.lt_of_lt_of_le Lgd hW.2.2.size) (range_sees (range_dl_mod (m := 16) Rgd_0 (by omega)) Lgd hW)) ?_
  simp only [Z7,Z0]
  refine Z14 (hLk _ (fun w43 Sw43 => ?_))
  clear hLk Lk
  simp only [Z1,Z2]
  replace Rg3_0 := range_sees Rg3_0 Lg3 Sw43
  replace Tg3 := there_sees Tg3 Lg3 Sw43
  replace Rgd_0 := range_sees Rgd_0 Lgd Sw43
  replace Rg38_0 := range_sees Rg38_0 Lg38 Sw43
  replace Tg38 := there_sees Tg38 Lg38 Sw43
  replace Rg40_0 := range_sees Rg40_0 Lg40 Sw43
  replace Lg3 := Nat.lt_of_lt_of_le Lg3 Sw43.2.2.size
  replace Lgd := Nat.lt_of_lt_of_le Lgd Sw43.2.2.size
  replace Lg38 := Nat.lt_of_lt_of_le Lg38 Sw43.2.2.size
  replace Lg40 := Nat.lt_of_lt_of_le Lg40 Sw43.2.2.size
  replace BE := BE.trans (Sw43.2.2.mono BE.size)
  refine Z12 (v := .slice (some ⟨g40, 0, none⟩) (dlen ((d / 65536 ^ 16) * 38)) g40c) (by rfl) (by rfl) (by rfl) ?_
  simp only [Z7,Z0]
  refine wpL_callE (f := 73) (args := #[.slice (some ⟨gd, 0, none⟩) (dlen (d % 65536 ^ 16)) gdc, .slice (some ⟨g40, 0, none⟩) (dlen ((d / 65536 ^ 16) * 38)) g40c]) (R := NewRow w43 (dlen ((d % 65536 ^ 16) + ((d / 65536 ^ 16) * 38))) (dl (dlen ((d % 65536 ^ 16) + ((d / 65536 ^ 16) * 38))) ((d % 65536 ^ 16) + ((d / 65536 ^ 16) * 38)))) (by rfl) (by rfl) rfl Try.func73 (by kernel_rfl) (by kernel_rfl) (plus04_c (n := dlen (d % 65536 ^ 16)) (x := (d % 65536 ^ 16)) (m := dlen ((d / 65536 ^ 16) * 38)) (y := ((d / 65536 ^ 16) * 38)) (by omega) (by omega) (dlen_lt _) (dlen_lt _) (Nat.le_trans ((dlen_le _ _).2 hq3) (by omega)) Lgd (range_dl_take (m := dlen (d % 65536 ^ 16)) (range_dl_mod (m := 16) Rgd_0 (by omega)) ((dlen_le _ _).2 hq3)) Cg40 Lg40 Rg40_0) (fun v9 w45 hv9 Sw45 => ?_)
  obtain ⟨g44, g44c, rfl, Cg44, Hg44, Lg44, Rg44_0⟩ := hv9
  have Ng3_g44 : g3 ≠ g44 := Nat.ne_of_lt (Nat.lt_of_lt_of_le Lg3 Hg44)
  have Ngd_g44 : gd ≠ g44 := Nat.ne_of_lt (Nat.lt_of_lt_of_le Lgd Hg44)
  have Ng38_g44 : g38 ≠ g44 := Nat.ne_of_lt (Nat.lt_of_lt_of_le Lg38 Hg44)
  have Ng40_g44 : g40 ≠ g44 := Nat.ne_of_lt (Nat.lt_of_lt_of_le Lg40 Hg44)
  have Gg44 : w.heap.size ≤ g44 := Nat.le_trans BE.size Hg44
  replace Rg3_0 := range_sees Rg3_0 Lg3 Sw45
  replace Tg3 := there_sees Tg3 Lg3 Sw45
  replace Rgd_0 := range_sees Rgd_0 Lgd Sw45
  replace Rg38_0 := range_sees Rg38_0 Lg38 Sw45
  replace Tg38 := there_sees Tg38 Lg38 Sw45
  replace Rg40_0 := range_sees Rg40_0 Lg40 Sw45
  replace Lg3 := Nat.lt_of_lt_of_le Lg3 Sw45.2.2.size
  replace Lgd := Nat.lt_of_lt_of_le Lgd Sw45.2.2.size
  replace Lg38 := Nat.lt_of_lt_of_le Lg38 Sw45.2.2.size
  replace Lg40 := Nat.lt_of_lt_of_le Lg40 Sw45.2.2.size
  replace BE := BE.trans (Sw45.2.2.mono BE.size)
  simp only [Z7,Z0]
  refine Z13 (v := .slice (some ⟨g44, 0, none⟩) (dlen ((d % 65536 ^ 16) + ((d / 65536 ^ 16) * 38))) g44c) (by rfl) (by rfl) (by rfl) ?_
  simp only [Z7,Z0]
  refine Z9 (Z10 ?_)
  refine Exists.intro _ ⟨?_, (dlen (d % 65536 ^ 16 + d / 65536 ^ 16 * 38)), (d % 65536 ^ 16 + d / 65536 ^ 16 * 38), g44, g44c, (fun q9 => (#[Z3, Z3, Z3, .slice (some ⟨g40, 0, none⟩) (dlen ((d / 65536 ^ 16) * 38)) g40c, Z3, Z3, Z3, .slice (some ⟨gd, 0, none⟩) dn gdc, .int .i64 ((dn : Nat) : Int), .bool true, .slice (some ⟨gd, 0, none⟩) dn gdc, .slice (some ⟨gd, 16, none⟩) (dn - 16) (gdc - 16), .slice (some ⟨g38, 0, none⟩) 1 1, .slice (some ⟨g40, 0, none⟩) (dlen ((d / 65536 ^ 16) * 38)) g40c, .slice (some ⟨gd, 0, none⟩) dn gdc, .slice (some ⟨gd, 0, none⟩) 16 gdc, .slice (some ⟨gd, 0, none⟩) (dlen (d % 65536 ^ 16)) gdc, .slice (some ⟨g40, 0, none⟩) (dlen ((d / 65536 ^ 16) * 38)) g40c, .slice (some ⟨g44, 0, none⟩) (dlen ((d % 65536 ^ 16) + ((d / 65536 ^ 16) * 38))) g44c] : Array Value).getD q9 Z3), rfl, rfl, BE, Rg3_0, Tg3, Lg3, Rg44_0, Lg44, Cg44, Ng3_g44, rfl, ((fold_mod d).trans hmod), (Nat.le_trans (Nat.le_of_lt hfl) hdx)⟩
  omega
set_option maxHeartbeats 1000000 in
theorem rleast04_c {x : Nat} (hx : x < 2 ^ 256) {w : World}  :
  Calls Try.prog 41 #[fe x] w fun e w' => e = .returned (fe (leastF x)) ∧ Below w.heap.size w w' := by
 go_enter Try.func41, Try.ntmps41
 have BE := Below.refl w.heap.size w
 refine Z4 (fun K1 hK1 => ?_)
 refine wp_region_plain 2 (by kernel_rfl) (fun Lk hLk => ?_)
 simp only [Z1,Z2]
 refine wpV_alloc (by rfl) ?_
 refine wpV_alloc (by rfl) ?_
 refine Z14 (hLk.out _ ?_)
 clear hLk Lk
 simp only [Z1,Z2]
 refine wpN_new (t := 24) (cs := (fel x).toArray) (by rfl) (fun W => ?_) (fun g3 Hg3 ng3 => ?_)
 ·
  (first | rfl | go_simp)
 refine wpN_new (t := 24) (cs := ([.int .u64 0, .int .u64 0, .int .u64 0, .int .u64 0]).toArray) (by rfl) (fun W => ?_) (fun g4 Hg4 ng4 => ?_)
 ·
  go_simp
 simp only [Z7,Z0]
 refine wpN_nil (fun w5 Sw5 hbs => ?_)
 have Bg3 : Blk w5 g3 24 (fel x).toArray := hbs _ (List.mem_cons_of_mem _ (List.mem_cons_self ..))
 have Bg4 : Blk w5 g4 24 ([.int .u64 0, .int .u64 0, .int .u64 0, .int .u64 0]).toArray := hbs _ (List.mem_cons_self ..)
 clear hbs
 have Gg3 : w.heap.size ≤ g3 := Nat.le_trans BE.size Hg3
 have Ng3_g4 : g3 ≠ g4 := ng4 (g3, _, _) (List.mem_cons_self ..)
 have Gg4 : w.heap.size ≤ g4 := Nat.le_trans BE.size Hg4
 replace BE := BE.trans (Sw5.2.2.mono BE.size)
 have Tg3 := blk_there Bg3 (n := 4) (by simp [flen])
 have Rg3_0 := blk_range Bg3 (l := fel x) rfl
 have Lg3 := Bg3.lt
 have Tg4 := blk_there Bg4 (n := 4) (by simp [flen])
 have Rg4_0 := blk_range Bg4 (l := [.int .u64 0, .int .u64 0, .int .u64 0, .int .u64 0]) rfl
 have Lg4 := Bg4.lt
 clear ng3 ng4 Bg3 Bg4
 refine Z9 (Z10 ?_)
 refine hK1 _ _ ?_
 refine Z4 (fun K6 hK6 => ?_)
 refine Z8 ?_
 refine Z11 1 (by rfl) (fun Lk hLk => ?_)
 simp only [Z1,Z2]
 refine wpV_load (cs := fel x) (by rfl) rfl rfl Rg3_0 Lg3 Try.underlying24 rfl info24 ?_
 simp only [Z7,Z0]
 refine Z14 (hLk _ (fun w8 Sw8 => ?_))
 clear hLk Lk
 simp only [Z1,Z2]
 replace Rg3_0 := range_sees Rg3_0 Lg3 Sw8
 replace Tg3 := there_sees Tg3 Lg3 Sw8
 replace Rg4_0 := range_sees Rg4_0 Lg4 Sw8
 replace Tg4 := there_sees Tg4 Lg4 Sw8
 replace Lg3 := Nat.lt_of_lt_of_le Lg3 Sw8.2.2.size
 replace Lg4 := Nat.lt_of_lt_of_le Lg4 Sw8.2.2.size
 replace BE := BE.trans (Sw8.2.2.mono BE.size)
 refine wpL_callE (f := 71) (args := #[fe x]) (R := NewRow w8 16 (dl 16 x)) (by rfl) (by rfl) rfl Try.func71 (by kernel_rfl) (by kernel_rfl) (digits_c hx) (fun v9 w10 hv9 Sw10 => ?_)
 obtain ⟨g9, g9c, rfl, Cg9, Hg9, Lg9, Rg9_0⟩ := hv9
 have Ng3_g9 : g3 ≠ g9 := Nat.ne_of_lt (Nat.lt_of_lt_of_le Lg3 Hg9)
 have Ng4_g9 : g4 ≠ g9 := Nat.ne_of_lt (Nat.lt_of_lt_of_le Lg4 Hg9)
 have Gg9 : w.heap.size ≤ g9 := Nat.le_trans BE.size Hg9
 replace Rg3_0 := range_sees Rg3_0 Lg3 Sw10
 replace Tg3 := there_sees Tg3 Lg3 Sw10
 replace Rg4_0 := range_sees Rg4_0 Lg4 Sw10
 replace Tg4 := there_sees Tg4 Lg4 Sw10
 replace Lg3 := Nat.lt_of_lt_of_le Lg3 Sw10.2.2.size
 replace Lg4 := Nat.lt_of_lt_of_le Lg4 Sw10.2.2.size
 replace BE := BE.trans (Sw10.2.2.mono BE.size)
 simp only [Z7,Z0]
 refine Z11 1 (by rfl) (fun Lk hLk => ?_)
 simp only [Z1,Z2]
 refine Z20 (v := fe (leastF x)) (args := #[.slice (some ⟨g9, 0, none⟩) 16 g9c]) (by rfl) rfl Try.func72 (by kernel_rfl) (by kernel_rfl) rfl (fun W hW => fold_c (n := 16) (x := x) (by omega) hx Cg9 (Nat.lt_of_lt_of_le Lg9 hW.2.2.size) (range_sees Rg9_0 Lg9 hW)) ?_
 simp only [Z7,Z0]
 refine Z14 (hLk _ (fun w11 Sw11 => ?_))
 clear hLk Lk
 simp only [Z1,Z2]
 replace Rg3_0 := range_sees Rg3_0 Lg3 Sw11
 replace Tg3 := there_sees Tg3 Lg3 Sw11
 replace Rg4_0 := range_sees Rg4_0 Lg4 Sw11
 replace Tg4 := there_sees Tg4 Lg4 Sw11
 replace Rg9_0 := range_sees Rg9_0 Lg9 Sw11
 replace Lg3 := Nat.lt_of_lt_of_le Lg3 Sw11.2.2.size
 replace Lg4 := Nat.lt_of_lt_of_le Lg4 Sw11.2.2.size
 replace Lg9 := Nat.lt_of_lt_of_le Lg9 Sw11.2.2.size
 replace BE := BE.trans (Sw11.2.2.mono BE.size)
 refine wpL_store (g := g4) (off := 0) (n := 4) (cs := fel (leastF x)) (by rfl) (by rfl) (by rfl) (by rfl) (by rfl) Tg4 (by simp [flen]) info24 (fel_one _) (fun w12 Pw12 RR TT => ?_)
 replace Rg3_0 := Pw12.range Rg3_0 (.inl Ng3_g4)
 replace Tg3 := Pw12.other_there Tg3 Ng3_g4
 replace Rg9_0 := Pw12.range Rg9_0 (.inl (Ne.symm Ng4_g9))
 replace Rg4_0 := RR
 clear RR
 replace Tg4 := TT
 replace Lg3 := Pw12.lt Lg3
 replace Lg4 := Pw12.lt Lg4
 replace Lg9 := Pw12.lt Lg9
 replace BE := Pw12.below BE Gg4
 refine Z9 (Z10 ?_)
 refine hK6 _ _ ?_
 refine wp_ret ?_
 repeat (first | with_reducible refine then_ret ?_ | with_reducible refine inblock_ret ?_)
 refine bodyPost_ret (v := fe (leastF x)) (res1 rfl (.cell (by rfl) (run_loadVar_mid _ _ _ _ (fel (leastF x)) _ Rg4_0 Try.underlying24 rfl info24))) rfl ?_
 exact ⟨rfl, BE⟩
set_option maxHeartbeats 1000000 in
theorem radd04_c {x : Nat} (hx : x < 2 ^ 256) {y : Nat} (hy : y < 2 ^ 256) {w : World}  :
  Calls Try.prog 50 #[fe x, fe y] w fun e w' => e = .returned (fe (fadd x y)) ∧ Below w.heap.size w w' := by
 have hs17 : dlen (x + y) ≤ 17 := (dlen_le _ _).2 (Nat.lt_of_lt_of_le (Nat.add_lt_add hx hy) (by decide))
 go_enter Try.func50, Try.ntmps50
 have BE := Below.refl w.heap.size w
 refine Z4 (fun K1 hK1 => ?_)
 refine wp_region_plain 3 (by kernel_rfl) (fun Lk hLk => ?_)
 simp only [Z1,Z2]
 refine wpV_alloc (by rfl) ?_
 refine wpV_alloc (by rfl) ?_
 refine wpV_alloc (by rfl) ?_
 refine Z14 (hLk.out _ ?_)
 clear hLk Lk
 simp only [Z1,Z2]
 refine wpN_new (t := 24) (cs := (fel x).toArray) (by rfl) (fun W => ?_) (fun g3 Hg3 ng3 => ?_)
 ·
  (first | rfl | go_simp)
 refine wpN_new (t := 24) (cs := (fel y).toArray) (by rfl) (fun W => ?_) (fun g4 Hg4 ng4 => ?_)
 ·
  (first | rfl | go_simp)
 refine wpN_new (t := 24) (cs := ([.int .u64 0, .int .u64 0, .int .u64 0, .int .u64 0]).toArray) (by rfl) (fun W => ?_) (fun g5 Hg5 ng5 => ?_)
 ·
  go_simp
 simp only [Z7,Z0]
 refine wpN_nil (fun w6 Sw6 hbs => ?_)
 have Bg3 : Blk w6 g3 24 (fel x).toArray := hbs _ (List.mem_cons_of_mem _ (List.mem_cons_of_mem _ (List.mem_cons_self ..)))
 have Bg4 : Blk w6 g4 24 (fel y).toArray := hbs _ (List.mem_cons_of_mem _ (List.mem_cons_self ..))
 have Bg5 : Blk w6 g5 24 ([.int .u64 0, .int .u64 0, .int .u64 0, .int .u64 0]).toArray := hbs _ (List.mem_cons_self ..)
 clear hbs
 have Gg3 : w.heap.size ≤ g3 := Nat.le_trans BE.size Hg3
 have Ng3_g4 : g3 ≠ g4 := ng4 (g3, _, _) (List.mem_cons_self ..)
 have Gg4 : w.heap.size ≤ g4 := Nat.le_trans BE.size Hg4
 have Ng3_g5 : g3 ≠ g5 := ng5 (g3, _, _) (List.mem_cons_of_mem _ (List.mem_cons_self ..))
 have Ng4_g5 : g4 ≠ g5 := ng5 (g4, _, _) (List.mem_cons_self ..)
 have Gg5 : w.heap.size ≤ g5 := Nat.le_trans BE.size Hg5
 replace BE := BE.trans (Sw6.2.2.mono BE.size)
 have Tg3 := blk_there Bg3 (n := 4) (by simp [flen])
 have Rg3_0 := blk_range Bg3 (l := fel x) rfl
 have Lg3 := Bg3.lt
 have Tg4 := blk_there Bg4 (n := 4) (by simp [flen])
 have Rg4_0 := blk_range Bg4 (l := fel y) rfl
 have Lg4 := Bg4.lt
 have Tg5 := blk_there Bg5 (n := 4) (by simp [flen])
 have Rg5_0 := blk_range Bg5 (l := [.int .u64 0, .int .u64 0, .int .u64 0, .int .u64 0]) rfl
 have Lg5 := Bg5.lt
 clear ng3 ng4 ng5 Bg3 Bg4 Bg5
 refine Z9 (Z10 ?_)
 refine hK1 _ _ ?_
 refine Z4 (fun K7 hK7 => ?_)
 refine wp_region_tree (by kernel_rfl) (fun w9 Sw9 => ?_)
 replace Rg3_0 := range_sees Rg3_0 Lg3 Sw9
 replace Tg3 := there_sees Tg3 Lg3 Sw9
 replace Rg4_0 := range_sees Rg4_0 Lg4 Sw9
 replace Tg4 := there_sees Tg4 Lg4 Sw9
 replace Rg5_0 := range_sees Rg5_0 Lg5 Sw9
 replace Tg5 := there_sees Tg5 Lg5 Sw9
 replace Lg3 := Nat.lt_of_lt_of_le Lg3 Sw9.2.2.size
 replace Lg4 := Nat.lt_of_lt_of_le Lg4 Sw9.2.2.size
 replace Lg5 := Nat.lt_of_lt_of_le Lg5 Sw9.2.2.size
 replace BE := BE.trans (Sw9.2.2.mono BE.size)
 refine any_step [0, 2] (by kernel_rfl) rfl (any_two ?_ (any_one ?_))
 ·
  refine any_opL 0 (by rfl) ?_
  simp only [Z1,Z2]
  refine Z11 1 (by rfl) (fun Lk hLk => ?_)
  simp only [Z1,Z2]
  refine wpV_load (cs := fel x) (by rfl) rfl rfl Rg3_0 Lg3 Try.underlying24 rfl info24 ?_
  simp only [Z7,Z0]
  refine Z14 (hLk _ (fun w10 Sw10 => ?_))
  clear hLk Lk
  simp only [Z1,Z2]
  replace Rg3_0 := range_sees Rg3_0 Lg3 Sw10
  replace Tg3 := there_sees Tg3 Lg3 Sw10
  replace Rg4_0 := range_sees Rg4_0 Lg4 Sw10
  replace Tg4 := there_sees Tg4 Lg4 Sw10
  replace Rg5_0 := range_sees Rg5_0 Lg5 Sw10
  replace Tg5 := there_sees Tg5 Lg5 Sw10
  replace Lg3 := Nat.lt_of_lt_of_le Lg3 Sw10.2.2.size
  replace Lg4 := Nat.lt_of_lt_of_le Lg4 Sw10.2.2.size
  replace Lg5 := Nat.lt_of_lt_of_le Lg5 Sw10.2.2.size
  replace BE := BE.trans (Sw10.2.2.mono BE.size)
  refine Z9 (Z17 ?_)
  refine any_step [1, 2] (by kernel_rfl) rfl (any_two ?_ (any_one ?_))
  ·
   refine any_opL 1 (by rfl) ?_
   simp only [Z1,Z2]
   refine wpL_callE (f := 71) (args := #[fe x]) (R := NewRow w10 16 (dl 16 x)) (by rfl) (by rfl) rfl Try.func71 (by kernel_rfl) (by kernel_rfl) (digits_c hx) (fun v9 w12 hv9 Sw12 => ?_)
   obtain ⟨g11, g11c, rfl, Cg11, Hg11, Lg11, Rg11_0⟩ := hv9
   have Ng3_g11 : g3 ≠ g11 := Nat.ne_of_lt (Nat.lt_of_lt_of_le Lg3 Hg11)
   have Ng4_g11 : g4 ≠ g11 := Nat.ne_of_lt (Nat.lt_of_lt_of_le Lg4 Hg11)
   have Ng5_g11 : g5 ≠ g11 := Nat.ne_of_lt (Nat.lt_of_lt_of_le Lg5 Hg11)
   have Gg11 : w.heap.size ≤ g11 := Nat.le_trans BE.size Hg11
   replace Rg3_0 := range_sees Rg3_0 Lg3 Sw12
   replace Tg3 := there_sees Tg3 Lg3 Sw12
   replace Rg4_0 := range_sees Rg4_0 Lg4 Sw12
   replace Tg4 := there_sees Tg4 Lg4 Sw12
   replace Rg5_0 := range_sees Rg5_0 Lg5 Sw12
   replace Tg5 := there_sees Tg5 Lg5 Sw12
   replace Lg3 := Nat.lt_of_lt_of_le Lg3 Sw12.2.2.size
   replace Lg4 := Nat.lt_of_lt_of_le Lg4 Sw12.2.2.size
   replace Lg5 := Nat.lt_of_lt_of_le Lg5 Sw12.2.2.size
   replace BE := BE.trans (Sw12.2.2.mono BE.size)
   simp only [Z7,Z0]
   refine Z9 (Z17 ?_)
   refine any_rest 2 (by rfl) (by kernel_rfl) ?_
   simp only [Z1,Z2]
   refine Z11 1 (by rfl) (fun Lk hLk => ?_)
   simp only [Z1,Z2]
   refine wpV_load (cs := fel y) (by rfl) rfl rfl Rg4_0 Lg4 Try.underlying24 rfl info24 ?_
   simp only [Z7,Z0]
   refine Z14 (hLk _ (fun w13 Sw13 => ?_))
   clear hLk Lk
   simp only [Z1,Z2]
   replace Rg3_0 := range_sees Rg3_0 Lg3 Sw13
   replace Tg3 := there_sees Tg3 Lg3 Sw13
   replace Rg4_0 := range_sees Rg4_0 Lg4 Sw13
   replace Tg4 := there_sees Tg4 Lg4 Sw13
   replace Rg5_0 := range_sees Rg5_0 Lg5 Sw13
   replace Tg5 := there_sees Tg5 Lg5 Sw13
   replace Rg11_0 := range_sees Rg11_0 Lg11 Sw13
   replace Lg3 := Nat.lt_of_lt_of_le Lg3 Sw13.2.2.size
   replace Lg4 := Nat.lt_of_lt_of_le Lg4 Sw13.2.2.size
   replace Lg5 := Nat.lt_of_lt_of_le Lg5 Sw13.2.2.size
   replace Lg11 := Nat.lt_of_lt_of_le Lg11 Sw13.2.2.size
   replace BE := BE.trans (Sw13.2.2.mono BE.size)
   refine wpL_callE (f := 71) (args := #[fe y]) (R := NewRow w13 16 (dl 16 y)) (by rfl) (by rfl) rfl Try.func71 (by kernel_rfl) (by kernel_rfl) (digits_c hy) (fun v9 w15 hv9 Sw15 => ?_)
   obtain ⟨g14, g14c, rfl, Cg14, Hg14, Lg14, Rg14_0⟩ := hv9
   have Ng3_g14 : g3 ≠ g14 := Nat.ne_of_lt (Nat.lt_of_lt_of_le Lg3 Hg14)
   have Ng4_g14 : g4 ≠ g14 := Nat.ne_of_lt (Nat.lt_of_lt_of_le Lg4 Hg14)
   have Ng5_g14 : g5 ≠ g14 := Nat.ne_of_lt (Nat.lt_of_lt_of_le Lg5 Hg14)
   have Ng11_g14 : g11 ≠ g14 := Nat.ne_of_lt (Nat.lt_of_lt_of_le Lg11 Hg14)
   have Gg14 : w.heap.size ≤ g14 := Nat.le_trans BE.size Hg14
   replace Rg3_0 := range_sees Rg3_0 Lg3 Sw15
   replace Tg3 := there_sees Tg3 Lg3 Sw15
   replace Rg4_0 := range_sees Rg4_0 Lg4 Sw15
   replace Tg4 := there_sees Tg4 Lg4 Sw15
   replace Rg5_0 := range_sees Rg5_0 Lg5 Sw15
   replace Tg5 := there_sees Tg5 Lg5 Sw15
   replace Rg11_0 := range_sees Rg11_0 Lg11 Sw15
   replace Lg3 := Nat.lt_of_lt_of_le Lg3 Sw15.2.2.size
   replace Lg4 := Nat.lt_of_lt_of_le Lg4 Sw15.2.2.size
   replace Lg5 := Nat.lt_of_lt_of_le Lg5 Sw15.2.2.size
   replace Lg11 := Nat.lt_of_lt_of_le Lg11 Sw15.2.2.size
   replace BE := BE.trans (Sw15.2.2.mono BE.size)
   simp only [Z7,Z0]
   refine wpL_callE (f := 73) (args := #[.slice (some ⟨g11, 0, none⟩) 16 g11c, .slice (some ⟨g14, 0, none⟩) 16 g14c]) (R := NewRow w15 (dlen (x + y)) (dl (dlen (x + y)) (x + y))) (by rfl) (by rfl) rfl Try.func73 (by kernel_rfl) (by kernel_rfl) (plus04_c (n := 16) (x := x) (m := 16) (y := y) (by omega) (by omega) hx hy Cg11 Lg11 Rg11_0 Cg14 Lg14 Rg14_0) (fun v9 w17 hv9 Sw17 => ?_)
   obtain ⟨g16, g16c, rfl, Cg16, Hg16, Lg16, Rg16_0⟩ := hv9
   have Ng3_g16 : g3 ≠ g16 := Nat.ne_of_lt (Nat.lt_of_lt_of_le Lg3 Hg16)
   have Ng4_g16 : g4 ≠ g16 := Nat.ne_of_lt (Nat.lt_of_lt_of_le Lg4 Hg16)
   have Ng5_g16 : g5 ≠ g16 := Nat.ne_of_lt (Nat.lt_of_lt_of_le Lg5 Hg16)
   have Ng11_g16 : g11 ≠ g16 := Nat.ne_of_lt (Nat.lt_of_lt_of_le Lg11 Hg16)
   have Ng14_g16 : g14 ≠ g16 := Nat.ne_of_lt (Nat.lt_of_lt_of_le Lg14 Hg16)
   have Gg16 : w.heap.size ≤ g16 := Nat.le_trans BE.size Hg16
   replace Rg3_0 := range_sees Rg3_0 Lg3 Sw17
   replace Tg3 := there_sees Tg3 Lg3 Sw17
   replace Rg4_0 := range_sees Rg4_0 Lg4 Sw17
   replace Tg4 := there_sees Tg4 Lg4 Sw17
   replace Rg5_0 := range_sees Rg5_0 Lg5 Sw17
   replace Tg5 := there_sees Tg5 Lg5 Sw17
   replace Rg11_0 := range_sees Rg11_0 Lg11 Sw17
   replace Rg14_0 := range_sees Rg14_0 Lg14 Sw17
   replace Lg3 := Nat.lt_of_lt_of_le Lg3 Sw17.2.2.size
   replace Lg4 := Nat.lt_of_lt_of_le Lg4 Sw17.2.2.size
   replace Lg5 := Nat.lt_of_lt_of_le Lg5 Sw17.2.2.size
   replace Lg11 := Nat.lt_of_lt_of_le Lg11 Sw17.2.2.size
   replace Lg14 := Nat.lt_of_lt_of_le Lg14 Sw17.2.2.size
   replace BE := BE.trans (Sw17.2.2.mono BE.size)
   simp only [Z7,Z0]
   refine Z11 1 (by rfl) (fun Lk hLk => ?_)
   simp only [Z1,Z2]
   refine Z20 (v := fe (leastF (x + y))) (args := #[.slice (some ⟨g16, 0, none⟩) (dlen (x + y)) g16c]) (by rfl) rfl Try.func72 (by kernel_rfl) (by kernel_rfl) rfl (fun W hW => fold_c (n := dlen (x + y)) (x := (x + y)) (by omega) (dlen_lt _) Cg16 (Nat.lt_of_lt_of_le Lg16 hW.2.2.size) (range_sees Rg16_0 Lg16 hW)) ?_
   simp only [Z7,Z0]
   refine Z14 (hLk _ (fun w18 Sw18 => ?_))
   clear hLk Lk
   simp only [Z1,Z2]
   replace Rg3_0 := range_sees Rg3_0 Lg3 Sw18
   replace Tg3 := there_sees Tg3 Lg3 Sw18
   replace Rg4_0 := range_sees Rg4_0 Lg4 Sw18
   replace Tg4 := there_sees Tg4 Lg4 Sw18
   replace Rg5_0 := range_sees Rg5_0 Lg5 Sw18
   replace Tg5 := there_sees Tg5 Lg5 Sw18
   replace Rg11_0 := range_sees Rg11_0 Lg11 Sw18
   replace Rg14_0 := range_sees Rg14_0 Lg14 Sw18
   replace Rg16_0 := range_sees Rg16_0 Lg16 Sw18
   replace Lg3 := Nat.lt_of_lt_of_le Lg3 Sw18.2.2.size
   replace Lg4 := Nat.lt_of_lt_of_le Lg4 Sw18.2.2.size
   replace Lg5 := Nat.lt_of_lt_of_le Lg5 Sw18.2.2.size
   replace Lg11 := Nat.lt_of_lt_of_le Lg11 Sw18.2.2.size
   replace Lg14 := Nat.lt_of_lt_of_le Lg14 Sw18.2.2.size
   replace Lg16 := Nat.lt_of_lt_of_le Lg16 Sw18.2.2.size
   replace BE := BE.trans (Sw18.2.2.mono BE.size)
   refine wpL_store (g := g5) (off := 0) (n := 4) (cs := fel (leastF (x + y))) (by rfl) (by rfl) (by rfl) (by rfl) (by rfl) Tg5 (by simp [flen]) info24 (fel_one _) (fun w19 Pw19 RR TT => ?_)
   replace Rg3_0 := Pw19.range Rg3_0 (.inl Ng3_g5)
   replace Tg3 := Pw19.other_there Tg3 Ng3_g5
   replace Rg4_0 := Pw19.range Rg4_0 (.inl Ng4_g5)
   replace Tg4 := Pw19.other_there Tg4 Ng4_g5
   replace Rg11_0 := Pw19.range Rg11_0 (.inl (Ne.symm Ng5_g11))
   replace Rg14_0 := Pw19.range Rg14_0 (.inl (Ne.symm Ng5_g14))
   replace Rg16_0 := Pw19.range Rg16_0 (.inl (Ne.symm Ng5_g16))
   replace Rg5_0 := RR
   clear RR
   replace Tg5 := TT
   replace Lg3 := Pw19.lt Lg3
   replace Lg4 := Pw19.lt Lg4
   replace Lg5 := Pw19.lt Lg5
   replace Lg11 := Pw19.lt Lg11
   replace Lg14 := Pw19.lt Lg14
   replace Lg16 := Pw19.lt Lg16
   replace BE := Pw19.below BE Gg5
   refine Z9 ?_
   refine hK7 _ _ ?_
   refine wp_ret ?_
   repeat (first | with_reducible refine then_ret ?_ | with_reducible refine inblock_ret ?_)
   refine bodyPost_ret (v := fe (leastF (x + y))) (res1 rfl (.cell (by rfl) (run_loadVar_mid _ _ _ _ (fel (leastF (x + y))) _ Rg5_0 Try.underlying24 rfl info24))) rfl ?_
   exact ⟨rfl, BE⟩
  ·
   refine any_opL 2 (by rfl) ?_
   simp only [Z1,Z2]
   refine Z11 1 (by rfl) (fun Lk hLk => ?_)
   simp only [Z1,Z2]
   refine wpV_load (cs := fel y) (by rfl) rfl rfl Rg4_0 Lg4 Try.underlying24 rfl info24 ?_
   simp only [Z7,Z0]
   refine Z14 (hLk _ (fun w20 Sw20 => ?_))
   clear hLk Lk
   simp only [Z1,Z2]
   replace Rg3_0 := range_sees Rg3_0 Lg3 Sw20
   replace Tg3 := there_sees Tg3 Lg3 Sw20
   replace Rg4_0 := range_sees Rg4_0 Lg4 Sw20
   replace Tg4 := there_sees Tg4 Lg4 Sw20
   replace Rg5_0 := range_sees Rg5_0 Lg5 Sw20
   replace Tg5 := there_sees Tg5 Lg5 Sw20
   replace Lg3 := Nat.lt_of_lt_of_le Lg3 Sw20.2.2.size
   replace Lg4 := Nat.lt_of_lt_of_le Lg4 Sw20.2.2.size
   replace Lg5 := Nat.lt_of_lt_of_le Lg5 Sw20.2.2.size
   replace BE := BE.trans (Sw20.2.2.mono BE.size)
   refine Z9 (Z17 ?_)
   refine any_step [1] (by kernel_rfl) rfl (any_one ?_)
   refine any_opL 1 (by rfl) ?_
   simp only [Z1,Z2]
   refine wpL_callE (f := 71) (args := #[fe x]) (R := NewRow w20 16 (dl 16 x)) (by rfl) (by rfl) rfl Try.func71 (by kernel_rfl) (by kernel_rfl) (digits_c hx) (fun v9 w22 hv9 Sw22 => ?_)
   obtain ⟨g21, g21c, rfl, Cg21, Hg21, Lg21, Rg21_0⟩ := hv9
   have Ng3_g21 : g3 ≠ g21 := Nat.ne_of_lt (Nat.lt_of_lt_of_le Lg3 Hg21)
   have Ng4_g21 : g4 ≠ g21 := Nat.ne_of_lt (Nat.lt_of_lt_of_le Lg4 Hg21)
   have Ng5_g21 : g5 ≠ g21 := Nat.ne_of_lt (Nat.lt_of_lt_of_le Lg5 Hg21)
   have Gg21 : w.heap.size ≤ g21 := Nat.le_trans BE.size Hg21
   replace Rg3_0 := range_sees Rg3_0 Lg3 Sw22
   replace Tg3 := there_sees Tg3 Lg3 Sw22
   replace Rg4_0 := range_sees Rg4_0 Lg4 Sw22
   replace Tg4 := there_sees Tg4 Lg4 Sw22
   replace Rg5_0 := range_sees Rg5_0 Lg5 Sw22
   replace Tg5 := there_sees Tg5 Lg5 Sw22
   replace Lg3 := Nat.lt_of_lt_of_le Lg3 Sw22.2.2.size
   replace Lg4 := Nat.lt_of_lt_of_le Lg4 Sw22.2.2.size
   replace Lg5 := Nat.lt_of_lt_of_le Lg5 Sw22.2.2.size
   replace BE := BE.trans (Sw22.2.2.mono BE.size)
   simp only [Z7,Z0]
   refine Z9 (Z17 ?_)
   refine any_rest 3 (by rfl) (by kernel_rfl) ?_
   simp only [Z1,Z2]
   refine wpL_callE (f := 71) (args := #[fe y]) (R := NewRow w22 16 (dl 16 y)) (by rfl) (by rfl) rfl Try.func71 (by kernel_rfl) (by kernel_rfl) (digits_c hy) (fun v9 w24 hv9 Sw24 => ?_)
   obtain ⟨g23, g23c, rfl, Cg23, Hg23, Lg23, Rg23_0⟩ := hv9
   have Ng3_g23 : g3 ≠ g23 := Nat.ne_of_lt (Nat.lt_of_lt_of_le Lg3 Hg23)
   have Ng4_g23 : g4 ≠ g23 := Nat.ne_of_lt (Nat.lt_of_lt_of_le Lg4 Hg23)
   have Ng5_g23 : g5 ≠ g23 := Nat.ne_of_lt (Nat.lt_of_lt_of_le Lg5 Hg23)
   have Ng21_g23 : g21 ≠ g23 := Nat.ne_of_lt (Nat.lt_of_lt_of_le Lg21 Hg23)
   have Gg23 : w.heap.size ≤ g23 := Nat.le_trans BE.size Hg23
   replace Rg3_0 := range_sees Rg3_0 Lg3 Sw24
   replace Tg3 := there_sees Tg3 Lg3 Sw24
   replace Rg4_0 := range_sees Rg4_0 Lg4 Sw24
   replace Tg4 := there_sees Tg4 Lg4 Sw24
   replace Rg5_0 := range_sees Rg5_0 Lg5 Sw24
   replace Tg5 := there_sees Tg5 Lg5 Sw24
   replace Rg21_0 := range_sees Rg21_0 Lg21 Sw24
   replace Lg3 := Nat.lt_of_lt_of_le Lg3 Sw24.2.2.size
   replace Lg4 := Nat.lt_of_lt_of_le Lg4 Sw24.2.2.size
   replace Lg5 := Nat.lt_of_lt_of_le Lg5 Sw24.2.2.size
   replace Lg21 := Nat.lt_of_lt_of_le Lg21 Sw24.2.2.size
   replace BE := BE.trans (Sw24.2.2.mono BE.size)
   simp only [Z7,Z0]
   refine wpL_callE (f := 73) (args := #[.slice (some ⟨g21, 0, none⟩) 16 g21c, .slice (some ⟨g23, 0, none⟩) 16 g23c]) (R := NewRow w24 (dlen (x + y)) (dl (dlen (x + y)) (x + y))) (by rfl) (by rfl) rfl Try.func73 (by kernel_rfl) (by kernel_rfl) (plus04_c (n := 16) (x := x) (m := 16) (y := y) (by omega) (by omega) hx hy Cg21 Lg21 Rg21_0 Cg23 Lg23 Rg23_0) (fun v9 w26 hv9 Sw26 => ?_)
   obtain ⟨g25, g25c, rfl, Cg25, Hg25, Lg25, Rg25_0⟩ := hv9
   have Ng3_g25 : g3 ≠ g25 := Nat.ne_of_lt (Nat.lt_of_lt_of_le Lg3 Hg25)
   have Ng4_g25 : g4 ≠ g25 := Nat.ne_of_lt (Nat.lt_of_lt_of_le Lg4 Hg25)
   have Ng5_g25 : g5 ≠ g25 := Nat.ne_of_lt (Nat.lt_of_lt_of_le Lg5 Hg25)
   have Ng21_g25 : g21 ≠ g25 := Nat.ne_of_lt (Nat.lt_of_lt_of_le Lg21 Hg25)
   have Ng23_g25 : g23 ≠ g25 := Nat.ne_of_lt (Nat.lt_of_lt_of_le Lg23 Hg25)
   have Gg25 : w.heap.size ≤ g25 := Nat.le_trans BE.size Hg25
   replace Rg3_0 := range_sees Rg3_0 Lg3 Sw26
   replace Tg3 := there_sees Tg3 Lg3 Sw26
   replace Rg4_0 := range_sees Rg4_0 Lg4 Sw26
   replace Tg4 := there_sees Tg4 Lg4 Sw26
   replace Rg5_0 := range_sees Rg5_0 Lg5 Sw26
   replace Tg5 := there_sees Tg5 Lg5 Sw26
   replace Rg21_0 := range_sees Rg21_0 Lg21 Sw26
   replace Rg23_0 := range_sees Rg23_0 Lg23 Sw26
   replace Lg3 := Nat.lt_of_lt_of_le Lg3 Sw26.2.2.size
   replace Lg4 := Nat.lt_of_lt_of_le Lg4 Sw26.2.2.size
   replace Lg5 := Nat.lt_of_lt_of_le Lg5 Sw26.2.2.size
   replace Lg21 := Nat.lt_of_lt_of_le Lg21 Sw26.2.2.size
   replace Lg23 := Nat.lt_of_lt_of_le Lg23 Sw26.2.2.size
   replace BE := BE.trans (Sw26.2.2.mono BE.size)
   simp only [Z7,Z0]
   refine Z11 1 (by rfl) (fun Lk hLk => ?_)
   simp only [Z1,Z2]
   refine Z20 (v := fe (leastF (x + y))) (args := #[.slice (some ⟨g25, 0, none⟩) (dlen (x + y)) g25c]) (by rfl) rfl Try.func72 (by kernel_rfl) (by kernel_rfl) rfl (fun W hW => fold_c (n := dlen (x + y)) (x := (x + y)) (by omega) (dlen_lt _) Cg25 (Nat.lt_of_lt_of_le Lg25 hW.2.2.size) (range_sees Rg25_0 Lg25 hW)) ?_
   simp only [Z7,Z0]
   refine Z14 (hLk _ (fun w27 Sw27 => ?_))
   clear hLk Lk
   simp only [Z1,Z2]
   replace Rg3_0 := range_sees Rg3_0 Lg3 Sw27
   replace Tg3 := there_sees Tg3 Lg3 Sw27
   replace Rg4_0 := range_sees Rg4_0 Lg4 Sw27
   replace Tg4 := there_sees Tg4 Lg4 Sw27
   replace Rg5_0 := range_sees Rg5_0 Lg5 Sw27
   replace Tg5 := there_sees Tg5 Lg5 Sw27
   replace Rg21_0 := range_sees Rg21_0 Lg21 Sw27
   replace Rg23_0 := range_sees Rg23_0 Lg23 Sw27
   replace Rg25_0 := range_sees Rg25_0 Lg25 Sw27
   replace Lg3 := Nat.lt_of_lt_of_le Lg3 Sw27.2.2.size
   replace Lg4 := Nat.lt_of_lt_of_le Lg4 Sw27.2.2.size
   replace Lg5 := Nat.lt_of_lt_of_le Lg5 Sw27.2.2.size
   replace Lg21 := Nat.lt_of_lt_of_le Lg21 Sw27.2.2.size
   replace Lg23 := Nat.lt_of_lt_of_le Lg23 Sw27.2.2.size
   replace Lg25 := Nat.lt_of_lt_of_le Lg25 Sw27.2.2.size
   replace BE := BE.trans (Sw27.2.2.mono BE.size)
   refine wpL_store (g := g5) (off := 0) (n := 4) (cs := fel (leastF (x + y))) (by rfl) (by rfl) (by rfl) (by rfl) (by rfl) Tg5 (by simp [flen]) info24 (fel_one _) (fun w28 Pw28 RR TT => ?_)
   replace Rg3_0 := Pw28.range Rg3_0 (.inl Ng3_g5)
   replace Tg3 := Pw28.other_there Tg3 Ng3_g5
   replace Rg4_0 := Pw28.range Rg4_0 (.inl Ng4_g5)
   replace Tg4 := Pw28.other_there Tg4 Ng4_g5
   replace Rg21_0 := Pw28.range Rg21_0 (.inl (Ne.symm Ng5_g21))
   replace Rg23_0 := Pw28.range Rg23_0 (.inl (Ne.symm Ng5_g23))
   replace Rg25_0 := Pw28.range Rg25_0 (.inl (Ne.symm Ng5_g25))
   replace Rg5_0 := RR
   clear RR
   replace Tg5 := TT
   replace Lg3 := Pw28.lt Lg3
   replace Lg4 := Pw28.lt Lg4
   replace Lg5 := Pw28.lt Lg5
   replace Lg21 := Pw28.lt Lg21
   replace Lg23 := Pw28.lt Lg23
   replace Lg25 := Pw28.lt Lg25
   replace BE := Pw28.below BE Gg5
   refine Z9 ?_
   refine hK7 _ _ ?_
   refine wp_ret ?_
   repeat (first | with_reducible refine then_ret ?_ | with_reducible refine inblock_ret ?_)
   refine bodyPost_ret (v := fe (leastF (x + y))) (res1 rfl (.cell (by rfl) (run_loadVar_mid _ _ _ _ (fel (leastF (x + y))) _ Rg5_0 Try.underlying24 rfl info24))) rfl ?_
   exact ⟨rfl, BE⟩
 ·
  refine any_opL 2 (by rfl) ?_
  simp only [Z1,Z2]
  refine Z11 1 (by rfl) (fun Lk hLk => ?_)
  simp only [Z1,Z2]
  refine wpV_load (cs := fel y) (by rfl) rfl rfl Rg4_0 Lg4 Try.underlying24 rfl info24 ?_
  simp only [Z7,Z0]
  refine Z14 (hLk _ (fun w29 Sw29 => ?_))
  clear hLk Lk
  simp only [Z1,Z2]
  replace Rg3_0 := range_sees Rg3_0 Lg3 Sw29
  replace Tg3 := there_sees Tg3 Lg3 Sw29
  replace Rg4_0 := range_sees Rg4_0 Lg4 Sw29
  replace Tg4 := there_sees Tg4 Lg4 Sw29
  replace Rg5_0 := range_sees Rg5_0 Lg5 Sw29
  replace Tg5 := there_sees Tg5 Lg5 Sw29
  replace Lg3 := Nat.lt_of_lt_of_le Lg3 Sw29.2.2.size
  replace Lg4 := Nat.lt_of_lt_of_le Lg4 Sw29.2.2.size
  replace Lg5 := Nat.lt_of_lt_of_le Lg5 Sw29.2.2.size
  replace BE := BE.trans (Sw29.2.2.mono BE.size)
  refine Z9 (Z17 ?_)
  refine any_step [0] (by kernel_rfl) rfl (any_one ?_)
  refine any_opL 0 (by rfl) ?_
  simp only [Z1,Z2]
  refine Z11 1 (by rfl) (fun Lk hLk => ?_)
  simp only [Z1,Z2]
  refine wpV_load (cs := fel x) (by rfl) rfl rfl Rg3_0 Lg3 Try.underlying24 rfl info24 ?_
  simp only [Z7,Z0]
  refine Z14 (hLk _ (fun w30 Sw30 => ?_))
  clear hLk Lk
  simp only [Z1,Z2]
  replace Rg3_0 := range_sees Rg3_0 Lg3 Sw30
  replace Tg3 := there_sees Tg3 Lg3 Sw30
  replace Rg4_0 := range_sees Rg4_0 Lg4 Sw30
  replace Tg4 := there_sees Tg4 Lg4 Sw30
  replace Rg5_0 := range_sees Rg5_0 Lg5 Sw30
  replace Tg5 := there_sees Tg5 Lg5 Sw30
  replace Lg3 := Nat.lt_of_lt_of_le Lg3 Sw30.2.2.size
  replace Lg4 := Nat.lt_of_lt_of_le Lg4 Sw30.2.2.size
  replace Lg5 := Nat.lt_of_lt_of_le Lg5 Sw30.2.2.size
  replace BE := BE.trans (Sw30.2.2.mono BE.size)
  refine Z9 (Z17 ?_)
  refine any_step [1] (by kernel_rfl) rfl (any_one ?_)
  refine any_opL 1 (by rfl) ?_
  simp only [Z1,Z2]
  refine wpL_callE (f := 71) (args := #[fe x]) (R := NewRow w30 16 (dl 16 x)) (by rfl) (by rfl) rfl Try.func71 (by kernel_rfl) (by kernel_rfl) (digits_c hx) (fun v9 w32 hv9 Sw32 => ?_)
  obtain ⟨g31, g31c, rfl, Cg31, Hg31, Lg31, Rg31_0⟩ := hv9
  have Ng3_g31 : g3 ≠ g31 := Nat.ne_of_lt (Nat.lt_of_lt_of_le Lg3 Hg31)
  have Ng4_g31 : g4 ≠ g31 := Nat.ne_of_lt (Nat.lt_of_lt_of_le Lg4 Hg31)
  have Ng5_g31 : g5 ≠ g31 := Nat.ne_of_lt (Nat.lt_of_lt_of_le Lg5 Hg31)
  have Gg31 : w.heap.size ≤ g31 := Nat.le_trans BE.size Hg31
  replace Rg3_0 := range_sees Rg3_0 Lg3 Sw32
  replace Tg3 := there_sees Tg3 Lg3 Sw32
  replace Rg4_0 := range_sees Rg4_0 Lg4 Sw32
  replace Tg4 := there_sees Tg4 Lg4 Sw32
  replace Rg5_0 := range_sees Rg5_0 Lg5 Sw32
  replace Tg5 := there_sees Tg5 Lg5 Sw32
  replace Lg3 := Nat.lt_of_lt_of_le Lg3 Sw32.2.2.size
  replace Lg4 := Nat.lt_of_lt_of_le Lg4 Sw32.2.2.size
  replace Lg5 := Nat.lt_of_lt_of_le Lg5 Sw32.2.2.size
  replace BE := BE.trans (Sw32.2.2.mono BE.size)
  simp only [Z7,Z0]
  refine Z9 (Z17 ?_)
  refine any_rest 3 (by rfl) (by kernel_rfl) ?_
  simp only [Z1,Z2]
  refine wpL_callE (f := 71) (args := #[fe y]) (R := NewRow w32 16 (dl 16 y)) (by rfl) (by rfl) rfl Try.func71 (by kernel_rfl) (by kernel_rfl) (digits_c hy) (fun v9 w34 hv9 Sw34 => ?_)
  obtain ⟨g33, g33c, rfl, Cg33, Hg33, Lg33, Rg33_0⟩ := hv9
  have Ng3_g33 : g3 ≠ g33 := Nat.ne_of_lt (Nat.lt_of_lt_of_le Lg3 Hg33)
  have Ng4_g33 : g4 ≠ g33 := Nat.ne_of_lt (Nat.lt_of_lt_of_le Lg4 Hg33)
  have Ng5_g33 : g5 ≠ g33 := Nat.ne_of_lt (Nat.lt_of_lt_of_le Lg5 Hg33)
  have Ng31_g33 : g31 ≠ g33 := Nat.ne_of_lt (Nat.lt_of_lt_of_le Lg31 Hg33)
  have Gg33 : w.heap.size ≤ g33 := Nat.le_trans BE.size Hg33
  replace Rg3_0 := range_sees Rg3_0 Lg3 Sw34
  replace Tg3 := there_sees Tg3 Lg3 Sw34
  replace Rg4_0 := range_sees Rg4_0 Lg4 Sw34
  replace Tg4 := there_sees Tg4 Lg4 Sw34
  replace Rg5_0 := range_sees Rg5_0 Lg5 Sw34
  replace Tg5 := there_sees Tg5 Lg5 Sw34
  replace Rg31_0 := range_sees Rg31_0 Lg31 Sw34
  replace Lg3 := Nat.lt_of_lt_of_le Lg3 Sw34.2.2.size
  replace Lg4 := Nat.lt_of_lt_of_le Lg4 Sw34.2.2.size
  replace Lg5 := Nat.lt_of_lt_of_le Lg5 Sw34.2.2.size
  replace Lg31 := Nat.lt_of_lt_of_le Lg31 Sw34.2.2.size
  replace BE := BE.trans (Sw34.2.2.mono BE.size)
  simp only [Z7,Z0]
  refine wpL_callE (f := 73) (args := #[.slice (some ⟨g31, 0, none⟩) 16 g31c, .slice (some ⟨g33, 0, none⟩) 16 g33c]) (R := NewRow w34 (dlen (x + y)) (dl (dlen (x + y)) (x + y))) (by rfl) (by rfl) rfl Try.func73 (by kernel_rfl) (by kernel_rfl) (plus04_c (n := 16) (x := x) (m := 16) (y := y) (by omega) (by omega) hx hy Cg31 Lg31 Rg31_0 Cg33 Lg33 Rg33_0) (fun v9 w36 hv9 Sw36 => ?_)
  obtain ⟨g35, g35c, rfl, Cg35, Hg35, Lg35, Rg35_0⟩ := hv9
  have Ng3_g35 : g3 ≠ g35 := Nat.ne_of_lt (Nat.lt_of_lt_of_le Lg3 Hg35)
  have Ng4_g35 : g4 ≠ g35 := Nat.ne_of_lt (Nat.lt_of_lt_of_le Lg4 Hg35)
  have Ng5_g35 : g5 ≠ g35 := Nat.ne_of_lt (Nat.lt_of_lt_of_le Lg5 Hg35)
  have Ng31_g35 : g31 ≠ g35 := Nat.ne_of_lt (Nat.lt_of_lt_of_le Lg31 Hg35)
  have Ng33_g35 : g33 ≠ g35 := Nat.ne_of_lt (Nat.lt_of_lt_of_le Lg33 Hg35)
  have Gg35 : w.heap.size ≤ g35 := Nat.le_trans BE.size Hg35
  replace Rg3_0 := range_sees Rg3_0 Lg3 Sw36
  replace Tg3 := there_sees Tg3 Lg3 Sw36
  replace Rg4_0 := range_sees Rg4_0 Lg4 Sw36
  replace Tg4 := there_sees Tg4 Lg4 Sw36
  replace Rg5_0 := range_sees Rg5_0 Lg5 Sw36
  replace Tg5 := there_sees Tg5 Lg5 Sw36
  replace Rg31_0 := range_sees Rg31_0 Lg31 Sw36
  replace Rg33_0 := range_sees Rg33_0 Lg33 Sw36
  replace Lg3 := Nat.lt_of_lt_of_le Lg3 Sw36.2.2.size
  replace Lg4 := Nat.lt_of_lt_of_le Lg4 Sw36.2.2.size
  replace Lg5 := Nat.lt_of_lt_of_le Lg5 Sw36.2.2.size
  replace Lg31 := Nat.lt_of_lt_of_le Lg31 Sw36.2.2.size
  replace Lg33 := Nat.lt_of_lt_of_le Lg33 Sw36.2.2.size
  replace BE := BE.trans (Sw36.2.2.mono BE.size)
  simp only [Z7,Z0]
  refine Z11 1 (by rfl) (fun Lk hLk => ?_)
  simp only [Z1,Z2]
  refine Z20 (v := fe (leastF (x + y))) (args := #[.slice (some ⟨g35, 0, none⟩) (dlen (x + y)) g35c]) (by rfl) rfl Try.func72 (by kernel_rfl) (by kernel_rfl) rfl (fun W hW => fold_c (n := dlen (x + y)) (x := (x + y)) (by omega) (dlen_lt _) Cg35 (Nat.lt_of_lt_of_le Lg35 hW.2.2.size) (range_sees Rg35_0 Lg35 hW)) ?_
  simp only [Z7,Z0]
  refine Z14 (hLk _ (fun w37 Sw37 => ?_))
  clear hLk Lk
  simp only [Z1,Z2]
  replace Rg3_0 := range_sees Rg3_0 Lg3 Sw37
  replace Tg3 := there_sees Tg3 Lg3 Sw37
  replace Rg4_0 := range_sees Rg4_0 Lg4 Sw37
  replace Tg4 := there_sees Tg4 Lg4 Sw37
  replace Rg5_0 := range_sees Rg5_0 Lg5 Sw37
  replace Tg5 := there_sees Tg5 Lg5 Sw37
  replace Rg31_0 := range_sees Rg31_0 Lg31 Sw37
  replace Rg33_0 := range_sees Rg33_0 Lg33 Sw37
  replace Rg35_0 := range_sees Rg35_0 Lg35 Sw37
  replace Lg3 := Nat.lt_of_lt_of_le Lg3 Sw37.2.2.size
  replace Lg4 := Nat.lt_of_lt_of_le Lg4 Sw37.2.2.size
  replace Lg5 := Nat.lt_of_lt_of_le Lg5 Sw37.2.2.size
  replace Lg31 := Nat.lt_of_lt_of_le Lg31 Sw37.2.2.size
  replace Lg33 := Nat.lt_of_lt_of_le Lg33 Sw37.2.2.size
  replace Lg35 := Nat.lt_of_lt_of_le Lg35 Sw37.2.2.size
  replace BE := BE.trans (Sw37.2.2.mono BE.size)
  refine wpL_store (g := g5) (off := 0) (n := 4) (cs := fel (leastF (x + y))) (by rfl) (by rfl) (by rfl) (by rfl) (by rfl) Tg5 (by simp [flen]) info24 (fel_one _) (fun w38 Pw38 RR TT => ?_)
  replace Rg3_0 := Pw38.range Rg3_0 (.inl Ng3_g5)
  replace Tg3 := Pw38.other_there Tg3 Ng3_g5
  replace Rg4_0 := Pw38.range Rg4_0 (.inl Ng4_g5)
  replace Tg4 := Pw38.other_there Tg4 Ng4_g5
  replace Rg31_0 := Pw38.range Rg31_0 (.inl (Ne.symm Ng5_g31))
  replace Rg33_0 := Pw38.range Rg33_0 (.inl (Ne.symm Ng5_g33))
  replace Rg35_0 := Pw38.range Rg35_0 (.inl (Ne.symm Ng5_g35))
  replace Rg5_0 := RR
  clear RR
  replace Tg5 := TT
  replace Lg3 := Pw38.lt Lg3
  replace Lg4 := Pw38.lt Lg4
  replace Lg5 := Pw38.lt Lg5
  replace Lg31 := Pw38.lt Lg31
  replace Lg33 := Pw38.lt Lg33
  replace Lg35 := Pw38.lt Lg35
  replace BE := Pw38.below BE Gg5
  refine Z9 ?_
  refine hK7 _ _ ?_
  refine wp_ret ?_
  repeat (first | with_reducible refine then_ret ?_ | with_reducible refine inblock_ret ?_)
  refine bodyPost_ret (v := fe (leastF (x + y))) (res1 rfl (.cell (by rfl) (run_loadVar_mid _ _ _ _ (fel (leastF (x + y))) _ Rg5_0 Try.underlying24 rfl info24))) rfl ?_
  exact ⟨rfl, BE⟩
set_option maxHeartbeats 1000000 in
theorem rmul04_c {x : Nat} (hx : x < 2 ^ 256) {y : Nat} (hy : y < 2 ^ 256) {w : World}  :
  Calls Try.prog 42 #[fe x, fe y] w fun e w' => e = .returned (fe (fmul x y)) ∧ Below w.heap.size w w' := by
 have hs17 : dlen (x * y) ≤ 32 := (dlen_le _ _).2 (Nat.lt_of_lt_of_le (Nat.mul_lt_mul'' hx hy) (by decide))
 go_enter Try.func42, Try.ntmps42
 have BE := Below.refl w.heap.size w
 refine Z4 (fun K1 hK1 => ?_)
 refine wp_region_plain 3 (by kernel_rfl) (fun Lk hLk => ?_)
 simp only [Z1,Z2]
 refine wpV_alloc (by rfl) ?_
 refine wpV_alloc (by rfl) ?_
 refine wpV_alloc (by rfl) ?_
 refine Z14 (hLk.out _ ?_)
 clear hLk Lk
 simp only [Z1,Z2]
 refine wpN_new (t := 24) (cs := (fel x).toArray) (by rfl) (fun W => ?_) (fun g3 Hg3 ng3 => ?_)
 ·
  (first | rfl | go_simp)
 refine wpN_new (t := 24) (cs := (fel y).toArray) (by rfl) (fun W => ?_) (fun g4 Hg4 ng4 => ?_)
 ·
  (first | rfl | go_simp)
 refine wpN_new (t := 24) (cs := ([.int .u64 0, .int .u64 0, .int .u64 0, .int .u64 0]).toArray) (by rfl) (fun W => ?_) (fun g5 Hg5 ng5 => ?_)
 ·
  go_simp
 simp only [Z7,Z0]
 refine wpN_nil (fun w6 Sw6 hbs => ?_)
 have Bg3 : Blk w6 g3 24 (fel x).toArray := hbs _ (List.mem_cons_of_mem _ (List.mem_cons_of_mem _ (List.mem_cons_self ..)))
 have Bg4 : Blk w6 g4 24 (fel y).toArray := hbs _ (List.mem_cons_of_mem _ (List.mem_cons_self ..))
 have Bg5 : Blk w6 g5 24 ([.int .u64 0, .int .u64 0, .int .u64 0, .int .u64 0]).toArray := hbs _ (List.mem_cons_self ..)
 clear hbs
 have Gg3 : w.heap.size ≤ g3 := Nat.le_trans BE.size Hg3
 have Ng3_g4 : g3 ≠ g4 := ng4 (g3, _, _) (List.mem_cons_self ..)
 have Gg4 : w.heap.size ≤ g4 := Nat.le_trans BE.size Hg4
 have Ng3_g5 : g3 ≠ g5 := ng5 (g3, _, _) (List.mem_cons_of_mem _ (List.mem_cons_self ..))
 have Ng4_g5 : g4 ≠ g5 := ng5 (g4, _, _) (List.mem_cons_self ..)
 have Gg5 : w.heap.size ≤ g5 := Nat.le_trans BE.size Hg5
 replace BE := BE.trans (Sw6.2.2.mono BE.size)
 have Tg3 := blk_there Bg3 (n := 4) (by simp [flen])
 have Rg3_0 := blk_range Bg3 (l := fel x) rfl
 have Lg3 := Bg3.lt
 have Tg4 := blk_there Bg4 (n := 4) (by simp [flen])
 have Rg4_0 := blk_range Bg4 (l := fel y) rfl
 have Lg4 := Bg4.lt
 have Tg5 := blk_there Bg5 (n := 4) (by simp [flen])
 have Rg5_0 := blk_range Bg5 (l := [.int .u64 0, .int .u64 0, .int .u64 0, .int .u64 0]) rfl
 have Lg5 := Bg5.lt
 clear ng3 ng4 ng5 Bg3 Bg4 Bg5
 refine Z9 (Z10 ?_)
 refine hK1 _ _ ?_
 refine Z4 (fun K7 hK7 => ?_)
 refine wp_region_tree (by kernel_rfl) (fun w9 Sw9 => ?_)
 replace Rg3_0 := range_sees Rg3_0 Lg3 Sw9
 replace Tg3 := there_sees Tg3 Lg3 Sw9
 replace Rg4_0 := range_sees Rg4_0 Lg4 Sw9
 replace Tg4 := there_sees Tg4 Lg4 Sw9
 replace Rg5_0 := range_sees Rg5_0 Lg5 Sw9
 replace Tg5 := there_sees Tg5 Lg5 Sw9
 replace Lg3 := Nat.lt_of_lt_of_le Lg3 Sw9.2.2.size
 replace Lg4 := Nat.lt_of_lt_of_le Lg4 Sw9.2.2.size
 replace Lg5 := Nat.lt_of_lt_of_le Lg5 Sw9.2.2.size
 replace BE := BE.trans (Sw9.2.2.mono BE.size)
 refine any_step [0, 2] (by kernel_rfl) rfl (any_two ?_ (any_one ?_))
 ·
  refine any_opL 0 (by rfl) ?_
  simp only [Z1,Z2]
  refine Z11 1 (by rfl) (fun Lk hLk => ?_)
  simp only [Z1,Z2]
  refine wpV_load (cs := fel x) (by rfl) rfl rfl Rg3_0 Lg3 Try.underlying24 rfl info24 ?_
  simp only [Z7,Z0]
  refine Z14 (hLk _ (fun w10 Sw10 => ?_))
  clear hLk Lk
  simp only [Z1,Z2]
  replace Rg3_0 := range_sees Rg3_0 Lg3 Sw10
  replace Tg3 := there_sees Tg3 Lg3 Sw10
  replace Rg4_0 := range_sees Rg4_0 Lg4 Sw10
  replace Tg4 := there_sees Tg4 Lg4 Sw10
  replace Rg5_0 := range_sees Rg5_0 Lg5 Sw10
  replace Tg5 := there_sees Tg5 Lg5 Sw10
  replace Lg3 := Nat.lt_of_lt_of_le Lg3 Sw10.2.2.size
  replace Lg4 := Nat.lt_of_lt_of_le Lg4 Sw10.2.2.size
  replace Lg5 := Nat.lt_of_lt_of_le Lg5 Sw10.2.2.size
  replace BE := BE.trans (Sw10.2.2.mono BE.size)
  refine Z9 (Z17 ?_)
  refine any_step [1, 2] (by kernel_rfl) rfl (any_two ?_ (any_one ?_))
  ·
   refine any_opL 1 (by rfl) ?_
   simp only [Z1,Z2]
   refine wpL_callE (f := 71) (args := #[fe x]) (R := NewRow w10 16 (dl 16 x)) (by rfl) (by rfl) rfl Try.func71 (by kernel_rfl) (by kernel_rfl) (digits_c hx) (fun v9 w12 hv9 Sw12 => ?_)
   obtain ⟨g11, g11c, rfl, Cg11, Hg11, Lg11, Rg11_0⟩ := hv9
   have Ng3_g11 : g3 ≠ g11 := Nat.ne_of_lt (Nat.lt_of_lt_of_le Lg3 Hg11)
   have Ng4_g11 : g4 ≠ g11 := Nat.ne_of_lt (Nat.lt_of_lt_of_le Lg4 Hg11)
   have Ng5_g11 : g5 ≠ g11 := Nat.ne_of_lt (Nat.lt_of_lt_of_le Lg5 Hg11)
   have Gg11 : w.heap.size ≤ g11 := Nat.le_trans BE.size Hg11
   replace Rg3_0 := range_sees Rg3_0 Lg3 Sw12
   replace Tg3 := there_sees Tg3 Lg3 Sw12
   replace Rg4_0 := range_sees Rg4_0 Lg4 Sw12
   replace Tg4 := there_sees Tg4 Lg4 Sw12
   replace Rg5_0 := range_sees Rg5_0 Lg5 Sw12
   replace Tg5 := there_sees Tg5 Lg5 Sw12
   replace Lg3 := Nat.lt_of_lt_of_le Lg3 Sw12.2.2.size
   replace Lg4 := Nat.lt_of_lt_of_le Lg4 Sw12.2.2.size
   replace Lg5 := Nat.lt_of_lt_of_le Lg5 Sw12.2.2.size
   replace BE := BE.trans (Sw12.2.2.mono BE.size)
   simp only [Z7,Z0]
   refine Z9 (Z17 ?_)
   refine any_rest 2 (by rfl) (by kernel_rfl) ?_
   simp only [Z1,Z2]
   refine Z11 1 (by rfl) (fun Lk hLk => ?_)
   simp only [Z1,Z2]
   refine wpV_load (cs := fel y) (by rfl) rfl rfl Rg4_0 Lg4 Try.underlying24 rfl info24 ?_
   simp only [Z7,Z0]
   refine Z14 (hLk _ (fun w13 Sw13 => ?_))
   clear hLk Lk
   simp only [Z1,Z2]
   replace Rg3_0 := range_sees Rg3_0 Lg3 Sw13
   replace Tg3 := there_sees Tg3 Lg3 Sw13
   replace Rg4_0 := range_sees Rg4_0 Lg4 Sw13
   replace Tg4 := there_sees Tg4 Lg4 Sw13
   replace Rg5_0 := range_sees Rg5_0 Lg5 Sw13
   replace Tg5 := there_sees Tg5 Lg5 Sw13
   replace Rg11_0 := range_sees Rg11_0 Lg11 Sw13
   replace Lg3 := Nat.lt_of_lt_of_le Lg3 Sw13.2.2.size
   replace Lg4 := Nat.lt_of_lt_of_le Lg4 Sw13.2.2.size
   replace Lg5 := Nat.lt_of_lt_of_le Lg5 Sw13.2.2.size
   replace Lg11 := Nat.lt_of_lt_of_le Lg11 Sw13.2.2.size
   replace BE := BE.trans (Sw13.2.2.mono BE.size)
   refine wpL_callE (f := 71) (args := #[fe y]) (R := NewRow w13 16 (dl 16 y)) (by rfl) (by rfl) rfl Try.func71 (by kernel_rfl) (by kernel_rfl) (digits_c hy) (fun v9 w15 hv9 Sw15 => ?_)
   obtain ⟨g14, g14c, rfl, Cg14, Hg14, Lg14, Rg14_0⟩ := hv9
   have Ng3_g14 : g3 ≠ g14 := Nat.ne_of_lt (Nat.lt_of_lt_of_le Lg3 Hg14)
   have Ng4_g14 : g4 ≠ g14 := Nat.ne_of_lt (Nat.lt_of_lt_of_le Lg4 Hg14)
   have Ng5_g14 : g5 ≠ g14 := Nat.ne_of_lt (Nat.lt_of_lt_of_le Lg5 Hg14)
   have Ng11_g14 : g11 ≠ g14 := Nat.ne_of_lt (Nat.lt_of_lt_of_le Lg11 Hg14)
   have Gg14 : w.heap.size ≤ g14 := Nat.le_trans BE.size Hg14
   replace Rg3_0 := range_sees Rg3_0 Lg3 Sw15
   replace Tg3 := there_sees Tg3 Lg3 Sw15
   replace Rg4_0 := range_sees Rg4_0 Lg4 Sw15
   replace Tg4 := there_sees Tg4 Lg4 Sw15
   replace Rg5_0 := range_sees Rg5_0 Lg5 Sw15
   replace Tg5 := there_sees Tg5 Lg5 Sw15
   replace Rg11_0 := range_sees Rg11_0 Lg11 Sw15
   replace Lg3 := Nat.lt_of_lt_of_le Lg3 Sw15.2.2.size
   replace Lg4 := Nat.lt_of_lt_of_le Lg4 Sw15.2.2.size
   replace Lg5 := Nat.lt_of_lt_of_le Lg5 Sw15.2.2.size
   replace Lg11 := Nat.lt_of_lt_of_le Lg11 Sw15.2.2.size
   replace BE := BE.trans (Sw15.2.2.mono BE.size)
   simp only [Z7,Z0]
   refine wpL_callE (f := 77) (args := #[.slice (some ⟨g11, 0, none⟩) 16 g11c, .slice (some ⟨g14, 0, none⟩) 16 g14c]) (R := NewRow w15 (dlen (x * y)) (dl (dlen (x * y)) (x * y))) (by rfl) (by rfl) rfl Try.func77 (by kernel_rfl) (by kernel_rfl) (times04_c (n := 16) (x := x) (m := 16) (y := y) (by omega) (by omega) hx hy Cg11 Lg11 Rg11_0 Cg14 Lg14 Rg14_0) (fun v9 w17 hv9 Sw17 => ?_)
   obtain ⟨g16, g16c, rfl, Cg16, Hg16, Lg16, Rg16_0⟩ := hv9
   have Ng3_g16 : g3 ≠ g16 := Nat.ne_of_lt (Nat.lt_of_lt_of_le Lg3 Hg16)
   have Ng4_g16 : g4 ≠ g16 := Nat.ne_of_lt (Nat.lt_of_lt_of_le Lg4 Hg16)
   have Ng5_g16 : g5 ≠ g16 := Nat.ne_of_lt (Nat.lt_of_lt_of_le Lg5 Hg16)
   have Ng11_g16 : g11 ≠ g16 := Nat.ne_of_lt (Nat.lt_of_lt_of_le Lg11 Hg16)
   have Ng14_g16 : g14 ≠ g16 := Nat.ne_of_lt (Nat.lt_of_lt_of_le Lg14 Hg16)
   have Gg16 : w.heap.size ≤ g16 := Nat.le_trans BE.size Hg16
   replace Rg3_0 := range_sees Rg3_0 Lg3 Sw17
   replace Tg3 := there_sees Tg3 Lg3 Sw17
   replace Rg4_0 := range_sees Rg4_0 Lg4 Sw17
   replace Tg4 := there_sees Tg4 Lg4 Sw17
   replace Rg5_0 := range_sees Rg5_0 Lg5 Sw17
   replace Tg5 := there_sees Tg5 Lg5 Sw17
   replace Rg11_0 := range_sees Rg11_0 Lg11 Sw17
   replace Rg14_0 := range_sees Rg14_0 Lg14 Sw17
   replace Lg3 := Nat.lt_of_lt_of_le Lg3 Sw17.2.2.size
   replace Lg4 := Nat.lt_of_lt_of_le Lg4 Sw17.2.2.size
   replace Lg5 := Nat.lt_of_lt_of_le Lg5 Sw17.2.2.size
   replace Lg11 := Nat.lt_of_lt_of_le Lg11 Sw17.2.2.size
   replace Lg14 := Nat.lt_of_lt_of_le Lg14 Sw17.2.2.size
   replace BE := BE.trans (Sw17.2.2.mono BE.size)
   simp only [Z7,Z0]
   refine Z11 1 (by rfl) (fun Lk hLk => ?_)
   simp only [Z1,Z2]
   refine Z20 (v := fe (leastF (x * y))) (args := #[.slice (some ⟨g16, 0, none⟩) (dlen (x * y)) g16c]) (by rfl) rfl Try.func72 (by kernel_rfl) (by kernel_rfl) rfl (fun W hW => fold_c (n := dlen (x * y)) (x := (x * y)) (by omega) (dlen_lt _) Cg16 (Nat.lt_of_lt_of_le Lg16 hW.2.2.size) (range_sees Rg16_0 Lg16 hW)) ?_
   simp only [Z7,Z0]
   refine Z14 (hLk _ (fun w18 Sw18 => ?_))
   clear hLk Lk
   simp only [Z1,Z2]
   replace Rg3_0 := range_sees Rg3_0 Lg3 Sw18
   replace Tg3 := there_sees Tg3 Lg3 Sw18
   replace Rg4_0 := range_sees Rg4_0 Lg4 Sw18
   replace Tg4 := there_sees Tg4 Lg4 Sw18
   replace Rg5_0 := range_sees Rg5_0 Lg5 Sw18
   replace Tg5 := there_sees Tg5 Lg5 Sw18
   replace Rg11_0 := range_sees Rg11_0 Lg11 Sw18
   replace Rg14_0 := range_sees Rg14_0 Lg14 Sw18
   replace Rg16_0 := range_sees Rg16_0 Lg16 Sw18
   replace Lg3 := Nat.lt_of_lt_of_le Lg3 Sw18.2.2.size
   replace Lg4 := Nat.lt_of_lt_of_le Lg4 Sw18.2.2.size
   replace Lg5 := Nat.lt_of_lt_of_le Lg5 Sw18.2.2.size
   replace Lg11 := Nat.lt_of_lt_of_le Lg11 Sw18.2.2.size
   replace Lg14 := Nat.lt_of_lt_of_le Lg14 Sw18.2.2.size
   replace Lg16 := Nat.lt_of_lt_of_le Lg16 Sw18.2.2.size
   replace BE := BE.trans (Sw18.2.2.mono BE.size)
   refine wpL_store (g := g5) (off := 0) (n := 4) (cs := fel (leastF (x * y))) (by rfl) (by rfl) (by rfl) (by rfl) (by rfl) Tg5 (by simp [flen]) info24 (fel_one _) (fun w19 Pw19 RR TT => ?_)
   replace Rg3_0 := Pw19.range Rg3_0 (.inl Ng3_g5)
   replace Tg3 := Pw19.other_there Tg3 Ng3_g5
   replace Rg4_0 := Pw19.range Rg4_0 (.inl Ng4_g5)
   replace Tg4 := Pw19.other_there Tg4 Ng4_g5
   replace Rg11_0 := Pw19.range Rg11_0 (.inl (Ne.symm Ng5_g11))
   replace Rg14_0 := Pw19.range Rg14_0 (.inl (Ne.symm Ng5_g14))
   replace Rg16_0 := Pw19.range Rg16_0 (.inl (Ne.symm Ng5_g16))
   replace Rg5_0 := RR
   clear RR
   replace Tg5 := TT
   replace Lg3 := Pw19.lt Lg3
   replace Lg4 := Pw19.lt Lg4
   replace Lg5 := Pw19.lt Lg5
   replace Lg11 := Pw19.lt Lg11
   replace Lg14 := Pw19.lt Lg14
   replace Lg16 := Pw19.lt Lg16
   replace BE := Pw19.below BE Gg5
   refine Z9 ?_
   refine hK7 _ _ ?_
   refine wp_ret ?_
   repeat (first | with_reducible refine then_ret ?_ | with_reducible refine inblock_ret ?_)
   refine bodyPost_ret (v := fe (leastF (x * y))) (res1 rfl (.cell (by rfl) (run_loadVar_mid _ _ _ _ (fel (leastF (x * y))) _ Rg5_0 Try.underlying24 rfl info24))) rfl ?_
   exact ⟨rfl, BE⟩
  ·
   refine any_opL 2 (by rfl) ?_
   simp only [Z1,Z2]
   refine Z11 1 (by rfl) (fun Lk hLk => ?_)
   simp only [Z1,Z2]
   refine wpV_load (cs := fel y) (by rfl) rfl rfl Rg4_0 Lg4 Try.underlying24 rfl info24 ?_
   simp only [Z7,Z0]
   refine Z14 (hLk _ (fun w20 Sw20 => ?_))
   clear hLk Lk
   simp only [Z1,Z2]
   replace Rg3_0 := range_sees Rg3_0 Lg3 Sw20
   replace Tg3 := there_sees Tg3 Lg3 Sw20
   replace Rg4_0 := range_sees Rg4_0 Lg4 Sw20
   replace Tg4 := there_sees Tg4 Lg4 Sw20
   replace Rg5_0 := range_sees Rg5_0 Lg5 Sw20
   replace Tg5 := there_sees Tg5 Lg5 Sw20
   replace Lg3 := Nat.lt_of_lt_of_le Lg3 Sw20.2.2.size
   replace Lg4 := Nat.lt_of_lt_of_le Lg4 Sw20.2.2.size
   replace Lg5 := Nat.lt_of_lt_of_le Lg5 Sw20.2.2.size
   replace BE := BE.trans (Sw20.2.2.mono BE.size)
   refine Z9 (Z17 ?_)
   refine any_step [1] (by kernel_rfl) rfl (any_one ?_)
   refine any_opL 1 (by rfl) ?_
   simp only [Z1,Z2]
   refine wpL_callE (f := 71) (args := #[fe x]) (R := NewRow w20 16 (dl 16 x)) (by rfl) (by rfl) rfl Try.func71 (by kernel_rfl) (by kernel_rfl) (digits_c hx) (fun v9 w22 hv9 Sw22 => ?_)
   obtain ⟨g21, g21c, rfl, Cg21, Hg21, Lg21, Rg21_0⟩ := hv9
   have Ng3_g21 : g3 ≠ g21 := Nat.ne_of_lt (Nat.lt_of_lt_of_le Lg3 Hg21)
   have Ng4_g21 : g4 ≠ g21 := Nat.ne_of_lt (Nat.lt_of_lt_of_le Lg4 Hg21)
   have Ng5_g21 : g5 ≠ g21 := Nat.ne_of_lt (Nat.lt_of_lt_of_le Lg5 Hg21)
   have Gg21 : w.heap.size ≤ g21 := Nat.le_trans BE.size Hg21
   replace Rg3_0 := range_sees Rg3_0 Lg3 Sw22
   replace Tg3 := there_sees Tg3 Lg3 Sw22
   replace Rg4_0 := range_sees Rg4_0 Lg4 Sw22
   replace Tg4 := there_sees Tg4 Lg4 Sw22
   replace Rg5_0 := range_sees Rg5_0 Lg5 Sw22
   replace Tg5 := there_sees Tg5 Lg5 Sw22
   replace Lg3 := Nat.lt_of_lt_of_le Lg3 Sw22.2.2.size
   replace Lg4 := Nat.lt_of_lt_of_le Lg4 Sw22.2.2.size
   replace Lg5 := Nat.lt_of_lt_of_le Lg5 Sw22.2.2.size
   replace BE := BE.trans (Sw22.2.2.mono BE.size)
   simp only [Z7,Z0]
   refine Z9 (Z17 ?_)
   refine any_rest 3 (by rfl) (by kernel_rfl) ?_
   simp only [Z1,Z2]
   refine wpL_callE (f := 71) (args := #[fe y]) (R := NewRow w22 16 (dl 16 y)) (by rfl) (by rfl) rfl Try.func71 (by kernel_rfl) (by kernel_rfl) (digits_c hy) (fun v9 w24 hv9 Sw24 => ?_)
   obtain ⟨g23, g23c, rfl, Cg23, Hg23, Lg23, Rg23_0⟩ := hv9
   have Ng3_g23 : g3 ≠ g23 := Nat.ne_of_lt (Nat.lt_of_lt_of_le Lg3 Hg23)
   have Ng4_g23 : g4 ≠ g23 := Nat.ne_of_lt (Nat.lt_of_lt_of_le Lg4 Hg23)
   have Ng5_g23 : g5 ≠ g23 := Nat.ne_of_lt (Nat.lt_of_lt_of_le Lg5 Hg23)
   have Ng21_g23 : g21 ≠ g23 := Nat.ne_of_lt (Nat.lt_of_lt_of_le Lg21 Hg23)
   have Gg23 : w.heap.size ≤ g23 := Nat.le_trans BE.size Hg23
   replace Rg3_0 := range_sees Rg3_0 Lg3 Sw24
   replace Tg3 := there_sees Tg3 Lg3 Sw24
   replace Rg4_0 := range_sees Rg4_0 Lg4 Sw24
   replace Tg4 := there_sees Tg4 Lg4 Sw24
   replace Rg5_0 := range_sees Rg5_0 Lg5 Sw24
   replace Tg5 := there_sees Tg5 Lg5 Sw24
   replace Rg21_0 := range_sees Rg21_0 Lg21 Sw24
   replace Lg3 := Nat.lt_of_lt_of_le Lg3 Sw24.2.2.size
   replace Lg4 := Nat.lt_of_lt_of_le Lg4 Sw24.2.2.size
   replace Lg5 := Nat.lt_of_lt_of_le Lg5 Sw24.2.2.size
   replace Lg21 := Nat.lt_of_lt_of_le Lg21 Sw24.2.2.size
   replace BE := BE.trans (Sw24.2.2.mono BE.size)
   simp only [Z7,Z0]
   refine wpL_callE (f := 77) (args := #[.slice (some ⟨g21, 0, none⟩) 16 g21c, .slice (some ⟨g23, 0, none⟩) 16 g23c]) (R := NewRow w24 (dlen (x * y)) (dl (dlen (x * y)) (x * y))) (by rfl) (by rfl) rfl Try.func77 (by kernel_rfl) (by kernel_rfl) (times04_c (n := 16) (x := x) (m := 16) (y := y) (by omega) (by omega) hx hy Cg21 Lg21 Rg21_0 Cg23 Lg23 Rg23_0) (fun v9 w26 hv9 Sw26 => ?_)
   obtain ⟨g25, g25c, rfl, Cg25, Hg25, Lg25, Rg25_0⟩ := hv9
   have Ng3_g25 : g3 ≠ g25 := Nat.ne_of_lt (Nat.lt_of_lt_of_le Lg3 Hg25)
   have Ng4_g25 : g4 ≠ g25 := Nat.ne_of_lt (Nat.lt_of_lt_of_le Lg4 Hg25)
   have Ng5_g25 : g5 ≠ g25 := Nat.ne_of_lt (Nat.lt_of_lt_of_le Lg5 Hg25)
   have Ng21_g25 : g21 ≠ g25 := Nat.ne_of_lt (Nat.lt_of_lt_of_le Lg21 Hg25)
   have Ng23_g25 : g23 ≠ g25 := Nat.ne_of_lt (Nat.lt_of_lt_of_le Lg23 Hg25)
   have Gg25 : w.heap.size ≤ g25 := Nat.le_trans BE.size Hg25
   replace Rg3_0 := range_sees Rg3_0 Lg3 Sw26
   replace Tg3 := there_sees Tg3 Lg3 Sw26
   replace Rg4_0 := range_sees Rg4_0 Lg4 Sw26
   replace Tg4 := there_sees Tg4 Lg4 Sw26
   replace Rg5_0 := range_sees Rg5_0 Lg5 Sw26
   replace Tg5 := there_sees Tg5 Lg5 Sw26
   replace Rg21_0 := range_sees Rg21_0 Lg21 Sw26
   replace Rg23_0 := range_sees Rg23_0 Lg23 Sw26
   replace Lg3 := Nat.lt_of_lt_of_le Lg3 Sw26.2.2.size
   replace Lg4 := Nat.lt_of_lt_of_le Lg4 Sw26.2.2.size
   replace Lg5 := Nat.lt_of_lt_of_le Lg5 Sw26.2.2.size
   replace Lg21 := Nat.lt_of_lt_of_le Lg21 Sw26.2.2.size
   replace Lg23 := Nat.lt_of_lt_of_le Lg23 Sw26.2.2.size
   replace BE := BE.trans (Sw26.2.2.mono BE.size)
   simp only [Z7,Z0]
   refine Z11 1 (by rfl) (fun Lk hLk => ?_)
   simp only [Z1,Z2]
   refine Z20 (v := fe (leastF (x * y))) (args := #[.slice (some ⟨g25, 0, none⟩) (dlen (x * y)) g25c]) (by rfl) rfl Try.func72 (by kernel_rfl) (by kernel_rfl) rfl (fun W hW => fold_c (n := dlen (x * y)) (x := (x * y)) (by omega) (dlen_lt _) Cg25 (Nat.lt_of_lt_of_le Lg25 hW.2.2.size) (range_sees Rg25_0 Lg25 hW)) ?_
   simp only [Z7,Z0]
   refine Z14 (hLk _ (fun w27 Sw27 => ?_))
   clear hLk Lk
   simp only [Z1,Z2]
   replace Rg3_0 := range_sees Rg3_0 Lg3 Sw27
   replace Tg3 := there_sees Tg3 Lg3 Sw27
   replace Rg4_0 := range_sees Rg4_0 Lg4 Sw27
   replace Tg4 := there_sees Tg4 Lg4 Sw27
   replace Rg5_0 := range_sees Rg5_0 Lg5 Sw27
   replace Tg5 := there_sees Tg5 Lg5 Sw27
   replace Rg21_0 := range_sees Rg21_0 Lg21 Sw27
   replace Rg23_0 := range_sees Rg23_0 Lg23 Sw27
   replace Rg25_0 := range_sees Rg25_0 Lg25 Sw27
   replace Lg3 := Nat.lt_of_lt_of_le Lg3 Sw27.2.2.size
   replace Lg4 := Nat.lt_of_lt_of_le Lg4 Sw27.2.2.size
   replace Lg5 := Nat.lt_of_lt_of_le Lg5 Sw27.2.2.size
   replace Lg21 := Nat.lt_of_lt_of_le Lg21 Sw27.2.2.size
   replace Lg23 := Nat.lt_of_lt_of_le Lg23 Sw27.2.2.size
   replace Lg25 := Nat.lt_of_lt_of_le Lg25 Sw27.2.2.size
   replace BE := BE.trans (Sw27.2.2.mono BE.size)
   refine wpL_store (g := g5) (off := 0) (n := 4) (cs := fel (leastF (x * y))) (by rfl) (by rfl) (by rfl) (by rfl) (by rfl) Tg5 (by simp [flen]) info24 (fel_one _) (fun w28 Pw28 RR TT => ?_)
   replace Rg3_0 := Pw28.range Rg3_0 (.inl Ng3_g5)
   replace Tg3 := Pw28.other_there Tg3 Ng3_g5
   replace Rg4_0 := Pw28.range Rg4_0 (.inl Ng4_g5)
   replace Tg4 := Pw28.other_there Tg4 Ng4_g5
   replace Rg21_0 := Pw28.range Rg21_0 (.inl (Ne.symm Ng5_g21))
   replace Rg23_0 := Pw28.range Rg23_0 (.inl (Ne.symm Ng5_g23))
   replace Rg25_0 := Pw28.range Rg25_0 (.inl (Ne.symm Ng5_g25))
   replace Rg5_0 := RR
   clear RR
   replace Tg5 := TT
   replace Lg3 := Pw28.lt Lg3
   replace Lg4 := Pw28.lt Lg4
   replace Lg5 := Pw28.lt Lg5
   replace Lg21 := Pw28.lt Lg21
   replace Lg23 := Pw28.lt Lg23
   replace Lg25 := Pw28.lt Lg25
   replace BE := Pw28.below BE Gg5
   refine Z9 ?_
   refine hK7 _ _ ?_
   refine wp_ret ?_
   repeat (first | with_reducible refine then_ret ?_ | with_reducible refine inblock_ret ?_)
   refine bodyPost_ret (v := fe (leastF (x * y))) (res1 rfl (.cell (by rfl) (run_loadVar_mid _ _ _ _ (fel (leastF (x * y))) _ Rg5_0 Try.underlying24 rfl info24))) rfl ?_
   exact ⟨rfl, BE⟩
 ·
  refine any_opL 2 (by rfl) ?_
  simp only [Z1,Z2]
  refine Z11 1 (by rfl) (fun Lk hLk => ?_)
  simp only [Z1,Z2]
  refine wpV_load (cs := fel y) (by rfl) rfl rfl Rg4_0 Lg4 Try.underlying24 rfl info24 ?_
  simp only [Z7,Z0]
  refine Z14 (hLk _ (fun w29 Sw29 => ?_))
  clear hLk Lk
  simp only [Z1,Z2]
  replace Rg3_0 := range_sees Rg3_0 Lg3 Sw29
  replace Tg3 := there_sees Tg3 Lg3 Sw29
  replace Rg4_0 := range_sees Rg4_0 Lg4 Sw29
  replace Tg4 := there_sees Tg4 Lg4 Sw29
  replace Rg5_0 := range_sees Rg5_0 Lg5 Sw29
  replace Tg5 := there_sees Tg5 Lg5 Sw29
  replace Lg3 := Nat.lt_of_lt_of_le Lg3 Sw29.2.2.size
  replace Lg4 := Nat.lt_of_lt_of_le Lg4 Sw29.2.2.size
  replace Lg5 := Nat.lt_of_lt_of_le Lg5 Sw29.2.2.size
  replace BE := BE.trans (Sw29.2.2.mono BE.size)
  refine Z9 (Z17 ?_)
  refine any_step [0] (by kernel_rfl) rfl (any_one ?_)
  refine any_opL 0 (by rfl) ?_
  simp only [Z1,Z2]
  refine Z11 1 (by rfl) (fun Lk hLk => ?_)
  simp only [Z1,Z2]
  refine wpV_load (cs := fel x) (by rfl) rfl rfl Rg3_0 Lg3 Try.underlying24 rfl info24 ?_
  simp only [Z7,Z0]
  refine Z14 (hLk _ (fun w30 Sw30 => ?_))
  clear hLk Lk
  simp only [Z1,Z2]
  replace Rg3_0 := range_sees Rg3_0 Lg3 Sw30
  replace Tg3 := there_sees Tg3 Lg3 Sw30
  replace Rg4_0 := range_sees Rg4_0 Lg4 Sw30
  replace Tg4 := there_sees Tg4 Lg4 Sw30
  replace Rg5_0 := range_sees Rg5_0 Lg5 Sw30
  replace Tg5 := there_sees Tg5 Lg5 Sw30
  replace Lg3 := Nat.lt_of_lt_of_le Lg3 Sw30.2.2.size
  replace Lg4 := Nat.lt_of_lt_of_le Lg4 Sw30.2.2.size
  replace Lg5 := Nat.lt_of_lt_of_le Lg5 Sw30.2.2.size
  replace BE := BE.trans (Sw30.2.2.mono BE.size)
  refine Z9 (Z17 ?_)
  refine any_step [1] (by kernel_rfl) rfl (any_one ?_)
  refine any_opL 1 (by rfl) ?_
  simp only [Z1,Z2]
  refine wpL_callE (f := 71) (args := #[fe x]) (R := NewRow w30 16 (dl 16 x)) (by rfl) (by rfl) rfl Try.func71 (by kernel_rfl) (by kernel_rfl) (digits_c hx) (fun v9 w32 hv9 Sw32 => ?_)
  obtain ⟨g31, g31c, rfl, Cg31, Hg31, Lg31, Rg31_0⟩ := hv9
  have Ng3_g31 : g3 ≠ g31 := Nat.ne_of_lt (Nat.lt_of_lt_of_le Lg3 Hg31)
  have Ng4_g31 : g4 ≠ g31 := Nat.ne_of_lt (Nat.lt_of_lt_of_le Lg4 Hg31)
  have Ng5_g31 : g5 ≠ g31 := Nat.ne_of_lt (Nat.lt_of_lt_of_le Lg5 Hg31)
  have Gg31 : w.heap.size ≤ g31 := Nat.le_trans BE.size Hg31
  replace Rg3_0 := range_sees Rg3_0 Lg3 Sw32
  replace Tg3 := there_sees Tg3 Lg3 Sw32
  replace Rg4_0 := range_sees Rg4_0 Lg4 Sw32
  replace Tg4 := there_sees Tg4 Lg4 Sw32
  replace Rg5_0 := range_sees Rg5_0 Lg5 Sw32
  replace Tg5 := there_sees Tg5 Lg5 Sw32
  replace Lg3 := Nat.lt_of_lt_of_le Lg3 Sw32.2.2.size
  replace Lg4 := Nat.lt_of_lt_of_le Lg4 Sw32.2.2.size
  replace Lg5 := Nat.lt_of_lt_of_le Lg5 Sw32.2.2.size
  replace BE := BE.trans (Sw32.2.2.mono BE.size)
  simp only [Z7,Z0]
  refine Z9 (Z17 ?_)
  refine any_rest 3 (by rfl) (by kernel_rfl) ?_
  simp only [Z1,Z2]
  refine wpL_callE (f := 71) (args := #[fe y]) (R := NewRow w32 16 (dl 16 y)) (by rfl) (by rfl) rfl Try.func71 (by kernel_rfl) (by kernel_rfl) (digits_c hy) (fun v9 w34 hv9 Sw34 => ?_)
  obtain ⟨g33, g33c, rfl, Cg33, Hg33, Lg33, Rg33_0⟩ := hv9
  have Ng3_g33 : g3 ≠ g33 := Nat.ne_of_lt (Nat.lt_of_lt_of_le Lg3 Hg33)
  have Ng4_g33 : g4 ≠ g33 := Nat.ne_of_lt (Nat.lt_of_lt_of_le Lg4 Hg33)
  have Ng5_g33 : g5 ≠ g33 := Nat.ne_of_lt (Nat.lt_of_lt_of_le Lg5 Hg33)
  have Ng31_g33 : g31 ≠ g33 := Nat.ne_of_lt (Nat.lt_of_lt_of_le Lg31 Hg33)
  have Gg33 : w.heap.size ≤ g33 := Nat.le_trans BE.size Hg33
  replace Rg3_0 := range_sees Rg3_0 Lg3 Sw34
  replace Tg3 := there_sees Tg3 Lg3 Sw34
  replace Rg4_0 := range_sees Rg4_0 Lg4 Sw34
  replace Tg4 := there_sees Tg4 Lg4 Sw34
  replace Rg5_0 := range_sees Rg5_0 Lg5 Sw34
  replace Tg5 := there_sees Tg5 Lg5 Sw34
  replace Rg31_0 := range_sees Rg31_0 Lg31 Sw34
  replace Lg3 := Nat.lt_of_lt_of_le Lg3 Sw34.2.2.size
  replace Lg4 := Nat.lt_of_lt_of_le Lg4 Sw34.2.2.size
  replace Lg5 := Nat.lt_of_lt_of_le Lg5 Sw34.2.2.size
  replace Lg31 := Nat.lt_of_lt_of_le Lg31 Sw34.2.2.size
  replace BE := BE.trans (Sw34.2.2.mono BE.size)
  simp only [Z7,Z0]
  refine wpL_callE (f := 77) (args := #[.slice (some ⟨g31, 0, none⟩) 16 g31c, .slice (some ⟨g33, 0, none⟩) 16 g33c]) (R := NewRow w34 (dlen (x * y)) (dl (dlen (x * y)) (x * y))) (by rfl) (by rfl) rfl Try.func77 (by kernel_rfl) (by kernel_rfl) (times04_c (n := 16) (x := x) (m := 16) (y := y) (by omega) (by omega) hx hy Cg31 Lg31 Rg31_0 Cg33 Lg33 Rg33_0) (fun v9 w36 hv9 Sw36 => ?_)
  obtain ⟨g35, g35c, rfl, Cg35, Hg35, Lg35, Rg35_0⟩ := hv9
  have Ng3_g35 : g3 ≠ g35 := Nat.ne_of_lt (Nat.lt_of_lt_of_le Lg3 Hg35)
  have Ng4_g35 : g4 ≠ g35 := Nat.ne_of_lt (Nat.lt_of_lt_of_le Lg4 Hg35)
  have Ng5_g35 : g5 ≠ g35 := Nat.ne_of_lt (Nat.lt_of_lt_of_le Lg5 Hg35)
  have Ng31_g35 : g31 ≠ g35 := Nat.ne_of_lt (Nat.lt_of_lt_of_le Lg31 Hg35)
  have Ng33_g35 : g33 ≠ g35 := Nat.ne_of_lt (Nat.lt_of_lt_of_le Lg33 Hg35)
  have Gg35 : w.heap.size ≤ g35 := Nat.le_trans BE.size Hg35
  replace Rg3_0 := range_sees Rg3_0 Lg3 Sw36
  replace Tg3 := there_sees Tg3 Lg3 Sw36
  replace Rg4_0 := range_sees Rg4_0 Lg4 Sw36
  replace Tg4 := there_sees Tg4 Lg4 Sw36
  replace Rg5_0 := range_sees Rg5_0 Lg5 Sw36
  replace Tg5 := there_sees Tg5 Lg5 Sw36
  replace Rg31_0 := range_sees Rg31_0 Lg31 Sw36
  replace Rg33_0 := range_sees Rg33_0 Lg33 Sw36
  replace Lg3 := Nat.lt_of_lt_of_le Lg3 Sw36.2.2.size
  replace Lg4 := Nat.lt_of_lt_of_le Lg4 Sw36.2.2.size
  replace Lg5 := Nat.lt_of_lt_of_le Lg5 Sw36.2.2.size
  replace Lg31 := Nat.lt_of_lt_of_le Lg31 Sw36.2.2.size
  replace Lg33 := Nat.lt_of_lt_of_le Lg33 Sw36.2.2.size
  replace BE := BE.trans (Sw36.2.2.mono BE.size)
  simp only [Z7,Z0]
  refine Z11 1 (by rfl) (fun Lk hLk => ?_)
  simp only [Z1,Z2]
  refine Z20 (v := fe (leastF (x * y))) (args := #[.slice (some ⟨g35, 0, none⟩) (dlen (x * y)) g35c]) (by rfl) rfl Try.func72 (by kernel_rfl) (by kernel_rfl) rfl (fun W hW => fold_c (n := dlen (x * y)) (x := (x * y)) (by omega) (dlen_lt _) Cg35 (Nat.lt_of_lt_of_le Lg35 hW.2.2.size) (range_sees Rg35_0 Lg35 hW)) ?_
  simp only [Z7,Z0]
  refine Z14 (hLk _ (fun w37 Sw37 => ?_))
  clear hLk Lk
  simp only [Z1,Z2]
  replace Rg3_0 := range_sees Rg3_0 Lg3 Sw37
  replace Tg3 := there_sees Tg3 Lg3 Sw37
  replace Rg4_0 := range_sees Rg4_0 Lg4 Sw37
  replace Tg4 := there_sees Tg4 Lg4 Sw37
  replace Rg5_0 := range_sees Rg5_0 Lg5 Sw37
  replace Tg5 := there_sees Tg5 Lg5 Sw37
  replace Rg31_0 := range_sees Rg31_0 Lg31 Sw37
  replace Rg33_0 := range_sees Rg33_0 Lg33 Sw37
  replace Rg35_0 := range_sees Rg35_0 Lg35 Sw37
  replace Lg3 := Nat.lt_of_lt_of_le Lg3 Sw37.2.2.size
  replace Lg4 := Nat.lt_of_lt_of_le Lg4 Sw37.2.2.size
  replace Lg5 := Nat.lt_of_lt_of_le Lg5 Sw37.2.2.size
  replace Lg31 := Nat.lt_of_lt_of_le Lg31 Sw37.2.2.size
  replace Lg33 := Nat.lt_of_lt_of_le Lg33 Sw37.2.2.size
  replace Lg35 := Nat.lt_of_lt_of_le Lg35 Sw37.2.2.size
  replace BE := BE.trans (Sw37.2.2.mono BE.size)
  refine wpL_store (g := g5) (off := 0) (n := 4) (cs := fel (leastF (x * y))) (by rfl) (by rfl) (by rfl) (by rfl) (by rfl) Tg5 (by simp [flen]) info24 (fel_one _) (fun w38 Pw38 RR TT => ?_)
  replace Rg3_0 := Pw38.range Rg3_0 (.inl Ng3_g5)
  replace Tg3 := Pw38.other_there Tg3 Ng3_g5
  replace Rg4_0 := Pw38.range Rg4_0 (.inl Ng4_g5)
  replace Tg4 := Pw38.other_there Tg4 Ng4_g5
  replace Rg31_0 := Pw38.range Rg31_0 (.inl (Ne.symm Ng5_g31))
  replace Rg33_0 := Pw38.range Rg33_0 (.inl (Ne.symm Ng5_g33))
  replace Rg35_0 := Pw38.range Rg35_0 (.inl (Ne.symm Ng5_g35))
  replace Rg5_0 := RR
  clear RR
  replace Tg5 := TT
  replace Lg3 := Pw38.lt Lg3
  replace Lg4 := Pw38.lt Lg4
  replace Lg5 := Pw38.lt Lg5
  replace Lg31 := Pw38.lt Lg31
  replace Lg33 := Pw38.lt Lg33
  replace Lg35 := Pw38.lt Lg35
  replace BE := Pw38.below BE Gg5
  refine Z9 ?_
  refine hK7 _ _ ?_
  refine wp_ret ?_
  repeat (first | with_reducible refine then_ret ?_ | with_reducible refine inblock_ret ?_)
  refine bodyPost_ret (v := fe (leastF (x * y))) (res1 rfl (.cell (by rfl) (run_loadVar_mid _ _ _ _ (fel (leastF (x * y))) _ Rg5_0 Try.underlying24 rfl info24))) rfl ?_
  exact ⟨rfl, BE⟩
end Go.Proofs.Ya

namespace Go.Proofs.Ya
open Go Go.RowKit Go.Shelf Go.Proofs.Num
open List renaming set → Z0, take → Z1, drop → Z2
open Go renaming wp_seq_k → Z4
open Go.Proofs.Num renaming putT → Z7, wp_region_seq → Z8, wpL_nil → Z9, no_panic → Z10, wpL_chunk → Z11, wpL_move → Z12, wpL_assign → Z13, wpV_nil → Z14, then_normal → Z17, wpV_callf → Z20
set_option maxHeartbeats 1000000 in
theorem rsub04_c {x : Nat} (hx : x < 2 ^ 256) {y : Nat} (hy : y < 2 ^ 256) {w : World}  :
  Calls Try.prog 37 #[fe x, fe y] w fun e w' => e = .returned (fe (fsub x y)) ∧ Below w.heap.size w w' := by
 have hl : leastF y < pF := Nat.mod_lt _ (by decide)
 have hl16 : dlen (leastF y) ≤ 16 := by rw [← dlen_pF]; exact dlen_mono (Nat.le_of_lt hl)
 have hd16 : dlen (pF - leastF y) ≤ 16 := by rw [← dlen_pF]; exact dlen_mono (Nat.sub_le _ _)
 have hs17 : dlen (x + (pF - leastF y)) ≤ 17 := (dlen_le _ _).2 (Nat.lt_of_lt_of_le (Nat.add_lt_add_of_lt_of_le hx (Nat.sub_le pF (leastF y))) (by decide))
 go_enter Try.func37, Try.ntmps37
 have BE := Below.refl w.heap.size w
 refine Z4 (fun K1 hK1 => ?_)
 refine wp_region_plain 3 (by kernel_rfl) (fun Lk hLk => ?_)
 simp only [Z1,Z2]
 refine wpV_alloc (by rfl) ?_
 refine wpV_alloc (by rfl) ?_
 refine wpV_alloc (by rfl) ?_
 refine Z14 (hLk.out _ ?_)
 clear hLk Lk
 simp only [Z1,Z2]
 refine wpN_new (t := 24) (cs := (fel x).toArray) (by rfl) (fun W => ?_) (fun g3 Hg3 ng3 => ?_)
 ·
  (first | rfl | go_simp)
 refine wpN_new (t := 24) (cs := (fel y).toArray) (by rfl) (fun W => ?_) (fun g4 Hg4 ng4 => ?_)
 ·
  (first | rfl | go_simp)
 refine wpN_new (t := 24) (cs := ([.int .u64 0, .int .u64 0, .int .u64 0, .int .u64 0]).toArray) (by rfl) (fun W => ?_) (fun g5 Hg5 ng5 => ?_)
 ·
  go_simp
 simp only [Z7,Z0]
 refine wpN_nil (fun w6 Sw6 hbs => ?_)
 have Bg3 : Blk w6 g3 24 (fel x).toArray := hbs _ (List.mem_cons_of_mem _ (List.mem_cons_of_mem _ (List.mem_cons_self ..)))
 have Bg4 : Blk w6 g4 24 (fel y).toArray := hbs _ (List.mem_cons_of_mem _ (List.mem_cons_self ..))
 have Bg5 : Blk w6 g5 24 ([.int .u64 0, .int .u64 0, .int .u64 0, .int .u64 0]).toArray := hbs _ (List.mem_cons_self ..)
 clear hbs
 have Gg3 : w.heap.size ≤ g3 := Nat.le_trans BE.size Hg3
 have Ng3_g4 : g3 ≠ g4 := ng4 (g3, _, _) (List.mem_cons_self ..)
 have Gg4 : w.heap.size ≤ g4 := Nat.le_trans BE.size Hg4
 have Ng3_g5 : g3 ≠ g5 := ng5 (g3, _, _) (List.mem_cons_of_mem _ (List.mem_cons_self ..))
 have Ng4_g5 : g4 ≠ g5 := ng5 (g4, _, _) (List.mem_cons_self ..)
 have Gg5 : w.heap.size ≤ g5 := Nat.le_trans BE.size Hg5
 replace BE := BE.trans (Sw6.2.2.mono BE.size)
 have Tg3 := blk_there Bg3 (n := 4) (by simp [flen])
 have Rg3_0 := blk_range Bg3 (l := fel x) rfl
 have Lg3 := Bg3.lt
 have Tg4 := blk_there Bg4 (n := 4) (by simp [flen])
 have Rg4_0 := blk_range Bg4 (l := fel y) rfl
 have Lg4 := Bg4.lt
 have Tg5 := blk_there Bg5 (n := 4) (by simp [flen])
 have Rg5_0 := blk_range Bg5 (l := [.int .u64 0, .int .u64 0, .int .u64 0, .int .u64 0]) rfl
 have Lg5 := Bg5.lt
 clear ng3 ng4 ng5 Bg3 Bg4 Bg5
 refine Z9 (Z10 ?_)
 refine hK1 _ _ ?_
 refine Z4 (fun K7 hK7 => ?_)
 refine wp_region_tree (by kernel_rfl) (fun w9 Sw9 => ?_)
 replace Rg3_0 := range_sees Rg3_0 Lg3 Sw9
 replace Tg3 := there_sees Tg3 Lg3 Sw9
 replace Rg4_0 := range_sees Rg4_0 Lg4 Sw9
 replace Tg4 := there_sees Tg4 Lg4 Sw9
 replace Rg5_0 := range_sees Rg5_0 Lg5 Sw9
 replace Tg5 := there_sees Tg5 Lg5 Sw9
 replace Lg3 := Nat.lt_of_lt_of_le Lg3 Sw9.2.2.size
 replace Lg4 := Nat.lt_of_lt_of_le Lg4 Sw9.2.2.size
 replace Lg5 := Nat.lt_of_lt_of_le Lg5 Sw9.2.2.size
 replace BE := BE.trans (Sw9.2.2.mono BE.size)
 refine any_step [0, 1] (by kernel_rfl) rfl (any_two ?_ (any_one ?_))
 ·
  refine any_opL 0 (by rfl) ?_
  simp only [Z1,Z2]
  refine wpL_callE (f := 68) (args := #[]) (R := NewRow w9 16 (dl 16 pF)) (by rfl) (by rfl) rfl Try.func68 (by kernel_rfl) (by kernel_rfl) (prime04_c) (fun v9 w11 hv9 Sw11 => ?_)
  obtain ⟨g10, g10c, rfl, Cg10, Hg10, Lg10, Rg10_0⟩ := hv9
  have Ng3_g10 : g3 ≠ g10 := Nat.ne_of_lt (Nat.lt_of_lt_of_le Lg3 Hg10)
  have Ng4_g10 : g4 ≠ g10 := Nat.ne_of_lt (Nat.lt_of_lt_of_le Lg4 Hg10)
  have Ng5_g10 : g5 ≠ g10 := Nat.ne_of_lt (Nat.lt_of_lt_of_le Lg5 Hg10)
  have Gg10 : w.heap.size ≤ g10 := Nat.le_trans BE.size Hg10
  replace Rg3_0 := range_sees Rg3_0 Lg3 Sw11
  replace Tg3 := there_sees Tg3 Lg3 Sw11
  replace Rg4_0 := range_sees Rg4_0 Lg4 Sw11
  replace Tg4 := there_sees Tg4 Lg4 Sw11
  replace Rg5_0 := range_sees Rg5_0 Lg5 Sw11
  replace Tg5 := there_sees Tg5 Lg5 Sw11
  replace Lg3 := Nat.lt_of_lt_of_le Lg3 Sw11.2.2.size
  replace Lg4 := Nat.lt_of_lt_of_le Lg4 Sw11.2.2.size
  replace Lg5 := Nat.lt_of_lt_of_le Lg5 Sw11.2.2.size
  replace BE := BE.trans (Sw11.2.2.mono BE.size)
  simp only [Z7,Z0]
  refine Z9 (Z17 ?_)
  refine any_rest 1 (by rfl) (by kernel_rfl) ?_
  simp only [Z1,Z2]
  refine Z11 2 (by rfl) (fun Lk hLk => ?_)
  simp only [Z1,Z2]
  refine wpV_load (cs := fel y) (by rfl) rfl rfl Rg4_0 Lg4 Try.underlying24 rfl info24 ?_
  simp only [Z7,Z0]
  refine Z20 (v := fe (leastF y)) (args := #[fe y]) (by rfl) rfl Try.func41 (by kernel_rfl) (by kernel_rfl) rfl (fun W hW => rleast04_c hy) ?_
  simp only [Z7,Z0]
  refine Z14 (hLk _ (fun w12 Sw12 => ?_))
  clear hLk Lk
  simp only [Z1,Z2]
  replace Rg3_0 := range_sees Rg3_0 Lg3 Sw12
  replace Tg3 := there_sees Tg3 Lg3 Sw12
  replace Rg4_0 := range_sees Rg4_0 Lg4 Sw12
  replace Tg4 := there_sees Tg4 Lg4 Sw12
  replace Rg5_0 := range_sees Rg5_0 Lg5 Sw12
  replace Tg5 := there_sees Tg5 Lg5 Sw12
  replace Rg10_0 := range_sees Rg10_0 Lg10 Sw12
  replace Lg3 := Nat.lt_of_lt_of_le Lg3 Sw12.2.2.size
  replace Lg4 := Nat.lt_of_lt_of_le Lg4 Sw12.2.2.size
  replace Lg5 := Nat.lt_of_lt_of_le Lg5 Sw12.2.2.size
  replace Lg10 := Nat.lt_of_lt_of_le Lg10 Sw12.2.2.size
  replace BE := BE.trans (Sw12.2.2.mono BE.size)
  refine wpL_callE (f := 71) (args := #[fe (leastF y)]) (R := NewRow w12 16 (dl 16 (leastF y))) (by rfl) (by rfl) rfl Try.func71 (by kernel_rfl) (by kernel_rfl) (digits_c (leastF_lt _)) (fun v9 w14 hv9 Sw14 => ?_)
  obtain ⟨g13, g13c, rfl, Cg13, Hg13, Lg13, Rg13_0⟩ := hv9
  have Ng3_g13 : g3 ≠ g13 := Nat.ne_of_lt (Nat.lt_of_lt_of_le Lg3 Hg13)
  have Ng4_g13 : g4 ≠ g13 := Nat.ne_of_lt (Nat.lt_of_lt_of_le Lg4 Hg13)
  have Ng5_g13 : g5 ≠ g13 := Nat.ne_of_lt (Nat.lt_of_lt_of_le Lg5 Hg13)
  have Ng10_g13 : g10 ≠ g13 := Nat.ne_of_lt (Nat.lt_of_lt_of_le Lg10 Hg13)
  have Gg13 : w.heap.size ≤ g13 := Nat.le_trans BE.size Hg13
  replace Rg3_0 := range_sees Rg3_0 Lg3 Sw14
  replace Tg3 := there_sees Tg3 Lg3 Sw14
  replace Rg4_0 := range_sees Rg4_0 Lg4 Sw14
  replace Tg4 := there_sees Tg4 Lg4 Sw14
  replace Rg5_0 := range_sees Rg5_0 Lg5 Sw14
  replace Tg5 := there_sees Tg5 Lg5 Sw14
  replace Rg10_0 := range_sees Rg10_0 Lg10 Sw14
  replace Lg3 := Nat.lt_of_lt_of_le Lg3 Sw14.2.2.size
  replace Lg4 := Nat.lt_of_lt_of_le Lg4 Sw14.2.2.size
  replace Lg5 := Nat.lt_of_lt_of_le Lg5 Sw14.2.2.size
  replace Lg10 := Nat.lt_of_lt_of_le Lg10 Sw14.2.2.size
  replace BE := BE.trans (Sw14.2.2.mono BE.size)
  simp only [Z7,Z0]
  refine Z11 1 (by rfl) (fun Lk hLk => ?_)
  simp only [Z1,Z2]
  refine Z20 (v := .slice (some ⟨g13, 0, none⟩) (dlen (leastF y)) g13c) (args := #[.slice (some ⟨g13, 0, none⟩) 16 g13c]) (by rfl) rfl Try.func64 (by kernel_rfl) (by kernel_rfl) rfl (fun W hW => trim_c (x := (leastF y)) (by omega) (Nat.lt_trans hl (by decide)) Cg13 (Nat.lt_of_lt_of_le Lg13 hW.2.2.size) (range_sees Rg13_0 Lg13 hW)) ?_
  simp only [Z7,Z0]
  refine Z14 (hLk _ (fun w15 Sw15 => ?_))
  clear hLk Lk
  simp only [Z1,Z2]
  replace Rg3_0 := range_sees Rg3_0 Lg3 Sw15
  replace Tg3 := there_sees Tg3 Lg3 Sw15
  replace Rg4_0 := range_sees Rg4_0 Lg4 Sw15
  replace Tg4 := there_sees Tg4 Lg4 Sw15
  replace Rg5_0 := range_sees Rg5_0 Lg5 Sw15
  replace Tg5 := there_sees Tg5 Lg5 Sw15
  replace Rg10_0 := range_sees Rg10_0 Lg10 Sw15
  replace Rg13_0 := range_sees Rg13_0 Lg13 Sw15
  replace Lg3 := Nat.lt_of_lt_of_le Lg3 Sw15.2.2.size
  replace Lg4 := Nat.lt_of_lt_of_le Lg4 Sw15.2.2.size
  replace Lg5 := Nat.lt_of_lt_of_le Lg5 Sw15.2.2.size
  replace Lg10 := Nat.lt_of_lt_of_le Lg10 Sw15.2.2.size
  replace Lg13 := Nat.lt_of_lt_of_le Lg13 Sw15.2.2.size
  replace BE := BE.trans (Sw15.2.2.mono BE.size)
  refine wpL_callE (f := 70) (args := #[.slice (some ⟨g10, 0, none⟩) 16 g10c, .slice (some ⟨g13, 0, none⟩) (dlen (leastF y)) g13c]) (R := NewRow w15 (dlen (pF - (leastF y))) (dl (dlen (pF - (leastF y))) (pF - (leastF y)))) (by rfl) (by rfl) rfl Try.func70 (by kernel_rfl) (by kernel_rfl) (minus04_c (n := 16) (x := pF) (m := dlen (leastF y)) (y := (leastF y)) (by omega) (by omega) (by decide) (dlen_lt _) (Nat.le_of_lt hl) Cg10 Lg10 Rg10_0 (Nat.le_trans ((dlen_le _ _).2 (Nat.lt_trans hl (by decide))) Cg13) Lg13 (range_dl_take (m := dlen (leastF y)) Rg13_0 ((dlen_le _ _).2 (Nat.lt_trans hl (by decide))))) (fun v9 w17 hv9 Sw17 => ?_)
  obtain ⟨g16, g16c, rfl, Cg16, Hg16, Lg16, Rg16_0⟩ := hv9
  have Ng3_g16 : g3 ≠ g16 := Nat.ne_of_lt (Nat.lt_of_lt_of_le Lg3 Hg16)
  have Ng4_g16 : g4 ≠ g16 := Nat.ne_of_lt (Nat.lt_of_lt_of_le Lg4 Hg16)
  have Ng5_g16 : g5 ≠ g16 := Nat.ne_of_lt (Nat.lt_of_lt_of_le Lg5 Hg16)
  have Ng10_g16 : g10 ≠ g16 := Nat.ne_of_lt (Nat.lt_of_lt_of_le Lg10 Hg16)
  have Ng13_g16 : g13 ≠ g16 := Nat.ne_of_lt (Nat.lt_of_lt_of_le Lg13 Hg16)
  have Gg16 : w.heap.size ≤ g16 := Nat.le_trans BE.size Hg16
  replace Rg3_0 := range_sees Rg3_0 Lg3 Sw17
  replace Tg3 := there_sees Tg3 Lg3 Sw17
  replace Rg4_0 := range_sees Rg4_0 Lg4 Sw17
  replace Tg4 := there_sees Tg4 Lg4 Sw17
  replace Rg5_0 := range_sees Rg5_0 Lg5 Sw17
  replace Tg5 := there_sees Tg5 Lg5 Sw17
  replace Rg10_0 := range_sees Rg10_0 Lg10 Sw17
  replace Rg13_0 := range_sees Rg13_0 Lg13 Sw17
  replace Lg3 := Nat.lt_of_lt_of_le Lg3 Sw17.2.2.size
  replace Lg4 := Nat.lt_of_lt_of_le Lg4 Sw17.2.2.size
  replace Lg5 := Nat.lt_of_lt_of_le Lg5 Sw17.2.2.size
  replace Lg10 := Nat.lt_of_lt_of_le Lg10 Sw17.2.2.size
  replace Lg13 := Nat.lt_of_lt_of_le Lg13 Sw17.2.2.size
  replace BE := BE.trans (Sw17.2.2.mono BE.size)
  simp only [Z7,Z0]
  refine Z13 (v := .slice (some ⟨g16, 0, none⟩) (dlen (pF - (leastF y))) g16c) (by rfl) (by rfl) (by rfl) ?_
  simp only [Z7,Z0]
  refine Z9 ?_
  refine hK7 _ _ ?_
  refine Z4 (fun K18 hK18 => ?_)
  refine Z8 ?_
  refine Z11 1 (by rfl) (fun Lk hLk => ?_)
  simp only [Z1,Z2]
  refine wpV_load (cs := fel x) (by rfl) rfl rfl Rg3_0 Lg3 Try.underlying24 rfl info24 ?_
  simp only [Z7,Z0]
  refine Z14 (hLk _ (fun w20 Sw20 => ?_))
  clear hLk Lk
  simp only [Z1,Z2]
  replace Rg3_0 := range_sees Rg3_0 Lg3 Sw20
  replace Tg3 := there_sees Tg3 Lg3 Sw20
  replace Rg4_0 := range_sees Rg4_0 Lg4 Sw20
  replace Tg4 := there_sees Tg4 Lg4 Sw20
  replace Rg5_0 := range_sees Rg5_0 Lg5 Sw20
  replace Tg5 := there_sees Tg5 Lg5 Sw20
  replace Rg10_0 := range_sees Rg10_0 Lg10 Sw20
  replace Rg13_0 := range_sees Rg13_0 Lg13 Sw20
  replace Rg16_0 := range_sees Rg16_0 Lg16 Sw20
  replace Lg3 := Nat.lt_of_lt_of_le Lg3 Sw20.2.2.size
  replace Lg4 := Nat.lt_of_lt_of_le Lg4 Sw20.2.2.size
  replace Lg5 := Nat.lt_of_lt_of_le Lg5 Sw20.2.2.size
  replace Lg10 := Nat.lt_of_lt_of_le Lg10 Sw20.2.2.size
  replace Lg13 := Nat.lt_of_lt_of_le Lg13 Sw20.2.2.size
  replace Lg16 := Nat.lt_of_lt_of_le Lg16 Sw20.2.2.size
  replace BE := BE.trans (Sw20.2.2.mono BE.size)
  refine wpL_callE (f := 71) (args := #[fe x]) (R := NewRow w20 16 (dl 16 x)) (by rfl) (by rfl) rfl Try.func71 (by kernel_rfl) (by kernel_rfl) (digits_c hx) (fun v9 w22 hv9 Sw22 => ?_)
  obtain ⟨g21, g21c, rfl, Cg21, Hg21, Lg21, Rg21_0⟩ := hv9
  have Ng3_g21 : g3 ≠ g21 := Nat.ne_of_lt (Nat.lt_of_lt_of_le Lg3 Hg21)
  have Ng4_g21 : g4 ≠ g21 := Nat.ne_of_lt (Nat.lt_of_lt_of_le Lg4 Hg21)
  have Ng5_g21 : g5 ≠ g21 := Nat.ne_of_lt (Nat.lt_of_lt_of_le Lg5 Hg21)
  have Ng10_g21 : g10 ≠ g21 := Nat.ne_of_lt (Nat.lt_of_lt_of_le Lg10 Hg21)
  have Ng13_g21 : g13 ≠ g21 := Nat.ne_of_lt (Nat.lt_of_lt_of_le Lg13 Hg21)
  have Ng16_g21 : g16 ≠ g21 := Nat.ne_of_lt (Nat.lt_of_lt_of_le Lg16 Hg21)
  have Gg21 : w.heap.size ≤ g21 := Nat.le_trans BE.size Hg21
  replace Rg3_0 := range_sees Rg3_0 Lg3 Sw22
  replace Tg3 := there_sees Tg3 Lg3 Sw22
  replace Rg4_0 := range_sees Rg4_0 Lg4 Sw22
  replace Tg4 := there_sees Tg4 Lg4 Sw22
  replace Rg5_0 := range_sees Rg5_0 Lg5 Sw22
  replace Tg5 := there_sees Tg5 Lg5 Sw22
  replace Rg10_0 := range_sees Rg10_0 Lg10 Sw22
  replace Rg13_0 := range_sees Rg13_0 Lg13 Sw22
  replace Rg16_0 := range_sees Rg16_0 Lg16 Sw22
  replace Lg3 := Nat.lt_of_lt_of_le Lg3 Sw22.2.2.size
  replace Lg4 := Nat.lt_of_lt_of_le Lg4 Sw22.2.2.size
  replace Lg5 := Nat.lt_of_lt_of_le Lg5 Sw22.2.2.size
  replace Lg10 := Nat.lt_of_lt_of_le Lg10 Sw22.2.2.size
  replace Lg13 := Nat.lt_of_lt_of_le Lg13 Sw22.2.2.size
  replace Lg16 := Nat.lt_of_lt_of_le Lg16 Sw22.2.2.size
  replace BE := BE.trans (Sw22.2.2.mono BE.size)
  simp only [Z7,Z0]
  refine Z12 (v := .slice (some ⟨g16, 0, none⟩) (dlen (pF - (leastF y))) g16c) (by rfl) (by rfl) (by rfl) ?_
  simp only [Z7,Z0]
  refine wpL_callE (f := 73) (args := #[.slice (some ⟨g21, 0, none⟩) 16 g21c, .slice (some ⟨g16, 0, none⟩) (dlen (pF - (leastF y))) g16c]) (R := NewRow w22 (dlen (x + (pF - (leastF y)))) (dl (dlen (x + (pF - (leastF y)))) (x + (pF - (leastF y))))) (by rfl) (by rfl) rfl Try.func73 (by kernel_rfl) (by kernel_rfl) (plus04_c (n := 16) (x := x) (m := dlen (pF - (leastF y))) (y := (pF - (leastF y))) (by omega) (by omega) hx (dlen_lt _) Cg21 Lg21 Rg21_0 Cg16 Lg16 Rg16_0) (fun v9 w24 hv9 Sw24 => ?_)
  obtain ⟨g23, g23c, rfl, Cg23, Hg23, Lg23, Rg23_0⟩ := hv9
  have Ng3_g23 : g3 ≠ g23 := Nat.ne_of_lt (Nat.lt_of_lt_of_le Lg3 Hg23)
  have Ng4_g23 : g4 ≠ g23 := Nat.ne_of_lt (Nat.lt_of_lt_of_le Lg4 Hg23)
  have Ng5_g23 : g5 ≠ g23 := Nat.ne_of_lt (Nat.lt_of_lt_of_le Lg5 Hg23)
  have Ng10_g23 : g10 ≠ g23 := Nat.ne_of_lt (Nat.lt_of_lt_of_le Lg10 Hg23)
  have Ng13_g23 : g13 ≠ g23 := Nat.ne_of_lt (Nat.lt_of_lt_of_le Lg13 Hg23)
  have Ng16_g23 : g16 ≠ g23 := Nat.ne_of_lt (Nat.lt_of_lt_of_le Lg16 Hg23)
  have Ng21_g23 : g21 ≠ g23 := Nat.ne_of_lt (Nat.lt_of_lt_of_le Lg21 Hg23)
  have Gg23 : w.heap.size ≤ g23 := Nat.le_trans BE.size Hg23
  replace Rg3_0 := range_sees Rg3_0 Lg3 Sw24
  replace Tg3 := there_sees Tg3 Lg3 Sw24
  replace Rg4_0 := range_sees Rg4_0 Lg4 Sw24
  replace Tg4 := there_sees Tg4 Lg4 Sw24
  replace Rg5_0 := range_sees Rg5_0 Lg5 Sw24
  replace Tg5 := there_sees Tg5 Lg5 Sw24
  replace Rg10_0 := range_sees Rg10_0 Lg10 Sw24
  replace Rg13_0 := range_sees Rg13_0 Lg13 Sw24
  replace Rg16_0 := range_sees Rg16_0 Lg16 Sw24
  replace Rg21_0 := range_sees Rg21_0 Lg21 Sw24
  replace Lg3 := Nat.lt_of_lt_of_le Lg3 Sw24.2.2.size
  replace Lg4 := Nat.lt_of_lt_of_le Lg4 Sw24.2.2.size
  replace Lg5 := Nat.lt_of_lt_of_le Lg5 Sw24.2.2.size
  replace Lg10 := Nat.lt_of_lt_of_le Lg10 Sw24.2.2.size
  replace Lg13 := Nat.lt_of_lt_of_le Lg13 Sw24.2.2.size
  replace Lg16 := Nat.lt_of_lt_of_le Lg16 Sw24.2.2.size
  replace Lg21 := Nat.lt_of_lt_of_le Lg21 Sw24.2.2.size
  replace BE := BE.trans (Sw24.2.2.mono BE.size)
  simp only [Z7,Z0]
  refine Z11 1 (by rfl) (fun Lk hLk => ?_)
  simp only [Z1,Z2]
  refine Z20 (v := fe (leastF (x + (pF - (leastF y))))) (args := #[.slice (some ⟨g23, 0, none⟩) (dlen (x + (pF - (leastF y)))) g23c]) (by rfl) rfl Try.func72 (by kernel_rfl) (by kernel_rfl) rfl (fun W hW => fold_c (n := dlen (x + (pF - (leastF y)))) (x := (x + (pF - (leastF y)))) (by omega) (dlen_lt _) Cg23 (Nat.lt_of_lt_of_le Lg23 hW.2.2.size) (range_sees Rg23_0 Lg23 hW)) ?_
  simp only [Z7,Z0]
  refine Z14 (hLk _ (fun w25 Sw25 => ?_))
  clear hLk Lk
  simp only [Z1,Z2]
  replace Rg3_0 := range_sees Rg3_0 Lg3 Sw25
  replace Tg3 := there_sees Tg3 Lg3 Sw25
  replace Rg4_0 := range_sees Rg4_0 Lg4 Sw25
  replace Tg4 := there_sees Tg4 Lg4 Sw25
  replace Rg5_0 := range_sees Rg5_0 Lg5 Sw25
  replace Tg5 := there_sees Tg5 Lg5 Sw25
  replace Rg10_0 := range_sees Rg10_0 Lg10 Sw25
  replace Rg13_0 := range_sees Rg13_0 Lg13 Sw25
  replace Rg16_0 := range_sees Rg16_0 Lg16 Sw25
  replace Rg21_0 := range_sees Rg21_0 Lg21 Sw25
  replace Rg23_0 := range_sees Rg23_0 Lg23 Sw25
  replace Lg3 := Nat.lt_of_lt_of_le Lg3 Sw25.2.2.size
  replace Lg4 := Nat.lt_of_lt_of_le Lg4 Sw25.2.2.size
  replace Lg5 := Nat.lt_of_lt_of_le Lg5 Sw25.2.2.size
  replace Lg10 := Nat.lt_of_lt_of_le Lg10 Sw25.2.2.size
  replace Lg13 := Nat.lt_of_lt_of_le Lg13 Sw25.2.2.size
  replace Lg16 := Nat.lt_of_lt_of_le Lg16 Sw25.2.2.size
  replace Lg21 := Nat.lt_of_lt_of_le Lg21 Sw25.2.2.size
  replace Lg23 := Nat.lt_of_lt_of_le Lg23 Sw25.2.2.size
  replace BE := BE.trans (Sw25.2.2.mono BE.size)
  refine wpL_store (g := g5) (off := 0) (n := 4) (cs := fel (leastF (x + (pF - (leastF y))))) (by rfl) (by rfl) (by rfl) (by rfl) (by rfl) Tg5 (by simp [flen]) info24 (fel_one _) (fun w26 Pw26 RR TT => ?_)
  replace Rg3_0 := Pw26.range Rg3_0 (.inl Ng3_g5)
  replace Tg3 := Pw26.other_there Tg3 Ng3_g5
  replace Rg4_0 := Pw26.range Rg4_0 (.inl Ng4_g5)
  replace Tg4 := Pw26.other_there Tg4 Ng4_g5
  replace Rg10_0 := Pw26.range Rg10_0 (.inl (Ne.symm Ng5_g10))
  replace Rg13_0 := Pw26.range Rg13_0 (.inl (Ne.symm Ng5_g13))
  replace Rg16_0 := Pw26.range Rg16_0 (.inl (Ne.symm Ng5_g16))
  replace Rg21_0 := Pw26.range Rg21_0 (.inl (Ne.symm Ng5_g21))
  replace Rg23_0 := Pw26.range Rg23_0 (.inl (Ne.symm Ng5_g23))
  replace Rg5_0 := RR
  clear RR
  replace Tg5 := TT
  replace Lg3 := Pw26.lt Lg3
  replace Lg4 := Pw26.lt Lg4
  replace Lg5 := Pw26.lt Lg5
  replace Lg10 := Pw26.lt Lg10
  replace Lg13 := Pw26.lt Lg13
  replace Lg16 := Pw26.lt Lg16
  replace Lg21 := Pw26.lt Lg21
  replace Lg23 := Pw26.lt Lg23
  replace BE := Pw26.below BE Gg5
  refine Z9 (Z10 ?_)
  refine hK18 _ _ ?_
  refine wp_ret ?_
  repeat (first | with_reducible refine then_ret ?_ | with_reducible refine inblock_ret ?_)
  refine bodyPost_ret (v := fe (leastF (x + (pF - (leastF y))))) (res1 rfl (.cell (by rfl) (run_loadVar_mid _ _ _ _ (fel (leastF (x + (pF - (leastF y))))) _ Rg5_0 Try.underlying24 rfl info24))) rfl ?_
  exact ⟨rfl, BE⟩
 ·
  refine any_opL 1 (by rfl) ?_
  simp only [Z1,Z2]
  refine Z11 1 (by rfl) (fun Lk hLk => ?_)
  simp only [Z1,Z2]
  refine wpV_load (cs := fel y) (by rfl) rfl rfl Rg4_0 Lg4 Try.underlying24 rfl info24 ?_
  simp only [Z7,Z0]
  refine Z14 (hLk _ (fun w27 Sw27 => ?_))
  clear hLk Lk
  simp only [Z1,Z2]
  replace Rg3_0 := range_sees Rg3_0 Lg3 Sw27
  replace Tg3 := there_sees Tg3 Lg3 Sw27
  replace Rg4_0 := range_sees Rg4_0 Lg4 Sw27
  replace Tg4 := there_sees Tg4 Lg4 Sw27
  replace Rg5_0 := range_sees Rg5_0 Lg5 Sw27
  replace Tg5 := there_sees Tg5 Lg5 Sw27
  replace Lg3 := Nat.lt_of_lt_of_le Lg3 Sw27.2.2.size
  replace Lg4 := Nat.lt_of_lt_of_le Lg4 Sw27.2.2.size
  replace Lg5 := Nat.lt_of_lt_of_le Lg5 Sw27.2.2.size
  replace BE := BE.trans (Sw27.2.2.mono BE.size)
  refine Z9 (Z17 ?_)
  refine any_step [0] (by kernel_rfl) rfl (any_one ?_)
  refine any_opL 0 (by rfl) ?_
  simp only [Z1,Z2]
  refine wpL_callE (f := 68) (args := #[]) (R := NewRow w27 16 (dl 16 pF)) (by rfl) (by rfl) rfl Try.func68 (by kernel_rfl) (by kernel_rfl) (prime04_c) (fun v9 w29 hv9 Sw29 => ?_)
  obtain ⟨g28, g28c, rfl, Cg28, Hg28, Lg28, Rg28_0⟩ := hv9
  have Ng3_g28 : g3 ≠ g28 := Nat.ne_of_lt (Nat.lt_of_lt_of_le Lg3 Hg28)
  have Ng4_g28 : g4 ≠ g28 := Nat.ne_of_lt (Nat.lt_of_lt_of_le Lg4 Hg28)
  have Ng5_g28 : g5 ≠ g28 := Nat.ne_of_lt (Nat.lt_of_lt_of_le Lg5 Hg28)
  have Gg28 : w.heap.size ≤ g28 := Nat.le_trans BE.size Hg28
  replace Rg3_0 := range_sees Rg3_0 Lg3 Sw29
  replace Tg3 := there_sees Tg3 Lg3 Sw29
  replace Rg4_0 := range_sees Rg4_0 Lg4 Sw29
  replace Tg4 := there_sees Tg4 Lg4 Sw29
  replace Rg5_0 := range_sees Rg5_0 Lg5 Sw29
  replace Tg5 := there_sees Tg5 Lg5 Sw29
  replace Lg3 := Nat.lt_of_lt_of_le Lg3 Sw29.2.2.size
  replace Lg4 := Nat.lt_of_lt_of_le Lg4 Sw29.2.2.size
  replace Lg5 := Nat.lt_of_lt_of_le Lg5 Sw29.2.2.size
  replace BE := BE.trans (Sw29.2.2.mono BE.size)
  simp only [Z7,Z0]
  refine Z9 (Z17 ?_)
  refine any_rest 2 (by rfl) (by kernel_rfl) ?_
  simp only [Z1,Z2]
  refine Z11 1 (by rfl) (fun Lk hLk => ?_)
  simp only [Z1,Z2]
  refine Z20 (v := fe (leastF y)) (args := #[fe y]) (by rfl) rfl Try.func41 (by kernel_rfl) (by kernel_rfl) rfl (fun W hW => rleast04_c hy) ?_
  simp only [Z7,Z0]
  refine Z14 (hLk _ (fun w30 Sw30 => ?_))
  clear hLk Lk
  simp only [Z1,Z2]
  replace Rg3_0 := range_sees Rg3_0 Lg3 Sw30
  replace Tg3 := there_sees Tg3 Lg3 Sw30
  replace Rg4_0 := range_sees Rg4_0 Lg4 Sw30
  replace Tg4 := there_sees Tg4 Lg4 Sw30
  replace Rg5_0 := range_sees Rg5_0 Lg5 Sw30
  replace Tg5 := there_sees Tg5 Lg5 Sw30
  replace Rg28_0 := range_sees Rg28_0 Lg28 Sw30
  replace Lg3 := Nat.lt_of_lt_of_le Lg3 Sw30.2.2.size
  replace Lg4 := Nat.lt_of_lt_of_le Lg4 Sw30.2.2.size
  replace Lg5 := Nat.lt_of_lt_of_le Lg5 Sw30.2.2.size
  replace Lg28 := Nat.lt_of_lt_of_le Lg28 Sw30.2.2.size
  replace BE := BE.trans (Sw30.2.2.mono BE.size)
  refine wpL_callE (f := 71) (args := #[fe (leastF y)]) (R := NewRow w30 16 (dl 16 (leastF y))) (by rfl) (by rfl) rfl Try.func71 (by kernel_rfl) (by kernel_rfl) (digits_c (leastF_lt _)) (fun v9 w32 hv9 Sw32 => ?_)
  obtain ⟨g31, g31c, rfl, Cg31, Hg31, Lg31, Rg31_0⟩ := hv9
  have Ng3_g31 : g3 ≠ g31 := Nat.ne_of_lt (Nat.lt_of_lt_of_le Lg3 Hg31)
  have Ng4_g31 : g4 ≠ g31 := Nat.ne_of_lt (Nat.lt_of_lt_of_le Lg4 Hg31)
  have Ng5_g31 : g5 ≠ g31 := Nat.ne_of_lt (Nat.lt_of_lt_of_le Lg5 Hg31)
  have Ng28_g31 : g28 ≠ g31 := Nat.ne_of_lt (Nat.lt_of_lt_of_le Lg28 Hg31)
  have Gg31 : w.heap.size ≤ g31 := Nat.le_trans BE.size Hg31
  replace Rg3_0 := range_sees Rg3_0 Lg3 Sw32
  replace Tg3 := there_sees Tg3 Lg3 Sw32
  replace Rg4_0 := range_sees Rg4_0 Lg4 Sw32
  replace Tg4 := there_sees Tg4 Lg4 Sw32
  replace Rg5_0 := range_sees Rg5_0 Lg5 Sw32
  replace Tg5 := there_sees Tg5 Lg5 Sw32
  replace Rg28_0 := range_sees Rg28_0 Lg28 Sw32
  replace Lg3 := Nat.lt_of_lt_of_le Lg3 Sw32.2.2.size
  replace Lg4 := Nat.lt_of_lt_of_le Lg4 Sw32.2.2.size
  replace Lg5 := Nat.lt_of_lt_of_le Lg5 Sw32.2.2.size
  replace Lg28 := Nat.lt_of_lt_of_le Lg28 Sw32.2.2.size
  replace BE := BE.trans (Sw32.2.2.mono BE.size)
  simp only [Z7,Z0]
  refine Z11 1 (by rfl) (fun Lk hLk => ?_)
  simp only [Z1,Z2]
  refine Z20 (v := .slice (some ⟨g31, 0, none⟩) (dlen (leastF y)) g31c) (args := #[.slice (some ⟨g31, 0, none⟩) 16 g31c]) (by rfl) rfl Try.func64 (by kernel_rfl) (by kernel_rfl) rfl (fun W hW => trim_c (x := (leastF y)) (by omega) (Nat.lt_trans hl (by decide)) Cg31 (Nat.lt_of_lt_of_le Lg31 hW.2.2.size) (range_sees Rg31_0 Lg31 hW)) ?_
  simp only [Z7,Z0]
  refine Z14 (hLk _ (fun w33 Sw33 => ?_))
  clear hLk Lk
  simp only [Z1,Z2]
  replace Rg3_0 := range_sees Rg3_0 Lg3 Sw33
  replace Tg3 := there_sees Tg3 Lg3 Sw33
  replace Rg4_0 := range_sees Rg4_0 Lg4 Sw33
  replace Tg4 := there_sees Tg4 Lg4 Sw33
  replace Rg5_0 := range_sees Rg5_0 Lg5 Sw33
  replace Tg5 := there_sees Tg5 Lg5 Sw33
  replace Rg28_0 := range_sees Rg28_0 Lg28 Sw33
  replace Rg31_0 := range_sees Rg31_0 Lg31 Sw33
  replace Lg3 := Nat.lt_of_lt_of_le Lg3 Sw33.2.2.size
  replace Lg4 := Nat.lt_of_lt_of_le Lg4 Sw33.2.2.size
  replace Lg5 := Nat.lt_of_lt_of_le Lg5 Sw33.2.2.size
  replace Lg28 := Nat.lt_of_lt_of_le Lg28 Sw33.2.2.size
  replace Lg31 := Nat.lt_of_lt_of_le Lg31 Sw33.2.2.size
  replace BE := BE.trans (Sw33.2.2.mono BE.size)
  refine wpL_callE (f := 70) (args := #[.slice (some ⟨g28, 0, none⟩) 16 g28c, .slice (some ⟨g31, 0, none⟩) (dlen (leastF y)) g31c]) (R := NewRow w33 (dlen (pF - (leastF y))) (dl (dlen (pF - (leastF y))) (pF - (leastF y)))) (by rfl) (by rfl) rfl Try.func70 (by kernel_rfl) (by kernel_rfl) (minus04_c (n := 16) (x := pF) (m := dlen (leastF y)) (y := (leastF y)) (by omega) (by omega) (by decide) (dlen_lt _) (Nat.le_of_lt hl) Cg28 Lg28 Rg28_0 (Nat.le_trans ((dlen_le _ _).2 (Nat.lt_trans hl (by decide))) Cg31) Lg31 (range_dl_take (m := dlen (leastF y)) Rg31_0 ((dlen_le _ _).2 (Nat.lt_trans hl (by decide))))) (fun v9 w35 hv9 Sw35 => ?_)
  obtain ⟨g34, g34c, rfl, Cg34, Hg34, Lg34, Rg34_0⟩ := hv9
  have Ng3_g34 : g3 ≠ g34 := Nat.ne_of_lt (Nat.lt_of_lt_of_le Lg3 Hg34)
  have Ng4_g34 : g4 ≠ g34 := Nat.ne_of_lt (Nat.lt_of_lt_of_le Lg4 Hg34)
  have Ng5_g34 : g5 ≠ g34 := Nat.ne_of_lt (Nat.lt_of_lt_of_le Lg5 Hg34)
  have Ng28_g34 : g28 ≠ g34 := Nat.ne_of_lt (Nat.lt_of_lt_of_le Lg28 Hg34)
  have Ng31_g34 : g31 ≠ g34 := Nat.ne_of_lt (Nat.lt_of_lt_of_le Lg31 Hg34)
  have Gg34 : w.heap.size ≤ g34 := Nat.le_trans BE.size Hg34
  replace Rg3_0 := range_sees Rg3_0 Lg3 Sw35
  replace Tg3 := there_sees Tg3 Lg3 Sw35
  replace Rg4_0 := range_sees Rg4_0 Lg4 Sw35
  replace Tg4 := there_sees Tg4 Lg4 Sw35
  replace Rg5_0 := range_sees Rg5_0 Lg5 Sw35
  replace Tg5 := there_sees Tg5 Lg5 Sw35
  replace Rg28_0 := range_sees Rg28_0 Lg28 Sw35
  replace Rg31_0 := range_sees Rg31_0 Lg31 Sw35
  replace Lg3 := Nat.lt_of_lt_of_le Lg3 Sw35.2.2.size
  replace Lg4 := Nat.lt_of_lt_of_le Lg4 Sw35.2.2.size
  replace Lg5 := Nat.lt_of_lt_of_le Lg5 Sw35.2.2.size
  replace Lg28 := Nat.lt_of_lt_of_le Lg28 Sw35.2.2.size
  replace Lg31 := Nat.lt_of_lt_of_le Lg31 Sw35.2.2.size
  replace BE := BE.trans (Sw35.2.2.mono BE.size)
  simp only [Z7,Z0]
  refine Z13 (v := .slice (some ⟨g34, 0, none⟩) (dlen (pF - (leastF y))) g34c) (by rfl) (by rfl) (by rfl) ?_
  simp only [Z7,Z0]
  refine Z9 ?_
  refine hK7 _ _ ?_
  refine Z4 (fun K36 hK36 => ?_)
  refine Z8 ?_
  refine Z11 1 (by rfl) (fun Lk hLk => ?_)
  simp only [Z1,Z2]
  refine wpV_load (cs := fel x) (by rfl) rfl rfl Rg3_0 Lg3 Try.underlying24 rfl info24 ?_
  simp only [Z7,Z0]
  refine Z14 (hLk _ (fun w38 Sw38 => ?_))
  clear hLk Lk
  simp only [Z1,Z2]
  replace Rg3_0 := range_sees Rg3_0 Lg3 Sw38
  replace Tg3 := there_sees Tg3 Lg3 Sw38
  replace Rg4_0 := range_sees Rg4_0 Lg4 Sw38
  replace Tg4 := there_sees Tg4 Lg4 Sw38
  replace Rg5_0 := range_sees Rg5_0 Lg5 Sw38
  replace Tg5 := there_sees Tg5 Lg5 Sw38
  replace Rg28_0 := range_sees Rg28_0 Lg28 Sw38
  replace Rg31_0 := range_sees Rg31_0 Lg31 Sw38
  replace Rg34_0 := range_sees Rg34_0 Lg34 Sw38
  replace Lg3 := Nat.lt_of_lt_of_le Lg3 Sw38.2.2.size
  replace Lg4 := Nat.lt_of_lt_of_le Lg4 Sw38.2.2.size
  replace Lg5 := Nat.lt_of_lt_of_le Lg5 Sw38.2.2.size
  replace Lg28 := Nat.lt_of_lt_of_le Lg28 Sw38.2.2.size
  replace Lg31 := Nat.lt_of_lt_of_le Lg31 Sw38.2.2.size
  replace Lg34 := Nat.lt_of_lt_of_le Lg34 Sw38.2.2.size
  replace BE := BE.trans (Sw38.2.2.mono BE.size)
  refine wpL_callE (f := 71) (args := #[fe x]) (R := NewRow w38 16 (dl 16 x)) (by rfl) (by rfl) rfl Try.func71 (by kernel_rfl) (by kernel_rfl) (digits_c hx) (fun v9 w40 hv9 Sw40 => ?_)
  obtain ⟨g39, g39c, rfl, Cg39, Hg39, Lg39, Rg39_0⟩ := hv9
  have Ng3_g39 : g3 ≠ g39 := Nat.ne_of_lt (Nat.lt_of_lt_of_le Lg3 Hg39)
  have Ng4_g39 : g4 ≠ g39 := Nat.ne_of_lt (Nat.lt_of_lt_of_le Lg4 Hg39)
  have Ng5_g39 : g5 ≠ g39 := Nat.ne_of_lt (Nat.lt_of_lt_of_le Lg5 Hg39)
  have Ng28_g39 : g28 ≠ g39 := Nat.ne_of_lt (Nat.lt_of_lt_of_le Lg28 Hg39)
  have Ng31_g39 : g31 ≠ g39 := Nat.ne_of_lt (Nat.lt_of_lt_of_le Lg31 Hg39)
  have Ng34_g39 : g34 ≠ g39 := Nat.ne_of_lt (Nat.lt_of_lt_of_le Lg34 Hg39)
  have Gg39 : w.heap.size ≤ g39 := Nat.le_trans BE.size Hg39
  replace Rg3_0 := range_sees Rg3_0 Lg3 Sw40
  replace Tg3 := there_sees Tg3 Lg3 Sw40
  replace Rg4_0 := range_sees Rg4_0 Lg4 Sw40
  replace Tg4 := there_sees Tg4 Lg4 Sw40
  replace Rg5_0 := range_sees Rg5_0 Lg5 Sw40
  replace Tg5 := there_sees Tg5 Lg5 Sw40
  replace Rg28_0 := range_sees Rg28_0 Lg28 Sw40
  replace Rg31_0 := range_sees Rg31_0 Lg31 Sw40
  replace Rg34_0 := range_sees Rg34_0 Lg34 Sw40
  replace Lg3 := Nat.lt_of_lt_of_le Lg3 Sw40.2.2.size
  replace Lg4 := Nat.lt_of_lt_of_le Lg4 Sw40.2.2.size
  replace Lg5 := Nat.lt_of_lt_of_le Lg5 Sw40.2.2.size
  replace Lg28 := Nat.lt_of_lt_of_le Lg28 Sw40.2.2.size
  replace Lg31 := Nat.lt_of_lt_of_le Lg31 Sw40.2.2.size
  replace Lg34 := Nat.lt_of_lt_of_le Lg34 Sw40.2.2.size
  replace BE := BE.trans (Sw40.2.2.mono BE.size)
  simp only [Z7,Z0]
  refine Z12 (v := .slice (some ⟨g34, 0, none⟩) (dlen (pF - (leastF y))) g34c) (by rfl) (by rfl) (by rfl) ?_
  simp only [Z7,Z0]
  refine wpL_callE (f := 73) (args := #[.slice (some ⟨g39, 0, none⟩) 16 g39c, .slice (some ⟨g34, 0, none⟩) (dlen (pF - (leastF y))) g34c]) (R := NewRow w40 (dlen (x + (pF - (leastF y)))) (dl (dlen (x + (pF - (leastF y)))) (x + (pF - (leastF y))))) (by rfl) (by rfl) rfl Try.func73 (by kernel_rfl) (by kernel_rfl) (plus04_c (n := 16) (x := x) (m := dlen (pF - (leastF y))) (y := (pF - (leastF y))) (by omega) (by omega) hx (dlen_lt _) Cg39 Lg39 Rg39_0 Cg34 Lg34 Rg34_0) (fun v9 w42 hv9 Sw42 => ?_)
  obtain ⟨g41, g41c, rfl, Cg41, Hg41, Lg41, Rg41_0⟩ := hv9
  have Ng3_g41 : g3 ≠ g41 := Nat.ne_of_lt (Nat.lt_of_lt_of_le Lg3 Hg41)
  have Ng4_g41 : g4 ≠ g41 := Nat.ne_of_lt (Nat.lt_of_lt_of_le Lg4 Hg41)
  have Ng5_g41 : g5 ≠ g41 := Nat.ne_of_lt (Nat.lt_of_lt_of_le Lg5 Hg41)
  have Ng28_g41 : g28 ≠ g41 := Nat.ne_of_lt (Nat.lt_of_lt_of_le Lg28 Hg41)
  have Ng31_g41 : g31 ≠ g41 := Nat.ne_of_lt (Nat.lt_of_lt_of_le Lg31 Hg41)
  have Ng34_g41 : g34 ≠ g41 := Nat.ne_of_lt (Nat.lt_of_lt_of_le Lg34 Hg41)
  have Ng39_g41 : g39 ≠ g41 := Nat.ne_of_lt (Nat.lt_of_lt_of_le Lg39 Hg41)
  have Gg41 : w.heap.size ≤ g41 := Nat.le_trans BE.size Hg41
  replace Rg3_0 := range_sees Rg3_0 Lg3 Sw42
  replace Tg3 := there_sees Tg3 Lg3 Sw42
  replace Rg4_0 := range_sees Rg4_0 Lg4 Sw42
  replace Tg4 := there_sees Tg4 Lg4 Sw42
  replace Rg5_0 := range_sees Rg5_0 Lg5 Sw42
  replace Tg5 := there_sees Tg5 Lg5 Sw42
  replace Rg28_0 := range_sees Rg28_0 Lg28 Sw42
  replace Rg31_0 := range_sees Rg31_0 Lg31 Sw42
  replace Rg34_0 := range_sees Rg34_0 Lg34 Sw42
  replace Rg39_0 := range_sees Rg39_0 Lg39 Sw42
  replace Lg3 := Nat.lt_of_lt_of_le Lg3 Sw42.2.2.size
  replace Lg4 := Nat.lt_of_lt_of_le Lg4 Sw42.2.2.size
  replace Lg5 := Nat.lt_of_lt_of_le Lg5 Sw42.2.2.size
  replace Lg28 := Nat.lt_of_lt_of_le Lg28 Sw42.2.2.size
  replace Lg31 := Nat.lt_of_lt_of_le Lg31 Sw42.2.2.size
  replace Lg34 := Nat.lt_of_lt_of_le Lg34 Sw42.2.2.size
  replace Lg39 := Nat.lt_of_lt_of_le Lg39 Sw42.2.2.size
  replace BE := BE.trans (Sw42.2.2.mono BE.size)
  simp only [Z7,Z0]
  refine Z11 1 (by rfl) (fun Lk hLk => ?_)
  simp only [Z1,Z2]
  refine Z20 (v := fe (leastF (x + (pF - (leastF y))))) (args := #[.slice (some ⟨g41, 0, none⟩) (dlen (x + (pF - (leastF y)))) g41c]) (by rfl) rfl Try.func72 (by kernel_rfl) (by kernel_rfl) rfl (fun W hW => fold_c (n := dlen (x + (pF - (leastF y)))) (x := (x + (pF - (leastF y)))) (by omega) (dlen_lt _) Cg41 (Nat.lt_of_lt_of_le Lg41 hW.2.2.size) (range_sees Rg41_0 Lg41 hW)) ?_
  simp only [Z7,Z0]
  refine Z14 (hLk _ (fun w43 Sw43 => ?_))
  clear hLk Lk
  simp only [Z1,Z2]
  replace Rg3_0 := range_sees Rg3_0 Lg3 Sw43
  replace Tg3 := there_sees Tg3 Lg3 Sw43
  replace Rg4_0 := range_sees Rg4_0 Lg4 Sw43
  replace Tg4 := there_sees Tg4 Lg4 Sw43
  replace Rg5_0 := range_sees Rg5_0 Lg5 Sw43
  replace Tg5 := there_sees Tg5 Lg5 Sw43
  replace Rg28_0 := range_sees Rg28_0 Lg28 Sw43
  replace Rg31_0 := range_sees Rg31_0 Lg31 Sw43
  replace Rg34_0 := range_sees Rg34_0 Lg34 Sw43
  replace Rg39_0 := range_sees Rg39_0 Lg39 Sw43
  replace Rg41_0 := range_sees Rg41_0 Lg41 Sw43
  replace Lg3 := Nat.lt_of_lt_of_le Lg3 Sw43.2.2.size
  replace Lg4 := Nat.lt_of_lt_of_le Lg4 Sw43.2.2.size
  replace Lg5 := Nat.lt_of_lt_of_le Lg5 Sw43.2.2.size
  replace Lg28 := Nat.lt_of_lt_of_le Lg28 Sw43.2.2.size
  replace Lg31 := Nat.lt_of_lt_of_le Lg31 Sw43.2.2.size
  replace Lg34 := Nat.lt_of_lt_of_le Lg34 Sw43.2.2.size
  replace Lg39 := Nat.lt_of_lt_of_le Lg39 Sw43.2.2.size
  replace Lg41 := Nat.lt_of_lt_of_le Lg41 Sw43.2.2.size
  replace BE := BE.trans (Sw43.2.2.mono BE.size)
  refine wpL_store (g := g5) (off := 0) (n := 4) (cs := fel (leastF (x + (pF - (leastF y))))) (by rfl) (by rfl) (by rfl) (by rfl) (by rfl) Tg5 (by simp [flen]) info24 (fel_one _) (fun w44 Pw44 RR TT => ?_)
  replace Rg3_0 := Pw44.range Rg3_0 (.inl Ng3_g5)
  replace Tg3 := Pw44.other_there Tg3 Ng3_g5
  replace Rg4_0 := Pw44.range Rg4_0 (.inl Ng4_g5)
  replace Tg4 := Pw44.other_there Tg4 Ng4_g5
  replace Rg28_0 := Pw44.range Rg28_0 (.inl (Ne.symm Ng5_g28))
  replace Rg31_0 := Pw44.range Rg31_0 (.inl (Ne.symm Ng5_g31))
  replace Rg34_0 := Pw44.range Rg34_0 (.inl (Ne.symm Ng5_g34))
  replace Rg39_0 := Pw44.range Rg39_0 (.inl (Ne.symm Ng5_g39))
  replace Rg41_0 := Pw44.range Rg41_0 (.inl (Ne.symm Ng5_g41))
  replace Rg5_0 := RR
  clear RR
  replace Tg5 := TT
  replace Lg3 := Pw44.lt Lg3
  replace Lg4 := Pw44.lt Lg4
  replace Lg5 := Pw44.lt Lg5
  replace Lg28 := Pw44.lt Lg28
  replace Lg31 := Pw44.lt Lg31
  replace Lg34 := Pw44.lt Lg34
  replace Lg39 := Pw44.lt Lg39
  replace Lg41 := Pw44.lt Lg41
  replace BE := Pw44.below BE Gg5
  refine Z9 (Z10 ?_)
  refine hK36 _ _ ?_
  refine wp_ret ?_
  repeat (first | with_reducible refine then_ret ?_ | with_reducible refine inblock_ret ?_)
  refine bodyPost_ret (v := fe (leastF (x + (pF - (leastF y))))) (res1 rfl (.cell (by rfl) (run_loadVar_mid _ _ _ _ (fel (leastF (x + (pF - (leastF y))))) _ Rg5_0 Try.underlying24 rfl info24))) rfl ?_
  exact ⟨rfl, BE⟩
end Go.Proofs.Ya

namespace Go.Proofs.Yc
open Go Go.RowKit Go.Proofs.Num
open List renaming set → Z0, take → Z1, drop → Z2
open Go renaming undef → Z3, wp_seq_k → Z4, wp_cond_true → Z5, wp_cond_false → Z6
open Go.Proofs.Num renaming putT → Z7, wp_region_seq → Z8, wpL_nil → Z9, no_panic → Z10, wpL_chunk → Z11, wpL_move → Z12, wpL_assign → Z13, wpV_nil → Z14, wpV_bin → Z15, wpV_move → Z16, wpV_val → Z19, wpV_callf → Z20
attribute [local irreducible] wpV wpN wpList
open Go.Proofs.Ya
theorem pow_top {m n : Nat} (h : m < 65536 ^ n) : m / 2 ^ (16 * n) = 0 := by
 rw [Nat.pow_mul]
 exact Nat.div_eq_of_lt h
theorem bit_in {j : Nat} (h : 0 < 32768 / 2 ^ j) : j < 16 := by
 rcases Nat.lt_or_ge j 16 with h9 | h9
 ·
  exact h9
 ·
  have h1 : 2 ^ 16 ≤ 2 ^ j := Nat.pow_le_pow_right (by decide) h9
  rw [Nat.div_eq_of_lt (by omega)] at h
  omega
theorem bit_eq {j : Nat} (h : j < 16) : 32768 / 2 ^ j = 2 ^ (15 - j) := by
 rw [show 32768 = 2 ^ 15 from rfl, Nat.pow_div (by omega) (by decide)]
theorem bit_pos {j : Nat} (h : j < 16) : 0 < 32768 / 2 ^ j := by
 rw [bit_eq h]
 exact Nat.two_pow_pos _
theorem bit_out {j : Nat} (h : j ≤ 16) (h' : ¬ 0 < 32768 / 2 ^ j) : j = 16 := by
 rcases Nat.lt_or_ge j 16 with h9 | h9
 ·
  exact absurd (bit_pos h9) h'
 ·
  omega
theorem bit_half (j : Nat) : 32768 / 2 ^ j / 2 = 32768 / 2 ^ (j + 1) := by rw [Nat.div_div_eq_div_mul, Nat.pow_succ]
theorem dig_bit {m i j : Nat} (h : j < 16) : digN m i / (32768 / 2 ^ j) % 2 = m / 2 ^ (16 * i + (16 - (j + 1))) % 2 := by
 rw [bit_eq h, show 16 - (j + 1) = 15 - j by omega, Nat.pow_add, ← Nat.div_div_eq_div_mul, show 2 ^ (16 * i) = 65536 ^ i from by rw [Nat.pow_mul]]
 unfold digN
 generalize m / 65536 ^ i = A
 have h1 : 65536 = 2 ^ (15 - j) * 2 ^ (j + 1) := by rw [← Nat.pow_add, show 15 - j + (j + 1) = 16 by omega]
 rw [h1, Nat.mod_mul_right_div_self, show 2 ^ (j + 1) = 2 * 2 ^ j by rw [Nat.pow_succ, Nat.mul_comm], Nat.mod_mul_right_mod]
theorem pow_half (m e : Nat) : m / 2 ^ e = 2 * (m / 2 ^ (e + 1)) + m / 2 ^ e % 2 := by
 rw [Nat.pow_succ, ← Nat.div_div_eq_div_mul]
 omega
theorem fpow_twice (x e : Nat) : fpow x (2 * e) = fmul (fpow x e) (fpow x e) := by
 unfold fpow fmul
 rw [Nat.two_mul, Nat.pow_add, Nat.mul_mod]
theorem fpow_more (x e : Nat) : fpow x (e + 1) = fmul (fpow x e) x := (fpow_succ x e).symm
theorem pow_yes {x m i j : Nat} (h : j < 16) (hb : digN m i / (32768 / 2 ^ j) % 2 = 1) : fpow x (m / 2 ^ (16 * i + (16 - (j + 1)))) = fmul (fmul (fpow x (m / 2 ^ (16 * i + (16 - j)))) (fpow x (m / 2 ^ (16 * i + (16 - j))))) x := by
 rw [dig_bit h] at hb
 rw [pow_half, hb, fpow_more, fpow_twice, show 16 * i + (16 - (j + 1)) + 1 = 16 * i + (16 - j) by omega]
theorem pow_no {x m i j : Nat} (h : j < 16) (hb : ¬ digN m i / (32768 / 2 ^ j) % 2 = 1) : fpow x (m / 2 ^ (16 * i + (16 - (j + 1)))) = fmul (fpow x (m / 2 ^ (16 * i + (16 - j)))) (fpow x (m / 2 ^ (16 * i + (16 - j)))) := by
 rw [dig_bit h] at hb
 rw [pow_half, show m / 2 ^ (16 * i + (16 - (j + 1))) % 2 = 0 by omega, Nat.add_zero, fpow_twice, show 16 * i + (16 - (j + 1)) + 1 = 16 * i + (16 - j) by omega]
set_option maxHeartbeats 2000000 in
theorem rpower_c {x m n : Nat} {ad : Option Addr} {cd : Nat} {w : World} (hx : x < 2 ^ 256) (hn : n ≤ 64) (hm : m < 65536 ^ n) (Hd : RowA w ad n cd (dl n m)) :
  Calls Try.prog 79 #[fe x, .slice ad n cd] w fun e w' => e = .returned (fe (fpow x m)) ∧ Below w.heap.size w w' := by
 go_enter Try.func79, Try.ntmps79
 have M := Mem.start w
 refine Z4 (fun K1 hK1 => ?_)
 refine Z8 ?_
 refine wpL_var (t := 24) (cs := fel x) (by rfl) (fun W => ?_) (fun g3 w4 Sw4 Hg3 Bg3 => ?_)
 ·
  (first | rfl | go_simp)
 replace M := ((M.sees Sw4).add (N := 4) (cs := fel x) (M.ge Hg3) (M.fresh Hg3) Bg3 rfl)
 clear Bg3
 simp only [Z7,Z0]
 refine wpL_var (t := 24) (cs := [.int .u64 0, .int .u64 0, .int .u64 0, .int .u64 0]) (by rfl) (fun W => ?_) (fun g5 w6 Sw6 Hg5 Bg5 => ?_)
 ·
  go_simp
 replace M := ((M.sees Sw6).add (N := 4) (cs := [.int .u64 0, .int .u64 0, .int .u64 0, .int .u64 0]) (M.ge Hg5) (M.fresh Hg5) Bg5 rfl)
 clear Bg5
 simp only [Z7,Z0]
 refine Z9 (Z10 ?_)
 refine hK1 _ _ ?_
 refine Z4 (fun K7 hK7 => ?_)
 refine Z8 ?_
 refine Z11 1 (by rfl) (fun Lk hLk => ?_)
 simp only [Z1,Z2]
 refine Z19 (v := fe 1) (by rfl) (by rfl) (fun W hW => ?_) ?_
 ·
  rw [show fe 1 = .agg ([.int .u64 1, .int .u64 0, .int .u64 0, .int .u64 0]).toArray from (by kernel_rfl)]; unfold RunsVal; kernel_rfl
 simp only [Z7,Z0]
 refine Z14 (hLk _ (fun w9 Sw9 => ?_))
 clear hLk Lk
 simp only [Z1,Z2]
 replace M := M.sees Sw9
 refine wpL_var (t := 24) (cs := [.int .u64 0, .int .u64 0, .int .u64 0, .int .u64 0]) (by rfl) (fun W => ?_) (fun g10 w11 Sw11 Hg10 Bg10 => ?_)
 ·
  go_simp
 replace M := ((M.sees Sw11).add (N := 4) (cs := [.int .u64 0, .int .u64 0, .int .u64 0, .int .u64 0]) (M.ge Hg10) (M.fresh Hg10) Bg10 rfl)
 clear Bg10
 simp only [Z7,Z0]
 refine wpL_store (g := g10) (off := 0) (n := 4) (cs := fel 1) (by rfl) (by rfl) (by rfl) (by rfl) (by rfl) (M.t 0 rfl) (by simp [flen]) info24 (fel_one _) (fun w12 P R T => ?_)
 replace M := M.putS 0 0 rfl P R T rfl ⟨.inl rfl, trivial⟩
 simp only [Z0] at M
 refine Z9 (Z10 ?_)
 refine hK7 _ _ ?_
 refine Z4 (fun K13 hK13 => ?_)
 refine Z4 (fun K14 hK14 => ?_)
 refine Z8 ?_
 refine Z12 (v := .slice ad n cd) (by rfl) (by rfl) (by rfl) ?_
 simp only [Z7,Z0]
 refine Z11 2 (by rfl) (fun Lk hLk => ?_)
 simp only [Z1,Z2]
 refine wpV_lenA (n := n) (by rfl) rfl rfl rfl Try.underlying100 ?_
 simp only [Z7,Z0]
 refine Z15 (v := .int .i64 (((n : Nat) : Int) - 1)) (by rfl) rfl rfl rfl (fun W => run_sub (by simp only [IntKind.wrap_i64]; omega) W) ?_
 simp only [Z7,Z0]
 refine Z14 (hLk _ (fun w16 Sw16 => ?_))
 clear hLk Lk
 simp only [Z1,Z2]
 replace M := M.sees Sw16
 refine Z13 (v := .int .i64 (((n : Nat) : Int) - 1)) (by rfl) (by rfl) (by rfl) ?_
 simp only [Z7,Z0]
 refine Z9 (Z10 ?_)
 refine hK14 _ _ ?_
 refine wp_block ?_
 replace M := M.read1 (cs := fel (fpow x (m / 2 ^ (16 * n)))) 0 rfl (by rw [pow_top hm, fpow_zero]; exact (M.r 0 0 rfl rfl))
 simp only [Z0] at M
 refine wp_loop_ghost (fun n9 a9 W9 => ∃ (k : Nat) (u17 : Nat → Value), n9 = 2 * k ∧ a9 = { tmps := #[fe x, .slice ad n cd, .pointer (some ⟨g3, 0, none⟩), Z3, .pointer (some ⟨g5, 0, none⟩), .pointer (some ⟨g10, 0, none⟩), .int .i64 (((k : Nat) : Int) - 1), u17 7, fe 1, .slice ad n cd, .int .i64 ((n : Nat) : Int), .int .i64 (((n : Nat) : Int) - 1), u17 12, u17 13, u17 14, u17 15, u17 16, u17 17, u17 18, u17 19, u17 20, u17 21, u17 22, u17 23, u17 24, u17 25, u17 26, u17 27, u17 28, u17 29, u17 30, u17 31, u17 32, u17 33, Z3], defers := [] } ∧ Mem [] w W9 [⟨g10, 4, [(0, fel (fpow x (m / 2 ^ (16 * k))))]⟩, ⟨g5, 4, [(0, [.int .u64 0, .int .u64 0, .int .u64 0, .int .u64 0])]⟩, ⟨g3, 4, [(0, fel x)]⟩] ∧ (k ≤ n)) (2 * (n)) ?_ (fun n9 a9 W9 hI => ?_)
 ·
  exact ⟨n, (fun q9 => (#[Z3, Z3, Z3, Z3, Z3, Z3, Z3, Z3, Z3, Z3, Z3, Z3, Z3, Z3, Z3, Z3, Z3, Z3, Z3, Z3, Z3, Z3, Z3, Z3, Z3, Z3, Z3, Z3, Z3, Z3, Z3, Z3, Z3, Z3] : Array Value).getD q9 Z3), rfl, rfl, M, (Nat.le_refl _)⟩
 clear M
 obtain ⟨k, u17, rfl, rfl, M, hk4⟩ := hI
 obtain ⟨w18, rfl⟩ : ∃ W8, W8 = W9 := ⟨_, rfl⟩
 refine Z4 (fun K19 hK19 => ?_)
 refine Z4 (fun K20 hK20 => ?_)
 refine Z8 ?_
 refine Z12 (v := .int .i64 (((k : Nat) : Int) - 1)) (by rfl) (by rfl) (by rfl) ?_
 simp only [Z7,Z0]
 refine Z11 1 (by rfl) (fun Lk hLk => ?_)
 simp only [Z1,Z2]
 refine Z15 (v := .bool (decide (0 ≤ ((k : Nat) : Int) - 1))) (by rfl) rfl rfl rfl (fun W => run_geq _ _ _ _ W) ?_
 simp only [Z7,Z0]
 refine Z14 (hLk _ (fun w22 Sw22 => ?_))
 clear hLk Lk
 simp only [Z1,Z2]
 replace M := M.sees Sw22
 refine Z9 (Z10 ?_)
 refine hK20 _ _ ?_
 cases hc23 : (decide (0 ≤ ((k : Nat) : Int) - 1))
 ·
  obtain rfl : k = 0 := by have := of_decide_eq_false hc23; omega
  refine Z6 rfl ?_
  refine wp_exit ?_
  refine hK13 _ _ ?_
  refine Z4 (fun K24 hK24 => ?_)
  refine Z8 ?_
  refine Z11 1 (by rfl) (fun Lk hLk => ?_)
  simp only [Z1,Z2]
  refine wpV_load (cs := fel (fpow x (m / 2 ^ (16 * 0)))) (by rfl) rfl rfl (M.r 0 0 rfl rfl) (M.lt 0 rfl) Try.underlying24 rfl info24 ?_
  simp only [Z7,Z0]
  refine Z14 (hLk _ (fun w26 Sw26 => ?_))
  clear hLk Lk
  simp only [Z1,Z2]
  replace M := M.sees Sw26
  refine wpL_store (g := g5) (off := 0) (n := 4) (cs := fel (fpow x (m / 2 ^ (16 * 0)))) (by rfl) (by rfl) (by rfl) (by rfl) (by rfl) (M.t 1 rfl) (by simp [flen]) info24 (fel_one _) (fun w27 P R T => ?_)
  replace M := M.putS 1 0 rfl P R T rfl ⟨.inl rfl, trivial⟩
  simp only [Z0] at M
  refine Z9 (Z10 ?_)
  refine hK24 _ _ ?_
  refine wp_ret ?_
  repeat (first | with_reducible refine then_ret ?_ | with_reducible refine inblock_ret ?_)
  refine bodyPost_ret (v := fe (fpow x (m / 2 ^ (16 * 0)))) (res1 rfl (.cell (by rfl) (run_loadVar_mid _ _ _ _ (fel (fpow x (m / 2 ^ (16 * 0)))) _ (M.r 1 0 rfl rfl) Try.underlying24 rfl info24))) rfl ?_
  have BE := M.below
  exact ⟨by rw [show 16 * 0 = 0 from rfl, Nat.pow_zero, Nat.div_one], BE⟩
 ·
  obtain ⟨i, rfl⟩ : ∃ i, k = i + 1 := ⟨k - 1, by have := of_decide_eq_true hc23; omega⟩
  rw [show (((i + 1 : Nat) : Int) - 1) = ((i : Nat) : Int) by omega]
  refine Z5 rfl ?_
  refine wp_skip ?_
  refine hK19 _ _ ?_
  refine Z4 (fun K28 hK28 => ?_)
  refine wp_block ?_
  refine Z4 (fun K29 hK29 => ?_)
  refine Z8 ?_
  refine Z13 (v := .int .i64 32768) (by rfl) (by rfl) (by rfl) ?_
  simp only [Z7,Z0]
  refine Z9 (Z10 ?_)
  refine hK29 _ _ ?_
  refine wp_block ?_
  replace M := M.read1 (cs := fel (fpow x (m / 2 ^ (16 * i + (16 - 0))))) 0 rfl (by rw [show 16 * i + (16 - 0) = 16 * (i + 1) by omega]; exact (M.r 0 0 rfl rfl))
  simp only [Z0] at M
  refine wp_loop_ghost (fun n9 a9 W9 => ∃ (j : Nat) (u31 : Nat → Value), n9 = 2 * (16 - j) ∧ a9 = { tmps := #[fe x, .slice ad n cd, .pointer (some ⟨g3, 0, none⟩), Z3, .pointer (some ⟨g5, 0, none⟩), .pointer (some ⟨g10, 0, none⟩), .int .i64 ((i : Nat) : Int), .int .i64 ((32768 / 2 ^ j : Nat) : Int), fe 1, .slice ad n cd, .int .i64 ((n : Nat) : Int), .int .i64 (((n : Nat) : Int) - 1), .int .i64 ((i : Nat) : Int), .bool true, u17 14, u17 15, u31 16, u31 17, u31 18, u31 19, u31 20, u31 21, u31 22, u31 23, u31 24, u31 25, u31 26, u31 27, u31 28, u31 29, u31 30, u31 31, u31 32, u31 33, Z3], defers := [] } ∧ Mem [] w W9 [⟨g10, 4, [(0, fel (fpow x (m / 2 ^ (16 * i + (16 - j)))))]⟩, ⟨g5, 4, [(0, [.int .u64 0, .int .u64 0, .int .u64 0, .int .u64 0])]⟩, ⟨g3, 4, [(0, fel x)]⟩] ∧ (j ≤ 16)) (2 * (16 - (0))) ?_ (fun n9 a9 W9 hI => ?_)
  ·
   exact ⟨0, (fun q9 => (#[Z3, Z3, Z3, Z3, Z3, Z3, Z3, Z3, Z3, Z3, Z3, Z3, Z3, Z3, Z3, Z3, u17 16, u17 17, u17 18, u17 19, u17 20, u17 21, u17 22, u17 23, u17 24, u17 25, u17 26, u17 27, u17 28, u17 29, u17 30, u17 31, u17 32, u17 33] : Array Value).getD q9 Z3), rfl, rfl, M, (by decide)⟩
  clear M
  obtain ⟨j, u31, rfl, rfl, M, hj4⟩ := hI
  obtain ⟨w32, rfl⟩ : ∃ W8, W8 = W9 := ⟨_, rfl⟩
  refine Z4 (fun K33 hK33 => ?_)
  refine Z4 (fun K34 hK34 => ?_)
  refine Z8 ?_
  refine Z12 (v := .int .i64 ((32768 / 2 ^ j : Nat) : Int)) (by rfl) (by rfl) (by rfl) ?_
  simp only [Z7,Z0]
  refine Z11 1 (by rfl) (fun Lk hLk => ?_)
  simp only [Z1,Z2]
  refine Z15 (v := .bool (decide (0 < 32768 / 2 ^ j))) (by rfl) rfl rfl rfl (fun W => run_gtrN (32768 / 2 ^ j) 0 _ _ W) ?_
  simp only [Z7,Z0]
  refine Z14 (hLk _ (fun w36 Sw36 => ?_))
  clear hLk Lk
  simp only [Z1,Z2]
  replace M := M.sees Sw36
  refine Z9 (Z10 ?_)
  refine hK34 _ _ ?_
  cases hc37 : (decide (0 < 32768 / 2 ^ j))
  ·
   obtain rfl : j = 16 := bit_out hj4 (of_decide_eq_false hc37)
   refine Z6 rfl ?_
   refine wp_exit ?_
   refine hK28 _ _ ?_
   refine Z8 ?_
   refine Z12 (v := .int .i64 ((i : Nat) : Int)) (by rfl) (by rfl) (by rfl) ?_
   simp only [Z7,Z0]
   refine Z11 1 (by rfl) (fun Lk hLk => ?_)
   simp only [Z1,Z2]
   refine Z15 (v := .int .i64 (((i : Nat) : Int) - 1)) (by rfl) rfl rfl rfl (fun W => run_sub (by simp only [IntKind.wrap_i64]; omega) W) ?_
   simp only [Z7,Z0]
   refine Z14 (hLk _ (fun w39 Sw39 => ?_))
   clear hLk Lk
   simp only [Z1,Z2]
   replace M := M.sees Sw39
   refine Z13 (v := .int .i64 (((i : Nat) : Int) - 1)) (by rfl) (by rfl) (by rfl) ?_
   simp only [Z7,Z0]
   refine Z9 (Z10 ?_)
   replace M := M.read1 (cs := fel (fpow x (m / 2 ^ (16 * i)))) 0 rfl (by rw [show 16 * i = 16 * i + (16 - 16) by omega]; exact (M.r 0 0 rfl rfl))
   simp only [Z0] at M
   refine Exists.intro _ ⟨?_, i, (fun q9 => (#[Z3, Z3, Z3, Z3, Z3, Z3, Z3, .int .i64 ((32768 / 2 ^ 16 : Nat) : Int), Z3, Z3, Z3, Z3, .int .i64 ((i : Nat) : Int), .bool true, .int .i64 ((i : Nat) : Int), .int .i64 (((i : Nat) : Int) - 1), .int .i64 ((32768 / 2 ^ 16 : Nat) : Int), .bool false, u31 18, u31 19, u31 20, u31 21, u31 22, u31 23, u31 24, u31 25, u31 26, u31 27, u31 28, u31 29, u31 30, u31 31, u31 32, u31 33] : Array Value).getD q9 Z3), rfl, rfl, M, (by omega)⟩
   omega
  ·
   have hj : j < 16 := bit_in (of_decide_eq_true hc37)
   refine Z5 rfl ?_
   refine wp_skip ?_
   refine hK33 _ _ ?_
   refine wp_block ?_
   refine Z4 (fun K40 hK40 => ?_)
   refine Z8 ?_
   refine Z11 3 (by rfl) (fun Lk hLk => ?_)
   simp only [Z1,Z2]
   refine wpV_load (cs := fel (fpow x (m / 2 ^ (16 * i + (16 - j))))) (by rfl) rfl rfl (M.r 0 0 rfl rfl) (M.lt 0 rfl) Try.underlying24 rfl info24 ?_
   simp only [Z7,Z0]
   refine wpV_load (cs := fel (fpow x (m / 2 ^ (16 * i + (16 - j))))) (by rfl) rfl rfl (M.r 0 0 rfl rfl) (M.lt 0 rfl) Try.underlying24 rfl info24 ?_
   simp only [Z7,Z0]
   refine Z20 (v := fe (fmul (fpow x (m / 2 ^ (16 * i + (16 - j)))) (fpow x (m / 2 ^ (16 * i + (16 - j)))))) (args := #[fe (fpow x (m / 2 ^ (16 * i + (16 - j)))), fe (fpow x (m / 2 ^ (16 * i + (16 - j))))]) (by rfl) rfl Try.func42 (by kernel_rfl) (by kernel_rfl) rfl (fun W hW => rmul04_c (fpow_lt ..) (fpow_lt ..)) ?_
   simp only [Z7,Z0]
   refine Z14 (hLk _ (fun w42 Sw42 => ?_))
   clear hLk Lk
   simp only [Z1,Z2]
   replace M := M.sees Sw42
   refine wpL_store (g := g10) (off := 0) (n := 4) (cs := fel (fmul (fpow x (m / 2 ^ (16 * i + (16 - j)))) (fpow x (m / 2 ^ (16 * i + (16 - j)))))) (by rfl) (by rfl) (by rfl) (by rfl) (by rfl) (M.t 0 rfl) (by simp [flen]) info24 (fel_one _) (fun w43 P R T => ?_)
   replace M := M.putS 0 0 rfl P R T rfl ⟨.inl rfl, trivial⟩
   simp only [Z0] at M
   refine Z9 (Z10 ?_)
   refine hK40 _ _ ?_
   refine Z4 (fun K44 hK44 => ?_)
   refine Z4 (fun K45 hK45 => ?_)
   refine Z8 ?_
   refine Z12 (v := .slice ad n cd) (by rfl) (by rfl) (by rfl) ?_
   simp only [Z7,Z0]
   refine Z12 (v := .int .i64 ((i : Nat) : Int)) (by rfl) (by rfl) (by rfl) ?_
   simp only [Z7,Z0]
   refine Z11 6 (by rfl) (fun Lk hLk => ?_)
   simp only [Z1,Z2]
   refine wpV_idxA (i := i) (by rfl) rfl rfl rfl Try.underlying100 info3 (M.oldA Hd) (by omega) ?_
   simp only [Z7,Z0]
   refine wpV_loadA (i := i) (v := .int .i64 ((digN m i : Nat) : Int)) (by rfl) rfl rfl (M.oldA Hd) (dl_get n m (by omega)) Try.underlying3 rfl ?_
   simp only [Z7,Z0]
   refine Z16 (v := .int .i64 ((32768 / 2 ^ j : Nat) : Int)) (by rfl) rfl rfl ?_
   simp only [Z7,Z0]
   refine Z15 (v := .int .i64 ((digN m i / (32768 / 2 ^ j) : Nat) : Int)) (by rfl) rfl rfl rfl (fun W => run_quo (by have := bit_pos hj; omega) (by rw [tdiv_nat]; have h8 := digN_lt m i; have h9 := Nat.div_le_self (digN m i) (32768 / 2 ^ j); generalize digN m i / (32768 / 2 ^ j) = q9 at h9 ⊢; simp only [IntKind.wrap_i64]; omega) W) ?_
   simp only [Z7,Z0]
   refine Z15 (v := .int .i64 ((digN m i / (32768 / 2 ^ j) % 2 : Nat) : Int)) (by rfl) rfl rfl rfl (fun W => run_rem (by decide) (by exact (tmod_nat _ _)) W) ?_
   simp only [Z7,Z0]
   refine Z15 (v := .bool (decide (digN m i / (32768 / 2 ^ j) % 2 = 1))) (by rfl) rfl rfl rfl (fun W => run_eqlN (digN m i / (32768 / 2 ^ j) % 2) 1 _ _ W) ?_
   simp only [Z7,Z0]
   refine Z14 (hLk _ (fun w47 Sw47 => ?_))
   clear hLk Lk
   simp only [Z1,Z2]
   replace M := M.sees Sw47
   refine Z9 (Z10 ?_)
   refine hK45 _ _ ?_
   cases hc48 : (decide (digN m i / (32768 / 2 ^ j) % 2 = 1))
   ·
    have hbit : ¬ digN m i / (32768 / 2 ^ j) % 2 = 1 := of_decide_eq_false hc48
    refine Z6 rfl ?_
    refine wp_skip ?_
    refine hK44 _ _ ?_
    refine Z8 ?_
    refine Z12 (v := .int .i64 ((32768 / 2 ^ j : Nat) : Int)) (by rfl) (by rfl) (by rfl) ?_
    simp only [Z7,Z0]
    refine Z11 1 (by rfl) (fun Lk hLk => ?_)
    simp only [Z1,Z2]
    refine Z15 (v := .int .i64 ((32768 / 2 ^ (j + 1) : Nat) : Int)) (by rfl) rfl rfl rfl (fun W => run_quo (by decide) (by rw [show (2 : Int) = ((2 : Nat) : Int) from rfl, tdiv_nat, bit_half]; have h9 := Nat.div_le_self 32768 (2 ^ (j + 1)); generalize 32768 / 2 ^ (j + 1) = q9 at h9 ⊢; simp only [IntKind.wrap_i64]; omega) W) ?_
    simp only [Z7,Z0]
    refine Z14 (hLk _ (fun w50 Sw50 => ?_))
    clear hLk Lk
    simp only [Z1,Z2]
    replace M := M.sees Sw50
    refine Z13 (v := .int .i64 ((32768 / 2 ^ (j + 1) : Nat) : Int)) (by rfl) (by rfl) (by rfl) ?_
    simp only [Z7,Z0]
    refine Z9 (Z10 ?_)
    replace M := M.read1 (cs := fel (fpow x (m / 2 ^ (16 * i + (16 - (j + 1)))))) 0 rfl (by rw [pow_no hj hbit]; exact (M.r 0 0 rfl rfl))
    simp only [Z0] at M
    refine Exists.intro _ ⟨?_, (j + 1), (fun q9 => (#[Z3, Z3, Z3, Z3, Z3, Z3, Z3, Z3, Z3, Z3, Z3, Z3, Z3, Z3, Z3, Z3, .int .i64 ((32768 / 2 ^ j : Nat) : Int), .bool true, fe (fpow x (m / 2 ^ (16 * i + (16 - j)))), fe (fpow x (m / 2 ^ (16 * i + (16 - j)))), fe (fmul (fpow x (m / 2 ^ (16 * i + (16 - j)))) (fpow x (m / 2 ^ (16 * i + (16 - j))))), .slice ad n cd, .int .i64 ((i : Nat) : Int), .pointer (ad.map (·.add i)), .int .i64 ((digN m i : Nat) : Int), .int .i64 ((32768 / 2 ^ j : Nat) : Int), .int .i64 ((digN m i / (32768 / 2 ^ j) : Nat) : Int), .int .i64 ((digN m i / (32768 / 2 ^ j) % 2 : Nat) : Int), .bool false, u31 29, u31 30, u31 31, .int .i64 ((32768 / 2 ^ j : Nat) : Int), .int .i64 ((32768 / 2 ^ (j + 1) : Nat) : Int)] : Array Value).getD q9 Z3), rfl, rfl, M, (by omega)⟩
    omega
   ·
    have hbit : digN m i / (32768 / 2 ^ j) % 2 = 1 := of_decide_eq_true hc48
    refine Z5 rfl ?_
    refine Z8 ?_
    refine Z11 3 (by rfl) (fun Lk hLk => ?_)
    simp only [Z1,Z2]
    refine wpV_load (cs := fel (fmul (fpow x (m / 2 ^ (16 * i + (16 - j)))) (fpow x (m / 2 ^ (16 * i + (16 - j)))))) (by rfl) rfl rfl (M.r 0 0 rfl rfl) (M.lt 0 rfl) Try.underlying24 rfl info24 ?_
    simp only [Z7,Z0]
    refine wpV_load (cs := fel x) (by rfl) rfl rfl (M.r 2 0 rfl rfl) (M.lt 2 rfl) Try.underlying24 rfl info24 ?_
    simp only [Z7,Z0]
    refine Z20 (v := fe (fmul (fmul (fpow x (m / 2 ^ (16 * i + (16 - j)))) (fpow x (m / 2 ^ (16 * i + (16 - j))))) x)) (args := #[fe (fmul (fpow x (m / 2 ^ (16 * i + (16 - j)))) (fpow x (m / 2 ^ (16 * i + (16 - j))))), fe x]) (by rfl) rfl Try.func42 (by kernel_rfl) (by kernel_rfl) rfl (fun W hW => rmul04_c (fmul_lt ..) hx) ?_
    simp only [Z7,Z0]
    refine Z14 (hLk _ (fun w52 Sw52 => ?_))
    clear hLk Lk
    simp only [Z1,Z2]
    replace M := M.sees Sw52
    refine wpL_store (g := g10) (off := 0) (n := 4) (cs := fel (fmul (fmul (fpow x (m / 2 ^ (16 * i + (16 - j)))) (fpow x (m / 2 ^ (16 * i + (16 - j))))) x)) (by rfl) (by rfl) (by rfl) (by rfl) (by rfl) (M.t 0 rfl) (by simp [flen]) info24 (fel_one _) (fun w53 P R T => ?_)
    replace M := M.putS 0 0 rfl P R T rfl ⟨.inl rfl, trivial⟩
    simp only [Z0] at M
    refine Z9 (Z10 ?_)
    refine hK44 _ _ ?_
    refine Z8 ?_
    refine Z12 (v := .int .i64 ((32768 / 2 ^ j : Nat) : Int)) (by rfl) (by rfl) (by rfl) ?_
    simp only [Z7,Z0]
    refine Z11 1 (by rfl) (fun Lk hLk => ?_)
    simp only [Z1,Z2]
    refine Z15 (v := .int .i64 ((32768 / 2 ^ (j + 1) : Nat) : Int)) (by rfl) rfl rfl rfl (fun W => run_quo (by decide) (by rw [show (2 : Int) = ((2 : Nat) : Int) from rfl, tdiv_nat, bit_half]; have h9 := Nat.div_le_self 32768 (2 ^ (j + 1)); generalize 32768 / 2 ^ (j + 1) = q9 at h9 ⊢; simp only [IntKind.wrap_i64]; omega) W) ?_
    simp only [Z7,Z0]
    refine Z14 (hLk _ (fun w55 Sw55 => ?_))
    clear hLk Lk
    simp only [Z1,Z2]
    replace M := M.sees Sw55
    refine Z13 (v := .int .i64 ((32768 / 2 ^ (j + 1) : Nat) : Int)) (by rfl) (by rfl) (by rfl) ?_
    simp only [Z7,Z0]
    refine Z9 (Z10 ?_)
    replace M := M.read1 (cs := fel (fpow x (m / 2 ^ (16 * i + (16 - (j + 1)))))) 0 rfl (by rw [pow_yes hj hbit]; exact (M.r 0 0 rfl rfl))
    simp only [Z0] at M
    refine Exists.intro _ ⟨?_, (j + 1), (fun q9 => (#[Z3, Z3, Z3, Z3, Z3, Z3, Z3, Z3, Z3, Z3, Z3, Z3, Z3, Z3, Z3, Z3, .int .i64 ((32768 / 2 ^ j : Nat) : Int), .bool true, fe (fpow x (m / 2 ^ (16 * i + (16 - j)))), fe (fpow x (m / 2 ^ (16 * i + (16 - j)))), fe (fmul (fpow x (m / 2 ^ (16 * i + (16 - j)))) (fpow x (m / 2 ^ (16 * i + (16 - j))))), .slice ad n cd, .int .i64 ((i : Nat) : Int), .pointer (ad.map (·.add i)), .int .i64 ((digN m i : Nat) : Int), .int .i64 ((32768 / 2 ^ j : Nat) : Int), .int .i64 ((digN m i / (32768 / 2 ^ j) : Nat) : Int), .int .i64 ((digN m i / (32768 / 2 ^ j) % 2 : Nat) : Int), .bool true, fe (fmul (fpow x (m / 2 ^ (16 * i + (16 - j)))) (fpow x (m / 2 ^ (16 * i + (16 - j))))), fe x, fe (fmul (fmul (fpow x (m / 2 ^ (16 * i + (16 - j)))) (fpow x (m / 2 ^ (16 * i + (16 - j))))) x), .int .i64 ((32768 / 2 ^ j : Nat) : Int), .int .i64 ((32768 / 2 ^ (j + 1) : Nat) : Int)] : Array Value).getD q9 Z3), rfl, rfl, M, (by omega)⟩
    omega
end Go.Proofs.Yc

