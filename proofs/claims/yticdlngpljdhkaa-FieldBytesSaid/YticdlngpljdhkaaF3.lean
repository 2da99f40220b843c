import Derived.Test.YticdlngpljdhkaaF2
import Derived.Test.YticdlngpljdhkaaNumC
set_option linter.unusedSimpArgs false
set_option linter.unusedVariables false
namespace Go.Proofs.Ya
open Go Go.RowKit Go.Shelf Go.Proofs.Num
theorem info22 : (Try.prog.info? 22).map (·.size) = some 1 := by kernel_rfl
set_option maxHeartbeats 1000000 in
theorem wide_c {x : Nat} (hx : x < 2 ^ 256) {y : Nat} (hy : y < 2 ^ 256) (w : World) :
    Calls Try.prog 58 #[fe x, fe y] w fun e w' => e = .returned (.tuple #[fe (mulLo x y), fe (mulHi x y)]) ∧ Below w.heap.size w w' := by
  go_enter Try.func58, Try.ntmps58
  have BE := Below.refl w.heap.size w
  refine wp_seq_k (fun K1 hK1 => ?_)
  refine wp_region_plain 4 (by kernel_rfl) (fun Lk hLk => ?_)
  simp only [List.take, List.drop]
  refine wpV_alloc (by rfl) ?_
  refine wpV_alloc (by rfl) ?_
  refine wpV_alloc (by rfl) ?_
  refine wpV_alloc (by rfl) ?_
  refine wpV_nil (hLk.out _ ?_)
  clear hLk Lk
  simp only [List.take, List.drop]
  refine wpN_new (t := 34) (cs := (fel x).toArray) (by rfl) (fun W => ?_) (fun g3 Hg3 ng3 => ?_)
  · (first | rfl | go_simp)
  refine wpN_new (t := 34) (cs := (fel y).toArray) (by rfl) (fun W => ?_) (fun g4 Hg4 ng4 => ?_)
  · (first | rfl | go_simp)
  refine wpN_new (t := 34) (cs := ([.int .u64 0, .int .u64 0, .int .u64 0, .int .u64 0]).toArray) (by rfl) (fun W => ?_) (fun g5 Hg5 ng5 => ?_)
  · go_simp
  refine wpN_new (t := 34) (cs := ([.int .u64 0, .int .u64 0, .int .u64 0, .int .u64 0]).toArray) (by rfl) (fun W => ?_) (fun g6 Hg6 ng6 => ?_)
  · go_simp
  simp only [putT, List.set]
  refine wpN_nil (fun w7 Sw7 hbs => ?_)
  have Bg3 : Blk w7 g3 34 (fel x).toArray := hbs _ (List.mem_cons_of_mem _ (List.mem_cons_of_mem _ (List.mem_cons_of_mem _ (List.mem_cons_self ..))))
  have Bg4 : Blk w7 g4 34 (fel y).toArray := hbs _ (List.mem_cons_of_mem _ (List.mem_cons_of_mem _ (List.mem_cons_self ..)))
  have Bg5 : Blk w7 g5 34 ([.int .u64 0, .int .u64 0, .int .u64 0, .int .u64 0]).toArray := hbs _ (List.mem_cons_of_mem _ (List.mem_cons_self ..))
  have Bg6 : Blk w7 g6 34 ([.int .u64 0, .int .u64 0, .int .u64 0, .int .u64 0]).toArray := hbs _ (List.mem_cons_self ..)
  clear hbs
  have Gg3 : w.heap.size ≤ g3 := Nat.le_trans BE.size Hg3
  have Ng3_g4 : g3 ≠ g4 := ng4 (g3, _, _) (List.mem_cons_self ..)
  have Gg4 : w.heap.size ≤ g4 := Nat.le_trans BE.size Hg4
  have Ng3_g5 : g3 ≠ g5 := ng5 (g3, _, _) (List.mem_cons_of_mem _ (List.mem_cons_self ..))
  have Ng4_g5 : g4 ≠ g5 := ng5 (g4, _, _) (List.mem_cons_self ..)
  have Gg5 : w.heap.size ≤ g5 := Nat.le_trans BE.size Hg5
  have Ng3_g6 : g3 ≠ g6 := ng6 (g3, _, _) (List.mem_cons_of_mem _ (List.mem_cons_of_mem _ (List.mem_cons_self ..)))
  have Ng4_g6 : g4 ≠ g6 := ng6 (g4, _, _) (List.mem_cons_of_mem _ (List.mem_cons_self ..))
  have Ng5_g6 : g5 ≠ g6 := ng6 (g5, _, _) (List.mem_cons_self ..)
  have Gg6 : w.heap.size ≤ g6 := Nat.le_trans BE.size Hg6
  replace BE := BE.trans (Sw7.2.2.mono BE.size)
  have Tg3 := blk_there Bg3 (n := 4) (by simp [flen])
  have Rg3_0 := blk_range Bg3 (l := fel x) rfl
  have Lg3 := Bg3.lt
  have Tg4 := blk_there Bg4 (n := 4) (by simp [flen])
  have Rg4_0 := blk_range Bg4 (l := fel y) rfl
  have Lg4 := Bg4.lt
  have Tg5 := blk_there Bg5 (n := 4) (by simp [flen])
  have Rg5_0 := blk_range Bg5 (l := [.int .u64 0, .int .u64 0, .int .u64 0, .int .u64 0]) rfl
  have Lg5 := Bg5.lt
  have Tg6 := blk_there Bg6 (n := 4) (by simp [flen])
  have Rg6_0 := blk_range Bg6 (l := [.int .u64 0, .int .u64 0, .int .u64 0, .int .u64 0]) rfl
  have Lg6 := Bg6.lt
  clear ng3 ng4 ng5 ng6 Bg3 Bg4 Bg5 Bg6
  refine wpL_nil (no_panic ?_)
  refine hK1 _ _ ?_
  refine wp_seq_k (fun K8 hK8 => ?_)
  refine wp_region_plain 1 (by kernel_rfl) (fun Lk hLk => ?_)
  simp only [List.take, List.drop]
  refine wpV_alloc (by rfl) ?_
  refine wpV_nil (hLk.out _ ?_)
  clear hLk Lk
  simp only [List.take, List.drop]
  refine wpN_new (t := 57) (cs := ([.int .u64 0, .int .u64 0, .int .u64 0, .int .u64 0, .int .u64 0, .int .u64 0, .int .u64 0, .int .u64 0]).toArray) (by rfl) (fun W => ?_) (fun g10 Hg10 ng10 => ?_)
  · go_simp
  simp only [putT, List.set]
  refine wpN_nil (fun w11 Sw11 hbs => ?_)
  have Bg10 : Blk w11 g10 57 ([.int .u64 0, .int .u64 0, .int .u64 0, .int .u64 0, .int .u64 0, .int .u64 0, .int .u64 0, .int .u64 0]).toArray := hbs _ (List.mem_cons_self ..)
  clear hbs
  have Ng3_g10 : g3 ≠ g10 := Nat.ne_of_lt (Nat.lt_of_lt_of_le Lg3 Hg10)
  have Ng4_g10 : g4 ≠ g10 := Nat.ne_of_lt (Nat.lt_of_lt_of_le Lg4 Hg10)
  have Ng5_g10 : g5 ≠ g10 := Nat.ne_of_lt (Nat.lt_of_lt_of_le Lg5 Hg10)
  have Ng6_g10 : g6 ≠ g10 := Nat.ne_of_lt (Nat.lt_of_lt_of_le Lg6 Hg10)
  have Gg10 : w.heap.size ≤ g10 := Nat.le_trans BE.size Hg10
  replace Rg3_0 := range_sees Rg3_0 Lg3 Sw11
  replace Tg3 := there_sees Tg3 Lg3 Sw11
  replace Rg4_0 := range_sees Rg4_0 Lg4 Sw11
  replace Tg4 := there_sees Tg4 Lg4 Sw11
  replace Rg5_0 := range_sees Rg5_0 Lg5 Sw11
  replace Tg5 := there_sees Tg5 Lg5 Sw11
  replace Rg6_0 := range_sees Rg6_0 Lg6 Sw11
  replace Tg6 := there_sees Tg6 Lg6 Sw11
  replace Lg3 := Nat.lt_of_lt_of_le Lg3 Sw11.2.2.size
  replace Lg4 := Nat.lt_of_lt_of_le Lg4 Sw11.2.2.size
  replace Lg5 := Nat.lt_of_lt_of_le Lg5 Sw11.2.2.size
  replace Lg6 := Nat.lt_of_lt_of_le Lg6 Sw11.2.2.size
  replace BE := BE.trans (Sw11.2.2.mono BE.size)
  have Tg10 := blk_there Bg10 (n := 8) (by simp [flen])
  have Rg10_0 := blk_range Bg10 (l := [.int .u64 0, .int .u64 0, .int .u64 0, .int .u64 0, .int .u64 0, .int .u64 0, .int .u64 0, .int .u64 0]) rfl
  have Lg10 := Bg10.lt
  clear ng10 Bg10
  refine wpL_nil (no_panic ?_)
  refine hK8 _ _ ?_
  refine wp_seq_k (fun K12 hK12 => ?_)
  refine wp_seq_k (fun K13 hK13 => ?_)
  refine wp_region_plain 2 (by kernel_rfl) (fun Lk hLk => ?_)
  simp only [List.take, List.drop]
  refine wpV_load (cs := fel x) (by rfl) rfl rfl Rg3_0 Lg3 Try.underlying34 rfl info34 ?_
  simp only [putT, List.set]
  refine wpV_move (v := .int .i64 0) (by rfl) rfl rfl ?_
  simp only [putT, List.set]
  refine wpV_nil (hLk.out _ ?_)
  clear hLk Lk
  simp only [List.take, List.drop]
  iterate 2 refine wpN_skip (by rfl) ?_
  refine wpN_nil (fun w15 Sw15 hbs => ?_)
  clear hbs
  replace Rg3_0 := range_sees Rg3_0 Lg3 Sw15
  replace Tg3 := there_sees Tg3 Lg3 Sw15
  replace Rg4_0 := range_sees Rg4_0 Lg4 Sw15
  replace Tg4 := there_sees Tg4 Lg4 Sw15
  replace Rg5_0 := range_sees Rg5_0 Lg5 Sw15
  replace Tg5 := there_sees Tg5 Lg5 Sw15
  replace Rg6_0 := range_sees Rg6_0 Lg6 Sw15
  replace Tg6 := there_sees Tg6 Lg6 Sw15
  replace Rg10_0 := range_sees Rg10_0 Lg10 Sw15
  replace Tg10 := there_sees Tg10 Lg10 Sw15
  replace Lg3 := Nat.lt_of_lt_of_le Lg3 Sw15.2.2.size
  replace Lg4 := Nat.lt_of_lt_of_le Lg4 Sw15.2.2.size
  replace Lg5 := Nat.lt_of_lt_of_le Lg5 Sw15.2.2.size
  replace Lg6 := Nat.lt_of_lt_of_le Lg6 Sw15.2.2.size
  replace Lg10 := Nat.lt_of_lt_of_le Lg10 Sw15.2.2.size
  replace BE := BE.trans (Sw15.2.2.mono BE.size)
  refine wpL_nil (no_panic ?_)
  refine hK13 _ _ ?_
  refine wp_block ?_
  refine wp_loop_ghost (fun n a W => ∃ (i : Nat) (N : Nat) (u16 : Nat → Value), n = 4 - i ∧ a = { tmps := #[fe x, fe y, .pointer (some ⟨g3, 0, none⟩), .pointer (some ⟨g4, 0, none⟩), .pointer (some ⟨g5, 0, none⟩), .pointer (some ⟨g6, 0, none⟩), .pointer (some ⟨g10, 0, none⟩), u16 7, u16 8, u16 9, u16 10, u16 11, u16 12, u16 13, u16 14, u16 15, u16 16, u16 17, fe x, .int .i64 ((i : Nat) : Int), u16 20, u16 21, u16 22, u16 23, u16 24, u16 25, u16 26, u16 27, u16 28, u16 29, u16 30, u16 31, u16 32, u16 33, u16 34, u16 35, u16 36, u16 37, u16 38, u16 39, u16 40, u16 41, u16 42, u16 43, u16 44, u16 45, u16 46, u16 47, u16 48, u16 49, u16 50, u16 51, u16 52, u16 53, u16 54, u16 55, u16 56, u16 57, u16 58, u16 59, u16 60, u16 61, u16 62, u16 63, u16 64, u16 65, undef, undef, undef, undef, undef, undef], defers := [] } ∧ Below w.heap.size w W ∧ World.rangeAt W g3 0 (fel x) ∧ World.there W g3 0 4 ∧ g3 < W.heap.size ∧ World.rangeAt W g4 0 (fel y) ∧ World.there W g4 0 4 ∧ g4 < W.heap.size ∧ World.rangeAt W g5 0 ([.int .u64 0, .int .u64 0, .int .u64 0, .int .u64 0]) ∧ World.there W g5 0 4 ∧ g5 < W.heap.size ∧ World.rangeAt W g6 0 ([.int .u64 0, .int .u64 0, .int .u64 0, .int .u64 0]) ∧ World.there W g6 0 4 ∧ g6 < W.heap.size ∧ World.rangeAt W g10 0 (wl 8 N) ∧ World.there W g10 0 8 ∧ g10 < W.heap.size ∧ (i ≤ 4) ∧ (N = (x % 2 ^ (64 * i)) * y)) (4 - (0)) ?_ (fun n a W hI => ?_)
  · exact ⟨0, 0, (fun q9 => (#[undef, undef, undef, undef, undef, undef, undef, undef, undef, undef, undef, undef, undef, undef, undef, undef, undef, undef, undef, undef, undef, undef, undef, undef, undef, undef, undef, undef, undef, undef, undef, undef, undef, undef, undef, undef, undef, undef, undef, undef, undef, undef, undef, undef, undef, undef, undef, undef, undef, undef, undef, undef, undef, undef, undef, undef, undef, undef, undef, undef, undef, undef, undef, undef, undef, undef] : Array Value).getD q9 undef), rfl, rfl, BE, Rg3_0, Tg3, Lg3, Rg4_0, Tg4, Lg4, Rg5_0, Tg5, Lg5, Rg6_0, Tg6, Lg6, (by rw [wl_zero]; exact Rg10_0), Tg10, Lg10, (by omega), (by simp [Nat.mod_one])⟩
  clear BE Rg3_0 Rg4_0 Rg5_0 Rg6_0 Rg10_0 Tg3 Tg4 Tg5 Tg6 Tg10 Lg3 Lg4 Lg5 Lg6 Lg10
  obtain ⟨i, N, u16, rfl, rfl, BE, Rg3_0, Tg3, Lg3, Rg4_0, Tg4, Lg4, Rg5_0, Tg5, Lg5, Rg6_0, Tg6, Lg6, Rg10_0, Tg10, Lg10, hi4, HN⟩ := hI
  obtain ⟨w17, rfl⟩ : ∃ W9, W9 = W := ⟨_, rfl⟩
  refine wp_seq_k (fun K18 hK18 => ?_)
  refine wp_region_plain 1 (by kernel_rfl) (fun Lk hLk => ?_)
  simp only [List.take, List.drop]
  refine wpV_bin (v := .bool (decide (i < 4))) (by rfl) rfl rfl rfl (fun W => run_lssN i 4 _ _ W) ?_
  simp only [putT, List.set]
  refine wpV_nil (hLk.out _ ?_)
  clear hLk Lk
  simp only [List.take, List.drop]
  iterate 1 refine wpN_skip (by rfl) ?_
  refine wpN_nil (fun w20 Sw20 hbs => ?_)
  clear hbs
  replace Rg3_0 := range_sees Rg3_0 Lg3 Sw20
  replace Tg3 := there_sees Tg3 Lg3 Sw20
  replace Rg4_0 := range_sees Rg4_0 Lg4 Sw20
  replace Tg4 := there_sees Tg4 Lg4 Sw20
  replace Rg5_0 := range_sees Rg5_0 Lg5 Sw20
  replace Tg5 := there_sees Tg5 Lg5 Sw20
  replace Rg6_0 := range_sees Rg6_0 Lg6 Sw20
  replace Tg6 := there_sees Tg6 Lg6 Sw20
  replace Rg10_0 := range_sees Rg10_0 Lg10 Sw20
  replace Tg10 := there_sees Tg10 Lg10 Sw20
  replace Lg3 := Nat.lt_of_lt_of_le Lg3 Sw20.2.2.size
  replace Lg4 := Nat.lt_of_lt_of_le Lg4 Sw20.2.2.size
  replace Lg5 := Nat.lt_of_lt_of_le Lg5 Sw20.2.2.size
  replace Lg6 := Nat.lt_of_lt_of_le Lg6 Sw20.2.2.size
  replace Lg10 := Nat.lt_of_lt_of_le Lg10 Sw20.2.2.size
  replace BE := BE.trans (Sw20.2.2.mono BE.size)
  refine wpL_nil (no_panic ?_)
  refine hK18 _ _ ?_
  refine wp_seq_k (fun K21 hK21 => ?_)
  cases hc22 : (decide (i < 4))
  · skip
    have ei : i = 4 := by have := of_decide_eq_false hc22; omega
    subst ei
    refine wp_cond_false rfl ?_
    refine wp_exit ?_
    refine hK12 _ _ ?_
    refine wp_seq_k (fun K23 hK23 => ?_)
    have hN : N = x * y := by rw [HN, Nat.mod_eq_of_lt (by simpa using hx)]
    subst hN
    clear HN
    have c0 : w20.cell? ⟨g10, 0, none⟩ = some (.int .u64 (limb (x * y) 0)) := by have := Rg10_0 0 _ (wl_get 8 _ (by decide)); rwa [Nat.zero_add] at this
    have c1 : w20.cell? ⟨g10, 1, none⟩ = some (.int .u64 (limb (x * y) 1)) := by have := Rg10_0 1 _ (wl_get 8 _ (by decide)); rwa [Nat.zero_add] at this
    have c2 : w20.cell? ⟨g10, 2, none⟩ = some (.int .u64 (limb (x * y) 2)) := by have := Rg10_0 2 _ (wl_get 8 _ (by decide)); rwa [Nat.zero_add] at this
    have c3 : w20.cell? ⟨g10, 3, none⟩ = some (.int .u64 (limb (x * y) 3)) := by have := Rg10_0 3 _ (wl_get 8 _ (by decide)); rwa [Nat.zero_add] at this
    have c4 : w20.cell? ⟨g10, 4, none⟩ = some (.int .u64 (limb (x * y) 4)) := by have := Rg10_0 4 _ (wl_get 8 _ (by decide)); rwa [Nat.zero_add] at this
    have c5 : w20.cell? ⟨g10, 5, none⟩ = some (.int .u64 (limb (x * y) 5)) := by have := Rg10_0 5 _ (wl_get 8 _ (by decide)); rwa [Nat.zero_add] at this
    have c6 : w20.cell? ⟨g10, 6, none⟩ = some (.int .u64 (limb (x * y) 6)) := by have := Rg10_0 6 _ (wl_get 8 _ (by decide)); rwa [Nat.zero_add] at this
    have c7 : w20.cell? ⟨g10, 7, none⟩ = some (.int .u64 (limb (x * y) 7)) := by have := Rg10_0 7 _ (wl_get 8 _ (by decide)); rwa [Nat.zero_add] at this
    have p0 : w20.cell? ⟨g5, 0, none⟩ = some (.int .u64 0) := by have := Rg5_0 0 _ rfl; rwa [Nat.zero_add] at this
    have p1 : w20.cell? ⟨g5, 1, none⟩ = some (.int .u64 0) := by have := Rg5_0 1 _ rfl; rwa [Nat.zero_add] at this
    have p2 : w20.cell? ⟨g5, 2, none⟩ = some (.int .u64 0) := by have := Rg5_0 2 _ rfl; rwa [Nat.zero_add] at this
    have p3 : w20.cell? ⟨g5, 3, none⟩ = some (.int .u64 0) := by have := Rg5_0 3 _ rfl; rwa [Nat.zero_add] at this
    have pf : ∀ j, j < 4 → w20.frozen? ⟨g5, j, none⟩ = false := fun j hj => by have := (Tg5 j hj).2; rwa [Nat.zero_add] at this
    have pf0 := pf 0 (by decide)
    have pf1 := pf 1 (by decide)
    have pf2 := pf 2 (by decide)
    have pf3 := pf 3 (by decide)
    clear pf
    have r0 : w20.cell? ⟨g6, 0, none⟩ = some (.int .u64 0) := by have := Rg6_0 0 _ rfl; rwa [Nat.zero_add] at this
    have r1 : w20.cell? ⟨g6, 1, none⟩ = some (.int .u64 0) := by have := Rg6_0 1 _ rfl; rwa [Nat.zero_add] at this
    have r2 : w20.cell? ⟨g6, 2, none⟩ = some (.int .u64 0) := by have := Rg6_0 2 _ rfl; rwa [Nat.zero_add] at this
    have r3 : w20.cell? ⟨g6, 3, none⟩ = some (.int .u64 0) := by have := Rg6_0 3 _ rfl; rwa [Nat.zero_add] at this
    have rf : ∀ j, j < 4 → w20.frozen? ⟨g6, j, none⟩ = false := fun j hj => by have := (Tg6 j hj).2; rwa [Nat.zero_add] at this
    have rf0 := rf 0 (by decide)
    have rf1 := rf 1 (by decide)
    have rf2 := rf 2 (by decide)
    have rf3 := rf 3 (by decide)
    clear rf
    have HT0 := Lib.hid Tg5; have HT1 := Lib.hid Tg6; have HBE := Lib.hid BE; have HN5 := Lib.hid Ng5_g6
    have ha := fun (p : Option Addr) (l c : Nat) (hl : 4 ≤ l) (w : World) => run_arrayAt (P := Try.prog) (cap := c) (p := p) Try.underlying34 hl w
    have ha4 := fun (p : Option Addr) (c : Nat) (w : World) => ha p 4 c (by decide) w
    clear ha
    go_region
    refine hK23 _ _ ?_
    refine wp_world (fun W => World.rangeAt W g5 0 (fel (mulLo x y)) ∧ World.rangeAt W g6 0 (fel (mulHi x y)) ∧ Below w.heap.size w W) ?_ ?_
    · unfold mulLo mulHi; rw [fel_lo, fel_hi]
      have X := two_rows (A := [.int .u64 (limb (x * y) 0), .int .u64 (limb (x * y) 1), .int .u64 (limb (x * y) 2), .int .u64 (limb (x * y) 3)]) (C := [.int .u64 (limb (x * y) 4), .int .u64 (limb (x * y) 5), .int .u64 (limb (x * y) 6), .int .u64 (limb (x * y) 7)]) HT0.out HT1.out HN5.out HBE.out Gg5 Gg6
      simp only [World.setCells, Nat.zero_add, Nat.reduceAdd] at X
      exact X
    clear HT0 HT1 HBE HN5 BE
    rintro w24 ⟨R0, R1, BE⟩
    refine wp_ret ?_
    refine bodyPost_ret (v := .tuple #[fe (mulLo x y), fe (mulHi x y)]) (res2 rfl (.cell (by rfl) (run_loadVar_mid _ _ _ _ (fel (mulLo x y)) _ R0 Try.underlying34 rfl info34)) (.cell (by rfl) (run_loadVar_mid _ _ _ _ (fel (mulHi x y)) _ R1 Try.underlying34 rfl info34))) rfl ⟨rfl, BE⟩
  · skip
    have hi : i < 4 := of_decide_eq_true hc22
    refine wp_cond_true rfl ?_
    refine wp_skip ?_
    refine hK21 _ _ ?_
    refine wp_seq_k (fun K25 hK25 => ?_)
    refine wp_block ?_
    refine wp_seq_k (fun K26 hK26 => ?_)
    refine wp_region_plain 2 (by kernel_rfl) (fun Lk hLk => ?_)
    simp only [List.take, List.drop]
    refine wpV_move (v := .int .i64 ((i : Nat) : Int)) (by rfl) rfl rfl ?_
    simp only [putT, List.set]
    refine wpV_index (n := i) (v := .int .u64 ((limbN x i : Nat) : Int)) (by rfl) rfl rfl rfl Try.underlying34 info22 Try.underlying22 rfl (by omega) (fel_get (j := i) x (by omega)) ?_
    simp only [putT, List.set]
    refine wpV_nil (hLk.out _ ?_)
    clear hLk Lk
    simp only [List.take, List.drop]
    iterate 2 refine wpN_skip (by rfl) ?_
    refine wpN_nil (fun w28 Sw28 hbs => ?_)
    clear hbs
    replace Rg3_0 := range_sees Rg3_0 Lg3 Sw28
    replace Tg3 := there_sees Tg3 Lg3 Sw28
    replace Rg4_0 := range_sees Rg4_0 Lg4 Sw28
    replace Tg4 := there_sees Tg4 Lg4 Sw28
    replace Rg5_0 := range_sees Rg5_0 Lg5 Sw28
    replace Tg5 := there_sees Tg5 Lg5 Sw28
    replace Rg6_0 := range_sees Rg6_0 Lg6 Sw28
    replace Tg6 := there_sees Tg6 Lg6 Sw28
    replace Rg10_0 := range_sees Rg10_0 Lg10 Sw28
    replace Tg10 := there_sees Tg10 Lg10 Sw28
    replace Lg3 := Nat.lt_of_lt_of_le Lg3 Sw28.2.2.size
    replace Lg4 := Nat.lt_of_lt_of_le Lg4 Sw28.2.2.size
    replace Lg5 := Nat.lt_of_lt_of_le Lg5 Sw28.2.2.size
    replace Lg6 := Nat.lt_of_lt_of_le Lg6 Sw28.2.2.size
    replace Lg10 := Nat.lt_of_lt_of_le Lg10 Sw28.2.2.size
    replace BE := BE.trans (Sw28.2.2.mono BE.size)
    refine wpL_assign (v := .int .i64 ((i : Nat) : Int)) (by rfl) (by rfl) (by rfl) ?_
    simp only [putT, List.set]
    refine wpL_assign (v := .int .u64 ((limbN x i : Nat) : Int)) (by rfl) (by rfl) (by rfl) ?_
    simp only [putT, List.set]
    refine wpL_nil (no_panic ?_)
    refine hK26 _ _ ?_
    refine wp_seq_k (fun K29 hK29 => ?_)
    refine wp_region_plain 0 (by kernel_rfl) (fun Lk hLk => ?_)
    simp only [List.take, List.drop]
    refine wpV_nil (hLk.out _ ?_)
    clear hLk Lk
    simp only [List.take, List.drop]
    refine wpN_nil (fun w31 Sw31 hbs => ?_)
    clear hbs
    replace Rg3_0 := range_sees Rg3_0 Lg3 Sw31
    replace Tg3 := there_sees Tg3 Lg3 Sw31
    replace Rg4_0 := range_sees Rg4_0 Lg4 Sw31
    replace Tg4 := there_sees Tg4 Lg4 Sw31
    replace Rg5_0 := range_sees Rg5_0 Lg5 Sw31
    replace Tg5 := there_sees Tg5 Lg5 Sw31
    replace Rg6_0 := range_sees Rg6_0 Lg6 Sw31
    replace Tg6 := there_sees Tg6 Lg6 Sw31
    replace Rg10_0 := range_sees Rg10_0 Lg10 Sw31
    replace Tg10 := there_sees Tg10 Lg10 Sw31
    replace Lg3 := Nat.lt_of_lt_of_le Lg3 Sw31.2.2.size
    replace Lg4 := Nat.lt_of_lt_of_le Lg4 Sw31.2.2.size
    replace Lg5 := Nat.lt_of_lt_of_le Lg5 Sw31.2.2.size
    replace Lg6 := Nat.lt_of_lt_of_le Lg6 Sw31.2.2.size
    replace Lg10 := Nat.lt_of_lt_of_le Lg10 Sw31.2.2.size
    replace BE := BE.trans (Sw31.2.2.mono BE.size)
    refine wpL_assign (v := .int .u64 0) (by rfl) (by rfl) (by rfl) ?_
    simp only [putT, List.set]
    refine wpL_nil (no_panic ?_)
    refine hK29 _ _ ?_
    refine wp_seq_k (fun K32 hK32 => ?_)
    refine wp_seq_k (fun K33 hK33 => ?_)
    refine wp_region_plain 2 (by kernel_rfl) (fun Lk hLk => ?_)
    simp only [List.take, List.drop]
    refine wpV_load (cs := fel y) (by rfl) rfl rfl Rg4_0 Lg4 Try.underlying34 rfl info34 ?_
    simp only [putT, List.set]
    refine wpV_move (v := .int .i64 0) (by rfl) rfl rfl ?_
    simp only [putT, List.set]
    refine wpV_nil (hLk.out _ ?_)
    clear hLk Lk
    simp only [List.take, List.drop]
    iterate 2 refine wpN_skip (by rfl) ?_
    refine wpN_nil (fun w35 Sw35 hbs => ?_)
    clear hbs
    replace Rg3_0 := range_sees Rg3_0 Lg3 Sw35
    replace Tg3 := there_sees Tg3 Lg3 Sw35
    replace Rg4_0 := range_sees Rg4_0 Lg4 Sw35
    replace Tg4 := there_sees Tg4 Lg4 Sw35
    replace Rg5_0 := range_sees Rg5_0 Lg5 Sw35
    replace Tg5 := there_sees Tg5 Lg5 Sw35
    replace Rg6_0 := range_sees Rg6_0 Lg6 Sw35
    replace Tg6 := there_sees Tg6 Lg6 Sw35
    replace Rg10_0 := range_sees Rg10_0 Lg10 Sw35
    replace Tg10 := there_sees Tg10 Lg10 Sw35
    replace Lg3 := Nat.lt_of_lt_of_le Lg3 Sw35.2.2.size
    replace Lg4 := Nat.lt_of_lt_of_le Lg4 Sw35.2.2.size
    replace Lg5 := Nat.lt_of_lt_of_le Lg5 Sw35.2.2.size
    replace Lg6 := Nat.lt_of_lt_of_le Lg6 Sw35.2.2.size
    replace Lg10 := Nat.lt_of_lt_of_le Lg10 Sw35.2.2.size
    replace BE := BE.trans (Sw35.2.2.mono BE.size)
    refine wpL_nil (no_panic ?_)
    refine hK33 _ _ ?_
    refine wp_block ?_
    refine wp_loop_ghost (fun n a W => ∃ (k : Nat) (M : Nat) (c : Nat) (u36 : Nat → Value), n = 4 - k ∧ a = { tmps := #[fe x, fe y, .pointer (some ⟨g3, 0, none⟩), .pointer (some ⟨g4, 0, none⟩), .pointer (some ⟨g5, 0, none⟩), .pointer (some ⟨g6, 0, none⟩), .pointer (some ⟨g10, 0, none⟩), .int .i64 ((i : Nat) : Int), .int .u64 ((limbN x i : Nat) : Int), .int .u64 ((c : Nat) : Int), u36 10, u36 11, u36 12, u36 13, u36 14, u36 15, u36 16, u36 17, fe x, .int .i64 ((i : Nat) : Int), .bool true, .int .i64 ((i : Nat) : Int), .int .u64 ((limbN x i : Nat) : Int), fe y, .int .i64 ((k : Nat) : Int), u36 25, u36 26, u36 27, u36 28, u36 29, u36 30, u36 31, u36 32, u36 33, u36 34, u36 35, u36 36, u36 37, u36 38, u36 39, u36 40, u36 41, u36 42, u36 43, u36 44, u36 45, u36 46, u36 47, u36 48, u36 49, u36 50, u36 51, u36 52, u36 53, u36 54, u36 55, u36 56, u36 57, u36 58, u36 59, u36 60, u16 61, u16 62, u16 63, u16 64, u16 65, undef, undef, undef, undef, undef, undef], defers := [] } ∧ Below w.heap.size w W ∧ World.rangeAt W g3 0 (fel x) ∧ World.there W g3 0 4 ∧ g3 < W.heap.size ∧ World.rangeAt W g4 0 (fel y) ∧ World.there W g4 0 4 ∧ g4 < W.heap.size ∧ World.rangeAt W g5 0 ([.int .u64 0, .int .u64 0, .int .u64 0, .int .u64 0]) ∧ World.there W g5 0 4 ∧ g5 < W.heap.size ∧ World.rangeAt W g6 0 ([.int .u64 0, .int .u64 0, .int .u64 0, .int .u64 0]) ∧ World.there W g6 0 4 ∧ g6 < W.heap.size ∧ World.rangeAt W g10 0 (wl 8 M) ∧ World.there W g10 0 8 ∧ g10 < W.heap.size ∧ (k ≤ 4) ∧ (WideInv x y i k M c)) (4 - (0)) ?_ (fun n a W hI => ?_)
    · exact ⟨0, N, 0, (fun q9 => (#[undef, undef, undef, undef, undef, undef, undef, undef, undef, undef, u16 10, u16 11, u16 12, u16 13, u16 14, u16 15, u16 16, u16 17, undef, undef, undef, undef, undef, undef, undef, u16 25, u16 26, u16 27, u16 28, u16 29, u16 30, u16 31, u16 32, u16 33, u16 34, u16 35, u16 36, u16 37, u16 38, u16 39, u16 40, u16 41, u16 42, u16 43, u16 44, u16 45, u16 46, u16 47, u16 48, u16 49, u16 50, u16 51, u16 52, u16 53, u16 54, u16 55, u16 56, u16 57, u16 58, u16 59, u16 60] : Array Value).getD q9 undef), rfl, rfl, BE, Rg3_0, Tg3, Lg3, Rg4_0, Tg4, Lg4, Rg5_0, Tg5, Lg5, Rg6_0, Tg6, Lg6, Rg10_0, Tg10, Lg10, (by omega), (wide_start HN hy)⟩
    clear BE Rg3_0 Rg4_0 Rg5_0 Rg6_0 Rg10_0 Tg3 Tg4 Tg5 Tg6 Tg10 Lg3 Lg4 Lg5 Lg6 Lg10
    obtain ⟨k, M, c, u36, rfl, rfl, BE, Rg3_0, Tg3, Lg3, Rg4_0, Tg4, Lg4, Rg5_0, Tg5, Lg5, Rg6_0, Tg6, Lg6, Rg10_0, Tg10, Lg10, hk4, HW⟩ := hI
    obtain ⟨w37, rfl⟩ : ∃ W9, W9 = W := ⟨_, rfl⟩
    have hcw := HW.word
    refine wp_seq_k (fun K38 hK38 => ?_)
    refine wp_region_plain 1 (by kernel_rfl) (fun Lk hLk => ?_)
    simp only [List.take, List.drop]
    refine wpV_bin (v := .bool (decide (k < 4))) (by rfl) rfl rfl rfl (fun W => run_lssN k 4 _ _ W) ?_
    simp only [putT, List.set]
    refine wpV_nil (hLk.out _ ?_)
    clear hLk Lk
    simp only [List.take, List.drop]
    iterate 1 refine wpN_skip (by rfl) ?_
    refine wpN_nil (fun w40 Sw40 hbs => ?_)
    clear hbs
    replace Rg3_0 := range_sees Rg3_0 Lg3 Sw40
    replace Tg3 := there_sees Tg3 Lg3 Sw40
    replace Rg4_0 := range_sees Rg4_0 Lg4 Sw40
    replace Tg4 := there_sees Tg4 Lg4 Sw40
    replace Rg5_0 := range_sees Rg5_0 Lg5 Sw40
    replace Tg5 := there_sees Tg5 Lg5 Sw40
    replace Rg6_0 := range_sees Rg6_0 Lg6 Sw40
    replace Tg6 := there_sees Tg6 Lg6 Sw40
    replace Rg10_0 := range_sees Rg10_0 Lg10 Sw40
    replace Tg10 := there_sees Tg10 Lg10 Sw40
    replace Lg3 := Nat.lt_of_lt_of_le Lg3 Sw40.2.2.size
    replace Lg4 := Nat.lt_of_lt_of_le Lg4 Sw40.2.2.size
    replace Lg5 := Nat.lt_of_lt_of_le Lg5 Sw40.2.2.size
    replace Lg6 := Nat.lt_of_lt_of_le Lg6 Sw40.2.2.size
    replace Lg10 := Nat.lt_of_lt_of_le Lg10 Sw40.2.2.size
    replace BE := BE.trans (Sw40.2.2.mono BE.size)
    refine wpL_nil (no_panic ?_)
    refine hK38 _ _ ?_
    refine wp_seq_k (fun K41 hK41 => ?_)
    cases hc42 : (decide (k < 4))
    · skip
      have ek : k = 4 := by have := of_decide_eq_false hc42; omega
      subst ek
      refine wp_cond_false rfl ?_
      refine wp_exit ?_
      refine hK32 _ _ ?_
      refine wp_region_plain 4 (by kernel_rfl) (fun Lk hLk => ?_)
      simp only [List.take, List.drop]
      refine wpV_move (v := .int .i64 ((i : Nat) : Int)) (by rfl) rfl rfl ?_
      simp only [putT, List.set]
      refine wpV_bin (v := .int .i64 ((i + 4 : Nat) : Int)) (by rfl) rfl rfl rfl (fun W => run_add (by simp only [IntKind.wrap_i64]; omega) W) ?_
      simp only [putT, List.set]
      refine wpV_move (v := .int .u64 ((c : Nat) : Int)) (by rfl) rfl rfl ?_
      simp only [putT, List.set]
      refine wpV_idx (n := i + 4) (by rfl) rfl rfl rfl Try.underlying57 info22 (by omega) ?_
      simp only [Nat.zero_add]
      simp only [putT, List.set]
      refine wpV_nil (hLk.out _ ?_)
      clear hLk Lk
      simp only [List.take, List.drop]
      iterate 4 refine wpN_skip (by rfl) ?_
      refine wpN_nil (fun w44 Sw44 hbs => ?_)
      clear hbs
      replace Rg3_0 := range_sees Rg3_0 Lg3 Sw44
      replace Tg3 := there_sees Tg3 Lg3 Sw44
      replace Rg4_0 := range_sees Rg4_0 Lg4 Sw44
      replace Tg4 := there_sees Tg4 Lg4 Sw44
      replace Rg5_0 := range_sees Rg5_0 Lg5 Sw44
      replace Tg5 := there_sees Tg5 Lg5 Sw44
      replace Rg6_0 := range_sees Rg6_0 Lg6 Sw44
      replace Tg6 := there_sees Tg6 Lg6 Sw44
      replace Rg10_0 := range_sees Rg10_0 Lg10 Sw44
      replace Tg10 := there_sees Tg10 Lg10 Sw44
      replace Lg3 := Nat.lt_of_lt_of_le Lg3 Sw44.2.2.size
      replace Lg4 := Nat.lt_of_lt_of_le Lg4 Sw44.2.2.size
      replace Lg5 := Nat.lt_of_lt_of_le Lg5 Sw44.2.2.size
      replace Lg6 := Nat.lt_of_lt_of_le Lg6 Sw44.2.2.size
      replace Lg10 := Nat.lt_of_lt_of_le Lg10 Sw44.2.2.size
      replace BE := BE.trans (Sw44.2.2.mono BE.size)
      refine wpL_store1 (g := g10) (off := i + 4) (n := 8) (v := .int .u64 ((c : Nat) : Int)) (by rfl) (by rfl) (by rfl) (by rfl) (by rfl) Tg10 (by omega) info22 rfl (fun w45 Pw45 RR TT => ?_)
      replace Rg3_0 := Pw45.range Rg3_0 (.inl Ng3_g10)
      replace Tg3 := Pw45.other_there Tg3 Ng3_g10
      replace Rg4_0 := Pw45.range Rg4_0 (.inl Ng4_g10)
      replace Tg4 := Pw45.other_there Tg4 Ng4_g10
      replace Rg5_0 := Pw45.range Rg5_0 (.inl Ng5_g10)
      replace Tg5 := Pw45.other_there Tg5 Ng5_g10
      replace Rg6_0 := Pw45.range Rg6_0 (.inl Ng6_g10)
      replace Tg6 := Pw45.other_there Tg6 Ng6_g10
      replace Rg10_0 := range_set Rg10_0 Pw45 RR
      clear RR
      replace Tg10 := TT
      replace Lg3 := Pw45.lt Lg3
      replace Lg4 := Pw45.lt Lg4
      replace Lg5 := Pw45.lt Lg5
      replace Lg6 := Pw45.lt Lg6
      replace Lg10 := Pw45.lt Lg10
      replace BE := Pw45.below BE Gg10
      rw [wl_set (wideN_eq hy HW) HW.word] at Rg10_0
      refine wpL_nil (no_panic ?_)
      refine hK25 _ _ ?_
      refine wp_region_plain 1 (by kernel_rfl) (fun Lk hLk => ?_)
      simp only [List.take, List.drop]
      refine wpV_bin (v := .int .i64 ((i + 1 : Nat) : Int)) (by rfl) rfl rfl rfl (fun W => run_add (by simp only [IntKind.wrap_i64]; omega) W) ?_
      simp only [putT, List.set]
      refine wpV_nil (hLk.out _ ?_)
      clear hLk Lk
      simp only [List.take, List.drop]
      iterate 1 refine wpN_skip (by rfl) ?_
      refine wpN_nil (fun w47 Sw47 hbs => ?_)
      clear hbs
      replace Rg3_0 := range_sees Rg3_0 Lg3 Sw47
      replace Tg3 := there_sees Tg3 Lg3 Sw47
      replace Rg4_0 := range_sees Rg4_0 Lg4 Sw47
      replace Tg4 := there_sees Tg4 Lg4 Sw47
      replace Rg5_0 := range_sees Rg5_0 Lg5 Sw47
      replace Tg5 := there_sees Tg5 Lg5 Sw47
      replace Rg6_0 := range_sees Rg6_0 Lg6 Sw47
      replace Tg6 := there_sees Tg6 Lg6 Sw47
      replace Rg10_0 := range_sees Rg10_0 Lg10 Sw47
      replace Tg10 := there_sees Tg10 Lg10 Sw47
      replace Lg3 := Nat.lt_of_lt_of_le Lg3 Sw47.2.2.size
      replace Lg4 := Nat.lt_of_lt_of_le Lg4 Sw47.2.2.size
      replace Lg5 := Nat.lt_of_lt_of_le Lg5 Sw47.2.2.size
      replace Lg6 := Nat.lt_of_lt_of_le Lg6 Sw47.2.2.size
      replace Lg10 := Nat.lt_of_lt_of_le Lg10 Sw47.2.2.size
      replace BE := BE.trans (Sw47.2.2.mono BE.size)
      refine wpL_move (v := .int .i64 ((i + 1 : Nat) : Int)) (by rfl) (by rfl) (by rfl) ?_
      simp only [putT, List.set]
      refine wpL_nil (no_panic ?_)
      refine then_normal ⟨_, ?_, (i + 1), (wideN M i c), (fun q9 => (#[undef, undef, undef, undef, undef, undef, undef, .int .i64 ((i : Nat) : Int), .int .u64 ((limbN x i : Nat) : Int), .int .u64 ((c : Nat) : Int), u36 10, u36 11, u36 12, u36 13, u36 14, u36 15, u36 16, u36 17, undef, undef, .bool true, .int .i64 ((i : Nat) : Int), .int .u64 ((limbN x i : Nat) : Int), fe y, .int .i64 ((4 : Nat) : Int), .bool false, u36 26, u36 27, u36 28, u36 29, u36 30, u36 31, u36 32, u36 33, u36 34, u36 35, u36 36, u36 37, u36 38, u36 39, u36 40, u36 41, u36 42, u36 43, u36 44, u36 45, u36 46, u36 47, u36 48, u36 49, u36 50, u36 51, u36 52, u36 53, u36 54, u36 55, u36 56, u36 57, u36 58, u36 59, u36 60, .int .i64 ((i : Nat) : Int), .int .i64 ((i + 4 : Nat) : Int), .int .u64 ((c : Nat) : Int), .pointer (some ⟨g10, i + 4, none⟩), .int .i64 ((i + 1 : Nat) : Int)] : Array Value).getD q9 undef), rfl, rfl, BE, Rg3_0, Tg3, Lg3, Rg4_0, Tg4, Lg4, Rg5_0, Tg5, Lg5, Rg6_0, Tg6, Lg6, Rg10_0, Tg10, Lg10, (by omega), (wide_end hy HW).1⟩
      omega
    · skip
      have hk : k < 4 := of_decide_eq_true hc42
      refine wp_cond_true rfl ?_
      refine wp_skip ?_
      refine hK41 _ _ ?_
      refine wp_seq_k (fun K48 hK48 => ?_)
      refine wp_block ?_
      refine wp_seq_k (fun K49 hK49 => ?_)
      refine wp_region_plain 2 (by kernel_rfl) (fun Lk hLk => ?_)
      simp only [List.take, List.drop]
      refine wpV_move (v := .int .i64 ((k : Nat) : Int)) (by rfl) rfl rfl ?_
      simp only [putT, List.set]
      refine wpV_index (n := k) (v := .int .u64 ((limbN y k : Nat) : Int)) (by rfl) rfl rfl rfl Try.underlying34 info22 Try.underlying22 rfl (by omega) (fel_get (j := k) y (by omega)) ?_
      simp only [putT, List.set]
      refine wpV_nil (hLk.out _ ?_)
      clear hLk Lk
      simp only [List.take, List.drop]
      iterate 2 refine wpN_skip (by rfl) ?_
      refine wpN_nil (fun w51 Sw51 hbs => ?_)
      clear hbs
      replace Rg3_0 := range_sees Rg3_0 Lg3 Sw51
      replace Tg3 := there_sees Tg3 Lg3 Sw51
      replace Rg4_0 := range_sees Rg4_0 Lg4 Sw51
      replace Tg4 := there_sees Tg4 Lg4 Sw51
      replace Rg5_0 := range_sees Rg5_0 Lg5 Sw51
      replace Tg5 := there_sees Tg5 Lg5 Sw51
      replace Rg6_0 := range_sees Rg6_0 Lg6 Sw51
      replace Tg6 := there_sees Tg6 Lg6 Sw51
      replace Rg10_0 := range_sees Rg10_0 Lg10 Sw51
      replace Tg10 := there_sees Tg10 Lg10 Sw51
      replace Lg3 := Nat.lt_of_lt_of_le Lg3 Sw51.2.2.size
      replace Lg4 := Nat.lt_of_lt_of_le Lg4 Sw51.2.2.size
      replace Lg5 := Nat.lt_of_lt_of_le Lg5 Sw51.2.2.size
      replace Lg6 := Nat.lt_of_lt_of_le Lg6 Sw51.2.2.size
      replace Lg10 := Nat.lt_of_lt_of_le Lg10 Sw51.2.2.size
      replace BE := BE.trans (Sw51.2.2.mono BE.size)
      refine wpL_assign (v := .int .i64 ((k : Nat) : Int)) (by rfl) (by rfl) (by rfl) ?_
      simp only [putT, List.set]
      refine wpL_assign (v := .int .u64 ((limbN y k : Nat) : Int)) (by rfl) (by rfl) (by rfl) ?_
      simp only [putT, List.set]
      refine wpL_nil (no_panic ?_)
      refine hK49 _ _ ?_
      refine wp_seq_k (fun K52 hK52 => ?_)
      refine wp_region_plain 6 (by kernel_rfl) (fun Lk hLk => ?_)
      simp only [List.take, List.drop]
      refine wpV_move (v := .int .u64 ((limbN x i : Nat) : Int)) (by rfl) rfl rfl ?_
      simp only [putT, List.set]
      refine wpV_move (v := .int .u64 ((limbN y k : Nat) : Int)) (by rfl) rfl rfl ?_
      simp only [putT, List.set]
      refine wpV_callf (v := .tuple #[.int .u64 (((limbN x i) * (limbN y k) / 18446744073709551616 : Nat) : Int), .int .u64 (((limbN x i) * (limbN y k) % 18446744073709551616 : Nat) : Int)]) (args := #[.int .u64 ((limbN x i : Nat) : Int), .int .u64 ((limbN y k : Nat) : Int)]) (by rfl) rfl Try.func45 (by kernel_rfl) (by kernel_rfl) rfl (fun W _ => mul64_c (limbN_lt _ _) (limbN_lt _ _) W) ?_
      simp only [putT, List.set]
      refine wpV_move (v := .tuple #[.int .u64 (((limbN x i) * (limbN y k) / 18446744073709551616 : Nat) : Int), .int .u64 (((limbN x i) * (limbN y k) % 18446744073709551616 : Nat) : Int)]) (by rfl) rfl rfl ?_
      simp only [putT, List.set]
      refine wpV_extract (v := .int .u64 (((limbN x i) * (limbN y k) / 18446744073709551616 : Nat) : Int)) (by rfl) rfl rfl rfl ?_
      simp only [putT, List.set]
      refine wpV_extract (v := .int .u64 (((limbN x i) * (limbN y k) % 18446744073709551616 : Nat) : Int)) (by rfl) rfl rfl rfl ?_
      simp only [putT, List.set]
      refine wpV_nil (hLk.out _ ?_)
      clear hLk Lk
      simp only [List.take, List.drop]
      iterate 6 refine wpN_skip (by rfl) ?_
      refine wpN_nil (fun w54 Sw54 hbs => ?_)
      clear hbs
      replace Rg3_0 := range_sees Rg3_0 Lg3 Sw54
      replace Tg3 := there_sees Tg3 Lg3 Sw54
      replace Rg4_0 := range_sees Rg4_0 Lg4 Sw54
      replace Tg4 := there_sees Tg4 Lg4 Sw54
      replace Rg5_0 := range_sees Rg5_0 Lg5 Sw54
      replace Tg5 := there_sees Tg5 Lg5 Sw54
      replace Rg6_0 := range_sees Rg6_0 Lg6 Sw54
      replace Tg6 := there_sees Tg6 Lg6 Sw54
      replace Rg10_0 := range_sees Rg10_0 Lg10 Sw54
      replace Tg10 := there_sees Tg10 Lg10 Sw54
      replace Lg3 := Nat.lt_of_lt_of_le Lg3 Sw54.2.2.size
      replace Lg4 := Nat.lt_of_lt_of_le Lg4 Sw54.2.2.size
      replace Lg5 := Nat.lt_of_lt_of_le Lg5 Sw54.2.2.size
      replace Lg6 := Nat.lt_of_lt_of_le Lg6 Sw54.2.2.size
      replace Lg10 := Nat.lt_of_lt_of_le Lg10 Sw54.2.2.size
      replace BE := BE.trans (Sw54.2.2.mono BE.size)
      refine wpL_assign (v := .int .u64 (((limbN x i) * (limbN y k) / 18446744073709551616 : Nat) : Int)) (by rfl) (by rfl) (by rfl) ?_
      simp only [putT, List.set]
      refine wpL_assign (v := .int .u64 (((limbN x i) * (limbN y k) % 18446744073709551616 : Nat) : Int)) (by rfl) (by rfl) (by rfl) ?_
      simp only [putT, List.set]
      refine wpL_nil (no_panic ?_)
      refine hK52 _ _ ?_
      refine wp_seq_k (fun K55 hK55 => ?_)
      refine wp_region_plain 10 (by kernel_rfl) (fun Lk hLk => ?_)
      simp only [List.take, List.drop]
      refine wpV_move (v := .int .u64 (((limbN x i) * (limbN y k) % 18446744073709551616 : Nat) : Int)) (by rfl) rfl rfl ?_
      simp only [putT, List.set]
      refine wpV_move (v := .int .i64 ((i : Nat) : Int)) (by rfl) rfl rfl ?_
      simp only [putT, List.set]
      refine wpV_move (v := .int .i64 ((k : Nat) : Int)) (by rfl) rfl rfl ?_
      simp only [putT, List.set]
      refine wpV_bin (v := .int .i64 ((i + k : Nat) : Int)) (by rfl) rfl rfl rfl (fun W => run_add (by simp only [IntKind.wrap_i64]; omega) W) ?_
      simp only [putT, List.set]
      refine wpV_idx (n := i + k) (by rfl) rfl rfl rfl Try.underlying57 info22 (by omega) ?_
      simp only [Nat.zero_add]
      simp only [putT, List.set]
      refine wpV_load1 (v := .int .u64 ((limbN M (i + k) : Nat) : Int)) (by rfl) rfl rfl (by have := Rg10_0 _ _ (wl_get (j := i + k) 8 M (by omega)); rwa [Nat.zero_add] at this) Lg10 Try.underlying22 rfl ?_
      simp only [putT, List.set]
      refine wpV_ext (v := .tuple #[.int .u64 ((((limbN x i) * (limbN y k) % 18446744073709551616 + limbN M (i + k)) % 18446744073709551616 : Nat) : Int), .int .u64 ((((limbN x i) * (limbN y k) % 18446744073709551616 + limbN M (i + k)) / 18446744073709551616 : Nat) : Int)]) (f := 43) (args := #[.int .u64 (((limbN x i) * (limbN y k) % 18446744073709551616 : Nat) : Int), .int .u64 ((limbN M (i + k) : Nat) : Int), .int .u64 0]) (by rfl) rfl rfl (addN (x := (limbN x i) * (limbN y k) % 18446744073709551616) (y := limbN M (i + k)) (c := 0) (Nat.mod_lt _ (by decide)) (limbN_lt _ _) (by omega)) ?_
      simp only [putT, List.set]
      refine wpV_move (v := .tuple #[.int .u64 ((((limbN x i) * (limbN y k) % 18446744073709551616 + limbN M (i + k)) % 18446744073709551616 : Nat) : Int), .int .u64 ((((limbN x i) * (limbN y k) % 18446744073709551616 + limbN M (i + k)) / 18446744073709551616 : Nat) : Int)]) (by rfl) rfl rfl ?_
      simp only [putT, List.set]
      refine wpV_extract (v := .int .u64 ((((limbN x i) * (limbN y k) % 18446744073709551616 + limbN M (i + k)) % 18446744073709551616 : Nat) : Int)) (by rfl) rfl rfl rfl ?_
      simp only [putT, List.set]
      refine wpV_extract (v := .int .u64 ((((limbN x i) * (limbN y k) % 18446744073709551616 + limbN M (i + k)) / 18446744073709551616 : Nat) : Int)) (by rfl) rfl rfl rfl ?_
      simp only [putT, List.set]
      refine wpV_nil (hLk.out _ ?_)
      clear hLk Lk
      simp only [List.take, List.drop]
      iterate 10 refine wpN_skip (by rfl) ?_
      refine wpN_nil (fun w57 Sw57 hbs => ?_)
      clear hbs
      replace Rg3_0 := range_sees Rg3_0 Lg3 Sw57
      replace Tg3 := there_sees Tg3 Lg3 Sw57
      replace Rg4_0 := range_sees Rg4_0 Lg4 Sw57
      replace Tg4 := there_sees Tg4 Lg4 Sw57
      replace Rg5_0 := range_sees Rg5_0 Lg5 Sw57
      replace Tg5 := there_sees Tg5 Lg5 Sw57
      replace Rg6_0 := range_sees Rg6_0 Lg6 Sw57
      replace Tg6 := there_sees Tg6 Lg6 Sw57
      replace Rg10_0 := range_sees Rg10_0 Lg10 Sw57
      replace Tg10 := there_sees Tg10 Lg10 Sw57
      replace Lg3 := Nat.lt_of_lt_of_le Lg3 Sw57.2.2.size
      replace Lg4 := Nat.lt_of_lt_of_le Lg4 Sw57.2.2.size
      replace Lg5 := Nat.lt_of_lt_of_le Lg5 Sw57.2.2.size
      replace Lg6 := Nat.lt_of_lt_of_le Lg6 Sw57.2.2.size
      replace Lg10 := Nat.lt_of_lt_of_le Lg10 Sw57.2.2.size
      replace BE := BE.trans (Sw57.2.2.mono BE.size)
      refine wpL_assign (v := .int .u64 ((((limbN x i) * (limbN y k) % 18446744073709551616 + limbN M (i + k)) % 18446744073709551616 : Nat) : Int)) (by rfl) (by rfl) (by rfl) ?_
      simp only [putT, List.set]
      refine wpL_assign (v := .int .u64 ((((limbN x i) * (limbN y k) % 18446744073709551616 + limbN M (i + k)) / 18446744073709551616 : Nat) : Int)) (by rfl) (by rfl) (by rfl) ?_
      simp only [putT, List.set]
      refine wpL_nil (no_panic ?_)
      refine hK55 _ _ ?_
      refine wp_seq_k (fun K58 hK58 => ?_)
      refine wp_region_plain 6 (by kernel_rfl) (fun Lk hLk => ?_)
      simp only [List.take, List.drop]
      refine wpV_move (v := .int .u64 ((((limbN x i) * (limbN y k) % 18446744073709551616 + limbN M (i + k)) % 18446744073709551616 : Nat) : Int)) (by rfl) rfl rfl ?_
      simp only [putT, List.set]
      refine wpV_move (v := .int .u64 ((c : Nat) : Int)) (by rfl) rfl rfl ?_
      simp only [putT, List.set]
      refine wpV_ext (v := .tuple #[.int .u64 (((((limbN x i) * (limbN y k) % 18446744073709551616 + limbN M (i + k)) % 18446744073709551616 + c) % 18446744073709551616 : Nat) : Int), .int .u64 (((((limbN x i) * (limbN y k) % 18446744073709551616 + limbN M (i + k)) % 18446744073709551616 + c) / 18446744073709551616 : Nat) : Int)]) (f := 43) (args := #[.int .u64 ((((limbN x i) * (limbN y k) % 18446744073709551616 + limbN M (i + k)) % 18446744073709551616 : Nat) : Int), .int .u64 ((c : Nat) : Int), .int .u64 0]) (by rfl) rfl rfl (addN (x := ((limbN x i) * (limbN y k) % 18446744073709551616 + limbN M (i + k)) % 18446744073709551616) (y := c) (c := 0) (Nat.mod_lt _ (by decide)) (by omega) (by omega)) ?_
      simp only [putT, List.set]
      refine wpV_move (v := .tuple #[.int .u64 (((((limbN x i) * (limbN y k) % 18446744073709551616 + limbN M (i + k)) % 18446744073709551616 + c) % 18446744073709551616 : Nat) : Int), .int .u64 (((((limbN x i) * (limbN y k) % 18446744073709551616 + limbN M (i + k)) % 18446744073709551616 + c) / 18446744073709551616 : Nat) : Int)]) (by rfl) rfl rfl ?_
      simp only [putT, List.set]
      refine wpV_extract (v := .int .u64 (((((limbN x i) * (limbN y k) % 18446744073709551616 + limbN M (i + k)) % 18446744073709551616 + c) % 18446744073709551616 : Nat) : Int)) (by rfl) rfl rfl rfl ?_
      simp only [putT, List.set]
      refine wpV_extract (v := .int .u64 (((((limbN x i) * (limbN y k) % 18446744073709551616 + limbN M (i + k)) % 18446744073709551616 + c) / 18446744073709551616 : Nat) : Int)) (by rfl) rfl rfl rfl ?_
      simp only [putT, List.set]
      refine wpV_nil (hLk.out _ ?_)
      clear hLk Lk
      simp only [List.take, List.drop]
      iterate 6 refine wpN_skip (by rfl) ?_
      refine wpN_nil (fun w60 Sw60 hbs => ?_)
      clear hbs
      replace Rg3_0 := range_sees Rg3_0 Lg3 Sw60
      replace Tg3 := there_sees Tg3 Lg3 Sw60
      replace Rg4_0 := range_sees Rg4_0 Lg4 Sw60
      replace Tg4 := there_sees Tg4 Lg4 Sw60
      replace Rg5_0 := range_sees Rg5_0 Lg5 Sw60
      replace Tg5 := there_sees Tg5 Lg5 Sw60
      replace Rg6_0 := range_sees Rg6_0 Lg6 Sw60
      replace Tg6 := there_sees Tg6 Lg6 Sw60
      replace Rg10_0 := range_sees Rg10_0 Lg10 Sw60
      replace Tg10 := there_sees Tg10 Lg10 Sw60
      replace Lg3 := Nat.lt_of_lt_of_le Lg3 Sw60.2.2.size
      replace Lg4 := Nat.lt_of_lt_of_le Lg4 Sw60.2.2.size
      replace Lg5 := Nat.lt_of_lt_of_le Lg5 Sw60.2.2.size
      replace Lg6 := Nat.lt_of_lt_of_le Lg6 Sw60.2.2.size
      replace Lg10 := Nat.lt_of_lt_of_le Lg10 Sw60.2.2.size
      replace BE := BE.trans (Sw60.2.2.mono BE.size)
      refine wpL_assign (v := .int .u64 (((((limbN x i) * (limbN y k) % 18446744073709551616 + limbN M (i + k)) % 18446744073709551616 + c) % 18446744073709551616 : Nat) : Int)) (by rfl) (by rfl) (by rfl) ?_
      simp only [putT, List.set]
      refine wpL_assign (v := .int .u64 (((((limbN x i) * (limbN y k) % 18446744073709551616 + limbN M (i + k)) % 18446744073709551616 + c) / 18446744073709551616 : Nat) : Int)) (by rfl) (by rfl) (by rfl) ?_
      simp only [putT, List.set]
      refine wpL_nil (no_panic ?_)
      refine hK58 _ _ ?_
      refine wp_region_plain 10 (by kernel_rfl) (fun Lk hLk => ?_)
      simp only [List.take, List.drop]
      refine wpV_move (v := .int .i64 ((i : Nat) : Int)) (by rfl) rfl rfl ?_
      simp only [putT, List.set]
      refine wpV_move (v := .int .i64 ((k : Nat) : Int)) (by rfl) rfl rfl ?_
      simp only [putT, List.set]
      refine wpV_bin (v := .int .i64 ((i + k : Nat) : Int)) (by rfl) rfl rfl rfl (fun W => run_add (by simp only [IntKind.wrap_i64]; omega) W) ?_
      simp only [putT, List.set]
      refine wpV_move (v := .int .u64 (((((limbN x i) * (limbN y k) % 18446744073709551616 + limbN M (i + k)) % 18446744073709551616 + c) % 18446744073709551616 : Nat) : Int)) (by rfl) rfl rfl ?_
      simp only [putT, List.set]
      refine wpV_move (v := .int .u64 (((limbN x i) * (limbN y k) / 18446744073709551616 : Nat) : Int)) (by rfl) rfl rfl ?_
      simp only [putT, List.set]
      refine wpV_move (v := .int .u64 ((((limbN x i) * (limbN y k) % 18446744073709551616 + limbN M (i + k)) / 18446744073709551616 : Nat) : Int)) (by rfl) rfl rfl ?_
      simp only [putT, List.set]
      refine wpV_bin (v := .int .u64 ((limbN x i * limbN y k / 18446744073709551616 + (limbN x i * limbN y k % 18446744073709551616 + limbN M (i + k)) / 18446744073709551616 : Nat) : Int)) (by rfl) rfl rfl rfl (fun W => run_add (by have := (wide_parts HW).2; unfold wideC at this; rw [wrap_u64]; omega) W) ?_
      simp only [putT, List.set]
      refine wpV_move (v := .int .u64 (((((limbN x i) * (limbN y k) % 18446744073709551616 + limbN M (i + k)) % 18446744073709551616 + c) / 18446744073709551616 : Nat) : Int)) (by rfl) rfl rfl ?_
      simp only [putT, List.set]
      refine wpV_bin (v := .int .u64 ((wideC x y i k M c : Nat) : Int)) (by rfl) rfl rfl rfl (fun W => run_add (by have := (wide_parts HW).2; unfold wideC at this ⊢; rw [wrap_u64]; omega) W) ?_
      simp only [putT, List.set]
      refine wpV_idx (n := i + k) (by rfl) rfl rfl rfl Try.underlying57 info22 (by omega) ?_
      simp only [Nat.zero_add]
      simp only [putT, List.set]
      refine wpV_nil (hLk.out _ ?_)
      clear hLk Lk
      simp only [List.take, List.drop]
      iterate 10 refine wpN_skip (by rfl) ?_
      refine wpN_nil (fun w62 Sw62 hbs => ?_)
      clear hbs
      replace Rg3_0 := range_sees Rg3_0 Lg3 Sw62
      replace Tg3 := there_sees Tg3 Lg3 Sw62
      replace Rg4_0 := range_sees Rg4_0 Lg4 Sw62
      replace Tg4 := there_sees Tg4 Lg4 Sw62
      replace Rg5_0 := range_sees Rg5_0 Lg5 Sw62
      replace Tg5 := there_sees Tg5 Lg5 Sw62
      replace Rg6_0 := range_sees Rg6_0 Lg6 Sw62
      replace Tg6 := there_sees Tg6 Lg6 Sw62
      replace Rg10_0 := range_sees Rg10_0 Lg10 Sw62
      replace Tg10 := there_sees Tg10 Lg10 Sw62
      replace Lg3 := Nat.lt_of_lt_of_le Lg3 Sw62.2.2.size
      replace Lg4 := Nat.lt_of_lt_of_le Lg4 Sw62.2.2.size
      replace Lg5 := Nat.lt_of_lt_of_le Lg5 Sw62.2.2.size
      replace Lg6 := Nat.lt_of_lt_of_le Lg6 Sw62.2.2.size
      replace Lg10 := Nat.lt_of_lt_of_le Lg10 Sw62.2.2.size
      replace BE := BE.trans (Sw62.2.2.mono BE.size)
      refine wpL_store1 (g := g10) (off := i + k) (n := 8) (v := .int .u64 (((((limbN x i) * (limbN y k) % 18446744073709551616 + limbN M (i + k)) % 18446744073709551616 + c) % 18446744073709551616 : Nat) : Int)) (by rfl) (by rfl) (by rfl) (by rfl) (by rfl) Tg10 (by omega) info22 rfl (fun w63 Pw63 RR TT => ?_)
      replace Rg3_0 := Pw63.range Rg3_0 (.inl Ng3_g10)
      replace Tg3 := Pw63.other_there Tg3 Ng3_g10
      replace Rg4_0 := Pw63.range Rg4_0 (.inl Ng4_g10)
      replace Tg4 := Pw63.other_there Tg4 Ng4_g10
      replace Rg5_0 := Pw63.range Rg5_0 (.inl Ng5_g10)
      replace Tg5 := Pw63.other_there Tg5 Ng5_g10
      replace Rg6_0 := Pw63.range Rg6_0 (.inl Ng6_g10)
      replace Tg6 := Pw63.other_there Tg6 Ng6_g10
      replace Rg10_0 := range_set Rg10_0 Pw63 RR
      clear RR
      replace Tg10 := TT
      replace Lg3 := Pw63.lt Lg3
      replace Lg4 := Pw63.lt Lg4
      replace Lg5 := Pw63.lt Lg5
      replace Lg6 := Pw63.lt Lg6
      replace Lg10 := Pw63.lt Lg10
      replace BE := Pw63.below BE Gg10
      rw [show ((((limbN x i) * (limbN y k) % 18446744073709551616 + limbN M (i + k)) % 18446744073709551616 + c) % 18446744073709551616) = wideLo x y i k M c from rfl, wl_set (wideM_eq x y i k M c) (wideLo_lt x y i k M c)] at Rg10_0
      refine wpL_assign (v := .int .u64 ((wideC x y i k M c : Nat) : Int)) (by rfl) (by rfl) (by rfl) ?_
      simp only [putT, List.set]
      refine wpL_nil (no_panic ?_)
      refine hK48 _ _ ?_
      refine wp_region_plain 1 (by kernel_rfl) (fun Lk hLk => ?_)
      simp only [List.take, List.drop]
      refine wpV_bin (v := .int .i64 ((k + 1 : Nat) : Int)) (by rfl) rfl rfl rfl (fun W => run_add (by simp only [IntKind.wrap_i64]; omega) W) ?_
      simp only [putT, List.set]
      refine wpV_nil (hLk.out _ ?_)
      clear hLk Lk
      simp only [List.take, List.drop]
      iterate 1 refine wpN_skip (by rfl) ?_
      refine wpN_nil (fun w65 Sw65 hbs => ?_)
      clear hbs
      replace Rg3_0 := range_sees Rg3_0 Lg3 Sw65
      replace Tg3 := there_sees Tg3 Lg3 Sw65
      replace Rg4_0 := range_sees Rg4_0 Lg4 Sw65
      replace Tg4 := there_sees Tg4 Lg4 Sw65
      replace Rg5_0 := range_sees Rg5_0 Lg5 Sw65
      replace Tg5 := there_sees Tg5 Lg5 Sw65
      replace Rg6_0 := range_sees Rg6_0 Lg6 Sw65
      replace Tg6 := there_sees Tg6 Lg6 Sw65
      replace Rg10_0 := range_sees Rg10_0 Lg10 Sw65
      replace Tg10 := there_sees Tg10 Lg10 Sw65
      replace Lg3 := Nat.lt_of_lt_of_le Lg3 Sw65.2.2.size
      replace Lg4 := Nat.lt_of_lt_of_le Lg4 Sw65.2.2.size
      replace Lg5 := Nat.lt_of_lt_of_le Lg5 Sw65.2.2.size
      replace Lg6 := Nat.lt_of_lt_of_le Lg6 Sw65.2.2.size
      replace Lg10 := Nat.lt_of_lt_of_le Lg10 Sw65.2.2.size
      replace BE := BE.trans (Sw65.2.2.mono BE.size)
      refine wpL_move (v := .int .i64 ((k + 1 : Nat) : Int)) (by rfl) (by rfl) (by rfl) ?_
      simp only [putT, List.set]
      refine wpL_nil (no_panic ?_)
      refine then_normal ⟨_, ?_, (k + 1), (wideM x y i k M c), (wideC x y i k M c), (fun q9 => (#[undef, undef, undef, undef, undef, undef, undef, undef, undef, undef, .int .i64 ((k : Nat) : Int), .int .u64 ((limbN y k : Nat) : Int), .int .u64 (((limbN x i) * (limbN y k) / 18446744073709551616 : Nat) : Int), .int .u64 (((limbN x i) * (limbN y k) % 18446744073709551616 : Nat) : Int), .int .u64 ((((limbN x i) * (limbN y k) % 18446744073709551616 + limbN M (i + k)) % 18446744073709551616 : Nat) : Int), .int .u64 ((((limbN x i) * (limbN y k) % 18446744073709551616 + limbN M (i + k)) / 18446744073709551616 : Nat) : Int), .int .u64 (((((limbN x i) * (limbN y k) % 18446744073709551616 + limbN M (i + k)) % 18446744073709551616 + c) % 18446744073709551616 : Nat) : Int), .int .u64 (((((limbN x i) * (limbN y k) % 18446744073709551616 + limbN M (i + k)) % 18446744073709551616 + c) / 18446744073709551616 : Nat) : Int), undef, undef, undef, undef, undef, undef, undef, .bool true, .int .i64 ((k : Nat) : Int), .int .u64 ((limbN y k : Nat) : Int), .tuple #[.int .u64 (((limbN x i) * (limbN y k) / 18446744073709551616 : Nat) : Int), .int .u64 (((limbN x i) * (limbN y k) % 18446744073709551616 : Nat) : Int)], .int .u64 ((limbN x i : Nat) : Int), .int .u64 ((limbN y k : Nat) : Int), .tuple #[.int .u64 (((limbN x i) * (limbN y k) / 18446744073709551616 : Nat) : Int), .int .u64 (((limbN x i) * (limbN y k) % 18446744073709551616 : Nat) : Int)], .int .u64 (((limbN x i) * (limbN y k) / 18446744073709551616 : Nat) : Int), .int .u64 (((limbN x i) * (limbN y k) % 18446744073709551616 : Nat) : Int), .tuple #[.int .u64 ((((limbN x i) * (limbN y k) % 18446744073709551616 + limbN M (i + k)) % 18446744073709551616 : Nat) : Int), .int .u64 ((((limbN x i) * (limbN y k) % 18446744073709551616 + limbN M (i + k)) / 18446744073709551616 : Nat) : Int)], .int .u64 (((limbN x i) * (limbN y k) % 18446744073709551616 : Nat) : Int), .int .i64 ((i : Nat) : Int), .int .i64 ((k : Nat) : Int), .int .i64 ((i + k : Nat) : Int), .pointer (some ⟨g10, i + k, none⟩), .int .u64 ((limbN M (i + k) : Nat) : Int), .tuple #[.int .u64 ((((limbN x i) * (limbN y k) % 18446744073709551616 + limbN M (i + k)) % 18446744073709551616 : Nat) : Int), .int .u64 ((((limbN x i) * (limbN y k) % 18446744073709551616 + limbN M (i + k)) / 18446744073709551616 : Nat) : Int)], .int .u64 ((((limbN x i) * (limbN y k) % 18446744073709551616 + limbN M (i + k)) % 18446744073709551616 : Nat) : Int), .int .u64 ((((limbN x i) * (limbN y k) % 18446744073709551616 + limbN M (i + k)) / 18446744073709551616 : Nat) : Int), .tuple #[.int .u64 (((((limbN x i) * (limbN y k) % 18446744073709551616 + limbN M (i + k)) % 18446744073709551616 + c) % 18446744073709551616 : Nat) : Int), .int .u64 (((((limbN x i) * (limbN y k) % 18446744073709551616 + limbN M (i + k)) % 18446744073709551616 + c) / 18446744073709551616 : Nat) : Int)], .int .u64 ((((limbN x i) * (limbN y k) % 18446744073709551616 + limbN M (i + k)) % 18446744073709551616 : Nat) : Int), .int .u64 ((c : Nat) : Int), .tuple #[.int .u64 (((((limbN x i) * (limbN y k) % 18446744073709551616 + limbN M (i + k)) % 18446744073709551616 + c) % 18446744073709551616 : Nat) : Int), .int .u64 (((((limbN x i) * (limbN y k) % 18446744073709551616 + limbN M (i + k)) % 18446744073709551616 + c) / 18446744073709551616 : Nat) : Int)], .int .u64 (((((limbN x i) * (limbN y k) % 18446744073709551616 + limbN M (i + k)) % 18446744073709551616 + c) % 18446744073709551616 : Nat) : Int), .int .u64 (((((limbN x i) * (limbN y k) % 18446744073709551616 + limbN M (i + k)) % 18446744073709551616 + c) / 18446744073709551616 : Nat) : Int), .int .i64 ((i : Nat) : Int), .int .i64 ((k : Nat) : Int), .int .i64 ((i + k : Nat) : Int), .int .u64 (((((limbN x i) * (limbN y k) % 18446744073709551616 + limbN M (i + k)) % 18446744073709551616 + c) % 18446744073709551616 : Nat) : Int), .int .u64 (((limbN x i) * (limbN y k) / 18446744073709551616 : Nat) : Int), .int .u64 ((((limbN x i) * (limbN y k) % 18446744073709551616 + limbN M (i + k)) / 18446744073709551616 : Nat) : Int), .int .u64 ((limbN x i * limbN y k / 18446744073709551616 + (limbN x i * limbN y k % 18446744073709551616 + limbN M (i + k)) / 18446744073709551616 : Nat) : Int), .int .u64 (((((limbN x i) * (limbN y k) % 18446744073709551616 + limbN M (i + k)) % 18446744073709551616 + c) / 18446744073709551616 : Nat) : Int), .int .u64 ((wideC x y i k M c : Nat) : Int), .pointer (some ⟨g10, i + k, none⟩), .int .i64 ((k + 1 : Nat) : Int)] : Array Value).getD q9 undef), rfl, rfl, BE, Rg3_0, Tg3, Lg3, Rg4_0, Tg4, Lg4, Rg5_0, Tg5, Lg5, Rg6_0, Tg6, Lg6, Rg10_0, Tg10, Lg10, (by omega), (wide_step hk HW)⟩
      omega
end Go.Proofs.Ya
