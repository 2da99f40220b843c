import Derived.Test.YticdlngpljdhkaaF16
set_option linter.unusedSimpArgs false
set_option linter.unusedVariables false
namespace Go.Proofs.Ya
open Go Go.RowKit Go.Shelf Go.Proofs.Num
set_option maxHeartbeats 1000000 in
theorem rsub04_c {x : Nat} (hx : x < 2 ^ 256) {y : Nat} (hy : y < 2 ^ 256) {w : World}  :
    Calls Try.prog 29 #[fe x, fe y] w fun e w' => e = .returned (fe (fsub x y)) ∧ Below w.heap.size w w' := by
  have hl : leastF y < pF := Nat.mod_lt _ (by decide)
  have hl16 : dlen (leastF y) ≤ 16 := by rw [← dlen_pF]; exact dlen_mono (Nat.le_of_lt hl)
  have hd16 : dlen (pF - leastF y) ≤ 16 := by rw [← dlen_pF]; exact dlen_mono (Nat.sub_le _ _)
  have hs17 : dlen (x + (pF - leastF y)) ≤ 17 := (dlen_le _ _).2 (Nat.lt_of_lt_of_le (Nat.add_lt_add_of_lt_of_le hx (Nat.sub_le pF (leastF y))) (by decide))
  go_enter Try.func29, Try.ntmps29
  have BE := Below.refl w.heap.size w
  refine wp_seq_k (fun K1 hK1 => ?_)
  refine wp_region_plain 3 (by kernel_rfl) (fun Lk hLk => ?_)
  simp only [List.take, List.drop]
  refine wpV_alloc (by rfl) ?_
  refine wpV_alloc (by rfl) ?_
  refine wpV_alloc (by rfl) ?_
  refine wpV_nil (hLk.out _ ?_)
  clear hLk Lk
  simp only [List.take, List.drop]
  refine wpN_new (t := 34) (cs := (fel x).toArray) (by rfl) (fun W => ?_) (fun g3 Hg3 ng3 => ?_)
  · (first | rfl | go_simp)
  refine wpN_new (t := 34) (cs := (fel y).toArray) (by rfl) (fun W => ?_) (fun g4 Hg4 ng4 => ?_)
  · (first | rfl | go_simp)
  refine wpN_new (t := 34) (cs := ([.int .u64 0, .int .u64 0, .int .u64 0, .int .u64 0]).toArray) (by rfl) (fun W => ?_) (fun g5 Hg5 ng5 => ?_)
  · go_simp
  simp only [putT, List.set]
  refine wpN_nil (fun w6 Sw6 hbs => ?_)
  have Bg3 : Blk w6 g3 34 (fel x).toArray := hbs _ (List.mem_cons_of_mem _ (List.mem_cons_of_mem _ (List.mem_cons_self ..)))
  have Bg4 : Blk w6 g4 34 (fel y).toArray := hbs _ (List.mem_cons_of_mem _ (List.mem_cons_self ..))
  have Bg5 : Blk w6 g5 34 ([.int .u64 0, .int .u64 0, .int .u64 0, .int .u64 0]).toArray := hbs _ (List.mem_cons_self ..)
  clear hbs
  have Gg3 : w.heap.size ≤ g3 := Nat.le_trans BE.size Hg3
  have Ng3_g4 : g3 ≠ g4 := ng4 (g3, _, _) (List.mem_cons_self ..)
  have Gg4 : w.heap.size ≤ g4 := Nat.le_trans BE.size Hg4
  have Ng3_g5 : g3 ≠ g5 := ng5 (g3, _, _) (List.mem_cons_of_mem _ (List.mem_cons_self ..))
  have Ng4_g5 : g4 ≠ g5 := ng5 (g4, _, _) (List.mem_cons_self ..)
  have Gg5 : w.heap.size ≤ g5 := Nat.le_trans BE.size Hg5
  replace BE := BE.trans (Sw6.2.2.mono BE.size)
  have Tg3 := blk_there Bg3 (n := 4) (by simp [flen])
  have Rg3_0 := blk_range Bg3 (l := fel x) rfl
  have Lg3 := Bg3.lt
  have Tg4 := blk_there Bg4 (n := 4) (by simp [flen])
  have Rg4_0 := blk_range Bg4 (l := fel y) rfl
  have Lg4 := Bg4.lt
  have Tg5 := blk_there Bg5 (n := 4) (by simp [flen])
  have Rg5_0 := blk_range Bg5 (l := [.int .u64 0, .int .u64 0, .int .u64 0, .int .u64 0]) rfl
  have Lg5 := Bg5.lt
  clear ng3 ng4 ng5 Bg3 Bg4 Bg5
  refine wpL_nil (no_panic ?_)
  refine hK1 _ _ ?_
  refine wp_seq_k (fun K7 hK7 => ?_)
  refine wp_region_tree (by kernel_rfl) (fun w9 Sw9 => ?_)
  replace Rg3_0 := range_sees Rg3_0 Lg3 Sw9
  replace Tg3 := there_sees Tg3 Lg3 Sw9
  replace Rg4_0 := range_sees Rg4_0 Lg4 Sw9
  replace Tg4 := there_sees Tg4 Lg4 Sw9
  replace Rg5_0 := range_sees Rg5_0 Lg5 Sw9
  replace Tg5 := there_sees Tg5 Lg5 Sw9
  replace Lg3 := Nat.lt_of_lt_of_le Lg3 Sw9.2.2.size
  replace Lg4 := Nat.lt_of_lt_of_le Lg4 Sw9.2.2.size
  replace Lg5 := Nat.lt_of_lt_of_le Lg5 Sw9.2.2.size
  replace BE := BE.trans (Sw9.2.2.mono BE.size)
  refine any_step [0, 1] (by kernel_rfl) rfl (any_two ?_ (any_one ?_))
  · skip
    refine any_opL 0 (by rfl) ?_
    simp only [List.take, List.drop]
    refine wpL_callE (f := 56) (args := #[]) (R := NewRow w9 16 (dl 16 pF)) (by rfl) (by rfl) rfl Try.func56 (by kernel_rfl) (by kernel_rfl) (prime04_c) (fun v9 w11 hv9 Sw11 => ?_)
    obtain ⟨g10, g10c, rfl, Cg10, Hg10, Lg10, Rg10_0⟩ := hv9
    have Ng3_g10 : g3 ≠ g10 := Nat.ne_of_lt (Nat.lt_of_lt_of_le Lg3 Hg10)
    have Ng4_g10 : g4 ≠ g10 := Nat.ne_of_lt (Nat.lt_of_lt_of_le Lg4 Hg10)
    have Ng5_g10 : g5 ≠ g10 := Nat.ne_of_lt (Nat.lt_of_lt_of_le Lg5 Hg10)
    have Gg10 : w.heap.size ≤ g10 := Nat.le_trans BE.size Hg10
    replace Rg3_0 := range_sees Rg3_0 Lg3 Sw11
    replace Tg3 := there_sees Tg3 Lg3 Sw11
    replace Rg4_0 := range_sees Rg4_0 Lg4 Sw11
    replace Tg4 := there_sees Tg4 Lg4 Sw11
    replace Rg5_0 := range_sees Rg5_0 Lg5 Sw11
    replace Tg5 := there_sees Tg5 Lg5 Sw11
    replace Lg3 := Nat.lt_of_lt_of_le Lg3 Sw11.2.2.size
    replace Lg4 := Nat.lt_of_lt_of_le Lg4 Sw11.2.2.size
    replace Lg5 := Nat.lt_of_lt_of_le Lg5 Sw11.2.2.size
    replace BE := BE.trans (Sw11.2.2.mono BE.size)
    simp only [putT, List.set]
    refine wpL_nil (then_normal ?_)
    refine any_rest 1 (by rfl) (by kernel_rfl) ?_
    simp only [List.take, List.drop]
    refine wpL_chunk 2 (by rfl) (fun Lk hLk => ?_)
    simp only [List.take, List.drop]
    refine wpV_load (cs := fel y) (by rfl) rfl rfl Rg4_0 Lg4 Try.underlying34 rfl info34 ?_
    simp only [putT, List.set]
    refine wpV_callf (v := fe (leastF y)) (args := #[fe y]) (by rfl) rfl Try.func25 (by kernel_rfl) (by kernel_rfl) rfl (fun W hW => rleast04_c hy) ?_
    simp only [putT, List.set]
    refine wpV_nil (hLk _ (fun w12 Sw12 => ?_))
    clear hLk Lk
    simp only [List.take, List.drop]
    replace Rg3_0 := range_sees Rg3_0 Lg3 Sw12
    replace Tg3 := there_sees Tg3 Lg3 Sw12
    replace Rg4_0 := range_sees Rg4_0 Lg4 Sw12
    replace Tg4 := there_sees Tg4 Lg4 Sw12
    replace Rg5_0 := range_sees Rg5_0 Lg5 Sw12
    replace Tg5 := there_sees Tg5 Lg5 Sw12
    replace Rg10_0 := range_sees Rg10_0 Lg10 Sw12
    replace Lg3 := Nat.lt_of_lt_of_le Lg3 Sw12.2.2.size
    replace Lg4 := Nat.lt_of_lt_of_le Lg4 Sw12.2.2.size
    replace Lg5 := Nat.lt_of_lt_of_le Lg5 Sw12.2.2.size
    replace Lg10 := Nat.lt_of_lt_of_le Lg10 Sw12.2.2.size
    replace BE := BE.trans (Sw12.2.2.mono BE.size)
    refine wpL_callE (f := 47) (args := #[fe (leastF y)]) (R := NewRow w12 16 (dl 16 (leastF y))) (by rfl) (by rfl) rfl Try.func47 (by kernel_rfl) (by kernel_rfl) (digits_c (leastF_lt _)) (fun v9 w14 hv9 Sw14 => ?_)
    obtain ⟨g13, g13c, rfl, Cg13, Hg13, Lg13, Rg13_0⟩ := hv9
    have Ng3_g13 : g3 ≠ g13 := Nat.ne_of_lt (Nat.lt_of_lt_of_le Lg3 Hg13)
    have Ng4_g13 : g4 ≠ g13 := Nat.ne_of_lt (Nat.lt_of_lt_of_le Lg4 Hg13)
    have Ng5_g13 : g5 ≠ g13 := Nat.ne_of_lt (Nat.lt_of_lt_of_le Lg5 Hg13)
    have Ng10_g13 : g10 ≠ g13 := Nat.ne_of_lt (Nat.lt_of_lt_of_le Lg10 Hg13)
    have Gg13 : w.heap.size ≤ g13 := Nat.le_trans BE.size Hg13
    replace Rg3_0 := range_sees Rg3_0 Lg3 Sw14
    replace Tg3 := there_sees Tg3 Lg3 Sw14
    replace Rg4_0 := range_sees Rg4_0 Lg4 Sw14
    replace Tg4 := there_sees Tg4 Lg4 Sw14
    replace Rg5_0 := range_sees Rg5_0 Lg5 Sw14
    replace Tg5 := there_sees Tg5 Lg5 Sw14
    replace Rg10_0 := range_sees Rg10_0 Lg10 Sw14
    replace Lg3 := Nat.lt_of_lt_of_le Lg3 Sw14.2.2.size
    replace Lg4 := Nat.lt_of_lt_of_le Lg4 Sw14.2.2.size
    replace Lg5 := Nat.lt_of_lt_of_le Lg5 Sw14.2.2.size
    replace Lg10 := Nat.lt_of_lt_of_le Lg10 Sw14.2.2.size
    replace BE := BE.trans (Sw14.2.2.mono BE.size)
    simp only [putT, List.set]
    refine wpL_chunk 1 (by rfl) (fun Lk hLk => ?_)
    simp only [List.take, List.drop]
    refine wpV_callf (v := .slice (some ⟨g13, 0, none⟩) (dlen (leastF y)) g13c) (args := #[.slice (some ⟨g13, 0, none⟩) 16 g13c]) (by rfl) rfl Try.func57 (by kernel_rfl) (by kernel_rfl) rfl (fun W hW => trim_c (x := (leastF y)) (by omega) (Nat.lt_trans hl (by decide)) Cg13 (Nat.lt_of_lt_of_le Lg13 hW.2.2.size) (range_sees Rg13_0 Lg13 hW)) ?_
    simp only [putT, List.set]
    refine wpV_nil (hLk _ (fun w15 Sw15 => ?_))
    clear hLk Lk
    simp only [List.take, List.drop]
    replace Rg3_0 := range_sees Rg3_0 Lg3 Sw15
    replace Tg3 := there_sees Tg3 Lg3 Sw15
    replace Rg4_0 := range_sees Rg4_0 Lg4 Sw15
    replace Tg4 := there_sees Tg4 Lg4 Sw15
    replace Rg5_0 := range_sees Rg5_0 Lg5 Sw15
    replace Tg5 := there_sees Tg5 Lg5 Sw15
    replace Rg10_0 := range_sees Rg10_0 Lg10 Sw15
    replace Rg13_0 := range_sees Rg13_0 Lg13 Sw15
    replace Lg3 := Nat.lt_of_lt_of_le Lg3 Sw15.2.2.size
    replace Lg4 := Nat.lt_of_lt_of_le Lg4 Sw15.2.2.size
    replace Lg5 := Nat.lt_of_lt_of_le Lg5 Sw15.2.2.size
    replace Lg10 := Nat.lt_of_lt_of_le Lg10 Sw15.2.2.size
    replace Lg13 := Nat.lt_of_lt_of_le Lg13 Sw15.2.2.size
    replace BE := BE.trans (Sw15.2.2.mono BE.size)
    refine wpL_callE (f := 55) (args := #[.slice (some ⟨g10, 0, none⟩) 16 g10c, .slice (some ⟨g13, 0, none⟩) (dlen (leastF y)) g13c]) (R := NewRow w15 (dlen (pF - (leastF y))) (dl (dlen (pF - (leastF y))) (pF - (leastF y)))) (by rfl) (by rfl) rfl Try.func55 (by kernel_rfl) (by kernel_rfl) (minus04_c (n := 16) (x := pF) (m := dlen (leastF y)) (y := (leastF y)) (by omega) (by omega) (by decide) (dlen_lt _) (Nat.le_of_lt hl) Cg10 Lg10 Rg10_0 (Nat.le_trans ((dlen_le _ _).2 (Nat.lt_trans hl (by decide))) Cg13) Lg13 (range_dl_take (m := dlen (leastF y)) Rg13_0 ((dlen_le _ _).2 (Nat.lt_trans hl (by decide))))) (fun v9 w17 hv9 Sw17 => ?_)
    obtain ⟨g16, g16c, rfl, Cg16, Hg16, Lg16, Rg16_0⟩ := hv9
    have Ng3_g16 : g3 ≠ g16 := Nat.ne_of_lt (Nat.lt_of_lt_of_le Lg3 Hg16)
    have Ng4_g16 : g4 ≠ g16 := Nat.ne_of_lt (Nat.lt_of_lt_of_le Lg4 Hg16)
    have Ng5_g16 : g5 ≠ g16 := Nat.ne_of_lt (Nat.lt_of_lt_of_le Lg5 Hg16)
    have Ng10_g16 : g10 ≠ g16 := Nat.ne_of_lt (Nat.lt_of_lt_of_le Lg10 Hg16)
    have Ng13_g16 : g13 ≠ g16 := Nat.ne_of_lt (Nat.lt_of_lt_of_le Lg13 Hg16)
    have Gg16 : w.heap.size ≤ g16 := Nat.le_trans BE.size Hg16
    replace Rg3_0 := range_sees Rg3_0 Lg3 Sw17
    replace Tg3 := there_sees Tg3 Lg3 Sw17
    replace Rg4_0 := range_sees Rg4_0 Lg4 Sw17
    replace Tg4 := there_sees Tg4 Lg4 Sw17
    replace Rg5_0 := range_sees Rg5_0 Lg5 Sw17
    replace Tg5 := there_sees Tg5 Lg5 Sw17
    replace Rg10_0 := range_sees Rg10_0 Lg10 Sw17
    replace Rg13_0 := range_sees Rg13_0 Lg13 Sw17
    replace Lg3 := Nat.lt_of_lt_of_le Lg3 Sw17.2.2.size
    replace Lg4 := Nat.lt_of_lt_of_le Lg4 Sw17.2.2.size
    replace Lg5 := Nat.lt_of_lt_of_le Lg5 Sw17.2.2.size
    replace Lg10 := Nat.lt_of_lt_of_le Lg10 Sw17.2.2.size
    replace Lg13 := Nat.lt_of_lt_of_le Lg13 Sw17.2.2.size
    replace BE := BE.trans (Sw17.2.2.mono BE.size)
    simp only [putT, List.set]
    refine wpL_assign (v := .slice (some ⟨g16, 0, none⟩) (dlen (pF - (leastF y))) g16c) (by rfl) (by rfl) (by rfl) ?_
    simp only [putT, List.set]
    refine wpL_nil ?_
    refine hK7 _ _ ?_
    refine wp_seq_k (fun K18 hK18 => ?_)
    refine wp_region_seq ?_
    refine wpL_chunk 1 (by rfl) (fun Lk hLk => ?_)
    simp only [List.take, List.drop]
    refine wpV_load (cs := fel x) (by rfl) rfl rfl Rg3_0 Lg3 Try.underlying34 rfl info34 ?_
    simp only [putT, List.set]
    refine wpV_nil (hLk _ (fun w20 Sw20 => ?_))
    clear hLk Lk
    simp only [List.take, List.drop]
    replace Rg3_0 := range_sees Rg3_0 Lg3 Sw20
    replace Tg3 := there_sees Tg3 Lg3 Sw20
    replace Rg4_0 := range_sees Rg4_0 Lg4 Sw20
    replace Tg4 := there_sees Tg4 Lg4 Sw20
    replace Rg5_0 := range_sees Rg5_0 Lg5 Sw20
    replace Tg5 := there_sees Tg5 Lg5 Sw20
    replace Rg10_0 := range_sees Rg10_0 Lg10 Sw20
    replace Rg13_0 := range_sees Rg13_0 Lg13 Sw20
    replace Rg16_0 := range_sees Rg16_0 Lg16 Sw20
    replace Lg3 := Nat.lt_of_lt_of_le Lg3 Sw20.2.2.size
    replace Lg4 := Nat.lt_of_lt_of_le Lg4 Sw20.2.2.size
    replace Lg5 := Nat.lt_of_lt_of_le Lg5 Sw20.2.2.size
    replace Lg10 := Nat.lt_of_lt_of_le Lg10 Sw20.2.2.size
    replace Lg13 := Nat.lt_of_lt_of_le Lg13 Sw20.2.2.size
    replace Lg16 := Nat.lt_of_lt_of_le Lg16 Sw20.2.2.size
    replace BE := BE.trans (Sw20.2.2.mono BE.size)
    refine wpL_callE (f := 47) (args := #[fe x]) (R := NewRow w20 16 (dl 16 x)) (by rfl) (by rfl) rfl Try.func47 (by kernel_rfl) (by kernel_rfl) (digits_c hx) (fun v9 w22 hv9 Sw22 => ?_)
    obtain ⟨g21, g21c, rfl, Cg21, Hg21, Lg21, Rg21_0⟩ := hv9
    have Ng3_g21 : g3 ≠ g21 := Nat.ne_of_lt (Nat.lt_of_lt_of_le Lg3 Hg21)
    have Ng4_g21 : g4 ≠ g21 := Nat.ne_of_lt (Nat.lt_of_lt_of_le Lg4 Hg21)
    have Ng5_g21 : g5 ≠ g21 := Nat.ne_of_lt (Nat.lt_of_lt_of_le Lg5 Hg21)
    have Ng10_g21 : g10 ≠ g21 := Nat.ne_of_lt (Nat.lt_of_lt_of_le Lg10 Hg21)
    have Ng13_g21 : g13 ≠ g21 := Nat.ne_of_lt (Nat.lt_of_lt_of_le Lg13 Hg21)
    have Ng16_g21 : g16 ≠ g21 := Nat.ne_of_lt (Nat.lt_of_lt_of_le Lg16 Hg21)
    have Gg21 : w.heap.size ≤ g21 := Nat.le_trans BE.size Hg21
    replace Rg3_0 := range_sees Rg3_0 Lg3 Sw22
    replace Tg3 := there_sees Tg3 Lg3 Sw22
    replace Rg4_0 := range_sees Rg4_0 Lg4 Sw22
    replace Tg4 := there_sees Tg4 Lg4 Sw22
    replace Rg5_0 := range_sees Rg5_0 Lg5 Sw22
    replace Tg5 := there_sees Tg5 Lg5 Sw22
    replace Rg10_0 := range_sees Rg10_0 Lg10 Sw22
    replace Rg13_0 := range_sees Rg13_0 Lg13 Sw22
    replace Rg16_0 := range_sees Rg16_0 Lg16 Sw22
    replace Lg3 := Nat.lt_of_lt_of_le Lg3 Sw22.2.2.size
    replace Lg4 := Nat.lt_of_lt_of_le Lg4 Sw22.2.2.size
    replace Lg5 := Nat.lt_of_lt_of_le Lg5 Sw22.2.2.size
    replace Lg10 := Nat.lt_of_lt_of_le Lg10 Sw22.2.2.size
    replace Lg13 := Nat.lt_of_lt_of_le Lg13 Sw22.2.2.size
    replace Lg16 := Nat.lt_of_lt_of_le Lg16 Sw22.2.2.size
    replace BE := BE.trans (Sw22.2.2.mono BE.size)
    simp only [putT, List.set]
    refine wpL_move (v := .slice (some ⟨g16, 0, none⟩) (dlen (pF - (leastF y))) g16c) (by rfl) (by rfl) (by rfl) ?_
    simp only [putT, List.set]
    refine wpL_callE (f := 48) (args := #[.slice (some ⟨g21, 0, none⟩) 16 g21c, .slice (some ⟨g16, 0, none⟩) (dlen (pF - (leastF y))) g16c]) (R := NewRow w22 (dlen (x + (pF - (leastF y)))) (dl (dlen (x + (pF - (leastF y)))) (x + (pF - (leastF y))))) (by rfl) (by rfl) rfl Try.func48 (by kernel_rfl) (by kernel_rfl) (plus04_c (n := 16) (x := x) (m := dlen (pF - (leastF y))) (y := (pF - (leastF y))) (by omega) (by omega) hx (dlen_lt _) Cg21 Lg21 Rg21_0 Cg16 Lg16 Rg16_0) (fun v9 w24 hv9 Sw24 => ?_)
    obtain ⟨g23, g23c, rfl, Cg23, Hg23, Lg23, Rg23_0⟩ := hv9
    have Ng3_g23 : g3 ≠ g23 := Nat.ne_of_lt (Nat.lt_of_lt_of_le Lg3 Hg23)
    have Ng4_g23 : g4 ≠ g23 := Nat.ne_of_lt (Nat.lt_of_lt_of_le Lg4 Hg23)
    have Ng5_g23 : g5 ≠ g23 := Nat.ne_of_lt (Nat.lt_of_lt_of_le Lg5 Hg23)
    have Ng10_g23 : g10 ≠ g23 := Nat.ne_of_lt (Nat.lt_of_lt_of_le Lg10 Hg23)
    have Ng13_g23 : g13 ≠ g23 := Nat.ne_of_lt (Nat.lt_of_lt_of_le Lg13 Hg23)
    have Ng16_g23 : g16 ≠ g23 := Nat.ne_of_lt (Nat.lt_of_lt_of_le Lg16 Hg23)
    have Ng21_g23 : g21 ≠ g23 := Nat.ne_of_lt (Nat.lt_of_lt_of_le Lg21 Hg23)
    have Gg23 : w.heap.size ≤ g23 := Nat.le_trans BE.size Hg23
    replace Rg3_0 := range_sees Rg3_0 Lg3 Sw24
    replace Tg3 := there_sees Tg3 Lg3 Sw24
    replace Rg4_0 := range_sees Rg4_0 Lg4 Sw24
    replace Tg4 := there_sees Tg4 Lg4 Sw24
    replace Rg5_0 := range_sees Rg5_0 Lg5 Sw24
    replace Tg5 := there_sees Tg5 Lg5 Sw24
    replace Rg10_0 := range_sees Rg10_0 Lg10 Sw24
    replace Rg13_0 := range_sees Rg13_0 Lg13 Sw24
    replace Rg16_0 := range_sees Rg16_0 Lg16 Sw24
    replace Rg21_0 := range_sees Rg21_0 Lg21 Sw24
    replace Lg3 := Nat.lt_of_lt_of_le Lg3 Sw24.2.2.size
    replace Lg4 := Nat.lt_of_lt_of_le Lg4 Sw24.2.2.size
    replace Lg5 := Nat.lt_of_lt_of_le Lg5 Sw24.2.2.size
    replace Lg10 := Nat.lt_of_lt_of_le Lg10 Sw24.2.2.size
    replace Lg13 := Nat.lt_of_lt_of_le Lg13 Sw24.2.2.size
    replace Lg16 := Nat.lt_of_lt_of_le Lg16 Sw24.2.2.size
    replace Lg21 := Nat.lt_of_lt_of_le Lg21 Sw24.2.2.size
    replace BE := BE.trans (Sw24.2.2.mono BE.size)
    simp only [putT, List.set]
    refine wpL_chunk 1 (by rfl) (fun Lk hLk => ?_)
    simp only [List.take, List.drop]
    refine wpV_callf (v := fe (leastF (x + (pF - (leastF y))))) (args := #[.slice (some ⟨g23, 0, none⟩) (dlen (x + (pF - (leastF y)))) g23c]) (by rfl) rfl Try.func52 (by kernel_rfl) (by kernel_rfl) rfl (fun W hW => fold_c (n := dlen (x + (pF - (leastF y)))) (x := (x + (pF - (leastF y)))) (by omega) (dlen_lt _) Cg23 (Nat.lt_of_lt_of_le Lg23 hW.2.2.size) (range_sees Rg23_0 Lg23 hW)) ?_
    simp only [putT, List.set]
    refine wpV_nil (hLk _ (fun w25 Sw25 => ?_))
    clear hLk Lk
    simp only [List.take, List.drop]
    replace Rg3_0 := range_sees Rg3_0 Lg3 Sw25
    replace Tg3 := there_sees Tg3 Lg3 Sw25
    replace Rg4_0 := range_sees Rg4_0 Lg4 Sw25
    replace Tg4 := there_sees Tg4 Lg4 Sw25
    replace Rg5_0 := range_sees Rg5_0 Lg5 Sw25
    replace Tg5 := there_sees Tg5 Lg5 Sw25
    replace Rg10_0 := range_sees Rg10_0 Lg10 Sw25
    replace Rg13_0 := range_sees Rg13_0 Lg13 Sw25
    replace Rg16_0 := range_sees Rg16_0 Lg16 Sw25
    replace Rg21_0 := range_sees Rg21_0 Lg21 Sw25
    replace Rg23_0 := range_sees Rg23_0 Lg23 Sw25
    replace Lg3 := Nat.lt_of_lt_of_le Lg3 Sw25.2.2.size
    replace Lg4 := Nat.lt_of_lt_of_le Lg4 Sw25.2.2.size
    replace Lg5 := Nat.lt_of_lt_of_le Lg5 Sw25.2.2.size
    replace Lg10 := Nat.lt_of_lt_of_le Lg10 Sw25.2.2.size
    replace Lg13 := Nat.lt_of_lt_of_le Lg13 Sw25.2.2.size
    replace Lg16 := Nat.lt_of_lt_of_le Lg16 Sw25.2.2.size
    replace Lg21 := Nat.lt_of_lt_of_le Lg21 Sw25.2.2.size
    replace Lg23 := Nat.lt_of_lt_of_le Lg23 Sw25.2.2.size
    replace BE := BE.trans (Sw25.2.2.mono BE.size)
    refine wpL_store (g := g5) (off := 0) (n := 4) (cs := fel (leastF (x + (pF - (leastF y))))) (by rfl) (by rfl) (by rfl) (by rfl) (by rfl) Tg5 (by simp [flen]) info34 (fel_one _) (fun w26 Pw26 RR TT => ?_)
    replace Rg3_0 := Pw26.range Rg3_0 (.inl Ng3_g5)
    replace Tg3 := Pw26.other_there Tg3 Ng3_g5
    replace Rg4_0 := Pw26.range Rg4_0 (.inl Ng4_g5)
    replace Tg4 := Pw26.other_there Tg4 Ng4_g5
    replace Rg10_0 := Pw26.range Rg10_0 (.inl (Ne.symm Ng5_g10))
    replace Rg13_0 := Pw26.range Rg13_0 (.inl (Ne.symm Ng5_g13))
    replace Rg16_0 := Pw26.range Rg16_0 (.inl (Ne.symm Ng5_g16))
    replace Rg21_0 := Pw26.range Rg21_0 (.inl (Ne.symm Ng5_g21))
    replace Rg23_0 := Pw26.range Rg23_0 (.inl (Ne.symm Ng5_g23))
    replace Rg5_0 := RR
    clear RR
    replace Tg5 := TT
    replace Lg3 := Pw26.lt Lg3
    replace Lg4 := Pw26.lt Lg4
    replace Lg5 := Pw26.lt Lg5
    replace Lg10 := Pw26.lt Lg10
    replace Lg13 := Pw26.lt Lg13
    replace Lg16 := Pw26.lt Lg16
    replace Lg21 := Pw26.lt Lg21
    replace Lg23 := Pw26.lt Lg23
    replace BE := Pw26.below BE Gg5
    refine wpL_nil (no_panic ?_)
    refine hK18 _ _ ?_
    refine wp_ret ?_
    repeat (first | with_reducible refine then_ret ?_ | with_reducible refine inblock_ret ?_)
    refine bodyPost_ret (v := fe (leastF (x + (pF - (leastF y))))) (res1 rfl (.cell (by rfl) (run_loadVar_mid _ _ _ _ (fel (leastF (x + (pF - (leastF y))))) _ Rg5_0 Try.underlying34 rfl info34))) rfl ?_
    exact ⟨rfl, BE⟩
  · skip
    refine any_opL 1 (by rfl) ?_
    simp only [List.take, List.drop]
    refine wpL_chunk 1 (by rfl) (fun Lk hLk => ?_)
    simp only [List.take, List.drop]
    refine wpV_load (cs := fel y) (by rfl) rfl rfl Rg4_0 Lg4 Try.underlying34 rfl info34 ?_
    simp only [putT, List.set]
    refine wpV_nil (hLk _ (fun w27 Sw27 => ?_))
    clear hLk Lk
    simp only [List.take, List.drop]
    replace Rg3_0 := range_sees Rg3_0 Lg3 Sw27
    replace Tg3 := there_sees Tg3 Lg3 Sw27
    replace Rg4_0 := range_sees Rg4_0 Lg4 Sw27
    replace Tg4 := there_sees Tg4 Lg4 Sw27
    replace Rg5_0 := range_sees Rg5_0 Lg5 Sw27
    replace Tg5 := there_sees Tg5 Lg5 Sw27
    replace Lg3 := Nat.lt_of_lt_of_le Lg3 Sw27.2.2.size
    replace Lg4 := Nat.lt_of_lt_of_le Lg4 Sw27.2.2.size
    replace Lg5 := Nat.lt_of_lt_of_le Lg5 Sw27.2.2.size
    replace BE := BE.trans (Sw27.2.2.mono BE.size)
    refine wpL_nil (then_normal ?_)
    refine any_step [0] (by kernel_rfl) rfl (any_one ?_)
    refine any_opL 0 (by rfl) ?_
    simp only [List.take, List.drop]
    refine wpL_callE (f := 56) (args := #[]) (R := NewRow w27 16 (dl 16 pF)) (by rfl) (by rfl) rfl Try.func56 (by kernel_rfl) (by kernel_rfl) (prime04_c) (fun v9 w29 hv9 Sw29 => ?_)
    obtain ⟨g28, g28c, rfl, Cg28, Hg28, Lg28, Rg28_0⟩ := hv9
    have Ng3_g28 : g3 ≠ g28 := Nat.ne_of_lt (Nat.lt_of_lt_of_le Lg3 Hg28)
    have Ng4_g28 : g4 ≠ g28 := Nat.ne_of_lt (Nat.lt_of_lt_of_le Lg4 Hg28)
    have Ng5_g28 : g5 ≠ g28 := Nat.ne_of_lt (Nat.lt_of_lt_of_le Lg5 Hg28)
    have Gg28 : w.heap.size ≤ g28 := Nat.le_trans BE.size Hg28
    replace Rg3_0 := range_sees Rg3_0 Lg3 Sw29
    replace Tg3 := there_sees Tg3 Lg3 Sw29
    replace Rg4_0 := range_sees Rg4_0 Lg4 Sw29
    replace Tg4 := there_sees Tg4 Lg4 Sw29
    replace Rg5_0 := range_sees Rg5_0 Lg5 Sw29
    replace Tg5 := there_sees Tg5 Lg5 Sw29
    replace Lg3 := Nat.lt_of_lt_of_le Lg3 Sw29.2.2.size
    replace Lg4 := Nat.lt_of_lt_of_le Lg4 Sw29.2.2.size
    replace Lg5 := Nat.lt_of_lt_of_le Lg5 Sw29.2.2.size
    replace BE := BE.trans (Sw29.2.2.mono BE.size)
    simp only [putT, List.set]
    refine wpL_nil (then_normal ?_)
    refine any_rest 2 (by rfl) (by kernel_rfl) ?_
    simp only [List.take, List.drop]
    refine wpL_chunk 1 (by rfl) (fun Lk hLk => ?_)
    simp only [List.take, List.drop]
    refine wpV_callf (v := fe (leastF y)) (args := #[fe y]) (by rfl) rfl Try.func25 (by kernel_rfl) (by kernel_rfl) rfl (fun W hW => rleast04_c hy) ?_
    simp only [putT, List.set]
    refine wpV_nil (hLk _ (fun w30 Sw30 => ?_))
    clear hLk Lk
    simp only [List.take, List.drop]
    replace Rg3_0 := range_sees Rg3_0 Lg3 Sw30
    replace Tg3 := there_sees Tg3 Lg3 Sw30
    replace Rg4_0 := range_sees Rg4_0 Lg4 Sw30
    replace Tg4 := there_sees Tg4 Lg4 Sw30
    replace Rg5_0 := range_sees Rg5_0 Lg5 Sw30
    replace Tg5 := there_sees Tg5 Lg5 Sw30
    replace Rg28_0 := range_sees Rg28_0 Lg28 Sw30
    replace Lg3 := Nat.lt_of_lt_of_le Lg3 Sw30.2.2.size
    replace Lg4 := Nat.lt_of_lt_of_le Lg4 Sw30.2.2.size
    replace Lg5 := Nat.lt_of_lt_of_le Lg5 Sw30.2.2.size
    replace Lg28 := Nat.lt_of_lt_of_le Lg28 Sw30.2.2.size
    replace BE := BE.trans (Sw30.2.2.mono BE.size)
    refine wpL_callE (f := 47) (args := #[fe (leastF y)]) (R := NewRow w30 16 (dl 16 (leastF y))) (by rfl) (by rfl) rfl Try.func47 (by kernel_rfl) (by kernel_rfl) (digits_c (leastF_lt _)) (fun v9 w32 hv9 Sw32 => ?_)
    obtain ⟨g31, g31c, rfl, Cg31, Hg31, Lg31, Rg31_0⟩ := hv9
    have Ng3_g31 : g3 ≠ g31 := Nat.ne_of_lt (Nat.lt_of_lt_of_le Lg3 Hg31)
    have Ng4_g31 : g4 ≠ g31 := Nat.ne_of_lt (Nat.lt_of_lt_of_le Lg4 Hg31)
    have Ng5_g31 : g5 ≠ g31 := Nat.ne_of_lt (Nat.lt_of_lt_of_le Lg5 Hg31)
    have Ng28_g31 : g28 ≠ g31 := Nat.ne_of_lt (Nat.lt_of_lt_of_le Lg28 Hg31)
    have Gg31 : w.heap.size ≤ g31 := Nat.le_trans BE.size Hg31
    replace Rg3_0 := range_sees Rg3_0 Lg3 Sw32
    replace Tg3 := there_sees Tg3 Lg3 Sw32
    replace Rg4_0 := range_sees Rg4_0 Lg4 Sw32
    replace Tg4 := there_sees Tg4 Lg4 Sw32
    replace Rg5_0 := range_sees Rg5_0 Lg5 Sw32
    replace Tg5 := there_sees Tg5 Lg5 Sw32
    replace Rg28_0 := range_sees Rg28_0 Lg28 Sw32
    replace Lg3 := Nat.lt_of_lt_of_le Lg3 Sw32.2.2.size
    replace Lg4 := Nat.lt_of_lt_of_le Lg4 Sw32.2.2.size
    replace Lg5 := Nat.lt_of_lt_of_le Lg5 Sw32.2.2.size
    replace Lg28 := Nat.lt_of_lt_of_le Lg28 Sw32.2.2.size
    replace BE := BE.trans (Sw32.2.2.mono BE.size)
    simp only [putT, List.set]
    refine wpL_chunk 1 (by rfl) (fun Lk hLk => ?_)
    simp only [List.take, List.drop]
    refine wpV_callf (v := .slice (some ⟨g31, 0, none⟩) (dlen (leastF y)) g31c) (args := #[.slice (some ⟨g31, 0, none⟩) 16 g31c]) (by rfl) rfl Try.func57 (by kernel_rfl) (by kernel_rfl) rfl (fun W hW => trim_c (x := (leastF y)) (by omega) (Nat.lt_trans hl (by decide)) Cg31 (Nat.lt_of_lt_of_le Lg31 hW.2.2.size) (range_sees Rg31_0 Lg31 hW)) ?_
    simp only [putT, List.set]
    refine wpV_nil (hLk _ (fun w33 Sw33 => ?_))
    clear hLk Lk
    simp only [List.take, List.drop]
    replace Rg3_0 := range_sees Rg3_0 Lg3 Sw33
    replace Tg3 := there_sees Tg3 Lg3 Sw33
    replace Rg4_0 := range_sees Rg4_0 Lg4 Sw33
    replace Tg4 := there_sees Tg4 Lg4 Sw33
    replace Rg5_0 := range_sees Rg5_0 Lg5 Sw33
    replace Tg5 := there_sees Tg5 Lg5 Sw33
    replace Rg28_0 := range_sees Rg28_0 Lg28 Sw33
    replace Rg31_0 := range_sees Rg31_0 Lg31 Sw33
    replace Lg3 := Nat.lt_of_lt_of_le Lg3 Sw33.2.2.size
    replace Lg4 := Nat.lt_of_lt_of_le Lg4 Sw33.2.2.size
    replace Lg5 := Nat.lt_of_lt_of_le Lg5 Sw33.2.2.size
    replace Lg28 := Nat.lt_of_lt_of_le Lg28 Sw33.2.2.size
    replace Lg31 := Nat.lt_of_lt_of_le Lg31 Sw33.2.2.size
    replace BE := BE.trans (Sw33.2.2.mono BE.size)
    refine wpL_callE (f := 55) (args := #[.slice (some ⟨g28, 0, none⟩) 16 g28c, .slice (some ⟨g31, 0, none⟩) (dlen (leastF y)) g31c]) (R := NewRow w33 (dlen (pF - (leastF y))) (dl (dlen (pF - (leastF y))) (pF - (leastF y)))) (by rfl) (by rfl) rfl Try.func55 (by kernel_rfl) (by kernel_rfl) (minus04_c (n := 16) (x := pF) (m := dlen (leastF y)) (y := (leastF y)) (by omega) (by omega) (by decide) (dlen_lt _) (Nat.le_of_lt hl) Cg28 Lg28 Rg28_0 (Nat.le_trans ((dlen_le _ _).2 (Nat.lt_trans hl (by decide))) Cg31) Lg31 (range_dl_take (m := dlen (leastF y)) Rg31_0 ((dlen_le _ _).2 (Nat.lt_trans hl (by decide))))) (fun v9 w35 hv9 Sw35 => ?_)
    obtain ⟨g34, g34c, rfl, Cg34, Hg34, Lg34, Rg34_0⟩ := hv9
    have Ng3_g34 : g3 ≠ g34 := Nat.ne_of_lt (Nat.lt_of_lt_of_le Lg3 Hg34)
    have Ng4_g34 : g4 ≠ g34 := Nat.ne_of_lt (Nat.lt_of_lt_of_le Lg4 Hg34)
    have Ng5_g34 : g5 ≠ g34 := Nat.ne_of_lt (Nat.lt_of_lt_of_le Lg5 Hg34)
    have Ng28_g34 : g28 ≠ g34 := Nat.ne_of_lt (Nat.lt_of_lt_of_le Lg28 Hg34)
    have Ng31_g34 : g31 ≠ g34 := Nat.ne_of_lt (Nat.lt_of_lt_of_le Lg31 Hg34)
    have Gg34 : w.heap.size ≤ g34 := Nat.le_trans BE.size Hg34
    replace Rg3_0 := range_sees Rg3_0 Lg3 Sw35
    replace Tg3 := there_sees Tg3 Lg3 Sw35
    replace Rg4_0 := range_sees Rg4_0 Lg4 Sw35
    replace Tg4 := there_sees Tg4 Lg4 Sw35
    replace Rg5_0 := range_sees Rg5_0 Lg5 Sw35
    replace Tg5 := there_sees Tg5 Lg5 Sw35
    replace Rg28_0 := range_sees Rg28_0 Lg28 Sw35
    replace Rg31_0 := range_sees Rg31_0 Lg31 Sw35
    replace Lg3 := Nat.lt_of_lt_of_le Lg3 Sw35.2.2.size
    replace Lg4 := Nat.lt_of_lt_of_le Lg4 Sw35.2.2.size
    replace Lg5 := Nat.lt_of_lt_of_le Lg5 Sw35.2.2.size
    replace Lg28 := Nat.lt_of_lt_of_le Lg28 Sw35.2.2.size
    replace Lg31 := Nat.lt_of_lt_of_le Lg31 Sw35.2.2.size
    replace BE := BE.trans (Sw35.2.2.mono BE.size)
    simp only [putT, List.set]
    refine wpL_assign (v := .slice (some ⟨g34, 0, none⟩) (dlen (pF - (leastF y))) g34c) (by rfl) (by rfl) (by rfl) ?_
    simp only [putT, List.set]
    refine wpL_nil ?_
    refine hK7 _ _ ?_
    refine wp_seq_k (fun K36 hK36 => ?_)
    refine wp_region_seq ?_
    refine wpL_chunk 1 (by rfl) (fun Lk hLk => ?_)
    simp only [List.take, List.drop]
    refine wpV_load (cs := fel x) (by rfl) rfl rfl Rg3_0 Lg3 Try.underlying34 rfl info34 ?_
    simp only [putT, List.set]
    refine wpV_nil (hLk _ (fun w38 Sw38 => ?_))
    clear hLk Lk
    simp only [List.take, List.drop]
    replace Rg3_0 := range_sees Rg3_0 Lg3 Sw38
    replace Tg3 := there_sees Tg3 Lg3 Sw38
    replace Rg4_0 := range_sees Rg4_0 Lg4 Sw38
    replace Tg4 := there_sees Tg4 Lg4 Sw38
    replace Rg5_0 := range_sees Rg5_0 Lg5 Sw38
    replace Tg5 := there_sees Tg5 Lg5 Sw38
    replace Rg28_0 := range_sees Rg28_0 Lg28 Sw38
    replace Rg31_0 := range_sees Rg31_0 Lg31 Sw38
    replace Rg34_0 := range_sees Rg34_0 Lg34 Sw38
    replace Lg3 := Nat.lt_of_lt_of_le Lg3 Sw38.2.2.size
    replace Lg4 := Nat.lt_of_lt_of_le Lg4 Sw38.2.2.size
    replace Lg5 := Nat.lt_of_lt_of_le Lg5 Sw38.2.2.size
    replace Lg28 := Nat.lt_of_lt_of_le Lg28 Sw38.2.2.size
    replace Lg31 := Nat.lt_of_lt_of_le Lg31 Sw38.2.2.size
    replace Lg34 := Nat.lt_of_lt_of_le Lg34 Sw38.2.2.size
    replace BE := BE.trans (Sw38.2.2.mono BE.size)
    refine wpL_callE (f := 47) (args := #[fe x]) (R := NewRow w38 16 (dl 16 x)) (by rfl) (by rfl) rfl Try.func47 (by kernel_rfl) (by kernel_rfl) (digits_c hx) (fun v9 w40 hv9 Sw40 => ?_)
    obtain ⟨g39, g39c, rfl, Cg39, Hg39, Lg39, Rg39_0⟩ := hv9
    have Ng3_g39 : g3 ≠ g39 := Nat.ne_of_lt (Nat.lt_of_lt_of_le Lg3 Hg39)
    have Ng4_g39 : g4 ≠ g39 := Nat.ne_of_lt (Nat.lt_of_lt_of_le Lg4 Hg39)
    have Ng5_g39 : g5 ≠ g39 := Nat.ne_of_lt (Nat.lt_of_lt_of_le Lg5 Hg39)
    have Ng28_g39 : g28 ≠ g39 := Nat.ne_of_lt (Nat.lt_of_lt_of_le Lg28 Hg39)
    have Ng31_g39 : g31 ≠ g39 := Nat.ne_of_lt (Nat.lt_of_lt_of_le Lg31 Hg39)
    have Ng34_g39 : g34 ≠ g39 := Nat.ne_of_lt (Nat.lt_of_lt_of_le Lg34 Hg39)
    have Gg39 : w.heap.size ≤ g39 := Nat.le_trans BE.size Hg39
    replace Rg3_0 := range_sees Rg3_0 Lg3 Sw40
    replace Tg3 := there_sees Tg3 Lg3 Sw40
    replace Rg4_0 := range_sees Rg4_0 Lg4 Sw40
    replace Tg4 := there_sees Tg4 Lg4 Sw40
    replace Rg5_0 := range_sees Rg5_0 Lg5 Sw40
    replace Tg5 := there_sees Tg5 Lg5 Sw40
    replace Rg28_0 := range_sees Rg28_0 Lg28 Sw40
    replace Rg31_0 := range_sees Rg31_0 Lg31 Sw40
    replace Rg34_0 := range_sees Rg34_0 Lg34 Sw40
    replace Lg3 := Nat.lt_of_lt_of_le Lg3 Sw40.2.2.size
    replace Lg4 := Nat.lt_of_lt_of_le Lg4 Sw40.2.2.size
    replace Lg5 := Nat.lt_of_lt_of_le Lg5 Sw40.2.2.size
    replace Lg28 := Nat.lt_of_lt_of_le Lg28 Sw40.2.2.size
    replace Lg31 := Nat.lt_of_lt_of_le Lg31 Sw40.2.2.size
    replace Lg34 := Nat.lt_of_lt_of_le Lg34 Sw40.2.2.size
    replace BE := BE.trans (Sw40.2.2.mono BE.size)
    simp only [putT, List.set]
    refine wpL_move (v := .slice (some ⟨g34, 0, none⟩) (dlen (pF - (leastF y))) g34c) (by rfl) (by rfl) (by rfl) ?_
    simp only [putT, List.set]
    refine wpL_callE (f := 48) (args := #[.slice (some ⟨g39, 0, none⟩) 16 g39c, .slice (some ⟨g34, 0, none⟩) (dlen (pF - (leastF y))) g34c]) (R := NewRow w40 (dlen (x + (pF - (leastF y)))) (dl (dlen (x + (pF - (leastF y)))) (x + (pF - (leastF y))))) (by rfl) (by rfl) rfl Try.func48 (by kernel_rfl) (by kernel_rfl) (plus04_c (n := 16) (x := x) (m := dlen (pF - (leastF y))) (y := (pF - (leastF y))) (by omega) (by omega) hx (dlen_lt _) Cg39 Lg39 Rg39_0 Cg34 Lg34 Rg34_0) (fun v9 w42 hv9 Sw42 => ?_)
    obtain ⟨g41, g41c, rfl, Cg41, Hg41, Lg41, Rg41_0⟩ := hv9
    have Ng3_g41 : g3 ≠ g41 := Nat.ne_of_lt (Nat.lt_of_lt_of_le Lg3 Hg41)
    have Ng4_g41 : g4 ≠ g41 := Nat.ne_of_lt (Nat.lt_of_lt_of_le Lg4 Hg41)
    have Ng5_g41 : g5 ≠ g41 := Nat.ne_of_lt (Nat.lt_of_lt_of_le Lg5 Hg41)
    have Ng28_g41 : g28 ≠ g41 := Nat.ne_of_lt (Nat.lt_of_lt_of_le Lg28 Hg41)
    have Ng31_g41 : g31 ≠ g41 := Nat.ne_of_lt (Nat.lt_of_lt_of_le Lg31 Hg41)
    have Ng34_g41 : g34 ≠ g41 := Nat.ne_of_lt (Nat.lt_of_lt_of_le Lg34 Hg41)
    have Ng39_g41 : g39 ≠ g41 := Nat.ne_of_lt (Nat.lt_of_lt_of_le Lg39 Hg41)
    have Gg41 : w.heap.size ≤ g41 := Nat.le_trans BE.size Hg41
    replace Rg3_0 := range_sees Rg3_0 Lg3 Sw42
    replace Tg3 := there_sees Tg3 Lg3 Sw42
    replace Rg4_0 := range_sees Rg4_0 Lg4 Sw42
    replace Tg4 := there_sees Tg4 Lg4 Sw42
    replace Rg5_0 := range_sees Rg5_0 Lg5 Sw42
    replace Tg5 := there_sees Tg5 Lg5 Sw42
    replace Rg28_0 := range_sees Rg28_0 Lg28 Sw42
    replace Rg31_0 := range_sees Rg31_0 Lg31 Sw42
    replace Rg34_0 := range_sees Rg34_0 Lg34 Sw42
    replace Rg39_0 := range_sees Rg39_0 Lg39 Sw42
    replace Lg3 := Nat.lt_of_lt_of_le Lg3 Sw42.2.2.size
    replace Lg4 := Nat.lt_of_lt_of_le Lg4 Sw42.2.2.size
    replace Lg5 := Nat.lt_of_lt_of_le Lg5 Sw42.2.2.size
    replace Lg28 := Nat.lt_of_lt_of_le Lg28 Sw42.2.2.size
    replace Lg31 := Nat.lt_of_lt_of_le Lg31 Sw42.2.2.size
    replace Lg34 := Nat.lt_of_lt_of_le Lg34 Sw42.2.2.size
    replace Lg39 := Nat.lt_of_lt_of_le Lg39 Sw42.2.2.size
    replace BE := BE.trans (Sw42.2.2.mono BE.size)
    simp only [putT, List.set]
    refine wpL_chunk 1 (by rfl) (fun Lk hLk => ?_)
    simp only [List.take, List.drop]
    refine wpV_callf (v := fe (leastF (x + (pF - (leastF y))))) (args := #[.slice (some ⟨g41, 0, none⟩) (dlen (x + (pF - (leastF y)))) g41c]) (by rfl) rfl Try.func52 (by kernel_rfl) (by kernel_rfl) rfl (fun W hW => fold_c (n := dlen (x + (pF - (leastF y)))) (x := (x + (pF - (leastF y)))) (by omega) (dlen_lt _) Cg41 (Nat.lt_of_lt_of_le Lg41 hW.2.2.size) (range_sees Rg41_0 Lg41 hW)) ?_
    simp only [putT, List.set]
    refine wpV_nil (hLk _ (fun w43 Sw43 => ?_))
    clear hLk Lk
    simp only [List.take, List.drop]
    replace Rg3_0 := range_sees Rg3_0 Lg3 Sw43
    replace Tg3 := there_sees Tg3 Lg3 Sw43
    replace Rg4_0 := range_sees Rg4_0 Lg4 Sw43
    replace Tg4 := there_sees Tg4 Lg4 Sw43
    replace Rg5_0 := range_sees Rg5_0 Lg5 Sw43
    replace Tg5 := there_sees Tg5 Lg5 Sw43
    replace Rg28_0 := range_sees Rg28_0 Lg28 Sw43
    replace Rg31_0 := range_sees Rg31_0 Lg31 Sw43
    replace Rg34_0 := range_sees Rg34_0 Lg34 Sw43
    replace Rg39_0 := range_sees Rg39_0 Lg39 Sw43
    replace Rg41_0 := range_sees Rg41_0 Lg41 Sw43
    replace Lg3 := Nat.lt_of_lt_of_le Lg3 Sw43.2.2.size
    replace Lg4 := Nat.lt_of_lt_of_le Lg4 Sw43.2.2.size
    replace Lg5 := Nat.lt_of_lt_of_le Lg5 Sw43.2.2.size
    replace Lg28 := Nat.lt_of_lt_of_le Lg28 Sw43.2.2.size
    replace Lg31 := Nat.lt_of_lt_of_le Lg31 Sw43.2.2.size
    replace Lg34 := Nat.lt_of_lt_of_le Lg34 Sw43.2.2.size
    replace Lg39 := Nat.lt_of_lt_of_le Lg39 Sw43.2.2.size
    replace Lg41 := Nat.lt_of_lt_of_le Lg41 Sw43.2.2.size
    replace BE := BE.trans (Sw43.2.2.mono BE.size)
    refine wpL_store (g := g5) (off := 0) (n := 4) (cs := fel (leastF (x + (pF - (leastF y))))) (by rfl) (by rfl) (by rfl) (by rfl) (by rfl) Tg5 (by simp [flen]) info34 (fel_one _) (fun w44 Pw44 RR TT => ?_)
    replace Rg3_0 := Pw44.range Rg3_0 (.inl Ng3_g5)
    replace Tg3 := Pw44.other_there Tg3 Ng3_g5
    replace Rg4_0 := Pw44.range Rg4_0 (.inl Ng4_g5)
    replace Tg4 := Pw44.other_there Tg4 Ng4_g5
    replace Rg28_0 := Pw44.range Rg28_0 (.inl (Ne.symm Ng5_g28))
    replace Rg31_0 := Pw44.range Rg31_0 (.inl (Ne.symm Ng5_g31))
    replace Rg34_0 := Pw44.range Rg34_0 (.inl (Ne.symm Ng5_g34))
    replace Rg39_0 := Pw44.range Rg39_0 (.inl (Ne.symm Ng5_g39))
    replace Rg41_0 := Pw44.range Rg41_0 (.inl (Ne.symm Ng5_g41))
    replace Rg5_0 := RR
    clear RR
    replace Tg5 := TT
    replace Lg3 := Pw44.lt Lg3
    replace Lg4 := Pw44.lt Lg4
    replace Lg5 := Pw44.lt Lg5
    replace Lg28 := Pw44.lt Lg28
    replace Lg31 := Pw44.lt Lg31
    replace Lg34 := Pw44.lt Lg34
    replace Lg39 := Pw44.lt Lg39
    replace Lg41 := Pw44.lt Lg41
    replace BE := Pw44.below BE Gg5
    refine wpL_nil (no_panic ?_)
    refine hK36 _ _ ?_
    refine wp_ret ?_
    repeat (first | with_reducible refine then_ret ?_ | with_reducible refine inblock_ret ?_)
    refine bodyPost_ret (v := fe (leastF (x + (pF - (leastF y))))) (res1 rfl (.cell (by rfl) (run_loadVar_mid _ _ _ _ (fel (leastF (x + (pF - (leastF y))))) _ Rg5_0 Try.underlying34 rfl info34))) rfl ?_
    exact ⟨rfl, BE⟩
set_option maxHeartbeats 1000000 in
theorem alive04_c  {w : World}  :
    Calls Try.prog 22 #[] w fun e w' => e = .returned (.bool true) ∧ Below w.heap.size w w' := by
  go_enter Try.func22, Try.ntmps22
  have BE := Below.refl w.heap.size w
  refine wp_seq_k (fun K1 hK1 => ?_)
  refine wp_region_plain 0 (by kernel_rfl) (fun Lk hLk => ?_)
  simp only [List.take, List.drop]
  refine wpV_nil (hLk.out _ ?_)
  clear hLk Lk
  simp only [List.take, List.drop]
  refine wpN_nil (fun w3 Sw3 hbs => ?_)
  clear hbs
  replace BE := BE.trans (Sw3.2.2.mono BE.size)
  refine wpL_assign (v := .bool false) (by rfl) (by rfl) (by rfl) ?_
  simp only [putT, List.set]
  refine wpL_nil (no_panic ?_)
  refine hK1 _ _ ?_
  refine wp_seq_k (fun K4 hK4 => ?_)
  refine wp_region_plain 12 (by kernel_rfl) (fun Lk hLk => ?_)
  simp only [List.take, List.drop]
  refine wpV_callf (v := fe 2) (args := #[.int .u64 2]) (by rfl) rfl Try.func23 (by kernel_rfl) (by kernel_rfl) rfl (fun W hW => of_c (n := 2) (by decide) W) ?_
  simp only [putT, List.set]
  refine wpV_callf (v := fe 3) (args := #[.int .u64 3]) (by rfl) rfl Try.func23 (by kernel_rfl) (by kernel_rfl) rfl (fun W hW => of_c (n := 3) (by decide) W) ?_
  simp only [putT, List.set]
  refine wpV_callf (v := fe (fmul 2 3)) (args := #[fe 2, fe 3]) (by rfl) rfl Try.func30 (by kernel_rfl) (by kernel_rfl) rfl (fun W hW => fmul_c (by decide) (by decide) W) ?_
  simp only [putT, List.set]
  refine wpV_val (v := fe 6) (by rfl) (by rfl) (fun W hW => ?_) ?_
  · rw [show fe 6 = .agg ([.int .u64 6, .int .u64 0, .int .u64 0, .int .u64 0]).toArray from (by kernel_rfl)]; unfold RunsVal; kernel_rfl
  simp only [putT, List.set]
  refine wpV_val (v := .bool true) (by rfl) (by rfl) (fun W hW => ?_) ?_
  · exact (show decide (fmul 2 3 = 6) = true by decide) ▸ run_eql_fe (fmul_lt ..) (by decide) Try.underlying34 Try.underlying22 info22 (by kernel_rfl) rfl rfl rfl W
  simp only [putT, List.set]
  refine wpV_move (v := .bool true) (by rfl) rfl rfl ?_
  simp only [putT, List.set]
  refine wpV_callf (v := fe 5) (args := #[.int .u64 5]) (by rfl) rfl Try.func23 (by kernel_rfl) (by kernel_rfl) rfl (fun W hW => of_c (n := 5) (by decide) W) ?_
  simp only [putT, List.set]
  refine wpV_callf (v := fe 3) (args := #[.int .u64 3]) (by rfl) rfl Try.func23 (by kernel_rfl) (by kernel_rfl) rfl (fun W hW => of_c (n := 3) (by decide) W) ?_
  simp only [putT, List.set]
  refine wpV_callf (v := fe (fsub 5 3)) (args := #[fe 5, fe 3]) (by rfl) rfl Try.func28 (by kernel_rfl) (by kernel_rfl) rfl (fun W hW => fsub_c (by decide) (by decide) W) ?_
  simp only [putT, List.set]
  refine wpV_val (v := fe 2) (by rfl) (by rfl) (fun W hW => ?_) ?_
  · rw [show fe 2 = .agg ([.int .u64 2, .int .u64 0, .int .u64 0, .int .u64 0]).toArray from (by kernel_rfl)]; unfold RunsVal; kernel_rfl
  simp only [putT, List.set]
  refine wpV_val (v := .bool true) (by rfl) (by rfl) (fun W hW => ?_) ?_
  · exact (show decide (fsub 5 3 = 2) = true by decide) ▸ run_eql_fe (fsub_lt ..) (by decide) Try.underlying34 Try.underlying22 info22 (by kernel_rfl) rfl rfl rfl W
  simp only [putT, List.set]
  refine wpV_pick (v := .bool true) (by rfl) rfl rfl rfl ?_
  simp only [putT, List.set]
  refine wpV_nil (hLk.out _ ?_)
  clear hLk Lk
  simp only [List.take, List.drop]
  iterate 12 refine wpN_skip (by rfl) ?_
  refine wpN_nil (fun w6 Sw6 hbs => ?_)
  clear hbs
  replace BE := BE.trans (Sw6.2.2.mono BE.size)
  refine wpL_assign (v := .bool true) (by rfl) (by rfl) (by rfl) ?_
  simp only [putT, List.set]
  refine wpL_nil (no_panic ?_)
  refine hK4 _ _ ?_
  refine wp_ret ?_
  repeat (first | with_reducible refine then_ret ?_ | with_reducible refine inblock_ret ?_)
  refine bodyPost_ret (v := .bool true) (res1 rfl (.tmp (by rfl))) rfl ?_
  exact ⟨rfl, BE⟩
set_option maxHeartbeats 4000000 in
theorem reckons04_c {x : Nat} (hx : x < 2 ^ 256) {y : Nat} (hy : y < 2 ^ 256) {n : Nat} (hn : n < 18446744073709551616) {w : World}  :
    Calls Try.prog 6 #[fe x, fe y, .int .u64 ((n : Nat) : Int)] w fun e w' => e = .returned (.bool true) ∧ Below w.heap.size w w' := by
  go_enter Try.func6, Try.ntmps6
  have BE := Below.refl w.heap.size w
  refine wp_seq_k (fun K1 hK1 => ?_)
  refine wp_region_plain 2 (by kernel_rfl) (fun Lk hLk => ?_)
  simp only [List.take, List.drop]
  refine wpV_alloc (by rfl) ?_
  refine wpV_alloc (by rfl) ?_
  refine wpV_nil (hLk.out _ ?_)
  clear hLk Lk
  simp only [List.take, List.drop]
  refine wpN_new (t := 34) (cs := (fel x).toArray) (by rfl) (fun W => ?_) (fun g3 Hg3 ng3 => ?_)
  · (first | rfl | go_simp)
  refine wpN_new (t := 34) (cs := (fel y).toArray) (by rfl) (fun W => ?_) (fun g4 Hg4 ng4 => ?_)
  · (first | rfl | go_simp)
  simp only [putT, List.set]
  refine wpN_nil (fun w5 Sw5 hbs => ?_)
  have Bg3 : Blk w5 g3 34 (fel x).toArray := hbs _ (List.mem_cons_of_mem _ (List.mem_cons_self ..))
  have Bg4 : Blk w5 g4 34 (fel y).toArray := hbs _ (List.mem_cons_self ..)
  clear hbs
  have Gg3 : w.heap.size ≤ g3 := Nat.le_trans BE.size Hg3
  have Ng3_g4 : g3 ≠ g4 := ng4 (g3, _, _) (List.mem_cons_self ..)
  have Gg4 : w.heap.size ≤ g4 := Nat.le_trans BE.size Hg4
  replace BE := BE.trans (Sw5.2.2.mono BE.size)
  have Tg3 := blk_there Bg3 (n := 4) (by simp [flen])
  have Rg3_0 := blk_range Bg3 (l := fel x) rfl
  have Lg3 := Bg3.lt
  have Tg4 := blk_there Bg4 (n := 4) (by simp [flen])
  have Rg4_0 := blk_range Bg4 (l := fel y) rfl
  have Lg4 := Bg4.lt
  clear ng3 ng4 Bg3 Bg4
  refine wpL_assign (v := .bool false) (by rfl) (by rfl) (by rfl) ?_
  simp only [putT, List.set]
  refine wpL_nil (no_panic ?_)
  refine hK1 _ _ ?_
  refine wp_seq_k (fun K6 hK6 => ?_)
  refine wp_region_grow 42 [] (by kernel_rfl) (by kernel_rfl) (by kernel_rfl) (fun Lk hLk => ?_)
  simp only [List.take, List.drop]
  refine wpV_callf (v := .bool true) (args := #[]) (by rfl) rfl Try.func22 (by kernel_rfl) (by kernel_rfl) rfl (fun W hW => alive04_c) ?_
  simp only [putT, List.set]
  refine wpV_move (v := .bool true) (by rfl) rfl rfl ?_
  simp only [putT, List.set]
  refine wpV_move (v := .int .u64 ((n : Nat) : Int)) (by rfl) rfl rfl ?_
  simp only [putT, List.set]
  refine wpV_callf (v := fe n) (args := #[.int .u64 ((n : Nat) : Int)]) (by rfl) rfl Try.func23 (by kernel_rfl) (by kernel_rfl) rfl (fun W hW => of_c (n := n) (by omega) W) ?_
  simp only [putT, List.set]
  refine wpV_move (v := .int .u64 ((n : Nat) : Int)) (by rfl) rfl rfl ?_
  simp only [putT, List.set]
  refine wpV_val (v := fe n) (by rfl) (by rfl) (fun W hW => ?_) ?_
  · rw [show fe n = .agg ([.int .u64 ((n : Nat) : Int), .int .u64 0, .int .u64 0, .int .u64 0]).toArray from (congrArg (fun l => Value.agg (List.toArray l)) (fel_of hn))]; unfold RunsVal; kernel_rfl
  simp only [putT, List.set]
  refine wpV_val (v := .bool true) (by rfl) (by rfl) (fun W hW => ?_) ?_
  · exact run_eql_fe_same (Nat.lt_trans hn (by decide)) Try.underlying34 Try.underlying22 info22 (by kernel_rfl) rfl rfl rfl W
  simp only [putT, List.set]
  refine wpV_pick (v := .bool true) (by rfl) rfl rfl rfl ?_
  simp only [putT, List.set]
  refine wpV_move (v := .bool true) (by rfl) rfl rfl ?_
  simp only [putT, List.set]
  refine wpV_load (cs := fel x) (by rfl) rfl rfl Rg3_0 Lg3 Try.underlying34 rfl info34 ?_
  simp only [putT, List.set]
  refine wpV_callf (v := fe (leastF x)) (args := #[fe x]) (by rfl) rfl Try.func24 (by kernel_rfl) (by kernel_rfl) rfl (fun W hW => least_c hx W) ?_
  simp only [putT, List.set]
  refine wpV_load (cs := fel x) (by rfl) rfl rfl Rg3_0 Lg3 Try.underlying34 rfl info34 ?_
  simp only [putT, List.set]
  refine wpV_callf (v := fe (leastF x)) (args := #[fe x]) (by rfl) rfl Try.func25 (by kernel_rfl) (by kernel_rfl) rfl (fun W hW => rleast04_c hx) ?_
  simp only [putT, List.set]
  refine wpV_val (v := .bool true) (by rfl) (by rfl) (fun W hW => ?_) ?_
  · exact run_eql_fe_same (leastF_lt ..) Try.underlying34 Try.underlying22 info22 (by kernel_rfl) rfl rfl rfl W
  simp only [putT, List.set]
  refine wpV_pick (v := .bool true) (by rfl) rfl rfl rfl ?_
  simp only [putT, List.set]
  refine wpV_move (v := .bool true) (by rfl) rfl rfl ?_
  simp only [putT, List.set]
  refine wpV_load (cs := fel x) (by rfl) rfl rfl Rg3_0 Lg3 Try.underlying34 rfl info34 ?_
  simp only [putT, List.set]
  refine wpV_load (cs := fel y) (by rfl) rfl rfl Rg4_0 Lg4 Try.underlying34 rfl info34 ?_
  simp only [putT, List.set]
  refine wpV_callf (v := fe (fadd x y)) (args := #[fe x, fe y]) (by rfl) rfl Try.func26 (by kernel_rfl) (by kernel_rfl) rfl (fun W hW => fadd_c hx hy W) ?_
  simp only [putT, List.set]
  refine wpV_load (cs := fel x) (by rfl) rfl rfl Rg3_0 Lg3 Try.underlying34 rfl info34 ?_
  simp only [putT, List.set]
  refine wpV_load (cs := fel y) (by rfl) rfl rfl Rg4_0 Lg4 Try.underlying34 rfl info34 ?_
  simp only [putT, List.set]
  refine wpV_callf (v := fe (fadd x y)) (args := #[fe x, fe y]) (by rfl) rfl Try.func27 (by kernel_rfl) (by kernel_rfl) rfl (fun W hW => radd04_c hx hy) ?_
  simp only [putT, List.set]
  refine wpV_val (v := .bool true) (by rfl) (by rfl) (fun W hW => ?_) ?_
  · exact run_eql_fe_same (fadd_lt ..) Try.underlying34 Try.underlying22 info22 (by kernel_rfl) rfl rfl rfl W
  simp only [putT, List.set]
  refine wpV_pick (v := .bool true) (by rfl) rfl rfl rfl ?_
  simp only [putT, List.set]
  refine wpV_move (v := .bool true) (by rfl) rfl rfl ?_
  simp only [putT, List.set]
  refine wpV_load (cs := fel x) (by rfl) rfl rfl Rg3_0 Lg3 Try.underlying34 rfl info34 ?_
  simp only [putT, List.set]
  refine wpV_load (cs := fel y) (by rfl) rfl rfl Rg4_0 Lg4 Try.underlying34 rfl info34 ?_
  simp only [putT, List.set]
  refine wpV_callf (v := fe (fsub x y)) (args := #[fe x, fe y]) (by rfl) rfl Try.func28 (by kernel_rfl) (by kernel_rfl) rfl (fun W hW => fsub_c hx hy W) ?_
  simp only [putT, List.set]
  refine wpV_load (cs := fel x) (by rfl) rfl rfl Rg3_0 Lg3 Try.underlying34 rfl info34 ?_
  simp only [putT, List.set]
  refine wpV_load (cs := fel y) (by rfl) rfl rfl Rg4_0 Lg4 Try.underlying34 rfl info34 ?_
  simp only [putT, List.set]
  refine wpV_callf (v := fe (fsub x y)) (args := #[fe x, fe y]) (by rfl) rfl Try.func29 (by kernel_rfl) (by kernel_rfl) rfl (fun W hW => rsub04_c hx hy) ?_
  simp only [putT, List.set]
  refine wpV_val (v := .bool true) (by rfl) (by rfl) (fun W hW => ?_) ?_
  · exact run_eql_fe_same (fsub_lt ..) Try.underlying34 Try.underlying22 info22 (by kernel_rfl) rfl rfl rfl W
  simp only [putT, List.set]
  refine wpV_pick (v := .bool true) (by rfl) rfl rfl rfl ?_
  simp only [putT, List.set]
  refine wpV_move (v := .bool true) (by rfl) rfl rfl ?_
  simp only [putT, List.set]
  refine wpV_load (cs := fel x) (by rfl) rfl rfl Rg3_0 Lg3 Try.underlying34 rfl info34 ?_
  simp only [putT, List.set]
  refine wpV_load (cs := fel y) (by rfl) rfl rfl Rg4_0 Lg4 Try.underlying34 rfl info34 ?_
  simp only [putT, List.set]
  refine wpV_callf (v := fe (fmul x y)) (args := #[fe x, fe y]) (by rfl) rfl Try.func30 (by kernel_rfl) (by kernel_rfl) rfl (fun W hW => fmul_c hx hy W) ?_
  simp only [putT, List.set]
  refine wpV_load (cs := fel x) (by rfl) rfl rfl Rg3_0 Lg3 Try.underlying34 rfl info34 ?_
  simp only [putT, List.set]
  refine wpV_load (cs := fel y) (by rfl) rfl rfl Rg4_0 Lg4 Try.underlying34 rfl info34 ?_
  simp only [putT, List.set]
  refine wpV_callf (v := fe (fmul x y)) (args := #[fe x, fe y]) (by rfl) rfl Try.func31 (by kernel_rfl) (by kernel_rfl) rfl (fun W hW => rmul04_c hx hy) ?_
  simp only [putT, List.set]
  refine wpV_val (v := .bool true) (by rfl) (by rfl) (fun W hW => ?_) ?_
  · exact run_eql_fe_same (fmul_lt ..) Try.underlying34 Try.underlying22 info22 (by kernel_rfl) rfl rfl rfl W
  simp only [putT, List.set]
  refine wpV_pick (v := .bool true) (by rfl) rfl rfl rfl ?_
  simp only [putT, List.set]
  refine wpV_nil (hLk.out _ ?_)
  clear hLk Lk
  simp only [List.take, List.drop]
  iterate 42 refine wpN_skip (by rfl) ?_
  refine wpN_nil (fun w8 Sw8 hbs => ?_)
  clear hbs
  replace Rg3_0 := range_sees Rg3_0 Lg3 Sw8
  replace Tg3 := there_sees Tg3 Lg3 Sw8
  replace Rg4_0 := range_sees Rg4_0 Lg4 Sw8
  replace Tg4 := there_sees Tg4 Lg4 Sw8
  replace Lg3 := Nat.lt_of_lt_of_le Lg3 Sw8.2.2.size
  replace Lg4 := Nat.lt_of_lt_of_le Lg4 Sw8.2.2.size
  replace BE := BE.trans (Sw8.2.2.mono BE.size)
  refine wpL_assign (v := .bool true) (by rfl) (by rfl) (by rfl) ?_
  simp only [putT, List.set]
  refine wpL_nil (no_panic ?_)
  refine hK6 _ _ ?_
  refine wp_ret ?_
  repeat (first | with_reducible refine then_ret ?_ | with_reducible refine inblock_ret ?_)
  refine bodyPost_ret (v := .bool true) (res1 rfl (.tmp (by rfl))) rfl ?_
  exact ⟨rfl, BE⟩
end Go.Proofs.Ya
