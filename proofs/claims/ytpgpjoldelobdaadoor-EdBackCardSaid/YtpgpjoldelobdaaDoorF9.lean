import Derived.Test.YtpgpjoldelobdaaDoorF8
import Derived.Test.YtpgpjoldelobdaaDoorShq
set_option linter.unusedSimpArgs false
set_option linter.unusedVariables false
namespace Go.Proofs.Ya
open Go Go.RowKit Go.Shelf Go.Proofs.Num
open Nat renaming lt_of_lt_of_le → Z0, zero_add → Z1, le_trans → Z2, ne_of_lt → Z3, mod_eq_of_lt → Z4
open List renaming set → Z5, take → Z6, drop → Z7
open Go renaming undef → Z8, wp_seq_k → Z9, wp_cond_true → Z10, wp_cond_false → Z11
open Go.Proofs.Num renaming putT → Z12, wpL_nil → Z14, no_panic → Z15, wpL_assign → Z18, wpV_nil → Z19, wpV_bin → Z20, wpV_move → Z21, wpL_store1 → Z23, wpV_val → Z24, wpV_callf → Z25, range_sees → Z26, there_sees → Z27, wpN_skip → Z28, wpN_nil → Z29, wp_region_plain → Z30, wpV_load → Z31, wpV_extract → Z32, wpL_store → Z33, wpV_load1 → Z34
set_option maxHeartbeats 1000000 in
theorem sparse_c (l : List UInt8) (w : World) :
  Calls Tryd.prog 52 #[.string (bs l)] w fun e w' => e = .returned (.tuple #[fe (sparseN l), .int .i64 (sparseE l)]) ∧ Below w.heap.size w w' := by
 go_enter Tryd.func52, Tryd.ntmps52
 have BE := Below.refl w.heap.size w
 refine Z9 (fun K1 hK1 => ?_)
 refine Z30 1 (by kernel_rfl) (fun Lk hLk => ?_)
 simp only [Z6, Z7]
 refine wpV_alloc (by rfl) ?_
 refine Z19 (hLk.out _ ?_)
 clear hLk Lk
 simp only [Z6, Z7]
 refine wpN_new (t := 80) (cs := ([.int .u64 0, .int .u64 0, .int .u64 0, .int .u64 0]).toArray) (by rfl) (fun W => ?_) (fun g3 Hg3 ng3 => ?_)
 ·
  go_simp
 simp only [Z12, Z5]
 refine Z29 (fun w4 Sw4 hbs => ?_)
 have Bg3 : Blk w4 g3 80 ([.int .u64 0, .int .u64 0, .int .u64 0, .int .u64 0]).toArray := hbs _ (List.mem_cons_self ..)
 clear hbs
 have Gg3 : w.heap.size ≤ g3 := Z2 BE.size Hg3
 replace BE := BE.trans (Sw4.2.2.mono BE.size)
 have Tg3 := blk_there Bg3 (n := 4) (by simp [flen])
 have Rg3_0 := blk_range Bg3 (l := [.int .u64 0, .int .u64 0, .int .u64 0, .int .u64 0]) rfl
 have Lg3 := Bg3.lt
 clear ng3 Bg3
 refine Z18 (v := .int .i64 0) (by rfl) (by rfl) (by rfl) ?_
 simp only [Z12, Z5]
 refine Z14 (Z15 ?_)
 refine hK1 _ _ ?_
 refine Z9 (fun K5 hK5 => ?_)
 refine Z9 (fun K6 hK6 => ?_)
 refine Z30 3 (by kernel_rfl) (fun Lk hLk => ?_)
 simp only [Z6, Z7]
 refine Z21 (v := .string (bs l)) (by rfl) rfl rfl ?_
 simp only [Z12, Z5]
 refine wpV_lenS (by rfl) rfl rfl rfl Tryd.underlying9 ?_
 simp only [Z12, Z5]
 refine Z20 (v := .bool (((l.length : Nat) : Int) != 32)) (by rfl) rfl rfl rfl (fun W => run_neq _ _ _ _ W) ?_
 simp only [Z12, Z5]
 refine Z19 (hLk.out _ ?_)
 clear hLk Lk
 simp only [Z6, Z7]
 iterate 3 refine Z28 (by rfl) ?_
 refine Z29 (fun w8 Sw8 hbs => ?_)
 clear hbs
 replace Rg3_0 := Z26 Rg3_0 Lg3 Sw8
 replace Tg3 := Z27 Tg3 Lg3 Sw8
 replace Lg3 := Z0 Lg3 Sw8.2.2.size
 replace BE := BE.trans (Sw8.2.2.mono BE.size)
 refine Z14 (Z15 ?_)
 refine hK6 _ _ ?_
 cases hc9 : (((l.length : Nat) : Int) != 32)
 ·
  have h32 : l.length = 32 := by have h9 := hc9; simp at h9; omega
  refine Z11 rfl ?_
  refine wp_skip ?_
  refine hK5 _ _ ?_
  refine Z9 (fun K10 hK10 => ?_)
  refine Z30 6 (by kernel_rfl) (fun Lk hLk => ?_)
  simp only [Z6, Z7]
  refine Z21 (v := .string (bs l)) (by rfl) rfl rfl ?_
  simp only [Z12, Z5]
  refine Z25 (v := .tuple #[fe (restS (leN l)), .int .i64 0]) (args := #[.string (bs l)]) (by rfl) rfl Tryd.func83 (by kernel_rfl) (by kernel_rfl) rfl (fun W hW => swide_c (l := l) (by omega) W) ?_
  simp only [Z12, Z5]
  refine Z21 (v := .tuple #[fe (restS (leN l)), .int .i64 0]) (by rfl) rfl rfl ?_
  simp only [Z12, Z5]
  refine Z32 (v := fe (restS (leN l))) (by rfl) rfl rfl rfl ?_
  simp only [Z12, Z5]
  refine Z32 (v := .int .i64 0) (by rfl) rfl rfl rfl ?_
  simp only [Z12, Z5]
  refine wpV_alloc (by rfl) ?_
  refine Z19 (hLk.out _ ?_)
  clear hLk Lk
  simp only [Z6, Z7]
  iterate 5 refine Z28 (by rfl) ?_
  refine wpN_new (t := 80) (cs := ([.int .u64 0, .int .u64 0, .int .u64 0, .int .u64 0]).toArray) (by rfl) (fun W => ?_) (fun g12 Hg12 ng12 => ?_)
  ·
   go_simp
  simp only [Z12, Z5]
  refine Z29 (fun w13 Sw13 hbs => ?_)
  have Bg12 : Blk w13 g12 80 ([.int .u64 0, .int .u64 0, .int .u64 0, .int .u64 0]).toArray := hbs _ (List.mem_cons_self ..)
  clear hbs
  have Ng3_g12 : g3 ≠ g12 := Z3 (Z0 Lg3 Hg12)
  have Gg12 : w.heap.size ≤ g12 := Z2 BE.size Hg12
  replace Rg3_0 := Z26 Rg3_0 Lg3 Sw13
  replace Tg3 := Z27 Tg3 Lg3 Sw13
  replace Lg3 := Z0 Lg3 Sw13.2.2.size
  replace BE := BE.trans (Sw13.2.2.mono BE.size)
  have Tg12 := blk_there Bg12 (n := 4) (by simp [flen])
  have Rg12_0 := blk_range Bg12 (l := [.int .u64 0, .int .u64 0, .int .u64 0, .int .u64 0]) rfl
  have Lg12 := Bg12.lt
  clear ng12 Bg12
  refine Z33 (g := g12) (off := 0) (n := 4) (cs := fel (restS (leN l))) (by rfl) (by rfl) (by rfl) (by rfl) (by rfl) Tg12 (by simp [flen]) info80 (fel_one _) (fun w14 Pw14 RR TT => ?_)
  replace Rg3_0 := Pw14.range Rg3_0 (.inl Ng3_g12)
  replace Tg3 := Pw14.other_there Tg3 Ng3_g12
  replace Rg12_0 := RR
  clear RR
  replace Tg12 := TT
  replace Lg3 := Pw14.lt Lg3
  replace Lg12 := Pw14.lt Lg12
  replace BE := Pw14.below BE Gg12
  refine Z18 (v := .int .i64 0) (by rfl) (by rfl) (by rfl) ?_
  simp only [Z12, Z5]
  refine Z14 (Z15 ?_)
  refine hK10 _ _ ?_
  refine Z9 (fun K15 hK15 => ?_)
  refine Z9 (fun K16 hK16 => ?_)
  refine Z30 4 (by kernel_rfl) (fun Lk hLk => ?_)
  simp only [Z6, Z7]
  refine Z31 (cs := fel (restS (leN l))) (by rfl) rfl rfl Rg12_0 Lg12 Tryd.underlying80 rfl info80 ?_
  simp only [Z12, Z5]
  refine Z25 (v := .string (bs (bytesN 32 (restS (restS (leN l)))))) (args := #[fe (restS (leN l))]) (by rfl) rfl Tryd.func48 (by kernel_rfl) (by kernel_rfl) rfl (fun W hW => sbytes_c (restS_lt ..) W) ?_
  simp only [Z12, Z5]
  refine Z21 (v := .string (bs l)) (by rfl) rfl rfl ?_
  simp only [Z12, Z5]
  refine wpV_binS (v := .bool (decide (bytesN 32 (restS (restS (leN l))) ≠ l))) (by rfl) rfl rfl rfl (run_neq_bs _ _ _) ?_
  simp only [Z12, Z5]
  refine Z19 (hLk.out _ ?_)
  clear hLk Lk
  simp only [Z6, Z7]
  iterate 4 refine Z28 (by rfl) ?_
  refine Z29 (fun w18 Sw18 hbs => ?_)
  clear hbs
  replace Rg3_0 := Z26 Rg3_0 Lg3 Sw18
  replace Tg3 := Z27 Tg3 Lg3 Sw18
  replace Rg12_0 := Z26 Rg12_0 Lg12 Sw18
  replace Tg12 := Z27 Tg12 Lg12 Sw18
  replace Lg3 := Z0 Lg3 Sw18.2.2.size
  replace Lg12 := Z0 Lg12 Sw18.2.2.size
  replace BE := BE.trans (Sw18.2.2.mono BE.size)
  refine Z14 (Z15 ?_)
  refine hK16 _ _ ?_
  cases hc19 : (decide (bytesN 32 (restS (restS (leN l))) ≠ l))
  ·
   have qhc19 : bytesN 32 (restS (restS (leN l))) = l := Decidable.not_not.1 (of_decide_eq_false hc19)
   refine Z11 rfl ?_
   refine wp_skip ?_
   refine hK15 _ _ ?_
   refine Z9 (fun K20 hK20 => ?_)
   refine Z30 1 (by kernel_rfl) (fun Lk hLk => ?_)
   simp only [Z6, Z7]
   refine Z31 (cs := fel (restS (leN l))) (by rfl) rfl rfl Rg12_0 Lg12 Tryd.underlying80 rfl info80 ?_
   simp only [Z12, Z5]
   refine Z19 (hLk.out _ ?_)
   clear hLk Lk
   simp only [Z6, Z7]
   iterate 1 refine Z28 (by rfl) ?_
   refine Z29 (fun w22 Sw22 hbs => ?_)
   clear hbs
   replace Rg3_0 := Z26 Rg3_0 Lg3 Sw22
   replace Tg3 := Z27 Tg3 Lg3 Sw22
   replace Rg12_0 := Z26 Rg12_0 Lg12 Sw22
   replace Tg12 := Z27 Tg12 Lg12 Sw22
   replace Lg3 := Z0 Lg3 Sw22.2.2.size
   replace Lg12 := Z0 Lg12 Sw22.2.2.size
   replace BE := BE.trans (Sw22.2.2.mono BE.size)
   refine Z33 (g := g3) (off := 0) (n := 4) (cs := fel (restS (leN l))) (by rfl) (by rfl) (by rfl) (by rfl) (by rfl) Tg3 (by simp [flen]) info80 (fel_one _) (fun w23 Pw23 RR TT => ?_)
   replace Rg12_0 := Pw23.range Rg12_0 (.inl (Ne.symm Ng3_g12))
   replace Tg12 := Pw23.other_there Tg12 (Ne.symm Ng3_g12)
   replace Rg3_0 := RR
   clear RR
   replace Tg3 := TT
   replace Lg3 := Pw23.lt Lg3
   replace Lg12 := Pw23.lt Lg12
   replace BE := Pw23.below BE Gg3
   refine Z18 (v := .int .i64 0) (by rfl) (by rfl) (by rfl) ?_
   simp only [Z12, Z5]
   refine Z14 (Z15 ?_)
   refine hK20 _ _ ?_
   refine wp_ret ?_
   repeat (first | with_reducible refine then_ret ?_ | with_reducible refine inblock_ret ?_)
   refine bodyPost_ret (v := .tuple #[fe (restS (leN l)), .int .i64 0]) (res2 rfl (.cell (by rfl) (run_loadVar_mid _ _ _ _ (fel (restS (leN l))) _ Rg3_0 Tryd.underlying80 rfl info80)) (.tmp (by rfl))) rfl ?_
   exact ⟨by rw [(sp2 h32 qhc19).1, (sp2 h32 qhc19).2], BE⟩
  ·
   have qhc19 : ¬ bytesN 32 (restS (restS (leN l))) = l := of_decide_eq_true hc19
   refine Z10 rfl ?_
   refine Z9 (fun K24 hK24 => ?_)
   refine Z30 1 (by kernel_rfl) (fun Lk hLk => ?_)
   simp only [Z6, Z7]
   refine Z24 (v := fe 0) (by rfl) (by rfl) (fun W hW => ?_) ?_
   ·
    rw [show fe 0 = .agg ([.int .u64 0, .int .u64 0, .int .u64 0, .int .u64 0]).toArray from (by kernel_rfl)]; unfold RunsVal; kernel_rfl
   simp only [Z12, Z5]
   refine Z19 (hLk.out _ ?_)
   clear hLk Lk
   simp only [Z6, Z7]
   iterate 1 refine Z28 (by rfl) ?_
   refine Z29 (fun w26 Sw26 hbs => ?_)
   clear hbs
   replace Rg3_0 := Z26 Rg3_0 Lg3 Sw26
   replace Tg3 := Z27 Tg3 Lg3 Sw26
   replace Rg12_0 := Z26 Rg12_0 Lg12 Sw26
   replace Tg12 := Z27 Tg12 Lg12 Sw26
   replace Lg3 := Z0 Lg3 Sw26.2.2.size
   replace Lg12 := Z0 Lg12 Sw26.2.2.size
   replace BE := BE.trans (Sw26.2.2.mono BE.size)
   refine Z33 (g := g3) (off := 0) (n := 4) (cs := fel 0) (by rfl) (by rfl) (by rfl) (by rfl) (by rfl) Tg3 (by simp [flen]) info80 (fel_one _) (fun w27 Pw27 RR TT => ?_)
   replace Rg12_0 := Pw27.range Rg12_0 (.inl (Ne.symm Ng3_g12))
   replace Tg12 := Pw27.other_there Tg12 (Ne.symm Ng3_g12)
   replace Rg3_0 := RR
   clear RR
   replace Tg3 := TT
   replace Lg3 := Pw27.lt Lg3
   replace Lg12 := Pw27.lt Lg12
   replace BE := Pw27.below BE Gg3
   refine Z18 (v := .int .i64 11) (by rfl) (by rfl) (by rfl) ?_
   simp only [Z12, Z5]
   refine Z14 (Z15 ?_)
   refine hK24 _ _ ?_
   refine wp_ret ?_
   repeat (first | with_reducible refine then_ret ?_ | with_reducible refine inblock_ret ?_)
   refine bodyPost_ret (v := .tuple #[fe 0, .int .i64 11]) (res2 rfl (.cell (by rfl) (run_loadVar_mid _ _ _ _ (fel 0) _ Rg3_0 Tryd.underlying80 rfl info80)) (.tmp (by rfl))) rfl ?_
   exact ⟨by rw [(sp1 h32 qhc19).1, (sp1 h32 qhc19).2], BE⟩
 ·
  have h32 : l.length ≠ 32 := by intro e; rw [e] at hc9; simp at hc9
  refine Z10 rfl ?_
  refine Z9 (fun K28 hK28 => ?_)
  refine Z30 1 (by kernel_rfl) (fun Lk hLk => ?_)
  simp only [Z6, Z7]
  refine Z24 (v := fe 0) (by rfl) (by rfl) (fun W hW => ?_) ?_
  ·
   rw [show fe 0 = .agg ([.int .u64 0, .int .u64 0, .int .u64 0, .int .u64 0]).toArray from (by kernel_rfl)]; unfold RunsVal; kernel_rfl
  simp only [Z12, Z5]
  refine Z19 (hLk.out _ ?_)
  clear hLk Lk
  simp only [Z6, Z7]
  iterate 1 refine Z28 (by rfl) ?_
  refine Z29 (fun w30 Sw30 hbs => ?_)
  clear hbs
  replace Rg3_0 := Z26 Rg3_0 Lg3 Sw30
  replace Tg3 := Z27 Tg3 Lg3 Sw30
  replace Lg3 := Z0 Lg3 Sw30.2.2.size
  replace BE := BE.trans (Sw30.2.2.mono BE.size)
  refine Z33 (g := g3) (off := 0) (n := 4) (cs := fel 0) (by rfl) (by rfl) (by rfl) (by rfl) (by rfl) Tg3 (by simp [flen]) info80 (fel_one _) (fun w31 Pw31 RR TT => ?_)
  replace Rg3_0 := RR
  clear RR
  replace Tg3 := TT
  replace Lg3 := Pw31.lt Lg3
  replace BE := Pw31.below BE Gg3
  refine Z18 (v := .int .i64 1) (by rfl) (by rfl) (by rfl) ?_
  simp only [Z12, Z5]
  refine Z14 (Z15 ?_)
  refine hK28 _ _ ?_
  refine wp_ret ?_
  repeat (first | with_reducible refine then_ret ?_ | with_reducible refine inblock_ret ?_)
  refine bodyPost_ret (v := .tuple #[fe 0, .int .i64 1]) (res2 rfl (.cell (by rfl) (run_loadVar_mid _ _ _ _ (fel 0) _ Rg3_0 Tryd.underlying80 rfl info80)) (.tmp (by rfl))) rfl ?_
  exact ⟨by rw [(sp0 h32).1, (sp0 h32).2], BE⟩
set_option maxHeartbeats 1000000 in
theorem fbytes_c {x : Nat} (hx : x < 2 ^ 256) (w : World) :
  Calls Tryd.prog 98 #[fe x] w fun e w' => e = .returned (.string (bs (bytesN 32 (leastF x)))) ∧ Below w.heap.size w w' := by
 go_enter Tryd.func98, Tryd.ntmps98
 have BE := Below.refl w.heap.size w
 refine Z9 (fun K1 hK1 => ?_)
 refine Z30 1 (by kernel_rfl) (fun Lk hLk => ?_)
 simp only [Z6, Z7]
 refine wpV_alloc (by rfl) ?_
 refine Z19 (hLk.out _ ?_)
 clear hLk Lk
 simp only [Z6, Z7]
 refine wpN_new (t := 86) (cs := (fel x).toArray) (by rfl) (fun W => ?_) (fun g3 Hg3 ng3 => ?_)
 ·
  (first | rfl | go_simp)
 simp only [Z12, Z5]
 refine Z29 (fun w4 Sw4 hbs => ?_)
 have Bg3 : Blk w4 g3 86 (fel x).toArray := hbs _ (List.mem_cons_self ..)
 clear hbs
 have Gg3 : w.heap.size ≤ g3 := Z2 BE.size Hg3
 replace BE := BE.trans (Sw4.2.2.mono BE.size)
 have Tg3 := blk_there Bg3 (n := 4) (by simp [flen])
 have Rg3_0 := blk_range Bg3 (l := fel x) rfl
 have Lg3 := Bg3.lt
 clear ng3 Bg3
 refine Z18 (v := .string (bs ([]))) (by rfl) (by rfl) (by rfl) ?_
 simp only [Z12, Z5]
 refine Z14 (Z15 ?_)
 refine hK1 _ _ ?_
 refine Z9 (fun K5 hK5 => ?_)
 refine Z30 2 (by kernel_rfl) (fun Lk hLk => ?_)
 simp only [Z6, Z7]
 refine Z31 (cs := fel x) (by rfl) rfl rfl Rg3_0 Lg3 Tryd.underlying86 rfl info86 ?_
 simp only [Z12, Z5]
 refine Z25 (v := fe (leastF x)) (args := #[fe x]) (by rfl) rfl Tryd.func127 (by kernel_rfl) (by kernel_rfl) rfl (fun W hW => least_c hx W) ?_
 simp only [Z12, Z5]
 refine Z19 (hLk.out _ ?_)
 clear hLk Lk
 simp only [Z6, Z7]
 iterate 2 refine Z28 (by rfl) ?_
 refine Z29 (fun w7 Sw7 hbs => ?_)
 clear hbs
 replace Rg3_0 := Z26 Rg3_0 Lg3 Sw7
 replace Tg3 := Z27 Tg3 Lg3 Sw7
 replace Lg3 := Z0 Lg3 Sw7.2.2.size
 replace BE := BE.trans (Sw7.2.2.mono BE.size)
 refine Z33 (g := g3) (off := 0) (n := 4) (cs := fel (leastF x)) (by rfl) (by rfl) (by rfl) (by rfl) (by rfl) Tg3 (by simp [flen]) info86 (fel_one _) (fun w8 Pw8 RR TT => ?_)
 replace Rg3_0 := RR
 clear RR
 replace Tg3 := TT
 replace Lg3 := Pw8.lt Lg3
 replace BE := Pw8.below BE Gg3
 refine Z14 (Z15 ?_)
 refine hK5 _ _ ?_
 refine Z9 (fun K9 hK9 => ?_)
 refine Z30 0 (by kernel_rfl) (fun Lk hLk => ?_)
 simp only [Z6, Z7]
 refine Z19 (hLk.out _ ?_)
 clear hLk Lk
 simp only [Z6, Z7]
 refine Z29 (fun w11 Sw11 hbs => ?_)
 clear hbs
 replace Rg3_0 := Z26 Rg3_0 Lg3 Sw11
 replace Tg3 := Z27 Tg3 Lg3 Sw11
 replace Lg3 := Z0 Lg3 Sw11.2.2.size
 replace BE := BE.trans (Sw11.2.2.mono BE.size)
 refine wpL_make (n := 32) (z := .int .u8 0) (bytes := 1) (by rfl) (by rfl) (by rfl) (by rfl) Tryd.underlying29 (by kernel_rfl) rfl (by decide) (by decide) (fun g12 w13 Sw13 Hg12 Bg12 => ?_)
 have Ng3_g12 : g3 ≠ g12 := Z3 (Z0 Lg3 Hg12)
 have Gg12 : w.heap.size ≤ g12 := Z2 BE.size Hg12
 replace Rg3_0 := Z26 Rg3_0 Lg3 Sw13
 replace Tg3 := Z27 Tg3 Lg3 Sw13
 replace Lg3 := Z0 Lg3 Sw13.2.2.size
 replace BE := BE.trans (Sw13.2.2.mono BE.size)
 have Tg12 := blk_there Bg12 (n := 32) (by simp)
 have Rg12_0 := blk_range Bg12 (l := List.replicate 32 (.int .u8 0)) rfl
 rw [← bcells_zero] at Rg12_0
 have Lg12 := Bg12.lt
 clear Bg12
 simp only [Z12, Z5]
 refine Z18 (v := .slice (some ⟨g12, 0, none⟩) 32 32) (by rfl) (by rfl) (by rfl) ?_
 simp only [Z12, Z5]
 refine Z14 (Z15 ?_)
 refine hK9 _ _ ?_
 refine Z9 (fun K14 hK14 => ?_)
 refine Z9 (fun K15 hK15 => ?_)
 refine Z30 3 (by kernel_rfl) (fun Lk hLk => ?_)
 simp only [Z6, Z7]
 refine Z21 (v := .slice (some ⟨g12, 0, none⟩) 32 32) (by rfl) rfl rfl ?_
 simp only [Z12, Z5]
 refine wpV_lenA (n := 32) (by rfl) rfl rfl rfl Tryd.underlying29 ?_
 simp only [Z12, Z5]
 refine Z21 (v := .int .i64 0) (by rfl) rfl rfl ?_
 simp only [Z12, Z5]
 refine Z19 (hLk.out _ ?_)
 clear hLk Lk
 simp only [Z6, Z7]
 iterate 3 refine Z28 (by rfl) ?_
 refine Z29 (fun w17 Sw17 hbs => ?_)
 clear hbs
 replace Rg3_0 := Z26 Rg3_0 Lg3 Sw17
 replace Tg3 := Z27 Tg3 Lg3 Sw17
 replace Rg12_0 := Z26 Rg12_0 Lg12 Sw17
 replace Tg12 := Z27 Tg12 Lg12 Sw17
 replace Lg3 := Z0 Lg3 Sw17.2.2.size
 replace Lg12 := Z0 Lg12 Sw17.2.2.size
 replace BE := BE.trans (Sw17.2.2.mono BE.size)
 refine Z14 (Z15 ?_)
 refine hK15 _ _ ?_
 refine wp_block ?_
 refine wp_loop_ghost (fun n9 a9 W9 => ∃ (i : Nat) (u18 : Nat → Value), n9 = 32 - i ∧ a9 = { tmps := #[fe x, .pointer (some ⟨g3, 0, none⟩), .string (bs ([])), .slice (some ⟨g12, 0, none⟩) 32 32, u18 4, fe x, fe (leastF x), .slice (some ⟨g12, 0, none⟩) 32 32, .slice (some ⟨g12, 0, none⟩) 32 32, .int .i64 32, .int .i64 ((i : Nat) : Int), u18 11, u18 12, u18 13, u18 14, u18 15, u18 16, u18 17, u18 18, u18 19, u18 20, u18 21, u18 22, u18 23, u18 24, u18 25, Z8, Z8], defers := [] } ∧ Below w.heap.size w W9 ∧ World.rangeAt W9 g3 0 (fel (leastF x)) ∧ World.there W9 g3 0 4 ∧ g3 < W9.heap.size ∧ World.rangeAt W9 g12 0 (bcells (bytesN 32 ((leastF x) % 256 ^ i))) ∧ World.there W9 g12 0 32 ∧ g12 < W9.heap.size ∧ (i ≤ 32)) (32 - (0)) ?_ (fun n9 a9 W9 hI => ?_)
 ·
  exact ⟨0, (fun q9 => (#[Z8, Z8, Z8, Z8, Z8, Z8, Z8, Z8, Z8, Z8, Z8, Z8, Z8, Z8, Z8, Z8, Z8, Z8, Z8, Z8, Z8, Z8, Z8, Z8, Z8, Z8] : Array Value).getD q9 Z8), rfl, rfl, BE, Rg3_0, Tg3, Lg3, (by rw [Nat.pow_zero, Nat.mod_one]; exact Rg12_0), Tg12, Lg12, (by omega)⟩
 clear BE Rg3_0 Rg12_0 Tg3 Tg12 Lg3 Lg12
 obtain ⟨i, u18, rfl, rfl, BE, Rg3_0, Tg3, Lg3, Rg12_0, Tg12, Lg12, hi4⟩ := hI
 obtain ⟨w19, rfl⟩ : ∃ W8, W8 = W9 := ⟨_, rfl⟩
 refine Z9 (fun K20 hK20 => ?_)
 refine Z30 1 (by kernel_rfl) (fun Lk hLk => ?_)
 simp only [Z6, Z7]
 refine Z20 (v := .bool (decide (i < 32))) (by rfl) rfl rfl rfl (fun W => run_lssN i 32 _ _ W) ?_
 simp only [Z12, Z5]
 refine Z19 (hLk.out _ ?_)
 clear hLk Lk
 simp only [Z6, Z7]
 iterate 1 refine Z28 (by rfl) ?_
 refine Z29 (fun w22 Sw22 hbs => ?_)
 clear hbs
 replace Rg3_0 := Z26 Rg3_0 Lg3 Sw22
 replace Tg3 := Z27 Tg3 Lg3 Sw22
 replace Rg12_0 := Z26 Rg12_0 Lg12 Sw22
 replace Tg12 := Z27 Tg12 Lg12 Sw22
 replace Lg3 := Z0 Lg3 Sw22.2.2.size
 replace Lg12 := Z0 Lg12 Sw22.2.2.size
 replace BE := BE.trans (Sw22.2.2.mono BE.size)
 refine Z14 (Z15 ?_)
 refine hK20 _ _ ?_
 refine Z9 (fun K23 hK23 => ?_)
 cases hc24 : (decide (i < 32))
 ·
  have ei : i = 32 := by have := of_decide_eq_false hc24; omega
  subst ei
  rw [Z4 (show (leastF x) < 256 ^ 32 from (leastF_lt ..))] at Rg12_0
  refine Z11 rfl ?_
  refine wp_exit ?_
  refine hK14 _ _ ?_
  refine Z9 (fun K25 hK25 => ?_)
  refine Z30 2 (by kernel_rfl) (fun Lk hLk => ?_)
  simp only [Z6, Z7]
  refine Z21 (v := .slice (some ⟨g12, 0, none⟩) 32 32) (by rfl) rfl rfl ?_
  simp only [Z12, Z5]
  refine wpV_b2s (l := (bytesN 32 (leastF x))) (by rfl) rfl rfl (bytesN_len _ _).symm Tryd.underlying29 Tryd.underlying5 Tryd.underlying9 Rg12_0 Lg12 ?_
  simp only [Z12, Z5]
  refine Z19 (hLk.out _ ?_)
  clear hLk Lk
  simp only [Z6, Z7]
  iterate 2 refine Z28 (by rfl) ?_
  refine Z29 (fun w27 Sw27 hbs => ?_)
  clear hbs
  replace Rg3_0 := Z26 Rg3_0 Lg3 Sw27
  replace Tg3 := Z27 Tg3 Lg3 Sw27
  replace Rg12_0 := Z26 Rg12_0 Lg12 Sw27
  replace Tg12 := Z27 Tg12 Lg12 Sw27
  replace Lg3 := Z0 Lg3 Sw27.2.2.size
  replace Lg12 := Z0 Lg12 Sw27.2.2.size
  replace BE := BE.trans (Sw27.2.2.mono BE.size)
  refine Z18 (v := .string (bs (bytesN 32 (leastF x)))) (by rfl) (by rfl) (by rfl) ?_
  simp only [Z12, Z5]
  refine Z14 (Z15 ?_)
  refine hK25 _ _ ?_
  refine wp_ret ?_
  repeat (first | with_reducible refine then_ret ?_ | with_reducible refine inblock_ret ?_)
  refine bodyPost_ret (v := .string (bs (bytesN 32 (leastF x)))) (res1 rfl (.tmp (by rfl))) rfl ?_
  exact ⟨rfl, BE⟩
 ·
  have hi : i < 32 := of_decide_eq_true hc24
  refine Z10 rfl ?_
  refine wp_skip ?_
  refine hK23 _ _ ?_
  refine Z9 (fun K28 hK28 => ?_)
  refine wp_block ?_
  refine Z9 (fun K29 hK29 => ?_)
  refine Z30 1 (by kernel_rfl) (fun Lk hLk => ?_)
  simp only [Z6, Z7]
  refine Z21 (v := .int .i64 ((i : Nat) : Int)) (by rfl) rfl rfl ?_
  simp only [Z12, Z5]
  refine Z19 (hLk.out _ ?_)
  clear hLk Lk
  simp only [Z6, Z7]
  iterate 1 refine Z28 (by rfl) ?_
  refine Z29 (fun w31 Sw31 hbs => ?_)
  clear hbs
  replace Rg3_0 := Z26 Rg3_0 Lg3 Sw31
  replace Tg3 := Z27 Tg3 Lg3 Sw31
  replace Rg12_0 := Z26 Rg12_0 Lg12 Sw31
  replace Tg12 := Z27 Tg12 Lg12 Sw31
  replace Lg3 := Z0 Lg3 Sw31.2.2.size
  replace Lg12 := Z0 Lg12 Sw31.2.2.size
  replace BE := BE.trans (Sw31.2.2.mono BE.size)
  refine Z18 (v := .int .i64 ((i : Nat) : Int)) (by rfl) (by rfl) (by rfl) ?_
  simp only [Z12, Z5]
  refine Z14 (Z15 ?_)
  refine hK29 _ _ ?_
  refine Z30 12 (by kernel_rfl) (fun Lk hLk => ?_)
  simp only [Z6, Z7]
  refine Z21 (v := .slice (some ⟨g12, 0, none⟩) 32 32) (by rfl) rfl rfl ?_
  simp only [Z12, Z5]
  refine Z21 (v := .int .i64 ((i : Nat) : Int)) (by rfl) rfl rfl ?_
  simp only [Z12, Z5]
  refine Z21 (v := .int .i64 ((i : Nat) : Int)) (by rfl) rfl rfl ?_
  simp only [Z12, Z5]
  refine Z20 (v := .int .i64 ((i / 8 : Nat) : Int)) (by rfl) rfl rfl rfl (fun W => run_quo (by decide) ((congrArg _ (tdiv_nat i 8)).trans (wrap_nat _ (by omega))) W) ?_
  simp only [Z12, Z5]
  refine wpV_idx (n := i / 8) (by rfl) rfl rfl rfl Tryd.underlying86 info40 (by omega) ?_
  simp only [Z1]
  simp only [Z12, Z5]
  refine Z34 (v := .int .u64 ((limbN (leastF x) (i / 8) : Nat) : Int)) (by rfl) rfl rfl (by have := Rg3_0 _ _ (fel_get (j := i / 8) (leastF x) (by omega)); rwa [Z1] at this) Lg3 Tryd.underlying40 rfl ?_
  simp only [Z12, Z5]
  refine Z21 (v := .int .i64 ((i : Nat) : Int)) (by rfl) rfl rfl ?_
  simp only [Z12, Z5]
  refine Z20 (v := .int .i64 ((i % 8 : Nat) : Int)) (by rfl) rfl rfl rfl (fun W => run_rem (by decide) (tmod_nat i 8) W) ?_
  simp only [Z12, Z5]
  refine Z20 (v := .int .i64 ((8 * (i % 8) : Nat) : Int)) (by rfl) rfl rfl rfl (fun W => run_mul (by simp only [IntKind.wrap_i64]; omega) W) ?_
  simp only [Z12, Z5]
  refine Z20 (v := .int .u64 ((limbN (leastF x) (i / 8) / 2 ^ (8 * (i % 8)) : Nat) : Int)) (by rfl) rfl rfl rfl (fun W => run_shr (by show _ ≤ 64; omega) rfl W) ?_
  simp only [Z12, Z5]
  refine wpV_conv (d := .bool) (e := (((leastF x) / 256 ^ i % 256 : Nat) : Int)) (by rfl) rfl rfl (run_conv_int Tryd.underlying40 Tryd.underlying5 (by rw [← byte_of]; exact wrap_u8N _)) ?_
  simp only [Z12, Z5]
  refine wpV_idxs (n := i) (by rfl) rfl rfl rfl Tryd.underlying29 info5 (by omega) ?_
  simp only [Z1]
  simp only [Z12, Z5]
  refine Z19 (hLk.out _ ?_)
  clear hLk Lk
  simp only [Z6, Z7]
  iterate 12 refine Z28 (by rfl) ?_
  refine Z29 (fun w33 Sw33 hbs => ?_)
  clear hbs
  replace Rg3_0 := Z26 Rg3_0 Lg3 Sw33
  replace Tg3 := Z27 Tg3 Lg3 Sw33
  replace Rg12_0 := Z26 Rg12_0 Lg12 Sw33
  replace Tg12 := Z27 Tg12 Lg12 Sw33
  replace Lg3 := Z0 Lg3 Sw33.2.2.size
  replace Lg12 := Z0 Lg12 Sw33.2.2.size
  replace BE := BE.trans (Sw33.2.2.mono BE.size)
  refine Z23 (g := g12) (off := i) (n := 32) (v := .int .u8 (((leastF x) / 256 ^ i % 256 : Nat) : Int)) (by rfl) (by rfl) (by rfl) (by rfl) (by rfl) Tg12 (by omega) info5 rfl (fun w34 Pw34 RR TT => ?_)
  replace Rg3_0 := Pw34.range Rg3_0 (.inl Ng3_g12)
  replace Tg3 := Pw34.other_there Tg3 Ng3_g12
  replace Rg12_0 := range_set Rg12_0 Pw34 RR
  clear RR
  replace Tg12 := TT
  replace Lg3 := Pw34.lt Lg3
  replace Lg12 := Pw34.lt Lg12
  replace BE := Pw34.below BE Gg12
  rw [bytesN_set hi] at Rg12_0
  refine Z14 (Z15 ?_)
  refine hK28 _ _ ?_
  refine Z30 2 (by kernel_rfl) (fun Lk hLk => ?_)
  simp only [Z6, Z7]
  refine Z20 (v := .int .i64 ((i + 1 : Nat) : Int)) (by rfl) rfl rfl rfl (fun W => run_add (by simp only [IntKind.wrap_i64]; omega) W) ?_
  simp only [Z12, Z5]
  refine Z21 (v := .int .i64 ((i + 1 : Nat) : Int)) (by rfl) rfl rfl ?_
  simp only [Z12, Z5]
  refine Z19 (hLk.out _ ?_)
  clear hLk Lk
  simp only [Z6, Z7]
  iterate 2 refine Z28 (by rfl) ?_
  refine Z29 (fun w36 Sw36 hbs => ?_)
  clear hbs
  replace Rg3_0 := Z26 Rg3_0 Lg3 Sw36
  replace Tg3 := Z27 Tg3 Lg3 Sw36
  replace Rg12_0 := Z26 Rg12_0 Lg12 Sw36
  replace Tg12 := Z27 Tg12 Lg12 Sw36
  replace Lg3 := Z0 Lg3 Sw36.2.2.size
  replace Lg12 := Z0 Lg12 Sw36.2.2.size
  replace BE := BE.trans (Sw36.2.2.mono BE.size)
  refine Z14 (Z15 ?_)
  refine Exists.intro _ ⟨?_, (i + 1), (fun q9 => (#[Z8, Z8, Z8, Z8, .int .i64 ((i : Nat) : Int), Z8, Z8, Z8, Z8, Z8, Z8, .bool true, .int .i64 ((i : Nat) : Int), .slice (some ⟨g12, 0, none⟩) 32 32, .int .i64 ((i : Nat) : Int), .int .i64 ((i : Nat) : Int), .int .i64 ((i / 8 : Nat) : Int), .pointer (some ⟨g3, i / 8, none⟩), .int .u64 ((limbN (leastF x) (i / 8) : Nat) : Int), .int .i64 ((i : Nat) : Int), .int .i64 ((i % 8 : Nat) : Int), .int .i64 ((8 * (i % 8) : Nat) : Int), .int .u64 ((limbN (leastF x) (i / 8) / 2 ^ (8 * (i % 8)) : Nat) : Int), .int .u8 (((leastF x) / 256 ^ i % 256 : Nat) : Int), .pointer (some ⟨g12, i, none⟩), .int .i64 ((i + 1 : Nat) : Int)] : Array Value).getD q9 Z8), rfl, rfl, BE, Rg3_0, Tg3, Lg3, Rg12_0, Tg12, Lg12, (by omega)⟩
  omega
set_option maxHeartbeats 1000000 in
theorem fparse_c (l : List UInt8) (w : World) :
  Calls Tryd.prog 88 #[.string (bs l)] w fun e w' => e = .returned (.tuple #[fe (fparseN l), .int .i64 (fparseE l)]) ∧ Below w.heap.size w w' := by
 go_enter Tryd.func88, Tryd.ntmps88
 have BE := Below.refl w.heap.size w
 refine Z9 (fun K1 hK1 => ?_)
 refine Z30 1 (by kernel_rfl) (fun Lk hLk => ?_)
 simp only [Z6, Z7]
 refine wpV_alloc (by rfl) ?_
 refine Z19 (hLk.out _ ?_)
 clear hLk Lk
 simp only [Z6, Z7]
 refine wpN_new (t := 86) (cs := ([.int .u64 0, .int .u64 0, .int .u64 0, .int .u64 0]).toArray) (by rfl) (fun W => ?_) (fun g3 Hg3 ng3 => ?_)
 ·
  go_simp
 simp only [Z12, Z5]
 refine Z29 (fun w4 Sw4 hbs => ?_)
 have Bg3 : Blk w4 g3 86 ([.int .u64 0, .int .u64 0, .int .u64 0, .int .u64 0]).toArray := hbs _ (List.mem_cons_self ..)
 clear hbs
 have Gg3 : w.heap.size ≤ g3 := Z2 BE.size Hg3
 replace BE := BE.trans (Sw4.2.2.mono BE.size)
 have Tg3 := blk_there Bg3 (n := 4) (by simp [flen])
 have Rg3_0 := blk_range Bg3 (l := [.int .u64 0, .int .u64 0, .int .u64 0, .int .u64 0]) rfl
 have Lg3 := Bg3.lt
 clear ng3 Bg3
 refine Z18 (v := .int .i64 0) (by rfl) (by rfl) (by rfl) ?_
 simp only [Z12, Z5]
 refine Z14 (Z15 ?_)
 refine hK1 _ _ ?_
 refine Z9 (fun K5 hK5 => ?_)
 refine Z9 (fun K6 hK6 => ?_)
 refine Z30 3 (by kernel_rfl) (fun Lk hLk => ?_)
 simp only [Z6, Z7]
 refine Z21 (v := .string (bs l)) (by rfl) rfl rfl ?_
 simp only [Z12, Z5]
 refine wpV_lenS (by rfl) rfl rfl rfl Tryd.underlying9 ?_
 simp only [Z12, Z5]
 refine Z20 (v := .bool (((l.length : Nat) : Int) != 32)) (by rfl) rfl rfl rfl (fun W => run_neq _ _ _ _ W) ?_
 simp only [Z12, Z5]
 refine Z19 (hLk.out _ ?_)
 clear hLk Lk
 simp only [Z6, Z7]
 iterate 3 refine Z28 (by rfl) ?_
 refine Z29 (fun w8 Sw8 hbs => ?_)
 clear hbs
 replace Rg3_0 := Z26 Rg3_0 Lg3 Sw8
 replace Tg3 := Z27 Tg3 Lg3 Sw8
 replace Lg3 := Z0 Lg3 Sw8.2.2.size
 replace BE := BE.trans (Sw8.2.2.mono BE.size)
 refine Z14 (Z15 ?_)
 refine hK6 _ _ ?_
 cases hc9 : (((l.length : Nat) : Int) != 32)
 ·
  have h32 : l.length = 32 := by have h9 := hc9; simp at h9; omega
  refine Z11 rfl ?_
  refine wp_skip ?_
  refine hK5 _ _ ?_
  refine Z9 (fun K10 hK10 => ?_)
  refine Z30 1 (by kernel_rfl) (fun Lk hLk => ?_)
  simp only [Z6, Z7]
  refine wpV_alloc (by rfl) ?_
  refine Z19 (hLk.out _ ?_)
  clear hLk Lk
  simp only [Z6, Z7]
  refine wpN_new (t := 86) (cs := ([.int .u64 0, .int .u64 0, .int .u64 0, .int .u64 0]).toArray) (by rfl) (fun W => ?_) (fun g12 Hg12 ng12 => ?_)
  ·
   go_simp
  simp only [Z12, Z5]
  refine Z29 (fun w13 Sw13 hbs => ?_)
  have Bg12 : Blk w13 g12 86 ([.int .u64 0, .int .u64 0, .int .u64 0, .int .u64 0]).toArray := hbs _ (List.mem_cons_self ..)
  clear hbs
  have Ng3_g12 : g3 ≠ g12 := Z3 (Z0 Lg3 Hg12)
  have Gg12 : w.heap.size ≤ g12 := Z2 BE.size Hg12
  replace Rg3_0 := Z26 Rg3_0 Lg3 Sw13
  replace Tg3 := Z27 Tg3 Lg3 Sw13
  replace Lg3 := Z0 Lg3 Sw13.2.2.size
  replace BE := BE.trans (Sw13.2.2.mono BE.size)
  have Tg12 := blk_there Bg12 (n := 4) (by simp [flen])
  have Rg12_0 := blk_range Bg12 (l := [.int .u64 0, .int .u64 0, .int .u64 0, .int .u64 0]) rfl
  have Lg12 := Bg12.lt
  clear ng12 Bg12
  refine Z14 (Z15 ?_)
  refine hK10 _ _ ?_
  refine Z9 (fun K14 hK14 => ?_)
  refine Z9 (fun K15 hK15 => ?_)
  refine Z30 1 (by kernel_rfl) (fun Lk hLk => ?_)
  simp only [Z6, Z7]
  refine Z21 (v := .int .i64 0) (by rfl) rfl rfl ?_
  simp only [Z12, Z5]
  refine Z19 (hLk.out _ ?_)
  clear hLk Lk
  simp only [Z6, Z7]
  iterate 1 refine Z28 (by rfl) ?_
  refine Z29 (fun w17 Sw17 hbs => ?_)
  clear hbs
  replace Rg3_0 := Z26 Rg3_0 Lg3 Sw17
  replace Tg3 := Z27 Tg3 Lg3 Sw17
  replace Rg12_0 := Z26 Rg12_0 Lg12 Sw17
  replace Tg12 := Z27 Tg12 Lg12 Sw17
  replace Lg3 := Z0 Lg3 Sw17.2.2.size
  replace Lg12 := Z0 Lg12 Sw17.2.2.size
  replace BE := BE.trans (Sw17.2.2.mono BE.size)
  refine Z14 (Z15 ?_)
  refine hK15 _ _ ?_
  refine wp_block ?_
  refine wp_loop_ghost (fun n9 a9 W9 => ∃ (i : Nat) (u18 : Nat → Value), n9 = 32 - i ∧ a9 = { tmps := #[.string (bs l), Z8, .pointer (some ⟨g3, 0, none⟩), .int .i64 0, .pointer (some ⟨g12, 0, none⟩), u18 5, .string (bs l), .int .i64 ((l.length : Nat) : Int), .bool false, Z8, .int .i64 ((i : Nat) : Int), u18 11, u18 12, u18 13, u18 14, u18 15, u18 16, u18 17, u18 18, u18 19, u18 20, u18 21, u18 22, u18 23, u18 24, u18 25, u18 26, u18 27, Z8, Z8, Z8, Z8, Z8, Z8], defers := [] } ∧ Below w.heap.size w W9 ∧ World.rangeAt W9 g3 0 ([.int .u64 0, .int .u64 0, .int .u64 0, .int .u64 0]) ∧ World.there W9 g3 0 4 ∧ g3 < W9.heap.size ∧ World.rangeAt W9 g12 0 (wl 4 (leN (l.take i))) ∧ World.there W9 g12 0 4 ∧ g12 < W9.heap.size ∧ (i ≤ 32)) (32 - (0)) ?_ (fun n9 a9 W9 hI => ?_)
  ·
   exact ⟨0, (fun q9 => (#[Z8, Z8, Z8, Z8, Z8, Z8, Z8, Z8, Z8, Z8, Z8, Z8, Z8, Z8, Z8, Z8, Z8, Z8, Z8, Z8, Z8, Z8, Z8, Z8, Z8, Z8, Z8, Z8] : Array Value).getD q9 Z8), rfl, rfl, BE, Rg3_0, Tg3, Lg3, (by rw [show leN (l.take 0) = 0 from rfl, wl_zero]; exact Rg12_0), Tg12, Lg12, (by omega)⟩
  clear BE Rg3_0 Rg12_0 Tg3 Tg12 Lg3 Lg12
  obtain ⟨i, u18, rfl, rfl, BE, Rg3_0, Tg3, Lg3, Rg12_0, Tg12, Lg12, hi4⟩ := hI
  obtain ⟨w19, rfl⟩ : ∃ W8, W8 = W9 := ⟨_, rfl⟩
  refine Z9 (fun K20 hK20 => ?_)
  refine Z30 1 (by kernel_rfl) (fun Lk hLk => ?_)
  simp only [Z6, Z7]
  refine Z20 (v := .bool (decide (i < 32))) (by rfl) rfl rfl rfl (fun W => run_lssN i 32 _ _ W) ?_
  simp only [Z12, Z5]
  refine Z19 (hLk.out _ ?_)
  clear hLk Lk
  simp only [Z6, Z7]
  iterate 1 refine Z28 (by rfl) ?_
  refine Z29 (fun w22 Sw22 hbs => ?_)
  clear hbs
  replace Rg3_0 := Z26 Rg3_0 Lg3 Sw22
  replace Tg3 := Z27 Tg3 Lg3 Sw22
  replace Rg12_0 := Z26 Rg12_0 Lg12 Sw22
  replace Tg12 := Z27 Tg12 Lg12 Sw22
  replace Lg3 := Z0 Lg3 Sw22.2.2.size
  replace Lg12 := Z0 Lg12 Sw22.2.2.size
  replace BE := BE.trans (Sw22.2.2.mono BE.size)
  refine Z14 (Z15 ?_)
  refine hK20 _ _ ?_
  refine Z9 (fun K23 hK23 => ?_)
  cases hc24 : (decide (i < 32))
  ·
   have ei : i = l.length := by have := of_decide_eq_false hc24; omega
   subst ei
   rw [List.take_length] at Rg12_0
   have R9 : World.rangeAt w22 g12 0 (fel (leN l)) := Rg12_0
   clear Rg12_0
   have Rg12_0 := R9
   clear R9
   refine Z11 rfl ?_
   refine wp_exit ?_
   refine hK14 _ _ ?_
   refine Z9 (fun K25 hK25 => ?_)
   refine Z9 (fun K26 hK26 => ?_)
   refine wp_region_grow 4 [] (by kernel_rfl) (by kernel_rfl) (by kernel_rfl) (fun Lk hLk => ?_)
   simp only [Z6, Z7]
   refine Z31 (cs := fel (leN l)) (by rfl) rfl rfl Rg12_0 Lg12 Tryd.underlying86 rfl info86 ?_
   simp only [Z12, Z5]
   refine Z25 (v := fe (leastF (leN l))) (args := #[fe (leN l)]) (by rfl) rfl Tryd.func127 (by kernel_rfl) (by kernel_rfl) rfl (fun W hW => least_c (leN_256 h32) W) ?_
   simp only [Z12, Z5]
   refine Z31 (cs := fel (leN l)) (by rfl) rfl rfl Rg12_0 Lg12 Tryd.underlying86 rfl info86 ?_
   simp only [Z12, Z5]
   refine Z24 (v := .bool (decide (leastF (leN l) ≠ leN l))) (by rfl) (by rfl) (fun W hW => ?_) ?_
   ·
    exact run_neq_fe (leastF_lt ..) (leN_256 h32) Tryd.underlying86 Tryd.underlying40 info40 (by kernel_rfl) rfl rfl rfl W
   simp only [Z12, Z5]
   refine Z19 (hLk.out _ ?_)
   clear hLk Lk
   simp only [Z6, Z7]
   iterate 4 refine Z28 (by rfl) ?_
   refine Z29 (fun w28 Sw28 hbs => ?_)
   clear hbs
   replace Rg3_0 := Z26 Rg3_0 Lg3 Sw28
   replace Tg3 := Z27 Tg3 Lg3 Sw28
   replace Rg12_0 := Z26 Rg12_0 Lg12 Sw28
   replace Tg12 := Z27 Tg12 Lg12 Sw28
   replace Lg3 := Z0 Lg3 Sw28.2.2.size
   replace Lg12 := Z0 Lg12 Sw28.2.2.size
   replace BE := BE.trans (Sw28.2.2.mono BE.size)
   refine Z14 (Z15 ?_)
   refine hK26 _ _ ?_
   cases hc29 : (decide (leastF (leN l) ≠ leN l))
   ·
    have qhc29 : leastF (leN l) = leN l := Decidable.not_not.1 (of_decide_eq_false hc29)
    refine Z11 rfl ?_
    refine wp_skip ?_
    refine hK25 _ _ ?_
    refine Z9 (fun K30 hK30 => ?_)
    refine Z30 1 (by kernel_rfl) (fun Lk hLk => ?_)
    simp only [Z6, Z7]
    refine Z31 (cs := fel (leN l)) (by rfl) rfl rfl Rg12_0 Lg12 Tryd.underlying86 rfl info86 ?_
    simp only [Z12, Z5]
    refine Z19 (hLk.out _ ?_)
    clear hLk Lk
    simp only [Z6, Z7]
    iterate 1 refine Z28 (by rfl) ?_
    refine Z29 (fun w32 Sw32 hbs => ?_)
    clear hbs
    replace Rg3_0 := Z26 Rg3_0 Lg3 Sw32
    replace Tg3 := Z27 Tg3 Lg3 Sw32
    replace Rg12_0 := Z26 Rg12_0 Lg12 Sw32
    replace Tg12 := Z27 Tg12 Lg12 Sw32
    replace Lg3 := Z0 Lg3 Sw32.2.2.size
    replace Lg12 := Z0 Lg12 Sw32.2.2.size
    replace BE := BE.trans (Sw32.2.2.mono BE.size)
    refine Z33 (g := g3) (off := 0) (n := 4) (cs := fel (leN l)) (by rfl) (by rfl) (by rfl) (by rfl) (by rfl) Tg3 (by simp [flen]) info86 (fel_one _) (fun w33 Pw33 RR TT => ?_)
    replace Rg12_0 := Pw33.range Rg12_0 (.inl (Ne.symm Ng3_g12))
    replace Tg12 := Pw33.other_there Tg12 (Ne.symm Ng3_g12)
    replace Rg3_0 := RR
    clear RR
    replace Tg3 := TT
    replace Lg3 := Pw33.lt Lg3
    replace Lg12 := Pw33.lt Lg12
    replace BE := Pw33.below BE Gg3
    refine Z18 (v := .int .i64 0) (by rfl) (by rfl) (by rfl) ?_
    simp only [Z12, Z5]
    refine Z14 (Z15 ?_)
    refine hK30 _ _ ?_
    refine wp_ret ?_
    repeat (first | with_reducible refine then_ret ?_ | with_reducible refine inblock_ret ?_)
    refine bodyPost_ret (v := .tuple #[fe (leN l), .int .i64 0]) (res2 rfl (.cell (by rfl) (run_loadVar_mid _ _ _ _ (fel (leN l)) _ Rg3_0 Tryd.underlying86 rfl info86)) (.tmp (by rfl))) rfl ?_
    exact ⟨by rw [(fp2 h32 qhc29).1, (fp2 h32 qhc29).2], BE⟩
   ·
    have qhc29 : ¬ leastF (leN l) = leN l := of_decide_eq_true hc29
    refine Z10 rfl ?_
    refine Z9 (fun K34 hK34 => ?_)
    refine Z30 1 (by kernel_rfl) (fun Lk hLk => ?_)
    simp only [Z6, Z7]
    refine Z24 (v := fe 0) (by rfl) (by rfl) (fun W hW => ?_) ?_
    ·
     rw [show fe 0 = .agg ([.int .u64 0, .int .u64 0, .int .u64 0, .int .u64 0]).toArray from (by kernel_rfl)]; unfold RunsVal; kernel_rfl
    simp only [Z12, Z5]
    refine Z19 (hLk.out _ ?_)
    clear hLk Lk
    simp only [Z6, Z7]
    iterate 1 refine Z28 (by rfl) ?_
    refine Z29 (fun w36 Sw36 hbs => ?_)
    clear hbs
    replace Rg3_0 := Z26 Rg3_0 Lg3 Sw36
    replace Tg3 := Z27 Tg3 Lg3 Sw36
    replace Rg12_0 := Z26 Rg12_0 Lg12 Sw36
    replace Tg12 := Z27 Tg12 Lg12 Sw36
    replace Lg3 := Z0 Lg3 Sw36.2.2.size
    replace Lg12 := Z0 Lg12 Sw36.2.2.size
    replace BE := BE.trans (Sw36.2.2.mono BE.size)
    refine Z33 (g := g3) (off := 0) (n := 4) (cs := fel 0) (by rfl) (by rfl) (by rfl) (by rfl) (by rfl) Tg3 (by simp [flen]) info86 (fel_one _) (fun w37 Pw37 RR TT => ?_)
    replace Rg12_0 := Pw37.range Rg12_0 (.inl (Ne.symm Ng3_g12))
    replace Tg12 := Pw37.other_there Tg12 (Ne.symm Ng3_g12)
    replace Rg3_0 := RR
    clear RR
    replace Tg3 := TT
    replace Lg3 := Pw37.lt Lg3
    replace Lg12 := Pw37.lt Lg12
    replace BE := Pw37.below BE Gg3
    refine Z18 (v := .int .i64 2) (by rfl) (by rfl) (by rfl) ?_
    simp only [Z12, Z5]
    refine Z14 (Z15 ?_)
    refine hK34 _ _ ?_
    refine wp_ret ?_
    repeat (first | with_reducible refine then_ret ?_ | with_reducible refine inblock_ret ?_)
    refine bodyPost_ret (v := .tuple #[fe 0, .int .i64 2]) (res2 rfl (.cell (by rfl) (run_loadVar_mid _ _ _ _ (fel 0) _ Rg3_0 Tryd.underlying86 rfl info86)) (.tmp (by rfl))) rfl ?_
    exact ⟨by rw [(fp1 h32 qhc29).1, (fp1 h32 qhc29).2], BE⟩
  ·
   have hi0 : i < 32 := of_decide_eq_true hc24
   have hi : i < l.length := by omega
   have hpb := put_byte (leN_take_lt l i) (byteN_lt l i)
   refine Z10 rfl ?_
   refine wp_skip ?_
   refine hK23 _ _ ?_
   refine Z9 (fun K38 hK38 => ?_)
   refine wp_block ?_
   refine Z9 (fun K39 hK39 => ?_)
   refine Z30 1 (by kernel_rfl) (fun Lk hLk => ?_)
   simp only [Z6, Z7]
   refine Z21 (v := .int .i64 ((i : Nat) : Int)) (by rfl) rfl rfl ?_
   simp only [Z12, Z5]
   refine Z19 (hLk.out _ ?_)
   clear hLk Lk
   simp only [Z6, Z7]
   iterate 1 refine Z28 (by rfl) ?_
   refine Z29 (fun w41 Sw41 hbs => ?_)
   clear hbs
   replace Rg3_0 := Z26 Rg3_0 Lg3 Sw41
   replace Tg3 := Z27 Tg3 Lg3 Sw41
   replace Rg12_0 := Z26 Rg12_0 Lg12 Sw41
   replace Tg12 := Z27 Tg12 Lg12 Sw41
   replace Lg3 := Z0 Lg3 Sw41.2.2.size
   replace Lg12 := Z0 Lg12 Sw41.2.2.size
   replace BE := BE.trans (Sw41.2.2.mono BE.size)
   refine Z18 (v := .int .i64 ((i : Nat) : Int)) (by rfl) (by rfl) (by rfl) ?_
   simp only [Z12, Z5]
   refine Z14 (Z15 ?_)
   refine hK39 _ _ ?_
   refine wp_region_grow 14 [] (by kernel_rfl) (by kernel_rfl) (by kernel_rfl) (fun Lk hLk => ?_)
   simp only [Z6, Z7]
   refine Z21 (v := .int .i64 ((i : Nat) : Int)) (by rfl) rfl rfl ?_
   simp only [Z12, Z5]
   refine Z20 (v := .int .i64 ((i / 8 : Nat) : Int)) (by rfl) rfl rfl rfl (fun W => run_quo (by decide) ((congrArg _ (tdiv_nat i 8)).trans (wrap_nat _ (by omega))) W) ?_
   simp only [Z12, Z5]
   refine wpV_idx (n := i / 8) (by rfl) rfl rfl rfl Tryd.underlying86 info40 (by omega) ?_
   simp only [Z1]
   simp only [Z12, Z5]
   refine Z34 (v := .int .u64 ((limbN (leN (l.take i)) (i / 8) : Nat) : Int)) (by rfl) rfl rfl (by have := Rg12_0 _ _ (wl_get (j := i / 8) 4 (leN (l.take i)) (by omega)); rwa [Z1] at this) Lg12 Tryd.underlying40 rfl ?_
   simp only [Z12, Z5]
   refine Z21 (v := .string (bs l)) (by rfl) rfl rfl ?_
   simp only [Z12, Z5]
   refine Z21 (v := .int .i64 ((i : Nat) : Int)) (by rfl) rfl rfl ?_
   simp only [Z12, Z5]
   refine wpV_indexb (n := i) (by omega) (by rfl) rfl rfl rfl Tryd.underlying9 ?_
   simp only [Z12, Z5]
   refine wpV_conv (d := .bool) (e := ((byteN l i : Nat) : Int)) (by rfl) rfl rfl (run_conv_int Tryd.underlying5 Tryd.underlying40 (by have := byteN_lt l i; rw [wrap_u64]; omega)) ?_
   simp only [Z12, Z5]
   refine Z21 (v := .int .i64 ((i : Nat) : Int)) (by rfl) rfl rfl ?_
   simp only [Z12, Z5]
   refine Z20 (v := .int .i64 ((i % 8 : Nat) : Int)) (by rfl) rfl rfl rfl (fun W => run_rem (by decide) (tmod_nat i 8) W) ?_
   simp only [Z12, Z5]
   refine Z20 (v := .int .i64 ((8 * (i % 8) : Nat) : Int)) (by rfl) rfl rfl rfl (fun W => run_mul (by simp only [IntKind.wrap_i64]; omega) W) ?_
   simp only [Z12, Z5]
   refine Z20 (v := .int .u64 ((byteN l i * 2 ^ (8 * (i % 8)) : Nat) : Int)) (by rfl) rfl rfl rfl (fun W => run_shl (by show _ ≤ 64; omega) (by have := hpb.2.1; rw [wrap_u64]; omega) W) ?_
   simp only [Z12, Z5]
   refine Z20 (v := .int .u64 ((limbN (leN (l.take i)) (i / 8) + byteN l i * 2 ^ (8 * (i % 8)) : Nat) : Int)) (by rfl) rfl rfl rfl (fun W => run_or (((bits_nat64 _ _ (limbN_lt _ _) (by have := hpb.2.1; simp only [Nat.reducePow] at *; omega)).2).trans (congrArg _ hpb.1)) W) ?_
   simp only [Z12, Z5]
   refine wpV_idx (n := i / 8) (by rfl) rfl rfl rfl Tryd.underlying86 info40 (by omega) ?_
   simp only [Z1]
   simp only [Z12, Z5]
   refine Z19 (hLk.out _ ?_)
   clear hLk Lk
   simp only [Z6, Z7]
   iterate 14 refine Z28 (by rfl) ?_
   refine Z29 (fun w43 Sw43 hbs => ?_)
   clear hbs
   replace Rg3_0 := Z26 Rg3_0 Lg3 Sw43
   replace Tg3 := Z27 Tg3 Lg3 Sw43
   replace Rg12_0 := Z26 Rg12_0 Lg12 Sw43
   replace Tg12 := Z27 Tg12 Lg12 Sw43
   replace Lg3 := Z0 Lg3 Sw43.2.2.size
   replace Lg12 := Z0 Lg12 Sw43.2.2.size
   replace BE := BE.trans (Sw43.2.2.mono BE.size)
   refine Z23 (g := g12) (off := i / 8) (n := 4) (v := .int .u64 ((limbN (leN (l.take i)) (i / 8) + byteN l i * 2 ^ (8 * (i % 8)) : Nat) : Int)) (by rfl) (by rfl) (by rfl) (by rfl) (by rfl) Tg12 (by omega) info40 rfl (fun w44 Pw44 RR TT => ?_)
   replace Rg3_0 := Pw44.range Rg3_0 (.inl Ng3_g12)
   replace Tg3 := Pw44.other_there Tg3 Ng3_g12
   replace Rg12_0 := range_set Rg12_0 Pw44 RR
   clear RR
   replace Tg12 := TT
   replace Lg3 := Pw44.lt Lg3
   replace Lg12 := Pw44.lt Lg12
   replace BE := Pw44.below BE Gg12
   rw [wl_set hpb.2.2 hpb.2.1, ← leN_take_succ l hi] at Rg12_0
   refine Z14 (Z15 ?_)
   refine hK38 _ _ ?_
   refine Z30 2 (by kernel_rfl) (fun Lk hLk => ?_)
   simp only [Z6, Z7]
   refine Z20 (v := .int .i64 ((i + 1 : Nat) : Int)) (by rfl) rfl rfl rfl (fun W => run_add (by simp only [IntKind.wrap_i64]; omega) W) ?_
   simp only [Z12, Z5]
   refine Z21 (v := .int .i64 ((i + 1 : Nat) : Int)) (by rfl) rfl rfl ?_
   simp only [Z12, Z5]
   refine Z19 (hLk.out _ ?_)
   clear hLk Lk
   simp only [Z6, Z7]
   iterate 2 refine Z28 (by rfl) ?_
   refine Z29 (fun w46 Sw46 hbs => ?_)
   clear hbs
   replace Rg3_0 := Z26 Rg3_0 Lg3 Sw46
   replace Tg3 := Z27 Tg3 Lg3 Sw46
   replace Rg12_0 := Z26 Rg12_0 Lg12 Sw46
   replace Tg12 := Z27 Tg12 Lg12 Sw46
   replace Lg3 := Z0 Lg3 Sw46.2.2.size
   replace Lg12 := Z0 Lg12 Sw46.2.2.size
   replace BE := BE.trans (Sw46.2.2.mono BE.size)
   refine Z14 (Z15 ?_)
   refine Exists.intro _ ⟨?_, (i + 1), (fun q9 => (#[Z8, Z8, Z8, Z8, Z8, .int .i64 ((i : Nat) : Int), Z8, Z8, Z8, Z8, Z8, .bool true, .int .i64 ((i : Nat) : Int), .int .i64 ((i : Nat) : Int), .int .i64 ((i / 8 : Nat) : Int), .pointer (some ⟨g12, i / 8, none⟩), .int .u64 ((limbN (leN (l.take i)) (i / 8) : Nat) : Int), .string (bs l), .int .i64 ((i : Nat) : Int), .int .u8 ((byteN l i : Nat) : Int), .int .u64 ((byteN l i : Nat) : Int), .int .i64 ((i : Nat) : Int), .int .i64 ((i % 8 : Nat) : Int), .int .i64 ((8 * (i % 8) : Nat) : Int), .int .u64 ((byteN l i * 2 ^ (8 * (i % 8)) : Nat) : Int), .int .u64 ((limbN (leN (l.take i)) (i / 8) + byteN l i * 2 ^ (8 * (i % 8)) : Nat) : Int), .pointer (some ⟨g12, i / 8, none⟩), .int .i64 ((i + 1 : Nat) : Int)] : Array Value).getD q9 Z8), rfl, rfl, BE, Rg3_0, Tg3, Lg3, Rg12_0, Tg12, Lg12, (by omega)⟩
   omega
 ·
  have h32 : l.length ≠ 32 := by intro e; rw [e] at hc9; simp at hc9
  refine Z10 rfl ?_
  refine Z9 (fun K47 hK47 => ?_)
  refine Z30 1 (by kernel_rfl) (fun Lk hLk => ?_)
  simp only [Z6, Z7]
  refine Z24 (v := fe 0) (by rfl) (by rfl) (fun W hW => ?_) ?_
  ·
   rw [show fe 0 = .agg ([.int .u64 0, .int .u64 0, .int .u64 0, .int .u64 0]).toArray from (by kernel_rfl)]; unfold RunsVal; kernel_rfl
  simp only [Z12, Z5]
  refine Z19 (hLk.out _ ?_)
  clear hLk Lk
  simp only [Z6, Z7]
  iterate 1 refine Z28 (by rfl) ?_
  refine Z29 (fun w49 Sw49 hbs => ?_)
  clear hbs
  replace Rg3_0 := Z26 Rg3_0 Lg3 Sw49
  replace Tg3 := Z27 Tg3 Lg3 Sw49
  replace Lg3 := Z0 Lg3 Sw49.2.2.size
  replace BE := BE.trans (Sw49.2.2.mono BE.size)
  refine Z33 (g := g3) (off := 0) (n := 4) (cs := fel 0) (by rfl) (by rfl) (by rfl) (by rfl) (by rfl) Tg3 (by simp [flen]) info86 (fel_one _) (fun w50 Pw50 RR TT => ?_)
  replace Rg3_0 := RR
  clear RR
  replace Tg3 := TT
  replace Lg3 := Pw50.lt Lg3
  replace BE := Pw50.below BE Gg3
  refine Z18 (v := .int .i64 1) (by rfl) (by rfl) (by rfl) ?_
  simp only [Z12, Z5]
  refine Z14 (Z15 ?_)
  refine hK47 _ _ ?_
  refine wp_ret ?_
  repeat (first | with_reducible refine then_ret ?_ | with_reducible refine inblock_ret ?_)
  refine bodyPost_ret (v := .tuple #[fe 0, .int .i64 1]) (res2 rfl (.cell (by rfl) (run_loadVar_mid _ _ _ _ (fel 0) _ Rg3_0 Tryd.underlying86 rfl info86)) (.tmp (by rfl))) rfl ?_
  exact ⟨by rw [(fp0 h32).1, (fp0 h32).2], BE⟩
set_option maxHeartbeats 2000000 in
theorem fsqrt_c {x : Nat} (hx : x < 2 ^ 256) (w : World) :
  Calls Tryd.prog 130 #[fe x] w fun e w' => e = .returned (.tuple #[fe (fsqrt x).1, .bool (fsqrt x).2]) ∧ Below w.heap.size w w' := by
 go_enter Tryd.func130, Tryd.ntmps130
 have BE := Below.refl w.heap.size w
 refine Z9 (fun K1 hK1 => ?_)
 refine Z30 2 (by kernel_rfl) (fun Lk hLk => ?_)
 simp only [Z6, Z7]
 refine wpV_alloc (by rfl) ?_
 refine wpV_alloc (by rfl) ?_
 refine Z19 (hLk.out _ ?_)
 clear hLk Lk
 simp only [Z6, Z7]
 refine wpN_new (t := 86) (cs := (fel x).toArray) (by rfl) (fun W => ?_) (fun g3 Hg3 ng3 => ?_)
 ·
  (first | rfl | go_simp)
 refine wpN_new (t := 86) (cs := ([.int .u64 0, .int .u64 0, .int .u64 0, .int .u64 0]).toArray) (by rfl) (fun W => ?_) (fun g4 Hg4 ng4 => ?_)
 ·
  go_simp
 simp only [Z12, Z5]
 refine Z29 (fun w5 Sw5 hbs => ?_)
 have Bg3 : Blk w5 g3 86 (fel x).toArray := hbs _ (List.mem_cons_of_mem _ (List.mem_cons_self ..))
 have Bg4 : Blk w5 g4 86 ([.int .u64 0, .int .u64 0, .int .u64 0, .int .u64 0]).toArray := hbs _ (List.mem_cons_self ..)
 clear hbs
 have Gg3 : w.heap.size ≤ g3 := Z2 BE.size Hg3
 have Ng3_g4 : g3 ≠ g4 := ng4 (g3, _, _) (List.mem_cons_self ..)
 have Gg4 : w.heap.size ≤ g4 := Z2 BE.size Hg4
 replace BE := BE.trans (Sw5.2.2.mono BE.size)
 have Tg3 := blk_there Bg3 (n := 4) (by simp [flen])
 have Rg3_0 := blk_range Bg3 (l := fel x) rfl
 have Lg3 := Bg3.lt
 have Tg4 := blk_there Bg4 (n := 4) (by simp [flen])
 have Rg4_0 := blk_range Bg4 (l := [.int .u64 0, .int .u64 0, .int .u64 0, .int .u64 0]) rfl
 have Lg4 := Bg4.lt
 clear ng3 ng4 Bg3 Bg4
 refine Z18 (v := .bool false) (by rfl) (by rfl) (by rfl) ?_
 simp only [Z12, Z5]
 refine Z14 (Z15 ?_)
 refine hK1 _ _ ?_
 refine Z9 (fun K6 hK6 => ?_)
 refine Z30 2 (by kernel_rfl) (fun Lk hLk => ?_)
 simp only [Z6, Z7]
 refine Z31 (cs := fel x) (by rfl) rfl rfl Rg3_0 Lg3 Tryd.underlying86 rfl info86 ?_
 simp only [Z12, Z5]
 refine Z25 (v := fe (leastF x)) (args := #[fe x]) (by rfl) rfl Tryd.func127 (by kernel_rfl) (by kernel_rfl) rfl (fun W hW => least_c hx W) ?_
 simp only [Z12, Z5]
 refine Z19 (hLk.out _ ?_)
 clear hLk Lk
 simp only [Z6, Z7]
 iterate 2 refine Z28 (by rfl) ?_
 refine Z29 (fun w8 Sw8 hbs => ?_)
 clear hbs
 replace Rg3_0 := Z26 Rg3_0 Lg3 Sw8
 replace Tg3 := Z27 Tg3 Lg3 Sw8
 replace Rg4_0 := Z26 Rg4_0 Lg4 Sw8
 replace Tg4 := Z27 Tg4 Lg4 Sw8
 replace Lg3 := Z0 Lg3 Sw8.2.2.size
 replace Lg4 := Z0 Lg4 Sw8.2.2.size
 replace BE := BE.trans (Sw8.2.2.mono BE.size)
 refine Z33 (g := g3) (off := 0) (n := 4) (cs := fel (leastF x)) (by rfl) (by rfl) (by rfl) (by rfl) (by rfl) Tg3 (by simp [flen]) info86 (fel_one _) (fun w9 Pw9 RR TT => ?_)
 replace Rg4_0 := Pw9.range Rg4_0 (.inl (Ne.symm Ng3_g4))
 replace Tg4 := Pw9.other_there Tg4 (Ne.symm Ng3_g4)
 replace Rg3_0 := RR
 clear RR
 replace Tg3 := TT
 replace Lg3 := Pw9.lt Lg3
 replace Lg4 := Pw9.lt Lg4
 replace BE := Pw9.below BE Gg3
 refine Z14 (Z15 ?_)
 refine hK6 _ _ ?_
 refine Z9 (fun K10 hK10 => ?_)
 refine Z30 2 (by kernel_rfl) (fun Lk hLk => ?_)
 simp only [Z6, Z7]
 refine Z24 (v := fe 7237005577332262213973186563042994240829374041602535252466099000494570602494) (by rfl) (by rfl) (fun W hW => ?_) ?_
 ·
  rw [show fe 7237005577332262213973186563042994240829374041602535252466099000494570602494 = .agg ([.int .u64 18446744073709551614, .int .u64 18446744073709551615, .int .u64 18446744073709551615, .int .u64 1152921504606846975]).toArray from (by kernel_rfl)]; unfold RunsVal; kernel_rfl
 simp only [Z12, Z5]
 refine wpV_alloc (by rfl) ?_
 refine Z19 (hLk.out _ ?_)
 clear hLk Lk
 simp only [Z6, Z7]
 iterate 1 refine Z28 (by rfl) ?_
 refine wpN_new (t := 86) (cs := ([.int .u64 0, .int .u64 0, .int .u64 0, .int .u64 0]).toArray) (by rfl) (fun W => ?_) (fun g12 Hg12 ng12 => ?_)
 ·
  go_simp
 simp only [Z12, Z5]
 refine Z29 (fun w13 Sw13 hbs => ?_)
 have Bg12 : Blk w13 g12 86 ([.int .u64 0, .int .u64 0, .int .u64 0, .int .u64 0]).toArray := hbs _ (List.mem_cons_self ..)
 clear hbs
 have Ng3_g12 : g3 ≠ g12 := Z3 (Z0 Lg3 Hg12)
 have Ng4_g12 : g4 ≠ g12 := Z3 (Z0 Lg4 Hg12)
 have Gg12 : w.heap.size ≤ g12 := Z2 BE.size Hg12
 replace Rg3_0 := Z26 Rg3_0 Lg3 Sw13
 replace Tg3 := Z27 Tg3 Lg3 Sw13
 replace Rg4_0 := Z26 Rg4_0 Lg4 Sw13
 replace Tg4 := Z27 Tg4 Lg4 Sw13
 replace Lg3 := Z0 Lg3 Sw13.2.2.size
 replace Lg4 := Z0 Lg4 Sw13.2.2.size
 replace BE := BE.trans (Sw13.2.2.mono BE.size)
 have Tg12 := blk_there Bg12 (n := 4) (by simp [flen])
 have Rg12_0 := blk_range Bg12 (l := [.int .u64 0, .int .u64 0, .int .u64 0, .int .u64 0]) rfl
 have Lg12 := Bg12.lt
 clear ng12 Bg12
 refine Z33 (g := g12) (off := 0) (n := 4) (cs := fel 7237005577332262213973186563042994240829374041602535252466099000494570602494) (by rfl) (by rfl) (by rfl) (by rfl) (by rfl) Tg12 (by simp [flen]) info86 (fel_one _) (fun w14 Pw14 RR TT => ?_)
 replace Rg3_0 := Pw14.range Rg3_0 (.inl Ng3_g12)
 replace Tg3 := Pw14.other_there Tg3 Ng3_g12
 replace Rg4_0 := Pw14.range Rg4_0 (.inl Ng4_g12)
 replace Tg4 := Pw14.other_there Tg4 Ng4_g12
 replace Rg12_0 := RR
 clear RR
 replace Tg12 := TT
 replace Lg3 := Pw14.lt Lg3
 replace Lg4 := Pw14.lt Lg4
 replace Lg12 := Pw14.lt Lg12
 replace BE := Pw14.below BE Gg12
 refine Z14 (Z15 ?_)
 refine hK10 _ _ ?_
 refine Z9 (fun K15 hK15 => ?_)
 refine Z30 4 (by kernel_rfl) (fun Lk hLk => ?_)
 simp only [Z6, Z7]
 refine Z31 (cs := fel (leastF x)) (by rfl) rfl rfl Rg3_0 Lg3 Tryd.underlying86 rfl info86 ?_
 simp only [Z12, Z5]
 refine Z31 (cs := fel 7237005577332262213973186563042994240829374041602535252466099000494570602494) (by rfl) rfl rfl Rg12_0 Lg12 Tryd.underlying86 rfl info86 ?_
 simp only [Z12, Z5]
 refine Z25 (v := fe (fpow (leastF x) 7237005577332262213973186563042994240829374041602535252466099000494570602494)) (args := #[fe (leastF x), fe 7237005577332262213973186563042994240829374041602535252466099000494570602494]) (by rfl) rfl Tryd.func135 (by kernel_rfl) (by kernel_rfl) rfl (fun W hW => power_c (leastF_lt ..) (by decide) W) ?_
 simp only [Z12, Z5]
 refine wpV_alloc (by rfl) ?_
 refine Z19 (hLk.out _ ?_)
 clear hLk Lk
 simp only [Z6, Z7]
 iterate 3 refine Z28 (by rfl) ?_
 refine wpN_new (t := 86) (cs := ([.int .u64 0, .int .u64 0, .int .u64 0, .int .u64 0]).toArray) (by rfl) (fun W => ?_) (fun g17 Hg17 ng17 => ?_)
 ·
  go_simp
 simp only [Z12, Z5]
 refine Z29 (fun w18 Sw18 hbs => ?_)
 have Bg17 : Blk w18 g17 86 ([.int .u64 0, .int .u64 0, .int .u64 0, .int .u64 0]).toArray := hbs _ (List.mem_cons_self ..)
 clear hbs
 have Ng3_g17 : g3 ≠ g17 := Z3 (Z0 Lg3 Hg17)
 have Ng4_g17 : g4 ≠ g17 := Z3 (Z0 Lg4 Hg17)
 have Ng12_g17 : g12 ≠ g17 := Z3 (Z0 Lg12 Hg17)
 have Gg17 : w.heap.size ≤ g17 := Z2 BE.size Hg17
 replace Rg3_0 := Z26 Rg3_0 Lg3 Sw18
 replace Tg3 := Z27 Tg3 Lg3 Sw18
 replace Rg4_0 := Z26 Rg4_0 Lg4 Sw18
 replace Tg4 := Z27 Tg4 Lg4 Sw18
 replace Rg12_0 := Z26 Rg12_0 Lg12 Sw18
 replace Tg12 := Z27 Tg12 Lg12 Sw18
 replace Lg3 := Z0 Lg3 Sw18.2.2.size
 replace Lg4 := Z0 Lg4 Sw18.2.2.size
 replace Lg12 := Z0 Lg12 Sw18.2.2.size
 replace BE := BE.trans (Sw18.2.2.mono BE.size)
 have Tg17 := blk_there Bg17 (n := 4) (by simp [flen])
 have Rg17_0 := blk_range Bg17 (l := [.int .u64 0, .int .u64 0, .int .u64 0, .int .u64 0]) rfl
 have Lg17 := Bg17.lt
 clear ng17 Bg17
 refine Z33 (g := g17) (off := 0) (n := 4) (cs := fel (fpow (leastF x) 7237005577332262213973186563042994240829374041602535252466099000494570602494)) (by rfl) (by rfl) (by rfl) (by rfl) (by rfl) Tg17 (by simp [flen]) info86 (fel_one _) (fun w19 Pw19 RR TT => ?_)
 replace Rg3_0 := Pw19.range Rg3_0 (.inl Ng3_g17)
 replace Tg3 := Pw19.other_there Tg3 Ng3_g17
 replace Rg4_0 := Pw19.range Rg4_0 (.inl Ng4_g17)
 replace Tg4 := Pw19.other_there Tg4 Ng4_g17
 replace Rg12_0 := Pw19.range Rg12_0 (.inl Ng12_g17)
 replace Tg12 := Pw19.other_there Tg12 Ng12_g17
 replace Rg17_0 := RR
 clear RR
 replace Tg17 := TT
 replace Lg3 := Pw19.lt Lg3
 replace Lg4 := Pw19.lt Lg4
 replace Lg12 := Pw19.lt Lg12
 replace Lg17 := Pw19.lt Lg17
 replace BE := Pw19.below BE Gg17
 refine Z14 (Z15 ?_)
 refine hK15 _ _ ?_
 refine Z9 (fun K20 hK20 => ?_)
 refine Z9 (fun K21 hK21 => ?_)
 refine wp_region_grow 5 [] (by kernel_rfl) (by kernel_rfl) (by kernel_rfl) (fun Lk hLk => ?_)
 simp only [Z6, Z7]
 refine Z31 (cs := fel (fpow (leastF x) 7237005577332262213973186563042994240829374041602535252466099000494570602494)) (by rfl) rfl rfl Rg17_0 Lg17 Tryd.underlying86 rfl info86 ?_
 simp only [Z12, Z5]
 refine Z31 (cs := fel (fpow (leastF x) 7237005577332262213973186563042994240829374041602535252466099000494570602494)) (by rfl) rfl rfl Rg17_0 Lg17 Tryd.underlying86 rfl info86 ?_
 simp only [Z12, Z5]
 refine Z25 (v := fe (fmul (fpow (leastF x) 7237005577332262213973186563042994240829374041602535252466099000494570602494) (fpow (leastF x) 7237005577332262213973186563042994240829374041602535252466099000494570602494))) (args := #[fe (fpow (leastF x) 7237005577332262213973186563042994240829374041602535252466099000494570602494), fe (fpow (leastF x) 7237005577332262213973186563042994240829374041602535252466099000494570602494)]) (by rfl) rfl Tryd.func96 (by kernel_rfl) (by kernel_rfl) rfl (fun W hW => fmul_c (fpow_lt ..) (fpow_lt ..) W) ?_
 simp only [Z12, Z5]
 refine Z31 (cs := fel (leastF x)) (by rfl) rfl rfl Rg3_0 Lg3 Tryd.underlying86 rfl info86 ?_
 simp only [Z12, Z5]
 refine Z24 (v := .bool (decide (fmul (fpow (leastF x) 7237005577332262213973186563042994240829374041602535252466099000494570602494) (fpow (leastF x) 7237005577332262213973186563042994240829374041602535252466099000494570602494) ≠ leastF x))) (by rfl) (by rfl) (fun W hW => ?_) ?_
 ·
  exact run_neq_fe (fmul_lt ..) (leastF_lt ..) Tryd.underlying86 Tryd.underlying40 info40 (by kernel_rfl) rfl rfl rfl W
 simp only [Z12, Z5]
 refine Z19 (hLk.out _ ?_)
 clear hLk Lk
 simp only [Z6, Z7]
 iterate 5 refine Z28 (by rfl) ?_
 refine Z29 (fun w23 Sw23 hbs => ?_)
 clear hbs
 replace Rg3_0 := Z26 Rg3_0 Lg3 Sw23
 replace Tg3 := Z27 Tg3 Lg3 Sw23
 replace Rg4_0 := Z26 Rg4_0 Lg4 Sw23
 replace Tg4 := Z27 Tg4 Lg4 Sw23
 replace Rg12_0 := Z26 Rg12_0 Lg12 Sw23
 replace Tg12 := Z27 Tg12 Lg12 Sw23
 replace Rg17_0 := Z26 Rg17_0 Lg17 Sw23
 replace Tg17 := Z27 Tg17 Lg17 Sw23
 replace Lg3 := Z0 Lg3 Sw23.2.2.size
 replace Lg4 := Z0 Lg4 Sw23.2.2.size
 replace Lg12 := Z0 Lg12 Sw23.2.2.size
 replace Lg17 := Z0 Lg17 Sw23.2.2.size
 replace BE := BE.trans (Sw23.2.2.mono BE.size)
 refine Z14 (Z15 ?_)
 refine hK21 _ _ ?_
 cases hc24 : (decide (fmul (fpow (leastF x) 7237005577332262213973186563042994240829374041602535252466099000494570602494) (fpow (leastF x) 7237005577332262213973186563042994240829374041602535252466099000494570602494) ≠ leastF x))
 ·
  have q1 : fmul (root1 x) (root1 x) = leastF x := Decidable.not_not.1 (of_decide_eq_false hc24)
  refine Z11 rfl ?_
  refine wp_skip ?_
  refine hK20 _ _ ?_
  refine Z9 (fun K25 hK25 => ?_)
  refine Z9 (fun K26 hK26 => ?_)
  refine wp_region_grow 5 [] (by kernel_rfl) (by kernel_rfl) (by kernel_rfl) (fun Lk hLk => ?_)
  simp only [Z6, Z7]
  refine Z31 (cs := fel (fpow (leastF x) 7237005577332262213973186563042994240829374041602535252466099000494570602494)) (by rfl) rfl rfl Rg17_0 Lg17 Tryd.underlying86 rfl info86 ?_
  simp only [Z12, Z5]
  refine Z31 (cs := fel (fpow (leastF x) 7237005577332262213973186563042994240829374041602535252466099000494570602494)) (by rfl) rfl rfl Rg17_0 Lg17 Tryd.underlying86 rfl info86 ?_
  simp only [Z12, Z5]
  refine Z25 (v := fe (fmul (fpow (leastF x) 7237005577332262213973186563042994240829374041602535252466099000494570602494) (fpow (leastF x) 7237005577332262213973186563042994240829374041602535252466099000494570602494))) (args := #[fe (fpow (leastF x) 7237005577332262213973186563042994240829374041602535252466099000494570602494), fe (fpow (leastF x) 7237005577332262213973186563042994240829374041602535252466099000494570602494)]) (by rfl) rfl Tryd.func96 (by kernel_rfl) (by kernel_rfl) rfl (fun W hW => fmul_c (fpow_lt ..) (fpow_lt ..) W) ?_
  simp only [Z12, Z5]
  refine Z31 (cs := fel (leastF x)) (by rfl) rfl rfl Rg3_0 Lg3 Tryd.underlying86 rfl info86 ?_
  simp only [Z12, Z5]
  refine Z24 (v := .bool false) (by rfl) (by rfl) (fun W hW => ?_) ?_
  ·
   exact hc24 ▸ run_neq_fe (fmul_lt ..) (leastF_lt ..) Tryd.underlying86 Tryd.underlying40 info40 (by kernel_rfl) rfl rfl rfl W
  simp only [Z12, Z5]
  refine Z19 (hLk.out _ ?_)
  clear hLk Lk
  simp only [Z6, Z7]
  iterate 5 refine Z28 (by rfl) ?_
  refine Z29 (fun w28 Sw28 hbs => ?_)
  clear hbs
  replace Rg3_0 := Z26 Rg3_0 Lg3 Sw28
  replace Tg3 := Z27 Tg3 Lg3 Sw28
  replace Rg4_0 := Z26 Rg4_0 Lg4 Sw28
  replace Tg4 := Z27 Tg4 Lg4 Sw28
  replace Rg12_0 := Z26 Rg12_0 Lg12 Sw28
  replace Tg12 := Z27 Tg12 Lg12 Sw28
  replace Rg17_0 := Z26 Rg17_0 Lg17 Sw28
  replace Tg17 := Z27 Tg17 Lg17 Sw28
  replace Lg3 := Z0 Lg3 Sw28.2.2.size
  replace Lg4 := Z0 Lg4 Sw28.2.2.size
  replace Lg12 := Z0 Lg12 Sw28.2.2.size
  replace Lg17 := Z0 Lg17 Sw28.2.2.size
  replace BE := BE.trans (Sw28.2.2.mono BE.size)
  refine Z14 (Z15 ?_)
  refine hK26 _ _ ?_
  refine Z11 rfl ?_
  refine wp_skip ?_
  refine hK25 _ _ ?_
  refine Z9 (fun K29 hK29 => ?_)
  refine Z9 (fun K30 hK30 => ?_)
  refine Z30 4 (by kernel_rfl) (fun Lk hLk => ?_)
  simp only [Z6, Z7]
  refine Z24 (v := .pointer (some ⟨g17, 0, none⟩)) (by rfl) (by rfl) (fun W hW => ?_) ?_
  ·
   (go_simp; exact rfl)
  simp only [Z12, Z5]
  refine Z34 (v := .int .u64 (limb (fpow (leastF x) 7237005577332262213973186563042994240829374041602535252466099000494570602494) 0)) (by rfl) rfl rfl (range_one (range_sub Rg17_0 0 1 0 (xs := [.int .u64 (limb (fpow (leastF x) 7237005577332262213973186563042994240829374041602535252466099000494570602494) 0)]) rfl rfl)) Lg17 Tryd.underlying40 rfl ?_
  simp only [Z12, Z5]
  refine Z20 (v := .int .u64 (((fpow (leastF x) 7237005577332262213973186563042994240829374041602535252466099000494570602494) % 2 : Nat) : Int)) (by rfl) rfl rfl rfl (fun W => run_and (and_one _) W) ?_
  simp only [Z12, Z5]
  refine Z20 (v := .bool ((((fpow (leastF x) 7237005577332262213973186563042994240829374041602535252466099000494570602494) % 2 : Nat) : Int) == 1)) (by rfl) rfl rfl rfl (fun W => run_eql _ _ _ _ W) ?_
  simp only [Z12, Z5]
  refine Z19 (hLk.out _ ?_)
  clear hLk Lk
  simp only [Z6, Z7]
  iterate 4 refine Z28 (by rfl) ?_
  refine Z29 (fun w32 Sw32 hbs => ?_)
  clear hbs
  replace Rg3_0 := Z26 Rg3_0 Lg3 Sw32
  replace Tg3 := Z27 Tg3 Lg3 Sw32
  replace Rg4_0 := Z26 Rg4_0 Lg4 Sw32
  replace Tg4 := Z27 Tg4 Lg4 Sw32
  replace Rg12_0 := Z26 Rg12_0 Lg12 Sw32
  replace Tg12 := Z27 Tg12 Lg12 Sw32
  replace Rg17_0 := Z26 Rg17_0 Lg17 Sw32
  replace Tg17 := Z27 Tg17 Lg17 Sw32
  replace Lg3 := Z0 Lg3 Sw32.2.2.size
  replace Lg4 := Z0 Lg4 Sw32.2.2.size
  replace Lg12 := Z0 Lg12 Sw32.2.2.size
  replace Lg17 := Z0 Lg17 Sw32.2.2.size
  replace BE := BE.trans (Sw32.2.2.mono BE.size)
  refine Z14 (Z15 ?_)
  refine hK30 _ _ ?_
  cases hc33 : ((((fpow (leastF x) 7237005577332262213973186563042994240829374041602535252466099000494570602494) % 2 : Nat) : Int) == 1)
  ·
   have e2 : root2 x = (fpow (leastF x) 7237005577332262213973186563042994240829374041602535252466099000494570602494) := root2_t q1
   have q2 : fmul (root2 x) (root2 x) = leastF x := by rw [e2]; exact q1
   have q3 : ¬ root2 x % 2 = 1 := by rw [e2]; intro e; rw [e] at hc33; simp at hc33
   refine Z11 rfl ?_
   refine wp_skip ?_
   refine hK29 _ _ ?_
   refine Z9 (fun K34 hK34 => ?_)
   refine Z30 1 (by kernel_rfl) (fun Lk hLk => ?_)
   simp only [Z6, Z7]
   refine Z31 (cs := fel (fpow (leastF x) 7237005577332262213973186563042994240829374041602535252466099000494570602494)) (by rfl) rfl rfl Rg17_0 Lg17 Tryd.underlying86 rfl info86 ?_
   simp only [Z12, Z5]
   refine Z19 (hLk.out _ ?_)
   clear hLk Lk
   simp only [Z6, Z7]
   iterate 1 refine Z28 (by rfl) ?_
   refine Z29 (fun w36 Sw36 hbs => ?_)
   clear hbs
   replace Rg3_0 := Z26 Rg3_0 Lg3 Sw36
   replace Tg3 := Z27 Tg3 Lg3 Sw36
   replace Rg4_0 := Z26 Rg4_0 Lg4 Sw36
   replace Tg4 := Z27 Tg4 Lg4 Sw36
   replace Rg12_0 := Z26 Rg12_0 Lg12 Sw36
   replace Tg12 := Z27 Tg12 Lg12 Sw36
   replace Rg17_0 := Z26 Rg17_0 Lg17 Sw36
   replace Tg17 := Z27 Tg17 Lg17 Sw36
   replace Lg3 := Z0 Lg3 Sw36.2.2.size
   replace Lg4 := Z0 Lg4 Sw36.2.2.size
   replace Lg12 := Z0 Lg12 Sw36.2.2.size
   replace Lg17 := Z0 Lg17 Sw36.2.2.size
   replace BE := BE.trans (Sw36.2.2.mono BE.size)
   refine Z33 (g := g4) (off := 0) (n := 4) (cs := fel (fpow (leastF x) 7237005577332262213973186563042994240829374041602535252466099000494570602494)) (by rfl) (by rfl) (by rfl) (by rfl) (by rfl) Tg4 (by simp [flen]) info86 (fel_one _) (fun w37 Pw37 RR TT => ?_)
   replace Rg3_0 := Pw37.range Rg3_0 (.inl Ng3_g4)
   replace Tg3 := Pw37.other_there Tg3 Ng3_g4
   replace Rg12_0 := Pw37.range Rg12_0 (.inl (Ne.symm Ng4_g12))
   replace Tg12 := Pw37.other_there Tg12 (Ne.symm Ng4_g12)
   replace Rg17_0 := Pw37.range Rg17_0 (.inl (Ne.symm Ng4_g17))
   replace Tg17 := Pw37.other_there Tg17 (Ne.symm Ng4_g17)
   replace Rg4_0 := RR
   clear RR
   replace Tg4 := TT
   replace Lg3 := Pw37.lt Lg3
   replace Lg4 := Pw37.lt Lg4
   replace Lg12 := Pw37.lt Lg12
   replace Lg17 := Pw37.lt Lg17
   replace BE := Pw37.below BE Gg4
   refine Z18 (v := .bool true) (by rfl) (by rfl) (by rfl) ?_
   simp only [Z12, Z5]
   refine Z14 (Z15 ?_)
   refine hK34 _ _ ?_
   refine wp_ret ?_
   repeat (first | with_reducible refine then_ret ?_ | with_reducible refine inblock_ret ?_)
   refine bodyPost_ret (v := .tuple #[fe (fpow (leastF x) 7237005577332262213973186563042994240829374041602535252466099000494570602494), .bool true]) (res2 rfl (.cell (by rfl) (run_loadVar_mid _ _ _ _ (fel (fpow (leastF x) 7237005577332262213973186563042994240829374041602535252466099000494570602494)) _ Rg4_0 Tryd.underlying86 rfl info86)) (.tmp (by rfl))) rfl ?_
   exact ⟨by simp only [sqrt_even q2 q3, e2], BE⟩
  ·
   have e2 : root2 x = (fpow (leastF x) 7237005577332262213973186563042994240829374041602535252466099000494570602494) := root2_t q1
   have q2 : fmul (root2 x) (root2 x) = leastF x := by rw [e2]; exact q1
   have q3 : root2 x % 2 = 1 := by rw [e2]; have := beq_iff_eq.1 hc33; omega
   refine Z10 rfl ?_
   refine Z30 3 (by kernel_rfl) (fun Lk hLk => ?_)
   simp only [Z6, Z7]
   refine Z24 (v := fe 0) (by rfl) (by rfl) (fun W hW => ?_) ?_
   ·
    rw [show fe 0 = .agg ([.int .u64 0, .int .u64 0, .int .u64 0, .int .u64 0]).toArray from (by kernel_rfl)]; unfold RunsVal; kernel_rfl
   simp only [Z12, Z5]
   refine Z31 (cs := fel (fpow (leastF x) 7237005577332262213973186563042994240829374041602535252466099000494570602494)) (by rfl) rfl rfl Rg17_0 Lg17 Tryd.underlying86 rfl info86 ?_
   simp only [Z12, Z5]
   refine Z25 (v := fe (fsub 0 (fpow (leastF x) 7237005577332262213973186563042994240829374041602535252466099000494570602494))) (args := #[fe 0, fe (fpow (leastF x) 7237005577332262213973186563042994240829374041602535252466099000494570602494)]) (by rfl) rfl Tryd.func90 (by kernel_rfl) (by kernel_rfl) rfl (fun W hW => fsub_c (by decide) (fpow_lt ..) W) ?_
   simp only [Z12, Z5]
   refine Z19 (hLk.out _ ?_)
   clear hLk Lk
   simp only [Z6, Z7]
   iterate 3 refine Z28 (by rfl) ?_
   refine Z29 (fun w39 Sw39 hbs => ?_)
   clear hbs
   replace Rg3_0 := Z26 Rg3_0 Lg3 Sw39
   replace Tg3 := Z27 Tg3 Lg3 Sw39
   replace Rg4_0 := Z26 Rg4_0 Lg4 Sw39
   replace Tg4 := Z27 Tg4 Lg4 Sw39
   replace Rg12_0 := Z26 Rg12_0 Lg12 Sw39
   replace Tg12 := Z27 Tg12 Lg12 Sw39
   replace Rg17_0 := Z26 Rg17_0 Lg17 Sw39
   replace Tg17 := Z27 Tg17 Lg17 Sw39
   replace Lg3 := Z0 Lg3 Sw39.2.2.size
   replace Lg4 := Z0 Lg4 Sw39.2.2.size
   replace Lg12 := Z0 Lg12 Sw39.2.2.size
   replace Lg17 := Z0 Lg17 Sw39.2.2.size
   replace BE := BE.trans (Sw39.2.2.mono BE.size)
   refine Z33 (g := g17) (off := 0) (n := 4) (cs := fel (fsub 0 (fpow (leastF x) 7237005577332262213973186563042994240829374041602535252466099000494570602494))) (by rfl) (by rfl) (by rfl) (by rfl) (by rfl) Tg17 (by simp [flen]) info86 (fel_one _) (fun w40 Pw40 RR TT => ?_)
   replace Rg3_0 := Pw40.range Rg3_0 (.inl Ng3_g17)
   replace Tg3 := Pw40.other_there Tg3 Ng3_g17
   replace Rg4_0 := Pw40.range Rg4_0 (.inl Ng4_g17)
   replace Tg4 := Pw40.other_there Tg4 Ng4_g17
   replace Rg12_0 := Pw40.range Rg12_0 (.inl Ng12_g17)
   replace Tg12 := Pw40.other_there Tg12 Ng12_g17
   replace Rg17_0 := RR
   clear RR
   replace Tg17 := TT
   replace Lg3 := Pw40.lt Lg3
   replace Lg4 := Pw40.lt Lg4
   replace Lg12 := Pw40.lt Lg12
   replace Lg17 := Pw40.lt Lg17
   replace BE := Pw40.below BE Gg17
   refine Z14 (Z15 ?_)
   refine hK29 _ _ ?_
   refine Z9 (fun K41 hK41 => ?_)
   refine Z30 1 (by kernel_rfl) (fun Lk hLk => ?_)
   simp only [Z6, Z7]
   refine Z31 (cs := fel (fsub 0 (fpow (leastF x) 7237005577332262213973186563042994240829374041602535252466099000494570602494))) (by rfl) rfl rfl Rg17_0 Lg17 Tryd.underlying86 rfl info86 ?_
   simp only [Z12, Z5]
   refine Z19 (hLk.out _ ?_)
   clear hLk Lk
   simp only [Z6, Z7]
   iterate 1 refine Z28 (by rfl) ?_
   refine Z29 (fun w43 Sw43 hbs => ?_)
   clear hbs
   replace Rg3_0 := Z26 Rg3_0 Lg3 Sw43
   replace Tg3 := Z27 Tg3 Lg3 Sw43
   replace Rg4_0 := Z26 Rg4_0 Lg4 Sw43
   replace Tg4 := Z27 Tg4 Lg4 Sw43
   replace Rg12_0 := Z26 Rg12_0 Lg12 Sw43
   replace Tg12 := Z27 Tg12 Lg12 Sw43
   replace Rg17_0 := Z26 Rg17_0 Lg17 Sw43
   replace Tg17 := Z27 Tg17 Lg17 Sw43
   replace Lg3 := Z0 Lg3 Sw43.2.2.size
   replace Lg4 := Z0 Lg4 Sw43.2.2.size
   replace Lg12 := Z0 Lg12 Sw43.2.2.size
   replace Lg17 := Z0 Lg17 Sw43.2.2.size
   replace BE := BE.trans (Sw43.2.2.mono BE.size)
   refine Z33 (g := g4) (off := 0) (n := 4) (cs := fel (fsub 0 (fpow (leastF x) 7237005577332262213973186563042994240829374041602535252466099000494570602494))) (by rfl) (by rfl) (by rfl) (by rfl) (by rfl) Tg4 (by simp [flen]) info86 (fel_one _) (fun w44 Pw44 RR TT => ?_)
   replace Rg3_0 := Pw44.range Rg3_0 (.inl Ng3_g4)
   replace Tg3 := Pw44.other_there Tg3 Ng3_g4
   replace Rg12_0 := Pw44.range Rg12_0 (.inl (Ne.symm Ng4_g12))
   replace Tg12 := Pw44.other_there Tg12 (Ne.symm Ng4_g12)
   replace Rg17_0 := Pw44.range Rg17_0 (.inl (Ne.symm Ng4_g17))
   replace Tg17 := Pw44.other_there Tg17 (Ne.symm Ng4_g17)
   replace Rg4_0 := RR
   clear RR
   replace Tg4 := TT
   replace Lg3 := Pw44.lt Lg3
   replace Lg4 := Pw44.lt Lg4
   replace Lg12 := Pw44.lt Lg12
   replace Lg17 := Pw44.lt Lg17
   replace BE := Pw44.below BE Gg4
   refine Z18 (v := .bool true) (by rfl) (by rfl) (by rfl) ?_
   simp only [Z12, Z5]
   refine Z14 (Z15 ?_)
   refine hK41 _ _ ?_
   refine wp_ret ?_
   repeat (first | with_reducible refine then_ret ?_ | with_reducible refine inblock_ret ?_)
   refine bodyPost_ret (v := .tuple #[fe (fsub 0 (fpow (leastF x) 7237005577332262213973186563042994240829374041602535252466099000494570602494)), .bool true]) (res2 rfl (.cell (by rfl) (run_loadVar_mid _ _ _ _ (fel (fsub 0 (fpow (leastF x) 7237005577332262213973186563042994240829374041602535252466099000494570602494))) _ Rg4_0 Tryd.underlying86 rfl info86)) (.tmp (by rfl))) rfl ?_
   exact ⟨by simp only [sqrt_odd q2 q3, e2], BE⟩
 ·
  have q1 : ¬ fmul (root1 x) (root1 x) = leastF x := of_decide_eq_true hc24
  refine Z10 rfl ?_
  refine Z9 (fun K45 hK45 => ?_)
  refine Z30 2 (by kernel_rfl) (fun Lk hLk => ?_)
  simp only [Z6, Z7]
  refine Z24 (v := fe 14474011154664524427946373126085988481658748083205070504932198000989141204987) (by rfl) (by rfl) (fun W hW => ?_) ?_
  ·
   rw [show fe 14474011154664524427946373126085988481658748083205070504932198000989141204987 = .agg ([.int .u64 18446744073709551611, .int .u64 18446744073709551615, .int .u64 18446744073709551615, .int .u64 2305843009213693951]).toArray from (by kernel_rfl)]; unfold RunsVal; kernel_rfl
  simp only [Z12, Z5]
  refine wpV_alloc (by rfl) ?_
  refine Z19 (hLk.out _ ?_)
  clear hLk Lk
  simp only [Z6, Z7]
  iterate 1 refine Z28 (by rfl) ?_
  refine wpN_new (t := 86) (cs := ([.int .u64 0, .int .u64 0, .int .u64 0, .int .u64 0]).toArray) (by rfl) (fun W => ?_) (fun g47 Hg47 ng47 => ?_)
  ·
   go_simp
  simp only [Z12, Z5]
  refine Z29 (fun w48 Sw48 hbs => ?_)
  have Bg47 : Blk w48 g47 86 ([.int .u64 0, .int .u64 0, .int .u64 0, .int .u64 0]).toArray := hbs _ (List.mem_cons_self ..)
  clear hbs
  have Ng3_g47 : g3 ≠ g47 := Z3 (Z0 Lg3 Hg47)
  have Ng4_g47 : g4 ≠ g47 := Z3 (Z0 Lg4 Hg47)
  have Ng12_g47 : g12 ≠ g47 := Z3 (Z0 Lg12 Hg47)
  have Ng17_g47 : g17 ≠ g47 := Z3 (Z0 Lg17 Hg47)
  have Gg47 : w.heap.size ≤ g47 := Z2 BE.size Hg47
  replace Rg3_0 := Z26 Rg3_0 Lg3 Sw48
  replace Tg3 := Z27 Tg3 Lg3 Sw48
  replace Rg4_0 := Z26 Rg4_0 Lg4 Sw48
  replace Tg4 := Z27 Tg4 Lg4 Sw48
  replace Rg12_0 := Z26 Rg12_0 Lg12 Sw48
  replace Tg12 := Z27 Tg12 Lg12 Sw48
  replace Rg17_0 := Z26 Rg17_0 Lg17 Sw48
  replace Tg17 := Z27 Tg17 Lg17 Sw48
  replace Lg3 := Z0 Lg3 Sw48.2.2.size
  replace Lg4 := Z0 Lg4 Sw48.2.2.size
  replace Lg12 := Z0 Lg12 Sw48.2.2.size
  replace Lg17 := Z0 Lg17 Sw48.2.2.size
  replace BE := BE.trans (Sw48.2.2.mono BE.size)
  have Tg47 := blk_there Bg47 (n := 4) (by simp [flen])
  have Rg47_0 := blk_range Bg47 (l := [.int .u64 0, .int .u64 0, .int .u64 0, .int .u64 0]) rfl
  have Lg47 := Bg47.lt
  clear ng47 Bg47
  refine Z33 (g := g47) (off := 0) (n := 4) (cs := fel 14474011154664524427946373126085988481658748083205070504932198000989141204987) (by rfl) (by rfl) (by rfl) (by rfl) (by rfl) Tg47 (by simp [flen]) info86 (fel_one _) (fun w49 Pw49 RR TT => ?_)
  replace Rg3_0 := Pw49.range Rg3_0 (.inl Ng3_g47)
  replace Tg3 := Pw49.other_there Tg3 Ng3_g47
  replace Rg4_0 := Pw49.range Rg4_0 (.inl Ng4_g47)
  replace Tg4 := Pw49.other_there Tg4 Ng4_g47
  replace Rg12_0 := Pw49.range Rg12_0 (.inl Ng12_g47)
  replace Tg12 := Pw49.other_there Tg12 Ng12_g47
  replace Rg17_0 := Pw49.range Rg17_0 (.inl Ng17_g47)
  replace Tg17 := Pw49.other_there Tg17 Ng17_g47
  replace Rg47_0 := RR
  clear RR
  replace Tg47 := TT
  replace Lg3 := Pw49.lt Lg3
  replace Lg4 := Pw49.lt Lg4
  replace Lg12 := Pw49.lt Lg12
  replace Lg17 := Pw49.lt Lg17
  replace Lg47 := Pw49.lt Lg47
  replace BE := Pw49.below BE Gg47
  refine Z14 (Z15 ?_)
  refine hK45 _ _ ?_
  refine wp_region_grow 5 [] (by kernel_rfl) (by kernel_rfl) (by kernel_rfl) (fun Lk hLk => ?_)
  simp only [Z6, Z7]
  refine Z31 (cs := fel (fpow (leastF x) 7237005577332262213973186563042994240829374041602535252466099000494570602494)) (by rfl) rfl rfl Rg17_0 Lg17 Tryd.underlying86 rfl info86 ?_
  simp only [Z12, Z5]
  refine Z25 (v := fe 2) (args := #[.int .u64 2]) (by rfl) rfl Tryd.func91 (by kernel_rfl) (by kernel_rfl) rfl (fun W hW => of_c (n := 2) (by decide) W) ?_
  simp only [Z12, Z5]
  refine Z31 (cs := fel 14474011154664524427946373126085988481658748083205070504932198000989141204987) (by rfl) rfl rfl Rg47_0 Lg47 Tryd.underlying86 rfl info86 ?_
  simp only [Z12, Z5]
  refine Z25 (v := fe (fpow 2 14474011154664524427946373126085988481658748083205070504932198000989141204987)) (args := #[fe 2, fe 14474011154664524427946373126085988481658748083205070504932198000989141204987]) (by rfl) rfl Tryd.func135 (by kernel_rfl) (by kernel_rfl) rfl (fun W hW => power_c (by decide) (by decide) W) ?_
  simp only [Z12, Z5]
  refine Z25 (v := fe (fmul (fpow (leastF x) 7237005577332262213973186563042994240829374041602535252466099000494570602494) (fpow 2 14474011154664524427946373126085988481658748083205070504932198000989141204987))) (args := #[fe (fpow (leastF x) 7237005577332262213973186563042994240829374041602535252466099000494570602494), fe (fpow 2 14474011154664524427946373126085988481658748083205070504932198000989141204987)]) (by rfl) rfl Tryd.func96 (by kernel_rfl) (by kernel_rfl) rfl (fun W hW => fmul_c (fpow_lt ..) (fpow_lt ..) W) ?_
  simp only [Z12, Z5]
  refine Z19 (hLk.out _ ?_)
  clear hLk Lk
  simp only [Z6, Z7]
  iterate 5 refine Z28 (by rfl) ?_
  refine Z29 (fun w51 Sw51 hbs => ?_)
  clear hbs
  replace Rg3_0 := Z26 Rg3_0 Lg3 Sw51
  replace Tg3 := Z27 Tg3 Lg3 Sw51
  replace Rg4_0 := Z26 Rg4_0 Lg4 Sw51
  replace Tg4 := Z27 Tg4 Lg4 Sw51
  replace Rg12_0 := Z26 Rg12_0 Lg12 Sw51
  replace Tg12 := Z27 Tg12 Lg12 Sw51
  replace Rg17_0 := Z26 Rg17_0 Lg17 Sw51
  replace Tg17 := Z27 Tg17 Lg17 Sw51
  replace Rg47_0 := Z26 Rg47_0 Lg47 Sw51
  replace Tg47 := Z27 Tg47 Lg47 Sw51
  replace Lg3 := Z0 Lg3 Sw51.2.2.size
  replace Lg4 := Z0 Lg4 Sw51.2.2.size
  replace Lg12 := Z0 Lg12 Sw51.2.2.size
  replace Lg17 := Z0 Lg17 Sw51.2.2.size
  replace Lg47 := Z0 Lg47 Sw51.2.2.size
  replace BE := BE.trans (Sw51.2.2.mono BE.size)
  refine Z33 (g := g17) (off := 0) (n := 4) (cs := fel (fmul (fpow (leastF x) 7237005577332262213973186563042994240829374041602535252466099000494570602494) (fpow 2 14474011154664524427946373126085988481658748083205070504932198000989141204987))) (by rfl) (by rfl) (by rfl) (by rfl) (by rfl) Tg17 (by simp [flen]) info86 (fel_one _) (fun w52 Pw52 RR TT => ?_)
  replace Rg3_0 := Pw52.range Rg3_0 (.inl Ng3_g17)
  replace Tg3 := Pw52.other_there Tg3 Ng3_g17
  replace Rg4_0 := Pw52.range Rg4_0 (.inl Ng4_g17)
  replace Tg4 := Pw52.other_there Tg4 Ng4_g17
  replace Rg12_0 := Pw52.range Rg12_0 (.inl Ng12_g17)
  replace Tg12 := Pw52.other_there Tg12 Ng12_g17
  replace Rg47_0 := Pw52.range Rg47_0 (.inl (Ne.symm Ng17_g47))
  replace Tg47 := Pw52.other_there Tg47 (Ne.symm Ng17_g47)
  replace Rg17_0 := RR
  clear RR
  replace Tg17 := TT
  replace Lg3 := Pw52.lt Lg3
  replace Lg4 := Pw52.lt Lg4
  replace Lg12 := Pw52.lt Lg12
  replace Lg17 := Pw52.lt Lg17
  replace Lg47 := Pw52.lt Lg47
  replace BE := Pw52.below BE Gg17
  refine Z14 (Z15 ?_)
  refine hK20 _ _ ?_
  refine Z9 (fun K53 hK53 => ?_)
  refine Z9 (fun K54 hK54 => ?_)
  refine wp_region_grow 5 [] (by kernel_rfl) (by kernel_rfl) (by kernel_rfl) (fun Lk hLk => ?_)
  simp only [Z6, Z7]
  refine Z31 (cs := fel (fmul (fpow (leastF x) 7237005577332262213973186563042994240829374041602535252466099000494570602494) (fpow 2 14474011154664524427946373126085988481658748083205070504932198000989141204987))) (by rfl) rfl rfl Rg17_0 Lg17 Tryd.underlying86 rfl info86 ?_
  simp only [Z12, Z5]
  refine Z31 (cs := fel (fmul (fpow (leastF x) 7237005577332262213973186563042994240829374041602535252466099000494570602494) (fpow 2 14474011154664524427946373126085988481658748083205070504932198000989141204987))) (by rfl) rfl rfl Rg17_0 Lg17 Tryd.underlying86 rfl info86 ?_
  simp only [Z12, Z5]
  refine Z25 (v := fe (fmul (fmul (fpow (leastF x) 7237005577332262213973186563042994240829374041602535252466099000494570602494) (fpow 2 14474011154664524427946373126085988481658748083205070504932198000989141204987)) (fmul (fpow (leastF x) 7237005577332262213973186563042994240829374041602535252466099000494570602494) (fpow 2 14474011154664524427946373126085988481658748083205070504932198000989141204987)))) (args := #[fe (fmul (fpow (leastF x) 7237005577332262213973186563042994240829374041602535252466099000494570602494) (fpow 2 14474011154664524427946373126085988481658748083205070504932198000989141204987)), fe (fmul (fpow (leastF x) 7237005577332262213973186563042994240829374041602535252466099000494570602494) (fpow 2 14474011154664524427946373126085988481658748083205070504932198000989141204987))]) (by rfl) rfl Tryd.func96 (by kernel_rfl) (by kernel_rfl) rfl (fun W hW => fmul_c (fmul_lt ..) (fmul_lt ..) W) ?_
  simp only [Z12, Z5]
  refine Z31 (cs := fel (leastF x)) (by rfl) rfl rfl Rg3_0 Lg3 Tryd.underlying86 rfl info86 ?_
  simp only [Z12, Z5]
  refine Z24 (v := .bool (decide (fmul (fmul (fpow (leastF x) 7237005577332262213973186563042994240829374041602535252466099000494570602494) (fpow 2 14474011154664524427946373126085988481658748083205070504932198000989141204987)) (fmul (fpow (leastF x) 7237005577332262213973186563042994240829374041602535252466099000494570602494) (fpow 2 14474011154664524427946373126085988481658748083205070504932198000989141204987)) ≠ leastF x))) (by rfl) (by rfl) (fun W hW => ?_) ?_
  ·
   exact run_neq_fe (fmul_lt ..) (leastF_lt ..) Tryd.underlying86 Tryd.underlying40 info40 (by kernel_rfl) rfl rfl rfl W
  simp only [Z12, Z5]
  refine Z19 (hLk.out _ ?_)
  clear hLk Lk
  simp only [Z6, Z7]
  iterate 5 refine Z28 (by rfl) ?_
  refine Z29 (fun w56 Sw56 hbs => ?_)
  clear hbs
  replace Rg3_0 := Z26 Rg3_0 Lg3 Sw56
  replace Tg3 := Z27 Tg3 Lg3 Sw56
  replace Rg4_0 := Z26 Rg4_0 Lg4 Sw56
  replace Tg4 := Z27 Tg4 Lg4 Sw56
  replace Rg12_0 := Z26 Rg12_0 Lg12 Sw56
  replace Tg12 := Z27 Tg12 Lg12 Sw56
  replace Rg17_0 := Z26 Rg17_0 Lg17 Sw56
  replace Tg17 := Z27 Tg17 Lg17 Sw56
  replace Rg47_0 := Z26 Rg47_0 Lg47 Sw56
  replace Tg47 := Z27 Tg47 Lg47 Sw56
  replace Lg3 := Z0 Lg3 Sw56.2.2.size
  replace Lg4 := Z0 Lg4 Sw56.2.2.size
  replace Lg12 := Z0 Lg12 Sw56.2.2.size
  replace Lg17 := Z0 Lg17 Sw56.2.2.size
  replace Lg47 := Z0 Lg47 Sw56.2.2.size
  replace BE := BE.trans (Sw56.2.2.mono BE.size)
  refine Z14 (Z15 ?_)
  refine hK54 _ _ ?_
  cases hc57 : (decide (fmul (fmul (fpow (leastF x) 7237005577332262213973186563042994240829374041602535252466099000494570602494) (fpow 2 14474011154664524427946373126085988481658748083205070504932198000989141204987)) (fmul (fpow (leastF x) 7237005577332262213973186563042994240829374041602535252466099000494570602494) (fpow 2 14474011154664524427946373126085988481658748083205070504932198000989141204987)) ≠ leastF x))
  ·
   have e2 : root2 x = (fmul (fpow (leastF x) 7237005577332262213973186563042994240829374041602535252466099000494570602494) (fpow 2 14474011154664524427946373126085988481658748083205070504932198000989141204987)) := root2_f q1
   have q2 : fmul (root2 x) (root2 x) = leastF x := by rw [e2]; exact Decidable.not_not.1 (of_decide_eq_false hc57)
   refine Z11 rfl ?_
   refine wp_skip ?_
   refine hK53 _ _ ?_
   refine Z9 (fun K58 hK58 => ?_)
   refine Z9 (fun K59 hK59 => ?_)
   refine Z30 4 (by kernel_rfl) (fun Lk hLk => ?_)
   simp only [Z6, Z7]
   refine Z24 (v := .pointer (some ⟨g17, 0, none⟩)) (by rfl) (by rfl) (fun W hW => ?_) ?_
   ·
    (go_simp; exact rfl)
   simp only [Z12, Z5]
   refine Z34 (v := .int .u64 (limb (fmul (fpow (leastF x) 7237005577332262213973186563042994240829374041602535252466099000494570602494) (fpow 2 14474011154664524427946373126085988481658748083205070504932198000989141204987)) 0)) (by rfl) rfl rfl (range_one (range_sub Rg17_0 0 1 0 (xs := [.int .u64 (limb (fmul (fpow (leastF x) 7237005577332262213973186563042994240829374041602535252466099000494570602494) (fpow 2 14474011154664524427946373126085988481658748083205070504932198000989141204987)) 0)]) rfl rfl)) Lg17 Tryd.underlying40 rfl ?_
   simp only [Z12, Z5]
   refine Z20 (v := .int .u64 (((fmul (fpow (leastF x) 7237005577332262213973186563042994240829374041602535252466099000494570602494) (fpow 2 14474011154664524427946373126085988481658748083205070504932198000989141204987)) % 2 : Nat) : Int)) (by rfl) rfl rfl rfl (fun W => run_and (and_one _) W) ?_
   simp only [Z12, Z5]
   refine Z20 (v := .bool ((((fmul (fpow (leastF x) 7237005577332262213973186563042994240829374041602535252466099000494570602494) (fpow 2 14474011154664524427946373126085988481658748083205070504932198000989141204987)) % 2 : Nat) : Int) == 1)) (by rfl) rfl rfl rfl (fun W => run_eql _ _ _ _ W) ?_
   simp only [Z12, Z5]
   refine Z19 (hLk.out _ ?_)
   clear hLk Lk
   simp only [Z6, Z7]
   iterate 4 refine Z28 (by rfl) ?_
   refine Z29 (fun w61 Sw61 hbs => ?_)
   clear hbs
   replace Rg3_0 := Z26 Rg3_0 Lg3 Sw61
   replace Tg3 := Z27 Tg3 Lg3 Sw61
   replace Rg4_0 := Z26 Rg4_0 Lg4 Sw61
   replace Tg4 := Z27 Tg4 Lg4 Sw61
   replace Rg12_0 := Z26 Rg12_0 Lg12 Sw61
   replace Tg12 := Z27 Tg12 Lg12 Sw61
   replace Rg17_0 := Z26 Rg17_0 Lg17 Sw61
   replace Tg17 := Z27 Tg17 Lg17 Sw61
   replace Rg47_0 := Z26 Rg47_0 Lg47 Sw61
   replace Tg47 := Z27 Tg47 Lg47 Sw61
   replace Lg3 := Z0 Lg3 Sw61.2.2.size
   replace Lg4 := Z0 Lg4 Sw61.2.2.size
   replace Lg12 := Z0 Lg12 Sw61.2.2.size
   replace Lg17 := Z0 Lg17 Sw61.2.2.size
   replace Lg47 := Z0 Lg47 Sw61.2.2.size
   replace BE := BE.trans (Sw61.2.2.mono BE.size)
   refine Z14 (Z15 ?_)
   refine hK59 _ _ ?_
   cases hc62 : ((((fmul (fpow (leastF x) 7237005577332262213973186563042994240829374041602535252466099000494570602494) (fpow 2 14474011154664524427946373126085988481658748083205070504932198000989141204987)) % 2 : Nat) : Int) == 1)
   ·
    have q3 : ¬ root2 x % 2 = 1 := by rw [e2]; intro e; rw [e] at hc62; simp at hc62
    refine Z11 rfl ?_
    refine wp_skip ?_
    refine hK58 _ _ ?_
    refine Z9 (fun K63 hK63 => ?_)
    refine Z30 1 (by kernel_rfl) (fun Lk hLk => ?_)
    simp only [Z6, Z7]
    refine Z31 (cs := fel (fmul (fpow (leastF x) 7237005577332262213973186563042994240829374041602535252466099000494570602494) (fpow 2 14474011154664524427946373126085988481658748083205070504932198000989141204987))) (by rfl) rfl rfl Rg17_0 Lg17 Tryd.underlying86 rfl info86 ?_
    simp only [Z12, Z5]
    refine Z19 (hLk.out _ ?_)
    clear hLk Lk
    simp only [Z6, Z7]
    iterate 1 refine Z28 (by rfl) ?_
    refine Z29 (fun w65 Sw65 hbs => ?_)
    clear hbs
    replace Rg3_0 := Z26 Rg3_0 Lg3 Sw65
    replace Tg3 := Z27 Tg3 Lg3 Sw65
    replace Rg4_0 := Z26 Rg4_0 Lg4 Sw65
    replace Tg4 := Z27 Tg4 Lg4 Sw65
    replace Rg12_0 := Z26 Rg12_0 Lg12 Sw65
    replace Tg12 := Z27 Tg12 Lg12 Sw65
    replace Rg17_0 := Z26 Rg17_0 Lg17 Sw65
    replace Tg17 := Z27 Tg17 Lg17 Sw65
    replace Rg47_0 := Z26 Rg47_0 Lg47 Sw65
    replace Tg47 := Z27 Tg47 Lg47 Sw65
    replace Lg3 := Z0 Lg3 Sw65.2.2.size
    replace Lg4 := Z0 Lg4 Sw65.2.2.size
    replace Lg12 := Z0 Lg12 Sw65.2.2.size
    replace Lg17 := Z0 Lg17 Sw65.2.2.size
    replace Lg47 := Z0 Lg47 Sw65.2.2.size
    replace BE := BE.trans (Sw65.2.2.mono BE.size)
    refine Z33 (g := g4) (off := 0) (n := 4) (cs := fel (fmul (fpow (leastF x) 7237005577332262213973186563042994240829374041602535252466099000494570602494) (fpow 2 14474011154664524427946373126085988481658748083205070504932198000989141204987))) (by rfl) (by rfl) (by rfl) (by rfl) (by rfl) Tg4 (by simp [flen]) info86 (fel_one _) (fun w66 Pw66 RR TT => ?_)
    replace Rg3_0 := Pw66.range Rg3_0 (.inl Ng3_g4)
    replace Tg3 := Pw66.other_there Tg3 Ng3_g4
    replace Rg12_0 := Pw66.range Rg12_0 (.inl (Ne.symm Ng4_g12))
    replace Tg12 := Pw66.other_there Tg12 (Ne.symm Ng4_g12)
    replace Rg17_0 := Pw66.range Rg17_0 (.inl (Ne.symm Ng4_g17))
    replace Tg17 := Pw66.other_there Tg17 (Ne.symm Ng4_g17)
    replace Rg47_0 := Pw66.range Rg47_0 (.inl (Ne.symm Ng4_g47))
    replace Tg47 := Pw66.other_there Tg47 (Ne.symm Ng4_g47)
    replace Rg4_0 := RR
    clear RR
    replace Tg4 := TT
    replace Lg3 := Pw66.lt Lg3
    replace Lg4 := Pw66.lt Lg4
    replace Lg12 := Pw66.lt Lg12
    replace Lg17 := Pw66.lt Lg17
    replace Lg47 := Pw66.lt Lg47
    replace BE := Pw66.below BE Gg4
    refine Z18 (v := .bool true) (by rfl) (by rfl) (by rfl) ?_
    simp only [Z12, Z5]
    refine Z14 (Z15 ?_)
    refine hK63 _ _ ?_
    refine wp_ret ?_
    repeat (first | with_reducible refine then_ret ?_ | with_reducible refine inblock_ret ?_)
    refine bodyPost_ret (v := .tuple #[fe (fmul (fpow (leastF x) 7237005577332262213973186563042994240829374041602535252466099000494570602494) (fpow 2 14474011154664524427946373126085988481658748083205070504932198000989141204987)), .bool true]) (res2 rfl (.cell (by rfl) (run_loadVar_mid _ _ _ _ (fel (fmul (fpow (leastF x) 7237005577332262213973186563042994240829374041602535252466099000494570602494) (fpow 2 14474011154664524427946373126085988481658748083205070504932198000989141204987))) _ Rg4_0 Tryd.underlying86 rfl info86)) (.tmp (by rfl))) rfl ?_
    exact ⟨by simp only [sqrt_even q2 q3, e2], BE⟩
   ·
    have q3 : root2 x % 2 = 1 := by rw [e2]; have := beq_iff_eq.1 hc62; omega
    refine Z10 rfl ?_
    refine Z30 3 (by kernel_rfl) (fun Lk hLk => ?_)
    simp only [Z6, Z7]
    refine Z24 (v := fe 0) (by rfl) (by rfl) (fun W hW => ?_) ?_
    ·
     rw [show fe 0 = .agg ([.int .u64 0, .int .u64 0, .int .u64 0, .int .u64 0]).toArray from (by kernel_rfl)]; unfold RunsVal; kernel_rfl
    simp only [Z12, Z5]
    refine Z31 (cs := fel (fmul (fpow (leastF x) 7237005577332262213973186563042994240829374041602535252466099000494570602494) (fpow 2 14474011154664524427946373126085988481658748083205070504932198000989141204987))) (by rfl) rfl rfl Rg17_0 Lg17 Tryd.underlying86 rfl info86 ?_
    simp only [Z12, Z5]
    refine Z25 (v := fe (fsub 0 (fmul (fpow (leastF x) 7237005577332262213973186563042994240829374041602535252466099000494570602494) (fpow 2 14474011154664524427946373126085988481658748083205070504932198000989141204987)))) (args := #[fe 0, fe (fmul (fpow (leastF x) 7237005577332262213973186563042994240829374041602535252466099000494570602494) (fpow 2 14474011154664524427946373126085988481658748083205070504932198000989141204987))]) (by rfl) rfl Tryd.func90 (by kernel_rfl) (by kernel_rfl) rfl (fun W hW => fsub_c (by decide) (fmul_lt ..) W) ?_
    simp only [Z12, Z5]
    refine Z19 (hLk.out _ ?_)
    clear hLk Lk
    simp only [Z6, Z7]
    iterate 3 refine Z28 (by rfl) ?_
    refine Z29 (fun w68 Sw68 hbs => ?_)
    clear hbs
    replace Rg3_0 := Z26 Rg3_0 Lg3 Sw68
    replace Tg3 := Z27 Tg3 Lg3 Sw68
    replace Rg4_0 := Z26 Rg4_0 Lg4 Sw68
    replace Tg4 := Z27 Tg4 Lg4 Sw68
    replace Rg12_0 := Z26 Rg12_0 Lg12 Sw68
    replace Tg12 := Z27 Tg12 Lg12 Sw68
    replace Rg17_0 := Z26 Rg17_0 Lg17 Sw68
    replace Tg17 := Z27 Tg17 Lg17 Sw68
    replace Rg47_0 := Z26 Rg47_0 Lg47 Sw68
    replace Tg47 := Z27 Tg47 Lg47 Sw68
    replace Lg3 := Z0 Lg3 Sw68.2.2.size
    replace Lg4 := Z0 Lg4 Sw68.2.2.size
    replace Lg12 := Z0 Lg12 Sw68.2.2.size
    replace Lg17 := Z0 Lg17 Sw68.2.2.size
    replace Lg47 := Z0 Lg47 Sw68.2.2.size
    replace BE := BE.trans (Sw68.2.2.mono BE.size)
    refine Z33 (g := g17) (off := 0) (n := 4) (cs := fel (fsub 0 (fmul (fpow (leastF x) 7237005577332262213973186563042994240829374041602535252466099000494570602494) (fpow 2 14474011154664524427946373126085988481658748083205070504932198000989141204987)))) (by rfl) (by rfl) (by rfl) (by rfl) (by rfl) Tg17 (by simp [flen]) info86 (fel_one _) (fun w69 Pw69 RR TT => ?_)
    replace Rg3_0 := Pw69.range Rg3_0 (.inl Ng3_g17)
    replace Tg3 := Pw69.other_there Tg3 Ng3_g17
    replace Rg4_0 := Pw69.range Rg4_0 (.inl Ng4_g17)
    replace Tg4 := Pw69.other_there Tg4 Ng4_g17
    replace Rg12_0 := Pw69.range Rg12_0 (.inl Ng12_g17)
    replace Tg12 := Pw69.other_there Tg12 Ng12_g17
    replace Rg47_0 := Pw69.range Rg47_0 (.inl (Ne.symm Ng17_g47))
    replace Tg47 := Pw69.other_there Tg47 (Ne.symm Ng17_g47)
    replace Rg17_0 := RR
    clear RR
    replace Tg17 := TT
    replace Lg3 := Pw69.lt Lg3
    replace Lg4 := Pw69.lt Lg4
    replace Lg12 := Pw69.lt Lg12
    replace Lg17 := Pw69.lt Lg17
    replace Lg47 := Pw69.lt Lg47
    replace BE := Pw69.below BE Gg17
    refine Z14 (Z15 ?_)
    refine hK58 _ _ ?_
    refine Z9 (fun K70 hK70 => ?_)
    refine Z30 1 (by kernel_rfl) (fun Lk hLk => ?_)
    simp only [Z6, Z7]
    refine Z31 (cs := fel (fsub 0 (fmul (fpow (leastF x) 7237005577332262213973186563042994240829374041602535252466099000494570602494) (fpow 2 14474011154664524427946373126085988481658748083205070504932198000989141204987)))) (by rfl) rfl rfl Rg17_0 Lg17 Tryd.underlying86 rfl info86 ?_
    simp only [Z12, Z5]
    refine Z19 (hLk.out _ ?_)
    clear hLk Lk
    simp only [Z6, Z7]
    iterate 1 refine Z28 (by rfl) ?_
    refine Z29 (fun w72 Sw72 hbs => ?_)
    clear hbs
    replace Rg3_0 := Z26 Rg3_0 Lg3 Sw72
    replace Tg3 := Z27 Tg3 Lg3 Sw72
    replace Rg4_0 := Z26 Rg4_0 Lg4 Sw72
    replace Tg4 := Z27 Tg4 Lg4 Sw72
    replace Rg12_0 := Z26 Rg12_0 Lg12 Sw72
    replace Tg12 := Z27 Tg12 Lg12 Sw72
    replace Rg17_0 := Z26 Rg17_0 Lg17 Sw72
    replace Tg17 := Z27 Tg17 Lg17 Sw72
    replace Rg47_0 := Z26 Rg47_0 Lg47 Sw72
    replace Tg47 := Z27 Tg47 Lg47 Sw72
    replace Lg3 := Z0 Lg3 Sw72.2.2.size
    replace Lg4 := Z0 Lg4 Sw72.2.2.size
    replace Lg12 := Z0 Lg12 Sw72.2.2.size
    replace Lg17 := Z0 Lg17 Sw72.2.2.size
    replace Lg47 := Z0 Lg47 Sw72.2.2.size
    replace BE := BE.trans (Sw72.2.2.mono BE.size)
    refine Z33 (g := g4) (off := 0) (n := 4) (cs := fel (fsub 0 (fmul (fpow (leastF x) 7237005577332262213973186563042994240829374041602535252466099000494570602494) (fpow 2 14474011154664524427946373126085988481658748083205070504932198000989141204987)))) (by rfl) (by rfl) (by rfl) (by rfl) (by rfl) Tg4 (by simp [flen]) info86 (fel_one _) (fun w73 Pw73 RR TT => ?_)
    replace Rg3_0 := Pw73.range Rg3_0 (.inl Ng3_g4)
    replace Tg3 := Pw73.other_there Tg3 Ng3_g4
    replace Rg12_0 := Pw73.range Rg12_0 (.inl (Ne.symm Ng4_g12))
    replace Tg12 := Pw73.other_there Tg12 (Ne.symm Ng4_g12)
    replace Rg17_0 := Pw73.range Rg17_0 (.inl (Ne.symm Ng4_g17))
    replace Tg17 := Pw73.other_there Tg17 (Ne.symm Ng4_g17)
    replace Rg47_0 := Pw73.range Rg47_0 (.inl (Ne.symm Ng4_g47))
    replace Tg47 := Pw73.other_there Tg47 (Ne.symm Ng4_g47)
    replace Rg4_0 := RR
    clear RR
    replace Tg4 := TT
    replace Lg3 := Pw73.lt Lg3
    replace Lg4 := Pw73.lt Lg4
    replace Lg12 := Pw73.lt Lg12
    replace Lg17 := Pw73.lt Lg17
    replace Lg47 := Pw73.lt Lg47
    replace BE := Pw73.below BE Gg4
    refine Z18 (v := .bool true) (by rfl) (by rfl) (by rfl) ?_
    simp only [Z12, Z5]
    refine Z14 (Z15 ?_)
    refine hK70 _ _ ?_
    refine wp_ret ?_
    repeat (first | with_reducible refine then_ret ?_ | with_reducible refine inblock_ret ?_)
    refine bodyPost_ret (v := .tuple #[fe (fsub 0 (fmul (fpow (leastF x) 7237005577332262213973186563042994240829374041602535252466099000494570602494) (fpow 2 14474011154664524427946373126085988481658748083205070504932198000989141204987))), .bool true]) (res2 rfl (.cell (by rfl) (run_loadVar_mid _ _ _ _ (fel (fsub 0 (fmul (fpow (leastF x) 7237005577332262213973186563042994240829374041602535252466099000494570602494) (fpow 2 14474011154664524427946373126085988481658748083205070504932198000989141204987)))) _ Rg4_0 Tryd.underlying86 rfl info86)) (.tmp (by rfl))) rfl ?_
    exact ⟨by simp only [sqrt_odd q2 q3, e2], BE⟩
  ·
   have e2 : root2 x = (fmul (fpow (leastF x) 7237005577332262213973186563042994240829374041602535252466099000494570602494) (fpow 2 14474011154664524427946373126085988481658748083205070504932198000989141204987)) := root2_f q1
   have q2 : ¬ fmul (root2 x) (root2 x) = leastF x := by rw [e2]; exact of_decide_eq_true hc57
   refine Z10 rfl ?_
   refine Z9 (fun K74 hK74 => ?_)
   refine Z30 1 (by kernel_rfl) (fun Lk hLk => ?_)
   simp only [Z6, Z7]
   refine Z24 (v := fe 0) (by rfl) (by rfl) (fun W hW => ?_) ?_
   ·
    rw [show fe 0 = .agg ([.int .u64 0, .int .u64 0, .int .u64 0, .int .u64 0]).toArray from (by kernel_rfl)]; unfold RunsVal; kernel_rfl
   simp only [Z12, Z5]
   refine Z19 (hLk.out _ ?_)
   clear hLk Lk
   simp only [Z6, Z7]
   iterate 1 refine Z28 (by rfl) ?_
   refine Z29 (fun w76 Sw76 hbs => ?_)
   clear hbs
   replace Rg3_0 := Z26 Rg3_0 Lg3 Sw76
   replace Tg3 := Z27 Tg3 Lg3 Sw76
   replace Rg4_0 := Z26 Rg4_0 Lg4 Sw76
   replace Tg4 := Z27 Tg4 Lg4 Sw76
   replace Rg12_0 := Z26 Rg12_0 Lg12 Sw76
   replace Tg12 := Z27 Tg12 Lg12 Sw76
   replace Rg17_0 := Z26 Rg17_0 Lg17 Sw76
   replace Tg17 := Z27 Tg17 Lg17 Sw76
   replace Rg47_0 := Z26 Rg47_0 Lg47 Sw76
   replace Tg47 := Z27 Tg47 Lg47 Sw76
   replace Lg3 := Z0 Lg3 Sw76.2.2.size
   replace Lg4 := Z0 Lg4 Sw76.2.2.size
   replace Lg12 := Z0 Lg12 Sw76.2.2.size
   replace Lg17 := Z0 Lg17 Sw76.2.2.size
   replace Lg47 := Z0 Lg47 Sw76.2.2.size
   replace BE := BE.trans (Sw76.2.2.mono BE.size)
   refine Z33 (g := g4) (off := 0) (n := 4) (cs := fel 0) (by rfl) (by rfl) (by rfl) (by rfl) (by rfl) Tg4 (by simp [flen]) info86 (fel_one _) (fun w77 Pw77 RR TT => ?_)
   replace Rg3_0 := Pw77.range Rg3_0 (.inl Ng3_g4)
   replace Tg3 := Pw77.other_there Tg3 Ng3_g4
   replace Rg12_0 := Pw77.range Rg12_0 (.inl (Ne.symm Ng4_g12))
   replace Tg12 := Pw77.other_there Tg12 (Ne.symm Ng4_g12)
   replace Rg17_0 := Pw77.range Rg17_0 (.inl (Ne.symm Ng4_g17))
   replace Tg17 := Pw77.other_there Tg17 (Ne.symm Ng4_g17)
   replace Rg47_0 := Pw77.range Rg47_0 (.inl (Ne.symm Ng4_g47))
   replace Tg47 := Pw77.other_there Tg47 (Ne.symm Ng4_g47)
   replace Rg4_0 := RR
   clear RR
   replace Tg4 := TT
   replace Lg3 := Pw77.lt Lg3
   replace Lg4 := Pw77.lt Lg4
   replace Lg12 := Pw77.lt Lg12
   replace Lg17 := Pw77.lt Lg17
   replace Lg47 := Pw77.lt Lg47
   replace BE := Pw77.below BE Gg4
   refine Z18 (v := .bool false) (by rfl) (by rfl) (by rfl) ?_
   simp only [Z12, Z5]
   refine Z14 (Z15 ?_)
   refine hK74 _ _ ?_
   refine wp_ret ?_
   repeat (first | with_reducible refine then_ret ?_ | with_reducible refine inblock_ret ?_)
   refine bodyPost_ret (v := .tuple #[fe 0, .bool false]) (res2 rfl (.cell (by rfl) (run_loadVar_mid _ _ _ _ (fel 0) _ Rg4_0 Tryd.underlying86 rfl info86)) (.tmp (by rfl))) rfl ?_
   exact ⟨by simp only [sqrt_no q2], BE⟩
end Go.Proofs.Ya

