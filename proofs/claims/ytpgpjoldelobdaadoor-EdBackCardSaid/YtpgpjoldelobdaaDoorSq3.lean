import Derived.WalkKit
import Derived.WalkSpells
import Derived.Laws.Pointers
import Derived.RowKit3
import Derived.Below
import Derived.Outline
import Derived.LoopN
import Derived.Lib.Hide
import Derived.Handy
import Derived.Laws.Bits64b
import Derived.Test.YtpgpjoldelobdaaDoorSq1
import Derived.Shelf.Strings.Builder1
import Derived.Shelf.Strings.Builder2
import Derived.Shelf.Small.Bits
import Derived.Shelf.Small.Strs
import Derived.Shelf.Strings.BuilderF
import Derived.Shelf.Strconv.Itoa0
import Derived.Shelf.Strings.Search1
import Derived.Shelf.Strings.Prefix
import Derived.Shelf.Bits.Mul64
import Derived.Shelf.Strings.Repeat
import Derived.Test.YtpgpjoldelobdaaDoorProg
import Derived.Test.YtpgpjoldelobdaaDoorShq
set_option linter.unusedSimpArgs false
set_option linter.unusedVariables false
namespace Go.Proofs.Yc
open Go Go.RowKit Go.Proofs.Num
open Nat renaming zero_add → Z1, mod_eq_of_lt → Z4
open List renaming set → Z5, take → Z6, drop → Z7
open Go renaming undef → Z8, wp_seq_k → Z9, wp_cond_true → Z10, wp_cond_false → Z11
open Go.Proofs.Num renaming putT → Z12, wp_region_seq → Z13, wpL_nil → Z14, no_panic → Z15, wpL_chunk → Z16, wpL_move → Z17, wpL_assign → Z18, wpV_nil → Z19, wpV_bin → Z20, wpV_move → Z21, then_normal → Z22, wpL_store1 → Z23, wpV_val → Z24, wpV_callf → Z25, wpN_skip → Z28, wpN_nil → Z29, wpV_load → Z31, wpL_store → Z33, wpV_load1 → Z34, wpL_var → Z36
attribute [local irreducible] wpV wpN wpList
open Go.Proofs.Ya
set_option maxRecDepth 100000 in
set_option maxHeartbeats 4000000 in
theorem mix_cq {g n : Nat} {h : S8q} {b l : List UInt8} {w : World} (hh : h.Ok) (hl : 128 ≤ l.length) (hg : g ≠ 2) (L2 : 2 < w.heap.size) (R2_0 : w.rangeAt 2 0 kcellsq) (hM : Mem [g] w w [⟨g, 10, [(0, [.int .u64 ((h.a : Nat) : Int), .int .u64 ((h.b : Nat) : Int), .int .u64 ((h.c : Nat) : Int), .int .u64 ((h.d : Nat) : Int), .int .u64 ((h.e : Nat) : Int), .int .u64 ((h.f : Nat) : Int), .int .u64 ((h.g : Nat) : Int), .int .u64 ((h.h : Nat) : Int)]), (8, [.string (bs b)]), (9, [.int .u64 ((n : Nat) : Int)])]⟩]) :
  Calls Tryd.prog 148 #[.pointer (some ⟨g, 0, none⟩), .string (bs l)] w fun e w' => ∃ v, e = .returned v ∧ v = .tuple #[] ∧ Mem [g] w w' [⟨g, 10, [(0, [.int .u64 (((mixSq h l).a : Nat) : Int), .int .u64 (((mixSq h l).b : Nat) : Int), .int .u64 (((mixSq h l).c : Nat) : Int), .int .u64 (((mixSq h l).d : Nat) : Int), .int .u64 (((mixSq h l).e : Nat) : Int), .int .u64 (((mixSq h l).f : Nat) : Int), .int .u64 (((mixSq h l).g : Nat) : Int), .int .u64 (((mixSq h l).h : Nat) : Int)]), (8, [.string (bs b)]), (9, [.int .u64 ((n : Nat) : Int)])]⟩] := by
 go_enter Tryd.func148, Tryd.ntmps148
 have M := hM
 refine Z9 (fun K1 hK1 => ?_)
 refine Z13 ?_
 refine Z17 (v := .string (bs l)) (by rfl) (by rfl) (by rfl) ?_
 simp only [Z12, Z5]
 refine Z16 1 (by rfl) (fun Lk hLk => ?_)
 simp only [Z6, Z7]
 refine Z25 (v := .agg (wcellsq l 80).toArray) (args := #[.string (bs l)]) (by rfl) rfl Tryd.func159 (by kernel_rfl) (by kernel_rfl) rfl (fun W hW => spread_cq hl) ?_
 simp only [Z12, Z5]
 refine Z19 (hLk _ (fun w3 Sw3 => ?_))
 clear hLk Lk
 simp only [Z6, Z7]
 replace M := M.sees Sw3
 refine Z36 (t := 201) (cs := [.int .u64 0, .int .u64 0, .int .u64 0, .int .u64 0, .int .u64 0, .int .u64 0, .int .u64 0, .int .u64 0, .int .u64 0, .int .u64 0, .int .u64 0, .int .u64 0, .int .u64 0, .int .u64 0, .int .u64 0, .int .u64 0, .int .u64 0, .int .u64 0, .int .u64 0, .int .u64 0, .int .u64 0, .int .u64 0, .int .u64 0, .int .u64 0, .int .u64 0, .int .u64 0, .int .u64 0, .int .u64 0, .int .u64 0, .int .u64 0, .int .u64 0, .int .u64 0, .int .u64 0, .int .u64 0, .int .u64 0, .int .u64 0, .int .u64 0, .int .u64 0, .int .u64 0, .int .u64 0, .int .u64 0, .int .u64 0, .int .u64 0, .int .u64 0, .int .u64 0, .int .u64 0, .int .u64 0, .int .u64 0, .int .u64 0, .int .u64 0, .int .u64 0, .int .u64 0, .int .u64 0, .int .u64 0, .int .u64 0, .int .u64 0, .int .u64 0, .int .u64 0, .int .u64 0, .int .u64 0, .int .u64 0, .int .u64 0, .int .u64 0, .int .u64 0, .int .u64 0, .int .u64 0, .int .u64 0, .int .u64 0, .int .u64 0, .int .u64 0, .int .u64 0, .int .u64 0, .int .u64 0, .int .u64 0, .int .u64 0, .int .u64 0, .int .u64 0, .int .u64 0, .int .u64 0, .int .u64 0]) (by rfl) (fun W => ?_) (fun g4 w5 Sw5 Hg4 Bg4 => ?_)
 ·
  (go_simp <;> rfl)
 replace M := ((M.sees Sw5).add (N := 80) (cs := [.int .u64 0, .int .u64 0, .int .u64 0, .int .u64 0, .int .u64 0, .int .u64 0, .int .u64 0, .int .u64 0, .int .u64 0, .int .u64 0, .int .u64 0, .int .u64 0, .int .u64 0, .int .u64 0, .int .u64 0, .int .u64 0, .int .u64 0, .int .u64 0, .int .u64 0, .int .u64 0, .int .u64 0, .int .u64 0, .int .u64 0, .int .u64 0, .int .u64 0, .int .u64 0, .int .u64 0, .int .u64 0, .int .u64 0, .int .u64 0, .int .u64 0, .int .u64 0, .int .u64 0, .int .u64 0, .int .u64 0, .int .u64 0, .int .u64 0, .int .u64 0, .int .u64 0, .int .u64 0, .int .u64 0, .int .u64 0, .int .u64 0, .int .u64 0, .int .u64 0, .int .u64 0, .int .u64 0, .int .u64 0, .int .u64 0, .int .u64 0, .int .u64 0, .int .u64 0, .int .u64 0, .int .u64 0, .int .u64 0, .int .u64 0, .int .u64 0, .int .u64 0, .int .u64 0, .int .u64 0, .int .u64 0, .int .u64 0, .int .u64 0, .int .u64 0, .int .u64 0, .int .u64 0, .int .u64 0, .int .u64 0, .int .u64 0, .int .u64 0, .int .u64 0, .int .u64 0, .int .u64 0, .int .u64 0, .int .u64 0, .int .u64 0, .int .u64 0, .int .u64 0, .int .u64 0, .int .u64 0]) (M.ge Hg4) (M.fresh Hg4) Bg4 rfl)
 clear Bg4
 simp only [Z12, Z5]
 refine Z33 (g := g4) (off := 0) (n := 80) (cs := wcellsq l 80) (by rfl) (by rfl) (by rfl) (by rfl) (by rfl) (M.t 0 rfl) (by rw [wcells_lenq]; decide) info201 (wcells_oneq _ _) (fun w6 P R T => ?_)
 replace M := M.putS 0 0 rfl P R T rfl ⟨.inl rfl, trivial⟩
 simp only [Z5] at M
 refine Z14 (Z15 ?_)
 refine hK1 _ _ ?_
 refine Z9 (fun K7 hK7 => ?_)
 refine Z13 ?_
 refine Z17 (v := .pointer (some ⟨g, 0, none⟩)) (by rfl) (by rfl) (by rfl) ?_
 simp only [Z12, Z5]
 refine Z16 4 (by rfl) (fun Lk hLk => ?_)
 simp only [Z6, Z7]
 refine wpV_nilCheck (by rfl) rfl rfl ?_
 simp only [Z12, Z5]
 refine Z24 (v := .pointer (some ⟨g, 0, none⟩)) (by rfl) (by rfl) (fun W hW => ?_) ?_
 ·
  (go_simp; exact rfl)
 simp only [Z12, Z5]
 refine Z24 (v := .pointer (some ⟨g, 0, none⟩)) (by rfl) (by rfl) (fun W hW => ?_) ?_
 ·
  (go_simp; exact rfl)
 simp only [Z12, Z5]
 refine Z31 (cs := [.int .u64 ((h.a : Nat) : Int), .int .u64 ((h.b : Nat) : Int), .int .u64 ((h.c : Nat) : Int), .int .u64 ((h.d : Nat) : Int), .int .u64 ((h.e : Nat) : Int), .int .u64 ((h.f : Nat) : Int), .int .u64 ((h.g : Nat) : Int), .int .u64 ((h.h : Nat) : Int)]) (by rfl) rfl rfl (M.r 1 0 rfl rfl) (M.lt 1 rfl) Tryd.underlying129 rfl info129 ?_
 simp only [Z12, Z5]
 refine Z19 (hLk _ (fun w9 Sw9 => ?_))
 clear hLk Lk
 simp only [Z6, Z7]
 replace M := M.sees Sw9
 refine Z36 (t := 129) (cs := [.int .u64 0, .int .u64 0, .int .u64 0, .int .u64 0, .int .u64 0, .int .u64 0, .int .u64 0, .int .u64 0]) (by rfl) (fun W => ?_) (fun g10 w11 Sw11 Hg10 Bg10 => ?_)
 ·
  go_simp
 replace M := ((M.sees Sw11).add (N := 8) (cs := [.int .u64 0, .int .u64 0, .int .u64 0, .int .u64 0, .int .u64 0, .int .u64 0, .int .u64 0, .int .u64 0]) (M.ge Hg10) (M.fresh Hg10) Bg10 rfl)
 clear Bg10
 simp only [Z12, Z5]
 refine Z33 (g := g10) (off := 0) (n := 8) (cs := [.int .u64 ((h.a : Nat) : Int), .int .u64 ((h.b : Nat) : Int), .int .u64 ((h.c : Nat) : Int), .int .u64 ((h.d : Nat) : Int), .int .u64 ((h.e : Nat) : Int), .int .u64 ((h.f : Nat) : Int), .int .u64 ((h.g : Nat) : Int), .int .u64 ((h.h : Nat) : Int)]) (by rfl) (by rfl) (by rfl) (by rfl) (by rfl) (M.t 0 rfl) (by simp [flen]) info129 (by simp [fone, Value.oneCell']) (fun w12 P R T => ?_)
 replace M := M.putS 0 0 rfl P R T rfl ⟨.inl rfl, trivial⟩
 simp only [Z5] at M
 refine Z14 (Z15 ?_)
 refine hK7 _ _ ?_
 refine Z9 (fun K13 hK13 => ?_)
 refine Z9 (fun K14 hK14 => ?_)
 refine Z13 ?_
 refine Z17 (v := .int .i64 0) (by rfl) (by rfl) (by rfl) ?_
 simp only [Z12, Z5]
 refine Z14 (Z15 ?_)
 refine hK14 _ _ ?_
 refine wp_block ?_
 refine wp_loop_ghost (fun n9 a9 W9 => ∃ (t : Nat) (v : S8q) (u16 : Nat → Value), n9 = 80 - t ∧ a9 = { tmps := #[.pointer (some ⟨g, 0, none⟩), .string (bs l), Z8, Z8, .pointer (some ⟨g4, 0, none⟩), .pointer (some ⟨g10, 0, none⟩), u16 6, u16 7, u16 8, u16 9, u16 10, Z8, .string (bs l), .agg (wcellsq l 80).toArray, .pointer (some ⟨g, 0, none⟩), .pointer (some ⟨g, 0, none⟩), .pointer (some ⟨g, 0, none⟩), .pointer (some ⟨g, 0, none⟩), .agg ([.int .u64 ((h.a : Nat) : Int), .int .u64 ((h.b : Nat) : Int), .int .u64 ((h.c : Nat) : Int), .int .u64 ((h.d : Nat) : Int), .int .u64 ((h.e : Nat) : Int), .int .u64 ((h.f : Nat) : Int), .int .u64 ((h.g : Nat) : Int), .int .u64 ((h.h : Nat) : Int)]).toArray, .int .i64 ((t : Nat) : Int), u16 20, u16 21, u16 22, u16 23, u16 24, u16 25, u16 26, u16 27, u16 28, u16 29, u16 30, u16 31, u16 32, u16 33, u16 34, u16 35, u16 36, u16 37, u16 38, u16 39, u16 40, u16 41, u16 42, u16 43, u16 44, u16 45, u16 46, u16 47, u16 48, u16 49, u16 50, u16 51, u16 52, u16 53, u16 54, u16 55, u16 56, u16 57, u16 58, u16 59, u16 60, u16 61, u16 62, u16 63, u16 64, u16 65, u16 66, u16 67, u16 68, u16 69, u16 70, u16 71, u16 72, u16 73, u16 74, u16 75, u16 76, u16 77, u16 78, u16 79, u16 80, u16 81, u16 82, u16 83, u16 84, u16 85, u16 86, u16 87, u16 88, u16 89, u16 90, u16 91, u16 92, u16 93, u16 94, u16 95, u16 96, u16 97, u16 98, Z8, Z8, Z8, Z8, Z8, Z8, Z8, Z8, Z8, Z8, Z8, Z8, Z8, Z8, Z8, Z8, Z8, Z8, Z8], defers := [] } ∧ Mem [g] w W9 [⟨g10, 8, [(0, [.int .u64 ((v.a : Nat) : Int), .int .u64 ((v.b : Nat) : Int), .int .u64 ((v.c : Nat) : Int), .int .u64 ((v.d : Nat) : Int), .int .u64 ((v.e : Nat) : Int), .int .u64 ((v.f : Nat) : Int), .int .u64 ((v.g : Nat) : Int), .int .u64 ((v.h : Nat) : Int)])]⟩, ⟨g4, 80, [(0, wcellsq l 80)]⟩, ⟨g, 10, [(0, [.int .u64 ((h.a : Nat) : Int), .int .u64 ((h.b : Nat) : Int), .int .u64 ((h.c : Nat) : Int), .int .u64 ((h.d : Nat) : Int), .int .u64 ((h.e : Nat) : Int), .int .u64 ((h.f : Nat) : Int), .int .u64 ((h.g : Nat) : Int), .int .u64 ((h.h : Nat) : Int)]), (8, [.string (bs b)]), (9, [.int .u64 ((n : Nat) : Int)])]⟩] ∧ (t ≤ 80) ∧ (v = rndsq l h t)) (80 - (0)) ?_ (fun n9 a9 W9 hI => ?_)
 ·
  exact ⟨0, h, (fun q9 => (#[Z8, Z8, Z8, Z8, Z8, Z8, Z8, Z8, Z8, Z8, Z8, Z8, Z8, Z8, Z8, Z8, Z8, Z8, Z8, Z8, Z8, Z8, Z8, Z8, Z8, Z8, Z8, Z8, Z8, Z8, Z8, Z8, Z8, Z8, Z8, Z8, Z8, Z8, Z8, Z8, Z8, Z8, Z8, Z8, Z8, Z8, Z8, Z8, Z8, Z8, Z8, Z8, Z8, Z8, Z8, Z8, Z8, Z8, Z8, Z8, Z8, Z8, Z8, Z8, Z8, Z8, Z8, Z8, Z8, Z8, Z8, Z8, Z8, Z8, Z8, Z8, Z8, Z8, Z8, Z8, Z8, Z8, Z8, Z8, Z8, Z8, Z8, Z8, Z8, Z8, Z8, Z8, Z8, Z8, Z8, Z8, Z8, Z8, Z8] : Array Value).getD q9 Z8), rfl, rfl, M, (by omega), rfl⟩
 clear M
 obtain ⟨t, v, u16, rfl, rfl, M, ht4, hv⟩ := hI
 obtain ⟨w17, rfl⟩ : ∃ W8, W8 = W9 := ⟨_, rfl⟩
 have hok : v.Ok := hv ▸ rnds_okq hh t
 refine Z9 (fun K18 hK18 => ?_)
 refine Z13 ?_
 refine Z16 1 (by rfl) (fun Lk hLk => ?_)
 simp only [Z6, Z7]
 refine Z20 (v := .bool (decide (t < 80))) (by rfl) rfl rfl rfl (fun W => run_lssN t 80 _ _ W) ?_
 simp only [Z12, Z5]
 refine Z19 (hLk _ (fun w20 Sw20 => ?_))
 clear hLk Lk
 simp only [Z6, Z7]
 replace M := M.sees Sw20
 refine Z14 (Z15 ?_)
 refine hK18 _ _ ?_
 refine Z9 (fun K21 hK21 => ?_)
 cases hc22 : (decide (t < 80))
 ·
  have et : t = 80 := by have := of_decide_eq_false hc22; omega
  subst et
  subst hv
  refine Z11 rfl ?_
  refine wp_exit ?_
  refine hK13 _ _ ?_
  refine Z9 (fun K23 hK23 => ?_)
  refine Z13 ?_
  refine Z17 (v := .int .i64 0) (by rfl) (by rfl) (by rfl) ?_
  simp only [Z12, Z5]
  refine Z14 (Z15 ?_)
  refine hK23 _ _ ?_
  refine wp_block ?_
  refine wp_loop_rounds 9 ?_
  rw [rounds_succ]
  refine Z9 (fun K25 hK25 => ?_)
  refine Z13 ?_
  refine Z16 1 (by rfl) (fun Lk hLk => ?_)
  simp only [Z6, Z7]
  refine Z20 (v := .bool true) (by rfl) rfl rfl rfl (fun W => run_lss _ _ _ _ W) ?_
  simp only [Z12, Z5]
  refine Z19 (hLk _ (fun w27 Sw27 => ?_))
  clear hLk Lk
  simp only [Z6, Z7]
  replace M := M.sees Sw27
  refine Z14 (Z15 ?_)
  refine hK25 _ _ ?_
  refine Z9 (fun K28 hK28 => ?_)
  refine Z10 rfl ?_
  refine wp_skip ?_
  refine hK28 _ _ ?_
  refine Z9 (fun K29 hK29 => ?_)
  refine wp_block ?_
  refine Z9 (fun K30 hK30 => ?_)
  refine Z13 ?_
  refine Z17 (v := .int .i64 0) (by rfl) (by rfl) (by rfl) ?_
  simp only [Z12, Z5]
  refine Z18 (v := .int .i64 0) (by rfl) (by rfl) (by rfl) ?_
  simp only [Z12, Z5]
  refine Z14 (Z15 ?_)
  refine hK30 _ _ ?_
  refine wp_region_grow 15 [] (by kernel_rfl) (by kernel_rfl) (by kernel_rfl) (fun Lk hLk => ?_)
  simp only [Z6, Z7]
  refine Z21 (v := .pointer (some ⟨g, 0, none⟩)) (by rfl) rfl rfl ?_
  simp only [Z12, Z5]
  refine Z21 (v := .int .i64 0) (by rfl) rfl rfl ?_
  simp only [Z12, Z5]
  refine wpV_nilCheck (by rfl) rfl rfl ?_
  simp only [Z12, Z5]
  refine Z24 (v := .pointer (some ⟨g, 0, none⟩)) (by rfl) (by rfl) (fun W hW => ?_) ?_
  ·
   (go_simp; exact rfl)
  simp only [Z12, Z5]
  refine Z24 (v := .pointer (some ⟨g, 0, none⟩)) (by rfl) (by rfl) (fun W hW => ?_) ?_
  ·
   (go_simp; exact rfl)
  simp only [Z12, Z5]
  refine Z24 (v := .pointer (some ⟨g, 0, none⟩)) (by rfl) (by rfl) (fun W hW => ?_) ?_
  ·
   (go_simp; exact rfl)
  simp only [Z12, Z5]
  refine Z34 (v := .int .u64 ((h.a : Nat) : Int)) (by rfl) rfl rfl (range_one (range_sub (M.r 2 0 rfl rfl) 0 1 0 (xs := [.int .u64 ((h.a : Nat) : Int)]) rfl rfl)) (M.lt 2 rfl) Tryd.underlying40 rfl ?_
  simp only [Z12, Z5]
  refine Z21 (v := .int .i64 0) (by rfl) rfl rfl ?_
  simp only [Z12, Z5]
  refine Z24 (v := .pointer (some ⟨g10, 0, none⟩)) (by rfl) (by rfl) (fun W hW => ?_) ?_
  ·
   (go_simp; exact rfl)
  simp only [Z12, Z5]
  refine Z34 (v := .int .u64 (((rndsq l h 80).a : Nat) : Int)) (by rfl) rfl rfl (range_one (range_sub (M.r 0 0 rfl rfl) 0 1 0 (xs := [.int .u64 (((rndsq l h 80).a : Nat) : Int)]) rfl rfl)) (M.lt 0 rfl) Tryd.underlying40 rfl ?_
  simp only [Z12, Z5]
  refine Z20 (v := .int .u64 (((h.a + ((rndsq l h 80).a)) % 18446744073709551616 : Nat) : Int)) (by rfl) rfl rfl rfl (fun W => nr_add64 _ h.a ((rndsq l h 80).a) W) ?_
  simp only [Z12, Z5]
  refine wpV_nilCheck (by rfl) rfl rfl ?_
  simp only [Z12, Z5]
  refine Z24 (v := .pointer (some ⟨g, 0, none⟩)) (by rfl) (by rfl) (fun W hW => ?_) ?_
  ·
   (go_simp; exact rfl)
  simp only [Z12, Z5]
  refine Z24 (v := .pointer (some ⟨g, 0, none⟩)) (by rfl) (by rfl) (fun W hW => ?_) ?_
  ·
   (go_simp; exact rfl)
  simp only [Z12, Z5]
  refine Z24 (v := .pointer (some ⟨g, 0, none⟩)) (by rfl) (by rfl) (fun W hW => ?_) ?_
  ·
   (go_simp; exact rfl)
  simp only [Z12, Z5]
  refine Z19 (hLk.out _ ?_)
  clear hLk Lk
  simp only [Z6, Z7]
  iterate 15 refine Z28 (by rfl) ?_
  refine Z29 (fun w33 Sw33 hbs => ?_)
  clear hbs
  replace M := M.sees Sw33
  refine Z23 (g := g) (off := 0) (n := 10) (v := .int .u64 (((h.a + ((rndsq l h 80).a)) % 18446744073709551616 : Nat) : Int)) (by rfl) (by rfl) (by rfl) (by rfl) (by rfl) (M.t 2 rfl) (by decide) info40 rfl (fun w34 P R T => ?_)
  replace M := M.putI (i := 0) 2 0 rfl P R T rfl rfl (by simp) (by simp [SepS, flen])
  simp only [Z5] at M
  refine Z14 (Z15 ?_)
  refine hK29 _ _ ?_
  refine Z13 ?_
  refine Z16 1 (by rfl) (fun Lk hLk => ?_)
  simp only [Z6, Z7]
  refine Z20 (v := .int .i64 1) (by rfl) rfl rfl rfl (fun W => run_add (by decide) W) ?_
  simp only [Z12, Z5]
  refine Z19 (hLk _ (fun w36 Sw36 => ?_))
  clear hLk Lk
  simp only [Z6, Z7]
  replace M := M.sees Sw36
  refine Z17 (v := .int .i64 1) (by rfl) (by rfl) (by rfl) ?_
  simp only [Z12, Z5]
  refine Z14 (Z15 ?_)
  refine Z22 (Q := fun _ _ _ => True) ?_
  rw [rounds_succ]
  refine Z9 (fun K37 hK37 => ?_)
  refine Z13 ?_
  refine Z16 1 (by rfl) (fun Lk hLk => ?_)
  simp only [Z6, Z7]
  refine Z20 (v := .bool true) (by rfl) rfl rfl rfl (fun W => run_lss _ _ _ _ W) ?_
  simp only [Z12, Z5]
  refine Z19 (hLk _ (fun w39 Sw39 => ?_))
  clear hLk Lk
  simp only [Z6, Z7]
  replace M := M.sees Sw39
  refine Z14 (Z15 ?_)
  refine hK37 _ _ ?_
  refine Z9 (fun K40 hK40 => ?_)
  refine Z10 rfl ?_
  refine wp_skip ?_
  refine hK40 _ _ ?_
  refine Z9 (fun K41 hK41 => ?_)
  refine wp_block ?_
  refine Z9 (fun K42 hK42 => ?_)
  refine Z13 ?_
  refine Z17 (v := .int .i64 1) (by rfl) (by rfl) (by rfl) ?_
  simp only [Z12, Z5]
  refine Z18 (v := .int .i64 1) (by rfl) (by rfl) (by rfl) ?_
  simp only [Z12, Z5]
  refine Z14 (Z15 ?_)
  refine hK42 _ _ ?_
  refine wp_region_grow 15 [] (by kernel_rfl) (by kernel_rfl) (by kernel_rfl) (fun Lk hLk => ?_)
  simp only [Z6, Z7]
  refine Z21 (v := .pointer (some ⟨g, 0, none⟩)) (by rfl) rfl rfl ?_
  simp only [Z12, Z5]
  refine Z21 (v := .int .i64 1) (by rfl) rfl rfl ?_
  simp only [Z12, Z5]
  refine wpV_nilCheck (by rfl) rfl rfl ?_
  simp only [Z12, Z5]
  refine Z24 (v := .pointer (some ⟨g, 0, none⟩)) (by rfl) (by rfl) (fun W hW => ?_) ?_
  ·
   (go_simp; exact rfl)
  simp only [Z12, Z5]
  refine Z24 (v := .pointer (some ⟨g, 0, none⟩)) (by rfl) (by rfl) (fun W hW => ?_) ?_
  ·
   (go_simp; exact rfl)
  simp only [Z12, Z5]
  refine Z24 (v := .pointer (some ⟨g, 1, none⟩)) (by rfl) (by rfl) (fun W hW => ?_) ?_
  ·
   (go_simp; exact rfl)
  simp only [Z12, Z5]
  refine Z34 (v := .int .u64 ((h.b : Nat) : Int)) (by rfl) rfl rfl (range_one (range_sub (M.r 2 0 rfl rfl) 1 1 1 (xs := [.int .u64 ((h.b : Nat) : Int)]) rfl rfl)) (M.lt 2 rfl) Tryd.underlying40 rfl ?_
  simp only [Z12, Z5]
  refine Z21 (v := .int .i64 1) (by rfl) rfl rfl ?_
  simp only [Z12, Z5]
  refine Z24 (v := .pointer (some ⟨g10, 1, none⟩)) (by rfl) (by rfl) (fun W hW => ?_) ?_
  ·
   (go_simp; exact rfl)
  simp only [Z12, Z5]
  refine Z34 (v := .int .u64 (((rndsq l h 80).b : Nat) : Int)) (by rfl) rfl rfl (range_one (range_sub (M.r 0 0 rfl rfl) 1 1 1 (xs := [.int .u64 (((rndsq l h 80).b : Nat) : Int)]) rfl rfl)) (M.lt 0 rfl) Tryd.underlying40 rfl ?_
  simp only [Z12, Z5]
  refine Z20 (v := .int .u64 (((h.b + ((rndsq l h 80).b)) % 18446744073709551616 : Nat) : Int)) (by rfl) rfl rfl rfl (fun W => nr_add64 _ h.b ((rndsq l h 80).b) W) ?_
  simp only [Z12, Z5]
  refine wpV_nilCheck (by rfl) rfl rfl ?_
  simp only [Z12, Z5]
  refine Z24 (v := .pointer (some ⟨g, 0, none⟩)) (by rfl) (by rfl) (fun W hW => ?_) ?_
  ·
   (go_simp; exact rfl)
  simp only [Z12, Z5]
  refine Z24 (v := .pointer (some ⟨g, 0, none⟩)) (by rfl) (by rfl) (fun W hW => ?_) ?_
  ·
   (go_simp; exact rfl)
  simp only [Z12, Z5]
  refine Z24 (v := .pointer (some ⟨g, 1, none⟩)) (by rfl) (by rfl) (fun W hW => ?_) ?_
  ·
   (go_simp; exact rfl)
  simp only [Z12, Z5]
  refine Z19 (hLk.out _ ?_)
  clear hLk Lk
  simp only [Z6, Z7]
  iterate 15 refine Z28 (by rfl) ?_
  refine Z29 (fun w45 Sw45 hbs => ?_)
  clear hbs
  replace M := M.sees Sw45
  refine Z23 (g := g) (off := 1) (n := 10) (v := .int .u64 (((h.b + ((rndsq l h 80).b)) % 18446744073709551616 : Nat) : Int)) (by rfl) (by rfl) (by rfl) (by rfl) (by rfl) (M.t 2 rfl) (by decide) info40 rfl (fun w46 P R T => ?_)
  replace M := M.putI (i := 1) 2 0 rfl P R T rfl rfl (by simp) (by simp [SepS, flen])
  simp only [Z5] at M
  refine Z14 (Z15 ?_)
  refine hK41 _ _ ?_
  refine Z13 ?_
  refine Z16 1 (by rfl) (fun Lk hLk => ?_)
  simp only [Z6, Z7]
  refine Z20 (v := .int .i64 2) (by rfl) rfl rfl rfl (fun W => run_add (by decide) W) ?_
  simp only [Z12, Z5]
  refine Z19 (hLk _ (fun w48 Sw48 => ?_))
  clear hLk Lk
  simp only [Z6, Z7]
  replace M := M.sees Sw48
  refine Z17 (v := .int .i64 2) (by rfl) (by rfl) (by rfl) ?_
  simp only [Z12, Z5]
  refine Z14 (Z15 ?_)
  refine Z22 (Q := fun _ _ _ => True) ?_
  rw [rounds_succ]
  refine Z9 (fun K49 hK49 => ?_)
  refine Z13 ?_
  refine Z16 1 (by rfl) (fun Lk hLk => ?_)
  simp only [Z6, Z7]
  refine Z20 (v := .bool true) (by rfl) rfl rfl rfl (fun W => run_lss _ _ _ _ W) ?_
  simp only [Z12, Z5]
  refine Z19 (hLk _ (fun w51 Sw51 => ?_))
  clear hLk Lk
  simp only [Z6, Z7]
  replace M := M.sees Sw51
  refine Z14 (Z15 ?_)
  refine hK49 _ _ ?_
  refine Z9 (fun K52 hK52 => ?_)
  refine Z10 rfl ?_
  refine wp_skip ?_
  refine hK52 _ _ ?_
  refine Z9 (fun K53 hK53 => ?_)
  refine wp_block ?_
  refine Z9 (fun K54 hK54 => ?_)
  refine Z13 ?_
  refine Z17 (v := .int .i64 2) (by rfl) (by rfl) (by rfl) ?_
  simp only [Z12, Z5]
  refine Z18 (v := .int .i64 2) (by rfl) (by rfl) (by rfl) ?_
  simp only [Z12, Z5]
  refine Z14 (Z15 ?_)
  refine hK54 _ _ ?_
  refine wp_region_grow 15 [] (by kernel_rfl) (by kernel_rfl) (by kernel_rfl) (fun Lk hLk => ?_)
  simp only [Z6, Z7]
  refine Z21 (v := .pointer (some ⟨g, 0, none⟩)) (by rfl) rfl rfl ?_
  simp only [Z12, Z5]
  refine Z21 (v := .int .i64 2) (by rfl) rfl rfl ?_
  simp only [Z12, Z5]
  refine wpV_nilCheck (by rfl) rfl rfl ?_
  simp only [Z12, Z5]
  refine Z24 (v := .pointer (some ⟨g, 0, none⟩)) (by rfl) (by rfl) (fun W hW => ?_) ?_
  ·
   (go_simp; exact rfl)
  simp only [Z12, Z5]
  refine Z24 (v := .pointer (some ⟨g, 0, none⟩)) (by rfl) (by rfl) (fun W hW => ?_) ?_
  ·
   (go_simp; exact rfl)
  simp only [Z12, Z5]
  refine Z24 (v := .pointer (some ⟨g, 2, none⟩)) (by rfl) (by rfl) (fun W hW => ?_) ?_
  ·
   (go_simp; exact rfl)
  simp only [Z12, Z5]
  refine Z34 (v := .int .u64 ((h.c : Nat) : Int)) (by rfl) rfl rfl (range_one (range_sub (M.r 2 0 rfl rfl) 2 1 2 (xs := [.int .u64 ((h.c : Nat) : Int)]) rfl rfl)) (M.lt 2 rfl) Tryd.underlying40 rfl ?_
  simp only [Z12, Z5]
  refine Z21 (v := .int .i64 2) (by rfl) rfl rfl ?_
  simp only [Z12, Z5]
  refine Z24 (v := .pointer (some ⟨g10, 2, none⟩)) (by rfl) (by rfl) (fun W hW => ?_) ?_
  ·
   (go_simp; exact rfl)
  simp only [Z12, Z5]
  refine Z34 (v := .int .u64 (((rndsq l h 80).c : Nat) : Int)) (by rfl) rfl rfl (range_one (range_sub (M.r 0 0 rfl rfl) 2 1 2 (xs := [.int .u64 (((rndsq l h 80).c : Nat) : Int)]) rfl rfl)) (M.lt 0 rfl) Tryd.underlying40 rfl ?_
  simp only [Z12, Z5]
  refine Z20 (v := .int .u64 (((h.c + ((rndsq l h 80).c)) % 18446744073709551616 : Nat) : Int)) (by rfl) rfl rfl rfl (fun W => nr_add64 _ h.c ((rndsq l h 80).c) W) ?_
  simp only [Z12, Z5]
  refine wpV_nilCheck (by rfl) rfl rfl ?_
  simp only [Z12, Z5]
  refine Z24 (v := .pointer (some ⟨g, 0, none⟩)) (by rfl) (by rfl) (fun W hW => ?_) ?_
  ·
   (go_simp; exact rfl)
  simp only [Z12, Z5]
  refine Z24 (v := .pointer (some ⟨g, 0, none⟩)) (by rfl) (by rfl) (fun W hW => ?_) ?_
  ·
   (go_simp; exact rfl)
  simp only [Z12, Z5]
  refine Z24 (v := .pointer (some ⟨g, 2, none⟩)) (by rfl) (by rfl) (fun W hW => ?_) ?_
  ·
   (go_simp; exact rfl)
  simp only [Z12, Z5]
  refine Z19 (hLk.out _ ?_)
  clear hLk Lk
  simp only [Z6, Z7]
  iterate 15 refine Z28 (by rfl) ?_
  refine Z29 (fun w57 Sw57 hbs => ?_)
  clear hbs
  replace M := M.sees Sw57
  refine Z23 (g := g) (off := 2) (n := 10) (v := .int .u64 (((h.c + ((rndsq l h 80).c)) % 18446744073709551616 : Nat) : Int)) (by rfl) (by rfl) (by rfl) (by rfl) (by rfl) (M.t 2 rfl) (by decide) info40 rfl (fun w58 P R T => ?_)
  replace M := M.putI (i := 2) 2 0 rfl P R T rfl rfl (by simp) (by simp [SepS, flen])
  simp only [Z5] at M
  refine Z14 (Z15 ?_)
  refine hK53 _ _ ?_
  refine Z13 ?_
  refine Z16 1 (by rfl) (fun Lk hLk => ?_)
  simp only [Z6, Z7]
  refine Z20 (v := .int .i64 3) (by rfl) rfl rfl rfl (fun W => run_add (by decide) W) ?_
  simp only [Z12, Z5]
  refine Z19 (hLk _ (fun w60 Sw60 => ?_))
  clear hLk Lk
  simp only [Z6, Z7]
  replace M := M.sees Sw60
  refine Z17 (v := .int .i64 3) (by rfl) (by rfl) (by rfl) ?_
  simp only [Z12, Z5]
  refine Z14 (Z15 ?_)
  refine Z22 (Q := fun _ _ _ => True) ?_
  rw [rounds_succ]
  refine Z9 (fun K61 hK61 => ?_)
  refine Z13 ?_
  refine Z16 1 (by rfl) (fun Lk hLk => ?_)
  simp only [Z6, Z7]
  refine Z20 (v := .bool true) (by rfl) rfl rfl rfl (fun W => run_lss _ _ _ _ W) ?_
  simp only [Z12, Z5]
  refine Z19 (hLk _ (fun w63 Sw63 => ?_))
  clear hLk Lk
  simp only [Z6, Z7]
  replace M := M.sees Sw63
  refine Z14 (Z15 ?_)
  refine hK61 _ _ ?_
  refine Z9 (fun K64 hK64 => ?_)
  refine Z10 rfl ?_
  refine wp_skip ?_
  refine hK64 _ _ ?_
  refine Z9 (fun K65 hK65 => ?_)
  refine wp_block ?_
  refine Z9 (fun K66 hK66 => ?_)
  refine Z13 ?_
  refine Z17 (v := .int .i64 3) (by rfl) (by rfl) (by rfl) ?_
  simp only [Z12, Z5]
  refine Z18 (v := .int .i64 3) (by rfl) (by rfl) (by rfl) ?_
  simp only [Z12, Z5]
  refine Z14 (Z15 ?_)
  refine hK66 _ _ ?_
  refine wp_region_grow 15 [] (by kernel_rfl) (by kernel_rfl) (by kernel_rfl) (fun Lk hLk => ?_)
  simp only [Z6, Z7]
  refine Z21 (v := .pointer (some ⟨g, 0, none⟩)) (by rfl) rfl rfl ?_
  simp only [Z12, Z5]
  refine Z21 (v := .int .i64 3) (by rfl) rfl rfl ?_
  simp only [Z12, Z5]
  refine wpV_nilCheck (by rfl) rfl rfl ?_
  simp only [Z12, Z5]
  refine Z24 (v := .pointer (some ⟨g, 0, none⟩)) (by rfl) (by rfl) (fun W hW => ?_) ?_
  ·
   (go_simp; exact rfl)
  simp only [Z12, Z5]
  refine Z24 (v := .pointer (some ⟨g, 0, none⟩)) (by rfl) (by rfl) (fun W hW => ?_) ?_
  ·
   (go_simp; exact rfl)
  simp only [Z12, Z5]
  refine Z24 (v := .pointer (some ⟨g, 3, none⟩)) (by rfl) (by rfl) (fun W hW => ?_) ?_
  ·
   (go_simp; exact rfl)
  simp only [Z12, Z5]
  refine Z34 (v := .int .u64 ((h.d : Nat) : Int)) (by rfl) rfl rfl (range_one (range_sub (M.r 2 0 rfl rfl) 3 1 3 (xs := [.int .u64 ((h.d : Nat) : Int)]) rfl rfl)) (M.lt 2 rfl) Tryd.underlying40 rfl ?_
  simp only [Z12, Z5]
  refine Z21 (v := .int .i64 3) (by rfl) rfl rfl ?_
  simp only [Z12, Z5]
  refine Z24 (v := .pointer (some ⟨g10, 3, none⟩)) (by rfl) (by rfl) (fun W hW => ?_) ?_
  ·
   (go_simp; exact rfl)
  simp only [Z12, Z5]
  refine Z34 (v := .int .u64 (((rndsq l h 80).d : Nat) : Int)) (by rfl) rfl rfl (range_one (range_sub (M.r 0 0 rfl rfl) 3 1 3 (xs := [.int .u64 (((rndsq l h 80).d : Nat) : Int)]) rfl rfl)) (M.lt 0 rfl) Tryd.underlying40 rfl ?_
  simp only [Z12, Z5]
  refine Z20 (v := .int .u64 (((h.d + ((rndsq l h 80).d)) % 18446744073709551616 : Nat) : Int)) (by rfl) rfl rfl rfl (fun W => nr_add64 _ h.d ((rndsq l h 80).d) W) ?_
  simp only [Z12, Z5]
  refine wpV_nilCheck (by rfl) rfl rfl ?_
  simp only [Z12, Z5]
  refine Z24 (v := .pointer (some ⟨g, 0, none⟩)) (by rfl) (by rfl) (fun W hW => ?_) ?_
  ·
   (go_simp; exact rfl)
  simp only [Z12, Z5]
  refine Z24 (v := .pointer (some ⟨g, 0, none⟩)) (by rfl) (by rfl) (fun W hW => ?_) ?_
  ·
   (go_simp; exact rfl)
  simp only [Z12, Z5]
  refine Z24 (v := .pointer (some ⟨g, 3, none⟩)) (by rfl) (by rfl) (fun W hW => ?_) ?_
  ·
   (go_simp; exact rfl)
  simp only [Z12, Z5]
  refine Z19 (hLk.out _ ?_)
  clear hLk Lk
  simp only [Z6, Z7]
  iterate 15 refine Z28 (by rfl) ?_
  refine Z29 (fun w69 Sw69 hbs => ?_)
  clear hbs
  replace M := M.sees Sw69
  refine Z23 (g := g) (off := 3) (n := 10) (v := .int .u64 (((h.d + ((rndsq l h 80).d)) % 18446744073709551616 : Nat) : Int)) (by rfl) (by rfl) (by rfl) (by rfl) (by rfl) (M.t 2 rfl) (by decide) info40 rfl (fun w70 P R T => ?_)
  replace M := M.putI (i := 3) 2 0 rfl P R T rfl rfl (by simp) (by simp [SepS, flen])
  simp only [Z5] at M
  refine Z14 (Z15 ?_)
  refine hK65 _ _ ?_
  refine Z13 ?_
  refine Z16 1 (by rfl) (fun Lk hLk => ?_)
  simp only [Z6, Z7]
  refine Z20 (v := .int .i64 4) (by rfl) rfl rfl rfl (fun W => run_add (by decide) W) ?_
  simp only [Z12, Z5]
  refine Z19 (hLk _ (fun w72 Sw72 => ?_))
  clear hLk Lk
  simp only [Z6, Z7]
  replace M := M.sees Sw72
  refine Z17 (v := .int .i64 4) (by rfl) (by rfl) (by rfl) ?_
  simp only [Z12, Z5]
  refine Z14 (Z15 ?_)
  refine Z22 (Q := fun _ _ _ => True) ?_
  rw [rounds_succ]
  refine Z9 (fun K73 hK73 => ?_)
  refine Z13 ?_
  refine Z16 1 (by rfl) (fun Lk hLk => ?_)
  simp only [Z6, Z7]
  refine Z20 (v := .bool true) (by rfl) rfl rfl rfl (fun W => run_lss _ _ _ _ W) ?_
  simp only [Z12, Z5]
  refine Z19 (hLk _ (fun w75 Sw75 => ?_))
  clear hLk Lk
  simp only [Z6, Z7]
  replace M := M.sees Sw75
  refine Z14 (Z15 ?_)
  refine hK73 _ _ ?_
  refine Z9 (fun K76 hK76 => ?_)
  refine Z10 rfl ?_
  refine wp_skip ?_
  refine hK76 _ _ ?_
  refine Z9 (fun K77 hK77 => ?_)
  refine wp_block ?_
  refine Z9 (fun K78 hK78 => ?_)
  refine Z13 ?_
  refine Z17 (v := .int .i64 4) (by rfl) (by rfl) (by rfl) ?_
  simp only [Z12, Z5]
  refine Z18 (v := .int .i64 4) (by rfl) (by rfl) (by rfl) ?_
  simp only [Z12, Z5]
  refine Z14 (Z15 ?_)
  refine hK78 _ _ ?_
  refine wp_region_grow 15 [] (by kernel_rfl) (by kernel_rfl) (by kernel_rfl) (fun Lk hLk => ?_)
  simp only [Z6, Z7]
  refine Z21 (v := .pointer (some ⟨g, 0, none⟩)) (by rfl) rfl rfl ?_
  simp only [Z12, Z5]
  refine Z21 (v := .int .i64 4) (by rfl) rfl rfl ?_
  simp only [Z12, Z5]
  refine wpV_nilCheck (by rfl) rfl rfl ?_
  simp only [Z12, Z5]
  refine Z24 (v := .pointer (some ⟨g, 0, none⟩)) (by rfl) (by rfl) (fun W hW => ?_) ?_
  ·
   (go_simp; exact rfl)
  simp only [Z12, Z5]
  refine Z24 (v := .pointer (some ⟨g, 0, none⟩)) (by rfl) (by rfl) (fun W hW => ?_) ?_
  ·
   (go_simp; exact rfl)
  simp only [Z12, Z5]
  refine Z24 (v := .pointer (some ⟨g, 4, none⟩)) (by rfl) (by rfl) (fun W hW => ?_) ?_
  ·
   (go_simp; exact rfl)
  simp only [Z12, Z5]
  refine Z34 (v := .int .u64 ((h.e : Nat) : Int)) (by rfl) rfl rfl (range_one (range_sub (M.r 2 0 rfl rfl) 4 1 4 (xs := [.int .u64 ((h.e : Nat) : Int)]) rfl rfl)) (M.lt 2 rfl) Tryd.underlying40 rfl ?_
  simp only [Z12, Z5]
  refine Z21 (v := .int .i64 4) (by rfl) rfl rfl ?_
  simp only [Z12, Z5]
  refine Z24 (v := .pointer (some ⟨g10, 4, none⟩)) (by rfl) (by rfl) (fun W hW => ?_) ?_
  ·
   (go_simp; exact rfl)
  simp only [Z12, Z5]
  refine Z34 (v := .int .u64 (((rndsq l h 80).e : Nat) : Int)) (by rfl) rfl rfl (range_one (range_sub (M.r 0 0 rfl rfl) 4 1 4 (xs := [.int .u64 (((rndsq l h 80).e : Nat) : Int)]) rfl rfl)) (M.lt 0 rfl) Tryd.underlying40 rfl ?_
  simp only [Z12, Z5]
  refine Z20 (v := .int .u64 (((h.e + ((rndsq l h 80).e)) % 18446744073709551616 : Nat) : Int)) (by rfl) rfl rfl rfl (fun W => nr_add64 _ h.e ((rndsq l h 80).e) W) ?_
  simp only [Z12, Z5]
  refine wpV_nilCheck (by rfl) rfl rfl ?_
  simp only [Z12, Z5]
  refine Z24 (v := .pointer (some ⟨g, 0, none⟩)) (by rfl) (by rfl) (fun W hW => ?_) ?_
  ·
   (go_simp; exact rfl)
  simp only [Z12, Z5]
  refine Z24 (v := .pointer (some ⟨g, 0, none⟩)) (by rfl) (by rfl) (fun W hW => ?_) ?_
  ·
   (go_simp; exact rfl)
  simp only [Z12, Z5]
  refine Z24 (v := .pointer (some ⟨g, 4, none⟩)) (by rfl) (by rfl) (fun W hW => ?_) ?_
  ·
   (go_simp; exact rfl)
  simp only [Z12, Z5]
  refine Z19 (hLk.out _ ?_)
  clear hLk Lk
  simp only [Z6, Z7]
  iterate 15 refine Z28 (by rfl) ?_
  refine Z29 (fun w81 Sw81 hbs => ?_)
  clear hbs
  replace M := M.sees Sw81
  refine Z23 (g := g) (off := 4) (n := 10) (v := .int .u64 (((h.e + ((rndsq l h 80).e)) % 18446744073709551616 : Nat) : Int)) (by rfl) (by rfl) (by rfl) (by rfl) (by rfl) (M.t 2 rfl) (by decide) info40 rfl (fun w82 P R T => ?_)
  replace M := M.putI (i := 4) 2 0 rfl P R T rfl rfl (by simp) (by simp [SepS, flen])
  simp only [Z5] at M
  refine Z14 (Z15 ?_)
  refine hK77 _ _ ?_
  refine Z13 ?_
  refine Z16 1 (by rfl) (fun Lk hLk => ?_)
  simp only [Z6, Z7]
  refine Z20 (v := .int .i64 5) (by rfl) rfl rfl rfl (fun W => run_add (by decide) W) ?_
  simp only [Z12, Z5]
  refine Z19 (hLk _ (fun w84 Sw84 => ?_))
  clear hLk Lk
  simp only [Z6, Z7]
  replace M := M.sees Sw84
  refine Z17 (v := .int .i64 5) (by rfl) (by rfl) (by rfl) ?_
  simp only [Z12, Z5]
  refine Z14 (Z15 ?_)
  refine Z22 (Q := fun _ _ _ => True) ?_
  rw [rounds_succ]
  refine Z9 (fun K85 hK85 => ?_)
  refine Z13 ?_
  refine Z16 1 (by rfl) (fun Lk hLk => ?_)
  simp only [Z6, Z7]
  refine Z20 (v := .bool true) (by rfl) rfl rfl rfl (fun W => run_lss _ _ _ _ W) ?_
  simp only [Z12, Z5]
  refine Z19 (hLk _ (fun w87 Sw87 => ?_))
  clear hLk Lk
  simp only [Z6, Z7]
  replace M := M.sees Sw87
  refine Z14 (Z15 ?_)
  refine hK85 _ _ ?_
  refine Z9 (fun K88 hK88 => ?_)
  refine Z10 rfl ?_
  refine wp_skip ?_
  refine hK88 _ _ ?_
  refine Z9 (fun K89 hK89 => ?_)
  refine wp_block ?_
  refine Z9 (fun K90 hK90 => ?_)
  refine Z13 ?_
  refine Z17 (v := .int .i64 5) (by rfl) (by rfl) (by rfl) ?_
  simp only [Z12, Z5]
  refine Z18 (v := .int .i64 5) (by rfl) (by rfl) (by rfl) ?_
  simp only [Z12, Z5]
  refine Z14 (Z15 ?_)
  refine hK90 _ _ ?_
  refine wp_region_grow 15 [] (by kernel_rfl) (by kernel_rfl) (by kernel_rfl) (fun Lk hLk => ?_)
  simp only [Z6, Z7]
  refine Z21 (v := .pointer (some ⟨g, 0, none⟩)) (by rfl) rfl rfl ?_
  simp only [Z12, Z5]
  refine Z21 (v := .int .i64 5) (by rfl) rfl rfl ?_
  simp only [Z12, Z5]
  refine wpV_nilCheck (by rfl) rfl rfl ?_
  simp only [Z12, Z5]
  refine Z24 (v := .pointer (some ⟨g, 0, none⟩)) (by rfl) (by rfl) (fun W hW => ?_) ?_
  ·
   (go_simp; exact rfl)
  simp only [Z12, Z5]
  refine Z24 (v := .pointer (some ⟨g, 0, none⟩)) (by rfl) (by rfl) (fun W hW => ?_) ?_
  ·
   (go_simp; exact rfl)
  simp only [Z12, Z5]
  refine Z24 (v := .pointer (some ⟨g, 5, none⟩)) (by rfl) (by rfl) (fun W hW => ?_) ?_
  ·
   (go_simp; exact rfl)
  simp only [Z12, Z5]
  refine Z34 (v := .int .u64 ((h.f : Nat) : Int)) (by rfl) rfl rfl (range_one (range_sub (M.r 2 0 rfl rfl) 5 1 5 (xs := [.int .u64 ((h.f : Nat) : Int)]) rfl rfl)) (M.lt 2 rfl) Tryd.underlying40 rfl ?_
  simp only [Z12, Z5]
  refine Z21 (v := .int .i64 5) (by rfl) rfl rfl ?_
  simp only [Z12, Z5]
  refine Z24 (v := .pointer (some ⟨g10, 5, none⟩)) (by rfl) (by rfl) (fun W hW => ?_) ?_
  ·
   (go_simp; exact rfl)
  simp only [Z12, Z5]
  refine Z34 (v := .int .u64 (((rndsq l h 80).f : Nat) : Int)) (by rfl) rfl rfl (range_one (range_sub (M.r 0 0 rfl rfl) 5 1 5 (xs := [.int .u64 (((rndsq l h 80).f : Nat) : Int)]) rfl rfl)) (M.lt 0 rfl) Tryd.underlying40 rfl ?_
  simp only [Z12, Z5]
  refine Z20 (v := .int .u64 (((h.f + ((rndsq l h 80).f)) % 18446744073709551616 : Nat) : Int)) (by rfl) rfl rfl rfl (fun W => nr_add64 _ h.f ((rndsq l h 80).f) W) ?_
  simp only [Z12, Z5]
  refine wpV_nilCheck (by rfl) rfl rfl ?_
  simp only [Z12, Z5]
  refine Z24 (v := .pointer (some ⟨g, 0, none⟩)) (by rfl) (by rfl) (fun W hW => ?_) ?_
  ·
   (go_simp; exact rfl)
  simp only [Z12, Z5]
  refine Z24 (v := .pointer (some ⟨g, 0, none⟩)) (by rfl) (by rfl) (fun W hW => ?_) ?_
  ·
   (go_simp; exact rfl)
  simp only [Z12, Z5]
  refine Z24 (v := .pointer (some ⟨g, 5, none⟩)) (by rfl) (by rfl) (fun W hW => ?_) ?_
  ·
   (go_simp; exact rfl)
  simp only [Z12, Z5]
  refine Z19 (hLk.out _ ?_)
  clear hLk Lk
  simp only [Z6, Z7]
  iterate 15 refine Z28 (by rfl) ?_
  refine Z29 (fun w93 Sw93 hbs => ?_)
  clear hbs
  replace M := M.sees Sw93
  refine Z23 (g := g) (off := 5) (n := 10) (v := .int .u64 (((h.f + ((rndsq l h 80).f)) % 18446744073709551616 : Nat) : Int)) (by rfl) (by rfl) (by rfl) (by rfl) (by rfl) (M.t 2 rfl) (by decide) info40 rfl (fun w94 P R T => ?_)
  replace M := M.putI (i := 5) 2 0 rfl P R T rfl rfl (by simp) (by simp [SepS, flen])
  simp only [Z5] at M
  refine Z14 (Z15 ?_)
  refine hK89 _ _ ?_
  refine Z13 ?_
  refine Z16 1 (by rfl) (fun Lk hLk => ?_)
  simp only [Z6, Z7]
  refine Z20 (v := .int .i64 6) (by rfl) rfl rfl rfl (fun W => run_add (by decide) W) ?_
  simp only [Z12, Z5]
  refine Z19 (hLk _ (fun w96 Sw96 => ?_))
  clear hLk Lk
  simp only [Z6, Z7]
  replace M := M.sees Sw96
  refine Z17 (v := .int .i64 6) (by rfl) (by rfl) (by rfl) ?_
  simp only [Z12, Z5]
  refine Z14 (Z15 ?_)
  refine Z22 (Q := fun _ _ _ => True) ?_
  rw [rounds_succ]
  refine Z9 (fun K97 hK97 => ?_)
  refine Z13 ?_
  refine Z16 1 (by rfl) (fun Lk hLk => ?_)
  simp only [Z6, Z7]
  refine Z20 (v := .bool true) (by rfl) rfl rfl rfl (fun W => run_lss _ _ _ _ W) ?_
  simp only [Z12, Z5]
  refine Z19 (hLk _ (fun w99 Sw99 => ?_))
  clear hLk Lk
  simp only [Z6, Z7]
  replace M := M.sees Sw99
  refine Z14 (Z15 ?_)
  refine hK97 _ _ ?_
  refine Z9 (fun K100 hK100 => ?_)
  refine Z10 rfl ?_
  refine wp_skip ?_
  refine hK100 _ _ ?_
  refine Z9 (fun K101 hK101 => ?_)
  refine wp_block ?_
  refine Z9 (fun K102 hK102 => ?_)
  refine Z13 ?_
  refine Z17 (v := .int .i64 6) (by rfl) (by rfl) (by rfl) ?_
  simp only [Z12, Z5]
  refine Z18 (v := .int .i64 6) (by rfl) (by rfl) (by rfl) ?_
  simp only [Z12, Z5]
  refine Z14 (Z15 ?_)
  refine hK102 _ _ ?_
  refine wp_region_grow 15 [] (by kernel_rfl) (by kernel_rfl) (by kernel_rfl) (fun Lk hLk => ?_)
  simp only [Z6, Z7]
  refine Z21 (v := .pointer (some ⟨g, 0, none⟩)) (by rfl) rfl rfl ?_
  simp only [Z12, Z5]
  refine Z21 (v := .int .i64 6) (by rfl) rfl rfl ?_
  simp only [Z12, Z5]
  refine wpV_nilCheck (by rfl) rfl rfl ?_
  simp only [Z12, Z5]
  refine Z24 (v := .pointer (some ⟨g, 0, none⟩)) (by rfl) (by rfl) (fun W hW => ?_) ?_
  ·
   (go_simp; exact rfl)
  simp only [Z12, Z5]
  refine Z24 (v := .pointer (some ⟨g, 0, none⟩)) (by rfl) (by rfl) (fun W hW => ?_) ?_
  ·
   (go_simp; exact rfl)
  simp only [Z12, Z5]
  refine Z24 (v := .pointer (some ⟨g, 6, none⟩)) (by rfl) (by rfl) (fun W hW => ?_) ?_
  ·
   (go_simp; exact rfl)
  simp only [Z12, Z5]
  refine Z34 (v := .int .u64 ((h.g : Nat) : Int)) (by rfl) rfl rfl (range_one (range_sub (M.r 2 0 rfl rfl) 6 1 6 (xs := [.int .u64 ((h.g : Nat) : Int)]) rfl rfl)) (M.lt 2 rfl) Tryd.underlying40 rfl ?_
  simp only [Z12, Z5]
  refine Z21 (v := .int .i64 6) (by rfl) rfl rfl ?_
  simp only [Z12, Z5]
  refine Z24 (v := .pointer (some ⟨g10, 6, none⟩)) (by rfl) (by rfl) (fun W hW => ?_) ?_
  ·
   (go_simp; exact rfl)
  simp only [Z12, Z5]
  refine Z34 (v := .int .u64 (((rndsq l h 80).g : Nat) : Int)) (by rfl) rfl rfl (range_one (range_sub (M.r 0 0 rfl rfl) 6 1 6 (xs := [.int .u64 (((rndsq l h 80).g : Nat) : Int)]) rfl rfl)) (M.lt 0 rfl) Tryd.underlying40 rfl ?_
  simp only [Z12, Z5]
  refine Z20 (v := .int .u64 (((h.g + ((rndsq l h 80).g)) % 18446744073709551616 : Nat) : Int)) (by rfl) rfl rfl rfl (fun W => nr_add64 _ h.g ((rndsq l h 80).g) W) ?_
  simp only [Z12, Z5]
  refine wpV_nilCheck (by rfl) rfl rfl ?_
  simp only [Z12, Z5]
  refine Z24 (v := .pointer (some ⟨g, 0, none⟩)) (by rfl) (by rfl) (fun W hW => ?_) ?_
  ·
   (go_simp; exact rfl)
  simp only [Z12, Z5]
  refine Z24 (v := .pointer (some ⟨g, 0, none⟩)) (by rfl) (by rfl) (fun W hW => ?_) ?_
  ·
   (go_simp; exact rfl)
  simp only [Z12, Z5]
  refine Z24 (v := .pointer (some ⟨g, 6, none⟩)) (by rfl) (by rfl) (fun W hW => ?_) ?_
  ·
   (go_simp; exact rfl)
  simp only [Z12, Z5]
  refine Z19 (hLk.out _ ?_)
  clear hLk Lk
  simp only [Z6, Z7]
  iterate 15 refine Z28 (by rfl) ?_
  refine Z29 (fun w105 Sw105 hbs => ?_)
  clear hbs
  replace M := M.sees Sw105
  refine Z23 (g := g) (off := 6) (n := 10) (v := .int .u64 (((h.g + ((rndsq l h 80).g)) % 18446744073709551616 : Nat) : Int)) (by rfl) (by rfl) (by rfl) (by rfl) (by rfl) (M.t 2 rfl) (by decide) info40 rfl (fun w106 P R T => ?_)
  replace M := M.putI (i := 6) 2 0 rfl P R T rfl rfl (by simp) (by simp [SepS, flen])
  simp only [Z5] at M
  refine Z14 (Z15 ?_)
  refine hK101 _ _ ?_
  refine Z13 ?_
  refine Z16 1 (by rfl) (fun Lk hLk => ?_)
  simp only [Z6, Z7]
  refine Z20 (v := .int .i64 7) (by rfl) rfl rfl rfl (fun W => run_add (by decide) W) ?_
  simp only [Z12, Z5]
  refine Z19 (hLk _ (fun w108 Sw108 => ?_))
  clear hLk Lk
  simp only [Z6, Z7]
  replace M := M.sees Sw108
  refine Z17 (v := .int .i64 7) (by rfl) (by rfl) (by rfl) ?_
  simp only [Z12, Z5]
  refine Z14 (Z15 ?_)
  refine Z22 (Q := fun _ _ _ => True) ?_
  rw [rounds_succ]
  refine Z9 (fun K109 hK109 => ?_)
  refine Z13 ?_
  refine Z16 1 (by rfl) (fun Lk hLk => ?_)
  simp only [Z6, Z7]
  refine Z20 (v := .bool true) (by rfl) rfl rfl rfl (fun W => run_lss _ _ _ _ W) ?_
  simp only [Z12, Z5]
  refine Z19 (hLk _ (fun w111 Sw111 => ?_))
  clear hLk Lk
  simp only [Z6, Z7]
  replace M := M.sees Sw111
  refine Z14 (Z15 ?_)
  refine hK109 _ _ ?_
  refine Z9 (fun K112 hK112 => ?_)
  refine Z10 rfl ?_
  refine wp_skip ?_
  refine hK112 _ _ ?_
  refine Z9 (fun K113 hK113 => ?_)
  refine wp_block ?_
  refine Z9 (fun K114 hK114 => ?_)
  refine Z13 ?_
  refine Z17 (v := .int .i64 7) (by rfl) (by rfl) (by rfl) ?_
  simp only [Z12, Z5]
  refine Z18 (v := .int .i64 7) (by rfl) (by rfl) (by rfl) ?_
  simp only [Z12, Z5]
  refine Z14 (Z15 ?_)
  refine hK114 _ _ ?_
  refine wp_region_grow 15 [] (by kernel_rfl) (by kernel_rfl) (by kernel_rfl) (fun Lk hLk => ?_)
  simp only [Z6, Z7]
  refine Z21 (v := .pointer (some ⟨g, 0, none⟩)) (by rfl) rfl rfl ?_
  simp only [Z12, Z5]
  refine Z21 (v := .int .i64 7) (by rfl) rfl rfl ?_
  simp only [Z12, Z5]
  refine wpV_nilCheck (by rfl) rfl rfl ?_
  simp only [Z12, Z5]
  refine Z24 (v := .pointer (some ⟨g, 0, none⟩)) (by rfl) (by rfl) (fun W hW => ?_) ?_
  ·
   (go_simp; exact rfl)
  simp only [Z12, Z5]
  refine Z24 (v := .pointer (some ⟨g, 0, none⟩)) (by rfl) (by rfl) (fun W hW => ?_) ?_
  ·
   (go_simp; exact rfl)
  simp only [Z12, Z5]
  refine Z24 (v := .pointer (some ⟨g, 7, none⟩)) (by rfl) (by rfl) (fun W hW => ?_) ?_
  ·
   (go_simp; exact rfl)
  simp only [Z12, Z5]
  refine Z34 (v := .int .u64 ((h.h : Nat) : Int)) (by rfl) rfl rfl (range_one (range_sub (M.r 2 0 rfl rfl) 7 1 7 (xs := [.int .u64 ((h.h : Nat) : Int)]) rfl rfl)) (M.lt 2 rfl) Tryd.underlying40 rfl ?_
  simp only [Z12, Z5]
  refine Z21 (v := .int .i64 7) (by rfl) rfl rfl ?_
  simp only [Z12, Z5]
  refine Z24 (v := .pointer (some ⟨g10, 7, none⟩)) (by rfl) (by rfl) (fun W hW => ?_) ?_
  ·
   (go_simp; exact rfl)
  simp only [Z12, Z5]
  refine Z34 (v := .int .u64 (((rndsq l h 80).h : Nat) : Int)) (by rfl) rfl rfl (range_one (range_sub (M.r 0 0 rfl rfl) 7 1 7 (xs := [.int .u64 (((rndsq l h 80).h : Nat) : Int)]) rfl rfl)) (M.lt 0 rfl) Tryd.underlying40 rfl ?_
  simp only [Z12, Z5]
  refine Z20 (v := .int .u64 (((h.h + ((rndsq l h 80).h)) % 18446744073709551616 : Nat) : Int)) (by rfl) rfl rfl rfl (fun W => nr_add64 _ h.h ((rndsq l h 80).h) W) ?_
  simp only [Z12, Z5]
  refine wpV_nilCheck (by rfl) rfl rfl ?_
  simp only [Z12, Z5]
  refine Z24 (v := .pointer (some ⟨g, 0, none⟩)) (by rfl) (by rfl) (fun W hW => ?_) ?_
  ·
   (go_simp; exact rfl)
  simp only [Z12, Z5]
  refine Z24 (v := .pointer (some ⟨g, 0, none⟩)) (by rfl) (by rfl) (fun W hW => ?_) ?_
  ·
   (go_simp; exact rfl)
  simp only [Z12, Z5]
  refine Z24 (v := .pointer (some ⟨g, 7, none⟩)) (by rfl) (by rfl) (fun W hW => ?_) ?_
  ·
   (go_simp; exact rfl)
  simp only [Z12, Z5]
  refine Z19 (hLk.out _ ?_)
  clear hLk Lk
  simp only [Z6, Z7]
  iterate 15 refine Z28 (by rfl) ?_
  refine Z29 (fun w117 Sw117 hbs => ?_)
  clear hbs
  replace M := M.sees Sw117
  refine Z23 (g := g) (off := 7) (n := 10) (v := .int .u64 (((h.h + ((rndsq l h 80).h)) % 18446744073709551616 : Nat) : Int)) (by rfl) (by rfl) (by rfl) (by rfl) (by rfl) (M.t 2 rfl) (by decide) info40 rfl (fun w118 P R T => ?_)
  replace M := M.putI (i := 7) 2 0 rfl P R T rfl rfl (by simp) (by simp [SepS, flen])
  simp only [Z5] at M
  refine Z14 (Z15 ?_)
  refine hK113 _ _ ?_
  refine Z13 ?_
  refine Z16 1 (by rfl) (fun Lk hLk => ?_)
  simp only [Z6, Z7]
  refine Z20 (v := .int .i64 8) (by rfl) rfl rfl rfl (fun W => run_add (by decide) W) ?_
  simp only [Z12, Z5]
  refine Z19 (hLk _ (fun w120 Sw120 => ?_))
  clear hLk Lk
  simp only [Z6, Z7]
  replace M := M.sees Sw120
  refine Z17 (v := .int .i64 8) (by rfl) (by rfl) (by rfl) ?_
  simp only [Z12, Z5]
  refine Z14 (Z15 ?_)
  refine Z22 (Q := fun _ _ _ => True) ?_
  rw [rounds_succ]
  refine Z9 (fun K121 hK121 => ?_)
  refine Z13 ?_
  refine Z16 1 (by rfl) (fun Lk hLk => ?_)
  simp only [Z6, Z7]
  refine Z20 (v := .bool false) (by rfl) rfl rfl rfl (fun W => run_lss _ _ _ _ W) ?_
  simp only [Z12, Z5]
  refine Z19 (hLk _ (fun w123 Sw123 => ?_))
  clear hLk Lk
  simp only [Z6, Z7]
  replace M := M.sees Sw123
  refine Z14 (Z15 ?_)
  refine hK121 _ _ ?_
  refine Z9 (fun K124 hK124 => ?_)
  refine Z11 rfl ?_
  refine wp_exit ?_
  repeat (first | with_reducible refine then_exit ?_ | with_reducible refine inblock_exit ?_)
  refine bodyPost_end (v := .tuple #[]) (results_none rfl _ _ _) rfl ?_
  exact ⟨_, rfl, rfl, M.pick [2] (by decide) rfl⟩
 ·
  have ht : t < 80 := of_decide_eq_true hc22
  refine Z10 rfl ?_
  refine wp_skip ?_
  refine hK21 _ _ ?_
  refine Z9 (fun K125 hK125 => ?_)
  refine wp_block ?_
  refine Z9 (fun K126 hK126 => ?_)
  refine Z13 ?_
  refine Z17 (v := .int .i64 ((t : Nat) : Int)) (by rfl) (by rfl) (by rfl) ?_
  simp only [Z12, Z5]
  refine Z18 (v := .int .i64 ((t : Nat) : Int)) (by rfl) (by rfl) (by rfl) ?_
  simp only [Z12, Z5]
  refine Z14 (Z15 ?_)
  refine hK126 _ _ ?_
  refine Z9 (fun K128 hK128 => ?_)
  refine wp_region_grow 6 [] (by kernel_rfl) (by kernel_rfl) (by kernel_rfl) (fun Lk hLk => ?_)
  simp only [Z6, Z7]
  refine Z24 (v := .pointer (some ⟨g10, 0, none⟩)) (by rfl) (by rfl) (fun W hW => ?_) ?_
  ·
   (go_simp; exact rfl)
  simp only [Z12, Z5]
  refine Z34 (v := .int .u64 ((v.a : Nat) : Int)) (by rfl) rfl rfl (range_one (range_sub (M.r 0 0 rfl rfl) 0 1 0 (xs := [.int .u64 ((v.a : Nat) : Int)]) rfl rfl)) (M.lt 0 rfl) Tryd.underlying40 rfl ?_
  simp only [Z12, Z5]
  refine Z24 (v := .pointer (some ⟨g10, 4, none⟩)) (by rfl) (by rfl) (fun W hW => ?_) ?_
  ·
   (go_simp; exact rfl)
  simp only [Z12, Z5]
  refine Z34 (v := .int .u64 ((v.e : Nat) : Int)) (by rfl) rfl rfl (range_one (range_sub (M.r 0 0 rfl rfl) 4 1 4 (xs := [.int .u64 ((v.e : Nat) : Int)]) rfl rfl)) (M.lt 0 rfl) Tryd.underlying40 rfl ?_
  simp only [Z12, Z5]
  refine wpV_assign (v := .int .u64 ((v.a : Nat) : Int)) (by rfl) rfl rfl ?_
  simp only [Z12, Z5]
  refine wpV_assign (v := .int .u64 ((v.e : Nat) : Int)) (by rfl) rfl rfl ?_
  simp only [Z12, Z5]
  refine Z19 (hLk.out _ ?_)
  clear hLk Lk
  simp only [Z6, Z7]
  iterate 6 refine Z28 (by rfl) ?_
  refine Z29 (fun w130 Sw130 hbs => ?_)
  clear hbs
  replace M := M.sees Sw130
  refine Z14 (Z15 ?_)
  refine hK128 _ _ ?_
  refine Z9 (fun K131 hK131 => ?_)
  refine wp_region_grow 30 [] (by kernel_rfl) (by kernel_rfl) (by kernel_rfl) (fun Lk hLk => ?_)
  simp only [Z6, Z7]
  refine Z24 (v := .pointer (some ⟨g10, 7, none⟩)) (by rfl) (by rfl) (fun W hW => ?_) ?_
  ·
   (go_simp; exact rfl)
  simp only [Z12, Z5]
  refine Z34 (v := .int .u64 ((v.h : Nat) : Int)) (by rfl) rfl rfl (range_one (range_sub (M.r 0 0 rfl rfl) 7 1 7 (xs := [.int .u64 ((v.h : Nat) : Int)]) rfl rfl)) (M.lt 0 rfl) Tryd.underlying40 rfl ?_
  simp only [Z12, Z5]
  refine Z21 (v := .int .u64 ((v.e : Nat) : Int)) (by rfl) rfl rfl ?_
  simp only [Z12, Z5]
  refine Z25 (v := .int .u64 ((rotrq v.e 14 : Nat) : Int)) (args := #[.int .u64 ((v.e : Nat) : Int), .int .i64 (-14)]) (by rfl) rfl Tryd.func160 (by kernel_rfl) (by kernel_rfl) rfl (fun W hW => (by have := rotl_cq (x := v.e) (n := 14) (w := W) hok.e (by decide) (by decide); exact this)) ?_
  simp only [Z12, Z5]
  refine Z21 (v := .int .u64 ((v.e : Nat) : Int)) (by rfl) rfl rfl ?_
  simp only [Z12, Z5]
  refine Z25 (v := .int .u64 ((rotrq v.e 18 : Nat) : Int)) (args := #[.int .u64 ((v.e : Nat) : Int), .int .i64 (-18)]) (by rfl) rfl Tryd.func160 (by kernel_rfl) (by kernel_rfl) rfl (fun W hW => (by have := rotl_cq (x := v.e) (n := 18) (w := W) hok.e (by decide) (by decide); exact this)) ?_
  simp only [Z12, Z5]
  refine Z20 (v := .int .u64 (((rotrq v.e 14) ^^^ (rotrq v.e 18) : Nat) : Int)) (by rfl) rfl rfl rfl (fun W => nr_xor64 (x := rotrq v.e 14) (y := rotrq v.e 18) (rotr_ltq hok.e (by decide)) (rotr_ltq hok.e (by decide)) W) ?_
  simp only [Z12, Z5]
  refine Z21 (v := .int .u64 ((v.e : Nat) : Int)) (by rfl) rfl rfl ?_
  simp only [Z12, Z5]
  refine Z25 (v := .int .u64 ((rotrq v.e 41 : Nat) : Int)) (args := #[.int .u64 ((v.e : Nat) : Int), .int .i64 (-41)]) (by rfl) rfl Tryd.func160 (by kernel_rfl) (by kernel_rfl) rfl (fun W hW => (by have := rotl_cq (x := v.e) (n := 41) (w := W) hok.e (by decide) (by decide); exact this)) ?_
  simp only [Z12, Z5]
  refine Z20 (v := .int .u64 ((bg1q v.e : Nat) : Int)) (by rfl) rfl rfl rfl (fun W => nr_xor64 (x := (rotrq v.e 14) ^^^ (rotrq v.e 18)) (y := rotrq v.e 41) (xor_lt64 (rotr_ltq hok.e (by decide)) (rotr_ltq hok.e (by decide))) (rotr_ltq hok.e (by decide)) W) ?_
  simp only [Z12, Z5]
  refine Z20 (v := .int .u64 (((v.h + (bg1q v.e)) % 18446744073709551616 : Nat) : Int)) (by rfl) rfl rfl rfl (fun W => nr_add64 _ v.h (bg1q v.e) W) ?_
  simp only [Z12, Z5]
  refine Z21 (v := .int .u64 ((v.e : Nat) : Int)) (by rfl) rfl rfl ?_
  simp only [Z12, Z5]
  refine Z24 (v := .pointer (some ⟨g10, 5, none⟩)) (by rfl) (by rfl) (fun W hW => ?_) ?_
  ·
   (go_simp; exact rfl)
  simp only [Z12, Z5]
  refine Z34 (v := .int .u64 ((v.f : Nat) : Int)) (by rfl) rfl rfl (range_one (range_sub (M.r 0 0 rfl rfl) 5 1 5 (xs := [.int .u64 ((v.f : Nat) : Int)]) rfl rfl)) (M.lt 0 rfl) Tryd.underlying40 rfl ?_
  simp only [Z12, Z5]
  refine Z20 (v := .int .u64 ((v.e &&& v.f : Nat) : Int)) (by rfl) rfl rfl rfl (fun W => nr_and64 (x := v.e) (y := v.f) hok.e hok.f W) ?_
  simp only [Z12, Z5]
  refine Z21 (v := .int .u64 ((v.e : Nat) : Int)) (by rfl) rfl rfl ?_
  simp only [Z12, Z5]
  refine wpV_un (v := .int .u64 ((18446744073709551615 ^^^ v.e : Nat) : Int)) (by rfl) rfl rfl (fun W => nr_not64 (x := v.e) hok.e W) ?_
  simp only [Z12, Z5]
  refine Z24 (v := .pointer (some ⟨g10, 6, none⟩)) (by rfl) (by rfl) (fun W hW => ?_) ?_
  ·
   (go_simp; exact rfl)
  simp only [Z12, Z5]
  refine Z34 (v := .int .u64 ((v.g : Nat) : Int)) (by rfl) rfl rfl (range_one (range_sub (M.r 0 0 rfl rfl) 6 1 6 (xs := [.int .u64 ((v.g : Nat) : Int)]) rfl rfl)) (M.lt 0 rfl) Tryd.underlying40 rfl ?_
  simp only [Z12, Z5]
  refine Z20 (v := .int .u64 (((18446744073709551615 ^^^ v.e) &&& v.g : Nat) : Int)) (by rfl) rfl rfl rfl (fun W => nr_and64 (x := 18446744073709551615 ^^^ v.e) (y := v.g) (xor_lt64 (by decide) hok.e) hok.g W) ?_
  simp only [Z12, Z5]
  refine Z20 (v := .int .u64 ((chsq v.e v.f v.g : Nat) : Int)) (by rfl) rfl rfl rfl (fun W => nr_xor64 (x := v.e &&& v.f) (y := (18446744073709551615 ^^^ v.e) &&& v.g) (and_lt64 hok.f) (and_lt64 hok.g) W) ?_
  simp only [Z12, Z5]
  refine Z20 (v := .int .u64 (((((v.h + (bg1q v.e)) % 18446744073709551616) + (chsq v.e v.f v.g)) % 18446744073709551616 : Nat) : Int)) (by rfl) rfl rfl rfl (fun W => nr_add64 _ ((v.h + (bg1q v.e)) % 18446744073709551616) (chsq v.e v.f v.g) W) ?_
  simp only [Z12, Z5]
  refine Z21 (v := .int .i64 ((t : Nat) : Int)) (by rfl) rfl rfl ?_
  simp only [Z12, Z5]
  refine wpV_idx (n := t) (by rfl) rfl rfl rfl Tryd.underlying201 info40 (by omega) ?_
  simp only [Z1]
  simp only [Z12, Z5]
  refine Z34 (v := .int .u64 ((keyNq t : Nat) : Int)) (by rfl) rfl rfl (zadd ((M.oldG R2_0 L2 (by simpa using Ne.symm hg)) _ _ (kcells_getq (by omega)))) (M.oldL L2) Tryd.underlying40 rfl ?_
  simp only [Z12, Z5]
  refine Z20 (v := .int .u64 (((((((v.h + (bg1q v.e)) % 18446744073709551616) + (chsq v.e v.f v.g)) % 18446744073709551616) + (keyNq t)) % 18446744073709551616 : Nat) : Int)) (by rfl) rfl rfl rfl (fun W => nr_add64 _ ((((v.h + (bg1q v.e)) % 18446744073709551616) + (chsq v.e v.f v.g)) % 18446744073709551616) (keyNq t) W) ?_
  simp only [Z12, Z5]
  refine Z21 (v := .int .i64 ((t : Nat) : Int)) (by rfl) rfl rfl ?_
  simp only [Z12, Z5]
  refine wpV_idx (n := t) (by rfl) rfl rfl rfl Tryd.underlying201 info40 (by omega) ?_
  simp only [Z1]
  simp only [Z12, Z5]
  refine Z34 (v := .int .u64 ((shWq l t : Nat) : Int)) (by rfl) rfl rfl (zadd ((M.r 1 0 rfl rfl) _ _ (wcells_atq l (by omega) (by omega)))) (M.lt 1 rfl) Tryd.underlying40 rfl ?_
  simp only [Z12, Z5]
  refine Z20 (v := .int .u64 ((oneq (keyNq t) (shWq l t) v : Nat) : Int)) (by rfl) rfl rfl rfl (fun W => nr_add64 _ ((((((v.h + (bg1q v.e)) % 18446744073709551616) + (chsq v.e v.f v.g)) % 18446744073709551616) + (keyNq t)) % 18446744073709551616) (shWq l t) W) ?_
  simp only [Z12, Z5]
  refine Z19 (hLk.out _ ?_)
  clear hLk Lk
  simp only [Z6, Z7]
  iterate 30 refine Z28 (by rfl) ?_
  refine Z29 (fun w133 Sw133 hbs => ?_)
  clear hbs
  replace M := M.sees Sw133
  refine Z18 (v := .int .u64 ((oneq (keyNq t) (shWq l t) v : Nat) : Int)) (by rfl) (by rfl) (by rfl) ?_
  simp only [Z12, Z5]
  refine Z14 (Z15 ?_)
  refine hK131 _ _ ?_
  refine Z9 (fun K134 hK134 => ?_)
  refine wp_region_grow 24 [] (by kernel_rfl) (by kernel_rfl) (by kernel_rfl) (fun Lk hLk => ?_)
  simp only [Z6, Z7]
  refine Z21 (v := .int .u64 ((v.a : Nat) : Int)) (by rfl) rfl rfl ?_
  simp only [Z12, Z5]
  refine Z25 (v := .int .u64 ((rotrq v.a 28 : Nat) : Int)) (args := #[.int .u64 ((v.a : Nat) : Int), .int .i64 (-28)]) (by rfl) rfl Tryd.func160 (by kernel_rfl) (by kernel_rfl) rfl (fun W hW => (by have := rotl_cq (x := v.a) (n := 28) (w := W) hok.a (by decide) (by decide); exact this)) ?_
  simp only [Z12, Z5]
  refine Z21 (v := .int .u64 ((v.a : Nat) : Int)) (by rfl) rfl rfl ?_
  simp only [Z12, Z5]
  refine Z25 (v := .int .u64 ((rotrq v.a 34 : Nat) : Int)) (args := #[.int .u64 ((v.a : Nat) : Int), .int .i64 (-34)]) (by rfl) rfl Tryd.func160 (by kernel_rfl) (by kernel_rfl) rfl (fun W hW => (by have := rotl_cq (x := v.a) (n := 34) (w := W) hok.a (by decide) (by decide); exact this)) ?_
  simp only [Z12, Z5]
  refine Z20 (v := .int .u64 (((rotrq v.a 28) ^^^ (rotrq v.a 34) : Nat) : Int)) (by rfl) rfl rfl rfl (fun W => nr_xor64 (x := rotrq v.a 28) (y := rotrq v.a 34) (rotr_ltq hok.a (by decide)) (rotr_ltq hok.a (by decide)) W) ?_
  simp only [Z12, Z5]
  refine Z21 (v := .int .u64 ((v.a : Nat) : Int)) (by rfl) rfl rfl ?_
  simp only [Z12, Z5]
  refine Z25 (v := .int .u64 ((rotrq v.a 39 : Nat) : Int)) (args := #[.int .u64 ((v.a : Nat) : Int), .int .i64 (-39)]) (by rfl) rfl Tryd.func160 (by kernel_rfl) (by kernel_rfl) rfl (fun W hW => (by have := rotl_cq (x := v.a) (n := 39) (w := W) hok.a (by decide) (by decide); exact this)) ?_
  simp only [Z12, Z5]
  refine Z20 (v := .int .u64 ((bg0q v.a : Nat) : Int)) (by rfl) rfl rfl rfl (fun W => nr_xor64 (x := (rotrq v.a 28) ^^^ (rotrq v.a 34)) (y := rotrq v.a 39) (xor_lt64 (rotr_ltq hok.a (by decide)) (rotr_ltq hok.a (by decide))) (rotr_ltq hok.a (by decide)) W) ?_
  simp only [Z12, Z5]
  refine Z21 (v := .int .u64 ((v.a : Nat) : Int)) (by rfl) rfl rfl ?_
  simp only [Z12, Z5]
  refine Z24 (v := .pointer (some ⟨g10, 1, none⟩)) (by rfl) (by rfl) (fun W hW => ?_) ?_
  ·
   (go_simp; exact rfl)
  simp only [Z12, Z5]
  refine Z34 (v := .int .u64 ((v.b : Nat) : Int)) (by rfl) rfl rfl (range_one (range_sub (M.r 0 0 rfl rfl) 1 1 1 (xs := [.int .u64 ((v.b : Nat) : Int)]) rfl rfl)) (M.lt 0 rfl) Tryd.underlying40 rfl ?_
  simp only [Z12, Z5]
  refine Z20 (v := .int .u64 ((v.a &&& v.b : Nat) : Int)) (by rfl) rfl rfl rfl (fun W => nr_and64 (x := v.a) (y := v.b) hok.a hok.b W) ?_
  simp only [Z12, Z5]
  refine Z21 (v := .int .u64 ((v.a : Nat) : Int)) (by rfl) rfl rfl ?_
  simp only [Z12, Z5]
  refine Z24 (v := .pointer (some ⟨g10, 2, none⟩)) (by rfl) (by rfl) (fun W hW => ?_) ?_
  ·
   (go_simp; exact rfl)
  simp only [Z12, Z5]
  refine Z34 (v := .int .u64 ((v.c : Nat) : Int)) (by rfl) rfl rfl (range_one (range_sub (M.r 0 0 rfl rfl) 2 1 2 (xs := [.int .u64 ((v.c : Nat) : Int)]) rfl rfl)) (M.lt 0 rfl) Tryd.underlying40 rfl ?_
  simp only [Z12, Z5]
  refine Z20 (v := .int .u64 ((v.a &&& v.c : Nat) : Int)) (by rfl) rfl rfl rfl (fun W => nr_and64 (x := v.a) (y := v.c) hok.a hok.c W) ?_
  simp only [Z12, Z5]
  refine Z20 (v := .int .u64 (((v.a &&& v.b) ^^^ (v.a &&& v.c) : Nat) : Int)) (by rfl) rfl rfl rfl (fun W => nr_xor64 (x := v.a &&& v.b) (y := v.a &&& v.c) (and_lt64 hok.b) (and_lt64 hok.c) W) ?_
  simp only [Z12, Z5]
  refine Z24 (v := .pointer (some ⟨g10, 1, none⟩)) (by rfl) (by rfl) (fun W hW => ?_) ?_
  ·
   (go_simp; exact rfl)
  simp only [Z12, Z5]
  refine Z34 (v := .int .u64 ((v.b : Nat) : Int)) (by rfl) rfl rfl (range_one (range_sub (M.r 0 0 rfl rfl) 1 1 1 (xs := [.int .u64 ((v.b : Nat) : Int)]) rfl rfl)) (M.lt 0 rfl) Tryd.underlying40 rfl ?_
  simp only [Z12, Z5]
  refine Z24 (v := .pointer (some ⟨g10, 2, none⟩)) (by rfl) (by rfl) (fun W hW => ?_) ?_
  ·
   (go_simp; exact rfl)
  simp only [Z12, Z5]
  refine Z34 (v := .int .u64 ((v.c : Nat) : Int)) (by rfl) rfl rfl (range_one (range_sub (M.r 0 0 rfl rfl) 2 1 2 (xs := [.int .u64 ((v.c : Nat) : Int)]) rfl rfl)) (M.lt 0 rfl) Tryd.underlying40 rfl ?_
  simp only [Z12, Z5]
  refine Z20 (v := .int .u64 ((v.b &&& v.c : Nat) : Int)) (by rfl) rfl rfl rfl (fun W => nr_and64 (x := v.b) (y := v.c) hok.b hok.c W) ?_
  simp only [Z12, Z5]
  refine Z20 (v := .int .u64 ((majq v.a v.b v.c : Nat) : Int)) (by rfl) rfl rfl rfl (fun W => nr_xor64 (x := (v.a &&& v.b) ^^^ (v.a &&& v.c)) (y := v.b &&& v.c) (xor_lt64 (and_lt64 hok.b) (and_lt64 hok.c)) (and_lt64 hok.c) W) ?_
  simp only [Z12, Z5]
  refine Z20 (v := .int .u64 ((twoq v : Nat) : Int)) (by rfl) rfl rfl rfl (fun W => nr_add64 _ (bg0q v.a) (majq v.a v.b v.c) W) ?_
  simp only [Z12, Z5]
  refine Z19 (hLk.out _ ?_)
  clear hLk Lk
  simp only [Z6, Z7]
  iterate 24 refine Z28 (by rfl) ?_
  refine Z29 (fun w136 Sw136 hbs => ?_)
  clear hbs
  replace M := M.sees Sw136
  refine Z18 (v := .int .u64 ((twoq v : Nat) : Int)) (by rfl) (by rfl) (by rfl) ?_
  simp only [Z12, Z5]
  refine Z14 (Z15 ?_)
  refine hK134 _ _ ?_
  refine Z13 ?_
  refine Z17 (v := .int .u64 ((oneq (keyNq t) (shWq l t) v : Nat) : Int)) (by rfl) (by rfl) (by rfl) ?_
  simp only [Z12, Z5]
  refine Z17 (v := .int .u64 ((twoq v : Nat) : Int)) (by rfl) (by rfl) (by rfl) ?_
  simp only [Z12, Z5]
  refine Z16 16 (by rfl) (fun Lk hLk => ?_)
  simp only [Z6, Z7]
  refine Z20 (v := .int .u64 ((((oneq (keyNq t) (shWq l t) v) + (twoq v)) % 18446744073709551616 : Nat) : Int)) (by rfl) rfl rfl rfl (fun W => nr_add64 _ (oneq (keyNq t) (shWq l t) v) (twoq v) W) ?_
  simp only [Z12, Z5]
  refine Z21 (v := .int .u64 ((v.a : Nat) : Int)) (by rfl) rfl rfl ?_
  simp only [Z12, Z5]
  refine Z24 (v := .pointer (some ⟨g10, 1, none⟩)) (by rfl) (by rfl) (fun W hW => ?_) ?_
  ·
   (go_simp; exact rfl)
  simp only [Z12, Z5]
  refine Z34 (v := .int .u64 ((v.b : Nat) : Int)) (by rfl) rfl rfl (range_one (range_sub (M.r 0 0 rfl rfl) 1 1 1 (xs := [.int .u64 ((v.b : Nat) : Int)]) rfl rfl)) (M.lt 0 rfl) Tryd.underlying40 rfl ?_
  simp only [Z12, Z5]
  refine Z24 (v := .pointer (some ⟨g10, 2, none⟩)) (by rfl) (by rfl) (fun W hW => ?_) ?_
  ·
   (go_simp; exact rfl)
  simp only [Z12, Z5]
  refine Z34 (v := .int .u64 ((v.c : Nat) : Int)) (by rfl) rfl rfl (range_one (range_sub (M.r 0 0 rfl rfl) 2 1 2 (xs := [.int .u64 ((v.c : Nat) : Int)]) rfl rfl)) (M.lt 0 rfl) Tryd.underlying40 rfl ?_
  simp only [Z12, Z5]
  refine Z24 (v := .pointer (some ⟨g10, 3, none⟩)) (by rfl) (by rfl) (fun W hW => ?_) ?_
  ·
   (go_simp; exact rfl)
  simp only [Z12, Z5]
  refine Z34 (v := .int .u64 ((v.d : Nat) : Int)) (by rfl) rfl rfl (range_one (range_sub (M.r 0 0 rfl rfl) 3 1 3 (xs := [.int .u64 ((v.d : Nat) : Int)]) rfl rfl)) (M.lt 0 rfl) Tryd.underlying40 rfl ?_
  simp only [Z12, Z5]
  refine Z21 (v := .int .u64 ((oneq (keyNq t) (shWq l t) v : Nat) : Int)) (by rfl) rfl rfl ?_
  simp only [Z12, Z5]
  refine Z20 (v := .int .u64 (((v.d + (oneq (keyNq t) (shWq l t) v)) % 18446744073709551616 : Nat) : Int)) (by rfl) rfl rfl rfl (fun W => nr_add64 _ v.d (oneq (keyNq t) (shWq l t) v) W) ?_
  simp only [Z12, Z5]
  refine Z21 (v := .int .u64 ((v.e : Nat) : Int)) (by rfl) rfl rfl ?_
  simp only [Z12, Z5]
  refine Z24 (v := .pointer (some ⟨g10, 5, none⟩)) (by rfl) (by rfl) (fun W hW => ?_) ?_
  ·
   (go_simp; exact rfl)
  simp only [Z12, Z5]
  refine Z34 (v := .int .u64 ((v.f : Nat) : Int)) (by rfl) rfl rfl (range_one (range_sub (M.r 0 0 rfl rfl) 5 1 5 (xs := [.int .u64 ((v.f : Nat) : Int)]) rfl rfl)) (M.lt 0 rfl) Tryd.underlying40 rfl ?_
  simp only [Z12, Z5]
  refine Z24 (v := .pointer (some ⟨g10, 6, none⟩)) (by rfl) (by rfl) (fun W hW => ?_) ?_
  ·
   (go_simp; exact rfl)
  simp only [Z12, Z5]
  refine Z34 (v := .int .u64 ((v.g : Nat) : Int)) (by rfl) rfl rfl (range_one (range_sub (M.r 0 0 rfl rfl) 6 1 6 (xs := [.int .u64 ((v.g : Nat) : Int)]) rfl rfl)) (M.lt 0 rfl) Tryd.underlying40 rfl ?_
  simp only [Z12, Z5]
  refine Z24 (v := .agg ([.int .u64 ((((oneq (keyNq t) (shWq l t) v) + (twoq v)) % 18446744073709551616 : Nat) : Int), .int .u64 ((v.a : Nat) : Int), .int .u64 ((v.b : Nat) : Int), .int .u64 ((v.c : Nat) : Int), .int .u64 (((v.d + (oneq (keyNq t) (shWq l t) v)) % 18446744073709551616 : Nat) : Int), .int .u64 ((v.e : Nat) : Int), .int .u64 ((v.f : Nat) : Int), .int .u64 ((v.g : Nat) : Int)]).toArray) (by rfl) (by rfl) (fun W hW => ?_) ?_
  ·
   (unfold RunsVal; kernel_rfl)
  simp only [Z12, Z5]
  refine Z19 (hLk _ (fun w138 Sw138 => ?_))
  clear hLk Lk
  simp only [Z6, Z7]
  replace M := M.sees Sw138
  refine Z33 (g := g10) (off := 0) (n := 8) (cs := [.int .u64 ((((oneq (keyNq t) (shWq l t) v) + (twoq v)) % 18446744073709551616 : Nat) : Int), .int .u64 ((v.a : Nat) : Int), .int .u64 ((v.b : Nat) : Int), .int .u64 ((v.c : Nat) : Int), .int .u64 (((v.d + (oneq (keyNq t) (shWq l t) v)) % 18446744073709551616 : Nat) : Int), .int .u64 ((v.e : Nat) : Int), .int .u64 ((v.f : Nat) : Int), .int .u64 ((v.g : Nat) : Int)]) (by rfl) (by rfl) (by rfl) (by rfl) (by rfl) (M.t 0 rfl) (by simp [flen]) info129 (by simp [fone, Value.oneCell']) (fun w139 P R T => ?_)
  replace M := M.putS 0 0 rfl P R T rfl ⟨.inl rfl, trivial⟩
  simp only [Z5] at M
  refine Z14 (Z15 ?_)
  refine hK125 _ _ ?_
  refine Z13 ?_
  refine Z16 1 (by rfl) (fun Lk hLk => ?_)
  simp only [Z6, Z7]
  refine Z20 (v := .int .i64 ((t + 1 : Nat) : Int)) (by rfl) rfl rfl rfl (fun W => run_add (by simp only [IntKind.wrap_i64]; omega) W) ?_
  simp only [Z12, Z5]
  refine Z19 (hLk _ (fun w141 Sw141 => ?_))
  clear hLk Lk
  simp only [Z6, Z7]
  replace M := M.sees Sw141
  refine Z17 (v := .int .i64 ((t + 1 : Nat) : Int)) (by rfl) (by rfl) (by rfl) ?_
  simp only [Z12, Z5]
  refine Z14 (Z15 ?_)
  refine Exists.intro _ ⟨?_, (t + 1), (rndq (keyNq t) (shWq l t) v), (fun q9 => (#[Z8, Z8, Z8, Z8, Z8, Z8, .int .i64 ((t : Nat) : Int), .int .u64 ((v.a : Nat) : Int), .int .u64 ((v.e : Nat) : Int), .int .u64 ((oneq (keyNq t) (shWq l t) v : Nat) : Int), .int .u64 ((twoq v : Nat) : Int), Z8, Z8, Z8, Z8, Z8, Z8, Z8, Z8, Z8, .bool true, .int .i64 ((t : Nat) : Int), .pointer (some ⟨g10, 0, none⟩), .int .u64 ((v.a : Nat) : Int), .pointer (some ⟨g10, 4, none⟩), .int .u64 ((v.e : Nat) : Int), .pointer (some ⟨g10, 7, none⟩), .int .u64 ((v.h : Nat) : Int), .int .u64 ((v.e : Nat) : Int), .int .u64 ((rotrq v.e 14 : Nat) : Int), .int .u64 ((v.e : Nat) : Int), .int .u64 ((rotrq v.e 18 : Nat) : Int), .int .u64 (((rotrq v.e 14) ^^^ (rotrq v.e 18) : Nat) : Int), .int .u64 ((v.e : Nat) : Int), .int .u64 ((rotrq v.e 41 : Nat) : Int), .int .u64 ((bg1q v.e : Nat) : Int), .int .u64 (((v.h + (bg1q v.e)) % 18446744073709551616 : Nat) : Int), .int .u64 ((v.e : Nat) : Int), .pointer (some ⟨g10, 5, none⟩), .int .u64 ((v.f : Nat) : Int), .int .u64 ((v.e &&& v.f : Nat) : Int), .int .u64 ((v.e : Nat) : Int), .int .u64 ((18446744073709551615 ^^^ v.e : Nat) : Int), .pointer (some ⟨g10, 6, none⟩), .int .u64 ((v.g : Nat) : Int), .int .u64 (((18446744073709551615 ^^^ v.e) &&& v.g : Nat) : Int), .int .u64 ((chsq v.e v.f v.g : Nat) : Int), .int .u64 (((((v.h + (bg1q v.e)) % 18446744073709551616) + (chsq v.e v.f v.g)) % 18446744073709551616 : Nat) : Int), .int .i64 ((t : Nat) : Int), .pointer (some ⟨2, t, none⟩), .int .u64 ((keyNq t : Nat) : Int), .int .u64 (((((((v.h + (bg1q v.e)) % 18446744073709551616) + (chsq v.e v.f v.g)) % 18446744073709551616) + (keyNq t)) % 18446744073709551616 : Nat) : Int), .int .i64 ((t : Nat) : Int), .pointer (some ⟨g4, t, none⟩), .int .u64 ((shWq l t : Nat) : Int), .int .u64 ((oneq (keyNq t) (shWq l t) v : Nat) : Int), .int .u64 ((v.a : Nat) : Int), .int .u64 ((rotrq v.a 28 : Nat) : Int), .int .u64 ((v.a : Nat) : Int), .int .u64 ((rotrq v.a 34 : Nat) : Int), .int .u64 (((rotrq v.a 28) ^^^ (rotrq v.a 34) : Nat) : Int), .int .u64 ((v.a : Nat) : Int), .int .u64 ((rotrq v.a 39 : Nat) : Int), .int .u64 ((bg0q v.a : Nat) : Int), .int .u64 ((v.a : Nat) : Int), .pointer (some ⟨g10, 1, none⟩), .int .u64 ((v.b : Nat) : Int), .int .u64 ((v.a &&& v.b : Nat) : Int), .int .u64 ((v.a : Nat) : Int), .pointer (some ⟨g10, 2, none⟩), .int .u64 ((v.c : Nat) : Int), .int .u64 ((v.a &&& v.c : Nat) : Int), .int .u64 (((v.a &&& v.b) ^^^ (v.a &&& v.c) : Nat) : Int), .pointer (some ⟨g10, 1, none⟩), .int .u64 ((v.b : Nat) : Int), .pointer (some ⟨g10, 2, none⟩), .int .u64 ((v.c : Nat) : Int), .int .u64 ((v.b &&& v.c : Nat) : Int), .int .u64 ((majq v.a v.b v.c : Nat) : Int), .int .u64 ((twoq v : Nat) : Int), .int .u64 ((oneq (keyNq t) (shWq l t) v : Nat) : Int), .int .u64 ((twoq v : Nat) : Int), .int .u64 ((((oneq (keyNq t) (shWq l t) v) + (twoq v)) % 18446744073709551616 : Nat) : Int), .int .u64 ((v.a : Nat) : Int), .pointer (some ⟨g10, 1, none⟩), .int .u64 ((v.b : Nat) : Int), .pointer (some ⟨g10, 2, none⟩), .int .u64 ((v.c : Nat) : Int), .pointer (some ⟨g10, 3, none⟩), .int .u64 ((v.d : Nat) : Int), .int .u64 ((oneq (keyNq t) (shWq l t) v : Nat) : Int), .int .u64 (((v.d + (oneq (keyNq t) (shWq l t) v)) % 18446744073709551616 : Nat) : Int), .int .u64 ((v.e : Nat) : Int), .pointer (some ⟨g10, 5, none⟩), .int .u64 ((v.f : Nat) : Int), .pointer (some ⟨g10, 6, none⟩), .int .u64 ((v.g : Nat) : Int), .agg ([.int .u64 ((((oneq (keyNq t) (shWq l t) v) + (twoq v)) % 18446744073709551616 : Nat) : Int), .int .u64 ((v.a : Nat) : Int), .int .u64 ((v.b : Nat) : Int), .int .u64 ((v.c : Nat) : Int), .int .u64 (((v.d + (oneq (keyNq t) (shWq l t) v)) % 18446744073709551616 : Nat) : Int), .int .u64 ((v.e : Nat) : Int), .int .u64 ((v.f : Nat) : Int), .int .u64 ((v.g : Nat) : Int)]).toArray, .int .i64 ((t + 1 : Nat) : Int)] : Array Value).getD q9 Z8), rfl, rfl, M, (by omega), (by rw [hv]; rfl)⟩
  omega
set_option maxHeartbeats 4000000 in
theorem take_cq {g n : Nat} {h : S8q} {b l : List UInt8} {w : World} (hh : h.Ok) (hb : b.length < 128) (hl : l.length ≤ 9223372036854775680) (hg : g ≠ 2) (L2 : 2 < w.heap.size) (R2_0 : w.rangeAt 2 0 kcellsq) (hM : Mem [g] w w [⟨g, 10, [(0, [.int .u64 ((h.a : Nat) : Int), .int .u64 ((h.b : Nat) : Int), .int .u64 ((h.c : Nat) : Int), .int .u64 ((h.d : Nat) : Int), .int .u64 ((h.e : Nat) : Int), .int .u64 ((h.f : Nat) : Int), .int .u64 ((h.g : Nat) : Int), .int .u64 ((h.h : Nat) : Int)]), (8, [.string (bs b)]), (9, [.int .u64 ((n : Nat) : Int)])]⟩]) :
  Calls Tryd.prog 123 #[.pointer (some ⟨g, 0, none⟩), .string (bs l)] w fun e w' => ∃ v, e = .returned v ∧ v = .tuple #[] ∧ Mem [g] w w' [⟨g, 10, [(0, [.int .u64 (((takeHq h (b ++ l)).a : Nat) : Int), .int .u64 (((takeHq h (b ++ l)).b : Nat) : Int), .int .u64 (((takeHq h (b ++ l)).c : Nat) : Int), .int .u64 (((takeHq h (b ++ l)).d : Nat) : Int), .int .u64 (((takeHq h (b ++ l)).e : Nat) : Int), .int .u64 (((takeHq h (b ++ l)).f : Nat) : Int), .int .u64 (((takeHq h (b ++ l)).g : Nat) : Int), .int .u64 (((takeHq h (b ++ l)).h : Nat) : Int)]), (8, [.string (bs (takeRq (b ++ l)))]), (9, [.int .u64 ((((n + l.length) % 18446744073709551616) : Nat) : Int)])]⟩] := by
 go_enter Tryd.func123, Tryd.ntmps123
 have M := hM
 refine Z9 (fun K1 hK1 => ?_)
 refine Z13 ?_
 refine Z17 (v := .pointer (some ⟨g, 0, none⟩)) (by rfl) (by rfl) (by rfl) ?_
 simp only [Z12, Z5]
 refine Z16 11 (by rfl) (fun Lk hLk => ?_)
 simp only [Z6, Z7]
 refine wpV_nilCheck (by rfl) rfl rfl ?_
 simp only [Z12, Z5]
 refine Z24 (v := .pointer (some ⟨g, 0, none⟩)) (by rfl) (by rfl) (fun W hW => ?_) ?_
 ·
  (go_simp; exact rfl)
 simp only [Z12, Z5]
 refine Z24 (v := .pointer (some ⟨g, 9, none⟩)) (by rfl) (by rfl) (fun W hW => ?_) ?_
 ·
  (go_simp; exact rfl)
 simp only [Z12, Z5]
 refine Z34 (v := .int .u64 ((n : Nat) : Int)) (by rfl) rfl rfl (range_one (M.r 0 2 rfl rfl)) (M.lt 0 rfl) Tryd.underlying40 rfl ?_
 simp only [Z12, Z5]
 refine Z21 (v := .string (bs l)) (by rfl) rfl rfl ?_
 simp only [Z12, Z5]
 refine wpV_lenS (by rfl) rfl rfl rfl Tryd.underlying9 ?_
 simp only [Z12, Z5]
 refine wpV_conv (d := .bool) (e := ((l.length : Nat) : Int)) (by rfl) rfl rfl (run_conv_int Tryd.underlying3 Tryd.underlying40 ((wrap64N _).trans (congrArg _ (Z4 (by omega))))) ?_
 simp only [Z12, Z5]
 refine Z20 (v := .int .u64 (((n + l.length) % 18446744073709551616 : Nat) : Int)) (by rfl) rfl rfl rfl (fun W => nr_add64 _ n l.length W) ?_
 simp only [Z12, Z5]
 refine wpV_nilCheck (by rfl) rfl rfl ?_
 simp only [Z12, Z5]
 refine Z24 (v := .pointer (some ⟨g, 0, none⟩)) (by rfl) (by rfl) (fun W hW => ?_) ?_
 ·
  (go_simp; exact rfl)
 simp only [Z12, Z5]
 refine Z24 (v := .pointer (some ⟨g, 9, none⟩)) (by rfl) (by rfl) (fun W hW => ?_) ?_
 ·
  (go_simp; exact rfl)
 simp only [Z12, Z5]
 refine Z19 (hLk _ (fun w3 Sw3 => ?_))
 clear hLk Lk
 simp only [Z6, Z7]
 replace M := M.sees Sw3
 refine Z23 (g := g) (off := 9) (n := 10) (v := .int .u64 (((n + l.length) % 18446744073709551616 : Nat) : Int)) (by rfl) (by rfl) (by rfl) (by rfl) (by rfl) (M.t 0 rfl) (by decide) info40 rfl (fun w4 P R T => ?_)
 replace M := M.putS (new := [.int .u64 (((n + l.length) % 18446744073709551616 : Nat) : Int)]) 0 2 rfl P R T rfl (by simp [SepS, flen])
 simp only [Z5] at M
 refine Z14 (Z15 ?_)
 refine hK1 _ _ ?_
 refine Z9 (fun K5 hK5 => ?_)
 refine Z13 ?_
 refine Z17 (v := .pointer (some ⟨g, 0, none⟩)) (by rfl) (by rfl) (by rfl) ?_
 simp only [Z12, Z5]
 refine Z16 6 (by rfl) (fun Lk hLk => ?_)
 simp only [Z6, Z7]
 refine wpV_nilCheck (by rfl) rfl rfl ?_
 simp only [Z12, Z5]
 refine Z24 (v := .pointer (some ⟨g, 0, none⟩)) (by rfl) (by rfl) (fun W hW => ?_) ?_
 ·
  (go_simp; exact rfl)
 simp only [Z12, Z5]
 refine Z24 (v := .pointer (some ⟨g, 8, none⟩)) (by rfl) (by rfl) (fun W hW => ?_) ?_
 ·
  (go_simp; exact rfl)
 simp only [Z12, Z5]
 refine Z34 (v := .string (bs b)) (by rfl) rfl rfl (range_one (M.r 0 1 rfl rfl)) (M.lt 0 rfl) Tryd.underlying9 rfl ?_
 simp only [Z12, Z5]
 refine Z21 (v := .string (bs l)) (by rfl) rfl rfl ?_
 simp only [Z12, Z5]
 refine wpV_binS (v := .string (bs (b ++ l))) (by rfl) rfl rfl rfl (run_add_bs _ _ _ (by omega)) ?_
 simp only [Z12, Z5]
 refine Z19 (hLk _ (fun w7 Sw7 => ?_))
 clear hLk Lk
 simp only [Z6, Z7]
 replace M := M.sees Sw7
 refine Z18 (v := .string (bs (b ++ l))) (by rfl) (by rfl) (by rfl) ?_
 simp only [Z12, Z5]
 refine Z14 (Z15 ?_)
 refine hK5 _ _ ?_
 refine Z9 (fun K8 hK8 => ?_)
 refine wp_block ?_
 refine wp_loop_ghost (fun n9 a9 W9 => ∃ (r : List UInt8) (s : S8q) (u9 : Nat → Value), n9 = r.length ∧ a9 = { tmps := #[.pointer (some ⟨g, 0, none⟩), .string (bs r), Z8, Z8, .pointer (some ⟨g, 0, none⟩), .pointer (some ⟨g, 0, none⟩), .pointer (some ⟨g, 0, none⟩), .pointer (some ⟨g, 9, none⟩), .int .u64 ((n : Nat) : Int), .string (bs l), .int .i64 ((l.length : Nat) : Int), .int .u64 ((l.length : Nat) : Int), .int .u64 (((n + l.length) % 18446744073709551616 : Nat) : Int), .pointer (some ⟨g, 0, none⟩), .pointer (some ⟨g, 0, none⟩), .pointer (some ⟨g, 9, none⟩), .pointer (some ⟨g, 0, none⟩), .pointer (some ⟨g, 0, none⟩), .pointer (some ⟨g, 0, none⟩), .pointer (some ⟨g, 8, none⟩), .string (bs b), .string (bs l), .string (bs (b ++ l)), u9 23, u9 24, u9 25, u9 26, u9 27, u9 28, u9 29, u9 30, Z8, Z8, Z8, Z8, Z8], defers := [] } ∧ Mem [g] w W9 [⟨g, 10, [(0, [.int .u64 ((s.a : Nat) : Int), .int .u64 ((s.b : Nat) : Int), .int .u64 ((s.c : Nat) : Int), .int .u64 ((s.d : Nat) : Int), .int .u64 ((s.e : Nat) : Int), .int .u64 ((s.f : Nat) : Int), .int .u64 ((s.g : Nat) : Int), .int .u64 ((s.h : Nat) : Int)]), (8, [.string (bs b)]), (9, [.int .u64 ((((n + l.length) % 18446744073709551616) : Nat) : Int)])]⟩] ∧ (s.Ok) ∧ (takeHq s r = takeHq h (b ++ l)) ∧ (takeRq r = takeRq (b ++ l))) ((b ++ l).length) ?_ (fun n9 a9 W9 hI => ?_)
 ·
  exact ⟨(b ++ l), h, (fun q9 => (#[Z8, Z8, Z8, Z8, Z8, Z8, Z8, Z8, Z8, Z8, Z8, Z8, Z8, Z8, Z8, Z8, Z8, Z8, Z8, Z8, Z8, Z8, Z8, Z8, Z8, Z8, Z8, Z8, Z8, Z8, Z8] : Array Value).getD q9 Z8), rfl, rfl, M, hh, rfl, rfl⟩
 clear M
 obtain ⟨r, s, u9, rfl, rfl, M, hs, hH, hR⟩ := hI
 obtain ⟨w10, rfl⟩ : ∃ W8, W8 = W9 := ⟨_, rfl⟩
 refine Z9 (fun K11 hK11 => ?_)
 refine Z9 (fun K12 hK12 => ?_)
 refine Z13 ?_
 refine Z17 (v := .string (bs r)) (by rfl) (by rfl) (by rfl) ?_
 simp only [Z12, Z5]
 refine Z16 2 (by rfl) (fun Lk hLk => ?_)
 simp only [Z6, Z7]
 refine wpV_lenS (by rfl) rfl rfl rfl Tryd.underlying9 ?_
 simp only [Z12, Z5]
 refine Z20 (v := .bool (decide (128 ≤ r.length))) (by rfl) rfl rfl rfl (fun W => run_geqN r.length 128 _ _ W) ?_
 simp only [Z12, Z5]
 refine Z19 (hLk _ (fun w14 Sw14 => ?_))
 clear hLk Lk
 simp only [Z6, Z7]
 replace M := M.sees Sw14
 refine Z14 (Z15 ?_)
 refine hK12 _ _ ?_
 cases hc15 : (decide (128 ≤ r.length))
 ·
  have h64 : ¬ 128 ≤ r.length := of_decide_eq_false hc15
  rw [takeH_doneq h64] at hH
  rw [takeR_doneq h64] at hR
  subst hH hR
  refine Z11 rfl ?_
  refine wp_exit ?_
  refine hK8 _ _ ?_
  refine Z13 ?_
  refine Z17 (v := .pointer (some ⟨g, 0, none⟩)) (by rfl) (by rfl) (by rfl) ?_
  simp only [Z12, Z5]
  refine Z17 (v := .string (bs (takeRq (b ++ l)))) (by rfl) (by rfl) (by rfl) ?_
  simp only [Z12, Z5]
  refine Z16 3 (by rfl) (fun Lk hLk => ?_)
  simp only [Z6, Z7]
  refine wpV_nilCheck (by rfl) rfl rfl ?_
  simp only [Z12, Z5]
  refine Z24 (v := .pointer (some ⟨g, 0, none⟩)) (by rfl) (by rfl) (fun W hW => ?_) ?_
  ·
   (go_simp; exact rfl)
  simp only [Z12, Z5]
  refine Z24 (v := .pointer (some ⟨g, 8, none⟩)) (by rfl) (by rfl) (fun W hW => ?_) ?_
  ·
   (go_simp; exact rfl)
  simp only [Z12, Z5]
  refine Z19 (hLk _ (fun w17 Sw17 => ?_))
  clear hLk Lk
  simp only [Z6, Z7]
  replace M := M.sees Sw17
  refine Z23 (g := g) (off := 8) (n := 10) (v := .string (bs (takeRq (b ++ l)))) (by rfl) (by rfl) (by rfl) (by rfl) (by rfl) (M.t 0 rfl) (by decide) info9 rfl (fun w18 P R T => ?_)
  replace M := M.putS (new := [.string (bs (takeRq (b ++ l)))]) 0 1 rfl P R T rfl (by simp [SepS, flen])
  simp only [Z5] at M
  refine Z14 (Z15 ?_)
  repeat (first | with_reducible refine then_exit ?_ | with_reducible refine inblock_exit ?_)
  refine bodyPost_end (v := .tuple #[]) (results_none rfl _ _ _) rfl ?_
  exact ⟨_, rfl, rfl, M.pick [0] (by decide) rfl⟩
 ·
  have h64 : 128 ≤ r.length := of_decide_eq_true hc15
  refine Z10 rfl ?_
  refine wp_skip ?_
  refine hK11 _ _ ?_
  refine Z9 (fun K19 hK19 => ?_)
  refine wp_block ?_
  refine Z13 ?_
  refine Z17 (v := .pointer (some ⟨g, 0, none⟩)) (by rfl) (by rfl) (by rfl) ?_
  simp only [Z12, Z5]
  refine Z17 (v := .string (bs r)) (by rfl) (by rfl) (by rfl) ?_
  simp only [Z12, Z5]
  refine wpL_callM (f := 148) (args := #[.pointer (some ⟨g, 0, none⟩), .string (bs r)]) (R := fun v9 W9 => v9 = .tuple #[] ∧ Mem [g] w14 W9 [⟨g, 10, [(0, [.int .u64 (((mixSq s r).a : Nat) : Int), .int .u64 (((mixSq s r).b : Nat) : Int), .int .u64 (((mixSq s r).c : Nat) : Int), .int .u64 (((mixSq s r).d : Nat) : Int), .int .u64 (((mixSq s r).e : Nat) : Int), .int .u64 (((mixSq s r).f : Nat) : Int), .int .u64 (((mixSq s r).g : Nat) : Int), .int .u64 (((mixSq s r).h : Nat) : Int)]), (8, [.string (bs b)]), (9, [.int .u64 ((((n + l.length) % 18446744073709551616) : Nat) : Int)])]⟩]) (by rfl) (by rfl) rfl Tryd.func148 (by kernel_rfl) (by kernel_rfl) (mix_cq (h := s) (l := r) hs h64 hg (M.oldL L2) (M.oldG R2_0 L2 (by simpa using Ne.symm hg)) (M.one 0 rfl)) (fun v9 w21 h9 => ?_)
  obtain ⟨rfl, M9⟩ := h9
  replace M := M.callM1 0 rfl M9
  simp only [Z5] at M
  simp only [Z12, Z5]
  refine Z14 (Z15 ?_)
  refine hK19 _ _ ?_
  refine Z13 ?_
  refine Z17 (v := .string (bs r)) (by rfl) (by rfl) (by rfl) ?_
  simp only [Z12, Z5]
  refine Z16 1 (by rfl) (fun Lk hLk => ?_)
  simp only [Z6, Z7]
  refine wpV_drop (l := r) (lo := 128) (by rfl) rfl rfl rfl Tryd.underlying9 h64 ?_
  simp only [Z12, Z5]
  refine Z19 (hLk _ (fun w23 Sw23 => ?_))
  clear hLk Lk
  simp only [Z6, Z7]
  replace M := M.sees Sw23
  refine Z18 (v := .string (bs (r.drop 128))) (by rfl) (by rfl) (by rfl) ?_
  simp only [Z12, Z5]
  refine Z14 (Z15 ?_)
  refine Exists.intro _ ⟨?_, (r.drop 128), (mixSq s r), (fun q9 => (#[Z8, Z8, Z8, Z8, Z8, Z8, Z8, Z8, Z8, Z8, Z8, Z8, Z8, Z8, Z8, Z8, Z8, Z8, Z8, Z8, Z8, Z8, Z8, .string (bs r), .int .i64 ((r.length : Nat) : Int), .bool true, .string (bs r), .string (bs (r.drop 128)), .pointer (some ⟨g, 0, none⟩), .string (bs r), .tuple #[]] : Array Value).getD q9 Z8), rfl, rfl, M, (plus8_okq ..), ((takeH_moreq h64).symm.trans hH), ((takeR_moreq h64).symm.trans hR)⟩
  rw [List.length_drop]; omega
end Go.Proofs.Yc

namespace Go.Proofs
open Go.Shelf

def Tryd.lays170_ren : Go.Shelf.Ren := ⟨fun | 170 => 70 | n => n, fun | 70 => 105 | 3 => 3 | 0 => 0 | 72 => 107 | 37 => 29 | 5 => 5 | n => n, fun | n => n⟩
theorem Tryd.lays170 : Go.Proofs.Lays.n170 Tryd.prog Tryd.lays170_ren := {
 mixed := by kernel_rfl
 f170 := Tryd.func70.trans (congrArg some (by kernel_rfl))
 t0 := Tryd.underlying0
 a0 := Tryd.isAgg0
 z0 := Tryd.sizeOf0
 v0 := Tryd.zeroValue0
 t3 := Tryd.underlying3
 a3 := Tryd.isAgg3
 z3 := Tryd.sizeOf3
 v3 := Tryd.zeroValue3
 t37 := Tryd.underlying29
 a37 := Tryd.isAgg29
 z37 := Tryd.sizeOf29
 v37 := Tryd.zeroValue29
 t70 := Tryd.underlying105
 a70 := Tryd.isAgg105
 z70 := Tryd.sizeOf105
 v70 := Tryd.zeroValue105
 t72 := Tryd.underlying107
 a72 := Tryd.isAgg107
 z72 := Tryd.sizeOf107
 v72 := Tryd.zeroValue107 }
open Go.RowKit in
/-- (*strings.Builder).Len: "Len returns the number of accumulated bytes; b.Len() == len(b.String()).": the world is as it was. (LAID: no walk: one application.) -/
theorem Tryd.Builder_Len (B b : Nat) (bs : List Value) (w : World) (h : Lib.IsBuilder 107 5 B b bs w) :
  Calls Tryd.prog 70 #[.pointer (some ⟨b, 0, none⟩)] w fun e w' => e = .returned (.int .i64 bs.length) ∧ w' = w := Any.Builder_Len Tryd.lays170 B b bs w h
def Tryd.lays169_ren : Go.Shelf.Ren := ⟨fun | 169 => 71 | n => n, fun | 70 => 105 | 9 => 9 | 0 => 0 | 72 => 107 | 37 => 29 | 127 => 150 | 3 => 3 | 5 => 5 | n => n, fun | n => n⟩
theorem Tryd.lays169 : Go.Proofs.Lays.n169 Tryd.prog Tryd.lays169_ren := {
 mixed := by kernel_rfl
 f169 := Tryd.func71.trans (congrArg some (by kernel_rfl))
 t0 := Tryd.underlying0
 a0 := Tryd.isAgg0
 z0 := Tryd.sizeOf0
 v0 := Tryd.zeroValue0
 t3 := Tryd.underlying3
 a3 := Tryd.isAgg3
 z3 := Tryd.sizeOf3
 v3 := Tryd.zeroValue3
 t9 := Tryd.underlying9
 a9 := Tryd.isAgg9
 z9 := Tryd.sizeOf9
 v9 := Tryd.zeroValue9
 t37 := Tryd.underlying29
 a37 := Tryd.isAgg29
 z37 := Tryd.sizeOf29
 v37 := Tryd.zeroValue29
 t70 := Tryd.underlying105
 a70 := Tryd.isAgg105
 z70 := Tryd.sizeOf105
 v70 := Tryd.zeroValue105
 t72 := Tryd.underlying107
 a72 := Tryd.isAgg107
 z72 := Tryd.sizeOf107
 v72 := Tryd.zeroValue107
 t127 := Tryd.underlying150
 a127 := Tryd.isAgg150
 z127 := Tryd.sizeOf150
 v127 := Tryd.zeroValue150 }
theorem Tryd.Builder_Extra_169 : Builder.Extra Tryd.prog Tryd.lays169_ren := {
 sizeBuilder := by kernel_rfl
 liesBuilder := by kernel_rfl
 t5 := Tryd.underlying5
 a5 := Tryd.isAgg5
 z5 := Tryd.sizeOf5
 v5 := Tryd.zeroValue5
 infoByte := by kernel_rfl
 cellsByte := by kernel_rfl
 sizeByte := by kernel_rfl
 neB5 := by decide }
open Go.RowKit in
/-- (*strings.Builder).String: "String returns the accumulated string.": OF A BUILDER THAT HOLDS AT LEAST ONE BYTE. ✋ THE MODEL FREEZES THOSE BYTES IN THE BUFFER (unsafe.String): a later write INTO them ends the model's run without an answer; a later append BEHIND them goes on. The statement's order of evaluation is drawn: one draw. (LAID: no walk: one application.) -/
theorem Tryd.Builder_String (B b : Nat) (l : List UInt8) (w : World) (h : Lib.IsBuilder 107 5 B b (Lib.byteCells l) w) (h0 : l ≠ []) :
  Calls Tryd.prog 71 #[.pointer (some ⟨b, 0, none⟩)] w fun e w' => e = .returned (.string ⟨l.toArray⟩) ∧ Below B w w' := Any.Builder_String Tryd.lays169 Tryd.Builder_Extra_169 B b l w h h0
open Go.RowKit in
/-- (*strings.Builder).String OF A BUILDER THAT HOLDS NO BYTE: the empty string. (Its buffer is nil, or a row of which it has taken nothing yet; where that row has NO capacity the model lays one new block for unsafe.SliceData's 'some address'.) One draw. (LAID: no walk: one application.) -/
theorem Tryd.Builder_String_empty (B b : Nat) (w : World) (h : Lib.IsBuilder 107 5 B b [] w) (hBw : B ≤ w.heap.size) :
  Calls Tryd.prog 71 #[.pointer (some ⟨b, 0, none⟩)] w fun e w' => e = .returned (.string ⟨#[]⟩) ∧ Below B w w' := Any.Builder_String_empty Tryd.lays169 Tryd.Builder_Extra_169 B b w h hBw
open Go.RowKit in
/-- (*strings.Builder).String: "String returns the accumulated string.": WHATEVER THE BUILDER HOLDS. (LAID: no walk: one application.) -/
theorem Tryd.Builder_String_any (B b : Nat) (l : List UInt8) (w : World) (h : Lib.IsBuilder 107 5 B b (Lib.byteCells l) w) (hBw : B ≤ w.heap.size) :
  Calls Tryd.prog 71 #[.pointer (some ⟨b, 0, none⟩)] w fun e w' => e = .returned (.string ⟨l.toArray⟩) ∧ Below B w w' := Any.Builder_String_any Tryd.lays169 Tryd.Builder_Extra_169 B b l w h hBw
def Tryd.lays241_ren : Go.Shelf.Ren := ⟨fun | 241 => 104 | 277 => 137 | n => n, fun | 70 => 105 | 3 => 3 | 0 => 0 | 72 => 107 | 37 => 29 | 5 => 5 | n => n, fun | n => n⟩
theorem Tryd.lays241 : Go.Proofs.Lays.n241 Tryd.prog Tryd.lays241_ren := {
 mixed := by kernel_rfl
 f241 := Tryd.func104.trans (congrArg some (by kernel_rfl))
 f277 := Tryd.func137.trans (congrArg some (by kernel_rfl))
 t0 := Tryd.underlying0
 a0 := Tryd.isAgg0
 z0 := Tryd.sizeOf0
 v0 := Tryd.zeroValue0
 t3 := Tryd.underlying3
 a3 := Tryd.isAgg3
 z3 := Tryd.sizeOf3
 v3 := Tryd.zeroValue3
 t37 := Tryd.underlying29
 a37 := Tryd.isAgg29
 z37 := Tryd.sizeOf29
 v37 := Tryd.zeroValue29
 t70 := Tryd.underlying105
 a70 := Tryd.isAgg105
 z70 := Tryd.sizeOf105
 v70 := Tryd.zeroValue105
 t72 := Tryd.underlying107
 a72 := Tryd.isAgg107
 z72 := Tryd.sizeOf107
 v72 := Tryd.zeroValue107 }
theorem Tryd.Builder_Extra_241 : Builder.Extra Tryd.prog Tryd.lays241_ren := {
 sizeBuilder := by kernel_rfl
 liesBuilder := by kernel_rfl
 t5 := Tryd.underlying5
 a5 := Tryd.isAgg5
 z5 := Tryd.sizeOf5
 v5 := Tryd.zeroValue5
 infoByte := by kernel_rfl
 cellsByte := by kernel_rfl
 sizeByte := by kernel_rfl
 neB5 := by decide }
open Go.RowKit in
/-- (*strings.Builder).grow (no doc but "grow copies the buffer to a new, larger buffer so that there are at least n bytes of capacity beyond len(b.buf)."): AT A BUILDER WITHOUT A BUFFER: a new row of whatever bytes for its buffer, none of them its own yet. Three draws. (LAID: no walk: one application.) -/
theorem Tryd.Builder_grow_fresh (B b n : Nat) (w : World) (hB : B ≤ b) (hbk : w.heap[b]? = some (.cells #[.pointer (some ⟨b, 0, none⟩), .slice none 0 0] 107 (0, 0))) (hBw : B ≤ w.heap.size) (hn : n ≤ 281474976710656) :
  Calls Tryd.prog 104 #[.pointer (some ⟨b, 0, none⟩), .int .i64 n] w fun e w' => e = .returned (.tuple #[]) ∧ (Lib.BuilderAt 107 5 B b (.pointer (some ⟨b, 0, none⟩)) [] w' ∧ Below B w w') := Any.Builder_grow_fresh Tryd.lays241 Tryd.Builder_Extra_241 B b n w hB hbk hBw hn
def Tryd.lays165_ren : Go.Shelf.Ren := ⟨fun | 165 => 68 | 240 => 103 | 241 => 104 | 276 => 136 | 277 => 137 | n => n, fun | 70 => 105 | 3 => 3 | 0 => 0 | 4 => 4 | 9 => 9 | 20 => 20 | 72 => 107 | 37 => 29 | 164 => 185 | 5 => 5 | n => n, fun | n => n⟩
theorem Tryd.lays165 : Go.Proofs.Lays.n165 Tryd.prog Tryd.lays165_ren := {
 mixed := by kernel_rfl
 f165 := Tryd.func68.trans (congrArg some (by kernel_rfl))
 f240 := Tryd.func103.trans (congrArg some (by kernel_rfl))
 f241 := Tryd.func104.trans (congrArg some (by kernel_rfl))
 f276 := Tryd.func136.trans (congrArg some (by kernel_rfl))
 f277 := Tryd.func137.trans (congrArg some (by kernel_rfl))
 t0 := Tryd.underlying0
 a0 := Tryd.isAgg0
 z0 := Tryd.sizeOf0
 v0 := Tryd.zeroValue0
 t3 := Tryd.underlying3
 a3 := Tryd.isAgg3
 z3 := Tryd.sizeOf3
 v3 := Tryd.zeroValue3
 t4 := Tryd.underlying4
 a4 := Tryd.isAgg4
 z4 := Tryd.sizeOf4
 v4 := Tryd.zeroValue4
 t9 := Tryd.underlying9
 a9 := Tryd.isAgg9
 z9 := Tryd.sizeOf9
 v9 := Tryd.zeroValue9
 t20 := Tryd.underlying20
 a20 := Tryd.isAgg20
 z20 := Tryd.sizeOf20
 v20 := Tryd.zeroValue20
 t37 := Tryd.underlying29
 a37 := Tryd.isAgg29
 z37 := Tryd.sizeOf29
 v37 := Tryd.zeroValue29
 t70 := Tryd.underlying105
 a70 := Tryd.isAgg105
 z70 := Tryd.sizeOf105
 v70 := Tryd.zeroValue105
 t72 := Tryd.underlying107
 a72 := Tryd.isAgg107
 z72 := Tryd.sizeOf107
 v72 := Tryd.zeroValue107
 t164 := Tryd.underlying185
 a164 := Tryd.isAgg185
 z164 := Tryd.sizeOf185
 v164 := Tryd.zeroValue185 }
theorem Tryd.Builder_Extra_165 : Builder.Extra Tryd.prog Tryd.lays165_ren := {
 sizeBuilder := by kernel_rfl
 liesBuilder := by kernel_rfl
 t5 := Tryd.underlying5
 a5 := Tryd.isAgg5
 z5 := Tryd.sizeOf5
 v5 := Tryd.zeroValue5
 infoByte := by kernel_rfl
 cellsByte := by kernel_rfl
 sizeByte := by kernel_rfl
 neB5 := by decide }
open Go.RowKit in
/-- (*strings.Builder).Grow AT A BUILDER THAT HAS NOT BEEN WRITTEN ('var b strings.Builder; b.Grow(n)'): "Grow grows b's capacity, if necessary, to guarantee space for another n bytes.": it holds no byte behind it as before it. (LAID: no walk: one application.) -/
theorem Tryd.Builder_Grow_fresh (B b n : Nat) (w : World) (hB : B ≤ b) (hbk : w.heap[b]? = some (.cells #[.pointer none, .slice none 0 0] 107 (0, 0))) (hBw : B ≤ w.heap.size) (hn : n ≤ 281474976710656) :
  Calls Tryd.prog 68 #[.pointer (some ⟨b, 0, none⟩), .int .i64 n] w fun e w' => e = .returned (.tuple #[]) ∧ (Lib.BuilderAt 107 5 B b (.pointer (some ⟨b, 0, none⟩)) [] w' ∧ Below B w w') := Any.Builder_Grow_fresh Tryd.lays165 Tryd.Builder_Extra_165 B b n w hB hbk hBw hn
def Tryd.lays137_ren : Go.Shelf.Ren := ⟨fun | 137 => 81 | 217 => 121 | 266 => 147 | n => n, fun | 9 => 9 | 5 => 5 | 3 => 3 | n => n, fun | n => n⟩
theorem Tryd.lays137 : Go.Proofs.Lays.n137 Tryd.prog Tryd.lays137_ren := {
 mixed := by kernel_rfl
 f137 := Tryd.func81.trans (congrArg some (by kernel_rfl))
 f217 := Tryd.func121.trans (congrArg some (by kernel_rfl))
 f266 := Tryd.func147.trans (congrArg some (by kernel_rfl))
 t3 := Tryd.underlying3
 a3 := Tryd.isAgg3
 z3 := Tryd.sizeOf3
 v3 := Tryd.zeroValue3
 t5 := Tryd.underlying5
 a5 := Tryd.isAgg5
 z5 := Tryd.sizeOf5
 v5 := Tryd.zeroValue5
 t9 := Tryd.underlying9
 a9 := Tryd.isAgg9
 z9 := Tryd.sizeOf9
 v9 := Tryd.zeroValue9 }
open Go.RowKit in
/-- strings.IndexByte: "IndexByte returns the index of the first instance of c in s, or -1 if c is not present in s.": IT RETURNS 'Lib.indexByte s c'; the world is as it was. (LAID: no walk: one application.) -/
theorem Tryd.strings_IndexByte (s : ByteArray) (c : Int) (w : World) :
  Calls Tryd.prog 81 #[.string s, .int .u8 c] w fun e w' => e = .returned (.int .i64 (Lib.indexByte s.data.toList c.toNat.toUInt8)) ∧ w' = w := Any.strings_IndexByte Tryd.lays137 s c w
open Go.RowKit in
/-- (*strings.Builder).Len: "Len returns the number of accumulated bytes; b.Len() == len(b.String()).": the world is as it was. (THE FORM '_f': 'Lib.IsBuilderF'.) (LAID: no walk: one application.) -/
theorem Tryd.Builder_Len_f (B b : Nat) (bs : List Value) (w : World) (h : Lib.IsBuilderF 107 5 B b bs w) :
  Calls Tryd.prog 70 #[.pointer (some ⟨b, 0, none⟩)] w fun e w' => e = .returned (.int .i64 bs.length) ∧ w' = w := Any.Builder_Len_f Tryd.lays170 B b bs w h
open Go.RowKit in
/-- (*strings.Builder).String: "String returns the accumulated string.": OF A BUILDER THAT HOLDS AT LEAST ONE BYTE. ✋ THE MODEL FREEZES THOSE BYTES IN THE BUFFER (unsafe.String): a later write INTO them ends the model's run without an answer; a later append BEHIND them goes on. The statement's order of evaluation is drawn: one draw. THE FORM '_f': IT SAYS BESIDES THAT THE BUILDER IS A BUILDER STILL ('Lib.IsBuilderF', the same bytes): SO IT CAN BE WRITTEN ON: 'b.WriteString(b.String()[:k])'. (LAID: no walk: one application.) -/
theorem Tryd.Builder_String_f (B b : Nat) (l : List UInt8) (w : World) (h : Lib.IsBuilderF 107 5 B b (Lib.byteCells l) w) (h0 : l ≠ []) :
  Calls Tryd.prog 71 #[.pointer (some ⟨b, 0, none⟩)] w fun e w' => e = .returned (.string ⟨l.toArray⟩) ∧ (Lib.IsBuilderF 107 5 B b (Lib.byteCells l) w' ∧ Below B w w') := Any.Builder_String_f Tryd.lays169 Tryd.Builder_Extra_169 B b l w h h0
open Go.RowKit in
/-- (*strings.Builder).String OF A BUILDER THAT HOLDS NO BYTE: the empty string; THE FORM '_f': a builder still. (LAID: no walk: one application.) -/
theorem Tryd.Builder_String_empty_f (B b : Nat) (w : World) (h : Lib.IsBuilderF 107 5 B b [] w) (hBw : B ≤ w.heap.size) :
  Calls Tryd.prog 71 #[.pointer (some ⟨b, 0, none⟩)] w fun e w' => e = .returned (.string ⟨#[]⟩) ∧ (Lib.IsBuilderF 107 5 B b [] w' ∧ Below B w w') := Any.Builder_String_empty_f Tryd.lays169 Tryd.Builder_Extra_169 B b w h hBw
open Go.RowKit in
/-- (*strings.Builder).String: "String returns the accumulated string.": WHATEVER THE BUILDER HOLDS; THE FORM '_f': OF A BUILDER THAT MAY HAVE BEEN READ BEFORE; AND IT IS A BUILDER STILL, holding the same bytes: it can be written on. (LAID: no walk: one application.) -/
theorem Tryd.Builder_String_any_f (B b : Nat) (l : List UInt8) (w : World) (h : Lib.IsBuilderF 107 5 B b (Lib.byteCells l) w) (hBw : B ≤ w.heap.size) :
  Calls Tryd.prog 71 #[.pointer (some ⟨b, 0, none⟩)] w fun e w' => e = .returned (.string ⟨l.toArray⟩) ∧ (Lib.IsBuilderF 107 5 B b (Lib.byteCells l) w' ∧ Below B w w') := Any.Builder_String_any_f Tryd.lays169 Tryd.Builder_Extra_169 B b l w h hBw
def Tryd.lays217_ren : Go.Shelf.Ren := ⟨fun | 217 => 121 | 266 => 147 | n => n, fun | 9 => 9 | 5 => 5 | 3 => 3 | n => n, fun | n => n⟩
theorem Tryd.lays217 : Go.Proofs.Lays.n217 Tryd.prog Tryd.lays217_ren := {
 mixed := by kernel_rfl
 f217 := Tryd.func121.trans (congrArg some (by kernel_rfl))
 f266 := Tryd.func147.trans (congrArg some (by kernel_rfl))
 t3 := Tryd.underlying3
 a3 := Tryd.isAgg3
 z3 := Tryd.sizeOf3
 v3 := Tryd.zeroValue3
 t5 := Tryd.underlying5
 a5 := Tryd.isAgg5
 z5 := Tryd.sizeOf5
 v5 := Tryd.zeroValue5
 t9 := Tryd.underlying9
 a9 := Tryd.isAgg9
 z9 := Tryd.sizeOf9
 v9 := Tryd.zeroValue9 }
open Go.RowKit Go.Lib in
/-- internal/stringslite.IndexByte (what strings.IndexByte calls): IT RETURNS 'Lib.indexByte s c'; the world is as it was. (LAID: no walk: one application.) -/
theorem Tryd.stringslite_IndexByte (s : ByteArray) (c : Int) (w : World) :
  Calls Tryd.prog 121 #[.string s, .int .u8 c] w fun e w' => e = .returned (.int .i64 (Lib.indexByte s.data.toList c.toNat.toUInt8)) ∧ w' = w := Any.stringslite_IndexByte Tryd.lays217 s c w
def Tryd.lays206_ren : Go.Shelf.Ren := ⟨fun | 206 => 102 | n => n, fun | 9 => 9 | 4 => 4 | 3 => 3 | n => n, fun | n => n⟩
theorem Tryd.lays206 : Go.Proofs.Lays.n206 Tryd.prog Tryd.lays206_ren := {
 mixed := by kernel_rfl
 f206 := Tryd.func102.trans (congrArg some (by kernel_rfl))
 t3 := Tryd.underlying3
 a3 := Tryd.isAgg3
 z3 := Tryd.sizeOf3
 v3 := Tryd.zeroValue3
 t4 := Tryd.underlying4
 a4 := Tryd.isAgg4
 z4 := Tryd.sizeOf4
 v4 := Tryd.zeroValue4
 t9 := Tryd.underlying9
 a9 := Tryd.isAgg9
 z9 := Tryd.sizeOf9
 v9 := Tryd.zeroValue9 }
open Go.RowKit Go.Lib in
/-- internal/stringslite.HasPrefix (what strings.HasPrefix calls). (LAID: no walk: one application.) -/
theorem Tryd.stringslite_HasPrefix (s p : ByteArray) (w : World) :
  Calls Tryd.prog 102 #[.string s, .string p] w fun e w' => e = .returned (.bool (Lib.hasPrefix s.data.toList p.data.toList)) ∧ w' = w := Any.stringslite_HasPrefix Tryd.lays206 s p w
def Tryd.lays99_ren : Go.Shelf.Ren := ⟨fun | 99 => 67 | 206 => 102 | n => n, fun | 9 => 9 | 4 => 4 | 3 => 3 | n => n, fun | n => n⟩
theorem Tryd.lays99 : Go.Proofs.Lays.n99 Tryd.prog Tryd.lays99_ren := {
 mixed := by kernel_rfl
 f99 := Tryd.func67.trans (congrArg some (by kernel_rfl))
 f206 := Tryd.func102.trans (congrArg some (by kernel_rfl))
 t3 := Tryd.underlying3
 a3 := Tryd.isAgg3
 z3 := Tryd.sizeOf3
 v3 := Tryd.zeroValue3
 t4 := Tryd.underlying4
 a4 := Tryd.isAgg4
 z4 := Tryd.sizeOf4
 v4 := Tryd.zeroValue4
 t9 := Tryd.underlying9
 a9 := Tryd.isAgg9
 z9 := Tryd.sizeOf9
 v9 := Tryd.zeroValue9 }
open Go.RowKit Go.Lib in
/-- strings.HasPrefix: "HasPrefix reports whether the string s begins with prefix.": IT RETURNS 'Lib.hasPrefix s prefix'; the world is as it was. (LAID: no walk: one application.) -/
theorem Tryd.strings_HasPrefix (s p : ByteArray) (w : World) :
  Calls Tryd.prog 67 #[.string s, .string p] w fun e w' => e = .returned (.bool (Lib.hasPrefix s.data.toList p.data.toList)) ∧ w' = w := Any.strings_HasPrefix Tryd.lays99 s p w
def Tryd.lays264_ren : Go.Shelf.Ren := ⟨fun | 264 => 87 | n => n, fun | 53 => 40 | 46 => 99 | n => n, fun | n => n⟩
theorem Tryd.lays264 : Go.Proofs.Lays.n264 Tryd.prog Tryd.lays264_ren := {
 mixed := by kernel_rfl
 f264 := Tryd.func87.trans (congrArg some (by kernel_rfl))
 t46 := Tryd.underlying99
 a46 := Tryd.isAgg99
 z46 := Tryd.sizeOf99
 v46 := Tryd.zeroValue99
 t53 := Tryd.underlying40
 a53 := Tryd.isAgg40
 z53 := Tryd.sizeOf40
 v53 := Tryd.zeroValue40 }
open Go.RowKit Go.Lib in
theorem Tryd.bits_Mul64 (x y : Nat) (hx : x < 18446744073709551616) (hy : y < 18446744073709551616) (w : World) :
  Calls Tryd.prog 87 #[.int .u64 x, .int .u64 y] w fun e w' => e = .returned (.tuple #[.int .u64 ((x * y / 18446744073709551616 : Nat) : Int), .int .u64 ((x * y % 18446744073709551616 : Nat) : Int)]) ∧ w' = w := Any.bits_Mul64 Tryd.lays264 x y hx hy w
def Tryd.lays212_ren : Go.Shelf.Ren := ⟨fun | 212 => 66 | 263 => 101 | 264 => 87 | n => n, fun | 46 => 99 | 51 => 147 | 146 => 148 | 53 => 40 | 148 => 125 | n => n, fun | n => n⟩
theorem Tryd.lays212 : Go.Proofs.Lays.n212 Tryd.prog Tryd.lays212_ren := {
 mixed := by kernel_rfl
 f212 := Tryd.func66.trans (congrArg some (by kernel_rfl))
 f263 := Tryd.func101.trans (congrArg some (by kernel_rfl))
 f264 := Tryd.func87.trans (congrArg some (by kernel_rfl))
 t46 := Tryd.underlying99
 a46 := Tryd.isAgg99
 z46 := Tryd.sizeOf99
 v46 := Tryd.zeroValue99
 t51 := Tryd.underlying147
 a51 := Tryd.isAgg147
 z51 := Tryd.sizeOf147
 v51 := Tryd.zeroValue147
 t53 := Tryd.underlying40
 a53 := Tryd.isAgg40
 z53 := Tryd.sizeOf40
 v53 := Tryd.zeroValue40
 t146 := Tryd.underlying148
 a146 := Tryd.isAgg148
 z146 := Tryd.sizeOf148
 v146 := Tryd.zeroValue148
 t148 := Tryd.underlying125
 a148 := Tryd.isAgg125
 z148 := Tryd.sizeOf125
 v148 := Tryd.zeroValue125 }
open Go.RowKit Go.Lib in
/-- math/bits.Mul: "Mul returns the full-width product of x and y": on a machine of 64 bits: Mul64's. (LAID: no walk: one application.) -/
theorem Tryd.bits_Mul (x y : Nat) (hx : x < 18446744073709551616) (hy : y < 18446744073709551616) (w : World) :
  Calls Tryd.prog 66 #[.int .u64 x, .int .u64 y] w fun e w' => e = .returned (.tuple #[.int .u64 ((x * y / 18446744073709551616 : Nat) : Int), .int .u64 ((x * y % 18446744073709551616 : Nat) : Int)]) ∧ w' = w := Any.bits_Mul Tryd.lays212 x y hx hy w
def Tryd.lays105_ren : Go.Shelf.Ren := ⟨fun | 105 => 30 | 212 => 66 | 99 => 67 | 165 => 68 | 166 => 69 | 170 => 70 | 169 => 71 | 263 => 101 | 264 => 87 | 206 => 102 | 240 => 103 | 241 => 104 | 276 => 136 | 277 => 137 | n => n, fun | 9 => 9 | 3 => 3 | 4 => 4 | 20 => 20 | 0 => 0 | 46 => 99 | 109 => 103 | 5 => 5 | 72 => 107 | 76 => 111 | 51 => 147 | 146 => 148 | 53 => 40 | 148 => 125 | 70 => 105 | 37 => 29 | 75 => 110 | 127 => 150 | 164 => 185 | 80 => 23 | n => n, fun | n => n⟩
theorem Tryd.lays105 : Go.Proofs.Lays.n105 Tryd.prog Tryd.lays105_ren := {
 mixed := by kernel_rfl
 f99 := Tryd.func67.trans (congrArg some (by kernel_rfl))
 f105 := Tryd.func30.trans (congrArg some (by kernel_rfl))
 f165 := Tryd.func68.trans (congrArg some (by kernel_rfl))
 f166 := Tryd.func69.trans (congrArg some (by kernel_rfl))
 f169 := Tryd.func71.trans (congrArg some (by kernel_rfl))
 f170 := Tryd.func70.trans (congrArg some (by kernel_rfl))
 f206 := Tryd.func102.trans (congrArg some (by kernel_rfl))
 f212 := Tryd.func66.trans (congrArg some (by kernel_rfl))
 f240 := Tryd.func103.trans (congrArg some (by kernel_rfl))
 f241 := Tryd.func104.trans (congrArg some (by kernel_rfl))
 f263 := Tryd.func101.trans (congrArg some (by kernel_rfl))
 f264 := Tryd.func87.trans (congrArg some (by kernel_rfl))
 f276 := Tryd.func136.trans (congrArg some (by kernel_rfl))
 f277 := Tryd.func137.trans (congrArg some (by kernel_rfl))
 t0 := Tryd.underlying0
 a0 := Tryd.isAgg0
 z0 := Tryd.sizeOf0
 v0 := Tryd.zeroValue0
 t3 := Tryd.underlying3
 a3 := Tryd.isAgg3
 z3 := Tryd.sizeOf3
 v3 := Tryd.zeroValue3
 t4 := Tryd.underlying4
 a4 := Tryd.isAgg4
 z4 := Tryd.sizeOf4
 v4 := Tryd.zeroValue4
 t5 := Tryd.underlying5
 a5 := Tryd.isAgg5
 z5 := Tryd.sizeOf5
 v5 := Tryd.zeroValue5
 t9 := Tryd.underlying9
 a9 := Tryd.isAgg9
 z9 := Tryd.sizeOf9
 v9 := Tryd.zeroValue9
 t20 := Tryd.underlying20
 a20 := Tryd.isAgg20
 z20 := Tryd.sizeOf20
 v20 := Tryd.zeroValue20
 t37 := Tryd.underlying29
 a37 := Tryd.isAgg29
 z37 := Tryd.sizeOf29
 v37 := Tryd.zeroValue29
 t46 := Tryd.underlying99
 a46 := Tryd.isAgg99
 z46 := Tryd.sizeOf99
 v46 := Tryd.zeroValue99
 t51 := Tryd.underlying147
 a51 := Tryd.isAgg147
 z51 := Tryd.sizeOf147
 v51 := Tryd.zeroValue147
 t53 := Tryd.underlying40
 a53 := Tryd.isAgg40
 z53 := Tryd.sizeOf40
 v53 := Tryd.zeroValue40
 t70 := Tryd.underlying105
 a70 := Tryd.isAgg105
 z70 := Tryd.sizeOf105
 v70 := Tryd.zeroValue105
 t72 := Tryd.underlying107
 a72 := Tryd.isAgg107
 z72 := Tryd.sizeOf107
 v72 := Tryd.zeroValue107
 t75 := Tryd.underlying110
 a75 := Tryd.isAgg110
 z75 := Tryd.sizeOf110
 v75 := Tryd.zeroValue110
 t76 := Tryd.underlying111
 a76 := Tryd.isAgg111
 z76 := Tryd.sizeOf111
 v76 := Tryd.zeroValue111
 t109 := Tryd.underlying103
 a109 := Tryd.isAgg103
 z109 := Tryd.sizeOf103
 v109 := Tryd.zeroValue103
 t127 := Tryd.underlying150
 a127 := Tryd.isAgg150
 z127 := Tryd.sizeOf150
 v127 := Tryd.zeroValue150
 t146 := Tryd.underlying148
 a146 := Tryd.isAgg148
 z146 := Tryd.sizeOf148
 v146 := Tryd.zeroValue148
 t148 := Tryd.underlying125
 a148 := Tryd.isAgg125
 z148 := Tryd.sizeOf125
 v148 := Tryd.zeroValue125
 t164 := Tryd.underlying185
 a164 := Tryd.isAgg185
 z164 := Tryd.sizeOf185
 v164 := Tryd.zeroValue185 }
theorem Tryd.Builder_Extra_105 : Builder.Extra Tryd.prog Tryd.lays105_ren := {
 sizeBuilder := by kernel_rfl
 liesBuilder := by kernel_rfl
 t5 := Tryd.underlying5
 a5 := Tryd.isAgg5
 z5 := Tryd.sizeOf5
 v5 := Tryd.zeroValue5
 infoByte := by kernel_rfl
 cellsByte := by kernel_rfl
 sizeByte := by kernel_rfl
 neB5 := by decide }
open Go.RowKit Go.Lib in
/-- THE MAIN CASE: at least two copies of a string that is not empty. (LAID: no walk: one application.) -/
theorem Tryd.strings_Repeat_main (s : ByteArray) (c : Nat) (w : World) (hc2 : 2 ≤ c) (hc : c ≤ 9223372036854775807) (hlen : s.size * c ≤ 140737488355328) (h0 : 0 < s.size) :
  Calls Tryd.prog 30 #[.string s, .int .i64 c] w fun e w' => e = .returned (.string ⟨(Lib.repeatL s.data.toList c).toArray⟩) ∧ Below w.heap.size w w' := Any.strings_Repeat_main Tryd.lays105 Tryd.Builder_Extra_105 s c w hc2 hc hlen h0
open Go.RowKit Go.Lib in
theorem Tryd.strings_Repeat_zero (s : ByteArray) (w : World) :
  Calls Tryd.prog 30 #[.string s, .int .i64 0] w fun e w' => e = .returned (.string ⟨#[]⟩) ∧ w' = w := Any.strings_Repeat_zero Tryd.lays105 s w
open Go.RowKit Go.Lib in
theorem Tryd.strings_Repeat_one (s : ByteArray) (w : World) :
  Calls Tryd.prog 30 #[.string s, .int .i64 1] w fun e w' => e = .returned (.string s) ∧ w' = w := Any.strings_Repeat_one Tryd.lays105 s w
open Go.RowKit Go.Lib in
/-- Copies of the empty string. (LAID: no walk: one application.) -/
theorem Tryd.strings_Repeat_empty (s : ByteArray) (c : Nat) (w : World) (hc2 : 2 ≤ c) (hc : c ≤ 9223372036854775807) (h0 : s.size = 0) :
  Calls Tryd.prog 30 #[.string s, .int .i64 c] w fun e w' => e = .returned (.string ⟨#[]⟩) ∧ w' = w := Any.strings_Repeat_empty Tryd.lays105 s c w hc2 hc h0
open Go.RowKit Go.Lib in
/-- count < 0: "It panics if count is negative". (LAID: no walk: one application.) -/
theorem Tryd.strings_Repeat_negative (s : ByteArray) (c : Int) (w : World) (hc : c < 0) :
  Calls Tryd.prog 30 #[.string s, .int .i64 c] w fun e w' => e = .panicked [{ v := repeatPanic Tryd.lays105_ren "strings: negative Repeat count", recovered := false }] ∧ w' = w := Any.strings_Repeat_negative Tryd.lays105 s c w hc
open Go.RowKit Go.Lib in
/-- len(s) * count is no int: ".. or if the result of (len(s) * count) overflows". (LAID: no walk: one application.) -/
theorem Tryd.strings_Repeat_overflow (s : ByteArray) (c : Nat) (w : World) (hc : c ≤ 9223372036854775807) (hs : s.size ≤ 9223372036854775807) (hbig : 9223372036854775807 < s.size * c) :
  Calls Tryd.prog 30 #[.string s, .int .i64 c] w fun e w' => e = .panicked [{ v := repeatPanic Tryd.lays105_ren "strings: Repeat output length overflow", recovered := false }] ∧ w' = w := Any.strings_Repeat_overflow Tryd.lays105 s c w hc hs hbig
open Go.RowKit Go.Lib in
/-- **strings.Repeat: count ≥ 0, the result within one allocation: count copies of s.** (LAID: no walk: one application.) -/
theorem Tryd.strings_Repeat (s : ByteArray) (c : Nat) (w : World) (hc : c ≤ 9223372036854775807) (hlen : s.size * c ≤ 140737488355328) :
  Calls Tryd.prog 30 #[.string s, .int .i64 c] w fun e w' => e = .returned (.string ⟨(Lib.repeatL s.data.toList c).toArray⟩) ∧ Below w.heap.size w w' := Any.strings_Repeat Tryd.lays105 Tryd.Builder_Extra_105 s c w hc hlen
end Go.Proofs

namespace Go.Proofs.Yc
open Go Go.RowKit Go.Shelf Go.Proofs.Num

set_option maxHeartbeats 1000000 in
set_option maxRecDepth 100000 in
theorem copyCheck_used (b : Nat) (w : World) (h0 : w.cell? ⟨b, 0, none⟩ = some (.pointer (some ⟨b, 0, none⟩))) :
  Calls Tryd.prog 103 #[.pointer (some ⟨b, 0, none⟩)] w fun e w' => e = .returned (.tuple #[]) ∧ w' = w := by
 obtain ⟨j, hj, _⟩ := Option.map_eq_some_iff.1 (show (Tryd.prog.info? 107).map (·.size) = some 2 by kernel_rfl)
 have mixed : Tryd.prog.follows .mixedOrders = true := by kernel_rfl
 have t107 := Tryd.underlying107; have a107 := Tryd.isAgg107; have z107 := Tryd.sizeOf107; have v107 := Tryd.zeroValue107; have u107 := run_underlying Tryd.underlying107
 have t105 := Tryd.underlying105; have a105 := Tryd.isAgg105; have z105 := Tryd.sizeOf105; have v105 := Tryd.zeroValue105; have u105 := run_underlying Tryd.underlying105
 have t9 := Tryd.underlying9; have a9 := Tryd.isAgg9; have z9 := Tryd.sizeOf9; have v9 := Tryd.zeroValue9; have u9 := run_underlying Tryd.underlying9
 have t4 := Tryd.underlying4; have a4 := Tryd.isAgg4; have z4 := Tryd.sizeOf4; have v4 := Tryd.zeroValue4; have u4 := run_underlying Tryd.underlying4
 have t185 := Tryd.underlying185; have a185 := Tryd.isAgg185; have z185 := Tryd.sizeOf185; have v185 := Tryd.zeroValue185; have u185 := run_underlying Tryd.underlying185
 go_enter Tryd.func103, Tryd.ntmps103
 go_wp2
 rw [Lib.run_neq_ptr_same w _ Tryd.underlying105 hj]
 go_wp2
 go_end0
 exact ⟨rfl, rfl⟩
set_option maxHeartbeats 1000000 in
set_option maxRecDepth 100000 in
theorem copyCheck_fresh (b : Nat) (w : World) (h0 : w.cell? ⟨b, 0, none⟩ = some (.pointer none)) (hsh : w.shape? b = some (107, 2)) (hfz : w.frozen? ⟨b, 0, none⟩ = false) :
  Calls Tryd.prog 103 #[.pointer (some ⟨b, 0, none⟩)] w fun e w' => e = .returned (.tuple #[]) ∧ w' = w.setCell ⟨b, 0, none⟩ (.pointer (some ⟨b, 0, none⟩)) := by
 obtain ⟨j, hj, hjs⟩ := Option.map_eq_some_iff.1 (show (Tryd.prog.info? 107).map (·.size) = some 2 by kernel_rfl)
 have mixed : Tryd.prog.follows .mixedOrders = true := by kernel_rfl
 have t107 := Tryd.underlying107; have a107 := Tryd.isAgg107; have z107 := Tryd.sizeOf107; have v107 := Tryd.zeroValue107; have u107 := run_underlying Tryd.underlying107
 have t105 := Tryd.underlying105; have a105 := Tryd.isAgg105; have z105 := Tryd.sizeOf105; have v105 := Tryd.zeroValue105; have u105 := run_underlying Tryd.underlying105
 have t9 := Tryd.underlying9; have a9 := Tryd.isAgg9; have z9 := Tryd.sizeOf9; have v9 := Tryd.zeroValue9; have u9 := run_underlying Tryd.underlying9
 have t4 := Tryd.underlying4; have a4 := Tryd.isAgg4; have z4 := Tryd.sizeOf4; have v4 := Tryd.zeroValue4; have u4 := run_underlying Tryd.underlying4
 have t185 := Tryd.underlying185; have a185 := Tryd.isAgg185; have z185 := Tryd.sizeOf185; have v185 := Tryd.zeroValue185; have u185 := run_underlying Tryd.underlying185
 go_enter Tryd.func103, Tryd.ntmps103
 go_wp2
 rw [Lib.run_to_unsafe w ⟨b, 0, none⟩ Tryd.underlying105 Tryd.underlying185 hj (by rw [hjs]; decide) hsh (Nat.zero_lt_succ 1)]
 simp only [Result.andThen]
 rw [Oper.upon_value]
 go_wp2
 rw [run_callFunc_extern Tryd.func136 (by kernel_rfl) (by kernel_rfl) (by kernel_rfl) (e := Extern.AbiNoEscape.same) (by kernel_rfl)]
 rw [Lib.run_noEscape]
 simp only [Result.andThen]
 rw [Oper.upon_value]
 go_wp2
 rw [Lib.run_from_unsafe w ⟨b, 0, none⟩ Tryd.underlying185 Tryd.underlying105 hj hsh (by kernel_rfl)]
 simp only [Result.andThen]
 rw [Oper.upon_value]
 go_wp2
 go_end0
 exact ⟨rfl, rfl⟩
theorem copyCheck_c (B b : Nat) (bs : List Value) (w : World) (h : Lib.IsBuilder 107 5 B b bs w) :
  Calls Tryd.prog 103 #[.pointer (some ⟨b, 0, none⟩)] w fun e w' => e = .returned (.tuple #[]) ∧ (Lib.BuilderAt 107 5 B b (.pointer (some ⟨b, 0, none⟩)) bs w' ∧ Below B w w') := by
 rcases h with h | h
 ·
  refine (copyCheck_fresh b w h.cell0 h.shape h.frozen0).mono ?_
  rintro e w' ⟨rfl, rfl⟩
  exact ⟨rfl, h.used _, (Below.refl B w).setCell (p := ⟨b, 0, none⟩) h.1 _⟩
 ·
  refine (copyCheck_used b w h.cell0).mono ?_
  rintro e w' ⟨rfl, rfl⟩
  exact ⟨rfl, h, Below.refl B _⟩
theorem isB_sees {T e : TypeId} {B b : Nat} {bs : List Value} {w W : World} (h : Lib.IsBuilder T e B b bs w) (hS : Sees w W) : Lib.IsBuilder T e B b bs W := by
 have key : ∀ p, Lib.BuilderAt T e B b p bs w → Lib.BuilderAt T e B b p bs W := by
  intro p h
  have hlt := h.lt
  obtain ⟨hB, v, hb, ⟨hl, hr⟩, hne⟩ := h
  refine ⟨hB, v, (hS.2.2.block b hlt).trans hb, ⟨hl, ?_⟩, hne⟩
  rcases hr with hr | ⟨g, cap, cur, hv, hg, hc, hrest⟩
  ·
   exact .inl hr
  ·
   refine .inr ⟨g, cap, cur, hv, hg, ?_, hrest⟩
   have hg2 : g < w.heap.size := by
    rcases Nat.lt_or_ge g w.heap.size with h' | h'
    ·
     exact h'
    ·
     simp [Array.getElem?_eq_none h'] at hc
   exact (hS.2.2.block g hg2).trans hc
 rcases h with h | h
 ·
  exact .inl (key _ h)
 ·
  exact .inr (key _ h)
set_option maxHeartbeats 2000000 in
set_option maxRecDepth 100000 in
theorem writeByte_c (B b : Nat) (bs : List Value) (c : Int) (w : World) (h : Lib.IsBuilder 107 5 B b bs w) (hlen : bs.length + 1 ≤ 140737488355328) (hBw : B ≤ w.heap.size) :
  Calls Tryd.prog 99 #[.pointer (some ⟨b, 0, none⟩), .int .u8 c] w fun e w' => e = .returned .nilIface ∧ (Lib.BuilderAt 107 5 B b (.pointer (some ⟨b, 0, none⟩)) (bs ++ [.int .u8 c]) w' ∧ Below B w w') := by
 obtain ⟨i0, hi, hz0, hz1, hz2⟩ := info_parts (show (Tryd.prog.info? 5).map (fun i => (i.zero, i.size, i.bytes)) = some (some (.int .u8 0), 1, 1) by kernel_rfl)
 have mixed : Tryd.prog.follows .mixedOrders = true := by kernel_rfl
 have t107 := Tryd.underlying107; have a107 := Tryd.isAgg107; have z107 := Tryd.sizeOf107; have v107 := Tryd.zeroValue107; have u107 := run_underlying Tryd.underlying107
 have t105 := Tryd.underlying105; have a105 := Tryd.isAgg105; have z105 := Tryd.sizeOf105; have v105 := Tryd.zeroValue105; have u105 := run_underlying Tryd.underlying105
 have t5 := Tryd.underlying5; have a5 := Tryd.isAgg5; have z5 := Tryd.sizeOf5; have v5 := Tryd.zeroValue5; have u5 := run_underlying Tryd.underlying5
 have t29 := Tryd.underlying29; have a29 := Tryd.isAgg29; have z29 := Tryd.sizeOf29; have v29 := Tryd.zeroValue29; have u29 := run_underlying Tryd.underlying29
 have t9 := Tryd.underlying9; have a9 := Tryd.isAgg9; have z9 := Tryd.sizeOf9; have v9 := Tryd.zeroValue9; have u9 := run_underlying Tryd.underlying9
 have t4 := Tryd.underlying4; have a4 := Tryd.isAgg4; have z4 := Tryd.sizeOf4; have v4 := Tryd.zeroValue4; have u4 := run_underlying Tryd.underlying4
 have t185 := Tryd.underlying185; have a185 := Tryd.isAgg185; have z185 := Tryd.sizeOf185; have v185 := Tryd.zeroValue185; have u185 := run_underlying Tryd.underlying185
 have ecc : ∀ args w, (callFunc 103 args).run Tryd.prog w = .ok (.enter 103 args) w := enters_of Tryd.func103 (by kernel_rfl) rfl
 go_enter Tryd.func99, Tryd.ntmps99
 go_wp2_with (go_at_fn 103; refine (copyCheck_c B b bs _ h).mono ?_)
 rintro e w1 ⟨rfl, h1, hb1⟩
 obtain ⟨hB, v, hbk, hown, hne⟩ := h1
 have c0 : w1.cell? ⟨b, 0, none⟩ = some (.pointer (some ⟨b, 0, none⟩)) := by rw [Lib.cell_of_heap hbk]; rfl
 have c1 : w1.cell? ⟨b, 1, none⟩ = some v := by rw [Lib.cell_of_heap hbk]; rfl
 go_wp2_with (at_builtin; refine wpList_append_own _ rfl _ _ 29 rfl B 5 i0 (.int .u8 0) 1 1 Tryd.underlying29 hi hz0 hz1 hz2 rfl (by decide) _ _ _ rfl (hown.alloc _) ⟨w1.heap.size, 0, none⟩ 1 1 [.int .u8 c] rfl rfl ?c1 ?c2 ?c3 ?c4 ?c5 ?_)
 case c1 =>
  intro j u hj
  match j, hj with
  | 0, hj => simp at hj; subst hj; simp [Addr.add]
 case c2 => intro u hu; simp at hu; subst hu; rfl
 case c3 => unfold maxLen; omega
 case c4 => omega
 case c5 => have := hb1.size; simp; omega
 intro v' w2 hown' hgrow _
 have hlt : b < w1.heap.size := by
  rcases Nat.lt_or_ge b w1.heap.size with h' | h'
  ·
   exact h'
  ·
   simp [Array.getElem?_eq_none h'] at hbk
 have hb2 : w2.heap[b]? = some (.cells #[.pointer (some ⟨b, 0, none⟩), v] 107 (0, 0)) := by
  rw [hgrow.block b (by simp; omega) (fun e => hne e.symm), Lib.alloc_old w1 _ b hlt]
  exact hbk
 have d0 : w2.cell? ⟨b, 0, none⟩ = some (.pointer (some ⟨b, 0, none⟩)) := by rw [Lib.cell_of_heap hb2]; rfl
 have d1 : w2.cell? ⟨b, 1, none⟩ = some v := by rw [Lib.cell_of_heap hb2]; rfl
 have f1 : w2.frozen? ⟨b, 1, none⟩ = false := Lib.frozen_of_heap hb2 1
 obtain ⟨g, cap, rfl⟩ : ∃ g cap, v' = .slice (some ⟨g, 0, none⟩) (bs.length + 1) cap := by
  rcases hown'.2 with ⟨_, h0⟩ | ⟨g, cap, cur, hv, _⟩
  ·
   omega
  ·
   exact ⟨g, cap, hv⟩
 go_wp2
 go_ret
 refine ⟨rfl, ?_, ?_⟩
 ·
  exact Lib.BuilderAt.put (T := 107) (e := 5) hB hb2 (bs' := bs ++ [.int .u8 c]) (by simpa using hown') (by decide)
 ·
  exact ((hb1.alloc (by have := hb1.size; omega) _).grown hgrow (by have := hb1.size; simp; omega) (fun k hk => (hown.lt k hk).1)).setCell (p := ⟨b, 1, none⟩) hB _
end Go.Proofs.Yc

namespace Go.Proofs.Yc
open Go Go.RowKit Go.Proofs.Num
open Nat renaming zero_add → Z1, le_trans → Z2
open List renaming set → Z5, take → Z6, drop → Z7
open Go renaming undef → Z8, wp_seq_k → Z9, wp_cond_true → Z10, wp_cond_false → Z11
open Go.Proofs.Num renaming putT → Z12, wp_region_seq → Z13, wpL_nil → Z14, no_panic → Z15, wpL_chunk → Z16, wpL_move → Z17, wpL_assign → Z18, wpV_nil → Z19, wpV_bin → Z20, wpV_move → Z21, wpL_store1 → Z23, wpV_val → Z24, wpV_load → Z31, wpV_load1 → Z34, wpL_var → Z36
attribute [local irreducible] wpV wpN wpList
open Go.Proofs.Ya
set_option maxHeartbeats 4000000 in
theorem end_cq {g n : Nat} {h : S8q} {b : List UInt8} {w : World} (hh : h.Ok) (hb : b.length < 128) (hn : n < 18446744073709551616) (hg : g ≠ 2) (L2 : 2 < w.heap.size) (R2_0 : w.rangeAt 2 0 kcellsq) (hM : Mem [g] w w [⟨g, 10, [(0, [.int .u64 ((h.a : Nat) : Int), .int .u64 ((h.b : Nat) : Int), .int .u64 ((h.c : Nat) : Int), .int .u64 ((h.d : Nat) : Int), .int .u64 ((h.e : Nat) : Int), .int .u64 ((h.f : Nat) : Int), .int .u64 ((h.g : Nat) : Int), .int .u64 ((h.h : Nat) : Int)]), (8, [.string (bs b)]), (9, [.int .u64 ((n : Nat) : Int)])]⟩]) :
  Calls Tryd.prog 124 #[.pointer (some ⟨g, 0, none⟩)] w fun e w' => ∃ v, e = .returned v ∧ v = .string (bs (endLq h b n)) ∧ Mem [g] w w' [⟨g, 10, []⟩] := by
 go_enter Tryd.func124, Tryd.ntmps124
 have M := hM
 refine Z9 (fun K1 hK1 => ?_)
 refine Z13 ?_
 refine Z18 (v := .string (bs ([]))) (by rfl) (by rfl) (by rfl) ?_
 simp only [Z12, Z5]
 refine Z14 (Z15 ?_)
 refine hK1 _ _ ?_
 refine Z9 (fun K3 hK3 => ?_)
 refine Z13 ?_
 refine Z17 (v := .pointer (some ⟨g, 0, none⟩)) (by rfl) (by rfl) (by rfl) ?_
 simp only [Z12, Z5]
 refine Z16 5 (by rfl) (fun Lk hLk => ?_)
 simp only [Z6, Z7]
 refine wpV_nilCheck (by rfl) rfl rfl ?_
 simp only [Z12, Z5]
 refine Z24 (v := .pointer (some ⟨g, 0, none⟩)) (by rfl) (by rfl) (fun W hW => ?_) ?_
 ·
  (go_simp; exact rfl)
 simp only [Z12, Z5]
 refine Z24 (v := .pointer (some ⟨g, 9, none⟩)) (by rfl) (by rfl) (fun W hW => ?_) ?_
 ·
  (go_simp; exact rfl)
 simp only [Z12, Z5]
 refine Z34 (v := .int .u64 ((n : Nat) : Int)) (by rfl) rfl rfl (range_one (M.r 0 2 rfl rfl)) (M.lt 0 rfl) Tryd.underlying40 rfl ?_
 simp only [Z12, Z5]
 refine Z20 (v := .int .u64 (((n * 8) % 18446744073709551616 : Nat) : Int)) (by rfl) rfl rfl rfl (fun W => nr_mul64 _ n 8 W) ?_
 simp only [Z12, Z5]
 refine Z19 (hLk _ (fun w5 Sw5 => ?_))
 clear hLk Lk
 simp only [Z6, Z7]
 replace M := M.sees Sw5
 refine Z18 (v := .int .u64 (((n * 8) % 18446744073709551616 : Nat) : Int)) (by rfl) (by rfl) (by rfl) ?_
 simp only [Z12, Z5]
 refine Z14 (Z15 ?_)
 refine hK3 _ _ ?_
 refine Z9 (fun K6 hK6 => ?_)
 refine Z13 ?_
 refine Z17 (v := .pointer (some ⟨g, 0, none⟩)) (by rfl) (by rfl) (by rfl) ?_
 simp only [Z12, Z5]
 refine Z16 7 (by rfl) (fun Lk hLk => ?_)
 simp only [Z6, Z7]
 refine wpV_nilCheck (by rfl) rfl rfl ?_
 simp only [Z12, Z5]
 refine Z24 (v := .pointer (some ⟨g, 0, none⟩)) (by rfl) (by rfl) (fun W hW => ?_) ?_
 ·
  (go_simp; exact rfl)
 simp only [Z12, Z5]
 refine Z24 (v := .pointer (some ⟨g, 8, none⟩)) (by rfl) (by rfl) (fun W hW => ?_) ?_
 ·
  (go_simp; exact rfl)
 simp only [Z12, Z5]
 refine Z34 (v := .string (bs b)) (by rfl) rfl rfl (range_one (M.r 0 1 rfl rfl)) (M.lt 0 rfl) Tryd.underlying9 rfl ?_
 simp only [Z12, Z5]
 refine wpV_lenS (by rfl) rfl rfl rfl Tryd.underlying9 ?_
 simp only [Z12, Z5]
 refine Z20 (v := .int .i64 ((239 - b.length : Nat) : Int)) (by rfl) rfl rfl rfl (fun W => run_sub (by simp only [IntKind.wrap_i64]; omega) W) ?_
 simp only [Z12, Z5]
 refine Z20 (v := .int .i64 (((239 - b.length) % 128 : Nat) : Int)) (by rfl) rfl rfl rfl (fun W => run_rem (by decide) (tmod_nat (239 - b.length) 128) W) ?_
 simp only [Z12, Z5]
 refine Z19 (hLk _ (fun w8 Sw8 => ?_))
 clear hLk Lk
 simp only [Z6, Z7]
 replace M := M.sees Sw8
 refine Z18 (v := .int .i64 (((239 - b.length) % 128 : Nat) : Int)) (by rfl) (by rfl) (by rfl) ?_
 simp only [Z12, Z5]
 refine Z14 (Z15 ?_)
 refine hK6 _ _ ?_
 refine Z9 (fun K9 hK9 => ?_)
 refine Z13 ?_
 refine Z17 (v := .int .i64 (((239 - b.length) % 128 : Nat) : Int)) (by rfl) (by rfl) (by rfl) ?_
 simp only [Z12, Z5]
 refine Z16 2 (by rfl) (fun Lk hLk => ?_)
 simp only [Z6, Z7]
 refine Z20 (v := .int .i64 ((1 + (239 - b.length) % 128 : Nat) : Int)) (by rfl) rfl rfl rfl (fun W => run_add (by simp only [IntKind.wrap_i64]; omega) W) ?_
 simp only [Z12, Z5]
 refine Z20 (v := .int .i64 ((1 + (239 - b.length) % 128 + 16 : Nat) : Int)) (by rfl) rfl rfl rfl (fun W => run_add (by simp only [IntKind.wrap_i64]; omega) W) ?_
 simp only [Z12, Z5]
 refine Z19 (hLk _ (fun w11 Sw11 => ?_))
 clear hLk Lk
 simp only [Z6, Z7]
 replace M := M.sees Sw11
 refine wpL_make (n := 1 + (239 - b.length) % 128 + 16) (z := .int .u8 0) (bytes := 1) (by rfl) (by rfl) (by rfl) (by rfl) Tryd.underlying29 (by kernel_rfl) rfl (by omega) (by omega) (fun g12 w13 Sw13 Hg12 Bg12 => ?_)
 replace M := ((M.sees Sw13).add (N := 1 + (239 - b.length) % 128 + 16) (cs := List.replicate (1 + (239 - b.length) % 128 + 16) (.int .u8 0)) (M.ge Hg12) (M.fresh Hg12) Bg12 (by simp [flen]))
 clear Bg12
 simp only [Z12, Z5]
 refine Z18 (v := .slice (some ⟨g12, 0, none⟩) (1 + (239 - b.length) % 128 + 16) (1 + (239 - b.length) % 128 + 16)) (by rfl) (by rfl) (by rfl) ?_
 simp only [Z12, Z5]
 refine Z14 (Z15 ?_)
 refine hK9 _ _ ?_
 refine Z9 (fun K14 hK14 => ?_)
 refine Z13 ?_
 refine Z17 (v := .slice (some ⟨g12, 0, none⟩) (1 + (239 - b.length) % 128 + 16) (1 + (239 - b.length) % 128 + 16)) (by rfl) (by rfl) (by rfl) ?_
 simp only [Z12, Z5]
 refine Z16 1 (by rfl) (fun Lk hLk => ?_)
 simp only [Z6, Z7]
 refine wpV_idxs (n := 0) (by rfl) rfl rfl rfl Tryd.underlying29 info5 (by omega) ?_
 simp only [Z1]
 simp only [Z12, Z5]
 refine Z19 (hLk _ (fun w16 Sw16 => ?_))
 clear hLk Lk
 simp only [Z6, Z7]
 replace M := M.sees Sw16
 refine Z23 (g := g12) (off := 0) (n := 1 + (239 - b.length) % 128 + 16) (v := .int .u8 128) (by rfl) (by rfl) (by rfl) (by rfl) (by rfl) (M.t 0 rfl) (by omega) info5 rfl (fun w17 P R T => ?_)
 replace M := M.put1 (j := 0) 0 rfl P R T (Z1 _).symm
 simp only [Z5] at M
 rw [tail_firstq _ (n * 8 % 18446744073709551616)] at M
 refine Z14 (Z15 ?_)
 refine hK14 _ _ ?_
 refine Z9 (fun K18 hK18 => ?_)
 refine Z9 (fun K19 hK19 => ?_)
 refine Z13 ?_
 refine Z17 (v := .int .i64 0) (by rfl) (by rfl) (by rfl) ?_
 simp only [Z12, Z5]
 refine Z14 (Z15 ?_)
 refine hK19 _ _ ?_
 refine wp_block ?_
 refine wp_loop_ghost (fun n9 a9 W9 => ∃ (q : Nat) (u21 : Nat → Value), n9 = 8 - q ∧ a9 = { tmps := #[.pointer (some ⟨g, 0, none⟩), Z8, .string (bs ([])), .int .u64 (((n * 8) % 18446744073709551616 : Nat) : Int), .int .i64 (((239 - b.length) % 128 : Nat) : Int), .slice (some ⟨g12, 0, none⟩) (1 + (239 - b.length) % 128 + 16) (1 + (239 - b.length) % 128 + 16), u21 6, Z8, Z8, Z8, Z8, .pointer (some ⟨g, 0, none⟩), .pointer (some ⟨g, 0, none⟩), .pointer (some ⟨g, 0, none⟩), .pointer (some ⟨g, 9, none⟩), .int .u64 ((n : Nat) : Int), .int .u64 (((n * 8) % 18446744073709551616 : Nat) : Int), .pointer (some ⟨g, 0, none⟩), .pointer (some ⟨g, 0, none⟩), .pointer (some ⟨g, 0, none⟩), .pointer (some ⟨g, 8, none⟩), .string (bs b), .int .i64 ((b.length : Nat) : Int), .int .i64 ((239 - b.length : Nat) : Int), .int .i64 (((239 - b.length) % 128 : Nat) : Int), .int .i64 (((239 - b.length) % 128 : Nat) : Int), .int .i64 ((1 + (239 - b.length) % 128 : Nat) : Int), .int .i64 ((1 + (239 - b.length) % 128 + 16 : Nat) : Int), .slice (some ⟨g12, 0, none⟩) (1 + (239 - b.length) % 128 + 16) (1 + (239 - b.length) % 128 + 16), .slice (some ⟨g12, 0, none⟩) (1 + (239 - b.length) % 128 + 16) (1 + (239 - b.length) % 128 + 16), .pointer (some ⟨g12, 0, none⟩), .int .i64 ((q : Nat) : Int), u21 32, u21 33, u21 34, u21 35, u21 36, u21 37, u21 38, u21 39, u21 40, u21 41, u21 42, u21 43, u21 44, u21 45, u21 46, Z8, Z8, Z8, Z8, Z8, Z8, Z8, Z8, Z8, Z8, Z8, Z8, Z8, Z8, Z8, Z8, Z8, Z8, Z8, Z8, Z8, Z8, Z8, Z8, Z8], defers := [] } ∧ Mem [g] w W9 [⟨g12, 1 + (239 - b.length) % 128 + 16, [(0, bl (1 + (239 - b.length) % 128 + 16) (tailFq ((239 - b.length) % 128) (n * 8 % 18446744073709551616) q))]⟩, ⟨g, 10, [(0, [.int .u64 ((h.a : Nat) : Int), .int .u64 ((h.b : Nat) : Int), .int .u64 ((h.c : Nat) : Int), .int .u64 ((h.d : Nat) : Int), .int .u64 ((h.e : Nat) : Int), .int .u64 ((h.f : Nat) : Int), .int .u64 ((h.g : Nat) : Int), .int .u64 ((h.h : Nat) : Int)]), (8, [.string (bs b)]), (9, [.int .u64 ((n : Nat) : Int)])]⟩] ∧ (q ≤ 8)) (8 - (0)) ?_ (fun n9 a9 W9 hI => ?_)
 ·
  exact ⟨0, (fun q9 => (#[Z8, Z8, Z8, Z8, Z8, Z8, Z8, Z8, Z8, Z8, Z8, Z8, Z8, Z8, Z8, Z8, Z8, Z8, Z8, Z8, Z8, Z8, Z8, Z8, Z8, Z8, Z8, Z8, Z8, Z8, Z8, Z8, Z8, Z8, Z8, Z8, Z8, Z8, Z8, Z8, Z8, Z8, Z8, Z8, Z8, Z8, Z8] : Array Value).getD q9 Z8), rfl, rfl, M, (by omega)⟩
 clear M
 obtain ⟨q, u21, rfl, rfl, M, hq4⟩ := hI
 obtain ⟨w22, rfl⟩ : ∃ W8, W8 = W9 := ⟨_, rfl⟩
 refine Z9 (fun K23 hK23 => ?_)
 refine Z13 ?_
 refine Z16 1 (by rfl) (fun Lk hLk => ?_)
 simp only [Z6, Z7]
 refine Z20 (v := .bool (decide (q < 8))) (by rfl) rfl rfl rfl (fun W => run_lssN q 8 _ _ W) ?_
 simp only [Z12, Z5]
 refine Z19 (hLk _ (fun w25 Sw25 => ?_))
 clear hLk Lk
 simp only [Z6, Z7]
 replace M := M.sees Sw25
 refine Z14 (Z15 ?_)
 refine hK23 _ _ ?_
 refine Z9 (fun K26 hK26 => ?_)
 cases hc27 : (decide (q < 8))
 ·
  have eq : q = 8 := by have := of_decide_eq_false hc27; omega
  subst eq
  refine Z11 rfl ?_
  refine wp_exit ?_
  refine hK18 _ _ ?_
  refine Z9 (fun K28 hK28 => ?_)
  rw [tail_endq] at M
  refine Z13 ?_
  refine Z17 (v := .pointer (some ⟨g, 0, none⟩)) (by rfl) (by rfl) (by rfl) ?_
  simp only [Z12, Z5]
  refine Z17 (v := .slice (some ⟨g12, 0, none⟩) (1 + (239 - b.length) % 128 + 16) (1 + (239 - b.length) % 128 + 16)) (by rfl) (by rfl) (by rfl) ?_
  simp only [Z12, Z5]
  refine Z16 1 (by rfl) (fun Lk hLk => ?_)
  simp only [Z6, Z7]
  refine wpV_b2s (l := (tailLq b.length n)) (by rfl) rfl rfl (tailL_lenq ..).symm Tryd.underlying29 Tryd.underlying5 Tryd.underlying9 (M.r 0 0 rfl rfl) (M.lt 0 rfl) ?_
  simp only [Z12, Z5]
  refine Z19 (hLk _ (fun w30 Sw30 => ?_))
  clear hLk Lk
  simp only [Z6, Z7]
  replace M := M.sees Sw30
  refine wpL_callM (f := 123) (args := #[.pointer (some ⟨g, 0, none⟩), .string (bs (tailLq b.length n))]) (R := fun v9 W9 => v9 = .tuple #[] ∧ Mem [g] w30 W9 [⟨g, 10, [(0, [.int .u64 (((takeHq h (b ++ (tailLq b.length n))).a : Nat) : Int), .int .u64 (((takeHq h (b ++ (tailLq b.length n))).b : Nat) : Int), .int .u64 (((takeHq h (b ++ (tailLq b.length n))).c : Nat) : Int), .int .u64 (((takeHq h (b ++ (tailLq b.length n))).d : Nat) : Int), .int .u64 (((takeHq h (b ++ (tailLq b.length n))).e : Nat) : Int), .int .u64 (((takeHq h (b ++ (tailLq b.length n))).f : Nat) : Int), .int .u64 (((takeHq h (b ++ (tailLq b.length n))).g : Nat) : Int), .int .u64 (((takeHq h (b ++ (tailLq b.length n))).h : Nat) : Int)]), (8, [.string (bs (takeRq (b ++ (tailLq b.length n))))]), (9, [.int .u64 ((((n + (tailLq b.length n).length) % 18446744073709551616) : Nat) : Int)])]⟩]) (by rfl) (by rfl) rfl Tryd.func123 (by kernel_rfl) (by kernel_rfl) (take_cq (h := h) (b := b) (l := (tailLq b.length n)) (n := n) hh hb (by rw [tailL_lenq]; omega) hg (M.oldL L2) (M.oldG R2_0 L2 (by simpa using Ne.symm hg)) (M.one 1 rfl)) (fun v9 w31 h9 => ?_)
  obtain ⟨rfl, M9⟩ := h9
  replace M := M.callM1 1 rfl M9
  simp only [Z5] at M
  simp only [Z12, Z5]
  refine Z14 (Z15 ?_)
  refine hK28 _ _ ?_
  refine Z9 (fun K32 hK32 => ?_)
  have hok : (takeHq h (b ++ (tailLq b.length n))).Ok := takeH_okq _ _ _ (Nat.le_refl _) hh
  generalize hS : takeHq h (b ++ (tailLq b.length n)) = S at M hok
  have hgB := M.lt 1 rfl
  have hsz := M.size
  refine Z13 ?_
  refine Z36 (t := 107) (cs := [.pointer none, .slice none 0 0]) (by rfl) (fun W => ?_) (fun g34 w33 SB HB BB => ?_)
  ·
   go_simp
  have IB : Lib.IsBuilder 107 5 w31.heap.size g34 [] w33 := .inl ⟨HB, _, BB, World.ownsRow_nil _ _ _ _, by simp [Value.ownBlock]⟩
  have HB9 := SB.2.2.size
  replace M := M.sees SB
  simp only [Z12, Z5]
  refine Z14 (Z15 ?_)
  refine hK32 _ _ ?_
  refine Z9 (fun K35 hK35 => ?_)
  refine Z9 (fun K36 hK36 => ?_)
  refine Z13 ?_
  refine Z17 (v := .pointer (some ⟨g, 0, none⟩)) (by rfl) (by rfl) (by rfl) ?_
  simp only [Z12, Z5]
  refine Z16 4 (by rfl) (fun Lk hLk => ?_)
  simp only [Z6, Z7]
  refine wpV_nilCheck (by rfl) rfl rfl ?_
  simp only [Z12, Z5]
  refine Z24 (v := .pointer (some ⟨g, 0, none⟩)) (by rfl) (by rfl) (fun W hW => ?_) ?_
  ·
   (go_simp; exact rfl)
  simp only [Z12, Z5]
  refine Z24 (v := .pointer (some ⟨g, 0, none⟩)) (by rfl) (by rfl) (fun W hW => ?_) ?_
  ·
   (go_simp; exact rfl)
  simp only [Z12, Z5]
  refine Z31 (cs := [.int .u64 ((S.a : Nat) : Int), .int .u64 ((S.b : Nat) : Int), .int .u64 ((S.c : Nat) : Int), .int .u64 ((S.d : Nat) : Int), .int .u64 ((S.e : Nat) : Int), .int .u64 ((S.f : Nat) : Int), .int .u64 ((S.g : Nat) : Int), .int .u64 ((S.h : Nat) : Int)]) (by rfl) rfl rfl (M.r 1 0 rfl rfl) (M.lt 1 rfl) Tryd.underlying129 rfl info129 ?_
  simp only [Z12, Z5]
  refine Z19 (hLk _ (fun w38 Sw38 => ?_))
  clear hLk Lk
  simp only [Z6, Z7]
  replace M := M.sees Sw38
  replace IB := isB_sees IB Sw38; replace HB9 := Z2 HB9 Sw38.2.2.size
  refine Z17 (v := .int .i64 0) (by rfl) (by rfl) (by rfl) ?_
  simp only [Z12, Z5]
  refine Z14 (Z15 ?_)
  replace M := (M.pick [1] (by decide) rfl : Mem [g] w w38 [⟨g, 10, [(0, [.int .u64 ((S.a : Nat) : Int), .int .u64 ((S.b : Nat) : Int), .int .u64 ((S.c : Nat) : Int), .int .u64 ((S.d : Nat) : Int), .int .u64 ((S.e : Nat) : Int), .int .u64 ((S.f : Nat) : Int), .int .u64 ((S.g : Nat) : Int), .int .u64 ((S.h : Nat) : Int)]), (8, [.string (bs (takeRq (b ++ (tailLq b.length n))))]), (9, [.int .u64 ((((n + (tailLq b.length n).length) % 18446744073709551616) : Nat) : Int)])]⟩])
  replace M := M.read (segs' := []) 0 rfl (by simp)
  simp only [Z5] at M
  have hl9 : ∀ b9 ∈ ([⟨g, 10, []⟩] : List Bk), b9.g < w31.heap.size := fun b9 hb9 => by rw [List.mem_singleton.1 hb9]; exact hgB
  clear hgB
  refine hK36 _ _ ?_
  refine wp_block ?_
  refine wp_loop_ghost (fun n9 a9 W9 => ∃ (i : Nat) (u39 : Nat → Value), n9 = 8 - i ∧ a9 = { tmps := #[.pointer (some ⟨g, 0, none⟩), Z8, .string (bs ([])), .int .u64 (((n * 8) % 18446744073709551616 : Nat) : Int), .int .i64 (((239 - b.length) % 128 : Nat) : Int), .slice (some ⟨g12, 0, none⟩) (1 + (239 - b.length) % 128 + 16) (1 + (239 - b.length) % 128 + 16), u21 6, .pointer (some ⟨g34, 0, none⟩), Z8, u39 9, u39 10, .pointer (some ⟨g, 0, none⟩), .pointer (some ⟨g, 0, none⟩), .pointer (some ⟨g, 0, none⟩), .pointer (some ⟨g, 9, none⟩), .int .u64 ((n : Nat) : Int), .int .u64 (((n * 8) % 18446744073709551616 : Nat) : Int), .pointer (some ⟨g, 0, none⟩), .pointer (some ⟨g, 0, none⟩), .pointer (some ⟨g, 0, none⟩), .pointer (some ⟨g, 8, none⟩), .string (bs b), .int .i64 ((b.length : Nat) : Int), .int .i64 ((239 - b.length : Nat) : Int), .int .i64 (((239 - b.length) % 128 : Nat) : Int), .int .i64 (((239 - b.length) % 128 : Nat) : Int), .int .i64 ((1 + (239 - b.length) % 128 : Nat) : Int), .int .i64 ((1 + (239 - b.length) % 128 + 16 : Nat) : Int), .slice (some ⟨g12, 0, none⟩) (1 + (239 - b.length) % 128 + 16) (1 + (239 - b.length) % 128 + 16), .slice (some ⟨g12, 0, none⟩) (1 + (239 - b.length) % 128 + 16) (1 + (239 - b.length) % 128 + 16), .pointer (some ⟨g12, 0, none⟩), .int .i64 ((8 : Nat) : Int), .bool false, u21 33, u21 34, u21 35, u21 36, u21 37, u21 38, u21 39, u21 40, u21 41, u21 42, u21 43, u21 44, u21 45, u21 46, .pointer (some ⟨g, 0, none⟩), .slice (some ⟨g12, 0, none⟩) (1 + (239 - b.length) % 128 + 16) (1 + (239 - b.length) % 128 + 16), .string (bs (tailLq b.length n)), .tuple #[], .pointer (some ⟨g, 0, none⟩), .pointer (some ⟨g, 0, none⟩), .pointer (some ⟨g, 0, none⟩), .pointer (some ⟨g, 0, none⟩), .agg ([.int .u64 ((S.a : Nat) : Int), .int .u64 ((S.b : Nat) : Int), .int .u64 ((S.c : Nat) : Int), .int .u64 ((S.d : Nat) : Int), .int .u64 ((S.e : Nat) : Int), .int .u64 ((S.f : Nat) : Int), .int .u64 ((S.g : Nat) : Int), .int .u64 ((S.h : Nat) : Int)]).toArray, .int .i64 ((i : Nat) : Int), u39 57, u39 58, u39 59, u39 60, u39 61, u39 62, u39 63, u39 64, u39 65, u39 66, u39 67, u39 68, u39 69, u39 70, Z8], defers := [] } ∧ Mem [g] w W9 [⟨g, 10, []⟩] ∧ (i ≤ 8) ∧ (Lib.IsBuilder 107 5 w31.heap.size g34 (Lib.byteCells ((outSq S).take (8 * i))) W9) ∧ (w31.heap.size ≤ W9.heap.size)) (8 - (0)) ?_ (fun n9 a9 W9 hI => ?_)
  ·
   exact ⟨0, (fun q9 => (#[Z8, Z8, Z8, Z8, Z8, Z8, Z8, Z8, Z8, Z8, Z8, Z8, Z8, Z8, Z8, Z8, Z8, Z8, Z8, Z8, Z8, Z8, Z8, Z8, Z8, Z8, Z8, Z8, Z8, Z8, Z8, Z8, Z8, Z8, Z8, Z8, Z8, Z8, Z8, Z8, Z8, Z8, Z8, Z8, Z8, Z8, Z8, Z8, Z8, Z8, Z8, Z8, Z8, Z8, Z8, Z8, Z8, Z8, Z8, Z8, Z8, Z8, Z8, Z8, Z8, Z8, Z8, Z8, Z8, Z8, Z8] : Array Value).getD q9 Z8), rfl, rfl, M, (by omega), IB, HB9⟩
  clear M
  obtain ⟨i, u39, rfl, rfl, M, hi4, IB, HB9⟩ := hI
  obtain ⟨w40, rfl⟩ : ∃ W8, W8 = W9 := ⟨_, rfl⟩
  refine Z9 (fun K41 hK41 => ?_)
  refine Z13 ?_
  refine Z16 1 (by rfl) (fun Lk hLk => ?_)
  simp only [Z6, Z7]
  refine Z20 (v := .bool (decide (i < 8))) (by rfl) rfl rfl rfl (fun W => run_lssN i 8 _ _ W) ?_
  simp only [Z12, Z5]
  refine Z19 (hLk _ (fun w43 Sw43 => ?_))
  clear hLk Lk
  simp only [Z6, Z7]
  replace M := M.sees Sw43
  replace IB := isB_sees IB Sw43; replace HB9 := Z2 HB9 Sw43.2.2.size
  refine Z14 (Z15 ?_)
  refine hK41 _ _ ?_
  refine Z9 (fun K44 hK44 => ?_)
  cases hc45 : (decide (i < 8))
  ·
   have ei : i = 8 := by have := of_decide_eq_false hc45; omega
   subst ei
   refine Z11 rfl ?_
   refine wp_exit ?_
   refine hK35 _ _ ?_
   refine Z9 (fun K46 hK46 => ?_)
   refine Z13 ?_
   refine wpL_callM (f := 71) (args := #[.pointer (some ⟨g34, 0, none⟩)]) (R := fun v9 W9 => v9 = .string (bs (outSq S)) ∧ Below w31.heap.size w43 W9) (by rfl) (by rfl) rfl Tryd.func71 (by kernel_rfl) (by kernel_rfl) ((Tryd.Builder_String_any w31.heap.size g34 (outSq S) w43 (by rw [List.take_of_length_le (by rw [outS_lenq]; decide)] at IB; exact IB) HB9).mono fun e W9 h => ⟨_, h.1, rfl, h.2⟩) (fun v9 w48 h9 => ?_)
   obtain ⟨rfl, hBw⟩ := h9
   replace M := M.belowB hBw hsz hl9
   simp only [Z12, Z5]
   refine Z18 (v := .string (bs (outSq S))) (by rfl) (by rfl) (by rfl) ?_
   simp only [Z12, Z5]
   refine Z14 (Z15 ?_)
   refine hK46 _ _ ?_
   refine wp_ret ?_
   repeat (first | with_reducible refine then_ret ?_ | with_reducible refine inblock_ret ?_)
   refine bodyPost_ret (v := .string (bs (outSq S))) (res1 rfl (.tmp (by rfl))) rfl ?_
   exact ⟨_, rfl, by rw [← hS]; rfl, M⟩
  ·
   have hi : i < 8 := of_decide_eq_true hc45
   refine Z10 rfl ?_
   refine wp_skip ?_
   refine hK44 _ _ ?_
   refine Z9 (fun K49 hK49 => ?_)
   refine wp_block ?_
   refine Z9 (fun K50 hK50 => ?_)
   refine Z13 ?_
   refine Z16 1 (by rfl) (fun Lk hLk => ?_)
   simp only [Z6, Z7]
   refine wpV_index (n := i) (v := .int .u64 ((S.get i : Nat) : Int)) (by rfl) rfl rfl rfl Tryd.underlying129 info40 Tryd.underlying40 rfl (by omega) (c8_getq S hi) ?_
   simp only [Z12, Z5]
   refine Z19 (hLk _ (fun w52 Sw52 => ?_))
   clear hLk Lk
   simp only [Z6, Z7]
   replace M := M.sees Sw52
   replace IB := isB_sees IB Sw52; replace HB9 := Z2 HB9 Sw52.2.2.size
   refine Z18 (v := .int .u64 ((S.get i : Nat) : Int)) (by rfl) (by rfl) (by rfl) ?_
   simp only [Z12, Z5]
   refine Z14 (Z15 ?_)
   refine hK50 _ _ ?_
   refine Z9 (fun K53 hK53 => ?_)
   refine Z13 ?_
   refine Z17 (v := .int .i64 0) (by rfl) (by rfl) (by rfl) ?_
   simp only [Z12, Z5]
   refine Z14 (Z15 ?_)
   refine hK53 _ _ ?_
   refine wp_block ?_
   refine wp_loop_ghost (fun n9 a9 W9 => ∃ (j : Nat) (u55 : Nat → Value), n9 = 8 - j ∧ a9 = { tmps := #[.pointer (some ⟨g, 0, none⟩), Z8, .string (bs ([])), .int .u64 (((n * 8) % 18446744073709551616 : Nat) : Int), .int .i64 (((239 - b.length) % 128 : Nat) : Int), .slice (some ⟨g12, 0, none⟩) (1 + (239 - b.length) % 128 + 16) (1 + (239 - b.length) % 128 + 16), u21 6, .pointer (some ⟨g34, 0, none⟩), Z8, .int .u64 ((S.get i : Nat) : Int), u55 10, .pointer (some ⟨g, 0, none⟩), .pointer (some ⟨g, 0, none⟩), .pointer (some ⟨g, 0, none⟩), .pointer (some ⟨g, 9, none⟩), .int .u64 ((n : Nat) : Int), .int .u64 (((n * 8) % 18446744073709551616 : Nat) : Int), .pointer (some ⟨g, 0, none⟩), .pointer (some ⟨g, 0, none⟩), .pointer (some ⟨g, 0, none⟩), .pointer (some ⟨g, 8, none⟩), .string (bs b), .int .i64 ((b.length : Nat) : Int), .int .i64 ((239 - b.length : Nat) : Int), .int .i64 (((239 - b.length) % 128 : Nat) : Int), .int .i64 (((239 - b.length) % 128 : Nat) : Int), .int .i64 ((1 + (239 - b.length) % 128 : Nat) : Int), .int .i64 ((1 + (239 - b.length) % 128 + 16 : Nat) : Int), .slice (some ⟨g12, 0, none⟩) (1 + (239 - b.length) % 128 + 16) (1 + (239 - b.length) % 128 + 16), .slice (some ⟨g12, 0, none⟩) (1 + (239 - b.length) % 128 + 16) (1 + (239 - b.length) % 128 + 16), .pointer (some ⟨g12, 0, none⟩), .int .i64 ((8 : Nat) : Int), .bool false, u21 33, u21 34, u21 35, u21 36, u21 37, u21 38, u21 39, u21 40, u21 41, u21 42, u21 43, u21 44, u21 45, u21 46, .pointer (some ⟨g, 0, none⟩), .slice (some ⟨g12, 0, none⟩) (1 + (239 - b.length) % 128 + 16) (1 + (239 - b.length) % 128 + 16), .string (bs (tailLq b.length n)), .tuple #[], .pointer (some ⟨g, 0, none⟩), .pointer (some ⟨g, 0, none⟩), .pointer (some ⟨g, 0, none⟩), .pointer (some ⟨g, 0, none⟩), .agg ([.int .u64 ((S.a : Nat) : Int), .int .u64 ((S.b : Nat) : Int), .int .u64 ((S.c : Nat) : Int), .int .u64 ((S.d : Nat) : Int), .int .u64 ((S.e : Nat) : Int), .int .u64 ((S.f : Nat) : Int), .int .u64 ((S.g : Nat) : Int), .int .u64 ((S.h : Nat) : Int)]).toArray, .int .i64 ((i : Nat) : Int), .bool true, .int .u64 ((S.get i : Nat) : Int), .int .i64 ((j : Nat) : Int), u55 60, u55 61, u55 62, u55 63, u55 64, u55 65, u55 66, u55 67, u55 68, u55 69, u39 70, Z8], defers := [] } ∧ Mem [g] w W9 [⟨g, 10, []⟩] ∧ (j ≤ 8) ∧ (Lib.IsBuilder 107 5 w31.heap.size g34 (Lib.byteCells ((outSq S).take (8 * i + j))) W9) ∧ (w31.heap.size ≤ W9.heap.size)) (8 - (0)) ?_ (fun n9 a9 W9 hI => ?_)
   ·
    exact ⟨0, (fun q9 => (#[Z8, Z8, Z8, Z8, Z8, Z8, Z8, Z8, Z8, Z8, u39 10, Z8, Z8, Z8, Z8, Z8, Z8, Z8, Z8, Z8, Z8, Z8, Z8, Z8, Z8, Z8, Z8, Z8, Z8, Z8, Z8, Z8, Z8, Z8, Z8, Z8, Z8, Z8, Z8, Z8, Z8, Z8, Z8, Z8, Z8, Z8, Z8, Z8, Z8, Z8, Z8, Z8, Z8, Z8, Z8, Z8, Z8, Z8, Z8, Z8, u39 60, u39 61, u39 62, u39 63, u39 64, u39 65, u39 66, u39 67, u39 68, u39 69] : Array Value).getD q9 Z8), rfl, rfl, M, (by omega), IB, HB9⟩
   clear M
   obtain ⟨j, u55, rfl, rfl, M, hj4, IB, HB9⟩ := hI
   obtain ⟨w56, rfl⟩ : ∃ W8, W8 = W9 := ⟨_, rfl⟩
   refine Z9 (fun K57 hK57 => ?_)
   refine Z13 ?_
   refine Z16 1 (by rfl) (fun Lk hLk => ?_)
   simp only [Z6, Z7]
   refine Z20 (v := .bool (decide (j < 8))) (by rfl) rfl rfl rfl (fun W => run_lssN j 8 _ _ W) ?_
   simp only [Z12, Z5]
   refine Z19 (hLk _ (fun w59 Sw59 => ?_))
   clear hLk Lk
   simp only [Z6, Z7]
   replace M := M.sees Sw59
   replace IB := isB_sees IB Sw59; replace HB9 := Z2 HB9 Sw59.2.2.size
   refine Z14 (Z15 ?_)
   refine hK57 _ _ ?_
   refine Z9 (fun K60 hK60 => ?_)
   cases hc61 : (decide (j < 8))
   ·
    have ej : j = 8 := by have := of_decide_eq_false hc61; omega
    subst ej
    refine Z11 rfl ?_
    refine wp_exit ?_
    refine hK49 _ _ ?_
    refine Z13 ?_
    refine Z16 1 (by rfl) (fun Lk hLk => ?_)
    simp only [Z6, Z7]
    refine Z20 (v := .int .i64 ((i + 1 : Nat) : Int)) (by rfl) rfl rfl rfl (fun W => run_add (by simp only [IntKind.wrap_i64]; omega) W) ?_
    simp only [Z12, Z5]
    refine Z19 (hLk _ (fun w63 Sw63 => ?_))
    clear hLk Lk
    simp only [Z6, Z7]
    replace M := M.sees Sw63
    replace IB := isB_sees IB Sw63; replace HB9 := Z2 HB9 Sw63.2.2.size
    refine Z17 (v := .int .i64 ((i + 1 : Nat) : Int)) (by rfl) (by rfl) (by rfl) ?_
    simp only [Z12, Z5]
    refine Z14 (Z15 ?_)
    refine Exists.intro _ ⟨?_, (i + 1), (fun q9 => (#[Z8, Z8, Z8, Z8, Z8, Z8, Z8, Z8, Z8, .int .u64 ((S.get i : Nat) : Int), u55 10, Z8, Z8, Z8, Z8, Z8, Z8, Z8, Z8, Z8, Z8, Z8, Z8, Z8, Z8, Z8, Z8, Z8, Z8, Z8, Z8, Z8, Z8, Z8, Z8, Z8, Z8, Z8, Z8, Z8, Z8, Z8, Z8, Z8, Z8, Z8, Z8, Z8, Z8, Z8, Z8, Z8, Z8, Z8, Z8, Z8, Z8, .bool true, .int .u64 ((S.get i : Nat) : Int), .int .i64 ((8 : Nat) : Int), .bool false, u55 61, u55 62, u55 63, u55 64, u55 65, u55 66, u55 67, u55 68, u55 69, .int .i64 ((i + 1 : Nat) : Int)] : Array Value).getD q9 Z8), rfl, rfl, M, (by omega), IB, HB9⟩
    omega
   ·
    have hj : j < 8 := of_decide_eq_true hc61
    refine Z10 rfl ?_
    refine wp_skip ?_
    refine hK60 _ _ ?_
    refine Z9 (fun K64 hK64 => ?_)
    refine wp_block ?_
    refine Z9 (fun K65 hK65 => ?_)
    refine Z13 ?_
    refine Z17 (v := .int .i64 ((j : Nat) : Int)) (by rfl) (by rfl) (by rfl) ?_
    simp only [Z12, Z5]
    refine Z18 (v := .int .i64 ((j : Nat) : Int)) (by rfl) (by rfl) (by rfl) ?_
    simp only [Z12, Z5]
    refine Z14 (Z15 ?_)
    refine hK65 _ _ ?_
    refine Z13 ?_
    refine Z17 (v := .int .u64 ((S.get i : Nat) : Int)) (by rfl) (by rfl) (by rfl) ?_
    simp only [Z12, Z5]
    refine Z17 (v := .int .i64 ((j : Nat) : Int)) (by rfl) (by rfl) (by rfl) ?_
    simp only [Z12, Z5]
    refine Z16 4 (by rfl) (fun Lk hLk => ?_)
    simp only [Z6, Z7]
    refine Z20 (v := .int .i64 ((7 - j : Nat) : Int)) (by rfl) rfl rfl rfl (fun W => run_sub (by simp only [IntKind.wrap_i64]; omega) W) ?_
    simp only [Z12, Z5]
    refine Z20 (v := .int .i64 ((8 * (7 - j) : Nat) : Int)) (by rfl) rfl rfl rfl (fun W => run_mul (by simp only [IntKind.wrap_i64]; omega) W) ?_
    simp only [Z12, Z5]
    refine Z20 (v := .int .u64 (((S.get i) / 2 ^ (8 * (7 - j)) : Nat) : Int)) (by rfl) rfl rfl rfl (fun W => nr_shr64 (x := S.get i) (n := 8 * (7 - j)) (by omega) W) ?_
    simp only [Z12, Z5]
    refine wpV_conv (d := .bool) (e := ((((S.get i) / 2 ^ (8 * (7 - j))) % 256 : Nat) : Int)) (by rfl) rfl rfl (run_conv_int Tryd.underlying40 Tryd.underlying5 (wrap_u8N _)) ?_
    simp only [Z12, Z5]
    refine Z19 (hLk _ (fun w68 Sw68 => ?_))
    clear hLk Lk
    simp only [Z6, Z7]
    replace M := M.sees Sw68
    replace IB := isB_sees IB Sw68; replace HB9 := Z2 HB9 Sw68.2.2.size
    refine wpL_callM (f := 99) (args := #[.pointer (some ⟨g34, 0, none⟩), .int .u8 ((((S.get i) / 2 ^ (8 * (7 - j))) % 256 : Nat) : Int)]) (R := fun v9 W9 => v9 = .nilIface ∧ Lib.IsBuilder 107 5 w31.heap.size g34 ((Lib.byteCells ((outSq S).take (8 * i + j))) ++ [.int .u8 ((((S.get i) / 2 ^ (8 * (7 - j))) % 256 : Nat) : Int)]) W9 ∧ Below w31.heap.size w68 W9) (by rfl) (by rfl) rfl Tryd.func99 (by kernel_rfl) (by kernel_rfl) ((writeByte_c w31.heap.size g34 _ _ w68 IB (by rw [Lib.byteCells_length, List.length_take, outS_lenq]; omega) HB9).mono fun e W9 h => ⟨_, h.1, rfl, .inr h.2.1, h.2.2⟩) (fun v9 w69 h9 => ?_)
    obtain ⟨rfl, IB2, hBw⟩ := h9
    replace IB := IB2; clear IB2
    replace M := M.belowB hBw hsz hl9
    replace HB9 := Z2 HB9 hBw.size
    simp only [Z12, Z5]
    refine Z14 (Z15 ?_)
    refine hK64 _ _ ?_
    refine Z13 ?_
    refine Z16 1 (by rfl) (fun Lk hLk => ?_)
    simp only [Z6, Z7]
    refine Z20 (v := .int .i64 ((j + 1 : Nat) : Int)) (by rfl) rfl rfl rfl (fun W => run_add (by simp only [IntKind.wrap_i64]; omega) W) ?_
    simp only [Z12, Z5]
    refine Z19 (hLk _ (fun w71 Sw71 => ?_))
    clear hLk Lk
    simp only [Z6, Z7]
    replace M := M.sees Sw71
    replace IB := isB_sees IB Sw71; replace HB9 := Z2 HB9 Sw71.2.2.size
    refine Z17 (v := .int .i64 ((j + 1 : Nat) : Int)) (by rfl) (by rfl) (by rfl) ?_
    simp only [Z12, Z5]
    refine Z14 (Z15 ?_)
    refine Exists.intro _ ⟨?_, (j + 1), (fun q9 => (#[Z8, Z8, Z8, Z8, Z8, Z8, Z8, Z8, Z8, Z8, .int .i64 ((j : Nat) : Int), Z8, Z8, Z8, Z8, Z8, Z8, Z8, Z8, Z8, Z8, Z8, Z8, Z8, Z8, Z8, Z8, Z8, Z8, Z8, Z8, Z8, Z8, Z8, Z8, Z8, Z8, Z8, Z8, Z8, Z8, Z8, Z8, Z8, Z8, Z8, Z8, Z8, Z8, Z8, Z8, Z8, Z8, Z8, Z8, Z8, Z8, Z8, Z8, Z8, .bool true, .int .i64 ((j : Nat) : Int), .int .u64 ((S.get i : Nat) : Int), .int .i64 ((j : Nat) : Int), .int .i64 ((7 - j : Nat) : Int), .int .i64 ((8 * (7 - j) : Nat) : Int), .int .u64 (((S.get i) / 2 ^ (8 * (7 - j)) : Nat) : Int), .int .u8 ((((S.get i) / 2 ^ (8 * (7 - j))) % 256 : Nat) : Int), .nilIface, .int .i64 ((j + 1 : Nat) : Int)] : Array Value).getD q9 Z8), rfl, rfl, M, (by omega), (by rw [show Lib.byteCells = bcells from rfl, out_stepq S hi hj] at IB; exact IB), HB9⟩
    omega
 ·
  have hq : q < 8 := of_decide_eq_true hc27
  refine Z10 rfl ?_
  refine wp_skip ?_
  refine hK26 _ _ ?_
  refine Z9 (fun K72 hK72 => ?_)
  refine wp_block ?_
  refine Z9 (fun K73 hK73 => ?_)
  refine Z13 ?_
  refine Z17 (v := .int .i64 ((q : Nat) : Int)) (by rfl) (by rfl) (by rfl) ?_
  simp only [Z12, Z5]
  refine Z18 (v := .int .i64 ((q : Nat) : Int)) (by rfl) (by rfl) (by rfl) ?_
  simp only [Z12, Z5]
  refine Z14 (Z15 ?_)
  refine hK73 _ _ ?_
  refine Z13 ?_
  refine Z17 (v := .slice (some ⟨g12, 0, none⟩) (1 + (239 - b.length) % 128 + 16) (1 + (239 - b.length) % 128 + 16)) (by rfl) (by rfl) (by rfl) ?_
  simp only [Z12, Z5]
  refine Z17 (v := .slice (some ⟨g12, 0, none⟩) (1 + (239 - b.length) % 128 + 16) (1 + (239 - b.length) % 128 + 16)) (by rfl) (by rfl) (by rfl) ?_
  simp only [Z12, Z5]
  refine Z16 10 (by rfl) (fun Lk hLk => ?_)
  simp only [Z6, Z7]
  refine wpV_lenA (n := 1 + (239 - b.length) % 128 + 16) (by rfl) rfl rfl rfl Tryd.underlying29 ?_
  simp only [Z12, Z5]
  refine Z20 (v := .int .i64 (((1 + (239 - b.length) % 128 + 16) - 1 : Nat) : Int)) (by rfl) rfl rfl rfl (fun W => run_sub (by simp only [IntKind.wrap_i64]; omega) W) ?_
  simp only [Z12, Z5]
  refine Z21 (v := .int .i64 ((q : Nat) : Int)) (by rfl) rfl rfl ?_
  simp only [Z12, Z5]
  refine Z20 (v := .int .i64 ((((1 + (239 - b.length) % 128 + 16) - 1) - q : Nat) : Int)) (by rfl) rfl rfl rfl (fun W => run_sub (by simp only [IntKind.wrap_i64]; omega) W) ?_
  simp only [Z12, Z5]
  refine Z21 (v := .int .u64 (((n * 8) % 18446744073709551616 : Nat) : Int)) (by rfl) rfl rfl ?_
  simp only [Z12, Z5]
  refine Z21 (v := .int .i64 ((q : Nat) : Int)) (by rfl) rfl rfl ?_
  simp only [Z12, Z5]
  refine Z20 (v := .int .i64 ((8 * q : Nat) : Int)) (by rfl) rfl rfl rfl (fun W => run_mul (by simp only [IntKind.wrap_i64]; omega) W) ?_
  simp only [Z12, Z5]
  refine Z20 (v := .int .u64 ((((n * 8) % 18446744073709551616) / 2 ^ (8 * q) : Nat) : Int)) (by rfl) rfl rfl rfl (fun W => nr_shr64 (x := (n * 8) % 18446744073709551616) (n := 8 * q) (by omega) W) ?_
  simp only [Z12, Z5]
  refine wpV_conv (d := .bool) (e := (((((n * 8) % 18446744073709551616) / 2 ^ (8 * q)) % 256 : Nat) : Int)) (by rfl) rfl rfl (run_conv_int Tryd.underlying40 Tryd.underlying5 (wrap_u8N _)) ?_
  simp only [Z12, Z5]
  refine wpV_idxs (n := ((1 + (239 - b.length) % 128 + 16) - 1) - q) (by rfl) rfl rfl rfl Tryd.underlying29 info5 (by omega) ?_
  simp only [Z1]
  simp only [Z12, Z5]
  refine Z19 (hLk _ (fun w76 Sw76 => ?_))
  clear hLk Lk
  simp only [Z6, Z7]
  replace M := M.sees Sw76
  refine Z23 (g := g12) (off := ((1 + (239 - b.length) % 128 + 16) - 1) - q) (n := 1 + (239 - b.length) % 128 + 16) (v := .int .u8 (((((n * 8) % 18446744073709551616) / 2 ^ (8 * q)) % 256 : Nat) : Int)) (by rfl) (by rfl) (by rfl) (by rfl) (by rfl) (M.t 0 rfl) (by omega) info5 rfl (fun w77 P R T => ?_)
  replace M := M.put1 (j := ((1 + (239 - b.length) % 128 + 16) - 1) - q) 0 rfl P R T (Z1 _).symm
  simp only [Z5] at M
  rw [tail_stepq _ _ hq] at M
  refine Z14 (Z15 ?_)
  refine hK72 _ _ ?_
  refine Z13 ?_
  refine Z16 1 (by rfl) (fun Lk hLk => ?_)
  simp only [Z6, Z7]
  refine Z20 (v := .int .i64 ((q + 1 : Nat) : Int)) (by rfl) rfl rfl rfl (fun W => run_add (by simp only [IntKind.wrap_i64]; omega) W) ?_
  simp only [Z12, Z5]
  refine Z19 (hLk _ (fun w79 Sw79 => ?_))
  clear hLk Lk
  simp only [Z6, Z7]
  replace M := M.sees Sw79
  refine Z17 (v := .int .i64 ((q + 1 : Nat) : Int)) (by rfl) (by rfl) (by rfl) ?_
  simp only [Z12, Z5]
  refine Z14 (Z15 ?_)
  refine Exists.intro _ ⟨?_, (q + 1), (fun q9 => (#[Z8, Z8, Z8, Z8, Z8, Z8, .int .i64 ((q : Nat) : Int), Z8, Z8, Z8, Z8, Z8, Z8, Z8, Z8, Z8, Z8, Z8, Z8, Z8, Z8, Z8, Z8, Z8, Z8, Z8, Z8, Z8, Z8, Z8, Z8, Z8, .bool true, .int .i64 ((q : Nat) : Int), .slice (some ⟨g12, 0, none⟩) (1 + (239 - b.length) % 128 + 16) (1 + (239 - b.length) % 128 + 16), .slice (some ⟨g12, 0, none⟩) (1 + (239 - b.length) % 128 + 16) (1 + (239 - b.length) % 128 + 16), .int .i64 ((1 + (239 - b.length) % 128 + 16 : Nat) : Int), .int .i64 (((1 + (239 - b.length) % 128 + 16) - 1 : Nat) : Int), .int .i64 ((q : Nat) : Int), .int .i64 ((((1 + (239 - b.length) % 128 + 16) - 1) - q : Nat) : Int), .int .u64 (((n * 8) % 18446744073709551616 : Nat) : Int), .int .i64 ((q : Nat) : Int), .int .i64 ((8 * q : Nat) : Int), .int .u64 ((((n * 8) % 18446744073709551616) / 2 ^ (8 * q) : Nat) : Int), .int .u8 (((((n * 8) % 18446744073709551616) / 2 ^ (8 * q)) % 256 : Nat) : Int), .pointer (some ⟨g12, ((1 + (239 - b.length) % 128 + 16) - 1) - q, none⟩), .int .i64 ((q + 1 : Nat) : Int)] : Array Value).getD q9 Z8), rfl, rfl, M, (by omega)⟩
  omega
end Go.Proofs.Yc

