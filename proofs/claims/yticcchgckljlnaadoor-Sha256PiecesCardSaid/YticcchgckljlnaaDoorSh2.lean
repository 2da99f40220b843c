import Derived.WalkKit
import Derived.WalkSpells
import Derived.Laws.Pointers
import Derived.RowKit3
import Derived.Below
import Derived.Outline
import Derived.LoopN
import Derived.Lib.Hide
import Derived.Handy
import Derived.Laws.Bits64b
import Derived.Test.YticcchgckljlnaaDoorSh1
set_option linter.unusedSimpArgs false
set_option linter.unusedVariables false
namespace Go.Proofs.Yb
open Go Go.RowKit Go.Proofs.Num
set_option maxHeartbeats 4000000 in
theorem mix_c {g n : Nat} {h : S8} {b l : List UInt8} {w : World} (hh : h.Ok) (hl : 64 ≤ l.length) (hg : g ≠ 0) (L0 : 0 < w.heap.size) (R0_0 : w.rangeAt 0 0 kcells) (hM : Mem [g] w w [⟨g, 10, [(0, [.int .u32 ((h.a : Nat) : Int), .int .u32 ((h.b : Nat) : Int), .int .u32 ((h.c : Nat) : Int), .int .u32 ((h.d : Nat) : Int), .int .u32 ((h.e : Nat) : Int), .int .u32 ((h.f : Nat) : Int), .int .u32 ((h.g : Nat) : Int), .int .u32 ((h.h : Nat) : Int)]), (8, [.string (bs b)]), (9, [.int .u64 ((n : Nat) : Int)])]⟩]) :
    Calls Tryd.prog 88 #[.pointer (some ⟨g, 0, none⟩), .string (bs l)] w fun e w' => ∃ v, e = .returned v ∧ v = .tuple #[] ∧ Mem [g] w w' [⟨g, 10, [(0, [.int .u32 (((mixS h l).a : Nat) : Int), .int .u32 (((mixS h l).b : Nat) : Int), .int .u32 (((mixS h l).c : Nat) : Int), .int .u32 (((mixS h l).d : Nat) : Int), .int .u32 (((mixS h l).e : Nat) : Int), .int .u32 (((mixS h l).f : Nat) : Int), .int .u32 (((mixS h l).g : Nat) : Int), .int .u32 (((mixS h l).h : Nat) : Int)]), (8, [.string (bs b)]), (9, [.int .u64 ((n : Nat) : Int)])]⟩] := by
  go_enter Tryd.func88, Tryd.ntmps88
  have M := hM
  refine wp_seq_k (fun K1 hK1 => ?_)
  refine wp_region_seq ?_
  refine wpL_move (v := .string (bs l)) (by rfl) (by rfl) (by rfl) ?_
  simp only [putT, List.set]
  refine wpL_chunk 1 (by rfl) (fun Lk hLk => ?_)
  simp only [List.take, List.drop]
  refine wpV_callf (v := .agg (wcells l 64).toArray) (args := #[.string (bs l)]) (by rfl) rfl Tryd.func104 (by kernel_rfl) (by kernel_rfl) rfl (fun W hW => spread_c hl) ?_
  simp only [putT, List.set]
  refine wpV_nil (hLk _ (fun w3 Sw3 => ?_))
  clear hLk Lk
  simp only [List.take, List.drop]
  replace M := M.sees Sw3
  refine wpL_var (t := 119) (cs := [.int .u32 0, .int .u32 0, .int .u32 0, .int .u32 0, .int .u32 0, .int .u32 0, .int .u32 0, .int .u32 0, .int .u32 0, .int .u32 0, .int .u32 0, .int .u32 0, .int .u32 0, .int .u32 0, .int .u32 0, .int .u32 0, .int .u32 0, .int .u32 0, .int .u32 0, .int .u32 0, .int .u32 0, .int .u32 0, .int .u32 0, .int .u32 0, .int .u32 0, .int .u32 0, .int .u32 0, .int .u32 0, .int .u32 0, .int .u32 0, .int .u32 0, .int .u32 0, .int .u32 0, .int .u32 0, .int .u32 0, .int .u32 0, .int .u32 0, .int .u32 0, .int .u32 0, .int .u32 0, .int .u32 0, .int .u32 0, .int .u32 0, .int .u32 0, .int .u32 0, .int .u32 0, .int .u32 0, .int .u32 0, .int .u32 0, .int .u32 0, .int .u32 0, .int .u32 0, .int .u32 0, .int .u32 0, .int .u32 0, .int .u32 0, .int .u32 0, .int .u32 0, .int .u32 0, .int .u32 0, .int .u32 0, .int .u32 0, .int .u32 0, .int .u32 0]) (by rfl) (fun W => ?_) (fun g4 w5 Sw5 Hg4 Bg4 => ?_)
  · go_simp
  replace M := ((M.sees Sw5).add (cs := [.int .u32 0, .int .u32 0, .int .u32 0, .int .u32 0, .int .u32 0, .int .u32 0, .int .u32 0, .int .u32 0, .int .u32 0, .int .u32 0, .int .u32 0, .int .u32 0, .int .u32 0, .int .u32 0, .int .u32 0, .int .u32 0, .int .u32 0, .int .u32 0, .int .u32 0, .int .u32 0, .int .u32 0, .int .u32 0, .int .u32 0, .int .u32 0, .int .u32 0, .int .u32 0, .int .u32 0, .int .u32 0, .int .u32 0, .int .u32 0, .int .u32 0, .int .u32 0, .int .u32 0, .int .u32 0, .int .u32 0, .int .u32 0, .int .u32 0, .int .u32 0, .int .u32 0, .int .u32 0, .int .u32 0, .int .u32 0, .int .u32 0, .int .u32 0, .int .u32 0, .int .u32 0, .int .u32 0, .int .u32 0, .int .u32 0, .int .u32 0, .int .u32 0, .int .u32 0, .int .u32 0, .int .u32 0, .int .u32 0, .int .u32 0, .int .u32 0, .int .u32 0, .int .u32 0, .int .u32 0, .int .u32 0, .int .u32 0, .int .u32 0, .int .u32 0]) (M.ge Hg4) (M.fresh Hg4) Bg4 rfl)
  clear Bg4
  simp only [putT, List.set]
  refine wpL_store (g := g4) (off := 0) (n := 64) (cs := wcells l 64) (by rfl) (by rfl) (by rfl) (by rfl) (by rfl) (M.t 0 rfl) (by rw [wcells_len]; decide) info119 (wcells_one _ _) (fun w6 P R T => ?_)
  replace M := M.putS 0 0 rfl P R T rfl ⟨.inl rfl, trivial⟩
  simp only [List.set] at M
  refine wpL_nil (no_panic ?_)
  refine hK1 _ _ ?_
  refine wp_seq_k (fun K7 hK7 => ?_)
  refine wp_region_seq ?_
  refine wpL_move (v := .pointer (some ⟨g, 0, none⟩)) (by rfl) (by rfl) (by rfl) ?_
  simp only [putT, List.set]
  refine wpL_chunk 4 (by rfl) (fun Lk hLk => ?_)
  simp only [List.take, List.drop]
  refine wpV_nilCheck (by rfl) rfl rfl ?_
  simp only [putT, List.set]
  refine wpV_val (v := .pointer (some ⟨g, 0, none⟩)) (by rfl) (by rfl) (fun W hW => ?_) ?_
  · (go_simp; exact rfl)
  simp only [putT, List.set]
  refine wpV_val (v := .pointer (some ⟨g, 0, none⟩)) (by rfl) (by rfl) (fun W hW => ?_) ?_
  · (go_simp; exact rfl)
  simp only [putT, List.set]
  refine wpV_load (cs := [.int .u32 ((h.a : Nat) : Int), .int .u32 ((h.b : Nat) : Int), .int .u32 ((h.c : Nat) : Int), .int .u32 ((h.d : Nat) : Int), .int .u32 ((h.e : Nat) : Int), .int .u32 ((h.f : Nat) : Int), .int .u32 ((h.g : Nat) : Int), .int .u32 ((h.h : Nat) : Int)]) (by rfl) rfl rfl (M.r 1 0 rfl rfl) (M.lt 1 rfl) Tryd.underlying26 rfl info26 ?_
  simp only [putT, List.set]
  refine wpV_nil (hLk _ (fun w9 Sw9 => ?_))
  clear hLk Lk
  simp only [List.take, List.drop]
  replace M := M.sees Sw9
  refine wpL_var (t := 26) (cs := [.int .u32 0, .int .u32 0, .int .u32 0, .int .u32 0, .int .u32 0, .int .u32 0, .int .u32 0, .int .u32 0]) (by rfl) (fun W => ?_) (fun g10 w11 Sw11 Hg10 Bg10 => ?_)
  · go_simp
  replace M := ((M.sees Sw11).add (cs := [.int .u32 0, .int .u32 0, .int .u32 0, .int .u32 0, .int .u32 0, .int .u32 0, .int .u32 0, .int .u32 0]) (M.ge Hg10) (M.fresh Hg10) Bg10 rfl)
  clear Bg10
  simp only [putT, List.set]
  refine wpL_store (g := g10) (off := 0) (n := 8) (cs := [.int .u32 ((h.a : Nat) : Int), .int .u32 ((h.b : Nat) : Int), .int .u32 ((h.c : Nat) : Int), .int .u32 ((h.d : Nat) : Int), .int .u32 ((h.e : Nat) : Int), .int .u32 ((h.f : Nat) : Int), .int .u32 ((h.g : Nat) : Int), .int .u32 ((h.h : Nat) : Int)]) (by rfl) (by rfl) (by rfl) (by rfl) (by rfl) (M.t 0 rfl) (by simp [flen]) info26 (by simp [fone, Value.oneCell']) (fun w12 P R T => ?_)
  replace M := M.putS 0 0 rfl P R T rfl ⟨.inl rfl, trivial⟩
  simp only [List.set] at M
  refine wpL_nil (no_panic ?_)
  refine hK7 _ _ ?_
  refine wp_seq_k (fun K13 hK13 => ?_)
  refine wp_seq_k (fun K14 hK14 => ?_)
  refine wp_region_seq ?_
  refine wpL_move (v := .int .i64 0) (by rfl) (by rfl) (by rfl) ?_
  simp only [putT, List.set]
  refine wpL_nil (no_panic ?_)
  refine hK14 _ _ ?_
  refine wp_block ?_
  refine wp_loop_ghost (fun n9 a9 W9 => ∃ (t : Nat) (v : S8) (u16 : Nat → Value), n9 = 64 - t ∧ a9 = { tmps := #[.pointer (some ⟨g, 0, none⟩), .string (bs l), undef, undef, .pointer (some ⟨g4, 0, none⟩), .pointer (some ⟨g10, 0, none⟩), u16 6, u16 7, u16 8, u16 9, u16 10, undef, .string (bs l), .agg (wcells l 64).toArray, .pointer (some ⟨g, 0, none⟩), .pointer (some ⟨g, 0, none⟩), .pointer (some ⟨g, 0, none⟩), .pointer (some ⟨g, 0, none⟩), .agg ([.int .u32 ((h.a : Nat) : Int), .int .u32 ((h.b : Nat) : Int), .int .u32 ((h.c : Nat) : Int), .int .u32 ((h.d : Nat) : Int), .int .u32 ((h.e : Nat) : Int), .int .u32 ((h.f : Nat) : Int), .int .u32 ((h.g : Nat) : Int), .int .u32 ((h.h : Nat) : Int)]).toArray, .int .i64 ((t : Nat) : Int), u16 20, u16 21, u16 22, u16 23, u16 24, u16 25, u16 26, u16 27, u16 28, u16 29, u16 30, u16 31, u16 32, u16 33, u16 34, u16 35, u16 36, u16 37, u16 38, u16 39, u16 40, u16 41, u16 42, u16 43, u16 44, u16 45, u16 46, u16 47, u16 48, u16 49, u16 50, u16 51, u16 52, u16 53, u16 54, u16 55, u16 56, u16 57, u16 58, u16 59, u16 60, u16 61, u16 62, u16 63, u16 64, u16 65, u16 66, u16 67, u16 68, u16 69, u16 70, u16 71, u16 72, u16 73, u16 74, u16 75, u16 76, u16 77, u16 78, u16 79, u16 80, u16 81, u16 82, u16 83, u16 84, u16 85, u16 86, u16 87, u16 88, u16 89, u16 90, u16 91, u16 92, u16 93, u16 94, u16 95, u16 96, u16 97, u16 98, undef, undef, undef, undef, undef, undef, undef, undef, undef, undef, undef, undef, undef, undef, undef, undef, undef, undef, undef], defers := [] } ∧ Mem [g] w W9 [⟨g10, 8, [(0, [.int .u32 ((v.a : Nat) : Int), .int .u32 ((v.b : Nat) : Int), .int .u32 ((v.c : Nat) : Int), .int .u32 ((v.d : Nat) : Int), .int .u32 ((v.e : Nat) : Int), .int .u32 ((v.f : Nat) : Int), .int .u32 ((v.g : Nat) : Int), .int .u32 ((v.h : Nat) : Int)])]⟩, ⟨g4, 64, [(0, wcells l 64)]⟩, ⟨g, 10, [(0, [.int .u32 ((h.a : Nat) : Int), .int .u32 ((h.b : Nat) : Int), .int .u32 ((h.c : Nat) : Int), .int .u32 ((h.d : Nat) : Int), .int .u32 ((h.e : Nat) : Int), .int .u32 ((h.f : Nat) : Int), .int .u32 ((h.g : Nat) : Int), .int .u32 ((h.h : Nat) : Int)]), (8, [.string (bs b)]), (9, [.int .u64 ((n : Nat) : Int)])]⟩] ∧ (t ≤ 64) ∧ (v = rnds l h t)) (64 - (0)) ?_ (fun n9 a9 W9 hI => ?_)
  · exact ⟨0, h, (fun q9 => (#[undef, undef, undef, undef, undef, undef, undef, undef, undef, undef, undef, undef, undef, undef, undef, undef, undef, undef, undef, undef, undef, undef, undef, undef, undef, undef, undef, undef, undef, undef, undef, undef, undef, undef, undef, undef, undef, undef, undef, undef, undef, undef, undef, undef, undef, undef, undef, undef, undef, undef, undef, undef, undef, undef, undef, undef, undef, undef, undef, undef, undef, undef, undef, undef, undef, undef, undef, undef, undef, undef, undef, undef, undef, undef, undef, undef, undef, undef, undef, undef, undef, undef, undef, undef, undef, undef, undef, undef, undef, undef, undef, undef, undef, undef, undef, undef, undef, undef, undef] : Array Value).getD q9 undef), rfl, rfl, M, (by omega), rfl⟩
  clear M
  obtain ⟨t, v, u16, rfl, rfl, M, ht4, hv⟩ := hI
  obtain ⟨w17, rfl⟩ : ∃ W8, W8 = W9 := ⟨_, rfl⟩
  have hok : v.Ok := hv ▸ rnds_ok hh t
  refine wp_seq_k (fun K18 hK18 => ?_)
  refine wp_region_seq ?_
  refine wpL_chunk 1 (by rfl) (fun Lk hLk => ?_)
  simp only [List.take, List.drop]
  refine wpV_bin (v := .bool (decide (t < 64))) (by rfl) rfl rfl rfl (fun W => run_lssN t 64 _ _ W) ?_
  simp only [putT, List.set]
  refine wpV_nil (hLk _ (fun w20 Sw20 => ?_))
  clear hLk Lk
  simp only [List.take, List.drop]
  replace M := M.sees Sw20
  refine wpL_nil (no_panic ?_)
  refine hK18 _ _ ?_
  refine wp_seq_k (fun K21 hK21 => ?_)
  cases hc22 : (decide (t < 64))
  · skip
    have et : t = 64 := by have := of_decide_eq_false hc22; omega
    subst et
    subst hv
    refine wp_cond_false rfl ?_
    refine wp_exit ?_
    refine hK13 _ _ ?_
    refine wp_seq_k (fun K23 hK23 => ?_)
    refine wp_region_seq ?_
    refine wpL_move (v := .int .i64 0) (by rfl) (by rfl) (by rfl) ?_
    simp only [putT, List.set]
    refine wpL_nil (no_panic ?_)
    refine hK23 _ _ ?_
    refine wp_block ?_
    refine wp_loop_rounds 9 ?_
    rw [rounds_succ]
    refine wp_seq_k (fun K25 hK25 => ?_)
    refine wp_region_seq ?_
    refine wpL_chunk 1 (by rfl) (fun Lk hLk => ?_)
    simp only [List.take, List.drop]
    refine wpV_bin (v := .bool true) (by rfl) rfl rfl rfl (fun W => run_lss _ _ _ _ W) ?_
    simp only [putT, List.set]
    refine wpV_nil (hLk _ (fun w27 Sw27 => ?_))
    clear hLk Lk
    simp only [List.take, List.drop]
    replace M := M.sees Sw27
    refine wpL_nil (no_panic ?_)
    refine hK25 _ _ ?_
    refine wp_seq_k (fun K28 hK28 => ?_)
    refine wp_cond_true rfl ?_
    refine wp_skip ?_
    refine hK28 _ _ ?_
    refine wp_seq_k (fun K29 hK29 => ?_)
    refine wp_block ?_
    refine wp_seq_k (fun K30 hK30 => ?_)
    refine wp_region_seq ?_
    refine wpL_move (v := .int .i64 0) (by rfl) (by rfl) (by rfl) ?_
    simp only [putT, List.set]
    refine wpL_assign (v := .int .i64 0) (by rfl) (by rfl) (by rfl) ?_
    simp only [putT, List.set]
    refine wpL_nil (no_panic ?_)
    refine hK30 _ _ ?_
    refine wp_region_grow 15 [] (by kernel_rfl) (by kernel_rfl) (by kernel_rfl) (fun Lk hLk => ?_)
    simp only [List.take, List.drop]
    refine wpV_move (v := .pointer (some ⟨g, 0, none⟩)) (by rfl) rfl rfl ?_
    simp only [putT, List.set]
    refine wpV_move (v := .int .i64 0) (by rfl) rfl rfl ?_
    simp only [putT, List.set]
    refine wpV_nilCheck (by rfl) rfl rfl ?_
    simp only [putT, List.set]
    refine wpV_val (v := .pointer (some ⟨g, 0, none⟩)) (by rfl) (by rfl) (fun W hW => ?_) ?_
    · (go_simp; exact rfl)
    simp only [putT, List.set]
    refine wpV_val (v := .pointer (some ⟨g, 0, none⟩)) (by rfl) (by rfl) (fun W hW => ?_) ?_
    · (go_simp; exact rfl)
    simp only [putT, List.set]
    refine wpV_val (v := .pointer (some ⟨g, 0, none⟩)) (by rfl) (by rfl) (fun W hW => ?_) ?_
    · (go_simp; exact rfl)
    simp only [putT, List.set]
    refine wpV_load1 (v := .int .u32 ((h.a : Nat) : Int)) (by rfl) rfl rfl (range_one (range_sub (M.r 2 0 rfl rfl) 0 1 0 (xs := [.int .u32 ((h.a : Nat) : Int)]) rfl rfl)) (M.lt 2 rfl) Tryd.underlying25 rfl ?_
    simp only [putT, List.set]
    refine wpV_move (v := .int .i64 0) (by rfl) rfl rfl ?_
    simp only [putT, List.set]
    refine wpV_val (v := .pointer (some ⟨g10, 0, none⟩)) (by rfl) (by rfl) (fun W hW => ?_) ?_
    · (go_simp; exact rfl)
    simp only [putT, List.set]
    refine wpV_load1 (v := .int .u32 (((rnds l h 64).a : Nat) : Int)) (by rfl) rfl rfl (range_one (range_sub (M.r 0 0 rfl rfl) 0 1 0 (xs := [.int .u32 (((rnds l h 64).a : Nat) : Int)]) rfl rfl)) (M.lt 0 rfl) Tryd.underlying25 rfl ?_
    simp only [putT, List.set]
    refine wpV_bin (v := .int .u32 (((h.a + ((rnds l h 64).a)) % 4294967296 : Nat) : Int)) (by rfl) rfl rfl rfl (fun W => nr_add32 _ h.a ((rnds l h 64).a) W) ?_
    simp only [putT, List.set]
    refine wpV_nilCheck (by rfl) rfl rfl ?_
    simp only [putT, List.set]
    refine wpV_val (v := .pointer (some ⟨g, 0, none⟩)) (by rfl) (by rfl) (fun W hW => ?_) ?_
    · (go_simp; exact rfl)
    simp only [putT, List.set]
    refine wpV_val (v := .pointer (some ⟨g, 0, none⟩)) (by rfl) (by rfl) (fun W hW => ?_) ?_
    · (go_simp; exact rfl)
    simp only [putT, List.set]
    refine wpV_val (v := .pointer (some ⟨g, 0, none⟩)) (by rfl) (by rfl) (fun W hW => ?_) ?_
    · (go_simp; exact rfl)
    simp only [putT, List.set]
    refine wpV_nil (hLk.out _ ?_)
    clear hLk Lk
    simp only [List.take, List.drop]
    iterate 15 refine wpN_skip (by rfl) ?_
    refine wpN_nil (fun w33 Sw33 hbs => ?_)
    clear hbs
    replace M := M.sees Sw33
    refine wpL_store1 (g := g) (off := 0) (n := 10) (v := .int .u32 (((h.a + ((rnds l h 64).a)) % 4294967296 : Nat) : Int)) (by rfl) (by rfl) (by rfl) (by rfl) (by rfl) (M.t 2 rfl) (by decide) info25 rfl (fun w34 P R T => ?_)
    replace M := M.putI (i := 0) 2 0 rfl P R T rfl rfl (by simp) (by simp [SepS, flen])
    simp only [List.set] at M
    refine wpL_nil (no_panic ?_)
    refine hK29 _ _ ?_
    refine wp_region_seq ?_
    refine wpL_chunk 1 (by rfl) (fun Lk hLk => ?_)
    simp only [List.take, List.drop]
    refine wpV_bin (v := .int .i64 1) (by rfl) rfl rfl rfl (fun W => run_add (by decide) W) ?_
    simp only [putT, List.set]
    refine wpV_nil (hLk _ (fun w36 Sw36 => ?_))
    clear hLk Lk
    simp only [List.take, List.drop]
    replace M := M.sees Sw36
    refine wpL_move (v := .int .i64 1) (by rfl) (by rfl) (by rfl) ?_
    simp only [putT, List.set]
    refine wpL_nil (no_panic ?_)
    refine then_normal (Q := fun _ _ _ => True) ?_
    rw [rounds_succ]
    refine wp_seq_k (fun K37 hK37 => ?_)
    refine wp_region_seq ?_
    refine wpL_chunk 1 (by rfl) (fun Lk hLk => ?_)
    simp only [List.take, List.drop]
    refine wpV_bin (v := .bool true) (by rfl) rfl rfl rfl (fun W => run_lss _ _ _ _ W) ?_
    simp only [putT, List.set]
    refine wpV_nil (hLk _ (fun w39 Sw39 => ?_))
    clear hLk Lk
    simp only [List.take, List.drop]
    replace M := M.sees Sw39
    refine wpL_nil (no_panic ?_)
    refine hK37 _ _ ?_
    refine wp_seq_k (fun K40 hK40 => ?_)
    refine wp_cond_true rfl ?_
    refine wp_skip ?_
    refine hK40 _ _ ?_
    refine wp_seq_k (fun K41 hK41 => ?_)
    refine wp_block ?_
    refine wp_seq_k (fun K42 hK42 => ?_)
    refine wp_region_seq ?_
    refine wpL_move (v := .int .i64 1) (by rfl) (by rfl) (by rfl) ?_
    simp only [putT, List.set]
    refine wpL_assign (v := .int .i64 1) (by rfl) (by rfl) (by rfl) ?_
    simp only [putT, List.set]
    refine wpL_nil (no_panic ?_)
    refine hK42 _ _ ?_
    refine wp_region_grow 15 [] (by kernel_rfl) (by kernel_rfl) (by kernel_rfl) (fun Lk hLk => ?_)
    simp only [List.take, List.drop]
    refine wpV_move (v := .pointer (some ⟨g, 0, none⟩)) (by rfl) rfl rfl ?_
    simp only [putT, List.set]
    refine wpV_move (v := .int .i64 1) (by rfl) rfl rfl ?_
    simp only [putT, List.set]
    refine wpV_nilCheck (by rfl) rfl rfl ?_
    simp only [putT, List.set]
    refine wpV_val (v := .pointer (some ⟨g, 0, none⟩)) (by rfl) (by rfl) (fun W hW => ?_) ?_
    · (go_simp; exact rfl)
    simp only [putT, List.set]
    refine wpV_val (v := .pointer (some ⟨g, 0, none⟩)) (by rfl) (by rfl) (fun W hW => ?_) ?_
    · (go_simp; exact rfl)
    simp only [putT, List.set]
    refine wpV_val (v := .pointer (some ⟨g, 1, none⟩)) (by rfl) (by rfl) (fun W hW => ?_) ?_
    · (go_simp; exact rfl)
    simp only [putT, List.set]
    refine wpV_load1 (v := .int .u32 ((h.b : Nat) : Int)) (by rfl) rfl rfl (range_one (range_sub (M.r 2 0 rfl rfl) 1 1 1 (xs := [.int .u32 ((h.b : Nat) : Int)]) rfl rfl)) (M.lt 2 rfl) Tryd.underlying25 rfl ?_
    simp only [putT, List.set]
    refine wpV_move (v := .int .i64 1) (by rfl) rfl rfl ?_
    simp only [putT, List.set]
    refine wpV_val (v := .pointer (some ⟨g10, 1, none⟩)) (by rfl) (by rfl) (fun W hW => ?_) ?_
    · (go_simp; exact rfl)
    simp only [putT, List.set]
    refine wpV_load1 (v := .int .u32 (((rnds l h 64).b : Nat) : Int)) (by rfl) rfl rfl (range_one (range_sub (M.r 0 0 rfl rfl) 1 1 1 (xs := [.int .u32 (((rnds l h 64).b : Nat) : Int)]) rfl rfl)) (M.lt 0 rfl) Tryd.underlying25 rfl ?_
    simp only [putT, List.set]
    refine wpV_bin (v := .int .u32 (((h.b + ((rnds l h 64).b)) % 4294967296 : Nat) : Int)) (by rfl) rfl rfl rfl (fun W => nr_add32 _ h.b ((rnds l h 64).b) W) ?_
    simp only [putT, List.set]
    refine wpV_nilCheck (by rfl) rfl rfl ?_
    simp only [putT, List.set]
    refine wpV_val (v := .pointer (some ⟨g, 0, none⟩)) (by rfl) (by rfl) (fun W hW => ?_) ?_
    · (go_simp; exact rfl)
    simp only [putT, List.set]
    refine wpV_val (v := .pointer (some ⟨g, 0, none⟩)) (by rfl) (by rfl) (fun W hW => ?_) ?_
    · (go_simp; exact rfl)
    simp only [putT, List.set]
    refine wpV_val (v := .pointer (some ⟨g, 1, none⟩)) (by rfl) (by rfl) (fun W hW => ?_) ?_
    · (go_simp; exact rfl)
    simp only [putT, List.set]
    refine wpV_nil (hLk.out _ ?_)
    clear hLk Lk
    simp only [List.take, List.drop]
    iterate 15 refine wpN_skip (by rfl) ?_
    refine wpN_nil (fun w45 Sw45 hbs => ?_)
    clear hbs
    replace M := M.sees Sw45
    refine wpL_store1 (g := g) (off := 1) (n := 10) (v := .int .u32 (((h.b + ((rnds l h 64).b)) % 4294967296 : Nat) : Int)) (by rfl) (by rfl) (by rfl) (by rfl) (by rfl) (M.t 2 rfl) (by decide) info25 rfl (fun w46 P R T => ?_)
    replace M := M.putI (i := 1) 2 0 rfl P R T rfl rfl (by simp) (by simp [SepS, flen])
    simp only [List.set] at M
    refine wpL_nil (no_panic ?_)
    refine hK41 _ _ ?_
    refine wp_region_seq ?_
    refine wpL_chunk 1 (by rfl) (fun Lk hLk => ?_)
    simp only [List.take, List.drop]
    refine wpV_bin (v := .int .i64 2) (by rfl) rfl rfl rfl (fun W => run_add (by decide) W) ?_
    simp only [putT, List.set]
    refine wpV_nil (hLk _ (fun w48 Sw48 => ?_))
    clear hLk Lk
    simp only [List.take, List.drop]
    replace M := M.sees Sw48
    refine wpL_move (v := .int .i64 2) (by rfl) (by rfl) (by rfl) ?_
    simp only [putT, List.set]
    refine wpL_nil (no_panic ?_)
    refine then_normal (Q := fun _ _ _ => True) ?_
    rw [rounds_succ]
    refine wp_seq_k (fun K49 hK49 => ?_)
    refine wp_region_seq ?_
    refine wpL_chunk 1 (by rfl) (fun Lk hLk => ?_)
    simp only [List.take, List.drop]
    refine wpV_bin (v := .bool true) (by rfl) rfl rfl rfl (fun W => run_lss _ _ _ _ W) ?_
    simp only [putT, List.set]
    refine wpV_nil (hLk _ (fun w51 Sw51 => ?_))
    clear hLk Lk
    simp only [List.take, List.drop]
    replace M := M.sees Sw51
    refine wpL_nil (no_panic ?_)
    refine hK49 _ _ ?_
    refine wp_seq_k (fun K52 hK52 => ?_)
    refine wp_cond_true rfl ?_
    refine wp_skip ?_
    refine hK52 _ _ ?_
    refine wp_seq_k (fun K53 hK53 => ?_)
    refine wp_block ?_
    refine wp_seq_k (fun K54 hK54 => ?_)
    refine wp_region_seq ?_
    refine wpL_move (v := .int .i64 2) (by rfl) (by rfl) (by rfl) ?_
    simp only [putT, List.set]
    refine wpL_assign (v := .int .i64 2) (by rfl) (by rfl) (by rfl) ?_
    simp only [putT, List.set]
    refine wpL_nil (no_panic ?_)
    refine hK54 _ _ ?_
    refine wp_region_grow 15 [] (by kernel_rfl) (by kernel_rfl) (by kernel_rfl) (fun Lk hLk => ?_)
    simp only [List.take, List.drop]
    refine wpV_move (v := .pointer (some ⟨g, 0, none⟩)) (by rfl) rfl rfl ?_
    simp only [putT, List.set]
    refine wpV_move (v := .int .i64 2) (by rfl) rfl rfl ?_
    simp only [putT, List.set]
    refine wpV_nilCheck (by rfl) rfl rfl ?_
    simp only [putT, List.set]
    refine wpV_val (v := .pointer (some ⟨g, 0, none⟩)) (by rfl) (by rfl) (fun W hW => ?_) ?_
    · (go_simp; exact rfl)
    simp only [putT, List.set]
    refine wpV_val (v := .pointer (some ⟨g, 0, none⟩)) (by rfl) (by rfl) (fun W hW => ?_) ?_
    · (go_simp; exact rfl)
    simp only [putT, List.set]
    refine wpV_val (v := .pointer (some ⟨g, 2, none⟩)) (by rfl) (by rfl) (fun W hW => ?_) ?_
    · (go_simp; exact rfl)
    simp only [putT, List.set]
    refine wpV_load1 (v := .int .u32 ((h.c : Nat) : Int)) (by rfl) rfl rfl (range_one (range_sub (M.r 2 0 rfl rfl) 2 1 2 (xs := [.int .u32 ((h.c : Nat) : Int)]) rfl rfl)) (M.lt 2 rfl) Tryd.underlying25 rfl ?_
    simp only [putT, List.set]
    refine wpV_move (v := .int .i64 2) (by rfl) rfl rfl ?_
    simp only [putT, List.set]
    refine wpV_val (v := .pointer (some ⟨g10, 2, none⟩)) (by rfl) (by rfl) (fun W hW => ?_) ?_
    · (go_simp; exact rfl)
    simp only [putT, List.set]
    refine wpV_load1 (v := .int .u32 (((rnds l h 64).c : Nat) : Int)) (by rfl) rfl rfl (range_one (range_sub (M.r 0 0 rfl rfl) 2 1 2 (xs := [.int .u32 (((rnds l h 64).c : Nat) : Int)]) rfl rfl)) (M.lt 0 rfl) Tryd.underlying25 rfl ?_
    simp only [putT, List.set]
    refine wpV_bin (v := .int .u32 (((h.c + ((rnds l h 64).c)) % 4294967296 : Nat) : Int)) (by rfl) rfl rfl rfl (fun W => nr_add32 _ h.c ((rnds l h 64).c) W) ?_
    simp only [putT, List.set]
    refine wpV_nilCheck (by rfl) rfl rfl ?_
    simp only [putT, List.set]
    refine wpV_val (v := .pointer (some ⟨g, 0, none⟩)) (by rfl) (by rfl) (fun W hW => ?_) ?_
    · (go_simp; exact rfl)
    simp only [putT, List.set]
    refine wpV_val (v := .pointer (some ⟨g, 0, none⟩)) (by rfl) (by rfl) (fun W hW => ?_) ?_
    · (go_simp; exact rfl)
    simp only [putT, List.set]
    refine wpV_val (v := .pointer (some ⟨g, 2, none⟩)) (by rfl) (by rfl) (fun W hW => ?_) ?_
    · (go_simp; exact rfl)
    simp only [putT, List.set]
    refine wpV_nil (hLk.out _ ?_)
    clear hLk Lk
    simp only [List.take, List.drop]
    iterate 15 refine wpN_skip (by rfl) ?_
    refine wpN_nil (fun w57 Sw57 hbs => ?_)
    clear hbs
    replace M := M.sees Sw57
    refine wpL_store1 (g := g) (off := 2) (n := 10) (v := .int .u32 (((h.c + ((rnds l h 64).c)) % 4294967296 : Nat) : Int)) (by rfl) (by rfl) (by rfl) (by rfl) (by rfl) (M.t 2 rfl) (by decide) info25 rfl (fun w58 P R T => ?_)
    replace M := M.putI (i := 2) 2 0 rfl P R T rfl rfl (by simp) (by simp [SepS, flen])
    simp only [List.set] at M
    refine wpL_nil (no_panic ?_)
    refine hK53 _ _ ?_
    refine wp_region_seq ?_
    refine wpL_chunk 1 (by rfl) (fun Lk hLk => ?_)
    simp only [List.take, List.drop]
    refine wpV_bin (v := .int .i64 3) (by rfl) rfl rfl rfl (fun W => run_add (by decide) W) ?_
    simp only [putT, List.set]
    refine wpV_nil (hLk _ (fun w60 Sw60 => ?_))
    clear hLk Lk
    simp only [List.take, List.drop]
    replace M := M.sees Sw60
    refine wpL_move (v := .int .i64 3) (by rfl) (by rfl) (by rfl) ?_
    simp only [putT, List.set]
    refine wpL_nil (no_panic ?_)
    refine then_normal (Q := fun _ _ _ => True) ?_
    rw [rounds_succ]
    refine wp_seq_k (fun K61 hK61 => ?_)
    refine wp_region_seq ?_
    refine wpL_chunk 1 (by rfl) (fun Lk hLk => ?_)
    simp only [List.take, List.drop]
    refine wpV_bin (v := .bool true) (by rfl) rfl rfl rfl (fun W => run_lss _ _ _ _ W) ?_
    simp only [putT, List.set]
    refine wpV_nil (hLk _ (fun w63 Sw63 => ?_))
    clear hLk Lk
    simp only [List.take, List.drop]
    replace M := M.sees Sw63
    refine wpL_nil (no_panic ?_)
    refine hK61 _ _ ?_
    refine wp_seq_k (fun K64 hK64 => ?_)
    refine wp_cond_true rfl ?_
    refine wp_skip ?_
    refine hK64 _ _ ?_
    refine wp_seq_k (fun K65 hK65 => ?_)
    refine wp_block ?_
    refine wp_seq_k (fun K66 hK66 => ?_)
    refine wp_region_seq ?_
    refine wpL_move (v := .int .i64 3) (by rfl) (by rfl) (by rfl) ?_
    simp only [putT, List.set]
    refine wpL_assign (v := .int .i64 3) (by rfl) (by rfl) (by rfl) ?_
    simp only [putT, List.set]
    refine wpL_nil (no_panic ?_)
    refine hK66 _ _ ?_
    refine wp_region_grow 15 [] (by kernel_rfl) (by kernel_rfl) (by kernel_rfl) (fun Lk hLk => ?_)
    simp only [List.take, List.drop]
    refine wpV_move (v := .pointer (some ⟨g, 0, none⟩)) (by rfl) rfl rfl ?_
    simp only [putT, List.set]
    refine wpV_move (v := .int .i64 3) (by rfl) rfl rfl ?_
    simp only [putT, List.set]
    refine wpV_nilCheck (by rfl) rfl rfl ?_
    simp only [putT, List.set]
    refine wpV_val (v := .pointer (some ⟨g, 0, none⟩)) (by rfl) (by rfl) (fun W hW => ?_) ?_
    · (go_simp; exact rfl)
    simp only [putT, List.set]
    refine wpV_val (v := .pointer (some ⟨g, 0, none⟩)) (by rfl) (by rfl) (fun W hW => ?_) ?_
    · (go_simp; exact rfl)
    simp only [putT, List.set]
    refine wpV_val (v := .pointer (some ⟨g, 3, none⟩)) (by rfl) (by rfl) (fun W hW => ?_) ?_
    · (go_simp; exact rfl)
    simp only [putT, List.set]
    refine wpV_load1 (v := .int .u32 ((h.d : Nat) : Int)) (by rfl) rfl rfl (range_one (range_sub (M.r 2 0 rfl rfl) 3 1 3 (xs := [.int .u32 ((h.d : Nat) : Int)]) rfl rfl)) (M.lt 2 rfl) Tryd.underlying25 rfl ?_
    simp only [putT, List.set]
    refine wpV_move (v := .int .i64 3) (by rfl) rfl rfl ?_
    simp only [putT, List.set]
    refine wpV_val (v := .pointer (some ⟨g10, 3, none⟩)) (by rfl) (by rfl) (fun W hW => ?_) ?_
    · (go_simp; exact rfl)
    simp only [putT, List.set]
    refine wpV_load1 (v := .int .u32 (((rnds l h 64).d : Nat) : Int)) (by rfl) rfl rfl (range_one (range_sub (M.r 0 0 rfl rfl) 3 1 3 (xs := [.int .u32 (((rnds l h 64).d : Nat) : Int)]) rfl rfl)) (M.lt 0 rfl) Tryd.underlying25 rfl ?_
    simp only [putT, List.set]
    refine wpV_bin (v := .int .u32 (((h.d + ((rnds l h 64).d)) % 4294967296 : Nat) : Int)) (by rfl) rfl rfl rfl (fun W => nr_add32 _ h.d ((rnds l h 64).d) W) ?_
    simp only [putT, List.set]
    refine wpV_nilCheck (by rfl) rfl rfl ?_
    simp only [putT, List.set]
    refine wpV_val (v := .pointer (some ⟨g, 0, none⟩)) (by rfl) (by rfl) (fun W hW => ?_) ?_
    · (go_simp; exact rfl)
    simp only [putT, List.set]
    refine wpV_val (v := .pointer (some ⟨g, 0, none⟩)) (by rfl) (by rfl) (fun W hW => ?_) ?_
    · (go_simp; exact rfl)
    simp only [putT, List.set]
    refine wpV_val (v := .pointer (some ⟨g, 3, none⟩)) (by rfl) (by rfl) (fun W hW => ?_) ?_
    · (go_simp; exact rfl)
    simp only [putT, List.set]
    refine wpV_nil (hLk.out _ ?_)
    clear hLk Lk
    simp only [List.take, List.drop]
    iterate 15 refine wpN_skip (by rfl) ?_
    refine wpN_nil (fun w69 Sw69 hbs => ?_)
    clear hbs
    replace M := M.sees Sw69
    refine wpL_store1 (g := g) (off := 3) (n := 10) (v := .int .u32 (((h.d + ((rnds l h 64).d)) % 4294967296 : Nat) : Int)) (by rfl) (by rfl) (by rfl) (by rfl) (by rfl) (M.t 2 rfl) (by decide) info25 rfl (fun w70 P R T => ?_)
    replace M := M.putI (i := 3) 2 0 rfl P R T rfl rfl (by simp) (by simp [SepS, flen])
    simp only [List.set] at M
    refine wpL_nil (no_panic ?_)
    refine hK65 _ _ ?_
    refine wp_region_seq ?_
    refine wpL_chunk 1 (by rfl) (fun Lk hLk => ?_)
    simp only [List.take, List.drop]
    refine wpV_bin (v := .int .i64 4) (by rfl) rfl rfl rfl (fun W => run_add (by decide) W) ?_
    simp only [putT, List.set]
    refine wpV_nil (hLk _ (fun w72 Sw72 => ?_))
    clear hLk Lk
    simp only [List.take, List.drop]
    replace M := M.sees Sw72
    refine wpL_move (v := .int .i64 4) (by rfl) (by rfl) (by rfl) ?_
    simp only [putT, List.set]
    refine wpL_nil (no_panic ?_)
    refine then_normal (Q := fun _ _ _ => True) ?_
    rw [rounds_succ]
    refine wp_seq_k (fun K73 hK73 => ?_)
    refine wp_region_seq ?_
    refine wpL_chunk 1 (by rfl) (fun Lk hLk => ?_)
    simp only [List.take, List.drop]
    refine wpV_bin (v := .bool true) (by rfl) rfl rfl rfl (fun W => run_lss _ _ _ _ W) ?_
    simp only [putT, List.set]
    refine wpV_nil (hLk _ (fun w75 Sw75 => ?_))
    clear hLk Lk
    simp only [List.take, List.drop]
    replace M := M.sees Sw75
    refine wpL_nil (no_panic ?_)
    refine hK73 _ _ ?_
    refine wp_seq_k (fun K76 hK76 => ?_)
    refine wp_cond_true rfl ?_
    refine wp_skip ?_
    refine hK76 _ _ ?_
    refine wp_seq_k (fun K77 hK77 => ?_)
    refine wp_block ?_
    refine wp_seq_k (fun K78 hK78 => ?_)
    refine wp_region_seq ?_
    refine wpL_move (v := .int .i64 4) (by rfl) (by rfl) (by rfl) ?_
    simp only [putT, List.set]
    refine wpL_assign (v := .int .i64 4) (by rfl) (by rfl) (by rfl) ?_
    simp only [putT, List.set]
    refine wpL_nil (no_panic ?_)
    refine hK78 _ _ ?_
    refine wp_region_grow 15 [] (by kernel_rfl) (by kernel_rfl) (by kernel_rfl) (fun Lk hLk => ?_)
    simp only [List.take, List.drop]
    refine wpV_move (v := .pointer (some ⟨g, 0, none⟩)) (by rfl) rfl rfl ?_
    simp only [putT, List.set]
    refine wpV_move (v := .int .i64 4) (by rfl) rfl rfl ?_
    simp only [putT, List.set]
    refine wpV_nilCheck (by rfl) rfl rfl ?_
    simp only [putT, List.set]
    refine wpV_val (v := .pointer (some ⟨g, 0, none⟩)) (by rfl) (by rfl) (fun W hW => ?_) ?_
    · (go_simp; exact rfl)
    simp only [putT, List.set]
    refine wpV_val (v := .pointer (some ⟨g, 0, none⟩)) (by rfl) (by rfl) (fun W hW => ?_) ?_
    · (go_simp; exact rfl)
    simp only [putT, List.set]
    refine wpV_val (v := .pointer (some ⟨g, 4, none⟩)) (by rfl) (by rfl) (fun W hW => ?_) ?_
    · (go_simp; exact rfl)
    simp only [putT, List.set]
    refine wpV_load1 (v := .int .u32 ((h.e : Nat) : Int)) (by rfl) rfl rfl (range_one (range_sub (M.r 2 0 rfl rfl) 4 1 4 (xs := [.int .u32 ((h.e : Nat) : Int)]) rfl rfl)) (M.lt 2 rfl) Tryd.underlying25 rfl ?_
    simp only [putT, List.set]
    refine wpV_move (v := .int .i64 4) (by rfl) rfl rfl ?_
    simp only [putT, List.set]
    refine wpV_val (v := .pointer (some ⟨g10, 4, none⟩)) (by rfl) (by rfl) (fun W hW => ?_) ?_
    · (go_simp; exact rfl)
    simp only [putT, List.set]
    refine wpV_load1 (v := .int .u32 (((rnds l h 64).e : Nat) : Int)) (by rfl) rfl rfl (range_one (range_sub (M.r 0 0 rfl rfl) 4 1 4 (xs := [.int .u32 (((rnds l h 64).e : Nat) : Int)]) rfl rfl)) (M.lt 0 rfl) Tryd.underlying25 rfl ?_
    simp only [putT, List.set]
    refine wpV_bin (v := .int .u32 (((h.e + ((rnds l h 64).e)) % 4294967296 : Nat) : Int)) (by rfl) rfl rfl rfl (fun W => nr_add32 _ h.e ((rnds l h 64).e) W) ?_
    simp only [putT, List.set]
    refine wpV_nilCheck (by rfl) rfl rfl ?_
    simp only [putT, List.set]
    refine wpV_val (v := .pointer (some ⟨g, 0, none⟩)) (by rfl) (by rfl) (fun W hW => ?_) ?_
    · (go_simp; exact rfl)
    simp only [putT, List.set]
    refine wpV_val (v := .pointer (some ⟨g, 0, none⟩)) (by rfl) (by rfl) (fun W hW => ?_) ?_
    · (go_simp; exact rfl)
    simp only [putT, List.set]
    refine wpV_val (v := .pointer (some ⟨g, 4, none⟩)) (by rfl) (by rfl) (fun W hW => ?_) ?_
    · (go_simp; exact rfl)
    simp only [putT, List.set]
    refine wpV_nil (hLk.out _ ?_)
    clear hLk Lk
    simp only [List.take, List.drop]
    iterate 15 refine wpN_skip (by rfl) ?_
    refine wpN_nil (fun w81 Sw81 hbs => ?_)
    clear hbs
    replace M := M.sees Sw81
    refine wpL_store1 (g := g) (off := 4) (n := 10) (v := .int .u32 (((h.e + ((rnds l h 64).e)) % 4294967296 : Nat) : Int)) (by rfl) (by rfl) (by rfl) (by rfl) (by rfl) (M.t 2 rfl) (by decide) info25 rfl (fun w82 P R T => ?_)
    replace M := M.putI (i := 4) 2 0 rfl P R T rfl rfl (by simp) (by simp [SepS, flen])
    simp only [List.set] at M
    refine wpL_nil (no_panic ?_)
    refine hK77 _ _ ?_
    refine wp_region_seq ?_
    refine wpL_chunk 1 (by rfl) (fun Lk hLk => ?_)
    simp only [List.take, List.drop]
    refine wpV_bin (v := .int .i64 5) (by rfl) rfl rfl rfl (fun W => run_add (by decide) W) ?_
    simp only [putT, List.set]
    refine wpV_nil (hLk _ (fun w84 Sw84 => ?_))
    clear hLk Lk
    simp only [List.take, List.drop]
    replace M := M.sees Sw84
    refine wpL_move (v := .int .i64 5) (by rfl) (by rfl) (by rfl) ?_
    simp only [putT, List.set]
    refine wpL_nil (no_panic ?_)
    refine then_normal (Q := fun _ _ _ => True) ?_
    rw [rounds_succ]
    refine wp_seq_k (fun K85 hK85 => ?_)
    refine wp_region_seq ?_
    refine wpL_chunk 1 (by rfl) (fun Lk hLk => ?_)
    simp only [List.take, List.drop]
    refine wpV_bin (v := .bool true) (by rfl) rfl rfl rfl (fun W => run_lss _ _ _ _ W) ?_
    simp only [putT, List.set]
    refine wpV_nil (hLk _ (fun w87 Sw87 => ?_))
    clear hLk Lk
    simp only [List.take, List.drop]
    replace M := M.sees Sw87
    refine wpL_nil (no_panic ?_)
    refine hK85 _ _ ?_
    refine wp_seq_k (fun K88 hK88 => ?_)
    refine wp_cond_true rfl ?_
    refine wp_skip ?_
    refine hK88 _ _ ?_
    refine wp_seq_k (fun K89 hK89 => ?_)
    refine wp_block ?_
    refine wp_seq_k (fun K90 hK90 => ?_)
    refine wp_region_seq ?_
    refine wpL_move (v := .int .i64 5) (by rfl) (by rfl) (by rfl) ?_
    simp only [putT, List.set]
    refine wpL_assign (v := .int .i64 5) (by rfl) (by rfl) (by rfl) ?_
    simp only [putT, List.set]
    refine wpL_nil (no_panic ?_)
    refine hK90 _ _ ?_
    refine wp_region_grow 15 [] (by kernel_rfl) (by kernel_rfl) (by kernel_rfl) (fun Lk hLk => ?_)
    simp only [List.take, List.drop]
    refine wpV_move (v := .pointer (some ⟨g, 0, none⟩)) (by rfl) rfl rfl ?_
    simp only [putT, List.set]
    refine wpV_move (v := .int .i64 5) (by rfl) rfl rfl ?_
    simp only [putT, List.set]
    refine wpV_nilCheck (by rfl) rfl rfl ?_
    simp only [putT, List.set]
    refine wpV_val (v := .pointer (some ⟨g, 0, none⟩)) (by rfl) (by rfl) (fun W hW => ?_) ?_
    · (go_simp; exact rfl)
    simp only [putT, List.set]
    refine wpV_val (v := .pointer (some ⟨g, 0, none⟩)) (by rfl) (by rfl) (fun W hW => ?_) ?_
    · (go_simp; exact rfl)
    simp only [putT, List.set]
    refine wpV_val (v := .pointer (some ⟨g, 5, none⟩)) (by rfl) (by rfl) (fun W hW => ?_) ?_
    · (go_simp; exact rfl)
    simp only [putT, List.set]
    refine wpV_load1 (v := .int .u32 ((h.f : Nat) : Int)) (by rfl) rfl rfl (range_one (range_sub (M.r 2 0 rfl rfl) 5 1 5 (xs := [.int .u32 ((h.f : Nat) : Int)]) rfl rfl)) (M.lt 2 rfl) Tryd.underlying25 rfl ?_
    simp only [putT, List.set]
    refine wpV_move (v := .int .i64 5) (by rfl) rfl rfl ?_
    simp only [putT, List.set]
    refine wpV_val (v := .pointer (some ⟨g10, 5, none⟩)) (by rfl) (by rfl) (fun W hW => ?_) ?_
    · (go_simp; exact rfl)
    simp only [putT, List.set]
    refine wpV_load1 (v := .int .u32 (((rnds l h 64).f : Nat) : Int)) (by rfl) rfl rfl (range_one (range_sub (M.r 0 0 rfl rfl) 5 1 5 (xs := [.int .u32 (((rnds l h 64).f : Nat) : Int)]) rfl rfl)) (M.lt 0 rfl) Tryd.underlying25 rfl ?_
    simp only [putT, List.set]
    refine wpV_bin (v := .int .u32 (((h.f + ((rnds l h 64).f)) % 4294967296 : Nat) : Int)) (by rfl) rfl rfl rfl (fun W => nr_add32 _ h.f ((rnds l h 64).f) W) ?_
    simp only [putT, List.set]
    refine wpV_nilCheck (by rfl) rfl rfl ?_
    simp only [putT, List.set]
    refine wpV_val (v := .pointer (some ⟨g, 0, none⟩)) (by rfl) (by rfl) (fun W hW => ?_) ?_
    · (go_simp; exact rfl)
    simp only [putT, List.set]
    refine wpV_val (v := .pointer (some ⟨g, 0, none⟩)) (by rfl) (by rfl) (fun W hW => ?_) ?_
    · (go_simp; exact rfl)
    simp only [putT, List.set]
    refine wpV_val (v := .pointer (some ⟨g, 5, none⟩)) (by rfl) (by rfl) (fun W hW => ?_) ?_
    · (go_simp; exact rfl)
    simp only [putT, List.set]
    refine wpV_nil (hLk.out _ ?_)
    clear hLk Lk
    simp only [List.take, List.drop]
    iterate 15 refine wpN_skip (by rfl) ?_
    refine wpN_nil (fun w93 Sw93 hbs => ?_)
    clear hbs
    replace M := M.sees Sw93
    refine wpL_store1 (g := g) (off := 5) (n := 10) (v := .int .u32 (((h.f + ((rnds l h 64).f)) % 4294967296 : Nat) : Int)) (by rfl) (by rfl) (by rfl) (by rfl) (by rfl) (M.t 2 rfl) (by decide) info25 rfl (fun w94 P R T => ?_)
    replace M := M.putI (i := 5) 2 0 rfl P R T rfl rfl (by simp) (by simp [SepS, flen])
    simp only [List.set] at M
    refine wpL_nil (no_panic ?_)
    refine hK89 _ _ ?_
    refine wp_region_seq ?_
    refine wpL_chunk 1 (by rfl) (fun Lk hLk => ?_)
    simp only [List.take, List.drop]
    refine wpV_bin (v := .int .i64 6) (by rfl) rfl rfl rfl (fun W => run_add (by decide) W) ?_
    simp only [putT, List.set]
    refine wpV_nil (hLk _ (fun w96 Sw96 => ?_))
    clear hLk Lk
    simp only [List.take, List.drop]
    replace M := M.sees Sw96
    refine wpL_move (v := .int .i64 6) (by rfl) (by rfl) (by rfl) ?_
    simp only [putT, List.set]
    refine wpL_nil (no_panic ?_)
    refine then_normal (Q := fun _ _ _ => True) ?_
    rw [rounds_succ]
    refine wp_seq_k (fun K97 hK97 => ?_)
    refine wp_region_seq ?_
    refine wpL_chunk 1 (by rfl) (fun Lk hLk => ?_)
    simp only [List.take, List.drop]
    refine wpV_bin (v := .bool true) (by rfl) rfl rfl rfl (fun W => run_lss _ _ _ _ W) ?_
    simp only [putT, List.set]
    refine wpV_nil (hLk _ (fun w99 Sw99 => ?_))
    clear hLk Lk
    simp only [List.take, List.drop]
    replace M := M.sees Sw99
    refine wpL_nil (no_panic ?_)
    refine hK97 _ _ ?_
    refine wp_seq_k (fun K100 hK100 => ?_)
    refine wp_cond_true rfl ?_
    refine wp_skip ?_
    refine hK100 _ _ ?_
    refine wp_seq_k (fun K101 hK101 => ?_)
    refine wp_block ?_
    refine wp_seq_k (fun K102 hK102 => ?_)
    refine wp_region_seq ?_
    refine wpL_move (v := .int .i64 6) (by rfl) (by rfl) (by rfl) ?_
    simp only [putT, List.set]
    refine wpL_assign (v := .int .i64 6) (by rfl) (by rfl) (by rfl) ?_
    simp only [putT, List.set]
    refine wpL_nil (no_panic ?_)
    refine hK102 _ _ ?_
    refine wp_region_grow 15 [] (by kernel_rfl) (by kernel_rfl) (by kernel_rfl) (fun Lk hLk => ?_)
    simp only [List.take, List.drop]
    refine wpV_move (v := .pointer (some ⟨g, 0, none⟩)) (by rfl) rfl rfl ?_
    simp only [putT, List.set]
    refine wpV_move (v := .int .i64 6) (by rfl) rfl rfl ?_
    simp only [putT, List.set]
    refine wpV_nilCheck (by rfl) rfl rfl ?_
    simp only [putT, List.set]
    refine wpV_val (v := .pointer (some ⟨g, 0, none⟩)) (by rfl) (by rfl) (fun W hW => ?_) ?_
    · (go_simp; exact rfl)
    simp only [putT, List.set]
    refine wpV_val (v := .pointer (some ⟨g, 0, none⟩)) (by rfl) (by rfl) (fun W hW => ?_) ?_
    · (go_simp; exact rfl)
    simp only [putT, List.set]
    refine wpV_val (v := .pointer (some ⟨g, 6, none⟩)) (by rfl) (by rfl) (fun W hW => ?_) ?_
    · (go_simp; exact rfl)
    simp only [putT, List.set]
    refine wpV_load1 (v := .int .u32 ((h.g : Nat) : Int)) (by rfl) rfl rfl (range_one (range_sub (M.r 2 0 rfl rfl) 6 1 6 (xs := [.int .u32 ((h.g : Nat) : Int)]) rfl rfl)) (M.lt 2 rfl) Tryd.underlying25 rfl ?_
    simp only [putT, List.set]
    refine wpV_move (v := .int .i64 6) (by rfl) rfl rfl ?_
    simp only [putT, List.set]
    refine wpV_val (v := .pointer (some ⟨g10, 6, none⟩)) (by rfl) (by rfl) (fun W hW => ?_) ?_
    · (go_simp; exact rfl)
    simp only [putT, List.set]
    refine wpV_load1 (v := .int .u32 (((rnds l h 64).g : Nat) : Int)) (by rfl) rfl rfl (range_one (range_sub (M.r 0 0 rfl rfl) 6 1 6 (xs := [.int .u32 (((rnds l h 64).g : Nat) : Int)]) rfl rfl)) (M.lt 0 rfl) Tryd.underlying25 rfl ?_
    simp only [putT, List.set]
    refine wpV_bin (v := .int .u32 (((h.g + ((rnds l h 64).g)) % 4294967296 : Nat) : Int)) (by rfl) rfl rfl rfl (fun W => nr_add32 _ h.g ((rnds l h 64).g) W) ?_
    simp only [putT, List.set]
    refine wpV_nilCheck (by rfl) rfl rfl ?_
    simp only [putT, List.set]
    refine wpV_val (v := .pointer (some ⟨g, 0, none⟩)) (by rfl) (by rfl) (fun W hW => ?_) ?_
    · (go_simp; exact rfl)
    simp only [putT, List.set]
    refine wpV_val (v := .pointer (some ⟨g, 0, none⟩)) (by rfl) (by rfl) (fun W hW => ?_) ?_
    · (go_simp; exact rfl)
    simp only [putT, List.set]
    refine wpV_val (v := .pointer (some ⟨g, 6, none⟩)) (by rfl) (by rfl) (fun W hW => ?_) ?_
    · (go_simp; exact rfl)
    simp only [putT, List.set]
    refine wpV_nil (hLk.out _ ?_)
    clear hLk Lk
    simp only [List.take, List.drop]
    iterate 15 refine wpN_skip (by rfl) ?_
    refine wpN_nil (fun w105 Sw105 hbs => ?_)
    clear hbs
    replace M := M.sees Sw105
    refine wpL_store1 (g := g) (off := 6) (n := 10) (v := .int .u32 (((h.g + ((rnds l h 64).g)) % 4294967296 : Nat) : Int)) (by rfl) (by rfl) (by rfl) (by rfl) (by rfl) (M.t 2 rfl) (by decide) info25 rfl (fun w106 P R T => ?_)
    replace M := M.putI (i := 6) 2 0 rfl P R T rfl rfl (by simp) (by simp [SepS, flen])
    simp only [List.set] at M
    refine wpL_nil (no_panic ?_)
    refine hK101 _ _ ?_
    refine wp_region_seq ?_
    refine wpL_chunk 1 (by rfl) (fun Lk hLk => ?_)
    simp only [List.take, List.drop]
    refine wpV_bin (v := .int .i64 7) (by rfl) rfl rfl rfl (fun W => run_add (by decide) W) ?_
    simp only [putT, List.set]
    refine wpV_nil (hLk _ (fun w108 Sw108 => ?_))
    clear hLk Lk
    simp only [List.take, List.drop]
    replace M := M.sees Sw108
    refine wpL_move (v := .int .i64 7) (by rfl) (by rfl) (by rfl) ?_
    simp only [putT, List.set]
    refine wpL_nil (no_panic ?_)
    refine then_normal (Q := fun _ _ _ => True) ?_
    rw [rounds_succ]
    refine wp_seq_k (fun K109 hK109 => ?_)
    refine wp_region_seq ?_
    refine wpL_chunk 1 (by rfl) (fun Lk hLk => ?_)
    simp only [List.take, List.drop]
    refine wpV_bin (v := .bool true) (by rfl) rfl rfl rfl (fun W => run_lss _ _ _ _ W) ?_
    simp only [putT, List.set]
    refine wpV_nil (hLk _ (fun w111 Sw111 => ?_))
    clear hLk Lk
    simp only [List.take, List.drop]
    replace M := M.sees Sw111
    refine wpL_nil (no_panic ?_)
    refine hK109 _ _ ?_
    refine wp_seq_k (fun K112 hK112 => ?_)
    refine wp_cond_true rfl ?_
    refine wp_skip ?_
    refine hK112 _ _ ?_
    refine wp_seq_k (fun K113 hK113 => ?_)
    refine wp_block ?_
    refine wp_seq_k (fun K114 hK114 => ?_)
    refine wp_region_seq ?_
    refine wpL_move (v := .int .i64 7) (by rfl) (by rfl) (by rfl) ?_
    simp only [putT, List.set]
    refine wpL_assign (v := .int .i64 7) (by rfl) (by rfl) (by rfl) ?_
    simp only [putT, List.set]
    refine wpL_nil (no_panic ?_)
    refine hK114 _ _ ?_
    refine wp_region_grow 15 [] (by kernel_rfl) (by kernel_rfl) (by kernel_rfl) (fun Lk hLk => ?_)
    simp only [List.take, List.drop]
    refine wpV_move (v := .pointer (some ⟨g, 0, none⟩)) (by rfl) rfl rfl ?_
    simp only [putT, List.set]
    refine wpV_move (v := .int .i64 7) (by rfl) rfl rfl ?_
    simp only [putT, List.set]
    refine wpV_nilCheck (by rfl) rfl rfl ?_
    simp only [putT, List.set]
    refine wpV_val (v := .pointer (some ⟨g, 0, none⟩)) (by rfl) (by rfl) (fun W hW => ?_) ?_
    · (go_simp; exact rfl)
    simp only [putT, List.set]
    refine wpV_val (v := .pointer (some ⟨g, 0, none⟩)) (by rfl) (by rfl) (fun W hW => ?_) ?_
    · (go_simp; exact rfl)
    simp only [putT, List.set]
    refine wpV_val (v := .pointer (some ⟨g, 7, none⟩)) (by rfl) (by rfl) (fun W hW => ?_) ?_
    · (go_simp; exact rfl)
    simp only [putT, List.set]
    refine wpV_load1 (v := .int .u32 ((h.h : Nat) : Int)) (by rfl) rfl rfl (range_one (range_sub (M.r 2 0 rfl rfl) 7 1 7 (xs := [.int .u32 ((h.h : Nat) : Int)]) rfl rfl)) (M.lt 2 rfl) Tryd.underlying25 rfl ?_
    simp only [putT, List.set]
    refine wpV_move (v := .int .i64 7) (by rfl) rfl rfl ?_
    simp only [putT, List.set]
    refine wpV_val (v := .pointer (some ⟨g10, 7, none⟩)) (by rfl) (by rfl) (fun W hW => ?_) ?_
    · (go_simp; exact rfl)
    simp only [putT, List.set]
    refine wpV_load1 (v := .int .u32 (((rnds l h 64).h : Nat) : Int)) (by rfl) rfl rfl (range_one (range_sub (M.r 0 0 rfl rfl) 7 1 7 (xs := [.int .u32 (((rnds l h 64).h : Nat) : Int)]) rfl rfl)) (M.lt 0 rfl) Tryd.underlying25 rfl ?_
    simp only [putT, List.set]
    refine wpV_bin (v := .int .u32 (((h.h + ((rnds l h 64).h)) % 4294967296 : Nat) : Int)) (by rfl) rfl rfl rfl (fun W => nr_add32 _ h.h ((rnds l h 64).h) W) ?_
    simp only [putT, List.set]
    refine wpV_nilCheck (by rfl) rfl rfl ?_
    simp only [putT, List.set]
    refine wpV_val (v := .pointer (some ⟨g, 0, none⟩)) (by rfl) (by rfl) (fun W hW => ?_) ?_
    · (go_simp; exact rfl)
    simp only [putT, List.set]
    refine wpV_val (v := .pointer (some ⟨g, 0, none⟩)) (by rfl) (by rfl) (fun W hW => ?_) ?_
    · (go_simp; exact rfl)
    simp only [putT, List.set]
    refine wpV_val (v := .pointer (some ⟨g, 7, none⟩)) (by rfl) (by rfl) (fun W hW => ?_) ?_
    · (go_simp; exact rfl)
    simp only [putT, List.set]
    refine wpV_nil (hLk.out _ ?_)
    clear hLk Lk
    simp only [List.take, List.drop]
    iterate 15 refine wpN_skip (by rfl) ?_
    refine wpN_nil (fun w117 Sw117 hbs => ?_)
    clear hbs
    replace M := M.sees Sw117
    refine wpL_store1 (g := g) (off := 7) (n := 10) (v := .int .u32 (((h.h + ((rnds l h 64).h)) % 4294967296 : Nat) : Int)) (by rfl) (by rfl) (by rfl) (by rfl) (by rfl) (M.t 2 rfl) (by decide) info25 rfl (fun w118 P R T => ?_)
    replace M := M.putI (i := 7) 2 0 rfl P R T rfl rfl (by simp) (by simp [SepS, flen])
    simp only [List.set] at M
    refine wpL_nil (no_panic ?_)
    refine hK113 _ _ ?_
    refine wp_region_seq ?_
    refine wpL_chunk 1 (by rfl) (fun Lk hLk => ?_)
    simp only [List.take, List.drop]
    refine wpV_bin (v := .int .i64 8) (by rfl) rfl rfl rfl (fun W => run_add (by decide) W) ?_
    simp only [putT, List.set]
    refine wpV_nil (hLk _ (fun w120 Sw120 => ?_))
    clear hLk Lk
    simp only [List.take, List.drop]
    replace M := M.sees Sw120
    refine wpL_move (v := .int .i64 8) (by rfl) (by rfl) (by rfl) ?_
    simp only [putT, List.set]
    refine wpL_nil (no_panic ?_)
    refine then_normal (Q := fun _ _ _ => True) ?_
    rw [rounds_succ]
    refine wp_seq_k (fun K121 hK121 => ?_)
    refine wp_region_seq ?_
    refine wpL_chunk 1 (by rfl) (fun Lk hLk => ?_)
    simp only [List.take, List.drop]
    refine wpV_bin (v := .bool false) (by rfl) rfl rfl rfl (fun W => run_lss _ _ _ _ W) ?_
    simp only [putT, List.set]
    refine wpV_nil (hLk _ (fun w123 Sw123 => ?_))
    clear hLk Lk
    simp only [List.take, List.drop]
    replace M := M.sees Sw123
    refine wpL_nil (no_panic ?_)
    refine hK121 _ _ ?_
    refine wp_seq_k (fun K124 hK124 => ?_)
    refine wp_cond_false rfl ?_
    refine wp_exit ?_
    repeat (first | with_reducible refine then_exit ?_ | with_reducible refine inblock_exit ?_)
    refine bodyPost_end (v := .tuple #[]) (results_none rfl _ _ _) rfl ?_
    exact ⟨_, rfl, rfl, M.pick [2] (by decide) rfl⟩
  · skip
    have ht : t < 64 := of_decide_eq_true hc22
    refine wp_cond_true rfl ?_
    refine wp_skip ?_
    refine hK21 _ _ ?_
    refine wp_seq_k (fun K125 hK125 => ?_)
    refine wp_block ?_
    refine wp_seq_k (fun K126 hK126 => ?_)
    refine wp_region_seq ?_
    refine wpL_move (v := .int .i64 ((t : Nat) : Int)) (by rfl) (by rfl) (by rfl) ?_
    simp only [putT, List.set]
    refine wpL_assign (v := .int .i64 ((t : Nat) : Int)) (by rfl) (by rfl) (by rfl) ?_
    simp only [putT, List.set]
    refine wpL_nil (no_panic ?_)
    refine hK126 _ _ ?_
    refine wp_seq_k (fun K128 hK128 => ?_)
    refine wp_region_grow 6 [] (by kernel_rfl) (by kernel_rfl) (by kernel_rfl) (fun Lk hLk => ?_)
    simp only [List.take, List.drop]
    refine wpV_val (v := .pointer (some ⟨g10, 0, none⟩)) (by rfl) (by rfl) (fun W hW => ?_) ?_
    · (go_simp; exact rfl)
    simp only [putT, List.set]
    refine wpV_load1 (v := .int .u32 ((v.a : Nat) : Int)) (by rfl) rfl rfl (range_one (range_sub (M.r 0 0 rfl rfl) 0 1 0 (xs := [.int .u32 ((v.a : Nat) : Int)]) rfl rfl)) (M.lt 0 rfl) Tryd.underlying25 rfl ?_
    simp only [putT, List.set]
    refine wpV_val (v := .pointer (some ⟨g10, 4, none⟩)) (by rfl) (by rfl) (fun W hW => ?_) ?_
    · (go_simp; exact rfl)
    simp only [putT, List.set]
    refine wpV_load1 (v := .int .u32 ((v.e : Nat) : Int)) (by rfl) rfl rfl (range_one (range_sub (M.r 0 0 rfl rfl) 4 1 4 (xs := [.int .u32 ((v.e : Nat) : Int)]) rfl rfl)) (M.lt 0 rfl) Tryd.underlying25 rfl ?_
    simp only [putT, List.set]
    refine wpV_assign (v := .int .u32 ((v.a : Nat) : Int)) (by rfl) rfl rfl ?_
    simp only [putT, List.set]
    refine wpV_assign (v := .int .u32 ((v.e : Nat) : Int)) (by rfl) rfl rfl ?_
    simp only [putT, List.set]
    refine wpV_nil (hLk.out _ ?_)
    clear hLk Lk
    simp only [List.take, List.drop]
    iterate 6 refine wpN_skip (by rfl) ?_
    refine wpN_nil (fun w130 Sw130 hbs => ?_)
    clear hbs
    replace M := M.sees Sw130
    refine wpL_nil (no_panic ?_)
    refine hK128 _ _ ?_
    refine wp_seq_k (fun K131 hK131 => ?_)
    refine wp_region_grow 30 [] (by kernel_rfl) (by kernel_rfl) (by kernel_rfl) (fun Lk hLk => ?_)
    simp only [List.take, List.drop]
    refine wpV_val (v := .pointer (some ⟨g10, 7, none⟩)) (by rfl) (by rfl) (fun W hW => ?_) ?_
    · (go_simp; exact rfl)
    simp only [putT, List.set]
    refine wpV_load1 (v := .int .u32 ((v.h : Nat) : Int)) (by rfl) rfl rfl (range_one (range_sub (M.r 0 0 rfl rfl) 7 1 7 (xs := [.int .u32 ((v.h : Nat) : Int)]) rfl rfl)) (M.lt 0 rfl) Tryd.underlying25 rfl ?_
    simp only [putT, List.set]
    refine wpV_move (v := .int .u32 ((v.e : Nat) : Int)) (by rfl) rfl rfl ?_
    simp only [putT, List.set]
    refine wpV_callf (v := .int .u32 ((rotr v.e 6 : Nat) : Int)) (args := #[.int .u32 ((v.e : Nat) : Int), .int .i64 (-6)]) (by rfl) rfl Tryd.func105 (by kernel_rfl) (by kernel_rfl) rfl (fun W hW => (by have := rotl_c (x := v.e) (n := 6) (w := W) hok.e (by decide) (by decide); exact this)) ?_
    simp only [putT, List.set]
    refine wpV_move (v := .int .u32 ((v.e : Nat) : Int)) (by rfl) rfl rfl ?_
    simp only [putT, List.set]
    refine wpV_callf (v := .int .u32 ((rotr v.e 11 : Nat) : Int)) (args := #[.int .u32 ((v.e : Nat) : Int), .int .i64 (-11)]) (by rfl) rfl Tryd.func105 (by kernel_rfl) (by kernel_rfl) rfl (fun W hW => (by have := rotl_c (x := v.e) (n := 11) (w := W) hok.e (by decide) (by decide); exact this)) ?_
    simp only [putT, List.set]
    refine wpV_bin (v := .int .u32 (((rotr v.e 6) ^^^ (rotr v.e 11) : Nat) : Int)) (by rfl) rfl rfl rfl (fun W => nr_xor32 (x := rotr v.e 6) (y := rotr v.e 11) (rotr_lt hok.e (by decide)) (rotr_lt hok.e (by decide)) W) ?_
    simp only [putT, List.set]
    refine wpV_move (v := .int .u32 ((v.e : Nat) : Int)) (by rfl) rfl rfl ?_
    simp only [putT, List.set]
    refine wpV_callf (v := .int .u32 ((rotr v.e 25 : Nat) : Int)) (args := #[.int .u32 ((v.e : Nat) : Int), .int .i64 (-25)]) (by rfl) rfl Tryd.func105 (by kernel_rfl) (by kernel_rfl) rfl (fun W hW => (by have := rotl_c (x := v.e) (n := 25) (w := W) hok.e (by decide) (by decide); exact this)) ?_
    simp only [putT, List.set]
    refine wpV_bin (v := .int .u32 ((bg1 v.e : Nat) : Int)) (by rfl) rfl rfl rfl (fun W => nr_xor32 (x := (rotr v.e 6) ^^^ (rotr v.e 11)) (y := rotr v.e 25) (xor_lt32 (rotr_lt hok.e (by decide)) (rotr_lt hok.e (by decide))) (rotr_lt hok.e (by decide)) W) ?_
    simp only [putT, List.set]
    refine wpV_bin (v := .int .u32 (((v.h + (bg1 v.e)) % 4294967296 : Nat) : Int)) (by rfl) rfl rfl rfl (fun W => nr_add32 _ v.h (bg1 v.e) W) ?_
    simp only [putT, List.set]
    refine wpV_move (v := .int .u32 ((v.e : Nat) : Int)) (by rfl) rfl rfl ?_
    simp only [putT, List.set]
    refine wpV_val (v := .pointer (some ⟨g10, 5, none⟩)) (by rfl) (by rfl) (fun W hW => ?_) ?_
    · (go_simp; exact rfl)
    simp only [putT, List.set]
    refine wpV_load1 (v := .int .u32 ((v.f : Nat) : Int)) (by rfl) rfl rfl (range_one (range_sub (M.r 0 0 rfl rfl) 5 1 5 (xs := [.int .u32 ((v.f : Nat) : Int)]) rfl rfl)) (M.lt 0 rfl) Tryd.underlying25 rfl ?_
    simp only [putT, List.set]
    refine wpV_bin (v := .int .u32 ((v.e &&& v.f : Nat) : Int)) (by rfl) rfl rfl rfl (fun W => nr_and32 (x := v.e) (y := v.f) hok.e hok.f W) ?_
    simp only [putT, List.set]
    refine wpV_move (v := .int .u32 ((v.e : Nat) : Int)) (by rfl) rfl rfl ?_
    simp only [putT, List.set]
    refine wpV_un (v := .int .u32 ((4294967295 ^^^ v.e : Nat) : Int)) (by rfl) rfl rfl (fun W => nr_not32 (x := v.e) hok.e W) ?_
    simp only [putT, List.set]
    refine wpV_val (v := .pointer (some ⟨g10, 6, none⟩)) (by rfl) (by rfl) (fun W hW => ?_) ?_
    · (go_simp; exact rfl)
    simp only [putT, List.set]
    refine wpV_load1 (v := .int .u32 ((v.g : Nat) : Int)) (by rfl) rfl rfl (range_one (range_sub (M.r 0 0 rfl rfl) 6 1 6 (xs := [.int .u32 ((v.g : Nat) : Int)]) rfl rfl)) (M.lt 0 rfl) Tryd.underlying25 rfl ?_
    simp only [putT, List.set]
    refine wpV_bin (v := .int .u32 (((4294967295 ^^^ v.e) &&& v.g : Nat) : Int)) (by rfl) rfl rfl rfl (fun W => nr_and32 (x := 4294967295 ^^^ v.e) (y := v.g) (xor_lt32 (by decide) hok.e) hok.g W) ?_
    simp only [putT, List.set]
    refine wpV_bin (v := .int .u32 ((chs v.e v.f v.g : Nat) : Int)) (by rfl) rfl rfl rfl (fun W => nr_xor32 (x := v.e &&& v.f) (y := (4294967295 ^^^ v.e) &&& v.g) (and_lt32 hok.f) (and_lt32 hok.g) W) ?_
    simp only [putT, List.set]
    refine wpV_bin (v := .int .u32 (((((v.h + (bg1 v.e)) % 4294967296) + (chs v.e v.f v.g)) % 4294967296 : Nat) : Int)) (by rfl) rfl rfl rfl (fun W => nr_add32 _ ((v.h + (bg1 v.e)) % 4294967296) (chs v.e v.f v.g) W) ?_
    simp only [putT, List.set]
    refine wpV_move (v := .int .i64 ((t : Nat) : Int)) (by rfl) rfl rfl ?_
    simp only [putT, List.set]
    refine wpV_idx (n := t) (by rfl) rfl rfl rfl Tryd.underlying119 info25 (by omega) ?_
    simp only [Nat.zero_add]
    simp only [putT, List.set]
    refine wpV_load1 (v := .int .u32 ((keyN t : Nat) : Int)) (by rfl) rfl rfl (zadd ((M.oldG R0_0 L0 (by simpa using Ne.symm hg)) _ _ (kcells_get (by omega)))) (M.oldL L0) Tryd.underlying25 rfl ?_
    simp only [putT, List.set]
    refine wpV_bin (v := .int .u32 (((((((v.h + (bg1 v.e)) % 4294967296) + (chs v.e v.f v.g)) % 4294967296) + (keyN t)) % 4294967296 : Nat) : Int)) (by rfl) rfl rfl rfl (fun W => nr_add32 _ ((((v.h + (bg1 v.e)) % 4294967296) + (chs v.e v.f v.g)) % 4294967296) (keyN t) W) ?_
    simp only [putT, List.set]
    refine wpV_move (v := .int .i64 ((t : Nat) : Int)) (by rfl) rfl rfl ?_
    simp only [putT, List.set]
    refine wpV_idx (n := t) (by rfl) rfl rfl rfl Tryd.underlying119 info25 (by omega) ?_
    simp only [Nat.zero_add]
    simp only [putT, List.set]
    refine wpV_load1 (v := .int .u32 ((shW l t : Nat) : Int)) (by rfl) rfl rfl (zadd ((M.r 1 0 rfl rfl) _ _ (wcells_at l (by omega) (by omega)))) (M.lt 1 rfl) Tryd.underlying25 rfl ?_
    simp only [putT, List.set]
    refine wpV_bin (v := .int .u32 ((one (keyN t) (shW l t) v : Nat) : Int)) (by rfl) rfl rfl rfl (fun W => nr_add32 _ ((((((v.h + (bg1 v.e)) % 4294967296) + (chs v.e v.f v.g)) % 4294967296) + (keyN t)) % 4294967296) (shW l t) W) ?_
    simp only [putT, List.set]
    refine wpV_nil (hLk.out _ ?_)
    clear hLk Lk
    simp only [List.take, List.drop]
    iterate 30 refine wpN_skip (by rfl) ?_
    refine wpN_nil (fun w133 Sw133 hbs => ?_)
    clear hbs
    replace M := M.sees Sw133
    refine wpL_assign (v := .int .u32 ((one (keyN t) (shW l t) v : Nat) : Int)) (by rfl) (by rfl) (by rfl) ?_
    simp only [putT, List.set]
    refine wpL_nil (no_panic ?_)
    refine hK131 _ _ ?_
    refine wp_seq_k (fun K134 hK134 => ?_)
    refine wp_region_grow 24 [] (by kernel_rfl) (by kernel_rfl) (by kernel_rfl) (fun Lk hLk => ?_)
    simp only [List.take, List.drop]
    refine wpV_move (v := .int .u32 ((v.a : Nat) : Int)) (by rfl) rfl rfl ?_
    simp only [putT, List.set]
    refine wpV_callf (v := .int .u32 ((rotr v.a 2 : Nat) : Int)) (args := #[.int .u32 ((v.a : Nat) : Int), .int .i64 (-2)]) (by rfl) rfl Tryd.func105 (by kernel_rfl) (by kernel_rfl) rfl (fun W hW => (by have := rotl_c (x := v.a) (n := 2) (w := W) hok.a (by decide) (by decide); exact this)) ?_
    simp only [putT, List.set]
    refine wpV_move (v := .int .u32 ((v.a : Nat) : Int)) (by rfl) rfl rfl ?_
    simp only [putT, List.set]
    refine wpV_callf (v := .int .u32 ((rotr v.a 13 : Nat) : Int)) (args := #[.int .u32 ((v.a : Nat) : Int), .int .i64 (-13)]) (by rfl) rfl Tryd.func105 (by kernel_rfl) (by kernel_rfl) rfl (fun W hW => (by have := rotl_c (x := v.a) (n := 13) (w := W) hok.a (by decide) (by decide); exact this)) ?_
    simp only [putT, List.set]
    refine wpV_bin (v := .int .u32 (((rotr v.a 2) ^^^ (rotr v.a 13) : Nat) : Int)) (by rfl) rfl rfl rfl (fun W => nr_xor32 (x := rotr v.a 2) (y := rotr v.a 13) (rotr_lt hok.a (by decide)) (rotr_lt hok.a (by decide)) W) ?_
    simp only [putT, List.set]
    refine wpV_move (v := .int .u32 ((v.a : Nat) : Int)) (by rfl) rfl rfl ?_
    simp only [putT, List.set]
    refine wpV_callf (v := .int .u32 ((rotr v.a 22 : Nat) : Int)) (args := #[.int .u32 ((v.a : Nat) : Int), .int .i64 (-22)]) (by rfl) rfl Tryd.func105 (by kernel_rfl) (by kernel_rfl) rfl (fun W hW => (by have := rotl_c (x := v.a) (n := 22) (w := W) hok.a (by decide) (by decide); exact this)) ?_
    simp only [putT, List.set]
    refine wpV_bin (v := .int .u32 ((bg0 v.a : Nat) : Int)) (by rfl) rfl rfl rfl (fun W => nr_xor32 (x := (rotr v.a 2) ^^^ (rotr v.a 13)) (y := rotr v.a 22) (xor_lt32 (rotr_lt hok.a (by decide)) (rotr_lt hok.a (by decide))) (rotr_lt hok.a (by decide)) W) ?_
    simp only [putT, List.set]
    refine wpV_move (v := .int .u32 ((v.a : Nat) : Int)) (by rfl) rfl rfl ?_
    simp only [putT, List.set]
    refine wpV_val (v := .pointer (some ⟨g10, 1, none⟩)) (by rfl) (by rfl) (fun W hW => ?_) ?_
    · (go_simp; exact rfl)
    simp only [putT, List.set]
    refine wpV_load1 (v := .int .u32 ((v.b : Nat) : Int)) (by rfl) rfl rfl (range_one (range_sub (M.r 0 0 rfl rfl) 1 1 1 (xs := [.int .u32 ((v.b : Nat) : Int)]) rfl rfl)) (M.lt 0 rfl) Tryd.underlying25 rfl ?_
    simp only [putT, List.set]
    refine wpV_bin (v := .int .u32 ((v.a &&& v.b : Nat) : Int)) (by rfl) rfl rfl rfl (fun W => nr_and32 (x := v.a) (y := v.b) hok.a hok.b W) ?_
    simp only [putT, List.set]
    refine wpV_move (v := .int .u32 ((v.a : Nat) : Int)) (by rfl) rfl rfl ?_
    simp only [putT, List.set]
    refine wpV_val (v := .pointer (some ⟨g10, 2, none⟩)) (by rfl) (by rfl) (fun W hW => ?_) ?_
    · (go_simp; exact rfl)
    simp only [putT, List.set]
    refine wpV_load1 (v := .int .u32 ((v.c : Nat) : Int)) (by rfl) rfl rfl (range_one (range_sub (M.r 0 0 rfl rfl) 2 1 2 (xs := [.int .u32 ((v.c : Nat) : Int)]) rfl rfl)) (M.lt 0 rfl) Tryd.underlying25 rfl ?_
    simp only [putT, List.set]
    refine wpV_bin (v := .int .u32 ((v.a &&& v.c : Nat) : Int)) (by rfl) rfl rfl rfl (fun W => nr_and32 (x := v.a) (y := v.c) hok.a hok.c W) ?_
    simp only [putT, List.set]
    refine wpV_bin (v := .int .u32 (((v.a &&& v.b) ^^^ (v.a &&& v.c) : Nat) : Int)) (by rfl) rfl rfl rfl (fun W => nr_xor32 (x := v.a &&& v.b) (y := v.a &&& v.c) (and_lt32 hok.b) (and_lt32 hok.c) W) ?_
    simp only [putT, List.set]
    refine wpV_val (v := .pointer (some ⟨g10, 1, none⟩)) (by rfl) (by rfl) (fun W hW => ?_) ?_
    · (go_simp; exact rfl)
    simp only [putT, List.set]
    refine wpV_load1 (v := .int .u32 ((v.b : Nat) : Int)) (by rfl) rfl rfl (range_one (range_sub (M.r 0 0 rfl rfl) 1 1 1 (xs := [.int .u32 ((v.b : Nat) : Int)]) rfl rfl)) (M.lt 0 rfl) Tryd.underlying25 rfl ?_
    simp only [putT, List.set]
    refine wpV_val (v := .pointer (some ⟨g10, 2, none⟩)) (by rfl) (by rfl) (fun W hW => ?_) ?_
    · (go_simp; exact rfl)
    simp only [putT, List.set]
    refine wpV_load1 (v := .int .u32 ((v.c : Nat) : Int)) (by rfl) rfl rfl (range_one (range_sub (M.r 0 0 rfl rfl) 2 1 2 (xs := [.int .u32 ((v.c : Nat) : Int)]) rfl rfl)) (M.lt 0 rfl) Tryd.underlying25 rfl ?_
    simp only [putT, List.set]
    refine wpV_bin (v := .int .u32 ((v.b &&& v.c : Nat) : Int)) (by rfl) rfl rfl rfl (fun W => nr_and32 (x := v.b) (y := v.c) hok.b hok.c W) ?_
    simp only [putT, List.set]
    refine wpV_bin (v := .int .u32 ((maj v.a v.b v.c : Nat) : Int)) (by rfl) rfl rfl rfl (fun W => nr_xor32 (x := (v.a &&& v.b) ^^^ (v.a &&& v.c)) (y := v.b &&& v.c) (xor_lt32 (and_lt32 hok.b) (and_lt32 hok.c)) (and_lt32 hok.c) W) ?_
    simp only [putT, List.set]
    refine wpV_bin (v := .int .u32 ((two v : Nat) : Int)) (by rfl) rfl rfl rfl (fun W => nr_add32 _ (bg0 v.a) (maj v.a v.b v.c) W) ?_
    simp only [putT, List.set]
    refine wpV_nil (hLk.out _ ?_)
    clear hLk Lk
    simp only [List.take, List.drop]
    iterate 24 refine wpN_skip (by rfl) ?_
    refine wpN_nil (fun w136 Sw136 hbs => ?_)
    clear hbs
    replace M := M.sees Sw136
    refine wpL_assign (v := .int .u32 ((two v : Nat) : Int)) (by rfl) (by rfl) (by rfl) ?_
    simp only [putT, List.set]
    refine wpL_nil (no_panic ?_)
    refine hK134 _ _ ?_
    refine wp_region_seq ?_
    refine wpL_move (v := .int .u32 ((one (keyN t) (shW l t) v : Nat) : Int)) (by rfl) (by rfl) (by rfl) ?_
    simp only [putT, List.set]
    refine wpL_move (v := .int .u32 ((two v : Nat) : Int)) (by rfl) (by rfl) (by rfl) ?_
    simp only [putT, List.set]
    refine wpL_chunk 16 (by rfl) (fun Lk hLk => ?_)
    simp only [List.take, List.drop]
    refine wpV_bin (v := .int .u32 ((((one (keyN t) (shW l t) v) + (two v)) % 4294967296 : Nat) : Int)) (by rfl) rfl rfl rfl (fun W => nr_add32 _ (one (keyN t) (shW l t) v) (two v) W) ?_
    simp only [putT, List.set]
    refine wpV_move (v := .int .u32 ((v.a : Nat) : Int)) (by rfl) rfl rfl ?_
    simp only [putT, List.set]
    refine wpV_val (v := .pointer (some ⟨g10, 1, none⟩)) (by rfl) (by rfl) (fun W hW => ?_) ?_
    · (go_simp; exact rfl)
    simp only [putT, List.set]
    refine wpV_load1 (v := .int .u32 ((v.b : Nat) : Int)) (by rfl) rfl rfl (range_one (range_sub (M.r 0 0 rfl rfl) 1 1 1 (xs := [.int .u32 ((v.b : Nat) : Int)]) rfl rfl)) (M.lt 0 rfl) Tryd.underlying25 rfl ?_
    simp only [putT, List.set]
    refine wpV_val (v := .pointer (some ⟨g10, 2, none⟩)) (by rfl) (by rfl) (fun W hW => ?_) ?_
    · (go_simp; exact rfl)
    simp only [putT, List.set]
    refine wpV_load1 (v := .int .u32 ((v.c : Nat) : Int)) (by rfl) rfl rfl (range_one (range_sub (M.r 0 0 rfl rfl) 2 1 2 (xs := [.int .u32 ((v.c : Nat) : Int)]) rfl rfl)) (M.lt 0 rfl) Tryd.underlying25 rfl ?_
    simp only [putT, List.set]
    refine wpV_val (v := .pointer (some ⟨g10, 3, none⟩)) (by rfl) (by rfl) (fun W hW => ?_) ?_
    · (go_simp; exact rfl)
    simp only [putT, List.set]
    refine wpV_load1 (v := .int .u32 ((v.d : Nat) : Int)) (by rfl) rfl rfl (range_one (range_sub (M.r 0 0 rfl rfl) 3 1 3 (xs := [.int .u32 ((v.d : Nat) : Int)]) rfl rfl)) (M.lt 0 rfl) Tryd.underlying25 rfl ?_
    simp only [putT, List.set]
    refine wpV_move (v := .int .u32 ((one (keyN t) (shW l t) v : Nat) : Int)) (by rfl) rfl rfl ?_
    simp only [putT, List.set]
    refine wpV_bin (v := .int .u32 (((v.d + (one (keyN t) (shW l t) v)) % 4294967296 : Nat) : Int)) (by rfl) rfl rfl rfl (fun W => nr_add32 _ v.d (one (keyN t) (shW l t) v) W) ?_
    simp only [putT, List.set]
    refine wpV_move (v := .int .u32 ((v.e : Nat) : Int)) (by rfl) rfl rfl ?_
    simp only [putT, List.set]
    refine wpV_val (v := .pointer (some ⟨g10, 5, none⟩)) (by rfl) (by rfl) (fun W hW => ?_) ?_
    · (go_simp; exact rfl)
    simp only [putT, List.set]
    refine wpV_load1 (v := .int .u32 ((v.f : Nat) : Int)) (by rfl) rfl rfl (range_one (range_sub (M.r 0 0 rfl rfl) 5 1 5 (xs := [.int .u32 ((v.f : Nat) : Int)]) rfl rfl)) (M.lt 0 rfl) Tryd.underlying25 rfl ?_
    simp only [putT, List.set]
    refine wpV_val (v := .pointer (some ⟨g10, 6, none⟩)) (by rfl) (by rfl) (fun W hW => ?_) ?_
    · (go_simp; exact rfl)
    simp only [putT, List.set]
    refine wpV_load1 (v := .int .u32 ((v.g : Nat) : Int)) (by rfl) rfl rfl (range_one (range_sub (M.r 0 0 rfl rfl) 6 1 6 (xs := [.int .u32 ((v.g : Nat) : Int)]) rfl rfl)) (M.lt 0 rfl) Tryd.underlying25 rfl ?_
    simp only [putT, List.set]
    refine wpV_val (v := .agg ([.int .u32 ((((one (keyN t) (shW l t) v) + (two v)) % 4294967296 : Nat) : Int), .int .u32 ((v.a : Nat) : Int), .int .u32 ((v.b : Nat) : Int), .int .u32 ((v.c : Nat) : Int), .int .u32 (((v.d + (one (keyN t) (shW l t) v)) % 4294967296 : Nat) : Int), .int .u32 ((v.e : Nat) : Int), .int .u32 ((v.f : Nat) : Int), .int .u32 ((v.g : Nat) : Int)]).toArray) (by rfl) (by rfl) (fun W hW => ?_) ?_
    · (unfold RunsVal; kernel_rfl)
    simp only [putT, List.set]
    refine wpV_nil (hLk _ (fun w138 Sw138 => ?_))
    clear hLk Lk
    simp only [List.take, List.drop]
    replace M := M.sees Sw138
    refine wpL_store (g := g10) (off := 0) (n := 8) (cs := [.int .u32 ((((one (keyN t) (shW l t) v) + (two v)) % 4294967296 : Nat) : Int), .int .u32 ((v.a : Nat) : Int), .int .u32 ((v.b : Nat) : Int), .int .u32 ((v.c : Nat) : Int), .int .u32 (((v.d + (one (keyN t) (shW l t) v)) % 4294967296 : Nat) : Int), .int .u32 ((v.e : Nat) : Int), .int .u32 ((v.f : Nat) : Int), .int .u32 ((v.g : Nat) : Int)]) (by rfl) (by rfl) (by rfl) (by rfl) (by rfl) (M.t 0 rfl) (by simp [flen]) info26 (by simp [fone, Value.oneCell']) (fun w139 P R T => ?_)
    replace M := M.putS 0 0 rfl P R T rfl ⟨.inl rfl, trivial⟩
    simp only [List.set] at M
    refine wpL_nil (no_panic ?_)
    refine hK125 _ _ ?_
    refine wp_region_seq ?_
    refine wpL_chunk 1 (by rfl) (fun Lk hLk => ?_)
    simp only [List.take, List.drop]
    refine wpV_bin (v := .int .i64 ((t + 1 : Nat) : Int)) (by rfl) rfl rfl rfl (fun W => run_add (by simp only [IntKind.wrap_i64]; omega) W) ?_
    simp only [putT, List.set]
    refine wpV_nil (hLk _ (fun w141 Sw141 => ?_))
    clear hLk Lk
    simp only [List.take, List.drop]
    replace M := M.sees Sw141
    refine wpL_move (v := .int .i64 ((t + 1 : Nat) : Int)) (by rfl) (by rfl) (by rfl) ?_
    simp only [putT, List.set]
    refine wpL_nil (no_panic ?_)
    refine Exists.intro _ ⟨?_, (t + 1), (rnd (keyN t) (shW l t) v), (fun q9 => (#[undef, undef, undef, undef, undef, undef, .int .i64 ((t : Nat) : Int), .int .u32 ((v.a : Nat) : Int), .int .u32 ((v.e : Nat) : Int), .int .u32 ((one (keyN t) (shW l t) v : Nat) : Int), .int .u32 ((two v : Nat) : Int), undef, undef, undef, undef, undef, undef, undef, undef, undef, .bool true, .int .i64 ((t : Nat) : Int), .pointer (some ⟨g10, 0, none⟩), .int .u32 ((v.a : Nat) : Int), .pointer (some ⟨g10, 4, none⟩), .int .u32 ((v.e : Nat) : Int), .pointer (some ⟨g10, 7, none⟩), .int .u32 ((v.h : Nat) : Int), .int .u32 ((v.e : Nat) : Int), .int .u32 ((rotr v.e 6 : Nat) : Int), .int .u32 ((v.e : Nat) : Int), .int .u32 ((rotr v.e 11 : Nat) : Int), .int .u32 (((rotr v.e 6) ^^^ (rotr v.e 11) : Nat) : Int), .int .u32 ((v.e : Nat) : Int), .int .u32 ((rotr v.e 25 : Nat) : Int), .int .u32 ((bg1 v.e : Nat) : Int), .int .u32 (((v.h + (bg1 v.e)) % 4294967296 : Nat) : Int), .int .u32 ((v.e : Nat) : Int), .pointer (some ⟨g10, 5, none⟩), .int .u32 ((v.f : Nat) : Int), .int .u32 ((v.e &&& v.f : Nat) : Int), .int .u32 ((v.e : Nat) : Int), .int .u32 ((4294967295 ^^^ v.e : Nat) : Int), .pointer (some ⟨g10, 6, none⟩), .int .u32 ((v.g : Nat) : Int), .int .u32 (((4294967295 ^^^ v.e) &&& v.g : Nat) : Int), .int .u32 ((chs v.e v.f v.g : Nat) : Int), .int .u32 (((((v.h + (bg1 v.e)) % 4294967296) + (chs v.e v.f v.g)) % 4294967296 : Nat) : Int), .int .i64 ((t : Nat) : Int), .pointer (some ⟨0, t, none⟩), .int .u32 ((keyN t : Nat) : Int), .int .u32 (((((((v.h + (bg1 v.e)) % 4294967296) + (chs v.e v.f v.g)) % 4294967296) + (keyN t)) % 4294967296 : Nat) : Int), .int .i64 ((t : Nat) : Int), .pointer (some ⟨g4, t, none⟩), .int .u32 ((shW l t : Nat) : Int), .int .u32 ((one (keyN t) (shW l t) v : Nat) : Int), .int .u32 ((v.a : Nat) : Int), .int .u32 ((rotr v.a 2 : Nat) : Int), .int .u32 ((v.a : Nat) : Int), .int .u32 ((rotr v.a 13 : Nat) : Int), .int .u32 (((rotr v.a 2) ^^^ (rotr v.a 13) : Nat) : Int), .int .u32 ((v.a : Nat) : Int), .int .u32 ((rotr v.a 22 : Nat) : Int), .int .u32 ((bg0 v.a : Nat) : Int), .int .u32 ((v.a : Nat) : Int), .pointer (some ⟨g10, 1, none⟩), .int .u32 ((v.b : Nat) : Int), .int .u32 ((v.a &&& v.b : Nat) : Int), .int .u32 ((v.a : Nat) : Int), .pointer (some ⟨g10, 2, none⟩), .int .u32 ((v.c : Nat) : Int), .int .u32 ((v.a &&& v.c : Nat) : Int), .int .u32 (((v.a &&& v.b) ^^^ (v.a &&& v.c) : Nat) : Int), .pointer (some ⟨g10, 1, none⟩), .int .u32 ((v.b : Nat) : Int), .pointer (some ⟨g10, 2, none⟩), .int .u32 ((v.c : Nat) : Int), .int .u32 ((v.b &&& v.c : Nat) : Int), .int .u32 ((maj v.a v.b v.c : Nat) : Int), .int .u32 ((two v : Nat) : Int), .int .u32 ((one (keyN t) (shW l t) v : Nat) : Int), .int .u32 ((two v : Nat) : Int), .int .u32 ((((one (keyN t) (shW l t) v) + (two v)) % 4294967296 : Nat) : Int), .int .u32 ((v.a : Nat) : Int), .pointer (some ⟨g10, 1, none⟩), .int .u32 ((v.b : Nat) : Int), .pointer (some ⟨g10, 2, none⟩), .int .u32 ((v.c : Nat) : Int), .pointer (some ⟨g10, 3, none⟩), .int .u32 ((v.d : Nat) : Int), .int .u32 ((one (keyN t) (shW l t) v : Nat) : Int), .int .u32 (((v.d + (one (keyN t) (shW l t) v)) % 4294967296 : Nat) : Int), .int .u32 ((v.e : Nat) : Int), .pointer (some ⟨g10, 5, none⟩), .int .u32 ((v.f : Nat) : Int), .pointer (some ⟨g10, 6, none⟩), .int .u32 ((v.g : Nat) : Int), .agg ([.int .u32 ((((one (keyN t) (shW l t) v) + (two v)) % 4294967296 : Nat) : Int), .int .u32 ((v.a : Nat) : Int), .int .u32 ((v.b : Nat) : Int), .int .u32 ((v.c : Nat) : Int), .int .u32 (((v.d + (one (keyN t) (shW l t) v)) % 4294967296 : Nat) : Int), .int .u32 ((v.e : Nat) : Int), .int .u32 ((v.f : Nat) : Int), .int .u32 ((v.g : Nat) : Int)]).toArray, .int .i64 ((t + 1 : Nat) : Int)] : Array Value).getD q9 undef), rfl, rfl, M, (by omega), (by rw [hv]; rfl)⟩
    omega
set_option maxHeartbeats 4000000 in
theorem take_c {g n : Nat} {h : S8} {b l : List UInt8} {w : World} (hh : h.Ok) (hb : b.length < 64) (hl : l.length ≤ 9223372036854775744) (hg : g ≠ 0) (L0 : 0 < w.heap.size) (R0_0 : w.rangeAt 0 0 kcells) (hM : Mem [g] w w [⟨g, 10, [(0, [.int .u32 ((h.a : Nat) : Int), .int .u32 ((h.b : Nat) : Int), .int .u32 ((h.c : Nat) : Int), .int .u32 ((h.d : Nat) : Int), .int .u32 ((h.e : Nat) : Int), .int .u32 ((h.f : Nat) : Int), .int .u32 ((h.g : Nat) : Int), .int .u32 ((h.h : Nat) : Int)]), (8, [.string (bs b)]), (9, [.int .u64 ((n : Nat) : Int)])]⟩]) :
    Calls Tryd.prog 70 #[.pointer (some ⟨g, 0, none⟩), .string (bs l)] w fun e w' => ∃ v, e = .returned v ∧ v = .tuple #[] ∧ Mem [g] w w' [⟨g, 10, [(0, [.int .u32 (((takeH h (b ++ l)).a : Nat) : Int), .int .u32 (((takeH h (b ++ l)).b : Nat) : Int), .int .u32 (((takeH h (b ++ l)).c : Nat) : Int), .int .u32 (((takeH h (b ++ l)).d : Nat) : Int), .int .u32 (((takeH h (b ++ l)).e : Nat) : Int), .int .u32 (((takeH h (b ++ l)).f : Nat) : Int), .int .u32 (((takeH h (b ++ l)).g : Nat) : Int), .int .u32 (((takeH h (b ++ l)).h : Nat) : Int)]), (8, [.string (bs (takeR (b ++ l)))]), (9, [.int .u64 ((((n + l.length) % 18446744073709551616) : Nat) : Int)])]⟩] := by
  go_enter Tryd.func70, Tryd.ntmps70
  have M := hM
  refine wp_seq_k (fun K1 hK1 => ?_)
  refine wp_region_seq ?_
  refine wpL_move (v := .pointer (some ⟨g, 0, none⟩)) (by rfl) (by rfl) (by rfl) ?_
  simp only [putT, List.set]
  refine wpL_chunk 11 (by rfl) (fun Lk hLk => ?_)
  simp only [List.take, List.drop]
  refine wpV_nilCheck (by rfl) rfl rfl ?_
  simp only [putT, List.set]
  refine wpV_val (v := .pointer (some ⟨g, 0, none⟩)) (by rfl) (by rfl) (fun W hW => ?_) ?_
  · (go_simp; exact rfl)
  simp only [putT, List.set]
  refine wpV_val (v := .pointer (some ⟨g, 9, none⟩)) (by rfl) (by rfl) (fun W hW => ?_) ?_
  · (go_simp; exact rfl)
  simp only [putT, List.set]
  refine wpV_load1 (v := .int .u64 ((n : Nat) : Int)) (by rfl) rfl rfl (range_one (M.r 0 2 rfl rfl)) (M.lt 0 rfl) Tryd.underlying27 rfl ?_
  simp only [putT, List.set]
  refine wpV_move (v := .string (bs l)) (by rfl) rfl rfl ?_
  simp only [putT, List.set]
  refine wpV_lenS (by rfl) rfl rfl rfl Tryd.underlying9 ?_
  simp only [putT, List.set]
  refine wpV_conv (d := .bool) (e := ((l.length : Nat) : Int)) (by rfl) rfl rfl (run_conv_int Tryd.underlying3 Tryd.underlying27 ((wrap64N _).trans (congrArg _ (Nat.mod_eq_of_lt (by omega))))) ?_
  simp only [putT, List.set]
  refine wpV_bin (v := .int .u64 (((n + l.length) % 18446744073709551616 : Nat) : Int)) (by rfl) rfl rfl rfl (fun W => nr_add64 _ n l.length W) ?_
  simp only [putT, List.set]
  refine wpV_nilCheck (by rfl) rfl rfl ?_
  simp only [putT, List.set]
  refine wpV_val (v := .pointer (some ⟨g, 0, none⟩)) (by rfl) (by rfl) (fun W hW => ?_) ?_
  · (go_simp; exact rfl)
  simp only [putT, List.set]
  refine wpV_val (v := .pointer (some ⟨g, 9, none⟩)) (by rfl) (by rfl) (fun W hW => ?_) ?_
  · (go_simp; exact rfl)
  simp only [putT, List.set]
  refine wpV_nil (hLk _ (fun w3 Sw3 => ?_))
  clear hLk Lk
  simp only [List.take, List.drop]
  replace M := M.sees Sw3
  refine wpL_store1 (g := g) (off := 9) (n := 10) (v := .int .u64 (((n + l.length) % 18446744073709551616 : Nat) : Int)) (by rfl) (by rfl) (by rfl) (by rfl) (by rfl) (M.t 0 rfl) (by decide) info27 rfl (fun w4 P R T => ?_)
  replace M := M.putS (new := [.int .u64 (((n + l.length) % 18446744073709551616 : Nat) : Int)]) 0 2 rfl P R T rfl (by simp [SepS, flen])
  simp only [List.set] at M
  refine wpL_nil (no_panic ?_)
  refine hK1 _ _ ?_
  refine wp_seq_k (fun K5 hK5 => ?_)
  refine wp_region_seq ?_
  refine wpL_move (v := .pointer (some ⟨g, 0, none⟩)) (by rfl) (by rfl) (by rfl) ?_
  simp only [putT, List.set]
  refine wpL_chunk 6 (by rfl) (fun Lk hLk => ?_)
  simp only [List.take, List.drop]
  refine wpV_nilCheck (by rfl) rfl rfl ?_
  simp only [putT, List.set]
  refine wpV_val (v := .pointer (some ⟨g, 0, none⟩)) (by rfl) (by rfl) (fun W hW => ?_) ?_
  · (go_simp; exact rfl)
  simp only [putT, List.set]
  refine wpV_val (v := .pointer (some ⟨g, 8, none⟩)) (by rfl) (by rfl) (fun W hW => ?_) ?_
  · (go_simp; exact rfl)
  simp only [putT, List.set]
  refine wpV_load1 (v := .string (bs b)) (by rfl) rfl rfl (range_one (M.r 0 1 rfl rfl)) (M.lt 0 rfl) Tryd.underlying9 rfl ?_
  simp only [putT, List.set]
  refine wpV_move (v := .string (bs l)) (by rfl) rfl rfl ?_
  simp only [putT, List.set]
  refine wpV_binS (v := .string (bs (b ++ l))) (by rfl) rfl rfl rfl (run_add_bs _ _ _ (by omega)) ?_
  simp only [putT, List.set]
  refine wpV_nil (hLk _ (fun w7 Sw7 => ?_))
  clear hLk Lk
  simp only [List.take, List.drop]
  replace M := M.sees Sw7
  refine wpL_assign (v := .string (bs (b ++ l))) (by rfl) (by rfl) (by rfl) ?_
  simp only [putT, List.set]
  refine wpL_nil (no_panic ?_)
  refine hK5 _ _ ?_
  refine wp_seq_k (fun K8 hK8 => ?_)
  refine wp_block ?_
  refine wp_loop_ghost (fun n9 a9 W9 => ∃ (r : List UInt8) (s : S8) (u9 : Nat → Value), n9 = r.length ∧ a9 = { tmps := #[.pointer (some ⟨g, 0, none⟩), .string (bs r), undef, undef, .pointer (some ⟨g, 0, none⟩), .pointer (some ⟨g, 0, none⟩), .pointer (some ⟨g, 0, none⟩), .pointer (some ⟨g, 9, none⟩), .int .u64 ((n : Nat) : Int), .string (bs l), .int .i64 ((l.length : Nat) : Int), .int .u64 ((l.length : Nat) : Int), .int .u64 (((n + l.length) % 18446744073709551616 : Nat) : Int), .pointer (some ⟨g, 0, none⟩), .pointer (some ⟨g, 0, none⟩), .pointer (some ⟨g, 9, none⟩), .pointer (some ⟨g, 0, none⟩), .pointer (some ⟨g, 0, none⟩), .pointer (some ⟨g, 0, none⟩), .pointer (some ⟨g, 8, none⟩), .string (bs b), .string (bs l), .string (bs (b ++ l)), u9 23, u9 24, u9 25, u9 26, u9 27, u9 28, u9 29, u9 30, undef, undef, undef, undef, undef], defers := [] } ∧ Mem [g] w W9 [⟨g, 10, [(0, [.int .u32 ((s.a : Nat) : Int), .int .u32 ((s.b : Nat) : Int), .int .u32 ((s.c : Nat) : Int), .int .u32 ((s.d : Nat) : Int), .int .u32 ((s.e : Nat) : Int), .int .u32 ((s.f : Nat) : Int), .int .u32 ((s.g : Nat) : Int), .int .u32 ((s.h : Nat) : Int)]), (8, [.string (bs b)]), (9, [.int .u64 ((((n + l.length) % 18446744073709551616) : Nat) : Int)])]⟩] ∧ (s.Ok) ∧ (takeH s r = takeH h (b ++ l)) ∧ (takeR r = takeR (b ++ l))) ((b ++ l).length) ?_ (fun n9 a9 W9 hI => ?_)
  · exact ⟨(b ++ l), h, (fun q9 => (#[undef, undef, undef, undef, undef, undef, undef, undef, undef, undef, undef, undef, undef, undef, undef, undef, undef, undef, undef, undef, undef, undef, undef, undef, undef, undef, undef, undef, undef, undef, undef] : Array Value).getD q9 undef), rfl, rfl, M, hh, rfl, rfl⟩
  clear M
  obtain ⟨r, s, u9, rfl, rfl, M, hs, hH, hR⟩ := hI
  obtain ⟨w10, rfl⟩ : ∃ W8, W8 = W9 := ⟨_, rfl⟩
  refine wp_seq_k (fun K11 hK11 => ?_)
  refine wp_seq_k (fun K12 hK12 => ?_)
  refine wp_region_seq ?_
  refine wpL_move (v := .string (bs r)) (by rfl) (by rfl) (by rfl) ?_
  simp only [putT, List.set]
  refine wpL_chunk 2 (by rfl) (fun Lk hLk => ?_)
  simp only [List.take, List.drop]
  refine wpV_lenS (by rfl) rfl rfl rfl Tryd.underlying9 ?_
  simp only [putT, List.set]
  refine wpV_bin (v := .bool (decide (64 ≤ r.length))) (by rfl) rfl rfl rfl (fun W => run_geqN r.length 64 _ _ W) ?_
  simp only [putT, List.set]
  refine wpV_nil (hLk _ (fun w14 Sw14 => ?_))
  clear hLk Lk
  simp only [List.take, List.drop]
  replace M := M.sees Sw14
  refine wpL_nil (no_panic ?_)
  refine hK12 _ _ ?_
  cases hc15 : (decide (64 ≤ r.length))
  · skip
    have h64 : ¬ 64 ≤ r.length := of_decide_eq_false hc15
    rw [takeH_done h64] at hH
    rw [takeR_done h64] at hR
    subst hH hR
    refine wp_cond_false rfl ?_
    refine wp_exit ?_
    refine hK8 _ _ ?_
    refine wp_region_seq ?_
    refine wpL_move (v := .pointer (some ⟨g, 0, none⟩)) (by rfl) (by rfl) (by rfl) ?_
    simp only [putT, List.set]
    refine wpL_move (v := .string (bs (takeR (b ++ l)))) (by rfl) (by rfl) (by rfl) ?_
    simp only [putT, List.set]
    refine wpL_chunk 3 (by rfl) (fun Lk hLk => ?_)
    simp only [List.take, List.drop]
    refine wpV_nilCheck (by rfl) rfl rfl ?_
    simp only [putT, List.set]
    refine wpV_val (v := .pointer (some ⟨g, 0, none⟩)) (by rfl) (by rfl) (fun W hW => ?_) ?_
    · (go_simp; exact rfl)
    simp only [putT, List.set]
    refine wpV_val (v := .pointer (some ⟨g, 8, none⟩)) (by rfl) (by rfl) (fun W hW => ?_) ?_
    · (go_simp; exact rfl)
    simp only [putT, List.set]
    refine wpV_nil (hLk _ (fun w17 Sw17 => ?_))
    clear hLk Lk
    simp only [List.take, List.drop]
    replace M := M.sees Sw17
    refine wpL_store1 (g := g) (off := 8) (n := 10) (v := .string (bs (takeR (b ++ l)))) (by rfl) (by rfl) (by rfl) (by rfl) (by rfl) (M.t 0 rfl) (by decide) info9 rfl (fun w18 P R T => ?_)
    replace M := M.putS (new := [.string (bs (takeR (b ++ l)))]) 0 1 rfl P R T rfl (by simp [SepS, flen])
    simp only [List.set] at M
    refine wpL_nil (no_panic ?_)
    repeat (first | with_reducible refine then_exit ?_ | with_reducible refine inblock_exit ?_)
    refine bodyPost_end (v := .tuple #[]) (results_none rfl _ _ _) rfl ?_
    exact ⟨_, rfl, rfl, M.pick [0] (by decide) rfl⟩
  · skip
    have h64 : 64 ≤ r.length := of_decide_eq_true hc15
    refine wp_cond_true rfl ?_
    refine wp_skip ?_
    refine hK11 _ _ ?_
    refine wp_seq_k (fun K19 hK19 => ?_)
    refine wp_block ?_
    refine wp_region_seq ?_
    refine wpL_move (v := .pointer (some ⟨g, 0, none⟩)) (by rfl) (by rfl) (by rfl) ?_
    simp only [putT, List.set]
    refine wpL_move (v := .string (bs r)) (by rfl) (by rfl) (by rfl) ?_
    simp only [putT, List.set]
    refine wpL_callM (f := 88) (args := #[.pointer (some ⟨g, 0, none⟩), .string (bs r)]) (R := fun v9 W9 => v9 = .tuple #[] ∧ Mem [g] w14 W9 [⟨g, 10, [(0, [.int .u32 (((mixS s r).a : Nat) : Int), .int .u32 (((mixS s r).b : Nat) : Int), .int .u32 (((mixS s r).c : Nat) : Int), .int .u32 (((mixS s r).d : Nat) : Int), .int .u32 (((mixS s r).e : Nat) : Int), .int .u32 (((mixS s r).f : Nat) : Int), .int .u32 (((mixS s r).g : Nat) : Int), .int .u32 (((mixS s r).h : Nat) : Int)]), (8, [.string (bs b)]), (9, [.int .u64 ((((n + l.length) % 18446744073709551616) : Nat) : Int)])]⟩]) (by rfl) (by rfl) rfl Tryd.func88 (by kernel_rfl) (by kernel_rfl) (mix_c (h := s) (l := r) hs h64 hg (M.oldL L0) (M.oldG R0_0 L0 (by simpa using Ne.symm hg)) (M.one 0 rfl)) (fun v9 w21 h9 => ?_)
    obtain ⟨rfl, M9⟩ := h9
    replace M := M.callM1 0 rfl M9
    simp only [List.set] at M
    simp only [putT, List.set]
    refine wpL_nil (no_panic ?_)
    refine hK19 _ _ ?_
    refine wp_region_seq ?_
    refine wpL_move (v := .string (bs r)) (by rfl) (by rfl) (by rfl) ?_
    simp only [putT, List.set]
    refine wpL_chunk 1 (by rfl) (fun Lk hLk => ?_)
    simp only [List.take, List.drop]
    refine wpV_drop (l := r) (lo := 64) (by rfl) rfl rfl rfl Tryd.underlying9 h64 ?_
    simp only [putT, List.set]
    refine wpV_nil (hLk _ (fun w23 Sw23 => ?_))
    clear hLk Lk
    simp only [List.take, List.drop]
    replace M := M.sees Sw23
    refine wpL_assign (v := .string (bs (r.drop 64))) (by rfl) (by rfl) (by rfl) ?_
    simp only [putT, List.set]
    refine wpL_nil (no_panic ?_)
    refine Exists.intro _ ⟨?_, (r.drop 64), (mixS s r), (fun q9 => (#[undef, undef, undef, undef, undef, undef, undef, undef, undef, undef, undef, undef, undef, undef, undef, undef, undef, undef, undef, undef, undef, undef, undef, .string (bs r), .int .i64 ((r.length : Nat) : Int), .bool true, .string (bs r), .string (bs (r.drop 64)), .pointer (some ⟨g, 0, none⟩), .string (bs r), .tuple #[]] : Array Value).getD q9 undef), rfl, rfl, M, (plus8_ok ..), ((takeH_more h64).symm.trans hH), ((takeR_more h64).symm.trans hR)⟩
    rw [List.length_drop]; omega
end Go.Proofs.Yb
