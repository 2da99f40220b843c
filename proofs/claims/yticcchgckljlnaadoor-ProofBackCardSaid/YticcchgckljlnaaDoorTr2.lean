import Derived.WalkKit
import Derived.WalkSpells
import Derived.Laws.Pointers
import Derived.RowKit3
import Derived.Below
import Derived.Outline
import Derived.LoopN
import Derived.Lib.Hide
import Derived.Handy
import Derived.Laws.Bits64b
import Derived.Test.YticcchgckljlnaaDoorBld
import Derived.Test.YticcchgckljlnaaDoorTr
set_option linter.unusedSimpArgs false
set_option linter.unusedVariables false
namespace Go.Proofs.Yb
open Go Go.RowKit Go.Proofs.Num
open List renaming set → Z0, take → Z1, drop → Z2
open Go renaming undef → Z3, wp_seq_k → Z4, wp_cond_true → Z5, wp_cond_false → Z6
open Go.Proofs.Num renaming putT → Z7, wp_region_seq → Z8, wpL_nil → Z9, no_panic → Z10, wpL_chunk → Z11, wpL_move → Z12, wpL_assign → Z13, wpV_nil → Z14, wpV_bin → Z15, wpV_move → Z16, then_normal → Z17, wpL_store1 → Z18, wpV_val → Z19, wpV_callf → Z20
set_option maxHeartbeats 4000000 in
theorem end_c {g n : Nat} {h : S8} {b : List UInt8} {w : World} (hh : h.Ok) (hb : b.length < 64) (hn : n < 18446744073709551616) (hg : g ≠ 0) (L0 : 0 < w.heap.size) (R0_0 : w.rangeAt 0 0 kcells) (hM : Mem [g] w w [⟨g, 10, [(0, [.int .u32 ((h.a : Nat) : Int), .int .u32 ((h.b : Nat) : Int), .int .u32 ((h.c : Nat) : Int), .int .u32 ((h.d : Nat) : Int), .int .u32 ((h.e : Nat) : Int), .int .u32 ((h.f : Nat) : Int), .int .u32 ((h.g : Nat) : Int), .int .u32 ((h.h : Nat) : Int)]), (8, [.string (bs b)]), (9, [.int .u64 ((n : Nat) : Int)])]⟩]) :
  Calls Tryd.prog 71 #[.pointer (some ⟨g, 0, none⟩)] w fun e w' => ∃ v, e = .returned v ∧ v = .string (bs (endL h b n)) ∧ Mem [g] w w' [⟨g, 10, []⟩] := by
 go_enter Tryd.func71, Tryd.ntmps71
 have M := hM
 refine Z4 (fun K1 hK1 => ?_)
 refine Z8 ?_
 refine Z13 (v := .string (bs ([]))) (by rfl) (by rfl) (by rfl) ?_
 simp only [Z7,Z0]
 refine Z9 (Z10 ?_)
 refine hK1 _ _ ?_
 refine Z4 (fun K3 hK3 => ?_)
 refine Z8 ?_
 refine Z12 (v := .pointer (some ⟨g, 0, none⟩)) (by rfl) (by rfl) (by rfl) ?_
 simp only [Z7,Z0]
 refine Z11 5 (by rfl) (fun Lk hLk => ?_)
 simp only [Z1,Z2]
 refine wpV_nilCheck (by rfl) rfl rfl ?_
 simp only [Z7,Z0]
 refine Z19 (v := .pointer (some ⟨g, 0, none⟩)) (by rfl) (by rfl) (fun W hW => ?_) ?_
 ·
  (go_simp; exact rfl)
 simp only [Z7,Z0]
 refine Z19 (v := .pointer (some ⟨g, 9, none⟩)) (by rfl) (by rfl) (fun W hW => ?_) ?_
 ·
  (go_simp; exact rfl)
 simp only [Z7,Z0]
 refine wpV_load1 (v := .int .u64 ((n : Nat) : Int)) (by rfl) rfl rfl (range_one (M.r 0 2 rfl rfl)) (M.lt 0 rfl) Tryd.underlying27 rfl ?_
 simp only [Z7,Z0]
 refine Z15 (v := .int .u64 (((n * 8) % 18446744073709551616 : Nat) : Int)) (by rfl) rfl rfl rfl (fun W => nr_mul64 _ n 8 W) ?_
 simp only [Z7,Z0]
 refine Z14 (hLk _ (fun w5 Sw5 => ?_))
 clear hLk Lk
 simp only [Z1,Z2]
 replace M := M.sees Sw5
 refine Z13 (v := .int .u64 (((n * 8) % 18446744073709551616 : Nat) : Int)) (by rfl) (by rfl) (by rfl) ?_
 simp only [Z7,Z0]
 refine Z9 (Z10 ?_)
 refine hK3 _ _ ?_
 refine Z4 (fun K6 hK6 => ?_)
 refine Z8 ?_
 refine Z12 (v := .pointer (some ⟨g, 0, none⟩)) (by rfl) (by rfl) (by rfl) ?_
 simp only [Z7,Z0]
 refine Z11 7 (by rfl) (fun Lk hLk => ?_)
 simp only [Z1,Z2]
 refine wpV_nilCheck (by rfl) rfl rfl ?_
 simp only [Z7,Z0]
 refine Z19 (v := .pointer (some ⟨g, 0, none⟩)) (by rfl) (by rfl) (fun W hW => ?_) ?_
 ·
  (go_simp; exact rfl)
 simp only [Z7,Z0]
 refine Z19 (v := .pointer (some ⟨g, 8, none⟩)) (by rfl) (by rfl) (fun W hW => ?_) ?_
 ·
  (go_simp; exact rfl)
 simp only [Z7,Z0]
 refine wpV_load1 (v := .string (bs b)) (by rfl) rfl rfl (range_one (M.r 0 1 rfl rfl)) (M.lt 0 rfl) Tryd.underlying9 rfl ?_
 simp only [Z7,Z0]
 refine wpV_lenS (by rfl) rfl rfl rfl Tryd.underlying9 ?_
 simp only [Z7,Z0]
 refine Z15 (v := .int .i64 ((119 - b.length : Nat) : Int)) (by rfl) rfl rfl rfl (fun W => run_sub (by simp only [IntKind.wrap_i64]; omega) W) ?_
 simp only [Z7,Z0]
 refine Z15 (v := .int .i64 (((119 - b.length) % 64 : Nat) : Int)) (by rfl) rfl rfl rfl (fun W => run_rem (by decide) (tmod_nat (119 - b.length) 64) W) ?_
 simp only [Z7,Z0]
 refine Z14 (hLk _ (fun w8 Sw8 => ?_))
 clear hLk Lk
 simp only [Z1,Z2]
 replace M := M.sees Sw8
 refine Z13 (v := .int .i64 (((119 - b.length) % 64 : Nat) : Int)) (by rfl) (by rfl) (by rfl) ?_
 simp only [Z7,Z0]
 refine Z9 (Z10 ?_)
 refine hK6 _ _ ?_
 refine Z4 (fun K9 hK9 => ?_)
 refine Z8 ?_
 refine Z12 (v := .int .i64 (((119 - b.length) % 64 : Nat) : Int)) (by rfl) (by rfl) (by rfl) ?_
 simp only [Z7,Z0]
 refine Z11 2 (by rfl) (fun Lk hLk => ?_)
 simp only [Z1,Z2]
 refine Z15 (v := .int .i64 ((1 + (119 - b.length) % 64 : Nat) : Int)) (by rfl) rfl rfl rfl (fun W => run_add (by simp only [IntKind.wrap_i64]; omega) W) ?_
 simp only [Z7,Z0]
 refine Z15 (v := .int .i64 ((1 + (119 - b.length) % 64 + 8 : Nat) : Int)) (by rfl) rfl rfl rfl (fun W => run_add (by simp only [IntKind.wrap_i64]; omega) W) ?_
 simp only [Z7,Z0]
 refine Z14 (hLk _ (fun w11 Sw11 => ?_))
 clear hLk Lk
 simp only [Z1,Z2]
 replace M := M.sees Sw11
 refine wpL_make (n := 1 + (119 - b.length) % 64 + 8) (z := .int .u8 0) (bytes := 1) (by rfl) (by rfl) (by rfl) (by rfl) Tryd.underlying35 (by kernel_rfl) rfl (by omega) (by omega) (fun g12 w13 Sw13 Hg12 Bg12 => ?_)
 replace M := ((M.sees Sw13).add (N := 1 + (119 - b.length) % 64 + 8) (cs := List.replicate (1 + (119 - b.length) % 64 + 8) (.int .u8 0)) (M.ge Hg12) (M.fresh Hg12) Bg12 (by simp [flen]))
 clear Bg12
 simp only [Z7,Z0]
 refine Z13 (v := .slice (some ⟨g12, 0, none⟩) (1 + (119 - b.length) % 64 + 8) (1 + (119 - b.length) % 64 + 8)) (by rfl) (by rfl) (by rfl) ?_
 simp only [Z7,Z0]
 refine Z9 (Z10 ?_)
 refine hK9 _ _ ?_
 refine Z4 (fun K14 hK14 => ?_)
 refine Z8 ?_
 refine Z12 (v := .slice (some ⟨g12, 0, none⟩) (1 + (119 - b.length) % 64 + 8) (1 + (119 - b.length) % 64 + 8)) (by rfl) (by rfl) (by rfl) ?_
 simp only [Z7,Z0]
 refine Z11 1 (by rfl) (fun Lk hLk => ?_)
 simp only [Z1,Z2]
 refine wpV_idxs (n := 0) (by rfl) rfl rfl rfl Tryd.underlying35 info5 (by omega) ?_
 simp only [Nat.zero_add]
 simp only [Z7,Z0]
 refine Z14 (hLk _ (fun w16 Sw16 => ?_))
 clear hLk Lk
 simp only [Z1,Z2]
 replace M := M.sees Sw16
 refine Z18 (g := g12) (off := 0) (n := 1 + (119 - b.length) % 64 + 8) (v := .int .u8 128) (by rfl) (by rfl) (by rfl) (by rfl) (by rfl) (M.t 0 rfl) (by omega) info5 rfl (fun w17 P R T => ?_)
 replace M := M.put1 (j := 0) 0 rfl P R T (Nat.zero_add _).symm
 simp only [Z0] at M
 rw [tail_first _ (n * 8 % 18446744073709551616)] at M
 refine Z9 (Z10 ?_)
 refine hK14 _ _ ?_
 refine Z4 (fun K18 hK18 => ?_)
 refine Z4 (fun K19 hK19 => ?_)
 refine Z8 ?_
 refine Z12 (v := .int .i64 0) (by rfl) (by rfl) (by rfl) ?_
 simp only [Z7,Z0]
 refine Z9 (Z10 ?_)
 refine hK19 _ _ ?_
 refine wp_block ?_
 refine wp_loop_ghost (fun n9 a9 W9 => ∃ (q : Nat) (u21 : Nat → Value), n9 = 8 - q ∧ a9 = { tmps := #[.pointer (some ⟨g, 0, none⟩), Z3, .string (bs ([])), .int .u64 (((n * 8) % 18446744073709551616 : Nat) : Int), .int .i64 (((119 - b.length) % 64 : Nat) : Int), .slice (some ⟨g12, 0, none⟩) (1 + (119 - b.length) % 64 + 8) (1 + (119 - b.length) % 64 + 8), u21 6, Z3, Z3, Z3, Z3, .pointer (some ⟨g, 0, none⟩), .pointer (some ⟨g, 0, none⟩), .pointer (some ⟨g, 0, none⟩), .pointer (some ⟨g, 9, none⟩), .int .u64 ((n : Nat) : Int), .int .u64 (((n * 8) % 18446744073709551616 : Nat) : Int), .pointer (some ⟨g, 0, none⟩), .pointer (some ⟨g, 0, none⟩), .pointer (some ⟨g, 0, none⟩), .pointer (some ⟨g, 8, none⟩), .string (bs b), .int .i64 ((b.length : Nat) : Int), .int .i64 ((119 - b.length : Nat) : Int), .int .i64 (((119 - b.length) % 64 : Nat) : Int), .int .i64 (((119 - b.length) % 64 : Nat) : Int), .int .i64 ((1 + (119 - b.length) % 64 : Nat) : Int), .int .i64 ((1 + (119 - b.length) % 64 + 8 : Nat) : Int), .slice (some ⟨g12, 0, none⟩) (1 + (119 - b.length) % 64 + 8) (1 + (119 - b.length) % 64 + 8), .slice (some ⟨g12, 0, none⟩) (1 + (119 - b.length) % 64 + 8) (1 + (119 - b.length) % 64 + 8), .pointer (some ⟨g12, 0, none⟩), .int .i64 ((q : Nat) : Int), u21 32, u21 33, u21 34, u21 35, u21 36, u21 37, u21 38, u21 39, u21 40, u21 41, u21 42, u21 43, u21 44, u21 45, u21 46, Z3, Z3, Z3, Z3, Z3, Z3, Z3, Z3, Z3, Z3, Z3, Z3, Z3, Z3, Z3, Z3, Z3, Z3, Z3, Z3, Z3, Z3, Z3, Z3, Z3], defers := [] } ∧ Mem [g] w W9 [⟨g12, 1 + (119 - b.length) % 64 + 8, [(0, bl (1 + (119 - b.length) % 64 + 8) (tailF ((119 - b.length) % 64) (n * 8 % 18446744073709551616) q))]⟩, ⟨g, 10, [(0, [.int .u32 ((h.a : Nat) : Int), .int .u32 ((h.b : Nat) : Int), .int .u32 ((h.c : Nat) : Int), .int .u32 ((h.d : Nat) : Int), .int .u32 ((h.e : Nat) : Int), .int .u32 ((h.f : Nat) : Int), .int .u32 ((h.g : Nat) : Int), .int .u32 ((h.h : Nat) : Int)]), (8, [.string (bs b)]), (9, [.int .u64 ((n : Nat) : Int)])]⟩] ∧ (q ≤ 8)) (8 - (0)) ?_ (fun n9 a9 W9 hI => ?_)
 ·
  exact ⟨0, (fun q9 => (#[Z3, Z3, Z3, Z3, Z3, Z3, Z3, Z3, Z3, Z3, Z3, Z3, Z3, Z3, Z3, Z3, Z3, Z3, Z3, Z3, Z3, Z3, Z3, Z3, Z3, Z3, Z3, Z3, Z3, Z3, Z3, Z3, Z3, Z3, Z3, Z3, Z3, Z3, Z3, Z3, Z3, Z3, Z3, Z3, Z3, Z3, Z3] : Array Value).getD q9 Z3), rfl, rfl, M, (by omega)⟩
 clear M
 obtain ⟨q, u21, rfl, rfl, M, hq4⟩ := hI
 obtain ⟨w22, rfl⟩ : ∃ W8, W8 = W9 := ⟨_, rfl⟩
 refine Z4 (fun K23 hK23 => ?_)
 refine Z8 ?_
 refine Z11 1 (by rfl) (fun Lk hLk => ?_)
 simp only [Z1,Z2]
 refine Z15 (v := .bool (decide (q < 8))) (by rfl) rfl rfl rfl (fun W => run_lssN q 8 _ _ W) ?_
 simp only [Z7,Z0]
 refine Z14 (hLk _ (fun w25 Sw25 => ?_))
 clear hLk Lk
 simp only [Z1,Z2]
 replace M := M.sees Sw25
 refine Z9 (Z10 ?_)
 refine hK23 _ _ ?_
 refine Z4 (fun K26 hK26 => ?_)
 cases hc27 : (decide (q < 8))
 ·
  have eq : q = 8 := by have := of_decide_eq_false hc27; omega
  subst eq
  refine Z6 rfl ?_
  refine wp_exit ?_
  refine hK18 _ _ ?_
  refine Z4 (fun K28 hK28 => ?_)
  rw [tail_end] at M
  refine Z8 ?_
  refine Z12 (v := .pointer (some ⟨g, 0, none⟩)) (by rfl) (by rfl) (by rfl) ?_
  simp only [Z7,Z0]
  refine Z12 (v := .slice (some ⟨g12, 0, none⟩) (1 + (119 - b.length) % 64 + 8) (1 + (119 - b.length) % 64 + 8)) (by rfl) (by rfl) (by rfl) ?_
  simp only [Z7,Z0]
  refine Z11 1 (by rfl) (fun Lk hLk => ?_)
  simp only [Z1,Z2]
  refine wpV_b2s (l := (tailL b.length n)) (by rfl) rfl rfl (tailL_len ..).symm Tryd.underlying35 Tryd.underlying5 Tryd.underlying9 (M.r 0 0 rfl rfl) (M.lt 0 rfl) ?_
  simp only [Z7,Z0]
  refine Z14 (hLk _ (fun w30 Sw30 => ?_))
  clear hLk Lk
  simp only [Z1,Z2]
  replace M := M.sees Sw30
  refine wpL_callM (f := 70) (args := #[.pointer (some ⟨g, 0, none⟩), .string (bs (tailL b.length n))]) (R := fun v9 W9 => v9 = .tuple #[] ∧ Mem [g] w30 W9 [⟨g, 10, [(0, [.int .u32 (((takeH h (b ++ (tailL b.length n))).a : Nat) : Int), .int .u32 (((takeH h (b ++ (tailL b.length n))).b : Nat) : Int), .int .u32 (((takeH h (b ++ (tailL b.length n))).c : Nat) : Int), .int .u32 (((takeH h (b ++ (tailL b.length n))).d : Nat) : Int), .int .u32 (((takeH h (b ++ (tailL b.length n))).e : Nat) : Int), .int .u32 (((takeH h (b ++ (tailL b.length n))).f : Nat) : Int), .int .u32 (((takeH h (b ++ (tailL b.length n))).g : Nat) : Int), .int .u32 (((takeH h (b ++ (tailL b.length n))).h : Nat) : Int)]), (8, [.string (bs (takeR (b ++ (tailL b.length n))))]), (9, [.int .u64 ((((n + (tailL b.length n).length) % 18446744073709551616) : Nat) : Int)])]⟩]) (by rfl) (by rfl) rfl Tryd.func70 (by kernel_rfl) (by kernel_rfl) (take_c (h := h) (b := b) (l := (tailL b.length n)) (n := n) hh hb (by rw [tailL_len]; omega) hg (M.oldL L0) (M.oldG R0_0 L0 (by simpa using Ne.symm hg)) (M.one 1 rfl)) (fun v9 w31 h9 => ?_)
  obtain ⟨rfl, M9⟩ := h9
  replace M := M.callM1 1 rfl M9
  simp only [Z0] at M
  simp only [Z7,Z0]
  refine Z9 (Z10 ?_)
  refine hK28 _ _ ?_
  refine Z4 (fun K32 hK32 => ?_)
  have hok : (takeH h (b ++ (tailL b.length n))).Ok := takeH_ok _ _ _ (Nat.le_refl _) hh
  generalize hS : takeH h (b ++ (tailL b.length n)) = S at M hok
  have hgB := M.lt 1 rfl
  have hsz := M.size
  refine Z8 ?_
  refine wpL_var (t := 108) (cs := [.pointer none, .slice none 0 0]) (by rfl) (fun W => ?_) (fun g34 w33 SB HB BB => ?_)
  ·
   go_simp
  have IB : Lib.IsBuilder 108 5 w31.heap.size g34 [] w33 := .inl ⟨HB, _, BB, World.ownsRow_nil _ _ _ _, by simp [Value.ownBlock]⟩
  have HB9 := SB.2.2.size
  replace M := M.sees SB
  simp only [Z7,Z0]
  refine Z9 (Z10 ?_)
  refine hK32 _ _ ?_
  refine Z4 (fun K35 hK35 => ?_)
  refine Z4 (fun K36 hK36 => ?_)
  refine Z8 ?_
  refine Z12 (v := .pointer (some ⟨g, 0, none⟩)) (by rfl) (by rfl) (by rfl) ?_
  simp only [Z7,Z0]
  refine Z11 4 (by rfl) (fun Lk hLk => ?_)
  simp only [Z1,Z2]
  refine wpV_nilCheck (by rfl) rfl rfl ?_
  simp only [Z7,Z0]
  refine Z19 (v := .pointer (some ⟨g, 0, none⟩)) (by rfl) (by rfl) (fun W hW => ?_) ?_
  ·
   (go_simp; exact rfl)
  simp only [Z7,Z0]
  refine Z19 (v := .pointer (some ⟨g, 0, none⟩)) (by rfl) (by rfl) (fun W hW => ?_) ?_
  ·
   (go_simp; exact rfl)
  simp only [Z7,Z0]
  refine wpV_load (cs := [.int .u32 ((S.a : Nat) : Int), .int .u32 ((S.b : Nat) : Int), .int .u32 ((S.c : Nat) : Int), .int .u32 ((S.d : Nat) : Int), .int .u32 ((S.e : Nat) : Int), .int .u32 ((S.f : Nat) : Int), .int .u32 ((S.g : Nat) : Int), .int .u32 ((S.h : Nat) : Int)]) (by rfl) rfl rfl (M.r 1 0 rfl rfl) (M.lt 1 rfl) Tryd.underlying26 rfl info26 ?_
  simp only [Z7,Z0]
  refine Z14 (hLk _ (fun w38 Sw38 => ?_))
  clear hLk Lk
  simp only [Z1,Z2]
  replace M := M.sees Sw38
  replace IB := isB_sees IB Sw38; replace HB9 := Nat.le_trans HB9 Sw38.2.2.size
  refine Z12 (v := .int .i64 0) (by rfl) (by rfl) (by rfl) ?_
  simp only [Z7,Z0]
  refine Z9 (Z10 ?_)
  replace M := (M.pick [1] (by decide) rfl : Mem [g] w w38 [⟨g, 10, [(0, [.int .u32 ((S.a : Nat) : Int), .int .u32 ((S.b : Nat) : Int), .int .u32 ((S.c : Nat) : Int), .int .u32 ((S.d : Nat) : Int), .int .u32 ((S.e : Nat) : Int), .int .u32 ((S.f : Nat) : Int), .int .u32 ((S.g : Nat) : Int), .int .u32 ((S.h : Nat) : Int)]), (8, [.string (bs (takeR (b ++ (tailL b.length n))))]), (9, [.int .u64 ((((n + (tailL b.length n).length) % 18446744073709551616) : Nat) : Int)])]⟩])
  replace M := M.read (segs' := []) 0 rfl (by simp)
  simp only [Z0] at M
  have hl9 : ∀ b9 ∈ ([⟨g, 10, []⟩] : List Bk), b9.g < w31.heap.size := fun b9 hb9 => by rw [List.mem_singleton.1 hb9]; exact hgB
  clear hgB
  refine hK36 _ _ ?_
  refine wp_block ?_
  refine wp_loop_ghost (fun n9 a9 W9 => ∃ (i : Nat) (u39 : Nat → Value), n9 = 8 - i ∧ a9 = { tmps := #[.pointer (some ⟨g, 0, none⟩), Z3, .string (bs ([])), .int .u64 (((n * 8) % 18446744073709551616 : Nat) : Int), .int .i64 (((119 - b.length) % 64 : Nat) : Int), .slice (some ⟨g12, 0, none⟩) (1 + (119 - b.length) % 64 + 8) (1 + (119 - b.length) % 64 + 8), u21 6, .pointer (some ⟨g34, 0, none⟩), Z3, u39 9, u39 10, .pointer (some ⟨g, 0, none⟩), .pointer (some ⟨g, 0, none⟩), .pointer (some ⟨g, 0, none⟩), .pointer (some ⟨g, 9, none⟩), .int .u64 ((n : Nat) : Int), .int .u64 (((n * 8) % 18446744073709551616 : Nat) : Int), .pointer (some ⟨g, 0, none⟩), .pointer (some ⟨g, 0, none⟩), .pointer (some ⟨g, 0, none⟩), .pointer (some ⟨g, 8, none⟩), .string (bs b), .int .i64 ((b.length : Nat) : Int), .int .i64 ((119 - b.length : Nat) : Int), .int .i64 (((119 - b.length) % 64 : Nat) : Int), .int .i64 (((119 - b.length) % 64 : Nat) : Int), .int .i64 ((1 + (119 - b.length) % 64 : Nat) : Int), .int .i64 ((1 + (119 - b.length) % 64 + 8 : Nat) : Int), .slice (some ⟨g12, 0, none⟩) (1 + (119 - b.length) % 64 + 8) (1 + (119 - b.length) % 64 + 8), .slice (some ⟨g12, 0, none⟩) (1 + (119 - b.length) % 64 + 8) (1 + (119 - b.length) % 64 + 8), .pointer (some ⟨g12, 0, none⟩), .int .i64 ((8 : Nat) : Int), .bool false, u21 33, u21 34, u21 35, u21 36, u21 37, u21 38, u21 39, u21 40, u21 41, u21 42, u21 43, u21 44, u21 45, u21 46, .pointer (some ⟨g, 0, none⟩), .slice (some ⟨g12, 0, none⟩) (1 + (119 - b.length) % 64 + 8) (1 + (119 - b.length) % 64 + 8), .string (bs (tailL b.length n)), .tuple #[], .pointer (some ⟨g, 0, none⟩), .pointer (some ⟨g, 0, none⟩), .pointer (some ⟨g, 0, none⟩), .pointer (some ⟨g, 0, none⟩), .agg ([.int .u32 ((S.a : Nat) : Int), .int .u32 ((S.b : Nat) : Int), .int .u32 ((S.c : Nat) : Int), .int .u32 ((S.d : Nat) : Int), .int .u32 ((S.e : Nat) : Int), .int .u32 ((S.f : Nat) : Int), .int .u32 ((S.g : Nat) : Int), .int .u32 ((S.h : Nat) : Int)]).toArray, .int .i64 ((i : Nat) : Int), u39 57, u39 58, u39 59, u39 60, u39 61, u39 62, u39 63, u39 64, u39 65, u39 66, u39 67, u39 68, u39 69, u39 70, Z3], defers := [] } ∧ Mem [g] w W9 [⟨g, 10, []⟩] ∧ (i ≤ 8) ∧ (Lib.IsBuilder 108 5 w31.heap.size g34 (Lib.byteCells ((outS S).take (4 * i))) W9) ∧ (w31.heap.size ≤ W9.heap.size)) (8 - (0)) ?_ (fun n9 a9 W9 hI => ?_)
  ·
   exact ⟨0, (fun q9 => (#[Z3, Z3, Z3, Z3, Z3, Z3, Z3, Z3, Z3, Z3, Z3, Z3, Z3, Z3, Z3, Z3, Z3, Z3, Z3, Z3, Z3, Z3, Z3, Z3, Z3, Z3, Z3, Z3, Z3, Z3, Z3, Z3, Z3, Z3, Z3, Z3, Z3, Z3, Z3, Z3, Z3, Z3, Z3, Z3, Z3, Z3, Z3, Z3, Z3, Z3, Z3, Z3, Z3, Z3, Z3, Z3, Z3, Z3, Z3, Z3, Z3, Z3, Z3, Z3, Z3, Z3, Z3, Z3, Z3, Z3, Z3] : Array Value).getD q9 Z3), rfl, rfl, M, (by omega), IB, HB9⟩
  clear M
  obtain ⟨i, u39, rfl, rfl, M, hi4, IB, HB9⟩ := hI
  obtain ⟨w40, rfl⟩ : ∃ W8, W8 = W9 := ⟨_, rfl⟩
  refine Z4 (fun K41 hK41 => ?_)
  refine Z8 ?_
  refine Z11 1 (by rfl) (fun Lk hLk => ?_)
  simp only [Z1,Z2]
  refine Z15 (v := .bool (decide (i < 8))) (by rfl) rfl rfl rfl (fun W => run_lssN i 8 _ _ W) ?_
  simp only [Z7,Z0]
  refine Z14 (hLk _ (fun w43 Sw43 => ?_))
  clear hLk Lk
  simp only [Z1,Z2]
  replace M := M.sees Sw43
  replace IB := isB_sees IB Sw43; replace HB9 := Nat.le_trans HB9 Sw43.2.2.size
  refine Z9 (Z10 ?_)
  refine hK41 _ _ ?_
  refine Z4 (fun K44 hK44 => ?_)
  cases hc45 : (decide (i < 8))
  ·
   have ei : i = 8 := by have := of_decide_eq_false hc45; omega
   subst ei
   refine Z6 rfl ?_
   refine wp_exit ?_
   refine hK35 _ _ ?_
   refine Z4 (fun K46 hK46 => ?_)
   refine Z8 ?_
   refine wpL_callM (f := 90) (args := #[.pointer (some ⟨g34, 0, none⟩)]) (R := fun v9 W9 => v9 = .string (bs (outS S)) ∧ Below w31.heap.size w43 W9) (by rfl) (by rfl) rfl Tryd.func90 (by kernel_rfl) (by kernel_rfl) ((Tryd.Builder_String_any w31.heap.size g34 (outS S) w43 (by rw [List.take_of_length_le (by rw [outS_len]; decide)] at IB; exact IB) HB9).mono fun e W9 h => ⟨_, h.1, rfl, h.2⟩) (fun v9 w48 h9 => ?_)
   obtain ⟨rfl, hBw⟩ := h9
   replace M := M.belowB hBw hsz hl9
   simp only [Z7,Z0]
   refine Z13 (v := .string (bs (outS S))) (by rfl) (by rfl) (by rfl) ?_
   simp only [Z7,Z0]
   refine Z9 (Z10 ?_)
   refine hK46 _ _ ?_
   refine wp_ret ?_
   repeat (first | with_reducible refine then_ret ?_ | with_reducible refine inblock_ret ?_)
   refine bodyPost_ret (v := .string (bs (outS S))) (res1 rfl (.tmp (by rfl))) rfl ?_
   exact ⟨_, rfl, by rw [← hS]; rfl, M⟩
  ·
   have hi : i < 8 := of_decide_eq_true hc45
   refine Z5 rfl ?_
   refine wp_skip ?_
   refine hK44 _ _ ?_
   refine Z4 (fun K49 hK49 => ?_)
   refine wp_block ?_
   refine Z4 (fun K50 hK50 => ?_)
   refine Z8 ?_
   refine Z11 1 (by rfl) (fun Lk hLk => ?_)
   simp only [Z1,Z2]
   refine wpV_index (n := i) (v := .int .u32 ((S.get i : Nat) : Int)) (by rfl) rfl rfl rfl Tryd.underlying26 info25 Tryd.underlying25 rfl (by omega) (c8_get S hi) ?_
   simp only [Z7,Z0]
   refine Z14 (hLk _ (fun w52 Sw52 => ?_))
   clear hLk Lk
   simp only [Z1,Z2]
   replace M := M.sees Sw52
   replace IB := isB_sees IB Sw52; replace HB9 := Nat.le_trans HB9 Sw52.2.2.size
   refine Z13 (v := .int .u32 ((S.get i : Nat) : Int)) (by rfl) (by rfl) (by rfl) ?_
   simp only [Z7,Z0]
   refine Z9 (Z10 ?_)
   refine hK50 _ _ ?_
   refine Z4 (fun K53 hK53 => ?_)
   refine Z8 ?_
   refine Z12 (v := .int .i64 0) (by rfl) (by rfl) (by rfl) ?_
   simp only [Z7,Z0]
   refine Z9 (Z10 ?_)
   refine hK53 _ _ ?_
   refine wp_block ?_
   refine wp_loop_ghost (fun n9 a9 W9 => ∃ (j : Nat) (u55 : Nat → Value), n9 = 4 - j ∧ a9 = { tmps := #[.pointer (some ⟨g, 0, none⟩), Z3, .string (bs ([])), .int .u64 (((n * 8) % 18446744073709551616 : Nat) : Int), .int .i64 (((119 - b.length) % 64 : Nat) : Int), .slice (some ⟨g12, 0, none⟩) (1 + (119 - b.length) % 64 + 8) (1 + (119 - b.length) % 64 + 8), u21 6, .pointer (some ⟨g34, 0, none⟩), Z3, .int .u32 ((S.get i : Nat) : Int), u55 10, .pointer (some ⟨g, 0, none⟩), .pointer (some ⟨g, 0, none⟩), .pointer (some ⟨g, 0, none⟩), .pointer (some ⟨g, 9, none⟩), .int .u64 ((n : Nat) : Int), .int .u64 (((n * 8) % 18446744073709551616 : Nat) : Int), .pointer (some ⟨g, 0, none⟩), .pointer (some ⟨g, 0, none⟩), .pointer (some ⟨g, 0, none⟩), .pointer (some ⟨g, 8, none⟩), .string (bs b), .int .i64 ((b.length : Nat) : Int), .int .i64 ((119 - b.length : Nat) : Int), .int .i64 (((119 - b.length) % 64 : Nat) : Int), .int .i64 (((119 - b.length) % 64 : Nat) : Int), .int .i64 ((1 + (119 - b.length) % 64 : Nat) : Int), .int .i64 ((1 + (119 - b.length) % 64 + 8 : Nat) : Int), .slice (some ⟨g12, 0, none⟩) (1 + (119 - b.length) % 64 + 8) (1 + (119 - b.length) % 64 + 8), .slice (some ⟨g12, 0, none⟩) (1 + (119 - b.length) % 64 + 8) (1 + (119 - b.length) % 64 + 8), .pointer (some ⟨g12, 0, none⟩), .int .i64 ((8 : Nat) : Int), .bool false, u21 33, u21 34, u21 35, u21 36, u21 37, u21 38, u21 39, u21 40, u21 41, u21 42, u21 43, u21 44, u21 45, u21 46, .pointer (some ⟨g, 0, none⟩), .slice (some ⟨g12, 0, none⟩) (1 + (119 - b.length) % 64 + 8) (1 + (119 - b.length) % 64 + 8), .string (bs (tailL b.length n)), .tuple #[], .pointer (some ⟨g, 0, none⟩), .pointer (some ⟨g, 0, none⟩), .pointer (some ⟨g, 0, none⟩), .pointer (some ⟨g, 0, none⟩), .agg ([.int .u32 ((S.a : Nat) : Int), .int .u32 ((S.b : Nat) : Int), .int .u32 ((S.c : Nat) : Int), .int .u32 ((S.d : Nat) : Int), .int .u32 ((S.e : Nat) : Int), .int .u32 ((S.f : Nat) : Int), .int .u32 ((S.g : Nat) : Int), .int .u32 ((S.h : Nat) : Int)]).toArray, .int .i64 ((i : Nat) : Int), .bool true, .int .u32 ((S.get i : Nat) : Int), .int .i64 ((j : Nat) : Int), u55 60, u55 61, u55 62, u55 63, u55 64, u55 65, u55 66, u55 67, u55 68, u55 69, u39 70, Z3], defers := [] } ∧ Mem [g] w W9 [⟨g, 10, []⟩] ∧ (j ≤ 4) ∧ (Lib.IsBuilder 108 5 w31.heap.size g34 (Lib.byteCells ((outS S).take (4 * i + j))) W9) ∧ (w31.heap.size ≤ W9.heap.size)) (4 - (0)) ?_ (fun n9 a9 W9 hI => ?_)
   ·
    exact ⟨0, (fun q9 => (#[Z3, Z3, Z3, Z3, Z3, Z3, Z3, Z3, Z3, Z3, u39 10, Z3, Z3, Z3, Z3, Z3, Z3, Z3, Z3, Z3, Z3, Z3, Z3, Z3, Z3, Z3, Z3, Z3, Z3, Z3, Z3, Z3, Z3, Z3, Z3, Z3, Z3, Z3, Z3, Z3, Z3, Z3, Z3, Z3, Z3, Z3, Z3, Z3, Z3, Z3, Z3, Z3, Z3, Z3, Z3, Z3, Z3, Z3, Z3, Z3, u39 60, u39 61, u39 62, u39 63, u39 64, u39 65, u39 66, u39 67, u39 68, u39 69] : Array Value).getD q9 Z3), rfl, rfl, M, (by omega), IB, HB9⟩
   clear M
   obtain ⟨j, u55, rfl, rfl, M, hj4, IB, HB9⟩ := hI
   obtain ⟨w56, rfl⟩ : ∃ W8, W8 = W9 := ⟨_, rfl⟩
   refine Z4 (fun K57 hK57 => ?_)
   refine Z8 ?_
   refine Z11 1 (by rfl) (fun Lk hLk => ?_)
   simp only [Z1,Z2]
   refine Z15 (v := .bool (decide (j < 4))) (by rfl) rfl rfl rfl (fun W => run_lssN j 4 _ _ W) ?_
   simp only [Z7,Z0]
   refine Z14 (hLk _ (fun w59 Sw59 => ?_))
   clear hLk Lk
   simp only [Z1,Z2]
   replace M := M.sees Sw59
   replace IB := isB_sees IB Sw59; replace HB9 := Nat.le_trans HB9 Sw59.2.2.size
   refine Z9 (Z10 ?_)
   refine hK57 _ _ ?_
   refine Z4 (fun K60 hK60 => ?_)
   cases hc61 : (decide (j < 4))
   ·
    have ej : j = 4 := by have := of_decide_eq_false hc61; omega
    subst ej
    refine Z6 rfl ?_
    refine wp_exit ?_
    refine hK49 _ _ ?_
    refine Z8 ?_
    refine Z11 1 (by rfl) (fun Lk hLk => ?_)
    simp only [Z1,Z2]
    refine Z15 (v := .int .i64 ((i + 1 : Nat) : Int)) (by rfl) rfl rfl rfl (fun W => run_add (by simp only [IntKind.wrap_i64]; omega) W) ?_
    simp only [Z7,Z0]
    refine Z14 (hLk _ (fun w63 Sw63 => ?_))
    clear hLk Lk
    simp only [Z1,Z2]
    replace M := M.sees Sw63
    replace IB := isB_sees IB Sw63; replace HB9 := Nat.le_trans HB9 Sw63.2.2.size
    refine Z12 (v := .int .i64 ((i + 1 : Nat) : Int)) (by rfl) (by rfl) (by rfl) ?_
    simp only [Z7,Z0]
    refine Z9 (Z10 ?_)
    refine Exists.intro _ ⟨?_, (i + 1), (fun q9 => (#[Z3, Z3, Z3, Z3, Z3, Z3, Z3, Z3, Z3, .int .u32 ((S.get i : Nat) : Int), u55 10, Z3, Z3, Z3, Z3, Z3, Z3, Z3, Z3, Z3, Z3, Z3, Z3, Z3, Z3, Z3, Z3, Z3, Z3, Z3, Z3, Z3, Z3, Z3, Z3, Z3, Z3, Z3, Z3, Z3, Z3, Z3, Z3, Z3, Z3, Z3, Z3, Z3, Z3, Z3, Z3, Z3, Z3, Z3, Z3, Z3, Z3, .bool true, .int .u32 ((S.get i : Nat) : Int), .int .i64 ((4 : Nat) : Int), .bool false, u55 61, u55 62, u55 63, u55 64, u55 65, u55 66, u55 67, u55 68, u55 69, .int .i64 ((i + 1 : Nat) : Int)] : Array Value).getD q9 Z3), rfl, rfl, M, (by omega), IB, HB9⟩
    omega
   ·
    have hj : j < 4 := of_decide_eq_true hc61
    refine Z5 rfl ?_
    refine wp_skip ?_
    refine hK60 _ _ ?_
    refine Z4 (fun K64 hK64 => ?_)
    refine wp_block ?_
    refine Z4 (fun K65 hK65 => ?_)
    refine Z8 ?_
    refine Z12 (v := .int .i64 ((j : Nat) : Int)) (by rfl) (by rfl) (by rfl) ?_
    simp only [Z7,Z0]
    refine Z13 (v := .int .i64 ((j : Nat) : Int)) (by rfl) (by rfl) (by rfl) ?_
    simp only [Z7,Z0]
    refine Z9 (Z10 ?_)
    refine hK65 _ _ ?_
    refine Z8 ?_
    refine Z12 (v := .int .u32 ((S.get i : Nat) : Int)) (by rfl) (by rfl) (by rfl) ?_
    simp only [Z7,Z0]
    refine Z12 (v := .int .i64 ((j : Nat) : Int)) (by rfl) (by rfl) (by rfl) ?_
    simp only [Z7,Z0]
    refine Z11 4 (by rfl) (fun Lk hLk => ?_)
    simp only [Z1,Z2]
    refine Z15 (v := .int .i64 ((3 - j : Nat) : Int)) (by rfl) rfl rfl rfl (fun W => run_sub (by simp only [IntKind.wrap_i64]; omega) W) ?_
    simp only [Z7,Z0]
    refine Z15 (v := .int .i64 ((8 * (3 - j) : Nat) : Int)) (by rfl) rfl rfl rfl (fun W => run_mul (by simp only [IntKind.wrap_i64]; omega) W) ?_
    simp only [Z7,Z0]
    refine Z15 (v := .int .u32 (((S.get i) / 2 ^ (8 * (3 - j)) : Nat) : Int)) (by rfl) rfl rfl rfl (fun W => nr_shr32 (x := S.get i) (n := 8 * (3 - j)) (by omega) W) ?_
    simp only [Z7,Z0]
    refine wpV_conv (d := .bool) (e := ((((S.get i) / 2 ^ (8 * (3 - j))) % 256 : Nat) : Int)) (by rfl) rfl rfl (run_conv_int Tryd.underlying25 Tryd.underlying5 (wrap_u8N _)) ?_
    simp only [Z7,Z0]
    refine Z14 (hLk _ (fun w68 Sw68 => ?_))
    clear hLk Lk
    simp only [Z1,Z2]
    replace M := M.sees Sw68
    replace IB := isB_sees IB Sw68; replace HB9 := Nat.le_trans HB9 Sw68.2.2.size
    refine wpL_callM (f := 89) (args := #[.pointer (some ⟨g34, 0, none⟩), .int .u8 ((((S.get i) / 2 ^ (8 * (3 - j))) % 256 : Nat) : Int)]) (R := fun v9 W9 => v9 = .nilIface ∧ Lib.IsBuilder 108 5 w31.heap.size g34 ((Lib.byteCells ((outS S).take (4 * i + j))) ++ [.int .u8 ((((S.get i) / 2 ^ (8 * (3 - j))) % 256 : Nat) : Int)]) W9 ∧ Below w31.heap.size w68 W9) (by rfl) (by rfl) rfl Tryd.func89 (by kernel_rfl) (by kernel_rfl) ((writeByte_c w31.heap.size g34 _ _ w68 IB (by rw [Lib.byteCells_length, List.length_take, outS_len]; omega) HB9).mono fun e W9 h => ⟨_, h.1, rfl, .inr h.2.1, h.2.2⟩) (fun v9 w69 h9 => ?_)
    obtain ⟨rfl, IB2, hBw⟩ := h9
    replace IB := IB2; clear IB2
    replace M := M.belowB hBw hsz hl9
    replace HB9 := Nat.le_trans HB9 hBw.size
    simp only [Z7,Z0]
    refine Z9 (Z10 ?_)
    refine hK64 _ _ ?_
    refine Z8 ?_
    refine Z11 1 (by rfl) (fun Lk hLk => ?_)
    simp only [Z1,Z2]
    refine Z15 (v := .int .i64 ((j + 1 : Nat) : Int)) (by rfl) rfl rfl rfl (fun W => run_add (by simp only [IntKind.wrap_i64]; omega) W) ?_
    simp only [Z7,Z0]
    refine Z14 (hLk _ (fun w71 Sw71 => ?_))
    clear hLk Lk
    simp only [Z1,Z2]
    replace M := M.sees Sw71
    replace IB := isB_sees IB Sw71; replace HB9 := Nat.le_trans HB9 Sw71.2.2.size
    refine Z12 (v := .int .i64 ((j + 1 : Nat) : Int)) (by rfl) (by rfl) (by rfl) ?_
    simp only [Z7,Z0]
    refine Z9 (Z10 ?_)
    refine Exists.intro _ ⟨?_, (j + 1), (fun q9 => (#[Z3, Z3, Z3, Z3, Z3, Z3, Z3, Z3, Z3, Z3, .int .i64 ((j : Nat) : Int), Z3, Z3, Z3, Z3, Z3, Z3, Z3, Z3, Z3, Z3, Z3, Z3, Z3, Z3, Z3, Z3, Z3, Z3, Z3, Z3, Z3, Z3, Z3, Z3, Z3, Z3, Z3, Z3, Z3, Z3, Z3, Z3, Z3, Z3, Z3, Z3, Z3, Z3, Z3, Z3, Z3, Z3, Z3, Z3, Z3, Z3, Z3, Z3, Z3, .bool true, .int .i64 ((j : Nat) : Int), .int .u32 ((S.get i : Nat) : Int), .int .i64 ((j : Nat) : Int), .int .i64 ((3 - j : Nat) : Int), .int .i64 ((8 * (3 - j) : Nat) : Int), .int .u32 (((S.get i) / 2 ^ (8 * (3 - j)) : Nat) : Int), .int .u8 ((((S.get i) / 2 ^ (8 * (3 - j))) % 256 : Nat) : Int), .nilIface, .int .i64 ((j + 1 : Nat) : Int)] : Array Value).getD q9 Z3), rfl, rfl, M, (by omega), (by rw [show Lib.byteCells = bcells from rfl, out_step S hi hj] at IB; exact IB), HB9⟩
    omega
 ·
  have hq : q < 8 := of_decide_eq_true hc27
  refine Z5 rfl ?_
  refine wp_skip ?_
  refine hK26 _ _ ?_
  refine Z4 (fun K72 hK72 => ?_)
  refine wp_block ?_
  refine Z4 (fun K73 hK73 => ?_)
  refine Z8 ?_
  refine Z12 (v := .int .i64 ((q : Nat) : Int)) (by rfl) (by rfl) (by rfl) ?_
  simp only [Z7,Z0]
  refine Z13 (v := .int .i64 ((q : Nat) : Int)) (by rfl) (by rfl) (by rfl) ?_
  simp only [Z7,Z0]
  refine Z9 (Z10 ?_)
  refine hK73 _ _ ?_
  refine Z8 ?_
  refine Z12 (v := .slice (some ⟨g12, 0, none⟩) (1 + (119 - b.length) % 64 + 8) (1 + (119 - b.length) % 64 + 8)) (by rfl) (by rfl) (by rfl) ?_
  simp only [Z7,Z0]
  refine Z12 (v := .slice (some ⟨g12, 0, none⟩) (1 + (119 - b.length) % 64 + 8) (1 + (119 - b.length) % 64 + 8)) (by rfl) (by rfl) (by rfl) ?_
  simp only [Z7,Z0]
  refine Z11 10 (by rfl) (fun Lk hLk => ?_)
  simp only [Z1,Z2]
  refine wpV_lenA (n := 1 + (119 - b.length) % 64 + 8) (by rfl) rfl rfl rfl Tryd.underlying35 ?_
  simp only [Z7,Z0]
  refine Z15 (v := .int .i64 (((1 + (119 - b.length) % 64 + 8) - 1 : Nat) : Int)) (by rfl) rfl rfl rfl (fun W => run_sub (by simp only [IntKind.wrap_i64]; omega) W) ?_
  simp only [Z7,Z0]
  refine Z16 (v := .int .i64 ((q : Nat) : Int)) (by rfl) rfl rfl ?_
  simp only [Z7,Z0]
  refine Z15 (v := .int .i64 ((((1 + (119 - b.length) % 64 + 8) - 1) - q : Nat) : Int)) (by rfl) rfl rfl rfl (fun W => run_sub (by simp only [IntKind.wrap_i64]; omega) W) ?_
  simp only [Z7,Z0]
  refine Z16 (v := .int .u64 (((n * 8) % 18446744073709551616 : Nat) : Int)) (by rfl) rfl rfl ?_
  simp only [Z7,Z0]
  refine Z16 (v := .int .i64 ((q : Nat) : Int)) (by rfl) rfl rfl ?_
  simp only [Z7,Z0]
  refine Z15 (v := .int .i64 ((8 * q : Nat) : Int)) (by rfl) rfl rfl rfl (fun W => run_mul (by simp only [IntKind.wrap_i64]; omega) W) ?_
  simp only [Z7,Z0]
  refine Z15 (v := .int .u64 ((((n * 8) % 18446744073709551616) / 2 ^ (8 * q) : Nat) : Int)) (by rfl) rfl rfl rfl (fun W => nr_shr64 (x := (n * 8) % 18446744073709551616) (n := 8 * q) (by omega) W) ?_
  simp only [Z7,Z0]
  refine wpV_conv (d := .bool) (e := (((((n * 8) % 18446744073709551616) / 2 ^ (8 * q)) % 256 : Nat) : Int)) (by rfl) rfl rfl (run_conv_int Tryd.underlying27 Tryd.underlying5 (wrap_u8N _)) ?_
  simp only [Z7,Z0]
  refine wpV_idxs (n := ((1 + (119 - b.length) % 64 + 8) - 1) - q) (by rfl) rfl rfl rfl Tryd.underlying35 info5 (by omega) ?_
  simp only [Nat.zero_add]
  simp only [Z7,Z0]
  refine Z14 (hLk _ (fun w76 Sw76 => ?_))
  clear hLk Lk
  simp only [Z1,Z2]
  replace M := M.sees Sw76
  refine Z18 (g := g12) (off := ((1 + (119 - b.length) % 64 + 8) - 1) - q) (n := 1 + (119 - b.length) % 64 + 8) (v := .int .u8 (((((n * 8) % 18446744073709551616) / 2 ^ (8 * q)) % 256 : Nat) : Int)) (by rfl) (by rfl) (by rfl) (by rfl) (by rfl) (M.t 0 rfl) (by omega) info5 rfl (fun w77 P R T => ?_)
  replace M := M.put1 (j := ((1 + (119 - b.length) % 64 + 8) - 1) - q) 0 rfl P R T (Nat.zero_add _).symm
  simp only [Z0] at M
  rw [tail_step _ _ hq] at M
  refine Z9 (Z10 ?_)
  refine hK72 _ _ ?_
  refine Z8 ?_
  refine Z11 1 (by rfl) (fun Lk hLk => ?_)
  simp only [Z1,Z2]
  refine Z15 (v := .int .i64 ((q + 1 : Nat) : Int)) (by rfl) rfl rfl rfl (fun W => run_add (by simp only [IntKind.wrap_i64]; omega) W) ?_
  simp only [Z7,Z0]
  refine Z14 (hLk _ (fun w79 Sw79 => ?_))
  clear hLk Lk
  simp only [Z1,Z2]
  replace M := M.sees Sw79
  refine Z12 (v := .int .i64 ((q + 1 : Nat) : Int)) (by rfl) (by rfl) (by rfl) ?_
  simp only [Z7,Z0]
  refine Z9 (Z10 ?_)
  refine Exists.intro _ ⟨?_, (q + 1), (fun q9 => (#[Z3, Z3, Z3, Z3, Z3, Z3, .int .i64 ((q : Nat) : Int), Z3, Z3, Z3, Z3, Z3, Z3, Z3, Z3, Z3, Z3, Z3, Z3, Z3, Z3, Z3, Z3, Z3, Z3, Z3, Z3, Z3, Z3, Z3, Z3, Z3, .bool true, .int .i64 ((q : Nat) : Int), .slice (some ⟨g12, 0, none⟩) (1 + (119 - b.length) % 64 + 8) (1 + (119 - b.length) % 64 + 8), .slice (some ⟨g12, 0, none⟩) (1 + (119 - b.length) % 64 + 8) (1 + (119 - b.length) % 64 + 8), .int .i64 ((1 + (119 - b.length) % 64 + 8 : Nat) : Int), .int .i64 (((1 + (119 - b.length) % 64 + 8) - 1 : Nat) : Int), .int .i64 ((q : Nat) : Int), .int .i64 ((((1 + (119 - b.length) % 64 + 8) - 1) - q : Nat) : Int), .int .u64 (((n * 8) % 18446744073709551616 : Nat) : Int), .int .i64 ((q : Nat) : Int), .int .i64 ((8 * q : Nat) : Int), .int .u64 ((((n * 8) % 18446744073709551616) / 2 ^ (8 * q) : Nat) : Int), .int .u8 (((((n * 8) % 18446744073709551616) / 2 ^ (8 * q)) % 256 : Nat) : Int), .pointer (some ⟨g12, ((1 + (119 - b.length) % 64 + 8) - 1) - q, none⟩), .int .i64 ((q + 1 : Nat) : Int)] : Array Value).getD q9 Z3), rfl, rfl, M, (by omega)⟩
  omega
end Go.Proofs.Yb

namespace Go.Proofs.Yb
open Go Go.RowKit Go.Proofs.Num
open List renaming set → Z0, take → Z1, drop → Z2
open Go renaming undef → Z3, wp_seq_k → Z4, wp_cond_true → Z5, wp_cond_false → Z6
open Go.Proofs.Num renaming putT → Z7, wp_region_seq → Z8, wpL_nil → Z9, no_panic → Z10, wpL_chunk → Z11, wpL_move → Z12, wpL_assign → Z13, wpV_nil → Z14, wpV_bin → Z15, wpV_move → Z16, then_normal → Z17, wpL_store1 → Z18, wpV_val → Z19, wpV_callf → Z20
set_option maxHeartbeats 1000000 in
theorem new_c  {w : World}  :
  Calls Tryd.prog 22 #[] w fun e w' => e = .returned (.agg ([.int .u32 ((H0.a : Nat) : Int), .int .u32 ((H0.b : Nat) : Int), .int .u32 ((H0.c : Nat) : Int), .int .u32 ((H0.d : Nat) : Int), .int .u32 ((H0.e : Nat) : Int), .int .u32 ((H0.f : Nat) : Int), .int .u32 ((H0.g : Nat) : Int), .int .u32 ((H0.h : Nat) : Int)] ++ [.string (bs [])] ++ [.int .u64 ((0 : Nat) : Int)] : List Value).toArray) ∧ Below w.heap.size w w' := by
 go_enter Tryd.func22, Tryd.ntmps22
 have M := Mem.start w
 refine Z4 (fun K1 hK1 => ?_)
 refine Z8 ?_
 refine wpL_var (t := 29) (cs := [.int .u32 0, .int .u32 0, .int .u32 0, .int .u32 0, .int .u32 0, .int .u32 0, .int .u32 0, .int .u32 0, .string { data := #[] }, .int .u64 0]) (by rfl) (fun W => ?_) (fun g3 w4 Sw4 Hg3 Bg3 => ?_)
 ·
  go_simp
 replace M := ((M.sees Sw4).addS (N := 10) (cs := [.int .u32 0, .int .u32 0, .int .u32 0, .int .u32 0, .int .u32 0, .int .u32 0, .int .u32 0, .int .u32 0, .string { data := #[] }, .int .u64 0]) (segs := [(0, [.int .u32 0, .int .u32 0, .int .u32 0, .int .u32 0, .int .u32 0, .int .u32 0, .int .u32 0, .int .u32 0]), (8, [.string { data := #[] }]), (9, [.int .u64 0])]) (M.ge Hg3) (M.fresh Hg3) Bg3 rfl ⟨rfl, rfl, rfl, trivial⟩)
 clear Bg3
 simp only [Z7,Z0]
 refine Z9 (Z10 ?_)
 refine hK1 _ _ ?_
 refine Z4 (fun K5 hK5 => ?_)
 refine Z8 ?_
 refine Z11 2 (by rfl) (fun Lk hLk => ?_)
 simp only [Z1,Z2]
 refine Z19 (v := .agg ([.int .u32 1779033703, .int .u32 3144134277, .int .u32 1013904242, .int .u32 2773480762, .int .u32 1359893119, .int .u32 2600822924, .int .u32 528734635, .int .u32 1541459225]).toArray) (by rfl) (by rfl) (fun W hW => ?_) ?_
 ·
  (unfold RunsVal; kernel_rfl)
 simp only [Z7,Z0]
 refine Z19 (v := .agg ([.int .u32 1779033703, .int .u32 3144134277, .int .u32 1013904242, .int .u32 2773480762, .int .u32 1359893119, .int .u32 2600822924, .int .u32 528734635, .int .u32 1541459225, .string { data := #[] }, .int .u64 0]).toArray) (by rfl) (by rfl) (fun W hW => ?_) ?_
 ·
  (unfold RunsVal; kernel_rfl)
 simp only [Z7,Z0]
 refine Z14 (hLk _ (fun w7 Sw7 => ?_))
 clear hLk Lk
 simp only [Z1,Z2]
 replace M := M.sees Sw7
 refine wpL_store (g := g3) (off := 0) (n := 10) (cs := [.int .u32 1779033703, .int .u32 3144134277, .int .u32 1013904242, .int .u32 2773480762, .int .u32 1359893119, .int .u32 2600822924, .int .u32 528734635, .int .u32 1541459225, .string { data := #[] }, .int .u64 0]) (by rfl) (by rfl) (by rfl) (by rfl) (by rfl) (M.t 0 rfl) (by simp [flen]) info29 (by simp [fone, Value.oneCell']) (fun w8 P R T => ?_)
 replace M := M.put (segs' := [(0, [.int .u32 1779033703, .int .u32 3144134277, .int .u32 1013904242, .int .u32 2773480762, .int .u32 1359893119, .int .u32 2600822924, .int .u32 528734635, .int .u32 1541459225]), (8, [.string { data := #[] }]), (9, [.int .u64 0])]) 0 rfl P T (SegsOf.at R ⟨rfl, rfl, rfl, trivial⟩)
 simp only [Z0] at M
 refine Z9 (Z10 ?_)
 refine hK5 _ _ ?_
 refine wp_ret ?_
 repeat (first | with_reducible refine then_ret ?_ | with_reducible refine inblock_ret ?_)
 refine bodyPost_ret (v := .agg ([.int .u32 1779033703, .int .u32 3144134277, .int .u32 1013904242, .int .u32 2773480762, .int .u32 1359893119, .int .u32 2600822924, .int .u32 528734635, .int .u32 1541459225] ++ [.string { data := #[] }] ++ [.int .u64 0] : List Value).toArray) (res1 rfl (.cell (by rfl) (run_loadVar_mid _ _ _ _ ([.int .u32 1779033703, .int .u32 3144134277, .int .u32 1013904242, .int .u32 2773480762, .int .u32 1359893119, .int .u32 2600822924, .int .u32 528734635, .int .u32 1541459225] ++ [.string { data := #[] }] ++ [.int .u64 0]) _ (range_join (range_join (M.r 0 0 rfl rfl) (M.r 0 1 rfl rfl) (by simp [flen])) (M.r 0 2 rfl rfl) (by simp [flen])) Tryd.underlying29 rfl info29))) rfl ?_
 have BE := M.below
 exact ⟨rfl, BE⟩
set_option maxHeartbeats 2000000 in
theorem sum_c {ps : List (List UInt8)} {g0 cg0 : Nat} {w : World} (hq : ps.length ≤ 4611686018427387904) (hp : ∀ k, (ps.getD k []).length ≤ 9223372036854775744) (L0 : 0 < w.heap.size) (R0_0 : w.rangeAt 0 0 kcells) (hcg0 : ps.length ≤ cg0) (Lg0 : g0 < w.heap.size) (Rg0_0 : w.rangeAt g0 0 (scells ps)) :
  Calls Tryd.prog 20 #[.slice (some ⟨g0, 0, none⟩) ps.length cg0] w fun e w' => e = .returned (.string (bs (sha ps.flatten))) ∧ Below w.heap.size w w' := by
 go_enter Tryd.func20, Tryd.ntmps20
 have M := Mem.start w
 refine Z4 (fun K1 hK1 => ?_)
 refine Z8 ?_
 refine Z13 (v := .string (bs ([]))) (by rfl) (by rfl) (by rfl) ?_
 simp only [Z7,Z0]
 refine Z9 (Z10 ?_)
 refine hK1 _ _ ?_
 refine Z4 (fun K3 hK3 => ?_)
 refine Z8 ?_
 refine Z11 2 (by rfl) (fun Lk hLk => ?_)
 simp only [Z1,Z2]
 refine Z20 (v := .agg ([.int .u32 ((H0.a : Nat) : Int), .int .u32 ((H0.b : Nat) : Int), .int .u32 ((H0.c : Nat) : Int), .int .u32 ((H0.d : Nat) : Int), .int .u32 ((H0.e : Nat) : Int), .int .u32 ((H0.f : Nat) : Int), .int .u32 ((H0.g : Nat) : Int), .int .u32 ((H0.h : Nat) : Int)] ++ [.string (bs [])] ++ [.int .u64 ((0 : Nat) : Int)] : List Value).toArray) (args := #[]) (by rfl) rfl Tryd.func22 (by kernel_rfl) (by kernel_rfl) rfl (fun W hW => new_c) ?_
 simp only [Z7,Z0]
 refine Z19 (v := .agg ([.int .u32 ((H0.a : Nat) : Int), .int .u32 ((H0.b : Nat) : Int), .int .u32 ((H0.c : Nat) : Int), .int .u32 ((H0.d : Nat) : Int), .int .u32 ((H0.e : Nat) : Int), .int .u32 ((H0.f : Nat) : Int), .int .u32 ((H0.g : Nat) : Int), .int .u32 ((H0.h : Nat) : Int)] ++ [.string (bs [])] ++ [.int .u64 ((0 : Nat) : Int)] : List Value).toArray) (by rfl) (by rfl) (fun W hW => ?_) ?_
 ·
  (unfold RunsVal; kernel_rfl)
 simp only [Z7,Z0]
 refine Z14 (hLk _ (fun w5 Sw5 => ?_))
 clear hLk Lk
 simp only [Z1,Z2]
 replace M := M.sees Sw5
 refine wpL_var (t := 90) (cs := [.int .u32 ((H0.a : Nat) : Int), .int .u32 ((H0.b : Nat) : Int), .int .u32 ((H0.c : Nat) : Int), .int .u32 ((H0.d : Nat) : Int), .int .u32 ((H0.e : Nat) : Int), .int .u32 ((H0.f : Nat) : Int), .int .u32 ((H0.g : Nat) : Int), .int .u32 ((H0.h : Nat) : Int)] ++ [.string (bs [])] ++ [.int .u64 ((0 : Nat) : Int)]) (by rfl) (fun W => ?_) (fun g6 w7 Sw7 Hg6 Bg6 => ?_)
 ·
  (first | rfl | go_simp)
 replace M := ((M.sees Sw7).addS (N := 10) (cs := [.int .u32 ((H0.a : Nat) : Int), .int .u32 ((H0.b : Nat) : Int), .int .u32 ((H0.c : Nat) : Int), .int .u32 ((H0.d : Nat) : Int), .int .u32 ((H0.e : Nat) : Int), .int .u32 ((H0.f : Nat) : Int), .int .u32 ((H0.g : Nat) : Int), .int .u32 ((H0.h : Nat) : Int)] ++ [.string (bs [])] ++ [.int .u64 ((0 : Nat) : Int)]) (segs := [(0, [.int .u32 ((H0.a : Nat) : Int), .int .u32 ((H0.b : Nat) : Int), .int .u32 ((H0.c : Nat) : Int), .int .u32 ((H0.d : Nat) : Int), .int .u32 ((H0.e : Nat) : Int), .int .u32 ((H0.f : Nat) : Int), .int .u32 ((H0.g : Nat) : Int), .int .u32 ((H0.h : Nat) : Int)]), (8, [.string (bs [])]), (9, [.int .u64 ((0 : Nat) : Int)])]) (M.ge Hg6) (M.fresh Hg6) Bg6 (by simp [flen]) ⟨rfl, rfl, rfl, trivial⟩)
 clear Bg6
 simp only [Z7,Z0]
 refine Z13 (v := .pointer (some ⟨g6, 0, none⟩)) (by rfl) (by rfl) (by rfl) ?_
 simp only [Z7,Z0]
 refine Z9 (Z10 ?_)
 refine hK3 _ _ ?_
 refine Z4 (fun K8 hK8 => ?_)
 refine Z4 (fun K9 hK9 => ?_)
 refine Z8 ?_
 refine Z12 (v := .slice (some ⟨g0, 0, none⟩) ps.length cg0) (by rfl) (by rfl) (by rfl) ?_
 simp only [Z7,Z0]
 refine Z11 1 (by rfl) (fun Lk hLk => ?_)
 simp only [Z1,Z2]
 refine wpV_lenA (n := ps.length) (by rfl) rfl rfl rfl Tryd.underlying48 ?_
 simp only [Z7,Z0]
 refine Z14 (hLk _ (fun w11 Sw11 => ?_))
 clear hLk Lk
 simp only [Z1,Z2]
 replace M := M.sees Sw11
 refine Z12 (v := .int .i64 0) (by rfl) (by rfl) (by rfl) ?_
 simp only [Z7,Z0]
 refine Z9 (Z10 ?_)
 refine hK9 _ _ ?_
 refine wp_block ?_
 replace M := M.read (segs' := [(0, [.int .u32 (((takeH H0 (ps.take 0).flatten).a : Nat) : Int), .int .u32 (((takeH H0 (ps.take 0).flatten).b : Nat) : Int), .int .u32 (((takeH H0 (ps.take 0).flatten).c : Nat) : Int), .int .u32 (((takeH H0 (ps.take 0).flatten).d : Nat) : Int), .int .u32 (((takeH H0 (ps.take 0).flatten).e : Nat) : Int), .int .u32 (((takeH H0 (ps.take 0).flatten).f : Nat) : Int), .int .u32 (((takeH H0 (ps.take 0).flatten).g : Nat) : Int), .int .u32 (((takeH H0 (ps.take 0).flatten).h : Nat) : Int)]), (8, [.string (bs (takeR (ps.take 0).flatten))]), (9, [.int .u64 ((((ps.take 0).flatten.length % 18446744073709551616) : Nat) : Int)])]) 0 rfl (segs3 (by rw [show (ps.take 0).flatten = [] from rfl, take_zero.1]; exact (M.r 0 0 rfl rfl)) (by rw [show (ps.take 0).flatten = [] from rfl, take_zero.2]; exact (M.r 0 1 rfl rfl)) (by rw [show (ps.take 0).flatten = [] from rfl]; exact (M.r 0 2 rfl rfl)))
 simp only [Z0] at M
 refine wp_loop_ghost (fun n9 a9 W9 => ∃ (k : Nat) (u12 : Nat → Value), n9 = ps.length - k ∧ a9 = { tmps := #[.slice (some ⟨g0, 0, none⟩) ps.length cg0, Z3, .string (bs ([])), .pointer (some ⟨g6, 0, none⟩), Z3, u12 5, .agg ([.int .u32 ((H0.a : Nat) : Int), .int .u32 ((H0.b : Nat) : Int), .int .u32 ((H0.c : Nat) : Int), .int .u32 ((H0.d : Nat) : Int), .int .u32 ((H0.e : Nat) : Int), .int .u32 ((H0.f : Nat) : Int), .int .u32 ((H0.g : Nat) : Int), .int .u32 ((H0.h : Nat) : Int)] ++ [.string (bs [])] ++ [.int .u64 ((0 : Nat) : Int)] : List Value).toArray, .agg ([.int .u32 ((H0.a : Nat) : Int), .int .u32 ((H0.b : Nat) : Int), .int .u32 ((H0.c : Nat) : Int), .int .u32 ((H0.d : Nat) : Int), .int .u32 ((H0.e : Nat) : Int), .int .u32 ((H0.f : Nat) : Int), .int .u32 ((H0.g : Nat) : Int), .int .u32 ((H0.h : Nat) : Int)] ++ [.string (bs [])] ++ [.int .u64 ((0 : Nat) : Int)] : List Value).toArray, .pointer (some ⟨g6, 0, none⟩), .slice (some ⟨g0, 0, none⟩) ps.length cg0, .int .i64 ((ps.length : Nat) : Int), .int .i64 ((k : Nat) : Int), u12 12, u12 13, u12 14, u12 15, u12 16, u12 17, u12 18, Z3, Z3], defers := [] } ∧ Mem [] w W9 [⟨g6, 10, [(0, [.int .u32 (((takeH H0 (ps.take k).flatten).a : Nat) : Int), .int .u32 (((takeH H0 (ps.take k).flatten).b : Nat) : Int), .int .u32 (((takeH H0 (ps.take k).flatten).c : Nat) : Int), .int .u32 (((takeH H0 (ps.take k).flatten).d : Nat) : Int), .int .u32 (((takeH H0 (ps.take k).flatten).e : Nat) : Int), .int .u32 (((takeH H0 (ps.take k).flatten).f : Nat) : Int), .int .u32 (((takeH H0 (ps.take k).flatten).g : Nat) : Int), .int .u32 (((takeH H0 (ps.take k).flatten).h : Nat) : Int)]), (8, [.string (bs (takeR (ps.take k).flatten))]), (9, [.int .u64 ((((ps.take k).flatten.length % 18446744073709551616) : Nat) : Int)])]⟩] ∧ (k ≤ ps.length)) (ps.length - (0)) ?_ (fun n9 a9 W9 hI => ?_)
 ·
  exact ⟨0, (fun q9 => (#[Z3, Z3, Z3, Z3, Z3, Z3, Z3, Z3, Z3, Z3, Z3, Z3, Z3, Z3, Z3, Z3, Z3, Z3, Z3] : Array Value).getD q9 Z3), rfl, rfl, M, (by omega)⟩
 clear M
 obtain ⟨k, u12, rfl, rfl, M, hk4⟩ := hI
 obtain ⟨w13, rfl⟩ : ∃ W8, W8 = W9 := ⟨_, rfl⟩
 refine Z4 (fun K14 hK14 => ?_)
 refine Z8 ?_
 refine Z11 1 (by rfl) (fun Lk hLk => ?_)
 simp only [Z1,Z2]
 refine Z15 (v := .bool (decide (k < ps.length))) (by rfl) rfl rfl rfl (fun W => run_lssN k ps.length _ _ W) ?_
 simp only [Z7,Z0]
 refine Z14 (hLk _ (fun w16 Sw16 => ?_))
 clear hLk Lk
 simp only [Z1,Z2]
 replace M := M.sees Sw16
 refine Z9 (Z10 ?_)
 refine hK14 _ _ ?_
 refine Z4 (fun K17 hK17 => ?_)
 cases hc18 : (decide (k < ps.length))
 ·
  have ek : k = ps.length := by have := of_decide_eq_false hc18; omega
  subst ek
  refine Z6 rfl ?_
  refine wp_exit ?_
  refine hK8 _ _ ?_
  refine Z4 (fun K19 hK19 => ?_)
  refine Z8 ?_
  refine Z12 (v := .pointer (some ⟨g6, 0, none⟩)) (by rfl) (by rfl) (by rfl) ?_
  simp only [Z7,Z0]
  refine wpL_callM (f := 71) (args := #[.pointer (some ⟨g6, 0, none⟩)]) (R := fun v9 W9 => v9 = .string (bs (endL (takeH H0 (ps.take ps.length).flatten) (takeR (ps.take ps.length).flatten) ((ps.take ps.length).flatten.length % 18446744073709551616))) ∧ Mem [g6] w16 W9 [⟨g6, 10, []⟩]) (by rfl) (by rfl) rfl Tryd.func71 (by kernel_rfl) (by kernel_rfl) (end_c (h := (takeH H0 (ps.take ps.length).flatten)) (b := (takeR (ps.take ps.length).flatten)) (n := ((ps.take ps.length).flatten.length % 18446744073709551616)) (takeH_ok _ _ _ (Nat.le_refl _) H0_ok) (takeR_len _) (mod_lt64 _) (M.ne0 0 rfl L0) (M.oldL L0) (M.oldR R0_0 L0) (M.one 0 rfl)) (fun v9 w21 h9 => ?_)
  obtain ⟨rfl, M9⟩ := h9
  replace M := M.callM1 0 rfl M9
  simp only [Z0] at M
  simp only [Z7,Z0]
  refine Z13 (v := .string (bs (endL (takeH H0 (ps.take ps.length).flatten) (takeR (ps.take ps.length).flatten) ((ps.take ps.length).flatten.length % 18446744073709551616)))) (by rfl) (by rfl) (by rfl) ?_
  simp only [Z7,Z0]
  refine Z9 (Z10 ?_)
  refine hK19 _ _ ?_
  refine wp_ret ?_
  repeat (first | with_reducible refine then_ret ?_ | with_reducible refine inblock_ret ?_)
  refine bodyPost_ret (v := .string (bs (endL (takeH H0 (ps.take ps.length).flatten) (takeR (ps.take ps.length).flatten) ((ps.take ps.length).flatten.length % 18446744073709551616)))) (res1 rfl (.tmp (by rfl))) rfl ?_
  have BE := M.below
  exact ⟨by rw [sha_flat], BE⟩
 ·
  have hk : k < ps.length := of_decide_eq_true hc18
  refine Z5 rfl ?_
  refine wp_skip ?_
  refine hK17 _ _ ?_
  refine Z4 (fun K22 hK22 => ?_)
  refine wp_block ?_
  refine Z4 (fun K23 hK23 => ?_)
  refine Z8 ?_
  refine Z11 2 (by rfl) (fun Lk hLk => ?_)
  simp only [Z1,Z2]
  refine wpV_idxs (n := k) (by rfl) rfl rfl rfl Tryd.underlying48 info9 (by omega) ?_
  simp only [Nat.zero_add]
  simp only [Z7,Z0]
  refine wpV_load1 (v := .string (bs (ps.getD k []))) (by rfl) rfl rfl (zadd ((M.oldR Rg0_0 Lg0) _ _ (scells_get (ps := ps) (by omega)))) (M.oldL Lg0) Tryd.underlying9 rfl ?_
  simp only [Z7,Z0]
  refine Z14 (hLk _ (fun w25 Sw25 => ?_))
  clear hLk Lk
  simp only [Z1,Z2]
  replace M := M.sees Sw25
  refine Z13 (v := .string (bs (ps.getD k []))) (by rfl) (by rfl) (by rfl) ?_
  simp only [Z7,Z0]
  refine Z9 (Z10 ?_)
  refine hK23 _ _ ?_
  refine Z8 ?_
  refine Z12 (v := .pointer (some ⟨g6, 0, none⟩)) (by rfl) (by rfl) (by rfl) ?_
  simp only [Z7,Z0]
  refine Z12 (v := .string (bs (ps.getD k []))) (by rfl) (by rfl) (by rfl) ?_
  simp only [Z7,Z0]
  refine wpL_callM (f := 70) (args := #[.pointer (some ⟨g6, 0, none⟩), .string (bs (ps.getD k []))]) (R := fun v9 W9 => v9 = .tuple #[] ∧ Mem [g6] w25 W9 [⟨g6, 10, [(0, [.int .u32 (((takeH (takeH H0 (ps.take k).flatten) ((takeR (ps.take k).flatten) ++ (ps.getD k []))).a : Nat) : Int), .int .u32 (((takeH (takeH H0 (ps.take k).flatten) ((takeR (ps.take k).flatten) ++ (ps.getD k []))).b : Nat) : Int), .int .u32 (((takeH (takeH H0 (ps.take k).flatten) ((takeR (ps.take k).flatten) ++ (ps.getD k []))).c : Nat) : Int), .int .u32 (((takeH (takeH H0 (ps.take k).flatten) ((takeR (ps.take k).flatten) ++ (ps.getD k []))).d : Nat) : Int), .int .u32 (((takeH (takeH H0 (ps.take k).flatten) ((takeR (ps.take k).flatten) ++ (ps.getD k []))).e : Nat) : Int), .int .u32 (((takeH (takeH H0 (ps.take k).flatten) ((takeR (ps.take k).flatten) ++ (ps.getD k []))).f : Nat) : Int), .int .u32 (((takeH (takeH H0 (ps.take k).flatten) ((takeR (ps.take k).flatten) ++ (ps.getD k []))).g : Nat) : Int), .int .u32 (((takeH (takeH H0 (ps.take k).flatten) ((takeR (ps.take k).flatten) ++ (ps.getD k []))).h : Nat) : Int)]), (8, [.string (bs (takeR ((takeR (ps.take k).flatten) ++ (ps.getD k []))))]), (9, [.int .u64 ((((((ps.take k).flatten.length % 18446744073709551616) + (ps.getD k []).length) % 18446744073709551616) : Nat) : Int)])]⟩]) (by rfl) (by rfl) rfl Tryd.func70 (by kernel_rfl) (by kernel_rfl) (take_c (h := (takeH H0 (ps.take k).flatten)) (b := (takeR (ps.take k).flatten)) (l := (ps.getD k [])) (n := ((ps.take k).flatten.length % 18446744073709551616)) (takeH_ok _ _ _ (Nat.le_refl _) H0_ok) (takeR_len _) (hp k) (M.ne0 0 rfl L0) (M.oldL L0) (M.oldR R0_0 L0) (M.one 0 rfl)) (fun v9 w27 h9 => ?_)
  obtain ⟨rfl, M9⟩ := h9
  replace M := M.callM1 0 rfl M9
  simp only [Z0] at M
  simp only [Z7,Z0]
  refine Z9 (Z10 ?_)
  rw [← takeH_append, ← takeR_append, len_step, flat_step hk] at M
  refine hK22 _ _ ?_
  refine Z8 ?_
  refine Z11 1 (by rfl) (fun Lk hLk => ?_)
  simp only [Z1,Z2]
  refine Z15 (v := .int .i64 ((k + 1 : Nat) : Int)) (by rfl) rfl rfl rfl (fun W => run_add (by simp only [IntKind.wrap_i64]; omega) W) ?_
  simp only [Z7,Z0]
  refine Z14 (hLk _ (fun w29 Sw29 => ?_))
  clear hLk Lk
  simp only [Z1,Z2]
  replace M := M.sees Sw29
  refine Z12 (v := .int .i64 ((k + 1 : Nat) : Int)) (by rfl) (by rfl) (by rfl) ?_
  simp only [Z7,Z0]
  refine Z9 (Z10 ?_)
  refine Exists.intro _ ⟨?_, (k + 1), (fun q9 => (#[Z3, Z3, Z3, Z3, Z3, .string (bs (ps.getD k [])), Z3, Z3, Z3, Z3, Z3, Z3, .bool true, .pointer (some ⟨g0, k, none⟩), .string (bs (ps.getD k [])), .pointer (some ⟨g6, 0, none⟩), .string (bs (ps.getD k [])), .tuple #[], .int .i64 ((k + 1 : Nat) : Int)] : Array Value).getD q9 Z3), rfl, rfl, M, (by omega)⟩
  omega
set_option maxHeartbeats 2000000 in
theorem sum0_c  {w : World} (L0 : 0 < w.heap.size) (R0_0 : w.rangeAt 0 0 kcells) :
  Calls Tryd.prog 20 #[.slice none 0 0] w fun e w' => e = .returned (.string (bs (sha []))) ∧ Below w.heap.size w w' := by
 go_enter Tryd.func20, Tryd.ntmps20
 have M := Mem.start w
 refine Z4 (fun K1 hK1 => ?_)
 refine Z8 ?_
 refine Z13 (v := .string (bs ([]))) (by rfl) (by rfl) (by rfl) ?_
 simp only [Z7,Z0]
 refine Z9 (Z10 ?_)
 refine hK1 _ _ ?_
 refine Z4 (fun K3 hK3 => ?_)
 refine Z8 ?_
 refine Z11 2 (by rfl) (fun Lk hLk => ?_)
 simp only [Z1,Z2]
 refine Z20 (v := .agg ([.int .u32 ((H0.a : Nat) : Int), .int .u32 ((H0.b : Nat) : Int), .int .u32 ((H0.c : Nat) : Int), .int .u32 ((H0.d : Nat) : Int), .int .u32 ((H0.e : Nat) : Int), .int .u32 ((H0.f : Nat) : Int), .int .u32 ((H0.g : Nat) : Int), .int .u32 ((H0.h : Nat) : Int)] ++ [.string (bs [])] ++ [.int .u64 ((0 : Nat) : Int)] : List Value).toArray) (args := #[]) (by rfl) rfl Tryd.func22 (by kernel_rfl) (by kernel_rfl) rfl (fun W hW => new_c) ?_
 simp only [Z7,Z0]
 refine Z19 (v := .agg ([.int .u32 ((H0.a : Nat) : Int), .int .u32 ((H0.b : Nat) : Int), .int .u32 ((H0.c : Nat) : Int), .int .u32 ((H0.d : Nat) : Int), .int .u32 ((H0.e : Nat) : Int), .int .u32 ((H0.f : Nat) : Int), .int .u32 ((H0.g : Nat) : Int), .int .u32 ((H0.h : Nat) : Int)] ++ [.string (bs [])] ++ [.int .u64 ((0 : Nat) : Int)] : List Value).toArray) (by rfl) (by rfl) (fun W hW => ?_) ?_
 ·
  (unfold RunsVal; kernel_rfl)
 simp only [Z7,Z0]
 refine Z14 (hLk _ (fun w5 Sw5 => ?_))
 clear hLk Lk
 simp only [Z1,Z2]
 replace M := M.sees Sw5
 refine wpL_var (t := 90) (cs := [.int .u32 ((H0.a : Nat) : Int), .int .u32 ((H0.b : Nat) : Int), .int .u32 ((H0.c : Nat) : Int), .int .u32 ((H0.d : Nat) : Int), .int .u32 ((H0.e : Nat) : Int), .int .u32 ((H0.f : Nat) : Int), .int .u32 ((H0.g : Nat) : Int), .int .u32 ((H0.h : Nat) : Int)] ++ [.string (bs [])] ++ [.int .u64 ((0 : Nat) : Int)]) (by rfl) (fun W => ?_) (fun g6 w7 Sw7 Hg6 Bg6 => ?_)
 ·
  (first | rfl | go_simp)
 replace M := ((M.sees Sw7).addS (N := 10) (cs := [.int .u32 ((H0.a : Nat) : Int), .int .u32 ((H0.b : Nat) : Int), .int .u32 ((H0.c : Nat) : Int), .int .u32 ((H0.d : Nat) : Int), .int .u32 ((H0.e : Nat) : Int), .int .u32 ((H0.f : Nat) : Int), .int .u32 ((H0.g : Nat) : Int), .int .u32 ((H0.h : Nat) : Int)] ++ [.string (bs [])] ++ [.int .u64 ((0 : Nat) : Int)]) (segs := [(0, [.int .u32 ((H0.a : Nat) : Int), .int .u32 ((H0.b : Nat) : Int), .int .u32 ((H0.c : Nat) : Int), .int .u32 ((H0.d : Nat) : Int), .int .u32 ((H0.e : Nat) : Int), .int .u32 ((H0.f : Nat) : Int), .int .u32 ((H0.g : Nat) : Int), .int .u32 ((H0.h : Nat) : Int)]), (8, [.string (bs [])]), (9, [.int .u64 ((0 : Nat) : Int)])]) (M.ge Hg6) (M.fresh Hg6) Bg6 (by simp [flen]) ⟨rfl, rfl, rfl, trivial⟩)
 clear Bg6
 simp only [Z7,Z0]
 refine Z13 (v := .pointer (some ⟨g6, 0, none⟩)) (by rfl) (by rfl) (by rfl) ?_
 simp only [Z7,Z0]
 refine Z9 (Z10 ?_)
 refine hK3 _ _ ?_
 refine Z4 (fun K8 hK8 => ?_)
 refine Z4 (fun K9 hK9 => ?_)
 refine Z8 ?_
 refine Z12 (v := .slice none 0 0) (by rfl) (by rfl) (by rfl) ?_
 simp only [Z7,Z0]
 refine Z11 1 (by rfl) (fun Lk hLk => ?_)
 simp only [Z1,Z2]
 refine wpV_lenA (n := 0) (by rfl) rfl rfl rfl Tryd.underlying48 ?_
 simp only [Z7,Z0]
 refine Z14 (hLk _ (fun w11 Sw11 => ?_))
 clear hLk Lk
 simp only [Z1,Z2]
 replace M := M.sees Sw11
 refine Z12 (v := .int .i64 0) (by rfl) (by rfl) (by rfl) ?_
 simp only [Z7,Z0]
 refine Z9 (Z10 ?_)
 refine hK9 _ _ ?_
 refine wp_block ?_
 refine wp_loop_rounds 2 ?_
 rw [rounds_succ]
 refine Z4 (fun K12 hK12 => ?_)
 refine Z8 ?_
 refine Z11 1 (by rfl) (fun Lk hLk => ?_)
 simp only [Z1,Z2]
 refine Z15 (v := .bool false) (by rfl) rfl rfl rfl (fun W => run_lss _ _ _ _ W) ?_
 simp only [Z7,Z0]
 refine Z14 (hLk _ (fun w14 Sw14 => ?_))
 clear hLk Lk
 simp only [Z1,Z2]
 replace M := M.sees Sw14
 refine Z9 (Z10 ?_)
 refine hK12 _ _ ?_
 refine Z4 (fun K15 hK15 => ?_)
 refine Z6 rfl ?_
 refine wp_exit ?_
 refine hK8 _ _ ?_
 refine Z4 (fun K16 hK16 => ?_)
 refine Z8 ?_
 refine Z12 (v := .pointer (some ⟨g6, 0, none⟩)) (by rfl) (by rfl) (by rfl) ?_
 simp only [Z7,Z0]
 refine wpL_callM (f := 71) (args := #[.pointer (some ⟨g6, 0, none⟩)]) (R := fun v9 W9 => v9 = .string (bs (endL H0 ([]) 0)) ∧ Mem [g6] w14 W9 [⟨g6, 10, []⟩]) (by rfl) (by rfl) rfl Tryd.func71 (by kernel_rfl) (by kernel_rfl) (end_c (h := H0) (b := []) (n := 0) H0_ok (by decide) (by decide) (M.ne0 0 rfl L0) (M.oldL L0) (M.oldR R0_0 L0) (M.one 0 rfl)) (fun v9 w18 h9 => ?_)
 obtain ⟨rfl, M9⟩ := h9
 replace M := M.callM1 0 rfl M9
 simp only [Z0] at M
 simp only [Z7,Z0]
 refine Z13 (v := .string (bs (endL H0 ([]) 0))) (by rfl) (by rfl) (by rfl) ?_
 simp only [Z7,Z0]
 refine Z9 (Z10 ?_)
 refine hK16 _ _ ?_
 refine wp_ret ?_
 repeat (first | with_reducible refine then_ret ?_ | with_reducible refine inblock_ret ?_)
 refine bodyPost_ret (v := .string (bs (endL H0 ([]) 0))) (res1 rfl (.tmp (by rfl))) rfl ?_
 have BE := M.below
 exact ⟨by rw [show sha [] = endL H0 [] 0 by unfold sha; rw [take_zero.1, take_zero.2]; rfl], BE⟩
end Go.Proofs.Yb

namespace Go.Proofs.Yb
open Go Go.RowKit Go.Proofs.Num
open List renaming set → Z0, take → Z1, drop → Z2
open Go renaming undef → Z3, wp_seq_k → Z4, wp_cond_true → Z5, wp_cond_false → Z6
open Go.Proofs.Num renaming putT → Z7, wp_region_seq → Z8, wpL_nil → Z9, no_panic → Z10, wpL_chunk → Z11, wpL_move → Z12, wpL_assign → Z13, wpV_nil → Z14, wpV_bin → Z15, wpV_move → Z16, then_normal → Z17, wpL_store1 → Z18, wpV_val → Z19, wpV_callf → Z20
set_option maxHeartbeats 1000000 in
theorem leaf_c {d : List UInt8} {w : World} (hd : d.length ≤ 9223372036854775744) (L0 : 0 < w.heap.size) (R0_0 : w.rangeAt 0 0 kcells) :
  Calls Tryd.prog 38 #[.string (bs d)] w fun e w' => e = .returned (.string (bs (leafS d))) ∧ Below w.heap.size w w' := by
 go_enter Tryd.func38, Tryd.ntmps38
 have M := Mem.start w
 refine Z4 (fun K1 hK1 => ?_)
 refine Z8 ?_
 refine Z13 (v := .string (bs ([]))) (by rfl) (by rfl) (by rfl) ?_
 simp only [Z7,Z0]
 refine Z9 (Z10 ?_)
 refine hK1 _ _ ?_
 refine Z4 (fun K3 hK3 => ?_)
 refine Z8 ?_
 refine Z12 (v := .string (bs d)) (by rfl) (by rfl) (by rfl) ?_
 simp only [Z7,Z0]
 refine wpL_rowN (vs := [.string (bs ([0])), .string (bs d)]) (z := .string { data := #[] }) (bytes := 16) (by rfl) (by rfl) Tryd.underlying48 (by kernel_rfl) (by decide) (by kernel_rfl) (fun g5 w6 Sw6 Hg5 Bg5 => ?_)
 replace M := ((M.sees Sw6).add (N := 2) (cs := [.string (bs ([0])), .string (bs d)]) (M.ge Hg5) (M.fresh Hg5) Bg5 rfl)
 clear Bg5
 simp only [Z7,Z0]
 refine Z11 1 (by rfl) (fun Lk hLk => ?_)
 simp only [Z1,Z2]
 refine Z20 (v := .string (bs (sha (([0]) ++ d)))) (args := #[.slice (some ⟨g5, 0, none⟩) 2 2]) (by rfl) rfl Tryd.func20 (by kernel_rfl) (by kernel_rfl) rfl (fun W hW => (by have h := sum_c (ps := [[0], d]) (w := W) (by simp) (getD_le2 (by decide) hd) ((M.sees hW).oldL L0) ((M.sees hW).oldR R0_0 L0) (Nat.le_refl _) ((M.sees hW).lt 0 rfl) ((M.sees hW).r 0 0 rfl rfl); rw [flat2] at h; exact h)) ?_
 simp only [Z7,Z0]
 refine Z14 (hLk _ (fun w7 Sw7 => ?_))
 clear hLk Lk
 simp only [Z1,Z2]
 replace M := M.sees Sw7
 refine Z13 (v := .string (bs (sha (([0]) ++ d)))) (by rfl) (by rfl) (by rfl) ?_
 simp only [Z7,Z0]
 refine Z9 (Z10 ?_)
 refine hK3 _ _ ?_
 refine wp_ret ?_
 repeat (first | with_reducible refine then_ret ?_ | with_reducible refine inblock_ret ?_)
 refine bodyPost_ret (v := .string (bs (sha (([0]) ++ d)))) (res1 rfl (.tmp (by rfl))) rfl ?_
 have BE := M.below
 exact ⟨rfl, BE⟩
set_option maxHeartbeats 1000000 in
theorem node_c {a b : List UInt8} {w : World} (ha : a.length ≤ 9223372036854775744) (hb : b.length ≤ 9223372036854775744) (L0 : 0 < w.heap.size) (R0_0 : w.rangeAt 0 0 kcells) :
  Calls Tryd.prog 40 #[.string (bs a), .string (bs b)] w fun e w' => e = .returned (.string (bs (nodeS a b))) ∧ Below w.heap.size w w' := by
 go_enter Tryd.func40, Tryd.ntmps40
 have M := Mem.start w
 refine Z4 (fun K1 hK1 => ?_)
 refine Z8 ?_
 refine Z13 (v := .string (bs ([]))) (by rfl) (by rfl) (by rfl) ?_
 simp only [Z7,Z0]
 refine Z9 (Z10 ?_)
 refine hK1 _ _ ?_
 refine Z4 (fun K3 hK3 => ?_)
 refine Z8 ?_
 refine Z12 (v := .string (bs a)) (by rfl) (by rfl) (by rfl) ?_
 simp only [Z7,Z0]
 refine Z12 (v := .string (bs b)) (by rfl) (by rfl) (by rfl) ?_
 simp only [Z7,Z0]
 refine wpL_rowN (vs := [.string (bs ([1])), .string (bs a), .string (bs b)]) (z := .string { data := #[] }) (bytes := 16) (by rfl) (by rfl) Tryd.underlying48 (by kernel_rfl) (by decide) (by kernel_rfl) (fun g5 w6 Sw6 Hg5 Bg5 => ?_)
 replace M := ((M.sees Sw6).add (N := 3) (cs := [.string (bs ([1])), .string (bs a), .string (bs b)]) (M.ge Hg5) (M.fresh Hg5) Bg5 rfl)
 clear Bg5
 simp only [Z7,Z0]
 refine Z11 1 (by rfl) (fun Lk hLk => ?_)
 simp only [Z1,Z2]
 refine Z20 (v := .string (bs (sha (([1]) ++ a ++ b)))) (args := #[.slice (some ⟨g5, 0, none⟩) 3 3]) (by rfl) rfl Tryd.func20 (by kernel_rfl) (by kernel_rfl) rfl (fun W hW => (by have h := sum_c (ps := [[1], a, b]) (w := W) (by simp) (getD_le3 (by decide) ha hb) ((M.sees hW).oldL L0) ((M.sees hW).oldR R0_0 L0) (Nat.le_refl _) ((M.sees hW).lt 0 rfl) ((M.sees hW).r 0 0 rfl rfl); rw [flat3] at h; exact h)) ?_
 simp only [Z7,Z0]
 refine Z14 (hLk _ (fun w7 Sw7 => ?_))
 clear hLk Lk
 simp only [Z1,Z2]
 replace M := M.sees Sw7
 refine Z13 (v := .string (bs (sha (([1]) ++ a ++ b)))) (by rfl) (by rfl) (by rfl) ?_
 simp only [Z7,Z0]
 refine Z9 (Z10 ?_)
 refine hK3 _ _ ?_
 refine wp_ret ?_
 repeat (first | with_reducible refine then_ret ?_ | with_reducible refine inblock_ret ?_)
 refine bodyPost_ret (v := .string (bs (sha (([1]) ++ a ++ b)))) (res1 rfl (.tmp (by rfl))) rfl ?_
 have BE := M.below
 exact ⟨rfl, BE⟩
set_option maxHeartbeats 1000000 in
theorem wellF_c {l : List UInt8} {w : World}  :
  Calls Tryd.prog 97 #[.string (bs l)] w fun e w' => e = .returned (.bool (decide (l.length ≠ 32))) ∧ Below w.heap.size w w' := by
 go_enter Tryd.func97, Tryd.ntmps97
 have M := Mem.start w
 refine Z4 (fun K1 hK1 => ?_)
 refine Z8 ?_
 refine Z13 (v := .bool false) (by rfl) (by rfl) (by rfl) ?_
 simp only [Z7,Z0]
 refine Z9 (Z10 ?_)
 refine hK1 _ _ ?_
 refine Z4 (fun K3 hK3 => ?_)
 refine Z8 ?_
 refine Z12 (v := .string (bs l)) (by rfl) (by rfl) (by rfl) ?_
 simp only [Z7,Z0]
 refine Z11 2 (by rfl) (fun Lk hLk => ?_)
 simp only [Z1,Z2]
 refine wpV_lenS (by rfl) rfl rfl rfl Tryd.underlying9 ?_
 simp only [Z7,Z0]
 refine Z15 (v := .bool (decide (l.length ≠ 32))) (by rfl) rfl rfl rfl (fun W => run_neqN l.length 32 _ _ W) ?_
 simp only [Z7,Z0]
 refine Z14 (hLk _ (fun w5 Sw5 => ?_))
 clear hLk Lk
 simp only [Z1,Z2]
 replace M := M.sees Sw5
 refine Z13 (v := .bool (decide (l.length ≠ 32))) (by rfl) (by rfl) (by rfl) ?_
 simp only [Z7,Z0]
 refine Z9 (Z10 ?_)
 refine hK3 _ _ ?_
 refine wp_ret ?_
 repeat (first | with_reducible refine then_ret ?_ | with_reducible refine inblock_ret ?_)
 refine bodyPost_ret (v := .bool (decide (l.length ≠ 32))) (res1 rfl (.tmp (by rfl))) rfl ?_
 have BE := M.below
 exact ⟨rfl, BE⟩
set_option maxHeartbeats 1000000 in
theorem idx1_c0  {w : World}  :
  Calls Tryd.prog 109 #[.slice none 0 0, .func (.func 97) #[] #[]] w fun e w' => e = .returned (.int .i64 (-1)) ∧ Below w.heap.size w w' := by
 go_enter Tryd.func109, Tryd.ntmps109
 have M := Mem.start w
 refine Z4 (fun K1 hK1 => ?_)
 refine Z8 ?_
 refine Z13 (v := .int .i64 0) (by rfl) (by rfl) (by rfl) ?_
 simp only [Z7,Z0]
 refine Z9 (Z10 ?_)
 refine hK1 _ _ ?_
 refine Z4 (fun K3 hK3 => ?_)
 refine Z4 (fun K4 hK4 => ?_)
 refine Z8 ?_
 refine Z12 (v := .slice none 0 0) (by rfl) (by rfl) (by rfl) ?_
 simp only [Z7,Z0]
 refine Z11 1 (by rfl) (fun Lk hLk => ?_)
 simp only [Z1,Z2]
 refine wpV_lenA (n := 0) (by rfl) rfl rfl rfl Tryd.underlying48 ?_
 simp only [Z7,Z0]
 refine Z14 (hLk _ (fun w6 Sw6 => ?_))
 clear hLk Lk
 simp only [Z1,Z2]
 replace M := M.sees Sw6
 refine Z12 (v := .int .i64 0) (by rfl) (by rfl) (by rfl) ?_
 simp only [Z7,Z0]
 refine Z9 (Z10 ?_)
 refine hK4 _ _ ?_
 refine wp_block ?_
 refine wp_loop_rounds 2 ?_
 rw [rounds_succ]
 refine Z4 (fun K7 hK7 => ?_)
 refine Z8 ?_
 refine Z11 1 (by rfl) (fun Lk hLk => ?_)
 simp only [Z1,Z2]
 refine Z15 (v := .bool false) (by rfl) rfl rfl rfl (fun W => run_lss _ _ _ _ W) ?_
 simp only [Z7,Z0]
 refine Z14 (hLk _ (fun w9 Sw9 => ?_))
 clear hLk Lk
 simp only [Z1,Z2]
 replace M := M.sees Sw9
 refine Z9 (Z10 ?_)
 refine hK7 _ _ ?_
 refine Z4 (fun K10 hK10 => ?_)
 refine Z6 rfl ?_
 refine wp_exit ?_
 refine hK3 _ _ ?_
 refine Z4 (fun K11 hK11 => ?_)
 refine Z8 ?_
 refine Z13 (v := .int .i64 (-1)) (by rfl) (by rfl) (by rfl) ?_
 simp only [Z7,Z0]
 refine Z9 (Z10 ?_)
 refine hK11 _ _ ?_
 refine wp_ret ?_
 repeat (first | with_reducible refine then_ret ?_ | with_reducible refine inblock_ret ?_)
 refine bodyPost_ret (v := .int .i64 (-1)) (res1 rfl (.tmp (by rfl))) rfl ?_
 have BE := M.below
 exact ⟨rfl, BE⟩
set_option maxHeartbeats 1000000 in
theorem cont1_c0  {w : World}  :
  Calls Tryd.prog 96 #[.slice none 0 0, .func (.func 97) #[] #[]] w fun e w' => e = .returned (.bool false) ∧ Below w.heap.size w w' := by
 go_enter Tryd.func96, Tryd.ntmps96
 have M := Mem.start w
 refine Z4 (fun K1 hK1 => ?_)
 refine Z8 ?_
 refine Z13 (v := .bool false) (by rfl) (by rfl) (by rfl) ?_
 simp only [Z7,Z0]
 refine Z9 (Z10 ?_)
 refine hK1 _ _ ?_
 refine Z4 (fun K3 hK3 => ?_)
 refine Z8 ?_
 refine Z12 (v := .slice none 0 0) (by rfl) (by rfl) (by rfl) ?_
 simp only [Z7,Z0]
 refine Z12 (v := .func (.func 97) #[] #[]) (by rfl) (by rfl) (by rfl) ?_
 simp only [Z7,Z0]
 refine Z11 2 (by rfl) (fun Lk hLk => ?_)
 simp only [Z1,Z2]
 refine Z20 (v := .int .i64 (-1)) (args := #[.slice none 0 0, .func (.func 97) #[] #[]]) (by rfl) rfl Tryd.func109 (by kernel_rfl) (by kernel_rfl) rfl (fun W hW => idx1_c0) ?_
 simp only [Z7,Z0]
 refine Z15 (v := .bool false) (by rfl) rfl rfl rfl (fun W => run_geq _ _ _ _ W) ?_
 simp only [Z7,Z0]
 refine Z14 (hLk _ (fun w5 Sw5 => ?_))
 clear hLk Lk
 simp only [Z1,Z2]
 replace M := M.sees Sw5
 refine Z13 (v := .bool false) (by rfl) (by rfl) (by rfl) ?_
 simp only [Z7,Z0]
 refine Z9 (Z10 ?_)
 refine hK3 _ _ ?_
 refine wp_ret ?_
 repeat (first | with_reducible refine then_ret ?_ | with_reducible refine inblock_ret ?_)
 refine bodyPost_ret (v := .bool false) (res1 rfl (.tmp (by rfl))) rfl ?_
 have BE := M.below
 exact ⟨rfl, BE⟩
set_option maxHeartbeats 1000000 in
theorem well_c0  {w : World}  :
  Calls Tryd.prog 76 #[.slice none 0 0] w fun e w' => e = .returned (.bool true) ∧ Below w.heap.size w w' := by
 go_enter Tryd.func76, Tryd.ntmps76
 have M := Mem.start w
 refine Z4 (fun K1 hK1 => ?_)
 refine Z8 ?_
 refine Z13 (v := .bool false) (by rfl) (by rfl) (by rfl) ?_
 simp only [Z7,Z0]
 refine Z9 (Z10 ?_)
 refine hK1 _ _ ?_
 refine Z4 (fun K3 hK3 => ?_)
 refine Z8 ?_
 refine Z12 (v := .slice none 0 0) (by rfl) (by rfl) (by rfl) ?_
 simp only [Z7,Z0]
 refine Z11 2 (by rfl) (fun Lk hLk => ?_)
 simp only [Z1,Z2]
 refine Z20 (v := .bool false) (args := #[.slice none 0 0, .func (.func 97) #[] #[]]) (by rfl) rfl Tryd.func96 (by kernel_rfl) (by kernel_rfl) rfl (fun W hW => cont1_c0) ?_
 simp only [Z7,Z0]
 refine wpV_not (b := false) (by rfl) rfl rfl ?_
 simp only [Bool.not_true, Bool.not_false]
 simp only [Z7,Z0]
 refine Z14 (hLk _ (fun w5 Sw5 => ?_))
 clear hLk Lk
 simp only [Z1,Z2]
 replace M := M.sees Sw5
 refine Z13 (v := .bool true) (by rfl) (by rfl) (by rfl) ?_
 simp only [Z7,Z0]
 refine Z9 (Z10 ?_)
 refine hK3 _ _ ?_
 refine wp_ret ?_
 repeat (first | with_reducible refine then_ret ?_ | with_reducible refine inblock_ret ?_)
 refine bodyPost_ret (v := .bool true) (res1 rfl (.tmp (by rfl))) rfl ?_
 have BE := M.below
 exact ⟨rfl, BE⟩
set_option maxHeartbeats 1000000 in
theorem right_c0  {w : World}  :
  Calls Tryd.prog 42 #[.slice none 0 0] w fun e w' => e = .returned (.bool true) ∧ Below w.heap.size w w' := by
 go_enter Tryd.func42, Tryd.ntmps42
 have M := Mem.start w
 refine Z4 (fun K1 hK1 => ?_)
 refine Z8 ?_
 refine Z13 (v := .bool false) (by rfl) (by rfl) (by rfl) ?_
 simp only [Z7,Z0]
 refine Z9 (Z10 ?_)
 refine hK1 _ _ ?_
 refine Z4 (fun K3 hK3 => ?_)
 refine Z8 ?_
 refine Z12 (v := .slice none 0 0) (by rfl) (by rfl) (by rfl) ?_
 simp only [Z7,Z0]
 refine Z11 6 (by rfl) (fun Lk hLk => ?_)
 simp only [Z1,Z2]
 refine wpV_lenA (n := 0) (by rfl) rfl rfl rfl Tryd.underlying48 ?_
 simp only [Z7,Z0]
 refine Z15 (v := .bool true) (by rfl) rfl rfl rfl (fun W => run_leq _ _ _ _ W) ?_
 simp only [Z7,Z0]
 refine Z16 (v := .bool true) (by rfl) rfl rfl ?_
 simp only [Z7,Z0]
 refine Z16 (v := .slice none 0 0) (by rfl) rfl rfl ?_
 simp only [Z7,Z0]
 refine Z20 (v := .bool true) (args := #[.slice none 0 0]) (by rfl) rfl Tryd.func76 (by kernel_rfl) (by kernel_rfl) rfl (fun W hW => well_c0) ?_
 simp only [Z7,Z0]
 refine wpV_pick (v := .bool true) (by rfl) rfl rfl rfl ?_
 simp only [Z7,Z0]
 refine Z14 (hLk _ (fun w5 Sw5 => ?_))
 clear hLk Lk
 simp only [Z1,Z2]
 replace M := M.sees Sw5
 refine Z13 (v := .bool true) (by rfl) (by rfl) (by rfl) ?_
 simp only [Z7,Z0]
 refine Z9 (Z10 ?_)
 refine hK3 _ _ ?_
 refine wp_ret ?_
 repeat (first | with_reducible refine then_ret ?_ | with_reducible refine inblock_ret ?_)
 refine bodyPost_ret (v := .bool true) (res1 rfl (.tmp (by rfl))) rfl ?_
 have BE := M.below
 exact ⟨rfl, BE⟩
end Go.Proofs.Yb

namespace Go.Proofs.Yb
open Go Go.RowKit Go.Proofs.Num
open List renaming set → Z0, take → Z1, drop → Z2
open Go renaming undef → Z3, wp_seq_k → Z4, wp_cond_true → Z5, wp_cond_false → Z6
open Go.Proofs.Num renaming putT → Z7, wp_region_seq → Z8, wpL_nil → Z9, no_panic → Z10, wpL_chunk → Z11, wpL_move → Z12, wpL_assign → Z13, wpV_nil → Z14, wpV_bin → Z15, wpV_move → Z16, then_normal → Z17, wpL_store1 → Z18, wpV_val → Z19, wpV_callf → Z20
set_option maxHeartbeats 1000000 in
theorem root_c0  {w : World} (L0 : 0 < w.heap.size) (R0_0 : w.rangeAt 0 0 kcells) :
  Calls Tryd.prog 75 #[.slice none 0 0] w fun e w' => e = .returned (.string (bs (rootS []))) ∧ Below w.heap.size w w' := by
 go_enter Tryd.func75, Tryd.ntmps75
 have M := Mem.start w
 refine Z4 (fun K1 hK1 => ?_)
 refine Z8 ?_
 refine Z13 (v := .string (bs ([]))) (by rfl) (by rfl) (by rfl) ?_
 simp only [Z7,Z0]
 refine Z9 (Z10 ?_)
 refine hK1 _ _ ?_
 refine Z4 (fun K3 hK3 => ?_)
 refine Z4 (fun K4 hK4 => ?_)
 refine Z8 ?_
 refine Z12 (v := .slice none 0 0) (by rfl) (by rfl) (by rfl) ?_
 simp only [Z7,Z0]
 refine Z11 1 (by rfl) (fun Lk hLk => ?_)
 simp only [Z1,Z2]
 refine wpV_lenA (n := 0) (by rfl) rfl rfl rfl Tryd.underlying48 ?_
 simp only [Z7,Z0]
 refine Z14 (hLk _ (fun w6 Sw6 => ?_))
 clear hLk Lk
 simp only [Z1,Z2]
 replace M := M.sees Sw6
 refine Z9 (Z10 ?_)
 refine hK4 _ _ ?_
 refine wp_block ?_
 refine Z4 (fun K7 hK7 => ?_)
 refine Z8 ?_
 refine Z11 1 (by rfl) (fun Lk hLk => ?_)
 simp only [Z1,Z2]
 refine Z15 (v := .bool true) (by rfl) rfl rfl rfl (fun W => (run_eqlN 0 0 _ _ W).trans (by rw [(show decide (0 = 0) = true from rfl)])) ?_
 simp only [Z7,Z0]
 refine Z14 (hLk _ (fun w9 Sw9 => ?_))
 clear hLk Lk
 simp only [Z1,Z2]
 replace M := M.sees Sw9
 refine Z13 (v := .bool true) (by rfl) (by rfl) (by rfl) ?_
 simp only [Z7,Z0]
 refine Z9 (Z10 ?_)
 refine hK7 _ _ ?_
 refine Z5 rfl ?_
 refine Z4 (fun K10 hK10 => ?_)
 refine Z8 ?_
 refine Z11 1 (by rfl) (fun Lk hLk => ?_)
 simp only [Z1,Z2]
 refine Z20 (v := .string (bs (sha []))) (args := #[(.slice none 0 0)]) (by rfl) rfl Tryd.func20 (by kernel_rfl) (by kernel_rfl) rfl (fun W hW => sum0_c ((M.sees hW).oldL L0) ((M.sees hW).oldR R0_0 L0)) ?_
 simp only [Z7,Z0]
 refine Z14 (hLk _ (fun w12 Sw12 => ?_))
 clear hLk Lk
 simp only [Z1,Z2]
 replace M := M.sees Sw12
 refine Z13 (v := .string (bs (sha []))) (by rfl) (by rfl) (by rfl) ?_
 simp only [Z7,Z0]
 refine Z9 (Z10 ?_)
 refine hK10 _ _ ?_
 refine wp_ret ?_
 repeat (first | with_reducible refine then_ret ?_ | with_reducible refine inblock_ret ?_)
 refine bodyPost_ret (v := .string (bs (sha []))) (res1 rfl (.tmp (by rfl))) rfl ?_
 have BE := M.below
 exact ⟨by rw [rootS_0 rfl], BE⟩
set_option maxHeartbeats 1000000 in
theorem Root_c0  {w : World} (L0 : 0 < w.heap.size) (R0_0 : w.rangeAt 0 0 kcells) :
  Calls Tryd.prog 37 #[.slice none 0 0] w fun e w' => e = .returned (.tuple #[.string (bs (rootS [])), .int .i64 0]) ∧ Below w.heap.size w w' := by
 go_enter Tryd.func37, Tryd.ntmps37
 have M := Mem.start w
 refine Z4 (fun K1 hK1 => ?_)
 refine Z8 ?_
 refine Z13 (v := .string (bs ([]))) (by rfl) (by rfl) (by rfl) ?_
 simp only [Z7,Z0]
 refine Z13 (v := .int .i64 0) (by rfl) (by rfl) (by rfl) ?_
 simp only [Z7,Z0]
 refine Z9 (Z10 ?_)
 refine hK1 _ _ ?_
 refine Z4 (fun K3 hK3 => ?_)
 refine Z4 (fun K4 hK4 => ?_)
 refine Z8 ?_
 refine Z12 (v := .slice none 0 0) (by rfl) (by rfl) (by rfl) ?_
 simp only [Z7,Z0]
 refine Z11 2 (by rfl) (fun Lk hLk => ?_)
 simp only [Z1,Z2]
 refine Z20 (v := .bool true) (args := #[.slice none 0 0]) (by rfl) rfl Tryd.func42 (by kernel_rfl) (by kernel_rfl) rfl (fun W hW => right_c0) ?_
 simp only [Z7,Z0]
 refine wpV_not (b := true) (by rfl) rfl rfl ?_
 simp only [Bool.not_true, Bool.not_false]
 simp only [Z7,Z0]
 refine Z14 (hLk _ (fun w6 Sw6 => ?_))
 clear hLk Lk
 simp only [Z1,Z2]
 replace M := M.sees Sw6
 refine Z9 (Z10 ?_)
 refine hK4 _ _ ?_
 refine Z6 rfl ?_
 refine wp_skip ?_
 refine hK3 _ _ ?_
 refine Z4 (fun K7 hK7 => ?_)
 refine Z8 ?_
 refine Z12 (v := .slice none 0 0) (by rfl) (by rfl) (by rfl) ?_
 simp only [Z7,Z0]
 refine Z11 1 (by rfl) (fun Lk hLk => ?_)
 simp only [Z1,Z2]
 refine Z20 (v := .string (bs (rootS []))) (args := #[.slice none 0 0]) (by rfl) rfl Tryd.func75 (by kernel_rfl) (by kernel_rfl) rfl (fun W hW => root_c0 ((M.sees hW).oldL L0) ((M.sees hW).oldR R0_0 L0)) ?_
 simp only [Z7,Z0]
 refine Z14 (hLk _ (fun w9 Sw9 => ?_))
 clear hLk Lk
 simp only [Z1,Z2]
 replace M := M.sees Sw9
 refine Z13 (v := .string (bs (rootS []))) (by rfl) (by rfl) (by rfl) ?_
 simp only [Z7,Z0]
 refine Z13 (v := .int .i64 0) (by rfl) (by rfl) (by rfl) ?_
 simp only [Z7,Z0]
 refine Z9 (Z10 ?_)
 refine hK7 _ _ ?_
 refine wp_ret ?_
 repeat (first | with_reducible refine then_ret ?_ | with_reducible refine inblock_ret ?_)
 refine bodyPost_ret (v := .tuple #[.string (bs (rootS [])), .int .i64 0]) (res2 rfl (.tmp (by rfl)) (.tmp (by rfl))) rfl ?_
 have BE := M.below
 exact ⟨rfl, BE⟩
end Go.Proofs.Yb

