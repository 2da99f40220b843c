import Derived.WalkKit
import Derived.WalkSpells
import Derived.Laws.Pointers
import Derived.RowKit3
import Derived.Below
import Derived.Outline
import Derived.LoopN
import Derived.Lib.Hide
import Derived.Handy
import Derived.Laws.Bits64b
import Derived.Test.YticcchgckljlnaaDoorSh6
import Derived.Test.YticcchgckljlnaaDoorSha7
set_option linter.unusedSimpArgs false
set_option linter.unusedVariables false
namespace Go.Proofs.Yb
open Go Go.RowKit Go.Proofs.Num
attribute [local irreducible] wpV wpN wpList
set_option maxHeartbeats 4000000 in
theorem blocks_c {x : Int} {f : Nat} {l : List UInt8} {w : World} (hf : f < 256) (hl : l.length ≤ 9223372036854775807) (L0 : 0 < w.heap.size) (R0_0 : w.rangeAt 0 0 kcells) :
    Calls Tryd.prog 4 #[.int .i64 x, .int .u8 ((f : Nat) : Int), .string (bs l)] w fun e w' => e = .returned (.bool true) ∧ Below w.heap.size w w' := by
  obtain ⟨p, hp, hp5⟩ : ∃ p : Nat, min (max x 0) 5 = (p : Int) ∧ p ≤ 5 := ⟨(min (max x 0) 5).toNat, by omega, by omega⟩
  obtain ⟨m, hm⟩ : ∃ m, m = cut l 63 := ⟨_, rfl⟩
  have hml : m.length ≤ 63 := hm ▸ cut_len _ _
  go_enter Tryd.func4, Tryd.ntmps4
  have M := Mem.start w
  refine wp_seq_k (fun K1 hK1 => ?_)
  refine wp_region_seq ?_
  refine wpL_assign (v := .bool false) (by rfl) (by rfl) (by rfl) ?_
  simp only [putT, List.set]
  refine wpL_nil (no_panic ?_)
  refine hK1 _ _ ?_
  refine wp_seq_k (fun K3 hK3 => ?_)
  refine wp_region_grow 10 [] (by kernel_rfl) (by kernel_rfl) (by kernel_rfl) (fun Lk hLk => ?_)
  simp only [List.take, List.drop]
  refine wpV_move (v := .int .i64 x) (by rfl) rfl rfl ?_
  simp only [putT, List.set]
  refine wpV_maxZ (m := x) (n := 0) (e := max x 0) (by rfl) rfl rfl rfl rfl ?_
  simp only [putT, List.set]
  refine wpV_minZ (m := max x 0) (n := 5) (e := ((p : Nat) : Int)) (by rfl) rfl rfl rfl hp ?_
  simp only [putT, List.set]
  refine wpV_move (v := .string (bs l)) (by rfl) rfl rfl ?_
  simp only [putT, List.set]
  refine wpV_move (v := .string (bs l)) (by rfl) rfl rfl ?_
  simp only [putT, List.set]
  refine wpV_lenS (by rfl) rfl rfl rfl Tryd.underlying9 ?_
  simp only [putT, List.set]
  refine wpV_min (n := l.length) (m := 63) (by rfl) rfl rfl rfl ?_
  simp only [putT, List.set]
  refine wpV_cut (l := l) (m := 63) (by rfl) rfl rfl rfl Tryd.underlying9 ?_
  simp only [putT, List.set]
  refine wpV_assign (v := .int .i64 ((p : Nat) : Int)) (by rfl) rfl rfl ?_
  simp only [putT, List.set]
  refine wpV_assign (v := .string (bs (cut l 63))) (by rfl) rfl rfl ?_
  simp only [putT, List.set]
  refine wpV_nil (hLk.out _ ?_)
  clear hLk Lk
  simp only [List.take, List.drop]
  iterate 10 refine wpN_skip (by rfl) ?_
  refine wpN_nil (fun w5 Sw5 hbs => ?_)
  clear hbs
  replace M := M.sees Sw5
  refine wpL_nil (no_panic ?_)
  rw [← hm]
  refine hK3 _ _ ?_
  refine wp_seq_k (fun K6 hK6 => ?_)
  refine wp_region_seq ?_
  refine wpL_move (v := .int .i64 ((p : Nat) : Int)) (by rfl) (by rfl) (by rfl) ?_
  simp only [putT, List.set]
  refine wpL_chunk 1 (by rfl) (fun Lk hLk => ?_)
  simp only [List.take, List.drop]
  refine wpV_bin (v := .int .i64 ((64 * p : Nat) : Int)) (by rfl) rfl rfl rfl (fun W => run_mul (by simp only [IntKind.wrap_i64]; omega) W) ?_
  simp only [putT, List.set]
  refine wpV_nil (hLk _ (fun w8 Sw8 => ?_))
  clear hLk Lk
  simp only [List.take, List.drop]
  replace M := M.sees Sw8
  refine wpL_make (n := 64 * p) (z := .int .u8 0) (bytes := 1) (by rfl) (by rfl) (by rfl) (by rfl) Tryd.underlying35 (by kernel_rfl) rfl (by omega) (by omega) (fun g9 w10 Sw10 Hg9 Bg9 => ?_)
  replace M := ((M.sees Sw10).add (N := 64 * p) (cs := List.replicate (64 * p) (.int .u8 0)) (M.ge Hg9) (M.fresh Hg9) Bg9 (by simp [flen]))
  clear Bg9
  simp only [putT, List.set]
  refine wpL_assign (v := .slice (some ⟨g9, 0, none⟩) (64 * p) (64 * p)) (by rfl) (by rfl) (by rfl) ?_
  simp only [putT, List.set]
  refine wpL_nil (no_panic ?_)
  refine hK6 _ _ ?_
  refine wp_seq_k (fun K11 hK11 => ?_)
  refine wp_seq_k (fun K12 hK12 => ?_)
  refine wp_region_seq ?_
  refine wpL_move (v := .slice (some ⟨g9, 0, none⟩) (64 * p) (64 * p)) (by rfl) (by rfl) (by rfl) ?_
  simp only [putT, List.set]
  refine wpL_chunk 1 (by rfl) (fun Lk hLk => ?_)
  simp only [List.take, List.drop]
  refine wpV_lenA (n := 64 * p) (by rfl) rfl rfl rfl Tryd.underlying35 ?_
  simp only [putT, List.set]
  refine wpV_nil (hLk _ (fun w14 Sw14 => ?_))
  clear hLk Lk
  simp only [List.take, List.drop]
  replace M := M.sees Sw14
  refine wpL_move (v := .int .i64 0) (by rfl) (by rfl) (by rfl) ?_
  simp only [putT, List.set]
  refine wpL_nil (no_panic ?_)
  refine hK12 _ _ ?_
  refine wp_block ?_
  replace M := M.read1 (cs := bl (64 * p) (fun j => if j < 0 then (f + j) % 256 else 0)) (o := 0) 0 rfl (by rw [← row_start f (64 * p)]; exact (M.r 0 0 rfl rfl))
  simp only [List.set] at M
  refine wp_loop_ghost (fun n9 a9 W9 => ∃ (i : Nat) (u15 : Nat → Value), n9 = 64 * p - i ∧ a9 = { tmps := #[.int .i64 ((p : Nat) : Int), .int .u8 ((f : Nat) : Int), .string (bs m), undef, undef, undef, .bool false, .slice (some ⟨g9, 0, none⟩) (64 * p) (64 * p), u15 8, undef, undef, undef, undef, .int .i64 x, .int .i64 (max x 0), .int .i64 ((p : Nat) : Int), .string (bs l), .string (bs l), .int .i64 ((l.length : Nat) : Int), .int .i64 ((min l.length 63 : Nat) : Int), .string (bs m), .int .i64 ((p : Nat) : Int), .int .i64 ((64 * p : Nat) : Int), .slice (some ⟨g9, 0, none⟩) (64 * p) (64 * p), .slice (some ⟨g9, 0, none⟩) (64 * p) (64 * p), .int .i64 ((64 * p : Nat) : Int), .int .i64 ((i : Nat) : Int), u15 27, u15 28, u15 29, u15 30, u15 31, u15 32, u15 33, u15 34, u15 35, u15 36, undef, undef, undef, undef, undef, undef, undef, undef, undef, undef, undef, undef, undef, undef, undef, undef, undef, undef, undef, undef, undef, undef, undef, undef, undef, undef, undef, undef, undef, undef, undef, undef, undef, undef, undef, undef, undef, undef, undef, undef, undef, undef, undef, undef, undef, undef, undef, undef, undef, undef, undef, undef, undef, undef, undef, undef, undef, undef, undef], defers := [] } ∧ Mem [] w W9 [⟨g9, 64 * p, [(0, bl (64 * p) (fun j => if j < i then (f + j) % 256 else 0))]⟩] ∧ (i ≤ 64 * p)) (64 * p - (0)) ?_ (fun n9 a9 W9 hI => ?_)
  · exact ⟨0, (fun q9 => (#[undef, undef, undef, undef, undef, undef, undef, undef, undef, undef, undef, undef, undef, undef, undef, undef, undef, undef, undef, undef, undef, undef, undef, undef, undef, undef, undef, undef, undef, undef, undef, undef, undef, undef, undef, undef, undef] : Array Value).getD q9 undef), rfl, rfl, M, (by omega)⟩
  clear M
  obtain ⟨i, u15, rfl, rfl, M, hi4⟩ := hI
  obtain ⟨w16, rfl⟩ : ∃ W8, W8 = W9 := ⟨_, rfl⟩
  refine wp_seq_k (fun K17 hK17 => ?_)
  refine wp_region_seq ?_
  refine wpL_chunk 1 (by rfl) (fun Lk hLk => ?_)
  simp only [List.take, List.drop]
  refine wpV_bin (v := .bool (decide (i < 64 * p))) (by rfl) rfl rfl rfl (fun W => run_lssN i (64 * p) _ _ W) ?_
  simp only [putT, List.set]
  refine wpV_nil (hLk _ (fun w19 Sw19 => ?_))
  clear hLk Lk
  simp only [List.take, List.drop]
  replace M := M.sees Sw19
  refine wpL_nil (no_panic ?_)
  refine hK17 _ _ ?_
  refine wp_seq_k (fun K20 hK20 => ?_)
  cases hc21 : (decide (i < 64 * p))
  · skip
    have ei : i = 64 * p := by have := of_decide_eq_false hc21; omega
    subst ei
    refine wp_cond_false rfl ?_
    refine wp_exit ?_
    refine hK11 _ _ ?_
    refine wp_seq_k (fun K22 hK22 => ?_)
    rw [row_all f (64 * p)] at M
    obtain ⟨hy1, hy2, hy3, hy4⟩ := blocks1 (rowB_len f (64 * p)) hp5
    obtain ⟨y, hy⟩ : ∃ y, writeX newX (rowB f (64 * p)) = y := ⟨_, rfl⟩
    rw [hy] at hy1 hy2 hy3
    obtain ⟨hz1, hz2, hz3, hz4⟩ := blocks2 (m := m) hy2 hy3 hp5 hml
    obtain ⟨z, hz⟩ : ∃ z, writeX y m = z := ⟨_, rfl⟩
    rw [hz] at hz1 hz2 hz3
    refine wp_region_grow 8 [6] (by kernel_rfl) (by kernel_rfl) (by kernel_rfl) (fun Lk hLk => ?_)
    simp only [List.take, List.drop]
    refine wpV_callf (v := .agg ([.int .u32 ((H0.a : Nat) : Int), .int .u32 ((H0.b : Nat) : Int), .int .u32 ((H0.c : Nat) : Int), .int .u32 ((H0.d : Nat) : Int), .int .u32 ((H0.e : Nat) : Int), .int .u32 ((H0.f : Nat) : Int), .int .u32 ((H0.g : Nat) : Int), .int .u32 ((H0.h : Nat) : Int)] ++ [.string (bs [])] ++ [.int .u64 ((0 : Nat) : Int)] : List Value).toArray) (args := #[]) (by rfl) rfl Tryd.func22 (by kernel_rfl) (by kernel_rfl) rfl (fun W hW => new_c) ?_
    simp only [putT, List.set]
    refine wpV_move (v := .slice (some ⟨g9, 0, none⟩) (64 * p) (64 * p)) (by rfl) rfl rfl ?_
    simp only [putT, List.set]
    refine wpV_b2s (l := (rowB f (64 * p))) (by rfl) rfl rfl (rowB_len _ _).symm Tryd.underlying35 Tryd.underlying5 Tryd.underlying9 (M.r 0 0 rfl rfl) (M.lt 0 rfl) ?_
    simp only [putT, List.set]
    refine wpV_callf (v := .tuple #[.agg ([.int .u32 ((y.h.a : Nat) : Int), .int .u32 ((y.h.b : Nat) : Int), .int .u32 ((y.h.c : Nat) : Int), .int .u32 ((y.h.d : Nat) : Int), .int .u32 ((y.h.e : Nat) : Int), .int .u32 ((y.h.f : Nat) : Int), .int .u32 ((y.h.g : Nat) : Int), .int .u32 ((y.h.h : Nat) : Int)] ++ [.string (bs y.b)] ++ [.int .u64 ((y.n : Nat) : Int)] : List Value).toArray, .int .i64 0]) (args := #[.agg ([.int .u32 ((H0.a : Nat) : Int), .int .u32 ((H0.b : Nat) : Int), .int .u32 ((H0.c : Nat) : Int), .int .u32 ((H0.d : Nat) : Int), .int .u32 ((H0.e : Nat) : Int), .int .u32 ((H0.f : Nat) : Int), .int .u32 ((H0.g : Nat) : Int), .int .u32 ((H0.h : Nat) : Int)] ++ [.string (bs [])] ++ [.int .u64 ((0 : Nat) : Int)] : List Value).toArray, .string (bs (rowB f (64 * p)))]) (by rfl) rfl Tryd.func29 (by kernel_rfl) (by kernel_rfl) rfl (fun W hW => by have h9 : Calls Tryd.prog _ _ W _ := write_c (x := newX) (l := rowB f (64 * p)) newX_ok (by rw [rowB_len]; omega) ((M.sees hW).oldL L0) ((M.sees hW).oldR R0_0 L0); rw [hy, hy4] at h9; with_reducible exact h9) ?_
    simp only [putT, List.set]
    refine wpV_move (v := .tuple #[.agg ([.int .u32 ((y.h.a : Nat) : Int), .int .u32 ((y.h.b : Nat) : Int), .int .u32 ((y.h.c : Nat) : Int), .int .u32 ((y.h.d : Nat) : Int), .int .u32 ((y.h.e : Nat) : Int), .int .u32 ((y.h.f : Nat) : Int), .int .u32 ((y.h.g : Nat) : Int), .int .u32 ((y.h.h : Nat) : Int)] ++ [.string (bs y.b)] ++ [.int .u64 ((y.n : Nat) : Int)] : List Value).toArray, .int .i64 0]) (by rfl) rfl rfl ?_
    simp only [putT, List.set]
    refine wpV_extract (v := .agg ([.int .u32 ((y.h.a : Nat) : Int), .int .u32 ((y.h.b : Nat) : Int), .int .u32 ((y.h.c : Nat) : Int), .int .u32 ((y.h.d : Nat) : Int), .int .u32 ((y.h.e : Nat) : Int), .int .u32 ((y.h.f : Nat) : Int), .int .u32 ((y.h.g : Nat) : Int), .int .u32 ((y.h.h : Nat) : Int)] ++ [.string (bs y.b)] ++ [.int .u64 ((y.n : Nat) : Int)] : List Value).toArray) (by rfl) rfl rfl rfl ?_
    simp only [putT, List.set]
    refine wpV_extract (v := .int .i64 0) (by rfl) rfl rfl rfl ?_
    simp only [putT, List.set]
    refine wpV_alloc (by rfl) ?_
    refine wpV_nil (hLk.out _ ?_)
    clear hLk Lk
    simp only [List.take, List.drop]
    iterate 7 refine wpN_skip (by rfl) ?_
    refine wpN_new (t := 29) (cs := ([.int .u32 0, .int .u32 0, .int .u32 0, .int .u32 0, .int .u32 0, .int .u32 0, .int .u32 0, .int .u32 0, .string { data := #[] }, .int .u64 0]).toArray) (by rfl) (fun W => ?_) (fun g24 Hg24 ng24 => ?_)
    · go_simp
    simp only [putT, List.set]
    refine wpN_nil (fun w25 Sw25 hbs => ?_)
    replace M := ((M.sees Sw25).addS (N := 10) (cs := [.int .u32 0, .int .u32 0, .int .u32 0, .int .u32 0, .int .u32 0, .int .u32 0, .int .u32 0, .int .u32 0, .string { data := #[] }, .int .u64 0]) (segs := [(0, [.int .u32 0, .int .u32 0, .int .u32 0, .int .u32 0, .int .u32 0, .int .u32 0, .int .u32 0, .int .u32 0]), (8, [.string { data := #[] }]), (9, [.int .u64 0])]) (M.ge Hg24) (M.fresh Hg24) (hbs _ (.head _)) rfl ⟨rfl, rfl, rfl, trivial⟩)
    clear hbs ng24
    refine wpL_store (g := g24) (off := 0) (n := 10) (cs := [.int .u32 ((y.h.a : Nat) : Int), .int .u32 ((y.h.b : Nat) : Int), .int .u32 ((y.h.c : Nat) : Int), .int .u32 ((y.h.d : Nat) : Int), .int .u32 ((y.h.e : Nat) : Int), .int .u32 ((y.h.f : Nat) : Int), .int .u32 ((y.h.g : Nat) : Int), .int .u32 ((y.h.h : Nat) : Int)] ++ [.string (bs y.b)] ++ [.int .u64 ((y.n : Nat) : Int)]) (by rfl) (by rfl) (by rfl) (by rfl) (by rfl) (M.t 0 rfl) (by simp [flen]) info29 (by simp [fone, Value.oneCell']) (fun w26 P R T => ?_)
    replace M := M.put (segs' := [(0, [.int .u32 ((y.h.a : Nat) : Int), .int .u32 ((y.h.b : Nat) : Int), .int .u32 ((y.h.c : Nat) : Int), .int .u32 ((y.h.d : Nat) : Int), .int .u32 ((y.h.e : Nat) : Int), .int .u32 ((y.h.f : Nat) : Int), .int .u32 ((y.h.g : Nat) : Int), .int .u32 ((y.h.h : Nat) : Int)]), (8, [.string (bs y.b)]), (9, [.int .u64 ((y.n : Nat) : Int)])]) 0 rfl P T (SegsOf.at R ⟨rfl, rfl, rfl, trivial⟩)
    simp only [List.set] at M
    refine wpL_assign (v := .int .i64 0) (by rfl) (by rfl) (by rfl) ?_
    simp only [putT, List.set]
    refine wpL_nil (no_panic ?_)
    refine hK22 _ _ ?_
    refine wp_seq_k (fun K27 hK27 => ?_)
    refine wp_region_seq ?_
    refine wpL_chunk 6 (by rfl) (fun Lk hLk => ?_)
    simp only [List.take, List.drop]
    refine wpV_load (cs := [.int .u32 ((y.h.a : Nat) : Int), .int .u32 ((y.h.b : Nat) : Int), .int .u32 ((y.h.c : Nat) : Int), .int .u32 ((y.h.d : Nat) : Int), .int .u32 ((y.h.e : Nat) : Int), .int .u32 ((y.h.f : Nat) : Int), .int .u32 ((y.h.g : Nat) : Int), .int .u32 ((y.h.h : Nat) : Int)] ++ [.string (bs y.b)] ++ [.int .u64 ((y.n : Nat) : Int)]) (by rfl) rfl rfl (range_join (range_join (M.r 0 0 rfl rfl) (M.r 0 1 rfl rfl) (by simp [flen])) (M.r 0 2 rfl rfl) (by simp [flen])) (M.lt 0 rfl) Tryd.underlying29 rfl info29 ?_
    simp only [putT, List.set]
    refine wpV_move (v := .string (bs m)) (by rfl) rfl rfl ?_
    simp only [putT, List.set]
    refine wpV_callf (v := .tuple #[.agg ([.int .u32 ((z.h.a : Nat) : Int), .int .u32 ((z.h.b : Nat) : Int), .int .u32 ((z.h.c : Nat) : Int), .int .u32 ((z.h.d : Nat) : Int), .int .u32 ((z.h.e : Nat) : Int), .int .u32 ((z.h.f : Nat) : Int), .int .u32 ((z.h.g : Nat) : Int), .int .u32 ((z.h.h : Nat) : Int)] ++ [.string (bs z.b)] ++ [.int .u64 ((z.n : Nat) : Int)] : List Value).toArray, .int .i64 0]) (args := #[.agg ([.int .u32 ((y.h.a : Nat) : Int), .int .u32 ((y.h.b : Nat) : Int), .int .u32 ((y.h.c : Nat) : Int), .int .u32 ((y.h.d : Nat) : Int), .int .u32 ((y.h.e : Nat) : Int), .int .u32 ((y.h.f : Nat) : Int), .int .u32 ((y.h.g : Nat) : Int), .int .u32 ((y.h.h : Nat) : Int)] ++ [.string (bs y.b)] ++ [.int .u64 ((y.n : Nat) : Int)] : List Value).toArray, .string (bs m)]) (by rfl) rfl Tryd.func29 (by kernel_rfl) (by kernel_rfl) rfl (fun W hW => by have h9 : Calls Tryd.prog _ _ W _ := write_c (x := y) (l := m) hy1 (by omega) ((M.sees hW).oldL L0) ((M.sees hW).oldR R0_0 L0); rw [hz, hz4] at h9; with_reducible exact h9) ?_
    simp only [putT, List.set]
    refine wpV_move (v := .tuple #[.agg ([.int .u32 ((z.h.a : Nat) : Int), .int .u32 ((z.h.b : Nat) : Int), .int .u32 ((z.h.c : Nat) : Int), .int .u32 ((z.h.d : Nat) : Int), .int .u32 ((z.h.e : Nat) : Int), .int .u32 ((z.h.f : Nat) : Int), .int .u32 ((z.h.g : Nat) : Int), .int .u32 ((z.h.h : Nat) : Int)] ++ [.string (bs z.b)] ++ [.int .u64 ((z.n : Nat) : Int)] : List Value).toArray, .int .i64 0]) (by rfl) rfl rfl ?_
    simp only [putT, List.set]
    refine wpV_extract (v := .agg ([.int .u32 ((z.h.a : Nat) : Int), .int .u32 ((z.h.b : Nat) : Int), .int .u32 ((z.h.c : Nat) : Int), .int .u32 ((z.h.d : Nat) : Int), .int .u32 ((z.h.e : Nat) : Int), .int .u32 ((z.h.f : Nat) : Int), .int .u32 ((z.h.g : Nat) : Int), .int .u32 ((z.h.h : Nat) : Int)] ++ [.string (bs z.b)] ++ [.int .u64 ((z.n : Nat) : Int)] : List Value).toArray) (by rfl) rfl rfl rfl ?_
    simp only [putT, List.set]
    refine wpV_extract (v := .int .i64 0) (by rfl) rfl rfl rfl ?_
    simp only [putT, List.set]
    refine wpV_nil (hLk _ (fun w29 Sw29 => ?_))
    clear hLk Lk
    simp only [List.take, List.drop]
    replace M := M.sees Sw29
    refine wpL_var (t := 29) (cs := [.int .u32 0, .int .u32 0, .int .u32 0, .int .u32 0, .int .u32 0, .int .u32 0, .int .u32 0, .int .u32 0, .string { data := #[] }, .int .u64 0]) (by rfl) (fun W => ?_) (fun g30 w31 Sw31 Hg30 Bg30 => ?_)
    · go_simp
    replace M := ((M.sees Sw31).addS (N := 10) (cs := [.int .u32 0, .int .u32 0, .int .u32 0, .int .u32 0, .int .u32 0, .int .u32 0, .int .u32 0, .int .u32 0, .string { data := #[] }, .int .u64 0]) (segs := [(0, [.int .u32 0, .int .u32 0, .int .u32 0, .int .u32 0, .int .u32 0, .int .u32 0, .int .u32 0, .int .u32 0]), (8, [.string { data := #[] }]), (9, [.int .u64 0])]) (M.ge Hg30) (M.fresh Hg30) Bg30 rfl ⟨rfl, rfl, rfl, trivial⟩)
    clear Bg30
    simp only [putT, List.set]
    refine wpL_store (g := g30) (off := 0) (n := 10) (cs := [.int .u32 ((z.h.a : Nat) : Int), .int .u32 ((z.h.b : Nat) : Int), .int .u32 ((z.h.c : Nat) : Int), .int .u32 ((z.h.d : Nat) : Int), .int .u32 ((z.h.e : Nat) : Int), .int .u32 ((z.h.f : Nat) : Int), .int .u32 ((z.h.g : Nat) : Int), .int .u32 ((z.h.h : Nat) : Int)] ++ [.string (bs z.b)] ++ [.int .u64 ((z.n : Nat) : Int)]) (by rfl) (by rfl) (by rfl) (by rfl) (by rfl) (M.t 0 rfl) (by simp [flen]) info29 (by simp [fone, Value.oneCell']) (fun w32 P R T => ?_)
    replace M := M.put (segs' := [(0, [.int .u32 ((z.h.a : Nat) : Int), .int .u32 ((z.h.b : Nat) : Int), .int .u32 ((z.h.c : Nat) : Int), .int .u32 ((z.h.d : Nat) : Int), .int .u32 ((z.h.e : Nat) : Int), .int .u32 ((z.h.f : Nat) : Int), .int .u32 ((z.h.g : Nat) : Int), .int .u32 ((z.h.h : Nat) : Int)]), (8, [.string (bs z.b)]), (9, [.int .u64 ((z.n : Nat) : Int)])]) 0 rfl P T (SegsOf.at R ⟨rfl, rfl, rfl, trivial⟩)
    simp only [List.set] at M
    refine wpL_assign (v := .int .i64 0) (by rfl) (by rfl) (by rfl) ?_
    simp only [putT, List.set]
    refine wpL_nil (no_panic ?_)
    refine hK27 _ _ ?_
    refine wp_seq_k (fun K33 hK33 => ?_)
    refine wp_region_seq ?_
    refine wpL_chunk 46 (by rfl) (fun Lk hLk => ?_)
    simp only [List.take, List.drop]
    refine wpV_callf (v := .bool true) (args := #[]) (by rfl) rfl Tryd.func19 (by kernel_rfl) (by kernel_rfl) rfl (fun W hW => alive02_c ((M.sees hW).oldL L0) ((M.sees hW).oldR R0_0 L0)) ?_
    simp only [putT, List.set]
    refine wpV_move (v := .bool true) (by rfl) rfl rfl ?_
    simp only [putT, List.set]
    refine wpV_move (v := .int .i64 0) (by rfl) rfl rfl ?_
    simp only [putT, List.set]
    refine wpV_bin (v := .bool true) (by rfl) rfl rfl rfl (fun W => run_eql _ _ _ _ W) ?_
    simp only [putT, List.set]
    refine wpV_pick (v := .bool true) (by rfl) rfl rfl rfl ?_
    simp only [putT, List.set]
    refine wpV_move (v := .bool true) (by rfl) rfl rfl ?_
    simp only [putT, List.set]
    refine wpV_move (v := .int .i64 0) (by rfl) rfl rfl ?_
    simp only [putT, List.set]
    refine wpV_bin (v := .bool true) (by rfl) rfl rfl rfl (fun W => run_eql _ _ _ _ W) ?_
    simp only [putT, List.set]
    refine wpV_pick (v := .bool true) (by rfl) rfl rfl rfl ?_
    simp only [putT, List.set]
    refine wpV_move (v := .bool true) (by rfl) rfl rfl ?_
    simp only [putT, List.set]
    refine wpV_val (v := .pointer (some ⟨g24, 8, none⟩)) (by rfl) (by rfl) (fun W hW => ?_) ?_
    · (go_simp; exact rfl)
    simp only [putT, List.set]
    refine wpV_load1 (v := .string (bs y.b)) (by rfl) rfl rfl (range_one (M.r 1 1 rfl rfl)) (M.lt 1 rfl) Tryd.underlying9 rfl ?_
    simp only [putT, List.set]
    refine wpV_binS (v := .bool true) (by rfl) rfl rfl rfl (fun W => (run_eql_bs _ _ _ W).trans (by rw [(decide_eq_true hy2)])) ?_
    simp only [putT, List.set]
    refine wpV_pick (v := .bool true) (by rfl) rfl rfl rfl ?_
    simp only [putT, List.set]
    refine wpV_move (v := .bool true) (by rfl) rfl rfl ?_
    simp only [putT, List.set]
    refine wpV_val (v := .pointer (some ⟨g24, 9, none⟩)) (by rfl) (by rfl) (fun W hW => ?_) ?_
    · (go_simp; exact rfl)
    simp only [putT, List.set]
    refine wpV_load1 (v := .int .u64 ((y.n : Nat) : Int)) (by rfl) rfl rfl (range_one (M.r 1 2 rfl rfl)) (M.lt 1 rfl) Tryd.underlying27 rfl ?_
    simp only [putT, List.set]
    refine wpV_move (v := .slice (some ⟨g9, 0, none⟩) (64 * p) (64 * p)) (by rfl) rfl rfl ?_
    simp only [putT, List.set]
    refine wpV_lenA (n := 64 * p) (by rfl) rfl rfl rfl Tryd.underlying35 ?_
    simp only [putT, List.set]
    refine wpV_conv (d := .bool) (e := ((64 * p : Nat) : Int)) (by rfl) rfl rfl (run_conv_int Tryd.underlying3 Tryd.underlying27 ((wrap64N _).trans (congrArg _ (Nat.mod_eq_of_lt (by omega))))) ?_
    simp only [putT, List.set]
    refine wpV_bin (v := .bool true) (by rfl) rfl rfl rfl (fun W => (run_eqlN y.n (64 * p) _ _ W).trans (by rw [(decide_eq_true hy3)])) ?_
    simp only [putT, List.set]
    refine wpV_pick (v := .bool true) (by rfl) rfl rfl rfl ?_
    simp only [putT, List.set]
    refine wpV_move (v := .bool true) (by rfl) rfl rfl ?_
    simp only [putT, List.set]
    refine wpV_val (v := .pointer (some ⟨g30, 0, none⟩)) (by rfl) (by rfl) (fun W hW => ?_) ?_
    · (go_simp; exact rfl)
    simp only [putT, List.set]
    refine wpV_load (cs := [.int .u32 ((z.h.a : Nat) : Int), .int .u32 ((z.h.b : Nat) : Int), .int .u32 ((z.h.c : Nat) : Int), .int .u32 ((z.h.d : Nat) : Int), .int .u32 ((z.h.e : Nat) : Int), .int .u32 ((z.h.f : Nat) : Int), .int .u32 ((z.h.g : Nat) : Int), .int .u32 ((z.h.h : Nat) : Int)]) (by rfl) rfl rfl (M.r 0 0 rfl rfl) (M.lt 0 rfl) Tryd.underlying26 rfl info26 ?_
    simp only [putT, List.set]
    refine wpV_val (v := .pointer (some ⟨g24, 0, none⟩)) (by rfl) (by rfl) (fun W hW => ?_) ?_
    · (go_simp; exact rfl)
    simp only [putT, List.set]
    refine wpV_load (cs := [.int .u32 ((y.h.a : Nat) : Int), .int .u32 ((y.h.b : Nat) : Int), .int .u32 ((y.h.c : Nat) : Int), .int .u32 ((y.h.d : Nat) : Int), .int .u32 ((y.h.e : Nat) : Int), .int .u32 ((y.h.f : Nat) : Int), .int .u32 ((y.h.g : Nat) : Int), .int .u32 ((y.h.h : Nat) : Int)]) (by rfl) rfl rfl (M.r 1 0 rfl rfl) (M.lt 1 rfl) Tryd.underlying26 rfl info26 ?_
    simp only [putT, List.set]
    refine wpV_eqlT (k := 2) (u := [Value.int .u32 ((z.h.a : Nat) : Int), Value.int .u32 ((z.h.b : Nat) : Int), Value.int .u32 ((z.h.c : Nat) : Int), Value.int .u32 ((z.h.d : Nat) : Int), Value.int .u32 ((z.h.e : Nat) : Int), Value.int .u32 ((z.h.f : Nat) : Int), Value.int .u32 ((z.h.g : Nat) : Int), Value.int .u32 ((z.h.h : Nat) : Int)]) (v := [Value.int .u32 ((y.h.a : Nat) : Int), Value.int .u32 ((y.h.b : Nat) : Int), Value.int .u32 ((y.h.c : Nat) : Int), Value.int .u32 ((y.h.d : Nat) : Int), Value.int .u32 ((y.h.e : Nat) : Int), Value.int .u32 ((y.h.f : Nat) : Int), Value.int .u32 ((y.h.g : Nat) : Int), Value.int .u32 ((y.h.h : Nat) : Int)]) (b := true) (by rfl) rfl rfl rfl (by kernel_rfl) (((eq_arr Tryd.underlying26 Tryd.underlying25 info25 [((z.h.a : Nat) : Int), ((z.h.b : Nat) : Int), ((z.h.c : Nat) : Int), ((z.h.d : Nat) : Int), ((z.h.e : Nat) : Int), ((z.h.f : Nat) : Int), ((z.h.g : Nat) : Int), ((z.h.h : Nat) : Int)] [((y.h.a : Nat) : Int), ((y.h.b : Nat) : Int), ((y.h.c : Nat) : Int), ((y.h.d : Nat) : Int), ((y.h.e : Nat) : Int), ((y.h.f : Nat) : Int), ((y.h.g : Nat) : Int), ((y.h.h : Nat) : Int)] rfl rfl).bool (s8_dec _ _)).bool (decide_eq_true hz1)) (by decide) ?_
    simp only [putT, List.set]
    refine wpV_pick (v := .bool true) (by rfl) rfl rfl rfl ?_
    simp only [putT, List.set]
    refine wpV_move (v := .bool true) (by rfl) rfl rfl ?_
    simp only [putT, List.set]
    refine wpV_val (v := .pointer (some ⟨g30, 8, none⟩)) (by rfl) (by rfl) (fun W hW => ?_) ?_
    · (go_simp; exact rfl)
    simp only [putT, List.set]
    refine wpV_load1 (v := .string (bs z.b)) (by rfl) rfl rfl (range_one (M.r 0 1 rfl rfl)) (M.lt 0 rfl) Tryd.underlying9 rfl ?_
    simp only [putT, List.set]
    refine wpV_move (v := .string (bs m)) (by rfl) rfl rfl ?_
    simp only [putT, List.set]
    refine wpV_binS (v := .bool true) (by rfl) rfl rfl rfl (fun W => (run_eql_bs _ _ _ W).trans (by rw [(decide_eq_true hz2)])) ?_
    simp only [putT, List.set]
    refine wpV_pick (v := .bool true) (by rfl) rfl rfl rfl ?_
    simp only [putT, List.set]
    refine wpV_move (v := .bool true) (by rfl) rfl rfl ?_
    simp only [putT, List.set]
    refine wpV_val (v := .pointer (some ⟨g30, 9, none⟩)) (by rfl) (by rfl) (fun W hW => ?_) ?_
    · (go_simp; exact rfl)
    simp only [putT, List.set]
    refine wpV_load1 (v := .int .u64 ((z.n : Nat) : Int)) (by rfl) rfl rfl (range_one (M.r 0 2 rfl rfl)) (M.lt 0 rfl) Tryd.underlying27 rfl ?_
    simp only [putT, List.set]
    refine wpV_val (v := .pointer (some ⟨g24, 9, none⟩)) (by rfl) (by rfl) (fun W hW => ?_) ?_
    · (go_simp; exact rfl)
    simp only [putT, List.set]
    refine wpV_load1 (v := .int .u64 ((y.n : Nat) : Int)) (by rfl) rfl rfl (range_one (M.r 1 2 rfl rfl)) (M.lt 1 rfl) Tryd.underlying27 rfl ?_
    simp only [putT, List.set]
    refine wpV_move (v := .string (bs m)) (by rfl) rfl rfl ?_
    simp only [putT, List.set]
    refine wpV_lenS (by rfl) rfl rfl rfl Tryd.underlying9 ?_
    simp only [putT, List.set]
    refine wpV_conv (d := .bool) (e := ((m.length : Nat) : Int)) (by rfl) rfl rfl (run_conv_int Tryd.underlying3 Tryd.underlying27 ((wrap64N _).trans (congrArg _ (Nat.mod_eq_of_lt (by omega))))) ?_
    simp only [putT, List.set]
    refine wpV_bin (v := .int .u64 (((y.n + m.length) % 18446744073709551616 : Nat) : Int)) (by rfl) rfl rfl rfl (fun W => nr_add64 _ y.n m.length W) ?_
    simp only [putT, List.set]
    refine wpV_bin (v := .bool true) (by rfl) rfl rfl rfl (fun W => (run_eqlN z.n ((y.n + m.length) % 18446744073709551616) _ _ W).trans (by rw [(decide_eq_true (by rw [hz3, hy3]; omega))])) ?_
    simp only [putT, List.set]
    refine wpV_pick (v := .bool true) (by rfl) rfl rfl rfl ?_
    simp only [putT, List.set]
    refine wpV_nil (hLk _ (fun w35 Sw35 => ?_))
    clear hLk Lk
    simp only [List.take, List.drop]
    replace M := M.sees Sw35
    refine wpL_assign (v := .bool true) (by rfl) (by rfl) (by rfl) ?_
    simp only [putT, List.set]
    refine wpL_nil (no_panic ?_)
    refine hK33 _ _ ?_
    refine wp_ret ?_
    repeat (first | with_reducible refine then_ret ?_ | with_reducible refine inblock_ret ?_)
    refine bodyPost_ret (v := .bool true) (res1 rfl (.tmp (by rfl))) rfl ?_
    have BE := M.below
    exact ⟨rfl, BE⟩
  · skip
    have hi : i < 64 * p := of_decide_eq_true hc21
    refine wp_cond_true rfl ?_
    refine wp_skip ?_
    refine hK20 _ _ ?_
    refine wp_seq_k (fun K36 hK36 => ?_)
    refine wp_block ?_
    refine wp_seq_k (fun K37 hK37 => ?_)
    refine wp_region_seq ?_
    refine wpL_move (v := .int .i64 ((i : Nat) : Int)) (by rfl) (by rfl) (by rfl) ?_
    simp only [putT, List.set]
    refine wpL_assign (v := .int .i64 ((i : Nat) : Int)) (by rfl) (by rfl) (by rfl) ?_
    simp only [putT, List.set]
    refine wpL_nil (no_panic ?_)
    refine hK37 _ _ ?_
    refine wp_region_seq ?_
    refine wpL_move (v := .slice (some ⟨g9, 0, none⟩) (64 * p) (64 * p)) (by rfl) (by rfl) (by rfl) ?_
    simp only [putT, List.set]
    refine wpL_move (v := .int .i64 ((i : Nat) : Int)) (by rfl) (by rfl) (by rfl) ?_
    simp only [putT, List.set]
    refine wpL_move (v := .int .u8 ((f : Nat) : Int)) (by rfl) (by rfl) (by rfl) ?_
    simp only [putT, List.set]
    refine wpL_move (v := .int .i64 ((i : Nat) : Int)) (by rfl) (by rfl) (by rfl) ?_
    simp only [putT, List.set]
    refine wpL_chunk 3 (by rfl) (fun Lk hLk => ?_)
    simp only [List.take, List.drop]
    refine wpV_conv (d := .bool) (e := ((i % 256 : Nat) : Int)) (by rfl) rfl rfl (run_conv_int Tryd.underlying3 Tryd.underlying5 (wrap_u8N _)) ?_
    simp only [putT, List.set]
    refine wpV_bin (v := .int .u8 (((f + i) % 256 : Nat) : Int)) (by rfl) rfl rfl rfl (fun W => run_add (by rw [show ((f : Nat) : Int) + ((i % 256 : Nat) : Int) = ((f + i % 256 : Nat) : Int) by omega, wrap_u8N]; congr 1; omega) W) ?_
    simp only [putT, List.set]
    refine wpV_idxs (n := i) (by rfl) rfl rfl rfl Tryd.underlying35 info5 (by omega) ?_
    simp only [Nat.zero_add]
    simp only [putT, List.set]
    refine wpV_nil (hLk _ (fun w40 Sw40 => ?_))
    clear hLk Lk
    simp only [List.take, List.drop]
    replace M := M.sees Sw40
    refine wpL_store1 (g := g9) (off := i) (n := 64 * p) (v := .int .u8 (((f + i) % 256 : Nat) : Int)) (by rfl) (by rfl) (by rfl) (by rfl) (by rfl) (M.t 0 rfl) (by omega) info5 rfl (fun w41 P R T => ?_)
    replace M := M.put1 (j := i) 0 rfl P R T (Nat.zero_add _).symm
    simp only [List.set] at M
    rw [row_put f (64 * p) hi] at M
    refine wpL_nil (no_panic ?_)
    refine hK36 _ _ ?_
    refine wp_region_seq ?_
    refine wpL_chunk 1 (by rfl) (fun Lk hLk => ?_)
    simp only [List.take, List.drop]
    refine wpV_bin (v := .int .i64 ((i + 1 : Nat) : Int)) (by rfl) rfl rfl rfl (fun W => run_add (by simp only [IntKind.wrap_i64]; omega) W) ?_
    simp only [putT, List.set]
    refine wpV_nil (hLk _ (fun w43 Sw43 => ?_))
    clear hLk Lk
    simp only [List.take, List.drop]
    replace M := M.sees Sw43
    refine wpL_move (v := .int .i64 ((i + 1 : Nat) : Int)) (by rfl) (by rfl) (by rfl) ?_
    simp only [putT, List.set]
    refine wpL_nil (no_panic ?_)
    refine Exists.intro _ ⟨?_, (i + 1), (fun q9 => (#[undef, undef, undef, undef, undef, undef, undef, undef, .int .i64 ((i : Nat) : Int), undef, undef, undef, undef, undef, undef, undef, undef, undef, undef, undef, undef, undef, undef, undef, undef, undef, undef, .bool true, .int .i64 ((i : Nat) : Int), .slice (some ⟨g9, 0, none⟩) (64 * p) (64 * p), .int .i64 ((i : Nat) : Int), .int .u8 ((f : Nat) : Int), .int .i64 ((i : Nat) : Int), .int .u8 ((i % 256 : Nat) : Int), .int .u8 (((f + i) % 256 : Nat) : Int), .pointer (some ⟨g9, i, none⟩), .int .i64 ((i + 1 : Nat) : Int)] : Array Value).getD q9 undef), rfl, rfl, M, (by omega)⟩
    omega
end Go.Proofs.Yb
