import Derived.WalkKit
import Derived.WalkSpells
import Derived.Laws.Pointers
import Derived.RowKit3
import Derived.Below
import Derived.Outline
import Derived.LoopN
import Derived.Lib.Hide
import Derived.Handy
import Derived.Laws.Bits64b
import Derived.Test.YticcchgckljlnaaDoorSh4
import Derived.Test.YticcchgckljlnaaDoorRootW
set_option linter.unusedSimpArgs false
set_option linter.unusedVariables false
namespace Go.Proofs.Yb
open Go Go.RowKit Go.Proofs.Num
attribute [local irreducible] wpV wpN wpList
set_option maxHeartbeats 2000000 in
theorem times_c {ax : Option Addr} {nx cx : Nat} {ay : Option Addr} {ny cy : Nat} {a b : List Nat} {w : World} (ha : a.length ≤ 64) (hb : b.length ≤ 64) (Hx : RowA w ax nx cx (qcells a)) (Hy : RowA w ay ny cy (qcells b)) :
  Calls Tryd.prog 91 #[.slice ax nx cx, .slice ay ny cy] w fun e w' => ∃ v, e = .returned v ∧ MemRow w (a.length + b.length) (qcells (timesL a b)) v w' ∧ Below w.heap.size w w' := by
 obtain rfl : nx = a.length := by have := Hx.len; rwa [qcells_len] at this
 obtain rfl : ny = b.length := by have := Hy.len; rwa [qcells_len] at this
 go_enter Tryd.func91, Tryd.ntmps91
 have M := Mem.start w
 refine wp_seq_k (fun K1 hK1 => ?_)
 refine wp_region_seq ?_
 refine wpL_assign (v := (.slice none 0 0)) (by rfl) (by rfl) (by rfl) ?_
 simp only [putT, List.set]
 refine wpL_nil (no_panic ?_)
 refine hK1 _ _ ?_
 refine wp_seq_k (fun K3 hK3 => ?_)
 refine wp_region_seq ?_
 refine wpL_move (v := .slice ax a.length cx) (by rfl) (by rfl) (by rfl) ?_
 simp only [putT, List.set]
 refine wpL_chunk 4 (by rfl) (fun Lk hLk => ?_)
 simp only [List.take, List.drop]
 refine wpV_lenA (n := a.length) (by rfl) rfl rfl rfl Tryd.underlying93 ?_
 simp only [putT, List.set]
 refine wpV_move (v := .slice ay b.length cy) (by rfl) rfl rfl ?_
 simp only [putT, List.set]
 refine wpV_lenA (n := b.length) (by rfl) rfl rfl rfl Tryd.underlying93 ?_
 simp only [putT, List.set]
 refine wpV_bin (v := .int .i64 ((a.length + b.length : Nat) : Int)) (by rfl) rfl rfl rfl (fun W => run_add (by simp only [IntKind.wrap_i64]; omega) W) ?_
 simp only [putT, List.set]
 refine wpV_nil (hLk _ (fun w5 Sw5 => ?_))
 clear hLk Lk
 simp only [List.take, List.drop]
 replace M := M.sees Sw5
 refine wpL_make (n := a.length + b.length) (z := .int .u64 0) (bytes := 8) (by rfl) (by rfl) (by rfl) (by rfl) Tryd.underlying93 (by kernel_rfl) rfl (by omega) (by omega) (fun g6 w7 Sw7 Hg6 Bg6 => ?_)
 replace M := ((M.sees Sw7).add (N := a.length + b.length) (cs := List.replicate (a.length + b.length) (.int .u64 0)) (M.ge Hg6) (M.fresh Hg6) Bg6 (by simp [flen]))
 clear Bg6
 rw [show List.replicate (a.length + b.length) (.int .u64 0) = qcells (tAll a b 0) from qcells_zeros _] at M
 simp only [putT, List.set]
 refine wpL_assign (v := .slice (some ⟨g6, 0, none⟩) (a.length + b.length) (a.length + b.length)) (by rfl) (by rfl) (by rfl) ?_
 simp only [putT, List.set]
 refine wpL_nil (no_panic ?_)
 refine hK3 _ _ ?_
 refine wp_seq_k (fun K8 hK8 => ?_)
 refine wp_seq_k (fun K9 hK9 => ?_)
 refine wp_region_seq ?_
 refine wpL_move (v := .slice ax a.length cx) (by rfl) (by rfl) (by rfl) ?_
 simp only [putT, List.set]
 refine wpL_chunk 1 (by rfl) (fun Lk hLk => ?_)
 simp only [List.take, List.drop]
 refine wpV_lenA (n := a.length) (by rfl) rfl rfl rfl Tryd.underlying93 ?_
 simp only [putT, List.set]
 refine wpV_nil (hLk _ (fun w11 Sw11 => ?_))
 clear hLk Lk
 simp only [List.take, List.drop]
 replace M := M.sees Sw11
 refine wpL_move (v := .int .i64 0) (by rfl) (by rfl) (by rfl) ?_
 simp only [putT, List.set]
 refine wpL_nil (no_panic ?_)
 refine hK9 _ _ ?_
 refine wp_block ?_
 refine wp_loop_ghost (fun n9 a9 W9 => ∃ (i : Nat) (u12 : Nat → Value), n9 = 2 * (a.length - i) ∧ a9 = { tmps := #[.slice ax a.length cx, .slice ay b.length cy, undef, undef, (.slice none 0 0), .slice (some ⟨g6, 0, none⟩) (a.length + b.length) (a.length + b.length), u12 6, u12 7, u12 8, .slice ax a.length cx, .int .i64 ((a.length : Nat) : Int), .slice ay b.length cy, .int .i64 ((b.length : Nat) : Int), .int .i64 ((a.length + b.length : Nat) : Int), .slice (some ⟨g6, 0, none⟩) (a.length + b.length) (a.length + b.length), .slice ax a.length cx, .int .i64 ((a.length : Nat) : Int), .int .i64 ((i : Nat) : Int), u12 18, u12 19, u12 20, u12 21, u12 22, u12 23, u12 24, u12 25, u12 26, u12 27, u12 28, u12 29, u12 30, u12 31, u12 32, u12 33, u12 34, u12 35, u12 36, u12 37, u12 38, u12 39, u12 40, u12 41, u12 42, u12 43, u12 44, u12 45, u12 46, u12 47, u12 48, u12 49, u12 50, u12 51, u12 52, u12 53, u12 54, u12 55, u12 56, u12 57, u12 58, u12 59, u12 60, undef], defers := [] } ∧ Mem [] w W9 [⟨g6, a.length + b.length, [(0, qcells (tAll a b i))]⟩] ∧ (i ≤ a.length)) (2 * (a.length - (0))) ?_ (fun n9 a9 W9 hI => ?_)
 ·
  exact ⟨0, (fun q9 => (#[undef, undef, undef, undef, undef, undef, undef, undef, undef, undef, undef, undef, undef, undef, undef, undef, undef, undef, undef, undef, undef, undef, undef, undef, undef, undef, undef, undef, undef, undef, undef, undef, undef, undef, undef, undef, undef, undef, undef, undef, undef, undef, undef, undef, undef, undef, undef, undef, undef, undef, undef, undef, undef, undef, undef, undef, undef, undef, undef, undef, undef] : Array Value).getD q9 undef), rfl, rfl, M, (Nat.zero_le _)⟩
 clear M
 obtain ⟨i, u12, rfl, rfl, M, hi4⟩ := hI
 obtain ⟨w13, rfl⟩ : ∃ W8, W8 = W9 := ⟨_, rfl⟩
 refine wp_seq_k (fun K14 hK14 => ?_)
 refine wp_region_seq ?_
 refine wpL_chunk 1 (by rfl) (fun Lk hLk => ?_)
 simp only [List.take, List.drop]
 refine wpV_bin (v := .bool (decide (i < a.length))) (by rfl) rfl rfl rfl (fun W => run_lssN i a.length _ _ W) ?_
 simp only [putT, List.set]
 refine wpV_nil (hLk _ (fun w16 Sw16 => ?_))
 clear hLk Lk
 simp only [List.take, List.drop]
 replace M := M.sees Sw16
 refine wpL_nil (no_panic ?_)
 refine hK14 _ _ ?_
 refine wp_seq_k (fun K17 hK17 => ?_)
 cases hc18 : (decide (i < a.length))
 ·
  have ei : i = a.length := by have := of_decide_eq_false hc18; omega
  subst ei
  refine wp_cond_false rfl ?_
  refine wp_exit ?_
  refine hK8 _ _ ?_
  refine wp_seq_k (fun K19 hK19 => ?_)
  refine wp_region_seq ?_
  refine wpL_move (v := .slice (some ⟨g6, 0, none⟩) (a.length + b.length) (a.length + b.length)) (by rfl) (by rfl) (by rfl) ?_
  simp only [putT, List.set]
  refine wpL_assign (v := .slice (some ⟨g6, 0, none⟩) (a.length + b.length) (a.length + b.length)) (by rfl) (by rfl) (by rfl) ?_
  simp only [putT, List.set]
  refine wpL_nil (no_panic ?_)
  refine hK19 _ _ ?_
  refine wp_ret ?_
  repeat (first | with_reducible refine then_ret ?_ | with_reducible refine inblock_ret ?_)
  refine bodyPost_ret (v := .slice (some ⟨g6, 0, none⟩) (a.length + b.length) (a.length + b.length)) (res1 rfl (.tmp (by rfl))) rfl ?_
  have BE := M.below
  exact ⟨_, rfl, ⟨g6, a.length + b.length, rfl, (Nat.le_refl _), M.pick [0] (by decide) rfl⟩, BE⟩
 ·
  have hi : i < a.length := of_decide_eq_true hc18
  refine wp_cond_true rfl ?_
  refine wp_skip ?_
  refine hK17 _ _ ?_
  refine wp_seq_k (fun K21 hK21 => ?_)
  refine wp_block ?_
  refine wp_seq_k (fun K22 hK22 => ?_)
  refine wp_region_seq ?_
  refine wpL_move (v := .int .i64 ((i : Nat) : Int)) (by rfl) (by rfl) (by rfl) ?_
  simp only [putT, List.set]
  refine wpL_assign (v := .int .i64 ((i : Nat) : Int)) (by rfl) (by rfl) (by rfl) ?_
  simp only [putT, List.set]
  refine wpL_nil (no_panic ?_)
  refine hK22 _ _ ?_
  refine wp_seq_k (fun K24 hK24 => ?_)
  refine wp_region_seq ?_
  refine wpL_assign (v := .int .u64 0) (by rfl) (by rfl) (by rfl) ?_
  simp only [putT, List.set]
  refine wpL_nil (no_panic ?_)
  refine hK24 _ _ ?_
  refine wp_seq_k (fun K26 hK26 => ?_)
  refine wp_seq_k (fun K27 hK27 => ?_)
  refine wp_region_seq ?_
  refine wpL_move (v := .slice ay b.length cy) (by rfl) (by rfl) (by rfl) ?_
  simp only [putT, List.set]
  refine wpL_chunk 1 (by rfl) (fun Lk hLk => ?_)
  simp only [List.take, List.drop]
  refine wpV_lenA (n := b.length) (by rfl) rfl rfl rfl Tryd.underlying93 ?_
  simp only [putT, List.set]
  refine wpV_nil (hLk _ (fun w29 Sw29 => ?_))
  clear hLk Lk
  simp only [List.take, List.drop]
  replace M := M.sees Sw29
  refine wpL_move (v := .int .i64 0) (by rfl) (by rfl) (by rfl) ?_
  simp only [putT, List.set]
  refine wpL_nil (no_panic ?_)
  refine hK27 _ _ ?_
  refine wp_block ?_
  refine wp_loop_ghost (fun n9 a9 W9 => ∃ (k : Nat) (u30 : Nat → Value), n9 = 2 * (b.length - k) ∧ a9 = { tmps := #[.slice ax a.length cx, .slice ay b.length cy, undef, undef, (.slice none 0 0), .slice (some ⟨g6, 0, none⟩) (a.length + b.length) (a.length + b.length), .int .i64 ((i : Nat) : Int), .int .u64 (((tIn a b i (tAll a b i) k).2 : Nat) : Int), u30 8, .slice ax a.length cx, .int .i64 ((a.length : Nat) : Int), .slice ay b.length cy, .int .i64 ((b.length : Nat) : Int), .int .i64 ((a.length + b.length : Nat) : Int), .slice (some ⟨g6, 0, none⟩) (a.length + b.length) (a.length + b.length), .slice ax a.length cx, .int .i64 ((a.length : Nat) : Int), .int .i64 ((i : Nat) : Int), .bool true, .int .i64 ((i : Nat) : Int), .slice ay b.length cy, .int .i64 ((b.length : Nat) : Int), .int .i64 ((k : Nat) : Int), u30 23, u30 24, u30 25, u30 26, u30 27, u30 28, u30 29, u30 30, u30 31, u30 32, u30 33, u30 34, u30 35, u30 36, u30 37, u30 38, u30 39, u30 40, u30 41, u30 42, u30 43, u30 44, u30 45, u30 46, u30 47, u30 48, u30 49, u30 50, u30 51, u30 52, u12 53, u12 54, u12 55, u12 56, u12 57, u12 58, u12 59, u12 60, undef], defers := [] } ∧ Mem [] w W9 [⟨g6, a.length + b.length, [(0, qcells (tIn a b i (tAll a b i) k).1)]⟩] ∧ (k ≤ b.length)) (2 * (b.length - (0))) ?_ (fun n9 a9 W9 hI => ?_)
  ·
   exact ⟨0, (fun q9 => (#[undef, undef, undef, undef, undef, undef, undef, undef, u12 8, undef, undef, undef, undef, undef, undef, undef, undef, undef, undef, undef, undef, undef, undef, u12 23, u12 24, u12 25, u12 26, u12 27, u12 28, u12 29, u12 30, u12 31, u12 32, u12 33, u12 34, u12 35, u12 36, u12 37, u12 38, u12 39, u12 40, u12 41, u12 42, u12 43, u12 44, u12 45, u12 46, u12 47, u12 48, u12 49, u12 50, u12 51, u12 52] : Array Value).getD q9 undef), rfl, rfl, M, (Nat.zero_le _)⟩
  clear M
  obtain ⟨k, u30, rfl, rfl, M, hk4⟩ := hI
  obtain ⟨w31, rfl⟩ : ∃ W8, W8 = W9 := ⟨_, rfl⟩
  refine wp_seq_k (fun K32 hK32 => ?_)
  refine wp_region_seq ?_
  refine wpL_chunk 1 (by rfl) (fun Lk hLk => ?_)
  simp only [List.take, List.drop]
  refine wpV_bin (v := .bool (decide (k < b.length))) (by rfl) rfl rfl rfl (fun W => run_lssN k b.length _ _ W) ?_
  simp only [putT, List.set]
  refine wpV_nil (hLk _ (fun w34 Sw34 => ?_))
  clear hLk Lk
  simp only [List.take, List.drop]
  replace M := M.sees Sw34
  refine wpL_nil (no_panic ?_)
  refine hK32 _ _ ?_
  refine wp_seq_k (fun K35 hK35 => ?_)
  cases hc36 : (decide (k < b.length))
  ·
   have ek : k = b.length := by have := of_decide_eq_false hc36; omega
   subst ek
   refine wp_cond_false rfl ?_
   refine wp_exit ?_
   refine hK26 _ _ ?_
   refine wp_region_seq ?_
   refine wpL_move (v := .slice (some ⟨g6, 0, none⟩) (a.length + b.length) (a.length + b.length)) (by rfl) (by rfl) (by rfl) ?_
   simp only [putT, List.set]
   refine wpL_move (v := .int .i64 ((i : Nat) : Int)) (by rfl) (by rfl) (by rfl) ?_
   simp only [putT, List.set]
   refine wpL_move (v := .slice ay b.length cy) (by rfl) (by rfl) (by rfl) ?_
   simp only [putT, List.set]
   refine wpL_chunk 4 (by rfl) (fun Lk hLk => ?_)
   simp only [List.take, List.drop]
   refine wpV_lenA (n := b.length) (by rfl) rfl rfl rfl Tryd.underlying93 ?_
   simp only [putT, List.set]
   refine wpV_bin (v := .int .i64 ((i + b.length : Nat) : Int)) (by rfl) rfl rfl rfl (fun W => run_add (by simp only [IntKind.wrap_i64]; omega) W) ?_
   simp only [putT, List.set]
   refine wpV_move (v := .int .u64 (((tIn a b i (tAll a b i) b.length).2 : Nat) : Int)) (by rfl) rfl rfl ?_
   simp only [putT, List.set]
   refine wpV_idxs (n := i + b.length) (by rfl) rfl rfl rfl Tryd.underlying93 info27 (by omega) ?_
   simp only [Nat.zero_add]
   simp only [putT, List.set]
   refine wpV_nil (hLk _ (fun w38 Sw38 => ?_))
   clear hLk Lk
   simp only [List.take, List.drop]
   replace M := M.sees Sw38
   refine wpL_store1 (g := g6) (off := i + b.length) (n := a.length + b.length) (v := .int .u64 (((tIn a b i (tAll a b i) b.length).2 : Nat) : Int)) (by rfl) (by rfl) (by rfl) (by rfl) (by rfl) (M.t 0 rfl) (by omega) info27 rfl (fun w39 P R T => ?_)
   replace M := M.put1 (j := i + b.length) 0 rfl P R T (Nat.zero_add _).symm
   simp only [List.set] at M
   rw [qcells_set] at M
   refine wpL_nil (no_panic ?_)
   refine hK21 _ _ ?_
   refine wp_region_seq ?_
   refine wpL_chunk 1 (by rfl) (fun Lk hLk => ?_)
   simp only [List.take, List.drop]
   refine wpV_bin (v := .int .i64 ((i + 1 : Nat) : Int)) (by rfl) rfl rfl rfl (fun W => run_add (by simp only [IntKind.wrap_i64]; omega) W) ?_
   simp only [putT, List.set]
   refine wpV_nil (hLk _ (fun w41 Sw41 => ?_))
   clear hLk Lk
   simp only [List.take, List.drop]
   replace M := M.sees Sw41
   refine wpL_move (v := .int .i64 ((i + 1 : Nat) : Int)) (by rfl) (by rfl) (by rfl) ?_
   simp only [putT, List.set]
   refine wpL_nil (no_panic ?_)
   refine Exists.intro _ ⟨?_, (i + 1), (fun q9 => (#[undef, undef, undef, undef, undef, undef, .int .i64 ((i : Nat) : Int), .int .u64 (((tIn a b i (tAll a b i) b.length).2 : Nat) : Int), u30 8, undef, undef, undef, undef, undef, undef, undef, undef, undef, .bool true, .int .i64 ((i : Nat) : Int), .slice ay b.length cy, .int .i64 ((b.length : Nat) : Int), .int .i64 ((b.length : Nat) : Int), .bool false, u30 24, u30 25, u30 26, u30 27, u30 28, u30 29, u30 30, u30 31, u30 32, u30 33, u30 34, u30 35, u30 36, u30 37, u30 38, u30 39, u30 40, u30 41, u30 42, u30 43, u30 44, u30 45, u30 46, u30 47, u30 48, u30 49, u30 50, u30 51, u30 52, .slice (some ⟨g6, 0, none⟩) (a.length + b.length) (a.length + b.length), .int .i64 ((i : Nat) : Int), .slice ay b.length cy, .int .i64 ((b.length : Nat) : Int), .int .i64 ((i + b.length : Nat) : Int), .int .u64 (((tIn a b i (tAll a b i) b.length).2 : Nat) : Int), .pointer (some ⟨g6, i + b.length, none⟩), .int .i64 ((i + 1 : Nat) : Int)] : Array Value).getD q9 undef), rfl, rfl, M, (by omega)⟩
   omega
  ·
   have hk : k < b.length := of_decide_eq_true hc36
   refine wp_cond_true rfl ?_
   refine wp_skip ?_
   refine hK35 _ _ ?_
   refine wp_seq_k (fun K42 hK42 => ?_)
   refine wp_block ?_
   refine wp_seq_k (fun K43 hK43 => ?_)
   refine wp_region_seq ?_
   refine wpL_move (v := .int .i64 ((k : Nat) : Int)) (by rfl) (by rfl) (by rfl) ?_
   simp only [putT, List.set]
   refine wpL_assign (v := .int .i64 ((k : Nat) : Int)) (by rfl) (by rfl) (by rfl) ?_
   simp only [putT, List.set]
   refine wpL_nil (no_panic ?_)
   refine hK43 _ _ ?_
   refine wp_seq_k (fun K45 hK45 => ?_)
   refine wp_region_grow 18 [] (by kernel_rfl) (by kernel_rfl) (by kernel_rfl) (fun Lk hLk => ?_)
   simp only [List.take, List.drop]
   refine wpV_move (v := .int .u64 (((tIn a b i (tAll a b i) k).2 : Nat) : Int)) (by rfl) rfl rfl ?_
   simp only [putT, List.set]
   refine wpV_move (v := .slice (some ⟨g6, 0, none⟩) (a.length + b.length) (a.length + b.length)) (by rfl) rfl rfl ?_
   simp only [putT, List.set]
   refine wpV_move (v := .int .i64 ((i : Nat) : Int)) (by rfl) rfl rfl ?_
   simp only [putT, List.set]
   refine wpV_move (v := .int .i64 ((k : Nat) : Int)) (by rfl) rfl rfl ?_
   simp only [putT, List.set]
   refine wpV_bin (v := .int .i64 ((i + k : Nat) : Int)) (by rfl) rfl rfl rfl (fun W => run_add (by simp only [IntKind.wrap_i64]; omega) W) ?_
   simp only [putT, List.set]
   refine wpV_idxs (n := i + k) (by rfl) rfl rfl rfl Tryd.underlying93 info27 (by omega) ?_
   simp only [Nat.zero_add]
   simp only [putT, List.set]
   refine wpV_load1 (v := .int .u64 (((tIn a b i (tAll a b i) k).1.getD (i + k) 0 : Nat) : Int)) (by rfl) rfl rfl (zadd ((M.r 0 0 rfl rfl) _ _ (qcells_get (l := (tIn a b i (tAll a b i) k).1) (by rw [tIn_len, tAll_len]; omega)))) (M.lt 0 rfl) Tryd.underlying27 rfl ?_
   simp only [putT, List.set]
   refine wpV_bin (v := .int .u64 ((((tIn a b i (tAll a b i) k).2 + (tIn a b i (tAll a b i) k).1.getD (i + k) 0) % 18446744073709551616 : Nat) : Int)) (by rfl) rfl rfl rfl (fun W => nr_add64 _ _ _ W) ?_
   simp only [putT, List.set]
   refine wpV_move (v := .slice ax a.length cx) (by rfl) rfl rfl ?_
   simp only [putT, List.set]
   refine wpV_move (v := .int .i64 ((i : Nat) : Int)) (by rfl) rfl rfl ?_
   simp only [putT, List.set]
   refine wpV_idxA (i := i) (by rfl) rfl rfl rfl Tryd.underlying93 info27 (M.oldA Hx) (by omega) ?_
   simp only [putT, List.set]
   refine wpV_loadA (i := i) (v := .int .u64 (((a.getD i 0) : Nat) : Int)) (by rfl) rfl rfl (M.oldA Hx) (qcells_get (l := a) (by omega)) Tryd.underlying27 rfl ?_
   simp only [putT, List.set]
   refine wpV_move (v := .slice ay b.length cy) (by rfl) rfl rfl ?_
   simp only [putT, List.set]
   refine wpV_move (v := .int .i64 ((k : Nat) : Int)) (by rfl) rfl rfl ?_
   simp only [putT, List.set]
   refine wpV_idxA (i := k) (by rfl) rfl rfl rfl Tryd.underlying93 info27 (M.oldA Hy) (by omega) ?_
   simp only [putT, List.set]
   refine wpV_loadA (i := k) (v := .int .u64 (((b.getD k 0) : Nat) : Int)) (by rfl) rfl rfl (M.oldA Hy) (qcells_get (l := b) (by omega)) Tryd.underlying27 rfl ?_
   simp only [putT, List.set]
   refine wpV_bin (v := .int .u64 ((a.getD i 0 * b.getD k 0 % 18446744073709551616 : Nat) : Int)) (by rfl) rfl rfl rfl (fun W => nr_mul64 _ _ _ W) ?_
   simp only [putT, List.set]
   refine wpV_bin (v := .int .u64 ((cN a b i k (tIn a b i (tAll a b i) k) : Nat) : Int)) (by rfl) rfl rfl rfl (fun W => nr_add64 _ _ _ W) ?_
   simp only [putT, List.set]
   refine wpV_nil (hLk.out _ ?_)
   clear hLk Lk
   simp only [List.take, List.drop]
   iterate 18 refine wpN_skip (by rfl) ?_
   refine wpN_nil (fun w47 Sw47 hbs => ?_)
   clear hbs
   replace M := M.sees Sw47
   refine wpL_assign (v := .int .u64 ((cN a b i k (tIn a b i (tAll a b i) k) : Nat) : Int)) (by rfl) (by rfl) (by rfl) ?_
   simp only [putT, List.set]
   refine wpL_nil (no_panic ?_)
   refine hK45 _ _ ?_
   refine wp_seq_k (fun K48 hK48 => ?_)
   refine wp_region_seq ?_
   refine wpL_move (v := .slice (some ⟨g6, 0, none⟩) (a.length + b.length) (a.length + b.length)) (by rfl) (by rfl) (by rfl) ?_
   simp only [putT, List.set]
   refine wpL_move (v := .int .i64 ((i : Nat) : Int)) (by rfl) (by rfl) (by rfl) ?_
   simp only [putT, List.set]
   refine wpL_move (v := .int .i64 ((k : Nat) : Int)) (by rfl) (by rfl) (by rfl) ?_
   simp only [putT, List.set]
   refine wpL_chunk 4 (by rfl) (fun Lk hLk => ?_)
   simp only [List.take, List.drop]
   refine wpV_bin (v := .int .i64 ((i + k : Nat) : Int)) (by rfl) rfl rfl rfl (fun W => run_add (by simp only [IntKind.wrap_i64]; omega) W) ?_
   simp only [putT, List.set]
   refine wpV_move (v := .int .u64 ((cN a b i k (tIn a b i (tAll a b i) k) : Nat) : Int)) (by rfl) rfl rfl ?_
   simp only [putT, List.set]
   refine wpV_bin (v := .int .u64 ((cN a b i k (tIn a b i (tAll a b i) k) % 65536 : Nat) : Int)) (by rfl) rfl rfl rfl (fun W => nr_rem64 (by decide) W) ?_
   simp only [putT, List.set]
   refine wpV_idxs (n := i + k) (by rfl) rfl rfl rfl Tryd.underlying93 info27 (by omega) ?_
   simp only [Nat.zero_add]
   simp only [putT, List.set]
   refine wpV_nil (hLk _ (fun w50 Sw50 => ?_))
   clear hLk Lk
   simp only [List.take, List.drop]
   replace M := M.sees Sw50
   refine wpL_store1 (g := g6) (off := i + k) (n := a.length + b.length) (v := .int .u64 ((cN a b i k (tIn a b i (tAll a b i) k) % 65536 : Nat) : Int)) (by rfl) (by rfl) (by rfl) (by rfl) (by rfl) (M.t 0 rfl) (by omega) info27 rfl (fun w51 P R T => ?_)
   replace M := M.put1 (j := i + k) 0 rfl P R T (Nat.zero_add _).symm
   simp only [List.set] at M
   rw [qcells_set] at M
   refine wpL_nil (no_panic ?_)
   refine hK48 _ _ ?_
   refine wp_region_seq ?_
   refine wpL_move (v := .int .u64 ((cN a b i k (tIn a b i (tAll a b i) k) : Nat) : Int)) (by rfl) (by rfl) (by rfl) ?_
   simp only [putT, List.set]
   refine wpL_chunk 1 (by rfl) (fun Lk hLk => ?_)
   simp only [List.take, List.drop]
   refine wpV_bin (v := .int .u64 ((cN a b i k (tIn a b i (tAll a b i) k) / 65536 : Nat) : Int)) (by rfl) rfl rfl rfl (fun W => nr_quo64 (by decide) (Nat.mod_lt _ (by decide)) W) ?_
   simp only [putT, List.set]
   refine wpV_nil (hLk _ (fun w53 Sw53 => ?_))
   clear hLk Lk
   simp only [List.take, List.drop]
   replace M := M.sees Sw53
   refine wpL_assign (v := .int .u64 ((cN a b i k (tIn a b i (tAll a b i) k) / 65536 : Nat) : Int)) (by rfl) (by rfl) (by rfl) ?_
   simp only [putT, List.set]
   refine wpL_nil (no_panic ?_)
   refine hK42 _ _ ?_
   refine wp_region_seq ?_
   refine wpL_chunk 1 (by rfl) (fun Lk hLk => ?_)
   simp only [List.take, List.drop]
   refine wpV_bin (v := .int .i64 ((k + 1 : Nat) : Int)) (by rfl) rfl rfl rfl (fun W => run_add (by simp only [IntKind.wrap_i64]; omega) W) ?_
   simp only [putT, List.set]
   refine wpV_nil (hLk _ (fun w55 Sw55 => ?_))
   clear hLk Lk
   simp only [List.take, List.drop]
   replace M := M.sees Sw55
   refine wpL_move (v := .int .i64 ((k + 1 : Nat) : Int)) (by rfl) (by rfl) (by rfl) ?_
   simp only [putT, List.set]
   refine wpL_nil (no_panic ?_)
   refine Exists.intro _ ⟨?_, (k + 1), (fun q9 => (#[undef, undef, undef, undef, undef, undef, undef, undef, .int .i64 ((k : Nat) : Int), undef, undef, undef, undef, undef, undef, undef, undef, undef, undef, undef, undef, undef, undef, .bool true, .int .i64 ((k : Nat) : Int), .int .u64 (((tIn a b i (tAll a b i) k).2 : Nat) : Int), .slice (some ⟨g6, 0, none⟩) (a.length + b.length) (a.length + b.length), .int .i64 ((i : Nat) : Int), .int .i64 ((k : Nat) : Int), .int .i64 ((i + k : Nat) : Int), .pointer (some ⟨g6, i + k, none⟩), .int .u64 (((tIn a b i (tAll a b i) k).1.getD (i + k) 0 : Nat) : Int), .int .u64 ((((tIn a b i (tAll a b i) k).2 + (tIn a b i (tAll a b i) k).1.getD (i + k) 0) % 18446744073709551616 : Nat) : Int), .slice ax a.length cx, .int .i64 ((i : Nat) : Int), .pointer (ax.map (·.add i)), .int .u64 (((a.getD i 0) : Nat) : Int), .slice ay b.length cy, .int .i64 ((k : Nat) : Int), .pointer (ay.map (·.add k)), .int .u64 (((b.getD k 0) : Nat) : Int), .int .u64 ((a.getD i 0 * b.getD k 0 % 18446744073709551616 : Nat) : Int), .int .u64 ((cN a b i k (tIn a b i (tAll a b i) k) : Nat) : Int), .slice (some ⟨g6, 0, none⟩) (a.length + b.length) (a.length + b.length), .int .i64 ((i : Nat) : Int), .int .i64 ((k : Nat) : Int), .int .i64 ((i + k : Nat) : Int), .int .u64 ((cN a b i k (tIn a b i (tAll a b i) k) : Nat) : Int), .int .u64 ((cN a b i k (tIn a b i (tAll a b i) k) % 65536 : Nat) : Int), .pointer (some ⟨g6, i + k, none⟩), .int .u64 ((cN a b i k (tIn a b i (tAll a b i) k) : Nat) : Int), .int .u64 ((cN a b i k (tIn a b i (tAll a b i) k) / 65536 : Nat) : Int), .int .i64 ((k + 1 : Nat) : Int)] : Array Value).getD q9 undef), rfl, rfl, M, (by omega)⟩
   omega
set_option maxHeartbeats 2000000 in
theorem above_c {ax : Option Addr} {nx cx : Nat} {ay : Option Addr} {ny cy : Nat} {a b : List Nat} {w : World} (ha : a.length ≤ 64) (hb : b.length ≤ 64) (Hx : RowA w ax nx cx (qcells a)) (Hy : RowA w ay ny cy (qcells b)) :
  Calls Tryd.prog 92 #[.slice ax nx cx, .slice ay ny cy] w fun e w' => e = .returned (.bool (aboveL a b)) ∧ Below w.heap.size w w' := by
 obtain rfl : nx = a.length := by have := Hx.len; rwa [qcells_len] at this
 obtain rfl : ny = b.length := by have := Hy.len; rwa [qcells_len] at this
 go_enter Tryd.func92, Tryd.ntmps92
 have M := Mem.start w
 refine wp_seq_k (fun K1 hK1 => ?_)
 refine wp_region_seq ?_
 refine wpL_assign (v := .bool false) (by rfl) (by rfl) (by rfl) ?_
 simp only [putT, List.set]
 refine wpL_nil (no_panic ?_)
 refine hK1 _ _ ?_
 refine wp_seq_k (fun K3 hK3 => ?_)
 refine wp_seq_k (fun K4 hK4 => ?_)
 refine wp_region_seq ?_
 refine wpL_move (v := .slice ax a.length cx) (by rfl) (by rfl) (by rfl) ?_
 simp only [putT, List.set]
 refine wpL_chunk 5 (by rfl) (fun Lk hLk => ?_)
 simp only [List.take, List.drop]
 refine wpV_lenA (n := a.length) (by rfl) rfl rfl rfl Tryd.underlying93 ?_
 simp only [putT, List.set]
 refine wpV_move (v := .slice ay b.length cy) (by rfl) rfl rfl ?_
 simp only [putT, List.set]
 refine wpV_lenA (n := b.length) (by rfl) rfl rfl rfl Tryd.underlying93 ?_
 simp only [putT, List.set]
 refine wpV_bin (v := .int .i64 ((a.length + b.length : Nat) : Int)) (by rfl) rfl rfl rfl (fun W => run_add (by simp only [IntKind.wrap_i64]; omega) W) ?_
 simp only [putT, List.set]
 refine wpV_bin (v := .int .i64 (((a.length + b.length : Nat) : Int) - 1)) (by rfl) rfl rfl rfl (fun W => run_sub (by simp only [IntKind.wrap_i64]; omega) W) ?_
 simp only [putT, List.set]
 refine wpV_nil (hLk _ (fun w6 Sw6 => ?_))
 clear hLk Lk
 simp only [List.take, List.drop]
 replace M := M.sees Sw6
 refine wpL_assign (v := .int .i64 (((a.length + b.length : Nat) : Int) - 1)) (by rfl) (by rfl) (by rfl) ?_
 simp only [putT, List.set]
 refine wpL_nil (no_panic ?_)
 refine hK4 _ _ ?_
 refine wp_block ?_
 refine wp_loop_ghost (fun n9 a9 W9 => ∃ (k : Nat) (u7 : Nat → Value), n9 = 2 * k ∧ a9 = { tmps := #[.slice ax a.length cx, .slice ay b.length cy, undef, undef, u7 4, .int .i64 (((k : Nat) : Int) - 1), u7 6, u7 7, .slice ax a.length cx, .int .i64 ((a.length : Nat) : Int), .slice ay b.length cy, .int .i64 ((b.length : Nat) : Int), .int .i64 ((a.length + b.length : Nat) : Int), .int .i64 (((a.length + b.length : Nat) : Int) - 1), u7 14, u7 15, u7 16, u7 17, u7 18, u7 19, u7 20, u7 21, u7 22, u7 23, u7 24, u7 25, u7 26, u7 27, u7 28, u7 29, u7 30, u7 31, u7 32, u7 33, u7 34, u7 35, u7 36, u7 37, u7 38, u7 39], defers := [] } ∧ Mem [] w W9 [] ∧ (k ≤ a.length + b.length) ∧ (aboveL a b = abvL a b k)) (2 * (a.length + b.length)) ?_ (fun n9 a9 W9 hI => ?_)
 ·
  exact ⟨(a.length + b.length), (fun q9 => (#[undef, undef, undef, undef, .bool false, undef, undef, undef, undef, undef, undef, undef, undef, undef, undef, undef, undef, undef, undef, undef, undef, undef, undef, undef, undef, undef, undef, undef, undef, undef, undef, undef, undef, undef, undef, undef, undef, undef, undef, undef] : Array Value).getD q9 undef), rfl, rfl, M, (Nat.le_refl _), rfl⟩
 clear M
 obtain ⟨k, u7, rfl, rfl, M, hk4, hI⟩ := hI
 obtain ⟨w8, rfl⟩ : ∃ W8, W8 = W9 := ⟨_, rfl⟩
 refine wp_seq_k (fun K9 hK9 => ?_)
 refine wp_seq_k (fun K10 hK10 => ?_)
 refine wp_region_seq ?_
 refine wpL_move (v := .int .i64 (((k : Nat) : Int) - 1)) (by rfl) (by rfl) (by rfl) ?_
 simp only [putT, List.set]
 refine wpL_chunk 1 (by rfl) (fun Lk hLk => ?_)
 simp only [List.take, List.drop]
 refine wpV_bin (v := .bool (decide (0 ≤ ((k : Nat) : Int) - 1))) (by rfl) rfl rfl rfl (fun W => run_geq _ _ _ _ W) ?_
 simp only [putT, List.set]
 refine wpV_nil (hLk _ (fun w12 Sw12 => ?_))
 clear hLk Lk
 simp only [List.take, List.drop]
 replace M := M.sees Sw12
 refine wpL_nil (no_panic ?_)
 refine hK10 _ _ ?_
 cases hc13 : (decide (0 ≤ ((k : Nat) : Int) - 1))
 ·
  obtain rfl : k = 0 := by have := of_decide_eq_false hc13; omega
  refine wp_cond_false rfl ?_
  refine wp_exit ?_
  refine hK3 _ _ ?_
  refine wp_seq_k (fun K14 hK14 => ?_)
  refine wp_region_seq ?_
  refine wpL_assign (v := .bool false) (by rfl) (by rfl) (by rfl) ?_
  simp only [putT, List.set]
  refine wpL_nil (no_panic ?_)
  refine hK14 _ _ ?_
  refine wp_ret ?_
  repeat (first | with_reducible refine then_ret ?_ | with_reducible refine inblock_ret ?_)
  refine bodyPost_ret (v := .bool false) (res1 rfl (.tmp (by rfl))) rfl ?_
  have BE := M.below
  exact ⟨by rw [hI]; rfl, BE⟩
 ·
  obtain ⟨j, rfl⟩ : ∃ j, k = j + 1 := ⟨k - 1, by have := of_decide_eq_true hc13; omega⟩
  rw [show (((j + 1 : Nat) : Int) - 1) = ((j : Nat) : Int) by omega]
  refine wp_cond_true rfl ?_
  refine wp_skip ?_
  refine hK9 _ _ ?_
  refine wp_seq_k (fun K16 hK16 => ?_)
  refine wp_block ?_
  refine wp_seq_k (fun K17 hK17 => ?_)
  refine wp_region_seq ?_
  refine wpL_assign (v := .int .u64 0) (by rfl) (by rfl) (by rfl) ?_
  simp only [putT, List.set]
  refine wpL_nil (no_panic ?_)
  refine hK17 _ _ ?_
  refine wp_seq_k (fun K19 hK19 => ?_)
  refine wp_region_seq ?_
  refine wpL_assign (v := .int .u64 0) (by rfl) (by rfl) (by rfl) ?_
  simp only [putT, List.set]
  refine wpL_nil (no_panic ?_)
  refine hK19 _ _ ?_
  refine wp_seq_k (fun K21 hK21 => ?_)
  refine wp_seq_k (fun K22 hK22 => ?_)
  refine wp_region_seq ?_
  refine wpL_move (v := .int .i64 ((j : Nat) : Int)) (by rfl) (by rfl) (by rfl) ?_
  simp only [putT, List.set]
  refine wpL_move (v := .slice ax a.length cx) (by rfl) (by rfl) (by rfl) ?_
  simp only [putT, List.set]
  refine wpL_chunk 2 (by rfl) (fun Lk hLk => ?_)
  simp only [List.take, List.drop]
  refine wpV_lenA (n := a.length) (by rfl) rfl rfl rfl Tryd.underlying93 ?_
  simp only [putT, List.set]
  refine wpV_bin (v := .bool (decide (j < a.length))) (by rfl) rfl rfl rfl (fun W => run_lssN j a.length _ _ W) ?_
  simp only [putT, List.set]
  refine wpV_nil (hLk _ (fun w24 Sw24 => ?_))
  clear hLk Lk
  simp only [List.take, List.drop]
  replace M := M.sees Sw24
  refine wpL_nil (no_panic ?_)
  refine hK22 _ _ ?_
  cases hc25 : (decide (j < a.length))
  ·
   have hA : a.getD j 0 = 0 := getD_over (of_decide_eq_false hc25)
   have hja : ¬ j < a.length := of_decide_eq_false hc25
   refine wp_cond_false rfl ?_
   refine wp_skip ?_
   refine hK21 _ _ ?_
   refine wp_seq_k (fun K26 hK26 => ?_)
   refine wp_seq_k (fun K27 hK27 => ?_)
   refine wp_region_seq ?_
   refine wpL_move (v := .int .i64 ((j : Nat) : Int)) (by rfl) (by rfl) (by rfl) ?_
   simp only [putT, List.set]
   refine wpL_move (v := .slice ay b.length cy) (by rfl) (by rfl) (by rfl) ?_
   simp only [putT, List.set]
   refine wpL_chunk 2 (by rfl) (fun Lk hLk => ?_)
   simp only [List.take, List.drop]
   refine wpV_lenA (n := b.length) (by rfl) rfl rfl rfl Tryd.underlying93 ?_
   simp only [putT, List.set]
   refine wpV_bin (v := .bool (decide (j < b.length))) (by rfl) rfl rfl rfl (fun W => run_lssN j b.length _ _ W) ?_
   simp only [putT, List.set]
   refine wpV_nil (hLk _ (fun w29 Sw29 => ?_))
   clear hLk Lk
   simp only [List.take, List.drop]
   replace M := M.sees Sw29
   refine wpL_nil (no_panic ?_)
   refine hK27 _ _ ?_
   cases hc30 : (decide (j < b.length))
   ·
    have hB : b.getD j 0 = 0 := getD_over (of_decide_eq_false hc30)
    have hjb : ¬ j < b.length := of_decide_eq_false hc30
    refine wp_cond_false rfl ?_
    refine wp_skip ?_
    refine hK26 _ _ ?_
    refine wp_seq_k (fun K31 hK31 => ?_)
    refine wp_region_seq ?_
    refine wpL_move (v := .int .u64 0) (by rfl) (by rfl) (by rfl) ?_
    simp only [putT, List.set]
    refine wpL_move (v := .int .u64 0) (by rfl) (by rfl) (by rfl) ?_
    simp only [putT, List.set]
    refine wpL_chunk 1 (by rfl) (fun Lk hLk => ?_)
    simp only [List.take, List.drop]
    refine wpV_bin (v := .bool false) (by rfl) rfl rfl rfl (fun W => run_neq _ _ _ _ W) ?_
    simp only [putT, List.set]
    refine wpV_nil (hLk _ (fun w33 Sw33 => ?_))
    clear hLk Lk
    simp only [List.take, List.drop]
    replace M := M.sees Sw33
    refine wpL_nil (no_panic ?_)
    refine hK31 _ _ ?_
    refine wp_cond_false rfl ?_
    refine wp_skip ?_
    refine hK16 _ _ ?_
    refine wp_region_seq ?_
    refine wpL_move (v := .int .i64 ((j : Nat) : Int)) (by rfl) (by rfl) (by rfl) ?_
    simp only [putT, List.set]
    refine wpL_chunk 1 (by rfl) (fun Lk hLk => ?_)
    simp only [List.take, List.drop]
    refine wpV_bin (v := .int .i64 (((j : Nat) : Int) - 1)) (by rfl) rfl rfl rfl (fun W => run_sub (by simp only [IntKind.wrap_i64]; omega) W) ?_
    simp only [putT, List.set]
    refine wpV_nil (hLk _ (fun w35 Sw35 => ?_))
    clear hLk Lk
    simp only [List.take, List.drop]
    replace M := M.sees Sw35
    refine wpL_assign (v := .int .i64 (((j : Nat) : Int) - 1)) (by rfl) (by rfl) (by rfl) ?_
    simp only [putT, List.set]
    refine wpL_nil (no_panic ?_)
    refine Exists.intro _ ⟨?_, j, (fun q9 => (#[undef, undef, undef, undef, u7 4, undef, .int .u64 0, .int .u64 0, undef, undef, undef, undef, undef, undef, .int .i64 ((j : Nat) : Int), .bool true, .int .i64 ((j : Nat) : Int), .int .i64 (((j : Nat) : Int) - 1), .int .i64 ((j : Nat) : Int), .slice ax a.length cx, .int .i64 ((a.length : Nat) : Int), .bool false, u7 22, u7 23, u7 24, u7 25, .int .i64 ((j : Nat) : Int), .slice ay b.length cy, .int .i64 ((b.length : Nat) : Int), .bool false, u7 30, u7 31, u7 32, u7 33, .int .u64 0, .int .u64 0, .bool false, u7 37, u7 38, u7 39] : Array Value).getD q9 undef), rfl, rfl, M, (by omega), (hI.trans (abvL_eq (by first | exact hsm | rw [hA, hB])))⟩
    omega
   ·
    have hB : b.getD j 0 = b.getD j 0 := rfl
    have hjb : j < b.length := of_decide_eq_true hc30
    refine wp_cond_true rfl ?_
    refine wp_region_seq ?_
    refine wpL_move (v := .slice ay b.length cy) (by rfl) (by rfl) (by rfl) ?_
    simp only [putT, List.set]
    refine wpL_move (v := .int .i64 ((j : Nat) : Int)) (by rfl) (by rfl) (by rfl) ?_
    simp only [putT, List.set]
    refine wpL_chunk 2 (by rfl) (fun Lk hLk => ?_)
    simp only [List.take, List.drop]
    refine wpV_idxA (i := j) (by rfl) rfl rfl rfl Tryd.underlying93 info27 (M.oldA Hy) (by omega) ?_
    simp only [putT, List.set]
    refine wpV_loadA (i := j) (v := .int .u64 (((b.getD j 0) : Nat) : Int)) (by rfl) rfl rfl (M.oldA Hy) (qcells_get (l := b) (by assumption)) Tryd.underlying27 rfl ?_
    simp only [putT, List.set]
    refine wpV_nil (hLk _ (fun w37 Sw37 => ?_))
    clear hLk Lk
    simp only [List.take, List.drop]
    replace M := M.sees Sw37
    refine wpL_assign (v := .int .u64 (((b.getD j 0) : Nat) : Int)) (by rfl) (by rfl) (by rfl) ?_
    simp only [putT, List.set]
    refine wpL_nil (no_panic ?_)
    refine hK26 _ _ ?_
    refine wp_seq_k (fun K38 hK38 => ?_)
    refine wp_region_seq ?_
    refine wpL_move (v := .int .u64 0) (by rfl) (by rfl) (by rfl) ?_
    simp only [putT, List.set]
    refine wpL_move (v := .int .u64 (((b.getD j 0) : Nat) : Int)) (by rfl) (by rfl) (by rfl) ?_
    simp only [putT, List.set]
    refine wpL_chunk 1 (by rfl) (fun Lk hLk => ?_)
    simp only [List.take, List.drop]
    refine wpV_bin (v := .bool (decide (0 ≠ (b.getD j 0)))) (by rfl) rfl rfl rfl (fun W => run_neqN 0 (b.getD j 0) _ _ W) ?_
    simp only [putT, List.set]
    refine wpV_nil (hLk _ (fun w40 Sw40 => ?_))
    clear hLk Lk
    simp only [List.take, List.drop]
    replace M := M.sees Sw40
    refine wpL_nil (no_panic ?_)
    refine hK38 _ _ ?_
    cases hc41 : (decide (0 ≠ (b.getD j 0)))
    ·
     have hsm : a.getD j 0 = b.getD j 0 := by rw [hA, hB]; exact Decidable.not_not.1 (of_decide_eq_false hc41)
     refine wp_cond_false rfl ?_
     refine wp_skip ?_
     refine hK16 _ _ ?_
     refine wp_region_seq ?_
     refine wpL_move (v := .int .i64 ((j : Nat) : Int)) (by rfl) (by rfl) (by rfl) ?_
     simp only [putT, List.set]
     refine wpL_chunk 1 (by rfl) (fun Lk hLk => ?_)
     simp only [List.take, List.drop]
     refine wpV_bin (v := .int .i64 (((j : Nat) : Int) - 1)) (by rfl) rfl rfl rfl (fun W => run_sub (by simp only [IntKind.wrap_i64]; omega) W) ?_
     simp only [putT, List.set]
     refine wpV_nil (hLk _ (fun w43 Sw43 => ?_))
     clear hLk Lk
     simp only [List.take, List.drop]
     replace M := M.sees Sw43
     refine wpL_assign (v := .int .i64 (((j : Nat) : Int) - 1)) (by rfl) (by rfl) (by rfl) ?_
     simp only [putT, List.set]
     refine wpL_nil (no_panic ?_)
     refine Exists.intro _ ⟨?_, j, (fun q9 => (#[undef, undef, undef, undef, u7 4, undef, .int .u64 0, .int .u64 (((b.getD j 0) : Nat) : Int), undef, undef, undef, undef, undef, undef, .int .i64 ((j : Nat) : Int), .bool true, .int .i64 ((j : Nat) : Int), .int .i64 (((j : Nat) : Int) - 1), .int .i64 ((j : Nat) : Int), .slice ax a.length cx, .int .i64 ((a.length : Nat) : Int), .bool false, u7 22, u7 23, u7 24, u7 25, .int .i64 ((j : Nat) : Int), .slice ay b.length cy, .int .i64 ((b.length : Nat) : Int), .bool true, .slice ay b.length cy, .int .i64 ((j : Nat) : Int), .pointer (ay.map (·.add j)), .int .u64 (((b.getD j 0) : Nat) : Int), .int .u64 0, .int .u64 (((b.getD j 0) : Nat) : Int), .bool false, u7 37, u7 38, u7 39] : Array Value).getD q9 undef), rfl, rfl, M, (by omega), (hI.trans (abvL_eq (by first | exact hsm | rw [hA, hB])))⟩
     omega
    ·
     have hne : a.getD j 0 ≠ b.getD j 0 := by rw [hA, hB]; exact of_decide_eq_true hc41
     refine wp_cond_true rfl ?_
     refine wp_seq_k (fun K44 hK44 => ?_)
     refine wp_region_seq ?_
     refine wpL_move (v := .int .u64 0) (by rfl) (by rfl) (by rfl) ?_
     simp only [putT, List.set]
     refine wpL_move (v := .int .u64 (((b.getD j 0) : Nat) : Int)) (by rfl) (by rfl) (by rfl) ?_
     simp only [putT, List.set]
     refine wpL_chunk 1 (by rfl) (fun Lk hLk => ?_)
     simp only [List.take, List.drop]
     refine wpV_bin (v := .bool (decide ((b.getD j 0) < 0))) (by rfl) rfl rfl rfl (fun W => run_gtrN 0 (b.getD j 0) _ _ W) ?_
     simp only [putT, List.set]
     refine wpV_nil (hLk _ (fun w46 Sw46 => ?_))
     clear hLk Lk
     simp only [List.take, List.drop]
     replace M := M.sees Sw46
     refine wpL_assign (v := .bool (decide ((b.getD j 0) < 0))) (by rfl) (by rfl) (by rfl) ?_
     simp only [putT, List.set]
     refine wpL_nil (no_panic ?_)
     refine hK44 _ _ ?_
     refine wp_ret ?_
     repeat (first | with_reducible refine then_ret ?_ | with_reducible refine inblock_ret ?_)
     refine bodyPost_ret (v := .bool (decide ((b.getD j 0) < 0))) (res1 rfl (.tmp (by rfl))) rfl ?_
     have BE := M.below
     exact ⟨by rw [hI, abvL_ne hne, hA, hB], BE⟩
  ·
   have hA : a.getD j 0 = a.getD j 0 := rfl
   have hja : j < a.length := of_decide_eq_true hc25
   refine wp_cond_true rfl ?_
   refine wp_region_seq ?_
   refine wpL_move (v := .slice ax a.length cx) (by rfl) (by rfl) (by rfl) ?_
   simp only [putT, List.set]
   refine wpL_move (v := .int .i64 ((j : Nat) : Int)) (by rfl) (by rfl) (by rfl) ?_
   simp only [putT, List.set]
   refine wpL_chunk 2 (by rfl) (fun Lk hLk => ?_)
   simp only [List.take, List.drop]
   refine wpV_idxA (i := j) (by rfl) rfl rfl rfl Tryd.underlying93 info27 (M.oldA Hx) (by omega) ?_
   simp only [putT, List.set]
   refine wpV_loadA (i := j) (v := .int .u64 (((a.getD j 0) : Nat) : Int)) (by rfl) rfl rfl (M.oldA Hx) (qcells_get (l := a) (by assumption)) Tryd.underlying27 rfl ?_
   simp only [putT, List.set]
   refine wpV_nil (hLk _ (fun w48 Sw48 => ?_))
   clear hLk Lk
   simp only [List.take, List.drop]
   replace M := M.sees Sw48
   refine wpL_assign (v := .int .u64 (((a.getD j 0) : Nat) : Int)) (by rfl) (by rfl) (by rfl) ?_
   simp only [putT, List.set]
   refine wpL_nil (no_panic ?_)
   refine hK21 _ _ ?_
   refine wp_seq_k (fun K49 hK49 => ?_)
   refine wp_seq_k (fun K50 hK50 => ?_)
   refine wp_region_seq ?_
   refine wpL_move (v := .int .i64 ((j : Nat) : Int)) (by rfl) (by rfl) (by rfl) ?_
   simp only [putT, List.set]
   refine wpL_move (v := .slice ay b.length cy) (by rfl) (by rfl) (by rfl) ?_
   simp only [putT, List.set]
   refine wpL_chunk 2 (by rfl) (fun Lk hLk => ?_)
   simp only [List.take, List.drop]
   refine wpV_lenA (n := b.length) (by rfl) rfl rfl rfl Tryd.underlying93 ?_
   simp only [putT, List.set]
   refine wpV_bin (v := .bool (decide (j < b.length))) (by rfl) rfl rfl rfl (fun W => run_lssN j b.length _ _ W) ?_
   simp only [putT, List.set]
   refine wpV_nil (hLk _ (fun w52 Sw52 => ?_))
   clear hLk Lk
   simp only [List.take, List.drop]
   replace M := M.sees Sw52
   refine wpL_nil (no_panic ?_)
   refine hK50 _ _ ?_
   cases hc53 : (decide (j < b.length))
   ·
    have hB : b.getD j 0 = 0 := getD_over (of_decide_eq_false hc53)
    have hjb : ¬ j < b.length := of_decide_eq_false hc53
    refine wp_cond_false rfl ?_
    refine wp_skip ?_
    refine hK49 _ _ ?_
    refine wp_seq_k (fun K54 hK54 => ?_)
    refine wp_region_seq ?_
    refine wpL_move (v := .int .u64 (((a.getD j 0) : Nat) : Int)) (by rfl) (by rfl) (by rfl) ?_
    simp only [putT, List.set]
    refine wpL_move (v := .int .u64 0) (by rfl) (by rfl) (by rfl) ?_
    simp only [putT, List.set]
    refine wpL_chunk 1 (by rfl) (fun Lk hLk => ?_)
    simp only [List.take, List.drop]
    refine wpV_bin (v := .bool (decide ((a.getD j 0) ≠ 0))) (by rfl) rfl rfl rfl (fun W => run_neqN (a.getD j 0) 0 _ _ W) ?_
    simp only [putT, List.set]
    refine wpV_nil (hLk _ (fun w56 Sw56 => ?_))
    clear hLk Lk
    simp only [List.take, List.drop]
    replace M := M.sees Sw56
    refine wpL_nil (no_panic ?_)
    refine hK54 _ _ ?_
    cases hc57 : (decide ((a.getD j 0) ≠ 0))
    ·
     have hsm : a.getD j 0 = b.getD j 0 := by rw [hA, hB]; exact Decidable.not_not.1 (of_decide_eq_false hc57)
     refine wp_cond_false rfl ?_
     refine wp_skip ?_
     refine hK16 _ _ ?_
     refine wp_region_seq ?_
     refine wpL_move (v := .int .i64 ((j : Nat) : Int)) (by rfl) (by rfl) (by rfl) ?_
     simp only [putT, List.set]
     refine wpL_chunk 1 (by rfl) (fun Lk hLk => ?_)
     simp only [List.take, List.drop]
     refine wpV_bin (v := .int .i64 (((j : Nat) : Int) - 1)) (by rfl) rfl rfl rfl (fun W => run_sub (by simp only [IntKind.wrap_i64]; omega) W) ?_
     simp only [putT, List.set]
     refine wpV_nil (hLk _ (fun w59 Sw59 => ?_))
     clear hLk Lk
     simp only [List.take, List.drop]
     replace M := M.sees Sw59
     refine wpL_assign (v := .int .i64 (((j : Nat) : Int) - 1)) (by rfl) (by rfl) (by rfl) ?_
     simp only [putT, List.set]
     refine wpL_nil (no_panic ?_)
     refine Exists.intro _ ⟨?_, j, (fun q9 => (#[undef, undef, undef, undef, u7 4, undef, .int .u64 (((a.getD j 0) : Nat) : Int), .int .u64 0, undef, undef, undef, undef, undef, undef, .int .i64 ((j : Nat) : Int), .bool true, .int .i64 ((j : Nat) : Int), .int .i64 (((j : Nat) : Int) - 1), .int .i64 ((j : Nat) : Int), .slice ax a.length cx, .int .i64 ((a.length : Nat) : Int), .bool true, .slice ax a.length cx, .int .i64 ((j : Nat) : Int), .pointer (ax.map (·.add j)), .int .u64 (((a.getD j 0) : Nat) : Int), .int .i64 ((j : Nat) : Int), .slice ay b.length cy, .int .i64 ((b.length : Nat) : Int), .bool false, u7 30, u7 31, u7 32, u7 33, .int .u64 (((a.getD j 0) : Nat) : Int), .int .u64 0, .bool false, u7 37, u7 38, u7 39] : Array Value).getD q9 undef), rfl, rfl, M, (by omega), (hI.trans (abvL_eq (by first | exact hsm | rw [hA, hB])))⟩
     omega
    ·
     have hne : a.getD j 0 ≠ b.getD j 0 := by rw [hA, hB]; exact of_decide_eq_true hc57
     refine wp_cond_true rfl ?_
     refine wp_seq_k (fun K60 hK60 => ?_)
     refine wp_region_seq ?_
     refine wpL_move (v := .int .u64 (((a.getD j 0) : Nat) : Int)) (by rfl) (by rfl) (by rfl) ?_
     simp only [putT, List.set]
     refine wpL_move (v := .int .u64 0) (by rfl) (by rfl) (by rfl) ?_
     simp only [putT, List.set]
     refine wpL_chunk 1 (by rfl) (fun Lk hLk => ?_)
     simp only [List.take, List.drop]
     refine wpV_bin (v := .bool (decide (0 < (a.getD j 0)))) (by rfl) rfl rfl rfl (fun W => run_gtrN (a.getD j 0) 0 _ _ W) ?_
     simp only [putT, List.set]
     refine wpV_nil (hLk _ (fun w62 Sw62 => ?_))
     clear hLk Lk
     simp only [List.take, List.drop]
     replace M := M.sees Sw62
     refine wpL_assign (v := .bool (decide (0 < (a.getD j 0)))) (by rfl) (by rfl) (by rfl) ?_
     simp only [putT, List.set]
     refine wpL_nil (no_panic ?_)
     refine hK60 _ _ ?_
     refine wp_ret ?_
     repeat (first | with_reducible refine then_ret ?_ | with_reducible refine inblock_ret ?_)
     refine bodyPost_ret (v := .bool (decide (0 < (a.getD j 0)))) (res1 rfl (.tmp (by rfl))) rfl ?_
     have BE := M.below
     exact ⟨by rw [hI, abvL_ne hne, hA, hB], BE⟩
   ·
    have hB : b.getD j 0 = b.getD j 0 := rfl
    have hjb : j < b.length := of_decide_eq_true hc53
    refine wp_cond_true rfl ?_
    refine wp_region_seq ?_
    refine wpL_move (v := .slice ay b.length cy) (by rfl) (by rfl) (by rfl) ?_
    simp only [putT, List.set]
    refine wpL_move (v := .int .i64 ((j : Nat) : Int)) (by rfl) (by rfl) (by rfl) ?_
    simp only [putT, List.set]
    refine wpL_chunk 2 (by rfl) (fun Lk hLk => ?_)
    simp only [List.take, List.drop]
    refine wpV_idxA (i := j) (by rfl) rfl rfl rfl Tryd.underlying93 info27 (M.oldA Hy) (by omega) ?_
    simp only [putT, List.set]
    refine wpV_loadA (i := j) (v := .int .u64 (((b.getD j 0) : Nat) : Int)) (by rfl) rfl rfl (M.oldA Hy) (qcells_get (l := b) (by assumption)) Tryd.underlying27 rfl ?_
    simp only [putT, List.set]
    refine wpV_nil (hLk _ (fun w64 Sw64 => ?_))
    clear hLk Lk
    simp only [List.take, List.drop]
    replace M := M.sees Sw64
    refine wpL_assign (v := .int .u64 (((b.getD j 0) : Nat) : Int)) (by rfl) (by rfl) (by rfl) ?_
    simp only [putT, List.set]
    refine wpL_nil (no_panic ?_)
    refine hK49 _ _ ?_
    refine wp_seq_k (fun K65 hK65 => ?_)
    refine wp_region_seq ?_
    refine wpL_move (v := .int .u64 (((a.getD j 0) : Nat) : Int)) (by rfl) (by rfl) (by rfl) ?_
    simp only [putT, List.set]
    refine wpL_move (v := .int .u64 (((b.getD j 0) : Nat) : Int)) (by rfl) (by rfl) (by rfl) ?_
    simp only [putT, List.set]
    refine wpL_chunk 1 (by rfl) (fun Lk hLk => ?_)
    simp only [List.take, List.drop]
    refine wpV_bin (v := .bool (decide ((a.getD j 0) ≠ (b.getD j 0)))) (by rfl) rfl rfl rfl (fun W => run_neqN (a.getD j 0) (b.getD j 0) _ _ W) ?_
    simp only [putT, List.set]
    refine wpV_nil (hLk _ (fun w67 Sw67 => ?_))
    clear hLk Lk
    simp only [List.take, List.drop]
    replace M := M.sees Sw67
    refine wpL_nil (no_panic ?_)
    refine hK65 _ _ ?_
    cases hc68 : (decide ((a.getD j 0) ≠ (b.getD j 0)))
    ·
     have hsm : a.getD j 0 = b.getD j 0 := by rw [hA, hB]; exact Decidable.not_not.1 (of_decide_eq_false hc68)
     refine wp_cond_false rfl ?_
     refine wp_skip ?_
     refine hK16 _ _ ?_
     refine wp_region_seq ?_
     refine wpL_move (v := .int .i64 ((j : Nat) : Int)) (by rfl) (by rfl) (by rfl) ?_
     simp only [putT, List.set]
     refine wpL_chunk 1 (by rfl) (fun Lk hLk => ?_)
     simp only [List.take, List.drop]
     refine wpV_bin (v := .int .i64 (((j : Nat) : Int) - 1)) (by rfl) rfl rfl rfl (fun W => run_sub (by simp only [IntKind.wrap_i64]; omega) W) ?_
     simp only [putT, List.set]
     refine wpV_nil (hLk _ (fun w70 Sw70 => ?_))
     clear hLk Lk
     simp only [List.take, List.drop]
     replace M := M.sees Sw70
     refine wpL_assign (v := .int .i64 (((j : Nat) : Int) - 1)) (by rfl) (by rfl) (by rfl) ?_
     simp only [putT, List.set]
     refine wpL_nil (no_panic ?_)
     refine Exists.intro _ ⟨?_, j, (fun q9 => (#[undef, undef, undef, undef, u7 4, undef, .int .u64 (((a.getD j 0) : Nat) : Int), .int .u64 (((b.getD j 0) : Nat) : Int), undef, undef, undef, undef, undef, undef, .int .i64 ((j : Nat) : Int), .bool true, .int .i64 ((j : Nat) : Int), .int .i64 (((j : Nat) : Int) - 1), .int .i64 ((j : Nat) : Int), .slice ax a.length cx, .int .i64 ((a.length : Nat) : Int), .bool true, .slice ax a.length cx, .int .i64 ((j : Nat) : Int), .pointer (ax.map (·.add j)), .int .u64 (((a.getD j 0) : Nat) : Int), .int .i64 ((j : Nat) : Int), .slice ay b.length cy, .int .i64 ((b.length : Nat) : Int), .bool true, .slice ay b.length cy, .int .i64 ((j : Nat) : Int), .pointer (ay.map (·.add j)), .int .u64 (((b.getD j 0) : Nat) : Int), .int .u64 (((a.getD j 0) : Nat) : Int), .int .u64 (((b.getD j 0) : Nat) : Int), .bool false, u7 37, u7 38, u7 39] : Array Value).getD q9 undef), rfl, rfl, M, (by omega), (hI.trans (abvL_eq (by first | exact hsm | rw [hA, hB])))⟩
     omega
    ·
     have hne : a.getD j 0 ≠ b.getD j 0 := by rw [hA, hB]; exact of_decide_eq_true hc68
     refine wp_cond_true rfl ?_
     refine wp_seq_k (fun K71 hK71 => ?_)
     refine wp_region_seq ?_
     refine wpL_move (v := .int .u64 (((a.getD j 0) : Nat) : Int)) (by rfl) (by rfl) (by rfl) ?_
     simp only [putT, List.set]
     refine wpL_move (v := .int .u64 (((b.getD j 0) : Nat) : Int)) (by rfl) (by rfl) (by rfl) ?_
     simp only [putT, List.set]
     refine wpL_chunk 1 (by rfl) (fun Lk hLk => ?_)
     simp only [List.take, List.drop]
     refine wpV_bin (v := .bool (decide ((b.getD j 0) < (a.getD j 0)))) (by rfl) rfl rfl rfl (fun W => run_gtrN (a.getD j 0) (b.getD j 0) _ _ W) ?_
     simp only [putT, List.set]
     refine wpV_nil (hLk _ (fun w73 Sw73 => ?_))
     clear hLk Lk
     simp only [List.take, List.drop]
     replace M := M.sees Sw73
     refine wpL_assign (v := .bool (decide ((b.getD j 0) < (a.getD j 0)))) (by rfl) (by rfl) (by rfl) ?_
     simp only [putT, List.set]
     refine wpL_nil (no_panic ?_)
     refine hK71 _ _ ?_
     refine wp_ret ?_
     repeat (first | with_reducible refine then_ret ?_ | with_reducible refine inblock_ret ?_)
     refine bodyPost_ret (v := .bool (decide ((b.getD j 0) < (a.getD j 0)))) (res1 rfl (.tmp (by rfl))) rfl ?_
     have BE := M.below
     exact ⟨by rw [hI, abvL_ne hne, hA, hB], BE⟩
end Go.Proofs.Yb

namespace Go.Proofs.Yb
open Go Go.RowKit Go.Proofs.Num
attribute [local irreducible] wpV wpN wpList
set_option maxHeartbeats 2000000 in
theorem root3_c {p : Nat} {w : World}  :
  Calls Tryd.prog 73 #[.int .u64 ((p : Nat) : Int), .int .i64 3] w fun e w' => e = .returned (.int .u32 ((rootL p 3 : Nat) : Int)) ∧ Below w.heap.size w w' := by
 go_enter Tryd.func73, Tryd.ntmps73
 have M := Mem.start w
 refine wp_seq_k (fun K1 hK1 => ?_)
 refine wp_region_seq ?_
 refine wpL_assign (v := .int .u32 0) (by rfl) (by rfl) (by rfl) ?_
 simp only [putT, List.set]
 refine wpL_nil (no_panic ?_)
 refine hK1 _ _ ?_
 refine wp_seq_k (fun K3 hK3 => ?_)
 refine wp_region_seq ?_
 refine wpL_move (v := .int .i64 3) (by rfl) (by rfl) (by rfl) ?_
 simp only [putT, List.set]
 refine wpL_chunk 2 (by rfl) (fun Lk hLk => ?_)
 simp only [List.take, List.drop]
 refine wpV_bin (v := .int .i64 6) (by rfl) rfl rfl rfl (fun W => run_mul (by decide) W) ?_
 simp only [putT, List.set]
 refine wpV_bin (v := .int .i64 7) (by rfl) rfl rfl rfl (fun W => run_add (by decide) W) ?_
 simp only [putT, List.set]
 refine wpV_nil (hLk _ (fun w5 Sw5 => ?_))
 clear hLk Lk
 simp only [List.take, List.drop]
 replace M := M.sees Sw5
 refine wpL_make (n := 7) (z := .int .u64 0) (bytes := 8) (by rfl) (by rfl) (by rfl) (by rfl) Tryd.underlying93 (by kernel_rfl) rfl (by decide) (by decide) (fun g6 w7 Sw7 Hg6 Bg6 => ?_)
 replace M := ((M.sees Sw7).add (N := 7) (cs := List.replicate 7 (.int .u64 0)) (M.ge Hg6) (M.fresh Hg6) Bg6 (by simp [flen]))
 clear Bg6
 rw [show List.replicate 7 (.int .u64 0) = qcells (List.replicate 7 0) from qcells_zeros _] at M
 simp only [putT, List.set]
 refine wpL_assign (v := .slice (some ⟨g6, 0, none⟩) 7 7) (by rfl) (by rfl) (by rfl) ?_
 simp only [putT, List.set]
 refine wpL_nil (no_panic ?_)
 refine hK3 _ _ ?_
 refine wp_seq_k (fun K8 hK8 => ?_)
 refine wp_region_seq ?_
 refine wpL_move (v := .slice (some ⟨g6, 0, none⟩) 7 7) (by rfl) (by rfl) (by rfl) ?_
 simp only [putT, List.set]
 refine wpL_move (v := .int .i64 3) (by rfl) (by rfl) (by rfl) ?_
 simp only [putT, List.set]
 refine wpL_chunk 3 (by rfl) (fun Lk hLk => ?_)
 simp only [List.take, List.drop]
 refine wpV_bin (v := .int .i64 6) (by rfl) rfl rfl rfl (fun W => run_mul (by decide) W) ?_
 simp only [putT, List.set]
 refine wpV_move (v := .int .u64 ((p : Nat) : Int)) (by rfl) rfl rfl ?_
 simp only [putT, List.set]
 refine wpV_idxs (n := 6) (by rfl) rfl rfl rfl Tryd.underlying93 info27 (by omega) ?_
 simp only [Nat.zero_add]
 simp only [putT, List.set]
 refine wpV_nil (hLk _ (fun w10 Sw10 => ?_))
 clear hLk Lk
 simp only [List.take, List.drop]
 replace M := M.sees Sw10
 refine wpL_store1 (g := g6) (off := 6) (n := 7) (v := .int .u64 ((p : Nat) : Int)) (by rfl) (by rfl) (by rfl) (by rfl) (by rfl) (M.t 0 rfl) (by omega) info27 rfl (fun w11 P R T => ?_)
 replace M := M.put1 (j := 6) 0 rfl P R T (Nat.zero_add _).symm
 simp only [List.set] at M
 rw [qcells_set] at M
 refine wpL_nil (no_panic ?_)
 refine hK8 _ _ ?_
 refine wp_seq_k (fun K12 hK12 => ?_)
 refine wp_region_seq ?_
 refine wpL_make (n := 3) (z := .int .u64 0) (bytes := 8) (by rfl) (by rfl) (by rfl) (by rfl) Tryd.underlying93 (by kernel_rfl) rfl (by decide) (by decide) (fun g14 w15 Sw15 Hg14 Bg14 => ?_)
 replace M := ((M.sees Sw15).add (N := 3) (cs := List.replicate 3 (.int .u64 0)) (M.ge Hg14) (M.fresh Hg14) Bg14 (by simp [flen]))
 clear Bg14
 rw [show List.replicate 3 (.int .u64 0) = qcells (List.replicate 3 0) from qcells_zeros _] at M
 simp only [putT, List.set]
 refine wpL_assign (v := .slice (some ⟨g14, 0, none⟩) 3 3) (by rfl) (by rfl) (by rfl) ?_
 simp only [putT, List.set]
 refine wpL_nil (no_panic ?_)
 refine hK12 _ _ ?_
 refine wp_seq_k (fun K16 hK16 => ?_)
 refine wp_seq_k (fun K17 hK17 => ?_)
 refine wp_region_seq ?_
 refine wpL_assign (v := .int .i64 36) (by rfl) (by rfl) (by rfl) ?_
 simp only [putT, List.set]
 refine wpL_nil (no_panic ?_)
 refine hK17 _ _ ?_
 refine wp_block ?_
 refine wp_loop_ghost (fun n9 a9 W9 => ∃ (k : Nat) (u19 : Nat → Value), n9 = 2 * k ∧ a9 = { tmps := #[.int .u64 ((p : Nat) : Int), .int .i64 3, undef, undef, .int .u32 0, .slice (some ⟨g6, 0, none⟩) 7 7, .slice (some ⟨g14, 0, none⟩) 3 3, .int .i64 (((k : Nat) : Int) - 1), u19 8, u19 9, u19 10, u19 11, undef, undef, .int .i64 3, .int .i64 6, .int .i64 7, .slice (some ⟨g6, 0, none⟩) 7 7, .slice (some ⟨g6, 0, none⟩) 7 7, .int .i64 3, .int .i64 6, .int .u64 ((p : Nat) : Int), .pointer (some ⟨g6, 6, none⟩), .slice (some ⟨g14, 0, none⟩) 3 3, u19 24, u19 25, u19 26, u19 27, u19 28, u19 29, u19 30, u19 31, u19 32, u19 33, u19 34, u19 35, u19 36, u19 37, u19 38, u19 39, u19 40, u19 41, u19 42, u19 43, u19 44, u19 45, u19 46, u19 47, u19 48, u19 49, u19 50, u19 51, u19 52, u19 53, u19 54, u19 55, u19 56, u19 57, u19 58, u19 59, u19 60, u19 61, u19 62, u19 63, u19 64, u19 65, u19 66, u19 67, u19 68, u19 69, undef, undef, undef, undef, undef, undef, undef, undef, undef, undef, undef, undef, undef], defers := [] } ∧ Mem [] w W9 [⟨g14, 3, [(0, qcells (rSt p 3 (37 - k)))]⟩, ⟨g6, 7, [(0, qcells (wholeL p 3))]⟩] ∧ (k ≤ 37)) (2 * (37)) ?_ (fun n9 a9 W9 hI => ?_)
 ·
  exact ⟨37, (fun q9 => (#[undef, undef, undef, undef, undef, undef, undef, undef, undef, undef, undef, undef, undef, undef, undef, undef, undef, undef, undef, undef, undef, undef, undef, undef, undef, undef, undef, undef, undef, undef, undef, undef, undef, undef, undef, undef, undef, undef, undef, undef, undef, undef, undef, undef, undef, undef, undef, undef, undef, undef, undef, undef, undef, undef, undef, undef, undef, undef, undef, undef, undef, undef, undef, undef, undef, undef, undef, undef, undef, undef] : Array Value).getD q9 undef), rfl, rfl, M, (by decide)⟩
 clear M
 obtain ⟨k, u19, rfl, rfl, M, hk4⟩ := hI
 obtain ⟨w20, rfl⟩ : ∃ W8, W8 = W9 := ⟨_, rfl⟩
 refine wp_seq_k (fun K21 hK21 => ?_)
 refine wp_seq_k (fun K22 hK22 => ?_)
 refine wp_region_seq ?_
 refine wpL_move (v := .int .i64 (((k : Nat) : Int) - 1)) (by rfl) (by rfl) (by rfl) ?_
 simp only [putT, List.set]
 refine wpL_chunk 1 (by rfl) (fun Lk hLk => ?_)
 simp only [List.take, List.drop]
 refine wpV_bin (v := .bool (decide (0 ≤ ((k : Nat) : Int) - 1))) (by rfl) rfl rfl rfl (fun W => run_geq _ _ _ _ W) ?_
 simp only [putT, List.set]
 refine wpV_nil (hLk _ (fun w24 Sw24 => ?_))
 clear hLk Lk
 simp only [List.take, List.drop]
 replace M := M.sees Sw24
 refine wpL_nil (no_panic ?_)
 refine hK22 _ _ ?_
 cases hc25 : (decide (0 ≤ ((k : Nat) : Int) - 1))
 ·
  obtain rfl : k = 0 := by have := of_decide_eq_false hc25; omega
  have hRl : (rSt p 3 (37 - 0)).length = 3 := rSt_len _
  generalize hR : rSt p 3 (37 - 0) = R at M hRl
  refine wp_cond_false rfl ?_
  refine wp_exit ?_
  refine hK16 _ _ ?_
  refine wp_seq_k (fun K26 hK26 => ?_)
  refine wp_region_seq ?_
  refine wpL_assign (v := .int .u32 0) (by rfl) (by rfl) (by rfl) ?_
  simp only [putT, List.set]
  refine wpL_nil (no_panic ?_)
  refine hK26 _ _ ?_
  refine wp_seq_k (fun K28 hK28 => ?_)
  refine wp_seq_k (fun K29 hK29 => ?_)
  refine wp_region_seq ?_
  refine wpL_assign (v := .int .i64 1) (by rfl) (by rfl) (by rfl) ?_
  simp only [putT, List.set]
  refine wpL_nil (no_panic ?_)
  refine hK29 _ _ ?_
  refine wp_block ?_
  refine wp_loop_rounds 3 ?_
  rw [rounds_succ]
  refine wp_seq_k (fun K31 hK31 => ?_)
  refine wp_seq_k (fun K32 hK32 => ?_)
  refine wp_region_seq ?_
  refine wpL_move (v := .int .i64 1) (by rfl) (by rfl) (by rfl) ?_
  simp only [putT, List.set]
  refine wpL_chunk 1 (by rfl) (fun Lk hLk => ?_)
  simp only [List.take, List.drop]
  refine wpV_bin (v := .bool true) (by rfl) rfl rfl rfl (fun W => run_geq _ _ _ _ W) ?_
  simp only [putT, List.set]
  refine wpV_nil (hLk _ (fun w34 Sw34 => ?_))
  clear hLk Lk
  simp only [List.take, List.drop]
  replace M := M.sees Sw34
  refine wpL_nil (no_panic ?_)
  refine hK32 _ _ ?_
  refine wp_cond_true rfl ?_
  refine wp_skip ?_
  refine hK31 _ _ ?_
  refine wp_seq_k (fun K35 hK35 => ?_)
  refine wp_block ?_
  refine wp_region_seq ?_
  refine wpL_move (v := .int .u32 0) (by rfl) (by rfl) (by rfl) ?_
  simp only [putT, List.set]
  refine wpL_chunk 7 (by rfl) (fun Lk hLk => ?_)
  simp only [List.take, List.drop]
  refine wpV_bin (v := .int .u32 0) (by rfl) rfl rfl rfl (fun W => run_mul (by decide) W) ?_
  simp only [putT, List.set]
  refine wpV_move (v := .slice (some ⟨g14, 0, none⟩) 3 3) (by rfl) rfl rfl ?_
  simp only [putT, List.set]
  refine wpV_move (v := .int .i64 1) (by rfl) rfl rfl ?_
  simp only [putT, List.set]
  refine wpV_idxs (n := 1) (by rfl) rfl rfl rfl Tryd.underlying93 info27 (by omega) ?_
  simp only [Nat.zero_add]
  simp only [putT, List.set]
  refine wpV_load1 (v := .int .u64 ((R.getD 1 0 : Nat) : Int)) (by rfl) rfl rfl (zadd ((M.r 0 0 rfl rfl) _ _ (qcells_get (l := R) (by omega)))) (M.lt 0 rfl) Tryd.underlying27 rfl ?_
  simp only [putT, List.set]
  refine wpV_conv (d := .bool) (e := (((R.getD 1 0) % 4294967296 : Nat) : Int)) (by rfl) rfl rfl (run_conv_int Tryd.underlying27 Tryd.underlying25 (wrap32N _)) ?_
  simp only [putT, List.set]
  refine wpV_bin (v := .int .u32 (((R.getD 1 0) % 4294967296 % 4294967296 : Nat) : Int)) (by rfl) rfl rfl rfl (fun W => (by have h9 := nr_add32 (P := Tryd.prog) 25 0 ((R.getD 1 0) % 4294967296) W; rw [Nat.zero_add] at h9; exact h9)) ?_
  simp only [putT, List.set]
  refine wpV_nil (hLk _ (fun w37 Sw37 => ?_))
  clear hLk Lk
  simp only [List.take, List.drop]
  replace M := M.sees Sw37
  refine wpL_assign (v := .int .u32 (((R.getD 1 0) % 4294967296 % 4294967296 : Nat) : Int)) (by rfl) (by rfl) (by rfl) ?_
  simp only [putT, List.set]
  refine wpL_nil (no_panic ?_)
  refine hK35 _ _ ?_
  refine wp_region_seq ?_
  refine wpL_move (v := .int .i64 1) (by rfl) (by rfl) (by rfl) ?_
  simp only [putT, List.set]
  refine wpL_chunk 1 (by rfl) (fun Lk hLk => ?_)
  simp only [List.take, List.drop]
  refine wpV_bin (v := .int .i64 0) (by rfl) rfl rfl rfl (fun W => run_sub rfl W) ?_
  simp only [putT, List.set]
  refine wpV_nil (hLk _ (fun w39 Sw39 => ?_))
  clear hLk Lk
  simp only [List.take, List.drop]
  replace M := M.sees Sw39
  refine wpL_assign (v := .int .i64 0) (by rfl) (by rfl) (by rfl) ?_
  simp only [putT, List.set]
  refine wpL_nil (no_panic ?_)
  refine then_normal (Q := fun _ _ _ => True) ?_
  rw [rounds_succ]
  refine wp_seq_k (fun K40 hK40 => ?_)
  refine wp_seq_k (fun K41 hK41 => ?_)
  refine wp_region_seq ?_
  refine wpL_move (v := .int .i64 0) (by rfl) (by rfl) (by rfl) ?_
  simp only [putT, List.set]
  refine wpL_chunk 1 (by rfl) (fun Lk hLk => ?_)
  simp only [List.take, List.drop]
  refine wpV_bin (v := .bool true) (by rfl) rfl rfl rfl (fun W => run_geq _ _ _ _ W) ?_
  simp only [putT, List.set]
  refine wpV_nil (hLk _ (fun w43 Sw43 => ?_))
  clear hLk Lk
  simp only [List.take, List.drop]
  replace M := M.sees Sw43
  refine wpL_nil (no_panic ?_)
  refine hK41 _ _ ?_
  refine wp_cond_true rfl ?_
  refine wp_skip ?_
  refine hK40 _ _ ?_
  refine wp_seq_k (fun K44 hK44 => ?_)
  refine wp_block ?_
  refine wp_region_seq ?_
  refine wpL_move (v := .int .u32 (((R.getD 1 0) % 4294967296 % 4294967296 : Nat) : Int)) (by rfl) (by rfl) (by rfl) ?_
  simp only [putT, List.set]
  refine wpL_chunk 7 (by rfl) (fun Lk hLk => ?_)
  simp only [List.take, List.drop]
  refine wpV_bin (v := .int .u32 (((((R.getD 1 0) % 4294967296 % 4294967296) * 65536) % 4294967296 : Nat) : Int)) (by rfl) rfl rfl rfl (fun W => nr_mul32 _ ((R.getD 1 0) % 4294967296 % 4294967296) 65536 W) ?_
  simp only [putT, List.set]
  refine wpV_move (v := .slice (some ⟨g14, 0, none⟩) 3 3) (by rfl) rfl rfl ?_
  simp only [putT, List.set]
  refine wpV_move (v := .int .i64 0) (by rfl) rfl rfl ?_
  simp only [putT, List.set]
  refine wpV_idxs (n := 0) (by rfl) rfl rfl rfl Tryd.underlying93 info27 (by omega) ?_
  simp only [Nat.zero_add]
  simp only [putT, List.set]
  refine wpV_load1 (v := .int .u64 ((R.getD 0 0 : Nat) : Int)) (by rfl) rfl rfl (zadd ((M.r 0 0 rfl rfl) _ _ (qcells_get (l := R) (by omega)))) (M.lt 0 rfl) Tryd.underlying27 rfl ?_
  simp only [putT, List.set]
  refine wpV_conv (d := .bool) (e := (((R.getD 0 0) % 4294967296 : Nat) : Int)) (by rfl) rfl rfl (run_conv_int Tryd.underlying27 Tryd.underlying25 (wrap32N _)) ?_
  simp only [putT, List.set]
  refine wpV_bin (v := .int .u32 (((((((R.getD 1 0) % 4294967296 % 4294967296) * 65536) % 4294967296) + ((R.getD 0 0) % 4294967296)) % 4294967296 : Nat) : Int)) (by rfl) rfl rfl rfl (fun W => nr_add32 _ _ _ W) ?_
  simp only [putT, List.set]
  refine wpV_nil (hLk _ (fun w46 Sw46 => ?_))
  clear hLk Lk
  simp only [List.take, List.drop]
  replace M := M.sees Sw46
  refine wpL_assign (v := .int .u32 (((((((R.getD 1 0) % 4294967296 % 4294967296) * 65536) % 4294967296) + ((R.getD 0 0) % 4294967296)) % 4294967296 : Nat) : Int)) (by rfl) (by rfl) (by rfl) ?_
  simp only [putT, List.set]
  refine wpL_nil (no_panic ?_)
  refine hK44 _ _ ?_
  refine wp_region_seq ?_
  refine wpL_move (v := .int .i64 0) (by rfl) (by rfl) (by rfl) ?_
  simp only [putT, List.set]
  refine wpL_chunk 1 (by rfl) (fun Lk hLk => ?_)
  simp only [List.take, List.drop]
  refine wpV_bin (v := .int .i64 (-1)) (by rfl) rfl rfl rfl (fun W => run_sub (by simp only [IntKind.wrap_i64]; omega) W) ?_
  simp only [putT, List.set]
  refine wpV_nil (hLk _ (fun w48 Sw48 => ?_))
  clear hLk Lk
  simp only [List.take, List.drop]
  replace M := M.sees Sw48
  refine wpL_assign (v := .int .i64 (-1)) (by rfl) (by rfl) (by rfl) ?_
  simp only [putT, List.set]
  refine wpL_nil (no_panic ?_)
  refine then_normal (Q := fun _ _ _ => True) ?_
  rw [rounds_succ]
  refine wp_seq_k (fun K49 hK49 => ?_)
  refine wp_seq_k (fun K50 hK50 => ?_)
  refine wp_region_seq ?_
  refine wpL_move (v := .int .i64 (-1)) (by rfl) (by rfl) (by rfl) ?_
  simp only [putT, List.set]
  refine wpL_chunk 1 (by rfl) (fun Lk hLk => ?_)
  simp only [List.take, List.drop]
  refine wpV_bin (v := .bool false) (by rfl) rfl rfl rfl (fun W => run_geq _ _ _ _ W) ?_
  simp only [putT, List.set]
  refine wpV_nil (hLk _ (fun w52 Sw52 => ?_))
  clear hLk Lk
  simp only [List.take, List.drop]
  replace M := M.sees Sw52
  refine wpL_nil (no_panic ?_)
  refine hK50 _ _ ?_
  refine wp_cond_false rfl ?_
  refine wp_exit ?_
  refine hK28 _ _ ?_
  refine wp_seq_k (fun K53 hK53 => ?_)
  refine wp_region_seq ?_
  refine wpL_move (v := .int .u32 (((((((R.getD 1 0) % 4294967296 % 4294967296) * 65536) % 4294967296) + ((R.getD 0 0) % 4294967296)) % 4294967296 : Nat) : Int)) (by rfl) (by rfl) (by rfl) ?_
  simp only [putT, List.set]
  refine wpL_assign (v := .int .u32 (((((((R.getD 1 0) % 4294967296 % 4294967296) * 65536) % 4294967296) + ((R.getD 0 0) % 4294967296)) % 4294967296 : Nat) : Int)) (by rfl) (by rfl) (by rfl) ?_
  simp only [putT, List.set]
  refine wpL_nil (no_panic ?_)
  refine hK53 _ _ ?_
  refine wp_ret ?_
  repeat (first | with_reducible refine then_ret ?_ | with_reducible refine inblock_ret ?_)
  refine bodyPost_ret (v := .int .u32 (((((((R.getD 1 0) % 4294967296 % 4294967296) * 65536) % 4294967296) + ((R.getD 0 0) % 4294967296)) % 4294967296 : Nat) : Int)) (res1 rfl (.tmp (by rfl))) rfl ?_
  have BE := M.below
  exact ⟨by rw [rootL, show rSt p 3 37 = R from hR], BE⟩
 ·
  obtain ⟨j, rfl⟩ : ∃ j, k = j + 1 := ⟨k - 1, by have := of_decide_eq_true hc25; omega⟩
  rw [show (((j + 1 : Nat) : Int) - 1) = ((j : Nat) : Int) by omega]
  refine wp_cond_true rfl ?_
  refine wp_skip ?_
  refine hK21 _ _ ?_
  refine wp_seq_k (fun K55 hK55 => ?_)
  refine wp_block ?_
  refine wp_seq_k (fun K56 hK56 => ?_)
  refine wp_region_seq ?_
  refine wpL_assign (v := .int .u64 1) (by rfl) (by rfl) (by rfl) ?_
  simp only [putT, List.set]
  refine wpL_nil (no_panic ?_)
  refine hK56 _ _ ?_
  refine wp_seq_k (fun K58 hK58 => ?_)
  refine wp_seq_k (fun K59 hK59 => ?_)
  refine wp_region_seq ?_
  refine wpL_assign (v := .int .i64 0) (by rfl) (by rfl) (by rfl) ?_
  simp only [putT, List.set]
  refine wpL_nil (no_panic ?_)
  refine hK59 _ _ ?_
  refine wp_block ?_
  refine wp_loop_ghost (fun n9 a9 W9 => ∃ (i : Nat) (u61 : Nat → Value), n9 = 2 * (j % 16 - i) ∧ a9 = { tmps := #[.int .u64 ((p : Nat) : Int), .int .i64 3, undef, undef, .int .u32 0, .slice (some ⟨g6, 0, none⟩) 7 7, .slice (some ⟨g14, 0, none⟩) 3 3, .int .i64 ((j : Nat) : Int), .int .u64 ((2 ^ i : Nat) : Int), .int .i64 ((i : Nat) : Int), u19 10, u19 11, undef, undef, .int .i64 3, .int .i64 6, .int .i64 7, .slice (some ⟨g6, 0, none⟩) 7 7, .slice (some ⟨g6, 0, none⟩) 7 7, .int .i64 3, .int .i64 6, .int .u64 ((p : Nat) : Int), .pointer (some ⟨g6, 6, none⟩), .slice (some ⟨g14, 0, none⟩) 3 3, .int .i64 ((j : Nat) : Int), .bool true, u19 26, u19 27, u61 28, u61 29, u61 30, u61 31, u61 32, u61 33, u61 34, u61 35, u19 36, u19 37, u19 38, u19 39, u19 40, u19 41, u19 42, u19 43, u19 44, u19 45, u19 46, u19 47, u19 48, u19 49, u19 50, u19 51, u19 52, u19 53, u19 54, u19 55, u19 56, u19 57, u19 58, u19 59, u19 60, u19 61, u19 62, u19 63, u19 64, u19 65, u19 66, u19 67, u19 68, u19 69, undef, undef, undef, undef, undef, undef, undef, undef, undef, undef, undef, undef, undef], defers := [] } ∧ Mem [] w W9 [⟨g14, 3, [(0, qcells (rSt p 3 (37 - (j + 1))))]⟩, ⟨g6, 7, [(0, qcells (wholeL p 3))]⟩] ∧ (i ≤ j % 16)) (2 * (j % 16 - (0))) ?_ (fun n9 a9 W9 hI => ?_)
  ·
   exact ⟨0, (fun q9 => (#[undef, undef, undef, undef, undef, undef, undef, undef, undef, undef, undef, undef, undef, undef, undef, undef, undef, undef, undef, undef, undef, undef, undef, undef, undef, undef, undef, undef, u19 28, u19 29, u19 30, u19 31, u19 32, u19 33, u19 34, u19 35] : Array Value).getD q9 undef), rfl, rfl, M, (Nat.zero_le _)⟩
  clear M
  obtain ⟨i, u61, rfl, rfl, M, hi4⟩ := hI
  obtain ⟨w62, rfl⟩ : ∃ W8, W8 = W9 := ⟨_, rfl⟩
  refine wp_seq_k (fun K63 hK63 => ?_)
  refine wp_seq_k (fun K64 hK64 => ?_)
  refine wp_region_seq ?_
  refine wpL_move (v := .int .i64 ((i : Nat) : Int)) (by rfl) (by rfl) (by rfl) ?_
  simp only [putT, List.set]
  refine wpL_move (v := .int .i64 ((j : Nat) : Int)) (by rfl) (by rfl) (by rfl) ?_
  simp only [putT, List.set]
  refine wpL_chunk 2 (by rfl) (fun Lk hLk => ?_)
  simp only [List.take, List.drop]
  refine wpV_bin (v := .int .i64 ((j % 16 : Nat) : Int)) (by rfl) rfl rfl rfl (fun W => run_rem (by decide) (by exact (tmod_nat _ _)) W) ?_
  simp only [putT, List.set]
  refine wpV_bin (v := .bool (decide (i < j % 16))) (by rfl) rfl rfl rfl (fun W => run_lssN i (j % 16) _ _ W) ?_
  simp only [putT, List.set]
  refine wpV_nil (hLk _ (fun w66 Sw66 => ?_))
  clear hLk Lk
  simp only [List.take, List.drop]
  replace M := M.sees Sw66
  refine wpL_nil (no_panic ?_)
  refine hK64 _ _ ?_
  cases hc67 : (decide (i < j % 16))
  ·
   obtain rfl : i = j % 16 := by have := of_decide_eq_false hc67; omega
   refine wp_cond_false rfl ?_
   refine wp_exit ?_
   refine hK58 _ _ ?_
   refine wp_seq_k (fun K68 hK68 => ?_)
   refine wp_region_seq ?_
   refine wpL_move (v := .slice (some ⟨g14, 0, none⟩) 3 3) (by rfl) (by rfl) (by rfl) ?_
   simp only [putT, List.set]
   refine wpL_move (v := .int .i64 ((j : Nat) : Int)) (by rfl) (by rfl) (by rfl) ?_
   simp only [putT, List.set]
   refine wpL_chunk 9 (by rfl) (fun Lk hLk => ?_)
   simp only [List.take, List.drop]
   refine wpV_bin (v := .int .i64 ((j / 16 : Nat) : Int)) (by rfl) rfl rfl rfl (fun W => run_quo (by decide) (by rw [show (16 : Int) = ((16 : Nat) : Int) from rfl, tdiv_nat]; simp only [IntKind.wrap_i64]; omega) W) ?_
   simp only [putT, List.set]
   refine wpV_move (v := .slice (some ⟨g14, 0, none⟩) 3 3) (by rfl) rfl rfl ?_
   simp only [putT, List.set]
   refine wpV_move (v := .int .i64 ((j : Nat) : Int)) (by rfl) rfl rfl ?_
   simp only [putT, List.set]
   refine wpV_bin (v := .int .i64 ((j / 16 : Nat) : Int)) (by rfl) rfl rfl rfl (fun W => run_quo (by decide) (by rw [show (16 : Int) = ((16 : Nat) : Int) from rfl, tdiv_nat]; simp only [IntKind.wrap_i64]; omega) W) ?_
   simp only [putT, List.set]
   refine wpV_idxs (n := j / 16) (by rfl) rfl rfl rfl Tryd.underlying93 info27 (by omega) ?_
   simp only [Nat.zero_add]
   simp only [putT, List.set]
   refine wpV_load1 (v := .int .u64 (((rSt p 3 (37 - (j + 1))).getD (j / 16) 0 : Nat) : Int)) (by rfl) rfl rfl (zadd ((M.r 0 0 rfl rfl) _ _ (qcells_get (l := rSt p 3 (37 - (j + 1))) (by simp only [addBit_len, rSt_len]; omega)))) (M.lt 0 rfl) Tryd.underlying27 rfl ?_
   simp only [putT, List.set]
   refine wpV_move (v := .int .u64 ((2 ^ (j % 16) : Nat) : Int)) (by rfl) rfl rfl ?_
   simp only [putT, List.set]
   refine wpV_bin (v := .int .u64 ((((rSt p 3 (37 - (j + 1))).getD (j / 16) 0 + 2 ^ (j % 16)) % 18446744073709551616 : Nat) : Int)) (by rfl) rfl rfl rfl (fun W => nr_add64 _ _ _ W) ?_
   simp only [putT, List.set]
   refine wpV_idxs (n := j / 16) (by rfl) rfl rfl rfl Tryd.underlying93 info27 (by omega) ?_
   simp only [Nat.zero_add]
   simp only [putT, List.set]
   refine wpV_nil (hLk _ (fun w70 Sw70 => ?_))
   clear hLk Lk
   simp only [List.take, List.drop]
   replace M := M.sees Sw70
   refine wpL_store1 (g := g14) (off := j / 16) (n := 3) (v := .int .u64 ((((rSt p 3 (37 - (j + 1))).getD (j / 16) 0 + 2 ^ (j % 16)) % 18446744073709551616 : Nat) : Int)) (by rfl) (by rfl) (by rfl) (by rfl) (by rfl) (M.t 0 rfl) (by omega) info27 rfl (fun w71 P R T => ?_)
   replace M := M.put1 (j := j / 16) 0 rfl P R T (Nat.zero_add _).symm
   simp only [List.set] at M
   rw [qcells_set] at M
   refine wpL_nil (no_panic ?_)
   refine hK68 _ _ ?_
   refine wp_seq_k (fun K72 hK72 => ?_)
   refine wp_region_seq ?_
   refine wpL_move (v := .slice (some ⟨g14, 0, none⟩) 3 3) (by rfl) (by rfl) (by rfl) ?_
   simp only [putT, List.set]
   refine wpL_assign (v := .slice (some ⟨g14, 0, none⟩) 3 3) (by rfl) (by rfl) (by rfl) ?_
   simp only [putT, List.set]
   refine wpL_nil (no_panic ?_)
   refine hK72 _ _ ?_
   refine wp_seq_k (fun K74 hK74 => ?_)
   refine wp_seq_k (fun K75 hK75 => ?_)
   refine wp_region_seq ?_
   refine wpL_assign (v := .int .i64 1) (by rfl) (by rfl) (by rfl) ?_
   simp only [putT, List.set]
   refine wpL_nil (no_panic ?_)
   refine hK75 _ _ ?_
   refine wp_block ?_
   refine wp_loop_rounds 3 ?_
   rw [rounds_succ]
   refine wp_seq_k (fun K77 hK77 => ?_)
   refine wp_seq_k (fun K78 hK78 => ?_)
   refine wp_region_seq ?_
   refine wpL_move (v := .int .i64 1) (by rfl) (by rfl) (by rfl) ?_
   simp only [putT, List.set]
   refine wpL_move (v := .int .i64 3) (by rfl) (by rfl) (by rfl) ?_
   simp only [putT, List.set]
   refine wpL_chunk 1 (by rfl) (fun Lk hLk => ?_)
   simp only [List.take, List.drop]
   refine wpV_bin (v := .bool true) (by rfl) rfl rfl rfl (fun W => run_lss _ _ _ _ W) ?_
   simp only [putT, List.set]
   refine wpV_nil (hLk _ (fun w80 Sw80 => ?_))
   clear hLk Lk
   simp only [List.take, List.drop]
   replace M := M.sees Sw80
   refine wpL_nil (no_panic ?_)
   refine hK78 _ _ ?_
   refine wp_cond_true rfl ?_
   refine wp_skip ?_
   refine hK77 _ _ ?_
   refine wp_seq_k (fun K81 hK81 => ?_)
   refine wp_block ?_
   refine wp_region_seq ?_
   refine wpL_move (v := .slice (some ⟨g14, 0, none⟩) 3 3) (by rfl) (by rfl) (by rfl) ?_
   simp only [putT, List.set]
   refine wpL_move (v := .slice (some ⟨g14, 0, none⟩) 3 3) (by rfl) (by rfl) (by rfl) ?_
   simp only [putT, List.set]
   refine wpL_callE (f := 91) (args := #[.slice (some ⟨g14, 0, none⟩) 3 3, .slice (some ⟨g14, 0, none⟩) 3 3]) (R := fun v9 W9 => ∃ g84 g84c, v9 = .slice (some ⟨g84, 0, none⟩) ((addBit (rSt p 3 (37 - (j + 1))) j).length + (addBit (rSt p 3 (37 - (j + 1))) j).length) g84c ∧ (addBit (rSt p 3 (37 - (j + 1))) j).length + (addBit (rSt p 3 (37 - (j + 1))) j).length ≤ g84c ∧ Mem [] w80 W9 [⟨g84, g84c, [(0, qcells (timesL (addBit (rSt p 3 (37 - (j + 1))) j) (addBit (rSt p 3 (37 - (j + 1))) j)))]⟩]) (by rfl) (by rfl) rfl Tryd.func91 (by kernel_rfl) (by kernel_rfl) (times_c (a := addBit (rSt p 3 (37 - (j + 1))) j) (b := addBit (rSt p 3 (37 - (j + 1))) j) (by simp only [timesL_len, powL, addBit_len, subBit_len, rSt_len, wholeL_len]; decide) (by simp only [timesL_len, powL, addBit_len, subBit_len, rSt_len, wholeL_len]; decide) (RowA.of (M.r 0 0 rfl rfl) (M.lt 0 rfl) (by simp only [qcells_len, timesL_len, addBit_len, subBit_len, rSt_len, wholeL_len]) (Nat.le_refl _)) (RowA.of (M.r 0 0 rfl rfl) (M.lt 0 rfl) (by simp only [qcells_len, timesL_len, addBit_len, subBit_len, rSt_len, wholeL_len]) (Nat.le_refl _))) (fun v9 w83 hv9 Sw83 => ?_)
   obtain ⟨g84, g84c, rfl, Cg84, M9⟩ := hv9
   replace M := M.call1 M9
   clear Sw83
   simp only [putT, List.set]
   refine wpL_assign (v := .slice (some ⟨g84, 0, none⟩) ((addBit (rSt p 3 (37 - (j + 1))) j).length + (addBit (rSt p 3 (37 - (j + 1))) j).length) g84c) (by rfl) (by rfl) (by rfl) ?_
   simp only [putT, List.set]
   refine wpL_nil (no_panic ?_)
   refine hK81 _ _ ?_
   refine wp_region_seq ?_
   refine wpL_move (v := .int .i64 1) (by rfl) (by rfl) (by rfl) ?_
   simp only [putT, List.set]
   refine wpL_chunk 1 (by rfl) (fun Lk hLk => ?_)
   simp only [List.take, List.drop]
   refine wpV_bin (v := .int .i64 2) (by rfl) rfl rfl rfl (fun W => run_add (by decide) W) ?_
   simp only [putT, List.set]
   refine wpV_nil (hLk _ (fun w86 Sw86 => ?_))
   clear hLk Lk
   simp only [List.take, List.drop]
   replace M := M.sees Sw86
   refine wpL_assign (v := .int .i64 2) (by rfl) (by rfl) (by rfl) ?_
   simp only [putT, List.set]
   refine wpL_nil (no_panic ?_)
   refine then_normal (Q := fun _ _ _ => True) ?_
   rw [rounds_succ]
   refine wp_seq_k (fun K87 hK87 => ?_)
   refine wp_seq_k (fun K88 hK88 => ?_)
   refine wp_region_seq ?_
   refine wpL_move (v := .int .i64 2) (by rfl) (by rfl) (by rfl) ?_
   simp only [putT, List.set]
   refine wpL_move (v := .int .i64 3) (by rfl) (by rfl) (by rfl) ?_
   simp only [putT, List.set]
   refine wpL_chunk 1 (by rfl) (fun Lk hLk => ?_)
   simp only [List.take, List.drop]
   refine wpV_bin (v := .bool true) (by rfl) rfl rfl rfl (fun W => run_lss _ _ _ _ W) ?_
   simp only [putT, List.set]
   refine wpV_nil (hLk _ (fun w90 Sw90 => ?_))
   clear hLk Lk
   simp only [List.take, List.drop]
   replace M := M.sees Sw90
   refine wpL_nil (no_panic ?_)
   refine hK88 _ _ ?_
   refine wp_cond_true rfl ?_
   refine wp_skip ?_
   refine hK87 _ _ ?_
   refine wp_seq_k (fun K91 hK91 => ?_)
   refine wp_block ?_
   refine wp_region_seq ?_
   refine wpL_move (v := .slice (some ⟨g84, 0, none⟩) ((addBit (rSt p 3 (37 - (j + 1))) j).length + (addBit (rSt p 3 (37 - (j + 1))) j).length) g84c) (by rfl) (by rfl) (by rfl) ?_
   simp only [putT, List.set]
   refine wpL_move (v := .slice (some ⟨g14, 0, none⟩) 3 3) (by rfl) (by rfl) (by rfl) ?_
   simp only [putT, List.set]
   refine wpL_callE (f := 91) (args := #[.slice (some ⟨g84, 0, none⟩) ((addBit (rSt p 3 (37 - (j + 1))) j).length + (addBit (rSt p 3 (37 - (j + 1))) j).length) g84c, .slice (some ⟨g14, 0, none⟩) 3 3]) (R := fun v9 W9 => ∃ g94 g94c, v9 = .slice (some ⟨g94, 0, none⟩) ((timesL (addBit (rSt p 3 (37 - (j + 1))) j) (addBit (rSt p 3 (37 - (j + 1))) j)).length + (addBit (rSt p 3 (37 - (j + 1))) j).length) g94c ∧ (timesL (addBit (rSt p 3 (37 - (j + 1))) j) (addBit (rSt p 3 (37 - (j + 1))) j)).length + (addBit (rSt p 3 (37 - (j + 1))) j).length ≤ g94c ∧ Mem [] w90 W9 [⟨g94, g94c, [(0, qcells (timesL (timesL (addBit (rSt p 3 (37 - (j + 1))) j) (addBit (rSt p 3 (37 - (j + 1))) j)) (addBit (rSt p 3 (37 - (j + 1))) j)))]⟩]) (by rfl) (by rfl) rfl Tryd.func91 (by kernel_rfl) (by kernel_rfl) (times_c (a := timesL (addBit (rSt p 3 (37 - (j + 1))) j) (addBit (rSt p 3 (37 - (j + 1))) j)) (b := addBit (rSt p 3 (37 - (j + 1))) j) (by simp only [timesL_len, powL, addBit_len, subBit_len, rSt_len, wholeL_len]; decide) (by simp only [timesL_len, powL, addBit_len, subBit_len, rSt_len, wholeL_len]; decide) (RowA.of (M.r 0 0 rfl rfl) (M.lt 0 rfl) (by simp only [qcells_len, timesL_len, addBit_len, subBit_len, rSt_len, wholeL_len]) Cg84) (RowA.of (M.r 1 0 rfl rfl) (M.lt 1 rfl) (by simp only [qcells_len, timesL_len, addBit_len, subBit_len, rSt_len, wholeL_len]) (Nat.le_refl _))) (fun v9 w93 hv9 Sw93 => ?_)
   obtain ⟨g94, g94c, rfl, Cg94, M9⟩ := hv9
   replace M := M.call1 M9
   clear Sw93
   simp only [putT, List.set]
   refine wpL_assign (v := .slice (some ⟨g94, 0, none⟩) ((timesL (addBit (rSt p 3 (37 - (j + 1))) j) (addBit (rSt p 3 (37 - (j + 1))) j)).length + (addBit (rSt p 3 (37 - (j + 1))) j).length) g94c) (by rfl) (by rfl) (by rfl) ?_
   simp only [putT, List.set]
   refine wpL_nil (no_panic ?_)
   refine hK91 _ _ ?_
   refine wp_region_seq ?_
   refine wpL_move (v := .int .i64 2) (by rfl) (by rfl) (by rfl) ?_
   simp only [putT, List.set]
   refine wpL_chunk 1 (by rfl) (fun Lk hLk => ?_)
   simp only [List.take, List.drop]
   refine wpV_bin (v := .int .i64 3) (by rfl) rfl rfl rfl (fun W => run_add (by decide) W) ?_
   simp only [putT, List.set]
   refine wpV_nil (hLk _ (fun w96 Sw96 => ?_))
   clear hLk Lk
   simp only [List.take, List.drop]
   replace M := M.sees Sw96
   refine wpL_assign (v := .int .i64 3) (by rfl) (by rfl) (by rfl) ?_
   simp only [putT, List.set]
   refine wpL_nil (no_panic ?_)
   refine then_normal (Q := fun _ _ _ => True) ?_
   rw [rounds_succ]
   refine wp_seq_k (fun K97 hK97 => ?_)
   refine wp_seq_k (fun K98 hK98 => ?_)
   refine wp_region_seq ?_
   refine wpL_move (v := .int .i64 3) (by rfl) (by rfl) (by rfl) ?_
   simp only [putT, List.set]
   refine wpL_move (v := .int .i64 3) (by rfl) (by rfl) (by rfl) ?_
   simp only [putT, List.set]
   refine wpL_chunk 1 (by rfl) (fun Lk hLk => ?_)
   simp only [List.take, List.drop]
   refine wpV_bin (v := .bool false) (by rfl) rfl rfl rfl (fun W => run_lss _ _ _ _ W) ?_
   simp only [putT, List.set]
   refine wpV_nil (hLk _ (fun w100 Sw100 => ?_))
   clear hLk Lk
   simp only [List.take, List.drop]
   replace M := M.sees Sw100
   refine wpL_nil (no_panic ?_)
   refine hK98 _ _ ?_
   refine wp_cond_false rfl ?_
   refine wp_exit ?_
   refine hK74 _ _ ?_
   refine wp_seq_k (fun K101 hK101 => ?_)
   refine wp_region_seq ?_
   refine wpL_move (v := .slice (some ⟨g94, 0, none⟩) ((timesL (addBit (rSt p 3 (37 - (j + 1))) j) (addBit (rSt p 3 (37 - (j + 1))) j)).length + (addBit (rSt p 3 (37 - (j + 1))) j).length) g94c) (by rfl) (by rfl) (by rfl) ?_
   simp only [putT, List.set]
   refine wpL_move (v := .slice (some ⟨g6, 0, none⟩) 7 7) (by rfl) (by rfl) (by rfl) ?_
   simp only [putT, List.set]
   refine wpL_chunk 1 (by rfl) (fun Lk hLk => ?_)
   simp only [List.take, List.drop]
   refine wpV_callf (v := .bool (aboveL (timesL (timesL (addBit (rSt p 3 (37 - (j + 1))) j) (addBit (rSt p 3 (37 - (j + 1))) j)) (addBit (rSt p 3 (37 - (j + 1))) j)) (wholeL p 3))) (args := #[.slice (some ⟨g94, 0, none⟩) ((timesL (addBit (rSt p 3 (37 - (j + 1))) j) (addBit (rSt p 3 (37 - (j + 1))) j)).length + (addBit (rSt p 3 (37 - (j + 1))) j).length) g94c, .slice (some ⟨g6, 0, none⟩) 7 7]) (by rfl) rfl Tryd.func92 (by kernel_rfl) (by kernel_rfl) rfl (fun W hW => above_c (a := timesL (timesL (addBit (rSt p 3 (37 - (j + 1))) j) (addBit (rSt p 3 (37 - (j + 1))) j)) (addBit (rSt p 3 (37 - (j + 1))) j)) (b := wholeL p 3) (by simp only [timesL_len, powL, addBit_len, subBit_len, rSt_len, wholeL_len]; decide) (by simp only [timesL_len, powL, addBit_len, subBit_len, rSt_len, wholeL_len]; decide) (RowA.of ((M.sees hW).r 0 0 rfl rfl) ((M.sees hW).lt 0 rfl) (by simp only [qcells_len, timesL_len, addBit_len, subBit_len, rSt_len, wholeL_len]) Cg94) (RowA.of ((M.sees hW).r 3 0 rfl rfl) ((M.sees hW).lt 3 rfl) (by simp only [qcells_len, timesL_len, addBit_len, subBit_len, rSt_len, wholeL_len]) (Nat.le_refl _))) ?_
   simp only [putT, List.set]
   refine wpV_nil (hLk _ (fun w103 Sw103 => ?_))
   clear hLk Lk
   simp only [List.take, List.drop]
   replace M := M.sees Sw103
   refine wpL_nil (no_panic ?_)
   refine hK101 _ _ ?_
   cases hc104 : (aboveL (timesL (timesL (addBit (rSt p 3 (37 - (j + 1))) j) (addBit (rSt p 3 (37 - (j + 1))) j)) (addBit (rSt p 3 (37 - (j + 1))) j)) (wholeL p 3))
   ·
    have hab : aboveL (timesL (timesL (addBit (rSt p 3 (37 - (j + 1))) j) (addBit (rSt p 3 (37 - (j + 1))) j)) (addBit (rSt p 3 (37 - (j + 1))) j)) (wholeL p 3) = false := hc104
    refine wp_cond_false rfl ?_
    refine wp_skip ?_
    refine hK55 _ _ ?_
    refine wp_region_seq ?_
    refine wpL_move (v := .int .i64 ((j : Nat) : Int)) (by rfl) (by rfl) (by rfl) ?_
    simp only [putT, List.set]
    refine wpL_chunk 1 (by rfl) (fun Lk hLk => ?_)
    simp only [List.take, List.drop]
    refine wpV_bin (v := .int .i64 (((j : Nat) : Int) - 1)) (by rfl) rfl rfl rfl (fun W => run_sub (by simp only [IntKind.wrap_i64]; omega) W) ?_
    simp only [putT, List.set]
    refine wpV_nil (hLk _ (fun w106 Sw106 => ?_))
    clear hLk Lk
    simp only [List.take, List.drop]
    replace M := M.sees Sw106
    refine wpL_assign (v := .int .i64 (((j : Nat) : Int) - 1)) (by rfl) (by rfl) (by rfl) ?_
    simp only [putT, List.set]
    refine wpL_nil (no_panic ?_)
    have hrd : rSt p 3 (37 - j) = addBit (rSt p 3 (37 - (j + 1))) j := (rSt_down (by omega)).trans (rStep_no hab)
    replace M := M.read1 (cs := qcells (rSt p 3 (37 - j))) 2 rfl (by rw [hrd]; exact (M.r 2 0 rfl rfl))
    simp only [List.set] at M
    refine Exists.intro _ ⟨?_, j, (fun q9 => (#[undef, undef, undef, undef, undef, undef, undef, undef, .int .u64 ((2 ^ (j % 16) : Nat) : Int), .int .i64 (((j % 16) : Nat) : Int), .slice (some ⟨g94, 0, none⟩) ((timesL (addBit (rSt p 3 (37 - (j + 1))) j) (addBit (rSt p 3 (37 - (j + 1))) j)).length + (addBit (rSt p 3 (37 - (j + 1))) j).length) g94c, .int .i64 3, undef, undef, undef, undef, undef, undef, undef, undef, undef, undef, undef, undef, .int .i64 ((j : Nat) : Int), .bool true, .int .i64 ((j : Nat) : Int), .int .i64 (((j : Nat) : Int) - 1), .int .i64 (((j % 16) : Nat) : Int), .int .i64 ((j : Nat) : Int), .int .i64 ((j % 16 : Nat) : Int), .bool false, u61 32, u61 33, u61 34, u61 35, .slice (some ⟨g14, 0, none⟩) 3 3, .int .i64 ((j : Nat) : Int), .int .i64 ((j / 16 : Nat) : Int), .slice (some ⟨g14, 0, none⟩) 3 3, .int .i64 ((j : Nat) : Int), .int .i64 ((j / 16 : Nat) : Int), .pointer (some ⟨g14, j / 16, none⟩), .int .u64 (((rSt p 3 (37 - (j + 1))).getD (j / 16) 0 : Nat) : Int), .int .u64 ((2 ^ (j % 16) : Nat) : Int), .int .u64 ((((rSt p 3 (37 - (j + 1))).getD (j / 16) 0 + 2 ^ (j % 16)) % 18446744073709551616 : Nat) : Int), .pointer (some ⟨g14, j / 16, none⟩), .slice (some ⟨g14, 0, none⟩) 3 3, .int .i64 3, .int .i64 3, .bool false, .int .i64 2, .int .i64 3, .slice (some ⟨g84, 0, none⟩) ((addBit (rSt p 3 (37 - (j + 1))) j).length + (addBit (rSt p 3 (37 - (j + 1))) j).length) g84c, .slice (some ⟨g14, 0, none⟩) 3 3, .slice (some ⟨g94, 0, none⟩) ((timesL (addBit (rSt p 3 (37 - (j + 1))) j) (addBit (rSt p 3 (37 - (j + 1))) j)).length + (addBit (rSt p 3 (37 - (j + 1))) j).length) g94c, .slice (some ⟨g94, 0, none⟩) ((timesL (addBit (rSt p 3 (37 - (j + 1))) j) (addBit (rSt p 3 (37 - (j + 1))) j)).length + (addBit (rSt p 3 (37 - (j + 1))) j).length) g94c, .slice (some ⟨g6, 0, none⟩) 7 7, .bool false, u19 59, u19 60, u19 61, u19 62, u19 63, u19 64, u19 65, u19 66, u19 67, u19 68, u19 69] : Array Value).getD q9 undef), rfl, rfl, (M.pick [2, 3] (by decide) rfl), (by omega)⟩
    omega
   ·
    have hab : aboveL (timesL (timesL (addBit (rSt p 3 (37 - (j + 1))) j) (addBit (rSt p 3 (37 - (j + 1))) j)) (addBit (rSt p 3 (37 - (j + 1))) j)) (wholeL p 3) = true := hc104
    refine wp_cond_true rfl ?_
    refine wp_region_seq ?_
    refine wpL_move (v := .slice (some ⟨g14, 0, none⟩) 3 3) (by rfl) (by rfl) (by rfl) ?_
    simp only [putT, List.set]
    refine wpL_move (v := .int .i64 ((j : Nat) : Int)) (by rfl) (by rfl) (by rfl) ?_
    simp only [putT, List.set]
    refine wpL_chunk 9 (by rfl) (fun Lk hLk => ?_)
    simp only [List.take, List.drop]
    refine wpV_bin (v := .int .i64 ((j / 16 : Nat) : Int)) (by rfl) rfl rfl rfl (fun W => run_quo (by decide) (by rw [show (16 : Int) = ((16 : Nat) : Int) from rfl, tdiv_nat]; simp only [IntKind.wrap_i64]; omega) W) ?_
    simp only [putT, List.set]
    refine wpV_move (v := .slice (some ⟨g14, 0, none⟩) 3 3) (by rfl) rfl rfl ?_
    simp only [putT, List.set]
    refine wpV_move (v := .int .i64 ((j : Nat) : Int)) (by rfl) rfl rfl ?_
    simp only [putT, List.set]
    refine wpV_bin (v := .int .i64 ((j / 16 : Nat) : Int)) (by rfl) rfl rfl rfl (fun W => run_quo (by decide) (by rw [show (16 : Int) = ((16 : Nat) : Int) from rfl, tdiv_nat]; simp only [IntKind.wrap_i64]; omega) W) ?_
    simp only [putT, List.set]
    refine wpV_idxs (n := j / 16) (by rfl) rfl rfl rfl Tryd.underlying93 info27 (by omega) ?_
    simp only [Nat.zero_add]
    simp only [putT, List.set]
    refine wpV_load1 (v := .int .u64 (((addBit (rSt p 3 (37 - (j + 1))) j).getD (j / 16) 0 : Nat) : Int)) (by rfl) rfl rfl (zadd ((M.r 2 0 rfl rfl) _ _ (qcells_get (l := addBit (rSt p 3 (37 - (j + 1))) j) (by simp only [addBit_len, rSt_len]; omega)))) (M.lt 2 rfl) Tryd.underlying27 rfl ?_
    simp only [putT, List.set]
    refine wpV_move (v := .int .u64 ((2 ^ (j % 16) : Nat) : Int)) (by rfl) rfl rfl ?_
    simp only [putT, List.set]
    refine wpV_bin (v := .int .u64 ((((addBit (rSt p 3 (37 - (j + 1))) j).getD (j / 16) 0 + 18446744073709551616 - 2 ^ (j % 16)) % 18446744073709551616 : Nat) : Int)) (by rfl) rfl rfl rfl (fun W => nr_subW64 (Nat.le_trans (two_pow_small (Nat.le_refl _)) (by decide)) W) ?_
    simp only [putT, List.set]
    refine wpV_idxs (n := j / 16) (by rfl) rfl rfl rfl Tryd.underlying93 info27 (by omega) ?_
    simp only [Nat.zero_add]
    simp only [putT, List.set]
    refine wpV_nil (hLk _ (fun w108 Sw108 => ?_))
    clear hLk Lk
    simp only [List.take, List.drop]
    replace M := M.sees Sw108
    refine wpL_store1 (g := g14) (off := j / 16) (n := 3) (v := .int .u64 ((((addBit (rSt p 3 (37 - (j + 1))) j).getD (j / 16) 0 + 18446744073709551616 - 2 ^ (j % 16)) % 18446744073709551616 : Nat) : Int)) (by rfl) (by rfl) (by rfl) (by rfl) (by rfl) (M.t 2 rfl) (by omega) info27 rfl (fun w109 P R T => ?_)
    replace M := M.put1 (j := j / 16) 2 rfl P R T (Nat.zero_add _).symm
    simp only [List.set] at M
    rw [qcells_set] at M
    refine wpL_nil (no_panic ?_)
    refine hK55 _ _ ?_
    refine wp_region_seq ?_
    refine wpL_move (v := .int .i64 ((j : Nat) : Int)) (by rfl) (by rfl) (by rfl) ?_
    simp only [putT, List.set]
    refine wpL_chunk 1 (by rfl) (fun Lk hLk => ?_)
    simp only [List.take, List.drop]
    refine wpV_bin (v := .int .i64 (((j : Nat) : Int) - 1)) (by rfl) rfl rfl rfl (fun W => run_sub (by simp only [IntKind.wrap_i64]; omega) W) ?_
    simp only [putT, List.set]
    refine wpV_nil (hLk _ (fun w111 Sw111 => ?_))
    clear hLk Lk
    simp only [List.take, List.drop]
    replace M := M.sees Sw111
    refine wpL_assign (v := .int .i64 (((j : Nat) : Int) - 1)) (by rfl) (by rfl) (by rfl) ?_
    simp only [putT, List.set]
    refine wpL_nil (no_panic ?_)
    have hrd : rSt p 3 (37 - j) = subBit (addBit (rSt p 3 (37 - (j + 1))) j) j := (rSt_down (by omega)).trans (rStep_yes hab)
    replace M := M.read1 (cs := qcells (rSt p 3 (37 - j))) 2 rfl (by rw [hrd]; exact (M.r 2 0 rfl rfl))
    simp only [List.set] at M
    refine Exists.intro _ ⟨?_, j, (fun q9 => (#[undef, undef, undef, undef, undef, undef, undef, undef, .int .u64 ((2 ^ (j % 16) : Nat) : Int), .int .i64 (((j % 16) : Nat) : Int), .slice (some ⟨g94, 0, none⟩) ((timesL (addBit (rSt p 3 (37 - (j + 1))) j) (addBit (rSt p 3 (37 - (j + 1))) j)).length + (addBit (rSt p 3 (37 - (j + 1))) j).length) g94c, .int .i64 3, undef, undef, undef, undef, undef, undef, undef, undef, undef, undef, undef, undef, .int .i64 ((j : Nat) : Int), .bool true, .int .i64 ((j : Nat) : Int), .int .i64 (((j : Nat) : Int) - 1), .int .i64 (((j % 16) : Nat) : Int), .int .i64 ((j : Nat) : Int), .int .i64 ((j % 16 : Nat) : Int), .bool false, u61 32, u61 33, u61 34, u61 35, .slice (some ⟨g14, 0, none⟩) 3 3, .int .i64 ((j : Nat) : Int), .int .i64 ((j / 16 : Nat) : Int), .slice (some ⟨g14, 0, none⟩) 3 3, .int .i64 ((j : Nat) : Int), .int .i64 ((j / 16 : Nat) : Int), .pointer (some ⟨g14, j / 16, none⟩), .int .u64 (((rSt p 3 (37 - (j + 1))).getD (j / 16) 0 : Nat) : Int), .int .u64 ((2 ^ (j % 16) : Nat) : Int), .int .u64 ((((rSt p 3 (37 - (j + 1))).getD (j / 16) 0 + 2 ^ (j % 16)) % 18446744073709551616 : Nat) : Int), .pointer (some ⟨g14, j / 16, none⟩), .slice (some ⟨g14, 0, none⟩) 3 3, .int .i64 3, .int .i64 3, .bool false, .int .i64 2, .int .i64 3, .slice (some ⟨g84, 0, none⟩) ((addBit (rSt p 3 (37 - (j + 1))) j).length + (addBit (rSt p 3 (37 - (j + 1))) j).length) g84c, .slice (some ⟨g14, 0, none⟩) 3 3, .slice (some ⟨g94, 0, none⟩) ((timesL (addBit (rSt p 3 (37 - (j + 1))) j) (addBit (rSt p 3 (37 - (j + 1))) j)).length + (addBit (rSt p 3 (37 - (j + 1))) j).length) g94c, .slice (some ⟨g94, 0, none⟩) ((timesL (addBit (rSt p 3 (37 - (j + 1))) j) (addBit (rSt p 3 (37 - (j + 1))) j)).length + (addBit (rSt p 3 (37 - (j + 1))) j).length) g94c, .slice (some ⟨g6, 0, none⟩) 7 7, .bool true, .slice (some ⟨g14, 0, none⟩) 3 3, .int .i64 ((j : Nat) : Int), .int .i64 ((j / 16 : Nat) : Int), .slice (some ⟨g14, 0, none⟩) 3 3, .int .i64 ((j : Nat) : Int), .int .i64 ((j / 16 : Nat) : Int), .pointer (some ⟨g14, j / 16, none⟩), .int .u64 (((addBit (rSt p 3 (37 - (j + 1))) j).getD (j / 16) 0 : Nat) : Int), .int .u64 ((2 ^ (j % 16) : Nat) : Int), .int .u64 ((((addBit (rSt p 3 (37 - (j + 1))) j).getD (j / 16) 0 + 18446744073709551616 - 2 ^ (j % 16)) % 18446744073709551616 : Nat) : Int), .pointer (some ⟨g14, j / 16, none⟩)] : Array Value).getD q9 undef), rfl, rfl, (M.pick [2, 3] (by decide) rfl), (by omega)⟩
    omega
  ·
   have hi : i < j % 16 := of_decide_eq_true hc67
   refine wp_cond_true rfl ?_
   refine wp_skip ?_
   refine hK63 _ _ ?_
   refine wp_seq_k (fun K112 hK112 => ?_)
   refine wp_block ?_
   refine wp_region_seq ?_
   refine wpL_move (v := .int .u64 ((2 ^ i : Nat) : Int)) (by rfl) (by rfl) (by rfl) ?_
   simp only [putT, List.set]
   refine wpL_chunk 1 (by rfl) (fun Lk hLk => ?_)
   simp only [List.take, List.drop]
   refine wpV_bin (v := .int .u64 ((2 ^ (i + 1) : Nat) : Int)) (by rfl) rfl rfl rfl (fun W => (by have := nr_mul64 (P := Tryd.prog) 27 2 (2 ^ i) W; rw [two_pow_next hi] at this; exact this)) ?_
   simp only [putT, List.set]
   refine wpV_nil (hLk _ (fun w114 Sw114 => ?_))
   clear hLk Lk
   simp only [List.take, List.drop]
   replace M := M.sees Sw114
   refine wpL_assign (v := .int .u64 ((2 ^ (i + 1) : Nat) : Int)) (by rfl) (by rfl) (by rfl) ?_
   simp only [putT, List.set]
   refine wpL_nil (no_panic ?_)
   refine hK112 _ _ ?_
   refine wp_region_seq ?_
   refine wpL_move (v := .int .i64 ((i : Nat) : Int)) (by rfl) (by rfl) (by rfl) ?_
   simp only [putT, List.set]
   refine wpL_chunk 1 (by rfl) (fun Lk hLk => ?_)
   simp only [List.take, List.drop]
   refine wpV_bin (v := .int .i64 ((i + 1 : Nat) : Int)) (by rfl) rfl rfl rfl (fun W => run_add (by simp only [IntKind.wrap_i64]; omega) W) ?_
   simp only [putT, List.set]
   refine wpV_nil (hLk _ (fun w116 Sw116 => ?_))
   clear hLk Lk
   simp only [List.take, List.drop]
   replace M := M.sees Sw116
   refine wpL_assign (v := .int .i64 ((i + 1 : Nat) : Int)) (by rfl) (by rfl) (by rfl) ?_
   simp only [putT, List.set]
   refine wpL_nil (no_panic ?_)
   refine Exists.intro _ ⟨?_, (i + 1), (fun q9 => (#[undef, undef, undef, undef, undef, undef, undef, undef, undef, undef, undef, undef, undef, undef, undef, undef, undef, undef, undef, undef, undef, undef, undef, undef, undef, undef, undef, undef, .int .i64 ((i : Nat) : Int), .int .i64 ((j : Nat) : Int), .int .i64 ((j % 16 : Nat) : Int), .bool true, .int .i64 ((i : Nat) : Int), .int .i64 ((i + 1 : Nat) : Int), .int .u64 ((2 ^ i : Nat) : Int), .int .u64 ((2 ^ (i + 1) : Nat) : Int)] : Array Value).getD q9 undef), rfl, rfl, M, (by omega)⟩
   omega
set_option maxHeartbeats 2000000 in
theorem root2_c {p : Nat} {w : World}  :
  Calls Tryd.prog 73 #[.int .u64 ((p : Nat) : Int), .int .i64 2] w fun e w' => e = .returned (.int .u32 ((rootL p 2 : Nat) : Int)) ∧ Below w.heap.size w w' := by
 go_enter Tryd.func73, Tryd.ntmps73
 have M := Mem.start w
 refine wp_seq_k (fun K1 hK1 => ?_)
 refine wp_region_seq ?_
 refine wpL_assign (v := .int .u32 0) (by rfl) (by rfl) (by rfl) ?_
 simp only [putT, List.set]
 refine wpL_nil (no_panic ?_)
 refine hK1 _ _ ?_
 refine wp_seq_k (fun K3 hK3 => ?_)
 refine wp_region_seq ?_
 refine wpL_move (v := .int .i64 2) (by rfl) (by rfl) (by rfl) ?_
 simp only [putT, List.set]
 refine wpL_chunk 2 (by rfl) (fun Lk hLk => ?_)
 simp only [List.take, List.drop]
 refine wpV_bin (v := .int .i64 4) (by rfl) rfl rfl rfl (fun W => run_mul (by decide) W) ?_
 simp only [putT, List.set]
 refine wpV_bin (v := .int .i64 5) (by rfl) rfl rfl rfl (fun W => run_add (by decide) W) ?_
 simp only [putT, List.set]
 refine wpV_nil (hLk _ (fun w5 Sw5 => ?_))
 clear hLk Lk
 simp only [List.take, List.drop]
 replace M := M.sees Sw5
 refine wpL_make (n := 5) (z := .int .u64 0) (bytes := 8) (by rfl) (by rfl) (by rfl) (by rfl) Tryd.underlying93 (by kernel_rfl) rfl (by decide) (by decide) (fun g6 w7 Sw7 Hg6 Bg6 => ?_)
 replace M := ((M.sees Sw7).add (N := 5) (cs := List.replicate 5 (.int .u64 0)) (M.ge Hg6) (M.fresh Hg6) Bg6 (by simp [flen]))
 clear Bg6
 rw [show List.replicate 5 (.int .u64 0) = qcells (List.replicate 5 0) from qcells_zeros _] at M
 simp only [putT, List.set]
 refine wpL_assign (v := .slice (some ⟨g6, 0, none⟩) 5 5) (by rfl) (by rfl) (by rfl) ?_
 simp only [putT, List.set]
 refine wpL_nil (no_panic ?_)
 refine hK3 _ _ ?_
 refine wp_seq_k (fun K8 hK8 => ?_)
 refine wp_region_seq ?_
 refine wpL_move (v := .slice (some ⟨g6, 0, none⟩) 5 5) (by rfl) (by rfl) (by rfl) ?_
 simp only [putT, List.set]
 refine wpL_move (v := .int .i64 2) (by rfl) (by rfl) (by rfl) ?_
 simp only [putT, List.set]
 refine wpL_chunk 3 (by rfl) (fun Lk hLk => ?_)
 simp only [List.take, List.drop]
 refine wpV_bin (v := .int .i64 4) (by rfl) rfl rfl rfl (fun W => run_mul (by decide) W) ?_
 simp only [putT, List.set]
 refine wpV_move (v := .int .u64 ((p : Nat) : Int)) (by rfl) rfl rfl ?_
 simp only [putT, List.set]
 refine wpV_idxs (n := 4) (by rfl) rfl rfl rfl Tryd.underlying93 info27 (by omega) ?_
 simp only [Nat.zero_add]
 simp only [putT, List.set]
 refine wpV_nil (hLk _ (fun w10 Sw10 => ?_))
 clear hLk Lk
 simp only [List.take, List.drop]
 replace M := M.sees Sw10
 refine wpL_store1 (g := g6) (off := 4) (n := 5) (v := .int .u64 ((p : Nat) : Int)) (by rfl) (by rfl) (by rfl) (by rfl) (by rfl) (M.t 0 rfl) (by omega) info27 rfl (fun w11 P R T => ?_)
 replace M := M.put1 (j := 4) 0 rfl P R T (Nat.zero_add _).symm
 simp only [List.set] at M
 rw [qcells_set] at M
 refine wpL_nil (no_panic ?_)
 refine hK8 _ _ ?_
 refine wp_seq_k (fun K12 hK12 => ?_)
 refine wp_region_seq ?_
 refine wpL_make (n := 3) (z := .int .u64 0) (bytes := 8) (by rfl) (by rfl) (by rfl) (by rfl) Tryd.underlying93 (by kernel_rfl) rfl (by decide) (by decide) (fun g14 w15 Sw15 Hg14 Bg14 => ?_)
 replace M := ((M.sees Sw15).add (N := 3) (cs := List.replicate 3 (.int .u64 0)) (M.ge Hg14) (M.fresh Hg14) Bg14 (by simp [flen]))
 clear Bg14
 rw [show List.replicate 3 (.int .u64 0) = qcells (List.replicate 3 0) from qcells_zeros _] at M
 simp only [putT, List.set]
 refine wpL_assign (v := .slice (some ⟨g14, 0, none⟩) 3 3) (by rfl) (by rfl) (by rfl) ?_
 simp only [putT, List.set]
 refine wpL_nil (no_panic ?_)
 refine hK12 _ _ ?_
 refine wp_seq_k (fun K16 hK16 => ?_)
 refine wp_seq_k (fun K17 hK17 => ?_)
 refine wp_region_seq ?_
 refine wpL_assign (v := .int .i64 36) (by rfl) (by rfl) (by rfl) ?_
 simp only [putT, List.set]
 refine wpL_nil (no_panic ?_)
 refine hK17 _ _ ?_
 refine wp_block ?_
 refine wp_loop_ghost (fun n9 a9 W9 => ∃ (k : Nat) (u19 : Nat → Value), n9 = 2 * k ∧ a9 = { tmps := #[.int .u64 ((p : Nat) : Int), .int .i64 2, undef, undef, .int .u32 0, .slice (some ⟨g6, 0, none⟩) 5 5, .slice (some ⟨g14, 0, none⟩) 3 3, .int .i64 (((k : Nat) : Int) - 1), u19 8, u19 9, u19 10, u19 11, undef, undef, .int .i64 2, .int .i64 4, .int .i64 5, .slice (some ⟨g6, 0, none⟩) 5 5, .slice (some ⟨g6, 0, none⟩) 5 5, .int .i64 2, .int .i64 4, .int .u64 ((p : Nat) : Int), .pointer (some ⟨g6, 4, none⟩), .slice (some ⟨g14, 0, none⟩) 3 3, u19 24, u19 25, u19 26, u19 27, u19 28, u19 29, u19 30, u19 31, u19 32, u19 33, u19 34, u19 35, u19 36, u19 37, u19 38, u19 39, u19 40, u19 41, u19 42, u19 43, u19 44, u19 45, u19 46, u19 47, u19 48, u19 49, u19 50, u19 51, u19 52, u19 53, u19 54, u19 55, u19 56, u19 57, u19 58, u19 59, u19 60, u19 61, u19 62, u19 63, u19 64, u19 65, u19 66, u19 67, u19 68, u19 69, undef, undef, undef, undef, undef, undef, undef, undef, undef, undef, undef, undef, undef], defers := [] } ∧ Mem [] w W9 [⟨g14, 3, [(0, qcells (rSt p 2 (37 - k)))]⟩, ⟨g6, 5, [(0, qcells (wholeL p 2))]⟩] ∧ (k ≤ 37)) (2 * (37)) ?_ (fun n9 a9 W9 hI => ?_)
 ·
  exact ⟨37, (fun q9 => (#[undef, undef, undef, undef, undef, undef, undef, undef, undef, undef, undef, undef, undef, undef, undef, undef, undef, undef, undef, undef, undef, undef, undef, undef, undef, undef, undef, undef, undef, undef, undef, undef, undef, undef, undef, undef, undef, undef, undef, undef, undef, undef, undef, undef, undef, undef, undef, undef, undef, undef, undef, undef, undef, undef, undef, undef, undef, undef, undef, undef, undef, undef, undef, undef, undef, undef, undef, undef, undef, undef] : Array Value).getD q9 undef), rfl, rfl, M, (by decide)⟩
 clear M
 obtain ⟨k, u19, rfl, rfl, M, hk4⟩ := hI
 obtain ⟨w20, rfl⟩ : ∃ W8, W8 = W9 := ⟨_, rfl⟩
 refine wp_seq_k (fun K21 hK21 => ?_)
 refine wp_seq_k (fun K22 hK22 => ?_)
 refine wp_region_seq ?_
 refine wpL_move (v := .int .i64 (((k : Nat) : Int) - 1)) (by rfl) (by rfl) (by rfl) ?_
 simp only [putT, List.set]
 refine wpL_chunk 1 (by rfl) (fun Lk hLk => ?_)
 simp only [List.take, List.drop]
 refine wpV_bin (v := .bool (decide (0 ≤ ((k : Nat) : Int) - 1))) (by rfl) rfl rfl rfl (fun W => run_geq _ _ _ _ W) ?_
 simp only [putT, List.set]
 refine wpV_nil (hLk _ (fun w24 Sw24 => ?_))
 clear hLk Lk
 simp only [List.take, List.drop]
 replace M := M.sees Sw24
 refine wpL_nil (no_panic ?_)
 refine hK22 _ _ ?_
 cases hc25 : (decide (0 ≤ ((k : Nat) : Int) - 1))
 ·
  obtain rfl : k = 0 := by have := of_decide_eq_false hc25; omega
  have hRl : (rSt p 2 (37 - 0)).length = 3 := rSt_len _
  generalize hR : rSt p 2 (37 - 0) = R at M hRl
  refine wp_cond_false rfl ?_
  refine wp_exit ?_
  refine hK16 _ _ ?_
  refine wp_seq_k (fun K26 hK26 => ?_)
  refine wp_region_seq ?_
  refine wpL_assign (v := .int .u32 0) (by rfl) (by rfl) (by rfl) ?_
  simp only [putT, List.set]
  refine wpL_nil (no_panic ?_)
  refine hK26 _ _ ?_
  refine wp_seq_k (fun K28 hK28 => ?_)
  refine wp_seq_k (fun K29 hK29 => ?_)
  refine wp_region_seq ?_
  refine wpL_assign (v := .int .i64 1) (by rfl) (by rfl) (by rfl) ?_
  simp only [putT, List.set]
  refine wpL_nil (no_panic ?_)
  refine hK29 _ _ ?_
  refine wp_block ?_
  refine wp_loop_rounds 3 ?_
  rw [rounds_succ]
  refine wp_seq_k (fun K31 hK31 => ?_)
  refine wp_seq_k (fun K32 hK32 => ?_)
  refine wp_region_seq ?_
  refine wpL_move (v := .int .i64 1) (by rfl) (by rfl) (by rfl) ?_
  simp only [putT, List.set]
  refine wpL_chunk 1 (by rfl) (fun Lk hLk => ?_)
  simp only [List.take, List.drop]
  refine wpV_bin (v := .bool true) (by rfl) rfl rfl rfl (fun W => run_geq _ _ _ _ W) ?_
  simp only [putT, List.set]
  refine wpV_nil (hLk _ (fun w34 Sw34 => ?_))
  clear hLk Lk
  simp only [List.take, List.drop]
  replace M := M.sees Sw34
  refine wpL_nil (no_panic ?_)
  refine hK32 _ _ ?_
  refine wp_cond_true rfl ?_
  refine wp_skip ?_
  refine hK31 _ _ ?_
  refine wp_seq_k (fun K35 hK35 => ?_)
  refine wp_block ?_
  refine wp_region_seq ?_
  refine wpL_move (v := .int .u32 0) (by rfl) (by rfl) (by rfl) ?_
  simp only [putT, List.set]
  refine wpL_chunk 7 (by rfl) (fun Lk hLk => ?_)
  simp only [List.take, List.drop]
  refine wpV_bin (v := .int .u32 0) (by rfl) rfl rfl rfl (fun W => run_mul (by decide) W) ?_
  simp only [putT, List.set]
  refine wpV_move (v := .slice (some ⟨g14, 0, none⟩) 3 3) (by rfl) rfl rfl ?_
  simp only [putT, List.set]
  refine wpV_move (v := .int .i64 1) (by rfl) rfl rfl ?_
  simp only [putT, List.set]
  refine wpV_idxs (n := 1) (by rfl) rfl rfl rfl Tryd.underlying93 info27 (by omega) ?_
  simp only [Nat.zero_add]
  simp only [putT, List.set]
  refine wpV_load1 (v := .int .u64 ((R.getD 1 0 : Nat) : Int)) (by rfl) rfl rfl (zadd ((M.r 0 0 rfl rfl) _ _ (qcells_get (l := R) (by omega)))) (M.lt 0 rfl) Tryd.underlying27 rfl ?_
  simp only [putT, List.set]
  refine wpV_conv (d := .bool) (e := (((R.getD 1 0) % 4294967296 : Nat) : Int)) (by rfl) rfl rfl (run_conv_int Tryd.underlying27 Tryd.underlying25 (wrap32N _)) ?_
  simp only [putT, List.set]
  refine wpV_bin (v := .int .u32 (((R.getD 1 0) % 4294967296 % 4294967296 : Nat) : Int)) (by rfl) rfl rfl rfl (fun W => (by have h9 := nr_add32 (P := Tryd.prog) 25 0 ((R.getD 1 0) % 4294967296) W; rw [Nat.zero_add] at h9; exact h9)) ?_
  simp only [putT, List.set]
  refine wpV_nil (hLk _ (fun w37 Sw37 => ?_))
  clear hLk Lk
  simp only [List.take, List.drop]
  replace M := M.sees Sw37
  refine wpL_assign (v := .int .u32 (((R.getD 1 0) % 4294967296 % 4294967296 : Nat) : Int)) (by rfl) (by rfl) (by rfl) ?_
  simp only [putT, List.set]
  refine wpL_nil (no_panic ?_)
  refine hK35 _ _ ?_
  refine wp_region_seq ?_
  refine wpL_move (v := .int .i64 1) (by rfl) (by rfl) (by rfl) ?_
  simp only [putT, List.set]
  refine wpL_chunk 1 (by rfl) (fun Lk hLk => ?_)
  simp only [List.take, List.drop]
  refine wpV_bin (v := .int .i64 0) (by rfl) rfl rfl rfl (fun W => run_sub rfl W) ?_
  simp only [putT, List.set]
  refine wpV_nil (hLk _ (fun w39 Sw39 => ?_))
  clear hLk Lk
  simp only [List.take, List.drop]
  replace M := M.sees Sw39
  refine wpL_assign (v := .int .i64 0) (by rfl) (by rfl) (by rfl) ?_
  simp only [putT, List.set]
  refine wpL_nil (no_panic ?_)
  refine then_normal (Q := fun _ _ _ => True) ?_
  rw [rounds_succ]
  refine wp_seq_k (fun K40 hK40 => ?_)
  refine wp_seq_k (fun K41 hK41 => ?_)
  refine wp_region_seq ?_
  refine wpL_move (v := .int .i64 0) (by rfl) (by rfl) (by rfl) ?_
  simp only [putT, List.set]
  refine wpL_chunk 1 (by rfl) (fun Lk hLk => ?_)
  simp only [List.take, List.drop]
  refine wpV_bin (v := .bool true) (by rfl) rfl rfl rfl (fun W => run_geq _ _ _ _ W) ?_
  simp only [putT, List.set]
  refine wpV_nil (hLk _ (fun w43 Sw43 => ?_))
  clear hLk Lk
  simp only [List.take, List.drop]
  replace M := M.sees Sw43
  refine wpL_nil (no_panic ?_)
  refine hK41 _ _ ?_
  refine wp_cond_true rfl ?_
  refine wp_skip ?_
  refine hK40 _ _ ?_
  refine wp_seq_k (fun K44 hK44 => ?_)
  refine wp_block ?_
  refine wp_region_seq ?_
  refine wpL_move (v := .int .u32 (((R.getD 1 0) % 4294967296 % 4294967296 : Nat) : Int)) (by rfl) (by rfl) (by rfl) ?_
  simp only [putT, List.set]
  refine wpL_chunk 7 (by rfl) (fun Lk hLk => ?_)
  simp only [List.take, List.drop]
  refine wpV_bin (v := .int .u32 (((((R.getD 1 0) % 4294967296 % 4294967296) * 65536) % 4294967296 : Nat) : Int)) (by rfl) rfl rfl rfl (fun W => nr_mul32 _ ((R.getD 1 0) % 4294967296 % 4294967296) 65536 W) ?_
  simp only [putT, List.set]
  refine wpV_move (v := .slice (some ⟨g14, 0, none⟩) 3 3) (by rfl) rfl rfl ?_
  simp only [putT, List.set]
  refine wpV_move (v := .int .i64 0) (by rfl) rfl rfl ?_
  simp only [putT, List.set]
  refine wpV_idxs (n := 0) (by rfl) rfl rfl rfl Tryd.underlying93 info27 (by omega) ?_
  simp only [Nat.zero_add]
  simp only [putT, List.set]
  refine wpV_load1 (v := .int .u64 ((R.getD 0 0 : Nat) : Int)) (by rfl) rfl rfl (zadd ((M.r 0 0 rfl rfl) _ _ (qcells_get (l := R) (by omega)))) (M.lt 0 rfl) Tryd.underlying27 rfl ?_
  simp only [putT, List.set]
  refine wpV_conv (d := .bool) (e := (((R.getD 0 0) % 4294967296 : Nat) : Int)) (by rfl) rfl rfl (run_conv_int Tryd.underlying27 Tryd.underlying25 (wrap32N _)) ?_
  simp only [putT, List.set]
  refine wpV_bin (v := .int .u32 (((((((R.getD 1 0) % 4294967296 % 4294967296) * 65536) % 4294967296) + ((R.getD 0 0) % 4294967296)) % 4294967296 : Nat) : Int)) (by rfl) rfl rfl rfl (fun W => nr_add32 _ _ _ W) ?_
  simp only [putT, List.set]
  refine wpV_nil (hLk _ (fun w46 Sw46 => ?_))
  clear hLk Lk
  simp only [List.take, List.drop]
  replace M := M.sees Sw46
  refine wpL_assign (v := .int .u32 (((((((R.getD 1 0) % 4294967296 % 4294967296) * 65536) % 4294967296) + ((R.getD 0 0) % 4294967296)) % 4294967296 : Nat) : Int)) (by rfl) (by rfl) (by rfl) ?_
  simp only [putT, List.set]
  refine wpL_nil (no_panic ?_)
  refine hK44 _ _ ?_
  refine wp_region_seq ?_
  refine wpL_move (v := .int .i64 0) (by rfl) (by rfl) (by rfl) ?_
  simp only [putT, List.set]
  refine wpL_chunk 1 (by rfl) (fun Lk hLk => ?_)
  simp only [List.take, List.drop]
  refine wpV_bin (v := .int .i64 (-1)) (by rfl) rfl rfl rfl (fun W => run_sub (by simp only [IntKind.wrap_i64]; omega) W) ?_
  simp only [putT, List.set]
  refine wpV_nil (hLk _ (fun w48 Sw48 => ?_))
  clear hLk Lk
  simp only [List.take, List.drop]
  replace M := M.sees Sw48
  refine wpL_assign (v := .int .i64 (-1)) (by rfl) (by rfl) (by rfl) ?_
  simp only [putT, List.set]
  refine wpL_nil (no_panic ?_)
  refine then_normal (Q := fun _ _ _ => True) ?_
  rw [rounds_succ]
  refine wp_seq_k (fun K49 hK49 => ?_)
  refine wp_seq_k (fun K50 hK50 => ?_)
  refine wp_region_seq ?_
  refine wpL_move (v := .int .i64 (-1)) (by rfl) (by rfl) (by rfl) ?_
  simp only [putT, List.set]
  refine wpL_chunk 1 (by rfl) (fun Lk hLk => ?_)
  simp only [List.take, List.drop]
  refine wpV_bin (v := .bool false) (by rfl) rfl rfl rfl (fun W => run_geq _ _ _ _ W) ?_
  simp only [putT, List.set]
  refine wpV_nil (hLk _ (fun w52 Sw52 => ?_))
  clear hLk Lk
  simp only [List.take, List.drop]
  replace M := M.sees Sw52
  refine wpL_nil (no_panic ?_)
  refine hK50 _ _ ?_
  refine wp_cond_false rfl ?_
  refine wp_exit ?_
  refine hK28 _ _ ?_
  refine wp_seq_k (fun K53 hK53 => ?_)
  refine wp_region_seq ?_
  refine wpL_move (v := .int .u32 (((((((R.getD 1 0) % 4294967296 % 4294967296) * 65536) % 4294967296) + ((R.getD 0 0) % 4294967296)) % 4294967296 : Nat) : Int)) (by rfl) (by rfl) (by rfl) ?_
  simp only [putT, List.set]
  refine wpL_assign (v := .int .u32 (((((((R.getD 1 0) % 4294967296 % 4294967296) * 65536) % 4294967296) + ((R.getD 0 0) % 4294967296)) % 4294967296 : Nat) : Int)) (by rfl) (by rfl) (by rfl) ?_
  simp only [putT, List.set]
  refine wpL_nil (no_panic ?_)
  refine hK53 _ _ ?_
  refine wp_ret ?_
  repeat (first | with_reducible refine then_ret ?_ | with_reducible refine inblock_ret ?_)
  refine bodyPost_ret (v := .int .u32 (((((((R.getD 1 0) % 4294967296 % 4294967296) * 65536) % 4294967296) + ((R.getD 0 0) % 4294967296)) % 4294967296 : Nat) : Int)) (res1 rfl (.tmp (by rfl))) rfl ?_
  have BE := M.below
  exact ⟨by rw [rootL, show rSt p 2 37 = R from hR], BE⟩
 ·
  obtain ⟨j, rfl⟩ : ∃ j, k = j + 1 := ⟨k - 1, by have := of_decide_eq_true hc25; omega⟩
  rw [show (((j + 1 : Nat) : Int) - 1) = ((j : Nat) : Int) by omega]
  refine wp_cond_true rfl ?_
  refine wp_skip ?_
  refine hK21 _ _ ?_
  refine wp_seq_k (fun K55 hK55 => ?_)
  refine wp_block ?_
  refine wp_seq_k (fun K56 hK56 => ?_)
  refine wp_region_seq ?_
  refine wpL_assign (v := .int .u64 1) (by rfl) (by rfl) (by rfl) ?_
  simp only [putT, List.set]
  refine wpL_nil (no_panic ?_)
  refine hK56 _ _ ?_
  refine wp_seq_k (fun K58 hK58 => ?_)
  refine wp_seq_k (fun K59 hK59 => ?_)
  refine wp_region_seq ?_
  refine wpL_assign (v := .int .i64 0) (by rfl) (by rfl) (by rfl) ?_
  simp only [putT, List.set]
  refine wpL_nil (no_panic ?_)
  refine hK59 _ _ ?_
  refine wp_block ?_
  refine wp_loop_ghost (fun n9 a9 W9 => ∃ (i : Nat) (u61 : Nat → Value), n9 = 2 * (j % 16 - i) ∧ a9 = { tmps := #[.int .u64 ((p : Nat) : Int), .int .i64 2, undef, undef, .int .u32 0, .slice (some ⟨g6, 0, none⟩) 5 5, .slice (some ⟨g14, 0, none⟩) 3 3, .int .i64 ((j : Nat) : Int), .int .u64 ((2 ^ i : Nat) : Int), .int .i64 ((i : Nat) : Int), u19 10, u19 11, undef, undef, .int .i64 2, .int .i64 4, .int .i64 5, .slice (some ⟨g6, 0, none⟩) 5 5, .slice (some ⟨g6, 0, none⟩) 5 5, .int .i64 2, .int .i64 4, .int .u64 ((p : Nat) : Int), .pointer (some ⟨g6, 4, none⟩), .slice (some ⟨g14, 0, none⟩) 3 3, .int .i64 ((j : Nat) : Int), .bool true, u19 26, u19 27, u61 28, u61 29, u61 30, u61 31, u61 32, u61 33, u61 34, u61 35, u19 36, u19 37, u19 38, u19 39, u19 40, u19 41, u19 42, u19 43, u19 44, u19 45, u19 46, u19 47, u19 48, u19 49, u19 50, u19 51, u19 52, u19 53, u19 54, u19 55, u19 56, u19 57, u19 58, u19 59, u19 60, u19 61, u19 62, u19 63, u19 64, u19 65, u19 66, u19 67, u19 68, u19 69, undef, undef, undef, undef, undef, undef, undef, undef, undef, undef, undef, undef, undef], defers := [] } ∧ Mem [] w W9 [⟨g14, 3, [(0, qcells (rSt p 2 (37 - (j + 1))))]⟩, ⟨g6, 5, [(0, qcells (wholeL p 2))]⟩] ∧ (i ≤ j % 16)) (2 * (j % 16 - (0))) ?_ (fun n9 a9 W9 hI => ?_)
  ·
   exact ⟨0, (fun q9 => (#[undef, undef, undef, undef, undef, undef, undef, undef, undef, undef, undef, undef, undef, undef, undef, undef, undef, undef, undef, undef, undef, undef, undef, undef, undef, undef, undef, undef, u19 28, u19 29, u19 30, u19 31, u19 32, u19 33, u19 34, u19 35] : Array Value).getD q9 undef), rfl, rfl, M, (Nat.zero_le _)⟩
  clear M
  obtain ⟨i, u61, rfl, rfl, M, hi4⟩ := hI
  obtain ⟨w62, rfl⟩ : ∃ W8, W8 = W9 := ⟨_, rfl⟩
  refine wp_seq_k (fun K63 hK63 => ?_)
  refine wp_seq_k (fun K64 hK64 => ?_)
  refine wp_region_seq ?_
  refine wpL_move (v := .int .i64 ((i : Nat) : Int)) (by rfl) (by rfl) (by rfl) ?_
  simp only [putT, List.set]
  refine wpL_move (v := .int .i64 ((j : Nat) : Int)) (by rfl) (by rfl) (by rfl) ?_
  simp only [putT, List.set]
  refine wpL_chunk 2 (by rfl) (fun Lk hLk => ?_)
  simp only [List.take, List.drop]
  refine wpV_bin (v := .int .i64 ((j % 16 : Nat) : Int)) (by rfl) rfl rfl rfl (fun W => run_rem (by decide) (by exact (tmod_nat _ _)) W) ?_
  simp only [putT, List.set]
  refine wpV_bin (v := .bool (decide (i < j % 16))) (by rfl) rfl rfl rfl (fun W => run_lssN i (j % 16) _ _ W) ?_
  simp only [putT, List.set]
  refine wpV_nil (hLk _ (fun w66 Sw66 => ?_))
  clear hLk Lk
  simp only [List.take, List.drop]
  replace M := M.sees Sw66
  refine wpL_nil (no_panic ?_)
  refine hK64 _ _ ?_
  cases hc67 : (decide (i < j % 16))
  ·
   obtain rfl : i = j % 16 := by have := of_decide_eq_false hc67; omega
   refine wp_cond_false rfl ?_
   refine wp_exit ?_
   refine hK58 _ _ ?_
   refine wp_seq_k (fun K68 hK68 => ?_)
   refine wp_region_seq ?_
   refine wpL_move (v := .slice (some ⟨g14, 0, none⟩) 3 3) (by rfl) (by rfl) (by rfl) ?_
   simp only [putT, List.set]
   refine wpL_move (v := .int .i64 ((j : Nat) : Int)) (by rfl) (by rfl) (by rfl) ?_
   simp only [putT, List.set]
   refine wpL_chunk 9 (by rfl) (fun Lk hLk => ?_)
   simp only [List.take, List.drop]
   refine wpV_bin (v := .int .i64 ((j / 16 : Nat) : Int)) (by rfl) rfl rfl rfl (fun W => run_quo (by decide) (by rw [show (16 : Int) = ((16 : Nat) : Int) from rfl, tdiv_nat]; simp only [IntKind.wrap_i64]; omega) W) ?_
   simp only [putT, List.set]
   refine wpV_move (v := .slice (some ⟨g14, 0, none⟩) 3 3) (by rfl) rfl rfl ?_
   simp only [putT, List.set]
   refine wpV_move (v := .int .i64 ((j : Nat) : Int)) (by rfl) rfl rfl ?_
   simp only [putT, List.set]
   refine wpV_bin (v := .int .i64 ((j / 16 : Nat) : Int)) (by rfl) rfl rfl rfl (fun W => run_quo (by decide) (by rw [show (16 : Int) = ((16 : Nat) : Int) from rfl, tdiv_nat]; simp only [IntKind.wrap_i64]; omega) W) ?_
   simp only [putT, List.set]
   refine wpV_idxs (n := j / 16) (by rfl) rfl rfl rfl Tryd.underlying93 info27 (by omega) ?_
   simp only [Nat.zero_add]
   simp only [putT, List.set]
   refine wpV_load1 (v := .int .u64 (((rSt p 2 (37 - (j + 1))).getD (j / 16) 0 : Nat) : Int)) (by rfl) rfl rfl (zadd ((M.r 0 0 rfl rfl) _ _ (qcells_get (l := rSt p 2 (37 - (j + 1))) (by simp only [addBit_len, rSt_len]; omega)))) (M.lt 0 rfl) Tryd.underlying27 rfl ?_
   simp only [putT, List.set]
   refine wpV_move (v := .int .u64 ((2 ^ (j % 16) : Nat) : Int)) (by rfl) rfl rfl ?_
   simp only [putT, List.set]
   refine wpV_bin (v := .int .u64 ((((rSt p 2 (37 - (j + 1))).getD (j / 16) 0 + 2 ^ (j % 16)) % 18446744073709551616 : Nat) : Int)) (by rfl) rfl rfl rfl (fun W => nr_add64 _ _ _ W) ?_
   simp only [putT, List.set]
   refine wpV_idxs (n := j / 16) (by rfl) rfl rfl rfl Tryd.underlying93 info27 (by omega) ?_
   simp only [Nat.zero_add]
   simp only [putT, List.set]
   refine wpV_nil (hLk _ (fun w70 Sw70 => ?_))
   clear hLk Lk
   simp only [List.take, List.drop]
   replace M := M.sees Sw70
   refine wpL_store1 (g := g14) (off := j / 16) (n := 3) (v := .int .u64 ((((rSt p 2 (37 - (j + 1))).getD (j / 16) 0 + 2 ^ (j % 16)) % 18446744073709551616 : Nat) : Int)) (by rfl) (by rfl) (by rfl) (by rfl) (by rfl) (M.t 0 rfl) (by omega) info27 rfl (fun w71 P R T => ?_)
   replace M := M.put1 (j := j / 16) 0 rfl P R T (Nat.zero_add _).symm
   simp only [List.set] at M
   rw [qcells_set] at M
   refine wpL_nil (no_panic ?_)
   refine hK68 _ _ ?_
   refine wp_seq_k (fun K72 hK72 => ?_)
   refine wp_region_seq ?_
   refine wpL_move (v := .slice (some ⟨g14, 0, none⟩) 3 3) (by rfl) (by rfl) (by rfl) ?_
   simp only [putT, List.set]
   refine wpL_assign (v := .slice (some ⟨g14, 0, none⟩) 3 3) (by rfl) (by rfl) (by rfl) ?_
   simp only [putT, List.set]
   refine wpL_nil (no_panic ?_)
   refine hK72 _ _ ?_
   refine wp_seq_k (fun K74 hK74 => ?_)
   refine wp_seq_k (fun K75 hK75 => ?_)
   refine wp_region_seq ?_
   refine wpL_assign (v := .int .i64 1) (by rfl) (by rfl) (by rfl) ?_
   simp only [putT, List.set]
   refine wpL_nil (no_panic ?_)
   refine hK75 _ _ ?_
   refine wp_block ?_
   refine wp_loop_rounds 2 ?_
   rw [rounds_succ]
   refine wp_seq_k (fun K77 hK77 => ?_)
   refine wp_seq_k (fun K78 hK78 => ?_)
   refine wp_region_seq ?_
   refine wpL_move (v := .int .i64 1) (by rfl) (by rfl) (by rfl) ?_
   simp only [putT, List.set]
   refine wpL_move (v := .int .i64 2) (by rfl) (by rfl) (by rfl) ?_
   simp only [putT, List.set]
   refine wpL_chunk 1 (by rfl) (fun Lk hLk => ?_)
   simp only [List.take, List.drop]
   refine wpV_bin (v := .bool true) (by rfl) rfl rfl rfl (fun W => run_lss _ _ _ _ W) ?_
   simp only [putT, List.set]
   refine wpV_nil (hLk _ (fun w80 Sw80 => ?_))
   clear hLk Lk
   simp only [List.take, List.drop]
   replace M := M.sees Sw80
   refine wpL_nil (no_panic ?_)
   refine hK78 _ _ ?_
   refine wp_cond_true rfl ?_
   refine wp_skip ?_
   refine hK77 _ _ ?_
   refine wp_seq_k (fun K81 hK81 => ?_)
   refine wp_block ?_
   refine wp_region_seq ?_
   refine wpL_move (v := .slice (some ⟨g14, 0, none⟩) 3 3) (by rfl) (by rfl) (by rfl) ?_
   simp only [putT, List.set]
   refine wpL_move (v := .slice (some ⟨g14, 0, none⟩) 3 3) (by rfl) (by rfl) (by rfl) ?_
   simp only [putT, List.set]
   refine wpL_callE (f := 91) (args := #[.slice (some ⟨g14, 0, none⟩) 3 3, .slice (some ⟨g14, 0, none⟩) 3 3]) (R := fun v9 W9 => ∃ g84 g84c, v9 = .slice (some ⟨g84, 0, none⟩) ((addBit (rSt p 2 (37 - (j + 1))) j).length + (addBit (rSt p 2 (37 - (j + 1))) j).length) g84c ∧ (addBit (rSt p 2 (37 - (j + 1))) j).length + (addBit (rSt p 2 (37 - (j + 1))) j).length ≤ g84c ∧ Mem [] w80 W9 [⟨g84, g84c, [(0, qcells (timesL (addBit (rSt p 2 (37 - (j + 1))) j) (addBit (rSt p 2 (37 - (j + 1))) j)))]⟩]) (by rfl) (by rfl) rfl Tryd.func91 (by kernel_rfl) (by kernel_rfl) (times_c (a := addBit (rSt p 2 (37 - (j + 1))) j) (b := addBit (rSt p 2 (37 - (j + 1))) j) (by simp only [timesL_len, powL, addBit_len, subBit_len, rSt_len, wholeL_len]; decide) (by simp only [timesL_len, powL, addBit_len, subBit_len, rSt_len, wholeL_len]; decide) (RowA.of (M.r 0 0 rfl rfl) (M.lt 0 rfl) (by simp only [qcells_len, timesL_len, addBit_len, subBit_len, rSt_len, wholeL_len]) (Nat.le_refl _)) (RowA.of (M.r 0 0 rfl rfl) (M.lt 0 rfl) (by simp only [qcells_len, timesL_len, addBit_len, subBit_len, rSt_len, wholeL_len]) (Nat.le_refl _))) (fun v9 w83 hv9 Sw83 => ?_)
   obtain ⟨g84, g84c, rfl, Cg84, M9⟩ := hv9
   replace M := M.call1 M9
   clear Sw83
   simp only [putT, List.set]
   refine wpL_assign (v := .slice (some ⟨g84, 0, none⟩) ((addBit (rSt p 2 (37 - (j + 1))) j).length + (addBit (rSt p 2 (37 - (j + 1))) j).length) g84c) (by rfl) (by rfl) (by rfl) ?_
   simp only [putT, List.set]
   refine wpL_nil (no_panic ?_)
   refine hK81 _ _ ?_
   refine wp_region_seq ?_
   refine wpL_move (v := .int .i64 1) (by rfl) (by rfl) (by rfl) ?_
   simp only [putT, List.set]
   refine wpL_chunk 1 (by rfl) (fun Lk hLk => ?_)
   simp only [List.take, List.drop]
   refine wpV_bin (v := .int .i64 2) (by rfl) rfl rfl rfl (fun W => run_add (by decide) W) ?_
   simp only [putT, List.set]
   refine wpV_nil (hLk _ (fun w86 Sw86 => ?_))
   clear hLk Lk
   simp only [List.take, List.drop]
   replace M := M.sees Sw86
   refine wpL_assign (v := .int .i64 2) (by rfl) (by rfl) (by rfl) ?_
   simp only [putT, List.set]
   refine wpL_nil (no_panic ?_)
   refine then_normal (Q := fun _ _ _ => True) ?_
   rw [rounds_succ]
   refine wp_seq_k (fun K87 hK87 => ?_)
   refine wp_seq_k (fun K88 hK88 => ?_)
   refine wp_region_seq ?_
   refine wpL_move (v := .int .i64 2) (by rfl) (by rfl) (by rfl) ?_
   simp only [putT, List.set]
   refine wpL_move (v := .int .i64 2) (by rfl) (by rfl) (by rfl) ?_
   simp only [putT, List.set]
   refine wpL_chunk 1 (by rfl) (fun Lk hLk => ?_)
   simp only [List.take, List.drop]
   refine wpV_bin (v := .bool false) (by rfl) rfl rfl rfl (fun W => run_lss _ _ _ _ W) ?_
   simp only [putT, List.set]
   refine wpV_nil (hLk _ (fun w90 Sw90 => ?_))
   clear hLk Lk
   simp only [List.take, List.drop]
   replace M := M.sees Sw90
   refine wpL_nil (no_panic ?_)
   refine hK88 _ _ ?_
   refine wp_cond_false rfl ?_
   refine wp_exit ?_
   refine hK74 _ _ ?_
   refine wp_seq_k (fun K91 hK91 => ?_)
   refine wp_region_seq ?_
   refine wpL_move (v := .slice (some ⟨g84, 0, none⟩) ((addBit (rSt p 2 (37 - (j + 1))) j).length + (addBit (rSt p 2 (37 - (j + 1))) j).length) g84c) (by rfl) (by rfl) (by rfl) ?_
   simp only [putT, List.set]
   refine wpL_move (v := .slice (some ⟨g6, 0, none⟩) 5 5) (by rfl) (by rfl) (by rfl) ?_
   simp only [putT, List.set]
   refine wpL_chunk 1 (by rfl) (fun Lk hLk => ?_)
   simp only [List.take, List.drop]
   refine wpV_callf (v := .bool (aboveL (timesL (addBit (rSt p 2 (37 - (j + 1))) j) (addBit (rSt p 2 (37 - (j + 1))) j)) (wholeL p 2))) (args := #[.slice (some ⟨g84, 0, none⟩) ((addBit (rSt p 2 (37 - (j + 1))) j).length + (addBit (rSt p 2 (37 - (j + 1))) j).length) g84c, .slice (some ⟨g6, 0, none⟩) 5 5]) (by rfl) rfl Tryd.func92 (by kernel_rfl) (by kernel_rfl) rfl (fun W hW => above_c (a := timesL (addBit (rSt p 2 (37 - (j + 1))) j) (addBit (rSt p 2 (37 - (j + 1))) j)) (b := wholeL p 2) (by simp only [timesL_len, powL, addBit_len, subBit_len, rSt_len, wholeL_len]; decide) (by simp only [timesL_len, powL, addBit_len, subBit_len, rSt_len, wholeL_len]; decide) (RowA.of ((M.sees hW).r 0 0 rfl rfl) ((M.sees hW).lt 0 rfl) (by simp only [qcells_len, timesL_len, addBit_len, subBit_len, rSt_len, wholeL_len]) Cg84) (RowA.of ((M.sees hW).r 2 0 rfl rfl) ((M.sees hW).lt 2 rfl) (by simp only [qcells_len, timesL_len, addBit_len, subBit_len, rSt_len, wholeL_len]) (Nat.le_refl _))) ?_
   simp only [putT, List.set]
   refine wpV_nil (hLk _ (fun w93 Sw93 => ?_))
   clear hLk Lk
   simp only [List.take, List.drop]
   replace M := M.sees Sw93
   refine wpL_nil (no_panic ?_)
   refine hK91 _ _ ?_
   cases hc94 : (aboveL (timesL (addBit (rSt p 2 (37 - (j + 1))) j) (addBit (rSt p 2 (37 - (j + 1))) j)) (wholeL p 2))
   ·
    have hab : aboveL (timesL (addBit (rSt p 2 (37 - (j + 1))) j) (addBit (rSt p 2 (37 - (j + 1))) j)) (wholeL p 2) = false := hc94
    refine wp_cond_false rfl ?_
    refine wp_skip ?_
    refine hK55 _ _ ?_
    refine wp_region_seq ?_
    refine wpL_move (v := .int .i64 ((j : Nat) : Int)) (by rfl) (by rfl) (by rfl) ?_
    simp only [putT, List.set]
    refine wpL_chunk 1 (by rfl) (fun Lk hLk => ?_)
    simp only [List.take, List.drop]
    refine wpV_bin (v := .int .i64 (((j : Nat) : Int) - 1)) (by rfl) rfl rfl rfl (fun W => run_sub (by simp only [IntKind.wrap_i64]; omega) W) ?_
    simp only [putT, List.set]
    refine wpV_nil (hLk _ (fun w96 Sw96 => ?_))
    clear hLk Lk
    simp only [List.take, List.drop]
    replace M := M.sees Sw96
    refine wpL_assign (v := .int .i64 (((j : Nat) : Int) - 1)) (by rfl) (by rfl) (by rfl) ?_
    simp only [putT, List.set]
    refine wpL_nil (no_panic ?_)
    have hrd : rSt p 2 (37 - j) = addBit (rSt p 2 (37 - (j + 1))) j := (rSt_down (by omega)).trans (rStep_no hab)
    replace M := M.read1 (cs := qcells (rSt p 2 (37 - j))) 1 rfl (by rw [hrd]; exact (M.r 1 0 rfl rfl))
    simp only [List.set] at M
    refine Exists.intro _ ⟨?_, j, (fun q9 => (#[undef, undef, undef, undef, undef, undef, undef, undef, .int .u64 ((2 ^ (j % 16) : Nat) : Int), .int .i64 (((j % 16) : Nat) : Int), .slice (some ⟨g84, 0, none⟩) ((addBit (rSt p 2 (37 - (j + 1))) j).length + (addBit (rSt p 2 (37 - (j + 1))) j).length) g84c, .int .i64 2, undef, undef, undef, undef, undef, undef, undef, undef, undef, undef, undef, undef, .int .i64 ((j : Nat) : Int), .bool true, .int .i64 ((j : Nat) : Int), .int .i64 (((j : Nat) : Int) - 1), .int .i64 (((j % 16) : Nat) : Int), .int .i64 ((j : Nat) : Int), .int .i64 ((j % 16 : Nat) : Int), .bool false, u61 32, u61 33, u61 34, u61 35, .slice (some ⟨g14, 0, none⟩) 3 3, .int .i64 ((j : Nat) : Int), .int .i64 ((j / 16 : Nat) : Int), .slice (some ⟨g14, 0, none⟩) 3 3, .int .i64 ((j : Nat) : Int), .int .i64 ((j / 16 : Nat) : Int), .pointer (some ⟨g14, j / 16, none⟩), .int .u64 (((rSt p 2 (37 - (j + 1))).getD (j / 16) 0 : Nat) : Int), .int .u64 ((2 ^ (j % 16) : Nat) : Int), .int .u64 ((((rSt p 2 (37 - (j + 1))).getD (j / 16) 0 + 2 ^ (j % 16)) % 18446744073709551616 : Nat) : Int), .pointer (some ⟨g14, j / 16, none⟩), .slice (some ⟨g14, 0, none⟩) 3 3, .int .i64 2, .int .i64 2, .bool false, .int .i64 1, .int .i64 2, .slice (some ⟨g14, 0, none⟩) 3 3, .slice (some ⟨g14, 0, none⟩) 3 3, .slice (some ⟨g84, 0, none⟩) ((addBit (rSt p 2 (37 - (j + 1))) j).length + (addBit (rSt p 2 (37 - (j + 1))) j).length) g84c, .slice (some ⟨g84, 0, none⟩) ((addBit (rSt p 2 (37 - (j + 1))) j).length + (addBit (rSt p 2 (37 - (j + 1))) j).length) g84c, .slice (some ⟨g6, 0, none⟩) 5 5, .bool false, u19 59, u19 60, u19 61, u19 62, u19 63, u19 64, u19 65, u19 66, u19 67, u19 68, u19 69] : Array Value).getD q9 undef), rfl, rfl, (M.pick [1, 2] (by decide) rfl), (by omega)⟩
    omega
   ·
    have hab : aboveL (timesL (addBit (rSt p 2 (37 - (j + 1))) j) (addBit (rSt p 2 (37 - (j + 1))) j)) (wholeL p 2) = true := hc94
    refine wp_cond_true rfl ?_
    refine wp_region_seq ?_
    refine wpL_move (v := .slice (some ⟨g14, 0, none⟩) 3 3) (by rfl) (by rfl) (by rfl) ?_
    simp only [putT, List.set]
    refine wpL_move (v := .int .i64 ((j : Nat) : Int)) (by rfl) (by rfl) (by rfl) ?_
    simp only [putT, List.set]
    refine wpL_chunk 9 (by rfl) (fun Lk hLk => ?_)
    simp only [List.take, List.drop]
    refine wpV_bin (v := .int .i64 ((j / 16 : Nat) : Int)) (by rfl) rfl rfl rfl (fun W => run_quo (by decide) (by rw [show (16 : Int) = ((16 : Nat) : Int) from rfl, tdiv_nat]; simp only [IntKind.wrap_i64]; omega) W) ?_
    simp only [putT, List.set]
    refine wpV_move (v := .slice (some ⟨g14, 0, none⟩) 3 3) (by rfl) rfl rfl ?_
    simp only [putT, List.set]
    refine wpV_move (v := .int .i64 ((j : Nat) : Int)) (by rfl) rfl rfl ?_
    simp only [putT, List.set]
    refine wpV_bin (v := .int .i64 ((j / 16 : Nat) : Int)) (by rfl) rfl rfl rfl (fun W => run_quo (by decide) (by rw [show (16 : Int) = ((16 : Nat) : Int) from rfl, tdiv_nat]; simp only [IntKind.wrap_i64]; omega) W) ?_
    simp only [putT, List.set]
    refine wpV_idxs (n := j / 16) (by rfl) rfl rfl rfl Tryd.underlying93 info27 (by omega) ?_
    simp only [Nat.zero_add]
    simp only [putT, List.set]
    refine wpV_load1 (v := .int .u64 (((addBit (rSt p 2 (37 - (j + 1))) j).getD (j / 16) 0 : Nat) : Int)) (by rfl) rfl rfl (zadd ((M.r 1 0 rfl rfl) _ _ (qcells_get (l := addBit (rSt p 2 (37 - (j + 1))) j) (by simp only [addBit_len, rSt_len]; omega)))) (M.lt 1 rfl) Tryd.underlying27 rfl ?_
    simp only [putT, List.set]
    refine wpV_move (v := .int .u64 ((2 ^ (j % 16) : Nat) : Int)) (by rfl) rfl rfl ?_
    simp only [putT, List.set]
    refine wpV_bin (v := .int .u64 ((((addBit (rSt p 2 (37 - (j + 1))) j).getD (j / 16) 0 + 18446744073709551616 - 2 ^ (j % 16)) % 18446744073709551616 : Nat) : Int)) (by rfl) rfl rfl rfl (fun W => nr_subW64 (Nat.le_trans (two_pow_small (Nat.le_refl _)) (by decide)) W) ?_
    simp only [putT, List.set]
    refine wpV_idxs (n := j / 16) (by rfl) rfl rfl rfl Tryd.underlying93 info27 (by omega) ?_
    simp only [Nat.zero_add]
    simp only [putT, List.set]
    refine wpV_nil (hLk _ (fun w98 Sw98 => ?_))
    clear hLk Lk
    simp only [List.take, List.drop]
    replace M := M.sees Sw98
    refine wpL_store1 (g := g14) (off := j / 16) (n := 3) (v := .int .u64 ((((addBit (rSt p 2 (37 - (j + 1))) j).getD (j / 16) 0 + 18446744073709551616 - 2 ^ (j % 16)) % 18446744073709551616 : Nat) : Int)) (by rfl) (by rfl) (by rfl) (by rfl) (by rfl) (M.t 1 rfl) (by omega) info27 rfl (fun w99 P R T => ?_)
    replace M := M.put1 (j := j / 16) 1 rfl P R T (Nat.zero_add _).symm
    simp only [List.set] at M
    rw [qcells_set] at M
    refine wpL_nil (no_panic ?_)
    refine hK55 _ _ ?_
    refine wp_region_seq ?_
    refine wpL_move (v := .int .i64 ((j : Nat) : Int)) (by rfl) (by rfl) (by rfl) ?_
    simp only [putT, List.set]
    refine wpL_chunk 1 (by rfl) (fun Lk hLk => ?_)
    simp only [List.take, List.drop]
    refine wpV_bin (v := .int .i64 (((j : Nat) : Int) - 1)) (by rfl) rfl rfl rfl (fun W => run_sub (by simp only [IntKind.wrap_i64]; omega) W) ?_
    simp only [putT, List.set]
    refine wpV_nil (hLk _ (fun w101 Sw101 => ?_))
    clear hLk Lk
    simp only [List.take, List.drop]
    replace M := M.sees Sw101
    refine wpL_assign (v := .int .i64 (((j : Nat) : Int) - 1)) (by rfl) (by rfl) (by rfl) ?_
    simp only [putT, List.set]
    refine wpL_nil (no_panic ?_)
    have hrd : rSt p 2 (37 - j) = subBit (addBit (rSt p 2 (37 - (j + 1))) j) j := (rSt_down (by omega)).trans (rStep_yes hab)
    replace M := M.read1 (cs := qcells (rSt p 2 (37 - j))) 1 rfl (by rw [hrd]; exact (M.r 1 0 rfl rfl))
    simp only [List.set] at M
    refine Exists.intro _ ⟨?_, j, (fun q9 => (#[undef, undef, undef, undef, undef, undef, undef, undef, .int .u64 ((2 ^ (j % 16) : Nat) : Int), .int .i64 (((j % 16) : Nat) : Int), .slice (some ⟨g84, 0, none⟩) ((addBit (rSt p 2 (37 - (j + 1))) j).length + (addBit (rSt p 2 (37 - (j + 1))) j).length) g84c, .int .i64 2, undef, undef, undef, undef, undef, undef, undef, undef, undef, undef, undef, undef, .int .i64 ((j : Nat) : Int), .bool true, .int .i64 ((j : Nat) : Int), .int .i64 (((j : Nat) : Int) - 1), .int .i64 (((j % 16) : Nat) : Int), .int .i64 ((j : Nat) : Int), .int .i64 ((j % 16 : Nat) : Int), .bool false, u61 32, u61 33, u61 34, u61 35, .slice (some ⟨g14, 0, none⟩) 3 3, .int .i64 ((j : Nat) : Int), .int .i64 ((j / 16 : Nat) : Int), .slice (some ⟨g14, 0, none⟩) 3 3, .int .i64 ((j : Nat) : Int), .int .i64 ((j / 16 : Nat) : Int), .pointer (some ⟨g14, j / 16, none⟩), .int .u64 (((rSt p 2 (37 - (j + 1))).getD (j / 16) 0 : Nat) : Int), .int .u64 ((2 ^ (j % 16) : Nat) : Int), .int .u64 ((((rSt p 2 (37 - (j + 1))).getD (j / 16) 0 + 2 ^ (j % 16)) % 18446744073709551616 : Nat) : Int), .pointer (some ⟨g14, j / 16, none⟩), .slice (some ⟨g14, 0, none⟩) 3 3, .int .i64 2, .int .i64 2, .bool false, .int .i64 1, .int .i64 2, .slice (some ⟨g14, 0, none⟩) 3 3, .slice (some ⟨g14, 0, none⟩) 3 3, .slice (some ⟨g84, 0, none⟩) ((addBit (rSt p 2 (37 - (j + 1))) j).length + (addBit (rSt p 2 (37 - (j + 1))) j).length) g84c, .slice (some ⟨g84, 0, none⟩) ((addBit (rSt p 2 (37 - (j + 1))) j).length + (addBit (rSt p 2 (37 - (j + 1))) j).length) g84c, .slice (some ⟨g6, 0, none⟩) 5 5, .bool true, .slice (some ⟨g14, 0, none⟩) 3 3, .int .i64 ((j : Nat) : Int), .int .i64 ((j / 16 : Nat) : Int), .slice (some ⟨g14, 0, none⟩) 3 3, .int .i64 ((j : Nat) : Int), .int .i64 ((j / 16 : Nat) : Int), .pointer (some ⟨g14, j / 16, none⟩), .int .u64 (((addBit (rSt p 2 (37 - (j + 1))) j).getD (j / 16) 0 : Nat) : Int), .int .u64 ((2 ^ (j % 16) : Nat) : Int), .int .u64 ((((addBit (rSt p 2 (37 - (j + 1))) j).getD (j / 16) 0 + 18446744073709551616 - 2 ^ (j % 16)) % 18446744073709551616 : Nat) : Int), .pointer (some ⟨g14, j / 16, none⟩)] : Array Value).getD q9 undef), rfl, rfl, (M.pick [1, 2] (by decide) rfl), (by omega)⟩
    omega
  ·
   have hi : i < j % 16 := of_decide_eq_true hc67
   refine wp_cond_true rfl ?_
   refine wp_skip ?_
   refine hK63 _ _ ?_
   refine wp_seq_k (fun K102 hK102 => ?_)
   refine wp_block ?_
   refine wp_region_seq ?_
   refine wpL_move (v := .int .u64 ((2 ^ i : Nat) : Int)) (by rfl) (by rfl) (by rfl) ?_
   simp only [putT, List.set]
   refine wpL_chunk 1 (by rfl) (fun Lk hLk => ?_)
   simp only [List.take, List.drop]
   refine wpV_bin (v := .int .u64 ((2 ^ (i + 1) : Nat) : Int)) (by rfl) rfl rfl rfl (fun W => (by have := nr_mul64 (P := Tryd.prog) 27 2 (2 ^ i) W; rw [two_pow_next hi] at this; exact this)) ?_
   simp only [putT, List.set]
   refine wpV_nil (hLk _ (fun w104 Sw104 => ?_))
   clear hLk Lk
   simp only [List.take, List.drop]
   replace M := M.sees Sw104
   refine wpL_assign (v := .int .u64 ((2 ^ (i + 1) : Nat) : Int)) (by rfl) (by rfl) (by rfl) ?_
   simp only [putT, List.set]
   refine wpL_nil (no_panic ?_)
   refine hK102 _ _ ?_
   refine wp_region_seq ?_
   refine wpL_move (v := .int .i64 ((i : Nat) : Int)) (by rfl) (by rfl) (by rfl) ?_
   simp only [putT, List.set]
   refine wpL_chunk 1 (by rfl) (fun Lk hLk => ?_)
   simp only [List.take, List.drop]
   refine wpV_bin (v := .int .i64 ((i + 1 : Nat) : Int)) (by rfl) rfl rfl rfl (fun W => run_add (by simp only [IntKind.wrap_i64]; omega) W) ?_
   simp only [putT, List.set]
   refine wpV_nil (hLk _ (fun w106 Sw106 => ?_))
   clear hLk Lk
   simp only [List.take, List.drop]
   replace M := M.sees Sw106
   refine wpL_assign (v := .int .i64 ((i + 1 : Nat) : Int)) (by rfl) (by rfl) (by rfl) ?_
   simp only [putT, List.set]
   refine wpL_nil (no_panic ?_)
   refine Exists.intro _ ⟨?_, (i + 1), (fun q9 => (#[undef, undef, undef, undef, undef, undef, undef, undef, undef, undef, undef, undef, undef, undef, undef, undef, undef, undef, undef, undef, undef, undef, undef, undef, undef, undef, undef, undef, .int .i64 ((i : Nat) : Int), .int .i64 ((j : Nat) : Int), .int .i64 ((j % 16 : Nat) : Int), .bool true, .int .i64 ((i : Nat) : Int), .int .i64 ((i + 1 : Nat) : Int), .int .u64 ((2 ^ i : Nat) : Int), .int .u64 ((2 ^ (i + 1) : Nat) : Int)] : Array Value).getD q9 undef), rfl, rfl, M, (by omega)⟩
   omega
end Go.Proofs.Yb

