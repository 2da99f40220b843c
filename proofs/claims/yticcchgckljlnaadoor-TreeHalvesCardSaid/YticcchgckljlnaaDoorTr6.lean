import Derived.WalkKit
import Derived.WalkSpells
import Derived.Laws.Pointers
import Derived.RowKit3
import Derived.Below
import Derived.Outline
import Derived.LoopN
import Derived.Lib.Hide
import Derived.Handy
import Derived.Laws.Bits64b
import Derived.Test.YticcchgckljlnaaDoorTr4
import Derived.Test.YticcchgckljlnaaDoorTrC
set_option linter.unusedSimpArgs false
set_option linter.unusedVariables false
namespace Go.Proofs.Yb
open Go Go.RowKit Go.Proofs.Num
theorem Root_ok {ps : List (List UInt8)} {g0 o cg0 ng0 : Nat} {w : World} (hok : rightB ps = true) (L0 : 0 < w.heap.size) (R0_0 : w.rangeAt 0 0 kcells) (hn : ng0 = ps.length) (hc : ng0 ≤ cg0) (L : g0 < w.heap.size) (R : w.rangeAt g0 o (scells ps)) :
    Calls Tryd.prog 37 #[.slice (some ⟨g0, o, none⟩) ng0 cg0] w fun e w' => e = .returned (.tuple #[.string (bs (rootS ps)), .int .i64 0]) ∧ Below w.heap.size w w' := by
  have h := Root_c1 L0 R0_0 hn hc L R
  rwa [rootT_yes hok, rootE_yes hok] at h
set_option maxHeartbeats 4000000 in
theorem halves_c {d : List UInt8} {x : Int} {w : World} (L0 : 0 < w.heap.size) (R0_0 : w.rangeAt 0 0 kcells) :
    Calls Tryd.prog 8 #[.string (bs d), .int .i64 x] w fun e w' => e = .returned (.bool true) ∧ Below w.heap.size w w' := by
  have ht5 := tmod5 x
  obtain ⟨p, hp, hp1, hp5⟩ := mod5 x
  have hq1 : 2 ≤ 2 ^ p := Nat.le_trans (by decide : 2 ≤ 2 ^ 1) (Nat.pow_le_pow_right (by decide) hp1)
  have hq5 : 2 ^ p ≤ 32 := Nat.le_trans (Nat.pow_le_pow_right (by decide) hp5) (by decide : 2 ^ 5 ≤ 32)
  go_enter Tryd.func8, Tryd.ntmps8
  have M := Mem.start w
  refine wp_seq_k (fun K1 hK1 => ?_)
  refine wp_region_seq ?_
  refine wpL_assign (v := .bool false) (by rfl) (by rfl) (by rfl) ?_
  simp only [putT, List.set]
  refine wpL_nil (no_panic ?_)
  refine hK1 _ _ ?_
  refine wp_seq_k (fun K3 hK3 => ?_)
  refine wp_region_seq ?_
  refine wpL_move (v := .int .i64 x) (by rfl) (by rfl) (by rfl) ?_
  simp only [putT, List.set]
  refine wpL_chunk 4 (by rfl) (fun Lk hLk => ?_)
  simp only [List.take, List.drop]
  refine wpV_bin (v := .int .i64 (x.tmod 5)) (by rfl) rfl rfl rfl (fun W => run_rem (by decide) rfl W) ?_
  simp only [putT, List.set]
  refine wpV_bin (v := .int .i64 (x.tmod 5 + 5)) (by rfl) rfl rfl rfl (fun W => run_add (by simp only [IntKind.wrap_i64]; omega) W) ?_
  simp only [putT, List.set]
  refine wpV_bin (v := .int .i64 ((x.tmod 5 + 5).tmod 5)) (by rfl) rfl rfl rfl (fun W => run_rem (by decide) rfl W) ?_
  simp only [putT, List.set]
  refine wpV_bin (v := .int .i64 ((p : Nat) : Int)) (by rfl) rfl rfl rfl (fun W => run_add (by rw [hp]; simp only [IntKind.wrap_i64]; omega) W) ?_
  simp only [putT, List.set]
  refine wpV_nil (hLk _ (fun w5 Sw5 => ?_))
  clear hLk Lk
  simp only [List.take, List.drop]
  replace M := M.sees Sw5
  refine wpL_assign (v := .int .i64 ((p : Nat) : Int)) (by rfl) (by rfl) (by rfl) ?_
  simp only [putT, List.set]
  refine wpL_nil (no_panic ?_)
  refine hK3 _ _ ?_
  refine wp_seq_k (fun K6 hK6 => ?_)
  refine wp_region_seq ?_
  refine wpL_assign (v := (.slice none 0 0)) (by rfl) (by rfl) (by rfl) ?_
  simp only [putT, List.set]
  refine wpL_nil (no_panic ?_)
  refine hK6 _ _ ?_
  refine wp_seq_k (fun K8 hK8 => ?_)
  refine wp_seq_k (fun K9 hK9 => ?_)
  refine wp_region_seq ?_
  refine wpL_move (v := .int .i64 ((p : Nat) : Int)) (by rfl) (by rfl) (by rfl) ?_
  simp only [putT, List.set]
  refine wpL_chunk 2 (by rfl) (fun Lk hLk => ?_)
  simp only [List.take, List.drop]
  refine wpV_bin (v := .int .i64 ((2 ^ p : Nat) : Int)) (by rfl) rfl rfl rfl (fun W => run_shl (m := 1) (n := p) (by show _ ≤ 64; omega) (by rw [Nat.one_mul]; simp only [IntKind.wrap_i64]; omega) W) ?_
  simp only [putT, List.set]
  refine wpV_bin (v := .int .i64 ((2 ^ p + 1 : Nat) : Int)) (by rfl) rfl rfl rfl (fun W => run_add (by simp only [IntKind.wrap_i64]; omega) W) ?_
  simp only [putT, List.set]
  refine wpV_nil (hLk _ (fun w11 Sw11 => ?_))
  clear hLk Lk
  simp only [List.take, List.drop]
  replace M := M.sees Sw11
  refine wpL_move (v := .int .i64 0) (by rfl) (by rfl) (by rfl) ?_
  simp only [putT, List.set]
  refine wpL_nil (no_panic ?_)
  refine hK9 _ _ ?_
  refine wp_block ?_
  refine wp_loop_peel (fun n9 a9 W9 => ∃ (k : Nat) (r : Nat) (rc : Nat) (u12 : Nat → Value), n9 = 2 ^ p + 1 - k ∧ a9 = { tmps := #[.string (bs d), .int .i64 ((p : Nat) : Int), undef, undef, .bool false, .slice (some ⟨r, 0, none⟩) k rc, u12 6, undef, undef, undef, undef, undef, undef, undef, undef, undef, .int .i64 x, .int .i64 (x.tmod 5), .int .i64 (x.tmod 5 + 5), .int .i64 ((x.tmod 5 + 5).tmod 5), .int .i64 ((p : Nat) : Int), .int .i64 ((p : Nat) : Int), .int .i64 ((2 ^ p : Nat) : Int), .int .i64 ((2 ^ p + 1 : Nat) : Int), .int .i64 ((k : Nat) : Int), u12 25, u12 26, u12 27, u12 28, u12 29, u12 30, u12 31, u12 32, u12 33, u12 34, u12 35, u12 36, u12 37, u12 38, u12 39, u12 40, u12 41, undef, undef, undef, undef, undef, undef, undef, undef, undef, undef, undef, undef, undef, undef, undef, undef, undef, undef, undef, undef, undef, undef, undef, undef, undef, undef, undef, undef, undef, undef, undef, undef, undef, undef, undef, undef, undef, undef, undef, undef, undef, undef, undef, undef, undef, undef, undef, undef, undef, undef, undef, undef, undef, undef, undef, undef, undef, undef, undef, undef, undef, undef, undef, undef, undef], defers := [] } ∧ Mem [] w W9 [⟨r, rc, [(0, scells (lsK (cut d 50) k))]⟩] ∧ k ≤ rc ∧ (1 ≤ k) ∧ (k ≤ 2 ^ p + 1)) (2 ^ p + 1 - (1) + 1) ?_ (fun n9 a9 W9 hI => ?_)
  · skip
    refine wp_seq_k (fun K13 hK13 => ?_)
    refine wp_region_seq ?_
    refine wpL_chunk 1 (by rfl) (fun Lk hLk => ?_)
    simp only [List.take, List.drop]
    refine wpV_bin (v := .bool (decide (0 < 2 ^ p + 1))) (by rfl) rfl rfl rfl (fun W => run_lssN 0 (2 ^ p + 1) _ _ W) ?_
    simp only [putT, List.set]
    refine wpV_nil (hLk _ (fun w15 Sw15 => ?_))
    clear hLk Lk
    simp only [List.take, List.drop]
    replace M := M.sees Sw15
    refine wpL_nil (no_panic ?_)
    refine hK13 _ _ ?_
    refine wp_seq_k (fun K16 hK16 => ?_)
    cases hc17 : (decide (0 < 2 ^ p + 1))
    · skip
      exact absurd (Nat.succ_pos _) (of_decide_eq_false hc17)
    · skip
      refine wp_cond_true rfl ?_
      refine wp_skip ?_
      refine hK16 _ _ ?_
      refine wp_seq_k (fun K18 hK18 => ?_)
      refine wp_block ?_
      refine wp_seq_k (fun K19 hK19 => ?_)
      refine wp_region_seq ?_
      refine wpL_move (v := .int .i64 0) (by rfl) (by rfl) (by rfl) ?_
      simp only [putT, List.set]
      refine wpL_assign (v := .int .i64 0) (by rfl) (by rfl) (by rfl) ?_
      simp only [putT, List.set]
      refine wpL_nil (no_panic ?_)
      refine hK19 _ _ ?_
      refine wp_region_treeN (by kernel_rfl) (fun w22 Sw22 => ?_)
      replace M := M.sees Sw22
      refine any_first 0 (v := (.slice none 0 0)) (by rfl) (by kernel_rfl) nopanic_not (by rfl) (by exact yl_move rfl rfl) ?_
      simp only [putT, List.set]
      refine any_first 1 (v := .string (bs d)) (by rfl) (by kernel_rfl) nopanic_not (by rfl) (by exact yl_move rfl rfl) ?_
      simp only [putT, List.set]
      refine any_first 2 (v := .string (bs d)) (by rfl) (by kernel_rfl) nopanic_not (by rfl) (by exact yl_move rfl rfl) ?_
      simp only [putT, List.set]
      refine any_first 3 (v := .int .i64 ((d.length : Nat) : Int)) (by rfl) (by kernel_rfl) nopanic_not (by rfl) (by exact yl_lenS rfl rfl rfl Tryd.underlying9) ?_
      simp only [putT, List.set]
      refine any_first 4 (v := .int .i64 ((min d.length 50 : Nat) : Int)) (by rfl) (by kernel_rfl) nopanic_not (by rfl) (by exact yl_min (n := d.length) (m := 50) rfl rfl rfl) ?_
      simp only [putT, List.set]
      refine any_first 5 (v := .string (bs (cut d 50))) (by rfl) (by kernel_rfl) nopanic_not (by rfl) (by exact yl_cut (l := d) (m := 50) rfl rfl rfl Tryd.underlying9) ?_
      simp only [putT, List.set]
      refine any_first 6 (v := .int .i64 0) (by rfl) (by kernel_rfl) nopanic_not (by rfl) (by exact yl_move rfl rfl) ?_
      simp only [putT, List.set]
      refine any_step [7] (by kernel_rfl) rfl (any_one ?_)
      refine any_opL 7 (by rfl) ?_
      simp only [List.take, List.drop]
      refine wpL_chunk 1 (by rfl) (fun Lk hLk => ?_)
      simp only [List.take, List.drop]
      refine wpV_conv (d := .bool) (e := ((0 % 256 : Nat) : Int)) (by rfl) rfl rfl (run_conv_int Tryd.underlying3 Tryd.underlying5 (wrap_u8N _)) ?_
      simp only [putT, List.set]
      refine wpV_nil (hLk _ (fun w23 Sw23 => ?_))
      clear hLk Lk
      simp only [List.take, List.drop]
      replace M := M.sees Sw23
      refine wpL_nil (then_normal ?_)
      refine any_step [8] (by kernel_rfl) rfl (any_one ?_)
      refine any_opL 8 (by rfl) ?_
      simp only [List.take, List.drop]
      refine wpL_rowN (vs := [.int .u8 ((0 % 256 : Nat) : Int)]) (z := .int .u8 0) (bytes := 1) (by rfl) (by rfl) Tryd.underlying35 (by kernel_rfl) (by decide) (by kernel_rfl) (fun g24 w25 Sw25 Hg24 Bg24 => ?_)
      replace M := ((M.sees Sw25).add (N := 1) (cs := [.int .u8 ((0 % 256 : Nat) : Int)]) (M.ge Hg24) (M.fresh Hg24) Bg24 rfl)
      replace M := M.read1 (cs := bcells [UInt8.ofNat (0 % 256)]) 0 rfl (by rw [bcells_byte (Nat.mod_lt _ (by decide))]; exact M.r 0 0 rfl rfl)
      simp only [List.set] at M
      clear Bg24
      simp only [putT, List.set]
      refine wpL_nil (then_normal ?_)
      refine any_step [9] (by kernel_rfl) rfl (any_one ?_)
      refine any_opL 9 (by rfl) ?_
      simp only [List.take, List.drop]
      refine wpL_chunk 1 (by rfl) (fun Lk hLk => ?_)
      simp only [List.take, List.drop]
      refine wpV_b2s (l := [UInt8.ofNat (0 % 256)]) (by rfl) rfl rfl rfl Tryd.underlying35 Tryd.underlying5 Tryd.underlying9 (M.r 0 0 rfl rfl) (M.lt 0 rfl) ?_
      simp only [putT, List.set]
      refine wpV_nil (hLk _ (fun w26 Sw26 => ?_))
      clear hLk Lk
      simp only [List.take, List.drop]
      replace M := M.sees Sw26
      refine wpL_nil (then_normal ?_)
      refine any_step [10] (by kernel_rfl) rfl (any_one ?_)
      refine any_opL 10 (by rfl) ?_
      simp only [List.take, List.drop]
      refine wpL_chunk 1 (by rfl) (fun Lk hLk => ?_)
      simp only [List.take, List.drop]
      refine wpV_binS (v := .string (bs ((cut d 50) ++ ([UInt8.ofNat (0 % 256)])))) (by rfl) rfl rfl rfl (run_add_bs _ _ _ (by have := cut_len d 50; simp; omega)) ?_
      simp only [putT, List.set]
      refine wpV_nil (hLk _ (fun w27 Sw27 => ?_))
      clear hLk Lk
      simp only [List.take, List.drop]
      replace M := M.sees Sw27
      refine wpL_nil (then_normal ?_)
      refine any_step [11] (by kernel_rfl) rfl (any_one ?_)
      refine any_opL 11 (by rfl) ?_
      simp only [List.take, List.drop]
      refine wpL_chunk 1 (by rfl) (fun Lk hLk => ?_)
      simp only [List.take, List.drop]
      refine wpV_callf (v := .string (bs (leafS ((cut d 50) ++ ([UInt8.ofNat (0 % 256)]))))) (args := #[.string (bs ((cut d 50) ++ ([UInt8.ofNat (0 % 256)])))]) (by rfl) rfl Tryd.func38 (by kernel_rfl) (by kernel_rfl) rfl (fun W hW => leaf_c (d := (cut d 50) ++ ([UInt8.ofNat (0 % 256)])) (by simp only [List.length_append]; have := cut_len d 50; simp; omega) ((M.sees hW).oldL L0) ((M.sees hW).oldR R0_0 L0)) ?_
      simp only [putT, List.set]
      refine wpV_nil (hLk _ (fun w28 Sw28 => ?_))
      clear hLk Lk
      simp only [List.take, List.drop]
      replace M := M.sees Sw28
      refine wpL_nil (then_normal ?_)
      refine any_step [12] (by kernel_rfl) rfl (any_one ?_)
      refine any_opL 12 (by rfl) ?_
      simp only [List.take, List.drop]
      refine wpL_rowN (vs := [.string (bs (leafS ((cut d 50) ++ ([UInt8.ofNat (0 % 256)]))))]) (z := .string { data := #[] }) (bytes := 16) (by rfl) (by rfl) Tryd.underlying48 (by kernel_rfl) (by decide) (by kernel_rfl) (fun g29 w30 Sw30 Hg29 Bg29 => ?_)
      replace M := ((M.sees Sw30).add (N := 1) (cs := [.string (bs (leafS ((cut d 50) ++ ([UInt8.ofNat (0 % 256)]))))]) (M.ge Hg29) (M.fresh Hg29) Bg29 (by simp [flen]))
      clear Bg29
      simp only [putT, List.set]
      refine wpL_nil (then_normal ?_)
      refine any_step [13] (by kernel_rfl) rfl (any_one ?_)
      refine any_opL 13 (by rfl) ?_
      simp only [List.take, List.drop]
      refine wpL_append0 (m := 1) (news := [.string (bs (leafS ((cut d 50) ++ ([UInt8.ofNat (0 % 256)]))))]) (z := .string { data := #[] }) (bytes := 16) (by rfl) (by rfl) (by rfl) (by rfl) Tryd.underlying48 (by kernel_rfl) rfl rfl (by decide) (M.r 0 0 rfl rfl) (by decide) (by decide) (fun g31 g31c w32 Sw32 Hg31 Cg31 R T L => ?_)
      replace M := (M.sees Sw32).addR (M.ge Hg31) (M.fresh Hg31) T R L
      clear T R L
      rw [show [.string (bs (leafS ((cut d 50) ++ ([UInt8.ofNat (0 % 256)]))))] = scells (lsK (cut d 50) 1) from rfl] at M
      simp only [putT, List.set]
      refine wpL_nil (then_normal ?_)
      refine any_first 14 (v := .slice (some ⟨g31, 0, none⟩) 1 g31c) (by rfl) (by kernel_rfl) nopanic_not (by rfl) (by exact yl_assign rfl rfl) ?_
      simp only [putT, List.set]
      refine any_end (by kernel_rfl) (no_panic ?_)
      refine hK18 _ _ ?_
      refine wp_region_seq ?_
      refine wpL_chunk 1 (by rfl) (fun Lk hLk => ?_)
      simp only [List.take, List.drop]
      refine wpV_bin (v := .int .i64 1) (by rfl) rfl rfl rfl (fun W => run_add (by decide) W) ?_
      simp only [putT, List.set]
      refine wpV_nil (hLk _ (fun w34 Sw34 => ?_))
      clear hLk Lk
      simp only [List.take, List.drop]
      replace M := M.sees Sw34
      refine wpL_move (v := .int .i64 1) (by rfl) (by rfl) (by rfl) ?_
      simp only [putT, List.set]
      refine wpL_nil (no_panic ?_)
      refine Exists.intro _ ⟨Nat.lt_succ_self _, 1, g31, g31c, (fun q9 => (#[undef, undef, undef, undef, undef, undef, .int .i64 0, undef, undef, undef, undef, undef, undef, undef, undef, undef, undef, undef, undef, undef, undef, undef, undef, undef, undef, .bool true, .int .i64 0, (.slice none 0 0), .string (bs d), .string (bs d), .int .i64 ((d.length : Nat) : Int), .int .i64 ((min d.length 50 : Nat) : Int), .string (bs (cut d 50)), .int .i64 0, .int .u8 ((0 % 256 : Nat) : Int), .slice (some ⟨g24, 0, none⟩) 1 1, .string (bs ([UInt8.ofNat (0 % 256)])), .string (bs ((cut d 50) ++ ([UInt8.ofNat (0 % 256)]))), .string (bs (leafS ((cut d 50) ++ ([UInt8.ofNat (0 % 256)])))), .slice (some ⟨g29, 0, none⟩) 1 1, .slice (some ⟨g31, 0, none⟩) 1 g31c, .int .i64 1] : Array Value).getD q9 undef), rfl, rfl, (M.pick [0] (by decide) rfl), Cg31, (by omega), (by omega)⟩
  clear M
  obtain ⟨k, r, rc, u12, rfl, rfl, M, Cr, hk1, hk4⟩ := hI
  obtain ⟨w35, rfl⟩ : ∃ W8, W8 = W9 := ⟨_, rfl⟩
  refine wp_seq_k (fun K36 hK36 => ?_)
  refine wp_region_seq ?_
  refine wpL_chunk 1 (by rfl) (fun Lk hLk => ?_)
  simp only [List.take, List.drop]
  refine wpV_bin (v := .bool (decide (k < 2 ^ p + 1))) (by rfl) rfl rfl rfl (fun W => run_lssN k (2 ^ p + 1) _ _ W) ?_
  simp only [putT, List.set]
  refine wpV_nil (hLk _ (fun w38 Sw38 => ?_))
  clear hLk Lk
  simp only [List.take, List.drop]
  replace M := M.sees Sw38
  refine wpL_nil (no_panic ?_)
  refine hK36 _ _ ?_
  refine wp_seq_k (fun K39 hK39 => ?_)
  cases hc40 : (decide (k < 2 ^ p + 1))
  · skip
    have ek : k = 2 ^ p + 1 := by have := of_decide_eq_false hc40; omega
    subst ek
    obtain ⟨L, hLd⟩ : ∃ L, L = lsK (cut d 50) (2 ^ p + 1) := ⟨_, rfl⟩
    have hLl : L.length = 2 ^ p + 1 := hLd ▸ lsK_len _ _
    have hL32 : ∀ s ∈ L, s.length = 32 := hLd ▸ lsK_32 _ _
    rw [← hLd] at M
    refine wp_cond_false rfl ?_
    refine wp_exit ?_
    refine hK8 _ _ ?_
    refine wp_seq_k (fun K41 hK41 => ?_)
    refine wp_region_seq ?_
    refine wpL_move (v := .int .i64 ((p : Nat) : Int)) (by rfl) (by rfl) (by rfl) ?_
    simp only [putT, List.set]
    refine wpL_chunk 1 (by rfl) (fun Lk hLk => ?_)
    simp only [List.take, List.drop]
    refine wpV_bin (v := .int .i64 ((2 ^ p : Nat) : Int)) (by rfl) rfl rfl rfl (fun W => run_shl (m := 1) (n := p) (by show _ ≤ 64; omega) (by rw [Nat.one_mul]; simp only [IntKind.wrap_i64]; omega) W) ?_
    simp only [putT, List.set]
    refine wpV_nil (hLk _ (fun w43 Sw43 => ?_))
    clear hLk Lk
    simp only [List.take, List.drop]
    replace M := M.sees Sw43
    refine wpL_assign (v := .int .i64 ((2 ^ p : Nat) : Int)) (by rfl) (by rfl) (by rfl) ?_
    simp only [putT, List.set]
    refine wpL_nil (no_panic ?_)
    refine hK41 _ _ ?_
    refine wp_seq_k (fun K44 hK44 => ?_)
    refine wp_region_seq ?_
    refine wpL_move (v := .slice (some ⟨r, 0, none⟩) (2 ^ p + 1) rc) (by rfl) (by rfl) (by rfl) ?_
    simp only [putT, List.set]
    refine wpL_move (v := .int .i64 ((2 ^ p : Nat) : Int)) (by rfl) (by rfl) (by rfl) ?_
    simp only [putT, List.set]
    refine wpL_chunk 6 (by rfl) (fun Lk hLk => ?_)
    simp only [List.take, List.drop]
    refine wpV_bin (v := .int .i64 (((2 ^ p) / 2 : Nat) : Int)) (by rfl) rfl rfl rfl (fun W => run_quo (by decide) ((congrArg _ (tdiv_nat (2 ^ p) 2)).trans (wrap_nat _ (by omega))) W) ?_
    simp only [putT, List.set]
    refine wpV_sliceH (hi := (2 ^ p) / 2) (by rfl) rfl rfl rfl Tryd.underlying48 info9 (Nat.le_trans (by omega) Cr) ?_
    simp only [putT, List.set]
    refine wpV_callf (v := .tuple #[.string (bs (rootS (L.take ((2 ^ p) / 2)))), .int .i64 0]) (args := #[.slice (some ⟨r, 0, none⟩) ((2 ^ p) / 2) rc]) (by rfl) rfl Tryd.func37 (by kernel_rfl) (by kernel_rfl) rfl (fun W hW => by with_reducible exact Root_ok (ps := L.take ((2 ^ p) / 2)) (right_of (fun s9 h9 => hL32 s9 (List.mem_of_mem_take h9)) (by rw [List.length_take]; omega)) ((M.sees hW).oldL L0) ((M.sees hW).oldR R0_0 L0) (by rw [List.length_take]; omega) (Nat.le_trans (by omega) Cr) ((M.sees hW).lt 0 rfl) (range_stake ((2 ^ p) / 2) ((M.sees hW).r 0 0 rfl rfl))) ?_
    simp only [putT, List.set]
    refine wpV_move (v := .tuple #[.string (bs (rootS (L.take ((2 ^ p) / 2)))), .int .i64 0]) (by rfl) rfl rfl ?_
    simp only [putT, List.set]
    refine wpV_extract (v := .string (bs (rootS (L.take ((2 ^ p) / 2))))) (by rfl) rfl rfl rfl ?_
    simp only [putT, List.set]
    refine wpV_extract (v := .int .i64 0) (by rfl) rfl rfl rfl ?_
    simp only [putT, List.set]
    refine wpV_nil (hLk _ (fun w46 Sw46 => ?_))
    clear hLk Lk
    simp only [List.take, List.drop]
    replace M := M.sees Sw46
    refine wpL_assign (v := .string (bs (rootS (L.take ((2 ^ p) / 2))))) (by rfl) (by rfl) (by rfl) ?_
    simp only [putT, List.set]
    refine wpL_assign (v := .int .i64 0) (by rfl) (by rfl) (by rfl) ?_
    simp only [putT, List.set]
    refine wpL_nil (no_panic ?_)
    refine hK44 _ _ ?_
    refine wp_seq_k (fun K47 hK47 => ?_)
    refine wp_region_seq ?_
    refine wpL_move (v := .slice (some ⟨r, 0, none⟩) (2 ^ p + 1) rc) (by rfl) (by rfl) (by rfl) ?_
    simp only [putT, List.set]
    refine wpL_move (v := .int .i64 ((2 ^ p : Nat) : Int)) (by rfl) (by rfl) (by rfl) ?_
    simp only [putT, List.set]
    refine wpL_chunk 7 (by rfl) (fun Lk hLk => ?_)
    simp only [List.take, List.drop]
    refine wpV_bin (v := .int .i64 (((2 ^ p) / 2 : Nat) : Int)) (by rfl) rfl rfl rfl (fun W => run_quo (by decide) ((congrArg _ (tdiv_nat (2 ^ p) 2)).trans (wrap_nat _ (by omega))) W) ?_
    simp only [putT, List.set]
    refine wpV_move (v := .int .i64 ((2 ^ p : Nat) : Int)) (by rfl) rfl rfl ?_
    simp only [putT, List.set]
    refine wpV_sliceB (lo := (2 ^ p) / 2) (hi := 2 ^ p) (by rfl) rfl rfl rfl rfl Tryd.underlying48 info9 (by omega) (Nat.le_trans (by omega) Cr) (Nat.lt_of_lt_of_le (by omega : 2 ^ p / 2 < 2 ^ p + 1) Cr) ?_
    simp only [Nat.zero_add]
    simp only [putT, List.set]
    refine wpV_callf (v := .tuple #[.string (bs (rootS ((L.take (2 ^ p)).drop ((2 ^ p) / 2)))), .int .i64 0]) (args := #[.slice (some ⟨r, (2 ^ p) / 2, none⟩) ((2 ^ p) - ((2 ^ p) / 2)) (rc - ((2 ^ p) / 2))]) (by rfl) rfl Tryd.func37 (by kernel_rfl) (by kernel_rfl) rfl (fun W hW => by with_reducible exact Root_ok (ps := (L.take (2 ^ p)).drop ((2 ^ p) / 2)) (right_of (fun s9 h9 => hL32 s9 (List.mem_of_mem_take (List.mem_of_mem_drop h9))) (by rw [List.length_drop, List.length_take]; omega)) ((M.sees hW).oldL L0) ((M.sees hW).oldR R0_0 L0) (by rw [List.length_drop, List.length_take]; omega) (Nat.sub_le_sub_right (Nat.le_trans (by omega) Cr) _) ((M.sees hW).lt 0 rfl) (zrange (range_sdrop (k := (2 ^ p) / 2) (by rw [List.length_take]; omega) (range_stake (2 ^ p) ((M.sees hW).r 0 0 rfl rfl))))) ?_
    simp only [putT, List.set]
    refine wpV_move (v := .tuple #[.string (bs (rootS ((L.take (2 ^ p)).drop ((2 ^ p) / 2)))), .int .i64 0]) (by rfl) rfl rfl ?_
    simp only [putT, List.set]
    refine wpV_extract (v := .string (bs (rootS ((L.take (2 ^ p)).drop ((2 ^ p) / 2))))) (by rfl) rfl rfl rfl ?_
    simp only [putT, List.set]
    refine wpV_extract (v := .int .i64 0) (by rfl) rfl rfl rfl ?_
    simp only [putT, List.set]
    refine wpV_nil (hLk _ (fun w49 Sw49 => ?_))
    clear hLk Lk
    simp only [List.take, List.drop]
    replace M := M.sees Sw49
    refine wpL_assign (v := .string (bs (rootS ((L.take (2 ^ p)).drop ((2 ^ p) / 2))))) (by rfl) (by rfl) (by rfl) ?_
    simp only [putT, List.set]
    refine wpL_assign (v := .int .i64 0) (by rfl) (by rfl) (by rfl) ?_
    simp only [putT, List.set]
    refine wpL_nil (no_panic ?_)
    refine hK47 _ _ ?_
    refine wp_seq_k (fun K50 hK50 => ?_)
    refine wp_region_seq ?_
    refine wpL_move (v := .slice (some ⟨r, 0, none⟩) (2 ^ p + 1) rc) (by rfl) (by rfl) (by rfl) ?_
    simp only [putT, List.set]
    refine wpL_move (v := .int .i64 ((2 ^ p : Nat) : Int)) (by rfl) (by rfl) (by rfl) ?_
    simp only [putT, List.set]
    refine wpL_chunk 5 (by rfl) (fun Lk hLk => ?_)
    simp only [List.take, List.drop]
    refine wpV_sliceH (hi := 2 ^ p) (by rfl) rfl rfl rfl Tryd.underlying48 info9 (Nat.le_trans (by omega) Cr) ?_
    simp only [putT, List.set]
    refine wpV_callf (v := .tuple #[.string (bs (rootS (L.take (2 ^ p)))), .int .i64 0]) (args := #[.slice (some ⟨r, 0, none⟩) (2 ^ p) rc]) (by rfl) rfl Tryd.func37 (by kernel_rfl) (by kernel_rfl) rfl (fun W hW => by with_reducible exact Root_ok (ps := L.take (2 ^ p)) (right_of (fun s9 h9 => hL32 s9 (List.mem_of_mem_take h9)) (by rw [List.length_take]; omega)) ((M.sees hW).oldL L0) ((M.sees hW).oldR R0_0 L0) (by rw [List.length_take]; omega) (Nat.le_trans (by omega) Cr) ((M.sees hW).lt 0 rfl) (range_stake (2 ^ p) ((M.sees hW).r 0 0 rfl rfl))) ?_
    simp only [putT, List.set]
    refine wpV_move (v := .tuple #[.string (bs (rootS (L.take (2 ^ p)))), .int .i64 0]) (by rfl) rfl rfl ?_
    simp only [putT, List.set]
    refine wpV_extract (v := .string (bs (rootS (L.take (2 ^ p))))) (by rfl) rfl rfl rfl ?_
    simp only [putT, List.set]
    refine wpV_extract (v := .int .i64 0) (by rfl) rfl rfl rfl ?_
    simp only [putT, List.set]
    refine wpV_nil (hLk _ (fun w52 Sw52 => ?_))
    clear hLk Lk
    simp only [List.take, List.drop]
    replace M := M.sees Sw52
    refine wpL_assign (v := .string (bs (rootS (L.take (2 ^ p))))) (by rfl) (by rfl) (by rfl) ?_
    simp only [putT, List.set]
    refine wpL_assign (v := .int .i64 0) (by rfl) (by rfl) (by rfl) ?_
    simp only [putT, List.set]
    refine wpL_nil (no_panic ?_)
    refine hK50 _ _ ?_
    refine wp_seq_k (fun K53 hK53 => ?_)
    refine wp_region_seq ?_
    refine wpL_move (v := .slice (some ⟨r, 0, none⟩) (2 ^ p + 1) rc) (by rfl) (by rfl) (by rfl) ?_
    simp only [putT, List.set]
    refine wpL_chunk 4 (by rfl) (fun Lk hLk => ?_)
    simp only [List.take, List.drop]
    refine wpV_callf (v := .tuple #[.string (bs (rootS L)), .int .i64 0]) (args := #[.slice (some ⟨r, 0, none⟩) (2 ^ p + 1) rc]) (by rfl) rfl Tryd.func37 (by kernel_rfl) (by kernel_rfl) rfl (fun W hW => by with_reducible exact Root_ok (ps := L) (right_of hL32 (by omega)) ((M.sees hW).oldL L0) ((M.sees hW).oldR R0_0 L0) hLl.symm Cr ((M.sees hW).lt 0 rfl) ((M.sees hW).r 0 0 rfl rfl)) ?_
    simp only [putT, List.set]
    refine wpV_move (v := .tuple #[.string (bs (rootS L)), .int .i64 0]) (by rfl) rfl rfl ?_
    simp only [putT, List.set]
    refine wpV_extract (v := .string (bs (rootS L))) (by rfl) rfl rfl rfl ?_
    simp only [putT, List.set]
    refine wpV_extract (v := .int .i64 0) (by rfl) rfl rfl rfl ?_
    simp only [putT, List.set]
    refine wpV_nil (hLk _ (fun w55 Sw55 => ?_))
    clear hLk Lk
    simp only [List.take, List.drop]
    replace M := M.sees Sw55
    refine wpL_assign (v := .string (bs (rootS L))) (by rfl) (by rfl) (by rfl) ?_
    simp only [putT, List.set]
    refine wpL_assign (v := .int .i64 0) (by rfl) (by rfl) (by rfl) ?_
    simp only [putT, List.set]
    refine wpL_nil (no_panic ?_)
    refine hK53 _ _ ?_
    refine wp_seq_k (fun K56 hK56 => ?_)
    refine wp_region_seq ?_
    refine wpL_chunk 34 (by rfl) (fun Lk hLk => ?_)
    simp only [List.take, List.drop]
    refine wpV_callf (v := .bool true) (args := #[]) (by rfl) rfl Tryd.func44 (by kernel_rfl) (by kernel_rfl) rfl (fun W hW => alive08_c ((M.sees hW).oldL L0) ((M.sees hW).oldR R0_0 L0)) ?_
    simp only [putT, List.set]
    refine wpV_move (v := .bool true) (by rfl) rfl rfl ?_
    simp only [putT, List.set]
    refine wpV_move (v := .int .i64 0) (by rfl) rfl rfl ?_
    simp only [putT, List.set]
    refine wpV_bin (v := .bool true) (by rfl) rfl rfl rfl (fun W => run_eql _ _ _ _ W) ?_
    simp only [putT, List.set]
    refine wpV_pick (v := .bool true) (by rfl) rfl rfl rfl ?_
    simp only [putT, List.set]
    refine wpV_move (v := .bool true) (by rfl) rfl rfl ?_
    simp only [putT, List.set]
    refine wpV_move (v := .int .i64 0) (by rfl) rfl rfl ?_
    simp only [putT, List.set]
    refine wpV_bin (v := .bool true) (by rfl) rfl rfl rfl (fun W => run_eql _ _ _ _ W) ?_
    simp only [putT, List.set]
    refine wpV_pick (v := .bool true) (by rfl) rfl rfl rfl ?_
    simp only [putT, List.set]
    refine wpV_move (v := .bool true) (by rfl) rfl rfl ?_
    simp only [putT, List.set]
    refine wpV_move (v := .int .i64 0) (by rfl) rfl rfl ?_
    simp only [putT, List.set]
    refine wpV_bin (v := .bool true) (by rfl) rfl rfl rfl (fun W => run_eql _ _ _ _ W) ?_
    simp only [putT, List.set]
    refine wpV_pick (v := .bool true) (by rfl) rfl rfl rfl ?_
    simp only [putT, List.set]
    refine wpV_move (v := .bool true) (by rfl) rfl rfl ?_
    simp only [putT, List.set]
    refine wpV_move (v := .int .i64 0) (by rfl) rfl rfl ?_
    simp only [putT, List.set]
    refine wpV_bin (v := .bool true) (by rfl) rfl rfl rfl (fun W => run_eql _ _ _ _ W) ?_
    simp only [putT, List.set]
    refine wpV_pick (v := .bool true) (by rfl) rfl rfl rfl ?_
    simp only [putT, List.set]
    refine wpV_move (v := .bool true) (by rfl) rfl rfl ?_
    simp only [putT, List.set]
    refine wpV_move (v := .string (bs (rootS (L.take (2 ^ p))))) (by rfl) rfl rfl ?_
    simp only [putT, List.set]
    refine wpV_move (v := .string (bs (rootS (L.take ((2 ^ p) / 2))))) (by rfl) rfl rfl ?_
    simp only [putT, List.set]
    refine wpV_move (v := .string (bs (rootS ((L.take (2 ^ p)).drop ((2 ^ p) / 2))))) (by rfl) rfl rfl ?_
    simp only [putT, List.set]
    refine wpV_callf (v := .string (bs (nodeS (rootS (L.take ((2 ^ p) / 2))) (rootS ((L.take (2 ^ p)).drop ((2 ^ p) / 2)))))) (args := #[.string (bs (rootS (L.take ((2 ^ p) / 2)))), .string (bs (rootS ((L.take (2 ^ p)).drop ((2 ^ p) / 2))))]) (by rfl) rfl Tryd.func40 (by kernel_rfl) (by kernel_rfl) rfl (fun W hW => node_c (a := rootS (L.take ((2 ^ p) / 2))) (b := rootS ((L.take (2 ^ p)).drop ((2 ^ p) / 2))) (by rw [rootS_len (all32_mem (of_right (right_of (fun s9 h9 => hL32 s9 (List.mem_of_mem_take h9)) (by rw [List.length_take]; omega))))]; decide) (by rw [rootS_len (all32_mem (of_right (right_of (fun s9 h9 => hL32 s9 (List.mem_of_mem_take (List.mem_of_mem_drop h9))) (by rw [List.length_drop, List.length_take]; omega))))]; decide) ((M.sees hW).oldL L0) ((M.sees hW).oldR R0_0 L0)) ?_
    simp only [putT, List.set]
    refine wpV_binS (v := .bool true) (by rfl) rfl rfl rfl (fun W => (run_eql_bs _ _ _ W).trans (by rw [(decide_eq_true (root_halves hp1 (by omega)))])) ?_
    simp only [putT, List.set]
    refine wpV_pick (v := .bool true) (by rfl) rfl rfl rfl ?_
    simp only [putT, List.set]
    refine wpV_move (v := .bool true) (by rfl) rfl rfl ?_
    simp only [putT, List.set]
    refine wpV_move (v := .string (bs (rootS L))) (by rfl) rfl rfl ?_
    simp only [putT, List.set]
    refine wpV_move (v := .string (bs (rootS (L.take (2 ^ p))))) (by rfl) rfl rfl ?_
    simp only [putT, List.set]
    refine wpV_move (v := .slice (some ⟨r, 0, none⟩) (2 ^ p + 1) rc) (by rfl) rfl rfl ?_
    simp only [putT, List.set]
    refine wpV_move (v := .int .i64 ((2 ^ p : Nat) : Int)) (by rfl) rfl rfl ?_
    simp only [putT, List.set]
    refine wpV_idxs (n := 2 ^ p) (by rfl) rfl rfl rfl Tryd.underlying48 info9 (by omega) ?_
    simp only [Nat.zero_add]
    simp only [putT, List.set]
    refine wpV_load1 (v := .string (bs (L.getD (2 ^ p) []))) (by rfl) rfl rfl (zadd ((M.r 0 0 rfl rfl) _ _ (scells_get (ps := L) (by omega)))) (M.lt 0 rfl) Tryd.underlying9 rfl ?_
    simp only [putT, List.set]
    refine wpV_callf (v := .string (bs (nodeS (rootS (L.take (2 ^ p))) (L.getD (2 ^ p) [])))) (args := #[.string (bs (rootS (L.take (2 ^ p)))), .string (bs (L.getD (2 ^ p) []))]) (by rfl) rfl Tryd.func40 (by kernel_rfl) (by kernel_rfl) rfl (fun W hW => node_c (a := rootS (L.take (2 ^ p))) (b := L.getD (2 ^ p) []) (by rw [rootS_len (all32_mem (of_right (right_of (fun s9 h9 => hL32 s9 (List.mem_of_mem_take h9)) (by rw [List.length_take]; omega))))]; decide) (by rw [getD_32 hL32 (by omega)]; decide) ((M.sees hW).oldL L0) ((M.sees hW).oldR R0_0 L0)) ?_
    simp only [putT, List.set]
    refine wpV_binS (v := .bool true) (by rfl) rfl rfl rfl (fun W => (run_eql_bs _ _ _ W).trans (by rw [(decide_eq_true (root_more hp1 hLl))])) ?_
    simp only [putT, List.set]
    refine wpV_pick (v := .bool true) (by rfl) rfl rfl rfl ?_
    simp only [putT, List.set]
    refine wpV_nil (hLk _ (fun w58 Sw58 => ?_))
    clear hLk Lk
    simp only [List.take, List.drop]
    replace M := M.sees Sw58
    refine wpL_assign (v := .bool true) (by rfl) (by rfl) (by rfl) ?_
    simp only [putT, List.set]
    refine wpL_nil (no_panic ?_)
    refine hK56 _ _ ?_
    refine wp_ret ?_
    repeat (first | with_reducible refine then_ret ?_ | with_reducible refine inblock_ret ?_)
    refine bodyPost_ret (v := .bool true) (res1 rfl (.tmp (by rfl))) rfl ?_
    have BE := M.below
    exact ⟨rfl, BE⟩
  · skip
    have hk : k < 2 ^ p + 1 := of_decide_eq_true hc40
    refine wp_cond_true rfl ?_
    refine wp_skip ?_
    refine hK39 _ _ ?_
    refine wp_seq_k (fun K59 hK59 => ?_)
    refine wp_block ?_
    refine wp_seq_k (fun K60 hK60 => ?_)
    refine wp_region_seq ?_
    refine wpL_move (v := .int .i64 ((k : Nat) : Int)) (by rfl) (by rfl) (by rfl) ?_
    simp only [putT, List.set]
    refine wpL_assign (v := .int .i64 ((k : Nat) : Int)) (by rfl) (by rfl) (by rfl) ?_
    simp only [putT, List.set]
    refine wpL_nil (no_panic ?_)
    refine hK60 _ _ ?_
    refine wp_region_treeN (by kernel_rfl) (fun w63 Sw63 => ?_)
    replace M := M.sees Sw63
    refine any_first 0 (v := .slice (some ⟨r, 0, none⟩) k rc) (by rfl) (by kernel_rfl) nopanic_not (by rfl) (by exact yl_move rfl rfl) ?_
    simp only [putT, List.set]
    refine any_first 1 (v := .string (bs d)) (by rfl) (by kernel_rfl) nopanic_not (by rfl) (by exact yl_move rfl rfl) ?_
    simp only [putT, List.set]
    refine any_first 2 (v := .string (bs d)) (by rfl) (by kernel_rfl) nopanic_not (by rfl) (by exact yl_move rfl rfl) ?_
    simp only [putT, List.set]
    refine any_first 3 (v := .int .i64 ((d.length : Nat) : Int)) (by rfl) (by kernel_rfl) nopanic_not (by rfl) (by exact yl_lenS rfl rfl rfl Tryd.underlying9) ?_
    simp only [putT, List.set]
    refine any_first 4 (v := .int .i64 ((min d.length 50 : Nat) : Int)) (by rfl) (by kernel_rfl) nopanic_not (by rfl) (by exact yl_min (n := d.length) (m := 50) rfl rfl rfl) ?_
    simp only [putT, List.set]
    refine any_first 5 (v := .string (bs (cut d 50))) (by rfl) (by kernel_rfl) nopanic_not (by rfl) (by exact yl_cut (l := d) (m := 50) rfl rfl rfl Tryd.underlying9) ?_
    simp only [putT, List.set]
    refine any_first 6 (v := .int .i64 ((k : Nat) : Int)) (by rfl) (by kernel_rfl) nopanic_not (by rfl) (by exact yl_move rfl rfl) ?_
    simp only [putT, List.set]
    refine any_step [7] (by kernel_rfl) rfl (any_one ?_)
    refine any_opL 7 (by rfl) ?_
    simp only [List.take, List.drop]
    refine wpL_chunk 1 (by rfl) (fun Lk hLk => ?_)
    simp only [List.take, List.drop]
    refine wpV_conv (d := .bool) (e := ((k % 256 : Nat) : Int)) (by rfl) rfl rfl (run_conv_int Tryd.underlying3 Tryd.underlying5 (wrap_u8N _)) ?_
    simp only [putT, List.set]
    refine wpV_nil (hLk _ (fun w64 Sw64 => ?_))
    clear hLk Lk
    simp only [List.take, List.drop]
    replace M := M.sees Sw64
    refine wpL_nil (then_normal ?_)
    refine any_step [8] (by kernel_rfl) rfl (any_one ?_)
    refine any_opL 8 (by rfl) ?_
    simp only [List.take, List.drop]
    refine wpL_rowN (vs := [.int .u8 ((k % 256 : Nat) : Int)]) (z := .int .u8 0) (bytes := 1) (by rfl) (by rfl) Tryd.underlying35 (by kernel_rfl) (by decide) (by kernel_rfl) (fun g65 w66 Sw66 Hg65 Bg65 => ?_)
    replace M := ((M.sees Sw66).add (N := 1) (cs := [.int .u8 ((k % 256 : Nat) : Int)]) (M.ge Hg65) (M.fresh Hg65) Bg65 rfl)
    replace M := M.read1 (cs := bcells [UInt8.ofNat (k % 256)]) 0 rfl (by rw [bcells_byte (Nat.mod_lt _ (by decide))]; exact M.r 0 0 rfl rfl)
    simp only [List.set] at M
    clear Bg65
    simp only [putT, List.set]
    refine wpL_nil (then_normal ?_)
    refine any_step [9] (by kernel_rfl) rfl (any_one ?_)
    refine any_opL 9 (by rfl) ?_
    simp only [List.take, List.drop]
    refine wpL_chunk 1 (by rfl) (fun Lk hLk => ?_)
    simp only [List.take, List.drop]
    refine wpV_b2s (l := [UInt8.ofNat (k % 256)]) (by rfl) rfl rfl rfl Tryd.underlying35 Tryd.underlying5 Tryd.underlying9 (M.r 0 0 rfl rfl) (M.lt 0 rfl) ?_
    simp only [putT, List.set]
    refine wpV_nil (hLk _ (fun w67 Sw67 => ?_))
    clear hLk Lk
    simp only [List.take, List.drop]
    replace M := M.sees Sw67
    refine wpL_nil (then_normal ?_)
    refine any_step [10] (by kernel_rfl) rfl (any_one ?_)
    refine any_opL 10 (by rfl) ?_
    simp only [List.take, List.drop]
    refine wpL_chunk 1 (by rfl) (fun Lk hLk => ?_)
    simp only [List.take, List.drop]
    refine wpV_binS (v := .string (bs ((cut d 50) ++ ([UInt8.ofNat (k % 256)])))) (by rfl) rfl rfl rfl (run_add_bs _ _ _ (by have := cut_len d 50; simp; omega)) ?_
    simp only [putT, List.set]
    refine wpV_nil (hLk _ (fun w68 Sw68 => ?_))
    clear hLk Lk
    simp only [List.take, List.drop]
    replace M := M.sees Sw68
    refine wpL_nil (then_normal ?_)
    refine any_step [11] (by kernel_rfl) rfl (any_one ?_)
    refine any_opL 11 (by rfl) ?_
    simp only [List.take, List.drop]
    refine wpL_chunk 1 (by rfl) (fun Lk hLk => ?_)
    simp only [List.take, List.drop]
    refine wpV_callf (v := .string (bs (leafS ((cut d 50) ++ ([UInt8.ofNat (k % 256)]))))) (args := #[.string (bs ((cut d 50) ++ ([UInt8.ofNat (k % 256)])))]) (by rfl) rfl Tryd.func38 (by kernel_rfl) (by kernel_rfl) rfl (fun W hW => leaf_c (d := (cut d 50) ++ ([UInt8.ofNat (k % 256)])) (by simp only [List.length_append]; have := cut_len d 50; simp; omega) ((M.sees hW).oldL L0) ((M.sees hW).oldR R0_0 L0)) ?_
    simp only [putT, List.set]
    refine wpV_nil (hLk _ (fun w69 Sw69 => ?_))
    clear hLk Lk
    simp only [List.take, List.drop]
    replace M := M.sees Sw69
    refine wpL_nil (then_normal ?_)
    refine any_step [12] (by kernel_rfl) rfl (any_one ?_)
    refine any_opL 12 (by rfl) ?_
    simp only [List.take, List.drop]
    refine wpL_rowN (vs := [.string (bs (leafS ((cut d 50) ++ ([UInt8.ofNat (k % 256)]))))]) (z := .string { data := #[] }) (bytes := 16) (by rfl) (by rfl) Tryd.underlying48 (by kernel_rfl) (by decide) (by kernel_rfl) (fun g70 w71 Sw71 Hg70 Bg70 => ?_)
    replace M := ((M.sees Sw71).add (N := 1) (cs := [.string (bs (leafS ((cut d 50) ++ ([UInt8.ofNat (k % 256)]))))]) (M.ge Hg70) (M.fresh Hg70) Bg70 (by simp [flen]))
    clear Bg70
    simp only [putT, List.set]
    refine wpL_nil (then_normal ?_)
    refine any_step [13] (by kernel_rfl) rfl (any_one ?_)
    refine any_opL 13 (by rfl) ?_
    simp only [List.take, List.drop]
    refine wpL_append (n := k) (m := 1) (olds := scells (lsK (cut d 50) k)) (news := [.string (bs (leafS ((cut d 50) ++ ([UInt8.ofNat (k % 256)]))))]) (z := .string { data := #[] }) (bytes := 16) (by rfl) (by rfl) (by rfl) (by rfl) Tryd.underlying48 (by kernel_rfl) rfl rfl (by rw [scells_len, lsK_len]) rfl (M.r 2 0 rfl rfl) (M.t 2 rfl) (M.lt 2 rfl) (M.r 0 0 rfl rfl) (by intro u hu; rw [List.mem_singleton.1 hu]; rfl) (by omega) (by simp only [maxLen]; omega) (fun g72 g72c w73 Sw73 Q Cg72 R T L => ?_)
    replace M := M.grow 2 rfl Sw73 Q R T L
    simp only [List.set] at M
    clear Q R T L
    rw [show scells (lsK (cut d 50) k) ++ [.string (bs (leafS ((cut d 50) ++ ([UInt8.ofNat (k % 256)]))))] = scells (lsK (cut d 50) (k + 1)) from (scells_app _ [leafK (cut d 50) k]).trans (by rw [lsK_succ])] at M
    simp only [putT, List.set]
    refine wpL_nil (then_normal ?_)
    refine any_first 14 (v := .slice (some ⟨g72, 0, none⟩) (k + 1) g72c) (by rfl) (by kernel_rfl) nopanic_not (by rfl) (by exact yl_assign rfl rfl) ?_
    simp only [putT, List.set]
    refine any_end (by kernel_rfl) (no_panic ?_)
    refine hK59 _ _ ?_
    refine wp_region_seq ?_
    refine wpL_chunk 1 (by rfl) (fun Lk hLk => ?_)
    simp only [List.take, List.drop]
    refine wpV_bin (v := .int .i64 ((k + 1 : Nat) : Int)) (by rfl) rfl rfl rfl (fun W => run_add (by simp only [IntKind.wrap_i64]; omega) W) ?_
    simp only [putT, List.set]
    refine wpV_nil (hLk _ (fun w75 Sw75 => ?_))
    clear hLk Lk
    simp only [List.take, List.drop]
    replace M := M.sees Sw75
    refine wpL_move (v := .int .i64 ((k + 1 : Nat) : Int)) (by rfl) (by rfl) (by rfl) ?_
    simp only [putT, List.set]
    refine wpL_nil (no_panic ?_)
    refine Exists.intro _ ⟨?_, (k + 1), g72, g72c, (fun q9 => (#[undef, undef, undef, undef, undef, undef, .int .i64 ((k : Nat) : Int), undef, undef, undef, undef, undef, undef, undef, undef, undef, undef, undef, undef, undef, undef, undef, undef, undef, undef, .bool true, .int .i64 ((k : Nat) : Int), .slice (some ⟨r, 0, none⟩) k rc, .string (bs d), .string (bs d), .int .i64 ((d.length : Nat) : Int), .int .i64 ((min d.length 50 : Nat) : Int), .string (bs (cut d 50)), .int .i64 ((k : Nat) : Int), .int .u8 ((k % 256 : Nat) : Int), .slice (some ⟨g65, 0, none⟩) 1 1, .string (bs ([UInt8.ofNat (k % 256)])), .string (bs ((cut d 50) ++ ([UInt8.ofNat (k % 256)]))), .string (bs (leafS ((cut d 50) ++ ([UInt8.ofNat (k % 256)])))), .slice (some ⟨g70, 0, none⟩) 1 1, .slice (some ⟨g72, 0, none⟩) (k + 1) g72c, .int .i64 ((k + 1 : Nat) : Int)] : Array Value).getD q9 undef), rfl, rfl, (M.pick [2] (by decide) rfl), Cg72, (by omega), (by omega)⟩
    omega
end Go.Proofs.Yb
