import Derived.WalkKit
import Derived.WalkSpells
import Derived.Laws.Pointers
import Derived.RowKit3
import Derived.Below
import Derived.Outline
import Derived.LoopN
import Derived.Lib.Hide
import Derived.Handy
import Derived.Laws.Bits64b
import Derived.Test.YticcchgckljlnaaDoorTr4
import Derived.Test.YticcchgckljlnaaDoorTrP
import Derived.Test.YticcchgckljlnaaDoorAdds2
set_option linter.unusedSimpArgs false
set_option linter.unusedVariables false
namespace Go.Proofs.Yb
open Go Go.RowKit Go.Proofs.Num
attribute [local irreducible] wpV wpN wpList
theorem may_nil : mayG 0 [] = true := by
  have h := mayG_nat 0 []
  have e : mayN 0 [] = true := by
    unfold mayN
    rw [ones_zero]
    rfl
  exact h.trans e
theorem parts_len (d : List UInt8) (k : Nat) : (addsP 0 [] (lsK d k)).length = ones k := by
  rw [addsP_len _ _ _ (by rw [ones_zero]; rfl), lsK_len, Nat.zero_add]
theorem parts_32 (d : List UInt8) (k : Nat) : ∀ s ∈ addsP 0 [] (lsK d k), s.length = 32 := addsP_32 _ _ _ (fun q h => (by cases h)) (lsK_32 d k)
theorem may_of {m : Nat} {ps : List (List UInt8)} (hm : m ≤ 4096) (hl : ps.length = ones m) (h : ∀ s ∈ ps, s.length = 32) : mayG ((m : Nat) : Int) ps = true := by
  rw [mayG_nat]
  unfold mayN
  rw [decide_eq_true hm, decide_eq_true hl]
  simpa [all32] using h
theorem right_one (a : List UInt8) : rightB [leafS a] = true := right_of (fun s h => by rw [List.mem_singleton.1 h]; exact leafS_len a) (by simp)
theorem one_32 (a : List UInt8) : ∀ s ∈ [leafS a], s.length = 32 := fun s h => by rw [List.mem_singleton.1 h]; exact leafS_len a
theorem parts_step (d : List UInt8) (k : Nat) : addsP k (addsP 0 [] (lsK d k)) [leafS (d ++ [UInt8.ofNat (k % 256)])] = addsP 0 [] (lsK d (k + 1)) := by
  rw [← lsK_succ, addsP_snoc, lsK_len, Nat.zero_add]
  rfl
theorem parts_step0 (d : List UInt8) : addsP 0 [] [leafS (d ++ [UInt8.ofNat (0 % 256)])] = addsP 0 [] (lsK d 1) := parts_step d 0
theorem sum_one (d : List UInt8) : sumP (addsP 0 [] (lsK d 1)) = leafS (d ++ [0]) := by
  have e : lsK d 1 = [leafS (d ++ [0])] := rfl
  rw [e, addsP, addP_even (by decide), addsP]
  rfl
theorem ones_le_80 {n : Nat} (h : n ≤ 4096) : ones n ≤ 4611686018427387904 := Nat.le_trans (oc_ones h).2.2 (by decide)
set_option maxHeartbeats 4000000 in
theorem parts_c {x : Int} {l : List UInt8} {w : World} (L0 : 0 < w.heap.size) (R0_0 : w.rangeAt 0 0 kcells) :
    Calls Tryd.prog 15 #[.int .i64 x, .string (bs l)] w fun e w' => e = .returned (.bool true) ∧ Below w.heap.size w w' := by
  obtain ⟨p, hp, hp8⟩ : ∃ p : Nat, min (max x 0) 80 = (p : Int) ∧ p ≤ 80 := ⟨(min (max x 0) 80).toNat, by omega, by omega⟩
  obtain ⟨d, hd⟩ : ∃ d, d = cut l 20 := ⟨_, rfl⟩
  have hdl : d.length ≤ 20 := hd ▸ cut_len _ _
  go_enter Tryd.func15, Tryd.ntmps15
  have M := Mem.start w
  refine wp_seq_k (fun K1 hK1 => ?_)
  refine wp_region_seq ?_
  refine wpL_assign (v := .bool false) (by rfl) (by rfl) (by rfl) ?_
  simp only [putT, List.set]
  refine wpL_nil (no_panic ?_)
  refine hK1 _ _ ?_
  refine wp_seq_k (fun K3 hK3 => ?_)
  refine wp_region_seq ?_
  refine wpL_move (v := .int .i64 x) (by rfl) (by rfl) (by rfl) ?_
  simp only [putT, List.set]
  refine wpL_chunk 2 (by rfl) (fun Lk hLk => ?_)
  simp only [List.take, List.drop]
  refine wpV_maxZ (m := x) (n := 0) (e := max x 0) (by rfl) rfl rfl rfl rfl ?_
  simp only [putT, List.set]
  refine wpV_minZ (m := max x 0) (n := 80) (e := ((p : Nat) : Int)) (by rfl) rfl rfl rfl hp ?_
  simp only [putT, List.set]
  refine wpV_nil (hLk _ (fun w5 Sw5 => ?_))
  clear hLk Lk
  simp only [List.take, List.drop]
  replace M := M.sees Sw5
  refine wpL_assign (v := .int .i64 ((p : Nat) : Int)) (by rfl) (by rfl) (by rfl) ?_
  simp only [putT, List.set]
  refine wpL_nil (no_panic ?_)
  refine hK3 _ _ ?_
  refine wp_seq_k (fun K6 hK6 => ?_)
  refine wp_region_seq ?_
  refine wpL_move (v := .string (bs l)) (by rfl) (by rfl) (by rfl) ?_
  simp only [putT, List.set]
  refine wpL_move (v := .string (bs l)) (by rfl) (by rfl) (by rfl) ?_
  simp only [putT, List.set]
  refine wpL_chunk 3 (by rfl) (fun Lk hLk => ?_)
  simp only [List.take, List.drop]
  refine wpV_lenS (by rfl) rfl rfl rfl Tryd.underlying9 ?_
  simp only [putT, List.set]
  refine wpV_min (n := l.length) (m := 20) (by rfl) rfl rfl rfl ?_
  simp only [putT, List.set]
  refine wpV_cut (l := l) (m := 20) (by rfl) rfl rfl rfl Tryd.underlying9 ?_
  simp only [putT, List.set]
  refine wpV_nil (hLk _ (fun w8 Sw8 => ?_))
  clear hLk Lk
  simp only [List.take, List.drop]
  replace M := M.sees Sw8
  refine wpL_assign (v := .string (bs (cut l 20))) (by rfl) (by rfl) (by rfl) ?_
  simp only [putT, List.set]
  refine wpL_nil (no_panic ?_)
  rw [← hd]
  refine hK6 _ _ ?_
  refine wp_seq_k (fun K9 hK9 => ?_)
  refine wp_region_seq ?_
  refine wpL_chunk 1 (by rfl) (fun Lk hLk => ?_)
  simp only [List.take, List.drop]
  refine wpV_val (v := .agg ([.int .i64 0, .slice none 0 0]).toArray) (by rfl) (by rfl) (fun W hW => ?_) ?_
  · (unfold RunsVal; kernel_rfl)
  simp only [putT, List.set]
  refine wpV_nil (hLk _ (fun w11 Sw11 => ?_))
  clear hLk Lk
  simp only [List.take, List.drop]
  replace M := M.sees Sw11
  refine wpL_var (t := 66) (cs := [.int .i64 0, .slice none 0 0]) (by rfl) (fun W => ?_) (fun g12 w13 Sw13 Hg12 Bg12 => ?_)
  · go_simp
  replace M := ((M.sees Sw13).add (N := 2) (cs := [.int .i64 0, .slice none 0 0]) (M.ge Hg12) (M.fresh Hg12) Bg12 rfl)
  clear Bg12
  simp only [putT, List.set]
  refine wpL_store (g := g12) (off := 0) (n := 2) (cs := [.int .i64 0, .slice none 0 0]) (by rfl) (by rfl) (by rfl) (by rfl) (by rfl) (M.t 0 rfl) (by simp [flen]) info66 (by simp [fone, Value.oneCell']) (fun w14 P R T => ?_)
  replace M := M.putS 0 0 rfl P R T rfl ⟨.inl rfl, trivial⟩
  simp only [List.set] at M
  refine wpL_nil (no_panic ?_)
  refine hK9 _ _ ?_
  refine wp_seq_k (fun K15 hK15 => ?_)
  refine wp_seq_k (fun K16 hK16 => ?_)
  refine wp_region_seq ?_
  refine wpL_move (v := .int .i64 ((p : Nat) : Int)) (by rfl) (by rfl) (by rfl) ?_
  simp only [putT, List.set]
  refine wpL_move (v := .int .i64 0) (by rfl) (by rfl) (by rfl) ?_
  simp only [putT, List.set]
  refine wpL_nil (no_panic ?_)
  refine hK16 _ _ ?_
  refine wp_block ?_
  refine wp_loop_peel (fun n9 a9 W9 => ∃ (k : Nat) (r : Nat) (rc : Nat) (u18 : Nat → Value), n9 = 2 * (p - k) ∧ a9 = { tmps := #[.int .i64 ((p : Nat) : Int), .string (bs d), undef, undef, u18 4, .pointer (some ⟨g12, 0, none⟩), u18 6, u18 7, u18 8, undef, undef, undef, undef, undef, undef, .int .i64 x, .int .i64 (max x 0), .int .i64 ((p : Nat) : Int), .string (bs l), .string (bs l), .int .i64 ((l.length : Nat) : Int), .int .i64 ((min l.length 20 : Nat) : Int), .string (bs d), .agg ([.int .i64 0, .slice none 0 0]).toArray, .int .i64 ((p : Nat) : Int), .int .i64 ((k : Nat) : Int), u18 26, u18 27, u18 28, u18 29, u18 30, u18 31, u18 32, u18 33, u18 34, u18 35, u18 36, u18 37, u18 38, u18 39, u18 40, u18 41, u18 42, u18 43, u18 44, undef, undef, undef, undef, undef, undef, undef, undef, undef, undef, undef, undef, undef, undef, undef, undef, undef, undef, undef, undef, undef, undef, undef, undef, undef, undef, undef, undef, undef, undef, undef, undef, undef, undef, undef, undef, undef, undef, undef, undef, undef, undef, undef, undef, undef, undef, undef, undef, undef, undef, undef, undef, undef, undef, undef, undef, undef, undef, undef, undef, undef, undef, undef], defers := [] } ∧ Mem [] w W9 [⟨g12, 2, [(0, [.int .i64 ((k : Nat) : Int), .slice (some ⟨r, 0, none⟩) ((addsP 0 [] (lsK d k)).length) rc])]⟩, ⟨r, rc, [(0, scells (addsP 0 [] (lsK d k)))]⟩] ∧ (addsP 0 [] (lsK d k)).length ≤ rc ∧ (1 ≤ k) ∧ (k ≤ p)) (2 * (p - (1)) + 1) ?_ (fun n9 a9 W9 hI => ?_)
  · skip
    refine wp_seq_k (fun K19 hK19 => ?_)
    refine wp_region_seq ?_
    refine wpL_chunk 1 (by rfl) (fun Lk hLk => ?_)
    simp only [List.take, List.drop]
    refine wpV_bin (v := .bool (decide (0 < p))) (by rfl) rfl rfl rfl (fun W => run_lssN 0 p _ _ W) ?_
    simp only [putT, List.set]
    refine wpV_nil (hLk _ (fun w21 Sw21 => ?_))
    clear hLk Lk
    simp only [List.take, List.drop]
    replace M := M.sees Sw21
    refine wpL_nil (no_panic ?_)
    refine hK19 _ _ ?_
    refine wp_seq_k (fun K22 hK22 => ?_)
    cases hc23 : (decide (0 < p))
    · skip
      obtain rfl : p = 0 := by have := of_decide_eq_false hc23; omega
      refine wp_cond_false rfl ?_
      refine wp_exit ?_
      refine hK15 _ _ ?_
      refine wp_seq_k (fun K24 hK24 => ?_)
      refine wp_region_seq ?_
      refine wpL_assign (v := .int .i64 0) (by rfl) (by rfl) (by rfl) ?_
      simp only [putT, List.set]
      refine wpL_nil (no_panic ?_)
      refine hK24 _ _ ?_
      refine wp_seq_k (fun K26 hK26 => ?_)
      refine wp_seq_k (fun K27 hK27 => ?_)
      refine wp_region_seq ?_
      refine wpL_move (v := .int .i64 0) (by rfl) (by rfl) (by rfl) ?_
      simp only [putT, List.set]
      refine wpL_assign (v := .int .i64 0) (by rfl) (by rfl) (by rfl) ?_
      simp only [putT, List.set]
      refine wpL_nil (no_panic ?_)
      refine hK27 _ _ ?_
      refine wp_block ?_
      refine wp_loop_ghost (fun n9 a9 W9 => ∃ (acc : Nat) (q : Nat) (u29 : Nat → Value), n9 = 2 * q ∧ a9 = { tmps := #[.int .i64 0, .string (bs d), undef, undef, .bool false, .pointer (some ⟨g12, 0, none⟩), undef, undef, undef, .int .i64 ((acc : Nat) : Int), .int .i64 ((q : Nat) : Int), undef, undef, undef, undef, .int .i64 x, .int .i64 (max x 0), .int .i64 0, .string (bs l), .string (bs l), .int .i64 ((l.length : Nat) : Int), .int .i64 ((min l.length 20 : Nat) : Int), .string (bs d), .agg ([.int .i64 0, .slice none 0 0]).toArray, .int .i64 0, .int .i64 0, .bool false, undef, undef, undef, undef, undef, undef, undef, undef, undef, undef, undef, undef, undef, undef, undef, undef, undef, undef, .int .i64 0, u29 46, u29 47, u29 48, u29 49, u29 50, u29 51, u29 52, u29 53, undef, undef, undef, undef, undef, undef, undef, undef, undef, undef, undef, undef, undef, undef, undef, undef, undef, undef, undef, undef, undef, undef, undef, undef, undef, undef, undef, undef, undef, undef, undef, undef, undef, undef, undef, undef, undef, undef, undef, undef, undef, undef, undef, undef, undef, undef, undef, undef, undef, undef, undef, undef, undef, undef], defers := [] } ∧ Mem [] w W9 [⟨g12, 2, [(0, [.int .i64 0, .slice none 0 0])]⟩] ∧ (q ≤ 0) ∧ (acc + ones q = ones 0) ∧ (acc ≤ 13)) (2 * (0)) ?_ (fun n9 a9 W9 hI => ?_)
      · exact ⟨0, 0, (fun q9 => (#[undef, undef, undef, undef, undef, undef, undef, undef, undef, undef, undef, undef, undef, undef, undef, undef, undef, undef, undef, undef, undef, undef, undef, undef, undef, undef, undef, undef, undef, undef, undef, undef, undef, undef, undef, undef, undef, undef, undef, undef, undef, undef, undef, undef, undef, undef, undef, undef, undef, undef, undef, undef, undef, undef] : Array Value).getD q9 undef), rfl, rfl, M, (Nat.le_refl _), (Nat.zero_add _), (Nat.zero_le _)⟩
      clear M
      obtain ⟨acc, q, u29, rfl, rfl, M, hqp, hacc, hal⟩ := hI
      obtain ⟨w30, rfl⟩ : ∃ W8, W8 = W9 := ⟨_, rfl⟩
      have ho13 : ones 0 ≤ 13 := by rw [ones_zero]; decide
      refine wp_seq_k (fun K31 hK31 => ?_)
      refine wp_seq_k (fun K32 hK32 => ?_)
      refine wp_region_seq ?_
      refine wpL_move (v := .int .i64 ((q : Nat) : Int)) (by rfl) (by rfl) (by rfl) ?_
      simp only [putT, List.set]
      refine wpL_chunk 1 (by rfl) (fun Lk hLk => ?_)
      simp only [List.take, List.drop]
      refine wpV_bin (v := .bool (decide (0 < q))) (by rfl) rfl rfl rfl (fun W => run_gtrN q 0 _ _ W) ?_
      simp only [putT, List.set]
      refine wpV_nil (hLk _ (fun w34 Sw34 => ?_))
      clear hLk Lk
      simp only [List.take, List.drop]
      replace M := M.sees Sw34
      refine wpL_nil (no_panic ?_)
      refine hK32 _ _ ?_
      cases hc35 : (decide (0 < q))
      · skip
        obtain rfl : q = 0 := by have := of_decide_eq_false hc35; omega
        rw [ones_zero, Nat.add_zero] at hacc
        refine wp_cond_false rfl ?_
        refine wp_exit ?_
        refine hK26 _ _ ?_
        refine wp_seq_k (fun K36 hK36 => ?_)
        refine wp_region_seq ?_
        refine wpL_chunk 5 (by rfl) (fun Lk hLk => ?_)
        simp only [List.take, List.drop]
        refine wpV_load (cs := [.int .i64 0, .slice none 0 0]) (by rfl) rfl rfl (M.r 0 0 rfl rfl) (M.lt 0 rfl) Tryd.underlying66 rfl info66 ?_
        simp only [putT, List.set]
        refine wpV_callf (v := .tuple #[.string (bs (sha [])), .int .i64 0]) (args := #[.agg ([.int .i64 0, .slice none 0 0]).toArray]) (by rfl) rfl Tryd.func60 (by kernel_rfl) (by kernel_rfl) rfl (fun W hW => by with_reducible exact Sum_z (ps := []) (Nat.zero_le _) may_nil ((M.sees hW).oldL L0) ((M.sees hW).oldR R0_0 L0) RowA.nil) ?_
        simp only [putT, List.set]
        refine wpV_move (v := .tuple #[.string (bs (sha [])), .int .i64 0]) (by rfl) rfl rfl ?_
        simp only [putT, List.set]
        refine wpV_extract (v := .string (bs (sha []))) (by rfl) rfl rfl rfl ?_
        simp only [putT, List.set]
        refine wpV_extract (v := .int .i64 0) (by rfl) rfl rfl rfl ?_
        simp only [putT, List.set]
        refine wpV_nil (hLk _ (fun w38 Sw38 => ?_))
        clear hLk Lk
        simp only [List.take, List.drop]
        replace M := M.sees Sw38
        refine wpL_assign (v := .string (bs (sha []))) (by rfl) (by rfl) (by rfl) ?_
        simp only [putT, List.set]
        refine wpL_assign (v := .int .i64 0) (by rfl) (by rfl) (by rfl) ?_
        simp only [putT, List.set]
        refine wpL_nil (no_panic ?_)
        refine hK36 _ _ ?_
        refine wp_seq_k (fun K39 hK39 => ?_)
        refine wp_region_seq ?_
        refine wpL_chunk 4 (by rfl) (fun Lk hLk => ?_)
        simp only [List.take, List.drop]
        refine wpV_callf (v := .tuple #[.string (bs (rootS [])), .int .i64 0]) (args := #[(.slice none 0 0)]) (by rfl) rfl Tryd.func37 (by kernel_rfl) (by kernel_rfl) rfl (fun W hW => Root_c0 ((M.sees hW).oldL L0) ((M.sees hW).oldR R0_0 L0)) ?_
        simp only [putT, List.set]
        refine wpV_move (v := .tuple #[.string (bs (rootS [])), .int .i64 0]) (by rfl) rfl rfl ?_
        simp only [putT, List.set]
        refine wpV_extract (v := .string (bs (rootS []))) (by rfl) rfl rfl rfl ?_
        simp only [putT, List.set]
        refine wpV_extract (v := .int .i64 0) (by rfl) rfl rfl rfl ?_
        simp only [putT, List.set]
        refine wpV_nil (hLk _ (fun w41 Sw41 => ?_))
        clear hLk Lk
        simp only [List.take, List.drop]
        replace M := M.sees Sw41
        refine wpL_assign (v := .string (bs (rootS []))) (by rfl) (by rfl) (by rfl) ?_
        simp only [putT, List.set]
        refine wpL_assign (v := .int .i64 0) (by rfl) (by rfl) (by rfl) ?_
        simp only [putT, List.set]
        refine wpL_nil (no_panic ?_)
        refine hK39 _ _ ?_
        refine wp_seq_k (fun K42 hK42 => ?_)
        refine wp_seq_k (fun K43 hK43 => ?_)
        refine wp_region_seq ?_
        refine wpL_move (v := .int .i64 0) (by rfl) (by rfl) (by rfl) ?_
        simp only [putT, List.set]
        refine wpL_chunk 22 (by rfl) (fun Lk hLk => ?_)
        simp only [List.take, List.drop]
        refine wpV_bin (v := .bool false) (by rfl) rfl rfl rfl (fun W => (run_neqN 0 0 _ _ W).trans (by rw [(decide_eq_false (fun h => h rfl))])) ?_
        simp only [putT, List.set]
        refine wpV_move (v := .bool false) (by rfl) rfl rfl ?_
        simp only [putT, List.set]
        refine wpV_move (v := .int .i64 0) (by rfl) rfl rfl ?_
        simp only [putT, List.set]
        refine wpV_bin (v := .bool false) (by rfl) rfl rfl rfl (fun W => (run_neqN 0 0 _ _ W).trans (by rw [(decide_eq_false (fun h => h rfl))])) ?_
        simp only [putT, List.set]
        refine wpV_pick (v := .bool false) (by rfl) rfl rfl rfl ?_
        simp only [putT, List.set]
        refine wpV_move (v := .bool false) (by rfl) rfl rfl ?_
        simp only [putT, List.set]
        refine wpV_val (v := .pointer (some ⟨g12, 1, none⟩)) (by rfl) (by rfl) (fun W hW => ?_) ?_
        · (go_simp; exact rfl)
        simp only [putT, List.set]
        refine wpV_load1 (v := .slice none 0 0) (by rfl) rfl rfl (range_one (range_sub (M.r 0 0 rfl rfl) 1 1 1 (xs := [.slice none 0 0]) rfl rfl)) (M.lt 0 rfl) Tryd.underlying48 rfl ?_
        simp only [putT, List.set]
        refine wpV_lenA (n := 0) (by rfl) rfl rfl rfl Tryd.underlying48 ?_
        simp only [putT, List.set]
        refine wpV_move (v := .int .i64 ((acc : Nat) : Int)) (by rfl) rfl rfl ?_
        simp only [putT, List.set]
        refine wpV_bin (v := .bool false) (by rfl) rfl rfl rfl (fun W => (run_neqN 0 acc _ _ W).trans (by rw [(decide_eq_false (by rw [hacc]; exact fun h => h rfl))])) ?_
        simp only [putT, List.set]
        refine wpV_pick (v := .bool false) (by rfl) rfl rfl rfl ?_
        simp only [putT, List.set]
        refine wpV_move (v := .bool false) (by rfl) rfl rfl ?_
        simp only [putT, List.set]
        refine wpV_val (v := .pointer (some ⟨g12, 0, none⟩)) (by rfl) (by rfl) (fun W hW => ?_) ?_
        · (go_simp; exact rfl)
        simp only [putT, List.set]
        refine wpV_load1 (v := .int .i64 0) (by rfl) rfl rfl (range_one (range_sub (M.r 0 0 rfl rfl) 0 1 0 (xs := [.int .i64 0]) rfl rfl)) (M.lt 0 rfl) Tryd.underlying3 rfl ?_
        simp only [putT, List.set]
        refine wpV_move (v := .int .i64 0) (by rfl) rfl rfl ?_
        simp only [putT, List.set]
        refine wpV_bin (v := .bool false) (by rfl) rfl rfl rfl (fun W => (run_neqN 0 0 _ _ W).trans (by rw [(decide_eq_false (fun h => h rfl))])) ?_
        simp only [putT, List.set]
        refine wpV_pick (v := .bool false) (by rfl) rfl rfl rfl ?_
        simp only [putT, List.set]
        refine wpV_move (v := .bool false) (by rfl) rfl rfl ?_
        simp only [putT, List.set]
        refine wpV_callf (v := .bool true) (args := #[]) (by rfl) rfl Tryd.func44 (by kernel_rfl) (by kernel_rfl) rfl (fun W hW => alive08_c ((M.sees hW).oldL L0) ((M.sees hW).oldR R0_0 L0)) ?_
        simp only [putT, List.set]
        refine wpV_not (b := true) (by rfl) rfl rfl ?_
        simp only [Bool.not_true, Bool.not_false]
        simp only [putT, List.set]
        refine wpV_pick (v := .bool false) (by rfl) rfl rfl rfl ?_
        simp only [putT, List.set]
        refine wpV_nil (hLk _ (fun w45 Sw45 => ?_))
        clear hLk Lk
        simp only [List.take, List.drop]
        replace M := M.sees Sw45
        refine wpL_nil (no_panic ?_)
        refine hK43 _ _ ?_
        refine wp_cond_false rfl ?_
        refine wp_skip ?_
        refine hK42 _ _ ?_
        refine wp_seq_k (fun K46 hK46 => ?_)
        refine wp_region_seq ?_
        refine wpL_move (v := .int .i64 0) (by rfl) (by rfl) (by rfl) ?_
        simp only [putT, List.set]
        refine wpL_chunk 21 (by rfl) (fun Lk hLk => ?_)
        simp only [List.take, List.drop]
        refine wpV_bin (v := .bool false) (by rfl) rfl rfl rfl (fun W => run_gtr _ _ _ _ W) ?_
        simp only [putT, List.set]
        refine wpV_move (v := .bool false) (by rfl) rfl rfl ?_
        simp only [putT, List.set]
        refine wpV_move (v := .int .i64 0) (by rfl) rfl rfl ?_
        simp only [putT, List.set]
        refine wpV_bin (v := .bool false) (by rfl) rfl rfl rfl (fun W => run_eql _ _ _ _ W) ?_
        simp only [putT, List.set]
        refine wpV_move (v := .bool false) (by rfl) rfl rfl ?_
        simp only [putT, List.set]
        refine wpV_skip (by rfl) (by rfl) ?_
        simp only [putT, List.set]
        refine wpV_skip (by rfl) (by rfl) ?_
        simp only [putT, List.set]
        refine wpV_skip (by rfl) (by rfl) ?_
        simp only [putT, List.set]
        refine wpV_skip (by rfl) (by rfl) ?_
        simp only [putT, List.set]
        refine wpV_skip (by rfl) (by rfl) ?_
        simp only [putT, List.set]
        refine wpV_pick (v := .bool false) (by rfl) rfl rfl rfl ?_
        simp only [putT, List.set]
        refine wpV_pick (v := .bool false) (by rfl) rfl rfl rfl ?_
        simp only [putT, List.set]
        refine wpV_move (v := .bool false) (by rfl) rfl rfl ?_
        simp only [putT, List.set]
        refine wpV_move (v := .int .i64 0) (by rfl) rfl rfl ?_
        simp only [putT, List.set]
        refine wpV_bin (v := .bool true) (by rfl) rfl rfl rfl (fun W => run_eql _ _ _ _ W) ?_
        simp only [putT, List.set]
        refine wpV_move (v := .bool true) (by rfl) rfl rfl ?_
        simp only [putT, List.set]
        refine wpV_move (v := .string (bs (sha []))) (by rfl) rfl rfl ?_
        simp only [putT, List.set]
        refine wpV_move (v := .string (bs (rootS []))) (by rfl) rfl rfl ?_
        simp only [putT, List.set]
        refine wpV_binS (v := .bool true) (by rfl) rfl rfl rfl (fun W => (run_eql_bs _ _ _ W).trans (by rw [(decide_eq_true (rootS_0 rfl).symm)])) ?_
        simp only [putT, List.set]
        refine wpV_pick (v := .bool true) (by rfl) rfl rfl rfl ?_
        simp only [putT, List.set]
        refine wpV_pick (v := .bool true) (by rfl) rfl rfl rfl ?_
        simp only [putT, List.set]
        refine wpV_nil (hLk _ (fun w48 Sw48 => ?_))
        clear hLk Lk
        simp only [List.take, List.drop]
        replace M := M.sees Sw48
        refine wpL_assign (v := .bool true) (by rfl) (by rfl) (by rfl) ?_
        simp only [putT, List.set]
        refine wpL_nil (no_panic ?_)
        refine hK46 _ _ ?_
        refine wp_ret ?_
        repeat (first | with_reducible refine then_ret ?_ | with_reducible refine inblock_ret ?_)
        refine bodyPost_ret (v := .bool true) (res1 rfl (.tmp (by rfl))) rfl ?_
        have BE := M.below
        exact ⟨rfl, BE⟩
      · skip
        have hq0 : 0 < q := of_decide_eq_true hc35
        refine wp_cond_true rfl ?_
        refine wp_skip ?_
        refine hK31 _ _ ?_
        refine wp_seq_k (fun K49 hK49 => ?_)
        refine wp_block ?_
        refine wp_region_seq ?_
        refine wpL_move (v := .int .i64 ((acc : Nat) : Int)) (by rfl) (by rfl) (by rfl) ?_
        simp only [putT, List.set]
        refine wpL_move (v := .int .i64 ((q : Nat) : Int)) (by rfl) (by rfl) (by rfl) ?_
        simp only [putT, List.set]
        refine wpL_chunk 2 (by rfl) (fun Lk hLk => ?_)
        simp only [List.take, List.drop]
        refine wpV_bin (v := .int .i64 ((q % 2 : Nat) : Int)) (by rfl) rfl rfl rfl (fun W => run_rem (by decide) (tmod_nat q 2) W) ?_
        simp only [putT, List.set]
        refine wpV_bin (v := .int .i64 ((acc + q % 2 : Nat) : Int)) (by rfl) rfl rfl rfl (fun W => run_add (by simp only [IntKind.wrap_i64]; omega) W) ?_
        simp only [putT, List.set]
        refine wpV_nil (hLk _ (fun w51 Sw51 => ?_))
        clear hLk Lk
        simp only [List.take, List.drop]
        replace M := M.sees Sw51
        refine wpL_assign (v := .int .i64 ((acc + q % 2 : Nat) : Int)) (by rfl) (by rfl) (by rfl) ?_
        simp only [putT, List.set]
        refine wpL_nil (no_panic ?_)
        refine hK49 _ _ ?_
        refine wp_region_seq ?_
        refine wpL_move (v := .int .i64 ((q : Nat) : Int)) (by rfl) (by rfl) (by rfl) ?_
        simp only [putT, List.set]
        refine wpL_chunk 1 (by rfl) (fun Lk hLk => ?_)
        simp only [List.take, List.drop]
        refine wpV_bin (v := .int .i64 ((q / 2 : Nat) : Int)) (by rfl) rfl rfl rfl (fun W => run_quo (by decide) ((congrArg _ (tdiv_nat q 2)).trans (wrap_nat _ (by omega))) W) ?_
        simp only [putT, List.set]
        refine wpV_nil (hLk _ (fun w53 Sw53 => ?_))
        clear hLk Lk
        simp only [List.take, List.drop]
        replace M := M.sees Sw53
        refine wpL_assign (v := .int .i64 ((q / 2 : Nat) : Int)) (by rfl) (by rfl) (by rfl) ?_
        simp only [putT, List.set]
        refine wpL_nil (no_panic ?_)
        refine Exists.intro _ ⟨?_, (acc + q % 2), (q / 2), (fun q9 => (#[undef, undef, undef, undef, undef, undef, undef, undef, undef, undef, undef, undef, undef, undef, undef, undef, undef, undef, undef, undef, undef, undef, undef, undef, undef, undef, undef, undef, undef, undef, undef, undef, undef, undef, undef, undef, undef, undef, undef, undef, undef, undef, undef, undef, undef, undef, .int .i64 ((q : Nat) : Int), .bool true, .int .i64 ((q : Nat) : Int), .int .i64 ((q / 2 : Nat) : Int), .int .i64 ((acc : Nat) : Int), .int .i64 ((q : Nat) : Int), .int .i64 ((q % 2 : Nat) : Int), .int .i64 ((acc + q % 2 : Nat) : Int)] : Array Value).getD q9 undef), rfl, rfl, M, (by omega), (by rw [ones_pos (by omega : q ≠ 0)] at hacc; omega), (by rw [ones_pos (by omega : q ≠ 0)] at hacc; omega)⟩
        omega
    · skip
      have h0p : 0 < p := of_decide_eq_true hc23
      refine wp_cond_true rfl ?_
      refine wp_skip ?_
      refine hK22 _ _ ?_
      refine wp_seq_k (fun K54 hK54 => ?_)
      refine wp_block ?_
      refine wp_seq_k (fun K55 hK55 => ?_)
      refine wp_region_seq ?_
      refine wpL_move (v := .int .i64 0) (by rfl) (by rfl) (by rfl) ?_
      simp only [putT, List.set]
      refine wpL_assign (v := .int .i64 0) (by rfl) (by rfl) (by rfl) ?_
      simp only [putT, List.set]
      refine wpL_nil (no_panic ?_)
      refine hK55 _ _ ?_
      refine wp_seq_k (fun K57 hK57 => ?_)
      refine wp_region_addsF 14 [12] [4, 8, 9, 13] [ValRel (.agg ([.int .i64 0, .slice none 0 0]).toArray), ValRel (.string (bs d)), ValRel (.int .i64 0), ValRel (.int .u8 ((0 % 256 : Nat) : Int)), BoxRel w21 (fun gA => .slice (some ⟨gA, 0, none⟩) 1 1) 1 [(0, bcells [UInt8.ofNat (0 % 256)])], ValRel (.string (bs ([UInt8.ofNat (0 % 256)]))), ValRel (.string (bs (d ++ ([UInt8.ofNat (0 % 256)])))), ValRel (.string (bs (leafS (d ++ ([UInt8.ofNat (0 % 256)]))))), BoxRel w21 (fun gA => .slice (some ⟨gA, 0, none⟩) 1 1) 1 [(0, [.string (bs (leafS (d ++ ([UInt8.ofNat (0 % 256)]))))])], NewRel w21 (fun gA gAc => .tuple #[.agg ([.int .i64 ((1 : Nat) : Int), .slice (some ⟨gA, 0, none⟩) ((addsP 0 [] (lsK d 1)).length) gAc]).toArray, .int .i64 0]) ((addsP 0 [] (lsK d 1)).length) [(0, scells (addsP 0 [] (lsK d 1)))], LinkRel 9 (fun x => x) (NewRel w21 (fun gA gAc => .tuple #[.agg ([.int .i64 ((1 : Nat) : Int), .slice (some ⟨gA, 0, none⟩) ((addsP 0 [] (lsK d 1)).length) gAc]).toArray, .int .i64 0]) ((addsP 0 [] (lsK d 1)).length) [(0, scells (addsP 0 [] (lsK d 1)))]), LinkRel 10 (partF 0) (NewRel w21 (fun gA gAc => .agg ([.int .i64 ((1 : Nat) : Int), .slice (some ⟨gA, 0, none⟩) ((addsP 0 [] (lsK d 1)).length) gAc]).toArray) ((addsP 0 [] (lsK d 1)).length) [(0, scells (addsP 0 [] (lsK d 1)))]), ValRel (.int .i64 0), BoxRel w21 (fun gA => .pointer (some ⟨gA, 0, none⟩)) 2 [(0, [.int .i64 0, .slice none 0 0])]] [[], [], [], [2], [3], [4], [1, 5], [6], [7], [0, 8], [9], [10], [10], []] (fun vs => { tmps := #[.int .i64 ((p : Nat) : Int), .string (bs d), undef, undef, .bool false, .pointer (some ⟨g12, 0, none⟩), .int .i64 0, vs 13, undef, undef, undef, undef, undef, undef, undef, .int .i64 x, .int .i64 (max x 0), .int .i64 ((p : Nat) : Int), .string (bs l), .string (bs l), .int .i64 ((l.length : Nat) : Int), .int .i64 ((min l.length 20 : Nat) : Int), .string (bs d), .agg ([.int .i64 0, .slice none 0 0]).toArray, .int .i64 ((p : Nat) : Int), .int .i64 0, .bool true, .int .i64 0, vs 10, vs 0, vs 1, vs 2, vs 3, vs 4, vs 5, vs 6, vs 7, vs 8, vs 9, vs 11, vs 12, undef, undef, undef, undef, undef, undef, undef, undef, undef, undef, undef, undef, undef, undef, undef, undef, undef, undef, undef, undef, undef, undef, undef, undef, undef, undef, undef, undef, undef, undef, undef, undef, undef, undef, undef, undef, undef, undef, undef, undef, undef, undef, undef, undef, undef, undef, undef, undef, undef, undef, undef, undef, undef, undef, undef, undef, undef, undef, undef, undef, undef, undef, undef, undef, undef, undef, undef], defers := [] }) (by kernel_rfl) (by kernel_rfl) (by kernel_rfl) (by kernel_rfl) (.cons keep_val (.cons keep_val (.cons keep_val (.cons keep_val (.cons keep_box (.cons keep_val (.cons keep_val (.cons keep_val (.cons keep_box (.cons keep_new (.cons (keep_link keep_new) (.cons (keep_link keep_new) (.cons keep_val (.cons keep_box AllKeep.nil)))))))))))))) (.free free_val (.free free_val (.free free_val (.free free_val (.free free_box (.free free_val (.free free_val (.free free_val (.free free_box (.free free_new (.link free_new (by decide) (.link free_new (by decide) (.free free_val (.free free_box AllLoc.nil)))))))))))))) (.cons own_box (.cons own_box (.cons own_new (.cons own_box AllOwn.nil)))) (by kernel_rfl) ?_ ?_
      · skip
        simp only [List.take]
        refine RulesL.cons (fun vs => { tmps := #[.int .i64 ((p : Nat) : Int), .string (bs d), undef, undef, .bool false, .pointer (some ⟨g12, 0, none⟩), .int .i64 0, undef, undef, undef, undef, undef, undef, undef, undef, .int .i64 x, .int .i64 (max x 0), .int .i64 ((p : Nat) : Int), .string (bs l), .string (bs l), .int .i64 ((l.length : Nat) : Int), .int .i64 ((min l.length 20 : Nat) : Int), .string (bs d), .agg ([.int .i64 0, .slice none 0 0]).toArray, .int .i64 ((p : Nat) : Int), .int .i64 0, .bool true, .int .i64 0, undef, undef, undef, undef, undef, undef, undef, undef, undef, undef, undef, undef, undef, undef, undef, undef, undef, undef, undef, undef, undef, undef, undef, undef, undef, undef, undef, undef, undef, undef, undef, undef, undef, undef, undef, undef, undef, undef, undef, undef, undef, undef, undef, undef, undef, undef, undef, undef, undef, undef, undef, undef, undef, undef, undef, undef, undef, undef, undef, undef, undef, undef, undef, undef, undef, undef, undef, undef, undef, undef, undef, undef, undef, undef, undef, undef, undef, undef, undef, undef], defers := [] }) (by kernel_rfl) ?_ ?_
        · skip
          intro vs gs W59 SW59 D K9 hK9
          replace M := M.sees SW59
          dsimp only at hK9
          dsimp only
          refine wpL_chunk 1 (by rfl) (fun Lk hLk => ?_)
          simp only [List.take, List.drop]
          refine wpV_load (cs := [.int .i64 0, .slice none 0 0]) (by rfl) rfl rfl (M.r 0 0 rfl rfl) (M.lt 0 rfl) Tryd.underlying66 rfl info66 ?_
          simp only [putT, List.set]
          refine wpV_nil (hLk _ (fun w60 Sw60 => ?_))
          clear hLk Lk
          simp only [List.take, List.drop]
          replace M := M.sees Sw60
          refine wpL_nil (then_normal ?_)
          have h8 := hK9 (.agg ([.int .i64 0, .slice none 0 0]).toArray)
          have h9 := h8 0 _ Sw60 rfl (fun h => absurd h (by decide))
          simp only [putT, List.set] at h9
          exact h9
        refine RulesL.cons (fun vs => { tmps := #[.int .i64 ((p : Nat) : Int), .string (bs d), undef, undef, .bool false, .pointer (some ⟨g12, 0, none⟩), .int .i64 0, undef, undef, undef, undef, undef, undef, undef, undef, .int .i64 x, .int .i64 (max x 0), .int .i64 ((p : Nat) : Int), .string (bs l), .string (bs l), .int .i64 ((l.length : Nat) : Int), .int .i64 ((min l.length 20 : Nat) : Int), .string (bs d), .agg ([.int .i64 0, .slice none 0 0]).toArray, .int .i64 ((p : Nat) : Int), .int .i64 0, .bool true, .int .i64 0, undef, undef, undef, undef, undef, undef, undef, undef, undef, undef, undef, undef, undef, undef, undef, undef, undef, undef, undef, undef, undef, undef, undef, undef, undef, undef, undef, undef, undef, undef, undef, undef, undef, undef, undef, undef, undef, undef, undef, undef, undef, undef, undef, undef, undef, undef, undef, undef, undef, undef, undef, undef, undef, undef, undef, undef, undef, undef, undef, undef, undef, undef, undef, undef, undef, undef, undef, undef, undef, undef, undef, undef, undef, undef, undef, undef, undef, undef, undef, undef], defers := [] }) (by kernel_rfl) ?_ ?_
        · skip
          intro vs gs W61 SW61 D K9 hK9
          replace M := M.sees SW61
          dsimp only at hK9
          dsimp only
          refine wpL_move (v := .string (bs d)) (by rfl) (by rfl) (by rfl) ?_
          simp only [putT, List.set]
          refine wpL_nil (then_normal ?_)
          have h8 := hK9 (.string (bs d))
          have h9 := h8 0 _ (sees_refl _) rfl (fun h => absurd h (by decide))
          simp only [putT, List.set] at h9
          exact h9
        refine RulesL.cons (fun vs => { tmps := #[.int .i64 ((p : Nat) : Int), .string (bs d), undef, undef, .bool false, .pointer (some ⟨g12, 0, none⟩), .int .i64 0, undef, undef, undef, undef, undef, undef, undef, undef, .int .i64 x, .int .i64 (max x 0), .int .i64 ((p : Nat) : Int), .string (bs l), .string (bs l), .int .i64 ((l.length : Nat) : Int), .int .i64 ((min l.length 20 : Nat) : Int), .string (bs d), .agg ([.int .i64 0, .slice none 0 0]).toArray, .int .i64 ((p : Nat) : Int), .int .i64 0, .bool true, .int .i64 0, undef, undef, undef, undef, undef, undef, undef, undef, undef, undef, undef, undef, undef, undef, undef, undef, undef, undef, undef, undef, undef, undef, undef, undef, undef, undef, undef, undef, undef, undef, undef, undef, undef, undef, undef, undef, undef, undef, undef, undef, undef, undef, undef, undef, undef, undef, undef, undef, undef, undef, undef, undef, undef, undef, undef, undef, undef, undef, undef, undef, undef, undef, undef, undef, undef, undef, undef, undef, undef, undef, undef, undef, undef, undef, undef, undef, undef, undef, undef, undef], defers := [] }) (by kernel_rfl) ?_ ?_
        · skip
          intro vs gs W62 SW62 D K9 hK9
          replace M := M.sees SW62
          dsimp only at hK9
          dsimp only
          refine wpL_move (v := .int .i64 0) (by rfl) (by rfl) (by rfl) ?_
          simp only [putT, List.set]
          refine wpL_nil (then_normal ?_)
          have h8 := hK9 (.int .i64 0)
          have h9 := h8 0 _ (sees_refl _) rfl (fun h => absurd h (by decide))
          simp only [putT, List.set] at h9
          exact h9
        refine RulesL.cons (fun vs => { tmps := #[.int .i64 ((p : Nat) : Int), .string (bs d), undef, undef, .bool false, .pointer (some ⟨g12, 0, none⟩), .int .i64 0, undef, undef, undef, undef, undef, undef, undef, undef, .int .i64 x, .int .i64 (max x 0), .int .i64 ((p : Nat) : Int), .string (bs l), .string (bs l), .int .i64 ((l.length : Nat) : Int), .int .i64 ((min l.length 20 : Nat) : Int), .string (bs d), .agg ([.int .i64 0, .slice none 0 0]).toArray, .int .i64 ((p : Nat) : Int), .int .i64 0, .bool true, .int .i64 0, undef, undef, undef, vs 2, undef, undef, undef, undef, undef, undef, undef, undef, undef, undef, undef, undef, undef, undef, undef, undef, undef, undef, undef, undef, undef, undef, undef, undef, undef, undef, undef, undef, undef, undef, undef, undef, undef, undef, undef, undef, undef, undef, undef, undef, undef, undef, undef, undef, undef, undef, undef, undef, undef, undef, undef, undef, undef, undef, undef, undef, undef, undef, undef, undef, undef, undef, undef, undef, undef, undef, undef, undef, undef, undef, undef, undef, undef, undef, undef, undef], defers := [] }) (by kernel_rfl) ?_ ?_
        · skip
          intro vs gs W63 SW63 D K9 hK9
          replace M := M.sees SW63
          obtain ⟨D2, _⟩ := D
          have e2 : vs 2 = .int .i64 0 := D2
          dsimp only at hK9
          dsimp only
          rw [e2] at hK9 ⊢
          refine wpL_chunk 1 (by rfl) (fun Lk hLk => ?_)
          simp only [List.take, List.drop]
          refine wpV_conv (d := .bool) (e := ((0 % 256 : Nat) : Int)) (by rfl) rfl rfl (run_conv_int Tryd.underlying3 Tryd.underlying5 (wrap_u8N _)) ?_
          simp only [putT, List.set]
          refine wpV_nil (hLk _ (fun w64 Sw64 => ?_))
          clear hLk Lk
          simp only [List.take, List.drop]
          replace M := M.sees Sw64
          refine wpL_nil (then_normal ?_)
          have h8 := hK9 (.int .u8 ((0 % 256 : Nat) : Int))
          have h9 := h8 0 _ Sw64 rfl (fun h => absurd h (by decide))
          simp only [putT, List.set] at h9
          exact h9
        refine RulesL.cons (fun vs => { tmps := #[.int .i64 ((p : Nat) : Int), .string (bs d), undef, undef, .bool false, .pointer (some ⟨g12, 0, none⟩), .int .i64 0, undef, undef, undef, undef, undef, undef, undef, undef, .int .i64 x, .int .i64 (max x 0), .int .i64 ((p : Nat) : Int), .string (bs l), .string (bs l), .int .i64 ((l.length : Nat) : Int), .int .i64 ((min l.length 20 : Nat) : Int), .string (bs d), .agg ([.int .i64 0, .slice none 0 0]).toArray, .int .i64 ((p : Nat) : Int), .int .i64 0, .bool true, .int .i64 0, undef, undef, undef, undef, vs 3, undef, undef, undef, undef, undef, undef, undef, undef, undef, undef, undef, undef, undef, undef, undef, undef, undef, undef, undef, undef, undef, undef, undef, undef, undef, undef, undef, undef, undef, undef, undef, undef, undef, undef, undef, undef, undef, undef, undef, undef, undef, undef, undef, undef, undef, undef, undef, undef, undef, undef, undef, undef, undef, undef, undef, undef, undef, undef, undef, undef, undef, undef, undef, undef, undef, undef, undef, undef, undef, undef, undef, undef, undef, undef, undef], defers := [] }) (by kernel_rfl) ?_ ?_
        · skip
          intro vs gs W65 SW65 D K9 hK9
          replace M := M.sees SW65
          replace R0_0 := M.oldR R0_0 L0
          replace L0 := M.oldL L0
          have Rg12_0 := M.r 0 0 rfl rfl
          have Lg12 := M.lt 0 rfl
          have BB := M.below
          replace M := Mem.start W65
          obtain ⟨D3, _⟩ := D
          have e3 : vs 3 = .int .u8 ((0 % 256 : Nat) : Int) := D3
          dsimp only at hK9
          dsimp only
          rw [e3] at hK9 ⊢
          refine wpL_rowN (vs := [.int .u8 ((0 % 256 : Nat) : Int)]) (z := .int .u8 0) (bytes := 1) (by rfl) (by rfl) Tryd.underlying35 (by kernel_rfl) (by decide) (by kernel_rfl) (fun g66 w67 Sw67 Hg66 Bg66 => ?_)
          replace M := ((M.sees Sw67).add (N := 1) (cs := [.int .u8 ((0 % 256 : Nat) : Int)]) (M.ge Hg66) (M.fresh Hg66) Bg66 rfl)
          replace M := M.read1 (cs := bcells [UInt8.ofNat (0 % 256)]) 0 rfl (by rw [bcells_byte (Nat.mod_lt _ (by decide))]; exact M.r 0 0 rfl rfl)
          simp only [List.set] at M
          clear Bg66
          simp only [putT, List.set]
          refine wpL_nil (then_normal ?_)
          have h8 := hK9 (.slice (some ⟨g66, 0, none⟩) 1 1)
          have h9 := h8 g66 _ M.seesAll ⟨rfl, (M.ok _ (.head _)).up SW65⟩ (fun _ => (M.ok _ (.head _)).ge)
          simp only [putT, List.set] at h9
          exact h9
        refine RulesL.cons (fun vs => { tmps := #[.int .i64 ((p : Nat) : Int), .string (bs d), undef, undef, .bool false, .pointer (some ⟨g12, 0, none⟩), .int .i64 0, undef, undef, undef, undef, undef, undef, undef, undef, .int .i64 x, .int .i64 (max x 0), .int .i64 ((p : Nat) : Int), .string (bs l), .string (bs l), .int .i64 ((l.length : Nat) : Int), .int .i64 ((min l.length 20 : Nat) : Int), .string (bs d), .agg ([.int .i64 0, .slice none 0 0]).toArray, .int .i64 ((p : Nat) : Int), .int .i64 0, .bool true, .int .i64 0, undef, undef, undef, undef, undef, vs 4, undef, undef, undef, undef, undef, undef, undef, undef, undef, undef, undef, undef, undef, undef, undef, undef, undef, undef, undef, undef, undef, undef, undef, undef, undef, undef, undef, undef, undef, undef, undef, undef, undef, undef, undef, undef, undef, undef, undef, undef, undef, undef, undef, undef, undef, undef, undef, undef, undef, undef, undef, undef, undef, undef, undef, undef, undef, undef, undef, undef, undef, undef, undef, undef, undef, undef, undef, undef, undef, undef, undef, undef, undef, undef], defers := [] }) (by kernel_rfl) ?_ ?_
        · skip
          intro vs gs W68 SW68 D K9 hK9
          replace M := M.sees SW68
          replace R0_0 := M.oldR R0_0 L0
          replace L0 := M.oldL L0
          have Rg12_0 := M.r 0 0 rfl rfl
          have Lg12 := M.lt 0 rfl
          have BB := M.below
          replace M := Mem.start W68
          obtain ⟨D4, _⟩ := D
          obtain ⟨e4, Og69⟩ := D4
          generalize gs 4 = g69 at *
          replace e4 : vs 4 = .slice (some ⟨g69, 0, none⟩) 1 1 := e4
          have Rg69_0 := Og69.range (0, bcells [UInt8.ofNat (0 % 256)]) (by simp only [List.mem_cons, true_or, or_true])
          have Lg69 := Og69.lt
          dsimp only at hK9
          dsimp only
          rw [e4] at hK9 ⊢
          refine wpL_chunk 1 (by rfl) (fun Lk hLk => ?_)
          simp only [List.take, List.drop]
          refine wpV_b2s (l := [UInt8.ofNat (0 % 256)]) (by rfl) rfl rfl rfl Tryd.underlying35 Tryd.underlying5 Tryd.underlying9 (M.oldR Rg69_0 Lg69) (M.oldL Lg69) ?_
          simp only [putT, List.set]
          refine wpV_nil (hLk _ (fun w70 Sw70 => ?_))
          clear hLk Lk
          simp only [List.take, List.drop]
          replace M := M.sees Sw70
          refine wpL_nil (then_normal ?_)
          have h8 := hK9 (.string (bs ([UInt8.ofNat (0 % 256)])))
          have h9 := h8 0 _ M.seesAll rfl (fun h => absurd h (by decide))
          simp only [putT, List.set] at h9
          exact h9
        refine RulesL.cons (fun vs => { tmps := #[.int .i64 ((p : Nat) : Int), .string (bs d), undef, undef, .bool false, .pointer (some ⟨g12, 0, none⟩), .int .i64 0, undef, undef, undef, undef, undef, undef, undef, undef, .int .i64 x, .int .i64 (max x 0), .int .i64 ((p : Nat) : Int), .string (bs l), .string (bs l), .int .i64 ((l.length : Nat) : Int), .int .i64 ((min l.length 20 : Nat) : Int), .string (bs d), .agg ([.int .i64 0, .slice none 0 0]).toArray, .int .i64 ((p : Nat) : Int), .int .i64 0, .bool true, .int .i64 0, undef, undef, vs 1, undef, undef, undef, vs 5, undef, undef, undef, undef, undef, undef, undef, undef, undef, undef, undef, undef, undef, undef, undef, undef, undef, undef, undef, undef, undef, undef, undef, undef, undef, undef, undef, undef, undef, undef, undef, undef, undef, undef, undef, undef, undef, undef, undef, undef, undef, undef, undef, undef, undef, undef, undef, undef, undef, undef, undef, undef, undef, undef, undef, undef, undef, undef, undef, undef, undef, undef, undef, undef, undef, undef, undef, undef, undef, undef, undef, undef, undef], defers := [] }) (by kernel_rfl) ?_ ?_
        · skip
          intro vs gs W71 SW71 D K9 hK9
          replace M := M.sees SW71
          obtain ⟨D1, D5, _⟩ := D
          have e1 : vs 1 = .string (bs d) := D1
          have e5 : vs 5 = .string (bs ([UInt8.ofNat (0 % 256)])) := D5
          dsimp only at hK9
          dsimp only
          rw [e1, e5] at hK9 ⊢
          refine wpL_chunk 1 (by rfl) (fun Lk hLk => ?_)
          simp only [List.take, List.drop]
          refine wpV_binS (v := .string (bs (d ++ ([UInt8.ofNat (0 % 256)])))) (by rfl) rfl rfl rfl (run_add_bs _ _ _ (by simp; omega)) ?_
          simp only [putT, List.set]
          refine wpV_nil (hLk _ (fun w72 Sw72 => ?_))
          clear hLk Lk
          simp only [List.take, List.drop]
          replace M := M.sees Sw72
          refine wpL_nil (then_normal ?_)
          have h8 := hK9 (.string (bs (d ++ ([UInt8.ofNat (0 % 256)]))))
          have h9 := h8 0 _ Sw72 rfl (fun h => absurd h (by decide))
          simp only [putT, List.set] at h9
          exact h9
        refine RulesL.cons (fun vs => { tmps := #[.int .i64 ((p : Nat) : Int), .string (bs d), undef, undef, .bool false, .pointer (some ⟨g12, 0, none⟩), .int .i64 0, undef, undef, undef, undef, undef, undef, undef, undef, .int .i64 x, .int .i64 (max x 0), .int .i64 ((p : Nat) : Int), .string (bs l), .string (bs l), .int .i64 ((l.length : Nat) : Int), .int .i64 ((min l.length 20 : Nat) : Int), .string (bs d), .agg ([.int .i64 0, .slice none 0 0]).toArray, .int .i64 ((p : Nat) : Int), .int .i64 0, .bool true, .int .i64 0, undef, undef, undef, undef, undef, undef, undef, vs 6, undef, undef, undef, undef, undef, undef, undef, undef, undef, undef, undef, undef, undef, undef, undef, undef, undef, undef, undef, undef, undef, undef, undef, undef, undef, undef, undef, undef, undef, undef, undef, undef, undef, undef, undef, undef, undef, undef, undef, undef, undef, undef, undef, undef, undef, undef, undef, undef, undef, undef, undef, undef, undef, undef, undef, undef, undef, undef, undef, undef, undef, undef, undef, undef, undef, undef, undef, undef, undef, undef, undef, undef], defers := [] }) (by kernel_rfl) ?_ ?_
        · skip
          intro vs gs W73 SW73 D K9 hK9
          replace M := M.sees SW73
          obtain ⟨D6, _⟩ := D
          have e6 : vs 6 = .string (bs (d ++ ([UInt8.ofNat (0 % 256)]))) := D6
          dsimp only at hK9
          dsimp only
          rw [e6] at hK9 ⊢
          refine wpL_chunk 1 (by rfl) (fun Lk hLk => ?_)
          simp only [List.take, List.drop]
          refine wpV_callf (v := .string (bs (leafS (d ++ ([UInt8.ofNat (0 % 256)]))))) (args := #[.string (bs (d ++ ([UInt8.ofNat (0 % 256)])))]) (by rfl) rfl Tryd.func38 (by kernel_rfl) (by kernel_rfl) rfl (fun W hW => leaf_c (d := d ++ ([UInt8.ofNat (0 % 256)])) (by simp; omega) ((M.sees hW).oldL L0) ((M.sees hW).oldR R0_0 L0)) ?_
          simp only [putT, List.set]
          refine wpV_nil (hLk _ (fun w74 Sw74 => ?_))
          clear hLk Lk
          simp only [List.take, List.drop]
          replace M := M.sees Sw74
          refine wpL_nil (then_normal ?_)
          have h8 := hK9 (.string (bs (leafS (d ++ ([UInt8.ofNat (0 % 256)])))))
          have h9 := h8 0 _ Sw74 rfl (fun h => absurd h (by decide))
          simp only [putT, List.set] at h9
          exact h9
        refine RulesL.cons (fun vs => { tmps := #[.int .i64 ((p : Nat) : Int), .string (bs d), undef, undef, .bool false, .pointer (some ⟨g12, 0, none⟩), .int .i64 0, undef, undef, undef, undef, undef, undef, undef, undef, .int .i64 x, .int .i64 (max x 0), .int .i64 ((p : Nat) : Int), .string (bs l), .string (bs l), .int .i64 ((l.length : Nat) : Int), .int .i64 ((min l.length 20 : Nat) : Int), .string (bs d), .agg ([.int .i64 0, .slice none 0 0]).toArray, .int .i64 ((p : Nat) : Int), .int .i64 0, .bool true, .int .i64 0, undef, undef, undef, undef, undef, undef, undef, undef, vs 7, undef, undef, undef, undef, undef, undef, undef, undef, undef, undef, undef, undef, undef, undef, undef, undef, undef, undef, undef, undef, undef, undef, undef, undef, undef, undef, undef, undef, undef, undef, undef, undef, undef, undef, undef, undef, undef, undef, undef, undef, undef, undef, undef, undef, undef, undef, undef, undef, undef, undef, undef, undef, undef, undef, undef, undef, undef, undef, undef, undef, undef, undef, undef, undef, undef, undef, undef, undef, undef, undef, undef], defers := [] }) (by kernel_rfl) ?_ ?_
        · skip
          intro vs gs W75 SW75 D K9 hK9
          replace M := M.sees SW75
          replace R0_0 := M.oldR R0_0 L0
          replace L0 := M.oldL L0
          have Rg12_0 := M.r 0 0 rfl rfl
          have Lg12 := M.lt 0 rfl
          have BB := M.below
          replace M := Mem.start W75
          obtain ⟨D7, _⟩ := D
          have e7 : vs 7 = .string (bs (leafS (d ++ ([UInt8.ofNat (0 % 256)])))) := D7
          dsimp only at hK9
          dsimp only
          rw [e7] at hK9 ⊢
          refine wpL_rowN (vs := [.string (bs (leafS (d ++ ([UInt8.ofNat (0 % 256)]))))]) (z := .string { data := #[] }) (bytes := 16) (by rfl) (by rfl) Tryd.underlying48 (by kernel_rfl) (by decide) (by kernel_rfl) (fun g76 w77 Sw77 Hg76 Bg76 => ?_)
          replace M := ((M.sees Sw77).add (N := 1) (cs := [.string (bs (leafS (d ++ ([UInt8.ofNat (0 % 256)]))))]) (M.ge Hg76) (M.fresh Hg76) Bg76 (by simp [flen]))
          clear Bg76
          simp only [putT, List.set]
          refine wpL_nil (then_normal ?_)
          have h8 := hK9 (.slice (some ⟨g76, 0, none⟩) 1 1)
          have h9 := h8 g76 _ M.seesAll ⟨rfl, (M.ok _ (.head _)).up SW75⟩ (fun _ => (M.ok _ (.head _)).ge)
          simp only [putT, List.set] at h9
          exact h9
        refine RulesL.cons (fun vs => { tmps := #[.int .i64 ((p : Nat) : Int), .string (bs d), undef, undef, .bool false, .pointer (some ⟨g12, 0, none⟩), .int .i64 0, undef, undef, undef, undef, undef, undef, undef, undef, .int .i64 x, .int .i64 (max x 0), .int .i64 ((p : Nat) : Int), .string (bs l), .string (bs l), .int .i64 ((l.length : Nat) : Int), .int .i64 ((min l.length 20 : Nat) : Int), .string (bs d), .agg ([.int .i64 0, .slice none 0 0]).toArray, .int .i64 ((p : Nat) : Int), .int .i64 0, .bool true, .int .i64 0, undef, vs 0, undef, undef, undef, undef, undef, undef, undef, vs 8, undef, undef, undef, undef, undef, undef, undef, undef, undef, undef, undef, undef, undef, undef, undef, undef, undef, undef, undef, undef, undef, undef, undef, undef, undef, undef, undef, undef, undef, undef, undef, undef, undef, undef, undef, undef, undef, undef, undef, undef, undef, undef, undef, undef, undef, undef, undef, undef, undef, undef, undef, undef, undef, undef, undef, undef, undef, undef, undef, undef, undef, undef, undef, undef, undef, undef, undef, undef, undef, undef], defers := [] }) (by kernel_rfl) ?_ ?_
        · skip
          intro vs gs W78 SW78 D K9 hK9
          replace M := M.sees SW78
          replace R0_0 := M.oldR R0_0 L0
          replace L0 := M.oldL L0
          have Rg12_0 := M.r 0 0 rfl rfl
          have Lg12 := M.lt 0 rfl
          have BB := M.below
          replace M := Mem.start W78
          obtain ⟨D0, D8, _⟩ := D
          have e0 : vs 0 = .agg ([.int .i64 0, .slice none 0 0]).toArray := D0
          obtain ⟨e8, Og79⟩ := D8
          generalize gs 8 = g79 at *
          replace e8 : vs 8 = .slice (some ⟨g79, 0, none⟩) 1 1 := e8
          have Rg79_0 := Og79.range (0, [.string (bs (leafS (d ++ ([UInt8.ofNat (0 % 256)]))))]) (by simp only [List.mem_cons, true_or, or_true])
          have Lg79 := Og79.lt
          dsimp only at hK9
          dsimp only
          rw [e0, e8] at hK9 ⊢
          refine wpL_callE (f := 55) (args := #[.agg ([.int .i64 0, .slice none 0 0]).toArray, .slice (some ⟨g79, 0, none⟩) 1 1]) (R := fun v9 W9 => ∃ g81 g81c, v9 = .tuple #[.agg ([.int .i64 ((1 : Nat) : Int), .slice (some ⟨g81, 0, none⟩) ((addsP 0 [] (lsK d 1)).length) g81c]).toArray, .int .i64 0] ∧ (addsP 0 [] (lsK d 1)).length ≤ g81c ∧ Mem [] W78 W9 [⟨g81, g81c, [(0, scells (addsP 0 [] (lsK d 1)))]⟩]) (by rfl) (by rfl) rfl Tryd.func55 (by kernel_rfl) (by kernel_rfl) (by have h9 := Add_new (ps := []) (ap := none) (np := 0) (cp := 0) (ls := [leafS (d ++ ([UInt8.ofNat (0 % 256)]))]) (aq := (some ⟨g79, 0, none⟩)) (nq := 1) (cq := 1) (m := 0) (w := W78) (Nat.zero_le _) (Nat.zero_le _) may_nil (right_one _) (by simp) ones_zero.symm (fun s h => by cases h) (one_32 _) (by simp) (M.oldL L0) (M.oldR R0_0 L0) RowA.nil (RowA.of (M.oldR Rg79_0 Lg79) (M.oldL Lg79) rfl (Nat.le_refl _)); rw [parts_step0] at h9; exact Calls.mono h9 fun e W8 ⟨v8, e1, g8, c8, e2, e3, e4⟩ => ⟨v8, e1, ⟨g8, c8, e2, e3, e4⟩, e4.below⟩) (fun v9 w80 hv9 Sw80 => ?_)
          obtain ⟨g81, g81c, rfl, Cg81, M9⟩ := hv9
          replace M := M.call1 M9
          clear Sw80
          simp only [putT, List.set]
          refine wpL_nil (then_normal ?_)
          have h8 := hK9 (.tuple #[.agg ([.int .i64 ((1 : Nat) : Int), .slice (some ⟨g81, 0, none⟩) ((addsP 0 [] (lsK d 1)).length) g81c]).toArray, .int .i64 0])
          have h9 := h8 g81 _ M.seesAll ⟨g81c, rfl, Cg81, (M.ok _ (.head _)).up SW78⟩ (fun _ => (M.ok _ (.head _)).ge)
          simp only [putT, List.set] at h9
          exact h9
        refine RulesL.cons (fun vs => { tmps := #[.int .i64 ((p : Nat) : Int), .string (bs d), undef, undef, .bool false, .pointer (some ⟨g12, 0, none⟩), .int .i64 0, undef, undef, undef, undef, undef, undef, undef, undef, .int .i64 x, .int .i64 (max x 0), .int .i64 ((p : Nat) : Int), .string (bs l), .string (bs l), .int .i64 ((l.length : Nat) : Int), .int .i64 ((min l.length 20 : Nat) : Int), .string (bs d), .agg ([.int .i64 0, .slice none 0 0]).toArray, .int .i64 ((p : Nat) : Int), .int .i64 0, .bool true, .int .i64 0, undef, undef, undef, undef, undef, undef, undef, undef, undef, undef, vs 9, undef, undef, undef, undef, undef, undef, undef, undef, undef, undef, undef, undef, undef, undef, undef, undef, undef, undef, undef, undef, undef, undef, undef, undef, undef, undef, undef, undef, undef, undef, undef, undef, undef, undef, undef, undef, undef, undef, undef, undef, undef, undef, undef, undef, undef, undef, undef, undef, undef, undef, undef, undef, undef, undef, undef, undef, undef, undef, undef, undef, undef, undef, undef, undef, undef, undef, undef, undef, undef], defers := [] }) (by kernel_rfl) ?_ ?_
        · skip
          intro vs gs W82 SW82 D K9 hK9
          replace M := M.sees SW82
          replace R0_0 := M.oldR R0_0 L0
          replace L0 := M.oldL L0
          have Rg12_0 := M.r 0 0 rfl rfl
          have Lg12 := M.lt 0 rfl
          have BB := M.below
          replace M := Mem.start W82
          obtain ⟨D9, _⟩ := D
          obtain ⟨g83c, e9, Cg83, Og83⟩ := D9
          generalize gs 9 = g83 at *
          replace e9 : vs 9 = .tuple #[.agg ([.int .i64 ((1 : Nat) : Int), .slice (some ⟨g83, 0, none⟩) ((addsP 0 [] (lsK d 1)).length) g83c]).toArray, .int .i64 0] := e9
          have Rg83_0 := Og83.range (0, scells (addsP 0 [] (lsK d 1))) (by simp only [List.mem_cons, true_or, or_true])
          have Lg83 := Og83.lt
          dsimp only at hK9
          dsimp only
          rw [e9] at hK9 ⊢
          refine wpL_move (v := .tuple #[.agg ([.int .i64 ((1 : Nat) : Int), .slice (some ⟨g83, 0, none⟩) ((addsP 0 [] (lsK d 1)).length) g83c]).toArray, .int .i64 0]) (by rfl) (by rfl) (by rfl) ?_
          simp only [putT, List.set]
          refine wpL_nil (then_normal ?_)
          have h8 := hK9 (.tuple #[.agg ([.int .i64 ((1 : Nat) : Int), .slice (some ⟨g83, 0, none⟩) ((addsP 0 [] (lsK d 1)).length) g83c]).toArray, .int .i64 0])
          have h9 := h8 g83 _ (sees_refl _) ⟨(congrArg (fun x => x) e9).symm, g83c, rfl, Cg83, Og83⟩ (fun h => absurd h (by decide))
          simp only [putT, List.set] at h9
          exact h9
        refine RulesL.cons (fun vs => { tmps := #[.int .i64 ((p : Nat) : Int), .string (bs d), undef, undef, .bool false, .pointer (some ⟨g12, 0, none⟩), .int .i64 0, undef, undef, undef, undef, undef, undef, undef, undef, .int .i64 x, .int .i64 (max x 0), .int .i64 ((p : Nat) : Int), .string (bs l), .string (bs l), .int .i64 ((l.length : Nat) : Int), .int .i64 ((min l.length 20 : Nat) : Int), .string (bs d), .agg ([.int .i64 0, .slice none 0 0]).toArray, .int .i64 ((p : Nat) : Int), .int .i64 0, .bool true, .int .i64 0, vs 10, undef, undef, undef, undef, undef, undef, undef, undef, undef, undef, undef, undef, undef, undef, undef, undef, undef, undef, undef, undef, undef, undef, undef, undef, undef, undef, undef, undef, undef, undef, undef, undef, undef, undef, undef, undef, undef, undef, undef, undef, undef, undef, undef, undef, undef, undef, undef, undef, undef, undef, undef, undef, undef, undef, undef, undef, undef, undef, undef, undef, undef, undef, undef, undef, undef, undef, undef, undef, undef, undef, undef, undef, undef, undef, undef, undef, undef, undef, undef], defers := [] }) (by kernel_rfl) ?_ ?_
        · skip
          intro vs gs W84 SW84 D K9 hK9
          replace M := M.sees SW84
          replace R0_0 := M.oldR R0_0 L0
          replace L0 := M.oldL L0
          have Rg12_0 := M.r 0 0 rfl rfl
          have Lg12 := M.lt 0 rfl
          have BB := M.below
          replace M := Mem.start W84
          obtain ⟨D10, _⟩ := D
          obtain ⟨_, g85c, e10, Cg85, Og85⟩ := D10
          generalize gs 10 = g85 at *
          replace e10 : vs 10 = .tuple #[.agg ([.int .i64 ((1 : Nat) : Int), .slice (some ⟨g85, 0, none⟩) ((addsP 0 [] (lsK d 1)).length) g85c]).toArray, .int .i64 0] := e10
          have Rg85_0 := Og85.range (0, scells (addsP 0 [] (lsK d 1))) (by simp only [List.mem_cons, true_or, or_true])
          have Lg85 := Og85.lt
          dsimp only at hK9
          dsimp only
          rw [e10] at hK9 ⊢
          refine wpL_chunk 1 (by rfl) (fun Lk hLk => ?_)
          simp only [List.take, List.drop]
          refine wpV_extract (v := .agg ([.int .i64 ((1 : Nat) : Int), .slice (some ⟨g85, 0, none⟩) ((addsP 0 [] (lsK d 1)).length) g85c]).toArray) (by rfl) rfl rfl rfl ?_
          simp only [putT, List.set]
          refine wpV_nil (hLk _ (fun w86 Sw86 => ?_))
          clear hLk Lk
          simp only [List.take, List.drop]
          replace M := M.sees Sw86
          refine wpL_nil (then_normal ?_)
          have h8 := hK9 (.agg ([.int .i64 ((1 : Nat) : Int), .slice (some ⟨g85, 0, none⟩) ((addsP 0 [] (lsK d 1)).length) g85c]).toArray)
          have h9 := h8 g85 _ M.seesAll ⟨(congrArg (partF 0) e10).symm, g85c, rfl, Cg85, (Og85.mono M.seesAll)⟩ (fun h => absurd h (by decide))
          simp only [putT, List.set] at h9
          exact h9
        refine RulesL.cons (fun vs => { tmps := #[.int .i64 ((p : Nat) : Int), .string (bs d), undef, undef, .bool false, .pointer (some ⟨g12, 0, none⟩), .int .i64 0, undef, undef, undef, undef, undef, undef, undef, undef, .int .i64 x, .int .i64 (max x 0), .int .i64 ((p : Nat) : Int), .string (bs l), .string (bs l), .int .i64 ((l.length : Nat) : Int), .int .i64 ((min l.length 20 : Nat) : Int), .string (bs d), .agg ([.int .i64 0, .slice none 0 0]).toArray, .int .i64 ((p : Nat) : Int), .int .i64 0, .bool true, .int .i64 0, vs 10, undef, undef, undef, undef, undef, undef, undef, undef, undef, undef, undef, undef, undef, undef, undef, undef, undef, undef, undef, undef, undef, undef, undef, undef, undef, undef, undef, undef, undef, undef, undef, undef, undef, undef, undef, undef, undef, undef, undef, undef, undef, undef, undef, undef, undef, undef, undef, undef, undef, undef, undef, undef, undef, undef, undef, undef, undef, undef, undef, undef, undef, undef, undef, undef, undef, undef, undef, undef, undef, undef, undef, undef, undef, undef, undef, undef, undef, undef, undef], defers := [] }) (by kernel_rfl) ?_ ?_
        · skip
          intro vs gs W87 SW87 D K9 hK9
          replace M := M.sees SW87
          replace R0_0 := M.oldR R0_0 L0
          replace L0 := M.oldL L0
          have Rg12_0 := M.r 0 0 rfl rfl
          have Lg12 := M.lt 0 rfl
          have BB := M.below
          replace M := Mem.start W87
          obtain ⟨D10, _⟩ := D
          obtain ⟨_, g88c, e10, Cg88, Og88⟩ := D10
          generalize gs 10 = g88 at *
          replace e10 : vs 10 = .tuple #[.agg ([.int .i64 ((1 : Nat) : Int), .slice (some ⟨g88, 0, none⟩) ((addsP 0 [] (lsK d 1)).length) g88c]).toArray, .int .i64 0] := e10
          have Rg88_0 := Og88.range (0, scells (addsP 0 [] (lsK d 1))) (by simp only [List.mem_cons, true_or, or_true])
          have Lg88 := Og88.lt
          dsimp only at hK9
          dsimp only
          rw [e10] at hK9 ⊢
          refine wpL_chunk 1 (by rfl) (fun Lk hLk => ?_)
          simp only [List.take, List.drop]
          refine wpV_extract (v := .int .i64 0) (by rfl) rfl rfl rfl ?_
          simp only [putT, List.set]
          refine wpV_nil (hLk _ (fun w89 Sw89 => ?_))
          clear hLk Lk
          simp only [List.take, List.drop]
          replace M := M.sees Sw89
          refine wpL_nil (then_normal ?_)
          have h8 := hK9 (.int .i64 0)
          have h9 := h8 0 _ M.seesAll rfl (fun h => absurd h (by decide))
          simp only [putT, List.set] at h9
          exact h9
        refine RulesL.cons (fun vs => { tmps := #[.int .i64 ((p : Nat) : Int), .string (bs d), undef, undef, .bool false, .pointer (some ⟨g12, 0, none⟩), .int .i64 0, undef, undef, undef, undef, undef, undef, undef, undef, .int .i64 x, .int .i64 (max x 0), .int .i64 ((p : Nat) : Int), .string (bs l), .string (bs l), .int .i64 ((l.length : Nat) : Int), .int .i64 ((min l.length 20 : Nat) : Int), .string (bs d), .agg ([.int .i64 0, .slice none 0 0]).toArray, .int .i64 ((p : Nat) : Int), .int .i64 0, .bool true, .int .i64 0, undef, undef, undef, undef, undef, undef, undef, undef, undef, undef, undef, undef, undef, undef, undef, undef, undef, undef, undef, undef, undef, undef, undef, undef, undef, undef, undef, undef, undef, undef, undef, undef, undef, undef, undef, undef, undef, undef, undef, undef, undef, undef, undef, undef, undef, undef, undef, undef, undef, undef, undef, undef, undef, undef, undef, undef, undef, undef, undef, undef, undef, undef, undef, undef, undef, undef, undef, undef, undef, undef, undef, undef, undef, undef, undef, undef, undef, undef, undef, undef], defers := [] }) (by kernel_rfl) ?_ ?_
        · skip
          intro vs gs W90 SW90 D K9 hK9
          replace M := M.sees SW90
          replace R0_0 := M.oldR R0_0 L0
          replace L0 := M.oldL L0
          have Rg12_0 := M.r 0 0 rfl rfl
          have Lg12 := M.lt 0 rfl
          have BB := M.below
          replace M := Mem.start W90
          dsimp only at hK9
          dsimp only
          refine wpL_var (t := 66) (cs := [.int .i64 0, .slice none 0 0]) (by rfl) (fun W => ?_) (fun g91 w92 Sw92 Hg91 Bg91 => ?_)
          · go_simp
          replace M := ((M.sees Sw92).add (N := 2) (cs := [.int .i64 0, .slice none 0 0]) (M.ge Hg91) (M.fresh Hg91) Bg91 rfl)
          clear Bg91
          simp only [putT, List.set]
          refine wpL_nil (then_normal ?_)
          have h8 := hK9 (.pointer (some ⟨g91, 0, none⟩))
          have h9 := h8 g91 _ M.seesAll ⟨rfl, (M.ok _ (.head _)).up SW90⟩ (fun _ => (M.ok _ (.head _)).ge)
          simp only [putT, List.set] at h9
          exact h9
        exact RulesL.nil
      intro vs gs W93 SW93 D A9
      obtain ⟨D0, D1, D2, D3, D4, D5, D6, D7, D8, D9, D10, D11, D12, D13, _⟩ := (show DepRel _ vs gs W93 [0, 1, 2, 3, 4, 5, 6, 7, 8, 9, 10, 11, 12, 13] from D)
      have n4_8 : gs 4 ≠ gs 8 := A9 4 8 (by decide) (by decide) (by decide) (by decide) (by decide)
      have n4_9 : gs 4 ≠ gs 9 := A9 4 9 (by decide) (by decide) (by decide) (by decide) (by decide)
      have n4_13 : gs 4 ≠ gs 13 := A9 4 13 (by decide) (by decide) (by decide) (by decide) (by decide)
      have n8_9 : gs 8 ≠ gs 9 := A9 8 9 (by decide) (by decide) (by decide) (by decide) (by decide)
      have n8_13 : gs 8 ≠ gs 13 := A9 8 13 (by decide) (by decide) (by decide) (by decide) (by decide)
      have n9_13 : gs 9 ≠ gs 13 := A9 9 13 (by decide) (by decide) (by decide) (by decide) (by decide)
      clear A9 D
      have e0 : vs 0 = .agg ([.int .i64 0, .slice none 0 0]).toArray := D0
      have e1 : vs 1 = .string (bs d) := D1
      have e2 : vs 2 = .int .i64 0 := D2
      have e3 : vs 3 = .int .u8 ((0 % 256 : Nat) : Int) := D3
      obtain ⟨e4, Og94⟩ := D4
      generalize gs 4 = g94 at *
      replace e4 : vs 4 = .slice (some ⟨g94, 0, none⟩) 1 1 := e4
      have e5 : vs 5 = .string (bs ([UInt8.ofNat (0 % 256)])) := D5
      have e6 : vs 6 = .string (bs (d ++ ([UInt8.ofNat (0 % 256)]))) := D6
      have e7 : vs 7 = .string (bs (leafS (d ++ ([UInt8.ofNat (0 % 256)])))) := D7
      obtain ⟨e8, Og95⟩ := D8
      generalize gs 8 = g95 at *
      replace e8 : vs 8 = .slice (some ⟨g95, 0, none⟩) 1 1 := e8
      obtain ⟨g96c, e9, Cg96, Og96⟩ := D9
      generalize gs 9 = g96 at *
      replace e9 : vs 9 = .tuple #[.agg ([.int .i64 ((1 : Nat) : Int), .slice (some ⟨g96, 0, none⟩) ((addsP 0 [] (lsK d 1)).length) g96c]).toArray, .int .i64 0] := e9
      have e10 : vs 10 = .tuple #[.agg ([.int .i64 ((1 : Nat) : Int), .slice (some ⟨g96, 0, none⟩) ((addsP 0 [] (lsK d 1)).length) g96c]).toArray, .int .i64 0] := D10.1.trans (congrArg (fun x => x) e9)
      have e11 : vs 11 = .agg ([.int .i64 ((1 : Nat) : Int), .slice (some ⟨g96, 0, none⟩) ((addsP 0 [] (lsK d 1)).length) g96c]).toArray := D11.1.trans (congrArg (partF 0) e10)
      have e12 : vs 12 = .int .i64 0 := D12
      obtain ⟨e13, Og97⟩ := D13
      generalize gs 13 = g97 at *
      replace e13 : vs 13 = .pointer (some ⟨g97, 0, none⟩) := e13
      replace M := M.addOks SW93 [⟨g94, 1, [(0, bcells [UInt8.ofNat (0 % 256)])]⟩, ⟨g95, 1, [(0, [.string (bs (leafS (d ++ ([UInt8.ofNat (0 % 256)]))))])]⟩, ⟨g96, g96c, [(0, scells (addsP 0 [] (lsK d 1)))]⟩, ⟨g97, 2, [(0, [.int .i64 0, .slice none 0 0])]⟩] (List.forall_mem_cons.2 ⟨Og94, (List.forall_mem_cons.2 ⟨Og95, (List.forall_mem_cons.2 ⟨Og96, (List.forall_mem_cons.2 ⟨Og97, (fun _ h => nomatch h)⟩)⟩)⟩)⟩) (.cons (List.forall_mem_cons.2 ⟨n4_8, (List.forall_mem_cons.2 ⟨n4_9, (List.forall_mem_cons.2 ⟨n4_13, (fun _ h => nomatch h)⟩)⟩)⟩) (.cons (List.forall_mem_cons.2 ⟨n8_9, (List.forall_mem_cons.2 ⟨n8_13, (fun _ h => nomatch h)⟩)⟩) (.cons (List.forall_mem_cons.2 ⟨n9_13, (fun _ h => nomatch h)⟩) (.cons (fun _ h => nomatch h) .nil))))
      simp only [List.cons_append, List.nil_append] at M
      dsimp only
      simp only [e0, e1, e2, e3, e4, e5, e6, e7, e8, e9, e10, e11, e12, e13, List.drop]
      refine wpL_store (g := g97) (off := 0) (n := 2) (cs := [.int .i64 ((1 : Nat) : Int), .slice (some ⟨g96, 0, none⟩) ((addsP 0 [] (lsK d 1)).length) g96c]) (by rfl) (by rfl) (by rfl) (by rfl) (by rfl) (M.t 3 rfl) (by simp [flen]) info66 (by simp [fone, Value.oneCell']) (fun w98 P R T => ?_)
      replace M := M.putS 3 0 rfl P R T rfl ⟨.inl rfl, trivial⟩
      simp only [List.set] at M
      refine wpL_assign (v := .int .i64 0) (by rfl) (by rfl) (by rfl) ?_
      simp only [putT, List.set]
      refine wpL_nil (no_panic ?_)
      refine hK57 _ _ ?_
      refine wp_seq_k (fun K99 hK99 => ?_)
      refine wp_seq_k (fun K100 hK100 => ?_)
      refine wp_region_seq ?_
      refine wpL_move (v := .int .i64 0) (by rfl) (by rfl) (by rfl) ?_
      simp only [putT, List.set]
      refine wpL_chunk 1 (by rfl) (fun Lk hLk => ?_)
      simp only [List.take, List.drop]
      refine wpV_bin (v := .bool false) (by rfl) rfl rfl rfl (fun W => run_neq _ _ _ _ W) ?_
      simp only [putT, List.set]
      refine wpV_nil (hLk _ (fun w102 Sw102 => ?_))
      clear hLk Lk
      simp only [List.take, List.drop]
      replace M := M.sees Sw102
      refine wpL_nil (no_panic ?_)
      refine hK100 _ _ ?_
      refine wp_cond_false rfl ?_
      refine wp_skip ?_
      refine hK99 _ _ ?_
      refine wp_region_seq ?_
      refine wpL_chunk 1 (by rfl) (fun Lk hLk => ?_)
      simp only [List.take, List.drop]
      refine wpV_load (cs := [.int .i64 ((1 : Nat) : Int), .slice (some ⟨g96, 0, none⟩) ((addsP 0 [] (lsK d 1)).length) g96c]) (by rfl) rfl rfl (M.r 3 0 rfl rfl) (M.lt 3 rfl) Tryd.underlying66 rfl info66 ?_
      simp only [putT, List.set]
      refine wpV_nil (hLk _ (fun w104 Sw104 => ?_))
      clear hLk Lk
      simp only [List.take, List.drop]
      replace M := M.sees Sw104
      refine wpL_store (g := g12) (off := 0) (n := 2) (cs := [.int .i64 ((1 : Nat) : Int), .slice (some ⟨g96, 0, none⟩) ((addsP 0 [] (lsK d 1)).length) g96c]) (by rfl) (by rfl) (by rfl) (by rfl) (by rfl) (M.t 4 rfl) (by simp [flen]) info66 (by simp [fone, Value.oneCell']) (fun w105 P R T => ?_)
      replace M := M.putS 4 0 rfl P R T rfl ⟨.inl rfl, trivial⟩
      simp only [List.set] at M
      refine wpL_nil (no_panic ?_)
      refine hK54 _ _ ?_
      refine wp_region_seq ?_
      refine wpL_chunk 1 (by rfl) (fun Lk hLk => ?_)
      simp only [List.take, List.drop]
      refine wpV_bin (v := .int .i64 1) (by rfl) rfl rfl rfl (fun W => run_add (by decide) W) ?_
      simp only [putT, List.set]
      refine wpV_nil (hLk _ (fun w107 Sw107 => ?_))
      clear hLk Lk
      simp only [List.take, List.drop]
      replace M := M.sees Sw107
      refine wpL_move (v := .int .i64 1) (by rfl) (by rfl) (by rfl) ?_
      simp only [putT, List.set]
      refine wpL_nil (no_panic ?_)
      refine Exists.intro _ ⟨Nat.lt_succ_self _, 1, g96, g96c, (fun q9 => (#[undef, undef, undef, undef, .bool false, undef, .int .i64 0, .pointer (some ⟨g97, 0, none⟩), .int .i64 0, undef, undef, undef, undef, undef, undef, undef, undef, undef, undef, undef, undef, undef, undef, undef, undef, undef, .bool true, .int .i64 0, .tuple #[.agg ([.int .i64 ((1 : Nat) : Int), .slice (some ⟨g96, 0, none⟩) ((addsP 0 [] (lsK d 1)).length) g96c]).toArray, .int .i64 0], .agg ([.int .i64 0, .slice none 0 0]).toArray, .string (bs d), .int .i64 0, .int .u8 ((0 % 256 : Nat) : Int), .slice (some ⟨g94, 0, none⟩) 1 1, .string (bs ([UInt8.ofNat (0 % 256)])), .string (bs (d ++ ([UInt8.ofNat (0 % 256)]))), .string (bs (leafS (d ++ ([UInt8.ofNat (0 % 256)])))), .slice (some ⟨g95, 0, none⟩) 1 1, .tuple #[.agg ([.int .i64 ((1 : Nat) : Int), .slice (some ⟨g96, 0, none⟩) ((addsP 0 [] (lsK d 1)).length) g96c]).toArray, .int .i64 0], .agg ([.int .i64 ((1 : Nat) : Int), .slice (some ⟨g96, 0, none⟩) ((addsP 0 [] (lsK d 1)).length) g96c]).toArray, .int .i64 0, .int .i64 0, .bool false, .agg ([.int .i64 ((1 : Nat) : Int), .slice (some ⟨g96, 0, none⟩) ((addsP 0 [] (lsK d 1)).length) g96c]).toArray, .int .i64 1] : Array Value).getD q9 undef), rfl, rfl, (M.pick [4, 2] (by decide) rfl), Cg96, (by omega), (by omega)⟩
  clear M
  obtain ⟨k, r, rc, u18, rfl, rfl, M, Cr, hk1, hk4⟩ := hI
  obtain ⟨w108, rfl⟩ : ∃ W8, W8 = W9 := ⟨_, rfl⟩
  refine wp_seq_k (fun K109 hK109 => ?_)
  refine wp_region_seq ?_
  refine wpL_chunk 1 (by rfl) (fun Lk hLk => ?_)
  simp only [List.take, List.drop]
  refine wpV_bin (v := .bool (decide (k < p))) (by rfl) rfl rfl rfl (fun W => run_lssN k p _ _ W) ?_
  simp only [putT, List.set]
  refine wpV_nil (hLk _ (fun w111 Sw111 => ?_))
  clear hLk Lk
  simp only [List.take, List.drop]
  replace M := M.sees Sw111
  refine wpL_nil (no_panic ?_)
  refine hK109 _ _ ?_
  refine wp_seq_k (fun K112 hK112 => ?_)
  cases hc113 : (decide (k < p))
  · skip
    obtain rfl : p = k := by have := of_decide_eq_false hc113; omega
    try have hP1 := hk1
    refine wp_cond_false rfl ?_
    refine wp_exit ?_
    refine hK15 _ _ ?_
    refine wp_seq_k (fun K114 hK114 => ?_)
    refine wp_region_seq ?_
    refine wpL_assign (v := .int .i64 0) (by rfl) (by rfl) (by rfl) ?_
    simp only [putT, List.set]
    refine wpL_nil (no_panic ?_)
    refine hK114 _ _ ?_
    refine wp_seq_k (fun K116 hK116 => ?_)
    refine wp_seq_k (fun K117 hK117 => ?_)
    refine wp_region_seq ?_
    refine wpL_move (v := .int .i64 ((p : Nat) : Int)) (by rfl) (by rfl) (by rfl) ?_
    simp only [putT, List.set]
    refine wpL_assign (v := .int .i64 ((p : Nat) : Int)) (by rfl) (by rfl) (by rfl) ?_
    simp only [putT, List.set]
    refine wpL_nil (no_panic ?_)
    refine hK117 _ _ ?_
    refine wp_block ?_
    refine wp_loop_ghost (fun n9 a9 W9 => ∃ (acc : Nat) (q : Nat) (u119 : Nat → Value), n9 = 2 * q ∧ a9 = { tmps := #[.int .i64 ((p : Nat) : Int), .string (bs d), undef, undef, u18 4, .pointer (some ⟨g12, 0, none⟩), u18 6, u18 7, u18 8, .int .i64 ((acc : Nat) : Int), .int .i64 ((q : Nat) : Int), undef, undef, undef, undef, .int .i64 x, .int .i64 (max x 0), .int .i64 ((p : Nat) : Int), .string (bs l), .string (bs l), .int .i64 ((l.length : Nat) : Int), .int .i64 ((min l.length 20 : Nat) : Int), .string (bs d), .agg ([.int .i64 0, .slice none 0 0]).toArray, .int .i64 ((p : Nat) : Int), .int .i64 ((p : Nat) : Int), .bool false, u18 27, u18 28, u18 29, u18 30, u18 31, u18 32, u18 33, u18 34, u18 35, u18 36, u18 37, u18 38, u18 39, u18 40, u18 41, u18 42, u18 43, u18 44, .int .i64 ((p : Nat) : Int), u119 46, u119 47, u119 48, u119 49, u119 50, u119 51, u119 52, u119 53, undef, undef, undef, undef, undef, undef, undef, undef, undef, undef, undef, undef, undef, undef, undef, undef, undef, undef, undef, undef, undef, undef, undef, undef, undef, undef, undef, undef, undef, undef, undef, undef, undef, undef, undef, undef, undef, undef, undef, undef, undef, undef, undef, undef, undef, undef, undef, undef, undef, undef, undef, undef, undef, undef], defers := [] } ∧ Mem [] w W9 [⟨g12, 2, [(0, [.int .i64 ((p : Nat) : Int), .slice (some ⟨r, 0, none⟩) ((addsP 0 [] (lsK d p)).length) rc])]⟩, ⟨r, rc, [(0, scells (addsP 0 [] (lsK d p)))]⟩] ∧ (q ≤ p) ∧ (acc + ones q = ones p) ∧ (acc ≤ 13)) (2 * (p)) ?_ (fun n9 a9 W9 hI => ?_)
    · exact ⟨0, p, (fun q9 => (#[undef, undef, undef, undef, undef, undef, undef, undef, undef, undef, undef, undef, undef, undef, undef, undef, undef, undef, undef, undef, undef, undef, undef, undef, undef, undef, undef, undef, undef, undef, undef, undef, undef, undef, undef, undef, undef, undef, undef, undef, undef, undef, undef, undef, undef, undef, undef, undef, undef, undef, undef, undef, undef, undef] : Array Value).getD q9 undef), rfl, rfl, M, (Nat.le_refl _), (Nat.zero_add _), (Nat.zero_le _)⟩
    clear M
    obtain ⟨acc, q, u119, rfl, rfl, M, hqp, hacc, hal⟩ := hI
    obtain ⟨w120, rfl⟩ : ∃ W8, W8 = W9 := ⟨_, rfl⟩
    have ho13 : ones p ≤ 13 := (oc_ones (by omega)).2.2
    refine wp_seq_k (fun K121 hK121 => ?_)
    refine wp_seq_k (fun K122 hK122 => ?_)
    refine wp_region_seq ?_
    refine wpL_move (v := .int .i64 ((q : Nat) : Int)) (by rfl) (by rfl) (by rfl) ?_
    simp only [putT, List.set]
    refine wpL_chunk 1 (by rfl) (fun Lk hLk => ?_)
    simp only [List.take, List.drop]
    refine wpV_bin (v := .bool (decide (0 < q))) (by rfl) rfl rfl rfl (fun W => run_gtrN q 0 _ _ W) ?_
    simp only [putT, List.set]
    refine wpV_nil (hLk _ (fun w124 Sw124 => ?_))
    clear hLk Lk
    simp only [List.take, List.drop]
    replace M := M.sees Sw124
    refine wpL_nil (no_panic ?_)
    refine hK122 _ _ ?_
    cases hc125 : (decide (0 < q))
    · skip
      obtain rfl : q = 0 := by have := of_decide_eq_false hc125; omega
      rw [ones_zero, Nat.add_zero] at hacc
      refine wp_cond_false rfl ?_
      refine wp_exit ?_
      refine hK116 _ _ ?_
      refine wp_seq_k (fun K126 hK126 => ?_)
      refine wp_region_seq ?_
      refine wpL_chunk 5 (by rfl) (fun Lk hLk => ?_)
      simp only [List.take, List.drop]
      refine wpV_load (cs := [.int .i64 ((p : Nat) : Int), .slice (some ⟨r, 0, none⟩) ((addsP 0 [] (lsK d p)).length) rc]) (by rfl) rfl rfl (M.r 0 0 rfl rfl) (M.lt 0 rfl) Tryd.underlying66 rfl info66 ?_
      simp only [putT, List.set]
      refine wpV_callf (v := .tuple #[.string (bs (sumP (addsP 0 [] (lsK d p)))), .int .i64 0]) (args := #[.agg ([.int .i64 ((p : Nat) : Int), .slice (some ⟨r, 0, none⟩) ((addsP 0 [] (lsK d p)).length) rc]).toArray]) (by rfl) rfl Tryd.func60 (by kernel_rfl) (by kernel_rfl) rfl (fun W hW => by with_reducible exact Sum_go (ps := addsP 0 [] (lsK d p)) (m := p) (by rw [parts_len]; exact ones_le_80 (by omega)) (may_of (by omega) (parts_len d p) (parts_32 d p)) (by omega) (by rw [parts_len]; exact ones_one_le (by omega)) (parts_32 d p) ((M.sees hW).oldL L0) ((M.sees hW).oldR R0_0 L0) (RowA.of ((M.sees hW).r 1 0 rfl rfl) ((M.sees hW).lt 1 rfl) (scells_len _).symm Cr)) ?_
      simp only [putT, List.set]
      refine wpV_move (v := .tuple #[.string (bs (sumP (addsP 0 [] (lsK d p)))), .int .i64 0]) (by rfl) rfl rfl ?_
      simp only [putT, List.set]
      refine wpV_extract (v := .string (bs (sumP (addsP 0 [] (lsK d p))))) (by rfl) rfl rfl rfl ?_
      simp only [putT, List.set]
      refine wpV_extract (v := .int .i64 0) (by rfl) rfl rfl rfl ?_
      simp only [putT, List.set]
      refine wpV_nil (hLk _ (fun w128 Sw128 => ?_))
      clear hLk Lk
      simp only [List.take, List.drop]
      replace M := M.sees Sw128
      refine wpL_assign (v := .string (bs (sumP (addsP 0 [] (lsK d p))))) (by rfl) (by rfl) (by rfl) ?_
      simp only [putT, List.set]
      refine wpL_assign (v := .int .i64 0) (by rfl) (by rfl) (by rfl) ?_
      simp only [putT, List.set]
      refine wpL_nil (no_panic ?_)
      refine hK126 _ _ ?_
      refine wp_seq_k (fun K129 hK129 => ?_)
      refine wp_region_seq ?_
      refine wpL_chunk 4 (by rfl) (fun Lk hLk => ?_)
      simp only [List.take, List.drop]
      refine wpV_callf (v := .tuple #[.string (bs (rootS [])), .int .i64 0]) (args := #[(.slice none 0 0)]) (by rfl) rfl Tryd.func37 (by kernel_rfl) (by kernel_rfl) rfl (fun W hW => Root_c0 ((M.sees hW).oldL L0) ((M.sees hW).oldR R0_0 L0)) ?_
      simp only [putT, List.set]
      refine wpV_move (v := .tuple #[.string (bs (rootS [])), .int .i64 0]) (by rfl) rfl rfl ?_
      simp only [putT, List.set]
      refine wpV_extract (v := .string (bs (rootS []))) (by rfl) rfl rfl rfl ?_
      simp only [putT, List.set]
      refine wpV_extract (v := .int .i64 0) (by rfl) rfl rfl rfl ?_
      simp only [putT, List.set]
      refine wpV_nil (hLk _ (fun w131 Sw131 => ?_))
      clear hLk Lk
      simp only [List.take, List.drop]
      replace M := M.sees Sw131
      refine wpL_assign (v := .string (bs (rootS []))) (by rfl) (by rfl) (by rfl) ?_
      simp only [putT, List.set]
      refine wpL_assign (v := .int .i64 0) (by rfl) (by rfl) (by rfl) ?_
      simp only [putT, List.set]
      refine wpL_nil (no_panic ?_)
      refine hK129 _ _ ?_
      refine wp_seq_k (fun K132 hK132 => ?_)
      refine wp_seq_k (fun K133 hK133 => ?_)
      refine wp_region_seq ?_
      refine wpL_move (v := .int .i64 0) (by rfl) (by rfl) (by rfl) ?_
      simp only [putT, List.set]
      refine wpL_chunk 22 (by rfl) (fun Lk hLk => ?_)
      simp only [List.take, List.drop]
      refine wpV_bin (v := .bool false) (by rfl) rfl rfl rfl (fun W => run_neq _ _ _ _ W) ?_
      simp only [putT, List.set]
      refine wpV_move (v := .bool false) (by rfl) rfl rfl ?_
      simp only [putT, List.set]
      refine wpV_move (v := .int .i64 0) (by rfl) rfl rfl ?_
      simp only [putT, List.set]
      refine wpV_bin (v := .bool false) (by rfl) rfl rfl rfl (fun W => run_neq _ _ _ _ W) ?_
      simp only [putT, List.set]
      refine wpV_pick (v := .bool false) (by rfl) rfl rfl rfl ?_
      simp only [putT, List.set]
      refine wpV_move (v := .bool false) (by rfl) rfl rfl ?_
      simp only [putT, List.set]
      refine wpV_val (v := .pointer (some ⟨g12, 1, none⟩)) (by rfl) (by rfl) (fun W hW => ?_) ?_
      · (go_simp; exact rfl)
      simp only [putT, List.set]
      refine wpV_load1 (v := .slice (some ⟨r, 0, none⟩) ((addsP 0 [] (lsK d p)).length) rc) (by rfl) rfl rfl (range_one (range_sub (M.r 0 0 rfl rfl) 1 1 1 (xs := [.slice (some ⟨r, 0, none⟩) ((addsP 0 [] (lsK d p)).length) rc]) rfl rfl)) (M.lt 0 rfl) Tryd.underlying48 rfl ?_
      simp only [putT, List.set]
      refine wpV_lenA (n := (addsP 0 [] (lsK d p)).length) (by rfl) rfl rfl rfl Tryd.underlying48 ?_
      simp only [putT, List.set]
      refine wpV_move (v := .int .i64 ((acc : Nat) : Int)) (by rfl) rfl rfl ?_
      simp only [putT, List.set]
      refine wpV_bin (v := .bool false) (by rfl) rfl rfl rfl (fun W => (run_neqN ((addsP 0 [] (lsK d p)).length) acc _ _ W).trans (by rw [(decide_eq_false (by rw [hacc, parts_len]; exact fun h => h rfl))])) ?_
      simp only [putT, List.set]
      refine wpV_pick (v := .bool false) (by rfl) rfl rfl rfl ?_
      simp only [putT, List.set]
      refine wpV_move (v := .bool false) (by rfl) rfl rfl ?_
      simp only [putT, List.set]
      refine wpV_val (v := .pointer (some ⟨g12, 0, none⟩)) (by rfl) (by rfl) (fun W hW => ?_) ?_
      · (go_simp; exact rfl)
      simp only [putT, List.set]
      refine wpV_load1 (v := .int .i64 ((p : Nat) : Int)) (by rfl) rfl rfl (range_one (range_sub (M.r 0 0 rfl rfl) 0 1 0 (xs := [.int .i64 ((p : Nat) : Int)]) rfl rfl)) (M.lt 0 rfl) Tryd.underlying3 rfl ?_
      simp only [putT, List.set]
      refine wpV_move (v := .int .i64 ((p : Nat) : Int)) (by rfl) rfl rfl ?_
      simp only [putT, List.set]
      refine wpV_bin (v := .bool false) (by rfl) rfl rfl rfl (fun W => (run_neqN p p _ _ W).trans (by rw [(decide_eq_false (fun h => h rfl))])) ?_
      simp only [putT, List.set]
      refine wpV_pick (v := .bool false) (by rfl) rfl rfl rfl ?_
      simp only [putT, List.set]
      refine wpV_move (v := .bool false) (by rfl) rfl rfl ?_
      simp only [putT, List.set]
      refine wpV_callf (v := .bool true) (args := #[]) (by rfl) rfl Tryd.func44 (by kernel_rfl) (by kernel_rfl) rfl (fun W hW => alive08_c ((M.sees hW).oldL L0) ((M.sees hW).oldR R0_0 L0)) ?_
      simp only [putT, List.set]
      refine wpV_not (b := true) (by rfl) rfl rfl ?_
      simp only [Bool.not_true, Bool.not_false]
      simp only [putT, List.set]
      refine wpV_pick (v := .bool false) (by rfl) rfl rfl rfl ?_
      simp only [putT, List.set]
      refine wpV_nil (hLk _ (fun w135 Sw135 => ?_))
      clear hLk Lk
      simp only [List.take, List.drop]
      replace M := M.sees Sw135
      refine wpL_nil (no_panic ?_)
      refine hK133 _ _ ?_
      refine wp_cond_false rfl ?_
      refine wp_skip ?_
      refine hK132 _ _ ?_
      refine wp_seq_k (fun K136 hK136 => ?_)
      cases hg137 : (decide (1 < p))
      · skip
        obtain rfl : p = 1 := by have := of_decide_eq_false hg137; omega
        refine wp_region_seq ?_
        refine wpL_move (v := .int .i64 1) (by rfl) (by rfl) (by rfl) ?_
        simp only [putT, List.set]
        refine wpL_chunk 21 (by rfl) (fun Lk hLk => ?_)
        simp only [List.take, List.drop]
        refine wpV_bin (v := .bool false) (by rfl) rfl rfl rfl (fun W => run_gtr _ _ _ _ W) ?_
        simp only [putT, List.set]
        refine wpV_move (v := .bool false) (by rfl) rfl rfl ?_
        simp only [putT, List.set]
        refine wpV_move (v := .int .i64 1) (by rfl) rfl rfl ?_
        simp only [putT, List.set]
        refine wpV_bin (v := .bool true) (by rfl) rfl rfl rfl (fun W => (run_eqlN 1 1 _ _ W).trans (by rw [(decide_eq_true rfl)])) ?_
        simp only [putT, List.set]
        refine wpV_move (v := .bool true) (by rfl) rfl rfl ?_
        simp only [putT, List.set]
        refine wpV_move (v := .string (bs (sumP (addsP 0 [] (lsK d 1))))) (by rfl) rfl rfl ?_
        simp only [putT, List.set]
        refine wpV_move (v := .string (bs d)) (by rfl) rfl rfl ?_
        simp only [putT, List.set]
        refine wpV_binS (v := .string (bs (d ++ ([0])))) (by rfl) rfl rfl rfl (run_add_bs _ _ _ (by simp; omega)) ?_
        simp only [putT, List.set]
        refine wpV_callf (v := .string (bs (leafS (d ++ ([0]))))) (args := #[.string (bs (d ++ ([0])))]) (by rfl) rfl Tryd.func38 (by kernel_rfl) (by kernel_rfl) rfl (fun W hW => leaf_c (d := d ++ ([0])) (by simp; omega) ((M.sees hW).oldL L0) ((M.sees hW).oldR R0_0 L0)) ?_
        simp only [putT, List.set]
        refine wpV_binS (v := .bool true) (by rfl) rfl rfl rfl (fun W => (run_eql_bs _ _ _ W).trans (by rw [(decide_eq_true (sum_one d))])) ?_
        simp only [putT, List.set]
        refine wpV_pick (v := .bool true) (by rfl) rfl rfl rfl ?_
        simp only [putT, List.set]
        refine wpV_pick (v := .bool true) (by rfl) rfl rfl rfl ?_
        simp only [putT, List.set]
        refine wpV_move (v := .bool true) (by rfl) rfl rfl ?_
        simp only [putT, List.set]
        refine wpV_skip (by rfl) (by rfl) ?_
        simp only [putT, List.set]
        refine wpV_skip (by rfl) (by rfl) ?_
        simp only [putT, List.set]
        refine wpV_skip (by rfl) (by rfl) ?_
        simp only [putT, List.set]
        refine wpV_skip (by rfl) (by rfl) ?_
        simp only [putT, List.set]
        refine wpV_skip (by rfl) (by rfl) ?_
        simp only [putT, List.set]
        refine wpV_skip (by rfl) (by rfl) ?_
        simp only [putT, List.set]
        refine wpV_skip (by rfl) (by rfl) ?_
        simp only [putT, List.set]
        refine wpV_pick (v := .bool true) (by rfl) rfl rfl rfl ?_
        simp only [putT, List.set]
        refine wpV_nil (hLk _ (fun w139 Sw139 => ?_))
        clear hLk Lk
        simp only [List.take, List.drop]
        replace M := M.sees Sw139
        refine wpL_assign (v := .bool true) (by rfl) (by rfl) (by rfl) ?_
        simp only [putT, List.set]
        refine wpL_nil (no_panic ?_)
        refine hK136 _ _ ?_
        refine wp_ret ?_
        repeat (first | with_reducible refine then_ret ?_ | with_reducible refine inblock_ret ?_)
        refine bodyPost_ret (v := .bool true) (res1 rfl (.tmp (by rfl))) rfl ?_
        have BE := M.below
        exact ⟨rfl, BE⟩
      · skip
        refine wp_region_seq ?_
        refine wpL_move (v := .int .i64 ((p : Nat) : Int)) (by rfl) (by rfl) (by rfl) ?_
        simp only [putT, List.set]
        refine wpL_chunk 21 (by rfl) (fun Lk hLk => ?_)
        simp only [List.take, List.drop]
        refine wpV_bin (v := .bool true) (by rfl) rfl rfl rfl (fun W => (run_gtrN p 1 _ _ W).trans (by rw [hg137])) ?_
        simp only [putT, List.set]
        refine wpV_move (v := .bool true) (by rfl) rfl rfl ?_
        simp only [putT, List.set]
        refine wpV_skip (by rfl) (by rfl) ?_
        simp only [putT, List.set]
        refine wpV_skip (by rfl) (by rfl) ?_
        simp only [putT, List.set]
        refine wpV_skip (by rfl) (by rfl) ?_
        simp only [putT, List.set]
        refine wpV_skip (by rfl) (by rfl) ?_
        simp only [putT, List.set]
        refine wpV_skip (by rfl) (by rfl) ?_
        simp only [putT, List.set]
        refine wpV_skip (by rfl) (by rfl) ?_
        simp only [putT, List.set]
        refine wpV_skip (by rfl) (by rfl) ?_
        simp only [putT, List.set]
        refine wpV_skip (by rfl) (by rfl) ?_
        simp only [putT, List.set]
        refine wpV_skip (by rfl) (by rfl) ?_
        simp only [putT, List.set]
        refine wpV_pick (v := .bool true) (by rfl) rfl rfl rfl ?_
        simp only [putT, List.set]
        refine wpV_move (v := .bool true) (by rfl) rfl rfl ?_
        simp only [putT, List.set]
        refine wpV_skip (by rfl) (by rfl) ?_
        simp only [putT, List.set]
        refine wpV_skip (by rfl) (by rfl) ?_
        simp only [putT, List.set]
        refine wpV_skip (by rfl) (by rfl) ?_
        simp only [putT, List.set]
        refine wpV_skip (by rfl) (by rfl) ?_
        simp only [putT, List.set]
        refine wpV_skip (by rfl) (by rfl) ?_
        simp only [putT, List.set]
        refine wpV_skip (by rfl) (by rfl) ?_
        simp only [putT, List.set]
        refine wpV_skip (by rfl) (by rfl) ?_
        simp only [putT, List.set]
        refine wpV_pick (v := .bool true) (by rfl) rfl rfl rfl ?_
        simp only [putT, List.set]
        refine wpV_nil (hLk _ (fun w141 Sw141 => ?_))
        clear hLk Lk
        simp only [List.take, List.drop]
        replace M := M.sees Sw141
        refine wpL_assign (v := .bool true) (by rfl) (by rfl) (by rfl) ?_
        simp only [putT, List.set]
        refine wpL_nil (no_panic ?_)
        refine hK136 _ _ ?_
        refine wp_ret ?_
        repeat (first | with_reducible refine then_ret ?_ | with_reducible refine inblock_ret ?_)
        refine bodyPost_ret (v := .bool true) (res1 rfl (.tmp (by rfl))) rfl ?_
        have BE := M.below
        exact ⟨rfl, BE⟩
    · skip
      have hq0 : 0 < q := of_decide_eq_true hc125
      refine wp_cond_true rfl ?_
      refine wp_skip ?_
      refine hK121 _ _ ?_
      refine wp_seq_k (fun K142 hK142 => ?_)
      refine wp_block ?_
      refine wp_region_seq ?_
      refine wpL_move (v := .int .i64 ((acc : Nat) : Int)) (by rfl) (by rfl) (by rfl) ?_
      simp only [putT, List.set]
      refine wpL_move (v := .int .i64 ((q : Nat) : Int)) (by rfl) (by rfl) (by rfl) ?_
      simp only [putT, List.set]
      refine wpL_chunk 2 (by rfl) (fun Lk hLk => ?_)
      simp only [List.take, List.drop]
      refine wpV_bin (v := .int .i64 ((q % 2 : Nat) : Int)) (by rfl) rfl rfl rfl (fun W => run_rem (by decide) (tmod_nat q 2) W) ?_
      simp only [putT, List.set]
      refine wpV_bin (v := .int .i64 ((acc + q % 2 : Nat) : Int)) (by rfl) rfl rfl rfl (fun W => run_add (by simp only [IntKind.wrap_i64]; omega) W) ?_
      simp only [putT, List.set]
      refine wpV_nil (hLk _ (fun w144 Sw144 => ?_))
      clear hLk Lk
      simp only [List.take, List.drop]
      replace M := M.sees Sw144
      refine wpL_assign (v := .int .i64 ((acc + q % 2 : Nat) : Int)) (by rfl) (by rfl) (by rfl) ?_
      simp only [putT, List.set]
      refine wpL_nil (no_panic ?_)
      refine hK142 _ _ ?_
      refine wp_region_seq ?_
      refine wpL_move (v := .int .i64 ((q : Nat) : Int)) (by rfl) (by rfl) (by rfl) ?_
      simp only [putT, List.set]
      refine wpL_chunk 1 (by rfl) (fun Lk hLk => ?_)
      simp only [List.take, List.drop]
      refine wpV_bin (v := .int .i64 ((q / 2 : Nat) : Int)) (by rfl) rfl rfl rfl (fun W => run_quo (by decide) ((congrArg _ (tdiv_nat q 2)).trans (wrap_nat _ (by omega))) W) ?_
      simp only [putT, List.set]
      refine wpV_nil (hLk _ (fun w146 Sw146 => ?_))
      clear hLk Lk
      simp only [List.take, List.drop]
      replace M := M.sees Sw146
      refine wpL_assign (v := .int .i64 ((q / 2 : Nat) : Int)) (by rfl) (by rfl) (by rfl) ?_
      simp only [putT, List.set]
      refine wpL_nil (no_panic ?_)
      refine Exists.intro _ ⟨?_, (acc + q % 2), (q / 2), (fun q9 => (#[undef, undef, undef, undef, undef, undef, undef, undef, undef, undef, undef, undef, undef, undef, undef, undef, undef, undef, undef, undef, undef, undef, undef, undef, undef, undef, undef, undef, undef, undef, undef, undef, undef, undef, undef, undef, undef, undef, undef, undef, undef, undef, undef, undef, undef, undef, .int .i64 ((q : Nat) : Int), .bool true, .int .i64 ((q : Nat) : Int), .int .i64 ((q / 2 : Nat) : Int), .int .i64 ((acc : Nat) : Int), .int .i64 ((q : Nat) : Int), .int .i64 ((q % 2 : Nat) : Int), .int .i64 ((acc + q % 2 : Nat) : Int)] : Array Value).getD q9 undef), rfl, rfl, M, (by omega), (by rw [ones_pos (by omega : q ≠ 0)] at hacc; omega), (by rw [ones_pos (by omega : q ≠ 0)] at hacc; omega)⟩
      omega
  · skip
    have hk : k < p := of_decide_eq_true hc113
    refine wp_cond_true rfl ?_
    refine wp_skip ?_
    refine hK112 _ _ ?_
    refine wp_seq_k (fun K147 hK147 => ?_)
    refine wp_block ?_
    refine wp_seq_k (fun K148 hK148 => ?_)
    refine wp_region_seq ?_
    refine wpL_move (v := .int .i64 ((k : Nat) : Int)) (by rfl) (by rfl) (by rfl) ?_
    simp only [putT, List.set]
    refine wpL_assign (v := .int .i64 ((k : Nat) : Int)) (by rfl) (by rfl) (by rfl) ?_
    simp only [putT, List.set]
    refine wpL_nil (no_panic ?_)
    refine hK148 _ _ ?_
    refine wp_seq_k (fun K150 hK150 => ?_)
    refine wp_region_addsF 14 [12] [4, 8, 9, 13] [ValRel (.agg ([.int .i64 ((k : Nat) : Int), .slice (some ⟨r, 0, none⟩) ((addsP 0 [] (lsK d k)).length) rc]).toArray), ValRel (.string (bs d)), ValRel (.int .i64 ((k : Nat) : Int)), ValRel (.int .u8 ((k % 256 : Nat) : Int)), BoxRel w111 (fun gA => .slice (some ⟨gA, 0, none⟩) 1 1) 1 [(0, bcells [UInt8.ofNat (k % 256)])], ValRel (.string (bs ([UInt8.ofNat (k % 256)]))), ValRel (.string (bs (d ++ ([UInt8.ofNat (k % 256)])))), ValRel (.string (bs (leafS (d ++ ([UInt8.ofNat (k % 256)]))))), BoxRel w111 (fun gA => .slice (some ⟨gA, 0, none⟩) 1 1) 1 [(0, [.string (bs (leafS (d ++ ([UInt8.ofNat (k % 256)]))))])], NewRel w111 (fun gA gAc => .tuple #[.agg ([.int .i64 ((k + 1 : Nat) : Int), .slice (some ⟨gA, 0, none⟩) ((addsP 0 [] (lsK d (k + 1))).length) gAc]).toArray, .int .i64 0]) ((addsP 0 [] (lsK d (k + 1))).length) [(0, scells (addsP 0 [] (lsK d (k + 1))))], LinkRel 9 (fun x => x) (NewRel w111 (fun gA gAc => .tuple #[.agg ([.int .i64 ((k + 1 : Nat) : Int), .slice (some ⟨gA, 0, none⟩) ((addsP 0 [] (lsK d (k + 1))).length) gAc]).toArray, .int .i64 0]) ((addsP 0 [] (lsK d (k + 1))).length) [(0, scells (addsP 0 [] (lsK d (k + 1))))]), LinkRel 10 (partF 0) (NewRel w111 (fun gA gAc => .agg ([.int .i64 ((k + 1 : Nat) : Int), .slice (some ⟨gA, 0, none⟩) ((addsP 0 [] (lsK d (k + 1))).length) gAc]).toArray) ((addsP 0 [] (lsK d (k + 1))).length) [(0, scells (addsP 0 [] (lsK d (k + 1))))]), ValRel (.int .i64 0), BoxRel w111 (fun gA => .pointer (some ⟨gA, 0, none⟩)) 2 [(0, [.int .i64 0, .slice none 0 0])]] [[], [], [], [2], [3], [4], [1, 5], [6], [7], [0, 8], [9], [10], [10], []] (fun vs => { tmps := #[.int .i64 ((p : Nat) : Int), .string (bs d), undef, undef, u18 4, .pointer (some ⟨g12, 0, none⟩), .int .i64 ((k : Nat) : Int), vs 13, u18 8, undef, undef, undef, undef, undef, undef, .int .i64 x, .int .i64 (max x 0), .int .i64 ((p : Nat) : Int), .string (bs l), .string (bs l), .int .i64 ((l.length : Nat) : Int), .int .i64 ((min l.length 20 : Nat) : Int), .string (bs d), .agg ([.int .i64 0, .slice none 0 0]).toArray, .int .i64 ((p : Nat) : Int), .int .i64 ((k : Nat) : Int), .bool true, .int .i64 ((k : Nat) : Int), vs 10, vs 0, vs 1, vs 2, vs 3, vs 4, vs 5, vs 6, vs 7, vs 8, vs 9, vs 11, vs 12, u18 41, u18 42, u18 43, u18 44, undef, undef, undef, undef, undef, undef, undef, undef, undef, undef, undef, undef, undef, undef, undef, undef, undef, undef, undef, undef, undef, undef, undef, undef, undef, undef, undef, undef, undef, undef, undef, undef, undef, undef, undef, undef, undef, undef, undef, undef, undef, undef, undef, undef, undef, undef, undef, undef, undef, undef, undef, undef, undef, undef, undef, undef, undef, undef, undef, undef, undef, undef, undef], defers := [] }) (by kernel_rfl) (by kernel_rfl) (by kernel_rfl) (by kernel_rfl) (.cons keep_val (.cons keep_val (.cons keep_val (.cons keep_val (.cons keep_box (.cons keep_val (.cons keep_val (.cons keep_val (.cons keep_box (.cons keep_new (.cons (keep_link keep_new) (.cons (keep_link keep_new) (.cons keep_val (.cons keep_box AllKeep.nil)))))))))))))) (.free free_val (.free free_val (.free free_val (.free free_val (.free free_box (.free free_val (.free free_val (.free free_val (.free free_box (.free free_new (.link free_new (by decide) (.link free_new (by decide) (.free free_val (.free free_box AllLoc.nil)))))))))))))) (.cons own_box (.cons own_box (.cons own_new (.cons own_box AllOwn.nil)))) (by kernel_rfl) ?_ ?_
    · skip
      simp only [List.take]
      refine RulesL.cons (fun vs => { tmps := #[.int .i64 ((p : Nat) : Int), .string (bs d), undef, undef, u18 4, .pointer (some ⟨g12, 0, none⟩), .int .i64 ((k : Nat) : Int), u18 7, u18 8, undef, undef, undef, undef, undef, undef, .int .i64 x, .int .i64 (max x 0), .int .i64 ((p : Nat) : Int), .string (bs l), .string (bs l), .int .i64 ((l.length : Nat) : Int), .int .i64 ((min l.length 20 : Nat) : Int), .string (bs d), .agg ([.int .i64 0, .slice none 0 0]).toArray, .int .i64 ((p : Nat) : Int), .int .i64 ((k : Nat) : Int), .bool true, .int .i64 ((k : Nat) : Int), u18 28, u18 29, u18 30, u18 31, u18 32, u18 33, u18 34, u18 35, u18 36, u18 37, u18 38, u18 39, u18 40, u18 41, u18 42, u18 43, u18 44, undef, undef, undef, undef, undef, undef, undef, undef, undef, undef, undef, undef, undef, undef, undef, undef, undef, undef, undef, undef, undef, undef, undef, undef, undef, undef, undef, undef, undef, undef, undef, undef, undef, undef, undef, undef, undef, undef, undef, undef, undef, undef, undef, undef, undef, undef, undef, undef, undef, undef, undef, undef, undef, undef, undef, undef, undef, undef, undef, undef, undef, undef, undef], defers := [] }) (by kernel_rfl) ?_ ?_
      · skip
        intro vs gs W152 SW152 D K9 hK9
        replace M := M.sees SW152
        dsimp only at hK9
        dsimp only
        refine wpL_chunk 1 (by rfl) (fun Lk hLk => ?_)
        simp only [List.take, List.drop]
        refine wpV_load (cs := [.int .i64 ((k : Nat) : Int), .slice (some ⟨r, 0, none⟩) ((addsP 0 [] (lsK d k)).length) rc]) (by rfl) rfl rfl (M.r 0 0 rfl rfl) (M.lt 0 rfl) Tryd.underlying66 rfl info66 ?_
        simp only [putT, List.set]
        refine wpV_nil (hLk _ (fun w153 Sw153 => ?_))
        clear hLk Lk
        simp only [List.take, List.drop]
        replace M := M.sees Sw153
        refine wpL_nil (then_normal ?_)
        have h8 := hK9 (.agg ([.int .i64 ((k : Nat) : Int), .slice (some ⟨r, 0, none⟩) ((addsP 0 [] (lsK d k)).length) rc]).toArray)
        have h9 := h8 0 _ Sw153 rfl (fun h => absurd h (by decide))
        simp only [putT, List.set] at h9
        exact h9
      refine RulesL.cons (fun vs => { tmps := #[.int .i64 ((p : Nat) : Int), .string (bs d), undef, undef, u18 4, .pointer (some ⟨g12, 0, none⟩), .int .i64 ((k : Nat) : Int), u18 7, u18 8, undef, undef, undef, undef, undef, undef, .int .i64 x, .int .i64 (max x 0), .int .i64 ((p : Nat) : Int), .string (bs l), .string (bs l), .int .i64 ((l.length : Nat) : Int), .int .i64 ((min l.length 20 : Nat) : Int), .string (bs d), .agg ([.int .i64 0, .slice none 0 0]).toArray, .int .i64 ((p : Nat) : Int), .int .i64 ((k : Nat) : Int), .bool true, .int .i64 ((k : Nat) : Int), u18 28, u18 29, u18 30, u18 31, u18 32, u18 33, u18 34, u18 35, u18 36, u18 37, u18 38, u18 39, u18 40, u18 41, u18 42, u18 43, u18 44, undef, undef, undef, undef, undef, undef, undef, undef, undef, undef, undef, undef, undef, undef, undef, undef, undef, undef, undef, undef, undef, undef, undef, undef, undef, undef, undef, undef, undef, undef, undef, undef, undef, undef, undef, undef, undef, undef, undef, undef, undef, undef, undef, undef, undef, undef, undef, undef, undef, undef, undef, undef, undef, undef, undef, undef, undef, undef, undef, undef, undef, undef, undef], defers := [] }) (by kernel_rfl) ?_ ?_
      · skip
        intro vs gs W154 SW154 D K9 hK9
        replace M := M.sees SW154
        dsimp only at hK9
        dsimp only
        refine wpL_move (v := .string (bs d)) (by rfl) (by rfl) (by rfl) ?_
        simp only [putT, List.set]
        refine wpL_nil (then_normal ?_)
        have h8 := hK9 (.string (bs d))
        have h9 := h8 0 _ (sees_refl _) rfl (fun h => absurd h (by decide))
        simp only [putT, List.set] at h9
        exact h9
      refine RulesL.cons (fun vs => { tmps := #[.int .i64 ((p : Nat) : Int), .string (bs d), undef, undef, u18 4, .pointer (some ⟨g12, 0, none⟩), .int .i64 ((k : Nat) : Int), u18 7, u18 8, undef, undef, undef, undef, undef, undef, .int .i64 x, .int .i64 (max x 0), .int .i64 ((p : Nat) : Int), .string (bs l), .string (bs l), .int .i64 ((l.length : Nat) : Int), .int .i64 ((min l.length 20 : Nat) : Int), .string (bs d), .agg ([.int .i64 0, .slice none 0 0]).toArray, .int .i64 ((p : Nat) : Int), .int .i64 ((k : Nat) : Int), .bool true, .int .i64 ((k : Nat) : Int), u18 28, u18 29, u18 30, u18 31, u18 32, u18 33, u18 34, u18 35, u18 36, u18 37, u18 38, u18 39, u18 40, u18 41, u18 42, u18 43, u18 44, undef, undef, undef, undef, undef, undef, undef, undef, undef, undef, undef, undef, undef, undef, undef, undef, undef, undef, undef, undef, undef, undef, undef, undef, undef, undef, undef, undef, undef, undef, undef, undef, undef, undef, undef, undef, undef, undef, undef, undef, undef, undef, undef, undef, undef, undef, undef, undef, undef, undef, undef, undef, undef, undef, undef, undef, undef, undef, undef, undef, undef, undef, undef], defers := [] }) (by kernel_rfl) ?_ ?_
      · skip
        intro vs gs W155 SW155 D K9 hK9
        replace M := M.sees SW155
        dsimp only at hK9
        dsimp only
        refine wpL_move (v := .int .i64 ((k : Nat) : Int)) (by rfl) (by rfl) (by rfl) ?_
        simp only [putT, List.set]
        refine wpL_nil (then_normal ?_)
        have h8 := hK9 (.int .i64 ((k : Nat) : Int))
        have h9 := h8 0 _ (sees_refl _) rfl (fun h => absurd h (by decide))
        simp only [putT, List.set] at h9
        exact h9
      refine RulesL.cons (fun vs => { tmps := #[.int .i64 ((p : Nat) : Int), .string (bs d), undef, undef, u18 4, .pointer (some ⟨g12, 0, none⟩), .int .i64 ((k : Nat) : Int), u18 7, u18 8, undef, undef, undef, undef, undef, undef, .int .i64 x, .int .i64 (max x 0), .int .i64 ((p : Nat) : Int), .string (bs l), .string (bs l), .int .i64 ((l.length : Nat) : Int), .int .i64 ((min l.length 20 : Nat) : Int), .string (bs d), .agg ([.int .i64 0, .slice none 0 0]).toArray, .int .i64 ((p : Nat) : Int), .int .i64 ((k : Nat) : Int), .bool true, .int .i64 ((k : Nat) : Int), u18 28, u18 29, u18 30, vs 2, u18 32, u18 33, u18 34, u18 35, u18 36, u18 37, u18 38, u18 39, u18 40, u18 41, u18 42, u18 43, u18 44, undef, undef, undef, undef, undef, undef, undef, undef, undef, undef, undef, undef, undef, undef, undef, undef, undef, undef, undef, undef, undef, undef, undef, undef, undef, undef, undef, undef, undef, undef, undef, undef, undef, undef, undef, undef, undef, undef, undef, undef, undef, undef, undef, undef, undef, undef, undef, undef, undef, undef, undef, undef, undef, undef, undef, undef, undef, undef, undef, undef, undef, undef, undef], defers := [] }) (by kernel_rfl) ?_ ?_
      · skip
        intro vs gs W156 SW156 D K9 hK9
        replace M := M.sees SW156
        obtain ⟨D2, _⟩ := D
        have e2 : vs 2 = .int .i64 ((k : Nat) : Int) := D2
        dsimp only at hK9
        dsimp only
        rw [e2] at hK9 ⊢
        refine wpL_chunk 1 (by rfl) (fun Lk hLk => ?_)
        simp only [List.take, List.drop]
        refine wpV_conv (d := .bool) (e := ((k % 256 : Nat) : Int)) (by rfl) rfl rfl (run_conv_int Tryd.underlying3 Tryd.underlying5 (wrap_u8N _)) ?_
        simp only [putT, List.set]
        refine wpV_nil (hLk _ (fun w157 Sw157 => ?_))
        clear hLk Lk
        simp only [List.take, List.drop]
        replace M := M.sees Sw157
        refine wpL_nil (then_normal ?_)
        have h8 := hK9 (.int .u8 ((k % 256 : Nat) : Int))
        have h9 := h8 0 _ Sw157 rfl (fun h => absurd h (by decide))
        simp only [putT, List.set] at h9
        exact h9
      refine RulesL.cons (fun vs => { tmps := #[.int .i64 ((p : Nat) : Int), .string (bs d), undef, undef, u18 4, .pointer (some ⟨g12, 0, none⟩), .int .i64 ((k : Nat) : Int), u18 7, u18 8, undef, undef, undef, undef, undef, undef, .int .i64 x, .int .i64 (max x 0), .int .i64 ((p : Nat) : Int), .string (bs l), .string (bs l), .int .i64 ((l.length : Nat) : Int), .int .i64 ((min l.length 20 : Nat) : Int), .string (bs d), .agg ([.int .i64 0, .slice none 0 0]).toArray, .int .i64 ((p : Nat) : Int), .int .i64 ((k : Nat) : Int), .bool true, .int .i64 ((k : Nat) : Int), u18 28, u18 29, u18 30, u18 31, vs 3, u18 33, u18 34, u18 35, u18 36, u18 37, u18 38, u18 39, u18 40, u18 41, u18 42, u18 43, u18 44, undef, undef, undef, undef, undef, undef, undef, undef, undef, undef, undef, undef, undef, undef, undef, undef, undef, undef, undef, undef, undef, undef, undef, undef, undef, undef, undef, undef, undef, undef, undef, undef, undef, undef, undef, undef, undef, undef, undef, undef, undef, undef, undef, undef, undef, undef, undef, undef, undef, undef, undef, undef, undef, undef, undef, undef, undef, undef, undef, undef, undef, undef, undef], defers := [] }) (by kernel_rfl) ?_ ?_
      · skip
        intro vs gs W158 SW158 D K9 hK9
        replace M := M.sees SW158
        replace R0_0 := M.oldR R0_0 L0
        replace L0 := M.oldL L0
        have Rg12_0 := M.r 0 0 rfl rfl
        have Lg12 := M.lt 0 rfl
        have Rr_0 := M.r 1 0 rfl rfl
        have Lr := M.lt 1 rfl
        have BB := M.below
        replace M := Mem.start W158
        obtain ⟨D3, _⟩ := D
        have e3 : vs 3 = .int .u8 ((k % 256 : Nat) : Int) := D3
        dsimp only at hK9
        dsimp only
        rw [e3] at hK9 ⊢
        refine wpL_rowN (vs := [.int .u8 ((k % 256 : Nat) : Int)]) (z := .int .u8 0) (bytes := 1) (by rfl) (by rfl) Tryd.underlying35 (by kernel_rfl) (by decide) (by kernel_rfl) (fun g159 w160 Sw160 Hg159 Bg159 => ?_)
        replace M := ((M.sees Sw160).add (N := 1) (cs := [.int .u8 ((k % 256 : Nat) : Int)]) (M.ge Hg159) (M.fresh Hg159) Bg159 rfl)
        replace M := M.read1 (cs := bcells [UInt8.ofNat (k % 256)]) 0 rfl (by rw [bcells_byte (Nat.mod_lt _ (by decide))]; exact M.r 0 0 rfl rfl)
        simp only [List.set] at M
        clear Bg159
        simp only [putT, List.set]
        refine wpL_nil (then_normal ?_)
        have h8 := hK9 (.slice (some ⟨g159, 0, none⟩) 1 1)
        have h9 := h8 g159 _ M.seesAll ⟨rfl, (M.ok _ (.head _)).up SW158⟩ (fun _ => (M.ok _ (.head _)).ge)
        simp only [putT, List.set] at h9
        exact h9
      refine RulesL.cons (fun vs => { tmps := #[.int .i64 ((p : Nat) : Int), .string (bs d), undef, undef, u18 4, .pointer (some ⟨g12, 0, none⟩), .int .i64 ((k : Nat) : Int), u18 7, u18 8, undef, undef, undef, undef, undef, undef, .int .i64 x, .int .i64 (max x 0), .int .i64 ((p : Nat) : Int), .string (bs l), .string (bs l), .int .i64 ((l.length : Nat) : Int), .int .i64 ((min l.length 20 : Nat) : Int), .string (bs d), .agg ([.int .i64 0, .slice none 0 0]).toArray, .int .i64 ((p : Nat) : Int), .int .i64 ((k : Nat) : Int), .bool true, .int .i64 ((k : Nat) : Int), u18 28, u18 29, u18 30, u18 31, u18 32, vs 4, u18 34, u18 35, u18 36, u18 37, u18 38, u18 39, u18 40, u18 41, u18 42, u18 43, u18 44, undef, undef, undef, undef, undef, undef, undef, undef, undef, undef, undef, undef, undef, undef, undef, undef, undef, undef, undef, undef, undef, undef, undef, undef, undef, undef, undef, undef, undef, undef, undef, undef, undef, undef, undef, undef, undef, undef, undef, undef, undef, undef, undef, undef, undef, undef, undef, undef, undef, undef, undef, undef, undef, undef, undef, undef, undef, undef, undef, undef, undef, undef, undef], defers := [] }) (by kernel_rfl) ?_ ?_
      · skip
        intro vs gs W161 SW161 D K9 hK9
        replace M := M.sees SW161
        replace R0_0 := M.oldR R0_0 L0
        replace L0 := M.oldL L0
        have Rg12_0 := M.r 0 0 rfl rfl
        have Lg12 := M.lt 0 rfl
        have Rr_0 := M.r 1 0 rfl rfl
        have Lr := M.lt 1 rfl
        have BB := M.below
        replace M := Mem.start W161
        obtain ⟨D4, _⟩ := D
        obtain ⟨e4, Og162⟩ := D4
        generalize gs 4 = g162 at *
        replace e4 : vs 4 = .slice (some ⟨g162, 0, none⟩) 1 1 := e4
        have Rg162_0 := Og162.range (0, bcells [UInt8.ofNat (k % 256)]) (by simp only [List.mem_cons, true_or, or_true])
        have Lg162 := Og162.lt
        dsimp only at hK9
        dsimp only
        rw [e4] at hK9 ⊢
        refine wpL_chunk 1 (by rfl) (fun Lk hLk => ?_)
        simp only [List.take, List.drop]
        refine wpV_b2s (l := [UInt8.ofNat (k % 256)]) (by rfl) rfl rfl rfl Tryd.underlying35 Tryd.underlying5 Tryd.underlying9 (M.oldR Rg162_0 Lg162) (M.oldL Lg162) ?_
        simp only [putT, List.set]
        refine wpV_nil (hLk _ (fun w163 Sw163 => ?_))
        clear hLk Lk
        simp only [List.take, List.drop]
        replace M := M.sees Sw163
        refine wpL_nil (then_normal ?_)
        have h8 := hK9 (.string (bs ([UInt8.ofNat (k % 256)])))
        have h9 := h8 0 _ M.seesAll rfl (fun h => absurd h (by decide))
        simp only [putT, List.set] at h9
        exact h9
      refine RulesL.cons (fun vs => { tmps := #[.int .i64 ((p : Nat) : Int), .string (bs d), undef, undef, u18 4, .pointer (some ⟨g12, 0, none⟩), .int .i64 ((k : Nat) : Int), u18 7, u18 8, undef, undef, undef, undef, undef, undef, .int .i64 x, .int .i64 (max x 0), .int .i64 ((p : Nat) : Int), .string (bs l), .string (bs l), .int .i64 ((l.length : Nat) : Int), .int .i64 ((min l.length 20 : Nat) : Int), .string (bs d), .agg ([.int .i64 0, .slice none 0 0]).toArray, .int .i64 ((p : Nat) : Int), .int .i64 ((k : Nat) : Int), .bool true, .int .i64 ((k : Nat) : Int), u18 28, u18 29, vs 1, u18 31, u18 32, u18 33, vs 5, u18 35, u18 36, u18 37, u18 38, u18 39, u18 40, u18 41, u18 42, u18 43, u18 44, undef, undef, undef, undef, undef, undef, undef, undef, undef, undef, undef, undef, undef, undef, undef, undef, undef, undef, undef, undef, undef, undef, undef, undef, undef, undef, undef, undef, undef, undef, undef, undef, undef, undef, undef, undef, undef, undef, undef, undef, undef, undef, undef, undef, undef, undef, undef, undef, undef, undef, undef, undef, undef, undef, undef, undef, undef, undef, undef, undef, undef, undef, undef], defers := [] }) (by kernel_rfl) ?_ ?_
      · skip
        intro vs gs W164 SW164 D K9 hK9
        replace M := M.sees SW164
        obtain ⟨D1, D5, _⟩ := D
        have e1 : vs 1 = .string (bs d) := D1
        have e5 : vs 5 = .string (bs ([UInt8.ofNat (k % 256)])) := D5
        dsimp only at hK9
        dsimp only
        rw [e1, e5] at hK9 ⊢
        refine wpL_chunk 1 (by rfl) (fun Lk hLk => ?_)
        simp only [List.take, List.drop]
        refine wpV_binS (v := .string (bs (d ++ ([UInt8.ofNat (k % 256)])))) (by rfl) rfl rfl rfl (run_add_bs _ _ _ (by simp; omega)) ?_
        simp only [putT, List.set]
        refine wpV_nil (hLk _ (fun w165 Sw165 => ?_))
        clear hLk Lk
        simp only [List.take, List.drop]
        replace M := M.sees Sw165
        refine wpL_nil (then_normal ?_)
        have h8 := hK9 (.string (bs (d ++ ([UInt8.ofNat (k % 256)]))))
        have h9 := h8 0 _ Sw165 rfl (fun h => absurd h (by decide))
        simp only [putT, List.set] at h9
        exact h9
      refine RulesL.cons (fun vs => { tmps := #[.int .i64 ((p : Nat) : Int), .string (bs d), undef, undef, u18 4, .pointer (some ⟨g12, 0, none⟩), .int .i64 ((k : Nat) : Int), u18 7, u18 8, undef, undef, undef, undef, undef, undef, .int .i64 x, .int .i64 (max x 0), .int .i64 ((p : Nat) : Int), .string (bs l), .string (bs l), .int .i64 ((l.length : Nat) : Int), .int .i64 ((min l.length 20 : Nat) : Int), .string (bs d), .agg ([.int .i64 0, .slice none 0 0]).toArray, .int .i64 ((p : Nat) : Int), .int .i64 ((k : Nat) : Int), .bool true, .int .i64 ((k : Nat) : Int), u18 28, u18 29, u18 30, u18 31, u18 32, u18 33, u18 34, vs 6, u18 36, u18 37, u18 38, u18 39, u18 40, u18 41, u18 42, u18 43, u18 44, undef, undef, undef, undef, undef, undef, undef, undef, undef, undef, undef, undef, undef, undef, undef, undef, undef, undef, undef, undef, undef, undef, undef, undef, undef, undef, undef, undef, undef, undef, undef, undef, undef, undef, undef, undef, undef, undef, undef, undef, undef, undef, undef, undef, undef, undef, undef, undef, undef, undef, undef, undef, undef, undef, undef, undef, undef, undef, undef, undef, undef, undef, undef], defers := [] }) (by kernel_rfl) ?_ ?_
      · skip
        intro vs gs W166 SW166 D K9 hK9
        replace M := M.sees SW166
        obtain ⟨D6, _⟩ := D
        have e6 : vs 6 = .string (bs (d ++ ([UInt8.ofNat (k % 256)]))) := D6
        dsimp only at hK9
        dsimp only
        rw [e6] at hK9 ⊢
        refine wpL_chunk 1 (by rfl) (fun Lk hLk => ?_)
        simp only [List.take, List.drop]
        refine wpV_callf (v := .string (bs (leafS (d ++ ([UInt8.ofNat (k % 256)]))))) (args := #[.string (bs (d ++ ([UInt8.ofNat (k % 256)])))]) (by rfl) rfl Tryd.func38 (by kernel_rfl) (by kernel_rfl) rfl (fun W hW => leaf_c (d := d ++ ([UInt8.ofNat (k % 256)])) (by simp; omega) ((M.sees hW).oldL L0) ((M.sees hW).oldR R0_0 L0)) ?_
        simp only [putT, List.set]
        refine wpV_nil (hLk _ (fun w167 Sw167 => ?_))
        clear hLk Lk
        simp only [List.take, List.drop]
        replace M := M.sees Sw167
        refine wpL_nil (then_normal ?_)
        have h8 := hK9 (.string (bs (leafS (d ++ ([UInt8.ofNat (k % 256)])))))
        have h9 := h8 0 _ Sw167 rfl (fun h => absurd h (by decide))
        simp only [putT, List.set] at h9
        exact h9
      refine RulesL.cons (fun vs => { tmps := #[.int .i64 ((p : Nat) : Int), .string (bs d), undef, undef, u18 4, .pointer (some ⟨g12, 0, none⟩), .int .i64 ((k : Nat) : Int), u18 7, u18 8, undef, undef, undef, undef, undef, undef, .int .i64 x, .int .i64 (max x 0), .int .i64 ((p : Nat) : Int), .string (bs l), .string (bs l), .int .i64 ((l.length : Nat) : Int), .int .i64 ((min l.length 20 : Nat) : Int), .string (bs d), .agg ([.int .i64 0, .slice none 0 0]).toArray, .int .i64 ((p : Nat) : Int), .int .i64 ((k : Nat) : Int), .bool true, .int .i64 ((k : Nat) : Int), u18 28, u18 29, u18 30, u18 31, u18 32, u18 33, u18 34, u18 35, vs 7, u18 37, u18 38, u18 39, u18 40, u18 41, u18 42, u18 43, u18 44, undef, undef, undef, undef, undef, undef, undef, undef, undef, undef, undef, undef, undef, undef, undef, undef, undef, undef, undef, undef, undef, undef, undef, undef, undef, undef, undef, undef, undef, undef, undef, undef, undef, undef, undef, undef, undef, undef, undef, undef, undef, undef, undef, undef, undef, undef, undef, undef, undef, undef, undef, undef, undef, undef, undef, undef, undef, undef, undef, undef, undef, undef, undef], defers := [] }) (by kernel_rfl) ?_ ?_
      · skip
        intro vs gs W168 SW168 D K9 hK9
        replace M := M.sees SW168
        replace R0_0 := M.oldR R0_0 L0
        replace L0 := M.oldL L0
        have Rg12_0 := M.r 0 0 rfl rfl
        have Lg12 := M.lt 0 rfl
        have Rr_0 := M.r 1 0 rfl rfl
        have Lr := M.lt 1 rfl
        have BB := M.below
        replace M := Mem.start W168
        obtain ⟨D7, _⟩ := D
        have e7 : vs 7 = .string (bs (leafS (d ++ ([UInt8.ofNat (k % 256)])))) := D7
        dsimp only at hK9
        dsimp only
        rw [e7] at hK9 ⊢
        refine wpL_rowN (vs := [.string (bs (leafS (d ++ ([UInt8.ofNat (k % 256)]))))]) (z := .string { data := #[] }) (bytes := 16) (by rfl) (by rfl) Tryd.underlying48 (by kernel_rfl) (by decide) (by kernel_rfl) (fun g169 w170 Sw170 Hg169 Bg169 => ?_)
        replace M := ((M.sees Sw170).add (N := 1) (cs := [.string (bs (leafS (d ++ ([UInt8.ofNat (k % 256)]))))]) (M.ge Hg169) (M.fresh Hg169) Bg169 (by simp [flen]))
        clear Bg169
        simp only [putT, List.set]
        refine wpL_nil (then_normal ?_)
        have h8 := hK9 (.slice (some ⟨g169, 0, none⟩) 1 1)
        have h9 := h8 g169 _ M.seesAll ⟨rfl, (M.ok _ (.head _)).up SW168⟩ (fun _ => (M.ok _ (.head _)).ge)
        simp only [putT, List.set] at h9
        exact h9
      refine RulesL.cons (fun vs => { tmps := #[.int .i64 ((p : Nat) : Int), .string (bs d), undef, undef, u18 4, .pointer (some ⟨g12, 0, none⟩), .int .i64 ((k : Nat) : Int), u18 7, u18 8, undef, undef, undef, undef, undef, undef, .int .i64 x, .int .i64 (max x 0), .int .i64 ((p : Nat) : Int), .string (bs l), .string (bs l), .int .i64 ((l.length : Nat) : Int), .int .i64 ((min l.length 20 : Nat) : Int), .string (bs d), .agg ([.int .i64 0, .slice none 0 0]).toArray, .int .i64 ((p : Nat) : Int), .int .i64 ((k : Nat) : Int), .bool true, .int .i64 ((k : Nat) : Int), u18 28, vs 0, u18 30, u18 31, u18 32, u18 33, u18 34, u18 35, u18 36, vs 8, u18 38, u18 39, u18 40, u18 41, u18 42, u18 43, u18 44, undef, undef, undef, undef, undef, undef, undef, undef, undef, undef, undef, undef, undef, undef, undef, undef, undef, undef, undef, undef, undef, undef, undef, undef, undef, undef, undef, undef, undef, undef, undef, undef, undef, undef, undef, undef, undef, undef, undef, undef, undef, undef, undef, undef, undef, undef, undef, undef, undef, undef, undef, undef, undef, undef, undef, undef, undef, undef, undef, undef, undef, undef, undef], defers := [] }) (by kernel_rfl) ?_ ?_
      · skip
        intro vs gs W171 SW171 D K9 hK9
        replace M := M.sees SW171
        replace R0_0 := M.oldR R0_0 L0
        replace L0 := M.oldL L0
        have Rg12_0 := M.r 0 0 rfl rfl
        have Lg12 := M.lt 0 rfl
        have Rr_0 := M.r 1 0 rfl rfl
        have Lr := M.lt 1 rfl
        have BB := M.below
        replace M := Mem.start W171
        obtain ⟨D0, D8, _⟩ := D
        have e0 : vs 0 = .agg ([.int .i64 ((k : Nat) : Int), .slice (some ⟨r, 0, none⟩) ((addsP 0 [] (lsK d k)).length) rc]).toArray := D0
        obtain ⟨e8, Og172⟩ := D8
        generalize gs 8 = g172 at *
        replace e8 : vs 8 = .slice (some ⟨g172, 0, none⟩) 1 1 := e8
        have Rg172_0 := Og172.range (0, [.string (bs (leafS (d ++ ([UInt8.ofNat (k % 256)]))))]) (by simp only [List.mem_cons, true_or, or_true])
        have Lg172 := Og172.lt
        dsimp only at hK9
        dsimp only
        rw [e0, e8] at hK9 ⊢
        refine wpL_callE (f := 55) (args := #[.agg ([.int .i64 ((k : Nat) : Int), .slice (some ⟨r, 0, none⟩) ((addsP 0 [] (lsK d k)).length) rc]).toArray, .slice (some ⟨g172, 0, none⟩) 1 1]) (R := fun v9 W9 => ∃ g174 g174c, v9 = .tuple #[.agg ([.int .i64 ((k + 1 : Nat) : Int), .slice (some ⟨g174, 0, none⟩) ((addsP 0 [] (lsK d (k + 1))).length) g174c]).toArray, .int .i64 0] ∧ (addsP 0 [] (lsK d (k + 1))).length ≤ g174c ∧ Mem [] W171 W9 [⟨g174, g174c, [(0, scells (addsP 0 [] (lsK d (k + 1))))]⟩]) (by rfl) (by rfl) rfl Tryd.func55 (by kernel_rfl) (by kernel_rfl) (by have h9 := Add_new (ps := addsP 0 [] (lsK d k)) (ap := (some ⟨r, 0, none⟩)) (np := (addsP 0 [] (lsK d k)).length) (cp := rc) (ls := [leafS (d ++ ([UInt8.ofNat (k % 256)]))]) (aq := (some ⟨g172, 0, none⟩)) (nq := 1) (cq := 1) (m := k) (w := W171) (by rw [parts_len]; exact ones_le_80 (by omega)) (by omega) (may_of (by omega) (parts_len d k) (parts_32 d k)) (right_one _) (by simp; omega) (parts_len d k) (parts_32 d k) (one_32 _) (by simp) (M.oldL L0) (M.oldR R0_0 L0) (RowA.of (M.oldR Rr_0 Lr) (M.oldL Lr) (scells_len _).symm Cr) (RowA.of (M.oldR Rg172_0 Lg172) (M.oldL Lg172) rfl (Nat.le_refl _)); rw [parts_step] at h9; exact Calls.mono h9 fun e W8 ⟨v8, e1, g8, c8, e2, e3, e4⟩ => ⟨v8, e1, ⟨g8, c8, e2, e3, e4⟩, e4.below⟩) (fun v9 w173 hv9 Sw173 => ?_)
        obtain ⟨g174, g174c, rfl, Cg174, M9⟩ := hv9
        replace M := M.call1 M9
        clear Sw173
        simp only [putT, List.set]
        refine wpL_nil (then_normal ?_)
        have h8 := hK9 (.tuple #[.agg ([.int .i64 ((k + 1 : Nat) : Int), .slice (some ⟨g174, 0, none⟩) ((addsP 0 [] (lsK d (k + 1))).length) g174c]).toArray, .int .i64 0])
        have h9 := h8 g174 _ M.seesAll ⟨g174c, rfl, Cg174, (M.ok _ (.head _)).up SW171⟩ (fun _ => (M.ok _ (.head _)).ge)
        simp only [putT, List.set] at h9
        exact h9
      refine RulesL.cons (fun vs => { tmps := #[.int .i64 ((p : Nat) : Int), .string (bs d), undef, undef, u18 4, .pointer (some ⟨g12, 0, none⟩), .int .i64 ((k : Nat) : Int), u18 7, u18 8, undef, undef, undef, undef, undef, undef, .int .i64 x, .int .i64 (max x 0), .int .i64 ((p : Nat) : Int), .string (bs l), .string (bs l), .int .i64 ((l.length : Nat) : Int), .int .i64 ((min l.length 20 : Nat) : Int), .string (bs d), .agg ([.int .i64 0, .slice none 0 0]).toArray, .int .i64 ((p : Nat) : Int), .int .i64 ((k : Nat) : Int), .bool true, .int .i64 ((k : Nat) : Int), u18 28, u18 29, u18 30, u18 31, u18 32, u18 33, u18 34, u18 35, u18 36, u18 37, vs 9, u18 39, u18 40, u18 41, u18 42, u18 43, u18 44, undef, undef, undef, undef, undef, undef, undef, undef, undef, undef, undef, undef, undef, undef, undef, undef, undef, undef, undef, undef, undef, undef, undef, undef, undef, undef, undef, undef, undef, undef, undef, undef, undef, undef, undef, undef, undef, undef, undef, undef, undef, undef, undef, undef, undef, undef, undef, undef, undef, undef, undef, undef, undef, undef, undef, undef, undef, undef, undef, undef, undef, undef, undef], defers := [] }) (by kernel_rfl) ?_ ?_
      · skip
        intro vs gs W175 SW175 D K9 hK9
        replace M := M.sees SW175
        replace R0_0 := M.oldR R0_0 L0
        replace L0 := M.oldL L0
        have Rg12_0 := M.r 0 0 rfl rfl
        have Lg12 := M.lt 0 rfl
        have Rr_0 := M.r 1 0 rfl rfl
        have Lr := M.lt 1 rfl
        have BB := M.below
        replace M := Mem.start W175
        obtain ⟨D9, _⟩ := D
        obtain ⟨g176c, e9, Cg176, Og176⟩ := D9
        generalize gs 9 = g176 at *
        replace e9 : vs 9 = .tuple #[.agg ([.int .i64 ((k + 1 : Nat) : Int), .slice (some ⟨g176, 0, none⟩) ((addsP 0 [] (lsK d (k + 1))).length) g176c]).toArray, .int .i64 0] := e9
        have Rg176_0 := Og176.range (0, scells (addsP 0 [] (lsK d (k + 1)))) (by simp only [List.mem_cons, true_or, or_true])
        have Lg176 := Og176.lt
        dsimp only at hK9
        dsimp only
        rw [e9] at hK9 ⊢
        refine wpL_move (v := .tuple #[.agg ([.int .i64 ((k + 1 : Nat) : Int), .slice (some ⟨g176, 0, none⟩) ((addsP 0 [] (lsK d (k + 1))).length) g176c]).toArray, .int .i64 0]) (by rfl) (by rfl) (by rfl) ?_
        simp only [putT, List.set]
        refine wpL_nil (then_normal ?_)
        have h8 := hK9 (.tuple #[.agg ([.int .i64 ((k + 1 : Nat) : Int), .slice (some ⟨g176, 0, none⟩) ((addsP 0 [] (lsK d (k + 1))).length) g176c]).toArray, .int .i64 0])
        have h9 := h8 g176 _ (sees_refl _) ⟨(congrArg (fun x => x) e9).symm, g176c, rfl, Cg176, Og176⟩ (fun h => absurd h (by decide))
        simp only [putT, List.set] at h9
        exact h9
      refine RulesL.cons (fun vs => { tmps := #[.int .i64 ((p : Nat) : Int), .string (bs d), undef, undef, u18 4, .pointer (some ⟨g12, 0, none⟩), .int .i64 ((k : Nat) : Int), u18 7, u18 8, undef, undef, undef, undef, undef, undef, .int .i64 x, .int .i64 (max x 0), .int .i64 ((p : Nat) : Int), .string (bs l), .string (bs l), .int .i64 ((l.length : Nat) : Int), .int .i64 ((min l.length 20 : Nat) : Int), .string (bs d), .agg ([.int .i64 0, .slice none 0 0]).toArray, .int .i64 ((p : Nat) : Int), .int .i64 ((k : Nat) : Int), .bool true, .int .i64 ((k : Nat) : Int), vs 10, u18 29, u18 30, u18 31, u18 32, u18 33, u18 34, u18 35, u18 36, u18 37, u18 38, u18 39, u18 40, u18 41, u18 42, u18 43, u18 44, undef, undef, undef, undef, undef, undef, undef, undef, undef, undef, undef, undef, undef, undef, undef, undef, undef, undef, undef, undef, undef, undef, undef, undef, undef, undef, undef, undef, undef, undef, undef, undef, undef, undef, undef, undef, undef, undef, undef, undef, undef, undef, undef, undef, undef, undef, undef, undef, undef, undef, undef, undef, undef, undef, undef, undef, undef, undef, undef, undef, undef, undef, undef], defers := [] }) (by kernel_rfl) ?_ ?_
      · skip
        intro vs gs W177 SW177 D K9 hK9
        replace M := M.sees SW177
        replace R0_0 := M.oldR R0_0 L0
        replace L0 := M.oldL L0
        have Rg12_0 := M.r 0 0 rfl rfl
        have Lg12 := M.lt 0 rfl
        have Rr_0 := M.r 1 0 rfl rfl
        have Lr := M.lt 1 rfl
        have BB := M.below
        replace M := Mem.start W177
        obtain ⟨D10, _⟩ := D
        obtain ⟨_, g178c, e10, Cg178, Og178⟩ := D10
        generalize gs 10 = g178 at *
        replace e10 : vs 10 = .tuple #[.agg ([.int .i64 ((k + 1 : Nat) : Int), .slice (some ⟨g178, 0, none⟩) ((addsP 0 [] (lsK d (k + 1))).length) g178c]).toArray, .int .i64 0] := e10
        have Rg178_0 := Og178.range (0, scells (addsP 0 [] (lsK d (k + 1)))) (by simp only [List.mem_cons, true_or, or_true])
        have Lg178 := Og178.lt
        dsimp only at hK9
        dsimp only
        rw [e10] at hK9 ⊢
        refine wpL_chunk 1 (by rfl) (fun Lk hLk => ?_)
        simp only [List.take, List.drop]
        refine wpV_extract (v := .agg ([.int .i64 ((k + 1 : Nat) : Int), .slice (some ⟨g178, 0, none⟩) ((addsP 0 [] (lsK d (k + 1))).length) g178c]).toArray) (by rfl) rfl rfl rfl ?_
        simp only [putT, List.set]
        refine wpV_nil (hLk _ (fun w179 Sw179 => ?_))
        clear hLk Lk
        simp only [List.take, List.drop]
        replace M := M.sees Sw179
        refine wpL_nil (then_normal ?_)
        have h8 := hK9 (.agg ([.int .i64 ((k + 1 : Nat) : Int), .slice (some ⟨g178, 0, none⟩) ((addsP 0 [] (lsK d (k + 1))).length) g178c]).toArray)
        have h9 := h8 g178 _ M.seesAll ⟨(congrArg (partF 0) e10).symm, g178c, rfl, Cg178, (Og178.mono M.seesAll)⟩ (fun h => absurd h (by decide))
        simp only [putT, List.set] at h9
        exact h9
      refine RulesL.cons (fun vs => { tmps := #[.int .i64 ((p : Nat) : Int), .string (bs d), undef, undef, u18 4, .pointer (some ⟨g12, 0, none⟩), .int .i64 ((k : Nat) : Int), u18 7, u18 8, undef, undef, undef, undef, undef, undef, .int .i64 x, .int .i64 (max x 0), .int .i64 ((p : Nat) : Int), .string (bs l), .string (bs l), .int .i64 ((l.length : Nat) : Int), .int .i64 ((min l.length 20 : Nat) : Int), .string (bs d), .agg ([.int .i64 0, .slice none 0 0]).toArray, .int .i64 ((p : Nat) : Int), .int .i64 ((k : Nat) : Int), .bool true, .int .i64 ((k : Nat) : Int), vs 10, u18 29, u18 30, u18 31, u18 32, u18 33, u18 34, u18 35, u18 36, u18 37, u18 38, u18 39, u18 40, u18 41, u18 42, u18 43, u18 44, undef, undef, undef, undef, undef, undef, undef, undef, undef, undef, undef, undef, undef, undef, undef, undef, undef, undef, undef, undef, undef, undef, undef, undef, undef, undef, undef, undef, undef, undef, undef, undef, undef, undef, undef, undef, undef, undef, undef, undef, undef, undef, undef, undef, undef, undef, undef, undef, undef, undef, undef, undef, undef, undef, undef, undef, undef, undef, undef, undef, undef, undef, undef], defers := [] }) (by kernel_rfl) ?_ ?_
      · skip
        intro vs gs W180 SW180 D K9 hK9
        replace M := M.sees SW180
        replace R0_0 := M.oldR R0_0 L0
        replace L0 := M.oldL L0
        have Rg12_0 := M.r 0 0 rfl rfl
        have Lg12 := M.lt 0 rfl
        have Rr_0 := M.r 1 0 rfl rfl
        have Lr := M.lt 1 rfl
        have BB := M.below
        replace M := Mem.start W180
        obtain ⟨D10, _⟩ := D
        obtain ⟨_, g181c, e10, Cg181, Og181⟩ := D10
        generalize gs 10 = g181 at *
        replace e10 : vs 10 = .tuple #[.agg ([.int .i64 ((k + 1 : Nat) : Int), .slice (some ⟨g181, 0, none⟩) ((addsP 0 [] (lsK d (k + 1))).length) g181c]).toArray, .int .i64 0] := e10
        have Rg181_0 := Og181.range (0, scells (addsP 0 [] (lsK d (k + 1)))) (by simp only [List.mem_cons, true_or, or_true])
        have Lg181 := Og181.lt
        dsimp only at hK9
        dsimp only
        rw [e10] at hK9 ⊢
        refine wpL_chunk 1 (by rfl) (fun Lk hLk => ?_)
        simp only [List.take, List.drop]
        refine wpV_extract (v := .int .i64 0) (by rfl) rfl rfl rfl ?_
        simp only [putT, List.set]
        refine wpV_nil (hLk _ (fun w182 Sw182 => ?_))
        clear hLk Lk
        simp only [List.take, List.drop]
        replace M := M.sees Sw182
        refine wpL_nil (then_normal ?_)
        have h8 := hK9 (.int .i64 0)
        have h9 := h8 0 _ M.seesAll rfl (fun h => absurd h (by decide))
        simp only [putT, List.set] at h9
        exact h9
      refine RulesL.cons (fun vs => { tmps := #[.int .i64 ((p : Nat) : Int), .string (bs d), undef, undef, u18 4, .pointer (some ⟨g12, 0, none⟩), .int .i64 ((k : Nat) : Int), u18 7, u18 8, undef, undef, undef, undef, undef, undef, .int .i64 x, .int .i64 (max x 0), .int .i64 ((p : Nat) : Int), .string (bs l), .string (bs l), .int .i64 ((l.length : Nat) : Int), .int .i64 ((min l.length 20 : Nat) : Int), .string (bs d), .agg ([.int .i64 0, .slice none 0 0]).toArray, .int .i64 ((p : Nat) : Int), .int .i64 ((k : Nat) : Int), .bool true, .int .i64 ((k : Nat) : Int), u18 28, u18 29, u18 30, u18 31, u18 32, u18 33, u18 34, u18 35, u18 36, u18 37, u18 38, u18 39, u18 40, u18 41, u18 42, u18 43, u18 44, undef, undef, undef, undef, undef, undef, undef, undef, undef, undef, undef, undef, undef, undef, undef, undef, undef, undef, undef, undef, undef, undef, undef, undef, undef, undef, undef, undef, undef, undef, undef, undef, undef, undef, undef, undef, undef, undef, undef, undef, undef, undef, undef, undef, undef, undef, undef, undef, undef, undef, undef, undef, undef, undef, undef, undef, undef, undef, undef, undef, undef, undef, undef], defers := [] }) (by kernel_rfl) ?_ ?_
      · skip
        intro vs gs W183 SW183 D K9 hK9
        replace M := M.sees SW183
        replace R0_0 := M.oldR R0_0 L0
        replace L0 := M.oldL L0
        have Rg12_0 := M.r 0 0 rfl rfl
        have Lg12 := M.lt 0 rfl
        have Rr_0 := M.r 1 0 rfl rfl
        have Lr := M.lt 1 rfl
        have BB := M.below
        replace M := Mem.start W183
        dsimp only at hK9
        dsimp only
        refine wpL_var (t := 66) (cs := [.int .i64 0, .slice none 0 0]) (by rfl) (fun W => ?_) (fun g184 w185 Sw185 Hg184 Bg184 => ?_)
        · go_simp
        replace M := ((M.sees Sw185).add (N := 2) (cs := [.int .i64 0, .slice none 0 0]) (M.ge Hg184) (M.fresh Hg184) Bg184 rfl)
        clear Bg184
        simp only [putT, List.set]
        refine wpL_nil (then_normal ?_)
        have h8 := hK9 (.pointer (some ⟨g184, 0, none⟩))
        have h9 := h8 g184 _ M.seesAll ⟨rfl, (M.ok _ (.head _)).up SW183⟩ (fun _ => (M.ok _ (.head _)).ge)
        simp only [putT, List.set] at h9
        exact h9
      exact RulesL.nil
    intro vs gs W186 SW186 D A9
    obtain ⟨D0, D1, D2, D3, D4, D5, D6, D7, D8, D9, D10, D11, D12, D13, _⟩ := (show DepRel _ vs gs W186 [0, 1, 2, 3, 4, 5, 6, 7, 8, 9, 10, 11, 12, 13] from D)
    have n4_8 : gs 4 ≠ gs 8 := A9 4 8 (by decide) (by decide) (by decide) (by decide) (by decide)
    have n4_9 : gs 4 ≠ gs 9 := A9 4 9 (by decide) (by decide) (by decide) (by decide) (by decide)
    have n4_13 : gs 4 ≠ gs 13 := A9 4 13 (by decide) (by decide) (by decide) (by decide) (by decide)
    have n8_9 : gs 8 ≠ gs 9 := A9 8 9 (by decide) (by decide) (by decide) (by decide) (by decide)
    have n8_13 : gs 8 ≠ gs 13 := A9 8 13 (by decide) (by decide) (by decide) (by decide) (by decide)
    have n9_13 : gs 9 ≠ gs 13 := A9 9 13 (by decide) (by decide) (by decide) (by decide) (by decide)
    clear A9 D
    have e0 : vs 0 = .agg ([.int .i64 ((k : Nat) : Int), .slice (some ⟨r, 0, none⟩) ((addsP 0 [] (lsK d k)).length) rc]).toArray := D0
    have e1 : vs 1 = .string (bs d) := D1
    have e2 : vs 2 = .int .i64 ((k : Nat) : Int) := D2
    have e3 : vs 3 = .int .u8 ((k % 256 : Nat) : Int) := D3
    obtain ⟨e4, Og187⟩ := D4
    generalize gs 4 = g187 at *
    replace e4 : vs 4 = .slice (some ⟨g187, 0, none⟩) 1 1 := e4
    have e5 : vs 5 = .string (bs ([UInt8.ofNat (k % 256)])) := D5
    have e6 : vs 6 = .string (bs (d ++ ([UInt8.ofNat (k % 256)]))) := D6
    have e7 : vs 7 = .string (bs (leafS (d ++ ([UInt8.ofNat (k % 256)])))) := D7
    obtain ⟨e8, Og188⟩ := D8
    generalize gs 8 = g188 at *
    replace e8 : vs 8 = .slice (some ⟨g188, 0, none⟩) 1 1 := e8
    obtain ⟨g189c, e9, Cg189, Og189⟩ := D9
    generalize gs 9 = g189 at *
    replace e9 : vs 9 = .tuple #[.agg ([.int .i64 ((k + 1 : Nat) : Int), .slice (some ⟨g189, 0, none⟩) ((addsP 0 [] (lsK d (k + 1))).length) g189c]).toArray, .int .i64 0] := e9
    have e10 : vs 10 = .tuple #[.agg ([.int .i64 ((k + 1 : Nat) : Int), .slice (some ⟨g189, 0, none⟩) ((addsP 0 [] (lsK d (k + 1))).length) g189c]).toArray, .int .i64 0] := D10.1.trans (congrArg (fun x => x) e9)
    have e11 : vs 11 = .agg ([.int .i64 ((k + 1 : Nat) : Int), .slice (some ⟨g189, 0, none⟩) ((addsP 0 [] (lsK d (k + 1))).length) g189c]).toArray := D11.1.trans (congrArg (partF 0) e10)
    have e12 : vs 12 = .int .i64 0 := D12
    obtain ⟨e13, Og190⟩ := D13
    generalize gs 13 = g190 at *
    replace e13 : vs 13 = .pointer (some ⟨g190, 0, none⟩) := e13
    replace M := M.addOks SW186 [⟨g187, 1, [(0, bcells [UInt8.ofNat (k % 256)])]⟩, ⟨g188, 1, [(0, [.string (bs (leafS (d ++ ([UInt8.ofNat (k % 256)]))))])]⟩, ⟨g189, g189c, [(0, scells (addsP 0 [] (lsK d (k + 1))))]⟩, ⟨g190, 2, [(0, [.int .i64 0, .slice none 0 0])]⟩] (List.forall_mem_cons.2 ⟨Og187, (List.forall_mem_cons.2 ⟨Og188, (List.forall_mem_cons.2 ⟨Og189, (List.forall_mem_cons.2 ⟨Og190, (fun _ h => nomatch h)⟩)⟩)⟩)⟩) (.cons (List.forall_mem_cons.2 ⟨n4_8, (List.forall_mem_cons.2 ⟨n4_9, (List.forall_mem_cons.2 ⟨n4_13, (fun _ h => nomatch h)⟩)⟩)⟩) (.cons (List.forall_mem_cons.2 ⟨n8_9, (List.forall_mem_cons.2 ⟨n8_13, (fun _ h => nomatch h)⟩)⟩) (.cons (List.forall_mem_cons.2 ⟨n9_13, (fun _ h => nomatch h)⟩) (.cons (fun _ h => nomatch h) .nil))))
    simp only [List.cons_append, List.nil_append] at M
    dsimp only
    simp only [e0, e1, e2, e3, e4, e5, e6, e7, e8, e9, e10, e11, e12, e13, List.drop]
    refine wpL_store (g := g190) (off := 0) (n := 2) (cs := [.int .i64 ((k + 1 : Nat) : Int), .slice (some ⟨g189, 0, none⟩) ((addsP 0 [] (lsK d (k + 1))).length) g189c]) (by rfl) (by rfl) (by rfl) (by rfl) (by rfl) (M.t 3 rfl) (by simp [flen]) info66 (by simp [fone, Value.oneCell']) (fun w191 P R T => ?_)
    replace M := M.putS 3 0 rfl P R T rfl ⟨.inl rfl, trivial⟩
    simp only [List.set] at M
    refine wpL_assign (v := .int .i64 0) (by rfl) (by rfl) (by rfl) ?_
    simp only [putT, List.set]
    refine wpL_nil (no_panic ?_)
    refine hK150 _ _ ?_
    refine wp_seq_k (fun K192 hK192 => ?_)
    refine wp_seq_k (fun K193 hK193 => ?_)
    refine wp_region_seq ?_
    refine wpL_move (v := .int .i64 0) (by rfl) (by rfl) (by rfl) ?_
    simp only [putT, List.set]
    refine wpL_chunk 1 (by rfl) (fun Lk hLk => ?_)
    simp only [List.take, List.drop]
    refine wpV_bin (v := .bool false) (by rfl) rfl rfl rfl (fun W => run_neq _ _ _ _ W) ?_
    simp only [putT, List.set]
    refine wpV_nil (hLk _ (fun w195 Sw195 => ?_))
    clear hLk Lk
    simp only [List.take, List.drop]
    replace M := M.sees Sw195
    refine wpL_nil (no_panic ?_)
    refine hK193 _ _ ?_
    refine wp_cond_false rfl ?_
    refine wp_skip ?_
    refine hK192 _ _ ?_
    refine wp_region_seq ?_
    refine wpL_chunk 1 (by rfl) (fun Lk hLk => ?_)
    simp only [List.take, List.drop]
    refine wpV_load (cs := [.int .i64 ((k + 1 : Nat) : Int), .slice (some ⟨g189, 0, none⟩) ((addsP 0 [] (lsK d (k + 1))).length) g189c]) (by rfl) rfl rfl (M.r 3 0 rfl rfl) (M.lt 3 rfl) Tryd.underlying66 rfl info66 ?_
    simp only [putT, List.set]
    refine wpV_nil (hLk _ (fun w197 Sw197 => ?_))
    clear hLk Lk
    simp only [List.take, List.drop]
    replace M := M.sees Sw197
    refine wpL_store (g := g12) (off := 0) (n := 2) (cs := [.int .i64 ((k + 1 : Nat) : Int), .slice (some ⟨g189, 0, none⟩) ((addsP 0 [] (lsK d (k + 1))).length) g189c]) (by rfl) (by rfl) (by rfl) (by rfl) (by rfl) (M.t 4 rfl) (by simp [flen]) info66 (by simp [fone, Value.oneCell']) (fun w198 P R T => ?_)
    replace M := M.putS 4 0 rfl P R T rfl ⟨.inl rfl, trivial⟩
    simp only [List.set] at M
    refine wpL_nil (no_panic ?_)
    refine hK147 _ _ ?_
    refine wp_region_seq ?_
    refine wpL_chunk 1 (by rfl) (fun Lk hLk => ?_)
    simp only [List.take, List.drop]
    refine wpV_bin (v := .int .i64 ((k + 1 : Nat) : Int)) (by rfl) rfl rfl rfl (fun W => run_add (by simp only [IntKind.wrap_i64]; omega) W) ?_
    simp only [putT, List.set]
    refine wpV_nil (hLk _ (fun w200 Sw200 => ?_))
    clear hLk Lk
    simp only [List.take, List.drop]
    replace M := M.sees Sw200
    refine wpL_move (v := .int .i64 ((k + 1 : Nat) : Int)) (by rfl) (by rfl) (by rfl) ?_
    simp only [putT, List.set]
    refine wpL_nil (no_panic ?_)
    refine Exists.intro _ ⟨?_, (k + 1), g189, g189c, (fun q9 => (#[undef, undef, undef, undef, u18 4, undef, .int .i64 ((k : Nat) : Int), .pointer (some ⟨g190, 0, none⟩), .int .i64 0, undef, undef, undef, undef, undef, undef, undef, undef, undef, undef, undef, undef, undef, undef, undef, undef, undef, .bool true, .int .i64 ((k : Nat) : Int), .tuple #[.agg ([.int .i64 ((k + 1 : Nat) : Int), .slice (some ⟨g189, 0, none⟩) ((addsP 0 [] (lsK d (k + 1))).length) g189c]).toArray, .int .i64 0], .agg ([.int .i64 ((k : Nat) : Int), .slice (some ⟨r, 0, none⟩) ((addsP 0 [] (lsK d k)).length) rc]).toArray, .string (bs d), .int .i64 ((k : Nat) : Int), .int .u8 ((k % 256 : Nat) : Int), .slice (some ⟨g187, 0, none⟩) 1 1, .string (bs ([UInt8.ofNat (k % 256)])), .string (bs (d ++ ([UInt8.ofNat (k % 256)]))), .string (bs (leafS (d ++ ([UInt8.ofNat (k % 256)])))), .slice (some ⟨g188, 0, none⟩) 1 1, .tuple #[.agg ([.int .i64 ((k + 1 : Nat) : Int), .slice (some ⟨g189, 0, none⟩) ((addsP 0 [] (lsK d (k + 1))).length) g189c]).toArray, .int .i64 0], .agg ([.int .i64 ((k + 1 : Nat) : Int), .slice (some ⟨g189, 0, none⟩) ((addsP 0 [] (lsK d (k + 1))).length) g189c]).toArray, .int .i64 0, .int .i64 0, .bool false, .agg ([.int .i64 ((k + 1 : Nat) : Int), .slice (some ⟨g189, 0, none⟩) ((addsP 0 [] (lsK d (k + 1))).length) g189c]).toArray, .int .i64 ((k + 1 : Nat) : Int)] : Array Value).getD q9 undef), rfl, rfl, (M.pick [4, 2] (by decide) rfl), Cg189, (by omega), (by omega)⟩
    omega
end Go.Proofs.Yb

