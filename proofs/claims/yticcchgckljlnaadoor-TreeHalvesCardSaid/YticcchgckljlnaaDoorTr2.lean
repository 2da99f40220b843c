import Derived.WalkKit
import Derived.WalkSpells
import Derived.Laws.Pointers
import Derived.RowKit3
import Derived.Below
import Derived.Outline
import Derived.LoopN
import Derived.Lib.Hide
import Derived.Handy
import Derived.Laws.Bits64b
import Derived.Test.YticcchgckljlnaaDoorTr1
set_option linter.unusedSimpArgs false
set_option linter.unusedVariables false
namespace Go.Proofs.Yb
open Go Go.RowKit Go.Proofs.Num
set_option maxHeartbeats 4000000 in
theorem root_c : ∀ (N : Nat) {ps : List (List UInt8)} {g0 o cg0 ng0 : Nat} {w : World} (hN : ps.length = N) (h4 : ps.length ≤ 4096) (hs : ∀ s ∈ ps, s.length = 32) (L0 : 0 < w.heap.size) (R0_0 : w.rangeAt 0 0 kcells) (hng0 : ng0 = ps.length) (hcg0 : ng0 ≤ cg0) (Lg0 : g0 < w.heap.size) (Rg0_o : w.rangeAt g0 o (scells ps)),
    Calls Tryd.prog 75 #[.slice (some ⟨g0, o, none⟩) ng0 cg0] w fun e w' => e = .returned (.string (bs (rootS ps))) ∧ Below w.heap.size w w' := by
  intro N
  induction N using Nat.strongRecOn with
  | _ N ih =>
    intro ps g0 o cg0 ng0 w hN h4 hs L0 R0_0 hng0 hcg0 Lg0 Rg0_o
    subst hng0 hN
    go_enter Tryd.func75, Tryd.ntmps75
    have M := Mem.start w
    refine wp_seq_k (fun K1 hK1 => ?_)
    refine wp_region_seq ?_
    refine wpL_assign (v := .string (bs ([]))) (by rfl) (by rfl) (by rfl) ?_
    simp only [putT, List.set]
    refine wpL_nil (no_panic ?_)
    refine hK1 _ _ ?_
    refine wp_seq_k (fun K3 hK3 => ?_)
    refine wp_seq_k (fun K4 hK4 => ?_)
    refine wp_region_seq ?_
    refine wpL_move (v := .slice (some ⟨g0, o, none⟩) ps.length cg0) (by rfl) (by rfl) (by rfl) ?_
    simp only [putT, List.set]
    refine wpL_chunk 1 (by rfl) (fun Lk hLk => ?_)
    simp only [List.take, List.drop]
    refine wpV_lenA (n := ps.length) (by rfl) rfl rfl rfl Tryd.underlying48 ?_
    simp only [putT, List.set]
    refine wpV_nil (hLk _ (fun w6 Sw6 => ?_))
    clear hLk Lk
    simp only [List.take, List.drop]
    replace M := M.sees Sw6
    refine wpL_nil (no_panic ?_)
    refine hK4 _ _ ?_
    refine wp_block ?_
    refine wp_seq_k (fun K7 hK7 => ?_)
    refine wp_region_seq ?_
    refine wpL_chunk 1 (by rfl) (fun Lk hLk => ?_)
    simp only [List.take, List.drop]
    refine wpV_bin (v := .bool (decide (ps.length = 0))) (by rfl) rfl rfl rfl (fun W => run_eqlN ps.length 0 _ _ W) ?_
    simp only [putT, List.set]
    refine wpV_nil (hLk _ (fun w9 Sw9 => ?_))
    clear hLk Lk
    simp only [List.take, List.drop]
    replace M := M.sees Sw9
    refine wpL_assign (v := .bool (decide (ps.length = 0))) (by rfl) (by rfl) (by rfl) ?_
    simp only [putT, List.set]
    refine wpL_nil (no_panic ?_)
    refine hK7 _ _ ?_
    cases hc10 : (decide (ps.length = 0))
    · skip
      have hn0 : ¬ ps.length = 0 := of_decide_eq_false hc10
      refine wp_cond_false rfl ?_
      refine wp_seq_k (fun K11 hK11 => ?_)
      refine wp_region_seq ?_
      refine wpL_chunk 1 (by rfl) (fun Lk hLk => ?_)
      simp only [List.take, List.drop]
      refine wpV_bin (v := .bool (decide (ps.length = 1))) (by rfl) rfl rfl rfl (fun W => run_eqlN ps.length 1 _ _ W) ?_
      simp only [putT, List.set]
      refine wpV_nil (hLk _ (fun w13 Sw13 => ?_))
      clear hLk Lk
      simp only [List.take, List.drop]
      replace M := M.sees Sw13
      refine wpL_assign (v := .bool (decide (ps.length = 1))) (by rfl) (by rfl) (by rfl) ?_
      simp only [putT, List.set]
      refine wpL_nil (no_panic ?_)
      refine hK11 _ _ ?_
      cases hc14 : (decide (ps.length = 1))
      · skip
        have hn1 : ¬ ps.length = 1 := of_decide_eq_false hc14
        have h2 : 2 ≤ ps.length := by omega
        obtain ⟨sb1, sb2, sb3⟩ := split_bits (n := ps.length) (by omega) h2
        have hsl := splitN_lt h2
        have hsp := splitN_pos ps.length
        refine wp_cond_false rfl ?_
        refine wp_skip ?_
        refine hK3 _ _ ?_
        refine wp_seq_k (fun K15 hK15 => ?_)
        refine wp_region_seq ?_
        refine wpL_move (v := .slice (some ⟨g0, o, none⟩) ps.length cg0) (by rfl) (by rfl) (by rfl) ?_
        simp only [putT, List.set]
        refine wpL_chunk 6 (by rfl) (fun Lk hLk => ?_)
        simp only [List.take, List.drop]
        refine wpV_lenA (n := ps.length) (by rfl) rfl rfl rfl Tryd.underlying48 ?_
        simp only [putT, List.set]
        refine wpV_bin (v := .int .i64 ((ps.length - 1 : Nat) : Int)) (by rfl) rfl rfl rfl (fun W => run_sub (by simp only [IntKind.wrap_i64]; omega) W) ?_
        simp only [putT, List.set]
        refine wpV_conv (d := .bool) (e := ((ps.length - 1 : Nat) : Int)) (by rfl) rfl rfl (run_conv_int Tryd.underlying3 Tryd.underlying116 ((wrap64N _).trans (congrArg _ (Nat.mod_eq_of_lt (by omega))))) ?_
        simp only [putT, List.set]
        refine wpV_callf (v := .int .i64 ((Lib.bitLen (ps.length - 1) : Nat) : Int)) (args := #[.int .u64 ((ps.length - 1 : Nat) : Int)]) (by rfl) rfl Tryd.func95 (by kernel_rfl) (by kernel_rfl) rfl (fun W hW => (((Tryd.bits_Len ((ps.length - 1 : Nat) : Int) W (by omega) (by omega)).mono fun e w' h => ⟨h.1, h.2 ▸ Below.refl _ _⟩))) ?_
        simp only [putT, List.set]
        refine wpV_bin (v := .int .i64 (((Lib.bitLen (ps.length - 1)) - 1 : Nat) : Int)) (by rfl) rfl rfl rfl (fun W => run_sub (by simp only [IntKind.wrap_i64]; omega) W) ?_
        simp only [putT, List.set]
        refine wpV_bin (v := .int .i64 ((splitN ps.length : Nat) : Int)) (by rfl) rfl rfl rfl (fun W => run_shl (m := 1) (n := Lib.bitLen (ps.length - 1) - 1) (by show _ ≤ 64; omega) (by rw [Nat.one_mul, sb3]; simp only [IntKind.wrap_i64]; omega) W) ?_
        simp only [putT, List.set]
        refine wpV_nil (hLk _ (fun w17 Sw17 => ?_))
        clear hLk Lk
        simp only [List.take, List.drop]
        replace M := M.sees Sw17
        refine wpL_assign (v := .int .i64 ((splitN ps.length : Nat) : Int)) (by rfl) (by rfl) (by rfl) ?_
        simp only [putT, List.set]
        refine wpL_nil (no_panic ?_)
        refine hK15 _ _ ?_
        refine wp_seq_k (fun K18 hK18 => ?_)
        refine wp_region_grow 9 [] (by kernel_rfl) (by kernel_rfl) (by kernel_rfl) (fun Lk hLk => ?_)
        simp only [List.take, List.drop]
        refine wpV_move (v := .slice (some ⟨g0, o, none⟩) ps.length cg0) (by rfl) rfl rfl ?_
        simp only [putT, List.set]
        refine wpV_move (v := .int .i64 ((splitN ps.length : Nat) : Int)) (by rfl) rfl rfl ?_
        simp only [putT, List.set]
        refine wpV_sliceH (hi := splitN ps.length) (by rfl) rfl rfl rfl Tryd.underlying48 info9 (Nat.le_trans (Nat.le_of_lt hsl) hcg0) ?_
        simp only [putT, List.set]
        refine wpV_callf (v := .string (bs (rootS (ps.take (splitN ps.length))))) (args := #[.slice (some ⟨g0, o, none⟩) (splitN ps.length) cg0]) (by rfl) rfl Tryd.func75 (by kernel_rfl) (by kernel_rfl) rfl (fun W hW => ih (ps.take (splitN ps.length)).length (by rw [List.length_take]; omega) (ps := ps.take (splitN ps.length)) rfl (by rw [List.length_take]; omega) (fun s9 h9 => hs s9 (List.mem_of_mem_take h9)) ((M.sees hW).oldL L0) ((M.sees hW).oldR R0_0 L0) (by rw [List.length_take]; omega) (Nat.le_trans (Nat.le_of_lt hsl) hcg0) ((M.sees hW).oldL Lg0) (range_stake (splitN ps.length) ((M.sees hW).oldR Rg0_o Lg0))) ?_
        simp only [putT, List.set]
        refine wpV_move (v := .slice (some ⟨g0, o, none⟩) ps.length cg0) (by rfl) rfl rfl ?_
        simp only [putT, List.set]
        refine wpV_move (v := .int .i64 ((splitN ps.length : Nat) : Int)) (by rfl) rfl rfl ?_
        simp only [putT, List.set]
        refine wpV_sliceL (lo := splitN ps.length) (by rfl) rfl rfl rfl Tryd.underlying48 info9 (Nat.le_of_lt hsl) hcg0 (Nat.lt_of_lt_of_le hsl hcg0) ?_
        simp only [putT, List.set]
        refine wpV_callf (v := .string (bs (rootS (ps.drop (splitN ps.length))))) (args := #[.slice (some ⟨g0, o + splitN ps.length, none⟩) (ps.length - splitN ps.length) (cg0 - splitN ps.length)]) (by rfl) rfl Tryd.func75 (by kernel_rfl) (by kernel_rfl) rfl (fun W hW => ih (ps.drop (splitN ps.length)).length (by rw [List.length_drop]; omega) (ps := ps.drop (splitN ps.length)) rfl (by rw [List.length_drop]; omega) (fun s9 h9 => hs s9 (List.mem_of_mem_drop h9)) ((M.sees hW).oldL L0) ((M.sees hW).oldR R0_0 L0) (by rw [List.length_drop]) (Nat.sub_le_sub_right hcg0 _) ((M.sees hW).oldL Lg0) (range_sdrop (k := splitN ps.length) (Nat.le_of_lt hsl) ((M.sees hW).oldR Rg0_o Lg0))) ?_
        simp only [putT, List.set]
        refine wpV_callf (v := .string (bs (nodeS (rootS (ps.take (splitN ps.length))) (rootS (ps.drop (splitN ps.length)))))) (args := #[.string (bs (rootS (ps.take (splitN ps.length)))), .string (bs (rootS (ps.drop (splitN ps.length))))]) (by rfl) rfl Tryd.func40 (by kernel_rfl) (by kernel_rfl) rfl (fun W hW => node_c (a := rootS (ps.take (splitN ps.length))) (b := rootS (ps.drop (splitN ps.length))) (by rw [rootS_len (fun s9 h9 => hs s9 (List.mem_of_mem_take h9))]; decide) (by rw [rootS_len (fun s9 h9 => hs s9 (List.mem_of_mem_drop h9))]; decide) ((M.sees hW).oldL L0) ((M.sees hW).oldR R0_0 L0)) ?_
        simp only [putT, List.set]
        refine wpV_nil (hLk.out _ ?_)
        clear hLk Lk
        simp only [List.take, List.drop]
        iterate 9 refine wpN_skip (by rfl) ?_
        refine wpN_nil (fun w20 Sw20 hbs => ?_)
        clear hbs
        replace M := M.sees Sw20
        refine wpL_assign (v := .string (bs (nodeS (rootS (ps.take (splitN ps.length))) (rootS (ps.drop (splitN ps.length)))))) (by rfl) (by rfl) (by rfl) ?_
        simp only [putT, List.set]
        refine wpL_nil (no_panic ?_)
        refine hK18 _ _ ?_
        refine wp_ret ?_
        repeat (first | with_reducible refine then_ret ?_ | with_reducible refine inblock_ret ?_)
        refine bodyPost_ret (v := .string (bs (nodeS (rootS (ps.take (splitN ps.length))) (rootS (ps.drop (splitN ps.length)))))) (res1 rfl (.tmp (by rfl))) rfl ?_
        have BE := M.below
        exact ⟨by rw [rootS_2 h2], BE⟩
      · skip
        have hn1 : ps.length = 1 := of_decide_eq_true hc14
        refine wp_cond_true rfl ?_
        refine wp_seq_k (fun K21 hK21 => ?_)
        refine wp_region_seq ?_
        refine wpL_move (v := .slice (some ⟨g0, o, none⟩) ps.length cg0) (by rfl) (by rfl) (by rfl) ?_
        simp only [putT, List.set]
        refine wpL_chunk 2 (by rfl) (fun Lk hLk => ?_)
        simp only [List.take, List.drop]
        refine wpV_idxs (n := 0) (by rfl) rfl rfl rfl Tryd.underlying48 info9 (by omega) ?_
        simp only [putT, List.set]
        refine wpV_load1 (v := .string (bs (ps.getD 0 []))) (by rfl) rfl rfl ((M.oldR Rg0_o Lg0) _ _ (scells_get (ps := ps) (by omega))) (M.oldL Lg0) Tryd.underlying9 rfl ?_
        simp only [putT, List.set]
        refine wpV_nil (hLk _ (fun w23 Sw23 => ?_))
        clear hLk Lk
        simp only [List.take, List.drop]
        replace M := M.sees Sw23
        refine wpL_assign (v := .string (bs (ps.getD 0 []))) (by rfl) (by rfl) (by rfl) ?_
        simp only [putT, List.set]
        refine wpL_nil (no_panic ?_)
        refine hK21 _ _ ?_
        refine wp_ret ?_
        repeat (first | with_reducible refine then_ret ?_ | with_reducible refine inblock_ret ?_)
        refine bodyPost_ret (v := .string (bs (ps.getD 0 []))) (res1 rfl (.tmp (by rfl))) rfl ?_
        have BE := M.below
        exact ⟨by rw [rootS_1 hn1], BE⟩
    · skip
      have hn0 : ps.length = 0 := of_decide_eq_true hc10
      refine wp_cond_true rfl ?_
      refine wp_seq_k (fun K24 hK24 => ?_)
      refine wp_region_seq ?_
      refine wpL_chunk 1 (by rfl) (fun Lk hLk => ?_)
      simp only [List.take, List.drop]
      refine wpV_callf (v := .string (bs (sha []))) (args := #[(.slice none 0 0)]) (by rfl) rfl Tryd.func20 (by kernel_rfl) (by kernel_rfl) rfl (fun W hW => sum0_c ((M.sees hW).oldL L0) ((M.sees hW).oldR R0_0 L0)) ?_
      simp only [putT, List.set]
      refine wpV_nil (hLk _ (fun w26 Sw26 => ?_))
      clear hLk Lk
      simp only [List.take, List.drop]
      replace M := M.sees Sw26
      refine wpL_assign (v := .string (bs (sha []))) (by rfl) (by rfl) (by rfl) ?_
      simp only [putT, List.set]
      refine wpL_nil (no_panic ?_)
      refine hK24 _ _ ?_
      refine wp_ret ?_
      repeat (first | with_reducible refine then_ret ?_ | with_reducible refine inblock_ret ?_)
      refine bodyPost_ret (v := .string (bs (sha []))) (res1 rfl (.tmp (by rfl))) rfl ?_
      have BE := M.below
      exact ⟨by rw [rootS_0 hn0], BE⟩
set_option maxHeartbeats 1000000 in
theorem root_c0  {w : World} (L0 : 0 < w.heap.size) (R0_0 : w.rangeAt 0 0 kcells) :
    Calls Tryd.prog 75 #[.slice none 0 0] w fun e w' => e = .returned (.string (bs (rootS []))) ∧ Below w.heap.size w w' := by
  go_enter Tryd.func75, Tryd.ntmps75
  have M := Mem.start w
  refine wp_seq_k (fun K1 hK1 => ?_)
  refine wp_region_seq ?_
  refine wpL_assign (v := .string (bs ([]))) (by rfl) (by rfl) (by rfl) ?_
  simp only [putT, List.set]
  refine wpL_nil (no_panic ?_)
  refine hK1 _ _ ?_
  refine wp_seq_k (fun K3 hK3 => ?_)
  refine wp_seq_k (fun K4 hK4 => ?_)
  refine wp_region_seq ?_
  refine wpL_move (v := .slice none 0 0) (by rfl) (by rfl) (by rfl) ?_
  simp only [putT, List.set]
  refine wpL_chunk 1 (by rfl) (fun Lk hLk => ?_)
  simp only [List.take, List.drop]
  refine wpV_lenA (n := 0) (by rfl) rfl rfl rfl Tryd.underlying48 ?_
  simp only [putT, List.set]
  refine wpV_nil (hLk _ (fun w6 Sw6 => ?_))
  clear hLk Lk
  simp only [List.take, List.drop]
  replace M := M.sees Sw6
  refine wpL_nil (no_panic ?_)
  refine hK4 _ _ ?_
  refine wp_block ?_
  refine wp_seq_k (fun K7 hK7 => ?_)
  refine wp_region_seq ?_
  refine wpL_chunk 1 (by rfl) (fun Lk hLk => ?_)
  simp only [List.take, List.drop]
  refine wpV_bin (v := .bool true) (by rfl) rfl rfl rfl (fun W => (run_eqlN 0 0 _ _ W).trans (by rw [(show decide (0 = 0) = true from rfl)])) ?_
  simp only [putT, List.set]
  refine wpV_nil (hLk _ (fun w9 Sw9 => ?_))
  clear hLk Lk
  simp only [List.take, List.drop]
  replace M := M.sees Sw9
  refine wpL_assign (v := .bool true) (by rfl) (by rfl) (by rfl) ?_
  simp only [putT, List.set]
  refine wpL_nil (no_panic ?_)
  refine hK7 _ _ ?_
  refine wp_cond_true rfl ?_
  refine wp_seq_k (fun K10 hK10 => ?_)
  refine wp_region_seq ?_
  refine wpL_chunk 1 (by rfl) (fun Lk hLk => ?_)
  simp only [List.take, List.drop]
  refine wpV_callf (v := .string (bs (sha []))) (args := #[(.slice none 0 0)]) (by rfl) rfl Tryd.func20 (by kernel_rfl) (by kernel_rfl) rfl (fun W hW => sum0_c ((M.sees hW).oldL L0) ((M.sees hW).oldR R0_0 L0)) ?_
  simp only [putT, List.set]
  refine wpV_nil (hLk _ (fun w12 Sw12 => ?_))
  clear hLk Lk
  simp only [List.take, List.drop]
  replace M := M.sees Sw12
  refine wpL_assign (v := .string (bs (sha []))) (by rfl) (by rfl) (by rfl) ?_
  simp only [putT, List.set]
  refine wpL_nil (no_panic ?_)
  refine hK10 _ _ ?_
  refine wp_ret ?_
  repeat (first | with_reducible refine then_ret ?_ | with_reducible refine inblock_ret ?_)
  refine bodyPost_ret (v := .string (bs (sha []))) (res1 rfl (.tmp (by rfl))) rfl ?_
  have BE := M.below
  exact ⟨by rw [rootS_0 rfl], BE⟩
set_option maxHeartbeats 1000000 in
theorem Root_c {ps : List (List UInt8)} {g0 o cg0 ng0 : Nat} {w : World} (L0 : 0 < w.heap.size) (R0_0 : w.rangeAt 0 0 kcells) (hng0 : ng0 = ps.length) (hcg0 : ng0 ≤ cg0) (Lg0 : g0 < w.heap.size) (Rg0_o : w.rangeAt g0 o (scells ps)) :
    Calls Tryd.prog 37 #[.slice (some ⟨g0, o, none⟩) ng0 cg0] w fun e w' => e = .returned (.tuple #[.string (bs (if rightB ps then rootS ps else [])), .int .i64 (if rightB ps then 0 else 1)]) ∧ Below w.heap.size w w' := by
  subst hng0
  go_enter Tryd.func37, Tryd.ntmps37
  have M := Mem.start w
  refine wp_seq_k (fun K1 hK1 => ?_)
  refine wp_region_seq ?_
  refine wpL_assign (v := .string (bs ([]))) (by rfl) (by rfl) (by rfl) ?_
  simp only [putT, List.set]
  refine wpL_assign (v := .int .i64 0) (by rfl) (by rfl) (by rfl) ?_
  simp only [putT, List.set]
  refine wpL_nil (no_panic ?_)
  refine hK1 _ _ ?_
  refine wp_seq_k (fun K3 hK3 => ?_)
  refine wp_seq_k (fun K4 hK4 => ?_)
  refine wp_region_seq ?_
  refine wpL_move (v := .slice (some ⟨g0, o, none⟩) ps.length cg0) (by rfl) (by rfl) (by rfl) ?_
  simp only [putT, List.set]
  refine wpL_chunk 2 (by rfl) (fun Lk hLk => ?_)
  simp only [List.take, List.drop]
  refine wpV_callf (v := .bool (rightB ps)) (args := #[.slice (some ⟨g0, o, none⟩) ps.length cg0]) (by rfl) rfl Tryd.func42 (by kernel_rfl) (by kernel_rfl) rfl (fun W hW => right_c (ps := ps)  rfl hcg0 ((M.sees hW).oldL Lg0) ((M.sees hW).oldR Rg0_o Lg0)) ?_
  simp only [putT, List.set]
  refine wpV_not (b := rightB ps) (by rfl) rfl rfl ?_
  simp only [putT, List.set]
  refine wpV_nil (hLk _ (fun w6 Sw6 => ?_))
  clear hLk Lk
  simp only [List.take, List.drop]
  replace M := M.sees Sw6
  refine wpL_nil (no_panic ?_)
  refine hK4 _ _ ?_
  cases hc7 : (!(rightB ps))
  · skip
    have hr : rightB ps = true := by simpa using hc7
    have hr2 : ps.length ≤ 4096 ∧ all32 ps = true := by simpa [rightB] using hr
    refine wp_cond_false rfl ?_
    refine wp_skip ?_
    refine hK3 _ _ ?_
    refine wp_seq_k (fun K8 hK8 => ?_)
    refine wp_region_seq ?_
    refine wpL_move (v := .slice (some ⟨g0, o, none⟩) ps.length cg0) (by rfl) (by rfl) (by rfl) ?_
    simp only [putT, List.set]
    refine wpL_chunk 1 (by rfl) (fun Lk hLk => ?_)
    simp only [List.take, List.drop]
    refine wpV_callf (v := .string (bs (rootS ps))) (args := #[.slice (some ⟨g0, o, none⟩) ps.length cg0]) (by rfl) rfl Tryd.func75 (by kernel_rfl) (by kernel_rfl) rfl (fun W hW => root_c _ (ps := ps) rfl hr2.1 (all32_mem hr2.2) ((M.sees hW).oldL L0) ((M.sees hW).oldR R0_0 L0) rfl hcg0 ((M.sees hW).oldL Lg0) ((M.sees hW).oldR Rg0_o Lg0)) ?_
    simp only [putT, List.set]
    refine wpV_nil (hLk _ (fun w10 Sw10 => ?_))
    clear hLk Lk
    simp only [List.take, List.drop]
    replace M := M.sees Sw10
    refine wpL_assign (v := .string (bs (rootS ps))) (by rfl) (by rfl) (by rfl) ?_
    simp only [putT, List.set]
    refine wpL_assign (v := .int .i64 0) (by rfl) (by rfl) (by rfl) ?_
    simp only [putT, List.set]
    refine wpL_nil (no_panic ?_)
    refine hK8 _ _ ?_
    refine wp_ret ?_
    repeat (first | with_reducible refine then_ret ?_ | with_reducible refine inblock_ret ?_)
    refine bodyPost_ret (v := .tuple #[.string (bs (rootS ps)), .int .i64 0]) (res2 rfl (.tmp (by rfl)) (.tmp (by rfl))) rfl ?_
    have BE := M.below
    exact ⟨by rw [hr]; rfl, BE⟩
  · skip
    have hr : rightB ps = false := by simpa using hc7
    refine wp_cond_true rfl ?_
    refine wp_seq_k (fun K11 hK11 => ?_)
    refine wp_region_seq ?_
    refine wpL_assign (v := .string (bs ([]))) (by rfl) (by rfl) (by rfl) ?_
    simp only [putT, List.set]
    refine wpL_assign (v := .int .i64 1) (by rfl) (by rfl) (by rfl) ?_
    simp only [putT, List.set]
    refine wpL_nil (no_panic ?_)
    refine hK11 _ _ ?_
    refine wp_ret ?_
    repeat (first | with_reducible refine then_ret ?_ | with_reducible refine inblock_ret ?_)
    refine bodyPost_ret (v := .tuple #[.string (bs ([])), .int .i64 1]) (res2 rfl (.tmp (by rfl)) (.tmp (by rfl))) rfl ?_
    have BE := M.below
    exact ⟨by rw [hr]; rfl, BE⟩
set_option maxHeartbeats 1000000 in
theorem Root_c0  {w : World} (L0 : 0 < w.heap.size) (R0_0 : w.rangeAt 0 0 kcells) :
    Calls Tryd.prog 37 #[.slice none 0 0] w fun e w' => e = .returned (.tuple #[.string (bs (rootS [])), .int .i64 0]) ∧ Below w.heap.size w w' := by
  go_enter Tryd.func37, Tryd.ntmps37
  have M := Mem.start w
  refine wp_seq_k (fun K1 hK1 => ?_)
  refine wp_region_seq ?_
  refine wpL_assign (v := .string (bs ([]))) (by rfl) (by rfl) (by rfl) ?_
  simp only [putT, List.set]
  refine wpL_assign (v := .int .i64 0) (by rfl) (by rfl) (by rfl) ?_
  simp only [putT, List.set]
  refine wpL_nil (no_panic ?_)
  refine hK1 _ _ ?_
  refine wp_seq_k (fun K3 hK3 => ?_)
  refine wp_seq_k (fun K4 hK4 => ?_)
  refine wp_region_seq ?_
  refine wpL_move (v := .slice none 0 0) (by rfl) (by rfl) (by rfl) ?_
  simp only [putT, List.set]
  refine wpL_chunk 2 (by rfl) (fun Lk hLk => ?_)
  simp only [List.take, List.drop]
  refine wpV_callf (v := .bool true) (args := #[.slice none 0 0]) (by rfl) rfl Tryd.func42 (by kernel_rfl) (by kernel_rfl) rfl (fun W hW => right_c0) ?_
  simp only [putT, List.set]
  refine wpV_not (b := true) (by rfl) rfl rfl ?_
  simp only [Bool.not_true, Bool.not_false]
  simp only [putT, List.set]
  refine wpV_nil (hLk _ (fun w6 Sw6 => ?_))
  clear hLk Lk
  simp only [List.take, List.drop]
  replace M := M.sees Sw6
  refine wpL_nil (no_panic ?_)
  refine hK4 _ _ ?_
  refine wp_cond_false rfl ?_
  refine wp_skip ?_
  refine hK3 _ _ ?_
  refine wp_seq_k (fun K7 hK7 => ?_)
  refine wp_region_seq ?_
  refine wpL_move (v := .slice none 0 0) (by rfl) (by rfl) (by rfl) ?_
  simp only [putT, List.set]
  refine wpL_chunk 1 (by rfl) (fun Lk hLk => ?_)
  simp only [List.take, List.drop]
  refine wpV_callf (v := .string (bs (rootS []))) (args := #[.slice none 0 0]) (by rfl) rfl Tryd.func75 (by kernel_rfl) (by kernel_rfl) rfl (fun W hW => root_c0 ((M.sees hW).oldL L0) ((M.sees hW).oldR R0_0 L0)) ?_
  simp only [putT, List.set]
  refine wpV_nil (hLk _ (fun w9 Sw9 => ?_))
  clear hLk Lk
  simp only [List.take, List.drop]
  replace M := M.sees Sw9
  refine wpL_assign (v := .string (bs (rootS []))) (by rfl) (by rfl) (by rfl) ?_
  simp only [putT, List.set]
  refine wpL_assign (v := .int .i64 0) (by rfl) (by rfl) (by rfl) ?_
  simp only [putT, List.set]
  refine wpL_nil (no_panic ?_)
  refine hK7 _ _ ?_
  refine wp_ret ?_
  repeat (first | with_reducible refine then_ret ?_ | with_reducible refine inblock_ret ?_)
  refine bodyPost_ret (v := .tuple #[.string (bs (rootS [])), .int .i64 0]) (res2 rfl (.tmp (by rfl)) (.tmp (by rfl))) rfl ?_
  have BE := M.below
  exact ⟨rfl, BE⟩
end Go.Proofs.Yb
