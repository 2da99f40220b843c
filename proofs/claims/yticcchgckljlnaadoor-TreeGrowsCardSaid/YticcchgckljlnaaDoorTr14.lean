import Derived.WalkKit
import Derived.WalkSpells
import Derived.Laws.Pointers
import Derived.RowKit3
import Derived.Below
import Derived.Outline
import Derived.LoopN
import Derived.Lib.Hide
import Derived.Handy
import Derived.Laws.Bits64b
import Derived.Test.YticcchgckljlnaaDoorTr7
import Derived.Test.YticcchgckljlnaaDoorTr12
import Derived.Test.YticcchgckljlnaaDoorTrS
set_option linter.unusedSimpArgs false
set_option linter.unusedVariables false
namespace Go.Proofs.Yb
open Go Go.RowKit Go.Proofs.Num
attribute [local irreducible] wpV wpN wpList
theorem part_step {l : List (List UInt8)} {m k : Nat} {Ps : List (List UInt8)} (h0 : 0 < (l.drop m).length) (hk : k = bigN (l.drop m).length) (hP : Ps ++ partsL (l.drop m) = partsL l) : (Ps ++ [rootS ((l.drop m).take k)]) ++ partsL (l.drop (m + k)) = partsL l := by
  rw [← hP, partsL_1 (Nat.ne_of_gt h0), ← hk, List.append_assoc, List.drop_drop]
  rfl
theorem of_right_len {ps : List (List UInt8)} (h : rightB ps = true) : ps.length ≤ 4096 := by
  unfold rightB at h
  rw [Bool.and_eq_true, decide_eq_true_eq] at h
  exact h.1
set_option maxHeartbeats 4000000 in
theorem root_r : ∀ (N : Nat) {ps : List (List UInt8)} {ap : Option Addr} {np cp : Nat} {w : World} (hN : ps.length = N) (h4 : ps.length ≤ 4096) (hs : ∀ s ∈ ps, s.length = 32) (L0 : 0 < w.heap.size) (R0_0 : w.rangeAt 0 0 kcells) (Hp : RowA w ap np cp (scells ps)),
    Calls Tryd.prog 75 #[.slice ap np cp] w fun e w' => e = .returned (.string (bs (rootS ps))) ∧ Below w.heap.size w w' := by
  intro N
  induction N using Nat.strongRecOn with
  | _ N ih =>
    intro ps ap np cp w hN h4 hs L0 R0_0 Hp
    subst hN
    obtain rfl : np = ps.length := by have := Hp.len; rwa [scells_len] at this
    go_enter Tryd.func75, Tryd.ntmps75
    have M := Mem.start w
    refine wp_seq_k (fun K1 hK1 => ?_)
    refine wp_region_seq ?_
    refine wpL_assign (v := .string (bs ([]))) (by rfl) (by rfl) (by rfl) ?_
    simp only [putT, List.set]
    refine wpL_nil (no_panic ?_)
    refine hK1 _ _ ?_
    refine wp_seq_k (fun K3 hK3 => ?_)
    refine wp_seq_k (fun K4 hK4 => ?_)
    refine wp_region_seq ?_
    refine wpL_move (v := .slice ap ps.length cp) (by rfl) (by rfl) (by rfl) ?_
    simp only [putT, List.set]
    refine wpL_chunk 1 (by rfl) (fun Lk hLk => ?_)
    simp only [List.take, List.drop]
    refine wpV_lenA (n := ps.length) (by rfl) rfl rfl rfl Tryd.underlying48 ?_
    simp only [putT, List.set]
    refine wpV_nil (hLk _ (fun w6 Sw6 => ?_))
    clear hLk Lk
    simp only [List.take, List.drop]
    replace M := M.sees Sw6
    refine wpL_nil (no_panic ?_)
    refine hK4 _ _ ?_
    refine wp_block ?_
    refine wp_seq_k (fun K7 hK7 => ?_)
    refine wp_region_seq ?_
    refine wpL_chunk 1 (by rfl) (fun Lk hLk => ?_)
    simp only [List.take, List.drop]
    refine wpV_bin (v := .bool (decide (ps.length = 0))) (by rfl) rfl rfl rfl (fun W => run_eqlN ps.length 0 _ _ W) ?_
    simp only [putT, List.set]
    refine wpV_nil (hLk _ (fun w9 Sw9 => ?_))
    clear hLk Lk
    simp only [List.take, List.drop]
    replace M := M.sees Sw9
    refine wpL_assign (v := .bool (decide (ps.length = 0))) (by rfl) (by rfl) (by rfl) ?_
    simp only [putT, List.set]
    refine wpL_nil (no_panic ?_)
    refine hK7 _ _ ?_
    cases hc10 : (decide (ps.length = 0))
    · skip
      have hn0 : ¬ ps.length = 0 := of_decide_eq_false hc10
      refine wp_cond_false rfl ?_
      refine wp_seq_k (fun K11 hK11 => ?_)
      refine wp_region_seq ?_
      refine wpL_chunk 1 (by rfl) (fun Lk hLk => ?_)
      simp only [List.take, List.drop]
      refine wpV_bin (v := .bool (decide (ps.length = 1))) (by rfl) rfl rfl rfl (fun W => run_eqlN ps.length 1 _ _ W) ?_
      simp only [putT, List.set]
      refine wpV_nil (hLk _ (fun w13 Sw13 => ?_))
      clear hLk Lk
      simp only [List.take, List.drop]
      replace M := M.sees Sw13
      refine wpL_assign (v := .bool (decide (ps.length = 1))) (by rfl) (by rfl) (by rfl) ?_
      simp only [putT, List.set]
      refine wpL_nil (no_panic ?_)
      refine hK11 _ _ ?_
      cases hc14 : (decide (ps.length = 1))
      · skip
        have hn1 : ¬ ps.length = 1 := of_decide_eq_false hc14
        have h2 : 2 ≤ ps.length := by omega
        obtain ⟨sb1, sb2, sb3⟩ := split_bits (n := ps.length) (by omega) h2
        have hsl := splitN_lt h2
        have hsp := splitN_pos ps.length
        refine wp_cond_false rfl ?_
        refine wp_skip ?_
        refine hK3 _ _ ?_
        refine wp_seq_k (fun K15 hK15 => ?_)
        refine wp_region_seq ?_
        refine wpL_move (v := .slice ap ps.length cp) (by rfl) (by rfl) (by rfl) ?_
        simp only [putT, List.set]
        refine wpL_chunk 6 (by rfl) (fun Lk hLk => ?_)
        simp only [List.take, List.drop]
        refine wpV_lenA (n := ps.length) (by rfl) rfl rfl rfl Tryd.underlying48 ?_
        simp only [putT, List.set]
        refine wpV_bin (v := .int .i64 ((ps.length - 1 : Nat) : Int)) (by rfl) rfl rfl rfl (fun W => run_sub (by simp only [IntKind.wrap_i64]; omega) W) ?_
        simp only [putT, List.set]
        refine wpV_conv (d := .bool) (e := ((ps.length - 1 : Nat) : Int)) (by rfl) rfl rfl (run_conv_int Tryd.underlying3 Tryd.underlying116 ((wrap64N _).trans (congrArg _ (Nat.mod_eq_of_lt (by omega))))) ?_
        simp only [putT, List.set]
        refine wpV_callf (v := .int .i64 ((Lib.bitLen (ps.length - 1) : Nat) : Int)) (args := #[.int .u64 ((ps.length - 1 : Nat) : Int)]) (by rfl) rfl Tryd.func95 (by kernel_rfl) (by kernel_rfl) rfl (fun W hW => (((Tryd.bits_Len ((ps.length - 1 : Nat) : Int) W (by omega) (by omega)).mono fun e w' h => ⟨h.1, h.2 ▸ Below.refl _ _⟩))) ?_
        simp only [putT, List.set]
        refine wpV_bin (v := .int .i64 (((Lib.bitLen (ps.length - 1)) - 1 : Nat) : Int)) (by rfl) rfl rfl rfl (fun W => run_sub (by simp only [IntKind.wrap_i64]; omega) W) ?_
        simp only [putT, List.set]
        refine wpV_bin (v := .int .i64 ((splitN ps.length : Nat) : Int)) (by rfl) rfl rfl rfl (fun W => run_shl (m := 1) (n := Lib.bitLen (ps.length - 1) - 1) (by show _ ≤ 64; omega) (by rw [Nat.one_mul, sb3]; simp only [IntKind.wrap_i64]; omega) W) ?_
        simp only [putT, List.set]
        refine wpV_nil (hLk _ (fun w17 Sw17 => ?_))
        clear hLk Lk
        simp only [List.take, List.drop]
        replace M := M.sees Sw17
        refine wpL_assign (v := .int .i64 ((splitN ps.length : Nat) : Int)) (by rfl) (by rfl) (by rfl) ?_
        simp only [putT, List.set]
        refine wpL_nil (no_panic ?_)
        refine hK15 _ _ ?_
        refine wp_seq_k (fun K18 hK18 => ?_)
        refine wp_region_grow 9 [] (by kernel_rfl) (by kernel_rfl) (by kernel_rfl) (fun Lk hLk => ?_)
        simp only [List.take, List.drop]
        refine wpV_move (v := .slice ap ps.length cp) (by rfl) rfl rfl ?_
        simp only [putT, List.set]
        refine wpV_move (v := .int .i64 ((splitN ps.length : Nat) : Int)) (by rfl) rfl rfl ?_
        simp only [putT, List.set]
        refine wpV_slcH (hi := splitN ps.length) (by rfl) rfl rfl rfl Tryd.underlying48 info9 (Nat.le_trans (Nat.le_of_lt hsl) (M.oldA Hp).cap) ?_
        simp only [putT, List.set]
        refine wpV_callf (v := .string (bs (rootS (ps.take (splitN ps.length))))) (args := #[.slice ap (splitN ps.length) cp]) (by rfl) rfl Tryd.func75 (by kernel_rfl) (by kernel_rfl) rfl (fun W hW => ih (ps.take (splitN ps.length)).length (by rw [List.length_take]; omega) (ps := ps.take (splitN ps.length)) rfl (by rw [List.length_take]; omega) (fun s9 h9 => hs s9 (List.mem_of_mem_take h9)) ((M.sees hW).oldL L0) ((M.sees hW).oldR R0_0 L0) ((((M.sees hW).oldA Hp).take (Nat.le_of_lt hsl)).eq (scells_take2 _ _))) ?_
        simp only [putT, List.set]
        refine wpV_move (v := .slice ap ps.length cp) (by rfl) rfl rfl ?_
        simp only [putT, List.set]
        refine wpV_move (v := .int .i64 ((splitN ps.length : Nat) : Int)) (by rfl) rfl rfl ?_
        simp only [putT, List.set]
        refine wpV_slcL (lo := splitN ps.length) (by rfl) rfl rfl rfl Tryd.underlying48 info9 (Nat.le_of_lt hsl) ?_
        simp only [putT, List.set]
        refine wpV_callf (v := .string (bs (rootS (ps.drop (splitN ps.length))))) (args := #[.slice (slA ap (splitN ps.length) cp) (ps.length - (splitN ps.length)) (cp - (splitN ps.length))]) (by rfl) rfl Tryd.func75 (by kernel_rfl) (by kernel_rfl) rfl (fun W hW => ih (ps.drop (splitN ps.length)).length (by rw [List.length_drop]; omega) (ps := ps.drop (splitN ps.length)) rfl (by rw [List.length_drop]; omega) (fun s9 h9 => hs s9 (List.mem_of_mem_drop h9)) ((M.sees hW).oldL L0) ((M.sees hW).oldR R0_0 L0) ((((M.sees hW).oldA Hp).drop (Nat.le_of_lt hsl)).eq (scells_drop2 _ _))) ?_
        simp only [putT, List.set]
        refine wpV_callf (v := .string (bs (nodeS (rootS (ps.take (splitN ps.length))) (rootS (ps.drop (splitN ps.length)))))) (args := #[.string (bs (rootS (ps.take (splitN ps.length)))), .string (bs (rootS (ps.drop (splitN ps.length))))]) (by rfl) rfl Tryd.func40 (by kernel_rfl) (by kernel_rfl) rfl (fun W hW => node_c (a := rootS (ps.take (splitN ps.length))) (b := rootS (ps.drop (splitN ps.length))) (by rw [rootS_len (fun s9 h9 => hs s9 (List.mem_of_mem_take h9))]; decide) (by rw [rootS_len (fun s9 h9 => hs s9 (List.mem_of_mem_drop h9))]; decide) ((M.sees hW).oldL L0) ((M.sees hW).oldR R0_0 L0)) ?_
        simp only [putT, List.set]
        refine wpV_nil (hLk.out _ ?_)
        clear hLk Lk
        simp only [List.take, List.drop]
        iterate 9 refine wpN_skip (by rfl) ?_
        refine wpN_nil (fun w20 Sw20 hbs => ?_)
        clear hbs
        replace M := M.sees Sw20
        refine wpL_assign (v := .string (bs (nodeS (rootS (ps.take (splitN ps.length))) (rootS (ps.drop (splitN ps.length)))))) (by rfl) (by rfl) (by rfl) ?_
        simp only [putT, List.set]
        refine wpL_nil (no_panic ?_)
        refine hK18 _ _ ?_
        refine wp_ret ?_
        repeat (first | with_reducible refine then_ret ?_ | with_reducible refine inblock_ret ?_)
        refine bodyPost_ret (v := .string (bs (nodeS (rootS (ps.take (splitN ps.length))) (rootS (ps.drop (splitN ps.length)))))) (res1 rfl (.tmp (by rfl))) rfl ?_
        have BE := M.below
        exact ⟨by rw [rootS_2 h2], BE⟩
      · skip
        have hn1 : ps.length = 1 := of_decide_eq_true hc14
        refine wp_cond_true rfl ?_
        refine wp_seq_k (fun K21 hK21 => ?_)
        refine wp_region_seq ?_
        refine wpL_move (v := .slice ap ps.length cp) (by rfl) (by rfl) (by rfl) ?_
        simp only [putT, List.set]
        refine wpL_chunk 2 (by rfl) (fun Lk hLk => ?_)
        simp only [List.take, List.drop]
        refine wpV_idxA (i := 0) (by rfl) rfl rfl rfl Tryd.underlying48 info9 (M.oldA Hp) (by omega) ?_
        simp only [putT, List.set]
        refine wpV_loadA (i := 0) (v := .string (bs (ps.getD 0 []))) (by rfl) rfl rfl (M.oldA Hp) (scells_get (ps := ps) (by omega)) Tryd.underlying9 rfl ?_
        simp only [putT, List.set]
        refine wpV_nil (hLk _ (fun w23 Sw23 => ?_))
        clear hLk Lk
        simp only [List.take, List.drop]
        replace M := M.sees Sw23
        refine wpL_assign (v := .string (bs (ps.getD 0 []))) (by rfl) (by rfl) (by rfl) ?_
        simp only [putT, List.set]
        refine wpL_nil (no_panic ?_)
        refine hK21 _ _ ?_
        refine wp_ret ?_
        repeat (first | with_reducible refine then_ret ?_ | with_reducible refine inblock_ret ?_)
        refine bodyPost_ret (v := .string (bs (ps.getD 0 []))) (res1 rfl (.tmp (by rfl))) rfl ?_
        have BE := M.below
        exact ⟨by rw [rootS_1 hn1], BE⟩
    · skip
      have hn0 : ps.length = 0 := of_decide_eq_true hc10
      refine wp_cond_true rfl ?_
      refine wp_seq_k (fun K24 hK24 => ?_)
      refine wp_region_seq ?_
      refine wpL_chunk 1 (by rfl) (fun Lk hLk => ?_)
      simp only [List.take, List.drop]
      refine wpV_callf (v := .string (bs (sha []))) (args := #[(.slice none 0 0)]) (by rfl) rfl Tryd.func20 (by kernel_rfl) (by kernel_rfl) rfl (fun W hW => sum0_c ((M.sees hW).oldL L0) ((M.sees hW).oldR R0_0 L0)) ?_
      simp only [putT, List.set]
      refine wpV_nil (hLk _ (fun w26 Sw26 => ?_))
      clear hLk Lk
      simp only [List.take, List.drop]
      replace M := M.sees Sw26
      refine wpL_assign (v := .string (bs (sha []))) (by rfl) (by rfl) (by rfl) ?_
      simp only [putT, List.set]
      refine wpL_nil (no_panic ?_)
      refine hK24 _ _ ?_
      refine wp_ret ?_
      repeat (first | with_reducible refine then_ret ?_ | with_reducible refine inblock_ret ?_)
      refine bodyPost_ret (v := .string (bs (sha []))) (res1 rfl (.tmp (by rfl))) rfl ?_
      have BE := M.below
      exact ⟨by rw [rootS_0 hn0], BE⟩
set_option maxHeartbeats 1000000 in
theorem Root_r {ps : List (List UInt8)} {ap : Option Addr} {np cp : Nat} {w : World} (hok : rightB ps = true) (L0 : 0 < w.heap.size) (R0_0 : w.rangeAt 0 0 kcells) (Hp : RowA w ap np cp (scells ps)) :
    Calls Tryd.prog 37 #[.slice ap np cp] w fun e w' => e = .returned (.tuple #[.string (bs (rootS ps)), .int .i64 0]) ∧ Below w.heap.size w w' := by
  obtain rfl : np = ps.length := by have := Hp.len; rwa [scells_len] at this
  go_enter Tryd.func37, Tryd.ntmps37
  have M := Mem.start w
  refine wp_seq_k (fun K1 hK1 => ?_)
  refine wp_region_seq ?_
  refine wpL_assign (v := .string (bs ([]))) (by rfl) (by rfl) (by rfl) ?_
  simp only [putT, List.set]
  refine wpL_assign (v := .int .i64 0) (by rfl) (by rfl) (by rfl) ?_
  simp only [putT, List.set]
  refine wpL_nil (no_panic ?_)
  refine hK1 _ _ ?_
  refine wp_seq_k (fun K3 hK3 => ?_)
  refine wp_seq_k (fun K4 hK4 => ?_)
  refine wp_region_seq ?_
  refine wpL_move (v := .slice ap ps.length cp) (by rfl) (by rfl) (by rfl) ?_
  simp only [putT, List.set]
  refine wpL_chunk 2 (by rfl) (fun Lk hLk => ?_)
  simp only [List.take, List.drop]
  refine wpV_callf (v := .bool true) (args := #[.slice ap ps.length cp]) (by rfl) rfl Tryd.func42 (by kernel_rfl) (by kernel_rfl) rfl (fun W hW => by have h9 : Calls Tryd.prog _ _ W _ := right_r (ps := ps)  ((M.sees hW).oldA Hp); rw [hok] at h9; exact h9) ?_
  simp only [putT, List.set]
  refine wpV_not (b := true) (by rfl) rfl rfl ?_
  simp only [Bool.not_true, Bool.not_false]
  simp only [putT, List.set]
  refine wpV_nil (hLk _ (fun w6 Sw6 => ?_))
  clear hLk Lk
  simp only [List.take, List.drop]
  replace M := M.sees Sw6
  refine wpL_nil (no_panic ?_)
  refine hK4 _ _ ?_
  refine wp_cond_false rfl ?_
  refine wp_skip ?_
  refine hK3 _ _ ?_
  refine wp_seq_k (fun K7 hK7 => ?_)
  refine wp_region_seq ?_
  refine wpL_move (v := .slice ap ps.length cp) (by rfl) (by rfl) (by rfl) ?_
  simp only [putT, List.set]
  refine wpL_chunk 1 (by rfl) (fun Lk hLk => ?_)
  simp only [List.take, List.drop]
  refine wpV_callf (v := .string (bs (rootS ps))) (args := #[.slice ap ps.length cp]) (by rfl) rfl Tryd.func75 (by kernel_rfl) (by kernel_rfl) rfl (fun W hW => by with_reducible exact root_r _ (ps := ps) rfl (of_right_len hok) (all32_mem (of_right hok)) ((M.sees hW).oldL L0) ((M.sees hW).oldR R0_0 L0) ((M.sees hW).oldA Hp)) ?_
  simp only [putT, List.set]
  refine wpV_nil (hLk _ (fun w9 Sw9 => ?_))
  clear hLk Lk
  simp only [List.take, List.drop]
  replace M := M.sees Sw9
  refine wpL_assign (v := .string (bs (rootS ps))) (by rfl) (by rfl) (by rfl) ?_
  simp only [putT, List.set]
  refine wpL_assign (v := .int .i64 0) (by rfl) (by rfl) (by rfl) ?_
  simp only [putT, List.set]
  refine wpL_nil (no_panic ?_)
  refine hK7 _ _ ?_
  refine wp_ret ?_
  repeat (first | with_reducible refine then_ret ?_ | with_reducible refine inblock_ret ?_)
  refine bodyPost_ret (v := .tuple #[.string (bs (rootS ps)), .int .i64 0]) (res2 rfl (.tmp (by rfl)) (.tmp (by rfl))) rfl ?_
  have BE := M.below
  exact ⟨rfl, BE⟩
set_option maxHeartbeats 4000000 in
theorem rroot_r : ∀ (N : Nat) {ps : List (List UInt8)} {ap : Option Addr} {np cp : Nat} {w : World} (hN : ps.length = N) (h4 : ps.length ≤ 4096) (hs : ∀ s ∈ ps, s.length = 32)  (Hp : RowA w ap np cp (scells ps)),
    Calls Tryd.prog 45 #[.slice ap np cp] w fun e w' => e = .returned (.string (bs (rootS ps))) ∧ Below w.heap.size w w' := by
  intro N
  induction N using Nat.strongRecOn with
  | _ N ih =>
    intro ps ap np cp w hN h4 hs Hp
    subst hN
    obtain rfl : np = ps.length := by have := Hp.len; rwa [scells_len] at this
    go_enter Tryd.func45, Tryd.ntmps45
    have M := Mem.start w
    refine wp_seq_k (fun K1 hK1 => ?_)
    refine wp_region_seq ?_
    refine wpL_assign (v := .string (bs ([]))) (by rfl) (by rfl) (by rfl) ?_
    simp only [putT, List.set]
    refine wpL_nil (no_panic ?_)
    refine hK1 _ _ ?_
    refine wp_seq_k (fun K3 hK3 => ?_)
    refine wp_seq_k (fun K4 hK4 => ?_)
    refine wp_region_seq ?_
    refine wpL_move (v := .slice ap ps.length cp) (by rfl) (by rfl) (by rfl) ?_
    simp only [putT, List.set]
    refine wpL_chunk 2 (by rfl) (fun Lk hLk => ?_)
    simp only [List.take, List.drop]
    refine wpV_lenA (n := ps.length) (by rfl) rfl rfl rfl Tryd.underlying48 ?_
    simp only [putT, List.set]
    refine wpV_bin (v := .bool (decide (ps.length = 0))) (by rfl) rfl rfl rfl (fun W => run_eqlN ps.length 0 _ _ W) ?_
    simp only [putT, List.set]
    refine wpV_nil (hLk _ (fun w6 Sw6 => ?_))
    clear hLk Lk
    simp only [List.take, List.drop]
    replace M := M.sees Sw6
    refine wpL_nil (no_panic ?_)
    refine hK4 _ _ ?_
    cases hc7 : (decide (ps.length = 0))
    · skip
      have hn0 : ¬ ps.length = 0 := of_decide_eq_false hc7
      refine wp_cond_false rfl ?_
      refine wp_skip ?_
      refine hK3 _ _ ?_
      refine wp_seq_k (fun K8 hK8 => ?_)
      refine wp_seq_k (fun K9 hK9 => ?_)
      refine wp_region_seq ?_
      refine wpL_move (v := .slice ap ps.length cp) (by rfl) (by rfl) (by rfl) ?_
      simp only [putT, List.set]
      refine wpL_chunk 2 (by rfl) (fun Lk hLk => ?_)
      simp only [List.take, List.drop]
      refine wpV_lenA (n := ps.length) (by rfl) rfl rfl rfl Tryd.underlying48 ?_
      simp only [putT, List.set]
      refine wpV_bin (v := .bool (decide (ps.length = 1))) (by rfl) rfl rfl rfl (fun W => run_eqlN ps.length 1 _ _ W) ?_
      simp only [putT, List.set]
      refine wpV_nil (hLk _ (fun w11 Sw11 => ?_))
      clear hLk Lk
      simp only [List.take, List.drop]
      replace M := M.sees Sw11
      refine wpL_nil (no_panic ?_)
      refine hK9 _ _ ?_
      cases hc12 : (decide (ps.length = 1))
      · skip
        have hn1 : ¬ ps.length = 1 := of_decide_eq_false hc12
        have h2 : 2 ≤ ps.length := by omega
        obtain ⟨sb1, sb2, sb3⟩ := split_bits (n := ps.length) (by omega) h2
        have hsl := splitN_lt h2
        have hsp := splitN_pos ps.length
        refine wp_cond_false rfl ?_
        refine wp_skip ?_
        refine hK8 _ _ ?_
        refine wp_seq_k (fun K13 hK13 => ?_)
        refine wp_region_seq ?_
        refine wpL_move (v := .slice ap ps.length cp) (by rfl) (by rfl) (by rfl) ?_
        simp only [putT, List.set]
        refine wpL_chunk 2 (by rfl) (fun Lk hLk => ?_)
        simp only [List.take, List.drop]
        refine wpV_lenA (n := ps.length) (by rfl) rfl rfl rfl Tryd.underlying48 ?_
        simp only [putT, List.set]
        refine wpV_callf (v := .int .i64 ((splitN ps.length : Nat) : Int)) (args := #[.int .i64 ((ps.length : Nat) : Int)]) (by rfl) rfl Tryd.func54 (by kernel_rfl) (by kernel_rfl) rfl (fun W hW => rsplit_c (n := ps.length) h2 (by omega)) ?_
        simp only [putT, List.set]
        refine wpV_nil (hLk _ (fun w15 Sw15 => ?_))
        clear hLk Lk
        simp only [List.take, List.drop]
        replace M := M.sees Sw15
        refine wpL_assign (v := .int .i64 ((splitN ps.length : Nat) : Int)) (by rfl) (by rfl) (by rfl) ?_
        simp only [putT, List.set]
        refine wpL_nil (no_panic ?_)
        refine hK13 _ _ ?_
        refine wp_seq_k (fun K16 hK16 => ?_)
        refine wp_region_grow 9 [] (by kernel_rfl) (by kernel_rfl) (by kernel_rfl) (fun Lk hLk => ?_)
        simp only [List.take, List.drop]
        refine wpV_move (v := .slice ap ps.length cp) (by rfl) rfl rfl ?_
        simp only [putT, List.set]
        refine wpV_move (v := .int .i64 ((splitN ps.length : Nat) : Int)) (by rfl) rfl rfl ?_
        simp only [putT, List.set]
        refine wpV_slcH (hi := splitN ps.length) (by rfl) rfl rfl rfl Tryd.underlying48 info9 (Nat.le_trans (Nat.le_of_lt hsl) (M.oldA Hp).cap) ?_
        simp only [putT, List.set]
        refine wpV_callf (v := .string (bs (rootS (ps.take (splitN ps.length))))) (args := #[.slice ap (splitN ps.length) cp]) (by rfl) rfl Tryd.func45 (by kernel_rfl) (by kernel_rfl) rfl (fun W hW => ih (ps.take (splitN ps.length)).length (by rw [List.length_take]; omega) (ps := ps.take (splitN ps.length)) rfl (by rw [List.length_take]; omega) (fun s9 h9 => hs s9 (List.mem_of_mem_take h9))  ((((M.sees hW).oldA Hp).take (Nat.le_of_lt hsl)).eq (scells_take2 _ _))) ?_
        simp only [putT, List.set]
        refine wpV_move (v := .slice ap ps.length cp) (by rfl) rfl rfl ?_
        simp only [putT, List.set]
        refine wpV_move (v := .int .i64 ((splitN ps.length : Nat) : Int)) (by rfl) rfl rfl ?_
        simp only [putT, List.set]
        refine wpV_slcL (lo := splitN ps.length) (by rfl) rfl rfl rfl Tryd.underlying48 info9 (Nat.le_of_lt hsl) ?_
        simp only [putT, List.set]
        refine wpV_callf (v := .string (bs (rootS (ps.drop (splitN ps.length))))) (args := #[.slice (slA ap (splitN ps.length) cp) (ps.length - (splitN ps.length)) (cp - (splitN ps.length))]) (by rfl) rfl Tryd.func45 (by kernel_rfl) (by kernel_rfl) rfl (fun W hW => ih (ps.drop (splitN ps.length)).length (by rw [List.length_drop]; omega) (ps := ps.drop (splitN ps.length)) rfl (by rw [List.length_drop]; omega) (fun s9 h9 => hs s9 (List.mem_of_mem_drop h9))  ((((M.sees hW).oldA Hp).drop (Nat.le_of_lt hsl)).eq (scells_drop2 _ _))) ?_
        simp only [putT, List.set]
        refine wpV_callf (v := .string (bs (nodeS (rootS (ps.take (splitN ps.length))) (rootS (ps.drop (splitN ps.length)))))) (args := #[.string (bs (rootS (ps.take (splitN ps.length)))), .string (bs (rootS (ps.drop (splitN ps.length))))]) (by rfl) rfl Tryd.func41 (by kernel_rfl) (by kernel_rfl) rfl (fun W hW => rnode_c (a := rootS (ps.take (splitN ps.length))) (b := rootS (ps.drop (splitN ps.length))) (by rw [rootS_len (fun s9 h9 => hs s9 (List.mem_of_mem_take h9))]; decide) (by rw [rootS_len (fun s9 h9 => hs s9 (List.mem_of_mem_drop h9))]; decide)) ?_
        simp only [putT, List.set]
        refine wpV_nil (hLk.out _ ?_)
        clear hLk Lk
        simp only [List.take, List.drop]
        iterate 9 refine wpN_skip (by rfl) ?_
        refine wpN_nil (fun w18 Sw18 hbs => ?_)
        clear hbs
        replace M := M.sees Sw18
        refine wpL_assign (v := .string (bs (nodeS (rootS (ps.take (splitN ps.length))) (rootS (ps.drop (splitN ps.length)))))) (by rfl) (by rfl) (by rfl) ?_
        simp only [putT, List.set]
        refine wpL_nil (no_panic ?_)
        refine hK16 _ _ ?_
        refine wp_ret ?_
        repeat (first | with_reducible refine then_ret ?_ | with_reducible refine inblock_ret ?_)
        refine bodyPost_ret (v := .string (bs (nodeS (rootS (ps.take (splitN ps.length))) (rootS (ps.drop (splitN ps.length)))))) (res1 rfl (.tmp (by rfl))) rfl ?_
        have BE := M.below
        exact ⟨by rw [rootS_2 h2], BE⟩
      · skip
        have hn1 : ps.length = 1 := of_decide_eq_true hc12
        refine wp_cond_true rfl ?_
        refine wp_seq_k (fun K19 hK19 => ?_)
        refine wp_region_seq ?_
        refine wpL_move (v := .slice ap ps.length cp) (by rfl) (by rfl) (by rfl) ?_
        simp only [putT, List.set]
        refine wpL_chunk 2 (by rfl) (fun Lk hLk => ?_)
        simp only [List.take, List.drop]
        refine wpV_idxA (i := 0) (by rfl) rfl rfl rfl Tryd.underlying48 info9 (M.oldA Hp) (by omega) ?_
        simp only [putT, List.set]
        refine wpV_loadA (i := 0) (v := .string (bs (ps.getD 0 []))) (by rfl) rfl rfl (M.oldA Hp) (scells_get (ps := ps) (by omega)) Tryd.underlying9 rfl ?_
        simp only [putT, List.set]
        refine wpV_nil (hLk _ (fun w21 Sw21 => ?_))
        clear hLk Lk
        simp only [List.take, List.drop]
        replace M := M.sees Sw21
        refine wpL_assign (v := .string (bs (ps.getD 0 []))) (by rfl) (by rfl) (by rfl) ?_
        simp only [putT, List.set]
        refine wpL_nil (no_panic ?_)
        refine hK19 _ _ ?_
        refine wp_ret ?_
        repeat (first | with_reducible refine then_ret ?_ | with_reducible refine inblock_ret ?_)
        refine bodyPost_ret (v := .string (bs (ps.getD 0 []))) (res1 rfl (.tmp (by rfl))) rfl ?_
        have BE := M.below
        exact ⟨by rw [rootS_1 hn1], BE⟩
    · skip
      have hn0 : ps.length = 0 := of_decide_eq_true hc7
      refine wp_cond_true rfl ?_
      refine wp_seq_k (fun K22 hK22 => ?_)
      refine wp_region_seq ?_
      refine wpL_chunk 1 (by rfl) (fun Lk hLk => ?_)
      simp only [List.take, List.drop]
      refine wpV_callf (v := .string (bs (sha ([])))) (args := #[.string (bs ([]))]) (by rfl) rfl Tryd.func21 (by kernel_rfl) (by kernel_rfl) rfl (fun W hW => rsum_c (l := []) (by decide)) ?_
      simp only [putT, List.set]
      refine wpV_nil (hLk _ (fun w24 Sw24 => ?_))
      clear hLk Lk
      simp only [List.take, List.drop]
      replace M := M.sees Sw24
      refine wpL_assign (v := .string (bs (sha ([])))) (by rfl) (by rfl) (by rfl) ?_
      simp only [putT, List.set]
      refine wpL_nil (no_panic ?_)
      refine hK22 _ _ ?_
      refine wp_ret ?_
      repeat (first | with_reducible refine then_ret ?_ | with_reducible refine inblock_ret ?_)
      refine bodyPost_ret (v := .string (bs (sha ([])))) (res1 rfl (.tmp (by rfl))) rfl ?_
      have BE := M.below
      exact ⟨by rw [rootS_0 hn0], BE⟩
set_option maxHeartbeats 4000000 in
theorem rparts_c {l : List (List UInt8)} {ap : Option Addr} {np cp : Nat} {w : World} (h4 : l.length ≤ 4096) (h32 : ∀ s ∈ l, s.length = 32) (Hp : RowA w ap np cp (scells l)) :
    Calls Tryd.prog 64 #[.slice ap np cp] w fun e w' => ∃ v, e = .returned v ∧ MemRow w ((partsL l).length) (scells (partsL l)) v w' ∧ Below w.heap.size w w' := by
  obtain rfl : np = l.length := by have := Hp.len; rwa [scells_len] at this
  go_enter Tryd.func64, Tryd.ntmps64
  have M := Mem.start w
  refine wp_seq_k (fun K1 hK1 => ?_)
  refine wp_region_seq ?_
  refine wpL_assign (v := (.slice none 0 0)) (by rfl) (by rfl) (by rfl) ?_
  simp only [putT, List.set]
  refine wpL_nil (no_panic ?_)
  refine hK1 _ _ ?_
  refine wp_seq_k (fun K3 hK3 => ?_)
  refine wp_region_seq ?_
  refine wpL_row0 (by rfl) (by rfl) Tryd.underlying48 info9 (fun g5 w6 Sw6 Hg5 Bg5 => ?_)
  replace M := ((M.sees Sw6).add (N := 0) (cs := scells []) (M.ge Hg5) (M.fresh Hg5) Bg5 rfl)
  clear Bg5
  simp only [putT, List.set]
  refine wpL_assign (v := .slice (some ⟨g5, 0, none⟩) 0 0) (by rfl) (by rfl) (by rfl) ?_
  simp only [putT, List.set]
  refine wpL_nil (no_panic ?_)
  refine hK3 _ _ ?_
  refine wp_seq_k (fun K7 hK7 => ?_)
  refine wp_block ?_
  refine wp_loop_ghost (fun n9 a9 W9 => ∃ (m : Nat) (q : Nat) (Ps : List (List UInt8)) (o : Nat) (oc : Nat) (ar : Option Addr) (nr : Nat) (cr : Nat) (u8 : Nat → Value), n9 = 2 * (l.length - m) ∧ a9 = { tmps := #[.slice ar nr cr, undef, (.slice none 0 0), .slice (some ⟨o, 0, none⟩) q oc, u8 4, .slice (some ⟨g5, 0, none⟩) 0 0, u8 6, u8 7, u8 8, u8 9, u8 10, u8 11, u8 12, u8 13, u8 14, u8 15, u8 16, u8 17, u8 18, u8 19, u8 20, u8 21, u8 22, u8 23, u8 24, u8 25, undef], defers := [] } ∧ Mem [] w W9 [⟨o, oc, [(0, scells Ps)]⟩] ∧ q ≤ oc ∧ (m ≤ l.length) ∧ (Ps ++ partsL (l.drop m) = partsL l) ∧ (Ps.length = q) ∧ (q ≤ m) ∧ RowN [o] W9 ar nr cr (scells (l.drop m))) (2 * (l.length - (0))) ?_ (fun n9 a9 W9 hI => ?_)
  · exact ⟨0, 0, ([]), g5, 0, ap, l.length, cp, (fun q9 => (#[undef, undef, undef, undef, undef, undef, undef, undef, undef, undef, undef, undef, undef, undef, undef, undef, undef, undef, undef, undef, undef, undef, undef, undef, undef, undef] : Array Value).getD q9 undef), rfl, rfl, M, (Nat.le_refl _), (Nat.zero_le _), rfl, rfl, (Nat.le_refl _), ((M.notins Hp).sub (show ∀ x ∈ [g5], x ∈ [g5] from (by intro x hx; simp only [List.mem_cons, List.not_mem_nil, or_false] at hx ⊢; omega)))⟩
  clear M
  obtain ⟨m, q, Ps, o, oc, ar, nr, cr, u8, rfl, rfl, M, Co, hm, hP, hPl, hq, Hr⟩ := hI
  obtain ⟨w9, rfl⟩ : ∃ W8, W8 = W9 := ⟨_, rfl⟩
  have Mx10 := M
  replace Hp := Mx10.notins Hp
  simp only [List.map_cons, List.map_nil] at Hp
  replace M : Mem [o] w9 w9 [⟨o, oc, [(0, scells Ps)]⟩] := Mx10.again
  obtain rfl : nr = (l.drop m).length := by have h9 := Hr.row.len; rwa [scells_len] at h9
  have hdl : (l.drop m).length = l.length - m := List.length_drop
  refine wp_seq_k (fun K11 hK11 => ?_)
  refine wp_seq_k (fun K12 hK12 => ?_)
  refine wp_region_seq ?_
  refine wpL_move (v := .slice ar ((l.drop m).length) cr) (by rfl) (by rfl) (by rfl) ?_
  simp only [putT, List.set]
  refine wpL_chunk 2 (by rfl) (fun Lk hLk => ?_)
  simp only [List.take, List.drop]
  refine wpV_lenA (n := (l.drop m).length) (by rfl) rfl rfl rfl Tryd.underlying48 ?_
  simp only [putT, List.set]
  refine wpV_bin (v := .bool (decide (0 < (l.drop m).length))) (by rfl) rfl rfl rfl (fun W => run_gtrN ((l.drop m).length) 0 _ _ W) ?_
  simp only [putT, List.set]
  refine wpV_nil (hLk _ (fun w14 Sw14 => ?_))
  clear hLk Lk
  simp only [List.take, List.drop]
  replace M := M.sees Sw14
  refine wpL_nil (no_panic ?_)
  refine hK12 _ _ ?_
  cases hc15 : (decide (0 < (l.drop m).length))
  · skip
    have hk0 : ¬ 0 < (l.drop m).length := of_decide_eq_false hc15
    obtain rfl : Ps = partsL l := by rw [List.length_eq_zero_iff.1 (Nat.eq_zero_of_not_pos hk0), partsL_0, List.append_nil] at hP; exact hP
    subst hPl
    refine wp_cond_false rfl ?_
    refine wp_exit ?_
    refine hK7 _ _ ?_
    refine wp_seq_k (fun K16 hK16 => ?_)
    refine wp_region_seq ?_
    refine wpL_move (v := .slice (some ⟨o, 0, none⟩) ((partsL l).length) oc) (by rfl) (by rfl) (by rfl) ?_
    simp only [putT, List.set]
    refine wpL_assign (v := .slice (some ⟨o, 0, none⟩) ((partsL l).length) oc) (by rfl) (by rfl) (by rfl) ?_
    simp only [putT, List.set]
    refine wpL_nil (no_panic ?_)
    refine hK16 _ _ ?_
    refine wp_ret ?_
    repeat (first | with_reducible refine then_ret ?_ | with_reducible refine inblock_ret ?_)
    replace M := Mx10.comp M
    refine bodyPost_ret (v := .slice (some ⟨o, 0, none⟩) ((partsL l).length) oc) (res1 rfl (.tmp (by rfl))) rfl ?_
    have BE := M.below
    exact ⟨_, rfl, ⟨o, oc, rfl, Co, M.pick [0] (by decide) rfl⟩, BE⟩
  · skip
    have hk0 : 0 < (l.drop m).length := of_decide_eq_true hc15
    refine wp_cond_true rfl ?_
    refine wp_skip ?_
    refine hK11 _ _ ?_
    refine wp_block ?_
    refine wp_seq_k (fun K18 hK18 => ?_)
    refine wp_region_seq ?_
    refine wpL_assign (v := .int .i64 1) (by rfl) (by rfl) (by rfl) ?_
    simp only [putT, List.set]
    refine wpL_nil (no_panic ?_)
    refine hK18 _ _ ?_
    refine wp_seq_k (fun K20 hK20 => ?_)
    refine wp_block ?_
    refine wp_loop_ghost (fun n9 a9 W9 => ∃ (k : Nat) (j : Nat) (u21 : Nat → Value), n9 = 2 * ((l.drop m).length - k) ∧ a9 = { tmps := #[.slice ar ((l.drop m).length) cr, undef, (.slice none 0 0), .slice (some ⟨o, 0, none⟩) q oc, .int .i64 ((k : Nat) : Int), .slice (some ⟨g5, 0, none⟩) 0 0, .slice ar ((l.drop m).length) cr, .int .i64 (((l.drop m).length : Nat) : Int), .bool true, u21 9, u21 10, u21 11, u21 12, u21 13, u21 14, u21 15, u8 16, u8 17, u8 18, u8 19, u8 20, u8 21, u8 22, u8 23, u8 24, u8 25, undef], defers := [] } ∧ Mem [o] w9 W9 [⟨o, oc, [(0, scells Ps)]⟩] ∧ (k = 2 ^ j) ∧ (k ≤ (l.drop m).length)) (2 * ((l.drop m).length - (1))) ?_ (fun n9 a9 W9 hI => ?_)
    · exact ⟨1, 0, (fun q9 => (#[undef, undef, undef, undef, undef, undef, undef, undef, undef, u8 9, u8 10, u8 11, u8 12, u8 13, u8 14, u8 15] : Array Value).getD q9 undef), rfl, rfl, M, rfl, (by omega)⟩
    clear M
    obtain ⟨k, j, u21, rfl, rfl, M, hk, hkn⟩ := hI
    obtain ⟨w22, rfl⟩ : ∃ W8, W8 = W9 := ⟨_, rfl⟩
    have hkp : 0 < k := hk ▸ Nat.two_pow_pos j
    refine wp_seq_k (fun K23 hK23 => ?_)
    refine wp_seq_k (fun K24 hK24 => ?_)
    refine wp_region_seq ?_
    refine wpL_move (v := .int .i64 ((k : Nat) : Int)) (by rfl) (by rfl) (by rfl) ?_
    simp only [putT, List.set]
    refine wpL_chunk 4 (by rfl) (fun Lk hLk => ?_)
    simp only [List.take, List.drop]
    refine wpV_bin (v := .int .i64 ((2 * k : Nat) : Int)) (by rfl) rfl rfl rfl (fun W => run_mul (by simp only [IntKind.wrap_i64]; omega) W) ?_
    simp only [putT, List.set]
    refine wpV_move (v := .slice ar ((l.drop m).length) cr) (by rfl) rfl rfl ?_
    simp only [putT, List.set]
    refine wpV_lenA (n := (l.drop m).length) (by rfl) rfl rfl rfl Tryd.underlying48 ?_
    simp only [putT, List.set]
    refine wpV_bin (v := .bool (decide (2 * k ≤ (l.drop m).length))) (by rfl) rfl rfl rfl (fun W => run_leqN (2 * k) ((l.drop m).length) _ _ W) ?_
    simp only [putT, List.set]
    refine wpV_nil (hLk _ (fun w26 Sw26 => ?_))
    clear hLk Lk
    simp only [List.take, List.drop]
    replace M := M.sees Sw26
    refine wpL_nil (no_panic ?_)
    refine hK24 _ _ ?_
    cases hc27 : (decide (2 * k ≤ (l.drop m).length))
    · skip
      have h2k : ¬ 2 * k ≤ (l.drop m).length := of_decide_eq_false hc27
      have hkb : k = bigN (l.drop m).length := by rw [hk]; exact (bigN_of (by omega) (by omega)).symm
      refine wp_cond_false rfl ?_
      refine wp_exit ?_
      refine hK20 _ _ ?_
      refine wp_seq_k (fun K28 hK28 => ?_)
      refine wp_region_seq ?_
      refine wpL_move (v := .slice (some ⟨o, 0, none⟩) q oc) (by rfl) (by rfl) (by rfl) ?_
      simp only [putT, List.set]
      refine wpL_move (v := .slice ar ((l.drop m).length) cr) (by rfl) (by rfl) (by rfl) ?_
      simp only [putT, List.set]
      refine wpL_move (v := .int .i64 ((k : Nat) : Int)) (by rfl) (by rfl) (by rfl) ?_
      simp only [putT, List.set]
      refine wpL_chunk 2 (by rfl) (fun Lk hLk => ?_)
      simp only [List.take, List.drop]
      refine wpV_slcH (hi := k) (by rfl) rfl rfl rfl Tryd.underlying48 info9 (Nat.le_trans hkn (M.oldN Hr).cap) ?_
      simp only [putT, List.set]
      refine wpV_callf (v := .string (bs (rootS ((l.drop m).take k)))) (args := #[.slice ar k cr]) (by rfl) rfl Tryd.func45 (by kernel_rfl) (by kernel_rfl) rfl (fun W hW => by with_reducible exact rroot_r _ (ps := (l.drop m).take k) rfl (by rw [List.length_take]; omega) (fun s9 h9 => h32 s9 (List.mem_of_mem_drop (List.mem_of_mem_take h9)))  ((((M.sees hW).oldN Hr).take hkn).eq (scells_take2 _ _))) ?_
      simp only [putT, List.set]
      refine wpV_nil (hLk _ (fun w30 Sw30 => ?_))
      clear hLk Lk
      simp only [List.take, List.drop]
      replace M := M.sees Sw30
      refine wpL_rowN (vs := [.string (bs (rootS ((l.drop m).take k)))]) (z := .string { data := #[] }) (bytes := 16) (by rfl) (by rfl) Tryd.underlying48 (by kernel_rfl) (by decide) (by kernel_rfl) (fun g31 w32 Sw32 Hg31 Bg31 => ?_)
      replace M := ((M.sees Sw32).add (N := 1) (cs := [.string (bs (rootS ((l.drop m).take k)))]) (M.ge Hg31) (M.fresh Hg31) Bg31 rfl)
      clear Bg31
      simp only [putT, List.set]
      refine wpL_append (n := q) (m := 1) (olds := scells Ps) (news := [.string (bs (rootS ((l.drop m).take k)))]) (z := .string { data := #[] }) (bytes := 16) (by rfl) (by rfl) (by rfl) (by rfl) Tryd.underlying48 (by kernel_rfl) rfl rfl (by rw [scells_len, hPl]) rfl (M.r 1 0 rfl rfl) (M.t 1 rfl) (M.lt 1 rfl) (M.r 0 0 rfl rfl) (by intro u hu; rw [List.mem_singleton.1 hu]; rfl) (by omega) (by simp only [maxLen]; omega) (fun g33 g33c w34 Sw34 Q Cg33 R T L => ?_)
      replace M := M.grow 1 rfl Sw34 Q R T L
      simp only [List.set] at M
      clear Q R T L
      rw [show scells Ps ++ [.string (bs (rootS ((l.drop m).take k)))] = scells (Ps ++ [rootS ((l.drop m).take k)]) from scells_app Ps [_]] at M
      simp only [putT, List.set]
      refine wpL_assign (v := .slice (some ⟨g33, 0, none⟩) (q + 1) g33c) (by rfl) (by rfl) (by rfl) ?_
      simp only [putT, List.set]
      refine wpL_nil (no_panic ?_)
      refine hK28 _ _ ?_
      refine wp_region_seq ?_
      refine wpL_move (v := .slice ar ((l.drop m).length) cr) (by rfl) (by rfl) (by rfl) ?_
      simp only [putT, List.set]
      refine wpL_move (v := .int .i64 ((k : Nat) : Int)) (by rfl) (by rfl) (by rfl) ?_
      simp only [putT, List.set]
      refine wpL_chunk 1 (by rfl) (fun Lk hLk => ?_)
      simp only [List.take, List.drop]
      refine wpV_slcL (lo := k) (by rfl) rfl rfl rfl Tryd.underlying48 info9 hkn ?_
      simp only [putT, List.set]
      refine wpV_nil (hLk _ (fun w36 Sw36 => ?_))
      clear hLk Lk
      simp only [List.take, List.drop]
      replace M := M.sees Sw36
      refine wpL_assign (v := .slice (slA ar k cr) (((l.drop m).length) - k) (cr - k)) (by rfl) (by rfl) (by rfl) ?_
      simp only [putT, List.set]
      refine wpL_nil (no_panic ?_)
      have HX37 := (((((M.notinsG Hr).drop hkn).eq (scells_drop2 _ _)).eq (by rw [List.drop_drop])).sub (show ∀ x ∈ [g33], x ∈ [g31, g33] from (by intro x hx; simp only [List.mem_cons, List.not_mem_nil, or_false] at hx ⊢; omega)))
      replace M := Mx10.comp M
      refine Exists.intro _ ⟨?_, (m + k), (q + 1), (Ps ++ [rootS ((l.drop m).take k)]), g33, g33c, (slA ar k cr), (((l.drop m).length) - k), (cr - k), (fun q9 => (#[undef, undef, undef, undef, .int .i64 ((k : Nat) : Int), undef, .slice ar ((l.drop m).length) cr, .int .i64 (((l.drop m).length : Nat) : Int), .bool true, .int .i64 ((k : Nat) : Int), .int .i64 ((2 * k : Nat) : Int), .slice ar ((l.drop m).length) cr, .int .i64 (((l.drop m).length : Nat) : Int), .bool false, u21 14, u21 15, .slice (some ⟨o, 0, none⟩) q oc, .slice ar ((l.drop m).length) cr, .int .i64 ((k : Nat) : Int), .slice ar k cr, .string (bs (rootS ((l.drop m).take k))), .slice (some ⟨g31, 0, none⟩) 1 1, .slice (some ⟨g33, 0, none⟩) (q + 1) g33c, .slice ar ((l.drop m).length) cr, .int .i64 ((k : Nat) : Int), .slice (slA ar k cr) (((l.drop m).length) - k) (cr - k)] : Array Value).getD q9 undef), rfl, rfl, (M.pick [1] (by decide) rfl), Cg33, (by omega), (part_step hk0 hkb hP), (by rw [List.length_append, hPl]; rfl), (by omega), HX37⟩
      omega
    · skip
      have h2k : 2 * k ≤ (l.drop m).length := of_decide_eq_true hc27
      refine wp_cond_true rfl ?_
      refine wp_skip ?_
      refine hK23 _ _ ?_
      refine wp_block ?_
      refine wp_region_seq ?_
      refine wpL_move (v := .int .i64 ((k : Nat) : Int)) (by rfl) (by rfl) (by rfl) ?_
      simp only [putT, List.set]
      refine wpL_chunk 1 (by rfl) (fun Lk hLk => ?_)
      simp only [List.take, List.drop]
      refine wpV_bin (v := .int .i64 ((2 * k : Nat) : Int)) (by rfl) rfl rfl rfl (fun W => run_mul (by simp only [IntKind.wrap_i64]; omega) W) ?_
      simp only [putT, List.set]
      refine wpV_nil (hLk _ (fun w39 Sw39 => ?_))
      clear hLk Lk
      simp only [List.take, List.drop]
      replace M := M.sees Sw39
      refine wpL_assign (v := .int .i64 ((2 * k : Nat) : Int)) (by rfl) (by rfl) (by rfl) ?_
      simp only [putT, List.set]
      refine wpL_nil (no_panic ?_)
      refine Exists.intro _ ⟨?_, (2 * k), (j + 1), (fun q9 => (#[undef, undef, undef, undef, undef, undef, undef, undef, undef, .int .i64 ((k : Nat) : Int), .int .i64 ((2 * k : Nat) : Int), .slice ar ((l.drop m).length) cr, .int .i64 (((l.drop m).length : Nat) : Int), .bool true, .int .i64 ((k : Nat) : Int), .int .i64 ((2 * k : Nat) : Int)] : Array Value).getD q9 undef), rfl, rfl, M, (by rw [hk, Nat.pow_succ, Nat.mul_comm]), h2k⟩
      omega
set_option maxHeartbeats 1000000 in
theorem Add_nil {ps : List (List UInt8)} {ap : Option Addr} {np cp : Nat} {ls : List (List UInt8)} {aq : Option Addr} {nq cq : Nat} {m : Nat} {w : World} (hp : ps.length ≤ 4611686018427387904) (hm : m ≤ 4096) (hmay : mayG ((m : Nat) : Int) ps = true) (hri : rightB ls = true) (h0 : ls.length = 0) (Hp : RowA w ap np cp (scells ps)) (Hq : RowA w aq nq cq (scells ls)) :
    Calls Tryd.prog 55 #[.agg [.int .i64 ((m : Nat) : Int), .slice ap np cp].toArray, .slice aq nq cq] w fun e w' => e = .returned (.tuple #[.agg [.int .i64 ((m : Nat) : Int), .slice ap np cp].toArray, .int .i64 0]) ∧ Below w.heap.size w w' := by
  obtain rfl : np = ps.length := by have := Hp.len; rwa [scells_len] at this
  obtain rfl : nq = ls.length := by have := Hq.len; rwa [scells_len] at this
  go_enter Tryd.func55, Tryd.ntmps55
  have M := Mem.start w
  refine wp_seq_k (fun K1 hK1 => ?_)
  refine wp_region_seq ?_
  refine wpL_var (t := 66) (cs := [.int .i64 ((m : Nat) : Int), .slice ap ps.length cp]) (by rfl) (fun W => ?_) (fun g3 w4 Sw4 Hg3 Bg3 => ?_)
  · (first | rfl | go_simp)
  replace M := ((M.sees Sw4).add (N := 2) (cs := [.int .i64 ((m : Nat) : Int), .slice ap ps.length cp]) (M.ge Hg3) (M.fresh Hg3) Bg3 rfl)
  clear Bg3
  simp only [putT, List.set]
  refine wpL_var (t := 66) (cs := [.int .i64 0, .slice none 0 0]) (by rfl) (fun W => ?_) (fun g5 w6 Sw6 Hg5 Bg5 => ?_)
  · go_simp
  replace M := ((M.sees Sw6).add (N := 2) (cs := [.int .i64 0, .slice none 0 0]) (M.ge Hg5) (M.fresh Hg5) Bg5 rfl)
  clear Bg5
  simp only [putT, List.set]
  refine wpL_assign (v := .int .i64 0) (by rfl) (by rfl) (by rfl) ?_
  simp only [putT, List.set]
  refine wpL_nil (no_panic ?_)
  refine hK1 _ _ ?_
  refine wp_seq_k (fun K7 hK7 => ?_)
  refine wp_block ?_
  refine wp_seq_k (fun K8 hK8 => ?_)
  refine wp_region_seq ?_
  refine wpL_chunk 8 (by rfl) (fun Lk hLk => ?_)
  simp only [List.take, List.drop]
  refine wpV_load (cs := [.int .i64 ((m : Nat) : Int), .slice ap ps.length cp]) (by rfl) rfl rfl (M.r 1 0 rfl rfl) (M.lt 1 rfl) Tryd.underlying66 rfl info66 ?_
  simp only [putT, List.set]
  refine wpV_callf (v := .bool true) (args := #[.agg ([.int .i64 ((m : Nat) : Int), .slice ap ps.length cp]).toArray]) (by rfl) rfl Tryd.func80 (by kernel_rfl) (by kernel_rfl) rfl (fun W hW => by have h9 : Calls Tryd.prog _ _ W _ := may_c (ps := ps) (x := ((m : Nat) : Int)) hp ((M.sees hW).oldA Hp); rw [hmay] at h9; exact h9) ?_
  simp only [putT, List.set]
  refine wpV_not (b := true) (by rfl) rfl rfl ?_
  simp only [Bool.not_true, Bool.not_false]
  simp only [putT, List.set]
  refine wpV_move (v := .bool false) (by rfl) rfl rfl ?_
  simp only [putT, List.set]
  refine wpV_move (v := .slice aq ls.length cq) (by rfl) rfl rfl ?_
  simp only [putT, List.set]
  refine wpV_callf (v := .bool true) (args := #[.slice aq ls.length cq]) (by rfl) rfl Tryd.func42 (by kernel_rfl) (by kernel_rfl) rfl (fun W hW => by have h9 : Calls Tryd.prog _ _ W _ := right_r (ps := ls)  ((M.sees hW).oldA Hq); rw [hri] at h9; exact h9) ?_
  simp only [putT, List.set]
  refine wpV_not (b := true) (by rfl) rfl rfl ?_
  simp only [Bool.not_true, Bool.not_false]
  simp only [putT, List.set]
  refine wpV_pick (v := .bool false) (by rfl) rfl rfl rfl ?_
  simp only [putT, List.set]
  refine wpV_nil (hLk _ (fun w10 Sw10 => ?_))
  clear hLk Lk
  simp only [List.take, List.drop]
  replace M := M.sees Sw10
  refine wpL_assign (v := .bool false) (by rfl) (by rfl) (by rfl) ?_
  simp only [putT, List.set]
  refine wpL_nil (no_panic ?_)
  refine hK8 _ _ ?_
  refine wp_cond_false rfl ?_
  refine wp_seq_k (fun K11 hK11 => ?_)
  refine wp_region_seq ?_
  refine wpL_chunk 6 (by rfl) (fun Lk hLk => ?_)
  simp only [List.take, List.drop]
  refine wpV_val (v := .pointer (some ⟨g3, 0, none⟩)) (by rfl) (by rfl) (fun W hW => ?_) ?_
  · (go_simp; exact rfl)
  simp only [putT, List.set]
  refine wpV_load1 (v := .int .i64 ((m : Nat) : Int)) (by rfl) rfl rfl (range_one (range_sub (M.r 1 0 rfl rfl) 0 1 0 (xs := [.int .i64 ((m : Nat) : Int)]) rfl rfl)) (M.lt 1 rfl) Tryd.underlying3 rfl ?_
  simp only [putT, List.set]
  refine wpV_move (v := .slice aq ls.length cq) (by rfl) rfl rfl ?_
  simp only [putT, List.set]
  refine wpV_lenA (n := ls.length) (by rfl) rfl rfl rfl Tryd.underlying48 ?_
  simp only [putT, List.set]
  refine wpV_bin (v := .int .i64 ((m + ls.length : Nat) : Int)) (by rfl) rfl rfl rfl (fun W => run_add (by simp only [IntKind.wrap_i64]; omega) W) ?_
  simp only [putT, List.set]
  refine wpV_bin (v := .bool false) (by rfl) rfl rfl rfl (fun W => (run_gtrN (m + ls.length) 4096 _ _ W).trans (by rw [(decide_eq_false (by omega))])) ?_
  simp only [putT, List.set]
  refine wpV_nil (hLk _ (fun w13 Sw13 => ?_))
  clear hLk Lk
  simp only [List.take, List.drop]
  replace M := M.sees Sw13
  refine wpL_assign (v := .bool false) (by rfl) (by rfl) (by rfl) ?_
  simp only [putT, List.set]
  refine wpL_nil (no_panic ?_)
  refine hK11 _ _ ?_
  refine wp_cond_false rfl ?_
  refine wp_skip ?_
  refine hK7 _ _ ?_
  refine wp_seq_k (fun K14 hK14 => ?_)
  refine wp_region_seq ?_
  refine wpL_chunk 2 (by rfl) (fun Lk hLk => ?_)
  simp only [List.take, List.drop]
  refine wpV_load (cs := [.int .i64 ((m : Nat) : Int), .slice ap ps.length cp]) (by rfl) rfl rfl (M.r 1 0 rfl rfl) (M.lt 1 rfl) Tryd.underlying66 rfl info66 ?_
  simp only [putT, List.set]
  refine wpV_val (v := .agg ([.int .i64 ((m : Nat) : Int), .slice ap ps.length cp]).toArray) (by rfl) (by rfl) (fun W hW => ?_) ?_
  · (unfold RunsVal; kernel_rfl)
  simp only [putT, List.set]
  refine wpV_nil (hLk _ (fun w16 Sw16 => ?_))
  clear hLk Lk
  simp only [List.take, List.drop]
  replace M := M.sees Sw16
  refine wpL_var (t := 100) (cs := [.int .i64 ((m : Nat) : Int), .slice ap ps.length cp]) (by rfl) (fun W => ?_) (fun g17 w18 Sw18 Hg17 Bg17 => ?_)
  · (first | rfl | go_simp)
  replace M := ((M.sees Sw18).add (N := 2) (cs := [.int .i64 ((m : Nat) : Int), .slice ap ps.length cp]) (M.ge Hg17) (M.fresh Hg17) Bg17 rfl)
  clear Bg17
  simp only [putT, List.set]
  refine wpL_assign (v := .pointer (some ⟨g17, 0, none⟩)) (by rfl) (by rfl) (by rfl) ?_
  simp only [putT, List.set]
  refine wpL_nil (no_panic ?_)
  refine hK14 _ _ ?_
  refine wp_seq_k (fun K19 hK19 => ?_)
  refine wp_seq_k (fun K20 hK20 => ?_)
  refine wp_region_seq ?_
  refine wpL_move (v := .slice aq ls.length cq) (by rfl) (by rfl) (by rfl) ?_
  simp only [putT, List.set]
  refine wpL_chunk 1 (by rfl) (fun Lk hLk => ?_)
  simp only [List.take, List.drop]
  refine wpV_lenA (n := ls.length) (by rfl) rfl rfl rfl Tryd.underlying48 ?_
  simp only [putT, List.set]
  refine wpV_nil (hLk _ (fun w22 Sw22 => ?_))
  clear hLk Lk
  simp only [List.take, List.drop]
  replace M := M.sees Sw22
  refine wpL_move (v := .int .i64 0) (by rfl) (by rfl) (by rfl) ?_
  simp only [putT, List.set]
  refine wpL_nil (no_panic ?_)
  refine hK20 _ _ ?_
  refine wp_block ?_
  refine wp_loop_rounds 2 ?_
  rw [rounds_succ]
  refine wp_seq_k (fun K23 hK23 => ?_)
  refine wp_region_seq ?_
  refine wpL_chunk 1 (by rfl) (fun Lk hLk => ?_)
  simp only [List.take, List.drop]
  refine wpV_bin (v := .bool false) (by rfl) rfl rfl rfl (fun W => (run_lssN 0 ls.length _ _ W).trans (by rw [(decide_eq_false (by omega))])) ?_
  simp only [putT, List.set]
  refine wpV_nil (hLk _ (fun w25 Sw25 => ?_))
  clear hLk Lk
  simp only [List.take, List.drop]
  replace M := M.sees Sw25
  refine wpL_nil (no_panic ?_)
  refine hK23 _ _ ?_
  refine wp_seq_k (fun K26 hK26 => ?_)
  refine wp_cond_false rfl ?_
  refine wp_exit ?_
  refine hK19 _ _ ?_
  refine wp_seq_k (fun K27 hK27 => ?_)
  refine wp_region_seq ?_
  refine wpL_move (v := .pointer (some ⟨g17, 0, none⟩)) (by rfl) (by rfl) (by rfl) ?_
  simp only [putT, List.set]
  refine wpL_chunk 3 (by rfl) (fun Lk hLk => ?_)
  simp only [List.take, List.drop]
  refine wpV_nilCheck (by rfl) rfl rfl ?_
  simp only [putT, List.set]
  refine wpV_val (v := .pointer (some ⟨g17, 0, none⟩)) (by rfl) (by rfl) (fun W hW => ?_) ?_
  · (go_simp; exact rfl)
  simp only [putT, List.set]
  refine wpV_load (cs := [.int .i64 ((m : Nat) : Int), .slice ap ps.length cp]) (by rfl) rfl rfl (M.r 0 0 rfl rfl) (M.lt 0 rfl) Tryd.underlying66 rfl info66 ?_
  simp only [putT, List.set]
  refine wpV_nil (hLk _ (fun w29 Sw29 => ?_))
  clear hLk Lk
  simp only [List.take, List.drop]
  replace M := M.sees Sw29
  refine wpL_store (g := g5) (off := 0) (n := 2) (cs := [.int .i64 ((m : Nat) : Int), .slice ap ps.length cp]) (by rfl) (by rfl) (by rfl) (by rfl) (by rfl) (M.t 1 rfl) (by simp [flen]) info66 (by simp [fone, Value.oneCell']) (fun w30 P R T => ?_)
  replace M := M.putS 1 0 rfl P R T rfl ⟨.inl rfl, trivial⟩
  simp only [List.set] at M
  refine wpL_assign (v := .int .i64 0) (by rfl) (by rfl) (by rfl) ?_
  simp only [putT, List.set]
  refine wpL_nil (no_panic ?_)
  refine hK27 _ _ ?_
  refine wp_ret ?_
  repeat (first | with_reducible refine then_ret ?_ | with_reducible refine inblock_ret ?_)
  refine bodyPost_ret (v := .tuple #[.agg ([.int .i64 ((m : Nat) : Int), .slice ap ps.length cp]).toArray, .int .i64 0]) (res2 rfl (.cell (by rfl) (run_loadVar_mid _ _ _ _ ([.int .i64 ((m : Nat) : Int), .slice ap ps.length cp]) _ (M.r 1 0 rfl rfl) Tryd.underlying66 rfl info66)) (.tmp (by rfl))) rfl ?_
  have BE := M.below
  exact ⟨rfl, BE⟩
theorem Sum_parts {L : List (List UInt8)} {ap : Option Addr} {np cp : Nat} {m : Nat} {w : World} (hm : L.length = m) (hle : m ≤ 4096) (h32 : ∀ s ∈ L, s.length = 32) (L0 : 0 < w.heap.size) (R0_0 : w.rangeAt 0 0 kcells) (Hp : RowA w ap np cp (scells (partsL L))) :
    Calls Tryd.prog 60 #[.agg [.int .i64 ((m : Nat) : Int), .slice ap np cp].toArray] w fun e w' => e = .returned (.tuple #[.string (bs (rootS L)), .int .i64 0]) ∧ Below w.heap.size w w' := by
  subst hm
  by_cases h0 : L.length = 0
  · have e := List.length_eq_zero_iff.1 h0
    subst e
    rw [partsL_0] at Hp
    have h9 := Sum_z (ps := []) (Nat.zero_le _) may_nil L0 R0_0 Hp
    rw [rootS_0 rfl]
    exact h9
  · have hpl : (partsL L).length = ones L.length := partsL_len L
    have hp32 := partsL_32 L h32
    have h9 := Sum_go (ps := partsL L) (m := L.length) (by rw [hpl]; exact ones_le_80 (by omega)) (may_of (by omega) hpl hp32) (by omega) (parts_pos h0) hp32 L0 R0_0 Hp
    rw [sumP_parts L h0] at h9
    exact h9
theorem Add_parts0 {L : List (List UInt8)} {ap : Option Addr} {np cp : Nat} {ls : List (List UInt8)} {aq : Option Addr} {nq cq : Nat} {m : Nat} {w : World} (hm : L.length = m) (hle : m ≤ 4096) (h32 : ∀ s ∈ L, s.length = 32) (h0 : ls.length = 0)
    (Hp : RowA w ap np cp (scells (partsL L))) (Hq : RowA w aq nq cq (scells ls)) :
    Calls Tryd.prog 55 #[.agg [.int .i64 ((m : Nat) : Int), .slice ap np cp].toArray, .slice aq nq cq] w fun e w' => e = .returned (.tuple #[.agg [.int .i64 ((m : Nat) : Int), .slice ap np cp].toArray, .int .i64 0]) ∧ Below w.heap.size w w' := by
  subst hm
  have hpl : (partsL L).length = ones L.length := partsL_len L
  have e := List.length_eq_zero_iff.1 h0
  subst e
  exact Add_nil (ps := partsL L) (ls := []) (m := L.length) (by rw [hpl]; exact ones_le_80 (by omega)) hle (may_of (by omega) hpl (partsL_32 L h32)) rfl rfl Hp Hq
end Go.Proofs.Yb

