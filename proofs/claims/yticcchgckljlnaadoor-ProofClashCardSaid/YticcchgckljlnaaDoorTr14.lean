import Derived.WalkKit
import Derived.WalkSpells
import Derived.Laws.Pointers
import Derived.RowKit3
import Derived.Below
import Derived.Outline
import Derived.LoopN
import Derived.Lib.Hide
import Derived.Handy
import Derived.Laws.Bits64b
import Derived.Test.YticcchgckljlnaaDoorTr7
import Derived.Test.YticcchgckljlnaaDoorTrS
import Derived.Test.YticcchgckljlnaaDoorTrP
import Derived.Test.YticcchgckljlnaaDoorJoinB
import Derived.Test.YticcchgckljlnaaDoorTr3
import Derived.Test.YticcchgckljlnaaDoorTr1
set_option linter.unusedSimpArgs false
set_option linter.unusedVariables false
namespace Go.Proofs.Yb
open Go Go.RowKit Go.Proofs.Num
attribute [local irreducible] wpV wpN wpList
theorem of_right_len {ps : List (List UInt8)} (h : rightB ps = true) : ps.length ≤ 4096 := by
 unfold rightB at h
 rw [Bool.and_eq_true, decide_eq_true_eq] at h
 exact h.1
set_option maxHeartbeats 4000000 in
theorem root_r : ∀ (N : Nat) {ps : List (List UInt8)} {ap : Option Addr} {np cp : Nat} {w : World} (hN : ps.length = N) (h4 : ps.length ≤ 4096) (hs : ∀ s ∈ ps, s.length = 32) (L0 : 0 < w.heap.size) (R0_0 : w.rangeAt 0 0 kcells) (Hp : RowA w ap np cp (scells ps)),
  Calls Tryd.prog 75 #[.slice ap np cp] w fun e w' => e = .returned (.string (bs (rootS ps))) ∧ Below w.heap.size w w' := by
 intro N
 induction N using Nat.strongRecOn with
 | _ N ih =>
  intro ps ap np cp w hN h4 hs L0 R0_0 Hp
  subst hN
  obtain rfl : np = ps.length := by have := Hp.len; rwa [scells_len] at this
  go_enter Tryd.func75, Tryd.ntmps75
  have M := Mem.start w
  refine wp_seq_k (fun K1 hK1 => ?_)
  refine wp_region_seq ?_
  refine wpL_assign (v := .string (bs ([]))) (by rfl) (by rfl) (by rfl) ?_
  simp only [putT, List.set]
  refine wpL_nil (no_panic ?_)
  refine hK1 _ _ ?_
  refine wp_seq_k (fun K3 hK3 => ?_)
  refine wp_seq_k (fun K4 hK4 => ?_)
  refine wp_region_seq ?_
  refine wpL_move (v := .slice ap ps.length cp) (by rfl) (by rfl) (by rfl) ?_
  simp only [putT, List.set]
  refine wpL_chunk 1 (by rfl) (fun Lk hLk => ?_)
  simp only [List.take, List.drop]
  refine wpV_lenA (n := ps.length) (by rfl) rfl rfl rfl Tryd.underlying48 ?_
  simp only [putT, List.set]
  refine wpV_nil (hLk _ (fun w6 Sw6 => ?_))
  clear hLk Lk
  simp only [List.take, List.drop]
  replace M := M.sees Sw6
  refine wpL_nil (no_panic ?_)
  refine hK4 _ _ ?_
  refine wp_block ?_
  refine wp_seq_k (fun K7 hK7 => ?_)
  refine wp_region_seq ?_
  refine wpL_chunk 1 (by rfl) (fun Lk hLk => ?_)
  simp only [List.take, List.drop]
  refine wpV_bin (v := .bool (decide (ps.length = 0))) (by rfl) rfl rfl rfl (fun W => run_eqlN ps.length 0 _ _ W) ?_
  simp only [putT, List.set]
  refine wpV_nil (hLk _ (fun w9 Sw9 => ?_))
  clear hLk Lk
  simp only [List.take, List.drop]
  replace M := M.sees Sw9
  refine wpL_assign (v := .bool (decide (ps.length = 0))) (by rfl) (by rfl) (by rfl) ?_
  simp only [putT, List.set]
  refine wpL_nil (no_panic ?_)
  refine hK7 _ _ ?_
  cases hc10 : (decide (ps.length = 0))
  ·
   have hn0 : ¬ ps.length = 0 := of_decide_eq_false hc10
   refine wp_cond_false rfl ?_
   refine wp_seq_k (fun K11 hK11 => ?_)
   refine wp_region_seq ?_
   refine wpL_chunk 1 (by rfl) (fun Lk hLk => ?_)
   simp only [List.take, List.drop]
   refine wpV_bin (v := .bool (decide (ps.length = 1))) (by rfl) rfl rfl rfl (fun W => run_eqlN ps.length 1 _ _ W) ?_
   simp only [putT, List.set]
   refine wpV_nil (hLk _ (fun w13 Sw13 => ?_))
   clear hLk Lk
   simp only [List.take, List.drop]
   replace M := M.sees Sw13
   refine wpL_assign (v := .bool (decide (ps.length = 1))) (by rfl) (by rfl) (by rfl) ?_
   simp only [putT, List.set]
   refine wpL_nil (no_panic ?_)
   refine hK11 _ _ ?_
   cases hc14 : (decide (ps.length = 1))
   ·
    have hn1 : ¬ ps.length = 1 := of_decide_eq_false hc14
    have h2 : 2 ≤ ps.length := by omega
    obtain ⟨sb1, sb2, sb3⟩ := split_bits (n := ps.length) (by omega) h2
    have hsl := splitN_lt h2
    have hsp := splitN_pos ps.length
    refine wp_cond_false rfl ?_
    refine wp_skip ?_
    refine hK3 _ _ ?_
    refine wp_seq_k (fun K15 hK15 => ?_)
    refine wp_region_seq ?_
    refine wpL_move (v := .slice ap ps.length cp) (by rfl) (by rfl) (by rfl) ?_
    simp only [putT, List.set]
    refine wpL_chunk 6 (by rfl) (fun Lk hLk => ?_)
    simp only [List.take, List.drop]
    refine wpV_lenA (n := ps.length) (by rfl) rfl rfl rfl Tryd.underlying48 ?_
    simp only [putT, List.set]
    refine wpV_bin (v := .int .i64 ((ps.length - 1 : Nat) : Int)) (by rfl) rfl rfl rfl (fun W => run_sub (by simp only [IntKind.wrap_i64]; omega) W) ?_
    simp only [putT, List.set]
    refine wpV_conv (d := .bool) (e := ((ps.length - 1 : Nat) : Int)) (by rfl) rfl rfl (run_conv_int Tryd.underlying3 Tryd.underlying116 ((wrap64N _).trans (congrArg _ (Nat.mod_eq_of_lt (by omega))))) ?_
    simp only [putT, List.set]
    refine wpV_callf (v := .int .i64 ((Lib.bitLen (ps.length - 1) : Nat) : Int)) (args := #[.int .u64 ((ps.length - 1 : Nat) : Int)]) (by rfl) rfl Tryd.func95 (by kernel_rfl) (by kernel_rfl) rfl (fun W hW => (((Tryd.bits_Len ((ps.length - 1 : Nat) : Int) W (by omega) (by omega)).mono fun e w' h => ⟨h.1, h.2 ▸ Below.refl _ _⟩))) ?_
    simp only [putT, List.set]
    refine wpV_bin (v := .int .i64 (((Lib.bitLen (ps.length - 1)) - 1 : Nat) : Int)) (by rfl) rfl rfl rfl (fun W => run_sub (by simp only [IntKind.wrap_i64]; omega) W) ?_
    simp only [putT, List.set]
    refine wpV_bin (v := .int .i64 ((splitN ps.length : Nat) : Int)) (by rfl) rfl rfl rfl (fun W => run_shl (m := 1) (n := Lib.bitLen (ps.length - 1) - 1) (by show _ ≤ 64; omega) (by rw [Nat.one_mul, sb3]; simp only [IntKind.wrap_i64]; omega) W) ?_
    simp only [putT, List.set]
    refine wpV_nil (hLk _ (fun w17 Sw17 => ?_))
    clear hLk Lk
    simp only [List.take, List.drop]
    replace M := M.sees Sw17
    refine wpL_assign (v := .int .i64 ((splitN ps.length : Nat) : Int)) (by rfl) (by rfl) (by rfl) ?_
    simp only [putT, List.set]
    refine wpL_nil (no_panic ?_)
    refine hK15 _ _ ?_
    refine wp_seq_k (fun K18 hK18 => ?_)
    refine wp_region_grow 9 [] (by kernel_rfl) (by kernel_rfl) (by kernel_rfl) (fun Lk hLk => ?_)
    simp only [List.take, List.drop]
    refine wpV_move (v := .slice ap ps.length cp) (by rfl) rfl rfl ?_
    simp only [putT, List.set]
    refine wpV_move (v := .int .i64 ((splitN ps.length : Nat) : Int)) (by rfl) rfl rfl ?_
    simp only [putT, List.set]
    refine wpV_slcH (hi := splitN ps.length) (by rfl) rfl rfl rfl Tryd.underlying48 info9 (Nat.le_trans (Nat.le_of_lt hsl) (M.oldA Hp).cap) ?_
    simp only [putT, List.set]
    refine wpV_callf (v := .string (bs (rootS (ps.take (splitN ps.length))))) (args := #[.slice ap (splitN ps.length) cp]) (by rfl) rfl Tryd.func75 (by kernel_rfl) (by kernel_rfl) rfl (fun W hW => ih (ps.take (splitN ps.length)).length (by rw [List.length_take]; omega) (ps := ps.take (splitN ps.length)) rfl (by rw [List.length_take]; omega) (fun s9 h9 => hs s9 (List.mem_of_mem_take h9)) ((M.sees hW).oldL L0) ((M.sees hW).oldR R0_0 L0) ((((M.sees hW).oldA Hp).take (Nat.le_of_lt hsl)).eq (scells_take2 _ _))) ?_
    simp only [putT, List.set]
    refine wpV_move (v := .slice ap ps.length cp) (by rfl) rfl rfl ?_
    simp only [putT, List.set]
    refine wpV_move (v := .int .i64 ((splitN ps.length : Nat) : Int)) (by rfl) rfl rfl ?_
    simp only [putT, List.set]
    refine wpV_slcL (lo := splitN ps.length) (by rfl) rfl rfl rfl Tryd.underlying48 info9 (Nat.le_of_lt hsl) ?_
    simp only [putT, List.set]
    refine wpV_callf (v := .string (bs (rootS (ps.drop (splitN ps.length))))) (args := #[.slice (slA ap (splitN ps.length) cp) (ps.length - (splitN ps.length)) (cp - (splitN ps.length))]) (by rfl) rfl Tryd.func75 (by kernel_rfl) (by kernel_rfl) rfl (fun W hW => ih (ps.drop (splitN ps.length)).length (by rw [List.length_drop]; omega) (ps := ps.drop (splitN ps.length)) rfl (by rw [List.length_drop]; omega) (fun s9 h9 => hs s9 (List.mem_of_mem_drop h9)) ((M.sees hW).oldL L0) ((M.sees hW).oldR R0_0 L0) ((((M.sees hW).oldA Hp).drop (Nat.le_of_lt hsl)).eq (scells_drop2 _ _))) ?_
    simp only [putT, List.set]
    refine wpV_callf (v := .string (bs (nodeS (rootS (ps.take (splitN ps.length))) (rootS (ps.drop (splitN ps.length)))))) (args := #[.string (bs (rootS (ps.take (splitN ps.length)))), .string (bs (rootS (ps.drop (splitN ps.length))))]) (by rfl) rfl Tryd.func40 (by kernel_rfl) (by kernel_rfl) rfl (fun W hW => node_c (a := rootS (ps.take (splitN ps.length))) (b := rootS (ps.drop (splitN ps.length))) (by rw [rootS_len (fun s9 h9 => hs s9 (List.mem_of_mem_take h9))]; decide) (by rw [rootS_len (fun s9 h9 => hs s9 (List.mem_of_mem_drop h9))]; decide) ((M.sees hW).oldL L0) ((M.sees hW).oldR R0_0 L0)) ?_
    simp only [putT, List.set]
    refine wpV_nil (hLk.out _ ?_)
    clear hLk Lk
    simp only [List.take, List.drop]
    iterate 9 refine wpN_skip (by rfl) ?_
    refine wpN_nil (fun w20 Sw20 hbs => ?_)
    clear hbs
    replace M := M.sees Sw20
    refine wpL_assign (v := .string (bs (nodeS (rootS (ps.take (splitN ps.length))) (rootS (ps.drop (splitN ps.length)))))) (by rfl) (by rfl) (by rfl) ?_
    simp only [putT, List.set]
    refine wpL_nil (no_panic ?_)
    refine hK18 _ _ ?_
    refine wp_ret ?_
    repeat (first | with_reducible refine then_ret ?_ | with_reducible refine inblock_ret ?_)
    refine bodyPost_ret (v := .string (bs (nodeS (rootS (ps.take (splitN ps.length))) (rootS (ps.drop (splitN ps.length)))))) (res1 rfl (.tmp (by rfl))) rfl ?_
    have BE := M.below
    exact ⟨by rw [rootS_2 h2], BE⟩
   ·
    have hn1 : ps.length = 1 := of_decide_eq_true hc14
    refine wp_cond_true rfl ?_
    refine wp_seq_k (fun K21 hK21 => ?_)
    refine wp_region_seq ?_
    refine wpL_move (v := .slice ap ps.length cp) (by rfl) (by rfl) (by rfl) ?_
    simp only [putT, List.set]
    refine wpL_chunk 2 (by rfl) (fun Lk hLk => ?_)
    simp only [List.take, List.drop]
    refine wpV_idxA (i := 0) (by rfl) rfl rfl rfl Tryd.underlying48 info9 (M.oldA Hp) (by omega) ?_
    simp only [putT, List.set]
    refine wpV_loadA (i := 0) (v := .string (bs (ps.getD 0 []))) (by rfl) rfl rfl (M.oldA Hp) (scells_get (ps := ps) (by omega)) Tryd.underlying9 rfl ?_
    simp only [putT, List.set]
    refine wpV_nil (hLk _ (fun w23 Sw23 => ?_))
    clear hLk Lk
    simp only [List.take, List.drop]
    replace M := M.sees Sw23
    refine wpL_assign (v := .string (bs (ps.getD 0 []))) (by rfl) (by rfl) (by rfl) ?_
    simp only [putT, List.set]
    refine wpL_nil (no_panic ?_)
    refine hK21 _ _ ?_
    refine wp_ret ?_
    repeat (first | with_reducible refine then_ret ?_ | with_reducible refine inblock_ret ?_)
    refine bodyPost_ret (v := .string (bs (ps.getD 0 []))) (res1 rfl (.tmp (by rfl))) rfl ?_
    have BE := M.below
    exact ⟨by rw [rootS_1 hn1], BE⟩
  ·
   have hn0 : ps.length = 0 := of_decide_eq_true hc10
   refine wp_cond_true rfl ?_
   refine wp_seq_k (fun K24 hK24 => ?_)
   refine wp_region_seq ?_
   refine wpL_chunk 1 (by rfl) (fun Lk hLk => ?_)
   simp only [List.take, List.drop]
   refine wpV_callf (v := .string (bs (sha []))) (args := #[(.slice none 0 0)]) (by rfl) rfl Tryd.func20 (by kernel_rfl) (by kernel_rfl) rfl (fun W hW => sum0_c ((M.sees hW).oldL L0) ((M.sees hW).oldR R0_0 L0)) ?_
   simp only [putT, List.set]
   refine wpV_nil (hLk _ (fun w26 Sw26 => ?_))
   clear hLk Lk
   simp only [List.take, List.drop]
   replace M := M.sees Sw26
   refine wpL_assign (v := .string (bs (sha []))) (by rfl) (by rfl) (by rfl) ?_
   simp only [putT, List.set]
   refine wpL_nil (no_panic ?_)
   refine hK24 _ _ ?_
   refine wp_ret ?_
   repeat (first | with_reducible refine then_ret ?_ | with_reducible refine inblock_ret ?_)
   refine bodyPost_ret (v := .string (bs (sha []))) (res1 rfl (.tmp (by rfl))) rfl ?_
   have BE := M.below
   exact ⟨by rw [rootS_0 hn0], BE⟩
set_option maxHeartbeats 1000000 in
theorem Root_r {ps : List (List UInt8)} {ap : Option Addr} {np cp : Nat} {w : World} (hok : rightB ps = true) (L0 : 0 < w.heap.size) (R0_0 : w.rangeAt 0 0 kcells) (Hp : RowA w ap np cp (scells ps)) :
  Calls Tryd.prog 37 #[.slice ap np cp] w fun e w' => e = .returned (.tuple #[.string (bs (rootS ps)), .int .i64 0]) ∧ Below w.heap.size w w' := by
 obtain rfl : np = ps.length := by have := Hp.len; rwa [scells_len] at this
 go_enter Tryd.func37, Tryd.ntmps37
 have M := Mem.start w
 refine wp_seq_k (fun K1 hK1 => ?_)
 refine wp_region_seq ?_
 refine wpL_assign (v := .string (bs ([]))) (by rfl) (by rfl) (by rfl) ?_
 simp only [putT, List.set]
 refine wpL_assign (v := .int .i64 0) (by rfl) (by rfl) (by rfl) ?_
 simp only [putT, List.set]
 refine wpL_nil (no_panic ?_)
 refine hK1 _ _ ?_
 refine wp_seq_k (fun K3 hK3 => ?_)
 refine wp_seq_k (fun K4 hK4 => ?_)
 refine wp_region_seq ?_
 refine wpL_move (v := .slice ap ps.length cp) (by rfl) (by rfl) (by rfl) ?_
 simp only [putT, List.set]
 refine wpL_chunk 2 (by rfl) (fun Lk hLk => ?_)
 simp only [List.take, List.drop]
 refine wpV_callf (v := .bool true) (args := #[.slice ap ps.length cp]) (by rfl) rfl Tryd.func42 (by kernel_rfl) (by kernel_rfl) rfl (fun W hW => by have h9 : Calls Tryd.prog _ _ W _ := right_r (ps := ps)  ((M.sees hW).oldA Hp); rw [hok] at h9; exact h9) ?_
 simp only [putT, List.set]
 refine wpV_not (b := true) (by rfl) rfl rfl ?_
 simp only [Bool.not_true, Bool.not_false]
 simp only [putT, List.set]
 refine wpV_nil (hLk _ (fun w6 Sw6 => ?_))
 clear hLk Lk
 simp only [List.take, List.drop]
 replace M := M.sees Sw6
 refine wpL_nil (no_panic ?_)
 refine hK4 _ _ ?_
 refine wp_cond_false rfl ?_
 refine wp_skip ?_
 refine hK3 _ _ ?_
 refine wp_seq_k (fun K7 hK7 => ?_)
 refine wp_region_seq ?_
 refine wpL_move (v := .slice ap ps.length cp) (by rfl) (by rfl) (by rfl) ?_
 simp only [putT, List.set]
 refine wpL_chunk 1 (by rfl) (fun Lk hLk => ?_)
 simp only [List.take, List.drop]
 refine wpV_callf (v := .string (bs (rootS ps))) (args := #[.slice ap ps.length cp]) (by rfl) rfl Tryd.func75 (by kernel_rfl) (by kernel_rfl) rfl (fun W hW => by with_reducible exact root_r _ (ps := ps) rfl (of_right_len hok) (all32_mem (of_right hok)) ((M.sees hW).oldL L0) ((M.sees hW).oldR R0_0 L0) ((M.sees hW).oldA Hp)) ?_
 simp only [putT, List.set]
 refine wpV_nil (hLk _ (fun w9 Sw9 => ?_))
 clear hLk Lk
 simp only [List.take, List.drop]
 replace M := M.sees Sw9
 refine wpL_assign (v := .string (bs (rootS ps))) (by rfl) (by rfl) (by rfl) ?_
 simp only [putT, List.set]
 refine wpL_assign (v := .int .i64 0) (by rfl) (by rfl) (by rfl) ?_
 simp only [putT, List.set]
 refine wpL_nil (no_panic ?_)
 refine hK7 _ _ ?_
 refine wp_ret ?_
 repeat (first | with_reducible refine then_ret ?_ | with_reducible refine inblock_ret ?_)
 refine bodyPost_ret (v := .tuple #[.string (bs (rootS ps)), .int .i64 0]) (res2 rfl (.tmp (by rfl)) (.tmp (by rfl))) rfl ?_
 have BE := M.below
 exact ⟨rfl, BE⟩
end Go.Proofs.Yb

