import Derived.WalkKit
import Derived.WalkSpells
import Derived.Laws.Pointers
import Derived.RowKit3
import Derived.Below
import Derived.Outline
import Derived.LoopN
import Derived.Lib.Hide
import Derived.Handy
import Derived.Laws.Bits64b
import Derived.Test.YticcchgckljlnaaDoorTr7
import Derived.Test.YticcchgckljlnaaDoorTrS
import Derived.Test.YticcchgckljlnaaDoorTrP
import Derived.Test.YticcchgckljlnaaDoorJoinB
import Derived.Test.YticcchgckljlnaaDoorTr3
import Derived.Test.YticcchgckljlnaaDoorTr2
set_option linter.unusedSimpArgs false
set_option linter.unusedVariables false
namespace Go.Proofs.Yb
open Go Go.RowKit Go.Proofs.Num
open List renaming set → Z0, take → Z1, drop → Z2
open Go renaming undef → Z3, wp_seq_k → Z4, wp_cond_true → Z5, wp_cond_false → Z6
open Go.Proofs.Num renaming putT → Z7, wp_region_seq → Z8, wpL_nil → Z9, no_panic → Z10, wpL_chunk → Z11, wpL_move → Z12, wpL_assign → Z13, wpV_nil → Z14, wpV_bin → Z15, wpV_move → Z16, then_normal → Z17, wpL_store1 → Z18, wpV_val → Z19, wpV_callf → Z20
attribute [local irreducible] wpV wpN wpList
theorem of_right_len {ps : List (List UInt8)} (h : rightB ps = true) : ps.length ≤ 4096 := by
 unfold rightB at h
 rw [Bool.and_eq_true, decide_eq_true_eq] at h
 exact h.1
set_option maxHeartbeats 4000000 in
theorem root_r : ∀ (N : Nat) {ps : List (List UInt8)} {ap : Option Addr} {np cp : Nat} {w : World} (hN : ps.length = N) (h4 : ps.length ≤ 4096) (hs : ∀ s ∈ ps, s.length = 32) (L0 : 0 < w.heap.size) (R0_0 : w.rangeAt 0 0 kcells) (Hp : RowA w ap np cp (scells ps)),
  Calls Tryd.prog 75 #[.slice ap np cp] w fun e w' => e = .returned (.string (bs (rootS ps))) ∧ Below w.heap.size w w' := by
 intro N
 induction N using Nat.strongRecOn with
 | _ N ih =>
  intro ps ap np cp w hN h4 hs L0 R0_0 Hp
  subst hN
  obtain rfl : np = ps.length := by have := Hp.len; rwa [scells_len] at this
  go_enter Tryd.func75, Tryd.ntmps75
  have M := Mem.start w
  refine Z4 (fun K1 hK1 => ?_)
  refine Z8 ?_
  refine Z13 (v := .string (bs ([]))) (by rfl) (by rfl) (by rfl) ?_
  simp only [Z7,Z0]
  refine Z9 (Z10 ?_)
  refine hK1 _ _ ?_
  refine Z4 (fun K3 hK3 => ?_)
  refine Z4 (fun K4 hK4 => ?_)
  refine Z8 ?_
  refine Z12 (v := .slice ap ps.length cp) (by rfl) (by rfl) (by rfl) ?_
  simp only [Z7,Z0]
  refine Z11 1 (by rfl) (fun Lk hLk => ?_)
  simp only [Z1,Z2]
  refine wpV_lenA (n := ps.length) (by rfl) rfl rfl rfl Tryd.underlying48 ?_
  simp only [Z7,Z0]
  refine Z14 (hLk _ (fun w6 Sw6 => ?_))
  clear hLk Lk
  simp only [Z1,Z2]
  replace M := M.sees Sw6
  refine Z9 (Z10 ?_)
  refine hK4 _ _ ?_
  refine wp_block ?_
  refine Z4 (fun K7 hK7 => ?_)
  refine Z8 ?_
  refine Z11 1 (by rfl) (fun Lk hLk => ?_)
  simp only [Z1,Z2]
  refine Z15 (v := .bool (decide (ps.length = 0))) (by rfl) rfl rfl rfl (fun W => run_eqlN ps.length 0 _ _ W) ?_
  simp only [Z7,Z0]
  refine Z14 (hLk _ (fun w9 Sw9 => ?_))
  clear hLk Lk
  simp only [Z1,Z2]
  replace M := M.sees Sw9
  refine Z13 (v := .bool (decide (ps.length = 0))) (by rfl) (by rfl) (by rfl) ?_
  simp only [Z7,Z0]
  refine Z9 (Z10 ?_)
  refine hK7 _ _ ?_
  cases hc10 : (decide (ps.length = 0))
  ·
   have hn0 : ¬ ps.length = 0 := of_decide_eq_false hc10
   refine Z6 rfl ?_
   refine Z4 (fun K11 hK11 => ?_)
   refine Z8 ?_
   refine Z11 1 (by rfl) (fun Lk hLk => ?_)
   simp only [Z1,Z2]
   refine Z15 (v := .bool (decide (ps.length = 1))) (by rfl) rfl rfl rfl (fun W => run_eqlN ps.length 1 _ _ W) ?_
   simp only [Z7,Z0]
   refine Z14 (hLk _ (fun w13 Sw13 => ?_))
   clear hLk Lk
   simp only [Z1,Z2]
   replace M := M.sees Sw13
   refine Z13 (v := .bool (decide (ps.length = 1))) (by rfl) (by rfl) (by rfl) ?_
   simp only [Z7,Z0]
   refine Z9 (Z10 ?_)
   refine hK11 _ _ ?_
   cases hc14 : (decide (ps.length = 1))
   ·
    have hn1 : ¬ ps.length = 1 := of_decide_eq_false hc14
    have h2 : 2 ≤ ps.length := by omega
    obtain ⟨sb1, sb2, sb3⟩ := split_bits (n := ps.length) (by omega) h2
    have hsl := splitN_lt h2
    have hsp := splitN_pos ps.length
    refine Z6 rfl ?_
    refine wp_skip ?_
    refine hK3 _ _ ?_
    refine Z4 (fun K15 hK15 => ?_)
    refine Z8 ?_
    refine Z12 (v := .slice ap ps.length cp) (by rfl) (by rfl) (by rfl) ?_
    simp only [Z7,Z0]
    refine Z11 6 (by rfl) (fun Lk hLk => ?_)
    simp only [Z1,Z2]
    refine wpV_lenA (n := ps.length) (by rfl) rfl rfl rfl Tryd.underlying48 ?_
    simp only [Z7,Z0]
    refine Z15 (v := .int .i64 ((ps.length - 1 : Nat) : Int)) (by rfl) rfl rfl rfl (fun W => run_sub (by simp only [IntKind.wrap_i64]; omega) W) ?_
    simp only [Z7,Z0]
    refine wpV_conv (d := .bool) (e := ((ps.length - 1 : Nat) : Int)) (by rfl) rfl rfl (run_conv_int Tryd.underlying3 Tryd.underlying116 ((wrap64N _).trans (congrArg _ (Nat.mod_eq_of_lt (by omega))))) ?_
    simp only [Z7,Z0]
    refine Z20 (v := .int .i64 ((Lib.bitLen (ps.length - 1) : Nat) : Int)) (args := #[.int .u64 ((ps.length - 1 : Nat) : Int)]) (by rfl) rfl Tryd.func95 (by kernel_rfl) (by kernel_rfl) rfl (fun W hW => (((Tryd.bits_Len ((ps.length - 1 : Nat) : Int) W (by omega) (by omega)).mono fun e w' h => ⟨h.1, h.2 ▸ Below.refl _ _⟩))) ?_
    simp only [Z7,Z0]
    refine Z15 (v := .int .i64 (((Lib.bitLen (ps.length - 1)) - 1 : Nat) : Int)) (by rfl) rfl rfl rfl (fun W => run_sub (by simp only [IntKind.wrap_i64]; omega) W) ?_
    simp only [Z7,Z0]
    refine Z15 (v := .int .i64 ((splitN ps.length : Nat) : Int)) (by rfl) rfl rfl rfl (fun W => run_shl (m := 1) (n := Lib.bitLen (ps.length - 1) - 1) (by show _ ≤ 64; omega) (by rw [Nat.one_mul, sb3]; simp only [IntKind.wrap_i64]; omega) W) ?_
    simp only [Z7,Z0]
    refine Z14 (hLk _ (fun w17 Sw17 => ?_))
    clear hLk Lk
    simp only [Z1,Z2]
    replace M := M.sees Sw17
    refine Z13 (v := .int .i64 ((splitN ps.length : Nat) : Int)) (by rfl) (by rfl) (by rfl) ?_
    simp only [Z7,Z0]
    refine Z9 (Z10 ?_)
    refine hK15 _ _ ?_
    refine Z4 (fun K18 hK18 => ?_)
    refine wp_region_grow 9 [] (by kernel_rfl) (by kernel_rfl) (by kernel_rfl) (fun Lk hLk => ?_)
    simp only [Z1,Z2]
    refine Z16 (v := .slice ap ps.length cp) (by rfl) rfl rfl ?_
    simp only [Z7,Z0]
    refine Z16 (v := .int .i64 ((splitN ps.length : Nat) : Int)) (by rfl) rfl rfl ?_
    simp only [Z7,Z0]
    refine wpV_slcH (hi := splitN ps.length) (by rfl) rfl rfl rfl Tryd.underlying48 info9 (Nat.le_trans (Nat.le_of_lt hsl) (M.oldA Hp).cap) ?_
    simp only [Z7,Z0]
    refine Z20 (v := .string (bs (rootS (ps.take (splitN ps.length))))) (args := #[.slice ap (splitN ps.length) cp]) (by rfl) rfl Tryd.func75 (by kernel_rfl) (by kernel_rfl) rfl (fun W hW => ih (ps.take (splitN ps.length)).length (by rw [List.length_take]; omega) (ps := ps.take (splitN ps.length)) rfl (by rw [List.length_take]; omega) (fun s9 h9 => hs s9 (List.mem_of_mem_take h9)) ((M.sees hW).oldL L0) ((M.sees hW).oldR R0_0 L0) ((((M.sees hW).oldA Hp).take (Nat.le_of_lt hsl)).eq (scells_take2 _ _))) ?_
    simp only [Z7,Z0]
    refine Z16 (v := .slice ap ps.length cp) (by rfl) rfl rfl ?_
    simp only [Z7,Z0]
    refine Z16 (v := .int .i64 ((splitN ps.length : Nat) : Int)) (by rfl) rfl rfl ?_
    simp only [Z7,Z0]
    refine wpV_slcL (lo := splitN ps.length) (by rfl) rfl rfl rfl Tryd.underlying48 info9 (Nat.le_of_lt hsl) ?_
    simp only [Z7,Z0]
    refine Z20 (v := .string (bs (rootS (ps.drop (splitN ps.length))))) (args := #[.slice (slA ap (splitN ps.length) cp) (ps.length - (splitN ps.length)) (cp - (splitN ps.length))]) (by rfl) rfl Tryd.func75 (by kernel_rfl) (by kernel_rfl) rfl (fun W hW => ih (ps.drop (splitN ps.length)).length (by rw [List.length_drop]; omega) (ps := ps.drop (splitN ps.length)) rfl (by rw [List.length_drop]; omega) (fun s9 h9 => hs s9 (List.mem_of_mem_drop h9)) ((M.sees hW).oldL L0) ((M.sees hW).oldR R0_0 L0) ((((M.sees hW).oldA Hp).drop (Nat.le_of_lt hsl)).eq (scells_drop2 _ _))) ?_
    simp only [Z7,Z0]
    refine Z20 (v := .string (bs (nodeS (rootS (ps.take (splitN ps.length))) (rootS (ps.drop (splitN ps.length)))))) (args := #[.string (bs (rootS (ps.take (splitN ps.length)))), .string (bs (rootS (ps.drop (splitN ps.length))))]) (by rfl) rfl Tryd.func40 (by kernel_rfl) (by kernel_rfl) rfl (fun W hW => node_c (a := rootS (ps.take (splitN ps.length))) (b := rootS (ps.drop (splitN ps.length))) (by rw [rootS_len (fun s9 h9 => hs s9 (List.mem_of_mem_take h9))]; decide) (by rw [rootS_len (fun s9 h9 => hs s9 (List.mem_of_mem_drop h9))]; decide) ((M.sees hW).oldL L0) ((M.sees hW).oldR R0_0 L0)) ?_
    simp only [Z7,Z0]
    refine Z14 (hLk.out _ ?_)
    clear hLk Lk
    simp only [Z1,Z2]
    iterate 9 refine wpN_skip (by rfl) ?_
    refine wpN_nil (fun w20 Sw20 hbs => ?_)
    clear hbs
    replace M := M.sees Sw20
    refine Z13 (v := .string (bs (nodeS (rootS (ps.take (splitN ps.length))) (rootS (ps.drop (splitN ps.length)))))) (by rfl) (by rfl) (by rfl) ?_
    simp only [Z7,Z0]
    refine Z9 (Z10 ?_)
    refine hK18 _ _ ?_
    refine wp_ret ?_
    repeat (first | with_reducible refine then_ret ?_ | with_reducible refine inblock_ret ?_)
    refine bodyPost_ret (v := .string (bs (nodeS (rootS (ps.take (splitN ps.length))) (rootS (ps.drop (splitN ps.length)))))) (res1 rfl (.tmp (by rfl))) rfl ?_
    have BE := M.below
    exact ⟨by rw [rootS_2 h2], BE⟩
   ·
    have hn1 : ps.length = 1 := of_decide_eq_true hc14
    refine Z5 rfl ?_
    refine Z4 (fun K21 hK21 => ?_)
    refine Z8 ?_
    refine Z12 (v := .slice ap ps.length cp) (by rfl) (by rfl) (by rfl) ?_
    simp only [Z7,Z0]
    refine Z11 2 (by rfl) (fun Lk hLk => ?_)
    simp only [Z1,Z2]
    refine wpV_idxA (i := 0) (by rfl) rfl rfl rfl Tryd.underlying48 info9 (M.oldA Hp) (by omega) ?_
    simp only [Z7,Z0]
    refine wpV_loadA (i := 0) (v := .string (bs (ps.getD 0 []))) (by rfl) rfl rfl (M.oldA Hp) (scells_get (ps := ps) (by omega)) Tryd.underlying9 rfl ?_
    simp only [Z7,Z0]
    refine Z14 (hLk _ (fun w23 Sw23 => ?_))
    clear hLk Lk
    simp only [Z1,Z2]
    replace M := M.sees Sw23
    refine Z13 (v := .string (bs (ps.getD 0 []))) (by rfl) (by rfl) (by rfl) ?_
    simp only [Z7,Z0]
    refine Z9 (Z10 ?_)
    refine hK21 _ _ ?_
    refine wp_ret ?_
    repeat (first | with_reducible refine then_ret ?_ | with_reducible refine inblock_ret ?_)
    refine bodyPost_ret (v := .string (bs (ps.getD 0 []))) (res1 rfl (.tmp (by rfl))) rfl ?_
    have BE := M.below
    exact ⟨by rw [rootS_1 hn1], BE⟩
  ·
   have hn0 : ps.length = 0 := of_decide_eq_true hc10
   refine Z5 rfl ?_
   refine Z4 (fun K24 hK24 => ?_)
   refine Z8 ?_
   refine Z11 1 (by rfl) (fun Lk hLk => ?_)
   simp only [Z1,Z2]
   refine Z20 (v := .string (bs (sha []))) (args := #[(.slice none 0 0)]) (by rfl) rfl Tryd.func20 (by kernel_rfl) (by kernel_rfl) rfl (fun W hW => sum0_c ((M.sees hW).oldL L0) ((M.sees hW).oldR R0_0 L0)) ?_
   simp only [Z7,Z0]
   refine Z14 (hLk _ (fun w26 Sw26 => ?_))
   clear hLk Lk
   simp only [Z1,Z2]
   replace M := M.sees Sw26
   refine Z13 (v := .string (bs (sha []))) (by rfl) (by rfl) (by rfl) ?_
   simp only [Z7,Z0]
   refine Z9 (Z10 ?_)
   refine hK24 _ _ ?_
   refine wp_ret ?_
   repeat (first | with_reducible refine then_ret ?_ | with_reducible refine inblock_ret ?_)
   refine bodyPost_ret (v := .string (bs (sha []))) (res1 rfl (.tmp (by rfl))) rfl ?_
   have BE := M.below
   exact ⟨by rw [rootS_0 hn0], BE⟩
set_option maxHeartbeats 1000000 in
theorem Root_r {ps : List (List UInt8)} {ap : Option Addr} {np cp : Nat} {w : World} (hok : rightB ps = true) (L0 : 0 < w.heap.size) (R0_0 : w.rangeAt 0 0 kcells) (Hp : RowA w ap np cp (scells ps)) :
  Calls Tryd.prog 37 #[.slice ap np cp] w fun e w' => e = .returned (.tuple #[.string (bs (rootS ps)), .int .i64 0]) ∧ Below w.heap.size w w' := by
 obtain rfl : np = ps.length := by have := Hp.len; rwa [scells_len] at this
 go_enter Tryd.func37, Tryd.ntmps37
 have M := Mem.start w
 refine Z4 (fun K1 hK1 => ?_)
 refine Z8 ?_
 refine Z13 (v := .string (bs ([]))) (by rfl) (by rfl) (by rfl) ?_
 simp only [Z7,Z0]
 refine Z13 (v := .int .i64 0) (by rfl) (by rfl) (by rfl) ?_
 simp only [Z7,Z0]
 refine Z9 (Z10 ?_)
 refine hK1 _ _ ?_
 refine Z4 (fun K3 hK3 => ?_)
 refine Z4 (fun K4 hK4 => ?_)
 refine Z8 ?_
 refine Z12 (v := .slice ap ps.length cp) (by rfl) (by rfl) (by rfl) ?_
 simp only [Z7,Z0]
 refine Z11 2 (by rfl) (fun Lk hLk => ?_)
 simp only [Z1,Z2]
 refine Z20 (v := .bool true) (args := #[.slice ap ps.length cp]) (by rfl) rfl Tryd.func42 (by kernel_rfl) (by kernel_rfl) rfl (fun W hW => by have h9 : Calls Tryd.prog _ _ W _ := right_r (ps := ps)  ((M.sees hW).oldA Hp); rw [hok] at h9; exact h9) ?_
 simp only [Z7,Z0]
 refine wpV_not (b := true) (by rfl) rfl rfl ?_
 simp only [Bool.not_true, Bool.not_false]
 simp only [Z7,Z0]
 refine Z14 (hLk _ (fun w6 Sw6 => ?_))
 clear hLk Lk
 simp only [Z1,Z2]
 replace M := M.sees Sw6
 refine Z9 (Z10 ?_)
 refine hK4 _ _ ?_
 refine Z6 rfl ?_
 refine wp_skip ?_
 refine hK3 _ _ ?_
 refine Z4 (fun K7 hK7 => ?_)
 refine Z8 ?_
 refine Z12 (v := .slice ap ps.length cp) (by rfl) (by rfl) (by rfl) ?_
 simp only [Z7,Z0]
 refine Z11 1 (by rfl) (fun Lk hLk => ?_)
 simp only [Z1,Z2]
 refine Z20 (v := .string (bs (rootS ps))) (args := #[.slice ap ps.length cp]) (by rfl) rfl Tryd.func75 (by kernel_rfl) (by kernel_rfl) rfl (fun W hW => by with_reducible exact root_r _ (ps := ps) rfl (of_right_len hok) (all32_mem (of_right hok)) ((M.sees hW).oldL L0) ((M.sees hW).oldR R0_0 L0) ((M.sees hW).oldA Hp)) ?_
 simp only [Z7,Z0]
 refine Z14 (hLk _ (fun w9 Sw9 => ?_))
 clear hLk Lk
 simp only [Z1,Z2]
 replace M := M.sees Sw9
 refine Z13 (v := .string (bs (rootS ps))) (by rfl) (by rfl) (by rfl) ?_
 simp only [Z7,Z0]
 refine Z13 (v := .int .i64 0) (by rfl) (by rfl) (by rfl) ?_
 simp only [Z7,Z0]
 refine Z9 (Z10 ?_)
 refine hK7 _ _ ?_
 refine wp_ret ?_
 repeat (first | with_reducible refine then_ret ?_ | with_reducible refine inblock_ret ?_)
 refine bodyPost_ret (v := .tuple #[.string (bs (rootS ps)), .int .i64 0]) (res2 rfl (.tmp (by rfl)) (.tmp (by rfl))) rfl ?_
 have BE := M.below
 exact ⟨rfl, BE⟩
set_option maxHeartbeats 4000000 in
theorem rroot_r : ∀ (N : Nat) {ps : List (List UInt8)} {ap : Option Addr} {np cp : Nat} {w : World} (hN : ps.length = N) (h4 : ps.length ≤ 4096) (hs : ∀ s ∈ ps, s.length = 32)  (Hp : RowA w ap np cp (scells ps)),
  Calls Tryd.prog 45 #[.slice ap np cp] w fun e w' => e = .returned (.string (bs (rootS ps))) ∧ Below w.heap.size w w' := by
 intro N
 induction N using Nat.strongRecOn with
 | _ N ih =>
  intro ps ap np cp w hN h4 hs Hp
  subst hN
  obtain rfl : np = ps.length := by have := Hp.len; rwa [scells_len] at this
  go_enter Tryd.func45, Tryd.ntmps45
  have M := Mem.start w
  refine Z4 (fun K1 hK1 => ?_)
  refine Z8 ?_
  refine Z13 (v := .string (bs ([]))) (by rfl) (by rfl) (by rfl) ?_
  simp only [Z7,Z0]
  refine Z9 (Z10 ?_)
  refine hK1 _ _ ?_
  refine Z4 (fun K3 hK3 => ?_)
  refine Z4 (fun K4 hK4 => ?_)
  refine Z8 ?_
  refine Z12 (v := .slice ap ps.length cp) (by rfl) (by rfl) (by rfl) ?_
  simp only [Z7,Z0]
  refine Z11 2 (by rfl) (fun Lk hLk => ?_)
  simp only [Z1,Z2]
  refine wpV_lenA (n := ps.length) (by rfl) rfl rfl rfl Tryd.underlying48 ?_
  simp only [Z7,Z0]
  refine Z15 (v := .bool (decide (ps.length = 0))) (by rfl) rfl rfl rfl (fun W => run_eqlN ps.length 0 _ _ W) ?_
  simp only [Z7,Z0]
  refine Z14 (hLk _ (fun w6 Sw6 => ?_))
  clear hLk Lk
  simp only [Z1,Z2]
  replace M := M.sees Sw6
  refine Z9 (Z10 ?_)
  refine hK4 _ _ ?_
  cases hc7 : (decide (ps.length = 0))
  ·
   have hn0 : ¬ ps.length = 0 := of_decide_eq_false hc7
   refine Z6 rfl ?_
   refine wp_skip ?_
   refine hK3 _ _ ?_
   refine Z4 (fun K8 hK8 => ?_)
   refine Z4 (fun K9 hK9 => ?_)
   refine Z8 ?_
   refine Z12 (v := .slice ap ps.length cp) (by rfl) (by rfl) (by rfl) ?_
   simp only [Z7,Z0]
   refine Z11 2 (by rfl) (fun Lk hLk => ?_)
   simp only [Z1,Z2]
   refine wpV_lenA (n := ps.length) (by rfl) rfl rfl rfl Tryd.underlying48 ?_
   simp only [Z7,Z0]
   refine Z15 (v := .bool (decide (ps.length = 1))) (by rfl) rfl rfl rfl (fun W => run_eqlN ps.length 1 _ _ W) ?_
   simp only [Z7,Z0]
   refine Z14 (hLk _ (fun w11 Sw11 => ?_))
   clear hLk Lk
   simp only [Z1,Z2]
   replace M := M.sees Sw11
   refine Z9 (Z10 ?_)
   refine hK9 _ _ ?_
   cases hc12 : (decide (ps.length = 1))
   ·
    have hn1 : ¬ ps.length = 1 := of_decide_eq_false hc12
    have h2 : 2 ≤ ps.length := by omega
    obtain ⟨sb1, sb2, sb3⟩ := split_bits (n := ps.length) (by omega) h2
    have hsl := splitN_lt h2
    have hsp := splitN_pos ps.length
    refine Z6 rfl ?_
    refine wp_skip ?_
    refine hK8 _ _ ?_
    refine Z4 (fun K13 hK13 => ?_)
    refine Z8 ?_
    refine Z12 (v := .slice ap ps.length cp) (by rfl) (by rfl) (by rfl) ?_
    simp only [Z7,Z0]
    refine Z11 2 (by rfl) (fun Lk hLk => ?_)
    simp only [Z1,Z2]
    refine wpV_lenA (n := ps.length) (by rfl) rfl rfl rfl Tryd.underlying48 ?_
    simp only [Z7,Z0]
    refine Z20 (v := .int .i64 ((splitN ps.length : Nat) : Int)) (args := #[.int .i64 ((ps.length : Nat) : Int)]) (by rfl) rfl Tryd.func54 (by kernel_rfl) (by kernel_rfl) rfl (fun W hW => rsplit_c (n := ps.length) h2 (by omega)) ?_
    simp only [Z7,Z0]
    refine Z14 (hLk _ (fun w15 Sw15 => ?_))
    clear hLk Lk
    simp only [Z1,Z2]
    replace M := M.sees Sw15
    refine Z13 (v := .int .i64 ((splitN ps.length : Nat) : Int)) (by rfl) (by rfl) (by rfl) ?_
    simp only [Z7,Z0]
    refine Z9 (Z10 ?_)
    refine hK13 _ _ ?_
    refine Z4 (fun K16 hK16 => ?_)
    refine wp_region_grow 9 [] (by kernel_rfl) (by kernel_rfl) (by kernel_rfl) (fun Lk hLk => ?_)
    simp only [Z1,Z2]
    refine Z16 (v := .slice ap ps.length cp) (by rfl) rfl rfl ?_
    simp only [Z7,Z0]
    refine Z16 (v := .int .i64 ((splitN ps.length : Nat) : Int)) (by rfl) rfl rfl ?_
    simp only [Z7,Z0]
    refine wpV_slcH (hi := splitN ps.length) (by rfl) rfl rfl rfl Tryd.underlying48 info9 (Nat.le_trans (Nat.le_of_lt hsl) (M.oldA Hp).cap) ?_
    simp only [Z7,Z0]
    refine Z20 (v := .string (bs (rootS (ps.take (splitN ps.length))))) (args := #[.slice ap (splitN ps.length) cp]) (by rfl) rfl Tryd.func45 (by kernel_rfl) (by kernel_rfl) rfl (fun W hW => ih (ps.take (splitN ps.length)).length (by rw [List.length_take]; omega) (ps := ps.take (splitN ps.length)) rfl (by rw [List.length_take]; omega) (fun s9 h9 => hs s9 (List.mem_of_mem_take h9))  ((((M.sees hW).oldA Hp).take (Nat.le_of_lt hsl)).eq (scells_take2 _ _))) ?_
    simp only [Z7,Z0]
    refine Z16 (v := .slice ap ps.length cp) (by rfl) rfl rfl ?_
    simp only [Z7,Z0]
    refine Z16 (v := .int .i64 ((splitN ps.length : Nat) : Int)) (by rfl) rfl rfl ?_
    simp only [Z7,Z0]
    refine wpV_slcL (lo := splitN ps.length) (by rfl) rfl rfl rfl Tryd.underlying48 info9 (Nat.le_of_lt hsl) ?_
    simp only [Z7,Z0]
    refine Z20 (v := .string (bs (rootS (ps.drop (splitN ps.length))))) (args := #[.slice (slA ap (splitN ps.length) cp) (ps.length - (splitN ps.length)) (cp - (splitN ps.length))]) (by rfl) rfl Tryd.func45 (by kernel_rfl) (by kernel_rfl) rfl (fun W hW => ih (ps.drop (splitN ps.length)).length (by rw [List.length_drop]; omega) (ps := ps.drop (splitN ps.length)) rfl (by rw [List.length_drop]; omega) (fun s9 h9 => hs s9 (List.mem_of_mem_drop h9))  ((((M.sees hW).oldA Hp).drop (Nat.le_of_lt hsl)).eq (scells_drop2 _ _))) ?_
    simp only [Z7,Z0]
    refine Z20 (v := .string (bs (nodeS (rootS (ps.take (splitN ps.length))) (rootS (ps.drop (splitN ps.length)))))) (args := #[.string (bs (rootS (ps.take (splitN ps.length)))), .string (bs (rootS (ps.drop (splitN ps.length))))]) (by rfl) rfl Tryd.func41 (by kernel_rfl) (by kernel_rfl) rfl (fun W hW => rnode_c (a := rootS (ps.take (splitN ps.length))) (b := rootS (ps.drop (splitN ps.length))) (by rw [rootS_len (fun s9 h9 => hs s9 (List.mem_of_mem_take h9))]; decide) (by rw [rootS_len (fun s9 h9 => hs s9 (List.mem_of_mem_drop h9))]; decide)) ?_
    simp only [Z7,Z0]
    refine Z14 (hLk.out _ ?_)
    clear hLk Lk
    simp only [Z1,Z2]
    iterate 9 refine wpN_skip (by rfl) ?_
    refine wpN_nil (fun w18 Sw18 hbs => ?_)
    clear hbs
    replace M := M.sees Sw18
    refine Z13 (v := .string (bs (nodeS (rootS (ps.take (splitN ps.length))) (rootS (ps.drop (splitN ps.length)))))) (by rfl) (by rfl) (by rfl) ?_
    simp only [Z7,Z0]
    refine Z9 (Z10 ?_)
    refine hK16 _ _ ?_
    refine wp_ret ?_
    repeat (first | with_reducible refine then_ret ?_ | with_reducible refine inblock_ret ?_)
    refine bodyPost_ret (v := .string (bs (nodeS (rootS (ps.take (splitN ps.length))) (rootS (ps.drop (splitN ps.length)))))) (res1 rfl (.tmp (by rfl))) rfl ?_
    have BE := M.below
    exact ⟨by rw [rootS_2 h2], BE⟩
   ·
    have hn1 : ps.length = 1 := of_decide_eq_true hc12
    refine Z5 rfl ?_
    refine Z4 (fun K19 hK19 => ?_)
    refine Z8 ?_
    refine Z12 (v := .slice ap ps.length cp) (by rfl) (by rfl) (by rfl) ?_
    simp only [Z7,Z0]
    refine Z11 2 (by rfl) (fun Lk hLk => ?_)
    simp only [Z1,Z2]
    refine wpV_idxA (i := 0) (by rfl) rfl rfl rfl Tryd.underlying48 info9 (M.oldA Hp) (by omega) ?_
    simp only [Z7,Z0]
    refine wpV_loadA (i := 0) (v := .string (bs (ps.getD 0 []))) (by rfl) rfl rfl (M.oldA Hp) (scells_get (ps := ps) (by omega)) Tryd.underlying9 rfl ?_
    simp only [Z7,Z0]
    refine Z14 (hLk _ (fun w21 Sw21 => ?_))
    clear hLk Lk
    simp only [Z1,Z2]
    replace M := M.sees Sw21
    refine Z13 (v := .string (bs (ps.getD 0 []))) (by rfl) (by rfl) (by rfl) ?_
    simp only [Z7,Z0]
    refine Z9 (Z10 ?_)
    refine hK19 _ _ ?_
    refine wp_ret ?_
    repeat (first | with_reducible refine then_ret ?_ | with_reducible refine inblock_ret ?_)
    refine bodyPost_ret (v := .string (bs (ps.getD 0 []))) (res1 rfl (.tmp (by rfl))) rfl ?_
    have BE := M.below
    exact ⟨by rw [rootS_1 hn1], BE⟩
  ·
   have hn0 : ps.length = 0 := of_decide_eq_true hc7
   refine Z5 rfl ?_
   refine Z4 (fun K22 hK22 => ?_)
   refine Z8 ?_
   refine Z11 1 (by rfl) (fun Lk hLk => ?_)
   simp only [Z1,Z2]
   refine Z20 (v := .string (bs (sha ([])))) (args := #[.string (bs ([]))]) (by rfl) rfl Tryd.func21 (by kernel_rfl) (by kernel_rfl) rfl (fun W hW => rsum_c (l := []) (by decide)) ?_
   simp only [Z7,Z0]
   refine Z14 (hLk _ (fun w24 Sw24 => ?_))
   clear hLk Lk
   simp only [Z1,Z2]
   replace M := M.sees Sw24
   refine Z13 (v := .string (bs (sha ([])))) (by rfl) (by rfl) (by rfl) ?_
   simp only [Z7,Z0]
   refine Z9 (Z10 ?_)
   refine hK22 _ _ ?_
   refine wp_ret ?_
   repeat (first | with_reducible refine then_ret ?_ | with_reducible refine inblock_ret ?_)
   refine bodyPost_ret (v := .string (bs (sha ([])))) (res1 rfl (.tmp (by rfl))) rfl ?_
   have BE := M.below
   exact ⟨by rw [rootS_0 hn0], BE⟩
end Go.Proofs.Yb

