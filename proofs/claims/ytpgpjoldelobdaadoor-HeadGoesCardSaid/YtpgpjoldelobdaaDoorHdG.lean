import Derived.WalkKit
import Derived.WalkSpells
import Derived.Laws.Pointers
import Derived.RowKit3
import Derived.Below
import Derived.Outline
import Derived.LoopN
import Derived.Lib.Hide
import Derived.Handy
import Derived.Laws.Bits64b
import Derived.Test.YtpgpjoldelobdaaDoorToB
import Derived.Test.YtpgpjoldelobdaaDoorTrQ
import Derived.Test.YtpgpjoldelobdaaDoorSteps11
import Derived.Test.YtpgpjoldelobdaaDoorF3
import Derived.Test.YtpgpjoldelobdaaDoorHdB
import Derived.Test.YtpgpjoldelobdaaDoorShq
set_option linter.unusedSimpArgs false
set_option linter.unusedVariables false
namespace Go.Proofs.Yc
open Go Go.RowKit Go.Proofs.Num
open Tryd renaming func117 → G9117, func120 → G9120, underlying37 → U937, underlying9 → U99
open Go.Proofs.Num  renaming putT → Z0
open List renaming set → Z6
open Go renaming undef → Z9
open Go.Proofs.Num renaming wp_region_seq → Z13, wpL_nil → Z14, no_panic → Z15
attribute [local irreducible] wpV wpN wpList
theorem drop_get {ps : List (List UInt8)} {k : Nat} (hk : k < ps.length) : ps.drop k = ps.getD k [] :: ps.drop (k + 1) := by
 rw [List.drop_eq_getElem_cons hk, List.getD_eq_getElem?_getD, List.getElem?_eq_getElem hk]; rfl
section
variable {σ : Type} {f : Bool → List UInt8 → σ → σ}
theorem walkG_stop {ps : List (List UInt8)} {k a l : Nat} {s : σ} (hk : k < ps.length) (hl : l = 0) : walkF f (ps.drop k) a l s = (false, s) := by
 rw [drop_get hk, walkF, if_pos hl]
theorem walkG_no {ps : List (List UInt8)} {k a l : Nat} {s : σ} {r : Bool × σ} (hk : k < ps.length) (hl : ¬ l = 0) (h : ¬ (a % 2 = 1 ∨ a = l)) (hW : r = walkF f (ps.drop k) a l s) : r = walkF f (ps.drop (k + 1)) (a / 2 ^ 1) (l / 2 ^ 1) (f false (ps.getD k []) s) := by
 rw [hW, drop_get hk, walkF, if_neg hl, if_neg h]
theorem walkG_yes {ps : List (List UInt8)} {k a l a2 l2 : Nat} {s : σ} {r : Bool × σ} (hk : k < ps.length) (hl : ¬ l = 0) (h : a % 2 = 1 ∨ a = l) (hz : skipZ a2 l2 = skipZ a l) (hzz : skipZ a2 l2 = (a2, l2)) (hW : r = walkF f (ps.drop k) a l s) : r = walkF f (ps.drop (k + 1)) (a2 / 2 ^ 1) (l2 / 2 ^ 1) (f true (ps.getD k []) s) := by
 rw [hW, drop_get hk, walkF, if_neg hl, if_pos h, ← hz, hzz]
end
set_option maxHeartbeats 1000000 in
theorem joined_t {x s0 : List UInt8} {w : World} (hx : x.length = 32) (hs : s0.length = 32) (L1 : 1 < w.heap.size) (R1_0 : w.rangeAt 1 0 kcells) :
  Calls Tryd.prog 118 #[.bool true, .string (bs x), .string (bs s0)] w fun e w' => e = .returned (.string (bs (nodeS x s0))) ∧ Below w.heap.size w w' := by
 go_enter Tryd.func118, Tryd.ntmps118
 have M := Mem.start w
 refine qS fun _ k1 => ?_
 refine lg ?_; refine lZ k1 ?_
 refine sk fun _ _ => ?_
 refine qS fun _ k4 => ?_
 refine lM ?_; refine lZ k4 ?_; refine cT ?_
 refine qS fun _ k6 => ?_
 refine lM ?_; refine lM ?_
 refine cM 1 fun Lk hLk => ?_
 refine vCh (v := .string (bs (nodeS x s0))) (fun W hW => Tnode_c (a := x) (b := s0) (by omega) (by omega) ((M.sees hW).oldL L1) ((M.sees hW).oldR R1_0 L1)) ?_
 refine hLk _ fun w8 M => ?_
 refine lg ?_; refine lZ k6 ?_; refine rt1 ?_
 exact ⟨rfl, M.below⟩
set_option maxHeartbeats 1000000 in
theorem joined_f {x s0 : List UInt8} {w : World} (hx : x.length = 32) (hs : s0.length = 32) (L1 : 1 < w.heap.size) (R1_0 : w.rangeAt 1 0 kcells) :
  Calls Tryd.prog 118 #[.bool false, .string (bs x), .string (bs s0)] w fun e w' => e = .returned (.string (bs (nodeS s0 x))) ∧ Below w.heap.size w w' := by
 go_enter Tryd.func118, Tryd.ntmps118
 have M := Mem.start w
 refine qS fun _ k1 => ?_
 refine lg ?_; refine lZ k1 ?_
 refine sk fun _ k3 => ?_
 refine qS fun _ k4 => ?_
 refine lM ?_; refine lZ k4 ?_; refine cF ?_; refine sZ k3 ?_
 refine qS fun _ k6 => ?_
 refine lM ?_; refine lM ?_
 refine cM 1 fun Lk hLk => ?_
 refine vCh (v := .string (bs (nodeS s0 x))) (fun W hW => Tnode_c (a := s0) (b := x) (by omega) (by omega) ((M.sees hW).oldL L1) ((M.sees hW).oldR R1_0 L1)) ?_
 refine hLk _ fun w8 M => ?_
 refine lg ?_; refine lZ k6 ?_; refine rt1 ?_
 exact ⟨rfl, M.below⟩
set_option maxHeartbeats 1000000 in
theorem fol2_t {g : Nat} {x s0 : List UInt8} {w : World} (hx : x.length = 32) (hs : s0.length = 32) (hg0 : g ≠ 1) (L1 : 1 < w.heap.size) (R1_0 : w.rangeAt 1 0 kcells) (hM : Mem [g] w w [⟨g, 1, [(0, [.string (bs s0)])]⟩]) :
  Calls Tryd.prog 120 #[.bool true, .string (bs x), .pointer (some ⟨g, 0, none⟩)] w fun e w' => ∃ v, e = .returned v ∧ v = .tuple #[] ∧ Mem [g] w w' [⟨g, 1, [(0, [.string (bs (nodeS x s0))])]⟩] := by
 go_enter G9120, Tryd.ntmps120
 have M := hM
 refine Z13 ?_; refine lM ?_; refine lM ?_; refine lc ?_
 refine cM 1 fun Lk hLk => ?_
 refine vCh (v := .string (bs (nodeS x s0))) (args := #[.bool true, .string (bs x), .string (bs s0)]) (fun W hW => by with_reducible exact joined_t (x := x) (s0 := s0) hx hs ((M.sees hW).oldL L1) ((M.sees hW).oldG R1_0 L1 (by simpa using Ne.symm hg0))) ?_
 refine hLk _ fun w2 M => ?_
 refine sT1 0 0 fun w3 M => ?_
 refine Z14 (Z15 ?_)
 repeat (first | with_reducible refine then_exit ?_ | with_reducible refine inblock_exit ?_)
 refine bodyPost_end (v := .tuple #[]) (results_none rfl _ _ _) rfl ?_
 exact ⟨_, rfl, rfl, M⟩
set_option maxHeartbeats 1000000 in
theorem fol2_f {g : Nat} {x s0 : List UInt8} {w : World} (hx : x.length = 32) (hs : s0.length = 32) (hg0 : g ≠ 1) (L1 : 1 < w.heap.size) (R1_0 : w.rangeAt 1 0 kcells) (hM : Mem [g] w w [⟨g, 1, [(0, [.string (bs s0)])]⟩]) :
  Calls Tryd.prog 120 #[.bool false, .string (bs x), .pointer (some ⟨g, 0, none⟩)] w fun e w' => ∃ v, e = .returned v ∧ v = .tuple #[] ∧ Mem [g] w w' [⟨g, 1, [(0, [.string (bs (nodeS s0 x))])]⟩] := by
 go_enter G9120, Tryd.ntmps120
 have M := hM
 refine Z13 ?_; refine lM ?_; refine lM ?_; refine lc ?_
 refine cM 1 fun Lk hLk => ?_
 refine vCh (v := .string (bs (nodeS s0 x))) (args := #[.bool false, .string (bs x), .string (bs s0)]) (fun W hW => by with_reducible exact joined_f (x := x) (s0 := s0) hx hs ((M.sees hW).oldL L1) ((M.sees hW).oldG R1_0 L1 (by simpa using Ne.symm hg0))) ?_
 refine hLk _ fun w2 M => ?_
 refine sT1 0 0 fun w3 M => ?_
 refine Z14 (Z15 ?_)
 repeat (first | with_reducible refine then_exit ?_ | with_reducible refine inblock_exit ?_)
 refine bodyPost_end (v := .tuple #[]) (results_none rfl _ _ _) rfl ?_
 exact ⟨_, rfl, rfl, M⟩
set_option maxHeartbeats 1000000 in
theorem fol1_t {g h : Nat} {x sa sb : List UInt8} {w : World} (hx : x.length = 32) (hsa : sa.length = 32) (hsb : sb.length = 32) (hg0 : g ≠ 1) (hh0 : h ≠ 1) (L1 : 1 < w.heap.size) (R1_0 : w.rangeAt 1 0 kcells) (hM : Mem [g, h] w w [⟨g, 1, [(0, [.string (bs sb)])]⟩, ⟨h, 1, [(0, [.string (bs sa)])]⟩]) :
  Calls Tryd.prog 117 #[.bool true, .string (bs x), .pointer (some ⟨g, 0, none⟩), .pointer (some ⟨h, 0, none⟩)] w fun e w' => ∃ v, e = .returned v ∧ v = .tuple #[] ∧ Mem [g, h] w w' [⟨g, 1, [(0, [.string (bs (nodeS x sb))])]⟩, ⟨h, 1, [(0, [.string (bs (nodeS x sa))])]⟩] := by
 go_enter G9117, Tryd.ntmps117
 have M := hM
 refine qS fun _ k1 => ?_
 refine lM ?_; refine lM ?_; refine lc ?_
 refine cM 1 fun Lk hLk => ?_
 refine vCh (v := .string (bs (nodeS x sb))) (args := #[.bool true, .string (bs x), .string (bs sb)]) (fun W hW => by with_reducible exact joined_t (x := x) (s0 := sb) hx hsb ((M.sees hW).oldL L1) ((M.sees hW).oldG R1_0 L1 (by simp; omega))) ?_
 refine hLk _ fun w3 M => ?_
 refine sT1 0 0 fun w4 M => ?_
 refine lZ k1 ?_
 refine qS fun _ k5 => ?_
 refine lM ?_; refine lZ k5 ?_; refine cT ?_; refine Z13 ?_; refine lM ?_; refine lc ?_
 refine cM 1 fun Lk hLk => ?_
 refine vCh (v := .string (bs (nodeS x sa))) (fun W hW => Tnode_c (a := x) (b := sa) (by omega) (by omega) ((M.sees hW).oldL L1) ((M.sees hW).oldG R1_0 L1 (by simp; omega))) ?_
 refine hLk _ fun w8 M => ?_
 refine sT1 1 0 fun w9 M => ?_
 refine Z14 (Z15 ?_)
 repeat (first | with_reducible refine then_exit ?_ | with_reducible refine inblock_exit ?_)
 refine bodyPost_end (v := .tuple #[]) (results_none rfl _ _ _) rfl ?_
 exact ⟨_, rfl, rfl, M⟩
set_option maxHeartbeats 1000000 in
theorem fol1_f {g h : Nat} {x sa sb : List UInt8} {w : World} (hx : x.length = 32) (hsa : sa.length = 32) (hsb : sb.length = 32) (hg0 : g ≠ 1) (hh0 : h ≠ 1) (L1 : 1 < w.heap.size) (R1_0 : w.rangeAt 1 0 kcells) (hM : Mem [g, h] w w [⟨g, 1, [(0, [.string (bs sb)])]⟩, ⟨h, 1, [(0, [.string (bs sa)])]⟩]) :
  Calls Tryd.prog 117 #[.bool false, .string (bs x), .pointer (some ⟨g, 0, none⟩), .pointer (some ⟨h, 0, none⟩)] w fun e w' => ∃ v, e = .returned v ∧ v = .tuple #[] ∧ Mem [g, h] w w' [⟨g, 1, [(0, [.string (bs (nodeS sb x))])]⟩, ⟨h, 1, [(0, [.string (bs sa)])]⟩] := by
 go_enter G9117, Tryd.ntmps117
 have M := hM
 refine qS fun _ k1 => ?_
 refine lM ?_; refine lM ?_; refine lc ?_
 refine cM 1 fun Lk hLk => ?_
 refine vCh (v := .string (bs (nodeS sb x))) (args := #[.bool false, .string (bs x), .string (bs sb)]) (fun W hW => by with_reducible exact joined_f (x := x) (s0 := sb) hx hsb ((M.sees hW).oldL L1) ((M.sees hW).oldG R1_0 L1 (by simp; omega))) ?_
 refine hLk _ fun w3 M => ?_
 refine sT1 0 0 fun w4 M => ?_
 refine lZ k1 ?_
 refine qS fun _ k5 => ?_
 refine lM ?_; refine lZ k5 ?_; refine cF ?_; refine wp_skip ?_
 repeat (first | with_reducible refine then_exit ?_ | with_reducible refine inblock_exit ?_)
 refine bodyPost_end (v := .tuple #[]) (results_none rfl _ _ _) rfl ?_
 exact ⟨_, rfl, rfl, M⟩
set_option maxHeartbeats 4000000 in
theorem walk1_c {ps : List (List UInt8)} {ap : Option Addr} {np cp : Nat} {g a0 l0 : Nat} {s0 : List UInt8} {w : World} (hps : ps.length ≤ 4611686018427387904) (ha0 : a0 ≤ 4611686018427387904) (hl0b : l0 ≤ 4611686018427387904) (h32k : ∀ {k : Nat}, k < ps.length → (ps.getD k []).length = 32) (hs0 : s0.length = 32) (hg0 : g ≠ 1) (L1 : 1 < w.heap.size) (R1_0 : w.rangeAt 1 0 kcells) (Hp : RowN [g] w ap np cp (scells ps)) (hM : Mem [g] w w [⟨g, 1, [(0, [.string (bs s0)])]⟩]) :
  Calls Tryd.prog 116 #[.int .i64 a0, .int .i64 l0, .slice ap np cp, .func (.func 120) #[] #[.pointer (some ⟨g, 0, none⟩)]] w fun e w' => ∃ v, e = .returned v ∧ v = .bool (walkF nodeF ps a0 l0 s0).1 ∧ Mem [g] w w' [⟨g, 1, [(0, [.string (bs ((walkF nodeF ps a0 l0 s0).2))])]⟩] := by
 obtain rfl : np = ps.length := by have := Hp.row.len; rwa [scells_len] at this
 go_enter Tryd.func116, Tryd.ntmps116
 have M := hM
 refine qS fun _ k1 => ?_
 refine lg ?_; refine lZ k1 ?_; refine wp_scope_straight ?_
 refine qS fun _ k3 => ?_
 refine lg ?_; refine lZ k3 ?_
 refine sk fun _ k5 => ?_
 refine wp_label ?_; refine k5 _ _ ?_
 refine sk fun _ k6 => ?_
 refine qS fun _ k7 => ?_
 refine lM ?_
 refine cM 1 fun Lk hLk => ?_
 refine wpV_lenA (n := ps.length) (by rfl) rfl rfl rfl U937 ?_
 simp only [Z0, Z6]
 refine hLk _ fun w9 M => ?_
 refine lM ?_; refine lZ k7 ?_; refine wp_block ?_
 refine wp_loop_ghost (fun n9 a9 W9 => ∃ (k : Nat) (a : Nat) (l : Nat) (s1 : List UInt8) (u10 : Nat → Value), n9 = 2 * (ps.length - k) ∧ a9 = { tmps := #[.int .i64 a, .int .i64 l, .slice ap ps.length cp, .func (.func 120) #[] #[.pointer (some ⟨g, 0, none⟩)], Z9, Z9, Z9, Z9, .bool false, .bool true, Z9, u10 11, .slice ap ps.length cp, .int .i64 ps.length, .int .i64 k, u10 15, u10 16, u10 17, u10 18, u10 19, u10 20, u10 21, u10 22, u10 23, u10 24, u10 25, u10 26, u10 27, u10 28, u10 29, u10 30, u10 31, u10 32, u10 33, u10 34, u10 35, u10 36, u10 37, u10 38, u10 39, u10 40, u10 41, u10 42, u10 43, u10 44, u10 45, u10 46, u10 47, u10 48, u10 49, u10 50, u10 51, Z9, Z9, Z9, Z9, Z9], defers := [] } ∧ Mem [g] w W9 [⟨g, 1, [(0, [.string (bs s1)])]⟩] ∧ (k ≤ ps.length) ∧ (a ≤ 4611686018427387904) ∧ (l ≤ 4611686018427387904) ∧ (s1.length = 32) ∧ (walkF nodeF ps a0 l0 s0 = walkF nodeF (ps.drop k) a l s1)) (2 * (ps.length - (0))) ?_ (fun n9 a9 W9 hI => ?_)
 ·
  exact ⟨0, a0, l0, s0, (fun q9 => (#[Z9, Z9, Z9, Z9, Z9, Z9, Z9, Z9, Z9, Z9, Z9, Z9, Z9, Z9, Z9, Z9, Z9, Z9, Z9, Z9, Z9, Z9, Z9, Z9, Z9, Z9, Z9, Z9, Z9, Z9, Z9, Z9, Z9, Z9, Z9, Z9, Z9, Z9, Z9, Z9, Z9, Z9, Z9, Z9, Z9, Z9, Z9, Z9, Z9, Z9, Z9, Z9] : Array Value).getD q9 Z9), rfl, rfl, M, (Nat.zero_le _), ha0, hl0b, hs0, rfl⟩
 clear M
 obtain ⟨k, a, l, s1, u10, rfl, rfl, M, hk4, ha, hlb, hs1, hW⟩ := hI
 obtain ⟨w11, rfl⟩ : ∃ W8, W8 = W9 := ⟨_, rfl⟩
 refine qS fun _ k12 => ?_
 refine cM 1 fun Lk hLk => ?_
 refine vB (v := .bool (decide (k < ps.length))) (hr := run_lssN k ps.length _ _) ?_
 refine hLk _ fun w14 M => ?_
 refine lZ k12 ?_
 refine sk fun _ k15 => ?_
 cases hc16 : (decide (k < ps.length))
 ·
  have hk : ¬ k < ps.length := of_decide_eq_false hc16
  refine cF ?_; refine eZ k6 ?_
  refine qS fun _ k17 => ?_
  refine lM ?_; refine lM ?_; refine lM ?_
  refine cM 2 fun Lk hLk => ?_
  refine vB (v := .bool (decide (l = 0))) (hr := run_eqlN l 0 _ _) ?_
  refine vK ?_
  refine hLk _ fun w19 M => ?_
  refine lg ?_; refine lZ k17 ?_; refine wp_ret ?_
  repeat (first | with_reducible refine then_ret ?_ | with_reducible refine inblock_ret ?_ | with_reducible refine nogoto_ret ?_)
  refine bodyPost_ret (v := .bool (decide (l = 0))) (res1 rfl (.tmp (by rfl))) rfl ?_
  exact ⟨_, rfl, by rw [hW, List.drop_of_length_le (by omega)]; rfl, by rw [hW, List.drop_of_length_le (by omega)]; exact M⟩
 have hk : k < ps.length := of_decide_eq_true hc16
 refine cT ?_; refine sZ k15 ?_
 refine sk fun _ k20 => ?_
 refine wp_block ?_
 refine qS fun _ k21 => ?_
 refine cM 2 fun Lk hLk => ?_
 refine wpV_idxA (i := k) (by rfl) rfl rfl rfl U937 info9 (Hp.mem M).row (by omega) ?_
 simp only [Z0, Z6]
 refine wpV_loadA (i := k) (v := .string (bs (ps.getD k []))) (by rfl) rfl rfl (Hp.mem M).row (scells_get (ps := ps) (by omega)) U99 rfl ?_
 simp only [Z0, Z6]
 refine hLk _ fun w23 M => ?_
 refine lg ?_; refine lZ k21 ?_
 refine sk fun _ k24 => ?_
 refine wp_block ?_
 refine qS fun _ k25 => ?_
 refine lM ?_
 refine cM 1 fun Lk hLk => ?_
 refine vB (v := .bool (decide (l = 0))) (hr := run_eqlN l 0 _ _) ?_
 refine hLk _ fun w27 M => ?_
 refine lg ?_; refine lZ k25 ?_
 cases hc28 : (decide (l = 0))
 ·
  have hl0 : ¬ l = 0 := of_decide_eq_false hc28
  refine cF ?_
  refine sk fun _ k29 => ?_
  cases hg30 : (decide (a % 2 = 1))
  ·
   have ho : ¬ a % 2 = 1 := of_decide_eq_false hg30
   refine Z13 ?_; refine lM ?_
   refine cM 7 fun Lk hLk => ?_
   refine vB (v := .int .i64 (a % 2 : Nat)) (hr := run_and ((and_i64 (m := a) (n := 1) (by omega) (by decide)).trans (by rw [and_oneN]))) ?_
   refine vB (v := .bool false) (hr := fun W => (run_eqlN (a % 2) 1 _ _ W).trans (by rw [hg30])) ?_
   refine vM ?_; refine vM ?_; refine vM ?_
   refine vB (v := .bool (decide (a = l))) (hr := run_eqlN a l _ _) ?_
   refine vK ?_
   refine hLk _ fun w32 M => ?_
   refine lg ?_; refine lZ k29 ?_
   cases hc33 : (decide (a = l))
   ·
    have hal : ¬ a = l := of_decide_eq_false hc33
    have hno : ¬ (a % 2 = 1 ∨ a = l) := fun q9 => q9.elim ho hal
    refine cF ?_; refine Z13 ?_; refine lM ?_; refine lM ?_
    refine wpL_callMc (f := 120) (args := #[.bool false, .string (bs (ps.getD k []))]) (caps := #[.pointer (some ⟨g, 0, none⟩)]) (all := #[.bool false, .string (bs (ps.getD k [])), .pointer (some ⟨g, 0, none⟩)]) (R := fun v9 W9 => v9 = .tuple #[] ∧ Mem [g] w32 W9 [⟨g, 1, [(0, [.string (bs (nodeS s1 (ps.getD k [])))])]⟩]) (by simp) (by rfl) (by rfl) (by rfl) rfl G9120 (by kernel_rfl) (by kernel_rfl) (fol2_f (x := ps.getD k []) (s0 := s1) (h32k hk) hs1 hg0 (M.oldL L1) (M.oldG R1_0 L1 (by simpa using Ne.symm hg0)) (M.one 0 rfl)) (fun v9 w35 h9 => ?_)
    obtain ⟨rfl, M9⟩ := h9
    replace M := M.callM1 0 rfl M9
    simp only [Z6] at M
    simp only [Z0, Z6]
    refine lZ k24 ?_; refine Z13 ?_; refine lM ?_
    refine cM 3 fun Lk hLk => ?_
    refine vB (v := .int .i64 (a / 2 ^ 1 : Nat)) (hr := run_shr (n := 1) (by decide) rfl) ?_
    refine vM ?_
    refine vB (v := .int .i64 (l / 2 ^ 1 : Nat)) (hr := run_shr (n := 1) (by decide) rfl) ?_
    refine hLk _ fun w37 M => ?_
    refine lg ?_; refine lg ?_; refine lZ k20 ?_; refine Z13 ?_
    refine cM 1 fun Lk hLk => ?_
    refine vB (v := .int .i64 (k + 1 : Nat)) (hr := run_add (by simp only [IntKind.wrap_i64]; omega)) ?_
    refine hLk _ fun w39 M => ?_
    refine lM ?_
    refine Z14 (Z15 ?_)
    refine Exists.intro _ ⟨?_, (k + 1), (a / 2 ^ 1), (l / 2 ^ 1), (nodeS s1 (ps.getD k [])), (fun q9 => (#[Z9, Z9, Z9, Z9, Z9, Z9, Z9, Z9, Z9, Z9, Z9, .string (bs (ps.getD k [])), Z9, Z9, Z9, .bool true, .pointer (ap.map (·.add k)), .string (bs (ps.getD k [])), .func (.func 120) #[] #[.pointer (some ⟨g, 0, none⟩)], .string (bs (ps.getD k [])), .tuple #[], .bool false, .int .i64 l, .bool false, .bool false, .int .i64 a, .int .i64 (a % 2 : Nat), .bool false, .bool false, .int .i64 a, .int .i64 l, .bool false, .bool false, u10 33, u10 34, u10 35, u10 36, u10 37, u10 38, u10 39, u10 40, u10 41, u10 42, u10 43, u10 44, u10 45, u10 46, .int .i64 a, .int .i64 (a / 2 ^ 1 : Nat), .int .i64 l, .int .i64 (l / 2 ^ 1 : Nat), .int .i64 (k + 1 : Nat)] : Array Value).getD q9 Z9), rfl, rfl, M, (by omega), (by omega), (by omega), (nodeS_len _ _), (walkG_no hk hl0 hno hW)⟩
    omega
   have hal : a = l := of_decide_eq_true hc33
   have hys : a % 2 = 1 ∨ a = l := .inr hal
   refine cT ?_
   refine qS fun _ k40 => ?_
   refine lM ?_; refine lM ?_
   refine wpL_callMc (f := 120) (args := #[.bool true, .string (bs (ps.getD k []))]) (caps := #[.pointer (some ⟨g, 0, none⟩)]) (all := #[.bool true, .string (bs (ps.getD k [])), .pointer (some ⟨g, 0, none⟩)]) (R := fun v9 W9 => v9 = .tuple #[] ∧ Mem [g] w32 W9 [⟨g, 1, [(0, [.string (bs (nodeS (ps.getD k []) s1))])]⟩]) (by simp) (by rfl) (by rfl) (by rfl) rfl G9120 (by kernel_rfl) (by kernel_rfl) (fol2_t (x := ps.getD k []) (s0 := s1) (h32k hk) hs1 hg0 (M.oldL L1) (M.oldG R1_0 L1 (by simpa using Ne.symm hg0)) (M.one 0 rfl)) (fun v9 w42 h9 => ?_)
   obtain ⟨rfl, M9⟩ := h9
   replace M := M.callM1 0 rfl M9
   simp only [Z6] at M
   simp only [Z0, Z6]
   refine lZ k40 ?_; refine wp_block ?_
   refine wp_loop_ghost (fun n9 a9 W9 => ∃ (a2 : Nat) (l2 : Nat) (u43_36 u43_37 u43_38 u43_39 u43_40 u43_41 u43_42 u43_43 u43_44 u43_45 u43_46 : Value), n9 = 2 * a2 ∧ a9 = { tmps := #[.int .i64 a2, .int .i64 l2, .slice ap ps.length cp, .func (.func 120) #[] #[.pointer (some ⟨g, 0, none⟩)], Z9, Z9, Z9, Z9, .bool false, .bool true, Z9, .string (bs (ps.getD k [])), .slice ap ps.length cp, .int .i64 ps.length, .int .i64 k, .bool true, .pointer (ap.map (·.add k)), .string (bs (ps.getD k [])), u10 18, u10 19, u10 20, .bool false, .int .i64 l, .bool false, .bool true, .int .i64 a, .int .i64 (a % 2 : Nat), .bool false, .bool false, .int .i64 a, .int .i64 l, .bool true, .bool true, .func (.func 120) #[] #[.pointer (some ⟨g, 0, none⟩)], .string (bs (ps.getD k [])), .tuple #[], u43_36, u43_37, u43_38, u43_39, u43_40, u43_41, u43_42, u43_43, u43_44, u43_45, u43_46, u10 47, u10 48, u10 49, u10 50, u10 51, Z9, Z9, Z9, Z9, Z9], defers := [] } ∧ Mem [g] w W9 [⟨g, 1, [(0, [.string (bs (nodeS (ps.getD k []) s1))])]⟩] ∧ (a2 ≤ a) ∧ (l2 ≤ l) ∧ (skipZ a2 l2 = skipZ a l)) (2 * (a)) ?_ (fun n9 a9 W9 hI => ?_)
   ·
    exact ⟨a, l, _, _, _, _, _, _, _, _, _, _, _, rfl, rfl, M, (Nat.le_refl _), (Nat.le_refl _), rfl⟩
   clear M
   obtain ⟨a2, l2, u43_36, u43_37, u43_38, u43_39, u43_40, u43_41, u43_42, u43_43, u43_44, u43_45, u43_46, rfl, rfl, M, ha2, hl2, hz⟩ := hI
   obtain ⟨w44, rfl⟩ : ∃ W8, W8 = W9 := ⟨_, rfl⟩
   refine sk fun _ k45 => ?_
   refine sk fun _ k46 => ?_
   cases hg47 : (decide (a2 ≠ 0))
   ·
    have hnz : ¬ a2 ≠ 0 := of_decide_eq_false hg47
    have hzz : skipZ a2 l2 = (a2, l2) := by rw [skipZ, dif_neg (fun q9 => hnz q9.1)]
    refine Z13 ?_; refine lM ?_
    refine cM 6 fun Lk hLk => ?_
    refine vB (v := .bool false) (hr := fun W => (run_neqN a2 0 _ _ W).trans (by rw [hg47])) ?_
    refine vM ?_; refine vS ?_; refine vS ?_; refine vS ?_; refine vK ?_
    refine hLk _ fun w49 M => ?_
    refine lZ k46 ?_; refine cF ?_; refine eZ k24 ?_; refine Z13 ?_; refine lM ?_
    refine cM 3 fun Lk hLk => ?_
    refine vB (v := .int .i64 (a2 / 2 ^ 1 : Nat)) (hr := run_shr (n := 1) (by decide) rfl) ?_
    refine vM ?_
    refine vB (v := .int .i64 (l2 / 2 ^ 1 : Nat)) (hr := run_shr (n := 1) (by decide) rfl) ?_
    refine hLk _ fun w51 M => ?_
    refine lg ?_; refine lg ?_; refine lZ k20 ?_; refine Z13 ?_
    refine cM 1 fun Lk hLk => ?_
    refine vB (v := .int .i64 (k + 1 : Nat)) (hr := run_add (by simp only [IntKind.wrap_i64]; omega)) ?_
    refine hLk _ fun w53 M => ?_
    refine lM ?_
    refine Z14 (Z15 ?_)
    refine Exists.intro _ ⟨?_, (k + 1), (a2 / 2 ^ 1), (l2 / 2 ^ 1), (nodeS (ps.getD k []) s1), (fun q9 => (#[Z9, Z9, Z9, Z9, Z9, Z9, Z9, Z9, Z9, Z9, Z9, .string (bs (ps.getD k [])), Z9, Z9, Z9, .bool true, .pointer (ap.map (·.add k)), .string (bs (ps.getD k [])), u10 18, u10 19, u10 20, .bool false, .int .i64 l, .bool false, .bool true, .int .i64 a, .int .i64 (a % 2 : Nat), .bool false, .bool false, .int .i64 a, .int .i64 l, .bool true, .bool true, .func (.func 120) #[] #[.pointer (some ⟨g, 0, none⟩)], .string (bs (ps.getD k [])), .tuple #[], .int .i64 a2, .bool false, .bool false, Z9, Z9, Z9, .bool false, u43_43, u43_44, u43_45, u43_46, .int .i64 a2, .int .i64 (a2 / 2 ^ 1 : Nat), .int .i64 l2, .int .i64 (l2 / 2 ^ 1 : Nat), .int .i64 (k + 1 : Nat)] : Array Value).getD q9 Z9), rfl, rfl, M, (by omega), (by omega), (by omega), (nodeS_len _ _), (walkG_yes hk hl0 hys hz hzz hW)⟩
    omega
   have hnz : a2 ≠ 0 := of_decide_eq_true hg47
   refine Z13 ?_; refine lM ?_
   refine cM 6 fun Lk hLk => ?_
   refine vB (v := .bool true) (hr := fun W => (run_neqN a2 0 _ _ W).trans (by rw [hg47])) ?_
   refine vM ?_; refine vM ?_
   refine vB (v := .int .i64 (a2 % 2 : Nat)) (hr := run_and ((and_i64 (m := a2) (n := 1) (by omega) (by decide)).trans (by rw [and_oneN]))) ?_
   refine vB (v := .bool (decide (a2 % 2 = 0))) (hr := run_eqlN (a2 % 2) 0 _ _) ?_
   refine vK ?_
   refine hLk _ fun w55 M => ?_
   refine lZ k46 ?_
   cases hc56 : (decide (a2 % 2 = 0))
   ·
    have hev : ¬ a2 % 2 = 0 := of_decide_eq_false hc56
    have hzz : skipZ a2 l2 = (a2, l2) := by rw [skipZ, dif_neg (fun q9 => hev q9.2)]
    refine cF ?_; refine eZ k24 ?_; refine Z13 ?_; refine lM ?_
    refine cM 3 fun Lk hLk => ?_
    refine vB (v := .int .i64 (a2 / 2 ^ 1 : Nat)) (hr := run_shr (n := 1) (by decide) rfl) ?_
    refine vM ?_
    refine vB (v := .int .i64 (l2 / 2 ^ 1 : Nat)) (hr := run_shr (n := 1) (by decide) rfl) ?_
    refine hLk _ fun w58 M => ?_
    refine lg ?_; refine lg ?_; refine lZ k20 ?_; refine Z13 ?_
    refine cM 1 fun Lk hLk => ?_
    refine vB (v := .int .i64 (k + 1 : Nat)) (hr := run_add (by simp only [IntKind.wrap_i64]; omega)) ?_
    refine hLk _ fun w60 M => ?_
    refine lM ?_
    refine Z14 (Z15 ?_)
    refine Exists.intro _ ⟨?_, (k + 1), (a2 / 2 ^ 1), (l2 / 2 ^ 1), (nodeS (ps.getD k []) s1), (fun q9 => (#[Z9, Z9, Z9, Z9, Z9, Z9, Z9, Z9, Z9, Z9, Z9, .string (bs (ps.getD k [])), Z9, Z9, Z9, .bool true, .pointer (ap.map (·.add k)), .string (bs (ps.getD k [])), u10 18, u10 19, u10 20, .bool false, .int .i64 l, .bool false, .bool true, .int .i64 a, .int .i64 (a % 2 : Nat), .bool false, .bool false, .int .i64 a, .int .i64 l, .bool true, .bool true, .func (.func 120) #[] #[.pointer (some ⟨g, 0, none⟩)], .string (bs (ps.getD k [])), .tuple #[], .int .i64 a2, .bool true, .bool true, .int .i64 a2, .int .i64 (a2 % 2 : Nat), .bool false, .bool false, u43_43, u43_44, u43_45, u43_46, .int .i64 a2, .int .i64 (a2 / 2 ^ 1 : Nat), .int .i64 l2, .int .i64 (l2 / 2 ^ 1 : Nat), .int .i64 (k + 1 : Nat)] : Array Value).getD q9 Z9), rfl, rfl, M, (by omega), (by omega), (by omega), (nodeS_len _ _), (walkG_yes hk hl0 hys hz hzz hW)⟩
    omega
   have hev : a2 % 2 = 0 := of_decide_eq_true hc56
   refine cT ?_; refine sZ k45 ?_; refine wp_block ?_; refine Z13 ?_; refine lM ?_
   refine cM 3 fun Lk hLk => ?_
   refine vB (v := .int .i64 (a2 / 2 ^ 1 : Nat)) (hr := run_shr (n := 1) (by decide) rfl) ?_
   refine vM ?_
   refine vB (v := .int .i64 (l2 / 2 ^ 1 : Nat)) (hr := run_shr (n := 1) (by decide) rfl) ?_
   refine hLk _ fun w62 M => ?_
   refine lg ?_; refine lg ?_
   refine Z14 (Z15 ?_)
   refine Exists.intro _ ⟨?_, (a2 / 2 ^ 1), (l2 / 2 ^ 1), _, _, _, _, _, _, _, _, _, _, _, rfl, rfl, M, (by omega), (by omega), ((skipZ_go hnz hev).symm.trans hz)⟩
   omega
  have ho : a % 2 = 1 := of_decide_eq_true hg30
  have hys : a % 2 = 1 ∨ a = l := .inl ho
  refine Z13 ?_; refine lM ?_
  refine cM 7 fun Lk hLk => ?_
  refine vB (v := .int .i64 (a % 2 : Nat)) (hr := run_and ((and_i64 (m := a) (n := 1) (by omega) (by decide)).trans (by rw [and_oneN]))) ?_
  refine vB (v := .bool true) (hr := fun W => (run_eqlN (a % 2) 1 _ _ W).trans (by rw [hg30])) ?_
  refine vM ?_; refine vS ?_; refine vS ?_; refine vS ?_; refine vK ?_
  refine hLk _ fun w64 M => ?_
  refine lg ?_; refine lZ k29 ?_; refine cT ?_
  refine qS fun _ k65 => ?_
  refine lM ?_; refine lM ?_
  refine wpL_callMc (f := 120) (args := #[.bool true, .string (bs (ps.getD k []))]) (caps := #[.pointer (some ⟨g, 0, none⟩)]) (all := #[.bool true, .string (bs (ps.getD k [])), .pointer (some ⟨g, 0, none⟩)]) (R := fun v9 W9 => v9 = .tuple #[] ∧ Mem [g] w64 W9 [⟨g, 1, [(0, [.string (bs (nodeS (ps.getD k []) s1))])]⟩]) (by simp) (by rfl) (by rfl) (by rfl) rfl G9120 (by kernel_rfl) (by kernel_rfl) (fol2_t (x := ps.getD k []) (s0 := s1) (h32k hk) hs1 hg0 (M.oldL L1) (M.oldG R1_0 L1 (by simpa using Ne.symm hg0)) (M.one 0 rfl)) (fun v9 w67 h9 => ?_)
  obtain ⟨rfl, M9⟩ := h9
  replace M := M.callM1 0 rfl M9
  simp only [Z6] at M
  simp only [Z0, Z6]
  refine lZ k65 ?_; refine wp_block ?_
  refine wp_loop_ghost (fun n9 a9 W9 => ∃ (a2 : Nat) (l2 : Nat) (u68_36 u68_37 u68_38 u68_39 u68_40 u68_41 u68_42 u68_43 u68_44 u68_45 u68_46 : Value), n9 = 2 * a2 ∧ a9 = { tmps := #[.int .i64 a2, .int .i64 l2, .slice ap ps.length cp, .func (.func 120) #[] #[.pointer (some ⟨g, 0, none⟩)], Z9, Z9, Z9, Z9, .bool false, .bool true, Z9, .string (bs (ps.getD k [])), .slice ap ps.length cp, .int .i64 ps.length, .int .i64 k, .bool true, .pointer (ap.map (·.add k)), .string (bs (ps.getD k [])), u10 18, u10 19, u10 20, .bool false, .int .i64 l, .bool false, .bool true, .int .i64 a, .int .i64 (a % 2 : Nat), .bool true, .bool true, Z9, Z9, Z9, .bool true, .func (.func 120) #[] #[.pointer (some ⟨g, 0, none⟩)], .string (bs (ps.getD k [])), .tuple #[], u68_36, u68_37, u68_38, u68_39, u68_40, u68_41, u68_42, u68_43, u68_44, u68_45, u68_46, u10 47, u10 48, u10 49, u10 50, u10 51, Z9, Z9, Z9, Z9, Z9], defers := [] } ∧ Mem [g] w W9 [⟨g, 1, [(0, [.string (bs (nodeS (ps.getD k []) s1))])]⟩] ∧ (a2 ≤ a) ∧ (l2 ≤ l) ∧ (skipZ a2 l2 = skipZ a l)) (2 * (a)) ?_ (fun n9 a9 W9 hI => ?_)
  ·
   exact ⟨a, l, _, _, _, _, _, _, _, _, _, _, _, rfl, rfl, M, (Nat.le_refl _), (Nat.le_refl _), rfl⟩
  clear M
  obtain ⟨a2, l2, u68_36, u68_37, u68_38, u68_39, u68_40, u68_41, u68_42, u68_43, u68_44, u68_45, u68_46, rfl, rfl, M, ha2, hl2, hz⟩ := hI
  obtain ⟨w69, rfl⟩ : ∃ W8, W8 = W9 := ⟨_, rfl⟩
  refine sk fun _ k70 => ?_
  refine sk fun _ k71 => ?_
  cases hg72 : (decide (a2 ≠ 0))
  ·
   have hnz : ¬ a2 ≠ 0 := of_decide_eq_false hg72
   have hzz : skipZ a2 l2 = (a2, l2) := by rw [skipZ, dif_neg (fun q9 => hnz q9.1)]
   refine Z13 ?_; refine lM ?_
   refine cM 6 fun Lk hLk => ?_
   refine vB (v := .bool false) (hr := fun W => (run_neqN a2 0 _ _ W).trans (by rw [hg72])) ?_
   refine vM ?_; refine vS ?_; refine vS ?_; refine vS ?_; refine vK ?_
   refine hLk _ fun w74 M => ?_
   refine lZ k71 ?_; refine cF ?_; refine eZ k24 ?_; refine Z13 ?_; refine lM ?_
   refine cM 3 fun Lk hLk => ?_
   refine vB (v := .int .i64 (a2 / 2 ^ 1 : Nat)) (hr := run_shr (n := 1) (by decide) rfl) ?_
   refine vM ?_
   refine vB (v := .int .i64 (l2 / 2 ^ 1 : Nat)) (hr := run_shr (n := 1) (by decide) rfl) ?_
   refine hLk _ fun w76 M => ?_
   refine lg ?_; refine lg ?_; refine lZ k20 ?_; refine Z13 ?_
   refine cM 1 fun Lk hLk => ?_
   refine vB (v := .int .i64 (k + 1 : Nat)) (hr := run_add (by simp only [IntKind.wrap_i64]; omega)) ?_
   refine hLk _ fun w78 M => ?_
   refine lM ?_
   refine Z14 (Z15 ?_)
   refine Exists.intro _ ⟨?_, (k + 1), (a2 / 2 ^ 1), (l2 / 2 ^ 1), (nodeS (ps.getD k []) s1), (fun q9 => (#[Z9, Z9, Z9, Z9, Z9, Z9, Z9, Z9, Z9, Z9, Z9, .string (bs (ps.getD k [])), Z9, Z9, Z9, .bool true, .pointer (ap.map (·.add k)), .string (bs (ps.getD k [])), u10 18, u10 19, u10 20, .bool false, .int .i64 l, .bool false, .bool true, .int .i64 a, .int .i64 (a % 2 : Nat), .bool true, .bool true, Z9, Z9, Z9, .bool true, .func (.func 120) #[] #[.pointer (some ⟨g, 0, none⟩)], .string (bs (ps.getD k [])), .tuple #[], .int .i64 a2, .bool false, .bool false, Z9, Z9, Z9, .bool false, u68_43, u68_44, u68_45, u68_46, .int .i64 a2, .int .i64 (a2 / 2 ^ 1 : Nat), .int .i64 l2, .int .i64 (l2 / 2 ^ 1 : Nat), .int .i64 (k + 1 : Nat)] : Array Value).getD q9 Z9), rfl, rfl, M, (by omega), (by omega), (by omega), (nodeS_len _ _), (walkG_yes hk hl0 hys hz hzz hW)⟩
   omega
  have hnz : a2 ≠ 0 := of_decide_eq_true hg72
  refine Z13 ?_; refine lM ?_
  refine cM 6 fun Lk hLk => ?_
  refine vB (v := .bool true) (hr := fun W => (run_neqN a2 0 _ _ W).trans (by rw [hg72])) ?_
  refine vM ?_; refine vM ?_
  refine vB (v := .int .i64 (a2 % 2 : Nat)) (hr := run_and ((and_i64 (m := a2) (n := 1) (by omega) (by decide)).trans (by rw [and_oneN]))) ?_
  refine vB (v := .bool (decide (a2 % 2 = 0))) (hr := run_eqlN (a2 % 2) 0 _ _) ?_
  refine vK ?_
  refine hLk _ fun w80 M => ?_
  refine lZ k71 ?_
  cases hc81 : (decide (a2 % 2 = 0))
  ·
   have hev : ¬ a2 % 2 = 0 := of_decide_eq_false hc81
   have hzz : skipZ a2 l2 = (a2, l2) := by rw [skipZ, dif_neg (fun q9 => hev q9.2)]
   refine cF ?_; refine eZ k24 ?_; refine Z13 ?_; refine lM ?_
   refine cM 3 fun Lk hLk => ?_
   refine vB (v := .int .i64 (a2 / 2 ^ 1 : Nat)) (hr := run_shr (n := 1) (by decide) rfl) ?_
   refine vM ?_
   refine vB (v := .int .i64 (l2 / 2 ^ 1 : Nat)) (hr := run_shr (n := 1) (by decide) rfl) ?_
   refine hLk _ fun w83 M => ?_
   refine lg ?_; refine lg ?_; refine lZ k20 ?_; refine Z13 ?_
   refine cM 1 fun Lk hLk => ?_
   refine vB (v := .int .i64 (k + 1 : Nat)) (hr := run_add (by simp only [IntKind.wrap_i64]; omega)) ?_
   refine hLk _ fun w85 M => ?_
   refine lM ?_
   refine Z14 (Z15 ?_)
   refine Exists.intro _ ⟨?_, (k + 1), (a2 / 2 ^ 1), (l2 / 2 ^ 1), (nodeS (ps.getD k []) s1), (fun q9 => (#[Z9, Z9, Z9, Z9, Z9, Z9, Z9, Z9, Z9, Z9, Z9, .string (bs (ps.getD k [])), Z9, Z9, Z9, .bool true, .pointer (ap.map (·.add k)), .string (bs (ps.getD k [])), u10 18, u10 19, u10 20, .bool false, .int .i64 l, .bool false, .bool true, .int .i64 a, .int .i64 (a % 2 : Nat), .bool true, .bool true, Z9, Z9, Z9, .bool true, .func (.func 120) #[] #[.pointer (some ⟨g, 0, none⟩)], .string (bs (ps.getD k [])), .tuple #[], .int .i64 a2, .bool true, .bool true, .int .i64 a2, .int .i64 (a2 % 2 : Nat), .bool false, .bool false, u68_43, u68_44, u68_45, u68_46, .int .i64 a2, .int .i64 (a2 / 2 ^ 1 : Nat), .int .i64 l2, .int .i64 (l2 / 2 ^ 1 : Nat), .int .i64 (k + 1 : Nat)] : Array Value).getD q9 Z9), rfl, rfl, M, (by omega), (by omega), (by omega), (nodeS_len _ _), (walkG_yes hk hl0 hys hz hzz hW)⟩
   omega
  have hev : a2 % 2 = 0 := of_decide_eq_true hc81
  refine cT ?_; refine sZ k70 ?_; refine wp_block ?_; refine Z13 ?_; refine lM ?_
  refine cM 3 fun Lk hLk => ?_
  refine vB (v := .int .i64 (a2 / 2 ^ 1 : Nat)) (hr := run_shr (n := 1) (by decide) rfl) ?_
  refine vM ?_
  refine vB (v := .int .i64 (l2 / 2 ^ 1 : Nat)) (hr := run_shr (n := 1) (by decide) rfl) ?_
  refine hLk _ fun w87 M => ?_
  refine lg ?_; refine lg ?_
  refine Z14 (Z15 ?_)
  refine Exists.intro _ ⟨?_, (a2 / 2 ^ 1), (l2 / 2 ^ 1), _, _, _, _, _, _, _, _, _, _, _, rfl, rfl, M, (by omega), (by omega), ((skipZ_go hnz hev).symm.trans hz)⟩
  omega
 have hl0 : l = 0 := of_decide_eq_true hc28
 refine cT ?_
 refine qS fun _ k88 => ?_
 refine lg ?_; refine lZ k88 ?_; refine eZ k6 ?_
 refine qS fun _ k90 => ?_
 refine lM ?_; refine lM ?_; refine lS ?_; refine lS ?_; refine lK ?_; refine lg ?_; refine lZ k90 ?_; refine wp_ret ?_
 repeat (first | with_reducible refine then_ret ?_ | with_reducible refine inblock_ret ?_ | with_reducible refine nogoto_ret ?_)
 refine bodyPost_ret (v := .bool false) (res1 rfl (.tmp (by rfl))) rfl ?_
 exact ⟨_, rfl, by rw [hW, walkG_stop hk hl0], by rw [hW, walkG_stop hk hl0]; exact M⟩
set_option maxHeartbeats 4000000 in
theorem walk2_c {ps : List (List UInt8)} {ap : Option Addr} {np cp : Nat} {g h a0 l0 : Nat} {c0 b0 : List UInt8} {w : World} (hps : ps.length ≤ 4611686018427387904) (ha0 : a0 ≤ 4611686018427387904) (hl0b : l0 ≤ 4611686018427387904) (h32k : ∀ {k : Nat}, k < ps.length → (ps.getD k []).length = 32) (hc0 : c0.length = 32) (hb0 : b0.length = 32) (hg0 : g ≠ 1) (hh0 : h ≠ 1) (L1 : 1 < w.heap.size) (R1_0 : w.rangeAt 1 0 kcells) (Hp : RowN [g, h] w ap np cp (scells ps)) (hM : Mem [g, h] w w [⟨g, 1, [(0, [.string (bs b0)])]⟩, ⟨h, 1, [(0, [.string (bs c0)])]⟩]) :
  Calls Tryd.prog 116 #[.int .i64 a0, .int .i64 l0, .slice ap np cp, .func (.func 117) #[] #[.pointer (some ⟨g, 0, none⟩), .pointer (some ⟨h, 0, none⟩)]] w fun e w' => ∃ v, e = .returned v ∧ v = .bool (walkF bothF ps a0 l0 (c0, b0)).1 ∧ Mem [g, h] w w' [⟨g, 1, [(0, [.string (bs ((walkF bothF ps a0 l0 (c0, b0)).2.2))])]⟩, ⟨h, 1, [(0, [.string (bs ((walkF bothF ps a0 l0 (c0, b0)).2.1))])]⟩] := by
 obtain rfl : np = ps.length := by have := Hp.row.len; rwa [scells_len] at this
 go_enter Tryd.func116, Tryd.ntmps116
 have M := hM
 refine qS fun _ k1 => ?_
 refine lg ?_; refine lZ k1 ?_; refine wp_scope_straight ?_
 refine qS fun _ k3 => ?_
 refine lg ?_; refine lZ k3 ?_
 refine sk fun _ k5 => ?_
 refine wp_label ?_; refine k5 _ _ ?_
 refine sk fun _ k6 => ?_
 refine qS fun _ k7 => ?_
 refine lM ?_
 refine cM 1 fun Lk hLk => ?_
 refine wpV_lenA (n := ps.length) (by rfl) rfl rfl rfl U937 ?_
 simp only [Z0, Z6]
 refine hLk _ fun w9 M => ?_
 refine lM ?_; refine lZ k7 ?_; refine wp_block ?_
 refine wp_loop_ghost (fun n9 a9 W9 => ∃ (k : Nat) (a : Nat) (l : Nat) (sa : List UInt8) (sb : List UInt8) (u10 : Nat → Value), n9 = 2 * (ps.length - k) ∧ a9 = { tmps := #[.int .i64 a, .int .i64 l, .slice ap ps.length cp, .func (.func 117) #[] #[.pointer (some ⟨g, 0, none⟩), .pointer (some ⟨h, 0, none⟩)], Z9, Z9, Z9, Z9, .bool false, .bool true, Z9, u10 11, .slice ap ps.length cp, .int .i64 ps.length, .int .i64 k, u10 15, u10 16, u10 17, u10 18, u10 19, u10 20, u10 21, u10 22, u10 23, u10 24, u10 25, u10 26, u10 27, u10 28, u10 29, u10 30, u10 31, u10 32, u10 33, u10 34, u10 35, u10 36, u10 37, u10 38, u10 39, u10 40, u10 41, u10 42, u10 43, u10 44, u10 45, u10 46, u10 47, u10 48, u10 49, u10 50, u10 51, Z9, Z9, Z9, Z9, Z9], defers := [] } ∧ Mem [g, h] w W9 [⟨g, 1, [(0, [.string (bs sb)])]⟩, ⟨h, 1, [(0, [.string (bs sa)])]⟩] ∧ (k ≤ ps.length) ∧ (a ≤ 4611686018427387904) ∧ (l ≤ 4611686018427387904) ∧ (sa.length = 32) ∧ (sb.length = 32) ∧ (walkF bothF ps a0 l0 (c0, b0) = walkF bothF (ps.drop k) a l (sa, sb))) (2 * (ps.length - (0))) ?_ (fun n9 a9 W9 hI => ?_)
 ·
  exact ⟨0, a0, l0, c0, b0, (fun q9 => (#[Z9, Z9, Z9, Z9, Z9, Z9, Z9, Z9, Z9, Z9, Z9, Z9, Z9, Z9, Z9, Z9, Z9, Z9, Z9, Z9, Z9, Z9, Z9, Z9, Z9, Z9, Z9, Z9, Z9, Z9, Z9, Z9, Z9, Z9, Z9, Z9, Z9, Z9, Z9, Z9, Z9, Z9, Z9, Z9, Z9, Z9, Z9, Z9, Z9, Z9, Z9, Z9] : Array Value).getD q9 Z9), rfl, rfl, M, (Nat.zero_le _), ha0, hl0b, hc0, hb0, rfl⟩
 clear M
 obtain ⟨k, a, l, sa, sb, u10, rfl, rfl, M, hk4, ha, hlb, hsa, hsb, hW⟩ := hI
 obtain ⟨w11, rfl⟩ : ∃ W8, W8 = W9 := ⟨_, rfl⟩
 refine qS fun _ k12 => ?_
 refine cM 1 fun Lk hLk => ?_
 refine vB (v := .bool (decide (k < ps.length))) (hr := run_lssN k ps.length _ _) ?_
 refine hLk _ fun w14 M => ?_
 refine lZ k12 ?_
 refine sk fun _ k15 => ?_
 cases hc16 : (decide (k < ps.length))
 ·
  have hk : ¬ k < ps.length := of_decide_eq_false hc16
  refine cF ?_; refine eZ k6 ?_
  refine qS fun _ k17 => ?_
  refine lM ?_; refine lM ?_; refine lM ?_
  refine cM 2 fun Lk hLk => ?_
  refine vB (v := .bool (decide (l = 0))) (hr := run_eqlN l 0 _ _) ?_
  refine vK ?_
  refine hLk _ fun w19 M => ?_
  refine lg ?_; refine lZ k17 ?_; refine wp_ret ?_
  repeat (first | with_reducible refine then_ret ?_ | with_reducible refine inblock_ret ?_ | with_reducible refine nogoto_ret ?_)
  refine bodyPost_ret (v := .bool (decide (l = 0))) (res1 rfl (.tmp (by rfl))) rfl ?_
  exact ⟨_, rfl, by rw [hW, List.drop_of_length_le (by omega)]; rfl, by rw [hW, List.drop_of_length_le (by omega)]; exact M⟩
 have hk : k < ps.length := of_decide_eq_true hc16
 refine cT ?_; refine sZ k15 ?_
 refine sk fun _ k20 => ?_
 refine wp_block ?_
 refine qS fun _ k21 => ?_
 refine cM 2 fun Lk hLk => ?_
 refine wpV_idxA (i := k) (by rfl) rfl rfl rfl U937 info9 (Hp.mem M).row (by omega) ?_
 simp only [Z0, Z6]
 refine wpV_loadA (i := k) (v := .string (bs (ps.getD k []))) (by rfl) rfl rfl (Hp.mem M).row (scells_get (ps := ps) (by omega)) U99 rfl ?_
 simp only [Z0, Z6]
 refine hLk _ fun w23 M => ?_
 refine lg ?_; refine lZ k21 ?_
 refine sk fun _ k24 => ?_
 refine wp_block ?_
 refine qS fun _ k25 => ?_
 refine lM ?_
 refine cM 1 fun Lk hLk => ?_
 refine vB (v := .bool (decide (l = 0))) (hr := run_eqlN l 0 _ _) ?_
 refine hLk _ fun w27 M => ?_
 refine lg ?_; refine lZ k25 ?_
 cases hc28 : (decide (l = 0))
 ·
  have hl0 : ¬ l = 0 := of_decide_eq_false hc28
  refine cF ?_
  refine sk fun _ k29 => ?_
  cases hg30 : (decide (a % 2 = 1))
  ·
   have ho : ¬ a % 2 = 1 := of_decide_eq_false hg30
   refine Z13 ?_; refine lM ?_
   refine cM 7 fun Lk hLk => ?_
   refine vB (v := .int .i64 (a % 2 : Nat)) (hr := run_and ((and_i64 (m := a) (n := 1) (by omega) (by decide)).trans (by rw [and_oneN]))) ?_
   refine vB (v := .bool false) (hr := fun W => (run_eqlN (a % 2) 1 _ _ W).trans (by rw [hg30])) ?_
   refine vM ?_; refine vM ?_; refine vM ?_
   refine vB (v := .bool (decide (a = l))) (hr := run_eqlN a l _ _) ?_
   refine vK ?_
   refine hLk _ fun w32 M => ?_
   refine lg ?_; refine lZ k29 ?_
   cases hc33 : (decide (a = l))
   ·
    have hal : ¬ a = l := of_decide_eq_false hc33
    have hno : ¬ (a % 2 = 1 ∨ a = l) := fun q9 => q9.elim ho hal
    refine cF ?_; refine Z13 ?_; refine lM ?_; refine lM ?_
    refine wpL_callMc (f := 117) (args := #[.bool false, .string (bs (ps.getD k []))]) (caps := #[.pointer (some ⟨g, 0, none⟩), .pointer (some ⟨h, 0, none⟩)]) (all := #[.bool false, .string (bs (ps.getD k [])), .pointer (some ⟨g, 0, none⟩), .pointer (some ⟨h, 0, none⟩)]) (R := fun v9 W9 => v9 = .tuple #[] ∧ Mem [g, h] w32 W9 [⟨g, 1, [(0, [.string (bs (nodeS sb (ps.getD k [])))])]⟩, ⟨h, 1, [(0, [.string (bs sa)])]⟩]) (by simp) (by rfl) (by rfl) (by rfl) rfl G9117 (by kernel_rfl) (by kernel_rfl) (fol1_f (x := ps.getD k []) (sa := sa) (sb := sb) (h32k hk) hsa hsb hg0 hh0 (M.oldL L1) (M.oldG R1_0 L1 (by simp; omega)) (M.some (l' := [⟨g, 1, [(0, [.string (bs sb)])]⟩, ⟨h, 1, [(0, [.string (bs sa)])]⟩]) [0, 1] (by decide) rfl)) (fun v9 w35 h9 => ?_)
    obtain ⟨rfl, M9⟩ := h9
    replace M := (show Mem [g, h] w w32 ([⟨g, 1, [(0, [.string (bs sb)])]⟩, ⟨h, 1, [(0, [.string (bs sa)])]⟩] ++ []) from M.pick [0, 1] (by decide) rfl).frame M9
    simp only [List.cons_append, List.nil_append] at M
    simp only [Z0, Z6]
    refine lZ k24 ?_; refine Z13 ?_; refine lM ?_
    refine cM 3 fun Lk hLk => ?_
    refine vB (v := .int .i64 (a / 2 ^ 1 : Nat)) (hr := run_shr (n := 1) (by decide) rfl) ?_
    refine vM ?_
    refine vB (v := .int .i64 (l / 2 ^ 1 : Nat)) (hr := run_shr (n := 1) (by decide) rfl) ?_
    refine hLk _ fun w37 M => ?_
    refine lg ?_; refine lg ?_; refine lZ k20 ?_; refine Z13 ?_
    refine cM 1 fun Lk hLk => ?_
    refine vB (v := .int .i64 (k + 1 : Nat)) (hr := run_add (by simp only [IntKind.wrap_i64]; omega)) ?_
    refine hLk _ fun w39 M => ?_
    refine lM ?_
    refine Z14 (Z15 ?_)
    refine Exists.intro _ ⟨?_, (k + 1), (a / 2 ^ 1), (l / 2 ^ 1), sa, (nodeS sb (ps.getD k [])), (fun q9 => (#[Z9, Z9, Z9, Z9, Z9, Z9, Z9, Z9, Z9, Z9, Z9, .string (bs (ps.getD k [])), Z9, Z9, Z9, .bool true, .pointer (ap.map (·.add k)), .string (bs (ps.getD k [])), .func (.func 117) #[] #[.pointer (some ⟨g, 0, none⟩), .pointer (some ⟨h, 0, none⟩)], .string (bs (ps.getD k [])), .tuple #[], .bool false, .int .i64 l, .bool false, .bool false, .int .i64 a, .int .i64 (a % 2 : Nat), .bool false, .bool false, .int .i64 a, .int .i64 l, .bool false, .bool false, u10 33, u10 34, u10 35, u10 36, u10 37, u10 38, u10 39, u10 40, u10 41, u10 42, u10 43, u10 44, u10 45, u10 46, .int .i64 a, .int .i64 (a / 2 ^ 1 : Nat), .int .i64 l, .int .i64 (l / 2 ^ 1 : Nat), .int .i64 (k + 1 : Nat)] : Array Value).getD q9 Z9), rfl, rfl, M, (by omega), (by omega), (by omega), hsa, (nodeS_len _ _), (walkG_no hk hl0 hno hW)⟩
    omega
   have hal : a = l := of_decide_eq_true hc33
   have hys : a % 2 = 1 ∨ a = l := .inr hal
   refine cT ?_
   refine qS fun _ k40 => ?_
   refine lM ?_; refine lM ?_
   refine wpL_callMc (f := 117) (args := #[.bool true, .string (bs (ps.getD k []))]) (caps := #[.pointer (some ⟨g, 0, none⟩), .pointer (some ⟨h, 0, none⟩)]) (all := #[.bool true, .string (bs (ps.getD k [])), .pointer (some ⟨g, 0, none⟩), .pointer (some ⟨h, 0, none⟩)]) (R := fun v9 W9 => v9 = .tuple #[] ∧ Mem [g, h] w32 W9 [⟨g, 1, [(0, [.string (bs (nodeS (ps.getD k []) sb))])]⟩, ⟨h, 1, [(0, [.string (bs (nodeS (ps.getD k []) sa))])]⟩]) (by simp) (by rfl) (by rfl) (by rfl) rfl G9117 (by kernel_rfl) (by kernel_rfl) (fol1_t (x := ps.getD k []) (sa := sa) (sb := sb) (h32k hk) hsa hsb hg0 hh0 (M.oldL L1) (M.oldG R1_0 L1 (by simp; omega)) (M.some (l' := [⟨g, 1, [(0, [.string (bs sb)])]⟩, ⟨h, 1, [(0, [.string (bs sa)])]⟩]) [0, 1] (by decide) rfl)) (fun v9 w42 h9 => ?_)
   obtain ⟨rfl, M9⟩ := h9
   replace M := (show Mem [g, h] w w32 ([⟨g, 1, [(0, [.string (bs sb)])]⟩, ⟨h, 1, [(0, [.string (bs sa)])]⟩] ++ []) from M.pick [0, 1] (by decide) rfl).frame M9
   simp only [List.cons_append, List.nil_append] at M
   simp only [Z0, Z6]
   refine lZ k40 ?_; refine wp_block ?_
   refine wp_loop_ghost (fun n9 a9 W9 => ∃ (a2 : Nat) (l2 : Nat) (u43_36 u43_37 u43_38 u43_39 u43_40 u43_41 u43_42 u43_43 u43_44 u43_45 u43_46 : Value), n9 = 2 * a2 ∧ a9 = { tmps := #[.int .i64 a2, .int .i64 l2, .slice ap ps.length cp, .func (.func 117) #[] #[.pointer (some ⟨g, 0, none⟩), .pointer (some ⟨h, 0, none⟩)], Z9, Z9, Z9, Z9, .bool false, .bool true, Z9, .string (bs (ps.getD k [])), .slice ap ps.length cp, .int .i64 ps.length, .int .i64 k, .bool true, .pointer (ap.map (·.add k)), .string (bs (ps.getD k [])), u10 18, u10 19, u10 20, .bool false, .int .i64 l, .bool false, .bool true, .int .i64 a, .int .i64 (a % 2 : Nat), .bool false, .bool false, .int .i64 a, .int .i64 l, .bool true, .bool true, .func (.func 117) #[] #[.pointer (some ⟨g, 0, none⟩), .pointer (some ⟨h, 0, none⟩)], .string (bs (ps.getD k [])), .tuple #[], u43_36, u43_37, u43_38, u43_39, u43_40, u43_41, u43_42, u43_43, u43_44, u43_45, u43_46, u10 47, u10 48, u10 49, u10 50, u10 51, Z9, Z9, Z9, Z9, Z9], defers := [] } ∧ Mem [g, h] w W9 [⟨g, 1, [(0, [.string (bs (nodeS (ps.getD k []) sb))])]⟩, ⟨h, 1, [(0, [.string (bs (nodeS (ps.getD k []) sa))])]⟩] ∧ (a2 ≤ a) ∧ (l2 ≤ l) ∧ (skipZ a2 l2 = skipZ a l)) (2 * (a)) ?_ (fun n9 a9 W9 hI => ?_)
   ·
    exact ⟨a, l, _, _, _, _, _, _, _, _, _, _, _, rfl, rfl, M, (Nat.le_refl _), (Nat.le_refl _), rfl⟩
   clear M
   obtain ⟨a2, l2, u43_36, u43_37, u43_38, u43_39, u43_40, u43_41, u43_42, u43_43, u43_44, u43_45, u43_46, rfl, rfl, M, ha2, hl2, hz⟩ := hI
   obtain ⟨w44, rfl⟩ : ∃ W8, W8 = W9 := ⟨_, rfl⟩
   refine sk fun _ k45 => ?_
   refine sk fun _ k46 => ?_
   cases hg47 : (decide (a2 ≠ 0))
   ·
    have hnz : ¬ a2 ≠ 0 := of_decide_eq_false hg47
    have hzz : skipZ a2 l2 = (a2, l2) := by rw [skipZ, dif_neg (fun q9 => hnz q9.1)]
    refine Z13 ?_; refine lM ?_
    refine cM 6 fun Lk hLk => ?_
    refine vB (v := .bool false) (hr := fun W => (run_neqN a2 0 _ _ W).trans (by rw [hg47])) ?_
    refine vM ?_; refine vS ?_; refine vS ?_; refine vS ?_; refine vK ?_
    refine hLk _ fun w49 M => ?_
    refine lZ k46 ?_; refine cF ?_; refine eZ k24 ?_; refine Z13 ?_; refine lM ?_
    refine cM 3 fun Lk hLk => ?_
    refine vB (v := .int .i64 (a2 / 2 ^ 1 : Nat)) (hr := run_shr (n := 1) (by decide) rfl) ?_
    refine vM ?_
    refine vB (v := .int .i64 (l2 / 2 ^ 1 : Nat)) (hr := run_shr (n := 1) (by decide) rfl) ?_
    refine hLk _ fun w51 M => ?_
    refine lg ?_; refine lg ?_; refine lZ k20 ?_; refine Z13 ?_
    refine cM 1 fun Lk hLk => ?_
    refine vB (v := .int .i64 (k + 1 : Nat)) (hr := run_add (by simp only [IntKind.wrap_i64]; omega)) ?_
    refine hLk _ fun w53 M => ?_
    refine lM ?_
    refine Z14 (Z15 ?_)
    refine Exists.intro _ ⟨?_, (k + 1), (a2 / 2 ^ 1), (l2 / 2 ^ 1), (nodeS (ps.getD k []) sa), (nodeS (ps.getD k []) sb), (fun q9 => (#[Z9, Z9, Z9, Z9, Z9, Z9, Z9, Z9, Z9, Z9, Z9, .string (bs (ps.getD k [])), Z9, Z9, Z9, .bool true, .pointer (ap.map (·.add k)), .string (bs (ps.getD k [])), u10 18, u10 19, u10 20, .bool false, .int .i64 l, .bool false, .bool true, .int .i64 a, .int .i64 (a % 2 : Nat), .bool false, .bool false, .int .i64 a, .int .i64 l, .bool true, .bool true, .func (.func 117) #[] #[.pointer (some ⟨g, 0, none⟩), .pointer (some ⟨h, 0, none⟩)], .string (bs (ps.getD k [])), .tuple #[], .int .i64 a2, .bool false, .bool false, Z9, Z9, Z9, .bool false, u43_43, u43_44, u43_45, u43_46, .int .i64 a2, .int .i64 (a2 / 2 ^ 1 : Nat), .int .i64 l2, .int .i64 (l2 / 2 ^ 1 : Nat), .int .i64 (k + 1 : Nat)] : Array Value).getD q9 Z9), rfl, rfl, M, (by omega), (by omega), (by omega), (nodeS_len _ _), (nodeS_len _ _), (walkG_yes hk hl0 hys hz hzz hW)⟩
    omega
   have hnz : a2 ≠ 0 := of_decide_eq_true hg47
   refine Z13 ?_; refine lM ?_
   refine cM 6 fun Lk hLk => ?_
   refine vB (v := .bool true) (hr := fun W => (run_neqN a2 0 _ _ W).trans (by rw [hg47])) ?_
   refine vM ?_; refine vM ?_
   refine vB (v := .int .i64 (a2 % 2 : Nat)) (hr := run_and ((and_i64 (m := a2) (n := 1) (by omega) (by decide)).trans (by rw [and_oneN]))) ?_
   refine vB (v := .bool (decide (a2 % 2 = 0))) (hr := run_eqlN (a2 % 2) 0 _ _) ?_
   refine vK ?_
   refine hLk _ fun w55 M => ?_
   refine lZ k46 ?_
   cases hc56 : (decide (a2 % 2 = 0))
   ·
    have hev : ¬ a2 % 2 = 0 := of_decide_eq_false hc56
    have hzz : skipZ a2 l2 = (a2, l2) := by rw [skipZ, dif_neg (fun q9 => hev q9.2)]
    refine cF ?_; refine eZ k24 ?_; refine Z13 ?_; refine lM ?_
    refine cM 3 fun Lk hLk => ?_
    refine vB (v := .int .i64 (a2 / 2 ^ 1 : Nat)) (hr := run_shr (n := 1) (by decide) rfl) ?_
    refine vM ?_
    refine vB (v := .int .i64 (l2 / 2 ^ 1 : Nat)) (hr := run_shr (n := 1) (by decide) rfl) ?_
    refine hLk _ fun w58 M => ?_
    refine lg ?_; refine lg ?_; refine lZ k20 ?_; refine Z13 ?_
    refine cM 1 fun Lk hLk => ?_
    refine vB (v := .int .i64 (k + 1 : Nat)) (hr := run_add (by simp only [IntKind.wrap_i64]; omega)) ?_
    refine hLk _ fun w60 M => ?_
    refine lM ?_
    refine Z14 (Z15 ?_)
    refine Exists.intro _ ⟨?_, (k + 1), (a2 / 2 ^ 1), (l2 / 2 ^ 1), (nodeS (ps.getD k []) sa), (nodeS (ps.getD k []) sb), (fun q9 => (#[Z9, Z9, Z9, Z9, Z9, Z9, Z9, Z9, Z9, Z9, Z9, .string (bs (ps.getD k [])), Z9, Z9, Z9, .bool true, .pointer (ap.map (·.add k)), .string (bs (ps.getD k [])), u10 18, u10 19, u10 20, .bool false, .int .i64 l, .bool false, .bool true, .int .i64 a, .int .i64 (a % 2 : Nat), .bool false, .bool false, .int .i64 a, .int .i64 l, .bool true, .bool true, .func (.func 117) #[] #[.pointer (some ⟨g, 0, none⟩), .pointer (some ⟨h, 0, none⟩)], .string (bs (ps.getD k [])), .tuple #[], .int .i64 a2, .bool true, .bool true, .int .i64 a2, .int .i64 (a2 % 2 : Nat), .bool false, .bool false, u43_43, u43_44, u43_45, u43_46, .int .i64 a2, .int .i64 (a2 / 2 ^ 1 : Nat), .int .i64 l2, .int .i64 (l2 / 2 ^ 1 : Nat), .int .i64 (k + 1 : Nat)] : Array Value).getD q9 Z9), rfl, rfl, M, (by omega), (by omega), (by omega), (nodeS_len _ _), (nodeS_len _ _), (walkG_yes hk hl0 hys hz hzz hW)⟩
    omega
   have hev : a2 % 2 = 0 := of_decide_eq_true hc56
   refine cT ?_; refine sZ k45 ?_; refine wp_block ?_; refine Z13 ?_; refine lM ?_
   refine cM 3 fun Lk hLk => ?_
   refine vB (v := .int .i64 (a2 / 2 ^ 1 : Nat)) (hr := run_shr (n := 1) (by decide) rfl) ?_
   refine vM ?_
   refine vB (v := .int .i64 (l2 / 2 ^ 1 : Nat)) (hr := run_shr (n := 1) (by decide) rfl) ?_
   refine hLk _ fun w62 M => ?_
   refine lg ?_; refine lg ?_
   refine Z14 (Z15 ?_)
   refine Exists.intro _ ⟨?_, (a2 / 2 ^ 1), (l2 / 2 ^ 1), _, _, _, _, _, _, _, _, _, _, _, rfl, rfl, M, (by omega), (by omega), ((skipZ_go hnz hev).symm.trans hz)⟩
   omega
  have ho : a % 2 = 1 := of_decide_eq_true hg30
  have hys : a % 2 = 1 ∨ a = l := .inl ho
  refine Z13 ?_; refine lM ?_
  refine cM 7 fun Lk hLk => ?_
  refine vB (v := .int .i64 (a % 2 : Nat)) (hr := run_and ((and_i64 (m := a) (n := 1) (by omega) (by decide)).trans (by rw [and_oneN]))) ?_
  refine vB (v := .bool true) (hr := fun W => (run_eqlN (a % 2) 1 _ _ W).trans (by rw [hg30])) ?_
  refine vM ?_; refine vS ?_; refine vS ?_; refine vS ?_; refine vK ?_
  refine hLk _ fun w64 M => ?_
  refine lg ?_; refine lZ k29 ?_; refine cT ?_
  refine qS fun _ k65 => ?_
  refine lM ?_; refine lM ?_
  refine wpL_callMc (f := 117) (args := #[.bool true, .string (bs (ps.getD k []))]) (caps := #[.pointer (some ⟨g, 0, none⟩), .pointer (some ⟨h, 0, none⟩)]) (all := #[.bool true, .string (bs (ps.getD k [])), .pointer (some ⟨g, 0, none⟩), .pointer (some ⟨h, 0, none⟩)]) (R := fun v9 W9 => v9 = .tuple #[] ∧ Mem [g, h] w64 W9 [⟨g, 1, [(0, [.string (bs (nodeS (ps.getD k []) sb))])]⟩, ⟨h, 1, [(0, [.string (bs (nodeS (ps.getD k []) sa))])]⟩]) (by simp) (by rfl) (by rfl) (by rfl) rfl G9117 (by kernel_rfl) (by kernel_rfl) (fol1_t (x := ps.getD k []) (sa := sa) (sb := sb) (h32k hk) hsa hsb hg0 hh0 (M.oldL L1) (M.oldG R1_0 L1 (by simp; omega)) (M.some (l' := [⟨g, 1, [(0, [.string (bs sb)])]⟩, ⟨h, 1, [(0, [.string (bs sa)])]⟩]) [0, 1] (by decide) rfl)) (fun v9 w67 h9 => ?_)
  obtain ⟨rfl, M9⟩ := h9
  replace M := (show Mem [g, h] w w64 ([⟨g, 1, [(0, [.string (bs sb)])]⟩, ⟨h, 1, [(0, [.string (bs sa)])]⟩] ++ []) from M.pick [0, 1] (by decide) rfl).frame M9
  simp only [List.cons_append, List.nil_append] at M
  simp only [Z0, Z6]
  refine lZ k65 ?_; refine wp_block ?_
  refine wp_loop_ghost (fun n9 a9 W9 => ∃ (a2 : Nat) (l2 : Nat) (u68_36 u68_37 u68_38 u68_39 u68_40 u68_41 u68_42 u68_43 u68_44 u68_45 u68_46 : Value), n9 = 2 * a2 ∧ a9 = { tmps := #[.int .i64 a2, .int .i64 l2, .slice ap ps.length cp, .func (.func 117) #[] #[.pointer (some ⟨g, 0, none⟩), .pointer (some ⟨h, 0, none⟩)], Z9, Z9, Z9, Z9, .bool false, .bool true, Z9, .string (bs (ps.getD k [])), .slice ap ps.length cp, .int .i64 ps.length, .int .i64 k, .bool true, .pointer (ap.map (·.add k)), .string (bs (ps.getD k [])), u10 18, u10 19, u10 20, .bool false, .int .i64 l, .bool false, .bool true, .int .i64 a, .int .i64 (a % 2 : Nat), .bool true, .bool true, Z9, Z9, Z9, .bool true, .func (.func 117) #[] #[.pointer (some ⟨g, 0, none⟩), .pointer (some ⟨h, 0, none⟩)], .string (bs (ps.getD k [])), .tuple #[], u68_36, u68_37, u68_38, u68_39, u68_40, u68_41, u68_42, u68_43, u68_44, u68_45, u68_46, u10 47, u10 48, u10 49, u10 50, u10 51, Z9, Z9, Z9, Z9, Z9], defers := [] } ∧ Mem [g, h] w W9 [⟨g, 1, [(0, [.string (bs (nodeS (ps.getD k []) sb))])]⟩, ⟨h, 1, [(0, [.string (bs (nodeS (ps.getD k []) sa))])]⟩] ∧ (a2 ≤ a) ∧ (l2 ≤ l) ∧ (skipZ a2 l2 = skipZ a l)) (2 * (a)) ?_ (fun n9 a9 W9 hI => ?_)
  ·
   exact ⟨a, l, _, _, _, _, _, _, _, _, _, _, _, rfl, rfl, M, (Nat.le_refl _), (Nat.le_refl _), rfl⟩
  clear M
  obtain ⟨a2, l2, u68_36, u68_37, u68_38, u68_39, u68_40, u68_41, u68_42, u68_43, u68_44, u68_45, u68_46, rfl, rfl, M, ha2, hl2, hz⟩ := hI
  obtain ⟨w69, rfl⟩ : ∃ W8, W8 = W9 := ⟨_, rfl⟩
  refine sk fun _ k70 => ?_
  refine sk fun _ k71 => ?_
  cases hg72 : (decide (a2 ≠ 0))
  ·
   have hnz : ¬ a2 ≠ 0 := of_decide_eq_false hg72
   have hzz : skipZ a2 l2 = (a2, l2) := by rw [skipZ, dif_neg (fun q9 => hnz q9.1)]
   refine Z13 ?_; refine lM ?_
   refine cM 6 fun Lk hLk => ?_
   refine vB (v := .bool false) (hr := fun W => (run_neqN a2 0 _ _ W).trans (by rw [hg72])) ?_
   refine vM ?_; refine vS ?_; refine vS ?_; refine vS ?_; refine vK ?_
   refine hLk _ fun w74 M => ?_
   refine lZ k71 ?_; refine cF ?_; refine eZ k24 ?_; refine Z13 ?_; refine lM ?_
   refine cM 3 fun Lk hLk => ?_
   refine vB (v := .int .i64 (a2 / 2 ^ 1 : Nat)) (hr := run_shr (n := 1) (by decide) rfl) ?_
   refine vM ?_
   refine vB (v := .int .i64 (l2 / 2 ^ 1 : Nat)) (hr := run_shr (n := 1) (by decide) rfl) ?_
   refine hLk _ fun w76 M => ?_
   refine lg ?_; refine lg ?_; refine lZ k20 ?_; refine Z13 ?_
   refine cM 1 fun Lk hLk => ?_
   refine vB (v := .int .i64 (k + 1 : Nat)) (hr := run_add (by simp only [IntKind.wrap_i64]; omega)) ?_
   refine hLk _ fun w78 M => ?_
   refine lM ?_
   refine Z14 (Z15 ?_)
   refine Exists.intro _ ⟨?_, (k + 1), (a2 / 2 ^ 1), (l2 / 2 ^ 1), (nodeS (ps.getD k []) sa), (nodeS (ps.getD k []) sb), (fun q9 => (#[Z9, Z9, Z9, Z9, Z9, Z9, Z9, Z9, Z9, Z9, Z9, .string (bs (ps.getD k [])), Z9, Z9, Z9, .bool true, .pointer (ap.map (·.add k)), .string (bs (ps.getD k [])), u10 18, u10 19, u10 20, .bool false, .int .i64 l, .bool false, .bool true, .int .i64 a, .int .i64 (a % 2 : Nat), .bool true, .bool true, Z9, Z9, Z9, .bool true, .func (.func 117) #[] #[.pointer (some ⟨g, 0, none⟩), .pointer (some ⟨h, 0, none⟩)], .string (bs (ps.getD k [])), .tuple #[], .int .i64 a2, .bool false, .bool false, Z9, Z9, Z9, .bool false, u68_43, u68_44, u68_45, u68_46, .int .i64 a2, .int .i64 (a2 / 2 ^ 1 : Nat), .int .i64 l2, .int .i64 (l2 / 2 ^ 1 : Nat), .int .i64 (k + 1 : Nat)] : Array Value).getD q9 Z9), rfl, rfl, M, (by omega), (by omega), (by omega), (nodeS_len _ _), (nodeS_len _ _), (walkG_yes hk hl0 hys hz hzz hW)⟩
   omega
  have hnz : a2 ≠ 0 := of_decide_eq_true hg72
  refine Z13 ?_; refine lM ?_
  refine cM 6 fun Lk hLk => ?_
  refine vB (v := .bool true) (hr := fun W => (run_neqN a2 0 _ _ W).trans (by rw [hg72])) ?_
  refine vM ?_; refine vM ?_
  refine vB (v := .int .i64 (a2 % 2 : Nat)) (hr := run_and ((and_i64 (m := a2) (n := 1) (by omega) (by decide)).trans (by rw [and_oneN]))) ?_
  refine vB (v := .bool (decide (a2 % 2 = 0))) (hr := run_eqlN (a2 % 2) 0 _ _) ?_
  refine vK ?_
  refine hLk _ fun w80 M => ?_
  refine lZ k71 ?_
  cases hc81 : (decide (a2 % 2 = 0))
  ·
   have hev : ¬ a2 % 2 = 0 := of_decide_eq_false hc81
   have hzz : skipZ a2 l2 = (a2, l2) := by rw [skipZ, dif_neg (fun q9 => hev q9.2)]
   refine cF ?_; refine eZ k24 ?_; refine Z13 ?_; refine lM ?_
   refine cM 3 fun Lk hLk => ?_
   refine vB (v := .int .i64 (a2 / 2 ^ 1 : Nat)) (hr := run_shr (n := 1) (by decide) rfl) ?_
   refine vM ?_
   refine vB (v := .int .i64 (l2 / 2 ^ 1 : Nat)) (hr := run_shr (n := 1) (by decide) rfl) ?_
   refine hLk _ fun w83 M => ?_
   refine lg ?_; refine lg ?_; refine lZ k20 ?_; refine Z13 ?_
   refine cM 1 fun Lk hLk => ?_
   refine vB (v := .int .i64 (k + 1 : Nat)) (hr := run_add (by simp only [IntKind.wrap_i64]; omega)) ?_
   refine hLk _ fun w85 M => ?_
   refine lM ?_
   refine Z14 (Z15 ?_)
   refine Exists.intro _ ⟨?_, (k + 1), (a2 / 2 ^ 1), (l2 / 2 ^ 1), (nodeS (ps.getD k []) sa), (nodeS (ps.getD k []) sb), (fun q9 => (#[Z9, Z9, Z9, Z9, Z9, Z9, Z9, Z9, Z9, Z9, Z9, .string (bs (ps.getD k [])), Z9, Z9, Z9, .bool true, .pointer (ap.map (·.add k)), .string (bs (ps.getD k [])), u10 18, u10 19, u10 20, .bool false, .int .i64 l, .bool false, .bool true, .int .i64 a, .int .i64 (a % 2 : Nat), .bool true, .bool true, Z9, Z9, Z9, .bool true, .func (.func 117) #[] #[.pointer (some ⟨g, 0, none⟩), .pointer (some ⟨h, 0, none⟩)], .string (bs (ps.getD k [])), .tuple #[], .int .i64 a2, .bool true, .bool true, .int .i64 a2, .int .i64 (a2 % 2 : Nat), .bool false, .bool false, u68_43, u68_44, u68_45, u68_46, .int .i64 a2, .int .i64 (a2 / 2 ^ 1 : Nat), .int .i64 l2, .int .i64 (l2 / 2 ^ 1 : Nat), .int .i64 (k + 1 : Nat)] : Array Value).getD q9 Z9), rfl, rfl, M, (by omega), (by omega), (by omega), (nodeS_len _ _), (nodeS_len _ _), (walkG_yes hk hl0 hys hz hzz hW)⟩
   omega
  have hev : a2 % 2 = 0 := of_decide_eq_true hc81
  refine cT ?_; refine sZ k70 ?_; refine wp_block ?_; refine Z13 ?_; refine lM ?_
  refine cM 3 fun Lk hLk => ?_
  refine vB (v := .int .i64 (a2 / 2 ^ 1 : Nat)) (hr := run_shr (n := 1) (by decide) rfl) ?_
  refine vM ?_
  refine vB (v := .int .i64 (l2 / 2 ^ 1 : Nat)) (hr := run_shr (n := 1) (by decide) rfl) ?_
  refine hLk _ fun w87 M => ?_
  refine lg ?_; refine lg ?_
  refine Z14 (Z15 ?_)
  refine Exists.intro _ ⟨?_, (a2 / 2 ^ 1), (l2 / 2 ^ 1), _, _, _, _, _, _, _, _, _, _, _, rfl, rfl, M, (by omega), (by omega), ((skipZ_go hnz hev).symm.trans hz)⟩
  omega
 have hl0 : l = 0 := of_decide_eq_true hc28
 refine cT ?_
 refine qS fun _ k88 => ?_
 refine lg ?_; refine lZ k88 ?_; refine eZ k6 ?_
 refine qS fun _ k90 => ?_
 refine lM ?_; refine lM ?_; refine lS ?_; refine lS ?_; refine lK ?_; refine lg ?_; refine lZ k90 ?_; refine wp_ret ?_
 repeat (first | with_reducible refine then_ret ?_ | with_reducible refine inblock_ret ?_ | with_reducible refine nogoto_ret ?_)
 refine bodyPost_ret (v := .bool false) (res1 rfl (.tmp (by rfl))) rfl ?_
 exact ⟨_, rfl, by rw [hW, walkG_stop hk hl0], by rw [hW, walkG_stop hk hl0]; exact M⟩
end Go.Proofs.Yc

namespace Go.Proofs.Yc
open Go Go.RowKit Go.Proofs.Num
open Tryd renaming underlying37 → U937, underlying9 → U99
open Go.Proofs.Num  renaming putT → Z0
open List renaming set → Z6, take → Z7, drop → Z8
open Go renaming undef → Z9
open Go.Proofs.Num renaming wp_region_seq → Z13, wpL_nil → Z14, no_panic → Z15, then_normal → Z22
attribute [local irreducible] wpV wpN wpList
/-- Does a step show that a tree goes on from another one? -/
def folB (m n : Nat) (old root : List UInt8) (st : List (List UInt8)) : Bool := decide (followT oldF m n old st true = old ∧ followT nodeF m n old st true = root)
theorem folB_nil {m n : Nat} {old root : List UInt8} (h1 : 1 ≤ m) (hm : m < n) (ho : old ≠ []) : folB m n old root [] = false := by
 unfold folB
 rw [followT_nil h1 hm]
 exact decide_eq_false fun h => ho h.1.symm
theorem dec_no1 {x : Bool} {B D : Prop} [Decidable D] (h : (x = true ∧ B) ↔ D) (hx : x = false) : decide D = false := decide_eq_false fun d => by
 have := (h.2 d).1
 rw [hx] at this
 cases this
theorem dec_no2 {x : Bool} {B C D : Prop} [Decidable D] (h : (x = true ∧ B ∧ C) ↔ D) (hb : ¬ B) : decide D = false := decide_eq_false fun d => hb (h.2 d).2.1
theorem dec_yes {x : Bool} {B C D : Prop} [Decidable D] [Decidable C] (h : (x = true ∧ B ∧ C) ↔ D) (hx : x = true) (hb : B) : decide D = decide C := by
 by_cases hc : C
 ·
  rw [decide_eq_true hc, decide_eq_true (h.1 ⟨hx, hb, hc⟩)]
 rw [decide_eq_false hc, decide_eq_false fun d => hc (h.2 d).2.2]
theorem dec_one {x : Bool} {C D : Prop} [Decidable D] [Decidable C] (h : (x = true ∧ C) ↔ D) (hx : x = true) : decide D = decide C := by
 by_cases hc : C
 ·
  rw [decide_eq_true hc, decide_eq_true (h.1 ⟨hx, hc⟩)]
 rw [decide_eq_false hc, decide_eq_false fun d => hc (h.2 d).2]
set_option maxHeartbeats 4000000 in
theorem follows_c {st : List (List UInt8)} {ap : Option Addr} {np cp : Nat} {m n : Nat} {old root : List UInt8} {w : World} (hq : st.length ≤ 4611686018427387904) (h1 : 1 ≤ m) (hm : m < n) (hn : n ≤ 4096) (hol : old.length = 32) (hrt : root.length = 32) (h32 : ∀ s ∈ st, s.length = 32) (L1 : 1 < w.heap.size) (R1_0 : w.rangeAt 1 0 kcells) (Hp : RowA w ap np cp (scells st)) :
  Calls Tryd.prog 80 #[.int .i64 m, .int .i64 n, .string (bs old), .string (bs root), .slice ap np cp] w fun e w' => e = .returned (.bool (folB m n old root st)) ∧ Below w.heap.size w w' := by
 obtain rfl : np = st.length := by have := Hp.len; rwa [scells_len] at this
 have hone : old ≠ [] := fun e9 => by rw [e9] at hol; cases hol
 have hrne : root ≠ [] := fun e9 => by rw [e9] at hrt; cases hrt
 go_enter Tryd.func80, Tryd.ntmps80
 have M := Mem.start w
 refine qS fun _ k1 => ?_
 refine lg ?_; refine lZ k1 ?_
 refine qS fun _ k3 => ?_
 refine lM ?_
 refine cM 3 fun Lk hLk => ?_
 refine vB (v := .int .i64 (m - 1 : Nat)) (hr := run_sub (by simp only [IntKind.wrap_i64]; omega)) ?_
 refine vM ?_
 refine vB (v := .int .i64 (n - 1 : Nat)) (hr := run_sub (by simp only [IntKind.wrap_i64]; omega)) ?_
 refine hLk _ fun w5 M => ?_
 refine lg ?_; refine lg ?_; refine lZ k3 ?_
 refine sk fun _ k6 => ?_
 refine wp_block ?_
 refine wp_loop_ghost (fun n9 a9 W9 => ∃ (a : Nat) (l : Nat) (u7_22 u7_23 u7_24 u7_25 u7_26 u7_27 u7_28 : Value), n9 = 2 * a ∧ a9 = { tmps := #[.int .i64 m, .int .i64 n, .string (bs old), .string (bs root), .slice ap st.length cp, Z9, Z9, Z9, Z9, Z9, .bool false, .int .i64 a, .int .i64 l, Z9, Z9, Z9, Z9, Z9, .int .i64 m, .int .i64 (m - 1 : Nat), .int .i64 n, .int .i64 (n - 1 : Nat), u7_22, u7_23, u7_24, u7_25, u7_26, u7_27, u7_28, Z9, Z9, Z9, Z9, Z9, Z9, Z9, Z9, Z9, Z9, Z9, Z9, Z9, Z9, Z9, Z9, Z9, Z9, Z9, Z9, Z9, Z9, Z9, Z9, Z9, Z9, Z9, Z9, Z9, Z9, Z9, Z9, Z9, Z9, Z9, Z9, Z9, Z9, Z9, Z9], defers := [] } ∧ Mem [] w W9 [] ∧ (a ≤ 4096) ∧ (l ≤ 4096) ∧ (stripA a l = stripA (m - 1) (n - 1))) (2 * (m - 1)) ?_ (fun n9 a9 W9 hI => ?_)
 ·
  exact ⟨(m - 1), (n - 1), _, _, _, _, _, _, _, rfl, rfl, M, (by omega), (by omega), rfl⟩
 clear M
 obtain ⟨a, l, u7_22, u7_23, u7_24, u7_25, u7_26, u7_27, u7_28, rfl, rfl, M, ha, hl, hz⟩ := hI
 obtain ⟨w8, rfl⟩ : ∃ W8, W8 = W9 := ⟨_, rfl⟩
 refine sk fun _ k9 => ?_
 refine qS fun _ k10 => ?_
 refine lM ?_
 refine cM 2 fun Lk hLk => ?_
 refine vB (v := .int .i64 (a % 2 : Nat)) (hr := run_and ((and_i64 (m := a) (n := 1) (by omega) (by decide)).trans (by rw [and_oneN]))) ?_
 refine vB (v := .bool (decide (a % 2 = 1))) (hr := run_eqlN (a % 2) 1 _ _) ?_
 refine hLk _ fun w12 M => ?_
 refine lZ k10 ?_
 cases hc13 : (decide (a % 2 = 1))
 ·
  have ho : ¬ a % 2 = 1 := of_decide_eq_false hc13
  have hst : stripA (m - 1) (n - 1) = (a, l) := hz.symm.trans (stripA_even ho)
  refine cF ?_; refine eZ k6 ?_
  refine sk fun _ k14 => ?_
  refine qS fun _ k15 => ?_
  refine lM ?_
  refine cM 1 fun Lk hLk => ?_
  refine vB (v := .bool (decide (a ≠ 0))) (hr := run_neqN a 0 _ _) ?_
  refine hLk _ fun w17 M => ?_
  refine lZ k15 ?_
  cases hc18 : (decide (a ≠ 0))
  ·
   obtain rfl : a = 0 := Decidable.not_not.1 (of_decide_eq_false hc18)
   have hfm := follows_whole (st := st) h1 hm (by rw [hst]) hone hrne
   rw [hst] at hfm
   refine cF ?_; refine sZ k14 ?_
   refine qS fun _ k19 => ?_
   refine lM ?_
   refine nV 1 fun g21 w22 M => ?_
   refine sT1 0 0 fun w23 M => ?_
   refine lZ k19 ?_
   refine qS fun _ k24 => ?_
   refine lM ?_; refine lM ?_; refine lM ?_
   refine cM 1 fun Lk hLk => ?_
   refine vGk (v := .func (.func 120) #[] #[.pointer (some ⟨g21, 0, none⟩)]) ?_
   simp only [Z0, Z6]
   refine hLk _ fun w26 M => ?_
   refine wpL_callM (f := 116) (args := #[.int .i64 0, .int .i64 l, .slice ap st.length cp, .func (.func 120) #[] #[.pointer (some ⟨g21, 0, none⟩)]]) (R := fun v9 W9 => v9 = .bool ((walkF nodeF st 0 l old).1) ∧ Mem [g21] w26 W9 [⟨g21, 1, [(0, [.string (bs (walkF nodeF st 0 l old).2)])]⟩]) (by rfl) (by rfl) rfl Tryd.func116 (by kernel_rfl) (by kernel_rfl) (walk1_c (ps := st) (a0 := 0) (l0 := l) hq (by omega) (by omega) (fun hk => getD_32 h32 hk) hol (M.neK 0 rfl L1) (M.oldL L1) (M.oldR R1_0 L1) ((M.notins Hp).sub (show ∀ x ∈ [g21], x ∈ [g21] from (by intro x hx; simp only [List.mem_cons, List.not_mem_nil, or_false] at hx ⊢; omega))) (M.some (l' := [⟨g21, 1, [(0, [.string (bs old)])]⟩]) [0] (by decide) rfl)) (fun v9 w27 h9 => ?_)
   obtain ⟨rfl, M9⟩ := h9
   replace M := (show Mem [] w w26 ([⟨g21, 1, [(0, [.string (bs old)])]⟩] ++ []) from M.pick [0] (by decide) rfl).frame M9
   simp only [List.cons_append, List.nil_append] at M
   simp only [Z0, Z6]
   refine lg ?_; refine lZ k24 ?_
   refine sk fun _ k28 => ?_
   cases hw1 : (walkF nodeF st 0 l old).1
   ·
    refine Z13 ?_; refine lM ?_; refine lM ?_; refine lS ?_; refine lS ?_; refine lS ?_; refine lK ?_; refine lg ?_; refine lZ k28 ?_
    refine rt1 ?_
    have BE := M.below
    exact ⟨by unfold folB; rw [dec_no1 hfm hw1], BE⟩
   refine Z13 ?_; refine lM ?_; refine lM ?_; refine lc ?_; refine lM ?_
   refine cM 2 fun Lk hLk => ?_
   refine wpV_binS (v := .bool (decide ((walkF nodeF st 0 l old).2 = root))) (by rfl) rfl rfl rfl (run_eql_bs _ _ _) ?_
   simp only [Z0, Z6]
   refine vK ?_
   refine hLk _ fun w32 M => ?_
   refine lg ?_; refine lZ k28 ?_; refine rt1 ?_
   have BE := M.below
   exact ⟨by unfold folB; rw [dec_one hfm hw1], BE⟩
  have hnz : a ≠ 0 := of_decide_eq_true hc18
  refine cT ?_
  refine sk fun _ k33 => ?_
  refine qS fun _ k34 => ?_
  refine lM ?_
  refine cM 2 fun Lk hLk => ?_
  refine wpV_lenA (n := st.length) (by rfl) rfl rfl rfl U937 ?_
  simp only [Z0, Z6]
  refine vB (v := .bool (decide (st.length = 0))) (hr := run_eqlN st.length 0 _ _) ?_
  refine hLk _ fun w36 M => ?_
  refine lZ k34 ?_
  cases hc37 : (decide (st.length = 0))
  ·
   have hs0 : ¬ st.length = 0 := of_decide_eq_false hc37
   have hcons : st = st.getD 0 [] :: st.drop 1 := by have := drop_get (ps := st) (k := 0) (by omega); simpa using this
   have hfm := follows_more (s0 := st.getD 0 []) (st := st.drop 1) h1 hm (by rw [hst]; exact hnz) hone hrne
   rw [hst, ← hcons] at hfm
   have hd32 : (st.getD 0 []).length = 32 := getD_32 h32 (by omega)
   refine cF ?_; refine sZ k33 ?_
   refine sk fun K38 k38 => ?_
   have HK39 : ∀ (g43 : Nat) (g45 : Nat) (W9 : World), Mem [] w W9 [⟨g45, 1, [(0, [.string (bs (st.getD 0 []))])]⟩, ⟨g43, 1, [(0, [.string (bs (st.getD 0 []))])]⟩] → K38 { tmps := #[.int .i64 m, .int .i64 n, .string (bs old), .string (bs root), .slice ap st.length cp, Z9, Z9, Z9, Z9, Z9, .bool false, .int .i64 a, .int .i64 l, .pointer (some ⟨g43, 0, none⟩), .pointer (some ⟨g45, 0, none⟩), Z9, Z9, Z9, .int .i64 m, .int .i64 (m - 1 : Nat), .int .i64 n, .int .i64 (n - 1 : Nat), .int .i64 a, .int .i64 (a % 2 : Nat), .bool false, u7_25, u7_26, u7_27, u7_28, .int .i64 a, .bool true, .slice ap st.length cp, .int .i64 st.length, .bool false, .slice ap st.length cp, .pointer (ap.map (·.add 0)), .string (bs (st.getD 0 [])), .slice ap st.length cp, .pointer (ap.map (·.add 0)), .string (bs (st.getD 0 [])), Z9, Z9, Z9, Z9, Z9, Z9, Z9, Z9, Z9, Z9, Z9, Z9, Z9, Z9, Z9, Z9, Z9, Z9, Z9, Z9, Z9, Z9, Z9, Z9, Z9, Z9, Z9, Z9, Z9], defers := [] } W9 := by
    clear M
    intro g43 g45 W9 M
    obtain ⟨w40, rfl⟩ : ∃ W8, W8 = W9 := ⟨_, rfl⟩
    refine k38 _ _ ?_
    refine qS fun _ k41 => ?_
    refine lM ?_; refine lM ?_; refine lM ?_
    refine cM 2 fun Lk hLk => ?_
    refine wpV_slcL (lo := 1) (by rfl) rfl rfl rfl U937 info9 (by omega) ?_
    simp only [Z0, Z6]
    refine vGk (v := .func (.func 117) #[] #[.pointer (some ⟨g45, 0, none⟩), .pointer (some ⟨g43, 0, none⟩)]) ?_
    simp only [Z0, Z6]
    refine hLk _ fun w43 M => ?_
    refine wpL_callM (f := 116) (args := #[.int .i64 a, .int .i64 l, .slice (slA ap 1 cp) (st.length - 1) (cp - 1), .func (.func 117) #[] #[.pointer (some ⟨g45, 0, none⟩), .pointer (some ⟨g43, 0, none⟩)]]) (R := fun v9 W9 => v9 = .bool ((walkF bothF (st.drop 1) a l (st.getD 0 [], st.getD 0 [])).1) ∧ Mem [g45, g43] w43 W9 [⟨g45, 1, [(0, [.string (bs (walkF bothF (st.drop 1) a l (st.getD 0 [], st.getD 0 [])).2.2)])]⟩, ⟨g43, 1, [(0, [.string (bs (walkF bothF (st.drop 1) a l (st.getD 0 [], st.getD 0 [])).2.1)])]⟩]) (by rfl) (by rfl) rfl Tryd.func116 (by kernel_rfl) (by kernel_rfl) (walk2_c (ps := st.drop 1) (a0 := a) (l0 := l) (by rw [List.length_drop]; omega) (by omega) (by omega) (fun hk => getD_32 (fun s9 h9 => h32 s9 (List.mem_of_mem_drop h9)) hk) hd32 hd32 (M.neK 0 rfl L1) (M.neK 1 rfl L1) (M.oldL L1) (M.oldR R1_0 L1) ((((M.notins Hp).drop (by omega)).eq (scells_drop2 _ _)).sub (show ∀ x ∈ [g45, g43], x ∈ [g45, g43] from (by intro x hx; simp only [List.mem_cons, List.not_mem_nil, or_false] at hx ⊢; omega))) (M.some (l' := [⟨g45, 1, [(0, [.string (bs (st.getD 0 []))])]⟩, ⟨g43, 1, [(0, [.string (bs (st.getD 0 []))])]⟩]) [0, 1] (by decide) rfl)) (fun v9 w44 h9 => ?_)
    obtain ⟨rfl, M9⟩ := h9
    replace M := (show Mem [] w w43 ([⟨g45, 1, [(0, [.string (bs (st.getD 0 []))])]⟩, ⟨g43, 1, [(0, [.string (bs (st.getD 0 []))])]⟩] ++ []) from M.pick [0, 1] (by decide) rfl).frame M9
    simp only [List.cons_append, List.nil_append] at M
    simp only [Z0, Z6]
    refine lg ?_; refine lZ k41 ?_
    refine sk fun _ k45 => ?_
    cases hw1 : (walkF bothF (st.drop 1) a l (st.getD 0 [], st.getD 0 [])).1
    ·
     refine Z13 ?_; refine lM ?_; refine lM ?_; refine lS ?_; refine lS ?_; refine lS ?_; refine lK ?_; refine lM ?_; refine lS ?_
     refine lS ?_; refine lS ?_; refine lK ?_; refine lg ?_; refine lZ k45 ?_; refine rt1 ?_
     have BE := M.below
     exact ⟨by unfold folB; rw [dec_no1 hfm hw1], BE⟩
    cases hg48 : (decide ((walkF bothF (st.drop 1) a l (st.getD 0 [], st.getD 0 [])).2.1 = old))
    ·
     have hw2 : ¬ (walkF bothF (st.drop 1) a l (st.getD 0 [], st.getD 0 [])).2.1 = old := of_decide_eq_false hg48
     refine Z13 ?_; refine lM ?_; refine lM ?_; refine lc ?_; refine lM ?_
     refine cM 7 fun Lk hLk => ?_
     refine wpV_binS (v := .bool false) (by rfl) rfl rfl rfl (fun W => (run_eql_bs _ _ _ W).trans (by rw [hg48])) ?_
     simp only [Z0, Z6]
     refine vK ?_; refine vM ?_; refine vS ?_; refine vS ?_; refine vS ?_; refine vK ?_
     refine hLk _ fun w50 M => ?_
     refine lg ?_; refine lZ k45 ?_; refine rt1 ?_
     have BE := M.below
     exact ⟨by unfold folB; rw [dec_no2 hfm hw2], BE⟩
    have hw2 : (walkF bothF (st.drop 1) a l (st.getD 0 [], st.getD 0 [])).2.1 = old := of_decide_eq_true hg48
    refine Z13 ?_; refine lM ?_; refine lM ?_; refine lc ?_; refine lM ?_
    refine cM 7 fun Lk hLk => ?_
    refine wpV_binS (v := .bool true) (by rfl) rfl rfl rfl (fun W => (run_eql_bs _ _ _ W).trans (by rw [hg48])) ?_
    simp only [Z0, Z6]
    refine vK ?_; refine vM ?_; refine vc ?_; refine vM ?_
    refine wpV_binS (v := .bool (decide ((walkF bothF (st.drop 1) a l (st.getD 0 [], st.getD 0 [])).2.2 = root))) (by rfl) rfl rfl rfl (run_eql_bs _ _ _) ?_
    simp only [Z0, Z6]
    refine vK ?_
    refine hLk _ fun w52 M => ?_
    refine lg ?_; refine lZ k45 ?_; refine rt1 ?_
    have BE := M.below
    exact ⟨by unfold folB; rw [dec_yes hfm hw1 hw2], BE⟩
   refine wp_region_treeN (by kernel_rfl) (fun w54 Sw54 => ?_)
   replace M := M.sees Sw54
   refine any_first 0 (v := .slice ap st.length cp) (by rfl) (by kernel_rfl) nopanic_not (by rfl) (by exact yl_move rfl rfl) ?_
   simp only [Z0, Z6]
   refine any_first 1 (v := .pointer (ap.map (·.add 0))) (by rfl) (by kernel_rfl) nopanic_not (by rfl) (by exact yl_idxA (i := 0) rfl rfl rfl U937 info9 (M.oldA Hp) (by omega)) ?_
   simp only [Z0, Z6]
   refine any_first 3 (v := .slice ap st.length cp) (by rfl) (by kernel_rfl) nopanic_not (by rfl) (by exact yl_move rfl rfl) ?_
   simp only [Z0, Z6]
   refine any_first 4 (v := .pointer (ap.map (·.add 0))) (by rfl) (by kernel_rfl) nopanic_not (by rfl) (by exact yl_idxA (i := 0) rfl rfl rfl U937 info9 (M.oldA Hp) (by omega)) ?_
   simp only [Z0, Z6]
   refine any_step [2, 5, 6, 7] (by kernel_rfl) rfl (any_two ?_ (any_two ?_ (any_two ?_ (any_one ?_))))
   ·
    refine any_opL 2 (by rfl) ?_
    simp only [Z7, Z8]
    refine cM 1 fun Lk hLk => ?_
    refine wpV_loadA (i := 0) (v := .string (bs (st.getD 0 []))) (by rfl) rfl rfl (M.oldA Hp) (scells_get (ps := st) (by omega)) U99 rfl ?_
    simp only [Z0, Z6]
    refine hLk _ fun w55 M => ?_
    refine Z14 (Z22 ?_)
    refine any_step [5, 6, 7] (by kernel_rfl) rfl (any_two ?_ (any_two ?_ (any_one ?_)))
    ·
     refine any_opL 5 (by rfl) ?_
     simp only [Z7, Z8]
     refine cM 1 fun Lk hLk => ?_
     refine wpV_loadA (i := 0) (v := .string (bs (st.getD 0 []))) (by rfl) rfl rfl (M.oldA Hp) (scells_get (ps := st) (by omega)) U99 rfl ?_
     simp only [Z0, Z6]
     refine hLk _ fun w56 M => ?_
     refine Z14 (Z22 ?_)
     refine any_step [6, 7] (by kernel_rfl) rfl (any_two ?_ (any_one ?_))
     ·
      refine any_opL 6 (by rfl) ?_
      simp only [Z7, Z8]
      refine nV 1 fun g57 w58 M => ?_
      refine Z14 (Z22 ?_)
      refine any_step [7] (by kernel_rfl) rfl (any_one ?_)
      refine any_opL 7 (by rfl) ?_
      simp only [Z7, Z8]
      refine nV 1 fun g59 w60 M => ?_
      refine Z14 (Z22 ?_)
      refine any_step [8] (by kernel_rfl) rfl (any_one ?_)
      refine any_opL 8 (by rfl) ?_
      simp only [Z7, Z8]
      refine sT1 1 0 fun w61 M => ?_
      refine Z14 (Z22 ?_)
      refine any_step [9] (by kernel_rfl) rfl (any_one ?_)
      refine any_opL 9 (by rfl) ?_
      simp only [Z7, Z8]
      refine sT1 0 0 fun w62 M => ?_
      refine Z14 (Z22 ?_)
      refine any_end (by kernel_rfl) (Z15 ?_)
      exact HK39 g57 g59  _  M
     refine any_opL 7 (by rfl) ?_
     simp only [Z7, Z8]
     refine nV 1 fun g63 w64 M => ?_
     refine Z14 (Z22 ?_)
     refine any_step [6] (by kernel_rfl) rfl (any_one ?_)
     refine any_opL 6 (by rfl) ?_
     simp only [Z7, Z8]
     refine nV 1 fun g65 w66 M => ?_
     refine Z14 (Z22 ?_)
     refine any_step [8] (by kernel_rfl) rfl (any_one ?_)
     refine any_opL 8 (by rfl) ?_
     simp only [Z7, Z8]
     refine sT1 0 0 fun w67 M => ?_
     refine Z14 (Z22 ?_)
     refine any_step [9] (by kernel_rfl) rfl (any_one ?_)
     refine any_opL 9 (by rfl) ?_
     simp only [Z7, Z8]
     refine sT1 1 0 fun w68 M => ?_
     refine Z14 (Z22 ?_)
     refine any_end (by kernel_rfl) (Z15 ?_)
     exact HK39 g65 g63  _  (M.pick [1, 0] (by decide) rfl)
    ·
     refine any_opL 6 (by rfl) ?_
     simp only [Z7, Z8]
     refine nV 1 fun g69 w70 M => ?_
     refine Z14 (Z22 ?_)
     refine any_step [5, 7] (by kernel_rfl) rfl (any_two ?_ (any_one ?_))
     ·
      refine any_opL 5 (by rfl) ?_
      simp only [Z7, Z8]
      refine cM 1 fun Lk hLk => ?_
      refine wpV_loadA (i := 0) (v := .string (bs (st.getD 0 []))) (by rfl) rfl rfl (M.oldA Hp) (scells_get (ps := st) (by omega)) U99 rfl ?_
      simp only [Z0, Z6]
      refine hLk _ fun w71 M => ?_
      refine Z14 (Z22 ?_)
      refine any_step [7] (by kernel_rfl) rfl (any_one ?_)
      refine any_opL 7 (by rfl) ?_
      simp only [Z7, Z8]
      refine nV 1 fun g72 w73 M => ?_
      refine Z14 (Z22 ?_)
      refine any_step [8] (by kernel_rfl) rfl (any_one ?_)
      refine any_opL 8 (by rfl) ?_
      simp only [Z7, Z8]
      refine sT1 1 0 fun w74 M => ?_
      refine Z14 (Z22 ?_)
      refine any_step [9] (by kernel_rfl) rfl (any_one ?_)
      refine any_opL 9 (by rfl) ?_
      simp only [Z7, Z8]
      refine sT1 0 0 fun w75 M => ?_
      refine Z14 (Z22 ?_)
      refine any_end (by kernel_rfl) (Z15 ?_)
      exact HK39 g69 g72  _  M
     refine any_opL 7 (by rfl) ?_
     simp only [Z7, Z8]
     refine nV 1 fun g76 w77 M => ?_
     refine Z14 (Z22 ?_)
     refine any_step [5, 8] (by kernel_rfl) rfl (any_two ?_ (any_one ?_))
     ·
      refine any_opL 5 (by rfl) ?_
      simp only [Z7, Z8]
      refine cM 1 fun Lk hLk => ?_
      refine wpV_loadA (i := 0) (v := .string (bs (st.getD 0 []))) (by rfl) rfl rfl (M.oldA Hp) (scells_get (ps := st) (by omega)) U99 rfl ?_
      simp only [Z0, Z6]
      refine hLk _ fun w78 M => ?_
      refine Z14 (Z22 ?_)
      refine any_step [8] (by kernel_rfl) rfl (any_one ?_)
      refine any_opL 8 (by rfl) ?_
      simp only [Z7, Z8]
      refine sT1 1 0 fun w79 M => ?_
      refine Z14 (Z22 ?_)
      refine any_step [9] (by kernel_rfl) rfl (any_one ?_)
      refine any_opL 9 (by rfl) ?_
      simp only [Z7, Z8]
      refine sT1 0 0 fun w80 M => ?_
      refine Z14 (Z22 ?_)
      refine any_end (by kernel_rfl) (Z15 ?_)
      exact HK39 g69 g76  _  M
     refine any_opL 8 (by rfl) ?_
     simp only [Z7, Z8]
     refine sT1 1 0 fun w81 M => ?_
     refine Z14 (Z22 ?_)
     refine any_step [5] (by kernel_rfl) rfl (any_one ?_)
     refine any_opL 5 (by rfl) ?_
     simp only [Z7, Z8]
     refine cM 1 fun Lk hLk => ?_
     refine wpV_loadA (i := 0) (v := .string (bs (st.getD 0 []))) (by rfl) rfl rfl (M.oldA Hp) (scells_get (ps := st) (by omega)) U99 rfl ?_
     simp only [Z0, Z6]
     refine hLk _ fun w82 M => ?_
     refine Z14 (Z22 ?_)
     refine any_step [9] (by kernel_rfl) rfl (any_one ?_)
     refine any_opL 9 (by rfl) ?_
     simp only [Z7, Z8]
     refine sT1 0 0 fun w83 M => ?_
     refine Z14 (Z22 ?_)
     refine any_end (by kernel_rfl) (Z15 ?_)
     exact HK39 g69 g76  _  M
    refine any_opL 7 (by rfl) ?_
    simp only [Z7, Z8]
    refine nV 1 fun g84 w85 M => ?_
    refine Z14 (Z22 ?_)
    refine any_step [5, 6] (by kernel_rfl) rfl (any_two ?_ (any_one ?_))
    ·
     refine any_opL 5 (by rfl) ?_
     simp only [Z7, Z8]
     refine cM 1 fun Lk hLk => ?_
     refine wpV_loadA (i := 0) (v := .string (bs (st.getD 0 []))) (by rfl) rfl rfl (M.oldA Hp) (scells_get (ps := st) (by omega)) U99 rfl ?_
     simp only [Z0, Z6]
     refine hLk _ fun w86 M => ?_
     refine Z14 (Z22 ?_)
     refine any_step [6] (by kernel_rfl) rfl (any_one ?_)
     refine any_opL 6 (by rfl) ?_
     simp only [Z7, Z8]
     refine nV 1 fun g87 w88 M => ?_
     refine Z14 (Z22 ?_)
     refine any_step [8] (by kernel_rfl) rfl (any_one ?_)
     refine any_opL 8 (by rfl) ?_
     simp only [Z7, Z8]
     refine sT1 0 0 fun w89 M => ?_
     refine Z14 (Z22 ?_)
     refine any_step [9] (by kernel_rfl) rfl (any_one ?_)
     refine any_opL 9 (by rfl) ?_
     simp only [Z7, Z8]
     refine sT1 1 0 fun w90 M => ?_
     refine Z14 (Z22 ?_)
     refine any_end (by kernel_rfl) (Z15 ?_)
     exact HK39 g87 g84  _  (M.pick [1, 0] (by decide) rfl)
    refine any_opL 6 (by rfl) ?_
    simp only [Z7, Z8]
    refine nV 1 fun g91 w92 M => ?_
    refine Z14 (Z22 ?_)
    refine any_step [5, 8] (by kernel_rfl) rfl (any_two ?_ (any_one ?_))
    ·
     refine any_opL 5 (by rfl) ?_
     simp only [Z7, Z8]
     refine cM 1 fun Lk hLk => ?_
     refine wpV_loadA (i := 0) (v := .string (bs (st.getD 0 []))) (by rfl) rfl rfl (M.oldA Hp) (scells_get (ps := st) (by omega)) U99 rfl ?_
     simp only [Z0, Z6]
     refine hLk _ fun w93 M => ?_
     refine Z14 (Z22 ?_)
     refine any_step [8] (by kernel_rfl) rfl (any_one ?_)
     refine any_opL 8 (by rfl) ?_
     simp only [Z7, Z8]
     refine sT1 0 0 fun w94 M => ?_
     refine Z14 (Z22 ?_)
     refine any_step [9] (by kernel_rfl) rfl (any_one ?_)
     refine any_opL 9 (by rfl) ?_
     simp only [Z7, Z8]
     refine sT1 1 0 fun w95 M => ?_
     refine Z14 (Z22 ?_)
     refine any_end (by kernel_rfl) (Z15 ?_)
     exact HK39 g91 g84  _  (M.pick [1, 0] (by decide) rfl)
    refine any_opL 8 (by rfl) ?_
    simp only [Z7, Z8]
    refine sT1 0 0 fun w96 M => ?_
    refine Z14 (Z22 ?_)
    refine any_step [5] (by kernel_rfl) rfl (any_one ?_)
    refine any_opL 5 (by rfl) ?_
    simp only [Z7, Z8]
    refine cM 1 fun Lk hLk => ?_
    refine wpV_loadA (i := 0) (v := .string (bs (st.getD 0 []))) (by rfl) rfl rfl (M.oldA Hp) (scells_get (ps := st) (by omega)) U99 rfl ?_
    simp only [Z0, Z6]
    refine hLk _ fun w97 M => ?_
    refine Z14 (Z22 ?_)
    refine any_step [9] (by kernel_rfl) rfl (any_one ?_)
    refine any_opL 9 (by rfl) ?_
    simp only [Z7, Z8]
    refine sT1 1 0 fun w98 M => ?_
    refine Z14 (Z22 ?_)
    refine any_end (by kernel_rfl) (Z15 ?_)
    exact HK39 g91 g84  _  (M.pick [1, 0] (by decide) rfl)
   ·
    refine any_opL 5 (by rfl) ?_
    simp only [Z7, Z8]
    refine cM 1 fun Lk hLk => ?_
    refine wpV_loadA (i := 0) (v := .string (bs (st.getD 0 []))) (by rfl) rfl rfl (M.oldA Hp) (scells_get (ps := st) (by omega)) U99 rfl ?_
    simp only [Z0, Z6]
    refine hLk _ fun w99 M => ?_
    refine Z14 (Z22 ?_)
    refine any_step [2, 6, 7] (by kernel_rfl) rfl (any_two ?_ (any_two ?_ (any_one ?_)))
    ·
     refine any_opL 2 (by rfl) ?_
     simp only [Z7, Z8]
     refine cM 1 fun Lk hLk => ?_
     refine wpV_loadA (i := 0) (v := .string (bs (st.getD 0 []))) (by rfl) rfl rfl (M.oldA Hp) (scells_get (ps := st) (by omega)) U99 rfl ?_
     simp only [Z0, Z6]
     refine hLk _ fun w100 M => ?_
     refine Z14 (Z22 ?_)
     refine any_step [6, 7] (by kernel_rfl) rfl (any_two ?_ (any_one ?_))
     ·
      refine any_opL 6 (by rfl) ?_
      simp only [Z7, Z8]
      refine nV 1 fun g101 w102 M => ?_
      refine Z14 (Z22 ?_)
      refine any_step [7] (by kernel_rfl) rfl (any_one ?_)
      refine any_opL 7 (by rfl) ?_
      simp only [Z7, Z8]
      refine nV 1 fun g103 w104 M => ?_
      refine Z14 (Z22 ?_)
      refine any_step [8] (by kernel_rfl) rfl (any_one ?_)
      refine any_opL 8 (by rfl) ?_
      simp only [Z7, Z8]
      refine sT1 1 0 fun w105 M => ?_
      refine Z14 (Z22 ?_)
      refine any_step [9] (by kernel_rfl) rfl (any_one ?_)
      refine any_opL 9 (by rfl) ?_
      simp only [Z7, Z8]
      refine sT1 0 0 fun w106 M => ?_
      refine Z14 (Z22 ?_)
      refine any_end (by kernel_rfl) (Z15 ?_)
      exact HK39 g101 g103  _  M
     refine any_opL 7 (by rfl) ?_
     simp only [Z7, Z8]
     refine nV 1 fun g107 w108 M => ?_
     refine Z14 (Z22 ?_)
     refine any_step [6] (by kernel_rfl) rfl (any_one ?_)
     refine any_opL 6 (by rfl) ?_
     simp only [Z7, Z8]
     refine nV 1 fun g109 w110 M => ?_
     refine Z14 (Z22 ?_)
     refine any_step [8] (by kernel_rfl) rfl (any_one ?_)
     refine any_opL 8 (by rfl) ?_
     simp only [Z7, Z8]
     refine sT1 0 0 fun w111 M => ?_
     refine Z14 (Z22 ?_)
     refine any_step [9] (by kernel_rfl) rfl (any_one ?_)
     refine any_opL 9 (by rfl) ?_
     simp only [Z7, Z8]
     refine sT1 1 0 fun w112 M => ?_
     refine Z14 (Z22 ?_)
     refine any_end (by kernel_rfl) (Z15 ?_)
     exact HK39 g109 g107  _  (M.pick [1, 0] (by decide) rfl)
    ·
     refine any_opL 6 (by rfl) ?_
     simp only [Z7, Z8]
     refine nV 1 fun g113 w114 M => ?_
     refine Z14 (Z22 ?_)
     refine any_step [2, 7] (by kernel_rfl) rfl (any_two ?_ (any_one ?_))
     ·
      refine any_opL 2 (by rfl) ?_
      simp only [Z7, Z8]
      refine cM 1 fun Lk hLk => ?_
      refine wpV_loadA (i := 0) (v := .string (bs (st.getD 0 []))) (by rfl) rfl rfl (M.oldA Hp) (scells_get (ps := st) (by omega)) U99 rfl ?_
      simp only [Z0, Z6]
      refine hLk _ fun w115 M => ?_
      refine Z14 (Z22 ?_)
      refine any_step [7] (by kernel_rfl) rfl (any_one ?_)
      refine any_opL 7 (by rfl) ?_
      simp only [Z7, Z8]
      refine nV 1 fun g116 w117 M => ?_
      refine Z14 (Z22 ?_)
      refine any_step [8] (by kernel_rfl) rfl (any_one ?_)
      refine any_opL 8 (by rfl) ?_
      simp only [Z7, Z8]
      refine sT1 1 0 fun w118 M => ?_
      refine Z14 (Z22 ?_)
      refine any_step [9] (by kernel_rfl) rfl (any_one ?_)
      refine any_opL 9 (by rfl) ?_
      simp only [Z7, Z8]
      refine sT1 0 0 fun w119 M => ?_
      refine Z14 (Z22 ?_)
      refine any_end (by kernel_rfl) (Z15 ?_)
      exact HK39 g113 g116  _  M
     refine any_opL 7 (by rfl) ?_
     simp only [Z7, Z8]
     refine nV 1 fun g120 w121 M => ?_
     refine Z14 (Z22 ?_)
     refine any_step [2] (by kernel_rfl) rfl (any_one ?_)
     refine any_opL 2 (by rfl) ?_
     simp only [Z7, Z8]
     refine cM 1 fun Lk hLk => ?_
     refine wpV_loadA (i := 0) (v := .string (bs (st.getD 0 []))) (by rfl) rfl rfl (M.oldA Hp) (scells_get (ps := st) (by omega)) U99 rfl ?_
     simp only [Z0, Z6]
     refine hLk _ fun w122 M => ?_
     refine Z14 (Z22 ?_)
     refine any_step [8] (by kernel_rfl) rfl (any_one ?_)
     refine any_opL 8 (by rfl) ?_
     simp only [Z7, Z8]
     refine sT1 1 0 fun w123 M => ?_
     refine Z14 (Z22 ?_)
     refine any_step [9] (by kernel_rfl) rfl (any_one ?_)
     refine any_opL 9 (by rfl) ?_
     simp only [Z7, Z8]
     refine sT1 0 0 fun w124 M => ?_
     refine Z14 (Z22 ?_)
     refine any_end (by kernel_rfl) (Z15 ?_)
     exact HK39 g113 g120  _  M
    refine any_opL 7 (by rfl) ?_
    simp only [Z7, Z8]
    refine nV 1 fun g125 w126 M => ?_
    refine Z14 (Z22 ?_)
    refine any_step [2, 6] (by kernel_rfl) rfl (any_two ?_ (any_one ?_))
    ·
     refine any_opL 2 (by rfl) ?_
     simp only [Z7, Z8]
     refine cM 1 fun Lk hLk => ?_
     refine wpV_loadA (i := 0) (v := .string (bs (st.getD 0 []))) (by rfl) rfl rfl (M.oldA Hp) (scells_get (ps := st) (by omega)) U99 rfl ?_
     simp only [Z0, Z6]
     refine hLk _ fun w127 M => ?_
     refine Z14 (Z22 ?_)
     refine any_step [6] (by kernel_rfl) rfl (any_one ?_)
     refine any_opL 6 (by rfl) ?_
     simp only [Z7, Z8]
     refine nV 1 fun g128 w129 M => ?_
     refine Z14 (Z22 ?_)
     refine any_step [8] (by kernel_rfl) rfl (any_one ?_)
     refine any_opL 8 (by rfl) ?_
     simp only [Z7, Z8]
     refine sT1 0 0 fun w130 M => ?_
     refine Z14 (Z22 ?_)
     refine any_step [9] (by kernel_rfl) rfl (any_one ?_)
     refine any_opL 9 (by rfl) ?_
     simp only [Z7, Z8]
     refine sT1 1 0 fun w131 M => ?_
     refine Z14 (Z22 ?_)
     refine any_end (by kernel_rfl) (Z15 ?_)
     exact HK39 g128 g125  _  (M.pick [1, 0] (by decide) rfl)
    refine any_opL 6 (by rfl) ?_
    simp only [Z7, Z8]
    refine nV 1 fun g132 w133 M => ?_
    refine Z14 (Z22 ?_)
    refine any_step [2] (by kernel_rfl) rfl (any_one ?_)
    refine any_opL 2 (by rfl) ?_
    simp only [Z7, Z8]
    refine cM 1 fun Lk hLk => ?_
    refine wpV_loadA (i := 0) (v := .string (bs (st.getD 0 []))) (by rfl) rfl rfl (M.oldA Hp) (scells_get (ps := st) (by omega)) U99 rfl ?_
    simp only [Z0, Z6]
    refine hLk _ fun w134 M => ?_
    refine Z14 (Z22 ?_)
    refine any_step [8] (by kernel_rfl) rfl (any_one ?_)
    refine any_opL 8 (by rfl) ?_
    simp only [Z7, Z8]
    refine sT1 0 0 fun w135 M => ?_
    refine Z14 (Z22 ?_)
    refine any_step [9] (by kernel_rfl) rfl (any_one ?_)
    refine any_opL 9 (by rfl) ?_
    simp only [Z7, Z8]
    refine sT1 1 0 fun w136 M => ?_
    refine Z14 (Z22 ?_)
    refine any_end (by kernel_rfl) (Z15 ?_)
    exact HK39 g132 g125  _  (M.pick [1, 0] (by decide) rfl)
   ·
    refine any_opL 6 (by rfl) ?_
    simp only [Z7, Z8]
    refine nV 1 fun g137 w138 M => ?_
    refine Z14 (Z22 ?_)
    refine any_step [2, 5, 7] (by kernel_rfl) rfl (any_two ?_ (any_two ?_ (any_one ?_)))
    ·
     refine any_opL 2 (by rfl) ?_
     simp only [Z7, Z8]
     refine cM 1 fun Lk hLk => ?_
     refine wpV_loadA (i := 0) (v := .string (bs (st.getD 0 []))) (by rfl) rfl rfl (M.oldA Hp) (scells_get (ps := st) (by omega)) U99 rfl ?_
     simp only [Z0, Z6]
     refine hLk _ fun w139 M => ?_
     refine Z14 (Z22 ?_)
     refine any_step [5, 7] (by kernel_rfl) rfl (any_two ?_ (any_one ?_))
     ·
      refine any_opL 5 (by rfl) ?_
      simp only [Z7, Z8]
      refine cM 1 fun Lk hLk => ?_
      refine wpV_loadA (i := 0) (v := .string (bs (st.getD 0 []))) (by rfl) rfl rfl (M.oldA Hp) (scells_get (ps := st) (by omega)) U99 rfl ?_
      simp only [Z0, Z6]
      refine hLk _ fun w140 M => ?_
      refine Z14 (Z22 ?_)
      refine any_step [7] (by kernel_rfl) rfl (any_one ?_)
      refine any_opL 7 (by rfl) ?_
      simp only [Z7, Z8]
      refine nV 1 fun g141 w142 M => ?_
      refine Z14 (Z22 ?_)
      refine any_step [8] (by kernel_rfl) rfl (any_one ?_)
      refine any_opL 8 (by rfl) ?_
      simp only [Z7, Z8]
      refine sT1 1 0 fun w143 M => ?_
      refine Z14 (Z22 ?_)
      refine any_step [9] (by kernel_rfl) rfl (any_one ?_)
      refine any_opL 9 (by rfl) ?_
      simp only [Z7, Z8]
      refine sT1 0 0 fun w144 M => ?_
      refine Z14 (Z22 ?_)
      refine any_end (by kernel_rfl) (Z15 ?_)
      exact HK39 g137 g141  _  M
     refine any_opL 7 (by rfl) ?_
     simp only [Z7, Z8]
     refine nV 1 fun g145 w146 M => ?_
     refine Z14 (Z22 ?_)
     refine any_step [5, 8] (by kernel_rfl) rfl (any_two ?_ (any_one ?_))
     ·
      refine any_opL 5 (by rfl) ?_
      simp only [Z7, Z8]
      refine cM 1 fun Lk hLk => ?_
      refine wpV_loadA (i := 0) (v := .string (bs (st.getD 0 []))) (by rfl) rfl rfl (M.oldA Hp) (scells_get (ps := st) (by omega)) U99 rfl ?_
      simp only [Z0, Z6]
      refine hLk _ fun w147 M => ?_
      refine Z14 (Z22 ?_)
      refine any_step [8] (by kernel_rfl) rfl (any_one ?_)
      refine any_opL 8 (by rfl) ?_
      simp only [Z7, Z8]
      refine sT1 1 0 fun w148 M => ?_
      refine Z14 (Z22 ?_)
      refine any_step [9] (by kernel_rfl) rfl (any_one ?_)
      refine any_opL 9 (by rfl) ?_
      simp only [Z7, Z8]
      refine sT1 0 0 fun w149 M => ?_
      refine Z14 (Z22 ?_)
      refine any_end (by kernel_rfl) (Z15 ?_)
      exact HK39 g137 g145  _  M
     refine any_opL 8 (by rfl) ?_
     simp only [Z7, Z8]
     refine sT1 1 0 fun w150 M => ?_
     refine Z14 (Z22 ?_)
     refine any_step [5] (by kernel_rfl) rfl (any_one ?_)
     refine any_opL 5 (by rfl) ?_
     simp only [Z7, Z8]
     refine cM 1 fun Lk hLk => ?_
     refine wpV_loadA (i := 0) (v := .string (bs (st.getD 0 []))) (by rfl) rfl rfl (M.oldA Hp) (scells_get (ps := st) (by omega)) U99 rfl ?_
     simp only [Z0, Z6]
     refine hLk _ fun w151 M => ?_
     refine Z14 (Z22 ?_)
     refine any_step [9] (by kernel_rfl) rfl (any_one ?_)
     refine any_opL 9 (by rfl) ?_
     simp only [Z7, Z8]
     refine sT1 0 0 fun w152 M => ?_
     refine Z14 (Z22 ?_)
     refine any_end (by kernel_rfl) (Z15 ?_)
     exact HK39 g137 g145  _  M
    ·
     refine any_opL 5 (by rfl) ?_
     simp only [Z7, Z8]
     refine cM 1 fun Lk hLk => ?_
     refine wpV_loadA (i := 0) (v := .string (bs (st.getD 0 []))) (by rfl) rfl rfl (M.oldA Hp) (scells_get (ps := st) (by omega)) U99 rfl ?_
     simp only [Z0, Z6]
     refine hLk _ fun w153 M => ?_
     refine Z14 (Z22 ?_)
     refine any_step [2, 7] (by kernel_rfl) rfl (any_two ?_ (any_one ?_))
     ·
      refine any_opL 2 (by rfl) ?_
      simp only [Z7, Z8]
      refine cM 1 fun Lk hLk => ?_
      refine wpV_loadA (i := 0) (v := .string (bs (st.getD 0 []))) (by rfl) rfl rfl (M.oldA Hp) (scells_get (ps := st) (by omega)) U99 rfl ?_
      simp only [Z0, Z6]
      refine hLk _ fun w154 M => ?_
      refine Z14 (Z22 ?_)
      refine any_step [7] (by kernel_rfl) rfl (any_one ?_)
      refine any_opL 7 (by rfl) ?_
      simp only [Z7, Z8]
      refine nV 1 fun g155 w156 M => ?_
      refine Z14 (Z22 ?_)
      refine any_step [8] (by kernel_rfl) rfl (any_one ?_)
      refine any_opL 8 (by rfl) ?_
      simp only [Z7, Z8]
      refine sT1 1 0 fun w157 M => ?_
      refine Z14 (Z22 ?_)
      refine any_step [9] (by kernel_rfl) rfl (any_one ?_)
      refine any_opL 9 (by rfl) ?_
      simp only [Z7, Z8]
      refine sT1 0 0 fun w158 M => ?_
      refine Z14 (Z22 ?_)
      refine any_end (by kernel_rfl) (Z15 ?_)
      exact HK39 g137 g155  _  M
     refine any_opL 7 (by rfl) ?_
     simp only [Z7, Z8]
     refine nV 1 fun g159 w160 M => ?_
     refine Z14 (Z22 ?_)
     refine any_step [2] (by kernel_rfl) rfl (any_one ?_)
     refine any_opL 2 (by rfl) ?_
     simp only [Z7, Z8]
     refine cM 1 fun Lk hLk => ?_
     refine wpV_loadA (i := 0) (v := .string (bs (st.getD 0 []))) (by rfl) rfl rfl (M.oldA Hp) (scells_get (ps := st) (by omega)) U99 rfl ?_
     simp only [Z0, Z6]
     refine hLk _ fun w161 M => ?_
     refine Z14 (Z22 ?_)
     refine any_step [8] (by kernel_rfl) rfl (any_one ?_)
     refine any_opL 8 (by rfl) ?_
     simp only [Z7, Z8]
     refine sT1 1 0 fun w162 M => ?_
     refine Z14 (Z22 ?_)
     refine any_step [9] (by kernel_rfl) rfl (any_one ?_)
     refine any_opL 9 (by rfl) ?_
     simp only [Z7, Z8]
     refine sT1 0 0 fun w163 M => ?_
     refine Z14 (Z22 ?_)
     refine any_end (by kernel_rfl) (Z15 ?_)
     exact HK39 g137 g159  _  M
    refine any_opL 7 (by rfl) ?_
    simp only [Z7, Z8]
    refine nV 1 fun g164 w165 M => ?_
    refine Z14 (Z22 ?_)
    refine any_step [2, 5] (by kernel_rfl) rfl (any_two ?_ (any_one ?_))
    ·
     refine any_opL 2 (by rfl) ?_
     simp only [Z7, Z8]
     refine cM 1 fun Lk hLk => ?_
     refine wpV_loadA (i := 0) (v := .string (bs (st.getD 0 []))) (by rfl) rfl rfl (M.oldA Hp) (scells_get (ps := st) (by omega)) U99 rfl ?_
     simp only [Z0, Z6]
     refine hLk _ fun w166 M => ?_
     refine Z14 (Z22 ?_)
     refine any_step [5, 8] (by kernel_rfl) rfl (any_two ?_ (any_one ?_))
     ·
      refine any_opL 5 (by rfl) ?_
      simp only [Z7, Z8]
      refine cM 1 fun Lk hLk => ?_
      refine wpV_loadA (i := 0) (v := .string (bs (st.getD 0 []))) (by rfl) rfl rfl (M.oldA Hp) (scells_get (ps := st) (by omega)) U99 rfl ?_
      simp only [Z0, Z6]
      refine hLk _ fun w167 M => ?_
      refine Z14 (Z22 ?_)
      refine any_step [8] (by kernel_rfl) rfl (any_one ?_)
      refine any_opL 8 (by rfl) ?_
      simp only [Z7, Z8]
      refine sT1 1 0 fun w168 M => ?_
      refine Z14 (Z22 ?_)
      refine any_step [9] (by kernel_rfl) rfl (any_one ?_)
      refine any_opL 9 (by rfl) ?_
      simp only [Z7, Z8]
      refine sT1 0 0 fun w169 M => ?_
      refine Z14 (Z22 ?_)
      refine any_end (by kernel_rfl) (Z15 ?_)
      exact HK39 g137 g164  _  M
     refine any_opL 8 (by rfl) ?_
     simp only [Z7, Z8]
     refine sT1 1 0 fun w170 M => ?_
     refine Z14 (Z22 ?_)
     refine any_step [5] (by kernel_rfl) rfl (any_one ?_)
     refine any_opL 5 (by rfl) ?_
     simp only [Z7, Z8]
     refine cM 1 fun Lk hLk => ?_
     refine wpV_loadA (i := 0) (v := .string (bs (st.getD 0 []))) (by rfl) rfl rfl (M.oldA Hp) (scells_get (ps := st) (by omega)) U99 rfl ?_
     simp only [Z0, Z6]
     refine hLk _ fun w171 M => ?_
     refine Z14 (Z22 ?_)
     refine any_step [9] (by kernel_rfl) rfl (any_one ?_)
     refine any_opL 9 (by rfl) ?_
     simp only [Z7, Z8]
     refine sT1 0 0 fun w172 M => ?_
     refine Z14 (Z22 ?_)
     refine any_end (by kernel_rfl) (Z15 ?_)
     exact HK39 g137 g164  _  M
    refine any_opL 5 (by rfl) ?_
    simp only [Z7, Z8]
    refine cM 1 fun Lk hLk => ?_
    refine wpV_loadA (i := 0) (v := .string (bs (st.getD 0 []))) (by rfl) rfl rfl (M.oldA Hp) (scells_get (ps := st) (by omega)) U99 rfl ?_
    simp only [Z0, Z6]
    refine hLk _ fun w173 M => ?_
    refine Z14 (Z22 ?_)
    refine any_step [2] (by kernel_rfl) rfl (any_one ?_)
    refine any_opL 2 (by rfl) ?_
    simp only [Z7, Z8]
    refine cM 1 fun Lk hLk => ?_
    refine wpV_loadA (i := 0) (v := .string (bs (st.getD 0 []))) (by rfl) rfl rfl (M.oldA Hp) (scells_get (ps := st) (by omega)) U99 rfl ?_
    simp only [Z0, Z6]
    refine hLk _ fun w174 M => ?_
    refine Z14 (Z22 ?_)
    refine any_step [8] (by kernel_rfl) rfl (any_one ?_)
    refine any_opL 8 (by rfl) ?_
    simp only [Z7, Z8]
    refine sT1 1 0 fun w175 M => ?_
    refine Z14 (Z22 ?_)
    refine any_step [9] (by kernel_rfl) rfl (any_one ?_)
    refine any_opL 9 (by rfl) ?_
    simp only [Z7, Z8]
    refine sT1 0 0 fun w176 M => ?_
    refine Z14 (Z22 ?_)
    refine any_end (by kernel_rfl) (Z15 ?_)
    exact HK39 g137 g164  _  M
   refine any_opL 7 (by rfl) ?_
   simp only [Z7, Z8]
   refine nV 1 fun g177 w178 M => ?_
   refine Z14 (Z22 ?_)
   refine any_step [2, 5, 6] (by kernel_rfl) rfl (any_two ?_ (any_two ?_ (any_one ?_)))
   ·
    refine any_opL 2 (by rfl) ?_
    simp only [Z7, Z8]
    refine cM 1 fun Lk hLk => ?_
    refine wpV_loadA (i := 0) (v := .string (bs (st.getD 0 []))) (by rfl) rfl rfl (M.oldA Hp) (scells_get (ps := st) (by omega)) U99 rfl ?_
    simp only [Z0, Z6]
    refine hLk _ fun w179 M => ?_
    refine Z14 (Z22 ?_)
    refine any_step [5, 6] (by kernel_rfl) rfl (any_two ?_ (any_one ?_))
    ·
     refine any_opL 5 (by rfl) ?_
     simp only [Z7, Z8]
     refine cM 1 fun Lk hLk => ?_
     refine wpV_loadA (i := 0) (v := .string (bs (st.getD 0 []))) (by rfl) rfl rfl (M.oldA Hp) (scells_get (ps := st) (by omega)) U99 rfl ?_
     simp only [Z0, Z6]
     refine hLk _ fun w180 M => ?_
     refine Z14 (Z22 ?_)
     refine any_step [6] (by kernel_rfl) rfl (any_one ?_)
     refine any_opL 6 (by rfl) ?_
     simp only [Z7, Z8]
     refine nV 1 fun g181 w182 M => ?_
     refine Z14 (Z22 ?_)
     refine any_step [8] (by kernel_rfl) rfl (any_one ?_)
     refine any_opL 8 (by rfl) ?_
     simp only [Z7, Z8]
     refine sT1 0 0 fun w183 M => ?_
     refine Z14 (Z22 ?_)
     refine any_step [9] (by kernel_rfl) rfl (any_one ?_)
     refine any_opL 9 (by rfl) ?_
     simp only [Z7, Z8]
     refine sT1 1 0 fun w184 M => ?_
     refine Z14 (Z22 ?_)
     refine any_end (by kernel_rfl) (Z15 ?_)
     exact HK39 g181 g177  _  (M.pick [1, 0] (by decide) rfl)
    refine any_opL 6 (by rfl) ?_
    simp only [Z7, Z8]
    refine nV 1 fun g185 w186 M => ?_
    refine Z14 (Z22 ?_)
    refine any_step [5, 8] (by kernel_rfl) rfl (any_two ?_ (any_one ?_))
    ·
     refine any_opL 5 (by rfl) ?_
     simp only [Z7, Z8]
     refine cM 1 fun Lk hLk => ?_
     refine wpV_loadA (i := 0) (v := .string (bs (st.getD 0 []))) (by rfl) rfl rfl (M.oldA Hp) (scells_get (ps := st) (by omega)) U99 rfl ?_
     simp only [Z0, Z6]
     refine hLk _ fun w187 M => ?_
     refine Z14 (Z22 ?_)
     refine any_step [8] (by kernel_rfl) rfl (any_one ?_)
     refine any_opL 8 (by rfl) ?_
     simp only [Z7, Z8]
     refine sT1 0 0 fun w188 M => ?_
     refine Z14 (Z22 ?_)
     refine any_step [9] (by kernel_rfl) rfl (any_one ?_)
     refine any_opL 9 (by rfl) ?_
     simp only [Z7, Z8]
     refine sT1 1 0 fun w189 M => ?_
     refine Z14 (Z22 ?_)
     refine any_end (by kernel_rfl) (Z15 ?_)
     exact HK39 g185 g177  _  (M.pick [1, 0] (by decide) rfl)
    refine any_opL 8 (by rfl) ?_
    simp only [Z7, Z8]
    refine sT1 0 0 fun w190 M => ?_
    refine Z14 (Z22 ?_)
    refine any_step [5] (by kernel_rfl) rfl (any_one ?_)
    refine any_opL 5 (by rfl) ?_
    simp only [Z7, Z8]
    refine cM 1 fun Lk hLk => ?_
    refine wpV_loadA (i := 0) (v := .string (bs (st.getD 0 []))) (by rfl) rfl rfl (M.oldA Hp) (scells_get (ps := st) (by omega)) U99 rfl ?_
    simp only [Z0, Z6]
    refine hLk _ fun w191 M => ?_
    refine Z14 (Z22 ?_)
    refine any_step [9] (by kernel_rfl) rfl (any_one ?_)
    refine any_opL 9 (by rfl) ?_
    simp only [Z7, Z8]
    refine sT1 1 0 fun w192 M => ?_
    refine Z14 (Z22 ?_)
    refine any_end (by kernel_rfl) (Z15 ?_)
    exact HK39 g185 g177  _  (M.pick [1, 0] (by decide) rfl)
   ·
    refine any_opL 5 (by rfl) ?_
    simp only [Z7, Z8]
    refine cM 1 fun Lk hLk => ?_
    refine wpV_loadA (i := 0) (v := .string (bs (st.getD 0 []))) (by rfl) rfl rfl (M.oldA Hp) (scells_get (ps := st) (by omega)) U99 rfl ?_
    simp only [Z0, Z6]
    refine hLk _ fun w193 M => ?_
    refine Z14 (Z22 ?_)
    refine any_step [2, 6] (by kernel_rfl) rfl (any_two ?_ (any_one ?_))
    ·
     refine any_opL 2 (by rfl) ?_
     simp only [Z7, Z8]
     refine cM 1 fun Lk hLk => ?_
     refine wpV_loadA (i := 0) (v := .string (bs (st.getD 0 []))) (by rfl) rfl rfl (M.oldA Hp) (scells_get (ps := st) (by omega)) U99 rfl ?_
     simp only [Z0, Z6]
     refine hLk _ fun w194 M => ?_
     refine Z14 (Z22 ?_)
     refine any_step [6] (by kernel_rfl) rfl (any_one ?_)
     refine any_opL 6 (by rfl) ?_
     simp only [Z7, Z8]
     refine nV 1 fun g195 w196 M => ?_
     refine Z14 (Z22 ?_)
     refine any_step [8] (by kernel_rfl) rfl (any_one ?_)
     refine any_opL 8 (by rfl) ?_
     simp only [Z7, Z8]
     refine sT1 0 0 fun w197 M => ?_
     refine Z14 (Z22 ?_)
     refine any_step [9] (by kernel_rfl) rfl (any_one ?_)
     refine any_opL 9 (by rfl) ?_
     simp only [Z7, Z8]
     refine sT1 1 0 fun w198 M => ?_
     refine Z14 (Z22 ?_)
     refine any_end (by kernel_rfl) (Z15 ?_)
     exact HK39 g195 g177  _  (M.pick [1, 0] (by decide) rfl)
    refine any_opL 6 (by rfl) ?_
    simp only [Z7, Z8]
    refine nV 1 fun g199 w200 M => ?_
    refine Z14 (Z22 ?_)
    refine any_step [2] (by kernel_rfl) rfl (any_one ?_)
    refine any_opL 2 (by rfl) ?_
    simp only [Z7, Z8]
    refine cM 1 fun Lk hLk => ?_
    refine wpV_loadA (i := 0) (v := .string (bs (st.getD 0 []))) (by rfl) rfl rfl (M.oldA Hp) (scells_get (ps := st) (by omega)) U99 rfl ?_
    simp only [Z0, Z6]
    refine hLk _ fun w201 M => ?_
    refine Z14 (Z22 ?_)
    refine any_step [8] (by kernel_rfl) rfl (any_one ?_)
    refine any_opL 8 (by rfl) ?_
    simp only [Z7, Z8]
    refine sT1 0 0 fun w202 M => ?_
    refine Z14 (Z22 ?_)
    refine any_step [9] (by kernel_rfl) rfl (any_one ?_)
    refine any_opL 9 (by rfl) ?_
    simp only [Z7, Z8]
    refine sT1 1 0 fun w203 M => ?_
    refine Z14 (Z22 ?_)
    refine any_end (by kernel_rfl) (Z15 ?_)
    exact HK39 g199 g177  _  (M.pick [1, 0] (by decide) rfl)
   refine any_opL 6 (by rfl) ?_
   simp only [Z7, Z8]
   refine nV 1 fun g204 w205 M => ?_
   refine Z14 (Z22 ?_)
   refine any_step [2, 5] (by kernel_rfl) rfl (any_two ?_ (any_one ?_))
   ·
    refine any_opL 2 (by rfl) ?_
    simp only [Z7, Z8]
    refine cM 1 fun Lk hLk => ?_
    refine wpV_loadA (i := 0) (v := .string (bs (st.getD 0 []))) (by rfl) rfl rfl (M.oldA Hp) (scells_get (ps := st) (by omega)) U99 rfl ?_
    simp only [Z0, Z6]
    refine hLk _ fun w206 M => ?_
    refine Z14 (Z22 ?_)
    refine any_step [5, 8] (by kernel_rfl) rfl (any_two ?_ (any_one ?_))
    ·
     refine any_opL 5 (by rfl) ?_
     simp only [Z7, Z8]
     refine cM 1 fun Lk hLk => ?_
     refine wpV_loadA (i := 0) (v := .string (bs (st.getD 0 []))) (by rfl) rfl rfl (M.oldA Hp) (scells_get (ps := st) (by omega)) U99 rfl ?_
     simp only [Z0, Z6]
     refine hLk _ fun w207 M => ?_
     refine Z14 (Z22 ?_)
     refine any_step [8] (by kernel_rfl) rfl (any_one ?_)
     refine any_opL 8 (by rfl) ?_
     simp only [Z7, Z8]
     refine sT1 0 0 fun w208 M => ?_
     refine Z14 (Z22 ?_)
     refine any_step [9] (by kernel_rfl) rfl (any_one ?_)
     refine any_opL 9 (by rfl) ?_
     simp only [Z7, Z8]
     refine sT1 1 0 fun w209 M => ?_
     refine Z14 (Z22 ?_)
     refine any_end (by kernel_rfl) (Z15 ?_)
     exact HK39 g204 g177  _  (M.pick [1, 0] (by decide) rfl)
    refine any_opL 8 (by rfl) ?_
    simp only [Z7, Z8]
    refine sT1 0 0 fun w210 M => ?_
    refine Z14 (Z22 ?_)
    refine any_step [5] (by kernel_rfl) rfl (any_one ?_)
    refine any_opL 5 (by rfl) ?_
    simp only [Z7, Z8]
    refine cM 1 fun Lk hLk => ?_
    refine wpV_loadA (i := 0) (v := .string (bs (st.getD 0 []))) (by rfl) rfl rfl (M.oldA Hp) (scells_get (ps := st) (by omega)) U99 rfl ?_
    simp only [Z0, Z6]
    refine hLk _ fun w211 M => ?_
    refine Z14 (Z22 ?_)
    refine any_step [9] (by kernel_rfl) rfl (any_one ?_)
    refine any_opL 9 (by rfl) ?_
    simp only [Z7, Z8]
    refine sT1 1 0 fun w212 M => ?_
    refine Z14 (Z22 ?_)
    refine any_end (by kernel_rfl) (Z15 ?_)
    exact HK39 g204 g177  _  (M.pick [1, 0] (by decide) rfl)
   refine any_opL 5 (by rfl) ?_
   simp only [Z7, Z8]
   refine cM 1 fun Lk hLk => ?_
   refine wpV_loadA (i := 0) (v := .string (bs (st.getD 0 []))) (by rfl) rfl rfl (M.oldA Hp) (scells_get (ps := st) (by omega)) U99 rfl ?_
   simp only [Z0, Z6]
   refine hLk _ fun w213 M => ?_
   refine Z14 (Z22 ?_)
   refine any_step [2] (by kernel_rfl) rfl (any_one ?_)
   refine any_opL 2 (by rfl) ?_
   simp only [Z7, Z8]
   refine cM 1 fun Lk hLk => ?_
   refine wpV_loadA (i := 0) (v := .string (bs (st.getD 0 []))) (by rfl) rfl rfl (M.oldA Hp) (scells_get (ps := st) (by omega)) U99 rfl ?_
   simp only [Z0, Z6]
   refine hLk _ fun w214 M => ?_
   refine Z14 (Z22 ?_)
   refine any_step [8] (by kernel_rfl) rfl (any_one ?_)
   refine any_opL 8 (by rfl) ?_
   simp only [Z7, Z8]
   refine sT1 0 0 fun w215 M => ?_
   refine Z14 (Z22 ?_)
   refine any_step [9] (by kernel_rfl) rfl (any_one ?_)
   refine any_opL 9 (by rfl) ?_
   simp only [Z7, Z8]
   refine sT1 1 0 fun w216 M => ?_
   refine Z14 (Z22 ?_)
   refine any_end (by kernel_rfl) (Z15 ?_)
   exact HK39 g204 g177  _  (M.pick [1, 0] (by decide) rfl)
  have hs0 : st.length = 0 := of_decide_eq_true hc37
  refine cT ?_
  refine qS fun _ k217 => ?_
  refine lg ?_; refine lZ k217 ?_; refine rt1 ?_
  have BE := M.below
  exact ⟨by (rw [List.length_eq_zero_iff.1 hs0, folB_nil h1 hm hone]; try rfl), BE⟩
 have ho : a % 2 = 1 := of_decide_eq_true hc13
 refine cT ?_; refine sZ k9 ?_; refine wp_block ?_; refine Z13 ?_; refine lM ?_
 refine cM 3 fun Lk hLk => ?_
 refine vB (v := .int .i64 (a / 2 ^ 1 : Nat)) (hr := run_shr (n := 1) (by decide) rfl) ?_
 refine vM ?_
 refine vB (v := .int .i64 (l / 2 ^ 1 : Nat)) (hr := run_shr (n := 1) (by decide) rfl) ?_
 refine hLk _ fun w220 M => ?_
 refine lg ?_; refine lg ?_
 refine Z14 (Z15 ?_)
 refine Exists.intro _ ⟨?_, (a / 2 ^ 1), (l / 2 ^ 1), _, _, _, _, _, _, _, rfl, rfl, M, (by omega), (by omega), ((stripA_odd ho).symm.trans hz)⟩
 omega
end Go.Proofs.Yc

namespace Go.Proofs.Yc
open Go Go.RowKit Go.Proofs.Num
open Tryd renaming func43 → G943, ntmps43 → T943, underlying37 → U937
open Go.Proofs.Num  renaming putT → Z0
open Nat renaming ne_of_lt → Z4
open List renaming set → Z6
open Go.Proofs.Num renaming wp_region_seq → Z13
attribute [local irreducible] wpV wpN wpList
theorem folB_all {m n : Nat} {old root : List UInt8} {st : List (List UInt8)} (h : n ≤ m) (ho : old ≠ []) : folB m n old root st = true ↔ (st.length = 0 ∧ old = root) := by
 unfold folB
 rw [decide_eq_true_eq, followT_all h, followT_all h]
 by_cases hz : st.length = 0
 ·
  simp [hz]
 simp [hz, Ne.symm ho]
set_option maxHeartbeats 1000000 in
theorem Follows_path {st : List (List UInt8)} {ap : Option Addr} {np cp : Nat} {old root : List UInt8} {x y : Int} {w : World} (hq : st.length ≤ 4611686018427387904) (hx : ¬ x < 0) (hy : ¬ y < x) (hm : ¬ 4096 < y) (ht : all32 [old, root] = true) (hp : all32 st = false) (L1 : 1 < w.heap.size) (R1_0 : w.rangeAt 1 0 kcells) (Hp : RowA w ap np cp (scells st)) :
  Calls Tryd.prog 43 #[.int .i64 x, .int .i64 y, .string (bs old), .string (bs root), .slice ap np cp] w fun e w' => e = .returned (.int .i64 1) ∧ Below w.heap.size w w' := by
 obtain rfl : np = st.length := by have := Hp.len; rwa [scells_len] at this
 go_enter G943, T943
 have M := Mem.start w
 refine qS fun _ k1 => ?_
 refine lg ?_; refine lZ k1 ?_
 refine sk fun _ _ => ?_
 refine qS fun _ k4 => ?_
 refine lM ?_
 refine cM 13 fun Lk hLk => ?_
 refine vB (v := .bool false) (hr := fun W => (run_lss _ _ _ _ W).trans (by rw [(decide_eq_false hx)])) ?_
 refine vM ?_; refine vM ?_; refine vM ?_
 refine vB (v := .bool false) (hr := fun W => (run_gtr _ _ _ _ W).trans (by rw [(decide_eq_false hy)])) ?_
 refine vK ?_; refine vM ?_; refine vM ?_
 refine vB (v := .bool false) (hr := fun W => (run_gtr _ _ _ _ W).trans (by rw [(decide_eq_false hm)])) ?_
 refine vK ?_; refine vM ?_; refine vM ?_; refine vM ?_
 refine hLk _ fun w6 M => ?_
 refine wpL_guard (by rfl) ?_
 refine wpL_rowN (vs := [.string (bs old), .string (bs root)]) (z := .string { data := #[] }) (bytes := 16) (by rfl) (by rfl) U937 (by kernel_rfl) (by decide) (by kernel_rfl) (fun g7 w8 Sw8 Hg7 Bg7 => ?_)
 replace M := ((M.sees Sw8).add (N := 2) (cs := [.string (bs old), .string (bs root)]) (M.ge Hg7) (M.fresh Hg7) Bg7 rfl)
 clear Bg7
 simp only [Z0, Z6]
 refine cM 8 fun Lk hLk => ?_
 refine vCh (v := .bool true) (args := #[.slice (some ⟨g7, 0, none⟩) 2 2]) (fun W hW => by have h9 : Calls Tryd.prog _ _ W _ := wellp_r (ps := [old, root]) (show 2 ≤ 4611686018427387904 by decide) (RowA.of ((M.sees hW).r 0 0 rfl rfl) ((M.sees hW).lt 0 rfl) rfl (Nat.le_refl _)); rw [ht] at h9; exact h9) ?_
 refine vt ?_; refine vK ?_; refine vM ?_; refine vM ?_
 refine vCh (v := .bool false) (args := #[.slice ap st.length cp]) (fun W hW => by have h9 : Calls Tryd.prog _ _ W _ := wellp_r (ps := st) hq ((M.sees hW).oldA Hp); rw [hp] at h9; exact h9) ?_
 refine vu ?_; refine vK ?_
 refine hLk _ fun w9 M => ?_
 refine lZ k4 ?_; refine cT ?_
 refine qS fun _ k10 => ?_
 refine lg ?_; refine lZ k10 ?_; refine rt1 ?_
 exact ⟨rfl, M.below⟩
set_option maxHeartbeats 1000000 in
theorem Follows_zero {st : List (List UInt8)} {ap : Option Addr} {np cp : Nat} {old root : List UInt8} {n : Nat} {w : World} (hq : st.length ≤ 4611686018427387904) (hn : n ≤ 4096) (ht : all32 [old, root] = true) (hp : all32 st = true) (L1 : 1 < w.heap.size) (R1_0 : w.rangeAt 1 0 kcells) (Hp : RowA w ap np cp (scells st)) :
  Calls Tryd.prog 43 #[.int .i64 0, .int .i64 n, .string (bs old), .string (bs root), .slice ap np cp] w fun e w' => e = .returned (.int .i64 (if st.length = 0 ∧ old = rootS [] then 0 else 13)) ∧ Below w.heap.size w w' := by
 obtain rfl : np = st.length := by have := Hp.len; rwa [scells_len] at this
 have h32 := all32_mem hp
 have hl2 := all32_mem ht
 have hol : old.length = 32 := hl2 old (.head _)
 have hrt : root.length = 32 := hl2 root (.tail _ (.head _))
 have hone : old ≠ [] := fun e9 => by rw [e9] at hol; cases hol
 go_enter G943, T943
 have M := Mem.start w
 refine qS fun _ k1 => ?_
 refine lg ?_; refine lZ k1 ?_
 refine sk fun _ k3 => ?_
 refine qS fun _ k4 => ?_
 refine lM ?_
 refine cM 13 fun Lk hLk => ?_
 refine vB (v := .bool false) (hr := run_lss _ _ _ _) ?_
 refine vM ?_; refine vM ?_; refine vM ?_
 refine vB (v := .bool false) (hr := fun W => (run_gtrN 0 n _ _ W).trans (by rw [(decide_eq_false (Nat.not_lt_zero n))])) ?_
 refine vK ?_; refine vM ?_; refine vM ?_
 refine vB (v := .bool false) (hr := fun W => (run_gtrN n 4096 _ _ W).trans (by rw [(decide_eq_false (Nat.not_lt.2 hn))])) ?_
 refine vK ?_; refine vM ?_; refine vM ?_; refine vM ?_
 refine hLk _ fun w6 M => ?_
 refine wpL_guard (by rfl) ?_
 refine wpL_rowN (vs := [.string (bs old), .string (bs root)]) (z := .string { data := #[] }) (bytes := 16) (by rfl) (by rfl) U937 (by kernel_rfl) (by decide) (by kernel_rfl) (fun g7 w8 Sw8 Hg7 Bg7 => ?_)
 replace M := ((M.sees Sw8).add (N := 2) (cs := [.string (bs old), .string (bs root)]) (M.ge Hg7) (M.fresh Hg7) Bg7 rfl)
 clear Bg7
 simp only [Z0, Z6]
 refine cM 8 fun Lk hLk => ?_
 refine vCh (v := .bool true) (args := #[.slice (some ⟨g7, 0, none⟩) 2 2]) (fun W hW => by have h9 : Calls Tryd.prog _ _ W _ := wellp_r (ps := [old, root]) (show 2 ≤ 4611686018427387904 by decide) (RowA.of ((M.sees hW).r 0 0 rfl rfl) ((M.sees hW).lt 0 rfl) rfl (Nat.le_refl _)); rw [ht] at h9; exact h9) ?_
 refine vt ?_; refine vK ?_; refine vM ?_; refine vM ?_
 refine vCh (v := .bool true) (args := #[.slice ap st.length cp]) (fun W hW => by have h9 : Calls Tryd.prog _ _ W _ := wellp_r (ps := st) hq ((M.sees hW).oldA Hp); rw [hp] at h9; exact h9) ?_
 refine vt ?_; refine vK ?_
 refine hLk _ fun w9 M => ?_
 refine lZ k4 ?_; refine cF ?_; refine sZ k3 ?_
 refine qS fun _ k10 => ?_
 refine cM 4 fun Lk hLk => ?_
 refine vCh (fun W hW => TRoot_c0 ((M.sees hW).oldL L1) ((M.sees hW).oldR R1_0 L1)) ?_
 refine vM ?_; refine vE ?_; refine vE ?_
 refine hLk _ fun w12 M => ?_
 refine lg ?_; refine lg ?_; refine lZ k10 ?_
 refine qS fun _ k13 => ?_
 refine lg ?_; refine lZ k13 ?_
 refine sk fun _ k15 => ?_
 refine wp_block ?_
 refine qS fun _ k16 => ?_
 refine lM ?_
 refine cM 1 fun Lk hLk => ?_
 refine vB (v := .bool true) (hr := run_eql _ _ _ _) ?_
 refine hLk _ fun w18 M => ?_
 refine lg ?_; refine lZ k16 ?_; refine cT ?_
 cases hg19 : (decide (st.length = 0))
 ·
  have hz : ¬ st.length = 0 := of_decide_eq_false hg19
  refine Z13 ?_; refine lM ?_
  refine cM 7 fun Lk hLk => ?_
  refine wpV_lenA (n := st.length) (by rfl) rfl rfl rfl U937 ?_
  simp only [Z0, Z6]
  refine vB (v := .bool false) (hr := fun W => (run_eqlN st.length 0 _ _ W).trans (by rw [hg19])) ?_
  refine vM ?_; refine vS ?_; refine vS ?_; refine vS ?_; refine vK ?_
  refine hLk _ fun w21 M => ?_
  refine lg ?_; refine lZ k15 ?_
  refine sk fun _ _ => ?_
  refine qS fun _ k23 => ?_
  refine lM ?_; refine lu ?_; refine lZ k23 ?_; refine cT ?_
  refine qS fun _ k26 => ?_
  refine lg ?_; refine lZ k26 ?_; refine rt1 ?_
  have BE := M.below
  exact ⟨by (rw [if_neg (fun q9 => hz q9.1)]; try rfl), BE⟩
 have hz : st.length = 0 := of_decide_eq_true hg19
 refine Z13 ?_; refine lM ?_
 refine cM 7 fun Lk hLk => ?_
 refine wpV_lenA (n := st.length) (by rfl) rfl rfl rfl U937 ?_
 simp only [Z0, Z6]
 refine vB (v := .bool true) (hr := fun W => (run_eqlN st.length 0 _ _ W).trans (by rw [hg19])) ?_
 refine vM ?_; refine vM ?_; refine vM ?_
 refine wpV_binS (v := .bool (decide (old = rootS []))) (by rfl) rfl rfl rfl (run_eql_bs _ _ _) ?_
 simp only [Z0, Z6]
 refine vK ?_
 refine hLk _ fun w29 M => ?_
 refine lg ?_; refine lZ k15 ?_
 refine sk fun _ k30 => ?_
 refine qS fun _ k31 => ?_
 refine lM ?_
 refine cM 1 fun Lk hLk => ?_
 refine wpV_not (b := decide (old = rootS [])) (by rfl) rfl rfl ?_
 simp only [Z0, Z6]
 refine hLk _ fun w33 M => ?_
 refine lZ k31 ?_
 cases hc34 : (!(decide (old = rootS [])))
 ·
  have hr : old = rootS [] := of_decide_eq_true (by simpa using hc34 : decide (old = rootS []) = true)
  refine cF ?_; refine sZ k30 ?_
  refine qS fun _ k35 => ?_
  refine lg ?_; refine lZ k35 ?_; refine rt1 ?_
  have BE := M.below
  exact ⟨by (rw [if_pos ⟨hz, hr⟩]; try rfl), BE⟩
 have hr : ¬ old = rootS [] := of_decide_eq_false (by simpa using hc34 : decide (old = rootS []) = false)
 refine cT ?_
 refine qS fun _ k37 => ?_
 refine lg ?_; refine lZ k37 ?_; refine rt1 ?_
 have BE := M.below
 exact ⟨by (rw [if_neg (fun q9 => hr q9.2)]; try rfl), BE⟩
set_option maxHeartbeats 1000000 in
theorem Follows_all {st : List (List UInt8)} {ap : Option Addr} {np cp : Nat} {old root : List UInt8} {m n : Nat} {w : World} (hq : st.length ≤ 4611686018427387904) (hn : n ≤ 4096) (ht : all32 [old, root] = true) (hp : all32 st = true) (h1 : 1 ≤ m) (hmn : m = n) (L1 : 1 < w.heap.size) (R1_0 : w.rangeAt 1 0 kcells) (Hp : RowA w ap np cp (scells st)) :
  Calls Tryd.prog 43 #[.int .i64 m, .int .i64 n, .string (bs old), .string (bs root), .slice ap np cp] w fun e w' => e = .returned (.int .i64 (if folB m n old root st = true then 0 else 13)) ∧ Below w.heap.size w w' := by
 obtain rfl : np = st.length := by have := Hp.len; rwa [scells_len] at this
 have h32 := all32_mem hp
 have hl2 := all32_mem ht
 have hol : old.length = 32 := hl2 old (.head _)
 have hrt : root.length = 32 := hl2 root (.tail _ (.head _))
 have hone : old ≠ [] := fun e9 => by rw [e9] at hol; cases hol
 go_enter G943, T943
 have M := Mem.start w
 refine qS fun _ k1 => ?_
 refine lg ?_; refine lZ k1 ?_
 refine sk fun _ k3 => ?_
 refine qS fun _ k4 => ?_
 refine lM ?_
 refine cM 13 fun Lk hLk => ?_
 refine vB (v := .bool false) (hr := fun W => (run_lssN m 0 _ _ W).trans (by rw [(decide_eq_false (Nat.not_lt_zero m))])) ?_
 refine vM ?_; refine vM ?_; refine vM ?_
 refine vB (v := .bool false) (hr := fun W => (run_gtrN m n _ _ W).trans (by rw [(decide_eq_false (by omega))])) ?_
 refine vK ?_; refine vM ?_; refine vM ?_
 refine vB (v := .bool false) (hr := fun W => (run_gtrN n 4096 _ _ W).trans (by rw [(decide_eq_false (Nat.not_lt.2 hn))])) ?_
 refine vK ?_; refine vM ?_; refine vM ?_; refine vM ?_
 refine hLk _ fun w6 M => ?_
 refine wpL_guard (by rfl) ?_
 refine wpL_rowN (vs := [.string (bs old), .string (bs root)]) (z := .string { data := #[] }) (bytes := 16) (by rfl) (by rfl) U937 (by kernel_rfl) (by decide) (by kernel_rfl) (fun g7 w8 Sw8 Hg7 Bg7 => ?_)
 replace M := ((M.sees Sw8).add (N := 2) (cs := [.string (bs old), .string (bs root)]) (M.ge Hg7) (M.fresh Hg7) Bg7 rfl)
 clear Bg7
 simp only [Z0, Z6]
 refine cM 8 fun Lk hLk => ?_
 refine vCh (v := .bool true) (args := #[.slice (some ⟨g7, 0, none⟩) 2 2]) (fun W hW => by have h9 : Calls Tryd.prog _ _ W _ := wellp_r (ps := [old, root]) (show 2 ≤ 4611686018427387904 by decide) (RowA.of ((M.sees hW).r 0 0 rfl rfl) ((M.sees hW).lt 0 rfl) rfl (Nat.le_refl _)); rw [ht] at h9; exact h9) ?_
 refine vt ?_; refine vK ?_; refine vM ?_; refine vM ?_
 refine vCh (v := .bool true) (args := #[.slice ap st.length cp]) (fun W hW => by have h9 : Calls Tryd.prog _ _ W _ := wellp_r (ps := st) hq ((M.sees hW).oldA Hp); rw [hp] at h9; exact h9) ?_
 refine vt ?_; refine vK ?_
 refine hLk _ fun w9 M => ?_
 refine lZ k4 ?_; refine cF ?_; refine sZ k3 ?_
 refine qS fun _ k10 => ?_
 refine cM 4 fun Lk hLk => ?_
 refine vCh (fun W hW => TRoot_c0 ((M.sees hW).oldL L1) ((M.sees hW).oldR R1_0 L1)) ?_
 refine vM ?_; refine vE ?_; refine vE ?_
 refine hLk _ fun w12 M => ?_
 refine lg ?_; refine lg ?_; refine lZ k10 ?_
 refine qS fun _ k13 => ?_
 refine lg ?_; refine lZ k13 ?_
 refine sk fun _ k15 => ?_
 refine wp_block ?_
 refine qS fun _ k16 => ?_
 refine lM ?_
 refine cM 1 fun Lk hLk => ?_
 refine vB (v := .bool false) (hr := fun W => (run_eqlN m 0 _ _ W).trans (by rw [(decide_eq_false (by omega))])) ?_
 refine hLk _ fun w18 M => ?_
 refine lg ?_; refine lZ k16 ?_; refine cF ?_
 refine qS fun _ k19 => ?_
 refine lM ?_; refine lM ?_
 refine cM 1 fun Lk hLk => ?_
 refine vB (v := .bool true) (hr := fun W => (run_eqlN m n _ _ W).trans (by rw [(decide_eq_true hmn)])) ?_
 refine hLk _ fun w21 M => ?_
 refine lg ?_; refine lZ k19 ?_; refine cT ?_
 cases hg22 : (decide (st.length = 0))
 ·
  have hz : ¬ st.length = 0 := of_decide_eq_false hg22
  refine Z13 ?_; refine lM ?_
  refine cM 7 fun Lk hLk => ?_
  refine wpV_lenA (n := st.length) (by rfl) rfl rfl rfl U937 ?_
  simp only [Z0, Z6]
  refine vB (v := .bool false) (hr := fun W => (run_eqlN st.length 0 _ _ W).trans (by rw [hg22])) ?_
  refine vM ?_; refine vS ?_; refine vS ?_; refine vS ?_; refine vK ?_
  refine hLk _ fun w24 M => ?_
  refine lg ?_; refine lZ k15 ?_
  refine sk fun _ _ => ?_
  refine qS fun _ k26 => ?_
  refine lM ?_; refine lu ?_; refine lZ k26 ?_; refine cT ?_
  refine qS fun _ k29 => ?_
  refine lg ?_; refine lZ k29 ?_; refine rt1 ?_
  have BE := M.below
  exact ⟨by (rw [if_neg (fun q9 => hz ((folB_all (Nat.le_of_eq hmn.symm) hone).1 q9).1)]; try rfl), BE⟩
 have hz : st.length = 0 := of_decide_eq_true hg22
 refine Z13 ?_; refine lM ?_
 refine cM 7 fun Lk hLk => ?_
 refine wpV_lenA (n := st.length) (by rfl) rfl rfl rfl U937 ?_
 simp only [Z0, Z6]
 refine vB (v := .bool true) (hr := fun W => (run_eqlN st.length 0 _ _ W).trans (by rw [hg22])) ?_
 refine vM ?_; refine vM ?_; refine vM ?_
 refine wpV_binS (v := .bool (decide (old = root))) (by rfl) rfl rfl rfl (run_eql_bs _ _ _) ?_
 simp only [Z0, Z6]
 refine vK ?_
 refine hLk _ fun w32 M => ?_
 refine lg ?_; refine lZ k15 ?_
 refine sk fun _ k33 => ?_
 refine qS fun _ k34 => ?_
 refine lM ?_
 refine cM 1 fun Lk hLk => ?_
 refine wpV_not (b := decide (old = root)) (by rfl) rfl rfl ?_
 simp only [Z0, Z6]
 refine hLk _ fun w36 M => ?_
 refine lZ k34 ?_
 cases hc37 : (!(decide (old = root)))
 ·
  have hr : old = root := of_decide_eq_true (by simpa using hc37 : decide (old = root) = true)
  refine cF ?_; refine sZ k33 ?_
  refine qS fun _ k38 => ?_
  refine lg ?_; refine lZ k38 ?_; refine rt1 ?_
  have BE := M.below
  exact ⟨by (rw [if_pos ((folB_all (Nat.le_of_eq hmn.symm) hone).2 ⟨hz, hr⟩)]; try rfl), BE⟩
 have hr : ¬ old = root := of_decide_eq_false (by simpa using hc37 : decide (old = root) = false)
 refine cT ?_
 refine qS fun _ k40 => ?_
 refine lg ?_; refine lZ k40 ?_; refine rt1 ?_
 have BE := M.below
 exact ⟨by (rw [if_neg (fun q9 => hr ((folB_all (Nat.le_of_eq hmn.symm) hone).1 q9).2)]; try rfl), BE⟩
set_option maxHeartbeats 1000000 in
theorem Follows_go {st : List (List UInt8)} {ap : Option Addr} {np cp : Nat} {old root : List UInt8} {m n : Nat} {w : World} (hq : st.length ≤ 4611686018427387904) (hn : n ≤ 4096) (ht : all32 [old, root] = true) (hp : all32 st = true) (h1 : 1 ≤ m) (hmn : m < n) (L1 : 1 < w.heap.size) (R1_0 : w.rangeAt 1 0 kcells) (Hp : RowA w ap np cp (scells st)) :
  Calls Tryd.prog 43 #[.int .i64 m, .int .i64 n, .string (bs old), .string (bs root), .slice ap np cp] w fun e w' => e = .returned (.int .i64 (if folB m n old root st = true then 0 else 13)) ∧ Below w.heap.size w w' := by
 obtain rfl : np = st.length := by have := Hp.len; rwa [scells_len] at this
 have h32 := all32_mem hp
 have hl2 := all32_mem ht
 have hol : old.length = 32 := hl2 old (.head _)
 have hrt : root.length = 32 := hl2 root (.tail _ (.head _))
 have hone : old ≠ [] := fun e9 => by rw [e9] at hol; cases hol
 go_enter G943, T943
 have M := Mem.start w
 refine qS fun _ k1 => ?_
 refine lg ?_; refine lZ k1 ?_
 refine sk fun _ k3 => ?_
 refine qS fun _ k4 => ?_
 refine lM ?_
 refine cM 13 fun Lk hLk => ?_
 refine vB (v := .bool false) (hr := fun W => (run_lssN m 0 _ _ W).trans (by rw [(decide_eq_false (Nat.not_lt_zero m))])) ?_
 refine vM ?_; refine vM ?_; refine vM ?_
 refine vB (v := .bool false) (hr := fun W => (run_gtrN m n _ _ W).trans (by rw [(decide_eq_false (by omega))])) ?_
 refine vK ?_; refine vM ?_; refine vM ?_
 refine vB (v := .bool false) (hr := fun W => (run_gtrN n 4096 _ _ W).trans (by rw [(decide_eq_false (Nat.not_lt.2 hn))])) ?_
 refine vK ?_; refine vM ?_; refine vM ?_; refine vM ?_
 refine hLk _ fun w6 M => ?_
 refine wpL_guard (by rfl) ?_
 refine wpL_rowN (vs := [.string (bs old), .string (bs root)]) (z := .string { data := #[] }) (bytes := 16) (by rfl) (by rfl) U937 (by kernel_rfl) (by decide) (by kernel_rfl) (fun g7 w8 Sw8 Hg7 Bg7 => ?_)
 replace M := ((M.sees Sw8).add (N := 2) (cs := [.string (bs old), .string (bs root)]) (M.ge Hg7) (M.fresh Hg7) Bg7 rfl)
 clear Bg7
 simp only [Z0, Z6]
 refine cM 8 fun Lk hLk => ?_
 refine vCh (v := .bool true) (args := #[.slice (some ⟨g7, 0, none⟩) 2 2]) (fun W hW => by have h9 : Calls Tryd.prog _ _ W _ := wellp_r (ps := [old, root]) (show 2 ≤ 4611686018427387904 by decide) (RowA.of ((M.sees hW).r 0 0 rfl rfl) ((M.sees hW).lt 0 rfl) rfl (Nat.le_refl _)); rw [ht] at h9; exact h9) ?_
 refine vt ?_; refine vK ?_; refine vM ?_; refine vM ?_
 refine vCh (v := .bool true) (args := #[.slice ap st.length cp]) (fun W hW => by have h9 : Calls Tryd.prog _ _ W _ := wellp_r (ps := st) hq ((M.sees hW).oldA Hp); rw [hp] at h9; exact h9) ?_
 refine vt ?_; refine vK ?_
 refine hLk _ fun w9 M => ?_
 refine lZ k4 ?_; refine cF ?_; refine sZ k3 ?_
 refine qS fun _ k10 => ?_
 refine cM 4 fun Lk hLk => ?_
 refine vCh (fun W hW => TRoot_c0 ((M.sees hW).oldL L1) ((M.sees hW).oldR R1_0 L1)) ?_
 refine vM ?_; refine vE ?_; refine vE ?_
 refine hLk _ fun w12 M => ?_
 refine lg ?_; refine lg ?_; refine lZ k10 ?_
 refine qS fun _ k13 => ?_
 refine lg ?_; refine lZ k13 ?_
 refine sk fun _ k15 => ?_
 refine wp_block ?_
 refine qS fun _ k16 => ?_
 refine lM ?_
 refine cM 1 fun Lk hLk => ?_
 refine vB (v := .bool false) (hr := fun W => (run_eqlN m 0 _ _ W).trans (by rw [(decide_eq_false (by omega))])) ?_
 refine hLk _ fun w18 M => ?_
 refine lg ?_; refine lZ k16 ?_; refine cF ?_
 refine qS fun _ k19 => ?_
 refine lM ?_; refine lM ?_
 refine cM 1 fun Lk hLk => ?_
 refine vB (v := .bool false) (hr := fun W => (run_eqlN m n _ _ W).trans (by rw [(decide_eq_false (Z4 hmn))])) ?_
 refine hLk _ fun w21 M => ?_
 refine lg ?_; refine lZ k19 ?_; refine cF ?_; refine Z13 ?_; refine lM ?_; refine lM ?_; refine lM ?_; refine lM ?_; refine lM ?_
 refine cM 1 fun Lk hLk => ?_
 refine vCh (v := .bool (folB m n old root st)) (args := #[.int .i64 m, .int .i64 n, .string (bs old), .string (bs root), .slice ap st.length cp]) (fun W hW => by with_reducible exact follows_c (st := st) hq h1 hmn hn hol hrt h32 ((M.sees hW).oldL L1) ((M.sees hW).oldR R1_0 L1) ((M.sees hW).oldA Hp)) ?_
 refine hLk _ fun w23 M => ?_
 refine lg ?_; refine lZ k15 ?_
 refine sk fun _ k24 => ?_
 refine qS fun _ k25 => ?_
 refine lM ?_
 refine cM 1 fun Lk hLk => ?_
 refine wpV_not (b := folB m n old root st) (by rfl) rfl rfl ?_
 simp only [Z0, Z6]
 refine hLk _ fun w27 M => ?_
 refine lZ k25 ?_
 cases hc28 : (!(folB m n old root st))
 ·
  have hf : folB m n old root st = true := (by simpa using hc28 : folB m n old root st = true)
  refine cF ?_; refine sZ k24 ?_
  refine qS fun _ k29 => ?_
  refine lg ?_; refine lZ k29 ?_; refine rt1 ?_
  have BE := M.below
  exact ⟨by (rw [if_pos hf]; try rfl), BE⟩
 have hf : folB m n old root st = false := (by simpa using hc28 : folB m n old root st = false)
 refine cT ?_
 refine qS fun _ k31 => ?_
 refine lg ?_; refine lZ k31 ?_; refine rt1 ?_
 have BE := M.below
 exact ⟨by (rw [if_neg (by rw [hf]; decide)]; try rfl), BE⟩
theorem Follows_pos {st : List (List UInt8)} {ap : Option Addr} {np cp : Nat} {old root : List UInt8} {m n : Nat} {w : World} (hq : st.length ≤ 4611686018427387904) (hn : n ≤ 4096) (ht : all32 [old, root] = true) (hp : all32 st = true) (h1 : 1 ≤ m) (hmn : m ≤ n) (L1 : 1 < w.heap.size) (R1_0 : w.rangeAt 1 0 kcells) (Hp : RowA w ap np cp (scells st)) :
  Calls Tryd.prog 43 #[.int .i64 m, .int .i64 n, .string (bs old), .string (bs root), .slice ap np cp] w fun e w' => e = .returned (.int .i64 (if folB m n old root st = true then 0 else 13)) ∧ Below w.heap.size w w' := by
 by_cases h : m = n
 ·
  exact Follows_all hq hn ht hp h1 h L1 R1_0 Hp
 exact Follows_go hq hn ht hp h1 (by omega) L1 R1_0 Hp
end Go.Proofs.Yc

namespace Go.Proofs.Yc
open Go Go.RowKit Go.Proofs.Num
open Tryd renaming func42 → G942, ntmps42 → T942
open Go.Proofs.Num  renaming putT → Z0
open List renaming set → Z6
open Go.Proofs.Num renaming wp_region_seq → Z13
attribute [local irreducible] wpV wpN wpList
open Go.Proofs.Ya
def folV (m n : Nat) (old root : List UInt8) (st : List (List UInt8)) : Int := if all32 st = false then 1 else if m = 0 then (if st.length = 0 ∧ old = rootS [] then 0 else 13) else (if folB m n old root st = true then 0 else 13)
theorem two32 {a b : List UInt8} (h : a.length = 32) (k : b.length = 32) : all32 [a, b] = true := by simp [all32, h, k]
theorem Follows_v {st : List (List UInt8)} {ap : Option Addr} {np cp : Nat} {old root : List UInt8} {m n : Nat} {w : World} (hq : st.length ≤ 4611686018427387904) (hn : n ≤ 4096) (h1 : old.length = 32) (h2 : root.length = 32) (hmn : m ≤ n) (L1 : 1 < w.heap.size) (R1_0 : w.rangeAt 1 0 kcells) (Hp : RowA w ap np cp (scells st)) :
  Calls Tryd.prog 43 #[.int .i64 m, .int .i64 n, .string (bs old), .string (bs root), .slice ap np cp] w fun e w' => e = .returned (.int .i64 (folV m n old root st)) ∧ Below w.heap.size w w' := by
 unfold folV
 cases hp : all32 st
 ·
  have h9 := Follows_path (x := m) (y := n) hq (by omega) (by omega) (by omega) (two32 h1 h2) hp L1 R1_0 Hp
  exact h9
 by_cases h0 : m = 0
 ·
  subst h0
  have h9 := Follows_zero hq hn (two32 h1 h2) hp L1 R1_0 Hp
  exact h9
 have h9 := Follows_pos hq hn (two32 h1 h2) hp (by omega) hmn L1 R1_0 Hp
 rw [if_neg (by decide), if_neg h0]
 exact h9
def goesV (a1 b1 : Nat) (r1 : List UInt8) (a2 b2 : Nat) (r2 : List UInt8) (st : List (List UInt8)) : Int := if a1 = a2 ∧ r1 ≠ r2 then 38 else if a2 < a1 ∨ b2 < b1 then 14 else folV a1 a2 r1 r2 st
set_option maxHeartbeats 4000000 in
theorem Goes_ok {a1 b1 a2 b2 : Nat} {r1 g1 r2 g2 : List UInt8} {st : List (List UInt8)} {ap : Option Addr} {np cp : Nat} {w : World} (hq : st.length ≤ 4611686018427387904) (ha1 : a1 ≤ 4096) (hb1 : b1 ≤ 1099511627776) (hr1 : r1.length = 32) (hg1 : g1.length = 64) (ha2 : a2 ≤ 4096) (hb2 : b2 ≤ 1099511627776) (hr2 : r2.length = 32) (hg2 : g2.length = 64) (L1 : 1 < w.heap.size) (R1_0 : w.rangeAt 1 0 kcells) (Hp : RowA w ap np cp (scells st)) :
  Calls Tryd.prog 42 #[.agg ([.int .i64 a1, .string (bs r1), .int .i64 b1, .string (bs g1)]).toArray, .agg ([.int .i64 a2, .string (bs r2), .int .i64 b2, .string (bs g2)]).toArray, .slice ap np cp] w fun e w' => e = .returned (.int .i64 (goesV a1 b1 r1 a2 b2 r2 st)) ∧ Below w.heap.size w w' := by
 obtain rfl : np = st.length := by have := Hp.len; rwa [scells_len] at this
 go_enter G942, T942
 have M := Mem.start w
 refine qS fun _ k1 => ?_
 refine nVs (segs := [(0, [.int .i64 a1]), (1, [.string (bs r1)]), (2, [.int .i64 b1]), (3, [.string (bs g1)])]) 4 fun g3 w4 M => ?_
 refine nVs (segs := [(0, [.int .i64 a2]), (1, [.string (bs r2)]), (2, [.int .i64 b2]), (3, [.string (bs g2)])]) 4 fun g5 w6 M => ?_
 refine lg ?_; refine lZ k1 ?_
 refine sk fun _ k7 => ?_
 refine wp_block ?_
 refine qS fun _ k8 => ?_
 refine cM 8 fun Lk hLk => ?_
 refine vP (pvLf (cs := [.int .i64 a1] ++ [.string (bs r1)] ++ [.int .i64 b1] ++ [.string (bs g1)]) (range_join (range_join (range_join (M.r 1 0 rfl rfl) (M.r 1 1 rfl rfl) (by simp [flen])) (M.r 1 2 rfl rfl) (by simp [flen])) (M.r 1 3 rfl rfl) (by simp [flen])) (M.lt 1 rfl)) ?_
 refine vC (v := .bool true) (args := #[.agg ([.int .i64 a1] ++ [.string (bs r1)] ++ [.int .i64 b1] ++ [.string (bs g1)] : List Value).toArray]) (fun W => (by have h9 := hright_c (z := ((a1 : Nat) : Int)) (r := r1) (t := ((b1 : Nat) : Int)) (g := g1) (w := W); rw [rightH_of ha1 hb1 hr1 hg1] at h9; exact h9)) ?_
 refine vt ?_; refine vM ?_
 refine vP (pvLf (cs := [.int .i64 a2] ++ [.string (bs r2)] ++ [.int .i64 b2] ++ [.string (bs g2)]) (range_join (range_join (range_join (M.r 0 0 rfl rfl) (M.r 0 1 rfl rfl) (by simp [flen])) (M.r 0 2 rfl rfl) (by simp [flen])) (M.r 0 3 rfl rfl) (by simp [flen])) (M.lt 0 rfl)) ?_
 refine vC (v := .bool true) (args := #[.agg ([.int .i64 a2] ++ [.string (bs r2)] ++ [.int .i64 b2] ++ [.string (bs g2)] : List Value).toArray]) (fun W => (by have h9 := hright_c (z := ((a2 : Nat) : Int)) (r := r2) (t := ((b2 : Nat) : Int)) (g := g2) (w := W); rw [rightH_of ha2 hb2 hr2 hg2] at h9; exact h9)) ?_
 refine vt ?_; refine vK ?_
 refine hLk _ fun w10 M => ?_
 refine lg ?_; refine lZ k8 ?_; refine cF ?_
 refine sk fun _ k11 => ?_
 cases hg12 : (decide (a1 = a2))
 ·
  have q13 : ¬ (a1 = a2) := of_decide_eq_false hg12
  refine Z13 ?_; refine lF ?_; refine lc ?_; refine lF ?_; refine lc ?_
  refine cM 8 fun Lk hLk => ?_
  refine vB (v := .bool false) (hr := fun W => (run_eqlN a1 a2 _ _ W).trans (by rw [hg12])) ?_
  refine vM ?_; refine vS ?_; refine vS ?_; refine vS ?_; refine vS ?_; refine vS ?_; refine vK ?_
  refine hLk _ fun w15 M => ?_
  refine lg ?_; refine lZ k11 ?_; refine cF ?_
  refine sk fun _ k16 => ?_
  cases hg17 : (decide (a2 < a1))
  ·
   have q18 : ¬ (a2 < a1) := of_decide_eq_false hg17
   refine Z13 ?_; refine lF ?_; refine lc ?_; refine lF ?_; refine lc ?_
   refine cM 8 fun Lk hLk => ?_
   refine vB (v := .bool false) (hr := fun W => (run_lssN a2 a1 _ _ W).trans (by rw [hg17])) ?_
   refine vM ?_; refine vF ?_; refine vc ?_; refine vF ?_; refine vc ?_
   refine vB (v := .bool (decide (b2 < b1))) (hr := run_lssN b2 b1 _ _) ?_
   refine vK ?_
   refine hLk _ fun w20 M => ?_
   refine lg ?_; refine lZ k16 ?_
   cases hc21 : (decide (b2 < b1))
   ·
    have q22 : ¬ (b2 < b1) := of_decide_eq_false hc21
    refine cF ?_; refine sZ k7 ?_
    refine qS fun _ k23 => ?_
    refine lF ?_; refine lc ?_; refine lF ?_; refine lc ?_; refine lF ?_; refine lc ?_; refine lF ?_; refine lc ?_; refine lM ?_
    refine cM 1 fun Lk hLk => ?_
    refine vCh (v := .int .i64 (folV a1 a2 r1 r2 st)) (args := #[.int .i64 a1, .int .i64 a2, .string (bs r1), .string (bs r2), .slice ap st.length cp]) (fun W hW => (by have h9 := Follows_v (st := st) (old := r1) (root := r2) (m := a1) (n := a2) (w := W) hq ha2 hr1 hr2 (by omega) ((M.sees hW).oldL L1) ((M.sees hW).oldR R1_0 L1) ((M.sees hW).oldA Hp); exact h9)) ?_
    refine hLk _ fun w25 M => ?_
    refine lg ?_; refine lZ k23 ?_; refine rt1 ?_
    have BE := M.below
    exact ⟨by unfold goesV; (first | (simp [q13, q18, q22]; done) | (simp [q13, q18, q22]; omega)), BE⟩
   have q26 : (b2 < b1) := of_decide_eq_true hc21
   refine cT ?_
   refine qS fun _ k27 => ?_
   refine lg ?_; refine lZ k27 ?_; refine rt1 ?_
   have BE := M.below
   exact ⟨by unfold goesV; (first | (simp [q13, q18, q26]; done) | (simp [q13, q18, q26]; omega)), BE⟩
  have q29 : (a2 < a1) := of_decide_eq_true hg17
  refine Z13 ?_; refine lF ?_; refine lc ?_; refine lF ?_; refine lc ?_
  refine cM 8 fun Lk hLk => ?_
  refine vB (v := .bool true) (hr := fun W => (run_lssN a2 a1 _ _ W).trans (by rw [hg17])) ?_
  refine vM ?_; refine vS ?_; refine vS ?_; refine vS ?_; refine vS ?_; refine vS ?_; refine vK ?_
  refine hLk _ fun w31 M => ?_
  refine lg ?_; refine lZ k16 ?_; refine cT ?_
  refine qS fun _ k32 => ?_
  refine lg ?_; refine lZ k32 ?_; refine rt1 ?_
  have BE := M.below
  exact ⟨by unfold goesV; (first | (simp [q13, q29]; done) | (simp [q13, q29]; omega)), BE⟩
 have q34 : (a1 = a2) := of_decide_eq_true hg12
 refine Z13 ?_; refine lF ?_; refine lc ?_; refine lF ?_; refine lc ?_
 refine cM 8 fun Lk hLk => ?_
 refine vB (v := .bool true) (hr := fun W => (run_eqlN a1 a2 _ _ W).trans (by rw [hg12])) ?_
 refine vM ?_; refine vF ?_; refine vc ?_; refine vF ?_; refine vc ?_
 refine wpV_binS (v := .bool (decide (r1 ≠ r2))) (by rfl) rfl rfl rfl (run_neq_bs _ _ _) ?_
 simp only [Z0, Z6]
 refine vK ?_
 refine hLk _ fun w36 M => ?_
 refine lg ?_; refine lZ k11 ?_
 cases hc37 : (decide (r1 ≠ r2))
 ·
  have q38 : ¬ (r1 ≠ r2) := of_decide_eq_false hc37
  refine cF ?_
  refine sk fun _ k39 => ?_
  cases hg40 : (decide (a2 < a1))
  ·
   have q41 : ¬ (a2 < a1) := of_decide_eq_false hg40
   refine Z13 ?_; refine lF ?_; refine lc ?_; refine lF ?_; refine lc ?_
   refine cM 8 fun Lk hLk => ?_
   refine vB (v := .bool false) (hr := fun W => (run_lssN a2 a1 _ _ W).trans (by rw [hg40])) ?_
   refine vM ?_; refine vF ?_; refine vc ?_; refine vF ?_; refine vc ?_
   refine vB (v := .bool (decide (b2 < b1))) (hr := run_lssN b2 b1 _ _) ?_
   refine vK ?_
   refine hLk _ fun w43 M => ?_
   refine lg ?_; refine lZ k39 ?_
   cases hc44 : (decide (b2 < b1))
   ·
    have q45 : ¬ (b2 < b1) := of_decide_eq_false hc44
    refine cF ?_; refine sZ k7 ?_
    refine qS fun _ k46 => ?_
    refine lF ?_; refine lc ?_; refine lF ?_; refine lc ?_; refine lF ?_; refine lc ?_; refine lF ?_; refine lc ?_; refine lM ?_
    refine cM 1 fun Lk hLk => ?_
    refine vCh (v := .int .i64 (folV a1 a2 r1 r2 st)) (args := #[.int .i64 a1, .int .i64 a2, .string (bs r1), .string (bs r2), .slice ap st.length cp]) (fun W hW => (by have h9 := Follows_v (st := st) (old := r1) (root := r2) (m := a1) (n := a2) (w := W) hq ha2 hr1 hr2 (by omega) ((M.sees hW).oldL L1) ((M.sees hW).oldR R1_0 L1) ((M.sees hW).oldA Hp); exact h9)) ?_
    refine hLk _ fun w48 M => ?_
    refine lg ?_; refine lZ k46 ?_; refine rt1 ?_
    have BE := M.below
    exact ⟨by unfold goesV; (first | (simp [q34, q38, q41, q45]; done) | (simp [q34, q38, q41, q45]; omega)), BE⟩
   have q49 : (b2 < b1) := of_decide_eq_true hc44
   refine cT ?_
   refine qS fun _ k50 => ?_
   refine lg ?_; refine lZ k50 ?_; refine rt1 ?_
   have BE := M.below
   exact ⟨by unfold goesV; (first | (simp [q34, q38, q41, q49]; done) | (simp [q34, q38, q41, q49]; omega)), BE⟩
  have q52 : (a2 < a1) := of_decide_eq_true hg40
  refine Z13 ?_; refine lF ?_; refine lc ?_; refine lF ?_; refine lc ?_
  refine cM 8 fun Lk hLk => ?_
  refine vB (v := .bool true) (hr := fun W => (run_lssN a2 a1 _ _ W).trans (by rw [hg40])) ?_
  refine vM ?_; refine vS ?_; refine vS ?_; refine vS ?_; refine vS ?_; refine vS ?_; refine vK ?_
  refine hLk _ fun w54 M => ?_
  refine lg ?_; refine lZ k39 ?_; refine cT ?_
  refine qS fun _ k55 => ?_
  refine lg ?_; refine lZ k55 ?_; refine rt1 ?_
  have BE := M.below
  exact ⟨by unfold goesV; (first | (simp [q34, q38, q52]; done) | (simp [q34, q38, q52]; omega)), BE⟩
 have q57 : (r1 ≠ r2) := of_decide_eq_true hc37
 refine cT ?_
 refine qS fun _ k58 => ?_
 refine lg ?_; refine lZ k58 ?_; refine rt1 ?_
 have BE := M.below
 exact ⟨by unfold goesV; (first | (simp [q34, q57]; done) | (simp [q34, q57]; omega)), BE⟩
set_option maxHeartbeats 4000000 in
theorem Goes_no1 {z1 t1 z2 t2 : Int} {r1 g1 r2 g2 : List UInt8} {st : List (List UInt8)} {ap : Option Addr} {np cp : Nat} {w : World} (h01 : rightH z1 r1 t1 g1 = false) (Hp : RowA w ap np cp (scells st)) :
  Calls Tryd.prog 42 #[.agg ([.int .i64 z1, .string (bs r1), .int .i64 t1, .string (bs g1)]).toArray, .agg ([.int .i64 z2, .string (bs r2), .int .i64 t2, .string (bs g2)]).toArray, .slice ap np cp] w fun e w' => e = .returned (.int .i64 1) ∧ Below w.heap.size w w' := by
 obtain rfl : np = st.length := by have := Hp.len; rwa [scells_len] at this
 go_enter G942, T942
 have M := Mem.start w
 refine qS fun _ k1 => ?_
 refine nVs (segs := [(0, [.int .i64 z1]), (1, [.string (bs r1)]), (2, [.int .i64 t1]), (3, [.string (bs g1)])]) 4 fun g3 w4 M => ?_
 refine nVs (segs := [(0, [.int .i64 z2]), (1, [.string (bs r2)]), (2, [.int .i64 t2]), (3, [.string (bs g2)])]) 4 fun g5 w6 M => ?_
 refine lg ?_; refine lZ k1 ?_
 refine sk fun _ _ => ?_
 refine wp_block ?_
 refine qS fun _ k8 => ?_
 refine cM 8 fun Lk hLk => ?_
 refine vP (pvLf (cs := [.int .i64 z1] ++ [.string (bs r1)] ++ [.int .i64 t1] ++ [.string (bs g1)]) (range_join (range_join (range_join (M.r 1 0 rfl rfl) (M.r 1 1 rfl rfl) (by simp [flen])) (M.r 1 2 rfl rfl) (by simp [flen])) (M.r 1 3 rfl rfl) (by simp [flen])) (M.lt 1 rfl)) ?_
 refine vC (v := .bool false) (args := #[.agg ([.int .i64 z1] ++ [.string (bs r1)] ++ [.int .i64 t1] ++ [.string (bs g1)] : List Value).toArray]) (fun W => (by have h9 := hright_c (z := z1) (r := r1) (t := t1) (g := g1) (w := W); rw [h01] at h9; exact h9)) ?_
 refine vu ?_; refine vM ?_; refine vS ?_; refine vS ?_; refine vS ?_; refine vK ?_
 refine hLk _ fun w10 M => ?_
 refine lg ?_; refine lZ k8 ?_; refine cT ?_
 refine qS fun _ k11 => ?_
 refine lg ?_; refine lZ k11 ?_; refine rt1 ?_
 exact ⟨rfl, M.below⟩
set_option maxHeartbeats 4000000 in
theorem Goes_no2 {z1 t1 z2 t2 : Int} {r1 g1 r2 g2 : List UInt8} {st : List (List UInt8)} {ap : Option Addr} {np cp : Nat} {w : World} (h01 : rightH z1 r1 t1 g1 = true) (h02 : rightH z2 r2 t2 g2 = false) (Hp : RowA w ap np cp (scells st)) :
  Calls Tryd.prog 42 #[.agg ([.int .i64 z1, .string (bs r1), .int .i64 t1, .string (bs g1)]).toArray, .agg ([.int .i64 z2, .string (bs r2), .int .i64 t2, .string (bs g2)]).toArray, .slice ap np cp] w fun e w' => e = .returned (.int .i64 1) ∧ Below w.heap.size w w' := by
 obtain rfl : np = st.length := by have := Hp.len; rwa [scells_len] at this
 go_enter G942, T942
 have M := Mem.start w
 refine qS fun _ k1 => ?_
 refine nVs (segs := [(0, [.int .i64 z1]), (1, [.string (bs r1)]), (2, [.int .i64 t1]), (3, [.string (bs g1)])]) 4 fun g3 w4 M => ?_
 refine nVs (segs := [(0, [.int .i64 z2]), (1, [.string (bs r2)]), (2, [.int .i64 t2]), (3, [.string (bs g2)])]) 4 fun g5 w6 M => ?_
 refine lg ?_; refine lZ k1 ?_
 refine sk fun _ _ => ?_
 refine wp_block ?_
 refine qS fun _ k8 => ?_
 refine cM 8 fun Lk hLk => ?_
 refine vP (pvLf (cs := [.int .i64 z1] ++ [.string (bs r1)] ++ [.int .i64 t1] ++ [.string (bs g1)]) (range_join (range_join (range_join (M.r 1 0 rfl rfl) (M.r 1 1 rfl rfl) (by simp [flen])) (M.r 1 2 rfl rfl) (by simp [flen])) (M.r 1 3 rfl rfl) (by simp [flen])) (M.lt 1 rfl)) ?_
 refine vC (v := .bool true) (args := #[.agg ([.int .i64 z1] ++ [.string (bs r1)] ++ [.int .i64 t1] ++ [.string (bs g1)] : List Value).toArray]) (fun W => (by have h9 := hright_c (z := z1) (r := r1) (t := t1) (g := g1) (w := W); rw [h01] at h9; exact h9)) ?_
 refine vt ?_; refine vM ?_
 refine vP (pvLf (cs := [.int .i64 z2] ++ [.string (bs r2)] ++ [.int .i64 t2] ++ [.string (bs g2)]) (range_join (range_join (range_join (M.r 0 0 rfl rfl) (M.r 0 1 rfl rfl) (by simp [flen])) (M.r 0 2 rfl rfl) (by simp [flen])) (M.r 0 3 rfl rfl) (by simp [flen])) (M.lt 0 rfl)) ?_
 refine vC (v := .bool false) (args := #[.agg ([.int .i64 z2] ++ [.string (bs r2)] ++ [.int .i64 t2] ++ [.string (bs g2)] : List Value).toArray]) (fun W => (by have h9 := hright_c (z := z2) (r := r2) (t := t2) (g := g2) (w := W); rw [h02] at h9; exact h9)) ?_
 refine vu ?_; refine vK ?_
 refine hLk _ fun w10 M => ?_
 refine lg ?_; refine lZ k8 ?_; refine cT ?_
 refine qS fun _ k11 => ?_
 refine lg ?_; refine lZ k11 ?_; refine rt1 ?_
 exact ⟨rfl, M.below⟩
end Go.Proofs.Yc

