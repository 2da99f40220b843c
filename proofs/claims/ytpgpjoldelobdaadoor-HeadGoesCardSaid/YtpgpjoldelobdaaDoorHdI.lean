import Derived.WalkKit
import Derived.WalkSpells
import Derived.Laws.Pointers
import Derived.RowKit3
import Derived.Below
import Derived.Outline
import Derived.LoopN
import Derived.Lib.Hide
import Derived.Handy
import Derived.Laws.Bits64b
import Derived.Test.YtpgpjoldelobdaaDoorHdG
import Derived.Test.YtpgpjoldelobdaaDoorF3
import Derived.Test.YtpgpjoldelobdaaDoorShq
set_option linter.unusedSimpArgs false
set_option linter.unusedVariables false
namespace Go.Proofs.Yc
open Go Go.RowKit Go.Proofs.Num
open Tryd renaming func12 → G912, ntmps12 → T912, underlying37 → U937
open Go.Proofs.Num  renaming putT → Z0
open Nat renaming zero_add → Z2, le_trans → Z3
open List renaming set → Z6
open Go.Proofs.Num renaming wp_region_seq → Z13
attribute [local irreducible] wpV wpN wpList
open Go.Proofs.Ya
set_option maxHeartbeats 4000000 in
theorem goes_ok {a1 b1 a2 b2 : Nat} {r1 g1 r2 g2 rr1 gg1 rr2 gg2 : List UInt8} {st : List (List UInt8)} {ap : Option Addr} {np cp : Nat} {w : World} (hrr1 : rr1 = cut r1 40) (hgg1 : gg1 = cut g1 70) (hrr2 : rr2 = cut r2 40) (hgg2 : gg2 = cut g2 70) (ha1 : a1 ≤ 4096) (hb1 : b1 ≤ 1099511627776) (hr1 : rr1.length = 32) (hg1 : gg1.length = 64) (ha2 : a2 ≤ 4096) (hb2 : b2 ≤ 1099511627776) (hr2 : rr2.length = 32) (hg2 : gg2.length = 64) (L1 : 1 < w.heap.size) (R1_0 : w.rangeAt 1 0 kcells) (L2 : 2 < w.heap.size) (R2_0 : w.rangeAt 2 0 kcellsq) (Hp : RowA w ap np cp (scells st)) :
  Calls Tryd.prog 12 #[.agg ([.int .i64 a1, .string (bs r1), .int .i64 b1, .string (bs g1)]).toArray, .agg ([.int .i64 a2, .string (bs r2), .int .i64 b2, .string (bs g2)]).toArray, .slice ap np cp] w fun e w' => e = .returned (.bool true) ∧ Below w.heap.size w w' := by
 obtain rfl : np = st.length := by have := Hp.len; rwa [scells_len] at this
 have hq9 : (st.take (min st.length 20)).length ≤ 4611686018427387904 := by rw [List.length_take]; omega
 obtain ⟨gv, hgv⟩ : ∃ gv, gv = goesV a1 b1 rr1 a2 b2 rr2 (st.take (min st.length 20)) := ⟨_, rfl⟩
 go_enter G912, T912
 have M := Mem.start w
 refine qS fun _ k1 => ?_
 refine nVs (segs := [(0, [.int .i64 a1]), (1, [.string (bs r1)]), (2, [.int .i64 b1]), (3, [.string (bs g1)])]) 4 fun g3 w4 M => ?_
 refine nVs (segs := [(0, [.int .i64 a2]), (1, [.string (bs r2)]), (2, [.int .i64 b2]), (3, [.string (bs g2)])]) 4 fun g5 w6 M => ?_
 refine lg ?_; refine lZ k1 ?_
 refine sk fun _ k7 => ?_
 refine rG 4 [] fun Lk hLk => ?_
 refine vP (pvLf (cs := [.int .i64 a1] ++ [.string (bs r1)] ++ [.int .i64 b1] ++ [.string (bs g1)]) (range_join (range_join (range_join (M.r 1 0 rfl rfl) (M.r 1 1 rfl rfl) (by simp [flen])) (M.r 1 2 rfl rfl) (by simp [flen])) (M.r 1 3 rfl rfl) (by simp [flen])) (M.lt 1 rfl)) ?_
 refine vC (v := .agg ([.int .i64 a1, .string (bs rr1), .int .i64 b1, .string (bs gg1)]).toArray) (args := #[.agg ([.int .i64 a1] ++ [.string (bs r1)] ++ [.int .i64 b1] ++ [.string (bs g1)] : List Value).toArray]) (fun W => (by have h9 := few10_c (z := ((a1 : Nat) : Int)) (r := r1) (t := ((b1 : Nat) : Int)) (g := g1) (w := W); rw [← hrr1, ← hgg1] at h9; exact h9)) ?_
 refine vP (pvLf (cs := [.int .i64 a2] ++ [.string (bs r2)] ++ [.int .i64 b2] ++ [.string (bs g2)]) (range_join (range_join (range_join (M.r 0 0 rfl rfl) (M.r 0 1 rfl rfl) (by simp [flen])) (M.r 0 2 rfl rfl) (by simp [flen])) (M.r 0 3 rfl rfl) (by simp [flen])) (M.lt 0 rfl)) ?_
 refine vC (v := .agg ([.int .i64 a2, .string (bs rr2), .int .i64 b2, .string (bs gg2)]).toArray) (args := #[.agg ([.int .i64 a2] ++ [.string (bs r2)] ++ [.int .i64 b2] ++ [.string (bs g2)] : List Value).toArray]) (fun W => (by have h9 := few10_c (z := ((a2 : Nat) : Int)) (r := r2) (t := ((b2 : Nat) : Int)) (g := g2) (w := W); rw [← hrr2, ← hgg2] at h9; exact h9)) ?_
 refine hLk _ fun w9 M => ?_
 refine sTs (segs' := [(0, [.int .i64 a1]), (1, [.string (bs rr1)]), (2, [.int .i64 b1]), (3, [.string (bs gg1)])]) 1 fun w10 M => ?_
 refine sTs (segs' := [(0, [.int .i64 a2]), (1, [.string (bs rr2)]), (2, [.int .i64 b2]), (3, [.string (bs gg2)])]) 0 fun w11 M => ?_
 refine lZ k7 ?_
 refine qS fun _ k12 => ?_
 refine wpL_row0 (by rfl) (by rfl) U937 info9 (fun g14 w15 Sw15 Hg14 Bg14 => ?_)
 replace M := ((M.sees Sw15).add (N := 0) (cs := scells []) (M.ge Hg14) (M.fresh Hg14) Bg14 rfl)
 clear Bg14
 simp only [Z0, Z6]
 refine lM ?_; refine lM ?_
 refine cM 3 fun Lk hLk => ?_
 refine wpV_lenA (n := st.length) (by rfl) rfl rfl rfl U937 ?_
 simp only [Z0, Z6]
 refine wpV_min (n := st.length) (m := 20) (by rfl) rfl rfl rfl ?_
 simp only [Z0, Z6]
 refine wpV_slcH (hi := min st.length 20) (by rfl) rfl rfl rfl U937 info9 (Z3 (by omega) (M.oldA Hp).cap) ?_
 simp only [Z0, Z6]
 refine hLk _ fun w16 M => ?_
 refine wpL_appendA (n := 0) (m := min st.length 20) (olds := scells []) (news := scells (st.take (min st.length 20))) (z := .string { data := #[] }) (bytes := 16) (by rfl) (by rfl) (by rfl) (by rfl) U937 (by kernel_rfl) rfl rfl (by rfl) (Nat.le_refl _) (M.r 0 0 rfl rfl) (M.t 0 rfl) (M.lt 0 rfl) (((M.oldA Hp).take (by omega)).eq (scells_take2 _ _)) (scells_one _) (by omega) (by simp only [maxLen]; omega) (fun g17 g17c w18 Sw18 Q Cg17 R T L => ?_)
 replace M := M.grow 0 rfl Sw18 Q R T L
 simp only [Z6] at M
 clear Q R T L
 rw [show scells [] ++ scells (st.take (min st.length 20)) = scells (st.take (min st.length 20)) from rfl] at M
 rw [Z2] at Cg17
 rw [Z2]
 simp only [Z0, Z6]
 refine lg ?_; refine lZ k12 ?_
 refine qS fun _ k19 => ?_
 refine cM 4 fun Lk hLk => ?_
 refine vP (pvLf (cs := [.int .i64 a1] ++ [.string (bs rr1)] ++ [.int .i64 b1] ++ [.string (bs gg1)]) (range_join (range_join (range_join (M.r 2 0 rfl rfl) (M.r 2 1 rfl rfl) (by simp [flen])) (M.r 2 2 rfl rfl) (by simp [flen])) (M.r 2 3 rfl rfl) (by simp [flen])) (M.lt 2 rfl)) ?_
 refine vP (pvLf (cs := [.int .i64 a2] ++ [.string (bs rr2)] ++ [.int .i64 b2] ++ [.string (bs gg2)]) (range_join (range_join (range_join (M.r 1 0 rfl rfl) (M.r 1 1 rfl rfl) (by simp [flen])) (M.r 1 2 rfl rfl) (by simp [flen])) (M.r 1 3 rfl rfl) (by simp [flen])) (M.lt 1 rfl)) ?_
 refine vM ?_
 refine vCh (v := .int .i64 gv) (args := #[.agg ([.int .i64 a1] ++ [.string (bs rr1)] ++ [.int .i64 b1] ++ [.string (bs gg1)] : List Value).toArray, .agg ([.int .i64 a2] ++ [.string (bs rr2)] ++ [.int .i64 b2] ++ [.string (bs gg2)] : List Value).toArray, .slice (some ⟨g17, 0, none⟩) (min st.length 20) g17c]) (fun W hW => (by have h9 := Goes_ok (st := st.take (min st.length 20)) (a1 := a1) (b1 := b1) (r1 := rr1) (g1 := gg1) (a2 := a2) (b2 := b2) (r2 := rr2) (g2 := gg2) (w := W) hq9 ha1 hb1 hr1 hg1 ha2 hb2 hr2 hg2 ((M.sees hW).oldL L1) ((M.sees hW).oldR R1_0 L1) (RowA.of ((M.sees hW).r 0 0 rfl rfl) ((M.sees hW).lt 0 rfl) (by rw [scells_len, List.length_take]; omega) Cg17); rw [← hgv] at h9; exact h9)) ?_
 refine hLk _ fun w21 M => ?_
 refine lg ?_; refine lZ k19 ?_
 refine sk fun _ k22 => ?_
 refine wp_block ?_
 refine qS fun _ k23 => ?_
 refine cM 8 fun Lk hLk => ?_
 refine vP (pvLf (cs := [.int .i64 a1] ++ [.string (bs rr1)] ++ [.int .i64 b1] ++ [.string (bs gg1)]) (range_join (range_join (range_join (M.r 2 0 rfl rfl) (M.r 2 1 rfl rfl) (by simp [flen])) (M.r 2 2 rfl rfl) (by simp [flen])) (M.r 2 3 rfl rfl) (by simp [flen])) (M.lt 2 rfl)) ?_
 refine vC (v := .bool true) (args := #[.agg ([.int .i64 a1] ++ [.string (bs rr1)] ++ [.int .i64 b1] ++ [.string (bs gg1)] : List Value).toArray]) (fun W => (by have h9 := rhright_c (z := ((a1 : Nat) : Int)) (r := rr1) (t := ((b1 : Nat) : Int)) (g := gg1) (w := W); rw [rightH_of ha1 hb1 hr1 hg1] at h9; exact h9)) ?_
 refine vt ?_; refine vM ?_
 refine vP (pvLf (cs := [.int .i64 a2] ++ [.string (bs rr2)] ++ [.int .i64 b2] ++ [.string (bs gg2)]) (range_join (range_join (range_join (M.r 1 0 rfl rfl) (M.r 1 1 rfl rfl) (by simp [flen])) (M.r 1 2 rfl rfl) (by simp [flen])) (M.r 1 3 rfl rfl) (by simp [flen])) (M.lt 1 rfl)) ?_
 refine vC (v := .bool true) (args := #[.agg ([.int .i64 a2] ++ [.string (bs rr2)] ++ [.int .i64 b2] ++ [.string (bs gg2)] : List Value).toArray]) (fun W => (by have h9 := rhright_c (z := ((a2 : Nat) : Int)) (r := rr2) (t := ((b2 : Nat) : Int)) (g := gg2) (w := W); rw [rightH_of ha2 hb2 hr2 hg2] at h9; exact h9)) ?_
 refine vt ?_; refine vK ?_
 refine hLk _ fun w25 M => ?_
 refine lg ?_; refine lZ k23 ?_; refine cF ?_
 refine sk fun _ k26 => ?_
 cases hg27 : (decide (a1 = a2))
 ·
  have q28 : ¬ (a1 = a2) := of_decide_eq_false hg27
  refine Z13 ?_; refine lF ?_; refine lc ?_; refine lF ?_; refine lc ?_
  refine cM 8 fun Lk hLk => ?_
  refine vB (v := .bool false) (hr := fun W => (run_eqlN a1 a2 _ _ W).trans (by rw [hg27])) ?_
  refine vM ?_; refine vS ?_; refine vS ?_; refine vS ?_; refine vS ?_; refine vS ?_; refine vK ?_
  refine hLk _ fun w30 M => ?_
  refine lg ?_; refine lZ k26 ?_; refine cF ?_
  refine sk fun _ k31 => ?_
  cases hg32 : (decide (a2 < a1))
  ·
   have q33 : ¬ (a2 < a1) := of_decide_eq_false hg32
   refine Z13 ?_; refine lF ?_; refine lc ?_; refine lF ?_; refine lc ?_
   refine cM 8 fun Lk hLk => ?_
   refine vB (v := .bool false) (hr := fun W => (run_lssN a2 a1 _ _ W).trans (by rw [hg32])) ?_
   refine vM ?_; refine vF ?_; refine vc ?_; refine vF ?_; refine vc ?_
   refine vB (v := .bool (decide (b2 < b1))) (hr := run_lssN b2 b1 _ _) ?_
   refine vK ?_
   refine hLk _ fun w35 M => ?_
   refine lg ?_; refine lZ k31 ?_
   cases hc36 : (decide (b2 < b1))
   ·
    have q37 : ¬ (b2 < b1) := of_decide_eq_false hc36
    refine cF ?_; refine sZ k22 ?_
    refine sk fun _ k38 => ?_
    have hfv : gv = folV a1 a2 rr1 rr2 (st.take (min st.length 20)) := by rw [hgv]; unfold goesV; first | (simp [q28, q33, q37]; done) | (simp [q28, q33, q37]; omega)
    refine Z13 ?_
    refine cM 15 fun Lk hLk => ?_
    refine vCh (fun W hW => (alive10_c ((M.sees hW).oldL L1) ((M.sees hW).oldR R1_0 L1) ((M.sees hW).oldL L2) ((M.sees hW).oldR R2_0 L2))) ?_
    refine vM ?_; refine vM ?_; refine vF ?_; refine vc ?_; refine vF ?_; refine vc ?_; refine vF ?_; refine vc ?_; refine vF ?_; refine vc ?_
    refine vM ?_
    refine vCh (v := .int .i64 gv) (args := #[.int .i64 a1, .int .i64 a2, .string (bs rr1), .string (bs rr2), .slice (some ⟨g17, 0, none⟩) (min st.length 20) g17c]) (fun W hW => (by have h9 := Follows_v (st := st.take (min st.length 20)) (old := rr1) (root := rr2) (m := a1) (n := a2) (w := W) hq9 ha2 hr1 hr2 (by omega) ((M.sees hW).oldL L1) ((M.sees hW).oldR R1_0 L1) (RowA.of ((M.sees hW).r 0 0 rfl rfl) ((M.sees hW).lt 0 rfl) (by rw [scells_len, List.length_take]; omega) Cg17); rw [← hfv] at h9; exact h9)) ?_
    refine vB (v := .bool true) (hr := fun W => (run_eql _ _ _ _ W).trans (by rw [(beq_self_eq_true gv)])) ?_
    refine vK ?_
    refine hLk _ fun w40 M => ?_
    refine lg ?_; refine lZ k38 ?_; refine rt1 ?_
    exact ⟨rfl, M.below⟩
   have q41 : (b2 < b1) := of_decide_eq_true hc36
   refine cT ?_
   refine qS fun _ k42 => ?_
   refine cM 5 fun Lk hLk => ?_
   refine vCh (fun W hW => (alive10_c ((M.sees hW).oldL L1) ((M.sees hW).oldR R1_0 L1) ((M.sees hW).oldL L2) ((M.sees hW).oldR R2_0 L2))) ?_
   refine vM ?_; refine vM ?_
   refine vB (v := .bool true) (hr := fun W => (run_eql _ _ _ _ W).trans (by rw [(show (gv == 14) = true from by rw [hgv]; unfold goesV; first | (simp [q28, q33, q41]; done) | (simp [q28, q33, q41]; omega))])) ?_
   refine vK ?_
   refine hLk _ fun w44 M => ?_
   refine lg ?_; refine lZ k42 ?_; refine rt1 ?_
   exact ⟨rfl, M.below⟩
  have q45 : (a2 < a1) := of_decide_eq_true hg32
  refine Z13 ?_; refine lF ?_; refine lc ?_; refine lF ?_; refine lc ?_
  refine cM 8 fun Lk hLk => ?_
  refine vB (v := .bool true) (hr := fun W => (run_lssN a2 a1 _ _ W).trans (by rw [hg32])) ?_
  refine vM ?_; refine vS ?_; refine vS ?_; refine vS ?_; refine vS ?_; refine vS ?_; refine vK ?_
  refine hLk _ fun w47 M => ?_
  refine lg ?_; refine lZ k31 ?_; refine cT ?_
  refine qS fun _ k48 => ?_
  refine cM 5 fun Lk hLk => ?_
  refine vCh (fun W hW => (alive10_c ((M.sees hW).oldL L1) ((M.sees hW).oldR R1_0 L1) ((M.sees hW).oldL L2) ((M.sees hW).oldR R2_0 L2))) ?_
  refine vM ?_; refine vM ?_
  refine vB (v := .bool true) (hr := fun W => (run_eql _ _ _ _ W).trans (by rw [(show (gv == 14) = true from by rw [hgv]; unfold goesV; first | (simp [q28, q45]; done) | (simp [q28, q45]; omega))])) ?_
  refine vK ?_
  refine hLk _ fun w50 M => ?_
  refine lg ?_; refine lZ k48 ?_; refine rt1 ?_
  exact ⟨rfl, M.below⟩
 have q51 : (a1 = a2) := of_decide_eq_true hg27
 refine Z13 ?_; refine lF ?_; refine lc ?_; refine lF ?_; refine lc ?_
 refine cM 8 fun Lk hLk => ?_
 refine vB (v := .bool true) (hr := fun W => (run_eqlN a1 a2 _ _ W).trans (by rw [hg27])) ?_
 refine vM ?_; refine vF ?_; refine vc ?_; refine vF ?_; refine vc ?_
 refine wpV_binS (v := .bool (decide (rr1 ≠ rr2))) (by rfl) rfl rfl rfl (run_neq_bs _ _ _) ?_
 simp only [Z0, Z6]
 refine vK ?_
 refine hLk _ fun w53 M => ?_
 refine lg ?_; refine lZ k26 ?_
 cases hc54 : (decide (rr1 ≠ rr2))
 ·
  have q55 : ¬ (rr1 ≠ rr2) := of_decide_eq_false hc54
  refine cF ?_
  refine sk fun _ k56 => ?_
  cases hg57 : (decide (a2 < a1))
  ·
   have q58 : ¬ (a2 < a1) := of_decide_eq_false hg57
   refine Z13 ?_; refine lF ?_; refine lc ?_; refine lF ?_; refine lc ?_
   refine cM 8 fun Lk hLk => ?_
   refine vB (v := .bool false) (hr := fun W => (run_lssN a2 a1 _ _ W).trans (by rw [hg57])) ?_
   refine vM ?_; refine vF ?_; refine vc ?_; refine vF ?_; refine vc ?_
   refine vB (v := .bool (decide (b2 < b1))) (hr := run_lssN b2 b1 _ _) ?_
   refine vK ?_
   refine hLk _ fun w60 M => ?_
   refine lg ?_; refine lZ k56 ?_
   cases hc61 : (decide (b2 < b1))
   ·
    have q62 : ¬ (b2 < b1) := of_decide_eq_false hc61
    refine cF ?_; refine sZ k22 ?_
    refine sk fun _ k63 => ?_
    have hfv : gv = folV a1 a2 rr1 rr2 (st.take (min st.length 20)) := by rw [hgv]; unfold goesV; first | (simp [q51, q55, q58, q62]; done) | (simp [q51, q55, q58, q62]; omega)
    refine Z13 ?_
    refine cM 15 fun Lk hLk => ?_
    refine vCh (fun W hW => (alive10_c ((M.sees hW).oldL L1) ((M.sees hW).oldR R1_0 L1) ((M.sees hW).oldL L2) ((M.sees hW).oldR R2_0 L2))) ?_
    refine vM ?_; refine vM ?_; refine vF ?_; refine vc ?_; refine vF ?_; refine vc ?_; refine vF ?_; refine vc ?_; refine vF ?_; refine vc ?_
    refine vM ?_
    refine vCh (v := .int .i64 gv) (args := #[.int .i64 a1, .int .i64 a2, .string (bs rr1), .string (bs rr2), .slice (some ⟨g17, 0, none⟩) (min st.length 20) g17c]) (fun W hW => (by have h9 := Follows_v (st := st.take (min st.length 20)) (old := rr1) (root := rr2) (m := a1) (n := a2) (w := W) hq9 ha2 hr1 hr2 (by omega) ((M.sees hW).oldL L1) ((M.sees hW).oldR R1_0 L1) (RowA.of ((M.sees hW).r 0 0 rfl rfl) ((M.sees hW).lt 0 rfl) (by rw [scells_len, List.length_take]; omega) Cg17); rw [← hfv] at h9; exact h9)) ?_
    refine vB (v := .bool true) (hr := fun W => (run_eql _ _ _ _ W).trans (by rw [(beq_self_eq_true gv)])) ?_
    refine vK ?_
    refine hLk _ fun w65 M => ?_
    refine lg ?_; refine lZ k63 ?_; refine rt1 ?_
    exact ⟨rfl, M.below⟩
   have q66 : (b2 < b1) := of_decide_eq_true hc61
   refine cT ?_
   refine qS fun _ k67 => ?_
   refine cM 5 fun Lk hLk => ?_
   refine vCh (fun W hW => (alive10_c ((M.sees hW).oldL L1) ((M.sees hW).oldR R1_0 L1) ((M.sees hW).oldL L2) ((M.sees hW).oldR R2_0 L2))) ?_
   refine vM ?_; refine vM ?_
   refine vB (v := .bool true) (hr := fun W => (run_eql _ _ _ _ W).trans (by rw [(show (gv == 14) = true from by rw [hgv]; unfold goesV; first | (simp [q51, q55, q58, q66]; done) | (simp [q51, q55, q58, q66]; omega))])) ?_
   refine vK ?_
   refine hLk _ fun w69 M => ?_
   refine lg ?_; refine lZ k67 ?_; refine rt1 ?_
   exact ⟨rfl, M.below⟩
  have q70 : (a2 < a1) := of_decide_eq_true hg57
  refine Z13 ?_; refine lF ?_; refine lc ?_; refine lF ?_; refine lc ?_
  refine cM 8 fun Lk hLk => ?_
  refine vB (v := .bool true) (hr := fun W => (run_lssN a2 a1 _ _ W).trans (by rw [hg57])) ?_
  refine vM ?_; refine vS ?_; refine vS ?_; refine vS ?_; refine vS ?_; refine vS ?_; refine vK ?_
  refine hLk _ fun w72 M => ?_
  refine lg ?_; refine lZ k56 ?_; refine cT ?_
  refine qS fun _ k73 => ?_
  refine cM 5 fun Lk hLk => ?_
  refine vCh (fun W hW => (alive10_c ((M.sees hW).oldL L1) ((M.sees hW).oldR R1_0 L1) ((M.sees hW).oldL L2) ((M.sees hW).oldR R2_0 L2))) ?_
  refine vM ?_; refine vM ?_
  refine vB (v := .bool true) (hr := fun W => (run_eql _ _ _ _ W).trans (by rw [(show (gv == 14) = true from by rw [hgv]; unfold goesV; first | (simp [q51, q55, q70]; done) | (simp [q51, q55, q70]; omega))])) ?_
  refine vK ?_
  refine hLk _ fun w75 M => ?_
  refine lg ?_; refine lZ k73 ?_; refine rt1 ?_
  exact ⟨rfl, M.below⟩
 have q76 : (rr1 ≠ rr2) := of_decide_eq_true hc54
 refine cT ?_
 refine qS fun _ k77 => ?_
 refine cM 5 fun Lk hLk => ?_
 refine vCh (fun W hW => (alive10_c ((M.sees hW).oldL L1) ((M.sees hW).oldR R1_0 L1) ((M.sees hW).oldL L2) ((M.sees hW).oldR R2_0 L2))) ?_
 refine vM ?_; refine vM ?_
 refine vB (v := .bool true) (hr := fun W => (run_eql _ _ _ _ W).trans (by rw [(show (gv == 38) = true from by rw [hgv]; unfold goesV; first | (simp [q51, q76]; done) | (simp [q51, q76]; omega))])) ?_
 refine vK ?_
 refine hLk _ fun w79 M => ?_
 refine lg ?_; refine lZ k77 ?_; refine rt1 ?_
 exact ⟨rfl, M.below⟩
set_option maxHeartbeats 4000000 in
theorem goes_no1 {z1 t1 z2 t2 : Int} {r1 g1 r2 g2 rr1 gg1 rr2 gg2 : List UInt8} {st : List (List UInt8)} {ap : Option Addr} {np cp : Nat} {w : World} (hrr1 : rr1 = cut r1 40) (hgg1 : gg1 = cut g1 70) (hrr2 : rr2 = cut r2 40) (hgg2 : gg2 = cut g2 70) (h01 : rightH z1 rr1 t1 gg1 = false) (L1 : 1 < w.heap.size) (R1_0 : w.rangeAt 1 0 kcells) (L2 : 2 < w.heap.size) (R2_0 : w.rangeAt 2 0 kcellsq) (Hp : RowA w ap np cp (scells st)) :
  Calls Tryd.prog 12 #[.agg ([.int .i64 z1, .string (bs r1), .int .i64 t1, .string (bs g1)]).toArray, .agg ([.int .i64 z2, .string (bs r2), .int .i64 t2, .string (bs g2)]).toArray, .slice ap np cp] w fun e w' => e = .returned (.bool true) ∧ Below w.heap.size w w' := by
 obtain rfl : np = st.length := by have := Hp.len; rwa [scells_len] at this
 have hq9 : (st.take (min st.length 20)).length ≤ 4611686018427387904 := by rw [List.length_take]; omega
 go_enter G912, T912
 have M := Mem.start w
 refine qS fun _ k1 => ?_
 refine nVs (segs := [(0, [.int .i64 z1]), (1, [.string (bs r1)]), (2, [.int .i64 t1]), (3, [.string (bs g1)])]) 4 fun g3 w4 M => ?_
 refine nVs (segs := [(0, [.int .i64 z2]), (1, [.string (bs r2)]), (2, [.int .i64 t2]), (3, [.string (bs g2)])]) 4 fun g5 w6 M => ?_
 refine lg ?_; refine lZ k1 ?_
 refine sk fun _ k7 => ?_
 refine rG 4 [] fun Lk hLk => ?_
 refine vP (pvLf (cs := [.int .i64 z1] ++ [.string (bs r1)] ++ [.int .i64 t1] ++ [.string (bs g1)]) (range_join (range_join (range_join (M.r 1 0 rfl rfl) (M.r 1 1 rfl rfl) (by simp [flen])) (M.r 1 2 rfl rfl) (by simp [flen])) (M.r 1 3 rfl rfl) (by simp [flen])) (M.lt 1 rfl)) ?_
 refine vC (v := .agg ([.int .i64 z1, .string (bs rr1), .int .i64 t1, .string (bs gg1)]).toArray) (args := #[.agg ([.int .i64 z1] ++ [.string (bs r1)] ++ [.int .i64 t1] ++ [.string (bs g1)] : List Value).toArray]) (fun W => (by have h9 := few10_c (z := z1) (r := r1) (t := t1) (g := g1) (w := W); rw [← hrr1, ← hgg1] at h9; exact h9)) ?_
 refine vP (pvLf (cs := [.int .i64 z2] ++ [.string (bs r2)] ++ [.int .i64 t2] ++ [.string (bs g2)]) (range_join (range_join (range_join (M.r 0 0 rfl rfl) (M.r 0 1 rfl rfl) (by simp [flen])) (M.r 0 2 rfl rfl) (by simp [flen])) (M.r 0 3 rfl rfl) (by simp [flen])) (M.lt 0 rfl)) ?_
 refine vC (v := .agg ([.int .i64 z2, .string (bs rr2), .int .i64 t2, .string (bs gg2)]).toArray) (args := #[.agg ([.int .i64 z2] ++ [.string (bs r2)] ++ [.int .i64 t2] ++ [.string (bs g2)] : List Value).toArray]) (fun W => (by have h9 := few10_c (z := z2) (r := r2) (t := t2) (g := g2) (w := W); rw [← hrr2, ← hgg2] at h9; exact h9)) ?_
 refine hLk _ fun w9 M => ?_
 refine sTs (segs' := [(0, [.int .i64 z1]), (1, [.string (bs rr1)]), (2, [.int .i64 t1]), (3, [.string (bs gg1)])]) 1 fun w10 M => ?_
 refine sTs (segs' := [(0, [.int .i64 z2]), (1, [.string (bs rr2)]), (2, [.int .i64 t2]), (3, [.string (bs gg2)])]) 0 fun w11 M => ?_
 refine lZ k7 ?_
 refine qS fun _ k12 => ?_
 refine wpL_row0 (by rfl) (by rfl) U937 info9 (fun g14 w15 Sw15 Hg14 Bg14 => ?_)
 replace M := ((M.sees Sw15).add (N := 0) (cs := scells []) (M.ge Hg14) (M.fresh Hg14) Bg14 rfl)
 clear Bg14
 simp only [Z0, Z6]
 refine lM ?_; refine lM ?_
 refine cM 3 fun Lk hLk => ?_
 refine wpV_lenA (n := st.length) (by rfl) rfl rfl rfl U937 ?_
 simp only [Z0, Z6]
 refine wpV_min (n := st.length) (m := 20) (by rfl) rfl rfl rfl ?_
 simp only [Z0, Z6]
 refine wpV_slcH (hi := min st.length 20) (by rfl) rfl rfl rfl U937 info9 (Z3 (by omega) (M.oldA Hp).cap) ?_
 simp only [Z0, Z6]
 refine hLk _ fun w16 M => ?_
 refine wpL_appendA (n := 0) (m := min st.length 20) (olds := scells []) (news := scells (st.take (min st.length 20))) (z := .string { data := #[] }) (bytes := 16) (by rfl) (by rfl) (by rfl) (by rfl) U937 (by kernel_rfl) rfl rfl (by rfl) (Nat.le_refl _) (M.r 0 0 rfl rfl) (M.t 0 rfl) (M.lt 0 rfl) (((M.oldA Hp).take (by omega)).eq (scells_take2 _ _)) (scells_one _) (by omega) (by simp only [maxLen]; omega) (fun g17 g17c w18 Sw18 Q Cg17 R T L => ?_)
 replace M := M.grow 0 rfl Sw18 Q R T L
 simp only [Z6] at M
 clear Q R T L
 rw [show scells [] ++ scells (st.take (min st.length 20)) = scells (st.take (min st.length 20)) from rfl] at M
 rw [Z2] at Cg17
 rw [Z2]
 simp only [Z0, Z6]
 refine lg ?_; refine lZ k12 ?_
 refine qS fun _ k19 => ?_
 refine cM 4 fun Lk hLk => ?_
 refine vP (pvLf (cs := [.int .i64 z1] ++ [.string (bs rr1)] ++ [.int .i64 t1] ++ [.string (bs gg1)]) (range_join (range_join (range_join (M.r 2 0 rfl rfl) (M.r 2 1 rfl rfl) (by simp [flen])) (M.r 2 2 rfl rfl) (by simp [flen])) (M.r 2 3 rfl rfl) (by simp [flen])) (M.lt 2 rfl)) ?_
 refine vP (pvLf (cs := [.int .i64 z2] ++ [.string (bs rr2)] ++ [.int .i64 t2] ++ [.string (bs gg2)]) (range_join (range_join (range_join (M.r 1 0 rfl rfl) (M.r 1 1 rfl rfl) (by simp [flen])) (M.r 1 2 rfl rfl) (by simp [flen])) (M.r 1 3 rfl rfl) (by simp [flen])) (M.lt 1 rfl)) ?_
 refine vM ?_
 refine vCh (v := .int .i64 1) (args := #[.agg ([.int .i64 z1] ++ [.string (bs rr1)] ++ [.int .i64 t1] ++ [.string (bs gg1)] : List Value).toArray, .agg ([.int .i64 z2] ++ [.string (bs rr2)] ++ [.int .i64 t2] ++ [.string (bs gg2)] : List Value).toArray, .slice (some ⟨g17, 0, none⟩) (min st.length 20) g17c]) (fun W hW => (by have h9 := Goes_no1 (st := st.take (min st.length 20)) (z1 := z1) (r1 := rr1) (t1 := t1) (g1 := gg1) (z2 := z2) (r2 := rr2) (t2 := t2) (g2 := gg2) (w := W) h01 (RowA.of ((M.sees hW).r 0 0 rfl rfl) ((M.sees hW).lt 0 rfl) (by rw [scells_len, List.length_take]; omega) Cg17); exact h9)) ?_
 refine hLk _ fun w21 M => ?_
 refine lg ?_; refine lZ k19 ?_
 refine sk fun _ _ => ?_
 refine wp_block ?_
 refine qS fun _ k23 => ?_
 refine cM 8 fun Lk hLk => ?_
 refine vP (pvLf (cs := [.int .i64 z1] ++ [.string (bs rr1)] ++ [.int .i64 t1] ++ [.string (bs gg1)]) (range_join (range_join (range_join (M.r 2 0 rfl rfl) (M.r 2 1 rfl rfl) (by simp [flen])) (M.r 2 2 rfl rfl) (by simp [flen])) (M.r 2 3 rfl rfl) (by simp [flen])) (M.lt 2 rfl)) ?_
 refine vC (v := .bool false) (args := #[.agg ([.int .i64 z1] ++ [.string (bs rr1)] ++ [.int .i64 t1] ++ [.string (bs gg1)] : List Value).toArray]) (fun W => (by have h9 := rhright_c (z := z1) (r := rr1) (t := t1) (g := gg1) (w := W); rw [h01] at h9; exact h9)) ?_
 refine vu ?_; refine vM ?_; refine vS ?_; refine vS ?_; refine vS ?_; refine vK ?_
 refine hLk _ fun w25 M => ?_
 refine lg ?_; refine lZ k23 ?_; refine cT ?_
 refine qS fun _ k26 => ?_
 refine cM 5 fun Lk hLk => ?_
 refine vCh (fun W hW => (alive10_c ((M.sees hW).oldL L1) ((M.sees hW).oldR R1_0 L1) ((M.sees hW).oldL L2) ((M.sees hW).oldR R2_0 L2))) ?_
 refine vM ?_; refine vM ?_
 refine vB (v := .bool true) (hr := run_eql _ _ _ _) ?_
 refine vK ?_
 refine hLk _ fun w28 M => ?_
 refine lg ?_; refine lZ k26 ?_; refine rt1 ?_
 exact ⟨rfl, M.below⟩
set_option maxHeartbeats 4000000 in
theorem goes_no2 {z1 t1 z2 t2 : Int} {r1 g1 r2 g2 rr1 gg1 rr2 gg2 : List UInt8} {st : List (List UInt8)} {ap : Option Addr} {np cp : Nat} {w : World} (hrr1 : rr1 = cut r1 40) (hgg1 : gg1 = cut g1 70) (hrr2 : rr2 = cut r2 40) (hgg2 : gg2 = cut g2 70) (h01 : rightH z1 rr1 t1 gg1 = true) (h02 : rightH z2 rr2 t2 gg2 = false) (L1 : 1 < w.heap.size) (R1_0 : w.rangeAt 1 0 kcells) (L2 : 2 < w.heap.size) (R2_0 : w.rangeAt 2 0 kcellsq) (Hp : RowA w ap np cp (scells st)) :
  Calls Tryd.prog 12 #[.agg ([.int .i64 z1, .string (bs r1), .int .i64 t1, .string (bs g1)]).toArray, .agg ([.int .i64 z2, .string (bs r2), .int .i64 t2, .string (bs g2)]).toArray, .slice ap np cp] w fun e w' => e = .returned (.bool true) ∧ Below w.heap.size w w' := by
 obtain rfl : np = st.length := by have := Hp.len; rwa [scells_len] at this
 have hq9 : (st.take (min st.length 20)).length ≤ 4611686018427387904 := by rw [List.length_take]; omega
 go_enter G912, T912
 have M := Mem.start w
 refine qS fun _ k1 => ?_
 refine nVs (segs := [(0, [.int .i64 z1]), (1, [.string (bs r1)]), (2, [.int .i64 t1]), (3, [.string (bs g1)])]) 4 fun g3 w4 M => ?_
 refine nVs (segs := [(0, [.int .i64 z2]), (1, [.string (bs r2)]), (2, [.int .i64 t2]), (3, [.string (bs g2)])]) 4 fun g5 w6 M => ?_
 refine lg ?_; refine lZ k1 ?_
 refine sk fun _ k7 => ?_
 refine rG 4 [] fun Lk hLk => ?_
 refine vP (pvLf (cs := [.int .i64 z1] ++ [.string (bs r1)] ++ [.int .i64 t1] ++ [.string (bs g1)]) (range_join (range_join (range_join (M.r 1 0 rfl rfl) (M.r 1 1 rfl rfl) (by simp [flen])) (M.r 1 2 rfl rfl) (by simp [flen])) (M.r 1 3 rfl rfl) (by simp [flen])) (M.lt 1 rfl)) ?_
 refine vC (v := .agg ([.int .i64 z1, .string (bs rr1), .int .i64 t1, .string (bs gg1)]).toArray) (args := #[.agg ([.int .i64 z1] ++ [.string (bs r1)] ++ [.int .i64 t1] ++ [.string (bs g1)] : List Value).toArray]) (fun W => (by have h9 := few10_c (z := z1) (r := r1) (t := t1) (g := g1) (w := W); rw [← hrr1, ← hgg1] at h9; exact h9)) ?_
 refine vP (pvLf (cs := [.int .i64 z2] ++ [.string (bs r2)] ++ [.int .i64 t2] ++ [.string (bs g2)]) (range_join (range_join (range_join (M.r 0 0 rfl rfl) (M.r 0 1 rfl rfl) (by simp [flen])) (M.r 0 2 rfl rfl) (by simp [flen])) (M.r 0 3 rfl rfl) (by simp [flen])) (M.lt 0 rfl)) ?_
 refine vC (v := .agg ([.int .i64 z2, .string (bs rr2), .int .i64 t2, .string (bs gg2)]).toArray) (args := #[.agg ([.int .i64 z2] ++ [.string (bs r2)] ++ [.int .i64 t2] ++ [.string (bs g2)] : List Value).toArray]) (fun W => (by have h9 := few10_c (z := z2) (r := r2) (t := t2) (g := g2) (w := W); rw [← hrr2, ← hgg2] at h9; exact h9)) ?_
 refine hLk _ fun w9 M => ?_
 refine sTs (segs' := [(0, [.int .i64 z1]), (1, [.string (bs rr1)]), (2, [.int .i64 t1]), (3, [.string (bs gg1)])]) 1 fun w10 M => ?_
 refine sTs (segs' := [(0, [.int .i64 z2]), (1, [.string (bs rr2)]), (2, [.int .i64 t2]), (3, [.string (bs gg2)])]) 0 fun w11 M => ?_
 refine lZ k7 ?_
 refine qS fun _ k12 => ?_
 refine wpL_row0 (by rfl) (by rfl) U937 info9 (fun g14 w15 Sw15 Hg14 Bg14 => ?_)
 replace M := ((M.sees Sw15).add (N := 0) (cs := scells []) (M.ge Hg14) (M.fresh Hg14) Bg14 rfl)
 clear Bg14
 simp only [Z0, Z6]
 refine lM ?_; refine lM ?_
 refine cM 3 fun Lk hLk => ?_
 refine wpV_lenA (n := st.length) (by rfl) rfl rfl rfl U937 ?_
 simp only [Z0, Z6]
 refine wpV_min (n := st.length) (m := 20) (by rfl) rfl rfl rfl ?_
 simp only [Z0, Z6]
 refine wpV_slcH (hi := min st.length 20) (by rfl) rfl rfl rfl U937 info9 (Z3 (by omega) (M.oldA Hp).cap) ?_
 simp only [Z0, Z6]
 refine hLk _ fun w16 M => ?_
 refine wpL_appendA (n := 0) (m := min st.length 20) (olds := scells []) (news := scells (st.take (min st.length 20))) (z := .string { data := #[] }) (bytes := 16) (by rfl) (by rfl) (by rfl) (by rfl) U937 (by kernel_rfl) rfl rfl (by rfl) (Nat.le_refl _) (M.r 0 0 rfl rfl) (M.t 0 rfl) (M.lt 0 rfl) (((M.oldA Hp).take (by omega)).eq (scells_take2 _ _)) (scells_one _) (by omega) (by simp only [maxLen]; omega) (fun g17 g17c w18 Sw18 Q Cg17 R T L => ?_)
 replace M := M.grow 0 rfl Sw18 Q R T L
 simp only [Z6] at M
 clear Q R T L
 rw [show scells [] ++ scells (st.take (min st.length 20)) = scells (st.take (min st.length 20)) from rfl] at M
 rw [Z2] at Cg17
 rw [Z2]
 simp only [Z0, Z6]
 refine lg ?_; refine lZ k12 ?_
 refine qS fun _ k19 => ?_
 refine cM 4 fun Lk hLk => ?_
 refine vP (pvLf (cs := [.int .i64 z1] ++ [.string (bs rr1)] ++ [.int .i64 t1] ++ [.string (bs gg1)]) (range_join (range_join (range_join (M.r 2 0 rfl rfl) (M.r 2 1 rfl rfl) (by simp [flen])) (M.r 2 2 rfl rfl) (by simp [flen])) (M.r 2 3 rfl rfl) (by simp [flen])) (M.lt 2 rfl)) ?_
 refine vP (pvLf (cs := [.int .i64 z2] ++ [.string (bs rr2)] ++ [.int .i64 t2] ++ [.string (bs gg2)]) (range_join (range_join (range_join (M.r 1 0 rfl rfl) (M.r 1 1 rfl rfl) (by simp [flen])) (M.r 1 2 rfl rfl) (by simp [flen])) (M.r 1 3 rfl rfl) (by simp [flen])) (M.lt 1 rfl)) ?_
 refine vM ?_
 refine vCh (v := .int .i64 1) (args := #[.agg ([.int .i64 z1] ++ [.string (bs rr1)] ++ [.int .i64 t1] ++ [.string (bs gg1)] : List Value).toArray, .agg ([.int .i64 z2] ++ [.string (bs rr2)] ++ [.int .i64 t2] ++ [.string (bs gg2)] : List Value).toArray, .slice (some ⟨g17, 0, none⟩) (min st.length 20) g17c]) (fun W hW => (by have h9 := Goes_no2 (st := st.take (min st.length 20)) (z1 := z1) (r1 := rr1) (t1 := t1) (g1 := gg1) (z2 := z2) (r2 := rr2) (t2 := t2) (g2 := gg2) (w := W) h01 h02 (RowA.of ((M.sees hW).r 0 0 rfl rfl) ((M.sees hW).lt 0 rfl) (by rw [scells_len, List.length_take]; omega) Cg17); exact h9)) ?_
 refine hLk _ fun w21 M => ?_
 refine lg ?_; refine lZ k19 ?_
 refine sk fun _ _ => ?_
 refine wp_block ?_
 refine qS fun _ k23 => ?_
 refine cM 8 fun Lk hLk => ?_
 refine vP (pvLf (cs := [.int .i64 z1] ++ [.string (bs rr1)] ++ [.int .i64 t1] ++ [.string (bs gg1)]) (range_join (range_join (range_join (M.r 2 0 rfl rfl) (M.r 2 1 rfl rfl) (by simp [flen])) (M.r 2 2 rfl rfl) (by simp [flen])) (M.r 2 3 rfl rfl) (by simp [flen])) (M.lt 2 rfl)) ?_
 refine vC (v := .bool true) (args := #[.agg ([.int .i64 z1] ++ [.string (bs rr1)] ++ [.int .i64 t1] ++ [.string (bs gg1)] : List Value).toArray]) (fun W => (by have h9 := rhright_c (z := z1) (r := rr1) (t := t1) (g := gg1) (w := W); rw [h01] at h9; exact h9)) ?_
 refine vt ?_; refine vM ?_
 refine vP (pvLf (cs := [.int .i64 z2] ++ [.string (bs rr2)] ++ [.int .i64 t2] ++ [.string (bs gg2)]) (range_join (range_join (range_join (M.r 1 0 rfl rfl) (M.r 1 1 rfl rfl) (by simp [flen])) (M.r 1 2 rfl rfl) (by simp [flen])) (M.r 1 3 rfl rfl) (by simp [flen])) (M.lt 1 rfl)) ?_
 refine vC (v := .bool false) (args := #[.agg ([.int .i64 z2] ++ [.string (bs rr2)] ++ [.int .i64 t2] ++ [.string (bs gg2)] : List Value).toArray]) (fun W => (by have h9 := rhright_c (z := z2) (r := rr2) (t := t2) (g := gg2) (w := W); rw [h02] at h9; exact h9)) ?_
 refine vu ?_; refine vK ?_
 refine hLk _ fun w25 M => ?_
 refine lg ?_; refine lZ k23 ?_; refine cT ?_
 refine qS fun _ k26 => ?_
 refine cM 5 fun Lk hLk => ?_
 refine vCh (fun W hW => (alive10_c ((M.sees hW).oldL L1) ((M.sees hW).oldR R1_0 L1) ((M.sees hW).oldL L2) ((M.sees hW).oldR R2_0 L2))) ?_
 refine vM ?_; refine vM ?_
 refine vB (v := .bool true) (hr := run_eql _ _ _ _) ?_
 refine vK ?_
 refine hLk _ fun w28 M => ?_
 refine lg ?_; refine lZ k26 ?_; refine rt1 ?_
 exact ⟨rfl, M.below⟩
end Go.Proofs.Yc

namespace Go.Proofs.Yc
open Go Go.RowKit Go.Proofs.Num

attribute [local irreducible] wpV wpN wpList
open Go.Proofs.Ya
theorem hgoes_c {z1 t1 z2 t2 : Int} {r1 g1 r2 g2 : List UInt8} {vls : Value} {ls : List (List UInt8)} {w : World} (L1 : 1 < w.heap.size) (R1_0 : w.rangeAt 1 0 kcells) (L2 : 2 < w.heap.size) (R2_0 : w.rangeAt 2 0 kcellsq) (hv : RowS w vls ls) :
  Calls Tryd.prog 12 #[.agg ([.int .i64 z1, .string (bs r1), .int .i64 t1, .string (bs g1)]).toArray, .agg ([.int .i64 z2, .string (bs r2), .int .i64 t2, .string (bs g2)]).toArray, vls] w fun e w' => e = .returned (.bool true) ∧ Below w.heap.size w w' := by
 obtain ⟨a, c, rfl, Hp⟩ := hv.open
 cases h1 : rightH z1 (cut r1 40) t1 (cut g1 70)
 ·
  exact goes_no1 rfl rfl rfl rfl h1 L1 R1_0 L2 R2_0 Hp
 cases h2 : rightH z2 (cut r2 40) t2 (cut g2 70)
 ·
  exact goes_no2 rfl rfl rfl rfl h1 h2 L1 R1_0 L2 R2_0 Hp
 obtain ⟨a1, b1, rfl, rfl, ha1, hb1, hr1, hg1⟩ := rightH_parts h1
 obtain ⟨a2, b2, rfl, rfl, ha2, hb2, hr2, hg2⟩ := rightH_parts h2
 exact goes_ok rfl rfl rfl rfl ha1 hb1 hr1 hg1 ha2 hb2 hr2 hg2 L1 R1_0 L2 R2_0 Hp
end Go.Proofs.Yc

