import Derived.WalkKit
import Derived.WalkSpells
import Derived.Laws.Pointers
import Derived.RowKit3
import Derived.Below
import Derived.Outline
import Derived.LoopN
import Derived.Lib.Hide
import Derived.Handy
import Derived.Laws.Bits64b
import Derived.Test.YtpgpjoldelobdaaDoorSh4
import Derived.Test.YtpgpjoldelobdaaDoorF3
import Derived.Test.YtpgpjoldelobdaaDoorSteps7
import Derived.Test.YtpgpjoldelobdaaDoorAdds2
import Derived.Test.YtpgpjoldelobdaaDoorSq4
import Derived.Lib.Bytealg
import Derived.Test.YtpgpjoldelobdaaDoorSteps13
import Derived.Test.YtpgpjoldelobdaaDoorEdB
import Derived.Test.YtpgpjoldelobdaaDoorEqS
import Derived.Test.YtpgpjoldelobdaaDoorShq
import Derived.Test.YtpgpjoldelobdaaDoorHeadA
import Derived.Test.YtpgpjoldelobdaaDoorOcC
set_option linter.unusedSimpArgs false
set_option linter.unusedVariables false
namespace Go.Proofs.Yc
open Go Go.RowKit Go.Proofs.Num
open Tryd renaming underlying29 → U929, underlying3 → U93, underlying33 → U933, underlying37 → U937, underlying40 → U940, underlying9 → U99
open Go.Proofs.Num  renaming putT → Z0
open Nat renaming mod_eq_of_lt → Z5
open List renaming set → Z6, take → Z7, drop → Z8
open Go renaming undef → Z9
open Go.Proofs.Num renaming wpL_nil → Z14, no_panic → Z15, wpV_nil → Z19, then_normal → Z22
attribute [local irreducible] wpV wpN wpList
open Go.Proofs.Ya
def seedL : List UInt8 := [48, 49, 50, 51, 52, 53, 54, 55, 56, 57, 97, 98, 99, 100, 101, 102, 48, 49, 50, 51, 52, 53, 54, 55, 56, 57, 97, 98, 99, 100, 101, 102]
theorem aF {P : Program} {Q : Exit → Act → World → Prop} {l : List Oper} {fuel : Nat} {listed : Array Bool} {a : Act} {w : World} (i : Nat) {o : Oper} {v : Value} (h : wpAny P .any l.toArray (NoPanic Q) fuel (listed.setIfInBounds i true) (a.put o.dst v) w) (hi : l[i]? = some o := by rfl) (hB : firstB l.toArray listed i = true := by kernel_rfl) (hg : o.guard = none := by rfl) (hv : ∀ W, RunsVal ((execOp a.eval o).run P W) v W) : wpAny P .any l.toArray (NoPanic Q) (fuel + 1) listed a w := any_first i hi hB nopanic_not hg hv h
set_option maxHeartbeats 2000000 in
theorem signed_c {a b : Nat} {r g : List UInt8} {w : World} (ha : a ≤ 4096) (hb : b ≤ 1099511627776) (hr : r.length = 32) :
  Calls Tryd.prog 60 #[.agg ([.int .i64 a, .string (bs r), .int .i64 b, .string (bs g)]).toArray] w fun e w' => e = .returned (.string (bs (sgnL a b r))) ∧ Below w.heap.size w w' := by
 go_enter Tryd.func60, Tryd.ntmps60
 have M := Mem.start w
 refine qS fun _ k1 => ?_
 refine nVs (segs := [(0, [.int .i64 a]), (1, [.string (bs r)]), (2, [.int .i64 b]), (3, [.string (bs g)])]) 4 fun g3 w4 M => ?_
 refine lg ?_; refine lZ k1 ?_
 refine qS fun _ k5 => ?_
 refine lF ?_; refine lc ?_
 refine cM 5 fun Lk hLk => ?_
 refine wpV_conv (d := .bool) (e := ((a : Nat) : Int)) (by rfl) rfl rfl (run_conv_int U93 U940 ((wrap64N _).trans (congrArg _ (Z5 (by omega))))) ?_
 simp only [Z0, Z6]
 refine vC (v := .tuple #[.string (bs (beL 8 a)), .int .i64 0]) (fun W => big8_c (n := a) (by omega)) ?_
 refine vM ?_; refine vE ?_; refine vE ?_
 refine hLk _ fun w7 M => ?_
 refine lg ?_; refine lg ?_; refine lZ k5 ?_
 refine qS fun _ k8 => ?_
 refine lF ?_; refine lc ?_
 refine cM 5 fun Lk hLk => ?_
 refine wpV_conv (d := .bool) (e := ((b : Nat) : Int)) (by rfl) rfl rfl (run_conv_int U93 U940 ((wrap64N _).trans (congrArg _ (Z5 (by omega))))) ?_
 simp only [Z0, Z6]
 refine vC (v := .tuple #[.string (bs (beL 8 b)), .int .i64 0]) (fun W => big8_c (n := b) (by omega)) ?_
 refine vM ?_; refine vE ?_; refine vE ?_
 refine hLk _ fun w10 M => ?_
 refine lg ?_; refine lg ?_; refine lZ k8 ?_
 refine qS fun _ k11 => ?_
 refine lM ?_; refine lM ?_; refine lF ?_; refine lc ?_
 refine wpL_rowN (vs := [.string (bs headL), .string (bs (beL 8 a)), .string (bs (beL 8 b)), .string (bs r)]) (z := .string { data := #[] }) (bytes := 16) (by rfl) (by rfl) U937 (by kernel_rfl) (by decide) (by kernel_rfl) (fun g14 w15 Sw15 Hg14 Bg14 => ?_)
 replace M := ((M.sees Sw15).add (N := 4) (cs := [.string (bs headL), .string (bs (beL 8 a)), .string (bs (beL 8 b)), .string (bs r)]) (M.ge Hg14) (M.fresh Hg14) Bg14 rfl)
 clear Bg14
 simp only [Z0, Z6]
 refine cM 4 fun Lk hLk => ?_
 refine vCh (v := .tuple #[.string (bs (sgnL a b r)), .int .i64 0]) (args := #[.slice (some ⟨g14, 0, none⟩) 4 4]) (fun W hW => (by have h9 := pack_c (ps := [headL, beL 8 a, beL 8 b, r]) (w := W) (by simp) (by rw [packN_sgn a b hr]; decide) (Nat.le_refl _) ((M.sees hW).lt 0 rfl) ((M.sees hW).r 0 0 rfl rfl); exact h9)) ?_
 refine vM ?_; refine vE ?_; refine vE ?_
 refine hLk _ fun w16 M => ?_
 refine lg ?_; refine lg ?_; refine lZ k11 ?_
 refine qS fun _ k17 => ?_
 refine lM ?_; refine lg ?_; refine lZ k17 ?_; refine rt1 ?_
 exact ⟨rfl, M.below⟩
set_option maxHeartbeats 2000000 in
theorem Print_ok {a b : Nat} {r g : List UInt8} {w : World} (ha : a ≤ 4096) (hb : b ≤ 1099511627776) (hr : r.length = 32) (hg : g.length = 64) :
  Calls Tryd.prog 21 #[.agg ([.int .i64 a, .string (bs r), .int .i64 b, .string (bs g)]).toArray] w fun e w' => e = .returned (.tuple #[.string (bs (texL a b r g)), .int .i64 0]) ∧ Below w.heap.size w w' := by
 go_enter Tryd.func21, Tryd.ntmps21
 have M := Mem.start w
 refine qS fun _ k1 => ?_
 refine nVs (segs := [(0, [.int .i64 a]), (1, [.string (bs r)]), (2, [.int .i64 b]), (3, [.string (bs g)])]) 4 fun g3 w4 M => ?_
 refine lg ?_; refine lg ?_; refine lZ k1 ?_
 refine sk fun _ k5 => ?_
 refine qS fun _ k6 => ?_
 refine cM 3 fun Lk hLk => ?_
 refine vP (pvLf (cs := [.int .i64 a] ++ [.string (bs r)] ++ [.int .i64 b] ++ [.string (bs g)]) (range_join (range_join (range_join (M.r 0 0 rfl rfl) (M.r 0 1 rfl rfl) (by simp [flen])) (M.r 0 2 rfl rfl) (by simp [flen])) (M.r 0 3 rfl rfl) (by simp [flen])) (M.lt 0 rfl)) ?_
 refine vC (v := .bool true) (args := #[.agg ([.int .i64 a] ++ [.string (bs r)] ++ [.int .i64 b] ++ [.string (bs g)] : List Value).toArray]) (fun W => (by have h9 := hright_c (z := ((a : Nat) : Int)) (r := r) (t := ((b : Nat) : Int)) (g := g) (w := W); rw [rightH_of ha hb hr hg] at h9; exact h9)) ?_
 refine vt ?_
 refine hLk _ fun w8 M => ?_
 refine lZ k6 ?_; refine cF ?_; refine sZ k5 ?_
 refine sk fun K9 k9 => ?_
 refine wp_region_addsF 8 [] [4] [ValRel (.agg ([.int .i64 a] ++ [.string (bs r)] ++ [.int .i64 b] ++ [.string (bs g)] : List Value).toArray), ValRel (.string (bs (sgnL a b r))), ValRel (.pointer (some ⟨g3, 3, none⟩)), ValRel (.string (bs g)), BoxRel w8 (fun gA => .slice (some ⟨gA, 0, none⟩) 2 2) 2 [(0, [.string (bs (sgnL a b r)), .string (bs g)])], ValRel (.tuple #[.string (bs (texL a b r g)), .int .i64 0]), ValRel (.string (bs (texL a b r g))), ValRel (.int .i64 0)] [[], [0], [], [2], [1, 3], [4], [5], [5]] (fun vs => { tmps := #[.agg ([.int .i64 a, .string (bs r), .int .i64 b, .string (bs g)]).toArray, .pointer (some ⟨g3, 0, none⟩), .string (bs ([])), .int .i64 0, .agg ([.int .i64 a] ++ [.string (bs r)] ++ [.int .i64 b] ++ [.string (bs g)] : List Value).toArray, .bool true, .bool false, vs 0, vs 1, vs 2, vs 3, vs 4, vs 5, vs 6, vs 7], defers := [] }) (by kernel_rfl) (by kernel_rfl) (by kernel_rfl) (by kernel_rfl) (.cons keep_val (.cons keep_val (.cons keep_val (.cons keep_val (.cons keep_box (.cons keep_val (.cons keep_val (.cons keep_val AllKeep.nil)))))))) (.free free_val (.free free_val (.free free_val (.free free_val (.free free_box (.free free_val (.free free_val (.free free_val AllLoc.nil)))))))) (.cons own_box AllOwn.nil) (by kernel_rfl) ?_ ?_
 ·
  simp only [Z7]
  refine RulesL.cons (fun vs => { tmps := #[.agg ([.int .i64 a, .string (bs r), .int .i64 b, .string (bs g)]).toArray, .pointer (some ⟨g3, 0, none⟩), .string (bs ([])), .int .i64 0, .agg ([.int .i64 a] ++ [.string (bs r)] ++ [.int .i64 b] ++ [.string (bs g)] : List Value).toArray, .bool true, .bool false, Z9, Z9, Z9, Z9, Z9, Z9, Z9, Z9], defers := [] }) (by kernel_rfl) ?_ ?_
  ·
   intro vs gs W12 SW12 D K9 k9
   replace M := M.sees SW12
   dsimp only at k9
   try dsimp only
   refine lCh 1 (fun Lk hLk => ?_)
   refine vP (pvLf (cs := [.int .i64 a] ++ [.string (bs r)] ++ [.int .i64 b] ++ [.string (bs g)]) (range_join (range_join (range_join (M.r 0 0 rfl rfl) (M.r 0 1 rfl rfl) (by simp [flen])) (M.r 0 2 rfl rfl) (by simp [flen])) (M.r 0 3 rfl rfl) (by simp [flen])) (M.lt 0 rfl)) ?_
   refine Z19 (hLk _ (fun w13 Sw13 => ?_))
   simp only [Z7, Z8]
   replace M := M.sees Sw13
   refine Z14 (Z22 ?_)
   have h8 := k9 (.agg ([.int .i64 a] ++ [.string (bs r)] ++ [.int .i64 b] ++ [.string (bs g)] : List Value).toArray)
   have h9 := h8 0 _ Sw13 rfl (fun h => absurd h (by decide))
   simp only [Z0, Z6] at h9
   exact h9
  refine RulesL.cons (fun vs => { tmps := #[.agg ([.int .i64 a, .string (bs r), .int .i64 b, .string (bs g)]).toArray, .pointer (some ⟨g3, 0, none⟩), .string (bs ([])), .int .i64 0, .agg ([.int .i64 a] ++ [.string (bs r)] ++ [.int .i64 b] ++ [.string (bs g)] : List Value).toArray, .bool true, .bool false, vs 0, Z9, Z9, Z9, Z9, Z9, Z9, Z9], defers := [] }) (by kernel_rfl) ?_ ?_
  ·
   intro vs gs W14 SW14 D K9 k9
   replace M := M.sees SW14
   obtain ⟨D0, _⟩ := D
   have e0 : vs 0 = .agg ([.int .i64 a] ++ [.string (bs r)] ++ [.int .i64 b] ++ [.string (bs g)] : List Value).toArray := D0
   dsimp only at k9
   try dsimp only
   rw [e0] at k9 ⊢
   refine lCh 1 (fun Lk hLk => ?_)
   refine vC (v := .string (bs (sgnL a b r))) (args := #[.agg ([.int .i64 a] ++ [.string (bs r)] ++ [.int .i64 b] ++ [.string (bs g)] : List Value).toArray]) (fun W => (by have h9 := signed_c (a := a) (b := b) (r := r) (g := g) (w := W) (by exact ha) (by exact hb) (by exact hr); exact h9)) ?_
   refine Z19 (hLk _ (fun w15 Sw15 => ?_))
   simp only [Z7, Z8]
   replace M := M.sees Sw15
   refine Z14 (Z22 ?_)
   have h8 := k9 (.string (bs (sgnL a b r)))
   have h9 := h8 0 _ Sw15 rfl (fun h => absurd h (by decide))
   simp only [Z0, Z6] at h9
   exact h9
  refine RulesL.cons (fun vs => { tmps := #[.agg ([.int .i64 a, .string (bs r), .int .i64 b, .string (bs g)]).toArray, .pointer (some ⟨g3, 0, none⟩), .string (bs ([])), .int .i64 0, .agg ([.int .i64 a] ++ [.string (bs r)] ++ [.int .i64 b] ++ [.string (bs g)] : List Value).toArray, .bool true, .bool false, Z9, Z9, Z9, Z9, Z9, Z9, Z9, Z9], defers := [] }) (by kernel_rfl) ?_ ?_
  ·
   intro vs gs W16 SW16 D K9 k9
   replace M := M.sees SW16
   dsimp only at k9
   try dsimp only
   refine lCh 1 (fun Lk hLk => ?_)
   refine vF ?_
   refine Z19 (hLk _ (fun w17 Sw17 => ?_))
   simp only [Z7, Z8]
   replace M := M.sees Sw17
   refine Z14 (Z22 ?_)
   have h8 := k9 (.pointer (some ⟨g3, 3, none⟩))
   have h9 := h8 0 _ Sw17 rfl (fun h => absurd h (by decide))
   simp only [Z0, Z6] at h9
   exact h9
  refine RulesL.cons (fun vs => { tmps := #[.agg ([.int .i64 a, .string (bs r), .int .i64 b, .string (bs g)]).toArray, .pointer (some ⟨g3, 0, none⟩), .string (bs ([])), .int .i64 0, .agg ([.int .i64 a] ++ [.string (bs r)] ++ [.int .i64 b] ++ [.string (bs g)] : List Value).toArray, .bool true, .bool false, Z9, Z9, vs 2, Z9, Z9, Z9, Z9, Z9], defers := [] }) (by kernel_rfl) ?_ ?_
  ·
   intro vs gs W18 SW18 D K9 k9
   replace M := M.sees SW18
   obtain ⟨D2, _⟩ := D
   have e2 : vs 2 = .pointer (some ⟨g3, 3, none⟩) := D2
   dsimp only at k9
   try dsimp only
   rw [e2] at k9 ⊢
   refine lCh 1 (fun Lk hLk => ?_)
   refine vc ?_
   refine Z19 (hLk _ (fun w19 Sw19 => ?_))
   simp only [Z7, Z8]
   replace M := M.sees Sw19
   refine Z14 (Z22 ?_)
   have h8 := k9 (.string (bs g))
   have h9 := h8 0 _ Sw19 rfl (fun h => absurd h (by decide))
   simp only [Z0, Z6] at h9
   exact h9
  refine RulesL.cons (fun vs => { tmps := #[.agg ([.int .i64 a, .string (bs r), .int .i64 b, .string (bs g)]).toArray, .pointer (some ⟨g3, 0, none⟩), .string (bs ([])), .int .i64 0, .agg ([.int .i64 a] ++ [.string (bs r)] ++ [.int .i64 b] ++ [.string (bs g)] : List Value).toArray, .bool true, .bool false, Z9, vs 1, Z9, vs 3, Z9, Z9, Z9, Z9], defers := [] }) (by kernel_rfl) ?_ ?_
  ·
   intro vs gs W20 SW20 D K9 k9
   replace M := M.sees SW20
   have Rg3_0 := M.r 0 0 rfl rfl
   have Rg3_1 := M.r 0 1 rfl rfl
   have Rg3_2 := M.r 0 2 rfl rfl
   have Rg3_3 := M.r 0 3 rfl rfl
   have Lg3 := M.lt 0 rfl
   have BB := M.below
   replace M := Mem.start W20
   obtain ⟨D1, D3, _⟩ := D
   have e1 : vs 1 = .string (bs (sgnL a b r)) := D1
   have e3 : vs 3 = .string (bs g) := D3
   dsimp only at k9
   try dsimp only
   rw [e1, e3] at k9 ⊢
   refine wpL_rowN (vs := [.string (bs (sgnL a b r)), .string (bs g)]) (z := .string { data := #[] }) (bytes := 16) (by rfl) (by rfl) U937 (by kernel_rfl) (by decide) (by kernel_rfl) (fun g21 w22 Sw22 Hg21 Bg21 => ?_)
   replace M := ((M.sees Sw22).add (N := 2) (cs := [.string (bs (sgnL a b r)), .string (bs g)]) (M.ge Hg21) (M.fresh Hg21) Bg21 rfl)
   clear Bg21
   simp only [Z0, Z6]
   refine Z14 (Z22 ?_)
   have h8 := k9 (.slice (some ⟨g21, 0, none⟩) 2 2)
   have h9 := h8 g21 _ M.seesAll ⟨rfl, (M.ok _ (.head _)).up SW20⟩ (fun _ => (M.ok _ (.head _)).ge)
   simp only [Z0, Z6] at h9
   exact h9
  refine RulesL.cons (fun vs => { tmps := #[.agg ([.int .i64 a, .string (bs r), .int .i64 b, .string (bs g)]).toArray, .pointer (some ⟨g3, 0, none⟩), .string (bs ([])), .int .i64 0, .agg ([.int .i64 a] ++ [.string (bs r)] ++ [.int .i64 b] ++ [.string (bs g)] : List Value).toArray, .bool true, .bool false, Z9, Z9, Z9, Z9, vs 4, Z9, Z9, Z9], defers := [] }) (by kernel_rfl) ?_ ?_
  ·
   intro vs gs W23 SW23 D K9 k9
   replace M := M.sees SW23
   have Rg3_0 := M.r 0 0 rfl rfl
   have Rg3_1 := M.r 0 1 rfl rfl
   have Rg3_2 := M.r 0 2 rfl rfl
   have Rg3_3 := M.r 0 3 rfl rfl
   have Lg3 := M.lt 0 rfl
   have BB := M.below
   replace M := Mem.start W23
   obtain ⟨D4, _⟩ := D
   obtain ⟨e4, Og24⟩ := D4
   generalize gs 4 = g24 at *
   replace e4 : vs 4 = .slice (some ⟨g24, 0, none⟩) 2 2 := e4
   have Rg24_0 := Og24.range (0, [.string (bs (sgnL a b r)), .string (bs g)]) (by simp only [List.mem_cons, true_or, or_true])
   have Lg24 := Og24.lt
   dsimp only at k9
   try dsimp only
   rw [e4] at k9 ⊢
   refine cM 1 fun Lk hLk => ?_
   refine vCh (v := .tuple #[.string (bs (texL a b r g)), .int .i64 0]) (args := #[.slice (some ⟨g24, 0, none⟩) 2 2]) (fun W hW => (by have h9 := pack_c (ps := [sgnL a b r, g]) (w := W) (by simp) (by rw [packN_tex a b hr hg]; decide) (Nat.le_refl _) ((M.sees hW).oldL Lg24) ((M.sees hW).oldR Rg24_0 Lg24); exact h9)) ?_
   refine hLk _ fun w25 M => ?_
   refine Z14 (Z22 ?_)
   have h8 := k9 (.tuple #[.string (bs (texL a b r g)), .int .i64 0])
   have h9 := h8 0 _ M.seesAll rfl (fun h => absurd h (by decide))
   simp only [Z0, Z6] at h9
   exact h9
  refine RulesL.cons (fun vs => { tmps := #[.agg ([.int .i64 a, .string (bs r), .int .i64 b, .string (bs g)]).toArray, .pointer (some ⟨g3, 0, none⟩), .string (bs ([])), .int .i64 0, .agg ([.int .i64 a] ++ [.string (bs r)] ++ [.int .i64 b] ++ [.string (bs g)] : List Value).toArray, .bool true, .bool false, Z9, Z9, Z9, Z9, Z9, vs 5, Z9, Z9], defers := [] }) (by kernel_rfl) ?_ ?_
  ·
   intro vs gs W26 SW26 D K9 k9
   replace M := M.sees SW26
   obtain ⟨D5, _⟩ := D
   have e5 : vs 5 = .tuple #[.string (bs (texL a b r g)), .int .i64 0] := D5
   dsimp only at k9
   try dsimp only
   rw [e5] at k9 ⊢
   refine lCh 1 (fun Lk hLk => ?_)
   refine vE ?_
   refine Z19 (hLk _ (fun w27 Sw27 => ?_))
   simp only [Z7, Z8]
   replace M := M.sees Sw27
   refine Z14 (Z22 ?_)
   have h8 := k9 (.string (bs (texL a b r g)))
   have h9 := h8 0 _ Sw27 rfl (fun h => absurd h (by decide))
   simp only [Z0, Z6] at h9
   exact h9
  refine RulesL.cons (fun vs => { tmps := #[.agg ([.int .i64 a, .string (bs r), .int .i64 b, .string (bs g)]).toArray, .pointer (some ⟨g3, 0, none⟩), .string (bs ([])), .int .i64 0, .agg ([.int .i64 a] ++ [.string (bs r)] ++ [.int .i64 b] ++ [.string (bs g)] : List Value).toArray, .bool true, .bool false, Z9, Z9, Z9, Z9, Z9, vs 5, Z9, Z9], defers := [] }) (by kernel_rfl) ?_ ?_
  ·
   intro vs gs W28 SW28 D K9 k9
   replace M := M.sees SW28
   obtain ⟨D5, _⟩ := D
   have e5 : vs 5 = .tuple #[.string (bs (texL a b r g)), .int .i64 0] := D5
   dsimp only at k9
   try dsimp only
   rw [e5] at k9 ⊢
   refine lCh 1 (fun Lk hLk => ?_)
   refine vE ?_
   refine Z19 (hLk _ (fun w29 Sw29 => ?_))
   simp only [Z7, Z8]
   replace M := M.sees Sw29
   refine Z14 (Z22 ?_)
   have h8 := k9 (.int .i64 0)
   have h9 := h8 0 _ Sw29 rfl (fun h => absurd h (by decide))
   simp only [Z0, Z6] at h9
   exact h9
  exact RulesL.nil
 intro vs gs W30 SW30 D A9
 obtain ⟨D0, D1, D2, D3, D4, D5, D6, D7, _⟩ := (show DepRel _ vs gs W30 [0, 1, 2, 3, 4, 5, 6, 7] from D)
 clear A9 D
 have e0 : vs 0 = .agg ([.int .i64 a] ++ [.string (bs r)] ++ [.int .i64 b] ++ [.string (bs g)] : List Value).toArray := D0
 have e1 : vs 1 = .string (bs (sgnL a b r)) := D1
 have e2 : vs 2 = .pointer (some ⟨g3, 3, none⟩) := D2
 have e3 : vs 3 = .string (bs g) := D3
 obtain ⟨e4, Og31⟩ := D4
 generalize gs 4 = g31 at *
 replace e4 : vs 4 = .slice (some ⟨g31, 0, none⟩) 2 2 := e4
 have e5 : vs 5 = .tuple #[.string (bs (texL a b r g)), .int .i64 0] := D5
 have e6 : vs 6 = .string (bs (texL a b r g)) := D6
 have e7 : vs 7 = .int .i64 0 := D7
 replace M := M.addOks SW30 [⟨g31, 2, [(0, [.string (bs (sgnL a b r)), .string (bs g)])]⟩] (List.forall_mem_cons.2 ⟨Og31, (fun _ h => nomatch h)⟩) (.cons (fun _ h => nomatch h) .nil)
 simp only [List.cons_append, List.nil_append] at M
 try dsimp only
 simp only [e0, e1, e2, e3, e4, e5, e6, e7, Z8]
 refine lg ?_; refine lg ?_; refine lZ k9 ?_; refine rt2 ?_
 exact ⟨rfl, M.below⟩
set_option maxHeartbeats 1000000 in
theorem Print_no {z t : Int} {r g : List UInt8} {w : World} (h0 : rightH z r t g = false) :
  Calls Tryd.prog 21 #[.agg ([.int .i64 z, .string (bs r), .int .i64 t, .string (bs g)]).toArray] w fun e w' => e = .returned (.tuple #[.string (bs []), .int .i64 1]) ∧ Below w.heap.size w w' := by
 go_enter Tryd.func21, Tryd.ntmps21
 have M := Mem.start w
 refine qS fun _ k1 => ?_
 refine nVs (segs := [(0, [.int .i64 z]), (1, [.string (bs r)]), (2, [.int .i64 t]), (3, [.string (bs g)])]) 4 fun g3 w4 M => ?_
 refine lg ?_; refine lg ?_; refine lZ k1 ?_
 refine sk fun _ _ => ?_
 refine qS fun _ k6 => ?_
 refine cM 3 fun Lk hLk => ?_
 refine vP (pvLf (cs := [.int .i64 z] ++ [.string (bs r)] ++ [.int .i64 t] ++ [.string (bs g)]) (range_join (range_join (range_join (M.r 0 0 rfl rfl) (M.r 0 1 rfl rfl) (by simp [flen])) (M.r 0 2 rfl rfl) (by simp [flen])) (M.r 0 3 rfl rfl) (by simp [flen])) (M.lt 0 rfl)) ?_
 refine vC (v := .bool false) (args := #[.agg ([.int .i64 z] ++ [.string (bs r)] ++ [.int .i64 t] ++ [.string (bs g)] : List Value).toArray]) (fun W => (by have h9 := hright_c (z := z) (r := r) (t := t) (g := g) (w := W); rw [h0] at h9; exact h9)) ?_
 refine vu ?_
 refine hLk _ fun w8 M => ?_
 refine lZ k6 ?_; refine cT ?_
 refine qS fun _ k9 => ?_
 refine lg ?_; refine lg ?_; refine lZ k9 ?_; refine rt2 ?_
 exact ⟨rfl, M.below⟩
set_option maxHeartbeats 2000000 in
theorem hSign_ok {l r : List UInt8} {a b : Nat} {w : World} (ha : a ≤ 4096) (hb : b ≤ 1099511627776) (hr : r.length = 32) (hl : l.length = 32) (L2 : 2 < w.heap.size) (R2_0 : w.rangeAt 2 0 kcellsq) :
  Calls Tryd.prog 31 #[.string (bs l), .int .i64 a, .string (bs r), .int .i64 b] w fun e w' => e = .returned (.tuple #[.agg ([.int .i64 a, .string (bs r), .int .i64 b, .string (bs (edS l (sgnL a b r)))]).toArray, .int .i64 0]) ∧ Below w.heap.size w w' := by
 go_enter Tryd.func31, Tryd.ntmps31
 have M := Mem.start w
 refine qS fun _ k1 => ?_
 refine nV 4 fun g3 w4 M => ?_
 refine lg ?_; refine lZ k1 ?_
 refine qS fun _ k5 => ?_
 refine lM ?_; refine lM ?_; refine lM ?_
 refine wpL_make (n := 64) (z := .int .u8 0) (bytes := 1) (by rfl) (by rfl) (by rfl) (by rfl) U929 (by kernel_rfl) rfl (by decide) (by decide) (fun g7 w8 Sw8 Hg7 Bg7 => ?_)
 replace M := ((M.sees Sw8).add (N := 64) (cs := List.replicate 64 (.int .u8 0)) (M.ge Hg7) (M.fresh Hg7) Bg7 (by simp [flen]))
 clear Bg7
 rw [show List.replicate 64 (Value.int .u8 0) = bcells (List.replicate 64 0) from rfl] at M
 simp only [Z0, Z6]
 refine cM 2 fun Lk hLk => ?_
 refine wpV_b2s (l := (List.replicate 64 0)) (by rfl) rfl rfl (List.length_replicate ..).symm U929 Tryd.underlying5 U99 (M.r 0 0 rfl rfl) (M.lt 0 rfl) ?_
 simp only [Z0, Z6]
 refine vGk (v := .agg ([.int .i64 a, .string (bs r), .int .i64 b, .string (bs (List.replicate 64 0))]).toArray) ?_
 simp only [Z0, Z6]
 refine hLk _ fun w9 M => ?_
 refine nV 4 fun g10 w11 M => ?_
 refine sT 0 0 fun w12 M => ?_
 refine lZ k5 ?_
 refine sk fun _ k13 => ?_
 refine qS fun _ k14 => ?_
 refine lL ?_
 refine cM 2 fun Lk hLk => ?_
 refine vC (v := .bool true) (args := #[.agg ([.int .i64 a, .string (bs r), .int .i64 b, .string (bs (List.replicate 64 0))]).toArray]) (fun W => (by have h9 := hright_c (z := ((a : Nat) : Int)) (r := r) (t := ((b : Nat) : Int)) (g := List.replicate 64 0) (w := W); rw [rightH_of ha hb hr (List.length_replicate ..)] at h9; exact h9)) ?_
 refine vt ?_
 refine hLk _ fun w16 M => ?_
 refine lZ k14 ?_; refine cF ?_; refine sZ k13 ?_
 refine qS fun _ k17 => ?_
 refine lM ?_; refine lL ?_
 refine cM 5 fun Lk hLk => ?_
 refine vC (v := .string (bs (sgnL a b r))) (args := #[.agg ([.int .i64 a, .string (bs r), .int .i64 b, .string (bs (List.replicate 64 0))]).toArray]) (fun W => (by have h9 := signed_c (a := a) (b := b) (r := r) (g := List.replicate 64 0) (w := W) (by exact ha) (by exact hb) (by exact hr); exact h9)) ?_
 refine vCh (v := .tuple #[.string (bs (edS l (sgnL a b r))), .int .i64 0]) (fun W hW => (Sign_ok hl (by rw [sgnL_len a b hr]; decide) ((M.sees hW).oldL L2) ((M.sees hW).oldR R2_0 L2))) ?_
 refine vM ?_; refine vE ?_; refine vE ?_
 refine hLk _ fun w19 M => ?_
 refine lg ?_; refine lg ?_; refine lZ k17 ?_
 refine sk fun _ k20 => ?_
 refine qS fun _ k21 => ?_
 refine lM ?_
 refine cM 1 fun Lk hLk => ?_
 refine vB (v := .bool false) (hr := run_neq _ _ _ _) ?_
 refine hLk _ fun w23 M => ?_
 refine lZ k21 ?_; refine cF ?_; refine sZ k20 ?_
 refine qS fun _ k24 => ?_
 refine lM ?_; refine lF ?_
 refine lS1 (g := g10) (off := 3) (n := 4) (v := .string (bs (edS l (sgnL a b r)))) (M.t 0 rfl) (by decide) info9 rfl (fun w27 P R T => ?_)
 replace M := M.put1 (j := 3) 0 rfl P R T rfl
 simp only [Z6] at M
 refine lZ k24 ?_
 refine qS fun _ k28 => ?_
 refine lL ?_
 refine sT 2 0 fun w31 M => ?_
 refine lg ?_; refine lZ k28 ?_; refine rt ?_
 refine bodyPost_ret (v := .tuple #[.agg ([.int .i64 a, .string (bs r), .int .i64 b, .string (bs (edS l (sgnL a b r)))]).toArray, .int .i64 0]) (res2 rfl (.cell (by rfl) (run_loadVar_mid _ _ _ _ ([.int .i64 a, .string (bs r), .int .i64 b, .string (bs (edS l (sgnL a b r)))]) _ (M.r 2 0 rfl rfl) U933 rfl info33)) (.tmp (by rfl))) rfl ?_
 exact ⟨rfl, M.below⟩
set_option maxHeartbeats 1000000 in
theorem part_c {ps : List (List UInt8)} {i : Nat} {ap : Option Addr} {np cp : Nat} {w : World} (Hp : RowA w ap np cp (scells ps)) :
  Calls Tryd.prog 63 #[.slice ap np cp, .int .i64 i] w fun e w' => e = .returned (.string (bs (ps.getD i []))) ∧ Below w.heap.size w w' := by
 obtain rfl : np = ps.length := by have := Hp.len; rwa [scells_len] at this
 go_enter Tryd.func63, Tryd.ntmps63
 have M := Mem.start w
 refine qS fun _ k1 => ?_
 refine lg ?_; refine lZ k1 ?_
 refine sk fun _ k3 => ?_
 refine qS fun _ k4 => ?_
 refine lM ?_; refine lM ?_
 refine cM 2 fun Lk hLk => ?_
 refine wpV_lenA (n := ps.length) (by rfl) rfl rfl rfl U937 ?_
 simp only [Z0, Z6]
 refine vB (v := .bool (decide (ps.length ≤ i))) (hr := run_geqN i ps.length _ _) ?_
 refine hLk _ fun w6 M => ?_
 refine lZ k4 ?_
 cases hc7 : (decide (ps.length ≤ i))
 ·
  have hi : ¬ ps.length ≤ i := of_decide_eq_false hc7
  refine cF ?_; refine sZ k3 ?_
  refine qS fun _ k8 => ?_
  refine lM ?_; refine lM ?_
  refine cM 2 fun Lk hLk => ?_
  refine wpV_idxA (i := i) (by rfl) rfl rfl rfl U937 info9 (M.oldA Hp) (by omega) ?_
  simp only [Z0, Z6]
  refine wpV_loadA (i := i) (v := .string (bs (ps.getD i []))) (by rfl) rfl rfl (M.oldA Hp) (scells_get (by omega)) U99 rfl ?_
  simp only [Z0, Z6]
  refine hLk _ fun w10 M => ?_
  refine lg ?_; refine lZ k8 ?_; refine rt1 ?_
  exact ⟨rfl, M.below⟩
 have hi : ps.length ≤ i := of_decide_eq_true hc7
 refine cT ?_
 refine qS fun _ k11 => ?_
 refine lg ?_; refine lZ k11 ?_; refine rt1 ?_
 have BE := M.below
 exact ⟨by rw [List.getD_eq_getElem?_getD, List.getElem?_eq_none hi]; rfl, BE⟩
set_option maxHeartbeats 2000000 in
theorem few10_c {z t : Int} {r g : List UInt8} {w : World}  :
  Calls Tryd.prog 20 #[.agg ([.int .i64 z, .string (bs r), .int .i64 t, .string (bs g)]).toArray] w fun e w' => e = .returned (.agg ([.int .i64 z, .string (bs (cut r 40)), .int .i64 t, .string (bs (cut g 70))]).toArray) ∧ Below w.heap.size w w' := by
 go_enter Tryd.func20, Tryd.ntmps20
 have M := Mem.start w
 refine qS fun _ k1 => ?_
 refine nVs (segs := [(0, [.int .i64 z]), (1, [.string (bs r)]), (2, [.int .i64 t]), (3, [.string (bs g)])]) 4 fun g3 w4 M => ?_
 refine nV 4 fun g5 w6 M => ?_
 refine lZ k1 ?_
 refine sk fun _ k7 => ?_
 refine wp_region_treeN (by kernel_rfl) (fun w9 Sw9 => ?_)
 replace M := M.sees Sw9
 refine aF 0 (v := .pointer (some ⟨g3, 1, none⟩)) (hv := fun W => by (go_simp; exact rfl)) ?_
 simp only [Z0, Z6]
 refine aF 2 (v := .pointer (some ⟨g3, 1, none⟩)) (hv := fun W => by (go_simp; exact rfl)) ?_
 simp only [Z0, Z6]
 refine aF 7 (v := .pointer (some ⟨g3, 3, none⟩)) (hv := fun W => by (go_simp; exact rfl)) ?_
 simp only [Z0, Z6]
 refine aF 9 (v := .pointer (some ⟨g3, 3, none⟩)) (hv := fun W => by (go_simp; exact rfl)) ?_
 simp only [Z0, Z6]
 refine any_hub 4 #[true, true, true, true, true, true, true, true, true, true, true, true, true, true, false, false, false, false] { tmps := #[.agg ([.int .i64 z, .string (bs r), .int .i64 t, .string (bs g)]).toArray, .pointer (some ⟨g3, 0, none⟩), .pointer (some ⟨g5, 0, none⟩), .pointer (some ⟨g3, 1, none⟩), .string (bs r), .pointer (some ⟨g3, 1, none⟩), .string (bs r), .int .i64 r.length, .int .i64 (min r.length 40 : Nat), .string (bs (cut r 40)), .pointer (some ⟨g3, 3, none⟩), .string (bs g), .pointer (some ⟨g3, 3, none⟩), .string (bs g), .int .i64 g.length, .int .i64 (min g.length 70 : Nat), .string (bs (cut g 70)), Z9, Z9, Z9], defers := [] } (fun HK => ?_) ?_
 ·
  refine any_step [1, 3, 8, 10] (by kernel_rfl) rfl (any_two ?_ (any_two ?_ (any_two ?_ (any_one ?_))))
  ·
   refine any_load 1 (v := .string (bs r)) (range_one (M.r 1 1 rfl rfl)) U99 ?_
   simp only [Z0, Z6]
   refine any_step [3, 8, 10] (by kernel_rfl) rfl (any_two ?_ (any_two ?_ (any_one ?_)))
   ·
    refine any_load 3 (v := .string (bs r)) (range_one (M.r 1 1 rfl rfl)) U99 ?_
    simp only [Z0, Z6]
    refine aF 4 (v := .int .i64 r.length) (hv := by exact yl_lenS rfl rfl rfl U99) ?_
    simp only [Z0, Z6]
    refine aF 5 (v := .int .i64 (min r.length 40 : Nat)) (hv := by exact yl_min (n := r.length) (m := 40) rfl rfl rfl) ?_
    simp only [Z0, Z6]
    refine aF 6 (v := .string (bs (cut r 40))) (hv := by exact yl_cut (l := r) (m := 40) rfl rfl rfl U99) ?_
    simp only [Z0, Z6]
    refine any_step [8, 10] (by kernel_rfl) rfl (any_two ?_ (any_one ?_))
    ·
     refine any_load 8 (v := .string (bs g)) (range_one (M.r 1 3 rfl rfl)) U99 ?_
     simp only [Z0, Z6]
     refine any_step [10] (by kernel_rfl) rfl (any_one ?_)
     refine any_load 10 (v := .string (bs g)) (range_one (M.r 1 3 rfl rfl)) U99 ?_
     simp only [Z0, Z6]
     refine aF 11 (v := .int .i64 g.length) (hv := by exact yl_lenS rfl rfl rfl U99) ?_
     simp only [Z0, Z6]
     refine aF 12 (v := .int .i64 (min g.length 70 : Nat)) (hv := by exact yl_min (n := g.length) (m := 70) rfl rfl rfl) ?_
     simp only [Z0, Z6]
     refine aF 13 (v := .string (bs (cut g 70))) (hv := by exact yl_cut (l := g) (m := 70) rfl rfl rfl U99) ?_
     simp only [Z0, Z6]
     exact any_listed (by kernel_rfl) HK
    refine any_load 10 (v := .string (bs g)) (range_one (M.r 1 3 rfl rfl)) U99 ?_
    simp only [Z0, Z6]
    refine aF 11 (v := .int .i64 g.length) (hv := by exact yl_lenS rfl rfl rfl U99) ?_
    simp only [Z0, Z6]
    refine aF 12 (v := .int .i64 (min g.length 70 : Nat)) (hv := by exact yl_min (n := g.length) (m := 70) rfl rfl rfl) ?_
    simp only [Z0, Z6]
    refine any_step [8] (by kernel_rfl) rfl (any_one ?_)
    refine any_load 8 (v := .string (bs g)) (range_one (M.r 1 3 rfl rfl)) U99 ?_
    simp only [Z0, Z6]
    refine aF 13 (v := .string (bs (cut g 70))) (hv := by exact yl_cut (l := g) (m := 70) rfl rfl rfl U99) ?_
    simp only [Z0, Z6]
    exact any_listed (by kernel_rfl) HK
   ·
    refine any_load 8 (v := .string (bs g)) (range_one (M.r 1 3 rfl rfl)) U99 ?_
    simp only [Z0, Z6]
    refine any_step [3, 10] (by kernel_rfl) rfl (any_two ?_ (any_one ?_))
    ·
     refine any_load 3 (v := .string (bs r)) (range_one (M.r 1 1 rfl rfl)) U99 ?_
     simp only [Z0, Z6]
     refine aF 4 (v := .int .i64 r.length) (hv := by exact yl_lenS rfl rfl rfl U99) ?_
     simp only [Z0, Z6]
     refine aF 5 (v := .int .i64 (min r.length 40 : Nat)) (hv := by exact yl_min (n := r.length) (m := 40) rfl rfl rfl) ?_
     simp only [Z0, Z6]
     refine aF 6 (v := .string (bs (cut r 40))) (hv := by exact yl_cut (l := r) (m := 40) rfl rfl rfl U99) ?_
     simp only [Z0, Z6]
     refine any_step [10] (by kernel_rfl) rfl (any_one ?_)
     refine any_load 10 (v := .string (bs g)) (range_one (M.r 1 3 rfl rfl)) U99 ?_
     simp only [Z0, Z6]
     refine aF 11 (v := .int .i64 g.length) (hv := by exact yl_lenS rfl rfl rfl U99) ?_
     simp only [Z0, Z6]
     refine aF 12 (v := .int .i64 (min g.length 70 : Nat)) (hv := by exact yl_min (n := g.length) (m := 70) rfl rfl rfl) ?_
     simp only [Z0, Z6]
     refine aF 13 (v := .string (bs (cut g 70))) (hv := by exact yl_cut (l := g) (m := 70) rfl rfl rfl U99) ?_
     simp only [Z0, Z6]
     exact any_listed (by kernel_rfl) HK
    refine any_load 10 (v := .string (bs g)) (range_one (M.r 1 3 rfl rfl)) U99 ?_
    simp only [Z0, Z6]
    refine aF 11 (v := .int .i64 g.length) (hv := by exact yl_lenS rfl rfl rfl U99) ?_
    simp only [Z0, Z6]
    refine aF 12 (v := .int .i64 (min g.length 70 : Nat)) (hv := by exact yl_min (n := g.length) (m := 70) rfl rfl rfl) ?_
    simp only [Z0, Z6]
    refine aF 13 (v := .string (bs (cut g 70))) (hv := by exact yl_cut (l := g) (m := 70) rfl rfl rfl U99) ?_
    simp only [Z0, Z6]
    refine any_step [3] (by kernel_rfl) rfl (any_one ?_)
    refine any_load 3 (v := .string (bs r)) (range_one (M.r 1 1 rfl rfl)) U99 ?_
    simp only [Z0, Z6]
    refine aF 4 (v := .int .i64 r.length) (hv := by exact yl_lenS rfl rfl rfl U99) ?_
    simp only [Z0, Z6]
    refine aF 5 (v := .int .i64 (min r.length 40 : Nat)) (hv := by exact yl_min (n := r.length) (m := 40) rfl rfl rfl) ?_
    simp only [Z0, Z6]
    refine aF 6 (v := .string (bs (cut r 40))) (hv := by exact yl_cut (l := r) (m := 40) rfl rfl rfl U99) ?_
    simp only [Z0, Z6]
    exact any_listed (by kernel_rfl) HK
   refine any_load 10 (v := .string (bs g)) (range_one (M.r 1 3 rfl rfl)) U99 ?_
   simp only [Z0, Z6]
   refine aF 11 (v := .int .i64 g.length) (hv := by exact yl_lenS rfl rfl rfl U99) ?_
   simp only [Z0, Z6]
   refine aF 12 (v := .int .i64 (min g.length 70 : Nat)) (hv := by exact yl_min (n := g.length) (m := 70) rfl rfl rfl) ?_
   simp only [Z0, Z6]
   refine any_step [3, 8] (by kernel_rfl) rfl (any_two ?_ (any_one ?_))
   ·
    refine any_load 3 (v := .string (bs r)) (range_one (M.r 1 1 rfl rfl)) U99 ?_
    simp only [Z0, Z6]
    refine aF 4 (v := .int .i64 r.length) (hv := by exact yl_lenS rfl rfl rfl U99) ?_
    simp only [Z0, Z6]
    refine aF 5 (v := .int .i64 (min r.length 40 : Nat)) (hv := by exact yl_min (n := r.length) (m := 40) rfl rfl rfl) ?_
    simp only [Z0, Z6]
    refine aF 6 (v := .string (bs (cut r 40))) (hv := by exact yl_cut (l := r) (m := 40) rfl rfl rfl U99) ?_
    simp only [Z0, Z6]
    refine any_step [8] (by kernel_rfl) rfl (any_one ?_)
    refine any_load 8 (v := .string (bs g)) (range_one (M.r 1 3 rfl rfl)) U99 ?_
    simp only [Z0, Z6]
    refine aF 13 (v := .string (bs (cut g 70))) (hv := by exact yl_cut (l := g) (m := 70) rfl rfl rfl U99) ?_
    simp only [Z0, Z6]
    exact any_listed (by kernel_rfl) HK
   refine any_load 8 (v := .string (bs g)) (range_one (M.r 1 3 rfl rfl)) U99 ?_
   simp only [Z0, Z6]
   refine aF 13 (v := .string (bs (cut g 70))) (hv := by exact yl_cut (l := g) (m := 70) rfl rfl rfl U99) ?_
   simp only [Z0, Z6]
   refine any_step [3] (by kernel_rfl) rfl (any_one ?_)
   refine any_load 3 (v := .string (bs r)) (range_one (M.r 1 1 rfl rfl)) U99 ?_
   simp only [Z0, Z6]
   refine aF 4 (v := .int .i64 r.length) (hv := by exact yl_lenS rfl rfl rfl U99) ?_
   simp only [Z0, Z6]
   refine aF 5 (v := .int .i64 (min r.length 40 : Nat)) (hv := by exact yl_min (n := r.length) (m := 40) rfl rfl rfl) ?_
   simp only [Z0, Z6]
   refine aF 6 (v := .string (bs (cut r 40))) (hv := by exact yl_cut (l := r) (m := 40) rfl rfl rfl U99) ?_
   simp only [Z0, Z6]
   exact any_listed (by kernel_rfl) HK
  ·
   refine any_load 3 (v := .string (bs r)) (range_one (M.r 1 1 rfl rfl)) U99 ?_
   simp only [Z0, Z6]
   refine aF 4 (v := .int .i64 r.length) (hv := by exact yl_lenS rfl rfl rfl U99) ?_
   simp only [Z0, Z6]
   refine aF 5 (v := .int .i64 (min r.length 40 : Nat)) (hv := by exact yl_min (n := r.length) (m := 40) rfl rfl rfl) ?_
   simp only [Z0, Z6]
   refine any_step [1, 8, 10] (by kernel_rfl) rfl (any_two ?_ (any_two ?_ (any_one ?_)))
   ·
    refine any_load 1 (v := .string (bs r)) (range_one (M.r 1 1 rfl rfl)) U99 ?_
    simp only [Z0, Z6]
    refine aF 6 (v := .string (bs (cut r 40))) (hv := by exact yl_cut (l := r) (m := 40) rfl rfl rfl U99) ?_
    simp only [Z0, Z6]
    refine any_step [8, 10] (by kernel_rfl) rfl (any_two ?_ (any_one ?_))
    ·
     refine any_load 8 (v := .string (bs g)) (range_one (M.r 1 3 rfl rfl)) U99 ?_
     simp only [Z0, Z6]
     refine any_step [10] (by kernel_rfl) rfl (any_one ?_)
     refine any_load 10 (v := .string (bs g)) (range_one (M.r 1 3 rfl rfl)) U99 ?_
     simp only [Z0, Z6]
     refine aF 11 (v := .int .i64 g.length) (hv := by exact yl_lenS rfl rfl rfl U99) ?_
     simp only [Z0, Z6]
     refine aF 12 (v := .int .i64 (min g.length 70 : Nat)) (hv := by exact yl_min (n := g.length) (m := 70) rfl rfl rfl) ?_
     simp only [Z0, Z6]
     refine aF 13 (v := .string (bs (cut g 70))) (hv := by exact yl_cut (l := g) (m := 70) rfl rfl rfl U99) ?_
     simp only [Z0, Z6]
     exact any_listed (by kernel_rfl) HK
    refine any_load 10 (v := .string (bs g)) (range_one (M.r 1 3 rfl rfl)) U99 ?_
    simp only [Z0, Z6]
    refine aF 11 (v := .int .i64 g.length) (hv := by exact yl_lenS rfl rfl rfl U99) ?_
    simp only [Z0, Z6]
    refine aF 12 (v := .int .i64 (min g.length 70 : Nat)) (hv := by exact yl_min (n := g.length) (m := 70) rfl rfl rfl) ?_
    simp only [Z0, Z6]
    refine any_step [8] (by kernel_rfl) rfl (any_one ?_)
    refine any_load 8 (v := .string (bs g)) (range_one (M.r 1 3 rfl rfl)) U99 ?_
    simp only [Z0, Z6]
    refine aF 13 (v := .string (bs (cut g 70))) (hv := by exact yl_cut (l := g) (m := 70) rfl rfl rfl U99) ?_
    simp only [Z0, Z6]
    exact any_listed (by kernel_rfl) HK
   ·
    refine any_load 8 (v := .string (bs g)) (range_one (M.r 1 3 rfl rfl)) U99 ?_
    simp only [Z0, Z6]
    refine any_step [1, 10] (by kernel_rfl) rfl (any_two ?_ (any_one ?_))
    ·
     refine any_load 1 (v := .string (bs r)) (range_one (M.r 1 1 rfl rfl)) U99 ?_
     simp only [Z0, Z6]
     refine aF 6 (v := .string (bs (cut r 40))) (hv := by exact yl_cut (l := r) (m := 40) rfl rfl rfl U99) ?_
     simp only [Z0, Z6]
     refine any_step [10] (by kernel_rfl) rfl (any_one ?_)
     refine any_load 10 (v := .string (bs g)) (range_one (M.r 1 3 rfl rfl)) U99 ?_
     simp only [Z0, Z6]
     refine aF 11 (v := .int .i64 g.length) (hv := by exact yl_lenS rfl rfl rfl U99) ?_
     simp only [Z0, Z6]
     refine aF 12 (v := .int .i64 (min g.length 70 : Nat)) (hv := by exact yl_min (n := g.length) (m := 70) rfl rfl rfl) ?_
     simp only [Z0, Z6]
     refine aF 13 (v := .string (bs (cut g 70))) (hv := by exact yl_cut (l := g) (m := 70) rfl rfl rfl U99) ?_
     simp only [Z0, Z6]
     exact any_listed (by kernel_rfl) HK
    refine any_load 10 (v := .string (bs g)) (range_one (M.r 1 3 rfl rfl)) U99 ?_
    simp only [Z0, Z6]
    refine aF 11 (v := .int .i64 g.length) (hv := by exact yl_lenS rfl rfl rfl U99) ?_
    simp only [Z0, Z6]
    refine aF 12 (v := .int .i64 (min g.length 70 : Nat)) (hv := by exact yl_min (n := g.length) (m := 70) rfl rfl rfl) ?_
    simp only [Z0, Z6]
    refine aF 13 (v := .string (bs (cut g 70))) (hv := by exact yl_cut (l := g) (m := 70) rfl rfl rfl U99) ?_
    simp only [Z0, Z6]
    refine any_step [1] (by kernel_rfl) rfl (any_one ?_)
    refine any_load 1 (v := .string (bs r)) (range_one (M.r 1 1 rfl rfl)) U99 ?_
    simp only [Z0, Z6]
    refine aF 6 (v := .string (bs (cut r 40))) (hv := by exact yl_cut (l := r) (m := 40) rfl rfl rfl U99) ?_
    simp only [Z0, Z6]
    exact any_listed (by kernel_rfl) HK
   refine any_load 10 (v := .string (bs g)) (range_one (M.r 1 3 rfl rfl)) U99 ?_
   simp only [Z0, Z6]
   refine aF 11 (v := .int .i64 g.length) (hv := by exact yl_lenS rfl rfl rfl U99) ?_
   simp only [Z0, Z6]
   refine aF 12 (v := .int .i64 (min g.length 70 : Nat)) (hv := by exact yl_min (n := g.length) (m := 70) rfl rfl rfl) ?_
   simp only [Z0, Z6]
   refine any_step [1, 8] (by kernel_rfl) rfl (any_two ?_ (any_one ?_))
   ·
    refine any_load 1 (v := .string (bs r)) (range_one (M.r 1 1 rfl rfl)) U99 ?_
    simp only [Z0, Z6]
    refine aF 6 (v := .string (bs (cut r 40))) (hv := by exact yl_cut (l := r) (m := 40) rfl rfl rfl U99) ?_
    simp only [Z0, Z6]
    refine any_step [8] (by kernel_rfl) rfl (any_one ?_)
    refine any_load 8 (v := .string (bs g)) (range_one (M.r 1 3 rfl rfl)) U99 ?_
    simp only [Z0, Z6]
    refine aF 13 (v := .string (bs (cut g 70))) (hv := by exact yl_cut (l := g) (m := 70) rfl rfl rfl U99) ?_
    simp only [Z0, Z6]
    exact any_listed (by kernel_rfl) HK
   refine any_load 8 (v := .string (bs g)) (range_one (M.r 1 3 rfl rfl)) U99 ?_
   simp only [Z0, Z6]
   refine aF 13 (v := .string (bs (cut g 70))) (hv := by exact yl_cut (l := g) (m := 70) rfl rfl rfl U99) ?_
   simp only [Z0, Z6]
   refine any_step [1] (by kernel_rfl) rfl (any_one ?_)
   refine any_load 1 (v := .string (bs r)) (range_one (M.r 1 1 rfl rfl)) U99 ?_
   simp only [Z0, Z6]
   refine aF 6 (v := .string (bs (cut r 40))) (hv := by exact yl_cut (l := r) (m := 40) rfl rfl rfl U99) ?_
   simp only [Z0, Z6]
   exact any_listed (by kernel_rfl) HK
  ·
   refine any_load 8 (v := .string (bs g)) (range_one (M.r 1 3 rfl rfl)) U99 ?_
   simp only [Z0, Z6]
   refine any_step [1, 3, 10] (by kernel_rfl) rfl (any_two ?_ (any_two ?_ (any_one ?_)))
   ·
    refine any_load 1 (v := .string (bs r)) (range_one (M.r 1 1 rfl rfl)) U99 ?_
    simp only [Z0, Z6]
    refine any_step [3, 10] (by kernel_rfl) rfl (any_two ?_ (any_one ?_))
    ·
     refine any_load 3 (v := .string (bs r)) (range_one (M.r 1 1 rfl rfl)) U99 ?_
     simp only [Z0, Z6]
     refine aF 4 (v := .int .i64 r.length) (hv := by exact yl_lenS rfl rfl rfl U99) ?_
     simp only [Z0, Z6]
     refine aF 5 (v := .int .i64 (min r.length 40 : Nat)) (hv := by exact yl_min (n := r.length) (m := 40) rfl rfl rfl) ?_
     simp only [Z0, Z6]
     refine aF 6 (v := .string (bs (cut r 40))) (hv := by exact yl_cut (l := r) (m := 40) rfl rfl rfl U99) ?_
     simp only [Z0, Z6]
     refine any_step [10] (by kernel_rfl) rfl (any_one ?_)
     refine any_load 10 (v := .string (bs g)) (range_one (M.r 1 3 rfl rfl)) U99 ?_
     simp only [Z0, Z6]
     refine aF 11 (v := .int .i64 g.length) (hv := by exact yl_lenS rfl rfl rfl U99) ?_
     simp only [Z0, Z6]
     refine aF 12 (v := .int .i64 (min g.length 70 : Nat)) (hv := by exact yl_min (n := g.length) (m := 70) rfl rfl rfl) ?_
     simp only [Z0, Z6]
     refine aF 13 (v := .string (bs (cut g 70))) (hv := by exact yl_cut (l := g) (m := 70) rfl rfl rfl U99) ?_
     simp only [Z0, Z6]
     exact any_listed (by kernel_rfl) HK
    refine any_load 10 (v := .string (bs g)) (range_one (M.r 1 3 rfl rfl)) U99 ?_
    simp only [Z0, Z6]
    refine aF 11 (v := .int .i64 g.length) (hv := by exact yl_lenS rfl rfl rfl U99) ?_
    simp only [Z0, Z6]
    refine aF 12 (v := .int .i64 (min g.length 70 : Nat)) (hv := by exact yl_min (n := g.length) (m := 70) rfl rfl rfl) ?_
    simp only [Z0, Z6]
    refine aF 13 (v := .string (bs (cut g 70))) (hv := by exact yl_cut (l := g) (m := 70) rfl rfl rfl U99) ?_
    simp only [Z0, Z6]
    refine any_step [3] (by kernel_rfl) rfl (any_one ?_)
    refine any_load 3 (v := .string (bs r)) (range_one (M.r 1 1 rfl rfl)) U99 ?_
    simp only [Z0, Z6]
    refine aF 4 (v := .int .i64 r.length) (hv := by exact yl_lenS rfl rfl rfl U99) ?_
    simp only [Z0, Z6]
    refine aF 5 (v := .int .i64 (min r.length 40 : Nat)) (hv := by exact yl_min (n := r.length) (m := 40) rfl rfl rfl) ?_
    simp only [Z0, Z6]
    refine aF 6 (v := .string (bs (cut r 40))) (hv := by exact yl_cut (l := r) (m := 40) rfl rfl rfl U99) ?_
    simp only [Z0, Z6]
    exact any_listed (by kernel_rfl) HK
   ·
    refine any_load 3 (v := .string (bs r)) (range_one (M.r 1 1 rfl rfl)) U99 ?_
    simp only [Z0, Z6]
    refine aF 4 (v := .int .i64 r.length) (hv := by exact yl_lenS rfl rfl rfl U99) ?_
    simp only [Z0, Z6]
    refine aF 5 (v := .int .i64 (min r.length 40 : Nat)) (hv := by exact yl_min (n := r.length) (m := 40) rfl rfl rfl) ?_
    simp only [Z0, Z6]
    refine any_step [1, 10] (by kernel_rfl) rfl (any_two ?_ (any_one ?_))
    ·
     refine any_load 1 (v := .string (bs r)) (range_one (M.r 1 1 rfl rfl)) U99 ?_
     simp only [Z0, Z6]
     refine aF 6 (v := .string (bs (cut r 40))) (hv := by exact yl_cut (l := r) (m := 40) rfl rfl rfl U99) ?_
     simp only [Z0, Z6]
     refine any_step [10] (by kernel_rfl) rfl (any_one ?_)
     refine any_load 10 (v := .string (bs g)) (range_one (M.r 1 3 rfl rfl)) U99 ?_
     simp only [Z0, Z6]
     refine aF 11 (v := .int .i64 g.length) (hv := by exact yl_lenS rfl rfl rfl U99) ?_
     simp only [Z0, Z6]
     refine aF 12 (v := .int .i64 (min g.length 70 : Nat)) (hv := by exact yl_min (n := g.length) (m := 70) rfl rfl rfl) ?_
     simp only [Z0, Z6]
     refine aF 13 (v := .string (bs (cut g 70))) (hv := by exact yl_cut (l := g) (m := 70) rfl rfl rfl U99) ?_
     simp only [Z0, Z6]
     exact any_listed (by kernel_rfl) HK
    refine any_load 10 (v := .string (bs g)) (range_one (M.r 1 3 rfl rfl)) U99 ?_
    simp only [Z0, Z6]
    refine aF 11 (v := .int .i64 g.length) (hv := by exact yl_lenS rfl rfl rfl U99) ?_
    simp only [Z0, Z6]
    refine aF 12 (v := .int .i64 (min g.length 70 : Nat)) (hv := by exact yl_min (n := g.length) (m := 70) rfl rfl rfl) ?_
    simp only [Z0, Z6]
    refine aF 13 (v := .string (bs (cut g 70))) (hv := by exact yl_cut (l := g) (m := 70) rfl rfl rfl U99) ?_
    simp only [Z0, Z6]
    refine any_step [1] (by kernel_rfl) rfl (any_one ?_)
    refine any_load 1 (v := .string (bs r)) (range_one (M.r 1 1 rfl rfl)) U99 ?_
    simp only [Z0, Z6]
    refine aF 6 (v := .string (bs (cut r 40))) (hv := by exact yl_cut (l := r) (m := 40) rfl rfl rfl U99) ?_
    simp only [Z0, Z6]
    exact any_listed (by kernel_rfl) HK
   refine any_load 10 (v := .string (bs g)) (range_one (M.r 1 3 rfl rfl)) U99 ?_
   simp only [Z0, Z6]
   refine aF 11 (v := .int .i64 g.length) (hv := by exact yl_lenS rfl rfl rfl U99) ?_
   simp only [Z0, Z6]
   refine aF 12 (v := .int .i64 (min g.length 70 : Nat)) (hv := by exact yl_min (n := g.length) (m := 70) rfl rfl rfl) ?_
   simp only [Z0, Z6]
   refine aF 13 (v := .string (bs (cut g 70))) (hv := by exact yl_cut (l := g) (m := 70) rfl rfl rfl U99) ?_
   simp only [Z0, Z6]
   refine any_step [1, 3] (by kernel_rfl) rfl (any_two ?_ (any_one ?_))
   ·
    refine any_load 1 (v := .string (bs r)) (range_one (M.r 1 1 rfl rfl)) U99 ?_
    simp only [Z0, Z6]
    refine any_step [3] (by kernel_rfl) rfl (any_one ?_)
    refine any_load 3 (v := .string (bs r)) (range_one (M.r 1 1 rfl rfl)) U99 ?_
    simp only [Z0, Z6]
    refine aF 4 (v := .int .i64 r.length) (hv := by exact yl_lenS rfl rfl rfl U99) ?_
    simp only [Z0, Z6]
    refine aF 5 (v := .int .i64 (min r.length 40 : Nat)) (hv := by exact yl_min (n := r.length) (m := 40) rfl rfl rfl) ?_
    simp only [Z0, Z6]
    refine aF 6 (v := .string (bs (cut r 40))) (hv := by exact yl_cut (l := r) (m := 40) rfl rfl rfl U99) ?_
    simp only [Z0, Z6]
    exact any_listed (by kernel_rfl) HK
   refine any_load 3 (v := .string (bs r)) (range_one (M.r 1 1 rfl rfl)) U99 ?_
   simp only [Z0, Z6]
   refine aF 4 (v := .int .i64 r.length) (hv := by exact yl_lenS rfl rfl rfl U99) ?_
   simp only [Z0, Z6]
   refine aF 5 (v := .int .i64 (min r.length 40 : Nat)) (hv := by exact yl_min (n := r.length) (m := 40) rfl rfl rfl) ?_
   simp only [Z0, Z6]
   refine any_step [1] (by kernel_rfl) rfl (any_one ?_)
   refine any_load 1 (v := .string (bs r)) (range_one (M.r 1 1 rfl rfl)) U99 ?_
   simp only [Z0, Z6]
   refine aF 6 (v := .string (bs (cut r 40))) (hv := by exact yl_cut (l := r) (m := 40) rfl rfl rfl U99) ?_
   simp only [Z0, Z6]
   exact any_listed (by kernel_rfl) HK
  refine any_load 10 (v := .string (bs g)) (range_one (M.r 1 3 rfl rfl)) U99 ?_
  simp only [Z0, Z6]
  refine aF 11 (v := .int .i64 g.length) (hv := by exact yl_lenS rfl rfl rfl U99) ?_
  simp only [Z0, Z6]
  refine aF 12 (v := .int .i64 (min g.length 70 : Nat)) (hv := by exact yl_min (n := g.length) (m := 70) rfl rfl rfl) ?_
  simp only [Z0, Z6]
  refine any_step [1, 3, 8] (by kernel_rfl) rfl (any_two ?_ (any_two ?_ (any_one ?_)))
  ·
   refine any_load 1 (v := .string (bs r)) (range_one (M.r 1 1 rfl rfl)) U99 ?_
   simp only [Z0, Z6]
   refine any_step [3, 8] (by kernel_rfl) rfl (any_two ?_ (any_one ?_))
   ·
    refine any_load 3 (v := .string (bs r)) (range_one (M.r 1 1 rfl rfl)) U99 ?_
    simp only [Z0, Z6]
    refine aF 4 (v := .int .i64 r.length) (hv := by exact yl_lenS rfl rfl rfl U99) ?_
    simp only [Z0, Z6]
    refine aF 5 (v := .int .i64 (min r.length 40 : Nat)) (hv := by exact yl_min (n := r.length) (m := 40) rfl rfl rfl) ?_
    simp only [Z0, Z6]
    refine aF 6 (v := .string (bs (cut r 40))) (hv := by exact yl_cut (l := r) (m := 40) rfl rfl rfl U99) ?_
    simp only [Z0, Z6]
    refine any_step [8] (by kernel_rfl) rfl (any_one ?_)
    refine any_load 8 (v := .string (bs g)) (range_one (M.r 1 3 rfl rfl)) U99 ?_
    simp only [Z0, Z6]
    refine aF 13 (v := .string (bs (cut g 70))) (hv := by exact yl_cut (l := g) (m := 70) rfl rfl rfl U99) ?_
    simp only [Z0, Z6]
    exact any_listed (by kernel_rfl) HK
   refine any_load 8 (v := .string (bs g)) (range_one (M.r 1 3 rfl rfl)) U99 ?_
   simp only [Z0, Z6]
   refine aF 13 (v := .string (bs (cut g 70))) (hv := by exact yl_cut (l := g) (m := 70) rfl rfl rfl U99) ?_
   simp only [Z0, Z6]
   refine any_step [3] (by kernel_rfl) rfl (any_one ?_)
   refine any_load 3 (v := .string (bs r)) (range_one (M.r 1 1 rfl rfl)) U99 ?_
   simp only [Z0, Z6]
   refine aF 4 (v := .int .i64 r.length) (hv := by exact yl_lenS rfl rfl rfl U99) ?_
   simp only [Z0, Z6]
   refine aF 5 (v := .int .i64 (min r.length 40 : Nat)) (hv := by exact yl_min (n := r.length) (m := 40) rfl rfl rfl) ?_
   simp only [Z0, Z6]
   refine aF 6 (v := .string (bs (cut r 40))) (hv := by exact yl_cut (l := r) (m := 40) rfl rfl rfl U99) ?_
   simp only [Z0, Z6]
   exact any_listed (by kernel_rfl) HK
  ·
   refine any_load 3 (v := .string (bs r)) (range_one (M.r 1 1 rfl rfl)) U99 ?_
   simp only [Z0, Z6]
   refine aF 4 (v := .int .i64 r.length) (hv := by exact yl_lenS rfl rfl rfl U99) ?_
   simp only [Z0, Z6]
   refine aF 5 (v := .int .i64 (min r.length 40 : Nat)) (hv := by exact yl_min (n := r.length) (m := 40) rfl rfl rfl) ?_
   simp only [Z0, Z6]
   refine any_step [1, 8] (by kernel_rfl) rfl (any_two ?_ (any_one ?_))
   ·
    refine any_load 1 (v := .string (bs r)) (range_one (M.r 1 1 rfl rfl)) U99 ?_
    simp only [Z0, Z6]
    refine aF 6 (v := .string (bs (cut r 40))) (hv := by exact yl_cut (l := r) (m := 40) rfl rfl rfl U99) ?_
    simp only [Z0, Z6]
    refine any_step [8] (by kernel_rfl) rfl (any_one ?_)
    refine any_load 8 (v := .string (bs g)) (range_one (M.r 1 3 rfl rfl)) U99 ?_
    simp only [Z0, Z6]
    refine aF 13 (v := .string (bs (cut g 70))) (hv := by exact yl_cut (l := g) (m := 70) rfl rfl rfl U99) ?_
    simp only [Z0, Z6]
    exact any_listed (by kernel_rfl) HK
   refine any_load 8 (v := .string (bs g)) (range_one (M.r 1 3 rfl rfl)) U99 ?_
   simp only [Z0, Z6]
   refine aF 13 (v := .string (bs (cut g 70))) (hv := by exact yl_cut (l := g) (m := 70) rfl rfl rfl U99) ?_
   simp only [Z0, Z6]
   refine any_step [1] (by kernel_rfl) rfl (any_one ?_)
   refine any_load 1 (v := .string (bs r)) (range_one (M.r 1 1 rfl rfl)) U99 ?_
   simp only [Z0, Z6]
   refine aF 6 (v := .string (bs (cut r 40))) (hv := by exact yl_cut (l := r) (m := 40) rfl rfl rfl U99) ?_
   simp only [Z0, Z6]
   exact any_listed (by kernel_rfl) HK
  refine any_load 8 (v := .string (bs g)) (range_one (M.r 1 3 rfl rfl)) U99 ?_
  simp only [Z0, Z6]
  refine aF 13 (v := .string (bs (cut g 70))) (hv := by exact yl_cut (l := g) (m := 70) rfl rfl rfl U99) ?_
  simp only [Z0, Z6]
  refine any_step [1, 3] (by kernel_rfl) rfl (any_two ?_ (any_one ?_))
  ·
   refine any_load 1 (v := .string (bs r)) (range_one (M.r 1 1 rfl rfl)) U99 ?_
   simp only [Z0, Z6]
   refine any_step [3] (by kernel_rfl) rfl (any_one ?_)
   refine any_load 3 (v := .string (bs r)) (range_one (M.r 1 1 rfl rfl)) U99 ?_
   simp only [Z0, Z6]
   refine aF 4 (v := .int .i64 r.length) (hv := by exact yl_lenS rfl rfl rfl U99) ?_
   simp only [Z0, Z6]
   refine aF 5 (v := .int .i64 (min r.length 40 : Nat)) (hv := by exact yl_min (n := r.length) (m := 40) rfl rfl rfl) ?_
   simp only [Z0, Z6]
   refine aF 6 (v := .string (bs (cut r 40))) (hv := by exact yl_cut (l := r) (m := 40) rfl rfl rfl U99) ?_
   simp only [Z0, Z6]
   exact any_listed (by kernel_rfl) HK
  refine any_load 3 (v := .string (bs r)) (range_one (M.r 1 1 rfl rfl)) U99 ?_
  simp only [Z0, Z6]
  refine aF 4 (v := .int .i64 r.length) (hv := by exact yl_lenS rfl rfl rfl U99) ?_
  simp only [Z0, Z6]
  refine aF 5 (v := .int .i64 (min r.length 40 : Nat)) (hv := by exact yl_min (n := r.length) (m := 40) rfl rfl rfl) ?_
  simp only [Z0, Z6]
  refine any_step [1] (by kernel_rfl) rfl (any_one ?_)
  refine any_load 1 (v := .string (bs r)) (range_one (M.r 1 1 rfl rfl)) U99 ?_
  simp only [Z0, Z6]
  refine aF 6 (v := .string (bs (cut r 40))) (hv := by exact yl_cut (l := r) (m := 40) rfl rfl rfl U99) ?_
  simp only [Z0, Z6]
  exact any_listed (by kernel_rfl) HK
 refine aF 14 (v := .pointer (some ⟨g3, 1, none⟩)) (hv := fun W => by (go_simp; exact rfl)) ?_
 simp only [Z0, Z6]
 refine any_step [15] (by kernel_rfl) rfl (any_one ?_)
 refine any_opL 15 (by rfl) ?_
 simp only [Z7, Z8]
 refine sT1 1 1 fun w10 M => ?_
 refine Z14 (Z22 ?_)
 refine aF 16 (v := .pointer (some ⟨g3, 3, none⟩)) (hv := fun W => by (go_simp; exact rfl)) ?_
 simp only [Z0, Z6]
 refine any_step [17] (by kernel_rfl) rfl (any_one ?_)
 refine any_opL 17 (by rfl) ?_
 simp only [Z7, Z8]
 refine sT1 1 3 fun w11 M => ?_
 refine Z14 (Z22 ?_)
 refine any_end (by kernel_rfl) (Z15 ?_)
 refine k7 _ _ ?_
 refine qS fun _ k12 => ?_
 refine cM 1 fun Lk hLk => ?_
 refine vP (pvLf (cs := [.int .i64 z] ++ [.string (bs (cut r 40))] ++ [.int .i64 t] ++ [.string (bs (cut g 70))]) (range_join (range_join (range_join (M.r 1 0 rfl rfl) (M.r 1 1 rfl rfl) (by simp [flen])) (M.r 1 2 rfl rfl) (by simp [flen])) (M.r 1 3 rfl rfl) (by simp [flen])) (M.lt 1 rfl)) ?_
 refine hLk _ fun w14 M => ?_
 refine sTs (segs' := [(0, [.int .i64 z]), (1, [.string (bs (cut r 40))]), (2, [.int .i64 t]), (3, [.string (bs (cut g 70))])]) 0 fun w15 M => ?_
 refine lZ k12 ?_; refine rt ?_
 refine bodyPost_ret (v := .agg ([.int .i64 z] ++ [.string (bs (cut r 40))] ++ [.int .i64 t] ++ [.string (bs (cut g 70))] : List Value).toArray) (res1 rfl (.cell (by rfl) (run_loadVar_mid _ _ _ _ ([.int .i64 z] ++ [.string (bs (cut r 40))] ++ [.int .i64 t] ++ [.string (bs (cut g 70))]) _ (range_join (range_join (range_join (M.r 0 0 rfl rfl) (M.r 0 1 rfl rfl) (by simp [flen])) (M.r 0 2 rfl rfl) (by simp [flen])) (M.r 0 3 rfl rfl) (by simp [flen])) U933 rfl info33))) rfl ?_
 exact ⟨rfl, M.below⟩
set_option maxHeartbeats 1000000 in
theorem leaf_c {d : List UInt8} {w : World} (hd : d.length ≤ 9223372036854775744) (L1 : 1 < w.heap.size) (R1_0 : w.rangeAt 1 0 kcells) :
  Calls Tryd.prog 62 #[.string (bs d)] w fun e w' => e = .returned (.string (bs (leafS d))) ∧ Below w.heap.size w w' := by
 go_enter Tryd.func62, Tryd.ntmps62
 have M := Mem.start w
 refine qS fun _ k1 => ?_
 refine lg ?_; refine lZ k1 ?_
 refine qS fun _ k3 => ?_
 refine lM ?_
 refine wpL_rowN (vs := [.string (bs ([0])), .string (bs d)]) (z := .string { data := #[] }) (bytes := 16) (by rfl) (by rfl) U937 (by kernel_rfl) (by decide) (by kernel_rfl) (fun g5 w6 Sw6 Hg5 Bg5 => ?_)
 replace M := ((M.sees Sw6).add (N := 2) (cs := [.string (bs ([0])), .string (bs d)]) (M.ge Hg5) (M.fresh Hg5) Bg5 rfl)
 clear Bg5
 simp only [Z0, Z6]
 refine cM 1 fun Lk hLk => ?_
 refine vCh (v := .string (bs (leafS d))) (args := #[.slice (some ⟨g5, 0, none⟩) 2 2]) (fun W hW => (by have h := sum_c (ps := [[0], d]) (w := W) (by simp) (getD_le2 (by decide) hd) ((M.sees hW).oldL L1) ((M.sees hW).oldR R1_0 L1) (Nat.le_refl _) ((M.sees hW).lt 0 rfl) ((M.sees hW).r 0 0 rfl rfl); rw [flat2] at h; exact h)) ?_
 refine hLk _ fun w7 M => ?_
 refine lg ?_; refine lZ k3 ?_; refine rt1 ?_
 exact ⟨rfl, M.below⟩
set_option maxHeartbeats 1000000 in
theorem seed10_c  {w : World}  :
  Calls Tryd.prog 61 #[] w fun e w' => e = .returned (.string (bs seedL)) ∧ Below w.heap.size w w' := by
 go_enter Tryd.func61, Tryd.ntmps61
 have M := Mem.start w
 refine qS fun _ k1 => ?_
 refine lg ?_; refine lZ k1 ?_
 refine qS fun _ k3 => ?_
 refine lg ?_; refine lZ k3 ?_; refine rt1 ?_
 exact ⟨rfl, M.below⟩
set_option maxHeartbeats 2000000 in
theorem alive10_c  {w : World} (L1 : 1 < w.heap.size) (R1_0 : w.rangeAt 1 0 kcells) (L2 : 2 < w.heap.size) (R2_0 : w.rangeAt 2 0 kcellsq) :
  Calls Tryd.prog 22 #[] w fun e w' => e = .returned (.bool true) ∧ Below w.heap.size w w' := by
 go_enter Tryd.func22, Tryd.ntmps22
 have M := Mem.start w
 refine qS fun _ k1 => ?_
 refine lg ?_; refine lZ k1 ?_
 refine qS fun _ k3 => ?_
 refine cM 6 fun Lk hLk => ?_
 refine vC (fun W => seed10_c) ?_
 refine vCh (v := .string (bs (leafS []))) (fun W hW => (leaf_c (d := []) (by decide) ((M.sees hW).oldL L1) ((M.sees hW).oldR R1_0 L1))) ?_
 refine vCh (v := .tuple #[.agg ([.int .i64 0, .string (bs (leafS [])), .int .i64 5, .string (bs (edS seedL (sgnL 0 5 (leafS []))))]).toArray, .int .i64 0]) (fun W hW => (hSign_ok (a := 0) (b := 5) (by decide) (by decide) (leafS_len _) (by decide) ((M.sees hW).oldL L2) ((M.sees hW).oldR R2_0 L2))) ?_
 refine vM ?_; refine vE ?_; refine vE ?_
 refine hLk _ fun w5 M => ?_
 refine nV 4 fun g6 w7 M => ?_
 refine sTs (segs' := [(0, [.int .i64 0]), (1, [.string (bs (leafS []))]), (2, [.int .i64 5]), (3, [.string (bs (edS seedL (sgnL 0 5 (leafS []))))])]) 0 fun w8 M => ?_
 refine lg ?_; refine lZ k3 ?_
 refine qS fun _ k9 => ?_
 refine lM ?_
 refine cM 10 fun Lk hLk => ?_
 refine vB (v := .bool true) (hr := run_eql _ _ _ _) ?_
 refine vM ?_
 refine vP (pvLf (cs := [.int .i64 0] ++ [.string (bs (leafS []))] ++ [.int .i64 5] ++ [.string (bs (edS seedL (sgnL 0 5 (leafS []))))]) (range_join (range_join (range_join (M.r 0 0 rfl rfl) (M.r 0 1 rfl rfl) (by simp [flen])) (M.r 0 2 rfl rfl) (by simp [flen])) (M.r 0 3 rfl rfl) (by simp [flen])) (M.lt 0 rfl)) ?_
 refine vC (v := .bool true) (args := #[.agg ([.int .i64 0] ++ [.string (bs (leafS []))] ++ [.int .i64 5] ++ [.string (bs (edS seedL (sgnL 0 5 (leafS []))))] : List Value).toArray]) (fun W => (by have h9 := hright_c (z := 0) (r := leafS []) (t := 5) (g := edS seedL (sgnL 0 5 (leafS []))) (w := W); rw [show rightH 0 (leafS []) 5 (edS seedL (sgnL 0 5 (leafS []))) = true from rightH_of (a := 0) (b := 5) (by decide) (by decide) (leafS_len _) (edS_len _ _)] at h9; exact h9)) ?_
 refine vK ?_; refine vM ?_; refine vF ?_; refine vc ?_
 refine vB (v := .bool true) (hr := run_eql _ _ _ _) ?_
 refine vK ?_
 refine hLk _ fun w11 M => ?_
 refine lg ?_; refine lZ k9 ?_; refine rt1 ?_
 exact ⟨rfl, M.below⟩
end Go.Proofs.Yc

namespace Go.Proofs.Yc
open Go Go.RowKit Go.Proofs.Num
open Tryd renaming underlying29 → U929, underlying3 → U93, underlying37 → U937, underlying40 → U940, underlying5 → U95, underlying9 → U99
open Go.Proofs.Num  renaming putT → Z0
open Nat renaming zero_add → Z2, mod_eq_of_lt → Z5
open List renaming set → Z6, take → Z7, drop → Z8
open Go renaming undef → Z9
open Go.Proofs.Num renaming wp_region_seq → Z13, wpL_nil → Z14, no_panic → Z15, wpV_nil → Z19, then_normal → Z22
attribute [local irreducible] wpV wpN wpList
open Go.Proofs.Ya
theorem beL_succ (i n : Nat) : beL (i + 1) n = [UInt8.ofNat (n / 256 ^ i % 256)] ++ beL i n := by
 unfold beL
 rw [List.range_succ_eq_map, List.map_cons, List.map_map, List.singleton_append]
 congr 1
 ·
  rw [show i + 1 - 1 - 0 = i by omega]
  apply UInt8.toNat_inj.1
  simp
 refine List.map_congr_left fun j hj => ?_
 have := List.mem_range.1 hj
 simp only [Function.comp, Nat.succ_eq_add_one]
 rw [show i + 1 - 1 - (j + 1) = i - 1 - j by omega]
set_option maxHeartbeats 2000000 in
theorem rbig_c {n v : Nat} {w : World} (hn : n < 18446744073709551616) (hv : v ≤ 64) :
  Calls Tryd.prog 72 #[.int .u64 n, .int .i64 v] w fun e w' => e = .returned (.string (bs (beL v n))) ∧ Below w.heap.size w w' := by
 go_enter Tryd.func72, Tryd.ntmps72
 have M := Mem.start w
 refine qS fun _ k1 => ?_
 refine lg ?_; refine lZ k1 ?_
 refine qS fun _ k3 => ?_
 refine lg ?_; refine lZ k3 ?_
 refine sk fun _ k5 => ?_
 refine qS fun _ k6 => ?_
 refine lg ?_; refine lZ k6 ?_; refine wp_block ?_
 refine wp_loop_ghost (fun n9 a9 W9 => ∃ (i : Nat) (m : Nat) (o : List UInt8) (u8_7 u8_8 u8_9 u8_10 u8_11 u8_12 u8_13 u8_14 u8_15 u8_16 u8_17 u8_18 u8_19 u8_20 : Value), n9 = 2 * (v - i) ∧ a9 = { tmps := #[.int .u64 m, .int .i64 v, Z9, Z9, .string (bs ([])), .string (bs o), .int .i64 i, u8_7, u8_8, u8_9, u8_10, u8_11, u8_12, u8_13, u8_14, u8_15, u8_16, u8_17, u8_18, u8_19, u8_20, Z9], defers := [] } ∧ Mem [] w W9 [] ∧ (i ≤ v) ∧ (m = n / 256 ^ i) ∧ (o = beL i n)) (2 * (v - (0))) ?_ (fun n9 a9 W9 hI => ?_)
 ·
  exact ⟨0, n, ([]), _, _, _, _, _, _, _, _, _, _, _, _, _, _, rfl, rfl, M, (Nat.zero_le _), (by rw [Nat.pow_zero, Nat.div_one]), rfl⟩
 clear M
 obtain ⟨i, m, o, u8_7, u8_8, u8_9, u8_10, u8_11, u8_12, u8_13, u8_14, u8_15, u8_16, u8_17, u8_18, u8_19, u8_20, rfl, rfl, M, hi4, hm, ho⟩ := hI
 obtain ⟨w9, rfl⟩ : ∃ W8, W8 = W9 := ⟨_, rfl⟩
 refine sk fun _ k10 => ?_
 refine qS fun _ k11 => ?_
 refine lM ?_; refine lM ?_
 refine cM 1 fun Lk hLk => ?_
 refine vB (v := .bool (decide (i < v))) (hr := run_lssN i v _ _) ?_
 refine hLk _ fun w13 M => ?_
 refine lZ k11 ?_
 cases hc14 : (decide (i < v))
 ·
  have ei : v = i := by have := of_decide_eq_false hc14; omega
  subst ei
  refine cF ?_; refine eZ k5 ?_
  refine qS fun _ k15 => ?_
  refine lM ?_; refine lg ?_; refine lZ k15 ?_; refine rt1 ?_
  have BE := M.below
  exact ⟨by (rw [ho]; try rfl), BE⟩
 have hi : i < v := of_decide_eq_true hc14
 have hm9 : m < 18446744073709551616 := by rw [hm]; exact Nat.lt_of_le_of_lt (Nat.div_le_self _ _) hn
 refine cT ?_; refine sZ k10 ?_
 refine sk fun _ k17 => ?_
 refine wp_block ?_
 refine qS fun _ k18 => ?_
 refine lM ?_
 refine cM 2 fun Lk hLk => ?_
 refine vB (v := .int .u64 (m % 256 : Nat)) (hr := nr_rem64 (x := m) (y := 256) (by decide)) ?_
 refine wpV_conv (d := .bool) (e := ((m % 256 : Nat) : Int)) (by rfl) rfl rfl (run_conv_int U940 U95 (by rw [wrap_u8N]; omega)) ?_
 simp only [Z0, Z6]
 refine hLk _ fun w20 M => ?_
 refine wpL_rowN (vs := [.int .u8 (m % 256 : Nat)]) (z := .int .u8 0) (bytes := 1) (by rfl) (by rfl) U929 (by kernel_rfl) (by decide) (by kernel_rfl) (fun g21 w22 Sw22 Hg21 Bg21 => ?_)
 replace M := ((M.sees Sw22).add (N := 1) (cs := [.int .u8 (m % 256 : Nat)]) (M.ge Hg21) (M.fresh Hg21) Bg21 rfl)
 clear Bg21
 simp only [Z0, Z6]
 refine cM 3 fun Lk hLk => ?_
 replace M := M.read1 (cs := bcells [UInt8.ofNat (m % 256)]) 0 rfl (by rw [bcells_one9 (Nat.mod_lt _ (by decide))]; exact (M.r 0 0 rfl rfl))
 simp only [Z6] at M
 refine wpV_b2s (l := [UInt8.ofNat (m % 256)]) (by rfl) rfl rfl rfl U929 U95 U99 (M.r 0 0 rfl rfl) (M.lt 0 rfl) ?_
 simp only [Z0, Z6]
 refine vM ?_
 refine wpV_binS (v := .string (bs (([UInt8.ofNat (m % 256)]) ++ o))) (by rfl) rfl rfl rfl (run_add_bs _ _ _ (by rw [ho, beL_len, List.length_singleton]; omega)) ?_
 simp only [Z0, Z6]
 refine hLk _ fun w23 M => ?_
 refine lg ?_; refine lZ k18 ?_; refine Z13 ?_; refine lM ?_
 refine cM 1 fun Lk hLk => ?_
 refine vB (v := .int .u64 (m / 256 : Nat)) (hr := nr_quo64 (x := m) (y := 256) (by decide) (by omega)) ?_
 refine hLk _ fun w25 M => ?_
 refine lg ?_; refine lZ k17 ?_; refine Z13 ?_; refine lM ?_
 refine cM 1 fun Lk hLk => ?_
 refine vB (v := .int .i64 (i + 1 : Nat)) (hr := run_add (by simp only [IntKind.wrap_i64]; omega)) ?_
 refine hLk _ fun w27 M => ?_
 refine lg ?_
 refine Z14 (Z15 ?_)
 refine Exists.intro _ ⟨?_, (i + 1), (m / 256), ([UInt8.ofNat (m % 256)] ++ o), _, _, _, _, _, _, _, _, _, _, _, _, _, _, rfl, rfl, (M.pick [] (by decide) rfl), (by omega), (by rw [hm, Nat.pow_succ, ← Nat.div_div_eq_div_mul]), (by rw [hm, ho, beL_succ])⟩
 omega
set_option maxHeartbeats 2000000 in
theorem rpack_c {ps : List (List UInt8)} {g0 cg0 : Nat} {w : World} (hq : ps.length ≤ 64) (hp : packN ps ≤ 65536) (hcg0 : ps.length ≤ cg0) (Lg0 : g0 < w.heap.size) (Rg0_0 : w.rangeAt g0 0 (scells ps)) :
  Calls Tryd.prog 64 #[.slice (some ⟨g0, 0, none⟩) ps.length cg0] w fun e w' => e = .returned (.tuple #[.string (bs (packL ps)), .int .i64 0]) ∧ Below w.heap.size w w' := by
 go_enter Tryd.func64, Tryd.ntmps64
 have M := Mem.start w
 refine qS fun _ k1 => ?_
 refine lg ?_; refine lg ?_; refine lZ k1 ?_
 refine sk fun _ k3 => ?_
 refine qS fun _ k4 => ?_
 refine lM ?_
 refine cM 2 fun Lk hLk => ?_
 refine wpV_lenA (n := ps.length) (by rfl) rfl rfl rfl U937 ?_
 simp only [Z0, Z6]
 refine vB (v := .bool false) (hr := fun W => (run_gtrN ps.length 64 _ _ W).trans (by rw [(decide_eq_false (by omega))])) ?_
 refine hLk _ fun w6 M => ?_
 refine lZ k4 ?_; refine cF ?_; refine sZ k3 ?_
 refine qS fun _ k7 => ?_
 refine lg ?_; refine lZ k7 ?_
 refine sk fun _ k9 => ?_
 refine qS fun _ k10 => ?_
 refine lM ?_
 refine cM 1 fun Lk hLk => ?_
 refine wpV_lenA (n := ps.length) (by rfl) rfl rfl rfl U937 ?_
 simp only [Z0, Z6]
 refine hLk _ fun w12 M => ?_
 refine lM ?_; refine lZ k10 ?_; refine wp_block ?_
 refine wp_loop_ghost (fun n9 a9 W9 => ∃ (k : Nat) (o : List UInt8) (u13 : Nat → Value), n9 = 2 * (ps.length - k) ∧ a9 = { tmps := #[.slice (some ⟨g0, 0, none⟩) ps.length cg0, Z9, u13 2, u13 3, .string (bs o), Z9, u13 6, .slice (some ⟨g0, 0, none⟩) ps.length cg0, .int .i64 ps.length, .bool false, .slice (some ⟨g0, 0, none⟩) ps.length cg0, .int .i64 ps.length, .int .i64 k, u13 13, u13 14, u13 15, u13 16, u13 17, u13 18, u13 19, u13 20, u13 21, u13 22, u13 23, u13 24, u13 25, u13 26, u13 27, u13 28, u13 29, u13 30, u13 31, u13 32, u13 33, u13 34, u13 35, u13 36, Z9], defers := [] } ∧ Mem [] w W9 [] ∧ (k ≤ ps.length) ∧ (o = packL (ps.take k))) (2 * (ps.length - (0))) ?_ (fun n9 a9 W9 hI => ?_)
 ·
  exact ⟨0, ([]), (fun q9 => (#[Z9, Z9, .string (bs ([])), .int .i64 0, Z9, Z9, Z9, Z9, Z9, Z9, Z9, Z9, Z9, Z9, Z9, Z9, Z9, Z9, Z9, Z9, Z9, Z9, Z9, Z9, Z9, Z9, Z9, Z9, Z9, Z9, Z9, Z9, Z9, Z9, Z9, Z9, Z9] : Array Value).getD q9 Z9), rfl, rfl, M, (Nat.zero_le _), rfl⟩
 clear M
 obtain ⟨k, o, u13, rfl, rfl, M, hk4, ho⟩ := hI
 obtain ⟨w14, rfl⟩ : ∃ W8, W8 = W9 := ⟨_, rfl⟩
 refine qS fun _ k15 => ?_
 refine cM 1 fun Lk hLk => ?_
 refine vB (v := .bool (decide (k < ps.length))) (hr := run_lssN k ps.length _ _) ?_
 refine hLk _ fun w17 M => ?_
 refine lZ k15 ?_
 refine sk fun _ k18 => ?_
 cases hc19 : (decide (k < ps.length))
 ·
  have ek : k = ps.length := by have := of_decide_eq_false hc19; omega
  subst ek
  refine cF ?_; refine eZ k9 ?_
  refine qS fun _ k20 => ?_
  refine lM ?_; refine lg ?_; refine lg ?_; refine lZ k20 ?_; refine rt2 ?_
  have BE := M.below
  exact ⟨by (rw [ho, List.take_length]; try rfl), BE⟩
 have hk : k < ps.length := of_decide_eq_true hc19
 have hpk := packN_take hk
 have hol : o.length = packN (ps.take k) := by rw [ho, packL_len]
 have hg9 : (ps.getD k []).length < 18446744073709551616 := by omega
 refine cT ?_; refine sZ k18 ?_
 refine sk fun _ k22 => ?_
 refine wp_block ?_
 refine qS fun _ k23 => ?_
 refine cM 2 fun Lk hLk => ?_
 refine wpV_idxs (n := k) (by rfl) rfl rfl rfl U937 info9 (by omega) ?_
 simp only [Z2]
 simp only [Z0, Z6]
 refine vQ (v := .string (bs (ps.getD k []))) (hc := (zadd ((M.oldR Rg0_0 Lg0) _ _ (scells_get (ps := ps) (by omega))))) (hb := (M.oldL Lg0)) ?_
 refine hLk _ fun w25 M => ?_
 refine lg ?_; refine lZ k23 ?_
 refine sk fun _ k26 => ?_
 refine qS fun _ k27 => ?_
 refine lM ?_
 refine cM 11 fun Lk hLk => ?_
 refine wpV_lenS (by rfl) rfl rfl rfl U99 ?_
 simp only [Z0, Z6]
 refine vB (v := .bool false) (hr := fun W => (run_gtrN ((ps.getD k []).length) 65536 _ _ W).trans (by rw [(decide_eq_false (by omega))])) ?_
 refine vM ?_; refine vM ?_
 refine wpV_lenS (by rfl) rfl rfl rfl U99 ?_
 simp only [Z0, Z6]
 refine vB (v := .int .i64 (o.length + 4 : Nat)) (hr := run_add (by simp only [IntKind.wrap_i64]; omega)) ?_
 refine vM ?_
 refine wpV_lenS (by rfl) rfl rfl rfl U99 ?_
 simp only [Z0, Z6]
 refine vB (v := .int .i64 (o.length + 4 + (ps.getD k []).length : Nat)) (hr := run_add (by simp only [IntKind.wrap_i64]; omega)) ?_
 refine vB (v := .bool false) (hr := fun W => (run_gtrN (o.length + 4 + (ps.getD k []).length) 65536 _ _ W).trans (by rw [(decide_eq_false (by omega))])) ?_
 refine vK ?_
 refine hLk _ fun w29 M => ?_
 refine lZ k27 ?_; refine cF ?_; refine sZ k26 ?_; refine Z13 ?_; refine lM ?_; refine lM ?_
 refine cM 6 fun Lk hLk => ?_
 refine wpV_lenS (by rfl) rfl rfl rfl U99 ?_
 simp only [Z0, Z6]
 refine wpV_conv (d := .bool) (e := (((ps.getD k []).length : Nat) : Int)) (by rfl) rfl rfl (run_conv_int U93 U940 ((wrap64N _).trans (congrArg _ (Z5 (by omega))))) ?_
 simp only [Z0, Z6]
 refine vC (v := .string (bs (beL 4 ((ps.getD k []).length)))) (args := #[.int .u64 ((ps.getD k []).length : Nat), .int .i64 4]) (fun W => (by have h9 := rbig_c (n := (ps.getD k []).length) (v := 4) (w := W) (by omega) (by decide); exact h9)) ?_
 refine wpV_binS (v := .string (bs (o ++ (beL 4 ((ps.getD k []).length))))) (by rfl) rfl rfl rfl (run_add_bs _ _ _ (by simp only [List.length_append, beL_len]; omega)) ?_
 simp only [Z0, Z6]
 refine vM ?_
 refine wpV_binS (v := .string (bs ((o ++ (beL 4 ((ps.getD k []).length))) ++ (ps.getD k [])))) (by rfl) rfl rfl rfl (run_add_bs _ _ _ (by simp only [List.length_append, beL_len]; omega)) ?_
 simp only [Z0, Z6]
 refine hLk _ fun w31 M => ?_
 refine lg ?_; refine lZ k22 ?_; refine Z13 ?_
 refine cM 1 fun Lk hLk => ?_
 refine vB (v := .int .i64 (k + 1 : Nat)) (hr := run_add (by simp only [IntKind.wrap_i64]; omega)) ?_
 refine hLk _ fun w33 M => ?_
 refine lM ?_
 refine Z14 (Z15 ?_)
 refine Exists.intro _ ⟨?_, (k + 1), ((o ++ beL 4 (ps.getD k []).length) ++ (ps.getD k [])), (fun q9 => (#[Z9, Z9, u13 2, u13 3, Z9, Z9, .string (bs (ps.getD k [])), Z9, Z9, Z9, Z9, Z9, Z9, .bool true, .pointer (some ⟨g0, k, none⟩), .string (bs (ps.getD k [])), .string (bs (ps.getD k [])), .int .i64 ((ps.getD k []).length : Nat), .bool false, .bool false, .string (bs o), .int .i64 o.length, .int .i64 (o.length + 4 : Nat), .string (bs (ps.getD k [])), .int .i64 ((ps.getD k []).length : Nat), .int .i64 (o.length + 4 + (ps.getD k []).length : Nat), .bool false, .bool false, .string (bs o), .string (bs (ps.getD k [])), .int .i64 ((ps.getD k []).length : Nat), .int .u64 ((ps.getD k []).length : Nat), .string (bs (beL 4 ((ps.getD k []).length))), .string (bs (o ++ (beL 4 ((ps.getD k []).length)))), .string (bs (ps.getD k [])), .string (bs ((o ++ (beL 4 ((ps.getD k []).length))) ++ (ps.getD k []))), .int .i64 (k + 1 : Nat)] : Array Value).getD q9 Z9), rfl, rfl, M, (by omega), (by rw [ho, packL_take hk])⟩
 omega
set_option maxHeartbeats 2000000 in
theorem rsigned_c {a b : Nat} {r g : List UInt8} {w : World} (ha : a ≤ 4096) (hb : b ≤ 1099511627776) (hr : r.length = 32) :
  Calls Tryd.prog 32 #[.agg ([.int .i64 a, .string (bs r), .int .i64 b, .string (bs g)]).toArray] w fun e w' => e = .returned (.string (bs (sgnL a b r))) ∧ Below w.heap.size w w' := by
 go_enter Tryd.func32, Tryd.ntmps32
 have M := Mem.start w
 refine qS fun _ k1 => ?_
 refine nVs (segs := [(0, [.int .i64 a]), (1, [.string (bs r)]), (2, [.int .i64 b]), (3, [.string (bs g)])]) 4 fun g3 w4 M => ?_
 refine lg ?_; refine lZ k1 ?_
 refine sk fun _ k5 => ?_
 refine wp_region_addsF 15 [14] [10] [ValRel (.pointer (some ⟨g3, 0, none⟩)), ValRel (.int .i64 a), ValRel (.int .u64 a), ValRel (.string (bs (beL 8 a))), ValRel (.pointer (some ⟨g3, 2, none⟩)), ValRel (.int .i64 b), ValRel (.int .u64 b), ValRel (.string (bs (beL 8 b))), ValRel (.pointer (some ⟨g3, 1, none⟩)), ValRel (.string (bs r)), BoxRel w4 (fun gA => .slice (some ⟨gA, 0, none⟩) 4 4) 4 [(0, [.string (bs headL), .string (bs (beL 8 a)), .string (bs (beL 8 b)), .string (bs r)])], ValRel (.tuple #[.string (bs (sgnL a b r)), .int .i64 0]), ValRel (.tuple #[.string (bs (sgnL a b r)), .int .i64 0]), ValRel (.string (bs (sgnL a b r))), ValRel (.int .i64 0)] [[], [0], [1], [2], [], [4], [5], [6], [], [8], [3, 7, 9], [10], [11], [12], [12]] (fun vs => { tmps := #[.agg ([.int .i64 a, .string (bs r), .int .i64 b, .string (bs g)]).toArray, .pointer (some ⟨g3, 0, none⟩), .string (bs ([])), Z9, Z9, vs 12, vs 0, vs 1, vs 2, vs 3, vs 4, vs 5, vs 6, vs 7, vs 8, vs 9, vs 10, vs 11, vs 13, vs 14, Z9], defers := [] }) (by kernel_rfl) (by kernel_rfl) (by kernel_rfl) (by kernel_rfl) (.cons keep_val (.cons keep_val (.cons keep_val (.cons keep_val (.cons keep_val (.cons keep_val (.cons keep_val (.cons keep_val (.cons keep_val (.cons keep_val (.cons keep_box (.cons keep_val (.cons keep_val (.cons keep_val (.cons keep_val AllKeep.nil))))))))))))))) (.free free_val (.free free_val (.free free_val (.free free_val (.free free_val (.free free_val (.free free_val (.free free_val (.free free_val (.free free_val (.free free_box (.free free_val (.free free_val (.free free_val (.free free_val AllLoc.nil))))))))))))))) (.cons own_box AllOwn.nil) (by kernel_rfl) ?_ ?_
 ·
  simp only [Z7]
  refine RulesL.cons (fun vs => { tmps := #[.agg ([.int .i64 a, .string (bs r), .int .i64 b, .string (bs g)]).toArray, .pointer (some ⟨g3, 0, none⟩), .string (bs ([])), Z9, Z9, Z9, Z9, Z9, Z9, Z9, Z9, Z9, Z9, Z9, Z9, Z9, Z9, Z9, Z9, Z9, Z9], defers := [] }) (by kernel_rfl) ?_ ?_
  ·
   intro vs gs W8 SW8 D K9 k9
   replace M := M.sees SW8
   dsimp only at k9
   try dsimp only
   refine lCh 1 (fun Lk hLk => ?_)
   refine vF ?_
   refine Z19 (hLk _ (fun w9 Sw9 => ?_))
   simp only [Z7, Z8]
   replace M := M.sees Sw9
   refine Z14 (Z22 ?_)
   have h8 := k9 (.pointer (some ⟨g3, 0, none⟩))
   have h9 := h8 0 _ Sw9 rfl (fun h => absurd h (by decide))
   simp only [Z0, Z6] at h9
   exact h9
  refine RulesL.cons (fun vs => { tmps := #[.agg ([.int .i64 a, .string (bs r), .int .i64 b, .string (bs g)]).toArray, .pointer (some ⟨g3, 0, none⟩), .string (bs ([])), Z9, Z9, Z9, vs 0, Z9, Z9, Z9, Z9, Z9, Z9, Z9, Z9, Z9, Z9, Z9, Z9, Z9, Z9], defers := [] }) (by kernel_rfl) ?_ ?_
  ·
   intro vs gs W10 SW10 D K9 k9
   replace M := M.sees SW10
   obtain ⟨D0, _⟩ := D
   have e0 : vs 0 = .pointer (some ⟨g3, 0, none⟩) := D0
   dsimp only at k9
   try dsimp only
   rw [e0] at k9 ⊢
   refine lCh 1 (fun Lk hLk => ?_)
   refine vc ?_
   refine Z19 (hLk _ (fun w11 Sw11 => ?_))
   simp only [Z7, Z8]
   replace M := M.sees Sw11
   refine Z14 (Z22 ?_)
   have h8 := k9 (.int .i64 a)
   have h9 := h8 0 _ Sw11 rfl (fun h => absurd h (by decide))
   simp only [Z0, Z6] at h9
   exact h9
  refine RulesL.cons (fun vs => { tmps := #[.agg ([.int .i64 a, .string (bs r), .int .i64 b, .string (bs g)]).toArray, .pointer (some ⟨g3, 0, none⟩), .string (bs ([])), Z9, Z9, Z9, Z9, vs 1, Z9, Z9, Z9, Z9, Z9, Z9, Z9, Z9, Z9, Z9, Z9, Z9, Z9], defers := [] }) (by kernel_rfl) ?_ ?_
  ·
   intro vs gs W12 SW12 D K9 k9
   replace M := M.sees SW12
   obtain ⟨D1, _⟩ := D
   have e1 : vs 1 = .int .i64 a := D1
   dsimp only at k9
   try dsimp only
   rw [e1] at k9 ⊢
   refine lCh 1 (fun Lk hLk => ?_)
   refine wpV_conv (d := .bool) (e := ((a : Nat) : Int)) (by rfl) rfl rfl (run_conv_int U93 U940 ((wrap64N _).trans (congrArg _ (Z5 (by omega))))) ?_
   simp only [Z0, Z6]
   refine Z19 (hLk _ (fun w13 Sw13 => ?_))
   simp only [Z7, Z8]
   replace M := M.sees Sw13
   refine Z14 (Z22 ?_)
   have h8 := k9 (.int .u64 a)
   have h9 := h8 0 _ Sw13 rfl (fun h => absurd h (by decide))
   simp only [Z0, Z6] at h9
   exact h9
  refine RulesL.cons (fun vs => { tmps := #[.agg ([.int .i64 a, .string (bs r), .int .i64 b, .string (bs g)]).toArray, .pointer (some ⟨g3, 0, none⟩), .string (bs ([])), Z9, Z9, Z9, Z9, Z9, vs 2, Z9, Z9, Z9, Z9, Z9, Z9, Z9, Z9, Z9, Z9, Z9, Z9], defers := [] }) (by kernel_rfl) ?_ ?_
  ·
   intro vs gs W14 SW14 D K9 k9
   replace M := M.sees SW14
   obtain ⟨D2, _⟩ := D
   have e2 : vs 2 = .int .u64 a := D2
   dsimp only at k9
   try dsimp only
   rw [e2] at k9 ⊢
   refine lCh 1 (fun Lk hLk => ?_)
   refine vC (v := .string (bs (beL 8 a))) (args := #[.int .u64 a, .int .i64 8]) (fun W => (by have h9 := rbig_c (n := a) (v := 8) (w := W) (by omega) (by decide); exact h9)) ?_
   refine Z19 (hLk _ (fun w15 Sw15 => ?_))
   simp only [Z7, Z8]
   replace M := M.sees Sw15
   refine Z14 (Z22 ?_)
   have h8 := k9 (.string (bs (beL 8 a)))
   have h9 := h8 0 _ Sw15 rfl (fun h => absurd h (by decide))
   simp only [Z0, Z6] at h9
   exact h9
  refine RulesL.cons (fun vs => { tmps := #[.agg ([.int .i64 a, .string (bs r), .int .i64 b, .string (bs g)]).toArray, .pointer (some ⟨g3, 0, none⟩), .string (bs ([])), Z9, Z9, Z9, Z9, Z9, Z9, Z9, Z9, Z9, Z9, Z9, Z9, Z9, Z9, Z9, Z9, Z9, Z9], defers := [] }) (by kernel_rfl) ?_ ?_
  ·
   intro vs gs W16 SW16 D K9 k9
   replace M := M.sees SW16
   dsimp only at k9
   try dsimp only
   refine lCh 1 (fun Lk hLk => ?_)
   refine vF ?_
   refine Z19 (hLk _ (fun w17 Sw17 => ?_))
   simp only [Z7, Z8]
   replace M := M.sees Sw17
   refine Z14 (Z22 ?_)
   have h8 := k9 (.pointer (some ⟨g3, 2, none⟩))
   have h9 := h8 0 _ Sw17 rfl (fun h => absurd h (by decide))
   simp only [Z0, Z6] at h9
   exact h9
  refine RulesL.cons (fun vs => { tmps := #[.agg ([.int .i64 a, .string (bs r), .int .i64 b, .string (bs g)]).toArray, .pointer (some ⟨g3, 0, none⟩), .string (bs ([])), Z9, Z9, Z9, Z9, Z9, Z9, Z9, vs 4, Z9, Z9, Z9, Z9, Z9, Z9, Z9, Z9, Z9, Z9], defers := [] }) (by kernel_rfl) ?_ ?_
  ·
   intro vs gs W18 SW18 D K9 k9
   replace M := M.sees SW18
   obtain ⟨D4, _⟩ := D
   have e4 : vs 4 = .pointer (some ⟨g3, 2, none⟩) := D4
   dsimp only at k9
   try dsimp only
   rw [e4] at k9 ⊢
   refine lCh 1 (fun Lk hLk => ?_)
   refine vc ?_
   refine Z19 (hLk _ (fun w19 Sw19 => ?_))
   simp only [Z7, Z8]
   replace M := M.sees Sw19
   refine Z14 (Z22 ?_)
   have h8 := k9 (.int .i64 b)
   have h9 := h8 0 _ Sw19 rfl (fun h => absurd h (by decide))
   simp only [Z0, Z6] at h9
   exact h9
  refine RulesL.cons (fun vs => { tmps := #[.agg ([.int .i64 a, .string (bs r), .int .i64 b, .string (bs g)]).toArray, .pointer (some ⟨g3, 0, none⟩), .string (bs ([])), Z9, Z9, Z9, Z9, Z9, Z9, Z9, Z9, vs 5, Z9, Z9, Z9, Z9, Z9, Z9, Z9, Z9, Z9], defers := [] }) (by kernel_rfl) ?_ ?_
  ·
   intro vs gs W20 SW20 D K9 k9
   replace M := M.sees SW20
   obtain ⟨D5, _⟩ := D
   have e5 : vs 5 = .int .i64 b := D5
   dsimp only at k9
   try dsimp only
   rw [e5] at k9 ⊢
   refine lCh 1 (fun Lk hLk => ?_)
   refine wpV_conv (d := .bool) (e := ((b : Nat) : Int)) (by rfl) rfl rfl (run_conv_int U93 U940 ((wrap64N _).trans (congrArg _ (Z5 (by omega))))) ?_
   simp only [Z0, Z6]
   refine Z19 (hLk _ (fun w21 Sw21 => ?_))
   simp only [Z7, Z8]
   replace M := M.sees Sw21
   refine Z14 (Z22 ?_)
   have h8 := k9 (.int .u64 b)
   have h9 := h8 0 _ Sw21 rfl (fun h => absurd h (by decide))
   simp only [Z0, Z6] at h9
   exact h9
  refine RulesL.cons (fun vs => { tmps := #[.agg ([.int .i64 a, .string (bs r), .int .i64 b, .string (bs g)]).toArray, .pointer (some ⟨g3, 0, none⟩), .string (bs ([])), Z9, Z9, Z9, Z9, Z9, Z9, Z9, Z9, Z9, vs 6, Z9, Z9, Z9, Z9, Z9, Z9, Z9, Z9], defers := [] }) (by kernel_rfl) ?_ ?_
  ·
   intro vs gs W22 SW22 D K9 k9
   replace M := M.sees SW22
   obtain ⟨D6, _⟩ := D
   have e6 : vs 6 = .int .u64 b := D6
   dsimp only at k9
   try dsimp only
   rw [e6] at k9 ⊢
   refine lCh 1 (fun Lk hLk => ?_)
   refine vC (v := .string (bs (beL 8 b))) (args := #[.int .u64 b, .int .i64 8]) (fun W => (by have h9 := rbig_c (n := b) (v := 8) (w := W) (by omega) (by decide); exact h9)) ?_
   refine Z19 (hLk _ (fun w23 Sw23 => ?_))
   simp only [Z7, Z8]
   replace M := M.sees Sw23
   refine Z14 (Z22 ?_)
   have h8 := k9 (.string (bs (beL 8 b)))
   have h9 := h8 0 _ Sw23 rfl (fun h => absurd h (by decide))
   simp only [Z0, Z6] at h9
   exact h9
  refine RulesL.cons (fun vs => { tmps := #[.agg ([.int .i64 a, .string (bs r), .int .i64 b, .string (bs g)]).toArray, .pointer (some ⟨g3, 0, none⟩), .string (bs ([])), Z9, Z9, Z9, Z9, Z9, Z9, Z9, Z9, Z9, Z9, Z9, Z9, Z9, Z9, Z9, Z9, Z9, Z9], defers := [] }) (by kernel_rfl) ?_ ?_
  ·
   intro vs gs W24 SW24 D K9 k9
   replace M := M.sees SW24
   dsimp only at k9
   try dsimp only
   refine lCh 1 (fun Lk hLk => ?_)
   refine vF ?_
   refine Z19 (hLk _ (fun w25 Sw25 => ?_))
   simp only [Z7, Z8]
   replace M := M.sees Sw25
   refine Z14 (Z22 ?_)
   have h8 := k9 (.pointer (some ⟨g3, 1, none⟩))
   have h9 := h8 0 _ Sw25 rfl (fun h => absurd h (by decide))
   simp only [Z0, Z6] at h9
   exact h9
  refine RulesL.cons (fun vs => { tmps := #[.agg ([.int .i64 a, .string (bs r), .int .i64 b, .string (bs g)]).toArray, .pointer (some ⟨g3, 0, none⟩), .string (bs ([])), Z9, Z9, Z9, Z9, Z9, Z9, Z9, Z9, Z9, Z9, Z9, vs 8, Z9, Z9, Z9, Z9, Z9, Z9], defers := [] }) (by kernel_rfl) ?_ ?_
  ·
   intro vs gs W26 SW26 D K9 k9
   replace M := M.sees SW26
   obtain ⟨D8, _⟩ := D
   have e8 : vs 8 = .pointer (some ⟨g3, 1, none⟩) := D8
   dsimp only at k9
   try dsimp only
   rw [e8] at k9 ⊢
   refine lCh 1 (fun Lk hLk => ?_)
   refine vc ?_
   refine Z19 (hLk _ (fun w27 Sw27 => ?_))
   simp only [Z7, Z8]
   replace M := M.sees Sw27
   refine Z14 (Z22 ?_)
   have h8 := k9 (.string (bs r))
   have h9 := h8 0 _ Sw27 rfl (fun h => absurd h (by decide))
   simp only [Z0, Z6] at h9
   exact h9
  refine RulesL.cons (fun vs => { tmps := #[.agg ([.int .i64 a, .string (bs r), .int .i64 b, .string (bs g)]).toArray, .pointer (some ⟨g3, 0, none⟩), .string (bs ([])), Z9, Z9, Z9, Z9, Z9, Z9, vs 3, Z9, Z9, Z9, vs 7, Z9, vs 9, Z9, Z9, Z9, Z9, Z9], defers := [] }) (by kernel_rfl) ?_ ?_
  ·
   intro vs gs W28 SW28 D K9 k9
   replace M := M.sees SW28
   have Rg3_0 := M.r 0 0 rfl rfl
   have Rg3_1 := M.r 0 1 rfl rfl
   have Rg3_2 := M.r 0 2 rfl rfl
   have Rg3_3 := M.r 0 3 rfl rfl
   have Lg3 := M.lt 0 rfl
   have BB := M.below
   replace M := Mem.start W28
   obtain ⟨D3, D7, D9, _⟩ := D
   have e3 : vs 3 = .string (bs (beL 8 a)) := D3
   have e7 : vs 7 = .string (bs (beL 8 b)) := D7
   have e9 : vs 9 = .string (bs r) := D9
   dsimp only at k9
   try dsimp only
   rw [e3, e7, e9] at k9 ⊢
   refine wpL_rowN (vs := [.string (bs headL), .string (bs (beL 8 a)), .string (bs (beL 8 b)), .string (bs r)]) (z := .string { data := #[] }) (bytes := 16) (by rfl) (by rfl) U937 (by kernel_rfl) (by decide) (by kernel_rfl) (fun g29 w30 Sw30 Hg29 Bg29 => ?_)
   replace M := ((M.sees Sw30).add (N := 4) (cs := [.string (bs headL), .string (bs (beL 8 a)), .string (bs (beL 8 b)), .string (bs r)]) (M.ge Hg29) (M.fresh Hg29) Bg29 rfl)
   clear Bg29
   simp only [Z0, Z6]
   refine Z14 (Z22 ?_)
   have h8 := k9 (.slice (some ⟨g29, 0, none⟩) 4 4)
   have h9 := h8 g29 _ M.seesAll ⟨rfl, (M.ok _ (.head _)).up SW28⟩ (fun _ => (M.ok _ (.head _)).ge)
   simp only [Z0, Z6] at h9
   exact h9
  refine RulesL.cons (fun vs => { tmps := #[.agg ([.int .i64 a, .string (bs r), .int .i64 b, .string (bs g)]).toArray, .pointer (some ⟨g3, 0, none⟩), .string (bs ([])), Z9, Z9, Z9, Z9, Z9, Z9, Z9, Z9, Z9, Z9, Z9, Z9, Z9, vs 10, Z9, Z9, Z9, Z9], defers := [] }) (by kernel_rfl) ?_ ?_
  ·
   intro vs gs W31 SW31 D K9 k9
   replace M := M.sees SW31
   have Rg3_0 := M.r 0 0 rfl rfl
   have Rg3_1 := M.r 0 1 rfl rfl
   have Rg3_2 := M.r 0 2 rfl rfl
   have Rg3_3 := M.r 0 3 rfl rfl
   have Lg3 := M.lt 0 rfl
   have BB := M.below
   replace M := Mem.start W31
   obtain ⟨D10, _⟩ := D
   obtain ⟨e10, Og32⟩ := D10
   generalize gs 10 = g32 at *
   replace e10 : vs 10 = .slice (some ⟨g32, 0, none⟩) 4 4 := e10
   have Rg32_0 := Og32.range (0, [.string (bs headL), .string (bs (beL 8 a)), .string (bs (beL 8 b)), .string (bs r)]) (by simp only [List.mem_cons, true_or, or_true])
   have Lg32 := Og32.lt
   dsimp only at k9
   try dsimp only
   rw [e10] at k9 ⊢
   refine cM 1 fun Lk hLk => ?_
   refine vCh (v := .tuple #[.string (bs (sgnL a b r)), .int .i64 0]) (args := #[.slice (some ⟨g32, 0, none⟩) 4 4]) (fun W hW => (by have h9 := rpack_c (ps := [headL, beL 8 a, beL 8 b, r]) (w := W) (by simp) (by rw [packN_sgn a b hr]; decide) (Nat.le_refl _) ((M.sees hW).oldL Lg32) ((M.sees hW).oldR Rg32_0 Lg32); exact h9)) ?_
   refine hLk _ fun w33 M => ?_
   refine Z14 (Z22 ?_)
   have h8 := k9 (.tuple #[.string (bs (sgnL a b r)), .int .i64 0])
   have h9 := h8 0 _ M.seesAll rfl (fun h => absurd h (by decide))
   simp only [Z0, Z6] at h9
   exact h9
  refine RulesL.cons (fun vs => { tmps := #[.agg ([.int .i64 a, .string (bs r), .int .i64 b, .string (bs g)]).toArray, .pointer (some ⟨g3, 0, none⟩), .string (bs ([])), Z9, Z9, Z9, Z9, Z9, Z9, Z9, Z9, Z9, Z9, Z9, Z9, Z9, Z9, vs 11, Z9, Z9, Z9], defers := [] }) (by kernel_rfl) ?_ ?_
  ·
   intro vs gs W34 SW34 D K9 k9
   replace M := M.sees SW34
   obtain ⟨D11, _⟩ := D
   have e11 : vs 11 = .tuple #[.string (bs (sgnL a b r)), .int .i64 0] := D11
   dsimp only at k9
   try dsimp only
   rw [e11] at k9 ⊢
   refine lM ?_
   refine Z14 (Z22 ?_)
   have h8 := k9 (.tuple #[.string (bs (sgnL a b r)), .int .i64 0])
   have h9 := h8 0 _ (sees_refl _) rfl (fun h => absurd h (by decide))
   simp only [Z0, Z6] at h9
   exact h9
  refine RulesL.cons (fun vs => { tmps := #[.agg ([.int .i64 a, .string (bs r), .int .i64 b, .string (bs g)]).toArray, .pointer (some ⟨g3, 0, none⟩), .string (bs ([])), Z9, Z9, vs 12, Z9, Z9, Z9, Z9, Z9, Z9, Z9, Z9, Z9, Z9, Z9, Z9, Z9, Z9, Z9], defers := [] }) (by kernel_rfl) ?_ ?_
  ·
   intro vs gs W35 SW35 D K9 k9
   replace M := M.sees SW35
   obtain ⟨D12, _⟩ := D
   have e12 : vs 12 = .tuple #[.string (bs (sgnL a b r)), .int .i64 0] := D12
   dsimp only at k9
   try dsimp only
   rw [e12] at k9 ⊢
   refine lCh 1 (fun Lk hLk => ?_)
   refine vE ?_
   refine Z19 (hLk _ (fun w36 Sw36 => ?_))
   simp only [Z7, Z8]
   replace M := M.sees Sw36
   refine Z14 (Z22 ?_)
   have h8 := k9 (.string (bs (sgnL a b r)))
   have h9 := h8 0 _ Sw36 rfl (fun h => absurd h (by decide))
   simp only [Z0, Z6] at h9
   exact h9
  refine RulesL.cons (fun vs => { tmps := #[.agg ([.int .i64 a, .string (bs r), .int .i64 b, .string (bs g)]).toArray, .pointer (some ⟨g3, 0, none⟩), .string (bs ([])), Z9, Z9, vs 12, Z9, Z9, Z9, Z9, Z9, Z9, Z9, Z9, Z9, Z9, Z9, Z9, Z9, Z9, Z9], defers := [] }) (by kernel_rfl) ?_ ?_
  ·
   intro vs gs W37 SW37 D K9 k9
   replace M := M.sees SW37
   obtain ⟨D12, _⟩ := D
   have e12 : vs 12 = .tuple #[.string (bs (sgnL a b r)), .int .i64 0] := D12
   dsimp only at k9
   try dsimp only
   rw [e12] at k9 ⊢
   refine lCh 1 (fun Lk hLk => ?_)
   refine vE ?_
   refine Z19 (hLk _ (fun w38 Sw38 => ?_))
   simp only [Z7, Z8]
   replace M := M.sees Sw38
   refine Z14 (Z22 ?_)
   have h8 := k9 (.int .i64 0)
   have h9 := h8 0 _ Sw38 rfl (fun h => absurd h (by decide))
   simp only [Z0, Z6] at h9
   exact h9
  exact RulesL.nil
 intro vs gs W39 SW39 D A9
 obtain ⟨D0, D1, D2, D3, D4, D5, D6, D7, D8, D9, D10, D11, D12, D13, D14, _⟩ := (show DepRel _ vs gs W39 [0, 1, 2, 3, 4, 5, 6, 7, 8, 9, 10, 11, 12, 13, 14] from D)
 clear A9 D
 have e0 : vs 0 = .pointer (some ⟨g3, 0, none⟩) := D0
 have e1 : vs 1 = .int .i64 a := D1
 have e2 : vs 2 = .int .u64 a := D2
 have e3 : vs 3 = .string (bs (beL 8 a)) := D3
 have e4 : vs 4 = .pointer (some ⟨g3, 2, none⟩) := D4
 have e5 : vs 5 = .int .i64 b := D5
 have e6 : vs 6 = .int .u64 b := D6
 have e7 : vs 7 = .string (bs (beL 8 b)) := D7
 have e8 : vs 8 = .pointer (some ⟨g3, 1, none⟩) := D8
 have e9 : vs 9 = .string (bs r) := D9
 obtain ⟨e10, Og40⟩ := D10
 generalize gs 10 = g40 at *
 replace e10 : vs 10 = .slice (some ⟨g40, 0, none⟩) 4 4 := e10
 have e11 : vs 11 = .tuple #[.string (bs (sgnL a b r)), .int .i64 0] := D11
 have e12 : vs 12 = .tuple #[.string (bs (sgnL a b r)), .int .i64 0] := D12
 have e13 : vs 13 = .string (bs (sgnL a b r)) := D13
 have e14 : vs 14 = .int .i64 0 := D14
 replace M := M.addOks SW39 [⟨g40, 4, [(0, [.string (bs headL), .string (bs (beL 8 a)), .string (bs (beL 8 b)), .string (bs r)])]⟩] (List.forall_mem_cons.2 ⟨Og40, (fun _ h => nomatch h)⟩) (.cons (fun _ h => nomatch h) .nil)
 simp only [List.cons_append, List.nil_append] at M
 try dsimp only
 simp only [e0, e1, e2, e3, e4, e5, e6, e7, e8, e9, e10, e11, e12, e13, e14, Z8]
 refine lg ?_; refine lg ?_; refine lZ k5 ?_
 refine qS fun _ k41 => ?_
 refine lM ?_; refine lg ?_; refine lZ k41 ?_; refine rt1 ?_
 exact ⟨rfl, M.below⟩
end Go.Proofs.Yc

namespace Go.Proofs.Yc
open Go Go.RowKit Go.Proofs.Num
open Nat renaming le_trans → Z3
theorem unpL_part : ∀ (k : Nat) (l : List UInt8) (ps : List (List UInt8)), unpL k l = some ps → ∀ p ∈ ps, p.length ≤ l.length := by
 intro k
 induction k with
 | zero =>
  intro l ps h p hp
  by_cases h1 : l = []
  ·
   rw [unpL, if_pos h1] at h
   have e := Option.some.inj h
   rw [← e] at hp
   cases hp
  rw [unpL, if_neg h1] at h
  cases h
 | succ k ih =>
  intro l ps h p hp
  by_cases h1 : l = []
  ·
   rw [unpL, if_pos h1] at h
   have e := Option.some.inj h
   rw [← e] at hp
   cases hp
  by_cases h2 : l.length < 4
  ·
   rw [unpL, if_neg h1, if_pos h2] at h
   cases h
  by_cases h3 : (l.drop 4).length < numN (l.take 4)
  ·
   rw [unpL, if_neg h1, if_neg h2, if_pos h3] at h
   cases h
  rw [unp_next h1 h2 h3] at h
  cases hq : unpL k ((l.drop 4).drop (numN (l.take 4))) with
  | none => rw [hq] at h; cases h
  | some qs =>
   rw [hq] at h
   have e : [(l.drop 4).take (numN (l.take 4))] ++ qs = ps := Option.some.inj h
   rw [← e] at hp
   rcases List.mem_cons.1 hp with e | e
   ·
    rw [e, List.length_take, List.length_drop]; omega
   have := ih _ _ hq p e
   rw [List.length_drop, List.length_drop] at this
   omega
theorem unpV_part {l : List UInt8} (hl : l.length ≤ 65536) (i : Nat) : ((unpV l).getD i []).length ≤ 65536 := by
 unfold unpV
 cases h : unpL 64 l with
 | none => simp
 | some ps =>
  simp only [Option.getD_some]
  rw [List.getD_eq_getElem?_getD]
  cases hp : ps[i]? with
  | none => simp
  | some p => exact Z3 (unpL_part _ _ _ h p (List.mem_of_getElem? hp)) hl
def numX (l : List UInt8) : Nat := if l.length ≤ 8 then numN l else 0
def numE (l : List UInt8) : Int := if l.length ≤ 8 then 0 else 1
def parI (s : List UInt8) : List (List UInt8) := unpV ((unpV s).getD 0 [])
def parZ (s : List UInt8) : Int := IntKind.i64.wrap ((numX ((parI s).getD 1 []) : Nat) : Int)
def parT (s : List UInt8) : Int := IntKind.i64.wrap ((numX ((parI s).getD 2 []) : Nat) : Int)
def parR (s : List UInt8) : List UInt8 := (parI s).getD 3 []
def parG (s : List UInt8) : List UInt8 := (unpV s).getD 1 []
theorem wrap_small {n : Nat} (h : n < 9223372036854775808) : IntKind.i64.wrap (n : Int) = (n : Int) := by
 simp only [IntKind.wrap_i64]
 omega
theorem unpV_tex (a b : Nat) {r g : List UInt8} (h : r.length = 32) (k : g.length = 64) : unpV (texL a b r g) = [sgnL a b r, g] := by
 unfold unpV
 rw [unp_tex a b h k]
 rfl
theorem unpV_sgn (a b : Nat) {r : List UInt8} (h : r.length = 32) : unpV (sgnL a b r) = [headL, beL 8 a, beL 8 b, r] := by
 unfold unpV
 rw [unp_sgn a b h]
 rfl
theorem parI_tex (a b : Nat) {r g : List UInt8} (h : r.length = 32) (k : g.length = 64) : parI (texL a b r g) = [headL, beL 8 a, beL 8 b, r] := by
 unfold parI
 rw [unpV_tex a b h k]
 exact unpV_sgn a b h
theorem numX_be {a : Nat} (h : a < 18446744073709551616) : numX (beL 8 a) = a := by
 unfold numX
 rw [if_pos (by rw [beL_len]; decide), num_be8 h]
/-- Where the parts of a head's text stand. -/
def plN (s : List UInt8) : Nat := numN ((s.take 24).drop 16)
def plT (s : List UInt8) : Nat := numN ((s.take 36).drop 28)
def plR (s : List UInt8) : List UInt8 := (s.take 72).drop 40
def plG (s : List UInt8) : List UInt8 := s.drop 76
theorem app_part {x y z s : List UInt8} {i j : Nat} (hs : s = x ++ (y ++ z)) (hx : x.length = i) (hy : i + y.length = j) : (s.take j).drop i = y := by
 subst hs
 subst hx
 subst hy
 rw [List.take_length_add_append, List.drop_left', List.take_left']
 ·
  rfl
 rfl
theorem tex_split (a b : Nat) {r g : List UInt8} (h : r.length = 32) (k : g.length = 64) : texL a b r g = beL 4 68 ++ (beL 4 4 ++ (headL ++ (beL 4 8 ++ (beL 8 a ++ (beL 4 8 ++ (beL 8 b ++ (beL 4 32 ++ (r ++ (beL 4 64 ++ g))))))))) := by
 unfold texL
 simp only [packL, sgnL_len a b h, k]
 unfold sgnL
 simp only [packL, beL_len, h, List.append_assoc, List.append_nil]
 rfl
theorem pl_tex (a b : Nat) {r g : List UInt8} (h : r.length = 32) (k : g.length = 64) (ha : a < 18446744073709551616) (hb : b < 18446744073709551616) :
  plN (texL a b r g) = a ∧ plT (texL a b r g) = b ∧ plR (texL a b r g) = r ∧ plG (texL a b r g) = g := by
 have e := tex_split a b h k
 have hl : headL.length = 4 := rfl
 refine ⟨?_, ?_, ?_, ?_⟩
 ·
  unfold plN
  rw [app_part (x := beL 4 68 ++ (beL 4 4 ++ (headL ++ beL 4 8))) (y := beL 8 a) (z := beL 4 8 ++ (beL 8 b ++ (beL 4 32 ++ (r ++ (beL 4 64 ++ g))))) (by rw [e]; simp only [List.append_assoc]) (by simp [beL_len, hl]) (by simp [beL_len]), num_be8 ha]
 ·
  unfold plT
  rw [app_part (x := beL 4 68 ++ (beL 4 4 ++ (headL ++ (beL 4 8 ++ (beL 8 a ++ beL 4 8))))) (y := beL 8 b) (z := beL 4 32 ++ (r ++ (beL 4 64 ++ g))) (by rw [e]; simp only [List.append_assoc]) (by simp [beL_len, hl]) (by simp [beL_len]), num_be8 hb]
 ·
  unfold plR
  exact app_part (x := beL 4 68 ++ (beL 4 4 ++ (headL ++ (beL 4 8 ++ (beL 8 a ++ (beL 4 8 ++ (beL 8 b ++ beL 4 32))))))) (y := r) (z := beL 4 64 ++ g) (by rw [e]; simp only [List.append_assoc]) (by simp [beL_len, hl]) (by rw [h])
 unfold plG
 have hlen : (beL 4 68 ++ (beL 4 4 ++ (headL ++ (beL 4 8 ++ (beL 8 a ++ (beL 4 8 ++ (beL 8 b ++ (beL 4 32 ++ (r ++ beL 4 64))))))))).length = 76 := by simp [beL_len, hl, h]
 rw [show texL a b r g = (beL 4 68 ++ (beL 4 4 ++ (headL ++ (beL 4 8 ++ (beL 8 a ++ (beL 4 8 ++ (beL 8 b ++ (beL 4 32 ++ (r ++ beL 4 64))))))))) ++ g by rw [e]; simp only [List.append_assoc], List.drop_left' hlen]
/-- That a text is a head's. -/
def IsTex (s : List UInt8) : Prop := ∃ a b r g, a ≤ 4096 ∧ b ≤ 1099511627776 ∧ r.length = 32 ∧ g.length = 64 ∧ texL a b r g = s
theorem pl_lens {s : List UInt8} (h : s.length = 140) : (plR s).length = 32 ∧ (plG s).length = 64 := by
 unfold plR plG
 simp [h]
/-- What the reference makes of a text that is none. -/
def plOk (s : List UInt8) : Bool := decide (s.length = 140) && decide (plN s ≤ 4096) && decide (plT s ≤ 1099511627776)
end Go.Proofs.Yc
namespace Go.Proofs.Yc
open Go Go.RowKit Go.Proofs.Num
def plz (s : List UInt8) : Int := if plOk s then (plN s : Int) else 0
def plt (s : List UInt8) : Int := if plOk s then (plT s : Int) else 0
def plr (s : List UInt8) : List UInt8 := if plOk s then plR s else []
def plg (s : List UInt8) : List UInt8 := if plOk s then plG s else []
theorem par_tex {a b : Nat} {r g : List UInt8} (ha : a ≤ 4096) (hb : b ≤ 1099511627776) (h : r.length = 32) (k : g.length = 64) :
  parZ (texL a b r g) = (a : Int) ∧ parT (texL a b r g) = (b : Int) ∧ parR (texL a b r g) = r ∧ parG (texL a b r g) = g := by
 unfold parZ parT parR parG
 rw [parI_tex a b h k, unpV_tex a b h k]
 refine ⟨?_, ?_, rfl, rfl⟩
 ·
  show IntKind.i64.wrap ((numX (beL 8 a) : Nat) : Int) = _
  rw [numX_be (by omega), wrap_small (by omega)]
 show IntKind.i64.wrap ((numX (beL 8 b) : Nat) : Int) = _
 rw [numX_be (by omega), wrap_small (by omega)]
theorem plOk_parts {s : List UInt8} (h : plOk s = true) : s.length = 140 ∧ plN s ≤ 4096 ∧ plT s ≤ 1099511627776 := by
 unfold plOk at h
 simp only [Bool.and_eq_true, decide_eq_true_eq] at h
 exact ⟨h.1.1, h.1.2, h.2⟩
theorem plOk_not {s : List UInt8} (h : plOk s = false) : s.length ≠ 140 ∨ (s.length = 140 ∧ (4096 < plN s ∨ 1099511627776 < plT s)) := by
 by_cases h1 : s.length = 140
 ·
  refine .inr ⟨h1, ?_⟩
  by_cases h2 : plN s ≤ 4096
  ·
   by_cases h3 : plT s ≤ 1099511627776
   ·
    unfold plOk at h
    simp [h1, h2, h3] at h
   exact .inr (by omega)
  exact .inl (by omega)
 exact .inl h1
end Go.Proofs.Yc

