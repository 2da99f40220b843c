import Derived.WalkKit
import Derived.WalkSpells
import Derived.Laws.Pointers
import Derived.RowKit3
import Derived.Below
import Derived.Outline
import Derived.LoopN
import Derived.Lib.Hide
import Derived.Handy
import Derived.Laws.Bits64b
import Derived.Test.YtpgpjoldelobdaaDoorF9
import Derived.Test.YtpgpjoldelobdaaDoorEqS
import Derived.Test.YtpgpjoldelobdaaDoorShq
import Derived.Test.YtpgpjoldelobdaaDoorF3
set_option linter.unusedSimpArgs false
set_option linter.unusedVariables false
namespace Go.Proofs.Yc
open Go Go.RowKit Go.Proofs.Num
open Tryd renaming underlying40 → U940, underlying86 → U986, underlying88 → U988
open Go.Proofs.Num  renaming putT → Z0
open List renaming set → Z6
open Go.Proofs.Num renaming wp_region_seq → Z13, wpL_nil → Z14, no_panic → Z15, then_normal → Z22, wpV_val → Z24
attribute [local irreducible] wpV wpN wpList
open Go.Proofs.Ya
theorem one4 (x y z t : Nat) : ∀ v ∈ fel x ++ fel y ++ fel z ++ fel t, v.oneCell' = true := by
 intro v hv
 simp only [List.mem_append] at hv
 rcases hv with ((h | h) | h) | h
 ·
  exact fel_one _ v h
 ·
  exact fel_one _ v h
 ·
  exact fel_one _ v h
 exact fel_one _ v h
theorem info88 : (Tryd.prog.info? 88).map (·.size) = some 16 := by kernel_rfl
set_option maxHeartbeats 1000000 in
theorem twisted_c  {w : World}  :
  Calls Tryd.prog 129 #[] w fun e w' => e = .returned (fe dF) ∧ Below w.heap.size w w' := by
 go_enter Tryd.func129, Tryd.ntmps129
 have M := Mem.start w
 refine qS fun _ k1 => ?_
 refine nV 4 fun g3 w4 M => ?_
 refine lZ k1 ?_
 refine qS fun _ k5 => ?_
 refine cM 1 fun Lk hLk => ?_
 refine Z24 (v := fe 37095705934669439343138083508754565189542113879843219016388785533085940283555) (by rfl) (by rfl) (fun W hW => ?_) ?_
 ·
  rw [show fe 37095705934669439343138083508754565189542113879843219016388785533085940283555 = .agg ([.int .u64 8496970652267935907, .int .u64 31536524315187371, .int .u64 10144147576115030168, .int .u64 5909686906226998899]).toArray from (by kernel_rfl)]; unfold RunsVal; kernel_rfl
 simp only [Z0, Z6]
 refine hLk _ fun w7 M => ?_
 refine sT 0 0 fun w8 M => ?_
 refine lZ k5 ?_; refine rt ?_
 refine bodyPost_ret (v := fe 37095705934669439343138083508754565189542113879843219016388785533085940283555) (res1 rfl (.cell (by rfl) (run_loadVar_mid _ _ _ _ (fel 37095705934669439343138083508754565189542113879843219016388785533085940283555) _ (M.r 0 0 rfl rfl) U986 rfl info86))) rfl ?_
 exact ⟨rfl, M.below⟩
set_option maxHeartbeats 1000000 in
theorem affine_c {x y : Nat} {w : World} (hx : x < 2 ^ 256) (hy : y < 2 ^ 256) :
  Calls Tryd.prog 92 #[fe x, fe y] w fun e w' => e = .returned (.agg (fel (affP x y).x ++ fel (affP x y).y ++ fel (affP x y).z ++ fel (affP x y).t : List Value).toArray) ∧ Below w.heap.size w w' := by
 go_enter Tryd.func92, Tryd.ntmps92
 have M := Mem.start w
 refine qS fun _ k1 => ?_
 refine nV 4 fun g3 w4 M => ?_
 refine nV 4 fun g5 w6 M => ?_
 refine nVs (segs := [(0, [.int .u64 0, .int .u64 0, .int .u64 0, .int .u64 0]), (4, [.int .u64 0, .int .u64 0, .int .u64 0, .int .u64 0]), (8, [.int .u64 0, .int .u64 0, .int .u64 0, .int .u64 0]), (12, [.int .u64 0, .int .u64 0, .int .u64 0, .int .u64 0])]) 16 fun g7 w8 M => ?_
 refine lZ k1 ?_
 refine sk fun _ k9 => ?_
 refine rG 7 [] fun Lk hLk => ?_
 refine vL ?_; refine vL ?_
 refine vC (v := fe 1) (fun W => of_c (n := 1) (by decide) W) ?_
 refine vL ?_; refine vL ?_
 refine vC (fmul_c hx hy) ?_
 refine vGk (v := .agg ((fel x) ++ (fel y) ++ (fel 1) ++ (fel (fmul x y)) : List Value).toArray) ?_
 simp only [Z0, Z6]
 refine hLk _ fun w11 M => ?_
 refine sTs (segs' := [(0, fel x), (4, fel y), (8, fel 1), (12, fel (fmul x y))]) 0 fun w12 M => ?_
 refine lZ k9 ?_; refine rt ?_
 refine bodyPost_ret (v := .agg (fel x ++ (fel y) ++ (fel 1) ++ (fel (fmul x y)) : List Value).toArray) (res1 rfl (.cell (by rfl) (run_loadVar_mid _ _ _ _ (fel x ++ (fel y) ++ (fel 1) ++ (fel (fmul x y))) _ (range_join (range_join (range_join (M.r 0 0 rfl rfl) (M.r 0 1 rfl rfl) (by simp [flen])) (M.r 0 2 rfl rfl) (by simp [flen])) (M.r 0 3 rfl rfl) (by simp [flen])) U988 rfl info88))) rfl ?_
 exact ⟨rfl, M.below⟩
set_option maxHeartbeats 1000000 in
theorem zero_c  {w : World}  :
  Calls Tryd.prog 94 #[] w fun e w' => e = .returned (.agg (fel zeroP.x ++ fel zeroP.y ++ fel zeroP.z ++ fel zeroP.t : List Value).toArray) ∧ Below w.heap.size w w' := by
 go_enter Tryd.func94, Tryd.ntmps94
 have M := Mem.start w
 refine qS fun _ k1 => ?_
 refine nVs (segs := [(0, [.int .u64 0, .int .u64 0, .int .u64 0, .int .u64 0]), (4, [.int .u64 0, .int .u64 0, .int .u64 0, .int .u64 0]), (8, [.int .u64 0, .int .u64 0, .int .u64 0, .int .u64 0]), (12, [.int .u64 0, .int .u64 0, .int .u64 0, .int .u64 0])]) 16 fun g3 w4 M => ?_
 refine lZ k1 ?_
 refine qS fun _ k5 => ?_
 refine cM 3 fun Lk hLk => ?_
 refine vC (v := fe 0) (fun W => of_c (n := 0) (by decide) W) ?_
 refine vC (v := fe 1) (fun W => of_c (n := 1) (by decide) W) ?_
 refine vC (v := .agg (fel (affP 0 1).x ++ fel (affP 0 1).y ++ fel (affP 0 1).z ++ fel (affP 0 1).t : List Value).toArray) (fun W => affine_c (by decide) (by decide)) ?_
 refine hLk _ fun w7 M => ?_
 refine sTs (segs' := [(0, fel (affP 0 1).x), (4, fel (affP 0 1).y), (8, fel (affP 0 1).z), (12, fel (affP 0 1).t)]) 0 fun w8 M => ?_
 refine lZ k5 ?_; refine rt ?_
 refine bodyPost_ret (v := .agg (fel (affP 0 1).x ++ (fel (affP 0 1).y) ++ (fel (affP 0 1).z) ++ (fel (affP 0 1).t) : List Value).toArray) (res1 rfl (.cell (by rfl) (run_loadVar_mid _ _ _ _ (fel (affP 0 1).x ++ (fel (affP 0 1).y) ++ (fel (affP 0 1).z) ++ (fel (affP 0 1).t)) _ (range_join (range_join (range_join (M.r 0 0 rfl rfl) (M.r 0 1 rfl rfl) (by simp [flen])) (M.r 0 2 rfl rfl) (by simp [flen])) (M.r 0 3 rfl rfl) (by simp [flen])) U988 rfl info88))) rfl ?_
 exact ⟨rfl, M.below⟩
set_option maxHeartbeats 1000000 in
theorem root_c {y : Nat} {w : World} (hy : y < 2 ^ 256) :
  Calls Tryd.prog 89 #[fe y] w fun e w' => e = .returned (.tuple #[fe (rootX y).1, .bool (rootX y).2]) ∧ Below w.heap.size w w' := by
 go_enter Tryd.func89, Tryd.ntmps89
 have M := Mem.start w
 refine qS fun _ k1 => ?_
 refine nV 4 fun g3 w4 M => ?_
 refine nV 4 fun g5 w6 M => ?_
 refine lg ?_; refine lZ k1 ?_
 refine qS fun _ k7 => ?_
 refine lL ?_; refine lL ?_
 refine cM 1 fun Lk hLk => ?_
 refine vC (fmul_c hy hy) ?_
 refine hLk _ fun w9 M => ?_
 refine nV 4 fun g10 w11 M => ?_
 refine sT 0 0 fun w12 M => ?_
 refine lZ k7 ?_
 refine sk fun _ k13 => ?_
 refine rH 6 [] fun Lk hLk => ?_
 refine vL ?_
 refine vC (fun W => twisted_c) ?_
 refine vC (fmul_c (fmul_lt ..) dF_lt) ?_
 refine vC (v := fe 1) (fun W => of_c (n := 1) (by decide) W) ?_
 refine vC (v := fe (fadd (fmul (fmul y y) dF) 1)) (fun W => fadd_c (fmul_lt ..) (by decide) W) ?_
 refine vW ?_; refine hLk _ ?_; refine nA ?_
 refine n1 4 fun g15 w16 M => ?_
 refine sT 0 0 fun w17 M => ?_
 refine lZ k13 ?_
 refine sk fun _ k18 => ?_
 refine rG 9 [] fun Lk hLk => ?_
 refine vL ?_
 refine vC (v := fe 1) (fun W => of_c (n := 1) (by decide) W) ?_
 refine vC (v := fe (fsub (fmul y y) 1)) (fun W => fsub_c (fmul_lt ..) (by decide) W) ?_
 refine vL ?_
 refine vC (finv_c (fadd_lt ..)) ?_
 refine vC (fmul_c (fsub_lt ..) (finv_lt ..)) ?_
 refine vC (fsqrt_c (fmul_lt ..)) ?_
 refine vE ?_; refine vE ?_
 refine hLk _ fun w20 M => ?_
 refine sT 2 0 fun w21 M => ?_
 refine lg ?_; refine lZ k18 ?_; refine rt ?_
 refine bodyPost_ret (v := .tuple #[fe ((fsqrt (fmul (fsub (fmul y y) 1) (finv (fadd (fmul (fmul y y) dF) 1)))).1), .bool ((fsqrt (fmul (fsub (fmul y y) 1) (finv (fadd (fmul (fmul y y) dF) 1)))).2)]) (res2 rfl (.cell (by rfl) (run_loadVar_mid _ _ _ _ (fel ((fsqrt (fmul (fsub (fmul y y) 1) (finv (fadd (fmul (fmul y y) dF) 1)))).1)) _ (M.r 2 0 rfl rfl) U986 rfl info86)) (.tmp (by rfl))) rfl ?_
 exact ⟨rfl, M.below⟩
set_option maxHeartbeats 2000000 in
theorem right_c {p : P4} {w : World} (hp : p.Ok) :
  Calls Tryd.prog 93 #[.agg (fel p.x ++ fel p.y ++ fel p.z ++ fel p.t : List Value).toArray] w fun e w' => e = .returned (.bool (rightP p)) ∧ Below w.heap.size w w' := by
 go_enter Tryd.func93, Tryd.ntmps93
 have M := Mem.start w
 refine qS fun _ k1 => ?_
 refine nVs (segs := [(0, fel p.x), (4, fel p.y), (8, fel p.z), (12, fel p.t)]) 16 fun g3 w4 M => ?_
 refine lg ?_; refine lZ k1 ?_
 refine sk fun _ k5 => ?_
 refine qS fun _ k6 => ?_
 refine lF ?_; refine lL ?_; refine lF ?_; refine lL ?_; refine lF ?_; refine lL ?_; refine lF ?_; refine lL ?_
 refine cM 1 fun Lk hLk => ?_
 refine vGk (v := .agg ((fel p.x) ++ (fel p.y) ++ (fel p.z) ++ (fel p.t) : List Value).toArray) ?_
 simp only [Z0, Z6]
 refine hLk _ fun w8 M => ?_
 refine lM ?_; refine lZ k6 ?_; refine wp_block ?_; refine wp_loop_rounds 5 ?_
 rw [rounds_succ]
 refine qS fun _ k9 => ?_
 refine cM 1 fun Lk hLk => ?_
 refine vB (v := .bool true) (hr := run_lss _ _ _ _) ?_
 refine hLk _ fun w11 M => ?_
 refine lZ k9 ?_
 refine sk fun _ k12 => ?_
 refine cT ?_; refine sZ k12 ?_
 refine sk fun _ k13 => ?_
 refine wp_block ?_
 refine qS fun _ k14 => ?_
 refine cM 1 fun Lk hLk => ?_
 refine vGk (v := fe p.x) ?_
 simp only [Z0, Z6]
 refine hLk _ fun w16 M => ?_
 refine nV 4 fun g17 w18 M => ?_
 refine sT 0 0 fun w19 M => ?_
 refine lZ k14 ?_
 refine sk fun _ k20 => ?_
 refine rG 4 [] fun Lk hLk => ?_
 refine vL ?_
 refine vC (least_c hp.x) ?_
 refine vL ?_
 refine Z24 (v := .bool (decide (leastF p.x ≠ p.x))) (by rfl) (by rfl) (fun W hW => ?_) ?_
 ·
  exact run_neq_fe (leastF_lt ..) hp.x U986 U940 info40 (by kernel_rfl) rfl rfl rfl W
 simp only [Z0, Z6]
 refine hLk _ fun w22 M => ?_
 refine lZ k20 ?_
 cases hc23 : (decide (leastF p.x ≠ p.x))
 ·
  have q24 : leastF p.x = p.x := Decidable.not_not.1 (of_decide_eq_false hc23)
  refine cF ?_; refine sZ k13 ?_; refine Z13 ?_
  refine cM 1 fun Lk hLk => ?_
  refine vB (v := .int .i64 1) (hr := run_add (by decide)) ?_
  refine hLk _ fun w26 M => ?_
  refine lM ?_
  refine Z14 (Z15 ?_)
  refine Z22 (Q := fun _ _ _ => True) ?_
  rw [rounds_succ]
  refine qS fun _ k27 => ?_
  refine cM 1 fun Lk hLk => ?_
  refine vB (v := .bool true) (hr := run_lss _ _ _ _) ?_
  refine hLk _ fun w29 M => ?_
  refine lZ k27 ?_
  refine sk fun _ k30 => ?_
  refine cT ?_; refine sZ k30 ?_
  refine sk fun _ k31 => ?_
  refine wp_block ?_
  refine qS fun _ k32 => ?_
  refine cM 1 fun Lk hLk => ?_
  refine vGk (v := fe p.y) ?_
  simp only [Z0, Z6]
  refine hLk _ fun w34 M => ?_
  refine nV 4 fun g35 w36 M => ?_
  refine sT 0 0 fun w37 M => ?_
  refine lZ k32 ?_
  refine sk fun _ k38 => ?_
  refine rG 4 [] fun Lk hLk => ?_
  refine vL ?_
  refine vC (least_c hp.y) ?_
  refine vL ?_
  refine Z24 (v := .bool (decide (leastF p.y ≠ p.y))) (by rfl) (by rfl) (fun W hW => ?_) ?_
  ·
   exact run_neq_fe (leastF_lt ..) hp.y U986 U940 info40 (by kernel_rfl) rfl rfl rfl W
  simp only [Z0, Z6]
  refine hLk _ fun w40 M => ?_
  refine lZ k38 ?_
  cases hc41 : (decide (leastF p.y ≠ p.y))
  ·
   have q42 : leastF p.y = p.y := Decidable.not_not.1 (of_decide_eq_false hc41)
   refine cF ?_; refine sZ k31 ?_; refine Z13 ?_
   refine cM 1 fun Lk hLk => ?_
   refine vB (v := .int .i64 2) (hr := run_add (by decide)) ?_
   refine hLk _ fun w44 M => ?_
   refine lM ?_
   refine Z14 (Z15 ?_)
   refine Z22 (Q := fun _ _ _ => True) ?_
   rw [rounds_succ]
   refine qS fun _ k45 => ?_
   refine cM 1 fun Lk hLk => ?_
   refine vB (v := .bool true) (hr := run_lss _ _ _ _) ?_
   refine hLk _ fun w47 M => ?_
   refine lZ k45 ?_
   refine sk fun _ k48 => ?_
   refine cT ?_; refine sZ k48 ?_
   refine sk fun _ k49 => ?_
   refine wp_block ?_
   refine qS fun _ k50 => ?_
   refine cM 1 fun Lk hLk => ?_
   refine vGk (v := fe p.z) ?_
   simp only [Z0, Z6]
   refine hLk _ fun w52 M => ?_
   refine nV 4 fun g53 w54 M => ?_
   refine sT 0 0 fun w55 M => ?_
   refine lZ k50 ?_
   refine sk fun _ k56 => ?_
   refine rG 4 [] fun Lk hLk => ?_
   refine vL ?_
   refine vC (least_c hp.z) ?_
   refine vL ?_
   refine Z24 (v := .bool (decide (leastF p.z ≠ p.z))) (by rfl) (by rfl) (fun W hW => ?_) ?_
   ·
    exact run_neq_fe (leastF_lt ..) hp.z U986 U940 info40 (by kernel_rfl) rfl rfl rfl W
   simp only [Z0, Z6]
   refine hLk _ fun w58 M => ?_
   refine lZ k56 ?_
   cases hc59 : (decide (leastF p.z ≠ p.z))
   ·
    have q60 : leastF p.z = p.z := Decidable.not_not.1 (of_decide_eq_false hc59)
    refine cF ?_; refine sZ k49 ?_; refine Z13 ?_
    refine cM 1 fun Lk hLk => ?_
    refine vB (v := .int .i64 3) (hr := run_add (by decide)) ?_
    refine hLk _ fun w62 M => ?_
    refine lM ?_
    refine Z14 (Z15 ?_)
    refine Z22 (Q := fun _ _ _ => True) ?_
    rw [rounds_succ]
    refine qS fun _ k63 => ?_
    refine cM 1 fun Lk hLk => ?_
    refine vB (v := .bool true) (hr := run_lss _ _ _ _) ?_
    refine hLk _ fun w65 M => ?_
    refine lZ k63 ?_
    refine sk fun _ k66 => ?_
    refine cT ?_; refine sZ k66 ?_
    refine sk fun _ k67 => ?_
    refine wp_block ?_
    refine qS fun _ k68 => ?_
    refine cM 1 fun Lk hLk => ?_
    refine vGk (v := fe p.t) ?_
    simp only [Z0, Z6]
    refine hLk _ fun w70 M => ?_
    refine nV 4 fun g71 w72 M => ?_
    refine sT 0 0 fun w73 M => ?_
    refine lZ k68 ?_
    refine sk fun _ k74 => ?_
    refine rG 4 [] fun Lk hLk => ?_
    refine vL ?_
    refine vC (least_c hp.t) ?_
    refine vL ?_
    refine Z24 (v := .bool (decide (leastF p.t ≠ p.t))) (by rfl) (by rfl) (fun W hW => ?_) ?_
    ·
     exact run_neq_fe (leastF_lt ..) hp.t U986 U940 info40 (by kernel_rfl) rfl rfl rfl W
    simp only [Z0, Z6]
    refine hLk _ fun w76 M => ?_
    refine lZ k74 ?_
    cases hc77 : (decide (leastF p.t ≠ p.t))
    ·
     have q78 : leastF p.t = p.t := Decidable.not_not.1 (of_decide_eq_false hc77)
     refine cF ?_; refine sZ k67 ?_; refine Z13 ?_
     refine cM 1 fun Lk hLk => ?_
     refine vB (v := .int .i64 4) (hr := run_add (by decide)) ?_
     refine hLk _ fun w80 M => ?_
     refine lM ?_
     refine Z14 (Z15 ?_)
     refine Z22 (Q := fun _ _ _ => True) ?_
     rw [rounds_succ]
     refine qS fun _ k81 => ?_
     refine cM 1 fun Lk hLk => ?_
     refine vB (v := .bool false) (hr := run_lss _ _ _ _) ?_
     refine hLk _ fun w83 M => ?_
     refine lZ k81 ?_
     refine sk fun _ _ => ?_
     refine cF ?_; refine eZ k5 ?_
     refine sk fun _ k85 => ?_
     refine sk fun _ k86 => ?_
     cases hg87 : (decide (p.z = 0))
     ·
      have q88 : ¬ (p.z = 0) := of_decide_eq_false hg87
      refine rG 17 [] fun Lk hLk => ?_
      refine vF ?_; refine vL ?_
      refine Z24 (v := fe 0) (by rfl) (by rfl) (fun W hW => ?_) ?_
      ·
       rw [show fe 0 = .agg ([.int .u64 0, .int .u64 0, .int .u64 0, .int .u64 0]).toArray from (by kernel_rfl)]; unfold RunsVal; kernel_rfl
      simp only [Z0, Z6]
      refine Z24 (v := .bool false) (by rfl) (by rfl) (fun W hW => ?_) ?_
      ·
       exact hg87 ▸ run_eql_fe hp.z (by decide) U986 U940 info40 (by kernel_rfl) rfl rfl rfl W
      simp only [Z0, Z6]
      refine vM ?_; refine vF ?_; refine vL ?_; refine vF ?_; refine vL ?_
      refine vC (fmul_c hp.x hp.y) ?_
      refine vF ?_; refine vL ?_; refine vF ?_; refine vL ?_
      refine vC (fmul_c hp.z hp.t) ?_
      refine Z24 (v := .bool (decide (fmul p.x p.y ≠ fmul p.z p.t))) (by rfl) (by rfl) (fun W hW => ?_) ?_
      ·
       exact run_neq_fe (fmul_lt ..) (fmul_lt ..) U986 U940 info40 (by kernel_rfl) rfl rfl rfl W
      simp only [Z0, Z6]
      refine vK ?_
      refine hLk _ fun w90 M => ?_
      refine lZ k86 ?_
      cases hc91 : (decide (fmul p.x p.y ≠ fmul p.z p.t))
      ·
       have q92 : fmul p.x p.y = fmul p.z p.t := Decidable.not_not.1 (of_decide_eq_false hc91)
       refine cF ?_; refine sZ k85 ?_
       refine sk fun _ k93 => ?_
       refine rH 12 [] fun Lk hLk => ?_
       refine vF ?_; refine vL ?_; refine vF ?_; refine vL ?_
       refine vC (fmul_c hp.y hp.y) ?_
       refine vF ?_; refine vL ?_; refine vF ?_; refine vL ?_
       refine vC (fmul_c hp.x hp.x) ?_
       refine vC (fsub_c (fmul_lt ..) (fmul_lt ..)) ?_
       refine vW ?_; refine hLk _ ?_; refine nA ?_
       refine n1 4 fun g95 w96 M => ?_
       refine sT 0 0 fun w97 M => ?_
       refine lZ k93 ?_
       refine sk fun _ k98 => ?_
       refine rH 14 [] fun Lk hLk => ?_
       refine vF ?_; refine vL ?_; refine vF ?_; refine vL ?_
       refine vC (fmul_c hp.z hp.z) ?_
       refine vC (fun W => twisted_c) ?_
       refine vF ?_; refine vL ?_; refine vF ?_; refine vL ?_
       refine vC (fmul_c hp.t hp.t) ?_
       refine vC (fmul_c dF_lt (fmul_lt ..)) ?_
       refine vC (fadd_c (fmul_lt ..) (fmul_lt ..)) ?_
       refine vW ?_; refine hLk _ ?_; refine nA ?_
       refine n1 4 fun g100 w101 M => ?_
       refine sT 0 0 fun w102 M => ?_
       refine lZ k98 ?_
       refine qS fun _ k103 => ?_
       refine lL ?_; refine lL ?_
       refine cM 1 fun Lk hLk => ?_
       refine Z24 (v := .bool (decide (fsub (fmul p.y p.y) (fmul p.x p.x) = fadd (fmul p.z p.z) (fmul dF (fmul p.t p.t))))) (by rfl) (by rfl) (fun W hW => ?_) ?_
       ·
        exact run_eql_fe (fsub_lt ..) (fadd_lt ..) U986 U940 info40 (by kernel_rfl) rfl rfl rfl W
       simp only [Z0, Z6]
       refine hLk _ fun w105 M => ?_
       refine lg ?_; refine lZ k103 ?_; refine rt1 ?_
       have BE := M.below
       exact ⟨by unfold rightP; rw [decide_eq_true q24, decide_eq_true q42, decide_eq_true q60, decide_eq_true q78, decide_eq_true (p := p.z ≠ 0) q88, decide_eq_true q92]; rfl, BE⟩
      have q106 : (fmul p.x p.y ≠ fmul p.z p.t) := of_decide_eq_true hc91
      refine cT ?_
      refine qS fun _ k107 => ?_
      refine lg ?_; refine lZ k107 ?_; refine rt1 ?_
      have BE := M.below
      exact ⟨by unfold rightP; simp [q24, q42, q60, q78, q88, q106], BE⟩
     have q109 : (p.z = 0) := of_decide_eq_true hg87
     refine rG 17 [] fun Lk hLk => ?_
     refine vF ?_; refine vL ?_
     refine Z24 (v := fe 0) (by rfl) (by rfl) (fun W hW => ?_) ?_
     ·
      rw [show fe 0 = .agg ([.int .u64 0, .int .u64 0, .int .u64 0, .int .u64 0]).toArray from (by kernel_rfl)]; unfold RunsVal; kernel_rfl
     simp only [Z0, Z6]
     refine Z24 (v := .bool true) (by rfl) (by rfl) (fun W hW => ?_) ?_
     ·
      exact hg87 ▸ run_eql_fe hp.z (by decide) U986 U940 info40 (by kernel_rfl) rfl rfl rfl W
     simp only [Z0, Z6]
     refine vM ?_; refine vS ?_; refine vS ?_; refine vS ?_; refine vS ?_; refine vS ?_; refine vS ?_; refine vS ?_; refine vS ?_; refine vS ?_
     refine vS ?_; refine vS ?_; refine vK ?_
     refine hLk _ fun w111 M => ?_
     refine lZ k86 ?_; refine cT ?_
     refine qS fun _ k112 => ?_
     refine lg ?_; refine lZ k112 ?_; refine rt1 ?_
     have BE := M.below
     exact ⟨by unfold rightP; simp [q24, q42, q60, q78, q109], BE⟩
    have q114 : (leastF p.t ≠ p.t) := of_decide_eq_true hc77
    refine cT ?_
    refine qS fun _ k115 => ?_
    refine lg ?_; refine lZ k115 ?_; refine rt1 ?_
    have BE := M.below
    exact ⟨by unfold rightP; simp [q24, q42, q60, q114], BE⟩
   have q117 : (leastF p.z ≠ p.z) := of_decide_eq_true hc59
   refine cT ?_
   refine qS fun _ k118 => ?_
   refine lg ?_; refine lZ k118 ?_; refine rt1 ?_
   have BE := M.below
   exact ⟨by unfold rightP; simp [q24, q42, q117], BE⟩
  have q120 : (leastF p.y ≠ p.y) := of_decide_eq_true hc41
  refine cT ?_
  refine qS fun _ k121 => ?_
  refine lg ?_; refine lZ k121 ?_; refine rt1 ?_
  have BE := M.below
  exact ⟨by unfold rightP; simp [q24, q120], BE⟩
 have q123 : (leastF p.x ≠ p.x) := of_decide_eq_true hc23
 refine cT ?_
 refine qS fun _ k124 => ?_
 refine lg ?_; refine lZ k124 ?_; refine rt1 ?_
 have BE := M.below
 exact ⟨by unfold rightP; simp [q123], BE⟩
end Go.Proofs.Yc

namespace Go.Proofs.Yc
open Go Go.RowKit Go.Proofs.Num
open Go.Proofs.Num  renaming putT → Z0
open List renaming set → Z6, take → Z7, drop → Z8
open Go.Proofs.Num renaming wpL_nil → Z14, no_panic → Z15, wpV_nil → Z19, wpN_skip → Z28, wpN_nil → Z29
attribute [local irreducible] wpV wpN wpList
open Go.Proofs.Ya
set_option maxHeartbeats 2000000 in
theorem sadd_m {g : Nat} {p q : P4} {w : World} (hp : p.Ok) (hq : q.Ok) (hM : Mem [g] w w [⟨g, 16, [(0, fel p.x), (4, fel p.y), (8, fel p.z), (12, fel p.t)]⟩]) :
  Calls Tryd.prog 95 #[.pointer (some ⟨g, 0, none⟩), .agg (fel q.x ++ fel q.y ++ fel q.z ++ fel q.t : List Value).toArray] w fun e w' => ∃ v, e = .returned v ∧ v = .tuple #[] ∧ Mem [g] w w' [⟨g, 16, [(0, fel (addP p q).x), (4, fel (addP p q).y), (8, fel (addP p q).z), (12, fel (addP p q).t)]⟩] := by
 go_enter Tryd.func95, Tryd.ntmps95
 have M := hM
 refine qS fun _ k1 => ?_
 refine nVs (segs := [(0, fel q.x), (4, fel q.y), (8, fel q.z), (12, fel q.t)]) 16 fun g3 w4 M => ?_
 refine lZ k1 ?_
 refine sk fun _ k5 => ?_
 refine rH 18 [] fun Lk hLk => ?_
 refine vM ?_; refine vN ?_; refine vF ?_; refine vF ?_; refine vL ?_; refine vM ?_; refine vN ?_; refine vF ?_; refine vF ?_; refine vL ?_
 refine vC (fsub_c hp.y hp.x) ?_
 refine vF ?_; refine vL ?_; refine vF ?_; refine vL ?_
 refine vC (fsub_c hq.y hq.x) ?_
 refine vC (fmul_c (fsub_lt ..) (fsub_lt ..)) ?_
 refine vW ?_; refine hLk _ ?_; refine nA ?_
 refine n1 4 fun g7 w8 M => ?_
 refine sT 0 0 fun w9 M => ?_
 refine lZ k5 ?_
 refine sk fun _ k10 => ?_
 refine rH 18 [] fun Lk hLk => ?_
 refine vM ?_; refine vN ?_; refine vF ?_; refine vF ?_; refine vL ?_; refine vM ?_; refine vN ?_; refine vF ?_; refine vF ?_; refine vL ?_
 refine vC (fadd_c hp.y hp.x) ?_
 refine vF ?_; refine vL ?_; refine vF ?_; refine vL ?_
 refine vC (fadd_c hq.y hq.x) ?_
 refine vC (fmul_c (fadd_lt ..) (fadd_lt ..)) ?_
 refine vW ?_; refine hLk _ ?_; refine nA ?_
 refine n1 4 fun g12 w13 M => ?_
 refine sT 0 0 fun w14 M => ?_
 refine lZ k10 ?_
 refine sk fun _ k15 => ?_
 refine rH 13 [] fun Lk hLk => ?_
 refine vM ?_; refine vN ?_; refine vF ?_; refine vF ?_; refine vL ?_; refine vF ?_; refine vL ?_
 refine vC (fmul_c hp.t hq.t) ?_
 refine vC (fun W => twisted_c) ?_
 refine vC (fun W => twisted_c) ?_
 refine vC (fadd_c dF_lt dF_lt) ?_
 refine vC (fmul_c (fmul_lt ..) (fadd_lt ..)) ?_
 refine vW ?_; refine hLk _ ?_; refine nA ?_
 refine n1 4 fun g17 w18 M => ?_
 refine sT 0 0 fun w19 M => ?_
 refine lZ k15 ?_
 refine sk fun _ k20 => ?_
 refine rH 12 [] fun Lk hLk => ?_
 refine vM ?_; refine vN ?_; refine vF ?_; refine vF ?_; refine vL ?_; refine vF ?_; refine vL ?_; refine vF ?_; refine vL ?_
 refine vC (fadd_c hq.z hq.z) ?_
 refine vC (fmul_c hp.z (fadd_lt ..)) ?_
 refine vW ?_; refine hLk _ ?_; refine nA ?_
 refine n1 4 fun g22 w23 M => ?_
 refine sT 0 0 fun w24 M => ?_
 refine lZ k20 ?_
 refine sk fun _ k25 => ?_
 refine wp_region_grow 16 [] (by kernel_rfl) (by kernel_rfl) (by kernel_rfl) (fun Lk hLk => ?_)
 simp only [Z7, Z8]
 refine vL ?_; refine vL ?_
 refine vC (fsub_c (fmul_lt ..) (fmul_lt ..)) ?_
 refine vL ?_; refine vL ?_
 refine vC (fsub_c (fmul_lt ..) (fmul_lt ..)) ?_
 refine vL ?_; refine vL ?_
 refine vC (fadd_c (fmul_lt ..) (fmul_lt ..)) ?_
 refine vL ?_; refine vL ?_
 refine vC (fadd_c (fmul_lt ..) (fmul_lt ..)) ?_
 refine vW ?_; refine vW ?_; refine vW ?_; refine vW ?_
 refine Z19 (hLk.out _ ?_)
 simp only [Z7, Z8]
 iterate 12 refine Z28 (by rfl) ?_
 refine wpN_new (t := 86) (cs := ([.int .u64 0, .int .u64 0, .int .u64 0, .int .u64 0]).toArray) (by rfl) (fun W => ?_) (fun g27 Hg27 ng27 => ?_)
 ·
  go_simp
 refine wpN_new (t := 86) (cs := ([.int .u64 0, .int .u64 0, .int .u64 0, .int .u64 0]).toArray) (by rfl) (fun W => ?_) (fun g28 Hg28 ng28 => ?_)
 ·
  go_simp
 refine wpN_new (t := 86) (cs := ([.int .u64 0, .int .u64 0, .int .u64 0, .int .u64 0]).toArray) (by rfl) (fun W => ?_) (fun g29 Hg29 ng29 => ?_)
 ·
  go_simp
 refine wpN_new (t := 86) (cs := ([.int .u64 0, .int .u64 0, .int .u64 0, .int .u64 0]).toArray) (by rfl) (fun W => ?_) (fun g30 Hg30 ng30 => ?_)
 ·
  go_simp
 simp only [Z0, Z6]
 refine Z29 (fun w31 Sw31 hbs => ?_)
 replace M := (((((M.sees Sw31).add (N := 4) (cs := [.int .u64 0, .int .u64 0, .int .u64 0, .int .u64 0]) (M.ge Hg27) (M.fresh Hg27) (hbs _ (.tail _ (.tail _ (.tail _ (.head _))))) rfl).add (N := 4) (cs := [.int .u64 0, .int .u64 0, .int .u64 0, .int .u64 0]) (M.ge Hg28) (fcons (ng28 _ (.head _)) (M.fresh Hg28)) (hbs _ (.tail _ (.tail _ (.head _)))) rfl).add (N := 4) (cs := [.int .u64 0, .int .u64 0, .int .u64 0, .int .u64 0]) (M.ge Hg29) (fcons (ng29 _ (.head _)) (fcons (ng29 _ (.tail _ (.head _))) (M.fresh Hg29))) (hbs _ (.tail _ (.head _))) rfl).add (N := 4) (cs := [.int .u64 0, .int .u64 0, .int .u64 0, .int .u64 0]) (M.ge Hg30) (fcons (ng30 _ (.head _)) (fcons (ng30 _ (.tail _ (.head _))) (fcons (ng30 _ (.tail _ (.tail _ (.head _)))) (M.fresh Hg30)))) (hbs _ (.head _)) rfl)
 clear hbs ng27 ng28 ng29 ng30
 refine sT 3 0 fun w32 M => ?_
 refine sT 2 0 fun w33 M => ?_
 refine sT 1 0 fun w34 M => ?_
 refine sT 0 0 fun w35 M => ?_
 refine lZ k25 ?_
 refine rG 19 [1, 2, 3] fun Lk hLk => ?_
 refine vM ?_; refine vM ?_; refine vM ?_; refine vM ?_; refine vL ?_; refine vL ?_
 refine vC (fmul_c (fsub_lt ..) (fsub_lt ..)) ?_
 refine vL ?_; refine vL ?_
 refine vC (fmul_c (fadd_lt ..) (fadd_lt ..)) ?_
 refine vL ?_; refine vL ?_
 refine vC (fmul_c (fsub_lt ..) (fadd_lt ..)) ?_
 refine vL ?_; refine vL ?_
 refine vC (fmul_c (fsub_lt ..) (fadd_lt ..)) ?_
 refine vN ?_; refine vF ?_; refine vF ?_
 refine hLk _ fun w37 M => ?_
 refine sT 9 0 fun w38 M => ?_
 refine lN ?_; refine lF ?_; refine lF ?_
 refine sT 9 1 fun w42 M => ?_
 refine lN ?_; refine lF ?_; refine lF ?_
 refine sT 9 2 fun w46 M => ?_
 refine lN ?_; refine lF ?_; refine lF ?_
 refine sT 9 3 fun w50 M => ?_
 refine Z14 (Z15 ?_)
 repeat (first | with_reducible refine then_exit ?_ | with_reducible refine inblock_exit ?_)
 refine bodyPost_end (v := .tuple #[]) (results_none rfl _ _ _) rfl ?_
 exact ⟨_, rfl, rfl, (M.pick [9] (by decide) rfl)⟩
end Go.Proofs.Yc

namespace Go.Proofs.Yc
open Go Go.RowKit Go.Proofs.Num
open Go.Proofs.Num  renaming putT → Z0
open Nat renaming zero_add → Z2
open List renaming set → Z6
open Go renaming undef → Z9
open Go.Proofs.Num renaming wp_region_seq → Z13, wpL_nil → Z14, no_panic → Z15
attribute [local irreducible] wpV wpN wpList
open Go.Proofs.Ya
set_option maxHeartbeats 2000000 in
theorem Mul_ok {n : Nat} {p : P4} {w : World} (hn : n < 2 ^ 256) (hp : p.Ok) (h1 : rightP p = true) :
  Calls Tryd.prog 53 #[fe n, .agg (fel p.x ++ fel p.y ++ fel p.z ++ fel p.t : List Value).toArray] w fun e w' => e = .returned (.tuple #[.agg (fel (mulR n p 256).x ++ fel (mulR n p 256).y ++ fel (mulR n p 256).z ++ fel (mulR n p 256).t : List Value).toArray, .int .i64 0]) ∧ Below w.heap.size w w' := by
 go_enter Tryd.func53, Tryd.ntmps53
 have M := Mem.start w
 refine qS fun _ k1 => ?_
 refine nV 4 fun g3 w4 M => ?_
 refine nVs (segs := [(0, fel p.x), (4, fel p.y), (8, fel p.z), (12, fel p.t)]) 16 fun g5 w6 M => ?_
 refine nVs (segs := [(0, [.int .u64 0, .int .u64 0, .int .u64 0, .int .u64 0]), (4, [.int .u64 0, .int .u64 0, .int .u64 0, .int .u64 0]), (8, [.int .u64 0, .int .u64 0, .int .u64 0, .int .u64 0]), (12, [.int .u64 0, .int .u64 0, .int .u64 0, .int .u64 0])]) 16 fun g7 w8 M => ?_
 refine lg ?_; refine lZ k1 ?_
 refine sk fun _ k9 => ?_
 refine qS fun _ k10 => ?_
 refine cM 3 fun Lk hLk => ?_
 refine vP (pvLf (cs := fel p.x ++ (fel p.y) ++ (fel p.z) ++ (fel p.t)) (range_join (range_join (range_join (M.r 1 0 rfl rfl) (M.r 1 1 rfl rfl) (by simp [flen])) (M.r 1 2 rfl rfl) (by simp [flen])) (M.r 1 3 rfl rfl) (by simp [flen])) (M.lt 1 rfl)) ?_
 refine vC (v := .bool true) (args := #[.agg (fel p.x ++ (fel p.y) ++ (fel p.z) ++ (fel p.t) : List Value).toArray]) (fun W => by have h9 : Calls Tryd.prog _ _ W _ := right_c hp; rw [h1] at h9; exact h9) ?_
 refine vt ?_
 refine hLk _ fun w12 M => ?_
 refine lZ k10 ?_; refine cF ?_; refine sZ k9 ?_
 refine qS fun _ k13 => ?_
 refine cM 2 fun Lk hLk => ?_
 refine vC (fun W => zero_c) ?_
 refine vGk (v := .agg (fel zeroP.x ++ fel zeroP.y ++ fel zeroP.z ++ fel zeroP.t : List Value).toArray) ?_
 simp only [Z0, Z6]
 refine hLk _ fun w15 M => ?_
 refine nVs (segs := [(0, fel zeroP.x), (4, fel zeroP.y), (8, fel zeroP.z), (12, fel zeroP.t)]) 16 fun g16 w17 M => ?_
 refine lg ?_; refine lZ k13 ?_
 refine sk fun _ k18 => ?_
 refine qS fun _ k19 => ?_
 refine lM ?_; refine lZ k19 ?_; refine wp_block ?_
 refine wp_loop_ghost (fun n9 a9 W9 => ∃ (k : Nat) (u21_7 u21_8 u21_17 u21_18 u21_19 u21_20 u21_21 u21_22 u21_23 u21_24 u21_25 u21_26 u21_27 u21_28 u21_29 u21_30 u21_31 u21_32 u21_33 u21_34 u21_35 u21_36 u21_37 u21_38 u21_39 : Value), n9 = 2 * (256 - k) ∧ a9 = { tmps := #[fe n, .agg (fel p.x ++ fel p.y ++ fel p.z ++ fel p.t : List Value).toArray, .pointer (some ⟨g3, 0, none⟩), .pointer (some ⟨g5, 0, none⟩), .pointer (some ⟨g7, 0, none⟩), .int .i64 0, .pointer (some ⟨g16, 0, none⟩), u21_7, u21_8, .agg (fel p.x ++ (fel p.y) ++ (fel p.z) ++ (fel p.t) : List Value).toArray, .bool true, .bool false, Z9, .agg (fel zeroP.x ++ fel zeroP.y ++ fel zeroP.z ++ fel zeroP.t : List Value).toArray, .agg (fel zeroP.x ++ fel zeroP.y ++ fel zeroP.z ++ fel zeroP.t : List Value).toArray, .pointer (some ⟨g16, 0, none⟩), .int .i64 k, u21_17, u21_18, u21_19, u21_20, u21_21, u21_22, u21_23, u21_24, u21_25, u21_26, u21_27, u21_28, u21_29, u21_30, u21_31, u21_32, u21_33, u21_34, u21_35, u21_36, u21_37, u21_38, u21_39, Z9, Z9, Z9, Z9], defers := [] } ∧ Mem [] w W9 [⟨g16, 16, [(0, fel (mulR n p k).x), (4, fel (mulR n p k).y), (8, fel (mulR n p k).z), (12, fel (mulR n p k).t)]⟩, ⟨g7, 16, [(0, [.int .u64 0, .int .u64 0, .int .u64 0, .int .u64 0]), (4, [.int .u64 0, .int .u64 0, .int .u64 0, .int .u64 0]), (8, [.int .u64 0, .int .u64 0, .int .u64 0, .int .u64 0]), (12, [.int .u64 0, .int .u64 0, .int .u64 0, .int .u64 0])]⟩, ⟨g5, 16, [(0, fel p.x), (4, fel p.y), (8, fel p.z), (12, fel p.t)]⟩, ⟨g3, 4, [(0, fel n)]⟩] ∧ (k ≤ 256)) (2 * (256 - (0))) ?_ (fun n9 a9 W9 hI => ?_)
 ·
  exact ⟨0, _, _, _, _, _, _, _, _, _, _, _, _, _, _, _, _, _, _, _, _, _, _, _, _, _, rfl, rfl, M, (by decide)⟩
 clear M
 obtain ⟨k, u21_7, u21_8, u21_17, u21_18, u21_19, u21_20, u21_21, u21_22, u21_23, u21_24, u21_25, u21_26, u21_27, u21_28, u21_29, u21_30, u21_31, u21_32, u21_33, u21_34, u21_35, u21_36, u21_37, u21_38, u21_39, rfl, rfl, M, hk4⟩ := hI
 obtain ⟨w22, rfl⟩ : ∃ W8, W8 = W9 := ⟨_, rfl⟩
 refine qS fun _ k23 => ?_
 refine cM 1 fun Lk hLk => ?_
 refine vB (v := .bool (decide (k < 256))) (hr := run_lssN k 256 _ _) ?_
 refine hLk _ fun w25 M => ?_
 refine lZ k23 ?_
 refine sk fun _ k26 => ?_
 cases hc27 : (decide (k < 256))
 ·
  have ek : k = 256 := by have := of_decide_eq_false hc27; omega
  subst ek
  refine cF ?_; refine eZ k18 ?_
  refine qS fun _ k28 => ?_
  refine lM ?_; refine lN ?_; refine lF ?_
  refine cM 1 fun Lk hLk => ?_
  refine vP (pvLf (cs := fel (mulR n p 256).x ++ (fel (mulR n p 256).y) ++ (fel (mulR n p 256).z) ++ (fel (mulR n p 256).t)) (range_join (range_join (range_join (M.r 0 0 rfl rfl) (M.r 0 1 rfl rfl) (by simp [flen])) (M.r 0 2 rfl rfl) (by simp [flen])) (M.r 0 3 rfl rfl) (by simp [flen])) (M.lt 0 rfl)) ?_
  refine hLk _ fun w30 M => ?_
  refine sTs (segs' := [(0, fel (mulR n p 256).x), (4, fel (mulR n p 256).y), (8, fel (mulR n p 256).z), (12, fel (mulR n p 256).t)]) 1 fun w31 M => ?_
  refine lg ?_; refine lZ k28 ?_; refine rt ?_
  refine bodyPost_ret (v := .tuple #[.agg (fel (mulR n p 256).x ++ (fel (mulR n p 256).y) ++ (fel (mulR n p 256).z) ++ (fel (mulR n p 256).t) : List Value).toArray, .int .i64 0]) (res2 rfl (.cell (by rfl) (run_loadVar_mid _ _ _ _ (fel (mulR n p 256).x ++ (fel (mulR n p 256).y) ++ (fel (mulR n p 256).z) ++ (fel (mulR n p 256).t)) _ (range_join (range_join (range_join (M.r 1 0 rfl rfl) (M.r 1 1 rfl rfl) (by simp [flen])) (M.r 1 2 rfl rfl) (by simp [flen])) (M.r 1 3 rfl rfl) (by simp [flen])) Tryd.underlying88 rfl info88)) (.tmp (by rfl))) rfl ?_
  exact ⟨rfl, M.below⟩
 have hk : k < 256 := of_decide_eq_true hc27
 refine cT ?_; refine sZ k26 ?_
 refine sk fun _ k32 => ?_
 refine wp_block ?_
 refine qS fun _ k33 => ?_
 refine lM ?_; refine lg ?_; refine lZ k33 ?_
 refine qS fun _ k35 => ?_
 refine lM ?_
 refine cM 1 fun Lk hLk => ?_
 refine vB (v := .int .i64 (255 - k : Nat)) (hr := run_sub (by simp only [IntKind.wrap_i64]; omega)) ?_
 refine hLk _ fun w37 M => ?_
 refine lg ?_; refine lZ k35 ?_
 refine qS fun _ k38 => ?_
 refine lM ?_; refine lM ?_; refine lN ?_; refine lF ?_
 refine cM 1 fun Lk hLk => ?_
 refine vP (pvLf (cs := fel (mulR n p k).x ++ (fel (mulR n p k).y) ++ (fel (mulR n p k).z) ++ (fel (mulR n p k).t)) (range_join (range_join (range_join (M.r 0 0 rfl rfl) (M.r 0 1 rfl rfl) (by simp [flen])) (M.r 0 2 rfl rfl) (by simp [flen])) (M.r 0 3 rfl rfl) (by simp [flen])) (M.lt 0 rfl)) ?_
 refine hLk _ fun w40 M => ?_
 refine wpL_callM (f := 95) (args := #[.pointer (some ⟨g16, 0, none⟩), .agg (fel (mulR n p k).x ++ (fel (mulR n p k).y) ++ (fel (mulR n p k).z) ++ (fel (mulR n p k).t) : List Value).toArray]) (R := fun v9 W9 => v9 = .tuple #[] ∧ Mem [g16] w40 W9 [⟨g16, 16, [(0, fel (addP (mulR n p k) (mulR n p k)).x), (4, fel (addP (mulR n p k) (mulR n p k)).y), (8, fel (addP (mulR n p k) (mulR n p k)).z), (12, fel (addP (mulR n p k) (mulR n p k)).t)]⟩]) (by rfl) (by rfl) rfl Tryd.func95 (by kernel_rfl) (by kernel_rfl) (sadd_m (p := mulR n p k) (q := mulR n p k) (mulR_ok ..) (mulR_ok ..) (M.one 0 rfl)) (fun v9 w41 h9 => ?_)
 obtain ⟨rfl, M9⟩ := h9
 replace M := M.callM1 0 rfl M9
 simp only [Z6] at M
 simp only [Z0, Z6]
 refine lZ k38 ?_
 refine qS fun _ k42 => ?_
 refine lM ?_
 refine cM 8 fun Lk hLk => ?_
 refine vB (v := .int .i64 ((255 - k) / 64 : Nat)) (hr := run_quo (by decide) (by rw [show (64 : Int) = ((64 : Nat) : Int) from rfl, tdiv_nat]; simp only [IntKind.wrap_i64]; omega)) ?_
 refine wpV_idx (n := (255 - k) / 64) (by rfl) rfl rfl rfl Tryd.underlying80 info40 (by omega) ?_
 simp only [Z2]
 simp only [Z0, Z6]
 refine vQ (v := .int .u64 (limbN n ((255 - k) / 64) : Nat)) (hc := (zadd ((M.r 3 0 rfl rfl) _ _ (fel_get n (by omega))))) (hb := (M.lt 3 rfl)) ?_
 refine vM ?_
 refine vB (v := .int .i64 ((255 - k) % 64 : Nat)) (hr := run_rem (by decide) (by exact (tmod_nat _ _))) ?_
 refine vB (v := .int .u64 (limbN n ((255 - k) / 64) / 2 ^ ((255 - k) % 64) : Nat)) (hr := run_shr (m := limbN n ((255 - k) / 64)) (n := (255 - k) % 64) (by show _ ≤ 64; omega) rfl) ?_
 refine vB (v := .int .u64 (n / 2 ^ (255 - k) % 2 : Nat)) (hr := run_and (bitN_of n (255 - k))) ?_
 refine vB (v := .bool (decide (n / 2 ^ (255 - k) % 2 = 1))) (hr := run_eqlN (n / 2 ^ (255 - k) % 2) 1 _ _) ?_
 refine hLk _ fun w44 M => ?_
 refine lZ k42 ?_
 cases hc45 : (decide (n / 2 ^ (255 - k) % 2 = 1))
 ·
  have hbit : ¬ n / 2 ^ (255 - k) % 2 = 1 := of_decide_eq_false hc45
  refine cF ?_; refine sZ k32 ?_; refine Z13 ?_
  refine cM 1 fun Lk hLk => ?_
  refine vB (v := .int .i64 (k + 1 : Nat)) (hr := run_add (by simp only [IntKind.wrap_i64]; omega)) ?_
  refine hLk _ fun w47 M => ?_
  refine lM ?_
  refine Z14 (Z15 ?_)
  have hmr := mulR_no (n := n) (p := p) (k := k) hbit
  rw [← hmr] at M
  refine Exists.intro _ ⟨?_, (k + 1), _, _, _, _, _, _, _, _, _, _, _, _, _, _, _, _, _, _, _, _, _, _, _, _, _, rfl, rfl, M, (by omega)⟩
  omega
 have hbit : n / 2 ^ (255 - k) % 2 = 1 := of_decide_eq_true hc45
 refine cT ?_; refine Z13 ?_; refine lM ?_
 refine cM 1 fun Lk hLk => ?_
 refine vP (pvLf (cs := fel p.x ++ (fel p.y) ++ (fel p.z) ++ (fel p.t)) (range_join (range_join (range_join (M.r 2 0 rfl rfl) (M.r 2 1 rfl rfl) (by simp [flen])) (M.r 2 2 rfl rfl) (by simp [flen])) (M.r 2 3 rfl rfl) (by simp [flen])) (M.lt 2 rfl)) ?_
 refine hLk _ fun w49 M => ?_
 refine wpL_callM (f := 95) (args := #[.pointer (some ⟨g16, 0, none⟩), .agg (fel p.x ++ (fel p.y) ++ (fel p.z) ++ (fel p.t) : List Value).toArray]) (R := fun v9 W9 => v9 = .tuple #[] ∧ Mem [g16] w49 W9 [⟨g16, 16, [(0, fel (addP (addP (mulR n p k) (mulR n p k)) p).x), (4, fel (addP (addP (mulR n p k) (mulR n p k)) p).y), (8, fel (addP (addP (mulR n p k) (mulR n p k)) p).z), (12, fel (addP (addP (mulR n p k) (mulR n p k)) p).t)]⟩]) (by rfl) (by rfl) rfl Tryd.func95 (by kernel_rfl) (by kernel_rfl) (sadd_m (p := addP (mulR n p k) (mulR n p k)) (q := p) (addP_ok ..) hp (M.one 0 rfl)) (fun v9 w50 h9 => ?_)
 obtain ⟨rfl, M9⟩ := h9
 replace M := M.callM1 0 rfl M9
 simp only [Z6] at M
 simp only [Z0, Z6]
 refine lZ k32 ?_; refine Z13 ?_
 refine cM 1 fun Lk hLk => ?_
 refine vB (v := .int .i64 (k + 1 : Nat)) (hr := run_add (by simp only [IntKind.wrap_i64]; omega)) ?_
 refine hLk _ fun w52 M => ?_
 refine lM ?_
 refine Z14 (Z15 ?_)
 have hmr := mulR_yes (n := n) (p := p) (k := k) hbit
 rw [← hmr] at M
 refine Exists.intro _ ⟨?_, (k + 1), _, _, _, _, _, _, _, _, _, _, _, _, _, _, _, _, _, _, _, _, _, _, _, _, _, rfl, rfl, M, (by omega)⟩
 omega
end Go.Proofs.Yc

