import Derived.WalkKit
import Derived.WalkSpells
import Derived.Laws.Pointers
import Derived.RowKit3
import Derived.Below
import Derived.Outline
import Derived.LoopN
import Derived.Lib.Hide
import Derived.Handy
import Derived.Laws.Bits64b
import Derived.Test.YtpgpjoldelobdaaDoorPtD
import Derived.Test.YtpgpjoldelobdaaDoorPtN
import Derived.Test.YtpgpjoldelobdaaDoorF3
import Derived.Test.YtpgpjoldelobdaaDoorShq
set_option linter.unusedSimpArgs false
set_option linter.unusedVariables false
namespace Go.Proofs.Yc
open Go Go.RowKit Go.Proofs.Num

attribute [local irreducible] wpV wpN wpList
open Go.Proofs.Ya
set_option maxHeartbeats 2000000 in
theorem Base_c  {w : World}  :
  Calls Tryd.prog 55 #[] w fun e w' => e = .returned (.agg (fel baseP.x ++ fel baseP.y ++ fel baseP.z ++ fel baseP.t : List Value).toArray) ∧ Below w.heap.size w w' := by
 go_enter Tryd.func55, Tryd.ntmps55
 have M := Mem.start w
 refine qS fun _ k1 => ?_
 refine nVs (segs := [(0, [.int .u64 0, .int .u64 0, .int .u64 0, .int .u64 0]), (4, [.int .u64 0, .int .u64 0, .int .u64 0, .int .u64 0]), (8, [.int .u64 0, .int .u64 0, .int .u64 0, .int .u64 0]), (12, [.int .u64 0, .int .u64 0, .int .u64 0, .int .u64 0])]) 16 fun g3 w4 M => ?_
 refine lZ k1 ?_
 refine qS fun _ k5 => ?_
 refine cM 4 fun Lk hLk => ?_
 refine vC (v := fe 4) (fun W => of_c (n := 4) (by decide) W) ?_
 refine vC (v := fe 5) (fun W => of_c (n := 5) (by decide) W) ?_
 refine vC (v := fe (finv 5)) (fun W => finv_c (by decide) W) ?_
 refine vC (v := fe (fmul 4 (finv 5))) (fun W => fmul_c (by decide) (finv_lt ..) W) ?_
 refine hLk _ fun w7 M => ?_
 refine nV 4 fun g8 w9 M => ?_
 refine sT 0 0 fun w10 M => ?_
 refine lZ k5 ?_
 refine qS fun _ k11 => ?_
 refine lL ?_
 refine cM 4 fun Lk hLk => ?_
 refine vC (v := .tuple #[fe baseX, .bool true]) (args := #[fe (fmul 4 (finv 5))]) (fun W => (by have h9 := root_c (y := fmul 4 (finv 5)) (w := W) (fmul_lt ..); rw [finv_five, rootX_base] at h9; rw [finv_five]; exact h9)) ?_
 refine vM ?_; refine vE ?_; refine vE ?_
 refine hLk _ fun w13 M => ?_
 refine nV 4 fun g14 w15 M => ?_
 refine sT 0 0 fun w16 M => ?_
 refine lg ?_; refine lZ k11 ?_
 refine qS fun _ k17 => ?_
 refine lL ?_; refine lL ?_
 refine cM 1 fun Lk hLk => ?_
 refine vC (v := .agg (fel (affP baseX (fmul 4 (finv 5))).x ++ fel (affP baseX (fmul 4 (finv 5))).y ++ fel (affP baseX (fmul 4 (finv 5))).z ++ fel (affP baseX (fmul 4 (finv 5))).t : List Value).toArray) (fun W => affine_c (show _ < 2 ^ 256 by decide) (fmul_lt ..)) ?_
 refine hLk _ fun w19 M => ?_
 refine sTs (segs' := [(0, fel (affP baseX (fmul 4 (finv 5))).x), (4, fel (affP baseX (fmul 4 (finv 5))).y), (8, fel (affP baseX (fmul 4 (finv 5))).z), (12, fel (affP baseX (fmul 4 (finv 5))).t)]) 2 fun w20 M => ?_
 refine lZ k17 ?_; refine rt ?_
 refine bodyPost_ret (v := .agg (fel (affP baseX (fmul 4 (finv 5))).x ++ (fel (affP baseX (fmul 4 (finv 5))).y) ++ (fel (affP baseX (fmul 4 (finv 5))).z) ++ (fel (affP baseX (fmul 4 (finv 5))).t) : List Value).toArray) (res1 rfl (.cell (by rfl) (run_loadVar_mid _ _ _ _ (fel (affP baseX (fmul 4 (finv 5))).x ++ (fel (affP baseX (fmul 4 (finv 5))).y) ++ (fel (affP baseX (fmul 4 (finv 5))).z) ++ (fel (affP baseX (fmul 4 (finv 5))).t)) _ (range_join (range_join (range_join (M.r 2 0 rfl rfl) (M.r 2 1 rfl rfl) (by simp [flen])) (M.r 2 2 rfl rfl) (by simp [flen])) (M.r 2 3 rfl rfl) (by simp [flen])) Tryd.underlying88 rfl info88))) rfl ?_
 have BE := M.below
 exact ⟨by rw [finv_five]; rfl, BE⟩
end Go.Proofs.Yc

