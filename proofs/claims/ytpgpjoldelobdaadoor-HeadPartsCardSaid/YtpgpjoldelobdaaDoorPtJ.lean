import Derived.WalkKit
import Derived.WalkSpells
import Derived.Laws.Pointers
import Derived.RowKit3
import Derived.Below
import Derived.Outline
import Derived.LoopN
import Derived.Lib.Hide
import Derived.Handy
import Derived.Laws.Bits64b
import Derived.Test.YtpgpjoldelobdaaDoorPtD
import Derived.Test.YtpgpjoldelobdaaDoorPtN
import Derived.Test.YtpgpjoldelobdaaDoorShq
set_option linter.unusedSimpArgs false
set_option linter.unusedVariables false
namespace Go.Proofs.Yc
open Go Go.RowKit Go.Proofs.Num
open Tryd renaming underlying86 → U986
open Go.Proofs.Num  renaming putT → Z0
open List renaming set → Z6, take → Z7, drop → Z8
open Go renaming wp_seq_k → Z10
open Go.Proofs.Num renaming wp_region_seq → Z13, wpV_nil → Z19, wpV_callf → Z25, wpV_extract → Z32, wpL_var → Z36
attribute [local irreducible] wpV wpN wpList
open Go.Proofs.Ya
set_option maxHeartbeats 2000000 in
theorem Base_c  {w : World}  :
  Calls Tryd.prog 55 #[] w fun e w' => e = .returned (.agg (fel baseP.x ++ fel baseP.y ++ fel baseP.z ++ fel baseP.t : List Value).toArray) ∧ Below w.heap.size w w' := by
 go_enter Tryd.func55, Tryd.ntmps55
 have M := Mem.start w
 refine Z10 (fun K1 hK1 => Z13 ?_)
 refine Z36 (t := 88) (cs := [.int .u64 0, .int .u64 0, .int .u64 0, .int .u64 0, .int .u64 0, .int .u64 0, .int .u64 0, .int .u64 0, .int .u64 0, .int .u64 0, .int .u64 0, .int .u64 0, .int .u64 0, .int .u64 0, .int .u64 0, .int .u64 0]) (by rfl) (fun W => ?_) (fun g3 w4 Sw4 Hg3 Bg3 => ?_)
 ·
  go_simp
 replace M := ((M.sees Sw4).addS (N := 16) (cs := [.int .u64 0, .int .u64 0, .int .u64 0, .int .u64 0, .int .u64 0, .int .u64 0, .int .u64 0, .int .u64 0, .int .u64 0, .int .u64 0, .int .u64 0, .int .u64 0, .int .u64 0, .int .u64 0, .int .u64 0, .int .u64 0]) (segs := [(0, [.int .u64 0, .int .u64 0, .int .u64 0, .int .u64 0]), (4, [.int .u64 0, .int .u64 0, .int .u64 0, .int .u64 0]), (8, [.int .u64 0, .int .u64 0, .int .u64 0, .int .u64 0]), (12, [.int .u64 0, .int .u64 0, .int .u64 0, .int .u64 0])]) (M.ge Hg3) (M.fresh Hg3) Bg3 rfl ⟨rfl, rfl, rfl, rfl, trivial⟩)
 clear Bg3
 simp only [Z0, Z6]
 refine lNp (hK1 _ _ ?_)
 refine Z10 (fun K5 hK5 => Z13 ?_)
 refine lCh 4 (fun Lk hLk => ?_)
 refine Z25 (v := fe 4) (args := #[.int .u64 4]) (by rfl) rfl Tryd.func91 (by kernel_rfl) (by kernel_rfl) rfl (fun W hW => of_c (n := 4) (by decide) W) ?_
 simp only [Z0, Z6]
 refine Z25 (v := fe 5) (args := #[.int .u64 5]) (by rfl) rfl Tryd.func91 (by kernel_rfl) (by kernel_rfl) rfl (fun W hW => of_c (n := 5) (by decide) W) ?_
 simp only [Z0, Z6]
 refine Z25 (v := fe (finv 5)) (args := #[fe 5]) (by rfl) rfl Tryd.func97 (by kernel_rfl) (by kernel_rfl) rfl (fun W hW => finv_c (by decide) W) ?_
 simp only [Z0, Z6]
 refine Z25 (v := fe (fmul 4 (finv 5))) (args := #[fe 4, fe (finv 5)]) (by rfl) rfl Tryd.func96 (by kernel_rfl) (by kernel_rfl) rfl (fun W hW => fmul_c (by decide) (finv_lt ..) W) ?_
 simp only [Z0, Z6]
 refine Z19 (hLk _ (fun w7 Sw7 => ?_))
 simp only [Z7, Z8]
 replace M := M.sees Sw7
 refine Z36 (t := 86) (cs := [.int .u64 0, .int .u64 0, .int .u64 0, .int .u64 0]) (by rfl) (fun W => ?_) (fun g8 w9 Sw9 Hg8 Bg8 => ?_)
 ·
  go_simp
 replace M := ((M.sees Sw9).add (N := 4) (cs := [.int .u64 0, .int .u64 0, .int .u64 0, .int .u64 0]) (M.ge Hg8) (M.fresh Hg8) Bg8 rfl)
 clear Bg8
 simp only [Z0, Z6]
 refine lSt (g := g8) (off := 0) (n := 4) (cs := fel (fmul 4 (finv 5))) (M.t 0 rfl) (by simp [flen]) info86 (fel_one _) (fun w10 P R T => ?_)
 replace M := M.putS 0 0 rfl P R T rfl ⟨.inl rfl, trivial⟩
 simp only [Z6] at M
 refine lNp (hK5 _ _ ?_)
 refine Z10 (fun K11 hK11 => Z13 ?_)
 refine lCh 5 (fun Lk hLk => ?_)
 refine vLd (cs := fel (fmul 4 (finv 5))) (M.r 0 0 rfl rfl) (M.lt 0 rfl) U986 info86 ?_
 simp only [Z0, Z6]
 refine Z25 (v := .tuple #[fe baseX, .bool true]) (args := #[fe (fmul 4 (finv 5))]) (by rfl) rfl Tryd.func89 (by kernel_rfl) (by kernel_rfl) rfl (fun W hW => (by have h9 := root_c (y := fmul 4 (finv 5)) (w := W) (fmul_lt ..); rw [finv_five, rootX_base] at h9; rw [finv_five]; exact h9)) ?_
 simp only [Z0, Z6]
 refine vMv (v := .tuple #[fe baseX, .bool true]) ?_
 simp only [Z0, Z6]
 refine Z32 (v := fe baseX) (by rfl) rfl rfl rfl ?_
 simp only [Z0, Z6]
 refine Z32 (v := .bool true) (by rfl) rfl rfl rfl ?_
 simp only [Z0, Z6]
 refine Z19 (hLk _ (fun w13 Sw13 => ?_))
 simp only [Z7, Z8]
 replace M := M.sees Sw13
 refine Z36 (t := 86) (cs := [.int .u64 0, .int .u64 0, .int .u64 0, .int .u64 0]) (by rfl) (fun W => ?_) (fun g14 w15 Sw15 Hg14 Bg14 => ?_)
 ·
  go_simp
 replace M := ((M.sees Sw15).add (N := 4) (cs := [.int .u64 0, .int .u64 0, .int .u64 0, .int .u64 0]) (M.ge Hg14) (M.fresh Hg14) Bg14 rfl)
 clear Bg14
 simp only [Z0, Z6]
 refine lSt (g := g14) (off := 0) (n := 4) (cs := fel baseX) (M.t 0 rfl) (by simp [flen]) info86 (fel_one _) (fun w16 P R T => ?_)
 replace M := M.putS 0 0 rfl P R T rfl ⟨.inl rfl, trivial⟩
 simp only [Z6] at M
 refine lAs (v := .bool true) ?_
 simp only [Z0, Z6]
 refine lNp (hK11 _ _ ?_)
 refine Z10 (fun K17 hK17 => Z13 ?_)
 refine lCh 3 (fun Lk hLk => ?_)
 refine vLd (cs := fel baseX) (M.r 0 0 rfl rfl) (M.lt 0 rfl) U986 info86 ?_
 simp only [Z0, Z6]
 refine vLd (cs := fel (fmul 4 (finv 5))) (M.r 1 0 rfl rfl) (M.lt 1 rfl) U986 info86 ?_
 simp only [Z0, Z6]
 refine Z25 (v := .agg (fel (affP baseX (fmul 4 (finv 5))).x ++ fel (affP baseX (fmul 4 (finv 5))).y ++ fel (affP baseX (fmul 4 (finv 5))).z ++ fel (affP baseX (fmul 4 (finv 5))).t : List Value).toArray) (args := #[fe baseX, fe (fmul 4 (finv 5))]) (by rfl) rfl Tryd.func92 (by kernel_rfl) (by kernel_rfl) rfl (fun W hW => affine_c (show _ < 2 ^ 256 by decide) (fmul_lt ..)) ?_
 simp only [Z0, Z6]
 refine Z19 (hLk _ (fun w19 Sw19 => ?_))
 simp only [Z7, Z8]
 replace M := M.sees Sw19
 refine lSt (g := g3) (off := 0) (n := 16) (cs := fel (affP baseX (fmul 4 (finv 5))).x ++ fel (affP baseX (fmul 4 (finv 5))).y ++ fel (affP baseX (fmul 4 (finv 5))).z ++ fel (affP baseX (fmul 4 (finv 5))).t) (M.t 2 rfl) (by simp [flen]) info88 (one4 _ _ _ _) (fun w20 P R T => ?_)
 replace M := M.put (segs' := [(0, fel (affP baseX (fmul 4 (finv 5))).x), (4, fel (affP baseX (fmul 4 (finv 5))).y), (8, fel (affP baseX (fmul 4 (finv 5))).z), (12, fel (affP baseX (fmul 4 (finv 5))).t)]) 2 rfl P T (SegsOf.at R ⟨rfl, rfl, rfl, rfl, trivial⟩)
 simp only [Z6] at M
 refine lNp (hK17 _ _ ?_)
 refine wp_ret ?_
 repeat (first | with_reducible refine then_ret ?_ | with_reducible refine inblock_ret ?_)
 refine bodyPost_ret (v := .agg (fel (affP baseX (fmul 4 (finv 5))).x ++ (fel (affP baseX (fmul 4 (finv 5))).y) ++ (fel (affP baseX (fmul 4 (finv 5))).z) ++ (fel (affP baseX (fmul 4 (finv 5))).t) : List Value).toArray) (res1 rfl (.cell (by rfl) (run_loadVar_mid _ _ _ _ (fel (affP baseX (fmul 4 (finv 5))).x ++ (fel (affP baseX (fmul 4 (finv 5))).y) ++ (fel (affP baseX (fmul 4 (finv 5))).z) ++ (fel (affP baseX (fmul 4 (finv 5))).t)) _ (range_join (range_join (range_join (M.r 2 0 rfl rfl) (M.r 2 1 rfl rfl) (by simp [flen])) (M.r 2 2 rfl rfl) (by simp [flen])) (M.r 2 3 rfl rfl) (by simp [flen])) Tryd.underlying88 rfl info88))) rfl ?_
 have BE := M.below
 exact ⟨by rw [finv_five]; rfl, BE⟩
end Go.Proofs.Yc

