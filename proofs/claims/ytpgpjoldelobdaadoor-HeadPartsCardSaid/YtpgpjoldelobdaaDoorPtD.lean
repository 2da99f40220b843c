import Derived.WalkKit
import Derived.WalkSpells
import Derived.Laws.Pointers
import Derived.RowKit3
import Derived.Below
import Derived.Outline
import Derived.LoopN
import Derived.Lib.Hide
import Derived.Handy
import Derived.Laws.Bits64b
import Derived.Test.YtpgpjoldelobdaaDoorF9
import Derived.Test.YtpgpjoldelobdaaDoorEqS
import Derived.Test.YtpgpjoldelobdaaDoorShq
set_option linter.unusedSimpArgs false
set_option linter.unusedVariables false
namespace Go.Proofs.Yc
open Go Go.RowKit Go.Proofs.Num
open Tryd renaming func127 → G9127, func129 → G9129, func91 → G991, func96 → G996, underlying40 → U940, underlying86 → U986, underlying88 → U988
open Go.Proofs.Num  renaming putT → Z0
open List renaming set → Z6, take → Z7, drop → Z8
open Go renaming wp_seq_k → Z10, wp_cond_true → Z11, wp_cond_false → Z12
open Go.Proofs.Num renaming wp_region_seq → Z13, wpL_nil → Z14, no_panic → Z15, wpV_nil → Z19, then_normal → Z22, wpV_val → Z24, wpV_callf → Z25, wpN_skip → Z28, wpN_nil → Z29, wpV_extract → Z32, wpL_var → Z36
attribute [local irreducible] wpV wpN wpList
open Go.Proofs.Ya
theorem one4 (x y z t : Nat) : ∀ v ∈ fel x ++ fel y ++ fel z ++ fel t, v.oneCell' = true := by
 intro v hv
 simp only [List.mem_append] at hv
 rcases hv with ((h | h) | h) | h
 ·
  exact fel_one _ v h
 ·
  exact fel_one _ v h
 ·
  exact fel_one _ v h
 exact fel_one _ v h
theorem info88 : (Tryd.prog.info? 88).map (·.size) = some 16 := by kernel_rfl
set_option maxHeartbeats 1000000 in
theorem twisted_c  {w : World}  :
  Calls Tryd.prog 129 #[] w fun e w' => e = .returned (fe dF) ∧ Below w.heap.size w w' := by
 go_enter G9129, Tryd.ntmps129
 have M := Mem.start w
 refine Z10 (fun K1 hK1 => Z13 ?_)
 refine Z36 (t := 86) (cs := [.int .u64 0, .int .u64 0, .int .u64 0, .int .u64 0]) (by rfl) (fun W => ?_) (fun g3 w4 Sw4 Hg3 Bg3 => ?_)
 ·
  go_simp
 replace M := ((M.sees Sw4).add (N := 4) (cs := [.int .u64 0, .int .u64 0, .int .u64 0, .int .u64 0]) (M.ge Hg3) (M.fresh Hg3) Bg3 rfl)
 clear Bg3
 simp only [Z0, Z6]
 refine lNp (hK1 _ _ ?_)
 refine Z10 (fun K5 hK5 => Z13 ?_)
 refine lCh 1 (fun Lk hLk => ?_)
 refine Z24 (v := fe 37095705934669439343138083508754565189542113879843219016388785533085940283555) (by rfl) (by rfl) (fun W hW => ?_) ?_
 ·
  rw [show fe 37095705934669439343138083508754565189542113879843219016388785533085940283555 = .agg ([.int .u64 8496970652267935907, .int .u64 31536524315187371, .int .u64 10144147576115030168, .int .u64 5909686906226998899]).toArray from (by kernel_rfl)]; unfold RunsVal; kernel_rfl
 simp only [Z0, Z6]
 refine Z19 (hLk _ (fun w7 Sw7 => ?_))
 simp only [Z7, Z8]
 replace M := M.sees Sw7
 refine lSt (g := g3) (off := 0) (n := 4) (cs := fel 37095705934669439343138083508754565189542113879843219016388785533085940283555) (M.t 0 rfl) (by simp [flen]) info86 (fel_one _) (fun w8 P R T => ?_)
 replace M := M.putS 0 0 rfl P R T rfl ⟨.inl rfl, trivial⟩
 simp only [Z6] at M
 refine lNp (hK5 _ _ ?_)
 refine wp_ret ?_
 repeat (first | with_reducible refine then_ret ?_ | with_reducible refine inblock_ret ?_)
 refine bodyPost_ret (v := fe 37095705934669439343138083508754565189542113879843219016388785533085940283555) (res1 rfl (.cell (by rfl) (run_loadVar_mid _ _ _ _ (fel 37095705934669439343138083508754565189542113879843219016388785533085940283555) _ (M.r 0 0 rfl rfl) U986 rfl info86))) rfl ?_
 have BE := M.below
 exact ⟨rfl, BE⟩
set_option maxHeartbeats 1000000 in
theorem affine_c {x y : Nat} {w : World} (hx : x < 2 ^ 256) (hy : y < 2 ^ 256) :
  Calls Tryd.prog 92 #[fe x, fe y] w fun e w' => e = .returned (.agg (fel (affP x y).x ++ fel (affP x y).y ++ fel (affP x y).z ++ fel (affP x y).t : List Value).toArray) ∧ Below w.heap.size w w' := by
 go_enter Tryd.func92, Tryd.ntmps92
 have M := Mem.start w
 refine Z10 (fun K1 hK1 => Z13 ?_)
 refine Z36 (t := 86) (cs := fel x) (by rfl) (fun W => ?_) (fun g3 w4 Sw4 Hg3 Bg3 => ?_)
 ·
  (first | rfl | go_simp)
 replace M := ((M.sees Sw4).add (N := 4) (cs := fel x) (M.ge Hg3) (M.fresh Hg3) Bg3 rfl)
 clear Bg3
 simp only [Z0, Z6]
 refine Z36 (t := 86) (cs := fel y) (by rfl) (fun W => ?_) (fun g5 w6 Sw6 Hg5 Bg5 => ?_)
 ·
  (first | rfl | go_simp)
 replace M := ((M.sees Sw6).add (N := 4) (cs := fel y) (M.ge Hg5) (M.fresh Hg5) Bg5 rfl)
 clear Bg5
 simp only [Z0, Z6]
 refine Z36 (t := 88) (cs := [.int .u64 0, .int .u64 0, .int .u64 0, .int .u64 0, .int .u64 0, .int .u64 0, .int .u64 0, .int .u64 0, .int .u64 0, .int .u64 0, .int .u64 0, .int .u64 0, .int .u64 0, .int .u64 0, .int .u64 0, .int .u64 0]) (by rfl) (fun W => ?_) (fun g7 w8 Sw8 Hg7 Bg7 => ?_)
 ·
  go_simp
 replace M := ((M.sees Sw8).addS (N := 16) (cs := [.int .u64 0, .int .u64 0, .int .u64 0, .int .u64 0, .int .u64 0, .int .u64 0, .int .u64 0, .int .u64 0, .int .u64 0, .int .u64 0, .int .u64 0, .int .u64 0, .int .u64 0, .int .u64 0, .int .u64 0, .int .u64 0]) (segs := [(0, [.int .u64 0, .int .u64 0, .int .u64 0, .int .u64 0]), (4, [.int .u64 0, .int .u64 0, .int .u64 0, .int .u64 0]), (8, [.int .u64 0, .int .u64 0, .int .u64 0, .int .u64 0]), (12, [.int .u64 0, .int .u64 0, .int .u64 0, .int .u64 0])]) (M.ge Hg7) (M.fresh Hg7) Bg7 rfl ⟨rfl, rfl, rfl, rfl, trivial⟩)
 clear Bg7
 simp only [Z0, Z6]
 refine lNp (hK1 _ _ ?_)
 refine Z10 (fun K9 hK9 => ?_)
 refine wp_region_grow 7 [] (by kernel_rfl) (by kernel_rfl) (by kernel_rfl) (fun Lk hLk => ?_)
 simp only [Z7, Z8]
 refine vLd (cs := fel x) (M.r 2 0 rfl rfl) (M.lt 2 rfl) U986 info86 ?_
 simp only [Z0, Z6]
 refine vLd (cs := fel y) (M.r 1 0 rfl rfl) (M.lt 1 rfl) U986 info86 ?_
 simp only [Z0, Z6]
 refine Z25 (v := fe 1) (args := #[.int .u64 1]) (by rfl) rfl G991 (by kernel_rfl) (by kernel_rfl) rfl (fun W hW => of_c (n := 1) (by decide) W) ?_
 simp only [Z0, Z6]
 refine vLd (cs := fel x) (M.r 2 0 rfl rfl) (M.lt 2 rfl) U986 info86 ?_
 simp only [Z0, Z6]
 refine vLd (cs := fel y) (M.r 1 0 rfl rfl) (M.lt 1 rfl) U986 info86 ?_
 simp only [Z0, Z6]
 refine Z25 (v := fe (fmul x y)) (args := #[fe x, fe y]) (by rfl) rfl G996 (by kernel_rfl) (by kernel_rfl) rfl (fun W hW => fmul_c hx hy W) ?_
 simp only [Z0, Z6]
 refine vGk (v := .agg ((fel x) ++ (fel y) ++ (fel 1) ++ (fel (fmul x y)) : List Value).toArray) ?_
 simp only [Z0, Z6]
 refine Z19 (hLk.out _ ?_)
 simp only [Z7, Z8]
 iterate 7 refine Z28 (by rfl) ?_
 refine Z29 (fun w11 Sw11 hbs => ?_)
 clear hbs
 replace M := M.sees Sw11
 refine lSt (g := g7) (off := 0) (n := 16) (cs := (fel x) ++ (fel y) ++ (fel 1) ++ (fel (fmul x y))) (M.t 0 rfl) (by simp [flen]) info88 (one4 _ _ _ _) (fun w12 P R T => ?_)
 replace M := M.put (segs' := [(0, fel x), (4, fel y), (8, fel 1), (12, fel (fmul x y))]) 0 rfl P T (SegsOf.at R ⟨rfl, rfl, rfl, rfl, trivial⟩)
 simp only [Z6] at M
 refine lNp (hK9 _ _ ?_)
 refine wp_ret ?_
 repeat (first | with_reducible refine then_ret ?_ | with_reducible refine inblock_ret ?_)
 refine bodyPost_ret (v := .agg (fel x ++ (fel y) ++ (fel 1) ++ (fel (fmul x y)) : List Value).toArray) (res1 rfl (.cell (by rfl) (run_loadVar_mid _ _ _ _ (fel x ++ (fel y) ++ (fel 1) ++ (fel (fmul x y))) _ (range_join (range_join (range_join (M.r 0 0 rfl rfl) (M.r 0 1 rfl rfl) (by simp [flen])) (M.r 0 2 rfl rfl) (by simp [flen])) (M.r 0 3 rfl rfl) (by simp [flen])) U988 rfl info88))) rfl ?_
 have BE := M.below
 exact ⟨rfl, BE⟩
set_option maxHeartbeats 1000000 in
theorem zero_c  {w : World}  :
  Calls Tryd.prog 94 #[] w fun e w' => e = .returned (.agg (fel zeroP.x ++ fel zeroP.y ++ fel zeroP.z ++ fel zeroP.t : List Value).toArray) ∧ Below w.heap.size w w' := by
 go_enter Tryd.func94, Tryd.ntmps94
 have M := Mem.start w
 refine Z10 (fun K1 hK1 => Z13 ?_)
 refine Z36 (t := 88) (cs := [.int .u64 0, .int .u64 0, .int .u64 0, .int .u64 0, .int .u64 0, .int .u64 0, .int .u64 0, .int .u64 0, .int .u64 0, .int .u64 0, .int .u64 0, .int .u64 0, .int .u64 0, .int .u64 0, .int .u64 0, .int .u64 0]) (by rfl) (fun W => ?_) (fun g3 w4 Sw4 Hg3 Bg3 => ?_)
 ·
  go_simp
 replace M := ((M.sees Sw4).addS (N := 16) (cs := [.int .u64 0, .int .u64 0, .int .u64 0, .int .u64 0, .int .u64 0, .int .u64 0, .int .u64 0, .int .u64 0, .int .u64 0, .int .u64 0, .int .u64 0, .int .u64 0, .int .u64 0, .int .u64 0, .int .u64 0, .int .u64 0]) (segs := [(0, [.int .u64 0, .int .u64 0, .int .u64 0, .int .u64 0]), (4, [.int .u64 0, .int .u64 0, .int .u64 0, .int .u64 0]), (8, [.int .u64 0, .int .u64 0, .int .u64 0, .int .u64 0]), (12, [.int .u64 0, .int .u64 0, .int .u64 0, .int .u64 0])]) (M.ge Hg3) (M.fresh Hg3) Bg3 rfl ⟨rfl, rfl, rfl, rfl, trivial⟩)
 clear Bg3
 simp only [Z0, Z6]
 refine lNp (hK1 _ _ ?_)
 refine Z10 (fun K5 hK5 => Z13 ?_)
 refine lCh 3 (fun Lk hLk => ?_)
 refine Z25 (v := fe 0) (args := #[.int .u64 0]) (by rfl) rfl G991 (by kernel_rfl) (by kernel_rfl) rfl (fun W hW => of_c (n := 0) (by decide) W) ?_
 simp only [Z0, Z6]
 refine Z25 (v := fe 1) (args := #[.int .u64 1]) (by rfl) rfl G991 (by kernel_rfl) (by kernel_rfl) rfl (fun W hW => of_c (n := 1) (by decide) W) ?_
 simp only [Z0, Z6]
 refine Z25 (v := .agg (fel (affP 0 1).x ++ fel (affP 0 1).y ++ fel (affP 0 1).z ++ fel (affP 0 1).t : List Value).toArray) (args := #[fe 0, fe 1]) (by rfl) rfl Tryd.func92 (by kernel_rfl) (by kernel_rfl) rfl (fun W hW => affine_c (by decide) (by decide)) ?_
 simp only [Z0, Z6]
 refine Z19 (hLk _ (fun w7 Sw7 => ?_))
 simp only [Z7, Z8]
 replace M := M.sees Sw7
 refine lSt (g := g3) (off := 0) (n := 16) (cs := fel (affP 0 1).x ++ fel (affP 0 1).y ++ fel (affP 0 1).z ++ fel (affP 0 1).t) (M.t 0 rfl) (by simp [flen]) info88 (one4 _ _ _ _) (fun w8 P R T => ?_)
 replace M := M.put (segs' := [(0, fel (affP 0 1).x), (4, fel (affP 0 1).y), (8, fel (affP 0 1).z), (12, fel (affP 0 1).t)]) 0 rfl P T (SegsOf.at R ⟨rfl, rfl, rfl, rfl, trivial⟩)
 simp only [Z6] at M
 refine lNp (hK5 _ _ ?_)
 refine wp_ret ?_
 repeat (first | with_reducible refine then_ret ?_ | with_reducible refine inblock_ret ?_)
 refine bodyPost_ret (v := .agg (fel (affP 0 1).x ++ (fel (affP 0 1).y) ++ (fel (affP 0 1).z) ++ (fel (affP 0 1).t) : List Value).toArray) (res1 rfl (.cell (by rfl) (run_loadVar_mid _ _ _ _ (fel (affP 0 1).x ++ (fel (affP 0 1).y) ++ (fel (affP 0 1).z) ++ (fel (affP 0 1).t)) _ (range_join (range_join (range_join (M.r 0 0 rfl rfl) (M.r 0 1 rfl rfl) (by simp [flen])) (M.r 0 2 rfl rfl) (by simp [flen])) (M.r 0 3 rfl rfl) (by simp [flen])) U988 rfl info88))) rfl ?_
 have BE := M.below
 exact ⟨rfl, BE⟩
set_option maxHeartbeats 1000000 in
theorem root_c {y : Nat} {w : World} (hy : y < 2 ^ 256) :
  Calls Tryd.prog 89 #[fe y] w fun e w' => e = .returned (.tuple #[fe (rootX y).1, .bool (rootX y).2]) ∧ Below w.heap.size w w' := by
 go_enter Tryd.func89, Tryd.ntmps89
 have M := Mem.start w
 refine Z10 (fun K1 hK1 => Z13 ?_)
 refine Z36 (t := 86) (cs := fel y) (by rfl) (fun W => ?_) (fun g3 w4 Sw4 Hg3 Bg3 => ?_)
 ·
  (first | rfl | go_simp)
 replace M := ((M.sees Sw4).add (N := 4) (cs := fel y) (M.ge Hg3) (M.fresh Hg3) Bg3 rfl)
 clear Bg3
 simp only [Z0, Z6]
 refine Z36 (t := 86) (cs := [.int .u64 0, .int .u64 0, .int .u64 0, .int .u64 0]) (by rfl) (fun W => ?_) (fun g5 w6 Sw6 Hg5 Bg5 => ?_)
 ·
  go_simp
 replace M := ((M.sees Sw6).add (N := 4) (cs := [.int .u64 0, .int .u64 0, .int .u64 0, .int .u64 0]) (M.ge Hg5) (M.fresh Hg5) Bg5 rfl)
 clear Bg5
 simp only [Z0, Z6]
 refine lAs (v := .bool false) ?_
 simp only [Z0, Z6]
 refine lNp (hK1 _ _ ?_)
 refine Z10 (fun K7 hK7 => Z13 ?_)
 refine lCh 3 (fun Lk hLk => ?_)
 refine vLd (cs := fel y) (M.r 1 0 rfl rfl) (M.lt 1 rfl) U986 info86 ?_
 simp only [Z0, Z6]
 refine vLd (cs := fel y) (M.r 1 0 rfl rfl) (M.lt 1 rfl) U986 info86 ?_
 simp only [Z0, Z6]
 refine Z25 (v := fe (fmul y y)) (args := #[fe y, fe y]) (by rfl) rfl G996 (by kernel_rfl) (by kernel_rfl) rfl (fun W hW => fmul_c hy hy W) ?_
 simp only [Z0, Z6]
 refine Z19 (hLk _ (fun w9 Sw9 => ?_))
 simp only [Z7, Z8]
 replace M := M.sees Sw9
 refine Z36 (t := 86) (cs := [.int .u64 0, .int .u64 0, .int .u64 0, .int .u64 0]) (by rfl) (fun W => ?_) (fun g10 w11 Sw11 Hg10 Bg10 => ?_)
 ·
  go_simp
 replace M := ((M.sees Sw11).add (N := 4) (cs := [.int .u64 0, .int .u64 0, .int .u64 0, .int .u64 0]) (M.ge Hg10) (M.fresh Hg10) Bg10 rfl)
 clear Bg10
 simp only [Z0, Z6]
 refine lSt (g := g10) (off := 0) (n := 4) (cs := fel (fmul y y)) (M.t 0 rfl) (by simp [flen]) info86 (fel_one _) (fun w12 P R T => ?_)
 replace M := M.putS 0 0 rfl P R T rfl ⟨.inl rfl, trivial⟩
 simp only [Z6] at M
 refine lNp (hK7 _ _ ?_)
 refine Z10 (fun K13 hK13 => ?_)
 refine wp_region_grow 6 [] (by kernel_rfl) (by kernel_rfl) (by kernel_rfl) (fun Lk hLk => ?_)
 simp only [Z7, Z8]
 refine vLd (cs := fel (fmul y y)) (M.r 0 0 rfl rfl) (M.lt 0 rfl) U986 info86 ?_
 simp only [Z0, Z6]
 refine Z25 (v := fe dF) (args := #[]) (by rfl) rfl G9129 (by kernel_rfl) (by kernel_rfl) rfl (fun W hW => twisted_c) ?_
 simp only [Z0, Z6]
 refine Z25 (v := fe (fmul (fmul y y) dF)) (args := #[fe (fmul y y), fe dF]) (by rfl) rfl G996 (by kernel_rfl) (by kernel_rfl) rfl (fun W hW => fmul_c (fmul_lt ..) dF_lt W) ?_
 simp only [Z0, Z6]
 refine Z25 (v := fe 1) (args := #[.int .u64 1]) (by rfl) rfl G991 (by kernel_rfl) (by kernel_rfl) rfl (fun W hW => of_c (n := 1) (by decide) W) ?_
 simp only [Z0, Z6]
 refine Z25 (v := fe (fadd (fmul (fmul y y) dF) 1)) (args := #[fe (fmul (fmul y y) dF), fe 1]) (by rfl) rfl Tryd.func128 (by kernel_rfl) (by kernel_rfl) rfl (fun W hW => fadd_c (fmul_lt ..) (by decide) W) ?_
 simp only [Z0, Z6]
 refine vAl ?_
 refine Z19 (hLk.out _ ?_)
 simp only [Z7, Z8]
 iterate 5 refine Z28 (by rfl) ?_
 refine wpN_new (t := 86) (cs := ([.int .u64 0, .int .u64 0, .int .u64 0, .int .u64 0]).toArray) (by rfl) (fun W => ?_) (fun g15 Hg15 ng15 => ?_)
 ·
  go_simp
 simp only [Z0, Z6]
 refine Z29 (fun w16 Sw16 hbs => ?_)
 replace M := ((M.sees Sw16).add (N := 4) (cs := [.int .u64 0, .int .u64 0, .int .u64 0, .int .u64 0]) (M.ge Hg15) (M.fresh Hg15) (hbs _ (.head _)) rfl)
 clear hbs ng15
 refine lSt (g := g15) (off := 0) (n := 4) (cs := fel (fadd (fmul (fmul y y) dF) 1)) (M.t 0 rfl) (by simp [flen]) info86 (fel_one _) (fun w17 P R T => ?_)
 replace M := M.putS 0 0 rfl P R T rfl ⟨.inl rfl, trivial⟩
 simp only [Z6] at M
 refine lNp (hK13 _ _ ?_)
 refine Z10 (fun K18 hK18 => ?_)
 refine wp_region_grow 9 [] (by kernel_rfl) (by kernel_rfl) (by kernel_rfl) (fun Lk hLk => ?_)
 simp only [Z7, Z8]
 refine vLd (cs := fel (fmul y y)) (M.r 1 0 rfl rfl) (M.lt 1 rfl) U986 info86 ?_
 simp only [Z0, Z6]
 refine Z25 (v := fe 1) (args := #[.int .u64 1]) (by rfl) rfl G991 (by kernel_rfl) (by kernel_rfl) rfl (fun W hW => of_c (n := 1) (by decide) W) ?_
 simp only [Z0, Z6]
 refine Z25 (v := fe (fsub (fmul y y) 1)) (args := #[fe (fmul y y), fe 1]) (by rfl) rfl Tryd.func90 (by kernel_rfl) (by kernel_rfl) rfl (fun W hW => fsub_c (fmul_lt ..) (by decide) W) ?_
 simp only [Z0, Z6]
 refine vLd (cs := fel (fadd (fmul (fmul y y) dF) 1)) (M.r 0 0 rfl rfl) (M.lt 0 rfl) U986 info86 ?_
 simp only [Z0, Z6]
 refine Z25 (v := fe (finv (fadd (fmul (fmul y y) dF) 1))) (args := #[fe (fadd (fmul (fmul y y) dF) 1)]) (by rfl) rfl Tryd.func97 (by kernel_rfl) (by kernel_rfl) rfl (fun W hW => finv_c (fadd_lt ..) W) ?_
 simp only [Z0, Z6]
 refine Z25 (v := fe (fmul (fsub (fmul y y) 1) (finv (fadd (fmul (fmul y y) dF) 1)))) (args := #[fe (fsub (fmul y y) 1), fe (finv (fadd (fmul (fmul y y) dF) 1))]) (by rfl) rfl G996 (by kernel_rfl) (by kernel_rfl) rfl (fun W hW => fmul_c (fsub_lt ..) (finv_lt ..) W) ?_
 simp only [Z0, Z6]
 refine Z25 (v := .tuple #[fe ((fsqrt (fmul (fsub (fmul y y) 1) (finv (fadd (fmul (fmul y y) dF) 1)))).1), .bool ((fsqrt (fmul (fsub (fmul y y) 1) (finv (fadd (fmul (fmul y y) dF) 1)))).2)]) (args := #[fe (fmul (fsub (fmul y y) 1) (finv (fadd (fmul (fmul y y) dF) 1)))]) (by rfl) rfl Tryd.func130 (by kernel_rfl) (by kernel_rfl) rfl (fun W hW => fsqrt_c (fmul_lt ..) W) ?_
 simp only [Z0, Z6]
 refine Z32 (v := fe ((fsqrt (fmul (fsub (fmul y y) 1) (finv (fadd (fmul (fmul y y) dF) 1)))).1)) (by rfl) rfl rfl rfl ?_
 simp only [Z0, Z6]
 refine Z32 (v := .bool ((fsqrt (fmul (fsub (fmul y y) 1) (finv (fadd (fmul (fmul y y) dF) 1)))).2)) (by rfl) rfl rfl rfl ?_
 simp only [Z0, Z6]
 refine Z19 (hLk.out _ ?_)
 simp only [Z7, Z8]
 iterate 9 refine Z28 (by rfl) ?_
 refine Z29 (fun w20 Sw20 hbs => ?_)
 clear hbs
 replace M := M.sees Sw20
 refine lSt (g := g5) (off := 0) (n := 4) (cs := fel ((fsqrt (fmul (fsub (fmul y y) 1) (finv (fadd (fmul (fmul y y) dF) 1)))).1)) (M.t 2 rfl) (by simp [flen]) info86 (fel_one _) (fun w21 P R T => ?_)
 replace M := M.putS 2 0 rfl P R T rfl ⟨.inl rfl, trivial⟩
 simp only [Z6] at M
 refine lAs (v := .bool ((fsqrt (fmul (fsub (fmul y y) 1) (finv (fadd (fmul (fmul y y) dF) 1)))).2)) ?_
 simp only [Z0, Z6]
 refine lNp (hK18 _ _ ?_)
 refine wp_ret ?_
 repeat (first | with_reducible refine then_ret ?_ | with_reducible refine inblock_ret ?_)
 refine bodyPost_ret (v := .tuple #[fe ((fsqrt (fmul (fsub (fmul y y) 1) (finv (fadd (fmul (fmul y y) dF) 1)))).1), .bool ((fsqrt (fmul (fsub (fmul y y) 1) (finv (fadd (fmul (fmul y y) dF) 1)))).2)]) (res2 rfl (.cell (by rfl) (run_loadVar_mid _ _ _ _ (fel ((fsqrt (fmul (fsub (fmul y y) 1) (finv (fadd (fmul (fmul y y) dF) 1)))).1)) _ (M.r 2 0 rfl rfl) U986 rfl info86)) (.tmp (by rfl))) rfl ?_
 have BE := M.below
 exact ⟨rfl, BE⟩
set_option maxHeartbeats 2000000 in
theorem right_c {p : P4} {w : World} (hp : p.Ok) :
  Calls Tryd.prog 93 #[.agg (fel p.x ++ fel p.y ++ fel p.z ++ fel p.t : List Value).toArray] w fun e w' => e = .returned (.bool (rightP p)) ∧ Below w.heap.size w w' := by
 go_enter Tryd.func93, Tryd.ntmps93
 have M := Mem.start w
 refine Z10 (fun K1 hK1 => Z13 ?_)
 refine Z36 (t := 88) (cs := fel p.x ++ fel p.y ++ fel p.z ++ fel p.t) (by rfl) (fun W => ?_) (fun g3 w4 Sw4 Hg3 Bg3 => ?_)
 ·
  (first | rfl | go_simp)
 replace M := ((M.sees Sw4).addS (N := 16) (cs := fel p.x ++ fel p.y ++ fel p.z ++ fel p.t) (segs := [(0, fel p.x), (4, fel p.y), (8, fel p.z), (12, fel p.t)]) (M.ge Hg3) (M.fresh Hg3) Bg3 (by simp [flen]) ⟨rfl, rfl, rfl, rfl, trivial⟩)
 clear Bg3
 simp only [Z0, Z6]
 refine lAs (v := .bool false) ?_
 simp only [Z0, Z6]
 refine lNp (hK1 _ _ ?_)
 refine Z10 (fun K5 hK5 => ?_)
 refine Z10 (fun K6 hK6 => Z13 ?_)
 refine lCh 9 (fun Lk hLk => ?_)
 refine vGo (v := .pointer (some ⟨g3, 0, none⟩)) ?_
 simp only [Z0, Z6]
 refine vLd (cs := fel p.x) (M.r 0 0 rfl rfl) (M.lt 0 rfl) U986 info86 ?_
 simp only [Z0, Z6]
 refine vGo (v := .pointer (some ⟨g3, 4, none⟩)) ?_
 simp only [Z0, Z6]
 refine vLd (cs := fel p.y) (M.r 0 1 rfl rfl) (M.lt 0 rfl) U986 info86 ?_
 simp only [Z0, Z6]
 refine vGo (v := .pointer (some ⟨g3, 8, none⟩)) ?_
 simp only [Z0, Z6]
 refine vLd (cs := fel p.z) (M.r 0 2 rfl rfl) (M.lt 0 rfl) U986 info86 ?_
 simp only [Z0, Z6]
 refine vGo (v := .pointer (some ⟨g3, 12, none⟩)) ?_
 simp only [Z0, Z6]
 refine vLd (cs := fel p.t) (M.r 0 3 rfl rfl) (M.lt 0 rfl) U986 info86 ?_
 simp only [Z0, Z6]
 refine vGk (v := .agg ((fel p.x) ++ (fel p.y) ++ (fel p.z) ++ (fel p.t) : List Value).toArray) ?_
 simp only [Z0, Z6]
 refine Z19 (hLk _ (fun w8 Sw8 => ?_))
 simp only [Z7, Z8]
 replace M := M.sees Sw8
 refine lMv (v := .int .i64 0) ?_
 simp only [Z0, Z6]
 refine lNp (hK6 _ _ ?_)
 refine wp_block ?_
 refine wp_loop_rounds 5 ?_
 rw [rounds_succ]
 refine Z10 (fun K9 hK9 => Z13 ?_)
 refine lCh 1 (fun Lk hLk => ?_)
 refine vBn (v := .bool true) (hr := fun W => run_lss _ _ _ _ W) ?_
 simp only [Z0, Z6]
 refine Z19 (hLk _ (fun w11 Sw11 => ?_))
 simp only [Z7, Z8]
 replace M := M.sees Sw11
 refine lNp (hK9 _ _ ?_)
 refine Z10 (fun K12 hK12 => ?_)
 refine Z11 rfl ?_
 refine wp_skip ?_
 refine hK12 _ _ ?_
 refine Z10 (fun K13 hK13 => ?_)
 refine wp_block ?_
 refine Z10 (fun K14 hK14 => Z13 ?_)
 refine lCh 1 (fun Lk hLk => ?_)
 refine vGk (v := fe p.x) ?_
 simp only [Z0, Z6]
 refine Z19 (hLk _ (fun w16 Sw16 => ?_))
 simp only [Z7, Z8]
 replace M := M.sees Sw16
 refine Z36 (t := 86) (cs := [.int .u64 0, .int .u64 0, .int .u64 0, .int .u64 0]) (by rfl) (fun W => ?_) (fun g17 w18 Sw18 Hg17 Bg17 => ?_)
 ·
  go_simp
 replace M := ((M.sees Sw18).add (N := 4) (cs := [.int .u64 0, .int .u64 0, .int .u64 0, .int .u64 0]) (M.ge Hg17) (M.fresh Hg17) Bg17 rfl)
 clear Bg17
 simp only [Z0, Z6]
 refine lSt (g := g17) (off := 0) (n := 4) (cs := fel p.x) (M.t 0 rfl) (by simp [flen]) info86 (fel_one _) (fun w19 P R T => ?_)
 replace M := M.putS 0 0 rfl P R T rfl ⟨.inl rfl, trivial⟩
 simp only [Z6] at M
 refine lNp (hK14 _ _ ?_)
 refine Z10 (fun K20 hK20 => ?_)
 refine wp_region_grow 4 [] (by kernel_rfl) (by kernel_rfl) (by kernel_rfl) (fun Lk hLk => ?_)
 simp only [Z7, Z8]
 refine vLd (cs := fel p.x) (M.r 0 0 rfl rfl) (M.lt 0 rfl) U986 info86 ?_
 simp only [Z0, Z6]
 refine Z25 (v := fe (leastF p.x)) (args := #[fe p.x]) (by rfl) rfl G9127 (by kernel_rfl) (by kernel_rfl) rfl (fun W hW => least_c hp.x W) ?_
 simp only [Z0, Z6]
 refine vLd (cs := fel p.x) (M.r 0 0 rfl rfl) (M.lt 0 rfl) U986 info86 ?_
 simp only [Z0, Z6]
 refine Z24 (v := .bool (decide (leastF p.x ≠ p.x))) (by rfl) (by rfl) (fun W hW => ?_) ?_
 ·
  exact run_neq_fe (leastF_lt ..) hp.x U986 U940 info40 (by kernel_rfl) rfl rfl rfl W
 simp only [Z0, Z6]
 refine Z19 (hLk.out _ ?_)
 simp only [Z7, Z8]
 iterate 4 refine Z28 (by rfl) ?_
 refine Z29 (fun w22 Sw22 hbs => ?_)
 clear hbs
 replace M := M.sees Sw22
 refine lNp (hK20 _ _ ?_)
 cases hc23 : (decide (leastF p.x ≠ p.x))
 ·
  have q24 : leastF p.x = p.x := Decidable.not_not.1 (of_decide_eq_false hc23)
  refine Z12 rfl ?_
  refine wp_skip ?_
  refine hK13 _ _ ?_
  refine Z13 ?_
  refine lCh 1 (fun Lk hLk => ?_)
  refine vBn (v := .int .i64 1) (hr := fun W => run_add (by decide) W) ?_
  simp only [Z0, Z6]
  refine Z19 (hLk _ (fun w26 Sw26 => ?_))
  simp only [Z7, Z8]
  replace M := M.sees Sw26
  refine lMv (v := .int .i64 1) ?_
  simp only [Z0, Z6]
  refine Z14 (Z15 ?_)
  refine Z22 (Q := fun _ _ _ => True) ?_
  rw [rounds_succ]
  refine Z10 (fun K27 hK27 => Z13 ?_)
  refine lCh 1 (fun Lk hLk => ?_)
  refine vBn (v := .bool true) (hr := fun W => run_lss _ _ _ _ W) ?_
  simp only [Z0, Z6]
  refine Z19 (hLk _ (fun w29 Sw29 => ?_))
  simp only [Z7, Z8]
  replace M := M.sees Sw29
  refine lNp (hK27 _ _ ?_)
  refine Z10 (fun K30 hK30 => ?_)
  refine Z11 rfl ?_
  refine wp_skip ?_
  refine hK30 _ _ ?_
  refine Z10 (fun K31 hK31 => ?_)
  refine wp_block ?_
  refine Z10 (fun K32 hK32 => Z13 ?_)
  refine lCh 1 (fun Lk hLk => ?_)
  refine vGk (v := fe p.y) ?_
  simp only [Z0, Z6]
  refine Z19 (hLk _ (fun w34 Sw34 => ?_))
  simp only [Z7, Z8]
  replace M := M.sees Sw34
  refine Z36 (t := 86) (cs := [.int .u64 0, .int .u64 0, .int .u64 0, .int .u64 0]) (by rfl) (fun W => ?_) (fun g35 w36 Sw36 Hg35 Bg35 => ?_)
  ·
   go_simp
  replace M := ((M.sees Sw36).add (N := 4) (cs := [.int .u64 0, .int .u64 0, .int .u64 0, .int .u64 0]) (M.ge Hg35) (M.fresh Hg35) Bg35 rfl)
  clear Bg35
  simp only [Z0, Z6]
  refine lSt (g := g35) (off := 0) (n := 4) (cs := fel p.y) (M.t 0 rfl) (by simp [flen]) info86 (fel_one _) (fun w37 P R T => ?_)
  replace M := M.putS 0 0 rfl P R T rfl ⟨.inl rfl, trivial⟩
  simp only [Z6] at M
  refine lNp (hK32 _ _ ?_)
  refine Z10 (fun K38 hK38 => ?_)
  refine wp_region_grow 4 [] (by kernel_rfl) (by kernel_rfl) (by kernel_rfl) (fun Lk hLk => ?_)
  simp only [Z7, Z8]
  refine vLd (cs := fel p.y) (M.r 0 0 rfl rfl) (M.lt 0 rfl) U986 info86 ?_
  simp only [Z0, Z6]
  refine Z25 (v := fe (leastF p.y)) (args := #[fe p.y]) (by rfl) rfl G9127 (by kernel_rfl) (by kernel_rfl) rfl (fun W hW => least_c hp.y W) ?_
  simp only [Z0, Z6]
  refine vLd (cs := fel p.y) (M.r 0 0 rfl rfl) (M.lt 0 rfl) U986 info86 ?_
  simp only [Z0, Z6]
  refine Z24 (v := .bool (decide (leastF p.y ≠ p.y))) (by rfl) (by rfl) (fun W hW => ?_) ?_
  ·
   exact run_neq_fe (leastF_lt ..) hp.y U986 U940 info40 (by kernel_rfl) rfl rfl rfl W
  simp only [Z0, Z6]
  refine Z19 (hLk.out _ ?_)
  simp only [Z7, Z8]
  iterate 4 refine Z28 (by rfl) ?_
  refine Z29 (fun w40 Sw40 hbs => ?_)
  clear hbs
  replace M := M.sees Sw40
  refine lNp (hK38 _ _ ?_)
  cases hc41 : (decide (leastF p.y ≠ p.y))
  ·
   have q42 : leastF p.y = p.y := Decidable.not_not.1 (of_decide_eq_false hc41)
   refine Z12 rfl ?_
   refine wp_skip ?_
   refine hK31 _ _ ?_
   refine Z13 ?_
   refine lCh 1 (fun Lk hLk => ?_)
   refine vBn (v := .int .i64 2) (hr := fun W => run_add (by decide) W) ?_
   simp only [Z0, Z6]
   refine Z19 (hLk _ (fun w44 Sw44 => ?_))
   simp only [Z7, Z8]
   replace M := M.sees Sw44
   refine lMv (v := .int .i64 2) ?_
   simp only [Z0, Z6]
   refine Z14 (Z15 ?_)
   refine Z22 (Q := fun _ _ _ => True) ?_
   rw [rounds_succ]
   refine Z10 (fun K45 hK45 => Z13 ?_)
   refine lCh 1 (fun Lk hLk => ?_)
   refine vBn (v := .bool true) (hr := fun W => run_lss _ _ _ _ W) ?_
   simp only [Z0, Z6]
   refine Z19 (hLk _ (fun w47 Sw47 => ?_))
   simp only [Z7, Z8]
   replace M := M.sees Sw47
   refine lNp (hK45 _ _ ?_)
   refine Z10 (fun K48 hK48 => ?_)
   refine Z11 rfl ?_
   refine wp_skip ?_
   refine hK48 _ _ ?_
   refine Z10 (fun K49 hK49 => ?_)
   refine wp_block ?_
   refine Z10 (fun K50 hK50 => Z13 ?_)
   refine lCh 1 (fun Lk hLk => ?_)
   refine vGk (v := fe p.z) ?_
   simp only [Z0, Z6]
   refine Z19 (hLk _ (fun w52 Sw52 => ?_))
   simp only [Z7, Z8]
   replace M := M.sees Sw52
   refine Z36 (t := 86) (cs := [.int .u64 0, .int .u64 0, .int .u64 0, .int .u64 0]) (by rfl) (fun W => ?_) (fun g53 w54 Sw54 Hg53 Bg53 => ?_)
   ·
    go_simp
   replace M := ((M.sees Sw54).add (N := 4) (cs := [.int .u64 0, .int .u64 0, .int .u64 0, .int .u64 0]) (M.ge Hg53) (M.fresh Hg53) Bg53 rfl)
   clear Bg53
   simp only [Z0, Z6]
   refine lSt (g := g53) (off := 0) (n := 4) (cs := fel p.z) (M.t 0 rfl) (by simp [flen]) info86 (fel_one _) (fun w55 P R T => ?_)
   replace M := M.putS 0 0 rfl P R T rfl ⟨.inl rfl, trivial⟩
   simp only [Z6] at M
   refine lNp (hK50 _ _ ?_)
   refine Z10 (fun K56 hK56 => ?_)
   refine wp_region_grow 4 [] (by kernel_rfl) (by kernel_rfl) (by kernel_rfl) (fun Lk hLk => ?_)
   simp only [Z7, Z8]
   refine vLd (cs := fel p.z) (M.r 0 0 rfl rfl) (M.lt 0 rfl) U986 info86 ?_
   simp only [Z0, Z6]
   refine Z25 (v := fe (leastF p.z)) (args := #[fe p.z]) (by rfl) rfl G9127 (by kernel_rfl) (by kernel_rfl) rfl (fun W hW => least_c hp.z W) ?_
   simp only [Z0, Z6]
   refine vLd (cs := fel p.z) (M.r 0 0 rfl rfl) (M.lt 0 rfl) U986 info86 ?_
   simp only [Z0, Z6]
   refine Z24 (v := .bool (decide (leastF p.z ≠ p.z))) (by rfl) (by rfl) (fun W hW => ?_) ?_
   ·
    exact run_neq_fe (leastF_lt ..) hp.z U986 U940 info40 (by kernel_rfl) rfl rfl rfl W
   simp only [Z0, Z6]
   refine Z19 (hLk.out _ ?_)
   simp only [Z7, Z8]
   iterate 4 refine Z28 (by rfl) ?_
   refine Z29 (fun w58 Sw58 hbs => ?_)
   clear hbs
   replace M := M.sees Sw58
   refine lNp (hK56 _ _ ?_)
   cases hc59 : (decide (leastF p.z ≠ p.z))
   ·
    have q60 : leastF p.z = p.z := Decidable.not_not.1 (of_decide_eq_false hc59)
    refine Z12 rfl ?_
    refine wp_skip ?_
    refine hK49 _ _ ?_
    refine Z13 ?_
    refine lCh 1 (fun Lk hLk => ?_)
    refine vBn (v := .int .i64 3) (hr := fun W => run_add (by decide) W) ?_
    simp only [Z0, Z6]
    refine Z19 (hLk _ (fun w62 Sw62 => ?_))
    simp only [Z7, Z8]
    replace M := M.sees Sw62
    refine lMv (v := .int .i64 3) ?_
    simp only [Z0, Z6]
    refine Z14 (Z15 ?_)
    refine Z22 (Q := fun _ _ _ => True) ?_
    rw [rounds_succ]
    refine Z10 (fun K63 hK63 => Z13 ?_)
    refine lCh 1 (fun Lk hLk => ?_)
    refine vBn (v := .bool true) (hr := fun W => run_lss _ _ _ _ W) ?_
    simp only [Z0, Z6]
    refine Z19 (hLk _ (fun w65 Sw65 => ?_))
    simp only [Z7, Z8]
    replace M := M.sees Sw65
    refine lNp (hK63 _ _ ?_)
    refine Z10 (fun K66 hK66 => ?_)
    refine Z11 rfl ?_
    refine wp_skip ?_
    refine hK66 _ _ ?_
    refine Z10 (fun K67 hK67 => ?_)
    refine wp_block ?_
    refine Z10 (fun K68 hK68 => Z13 ?_)
    refine lCh 1 (fun Lk hLk => ?_)
    refine vGk (v := fe p.t) ?_
    simp only [Z0, Z6]
    refine Z19 (hLk _ (fun w70 Sw70 => ?_))
    simp only [Z7, Z8]
    replace M := M.sees Sw70
    refine Z36 (t := 86) (cs := [.int .u64 0, .int .u64 0, .int .u64 0, .int .u64 0]) (by rfl) (fun W => ?_) (fun g71 w72 Sw72 Hg71 Bg71 => ?_)
    ·
     go_simp
    replace M := ((M.sees Sw72).add (N := 4) (cs := [.int .u64 0, .int .u64 0, .int .u64 0, .int .u64 0]) (M.ge Hg71) (M.fresh Hg71) Bg71 rfl)
    clear Bg71
    simp only [Z0, Z6]
    refine lSt (g := g71) (off := 0) (n := 4) (cs := fel p.t) (M.t 0 rfl) (by simp [flen]) info86 (fel_one _) (fun w73 P R T => ?_)
    replace M := M.putS 0 0 rfl P R T rfl ⟨.inl rfl, trivial⟩
    simp only [Z6] at M
    refine lNp (hK68 _ _ ?_)
    refine Z10 (fun K74 hK74 => ?_)
    refine wp_region_grow 4 [] (by kernel_rfl) (by kernel_rfl) (by kernel_rfl) (fun Lk hLk => ?_)
    simp only [Z7, Z8]
    refine vLd (cs := fel p.t) (M.r 0 0 rfl rfl) (M.lt 0 rfl) U986 info86 ?_
    simp only [Z0, Z6]
    refine Z25 (v := fe (leastF p.t)) (args := #[fe p.t]) (by rfl) rfl G9127 (by kernel_rfl) (by kernel_rfl) rfl (fun W hW => least_c hp.t W) ?_
    simp only [Z0, Z6]
    refine vLd (cs := fel p.t) (M.r 0 0 rfl rfl) (M.lt 0 rfl) U986 info86 ?_
    simp only [Z0, Z6]
    refine Z24 (v := .bool (decide (leastF p.t ≠ p.t))) (by rfl) (by rfl) (fun W hW => ?_) ?_
    ·
     exact run_neq_fe (leastF_lt ..) hp.t U986 U940 info40 (by kernel_rfl) rfl rfl rfl W
    simp only [Z0, Z6]
    refine Z19 (hLk.out _ ?_)
    simp only [Z7, Z8]
    iterate 4 refine Z28 (by rfl) ?_
    refine Z29 (fun w76 Sw76 hbs => ?_)
    clear hbs
    replace M := M.sees Sw76
    refine lNp (hK74 _ _ ?_)
    cases hc77 : (decide (leastF p.t ≠ p.t))
    ·
     have q78 : leastF p.t = p.t := Decidable.not_not.1 (of_decide_eq_false hc77)
     refine Z12 rfl ?_
     refine wp_skip ?_
     refine hK67 _ _ ?_
     refine Z13 ?_
     refine lCh 1 (fun Lk hLk => ?_)
     refine vBn (v := .int .i64 4) (hr := fun W => run_add (by decide) W) ?_
     simp only [Z0, Z6]
     refine Z19 (hLk _ (fun w80 Sw80 => ?_))
     simp only [Z7, Z8]
     replace M := M.sees Sw80
     refine lMv (v := .int .i64 4) ?_
     simp only [Z0, Z6]
     refine Z14 (Z15 ?_)
     refine Z22 (Q := fun _ _ _ => True) ?_
     rw [rounds_succ]
     refine Z10 (fun K81 hK81 => Z13 ?_)
     refine lCh 1 (fun Lk hLk => ?_)
     refine vBn (v := .bool false) (hr := fun W => run_lss _ _ _ _ W) ?_
     simp only [Z0, Z6]
     refine Z19 (hLk _ (fun w83 Sw83 => ?_))
     simp only [Z7, Z8]
     replace M := M.sees Sw83
     refine lNp (hK81 _ _ ?_)
     refine Z10 (fun K84 hK84 => ?_)
     refine Z12 rfl ?_
     refine wp_exit ?_
     refine hK5 _ _ ?_
     refine Z10 (fun K85 hK85 => ?_)
     refine Z10 (fun K86 hK86 => ?_)
     cases hg87 : (decide (p.z = 0))
     ·
      have q88 : ¬ (p.z = 0) := of_decide_eq_false hg87
      refine wp_region_grow 17 [] (by kernel_rfl) (by kernel_rfl) (by kernel_rfl) (fun Lk hLk => ?_)
      simp only [Z7, Z8]
      refine vGo (v := .pointer (some ⟨g3, 8, none⟩)) ?_
      simp only [Z0, Z6]
      refine vLd (cs := fel p.z) (M.r 4 2 rfl rfl) (M.lt 4 rfl) U986 info86 ?_
      simp only [Z0, Z6]
      refine Z24 (v := fe 0) (by rfl) (by rfl) (fun W hW => ?_) ?_
      ·
       rw [show fe 0 = .agg ([.int .u64 0, .int .u64 0, .int .u64 0, .int .u64 0]).toArray from (by kernel_rfl)]; unfold RunsVal; kernel_rfl
      simp only [Z0, Z6]
      refine Z24 (v := .bool false) (by rfl) (by rfl) (fun W hW => ?_) ?_
      ·
       exact hg87 ▸ run_eql_fe hp.z (by decide) U986 U940 info40 (by kernel_rfl) rfl rfl rfl W
      simp only [Z0, Z6]
      refine vMv (v := .bool false) ?_
      simp only [Z0, Z6]
      refine vGo (v := .pointer (some ⟨g3, 0, none⟩)) ?_
      simp only [Z0, Z6]
      refine vLd (cs := fel p.x) (M.r 4 0 rfl rfl) (M.lt 4 rfl) U986 info86 ?_
      simp only [Z0, Z6]
      refine vGo (v := .pointer (some ⟨g3, 4, none⟩)) ?_
      simp only [Z0, Z6]
      refine vLd (cs := fel p.y) (M.r 4 1 rfl rfl) (M.lt 4 rfl) U986 info86 ?_
      simp only [Z0, Z6]
      refine Z25 (v := fe (fmul p.x p.y)) (args := #[fe p.x, fe p.y]) (by rfl) rfl G996 (by kernel_rfl) (by kernel_rfl) rfl (fun W hW => fmul_c hp.x hp.y W) ?_
      simp only [Z0, Z6]
      refine vGo (v := .pointer (some ⟨g3, 8, none⟩)) ?_
      simp only [Z0, Z6]
      refine vLd (cs := fel p.z) (M.r 4 2 rfl rfl) (M.lt 4 rfl) U986 info86 ?_
      simp only [Z0, Z6]
      refine vGo (v := .pointer (some ⟨g3, 12, none⟩)) ?_
      simp only [Z0, Z6]
      refine vLd (cs := fel p.t) (M.r 4 3 rfl rfl) (M.lt 4 rfl) U986 info86 ?_
      simp only [Z0, Z6]
      refine Z25 (v := fe (fmul p.z p.t)) (args := #[fe p.z, fe p.t]) (by rfl) rfl G996 (by kernel_rfl) (by kernel_rfl) rfl (fun W hW => fmul_c hp.z hp.t W) ?_
      simp only [Z0, Z6]
      refine Z24 (v := .bool (decide (fmul p.x p.y ≠ fmul p.z p.t))) (by rfl) (by rfl) (fun W hW => ?_) ?_
      ·
       exact run_neq_fe (fmul_lt ..) (fmul_lt ..) U986 U940 info40 (by kernel_rfl) rfl rfl rfl W
      simp only [Z0, Z6]
      refine vPk (v := .bool (decide (fmul p.x p.y ≠ fmul p.z p.t))) ?_
      simp only [Z0, Z6]
      refine Z19 (hLk.out _ ?_)
      simp only [Z7, Z8]
      iterate 17 refine Z28 (by rfl) ?_
      refine Z29 (fun w90 Sw90 hbs => ?_)
      clear hbs
      replace M := M.sees Sw90
      refine lNp (hK86 _ _ ?_)
      cases hc91 : (decide (fmul p.x p.y ≠ fmul p.z p.t))
      ·
       have q92 : fmul p.x p.y = fmul p.z p.t := Decidable.not_not.1 (of_decide_eq_false hc91)
       refine Z12 rfl ?_
       refine wp_skip ?_
       refine hK85 _ _ ?_
       refine Z10 (fun K93 hK93 => ?_)
       refine wp_region_grow 12 [] (by kernel_rfl) (by kernel_rfl) (by kernel_rfl) (fun Lk hLk => ?_)
       simp only [Z7, Z8]
       refine vGo (v := .pointer (some ⟨g3, 4, none⟩)) ?_
       simp only [Z0, Z6]
       refine vLd (cs := fel p.y) (M.r 4 1 rfl rfl) (M.lt 4 rfl) U986 info86 ?_
       simp only [Z0, Z6]
       refine vGo (v := .pointer (some ⟨g3, 4, none⟩)) ?_
       simp only [Z0, Z6]
       refine vLd (cs := fel p.y) (M.r 4 1 rfl rfl) (M.lt 4 rfl) U986 info86 ?_
       simp only [Z0, Z6]
       refine Z25 (v := fe (fmul p.y p.y)) (args := #[fe p.y, fe p.y]) (by rfl) rfl G996 (by kernel_rfl) (by kernel_rfl) rfl (fun W hW => fmul_c hp.y hp.y W) ?_
       simp only [Z0, Z6]
       refine vGo (v := .pointer (some ⟨g3, 0, none⟩)) ?_
       simp only [Z0, Z6]
       refine vLd (cs := fel p.x) (M.r 4 0 rfl rfl) (M.lt 4 rfl) U986 info86 ?_
       simp only [Z0, Z6]
       refine vGo (v := .pointer (some ⟨g3, 0, none⟩)) ?_
       simp only [Z0, Z6]
       refine vLd (cs := fel p.x) (M.r 4 0 rfl rfl) (M.lt 4 rfl) U986 info86 ?_
       simp only [Z0, Z6]
       refine Z25 (v := fe (fmul p.x p.x)) (args := #[fe p.x, fe p.x]) (by rfl) rfl G996 (by kernel_rfl) (by kernel_rfl) rfl (fun W hW => fmul_c hp.x hp.x W) ?_
       simp only [Z0, Z6]
       refine Z25 (v := fe (fsub (fmul p.y p.y) (fmul p.x p.x))) (args := #[fe (fmul p.y p.y), fe (fmul p.x p.x)]) (by rfl) rfl Tryd.func90 (by kernel_rfl) (by kernel_rfl) rfl (fun W hW => fsub_c (fmul_lt ..) (fmul_lt ..) W) ?_
       simp only [Z0, Z6]
       refine vAl ?_
       refine Z19 (hLk.out _ ?_)
       simp only [Z7, Z8]
       iterate 11 refine Z28 (by rfl) ?_
       refine wpN_new (t := 86) (cs := ([.int .u64 0, .int .u64 0, .int .u64 0, .int .u64 0]).toArray) (by rfl) (fun W => ?_) (fun g95 Hg95 ng95 => ?_)
       ·
        go_simp
       simp only [Z0, Z6]
       refine Z29 (fun w96 Sw96 hbs => ?_)
       replace M := ((M.sees Sw96).add (N := 4) (cs := [.int .u64 0, .int .u64 0, .int .u64 0, .int .u64 0]) (M.ge Hg95) (M.fresh Hg95) (hbs _ (.head _)) rfl)
       clear hbs ng95
       refine lSt (g := g95) (off := 0) (n := 4) (cs := fel (fsub (fmul p.y p.y) (fmul p.x p.x))) (M.t 0 rfl) (by simp [flen]) info86 (fel_one _) (fun w97 P R T => ?_)
       replace M := M.putS 0 0 rfl P R T rfl ⟨.inl rfl, trivial⟩
       simp only [Z6] at M
       refine lNp (hK93 _ _ ?_)
       refine Z10 (fun K98 hK98 => ?_)
       refine wp_region_grow 14 [] (by kernel_rfl) (by kernel_rfl) (by kernel_rfl) (fun Lk hLk => ?_)
       simp only [Z7, Z8]
       refine vGo (v := .pointer (some ⟨g3, 8, none⟩)) ?_
       simp only [Z0, Z6]
       refine vLd (cs := fel p.z) (M.r 5 2 rfl rfl) (M.lt 5 rfl) U986 info86 ?_
       simp only [Z0, Z6]
       refine vGo (v := .pointer (some ⟨g3, 8, none⟩)) ?_
       simp only [Z0, Z6]
       refine vLd (cs := fel p.z) (M.r 5 2 rfl rfl) (M.lt 5 rfl) U986 info86 ?_
       simp only [Z0, Z6]
       refine Z25 (v := fe (fmul p.z p.z)) (args := #[fe p.z, fe p.z]) (by rfl) rfl G996 (by kernel_rfl) (by kernel_rfl) rfl (fun W hW => fmul_c hp.z hp.z W) ?_
       simp only [Z0, Z6]
       refine Z25 (v := fe dF) (args := #[]) (by rfl) rfl G9129 (by kernel_rfl) (by kernel_rfl) rfl (fun W hW => twisted_c) ?_
       simp only [Z0, Z6]
       refine vGo (v := .pointer (some ⟨g3, 12, none⟩)) ?_
       simp only [Z0, Z6]
       refine vLd (cs := fel p.t) (M.r 5 3 rfl rfl) (M.lt 5 rfl) U986 info86 ?_
       simp only [Z0, Z6]
       refine vGo (v := .pointer (some ⟨g3, 12, none⟩)) ?_
       simp only [Z0, Z6]
       refine vLd (cs := fel p.t) (M.r 5 3 rfl rfl) (M.lt 5 rfl) U986 info86 ?_
       simp only [Z0, Z6]
       refine Z25 (v := fe (fmul p.t p.t)) (args := #[fe p.t, fe p.t]) (by rfl) rfl G996 (by kernel_rfl) (by kernel_rfl) rfl (fun W hW => fmul_c hp.t hp.t W) ?_
       simp only [Z0, Z6]
       refine Z25 (v := fe (fmul dF (fmul p.t p.t))) (args := #[fe dF, fe (fmul p.t p.t)]) (by rfl) rfl G996 (by kernel_rfl) (by kernel_rfl) rfl (fun W hW => fmul_c dF_lt (fmul_lt ..) W) ?_
       simp only [Z0, Z6]
       refine Z25 (v := fe (fadd (fmul p.z p.z) (fmul dF (fmul p.t p.t)))) (args := #[fe (fmul p.z p.z), fe (fmul dF (fmul p.t p.t))]) (by rfl) rfl Tryd.func128 (by kernel_rfl) (by kernel_rfl) rfl (fun W hW => fadd_c (fmul_lt ..) (fmul_lt ..) W) ?_
       simp only [Z0, Z6]
       refine vAl ?_
       refine Z19 (hLk.out _ ?_)
       simp only [Z7, Z8]
       iterate 13 refine Z28 (by rfl) ?_
       refine wpN_new (t := 86) (cs := ([.int .u64 0, .int .u64 0, .int .u64 0, .int .u64 0]).toArray) (by rfl) (fun W => ?_) (fun g100 Hg100 ng100 => ?_)
       ·
        go_simp
       simp only [Z0, Z6]
       refine Z29 (fun w101 Sw101 hbs => ?_)
       replace M := ((M.sees Sw101).add (N := 4) (cs := [.int .u64 0, .int .u64 0, .int .u64 0, .int .u64 0]) (M.ge Hg100) (M.fresh Hg100) (hbs _ (.head _)) rfl)
       clear hbs ng100
       refine lSt (g := g100) (off := 0) (n := 4) (cs := fel (fadd (fmul p.z p.z) (fmul dF (fmul p.t p.t)))) (M.t 0 rfl) (by simp [flen]) info86 (fel_one _) (fun w102 P R T => ?_)
       replace M := M.putS 0 0 rfl P R T rfl ⟨.inl rfl, trivial⟩
       simp only [Z6] at M
       refine lNp (hK98 _ _ ?_)
       refine Z10 (fun K103 hK103 => Z13 ?_)
       refine lCh 3 (fun Lk hLk => ?_)
       refine vLd (cs := fel (fsub (fmul p.y p.y) (fmul p.x p.x))) (M.r 1 0 rfl rfl) (M.lt 1 rfl) U986 info86 ?_
       simp only [Z0, Z6]
       refine vLd (cs := fel (fadd (fmul p.z p.z) (fmul dF (fmul p.t p.t)))) (M.r 0 0 rfl rfl) (M.lt 0 rfl) U986 info86 ?_
       simp only [Z0, Z6]
       refine Z24 (v := .bool (decide (fsub (fmul p.y p.y) (fmul p.x p.x) = fadd (fmul p.z p.z) (fmul dF (fmul p.t p.t))))) (by rfl) (by rfl) (fun W hW => ?_) ?_
       ·
        exact run_eql_fe (fsub_lt ..) (fadd_lt ..) U986 U940 info40 (by kernel_rfl) rfl rfl rfl W
       simp only [Z0, Z6]
       refine Z19 (hLk _ (fun w105 Sw105 => ?_))
       simp only [Z7, Z8]
       replace M := M.sees Sw105
       refine lAs (v := .bool (decide (fsub (fmul p.y p.y) (fmul p.x p.x) = fadd (fmul p.z p.z) (fmul dF (fmul p.t p.t))))) ?_
       simp only [Z0, Z6]
       refine lNp (hK103 _ _ ?_)
       refine wp_ret ?_
       repeat (first | with_reducible refine then_ret ?_ | with_reducible refine inblock_ret ?_)
       refine bodyPost_ret (v := .bool (decide (fsub (fmul p.y p.y) (fmul p.x p.x) = fadd (fmul p.z p.z) (fmul dF (fmul p.t p.t))))) (res1 rfl (.tmp (by rfl))) rfl ?_
       have BE := M.below
       exact ⟨by unfold rightP; rw [decide_eq_true q24, decide_eq_true q42, decide_eq_true q60, decide_eq_true q78, decide_eq_true (p := p.z ≠ 0) q88, decide_eq_true q92]; rfl, BE⟩
      have q106 : (fmul p.x p.y ≠ fmul p.z p.t) := of_decide_eq_true hc91
      refine Z11 rfl ?_
      refine Z10 (fun K107 hK107 => Z13 ?_)
      refine lAs (v := .bool false) ?_
      simp only [Z0, Z6]
      refine lNp (hK107 _ _ ?_)
      refine wp_ret ?_
      repeat (first | with_reducible refine then_ret ?_ | with_reducible refine inblock_ret ?_)
      refine bodyPost_ret (v := .bool false) (res1 rfl (.tmp (by rfl))) rfl ?_
      have BE := M.below
      exact ⟨by unfold rightP; simp [q24, q42, q60, q78, q88, q106], BE⟩
     have q109 : (p.z = 0) := of_decide_eq_true hg87
     refine wp_region_grow 17 [] (by kernel_rfl) (by kernel_rfl) (by kernel_rfl) (fun Lk hLk => ?_)
     simp only [Z7, Z8]
     refine vGo (v := .pointer (some ⟨g3, 8, none⟩)) ?_
     simp only [Z0, Z6]
     refine vLd (cs := fel p.z) (M.r 4 2 rfl rfl) (M.lt 4 rfl) U986 info86 ?_
     simp only [Z0, Z6]
     refine Z24 (v := fe 0) (by rfl) (by rfl) (fun W hW => ?_) ?_
     ·
      rw [show fe 0 = .agg ([.int .u64 0, .int .u64 0, .int .u64 0, .int .u64 0]).toArray from (by kernel_rfl)]; unfold RunsVal; kernel_rfl
     simp only [Z0, Z6]
     refine Z24 (v := .bool true) (by rfl) (by rfl) (fun W hW => ?_) ?_
     ·
      exact hg87 ▸ run_eql_fe hp.z (by decide) U986 U940 info40 (by kernel_rfl) rfl rfl rfl W
     simp only [Z0, Z6]
     refine vMv (v := .bool true) ?_
     simp only [Z0, Z6]
     refine vSk ?_
     simp only [Z0, Z6]
     refine vSk ?_
     simp only [Z0, Z6]
     refine vSk ?_
     simp only [Z0, Z6]
     refine vSk ?_
     simp only [Z0, Z6]
     refine vSk ?_
     simp only [Z0, Z6]
     refine vSk ?_
     simp only [Z0, Z6]
     refine vSk ?_
     simp only [Z0, Z6]
     refine vSk ?_
     simp only [Z0, Z6]
     refine vSk ?_
     simp only [Z0, Z6]
     refine vSk ?_
     simp only [Z0, Z6]
     refine vSk ?_
     simp only [Z0, Z6]
     refine vPk (v := .bool true) ?_
     simp only [Z0, Z6]
     refine Z19 (hLk.out _ ?_)
     simp only [Z7, Z8]
     iterate 17 refine Z28 (by rfl) ?_
     refine Z29 (fun w111 Sw111 hbs => ?_)
     clear hbs
     replace M := M.sees Sw111
     refine lNp (hK86 _ _ ?_)
     refine Z11 rfl ?_
     refine Z10 (fun K112 hK112 => Z13 ?_)
     refine lAs (v := .bool false) ?_
     simp only [Z0, Z6]
     refine lNp (hK112 _ _ ?_)
     refine wp_ret ?_
     repeat (first | with_reducible refine then_ret ?_ | with_reducible refine inblock_ret ?_)
     refine bodyPost_ret (v := .bool false) (res1 rfl (.tmp (by rfl))) rfl ?_
     have BE := M.below
     exact ⟨by unfold rightP; simp [q24, q42, q60, q78, q109], BE⟩
    have q114 : (leastF p.t ≠ p.t) := of_decide_eq_true hc77
    refine Z11 rfl ?_
    refine Z10 (fun K115 hK115 => Z13 ?_)
    refine lAs (v := .bool false) ?_
    simp only [Z0, Z6]
    refine lNp (hK115 _ _ ?_)
    refine wp_ret ?_
    repeat (first | with_reducible refine then_ret ?_ | with_reducible refine inblock_ret ?_)
    refine bodyPost_ret (v := .bool false) (res1 rfl (.tmp (by rfl))) rfl ?_
    have BE := M.below
    exact ⟨by unfold rightP; simp [q24, q42, q60, q114], BE⟩
   have q117 : (leastF p.z ≠ p.z) := of_decide_eq_true hc59
   refine Z11 rfl ?_
   refine Z10 (fun K118 hK118 => Z13 ?_)
   refine lAs (v := .bool false) ?_
   simp only [Z0, Z6]
   refine lNp (hK118 _ _ ?_)
   refine wp_ret ?_
   repeat (first | with_reducible refine then_ret ?_ | with_reducible refine inblock_ret ?_)
   refine bodyPost_ret (v := .bool false) (res1 rfl (.tmp (by rfl))) rfl ?_
   have BE := M.below
   exact ⟨by unfold rightP; simp [q24, q42, q117], BE⟩
  have q120 : (leastF p.y ≠ p.y) := of_decide_eq_true hc41
  refine Z11 rfl ?_
  refine Z10 (fun K121 hK121 => Z13 ?_)
  refine lAs (v := .bool false) ?_
  simp only [Z0, Z6]
  refine lNp (hK121 _ _ ?_)
  refine wp_ret ?_
  repeat (first | with_reducible refine then_ret ?_ | with_reducible refine inblock_ret ?_)
  refine bodyPost_ret (v := .bool false) (res1 rfl (.tmp (by rfl))) rfl ?_
  have BE := M.below
  exact ⟨by unfold rightP; simp [q24, q120], BE⟩
 have q123 : (leastF p.x ≠ p.x) := of_decide_eq_true hc23
 refine Z11 rfl ?_
 refine Z10 (fun K124 hK124 => Z13 ?_)
 refine lAs (v := .bool false) ?_
 simp only [Z0, Z6]
 refine lNp (hK124 _ _ ?_)
 refine wp_ret ?_
 repeat (first | with_reducible refine then_ret ?_ | with_reducible refine inblock_ret ?_)
 refine bodyPost_ret (v := .bool false) (res1 rfl (.tmp (by rfl))) rfl ?_
 have BE := M.below
 exact ⟨by unfold rightP; simp [q123], BE⟩
end Go.Proofs.Yc

namespace Go.Proofs.Yc
open Go Go.RowKit Go.Proofs.Num
open Tryd renaming func128 → G9128, func90 → G990, func96 → G996, underlying86 → U986
open Go.Proofs.Num  renaming putT → Z0
open List renaming set → Z6, take → Z7, drop → Z8
open Go renaming wp_seq_k → Z10
open Go.Proofs.Num renaming wp_region_seq → Z13, wpL_nil → Z14, no_panic → Z15, wpV_nil → Z19, wpV_callf → Z25, wpN_skip → Z28, wpN_nil → Z29, wpL_var → Z36
attribute [local irreducible] wpV wpN wpList
open Go.Proofs.Ya
set_option maxHeartbeats 2000000 in
theorem sadd_m {g : Nat} {p q : P4} {w : World} (hp : p.Ok) (hq : q.Ok) (hM : Mem [g] w w [⟨g, 16, [(0, fel p.x), (4, fel p.y), (8, fel p.z), (12, fel p.t)]⟩]) :
  Calls Tryd.prog 95 #[.pointer (some ⟨g, 0, none⟩), .agg (fel q.x ++ fel q.y ++ fel q.z ++ fel q.t : List Value).toArray] w fun e w' => ∃ v, e = .returned v ∧ v = .tuple #[] ∧ Mem [g] w w' [⟨g, 16, [(0, fel (addP p q).x), (4, fel (addP p q).y), (8, fel (addP p q).z), (12, fel (addP p q).t)]⟩] := by
 go_enter Tryd.func95, Tryd.ntmps95
 have M := hM
 refine Z10 (fun K1 hK1 => Z13 ?_)
 refine Z36 (t := 88) (cs := fel q.x ++ fel q.y ++ fel q.z ++ fel q.t) (by rfl) (fun W => ?_) (fun g3 w4 Sw4 Hg3 Bg3 => ?_)
 ·
  (first | rfl | go_simp)
 replace M := ((M.sees Sw4).addS (N := 16) (cs := fel q.x ++ fel q.y ++ fel q.z ++ fel q.t) (segs := [(0, fel q.x), (4, fel q.y), (8, fel q.z), (12, fel q.t)]) (M.ge Hg3) (M.fresh Hg3) Bg3 (by simp [flen]) ⟨rfl, rfl, rfl, rfl, trivial⟩)
 clear Bg3
 simp only [Z0, Z6]
 refine lNp (hK1 _ _ ?_)
 refine Z10 (fun K5 hK5 => ?_)
 refine wp_region_grow 18 [] (by kernel_rfl) (by kernel_rfl) (by kernel_rfl) (fun Lk hLk => ?_)
 simp only [Z7, Z8]
 refine vMv (v := .pointer (some ⟨g, 0, none⟩)) ?_
 simp only [Z0, Z6]
 refine vNc ?_
 simp only [Z0, Z6]
 refine vGo (v := .pointer (some ⟨g, 0, none⟩)) ?_
 simp only [Z0, Z6]
 refine vGo (v := .pointer (some ⟨g, 4, none⟩)) ?_
 simp only [Z0, Z6]
 refine vLd (cs := fel p.y) (M.r 1 1 rfl rfl) (M.lt 1 rfl) U986 info86 ?_
 simp only [Z0, Z6]
 refine vMv (v := .pointer (some ⟨g, 0, none⟩)) ?_
 simp only [Z0, Z6]
 refine vNc ?_
 simp only [Z0, Z6]
 refine vGo (v := .pointer (some ⟨g, 0, none⟩)) ?_
 simp only [Z0, Z6]
 refine vGo (v := .pointer (some ⟨g, 0, none⟩)) ?_
 simp only [Z0, Z6]
 refine vLd (cs := fel p.x) (M.r 1 0 rfl rfl) (M.lt 1 rfl) U986 info86 ?_
 simp only [Z0, Z6]
 refine Z25 (v := fe (fsub p.y p.x)) (args := #[fe p.y, fe p.x]) (by rfl) rfl G990 (by kernel_rfl) (by kernel_rfl) rfl (fun W hW => fsub_c hp.y hp.x W) ?_
 simp only [Z0, Z6]
 refine vGo (v := .pointer (some ⟨g3, 4, none⟩)) ?_
 simp only [Z0, Z6]
 refine vLd (cs := fel q.y) (M.r 0 1 rfl rfl) (M.lt 0 rfl) U986 info86 ?_
 simp only [Z0, Z6]
 refine vGo (v := .pointer (some ⟨g3, 0, none⟩)) ?_
 simp only [Z0, Z6]
 refine vLd (cs := fel q.x) (M.r 0 0 rfl rfl) (M.lt 0 rfl) U986 info86 ?_
 simp only [Z0, Z6]
 refine Z25 (v := fe (fsub q.y q.x)) (args := #[fe q.y, fe q.x]) (by rfl) rfl G990 (by kernel_rfl) (by kernel_rfl) rfl (fun W hW => fsub_c hq.y hq.x W) ?_
 simp only [Z0, Z6]
 refine Z25 (v := fe (fmul (fsub p.y p.x) (fsub q.y q.x))) (args := #[fe (fsub p.y p.x), fe (fsub q.y q.x)]) (by rfl) rfl G996 (by kernel_rfl) (by kernel_rfl) rfl (fun W hW => fmul_c (fsub_lt ..) (fsub_lt ..) W) ?_
 simp only [Z0, Z6]
 refine vAl ?_
 refine Z19 (hLk.out _ ?_)
 simp only [Z7, Z8]
 iterate 17 refine Z28 (by rfl) ?_
 refine wpN_new (t := 86) (cs := ([.int .u64 0, .int .u64 0, .int .u64 0, .int .u64 0]).toArray) (by rfl) (fun W => ?_) (fun g7 Hg7 ng7 => ?_)
 ·
  go_simp
 simp only [Z0, Z6]
 refine Z29 (fun w8 Sw8 hbs => ?_)
 replace M := ((M.sees Sw8).add (N := 4) (cs := [.int .u64 0, .int .u64 0, .int .u64 0, .int .u64 0]) (M.ge Hg7) (M.fresh Hg7) (hbs _ (.head _)) rfl)
 clear hbs ng7
 refine lSt (g := g7) (off := 0) (n := 4) (cs := fel (fmul (fsub p.y p.x) (fsub q.y q.x))) (M.t 0 rfl) (by simp [flen]) info86 (fel_one _) (fun w9 P R T => ?_)
 replace M := M.putS 0 0 rfl P R T rfl ⟨.inl rfl, trivial⟩
 simp only [Z6] at M
 refine lNp (hK5 _ _ ?_)
 refine Z10 (fun K10 hK10 => ?_)
 refine wp_region_grow 18 [] (by kernel_rfl) (by kernel_rfl) (by kernel_rfl) (fun Lk hLk => ?_)
 simp only [Z7, Z8]
 refine vMv (v := .pointer (some ⟨g, 0, none⟩)) ?_
 simp only [Z0, Z6]
 refine vNc ?_
 simp only [Z0, Z6]
 refine vGo (v := .pointer (some ⟨g, 0, none⟩)) ?_
 simp only [Z0, Z6]
 refine vGo (v := .pointer (some ⟨g, 4, none⟩)) ?_
 simp only [Z0, Z6]
 refine vLd (cs := fel p.y) (M.r 2 1 rfl rfl) (M.lt 2 rfl) U986 info86 ?_
 simp only [Z0, Z6]
 refine vMv (v := .pointer (some ⟨g, 0, none⟩)) ?_
 simp only [Z0, Z6]
 refine vNc ?_
 simp only [Z0, Z6]
 refine vGo (v := .pointer (some ⟨g, 0, none⟩)) ?_
 simp only [Z0, Z6]
 refine vGo (v := .pointer (some ⟨g, 0, none⟩)) ?_
 simp only [Z0, Z6]
 refine vLd (cs := fel p.x) (M.r 2 0 rfl rfl) (M.lt 2 rfl) U986 info86 ?_
 simp only [Z0, Z6]
 refine Z25 (v := fe (fadd p.y p.x)) (args := #[fe p.y, fe p.x]) (by rfl) rfl G9128 (by kernel_rfl) (by kernel_rfl) rfl (fun W hW => fadd_c hp.y hp.x W) ?_
 simp only [Z0, Z6]
 refine vGo (v := .pointer (some ⟨g3, 4, none⟩)) ?_
 simp only [Z0, Z6]
 refine vLd (cs := fel q.y) (M.r 1 1 rfl rfl) (M.lt 1 rfl) U986 info86 ?_
 simp only [Z0, Z6]
 refine vGo (v := .pointer (some ⟨g3, 0, none⟩)) ?_
 simp only [Z0, Z6]
 refine vLd (cs := fel q.x) (M.r 1 0 rfl rfl) (M.lt 1 rfl) U986 info86 ?_
 simp only [Z0, Z6]
 refine Z25 (v := fe (fadd q.y q.x)) (args := #[fe q.y, fe q.x]) (by rfl) rfl G9128 (by kernel_rfl) (by kernel_rfl) rfl (fun W hW => fadd_c hq.y hq.x W) ?_
 simp only [Z0, Z6]
 refine Z25 (v := fe (fmul (fadd p.y p.x) (fadd q.y q.x))) (args := #[fe (fadd p.y p.x), fe (fadd q.y q.x)]) (by rfl) rfl G996 (by kernel_rfl) (by kernel_rfl) rfl (fun W hW => fmul_c (fadd_lt ..) (fadd_lt ..) W) ?_
 simp only [Z0, Z6]
 refine vAl ?_
 refine Z19 (hLk.out _ ?_)
 simp only [Z7, Z8]
 iterate 17 refine Z28 (by rfl) ?_
 refine wpN_new (t := 86) (cs := ([.int .u64 0, .int .u64 0, .int .u64 0, .int .u64 0]).toArray) (by rfl) (fun W => ?_) (fun g12 Hg12 ng12 => ?_)
 ·
  go_simp
 simp only [Z0, Z6]
 refine Z29 (fun w13 Sw13 hbs => ?_)
 replace M := ((M.sees Sw13).add (N := 4) (cs := [.int .u64 0, .int .u64 0, .int .u64 0, .int .u64 0]) (M.ge Hg12) (M.fresh Hg12) (hbs _ (.head _)) rfl)
 clear hbs ng12
 refine lSt (g := g12) (off := 0) (n := 4) (cs := fel (fmul (fadd p.y p.x) (fadd q.y q.x))) (M.t 0 rfl) (by simp [flen]) info86 (fel_one _) (fun w14 P R T => ?_)
 replace M := M.putS 0 0 rfl P R T rfl ⟨.inl rfl, trivial⟩
 simp only [Z6] at M
 refine lNp (hK10 _ _ ?_)
 refine Z10 (fun K15 hK15 => ?_)
 refine wp_region_grow 13 [] (by kernel_rfl) (by kernel_rfl) (by kernel_rfl) (fun Lk hLk => ?_)
 simp only [Z7, Z8]
 refine vMv (v := .pointer (some ⟨g, 0, none⟩)) ?_
 simp only [Z0, Z6]
 refine vNc ?_
 simp only [Z0, Z6]
 refine vGo (v := .pointer (some ⟨g, 0, none⟩)) ?_
 simp only [Z0, Z6]
 refine vGo (v := .pointer (some ⟨g, 12, none⟩)) ?_
 simp only [Z0, Z6]
 refine vLd (cs := fel p.t) (M.r 3 3 rfl rfl) (M.lt 3 rfl) U986 info86 ?_
 simp only [Z0, Z6]
 refine vGo (v := .pointer (some ⟨g3, 12, none⟩)) ?_
 simp only [Z0, Z6]
 refine vLd (cs := fel q.t) (M.r 2 3 rfl rfl) (M.lt 2 rfl) U986 info86 ?_
 simp only [Z0, Z6]
 refine Z25 (v := fe (fmul p.t q.t)) (args := #[fe p.t, fe q.t]) (by rfl) rfl G996 (by kernel_rfl) (by kernel_rfl) rfl (fun W hW => fmul_c hp.t hq.t W) ?_
 simp only [Z0, Z6]
 refine Z25 (v := fe dF) (args := #[]) (by rfl) rfl Tryd.func129 (by kernel_rfl) (by kernel_rfl) rfl (fun W hW => twisted_c) ?_
 simp only [Z0, Z6]
 refine Z25 (v := fe dF) (args := #[]) (by rfl) rfl Tryd.func129 (by kernel_rfl) (by kernel_rfl) rfl (fun W hW => twisted_c) ?_
 simp only [Z0, Z6]
 refine Z25 (v := fe (fadd dF dF)) (args := #[fe dF, fe dF]) (by rfl) rfl G9128 (by kernel_rfl) (by kernel_rfl) rfl (fun W hW => fadd_c dF_lt dF_lt W) ?_
 simp only [Z0, Z6]
 refine Z25 (v := fe (fmul (fmul p.t q.t) (fadd dF dF))) (args := #[fe (fmul p.t q.t), fe (fadd dF dF)]) (by rfl) rfl G996 (by kernel_rfl) (by kernel_rfl) rfl (fun W hW => fmul_c (fmul_lt ..) (fadd_lt ..) W) ?_
 simp only [Z0, Z6]
 refine vAl ?_
 refine Z19 (hLk.out _ ?_)
 simp only [Z7, Z8]
 iterate 12 refine Z28 (by rfl) ?_
 refine wpN_new (t := 86) (cs := ([.int .u64 0, .int .u64 0, .int .u64 0, .int .u64 0]).toArray) (by rfl) (fun W => ?_) (fun g17 Hg17 ng17 => ?_)
 ·
  go_simp
 simp only [Z0, Z6]
 refine Z29 (fun w18 Sw18 hbs => ?_)
 replace M := ((M.sees Sw18).add (N := 4) (cs := [.int .u64 0, .int .u64 0, .int .u64 0, .int .u64 0]) (M.ge Hg17) (M.fresh Hg17) (hbs _ (.head _)) rfl)
 clear hbs ng17
 refine lSt (g := g17) (off := 0) (n := 4) (cs := fel (fmul (fmul p.t q.t) (fadd dF dF))) (M.t 0 rfl) (by simp [flen]) info86 (fel_one _) (fun w19 P R T => ?_)
 replace M := M.putS 0 0 rfl P R T rfl ⟨.inl rfl, trivial⟩
 simp only [Z6] at M
 refine lNp (hK15 _ _ ?_)
 refine Z10 (fun K20 hK20 => ?_)
 refine wp_region_grow 12 [] (by kernel_rfl) (by kernel_rfl) (by kernel_rfl) (fun Lk hLk => ?_)
 simp only [Z7, Z8]
 refine vMv (v := .pointer (some ⟨g, 0, none⟩)) ?_
 simp only [Z0, Z6]
 refine vNc ?_
 simp only [Z0, Z6]
 refine vGo (v := .pointer (some ⟨g, 0, none⟩)) ?_
 simp only [Z0, Z6]
 refine vGo (v := .pointer (some ⟨g, 8, none⟩)) ?_
 simp only [Z0, Z6]
 refine vLd (cs := fel p.z) (M.r 4 2 rfl rfl) (M.lt 4 rfl) U986 info86 ?_
 simp only [Z0, Z6]
 refine vGo (v := .pointer (some ⟨g3, 8, none⟩)) ?_
 simp only [Z0, Z6]
 refine vLd (cs := fel q.z) (M.r 3 2 rfl rfl) (M.lt 3 rfl) U986 info86 ?_
 simp only [Z0, Z6]
 refine vGo (v := .pointer (some ⟨g3, 8, none⟩)) ?_
 simp only [Z0, Z6]
 refine vLd (cs := fel q.z) (M.r 3 2 rfl rfl) (M.lt 3 rfl) U986 info86 ?_
 simp only [Z0, Z6]
 refine Z25 (v := fe (fadd q.z q.z)) (args := #[fe q.z, fe q.z]) (by rfl) rfl G9128 (by kernel_rfl) (by kernel_rfl) rfl (fun W hW => fadd_c hq.z hq.z W) ?_
 simp only [Z0, Z6]
 refine Z25 (v := fe (fmul p.z (fadd q.z q.z))) (args := #[fe p.z, fe (fadd q.z q.z)]) (by rfl) rfl G996 (by kernel_rfl) (by kernel_rfl) rfl (fun W hW => fmul_c hp.z (fadd_lt ..) W) ?_
 simp only [Z0, Z6]
 refine vAl ?_
 refine Z19 (hLk.out _ ?_)
 simp only [Z7, Z8]
 iterate 11 refine Z28 (by rfl) ?_
 refine wpN_new (t := 86) (cs := ([.int .u64 0, .int .u64 0, .int .u64 0, .int .u64 0]).toArray) (by rfl) (fun W => ?_) (fun g22 Hg22 ng22 => ?_)
 ·
  go_simp
 simp only [Z0, Z6]
 refine Z29 (fun w23 Sw23 hbs => ?_)
 replace M := ((M.sees Sw23).add (N := 4) (cs := [.int .u64 0, .int .u64 0, .int .u64 0, .int .u64 0]) (M.ge Hg22) (M.fresh Hg22) (hbs _ (.head _)) rfl)
 clear hbs ng22
 refine lSt (g := g22) (off := 0) (n := 4) (cs := fel (fmul p.z (fadd q.z q.z))) (M.t 0 rfl) (by simp [flen]) info86 (fel_one _) (fun w24 P R T => ?_)
 replace M := M.putS 0 0 rfl P R T rfl ⟨.inl rfl, trivial⟩
 simp only [Z6] at M
 refine lNp (hK20 _ _ ?_)
 refine Z10 (fun K25 hK25 => ?_)
 refine wp_region_grow 16 [] (by kernel_rfl) (by kernel_rfl) (by kernel_rfl) (fun Lk hLk => ?_)
 simp only [Z7, Z8]
 refine vLd (cs := fel (fmul (fadd p.y p.x) (fadd q.y q.x))) (M.r 2 0 rfl rfl) (M.lt 2 rfl) U986 info86 ?_
 simp only [Z0, Z6]
 refine vLd (cs := fel (fmul (fsub p.y p.x) (fsub q.y q.x))) (M.r 3 0 rfl rfl) (M.lt 3 rfl) U986 info86 ?_
 simp only [Z0, Z6]
 refine Z25 (v := fe (fsub (fmul (fadd p.y p.x) (fadd q.y q.x)) (fmul (fsub p.y p.x) (fsub q.y q.x)))) (args := #[fe (fmul (fadd p.y p.x) (fadd q.y q.x)), fe (fmul (fsub p.y p.x) (fsub q.y q.x))]) (by rfl) rfl G990 (by kernel_rfl) (by kernel_rfl) rfl (fun W hW => fsub_c (fmul_lt ..) (fmul_lt ..) W) ?_
 simp only [Z0, Z6]
 refine vLd (cs := fel (fmul p.z (fadd q.z q.z))) (M.r 0 0 rfl rfl) (M.lt 0 rfl) U986 info86 ?_
 simp only [Z0, Z6]
 refine vLd (cs := fel (fmul (fmul p.t q.t) (fadd dF dF))) (M.r 1 0 rfl rfl) (M.lt 1 rfl) U986 info86 ?_
 simp only [Z0, Z6]
 refine Z25 (v := fe (fsub (fmul p.z (fadd q.z q.z)) (fmul (fmul p.t q.t) (fadd dF dF)))) (args := #[fe (fmul p.z (fadd q.z q.z)), fe (fmul (fmul p.t q.t) (fadd dF dF))]) (by rfl) rfl G990 (by kernel_rfl) (by kernel_rfl) rfl (fun W hW => fsub_c (fmul_lt ..) (fmul_lt ..) W) ?_
 simp only [Z0, Z6]
 refine vLd (cs := fel (fmul p.z (fadd q.z q.z))) (M.r 0 0 rfl rfl) (M.lt 0 rfl) U986 info86 ?_
 simp only [Z0, Z6]
 refine vLd (cs := fel (fmul (fmul p.t q.t) (fadd dF dF))) (M.r 1 0 rfl rfl) (M.lt 1 rfl) U986 info86 ?_
 simp only [Z0, Z6]
 refine Z25 (v := fe (fadd (fmul p.z (fadd q.z q.z)) (fmul (fmul p.t q.t) (fadd dF dF)))) (args := #[fe (fmul p.z (fadd q.z q.z)), fe (fmul (fmul p.t q.t) (fadd dF dF))]) (by rfl) rfl G9128 (by kernel_rfl) (by kernel_rfl) rfl (fun W hW => fadd_c (fmul_lt ..) (fmul_lt ..) W) ?_
 simp only [Z0, Z6]
 refine vLd (cs := fel (fmul (fadd p.y p.x) (fadd q.y q.x))) (M.r 2 0 rfl rfl) (M.lt 2 rfl) U986 info86 ?_
 simp only [Z0, Z6]
 refine vLd (cs := fel (fmul (fsub p.y p.x) (fsub q.y q.x))) (M.r 3 0 rfl rfl) (M.lt 3 rfl) U986 info86 ?_
 simp only [Z0, Z6]
 refine Z25 (v := fe (fadd (fmul (fadd p.y p.x) (fadd q.y q.x)) (fmul (fsub p.y p.x) (fsub q.y q.x)))) (args := #[fe (fmul (fadd p.y p.x) (fadd q.y q.x)), fe (fmul (fsub p.y p.x) (fsub q.y q.x))]) (by rfl) rfl G9128 (by kernel_rfl) (by kernel_rfl) rfl (fun W hW => fadd_c (fmul_lt ..) (fmul_lt ..) W) ?_
 simp only [Z0, Z6]
 refine vAl ?_
 refine vAl ?_
 refine vAl ?_
 refine vAl ?_
 refine Z19 (hLk.out _ ?_)
 simp only [Z7, Z8]
 iterate 12 refine Z28 (by rfl) ?_
 refine wpN_new (t := 86) (cs := ([.int .u64 0, .int .u64 0, .int .u64 0, .int .u64 0]).toArray) (by rfl) (fun W => ?_) (fun g27 Hg27 ng27 => ?_)
 ·
  go_simp
 refine wpN_new (t := 86) (cs := ([.int .u64 0, .int .u64 0, .int .u64 0, .int .u64 0]).toArray) (by rfl) (fun W => ?_) (fun g28 Hg28 ng28 => ?_)
 ·
  go_simp
 refine wpN_new (t := 86) (cs := ([.int .u64 0, .int .u64 0, .int .u64 0, .int .u64 0]).toArray) (by rfl) (fun W => ?_) (fun g29 Hg29 ng29 => ?_)
 ·
  go_simp
 refine wpN_new (t := 86) (cs := ([.int .u64 0, .int .u64 0, .int .u64 0, .int .u64 0]).toArray) (by rfl) (fun W => ?_) (fun g30 Hg30 ng30 => ?_)
 ·
  go_simp
 simp only [Z0, Z6]
 refine Z29 (fun w31 Sw31 hbs => ?_)
 replace M := (((((M.sees Sw31).add (N := 4) (cs := [.int .u64 0, .int .u64 0, .int .u64 0, .int .u64 0]) (M.ge Hg27) (M.fresh Hg27) (hbs _ (.tail _ (.tail _ (.tail _ (.head _))))) rfl).add (N := 4) (cs := [.int .u64 0, .int .u64 0, .int .u64 0, .int .u64 0]) (M.ge Hg28) (fcons (ng28 _ (.head _)) (M.fresh Hg28)) (hbs _ (.tail _ (.tail _ (.head _)))) rfl).add (N := 4) (cs := [.int .u64 0, .int .u64 0, .int .u64 0, .int .u64 0]) (M.ge Hg29) (fcons (ng29 _ (.head _)) (fcons (ng29 _ (.tail _ (.head _))) (M.fresh Hg29))) (hbs _ (.tail _ (.head _))) rfl).add (N := 4) (cs := [.int .u64 0, .int .u64 0, .int .u64 0, .int .u64 0]) (M.ge Hg30) (fcons (ng30 _ (.head _)) (fcons (ng30 _ (.tail _ (.head _))) (fcons (ng30 _ (.tail _ (.tail _ (.head _)))) (M.fresh Hg30)))) (hbs _ (.head _)) rfl)
 clear hbs ng27 ng28 ng29 ng30
 refine lSt (g := g27) (off := 0) (n := 4) (cs := fel (fsub (fmul (fadd p.y p.x) (fadd q.y q.x)) (fmul (fsub p.y p.x) (fsub q.y q.x)))) (M.t 3 rfl) (by simp [flen]) info86 (fel_one _) (fun w32 P R T => ?_)
 replace M := M.putS 3 0 rfl P R T rfl ⟨.inl rfl, trivial⟩
 simp only [Z6] at M
 refine lSt (g := g28) (off := 0) (n := 4) (cs := fel (fsub (fmul p.z (fadd q.z q.z)) (fmul (fmul p.t q.t) (fadd dF dF)))) (M.t 2 rfl) (by simp [flen]) info86 (fel_one _) (fun w33 P R T => ?_)
 replace M := M.putS 2 0 rfl P R T rfl ⟨.inl rfl, trivial⟩
 simp only [Z6] at M
 refine lSt (g := g29) (off := 0) (n := 4) (cs := fel (fadd (fmul p.z (fadd q.z q.z)) (fmul (fmul p.t q.t) (fadd dF dF)))) (M.t 1 rfl) (by simp [flen]) info86 (fel_one _) (fun w34 P R T => ?_)
 replace M := M.putS 1 0 rfl P R T rfl ⟨.inl rfl, trivial⟩
 simp only [Z6] at M
 refine lSt (g := g30) (off := 0) (n := 4) (cs := fel (fadd (fmul (fadd p.y p.x) (fadd q.y q.x)) (fmul (fsub p.y p.x) (fsub q.y q.x)))) (M.t 0 rfl) (by simp [flen]) info86 (fel_one _) (fun w35 P R T => ?_)
 replace M := M.putS 0 0 rfl P R T rfl ⟨.inl rfl, trivial⟩
 simp only [Z6] at M
 refine lNp (hK25 _ _ ?_)
 refine wp_region_grow 19 [1, 2, 3] (by kernel_rfl) (by kernel_rfl) (by kernel_rfl) (fun Lk hLk => ?_)
 simp only [Z7, Z8]
 refine vMv (v := .pointer (some ⟨g, 0, none⟩)) ?_
 simp only [Z0, Z6]
 refine vMv (v := .pointer (some ⟨g, 0, none⟩)) ?_
 simp only [Z0, Z6]
 refine vMv (v := .pointer (some ⟨g, 0, none⟩)) ?_
 simp only [Z0, Z6]
 refine vMv (v := .pointer (some ⟨g, 0, none⟩)) ?_
 simp only [Z0, Z6]
 refine vLd (cs := fel (fsub (fmul (fadd p.y p.x) (fadd q.y q.x)) (fmul (fsub p.y p.x) (fsub q.y q.x)))) (M.r 3 0 rfl rfl) (M.lt 3 rfl) U986 info86 ?_
 simp only [Z0, Z6]
 refine vLd (cs := fel (fsub (fmul p.z (fadd q.z q.z)) (fmul (fmul p.t q.t) (fadd dF dF)))) (M.r 2 0 rfl rfl) (M.lt 2 rfl) U986 info86 ?_
 simp only [Z0, Z6]
 refine Z25 (v := fe (fmul (fsub (fmul (fadd p.y p.x) (fadd q.y q.x)) (fmul (fsub p.y p.x) (fsub q.y q.x))) (fsub (fmul p.z (fadd q.z q.z)) (fmul (fmul p.t q.t) (fadd dF dF))))) (args := #[fe (fsub (fmul (fadd p.y p.x) (fadd q.y q.x)) (fmul (fsub p.y p.x) (fsub q.y q.x))), fe (fsub (fmul p.z (fadd q.z q.z)) (fmul (fmul p.t q.t) (fadd dF dF)))]) (by rfl) rfl G996 (by kernel_rfl) (by kernel_rfl) rfl (fun W hW => fmul_c (fsub_lt ..) (fsub_lt ..) W) ?_
 simp only [Z0, Z6]
 refine vLd (cs := fel (fadd (fmul p.z (fadd q.z q.z)) (fmul (fmul p.t q.t) (fadd dF dF)))) (M.r 1 0 rfl rfl) (M.lt 1 rfl) U986 info86 ?_
 simp only [Z0, Z6]
 refine vLd (cs := fel (fadd (fmul (fadd p.y p.x) (fadd q.y q.x)) (fmul (fsub p.y p.x) (fsub q.y q.x)))) (M.r 0 0 rfl rfl) (M.lt 0 rfl) U986 info86 ?_
 simp only [Z0, Z6]
 refine Z25 (v := fe (fmul (fadd (fmul p.z (fadd q.z q.z)) (fmul (fmul p.t q.t) (fadd dF dF))) (fadd (fmul (fadd p.y p.x) (fadd q.y q.x)) (fmul (fsub p.y p.x) (fsub q.y q.x))))) (args := #[fe (fadd (fmul p.z (fadd q.z q.z)) (fmul (fmul p.t q.t) (fadd dF dF))), fe (fadd (fmul (fadd p.y p.x) (fadd q.y q.x)) (fmul (fsub p.y p.x) (fsub q.y q.x)))]) (by rfl) rfl G996 (by kernel_rfl) (by kernel_rfl) rfl (fun W hW => fmul_c (fadd_lt ..) (fadd_lt ..) W) ?_
 simp only [Z0, Z6]
 refine vLd (cs := fel (fsub (fmul p.z (fadd q.z q.z)) (fmul (fmul p.t q.t) (fadd dF dF)))) (M.r 2 0 rfl rfl) (M.lt 2 rfl) U986 info86 ?_
 simp only [Z0, Z6]
 refine vLd (cs := fel (fadd (fmul p.z (fadd q.z q.z)) (fmul (fmul p.t q.t) (fadd dF dF)))) (M.r 1 0 rfl rfl) (M.lt 1 rfl) U986 info86 ?_
 simp only [Z0, Z6]
 refine Z25 (v := fe (fmul (fsub (fmul p.z (fadd q.z q.z)) (fmul (fmul p.t q.t) (fadd dF dF))) (fadd (fmul p.z (fadd q.z q.z)) (fmul (fmul p.t q.t) (fadd dF dF))))) (args := #[fe (fsub (fmul p.z (fadd q.z q.z)) (fmul (fmul p.t q.t) (fadd dF dF))), fe (fadd (fmul p.z (fadd q.z q.z)) (fmul (fmul p.t q.t) (fadd dF dF)))]) (by rfl) rfl G996 (by kernel_rfl) (by kernel_rfl) rfl (fun W hW => fmul_c (fsub_lt ..) (fadd_lt ..) W) ?_
 simp only [Z0, Z6]
 refine vLd (cs := fel (fsub (fmul (fadd p.y p.x) (fadd q.y q.x)) (fmul (fsub p.y p.x) (fsub q.y q.x)))) (M.r 3 0 rfl rfl) (M.lt 3 rfl) U986 info86 ?_
 simp only [Z0, Z6]
 refine vLd (cs := fel (fadd (fmul (fadd p.y p.x) (fadd q.y q.x)) (fmul (fsub p.y p.x) (fsub q.y q.x)))) (M.r 0 0 rfl rfl) (M.lt 0 rfl) U986 info86 ?_
 simp only [Z0, Z6]
 refine Z25 (v := fe (fmul (fsub (fmul (fadd p.y p.x) (fadd q.y q.x)) (fmul (fsub p.y p.x) (fsub q.y q.x))) (fadd (fmul (fadd p.y p.x) (fadd q.y q.x)) (fmul (fsub p.y p.x) (fsub q.y q.x))))) (args := #[fe (fsub (fmul (fadd p.y p.x) (fadd q.y q.x)) (fmul (fsub p.y p.x) (fsub q.y q.x))), fe (fadd (fmul (fadd p.y p.x) (fadd q.y q.x)) (fmul (fsub p.y p.x) (fsub q.y q.x)))]) (by rfl) rfl G996 (by kernel_rfl) (by kernel_rfl) rfl (fun W hW => fmul_c (fsub_lt ..) (fadd_lt ..) W) ?_
 simp only [Z0, Z6]
 refine vNc ?_
 simp only [Z0, Z6]
 refine vGo (v := .pointer (some ⟨g, 0, none⟩)) ?_
 simp only [Z0, Z6]
 refine vGo (v := .pointer (some ⟨g, 0, none⟩)) ?_
 simp only [Z0, Z6]
 refine Z19 (hLk.out _ ?_)
 simp only [Z7, Z8]
 iterate 19 refine Z28 (by rfl) ?_
 refine Z29 (fun w37 Sw37 hbs => ?_)
 clear hbs
 replace M := M.sees Sw37
 refine lSt (g := g) (off := 0) (n := 16) (cs := fel (fmul (fsub (fmul (fadd p.y p.x) (fadd q.y q.x)) (fmul (fsub p.y p.x) (fsub q.y q.x))) (fsub (fmul p.z (fadd q.z q.z)) (fmul (fmul p.t q.t) (fadd dF dF))))) (M.t 9 rfl) (by simp [flen]) info86 (fel_one _) (fun w38 P R T => ?_)
 replace M := M.putS 9 0 rfl P R T rfl (by simp [SepS, flen])
 simp only [Z6] at M
 refine lCh 1 (fun Lk hLk => ?_)
 refine vNc ?_
 simp only [Z0, Z6]
 refine Z19 (hLk _ (fun w39 Sw39 => ?_))
 simp only [Z7, Z8]
 replace M := M.sees Sw39
 refine lCh 1 (fun Lk hLk => ?_)
 refine vGo (v := .pointer (some ⟨g, 0, none⟩)) ?_
 simp only [Z0, Z6]
 refine Z19 (hLk _ (fun w40 Sw40 => ?_))
 simp only [Z7, Z8]
 replace M := M.sees Sw40
 refine lCh 1 (fun Lk hLk => ?_)
 refine vGo (v := .pointer (some ⟨g, 4, none⟩)) ?_
 simp only [Z0, Z6]
 refine Z19 (hLk _ (fun w41 Sw41 => ?_))
 simp only [Z7, Z8]
 replace M := M.sees Sw41
 refine lSt (g := g) (off := 4) (n := 16) (cs := fel (fmul (fadd (fmul p.z (fadd q.z q.z)) (fmul (fmul p.t q.t) (fadd dF dF))) (fadd (fmul (fadd p.y p.x) (fadd q.y q.x)) (fmul (fsub p.y p.x) (fsub q.y q.x))))) (M.t 9 rfl) (by simp [flen]) info86 (fel_one _) (fun w42 P R T => ?_)
 replace M := M.putS 9 1 rfl P R T rfl (by simp [SepS, flen])
 simp only [Z6] at M
 refine lCh 1 (fun Lk hLk => ?_)
 refine vNc ?_
 simp only [Z0, Z6]
 refine Z19 (hLk _ (fun w43 Sw43 => ?_))
 simp only [Z7, Z8]
 replace M := M.sees Sw43
 refine lCh 1 (fun Lk hLk => ?_)
 refine vGo (v := .pointer (some ⟨g, 0, none⟩)) ?_
 simp only [Z0, Z6]
 refine Z19 (hLk _ (fun w44 Sw44 => ?_))
 simp only [Z7, Z8]
 replace M := M.sees Sw44
 refine lCh 1 (fun Lk hLk => ?_)
 refine vGo (v := .pointer (some ⟨g, 8, none⟩)) ?_
 simp only [Z0, Z6]
 refine Z19 (hLk _ (fun w45 Sw45 => ?_))
 simp only [Z7, Z8]
 replace M := M.sees Sw45
 refine lSt (g := g) (off := 8) (n := 16) (cs := fel (fmul (fsub (fmul p.z (fadd q.z q.z)) (fmul (fmul p.t q.t) (fadd dF dF))) (fadd (fmul p.z (fadd q.z q.z)) (fmul (fmul p.t q.t) (fadd dF dF))))) (M.t 9 rfl) (by simp [flen]) info86 (fel_one _) (fun w46 P R T => ?_)
 replace M := M.putS 9 2 rfl P R T rfl (by simp [SepS, flen])
 simp only [Z6] at M
 refine lCh 1 (fun Lk hLk => ?_)
 refine vNc ?_
 simp only [Z0, Z6]
 refine Z19 (hLk _ (fun w47 Sw47 => ?_))
 simp only [Z7, Z8]
 replace M := M.sees Sw47
 refine lCh 1 (fun Lk hLk => ?_)
 refine vGo (v := .pointer (some ⟨g, 0, none⟩)) ?_
 simp only [Z0, Z6]
 refine Z19 (hLk _ (fun w48 Sw48 => ?_))
 simp only [Z7, Z8]
 replace M := M.sees Sw48
 refine lCh 1 (fun Lk hLk => ?_)
 refine vGo (v := .pointer (some ⟨g, 12, none⟩)) ?_
 simp only [Z0, Z6]
 refine Z19 (hLk _ (fun w49 Sw49 => ?_))
 simp only [Z7, Z8]
 replace M := M.sees Sw49
 refine lSt (g := g) (off := 12) (n := 16) (cs := fel (fmul (fsub (fmul (fadd p.y p.x) (fadd q.y q.x)) (fmul (fsub p.y p.x) (fsub q.y q.x))) (fadd (fmul (fadd p.y p.x) (fadd q.y q.x)) (fmul (fsub p.y p.x) (fsub q.y q.x))))) (M.t 9 rfl) (by simp [flen]) info86 (fel_one _) (fun w50 P R T => ?_)
 replace M := M.putS 9 3 rfl P R T rfl (by simp [SepS, flen])
 simp only [Z6] at M
 refine Z14 (Z15 ?_)
 repeat (first | with_reducible refine then_exit ?_ | with_reducible refine inblock_exit ?_)
 refine bodyPost_end (v := .tuple #[]) (results_none rfl _ _ _) rfl ?_
 exact ⟨_, rfl, rfl, (M.pick [9] (by decide) rfl)⟩
end Go.Proofs.Yc

namespace Go.Proofs.Yc
open Go Go.RowKit Go.Proofs.Num
open Tryd renaming underlying88 → U988
open Go.Proofs.Num  renaming putT → Z0
open Nat renaming zero_add → Z2
open List renaming set → Z6, take → Z7, drop → Z8
open Go renaming undef → Z9, wp_seq_k → Z10, wp_cond_true → Z11, wp_cond_false → Z12
open Go.Proofs.Num renaming wp_region_seq → Z13, wpL_nil → Z14, no_panic → Z15, wpV_nil → Z19, wpV_callf → Z25, wpV_load1 → Z34, wpL_var → Z36
attribute [local irreducible] wpV wpN wpList
open Go.Proofs.Ya
set_option maxHeartbeats 2000000 in
theorem Mul_ok {n : Nat} {p : P4} {w : World} (hn : n < 2 ^ 256) (hp : p.Ok) (h1 : rightP p = true) :
  Calls Tryd.prog 53 #[fe n, .agg (fel p.x ++ fel p.y ++ fel p.z ++ fel p.t : List Value).toArray] w fun e w' => e = .returned (.tuple #[.agg (fel (mulR n p 256).x ++ fel (mulR n p 256).y ++ fel (mulR n p 256).z ++ fel (mulR n p 256).t : List Value).toArray, .int .i64 0]) ∧ Below w.heap.size w w' := by
 go_enter Tryd.func53, Tryd.ntmps53
 have M := Mem.start w
 refine Z10 (fun K1 hK1 => Z13 ?_)
 refine Z36 (t := 80) (cs := fel n) (by rfl) (fun W => ?_) (fun g3 w4 Sw4 Hg3 Bg3 => ?_)
 ·
  (first | rfl | go_simp)
 replace M := ((M.sees Sw4).add (N := 4) (cs := fel n) (M.ge Hg3) (M.fresh Hg3) Bg3 rfl)
 clear Bg3
 simp only [Z0, Z6]
 refine Z36 (t := 88) (cs := fel p.x ++ fel p.y ++ fel p.z ++ fel p.t) (by rfl) (fun W => ?_) (fun g5 w6 Sw6 Hg5 Bg5 => ?_)
 ·
  (first | rfl | go_simp)
 replace M := ((M.sees Sw6).addS (N := 16) (cs := fel p.x ++ fel p.y ++ fel p.z ++ fel p.t) (segs := [(0, fel p.x), (4, fel p.y), (8, fel p.z), (12, fel p.t)]) (M.ge Hg5) (M.fresh Hg5) Bg5 (by simp [flen]) ⟨rfl, rfl, rfl, rfl, trivial⟩)
 clear Bg5
 simp only [Z0, Z6]
 refine Z36 (t := 88) (cs := [.int .u64 0, .int .u64 0, .int .u64 0, .int .u64 0, .int .u64 0, .int .u64 0, .int .u64 0, .int .u64 0, .int .u64 0, .int .u64 0, .int .u64 0, .int .u64 0, .int .u64 0, .int .u64 0, .int .u64 0, .int .u64 0]) (by rfl) (fun W => ?_) (fun g7 w8 Sw8 Hg7 Bg7 => ?_)
 ·
  go_simp
 replace M := ((M.sees Sw8).addS (N := 16) (cs := [.int .u64 0, .int .u64 0, .int .u64 0, .int .u64 0, .int .u64 0, .int .u64 0, .int .u64 0, .int .u64 0, .int .u64 0, .int .u64 0, .int .u64 0, .int .u64 0, .int .u64 0, .int .u64 0, .int .u64 0, .int .u64 0]) (segs := [(0, [.int .u64 0, .int .u64 0, .int .u64 0, .int .u64 0]), (4, [.int .u64 0, .int .u64 0, .int .u64 0, .int .u64 0]), (8, [.int .u64 0, .int .u64 0, .int .u64 0, .int .u64 0]), (12, [.int .u64 0, .int .u64 0, .int .u64 0, .int .u64 0])]) (M.ge Hg7) (M.fresh Hg7) Bg7 rfl ⟨rfl, rfl, rfl, rfl, trivial⟩)
 clear Bg7
 simp only [Z0, Z6]
 refine lAs (v := .int .i64 0) ?_
 simp only [Z0, Z6]
 refine lNp (hK1 _ _ ?_)
 refine Z10 (fun K9 hK9 => ?_)
 refine Z10 (fun K10 hK10 => Z13 ?_)
 refine lCh 3 (fun Lk hLk => ?_)
 refine vLd (cs := fel p.x ++ (fel p.y) ++ (fel p.z) ++ (fel p.t)) (range_join (range_join (range_join (M.r 1 0 rfl rfl) (M.r 1 1 rfl rfl) (by simp [flen])) (M.r 1 2 rfl rfl) (by simp [flen])) (M.r 1 3 rfl rfl) (by simp [flen])) (M.lt 1 rfl) U988 info88 ?_
 simp only [Z0, Z6]
 refine Z25 (v := .bool true) (args := #[.agg (fel p.x ++ (fel p.y) ++ (fel p.z) ++ (fel p.t) : List Value).toArray]) (by rfl) rfl Tryd.func93 (by kernel_rfl) (by kernel_rfl) rfl (fun W hW => by have h9 : Calls Tryd.prog _ _ W _ := right_c hp; rw [h1] at h9; exact h9) ?_
 simp only [Z0, Z6]
 refine wpV_not (b := true) (by rfl) rfl rfl ?_
 simp only [Bool.not_true, Bool.not_false]
 simp only [Z0, Z6]
 refine Z19 (hLk _ (fun w12 Sw12 => ?_))
 simp only [Z7, Z8]
 replace M := M.sees Sw12
 refine lNp (hK10 _ _ ?_)
 refine Z12 rfl ?_
 refine wp_skip ?_
 refine hK9 _ _ ?_
 refine Z10 (fun K13 hK13 => Z13 ?_)
 refine lCh 2 (fun Lk hLk => ?_)
 refine Z25 (v := .agg (fel zeroP.x ++ fel zeroP.y ++ fel zeroP.z ++ fel zeroP.t : List Value).toArray) (args := #[]) (by rfl) rfl Tryd.func94 (by kernel_rfl) (by kernel_rfl) rfl (fun W hW => zero_c) ?_
 simp only [Z0, Z6]
 refine vGk (v := .agg (fel zeroP.x ++ fel zeroP.y ++ fel zeroP.z ++ fel zeroP.t : List Value).toArray) ?_
 simp only [Z0, Z6]
 refine Z19 (hLk _ (fun w15 Sw15 => ?_))
 simp only [Z7, Z8]
 replace M := M.sees Sw15
 refine Z36 (t := 141) (cs := fel zeroP.x ++ fel zeroP.y ++ fel zeroP.z ++ fel zeroP.t) (by rfl) (fun W => ?_) (fun g16 w17 Sw17 Hg16 Bg16 => ?_)
 ·
  (first | rfl | go_simp)
 replace M := ((M.sees Sw17).addS (N := 16) (cs := fel zeroP.x ++ fel zeroP.y ++ fel zeroP.z ++ fel zeroP.t) (segs := [(0, fel zeroP.x), (4, fel zeroP.y), (8, fel zeroP.z), (12, fel zeroP.t)]) (M.ge Hg16) (M.fresh Hg16) Bg16 (by simp [flen]) ⟨rfl, rfl, rfl, rfl, trivial⟩)
 clear Bg16
 simp only [Z0, Z6]
 refine lAs (v := .pointer (some ⟨g16, 0, none⟩)) ?_
 simp only [Z0, Z6]
 refine lNp (hK13 _ _ ?_)
 refine Z10 (fun K18 hK18 => ?_)
 refine Z10 (fun K19 hK19 => Z13 ?_)
 refine lMv (v := .int .i64 0) ?_
 simp only [Z0, Z6]
 refine lNp (hK19 _ _ ?_)
 refine wp_block ?_
 refine wp_loop_ghost (fun n9 a9 W9 => ∃ (k : Nat) (u21 : Nat → Value), n9 = 2 * (256 - k) ∧ a9 = { tmps := #[fe n, .agg (fel p.x ++ fel p.y ++ fel p.z ++ fel p.t : List Value).toArray, .pointer (some ⟨g3, 0, none⟩), .pointer (some ⟨g5, 0, none⟩), .pointer (some ⟨g7, 0, none⟩), .int .i64 0, .pointer (some ⟨g16, 0, none⟩), u21 7, u21 8, .agg (fel p.x ++ (fel p.y) ++ (fel p.z) ++ (fel p.t) : List Value).toArray, .bool true, .bool false, Z9, .agg (fel zeroP.x ++ fel zeroP.y ++ fel zeroP.z ++ fel zeroP.t : List Value).toArray, .agg (fel zeroP.x ++ fel zeroP.y ++ fel zeroP.z ++ fel zeroP.t : List Value).toArray, .pointer (some ⟨g16, 0, none⟩), .int .i64 k, u21 17, u21 18, u21 19, u21 20, u21 21, u21 22, u21 23, u21 24, u21 25, u21 26, u21 27, u21 28, u21 29, u21 30, u21 31, u21 32, u21 33, u21 34, u21 35, u21 36, u21 37, u21 38, u21 39, Z9, Z9, Z9, Z9], defers := [] } ∧ Mem [] w W9 [⟨g16, 16, [(0, fel (mulR n p k).x), (4, fel (mulR n p k).y), (8, fel (mulR n p k).z), (12, fel (mulR n p k).t)]⟩, ⟨g7, 16, [(0, [.int .u64 0, .int .u64 0, .int .u64 0, .int .u64 0]), (4, [.int .u64 0, .int .u64 0, .int .u64 0, .int .u64 0]), (8, [.int .u64 0, .int .u64 0, .int .u64 0, .int .u64 0]), (12, [.int .u64 0, .int .u64 0, .int .u64 0, .int .u64 0])]⟩, ⟨g5, 16, [(0, fel p.x), (4, fel p.y), (8, fel p.z), (12, fel p.t)]⟩, ⟨g3, 4, [(0, fel n)]⟩] ∧ (k ≤ 256)) (2 * (256 - (0))) ?_ (fun n9 a9 W9 hI => ?_)
 ·
  exact ⟨0, (fun q9 => (#[Z9, Z9, Z9, Z9, Z9, Z9, Z9, Z9, Z9, Z9, Z9, Z9, Z9, Z9, Z9, Z9, Z9, Z9, Z9, Z9, Z9, Z9, Z9, Z9, Z9, Z9, Z9, Z9, Z9, Z9, Z9, Z9, Z9, Z9, Z9, Z9, Z9, Z9, Z9, Z9] : Array Value).getD q9 Z9), rfl, rfl, M, (by decide)⟩
 clear M
 obtain ⟨k, u21, rfl, rfl, M, hk4⟩ := hI
 obtain ⟨w22, rfl⟩ : ∃ W8, W8 = W9 := ⟨_, rfl⟩
 refine Z10 (fun K23 hK23 => Z13 ?_)
 refine lCh 1 (fun Lk hLk => ?_)
 refine vBn (v := .bool (decide (k < 256))) (hr := fun W => run_lssN k 256 _ _ W) ?_
 simp only [Z0, Z6]
 refine Z19 (hLk _ (fun w25 Sw25 => ?_))
 simp only [Z7, Z8]
 replace M := M.sees Sw25
 refine lNp (hK23 _ _ ?_)
 refine Z10 (fun K26 hK26 => ?_)
 cases hc27 : (decide (k < 256))
 ·
  have ek : k = 256 := by have := of_decide_eq_false hc27; omega
  subst ek
  refine Z12 rfl ?_
  refine wp_exit ?_
  refine hK18 _ _ ?_
  refine Z10 (fun K28 hK28 => Z13 ?_)
  refine lMv (v := .pointer (some ⟨g16, 0, none⟩)) ?_
  simp only [Z0, Z6]
  refine lCh 3 (fun Lk hLk => ?_)
  refine vNc ?_
  simp only [Z0, Z6]
  refine vGo (v := .pointer (some ⟨g16, 0, none⟩)) ?_
  simp only [Z0, Z6]
  refine vLd (cs := fel (mulR n p 256).x ++ (fel (mulR n p 256).y) ++ (fel (mulR n p 256).z) ++ (fel (mulR n p 256).t)) (range_join (range_join (range_join (M.r 0 0 rfl rfl) (M.r 0 1 rfl rfl) (by simp [flen])) (M.r 0 2 rfl rfl) (by simp [flen])) (M.r 0 3 rfl rfl) (by simp [flen])) (M.lt 0 rfl) U988 info88 ?_
  simp only [Z0, Z6]
  refine Z19 (hLk _ (fun w30 Sw30 => ?_))
  simp only [Z7, Z8]
  replace M := M.sees Sw30
  refine lSt (g := g7) (off := 0) (n := 16) (cs := fel (mulR n p 256).x ++ (fel (mulR n p 256).y) ++ (fel (mulR n p 256).z) ++ (fel (mulR n p 256).t)) (M.t 1 rfl) (by simp [flen]) info88 (one4 _ _ _ _) (fun w31 P R T => ?_)
  replace M := M.put (segs' := [(0, fel (mulR n p 256).x), (4, fel (mulR n p 256).y), (8, fel (mulR n p 256).z), (12, fel (mulR n p 256).t)]) 1 rfl P T (SegsOf.at R ⟨rfl, rfl, rfl, rfl, trivial⟩)
  simp only [Z6] at M
  refine lAs (v := .int .i64 0) ?_
  simp only [Z0, Z6]
  refine lNp (hK28 _ _ ?_)
  refine wp_ret ?_
  repeat (first | with_reducible refine then_ret ?_ | with_reducible refine inblock_ret ?_)
  refine bodyPost_ret (v := .tuple #[.agg (fel (mulR n p 256).x ++ (fel (mulR n p 256).y) ++ (fel (mulR n p 256).z) ++ (fel (mulR n p 256).t) : List Value).toArray, .int .i64 0]) (res2 rfl (.cell (by rfl) (run_loadVar_mid _ _ _ _ (fel (mulR n p 256).x ++ (fel (mulR n p 256).y) ++ (fel (mulR n p 256).z) ++ (fel (mulR n p 256).t)) _ (range_join (range_join (range_join (M.r 1 0 rfl rfl) (M.r 1 1 rfl rfl) (by simp [flen])) (M.r 1 2 rfl rfl) (by simp [flen])) (M.r 1 3 rfl rfl) (by simp [flen])) U988 rfl info88)) (.tmp (by rfl))) rfl ?_
  have BE := M.below
  exact ⟨rfl, BE⟩
 have hk : k < 256 := of_decide_eq_true hc27
 refine Z11 rfl ?_
 refine wp_skip ?_
 refine hK26 _ _ ?_
 refine Z10 (fun K32 hK32 => ?_)
 refine wp_block ?_
 refine Z10 (fun K33 hK33 => Z13 ?_)
 refine lMv (v := .int .i64 k) ?_
 refine lAs (v := .int .i64 k) ?_
 simp only [Z0, Z6]
 refine lNp (hK33 _ _ ?_)
 refine Z10 (fun K35 hK35 => Z13 ?_)
 refine lMv (v := .int .i64 k) ?_
 simp only [Z0, Z6]
 refine lCh 1 (fun Lk hLk => ?_)
 refine vBn (v := .int .i64 (255 - k : Nat)) (hr := fun W => run_sub (by simp only [IntKind.wrap_i64]; omega) W) ?_
 simp only [Z0, Z6]
 refine Z19 (hLk _ (fun w37 Sw37 => ?_))
 simp only [Z7, Z8]
 replace M := M.sees Sw37
 refine lAs (v := .int .i64 (255 - k : Nat)) ?_
 simp only [Z0, Z6]
 refine lNp (hK35 _ _ ?_)
 refine Z10 (fun K38 hK38 => Z13 ?_)
 refine lMv (v := .pointer (some ⟨g16, 0, none⟩)) ?_
 refine lMv (v := .pointer (some ⟨g16, 0, none⟩)) ?_
 simp only [Z0, Z6]
 refine lCh 3 (fun Lk hLk => ?_)
 refine vNc ?_
 simp only [Z0, Z6]
 refine vGo (v := .pointer (some ⟨g16, 0, none⟩)) ?_
 simp only [Z0, Z6]
 refine vLd (cs := fel (mulR n p k).x ++ (fel (mulR n p k).y) ++ (fel (mulR n p k).z) ++ (fel (mulR n p k).t)) (range_join (range_join (range_join (M.r 0 0 rfl rfl) (M.r 0 1 rfl rfl) (by simp [flen])) (M.r 0 2 rfl rfl) (by simp [flen])) (M.r 0 3 rfl rfl) (by simp [flen])) (M.lt 0 rfl) U988 info88 ?_
 simp only [Z0, Z6]
 refine Z19 (hLk _ (fun w40 Sw40 => ?_))
 simp only [Z7, Z8]
 replace M := M.sees Sw40
 refine wpL_callM (f := 95) (args := #[.pointer (some ⟨g16, 0, none⟩), .agg (fel (mulR n p k).x ++ (fel (mulR n p k).y) ++ (fel (mulR n p k).z) ++ (fel (mulR n p k).t) : List Value).toArray]) (R := fun v9 W9 => v9 = .tuple #[] ∧ Mem [g16] w40 W9 [⟨g16, 16, [(0, fel (addP (mulR n p k) (mulR n p k)).x), (4, fel (addP (mulR n p k) (mulR n p k)).y), (8, fel (addP (mulR n p k) (mulR n p k)).z), (12, fel (addP (mulR n p k) (mulR n p k)).t)]⟩]) (by rfl) (by rfl) rfl Tryd.func95 (by kernel_rfl) (by kernel_rfl) (sadd_m (p := mulR n p k) (q := mulR n p k) (mulR_ok ..) (mulR_ok ..) (M.one 0 rfl)) (fun v9 w41 h9 => ?_)
 obtain ⟨rfl, M9⟩ := h9
 replace M := M.callM1 0 rfl M9
 simp only [Z6] at M
 simp only [Z0, Z6]
 refine lNp (hK38 _ _ ?_)
 refine Z10 (fun K42 hK42 => Z13 ?_)
 refine lMv (v := .int .i64 (255 - k : Nat)) ?_
 simp only [Z0, Z6]
 refine lCh 8 (fun Lk hLk => ?_)
 refine vBn (v := .int .i64 ((255 - k) / 64 : Nat)) (hr := fun W => run_quo (by decide) (by rw [show (64 : Int) = ((64 : Nat) : Int) from rfl, tdiv_nat]; simp only [IntKind.wrap_i64]; omega) W) ?_
 simp only [Z0, Z6]
 refine wpV_idx (n := (255 - k) / 64) (by rfl) rfl rfl rfl Tryd.underlying80 info40 (by omega) ?_
 simp only [Z2]
 simp only [Z0, Z6]
 refine Z34 (v := .int .u64 (limbN n ((255 - k) / 64) : Nat)) (by rfl) rfl rfl (zadd ((M.r 3 0 rfl rfl) _ _ (fel_get n (by omega)))) (M.lt 3 rfl) Tryd.underlying40 rfl ?_
 simp only [Z0, Z6]
 refine vMv (v := .int .i64 (255 - k : Nat)) ?_
 simp only [Z0, Z6]
 refine vBn (v := .int .i64 ((255 - k) % 64 : Nat)) (hr := fun W => run_rem (by decide) (by exact (tmod_nat _ _)) W) ?_
 simp only [Z0, Z6]
 refine vBn (v := .int .u64 (limbN n ((255 - k) / 64) / 2 ^ ((255 - k) % 64) : Nat)) (hr := fun W => run_shr (m := limbN n ((255 - k) / 64)) (n := (255 - k) % 64) (by show _ ≤ 64; omega) rfl W) ?_
 simp only [Z0, Z6]
 refine vBn (v := .int .u64 (n / 2 ^ (255 - k) % 2 : Nat)) (hr := fun W => run_and (bitN_of n (255 - k)) W) ?_
 simp only [Z0, Z6]
 refine vBn (v := .bool (decide (n / 2 ^ (255 - k) % 2 = 1))) (hr := fun W => run_eqlN (n / 2 ^ (255 - k) % 2) 1 _ _ W) ?_
 simp only [Z0, Z6]
 refine Z19 (hLk _ (fun w44 Sw44 => ?_))
 simp only [Z7, Z8]
 replace M := M.sees Sw44
 refine lNp (hK42 _ _ ?_)
 cases hc45 : (decide (n / 2 ^ (255 - k) % 2 = 1))
 ·
  have hbit : ¬ n / 2 ^ (255 - k) % 2 = 1 := of_decide_eq_false hc45
  refine Z12 rfl ?_
  refine wp_skip ?_
  refine hK32 _ _ ?_
  refine Z13 ?_
  refine lCh 1 (fun Lk hLk => ?_)
  refine vBn (v := .int .i64 (k + 1 : Nat)) (hr := fun W => run_add (by simp only [IntKind.wrap_i64]; omega) W) ?_
  simp only [Z0, Z6]
  refine Z19 (hLk _ (fun w47 Sw47 => ?_))
  simp only [Z7, Z8]
  replace M := M.sees Sw47
  refine lMv (v := .int .i64 (k + 1 : Nat)) ?_
  simp only [Z0, Z6]
  refine Z14 (Z15 ?_)
  have hmr := mulR_no (n := n) (p := p) (k := k) hbit
  rw [← hmr] at M
  refine Exists.intro _ ⟨?_, (k + 1), (fun q9 => (#[Z9, Z9, Z9, Z9, Z9, Z9, Z9, .int .i64 k, .int .i64 (255 - k : Nat), Z9, Z9, Z9, Z9, Z9, Z9, Z9, Z9, .bool true, .int .i64 k, .int .i64 k, .int .i64 (255 - k : Nat), .pointer (some ⟨g16, 0, none⟩), .pointer (some ⟨g16, 0, none⟩), .pointer (some ⟨g16, 0, none⟩), .pointer (some ⟨g16, 0, none⟩), .agg (fel (mulR n p k).x ++ (fel (mulR n p k).y) ++ (fel (mulR n p k).z) ++ (fel (mulR n p k).t) : List Value).toArray, .tuple #[], .int .i64 (255 - k : Nat), .int .i64 ((255 - k) / 64 : Nat), .pointer (some ⟨g3, (255 - k) / 64, none⟩), .int .u64 (limbN n ((255 - k) / 64) : Nat), .int .i64 (255 - k : Nat), .int .i64 ((255 - k) % 64 : Nat), .int .u64 (limbN n ((255 - k) / 64) / 2 ^ ((255 - k) % 64) : Nat), .int .u64 (n / 2 ^ (255 - k) % 2 : Nat), .bool false, u21 36, u21 37, u21 38, .int .i64 (k + 1 : Nat)] : Array Value).getD q9 Z9), rfl, rfl, M, (by omega)⟩
  omega
 have hbit : n / 2 ^ (255 - k) % 2 = 1 := of_decide_eq_true hc45
 refine Z11 rfl ?_
 refine Z13 ?_
 refine lMv (v := .pointer (some ⟨g16, 0, none⟩)) ?_
 simp only [Z0, Z6]
 refine lCh 1 (fun Lk hLk => ?_)
 refine vLd (cs := fel p.x ++ (fel p.y) ++ (fel p.z) ++ (fel p.t)) (range_join (range_join (range_join (M.r 2 0 rfl rfl) (M.r 2 1 rfl rfl) (by simp [flen])) (M.r 2 2 rfl rfl) (by simp [flen])) (M.r 2 3 rfl rfl) (by simp [flen])) (M.lt 2 rfl) U988 info88 ?_
 simp only [Z0, Z6]
 refine Z19 (hLk _ (fun w49 Sw49 => ?_))
 simp only [Z7, Z8]
 replace M := M.sees Sw49
 refine wpL_callM (f := 95) (args := #[.pointer (some ⟨g16, 0, none⟩), .agg (fel p.x ++ (fel p.y) ++ (fel p.z) ++ (fel p.t) : List Value).toArray]) (R := fun v9 W9 => v9 = .tuple #[] ∧ Mem [g16] w49 W9 [⟨g16, 16, [(0, fel (addP (addP (mulR n p k) (mulR n p k)) p).x), (4, fel (addP (addP (mulR n p k) (mulR n p k)) p).y), (8, fel (addP (addP (mulR n p k) (mulR n p k)) p).z), (12, fel (addP (addP (mulR n p k) (mulR n p k)) p).t)]⟩]) (by rfl) (by rfl) rfl Tryd.func95 (by kernel_rfl) (by kernel_rfl) (sadd_m (p := addP (mulR n p k) (mulR n p k)) (q := p) (addP_ok ..) hp (M.one 0 rfl)) (fun v9 w50 h9 => ?_)
 obtain ⟨rfl, M9⟩ := h9
 replace M := M.callM1 0 rfl M9
 simp only [Z6] at M
 simp only [Z0, Z6]
 refine lNp (hK32 _ _ ?_)
 refine Z13 ?_
 refine lCh 1 (fun Lk hLk => ?_)
 refine vBn (v := .int .i64 (k + 1 : Nat)) (hr := fun W => run_add (by simp only [IntKind.wrap_i64]; omega) W) ?_
 simp only [Z0, Z6]
 refine Z19 (hLk _ (fun w52 Sw52 => ?_))
 simp only [Z7, Z8]
 replace M := M.sees Sw52
 refine lMv (v := .int .i64 (k + 1 : Nat)) ?_
 simp only [Z0, Z6]
 refine Z14 (Z15 ?_)
 have hmr := mulR_yes (n := n) (p := p) (k := k) hbit
 rw [← hmr] at M
 refine Exists.intro _ ⟨?_, (k + 1), (fun q9 => (#[Z9, Z9, Z9, Z9, Z9, Z9, Z9, .int .i64 k, .int .i64 (255 - k : Nat), Z9, Z9, Z9, Z9, Z9, Z9, Z9, Z9, .bool true, .int .i64 k, .int .i64 k, .int .i64 (255 - k : Nat), .pointer (some ⟨g16, 0, none⟩), .pointer (some ⟨g16, 0, none⟩), .pointer (some ⟨g16, 0, none⟩), .pointer (some ⟨g16, 0, none⟩), .agg (fel (mulR n p k).x ++ (fel (mulR n p k).y) ++ (fel (mulR n p k).z) ++ (fel (mulR n p k).t) : List Value).toArray, .tuple #[], .int .i64 (255 - k : Nat), .int .i64 ((255 - k) / 64 : Nat), .pointer (some ⟨g3, (255 - k) / 64, none⟩), .int .u64 (limbN n ((255 - k) / 64) : Nat), .int .i64 (255 - k : Nat), .int .i64 ((255 - k) % 64 : Nat), .int .u64 (limbN n ((255 - k) / 64) / 2 ^ ((255 - k) % 64) : Nat), .int .u64 (n / 2 ^ (255 - k) % 2 : Nat), .bool true, .pointer (some ⟨g16, 0, none⟩), .agg (fel p.x ++ (fel p.y) ++ (fel p.z) ++ (fel p.t) : List Value).toArray, .tuple #[], .int .i64 (k + 1 : Nat)] : Array Value).getD q9 Z9), rfl, rfl, M, (by omega)⟩
 omega
end Go.Proofs.Yc

