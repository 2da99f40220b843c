import Derived.WalkKit
import Derived.WalkSpells
import Derived.Laws.Pointers
import Derived.RowKit3
import Derived.Below
import Derived.Outline
import Derived.LoopN
import Derived.Lib.Hide
import Derived.Handy
import Derived.Laws.Bits64b
import Derived.Test.YtdcmmnindlhghaaF9
import Derived.Test.YtdcmmnindlhghaaJoinP
import Derived.Test.YtdcmmnindlhghaaEqS
set_option linter.unusedSimpArgs false
set_option linter.unusedVariables false
namespace Go.Proofs.Yc
open Go Go.RowKit Go.Proofs.Num
open List renaming set → Z0, take → Z1, drop → Z2
open Go renaming wp_seq_k → Z4, wp_cond_true → Z5, wp_cond_false → Z6
open Go.Proofs.Num renaming putT → Z7, wp_region_seq → Z8, wpL_nil → Z9, no_panic → Z10, wpL_chunk → Z11, wpL_move → Z12, wpL_assign → Z13, wpV_nil → Z14, wpV_bin → Z15, wpV_move → Z16, then_normal → Z17, wpV_val → Z19, wpV_callf → Z20
attribute [local irreducible] wpV wpN wpList
open Go.Proofs.Ya
theorem one4 (x y z t : Nat) : ∀ v ∈ fel x ++ fel y ++ fel z ++ fel t, v.oneCell' = true := by
 intro v hv
 simp only [List.mem_append] at hv
 rcases hv with ((h | h) | h) | h
 ·
  exact fel_one _ v h
 ·
  exact fel_one _ v h
 ·
  exact fel_one _ v h
 ·
  exact fel_one _ v h
theorem info26 : (Try.prog.info? 26).map (·.size) = some 16 := by kernel_rfl
set_option maxHeartbeats 1000000 in
theorem twisted_c  {w : World}  :
  Calls Try.prog 47 #[] w fun e w' => e = .returned (fe dF) ∧ Below w.heap.size w w' := by
 go_enter Try.func47, Try.ntmps47
 have M := Mem.start w
 refine Z4 (fun K1 hK1 => ?_)
 refine Z8 ?_
 refine wpL_var (t := 24) (cs := [.int .u64 0, .int .u64 0, .int .u64 0, .int .u64 0]) (by rfl) (fun W => ?_) (fun g3 w4 Sw4 Hg3 Bg3 => ?_)
 ·
  go_simp
 replace M := ((M.sees Sw4).add (N := 4) (cs := [.int .u64 0, .int .u64 0, .int .u64 0, .int .u64 0]) (M.ge Hg3) (M.fresh Hg3) Bg3 rfl)
 clear Bg3
 simp only [Z7,Z0]
 refine Z9 (Z10 ?_)
 refine hK1 _ _ ?_
 refine Z4 (fun K5 hK5 => ?_)
 refine Z8 ?_
 refine Z11 1 (by rfl) (fun Lk hLk => ?_)
 simp only [Z1,Z2]
 refine Z19 (v := fe 37095705934669439343138083508754565189542113879843219016388785533085940283555) (by rfl) (by rfl) (fun W hW => ?_) ?_
 ·
  rw [show fe 37095705934669439343138083508754565189542113879843219016388785533085940283555 = .agg ([.int .u64 8496970652267935907, .int .u64 31536524315187371, .int .u64 10144147576115030168, .int .u64 5909686906226998899]).toArray from (by kernel_rfl)]; unfold RunsVal; kernel_rfl
 simp only [Z7,Z0]
 refine Z14 (hLk _ (fun w7 Sw7 => ?_))
 clear hLk Lk
 simp only [Z1,Z2]
 replace M := M.sees Sw7
 refine wpL_store (g := g3) (off := 0) (n := 4) (cs := fel 37095705934669439343138083508754565189542113879843219016388785533085940283555) (by rfl) (by rfl) (by rfl) (by rfl) (by rfl) (M.t 0 rfl) (by simp [flen]) info24 (fel_one _) (fun w8 P R T => ?_)
 replace M := M.putS 0 0 rfl P R T rfl ⟨.inl rfl, trivial⟩
 simp only [Z0] at M
 refine Z9 (Z10 ?_)
 refine hK5 _ _ ?_
 refine wp_ret ?_
 repeat (first | with_reducible refine then_ret ?_ | with_reducible refine inblock_ret ?_)
 refine bodyPost_ret (v := fe 37095705934669439343138083508754565189542113879843219016388785533085940283555) (res1 rfl (.cell (by rfl) (run_loadVar_mid _ _ _ _ (fel 37095705934669439343138083508754565189542113879843219016388785533085940283555) _ (M.r 0 0 rfl rfl) Try.underlying24 rfl info24))) rfl ?_
 have BE := M.below
 exact ⟨rfl, BE⟩
set_option maxHeartbeats 1000000 in
theorem affine_c {x y : Nat} {w : World} (hx : x < 2 ^ 256) (hy : y < 2 ^ 256) :
  Calls Try.prog 33 #[fe x, fe y] w fun e w' => e = .returned (.agg (fel (affP x y).x ++ fel (affP x y).y ++ fel (affP x y).z ++ fel (affP x y).t : List Value).toArray) ∧ Below w.heap.size w w' := by
 go_enter Try.func33, Try.ntmps33
 have M := Mem.start w
 refine Z4 (fun K1 hK1 => ?_)
 refine Z8 ?_
 refine wpL_var (t := 24) (cs := fel x) (by rfl) (fun W => ?_) (fun g3 w4 Sw4 Hg3 Bg3 => ?_)
 ·
  (first | rfl | go_simp)
 replace M := ((M.sees Sw4).add (N := 4) (cs := fel x) (M.ge Hg3) (M.fresh Hg3) Bg3 rfl)
 clear Bg3
 simp only [Z7,Z0]
 refine wpL_var (t := 24) (cs := fel y) (by rfl) (fun W => ?_) (fun g5 w6 Sw6 Hg5 Bg5 => ?_)
 ·
  (first | rfl | go_simp)
 replace M := ((M.sees Sw6).add (N := 4) (cs := fel y) (M.ge Hg5) (M.fresh Hg5) Bg5 rfl)
 clear Bg5
 simp only [Z7,Z0]
 refine wpL_var (t := 26) (cs := [.int .u64 0, .int .u64 0, .int .u64 0, .int .u64 0, .int .u64 0, .int .u64 0, .int .u64 0, .int .u64 0, .int .u64 0, .int .u64 0, .int .u64 0, .int .u64 0, .int .u64 0, .int .u64 0, .int .u64 0, .int .u64 0]) (by rfl) (fun W => ?_) (fun g7 w8 Sw8 Hg7 Bg7 => ?_)
 ·
  go_simp
 replace M := ((M.sees Sw8).addS (N := 16) (cs := [.int .u64 0, .int .u64 0, .int .u64 0, .int .u64 0, .int .u64 0, .int .u64 0, .int .u64 0, .int .u64 0, .int .u64 0, .int .u64 0, .int .u64 0, .int .u64 0, .int .u64 0, .int .u64 0, .int .u64 0, .int .u64 0]) (segs := [(0, [.int .u64 0, .int .u64 0, .int .u64 0, .int .u64 0]), (4, [.int .u64 0, .int .u64 0, .int .u64 0, .int .u64 0]), (8, [.int .u64 0, .int .u64 0, .int .u64 0, .int .u64 0]), (12, [.int .u64 0, .int .u64 0, .int .u64 0, .int .u64 0])]) (M.ge Hg7) (M.fresh Hg7) Bg7 rfl ⟨rfl, rfl, rfl, rfl, trivial⟩)
 clear Bg7
 simp only [Z7,Z0]
 refine Z9 (Z10 ?_)
 refine hK1 _ _ ?_
 refine Z4 (fun K9 hK9 => ?_)
 refine wp_region_grow 7 [] (by kernel_rfl) (by kernel_rfl) (by kernel_rfl) (fun Lk hLk => ?_)
 simp only [Z1,Z2]
 refine wpV_load (cs := fel x) (by rfl) rfl rfl (M.r 2 0 rfl rfl) (M.lt 2 rfl) Try.underlying24 rfl info24 ?_
 simp only [Z7,Z0]
 refine wpV_load (cs := fel y) (by rfl) rfl rfl (M.r 1 0 rfl rfl) (M.lt 1 rfl) Try.underlying24 rfl info24 ?_
 simp only [Z7,Z0]
 refine Z20 (v := fe 1) (args := #[.int .u64 1]) (by rfl) rfl Try.func32 (by kernel_rfl) (by kernel_rfl) rfl (fun W hW => of_c (n := 1) (by decide) W) ?_
 simp only [Z7,Z0]
 refine wpV_load (cs := fel x) (by rfl) rfl rfl (M.r 2 0 rfl rfl) (M.lt 2 rfl) Try.underlying24 rfl info24 ?_
 simp only [Z7,Z0]
 refine wpV_load (cs := fel y) (by rfl) rfl rfl (M.r 1 0 rfl rfl) (M.lt 1 rfl) Try.underlying24 rfl info24 ?_
 simp only [Z7,Z0]
 refine Z20 (v := fe (fmul x y)) (args := #[fe x, fe y]) (by rfl) rfl Try.func39 (by kernel_rfl) (by kernel_rfl) rfl (fun W hW => fmul_c hx hy W) ?_
 simp only [Z7,Z0]
 refine Z19 (v := .agg ((fel x) ++ (fel y) ++ (fel 1) ++ (fel (fmul x y)) : List Value).toArray) (by rfl) (by rfl) (fun W hW => ?_) ?_
 ·
  (unfold RunsVal; kernel_rfl)
 simp only [Z7,Z0]
 refine Z14 (hLk.out _ ?_)
 clear hLk Lk
 simp only [Z1,Z2]
 iterate 7 refine wpN_skip (by rfl) ?_
 refine wpN_nil (fun w11 Sw11 hbs => ?_)
 clear hbs
 replace M := M.sees Sw11
 refine wpL_store (g := g7) (off := 0) (n := 16) (cs := (fel x) ++ (fel y) ++ (fel 1) ++ (fel (fmul x y))) (by rfl) (by rfl) (by rfl) (by rfl) (by rfl) (M.t 0 rfl) (by simp [flen]) info26 (one4 _ _ _ _) (fun w12 P R T => ?_)
 replace M := M.put (segs' := [(0, fel x), (4, fel y), (8, fel 1), (12, fel (fmul x y))]) 0 rfl P T (SegsOf.at R ⟨rfl, rfl, rfl, rfl, trivial⟩)
 simp only [Z0] at M
 refine Z9 (Z10 ?_)
 refine hK9 _ _ ?_
 refine wp_ret ?_
 repeat (first | with_reducible refine then_ret ?_ | with_reducible refine inblock_ret ?_)
 refine bodyPost_ret (v := .agg (fel x ++ (fel y) ++ (fel 1) ++ (fel (fmul x y)) : List Value).toArray) (res1 rfl (.cell (by rfl) (run_loadVar_mid _ _ _ _ (fel x ++ (fel y) ++ (fel 1) ++ (fel (fmul x y))) _ (range_join (range_join (range_join (M.r 0 0 rfl rfl) (M.r 0 1 rfl rfl) (by simp [flen])) (M.r 0 2 rfl rfl) (by simp [flen])) (M.r 0 3 rfl rfl) (by simp [flen])) Try.underlying26 rfl info26))) rfl ?_
 have BE := M.below
 exact ⟨rfl, BE⟩
set_option maxHeartbeats 1000000 in
theorem zero_c  {w : World}  :
  Calls Try.prog 15 #[] w fun e w' => e = .returned (.agg (fel zeroP.x ++ fel zeroP.y ++ fel zeroP.z ++ fel zeroP.t : List Value).toArray) ∧ Below w.heap.size w w' := by
 go_enter Try.func15, Try.ntmps15
 have M := Mem.start w
 refine Z4 (fun K1 hK1 => ?_)
 refine Z8 ?_
 refine wpL_var (t := 26) (cs := [.int .u64 0, .int .u64 0, .int .u64 0, .int .u64 0, .int .u64 0, .int .u64 0, .int .u64 0, .int .u64 0, .int .u64 0, .int .u64 0, .int .u64 0, .int .u64 0, .int .u64 0, .int .u64 0, .int .u64 0, .int .u64 0]) (by rfl) (fun W => ?_) (fun g3 w4 Sw4 Hg3 Bg3 => ?_)
 ·
  go_simp
 replace M := ((M.sees Sw4).addS (N := 16) (cs := [.int .u64 0, .int .u64 0, .int .u64 0, .int .u64 0, .int .u64 0, .int .u64 0, .int .u64 0, .int .u64 0, .int .u64 0, .int .u64 0, .int .u64 0, .int .u64 0, .int .u64 0, .int .u64 0, .int .u64 0, .int .u64 0]) (segs := [(0, [.int .u64 0, .int .u64 0, .int .u64 0, .int .u64 0]), (4, [.int .u64 0, .int .u64 0, .int .u64 0, .int .u64 0]), (8, [.int .u64 0, .int .u64 0, .int .u64 0, .int .u64 0]), (12, [.int .u64 0, .int .u64 0, .int .u64 0, .int .u64 0])]) (M.ge Hg3) (M.fresh Hg3) Bg3 rfl ⟨rfl, rfl, rfl, rfl, trivial⟩)
 clear Bg3
 simp only [Z7,Z0]
 refine Z9 (Z10 ?_)
 refine hK1 _ _ ?_
 refine Z4 (fun K5 hK5 => ?_)
 refine Z8 ?_
 refine Z11 3 (by rfl) (fun Lk hLk => ?_)
 simp only [Z1,Z2]
 refine Z20 (v := fe 0) (args := #[.int .u64 0]) (by rfl) rfl Try.func32 (by kernel_rfl) (by kernel_rfl) rfl (fun W hW => of_c (n := 0) (by decide) W) ?_
 simp only [Z7,Z0]
 refine Z20 (v := fe 1) (args := #[.int .u64 1]) (by rfl) rfl Try.func32 (by kernel_rfl) (by kernel_rfl) rfl (fun W hW => of_c (n := 1) (by decide) W) ?_
 simp only [Z7,Z0]
 refine Z20 (v := .agg (fel (affP 0 1).x ++ fel (affP 0 1).y ++ fel (affP 0 1).z ++ fel (affP 0 1).t : List Value).toArray) (args := #[fe 0, fe 1]) (by rfl) rfl Try.func33 (by kernel_rfl) (by kernel_rfl) rfl (fun W hW => affine_c (by decide) (by decide)) ?_
 simp only [Z7,Z0]
 refine Z14 (hLk _ (fun w7 Sw7 => ?_))
 clear hLk Lk
 simp only [Z1,Z2]
 replace M := M.sees Sw7
 refine wpL_store (g := g3) (off := 0) (n := 16) (cs := fel (affP 0 1).x ++ fel (affP 0 1).y ++ fel (affP 0 1).z ++ fel (affP 0 1).t) (by rfl) (by rfl) (by rfl) (by rfl) (by rfl) (M.t 0 rfl) (by simp [flen]) info26 (one4 _ _ _ _) (fun w8 P R T => ?_)
 replace M := M.put (segs' := [(0, fel (affP 0 1).x), (4, fel (affP 0 1).y), (8, fel (affP 0 1).z), (12, fel (affP 0 1).t)]) 0 rfl P T (SegsOf.at R ⟨rfl, rfl, rfl, rfl, trivial⟩)
 simp only [Z0] at M
 refine Z9 (Z10 ?_)
 refine hK5 _ _ ?_
 refine wp_ret ?_
 repeat (first | with_reducible refine then_ret ?_ | with_reducible refine inblock_ret ?_)
 refine bodyPost_ret (v := .agg (fel (affP 0 1).x ++ (fel (affP 0 1).y) ++ (fel (affP 0 1).z) ++ (fel (affP 0 1).t) : List Value).toArray) (res1 rfl (.cell (by rfl) (run_loadVar_mid _ _ _ _ (fel (affP 0 1).x ++ (fel (affP 0 1).y) ++ (fel (affP 0 1).z) ++ (fel (affP 0 1).t)) _ (range_join (range_join (range_join (M.r 0 0 rfl rfl) (M.r 0 1 rfl rfl) (by simp [flen])) (M.r 0 2 rfl rfl) (by simp [flen])) (M.r 0 3 rfl rfl) (by simp [flen])) Try.underlying26 rfl info26))) rfl ?_
 have BE := M.below
 exact ⟨rfl, BE⟩
set_option maxHeartbeats 1000000 in
theorem root_c {y : Nat} {w : World} (hy : y < 2 ^ 256) :
  Calls Try.prog 31 #[fe y] w fun e w' => e = .returned (.tuple #[fe (rootX y).1, .bool (rootX y).2]) ∧ Below w.heap.size w w' := by
 go_enter Try.func31, Try.ntmps31
 have M := Mem.start w
 refine Z4 (fun K1 hK1 => ?_)
 refine Z8 ?_
 refine wpL_var (t := 24) (cs := fel y) (by rfl) (fun W => ?_) (fun g3 w4 Sw4 Hg3 Bg3 => ?_)
 ·
  (first | rfl | go_simp)
 replace M := ((M.sees Sw4).add (N := 4) (cs := fel y) (M.ge Hg3) (M.fresh Hg3) Bg3 rfl)
 clear Bg3
 simp only [Z7,Z0]
 refine wpL_var (t := 24) (cs := [.int .u64 0, .int .u64 0, .int .u64 0, .int .u64 0]) (by rfl) (fun W => ?_) (fun g5 w6 Sw6 Hg5 Bg5 => ?_)
 ·
  go_simp
 replace M := ((M.sees Sw6).add (N := 4) (cs := [.int .u64 0, .int .u64 0, .int .u64 0, .int .u64 0]) (M.ge Hg5) (M.fresh Hg5) Bg5 rfl)
 clear Bg5
 simp only [Z7,Z0]
 refine Z13 (v := .bool false) (by rfl) (by rfl) (by rfl) ?_
 simp only [Z7,Z0]
 refine Z9 (Z10 ?_)
 refine hK1 _ _ ?_
 refine Z4 (fun K7 hK7 => ?_)
 refine Z8 ?_
 refine Z11 3 (by rfl) (fun Lk hLk => ?_)
 simp only [Z1,Z2]
 refine wpV_load (cs := fel y) (by rfl) rfl rfl (M.r 1 0 rfl rfl) (M.lt 1 rfl) Try.underlying24 rfl info24 ?_
 simp only [Z7,Z0]
 refine wpV_load (cs := fel y) (by rfl) rfl rfl (M.r 1 0 rfl rfl) (M.lt 1 rfl) Try.underlying24 rfl info24 ?_
 simp only [Z7,Z0]
 refine Z20 (v := fe (fmul y y)) (args := #[fe y, fe y]) (by rfl) rfl Try.func39 (by kernel_rfl) (by kernel_rfl) rfl (fun W hW => fmul_c hy hy W) ?_
 simp only [Z7,Z0]
 refine Z14 (hLk _ (fun w9 Sw9 => ?_))
 clear hLk Lk
 simp only [Z1,Z2]
 replace M := M.sees Sw9
 refine wpL_var (t := 24) (cs := [.int .u64 0, .int .u64 0, .int .u64 0, .int .u64 0]) (by rfl) (fun W => ?_) (fun g10 w11 Sw11 Hg10 Bg10 => ?_)
 ·
  go_simp
 replace M := ((M.sees Sw11).add (N := 4) (cs := [.int .u64 0, .int .u64 0, .int .u64 0, .int .u64 0]) (M.ge Hg10) (M.fresh Hg10) Bg10 rfl)
 clear Bg10
 simp only [Z7,Z0]
 refine wpL_store (g := g10) (off := 0) (n := 4) (cs := fel (fmul y y)) (by rfl) (by rfl) (by rfl) (by rfl) (by rfl) (M.t 0 rfl) (by simp [flen]) info24 (fel_one _) (fun w12 P R T => ?_)
 replace M := M.putS 0 0 rfl P R T rfl ⟨.inl rfl, trivial⟩
 simp only [Z0] at M
 refine Z9 (Z10 ?_)
 refine hK7 _ _ ?_
 refine Z4 (fun K13 hK13 => ?_)
 refine wp_region_grow 6 [] (by kernel_rfl) (by kernel_rfl) (by kernel_rfl) (fun Lk hLk => ?_)
 simp only [Z1,Z2]
 refine wpV_load (cs := fel (fmul y y)) (by rfl) rfl rfl (M.r 0 0 rfl rfl) (M.lt 0 rfl) Try.underlying24 rfl info24 ?_
 simp only [Z7,Z0]
 refine Z20 (v := fe dF) (args := #[]) (by rfl) rfl Try.func47 (by kernel_rfl) (by kernel_rfl) rfl (fun W hW => twisted_c) ?_
 simp only [Z7,Z0]
 refine Z20 (v := fe (fmul (fmul y y) dF)) (args := #[fe (fmul y y), fe dF]) (by rfl) rfl Try.func39 (by kernel_rfl) (by kernel_rfl) rfl (fun W hW => fmul_c (fmul_lt ..) dF_lt W) ?_
 simp only [Z7,Z0]
 refine Z20 (v := fe 1) (args := #[.int .u64 1]) (by rfl) rfl Try.func32 (by kernel_rfl) (by kernel_rfl) rfl (fun W hW => of_c (n := 1) (by decide) W) ?_
 simp only [Z7,Z0]
 refine Z20 (v := fe (fadd (fmul (fmul y y) dF) 1)) (args := #[fe (fmul (fmul y y) dF), fe 1]) (by rfl) rfl Try.func46 (by kernel_rfl) (by kernel_rfl) rfl (fun W hW => fadd_c (fmul_lt ..) (by decide) W) ?_
 simp only [Z7,Z0]
 refine wpV_alloc (by rfl) ?_
 refine Z14 (hLk.out _ ?_)
 clear hLk Lk
 simp only [Z1,Z2]
 iterate 5 refine wpN_skip (by rfl) ?_
 refine wpN_new (t := 24) (cs := ([.int .u64 0, .int .u64 0, .int .u64 0, .int .u64 0]).toArray) (by rfl) (fun W => ?_) (fun g15 Hg15 ng15 => ?_)
 ·
  go_simp
 simp only [Z7,Z0]
 refine wpN_nil (fun w16 Sw16 hbs => ?_)
 replace M := ((M.sees Sw16).add (N := 4) (cs := [.int .u64 0, .int .u64 0, .int .u64 0, .int .u64 0]) (M.ge Hg15) (M.fresh Hg15) (hbs _ (.head _)) rfl)
 clear hbs ng15
 refine wpL_store (g := g15) (off := 0) (n := 4) (cs := fel (fadd (fmul (fmul y y) dF) 1)) (by rfl) (by rfl) (by rfl) (by rfl) (by rfl) (M.t 0 rfl) (by simp [flen]) info24 (fel_one _) (fun w17 P R T => ?_)
 replace M := M.putS 0 0 rfl P R T rfl ⟨.inl rfl, trivial⟩
 simp only [Z0] at M
 refine Z9 (Z10 ?_)
 refine hK13 _ _ ?_
 refine Z4 (fun K18 hK18 => ?_)
 refine wp_region_grow 9 [] (by kernel_rfl) (by kernel_rfl) (by kernel_rfl) (fun Lk hLk => ?_)
 simp only [Z1,Z2]
 refine wpV_load (cs := fel (fmul y y)) (by rfl) rfl rfl (M.r 1 0 rfl rfl) (M.lt 1 rfl) Try.underlying24 rfl info24 ?_
 simp only [Z7,Z0]
 refine Z20 (v := fe 1) (args := #[.int .u64 1]) (by rfl) rfl Try.func32 (by kernel_rfl) (by kernel_rfl) rfl (fun W hW => of_c (n := 1) (by decide) W) ?_
 simp only [Z7,Z0]
 refine Z20 (v := fe (fsub (fmul y y) 1)) (args := #[fe (fmul y y), fe 1]) (by rfl) rfl Try.func26 (by kernel_rfl) (by kernel_rfl) rfl (fun W hW => fsub_c (fmul_lt ..) (by decide) W) ?_
 simp only [Z7,Z0]
 refine wpV_load (cs := fel (fadd (fmul (fmul y y) dF) 1)) (by rfl) rfl rfl (M.r 0 0 rfl rfl) (M.lt 0 rfl) Try.underlying24 rfl info24 ?_
 simp only [Z7,Z0]
 refine Z20 (v := fe (finv (fadd (fmul (fmul y y) dF) 1))) (args := #[fe (fadd (fmul (fmul y y) dF) 1)]) (by rfl) rfl Try.func38 (by kernel_rfl) (by kernel_rfl) rfl (fun W hW => finv_c (fadd_lt ..) W) ?_
 simp only [Z7,Z0]
 refine Z20 (v := fe (fmul (fsub (fmul y y) 1) (finv (fadd (fmul (fmul y y) dF) 1)))) (args := #[fe (fsub (fmul y y) 1), fe (finv (fadd (fmul (fmul y y) dF) 1))]) (by rfl) rfl Try.func39 (by kernel_rfl) (by kernel_rfl) rfl (fun W hW => fmul_c (fsub_lt ..) (finv_lt ..) W) ?_
 simp only [Z7,Z0]
 refine Z20 (v := .tuple #[fe ((fsqrt (fmul (fsub (fmul y y) 1) (finv (fadd (fmul (fmul y y) dF) 1)))).1), .bool ((fsqrt (fmul (fsub (fmul y y) 1) (finv (fadd (fmul (fmul y y) dF) 1)))).2)]) (args := #[fe (fmul (fsub (fmul y y) 1) (finv (fadd (fmul (fmul y y) dF) 1)))]) (by rfl) rfl Try.func57 (by kernel_rfl) (by kernel_rfl) rfl (fun W hW => fsqrt_c (fmul_lt ..) W) ?_
 simp only [Z7,Z0]
 refine wpV_extract (v := fe ((fsqrt (fmul (fsub (fmul y y) 1) (finv (fadd (fmul (fmul y y) dF) 1)))).1)) (by rfl) rfl rfl rfl ?_
 simp only [Z7,Z0]
 refine wpV_extract (v := .bool ((fsqrt (fmul (fsub (fmul y y) 1) (finv (fadd (fmul (fmul y y) dF) 1)))).2)) (by rfl) rfl rfl rfl ?_
 simp only [Z7,Z0]
 refine Z14 (hLk.out _ ?_)
 clear hLk Lk
 simp only [Z1,Z2]
 iterate 9 refine wpN_skip (by rfl) ?_
 refine wpN_nil (fun w20 Sw20 hbs => ?_)
 clear hbs
 replace M := M.sees Sw20
 refine wpL_store (g := g5) (off := 0) (n := 4) (cs := fel ((fsqrt (fmul (fsub (fmul y y) 1) (finv (fadd (fmul (fmul y y) dF) 1)))).1)) (by rfl) (by rfl) (by rfl) (by rfl) (by rfl) (M.t 2 rfl) (by simp [flen]) info24 (fel_one _) (fun w21 P R T => ?_)
 replace M := M.putS 2 0 rfl P R T rfl ⟨.inl rfl, trivial⟩
 simp only [Z0] at M
 refine Z13 (v := .bool ((fsqrt (fmul (fsub (fmul y y) 1) (finv (fadd (fmul (fmul y y) dF) 1)))).2)) (by rfl) (by rfl) (by rfl) ?_
 simp only [Z7,Z0]
 refine Z9 (Z10 ?_)
 refine hK18 _ _ ?_
 refine wp_ret ?_
 repeat (first | with_reducible refine then_ret ?_ | with_reducible refine inblock_ret ?_)
 refine bodyPost_ret (v := .tuple #[fe ((fsqrt (fmul (fsub (fmul y y) 1) (finv (fadd (fmul (fmul y y) dF) 1)))).1), .bool ((fsqrt (fmul (fsub (fmul y y) 1) (finv (fadd (fmul (fmul y y) dF) 1)))).2)]) (res2 rfl (.cell (by rfl) (run_loadVar_mid _ _ _ _ (fel ((fsqrt (fmul (fsub (fmul y y) 1) (finv (fadd (fmul (fmul y y) dF) 1)))).1)) _ (M.r 2 0 rfl rfl) Try.underlying24 rfl info24)) (.tmp (by rfl))) rfl ?_
 have BE := M.below
 exact ⟨rfl, BE⟩
set_option maxHeartbeats 2000000 in
theorem right_c {p : P4} {w : World} (hp : p.Ok) :
  Calls Try.prog 17 #[.agg (fel p.x ++ fel p.y ++ fel p.z ++ fel p.t : List Value).toArray] w fun e w' => e = .returned (.bool (rightP p)) ∧ Below w.heap.size w w' := by
 go_enter Try.func17, Try.ntmps17
 have M := Mem.start w
 refine Z4 (fun K1 hK1 => ?_)
 refine Z8 ?_
 refine wpL_var (t := 26) (cs := fel p.x ++ fel p.y ++ fel p.z ++ fel p.t) (by rfl) (fun W => ?_) (fun g3 w4 Sw4 Hg3 Bg3 => ?_)
 ·
  (first | rfl | go_simp)
 replace M := ((M.sees Sw4).addS (N := 16) (cs := fel p.x ++ fel p.y ++ fel p.z ++ fel p.t) (segs := [(0, fel p.x), (4, fel p.y), (8, fel p.z), (12, fel p.t)]) (M.ge Hg3) (M.fresh Hg3) Bg3 (by simp [flen]) ⟨rfl, rfl, rfl, rfl, trivial⟩)
 clear Bg3
 simp only [Z7,Z0]
 refine Z13 (v := .bool false) (by rfl) (by rfl) (by rfl) ?_
 simp only [Z7,Z0]
 refine Z9 (Z10 ?_)
 refine hK1 _ _ ?_
 refine Z4 (fun K5 hK5 => ?_)
 refine Z4 (fun K6 hK6 => ?_)
 refine Z8 ?_
 refine Z11 9 (by rfl) (fun Lk hLk => ?_)
 simp only [Z1,Z2]
 refine Z19 (v := .pointer (some ⟨g3, 0, none⟩)) (by rfl) (by rfl) (fun W hW => ?_) ?_
 ·
  (go_simp; exact rfl)
 simp only [Z7,Z0]
 refine wpV_load (cs := fel p.x) (by rfl) rfl rfl (M.r 0 0 rfl rfl) (M.lt 0 rfl) Try.underlying24 rfl info24 ?_
 simp only [Z7,Z0]
 refine Z19 (v := .pointer (some ⟨g3, 4, none⟩)) (by rfl) (by rfl) (fun W hW => ?_) ?_
 ·
  (go_simp; exact rfl)
 simp only [Z7,Z0]
 refine wpV_load (cs := fel p.y) (by rfl) rfl rfl (M.r 0 1 rfl rfl) (M.lt 0 rfl) Try.underlying24 rfl info24 ?_
 simp only [Z7,Z0]
 refine Z19 (v := .pointer (some ⟨g3, 8, none⟩)) (by rfl) (by rfl) (fun W hW => ?_) ?_
 ·
  (go_simp; exact rfl)
 simp only [Z7,Z0]
 refine wpV_load (cs := fel p.z) (by rfl) rfl rfl (M.r 0 2 rfl rfl) (M.lt 0 rfl) Try.underlying24 rfl info24 ?_
 simp only [Z7,Z0]
 refine Z19 (v := .pointer (some ⟨g3, 12, none⟩)) (by rfl) (by rfl) (fun W hW => ?_) ?_
 ·
  (go_simp; exact rfl)
 simp only [Z7,Z0]
 refine wpV_load (cs := fel p.t) (by rfl) rfl rfl (M.r 0 3 rfl rfl) (M.lt 0 rfl) Try.underlying24 rfl info24 ?_
 simp only [Z7,Z0]
 refine Z19 (v := .agg ((fel p.x) ++ (fel p.y) ++ (fel p.z) ++ (fel p.t) : List Value).toArray) (by rfl) (by rfl) (fun W hW => ?_) ?_
 ·
  (unfold RunsVal; kernel_rfl)
 simp only [Z7,Z0]
 refine Z14 (hLk _ (fun w8 Sw8 => ?_))
 clear hLk Lk
 simp only [Z1,Z2]
 replace M := M.sees Sw8
 refine Z12 (v := .int .i64 0) (by rfl) (by rfl) (by rfl) ?_
 simp only [Z7,Z0]
 refine Z9 (Z10 ?_)
 refine hK6 _ _ ?_
 refine wp_block ?_
 refine wp_loop_rounds 5 ?_
 rw [rounds_succ]
 refine Z4 (fun K9 hK9 => ?_)
 refine Z8 ?_
 refine Z11 1 (by rfl) (fun Lk hLk => ?_)
 simp only [Z1,Z2]
 refine Z15 (v := .bool true) (by rfl) rfl rfl rfl (fun W => run_lss _ _ _ _ W) ?_
 simp only [Z7,Z0]
 refine Z14 (hLk _ (fun w11 Sw11 => ?_))
 clear hLk Lk
 simp only [Z1,Z2]
 replace M := M.sees Sw11
 refine Z9 (Z10 ?_)
 refine hK9 _ _ ?_
 refine Z4 (fun K12 hK12 => ?_)
 refine Z5 rfl ?_
 refine wp_skip ?_
 refine hK12 _ _ ?_
 refine Z4 (fun K13 hK13 => ?_)
 refine wp_block ?_
 refine Z4 (fun K14 hK14 => ?_)
 refine Z8 ?_
 refine Z11 1 (by rfl) (fun Lk hLk => ?_)
 simp only [Z1,Z2]
 refine Z19 (v := fe p.x) (by rfl) (by rfl) (fun W hW => ?_) ?_
 ·
  (unfold RunsVal; kernel_rfl)
 simp only [Z7,Z0]
 refine Z14 (hLk _ (fun w16 Sw16 => ?_))
 clear hLk Lk
 simp only [Z1,Z2]
 replace M := M.sees Sw16
 refine wpL_var (t := 24) (cs := [.int .u64 0, .int .u64 0, .int .u64 0, .int .u64 0]) (by rfl) (fun W => ?_) (fun g17 w18 Sw18 Hg17 Bg17 => ?_)
 ·
  go_simp
 replace M := ((M.sees Sw18).add (N := 4) (cs := [.int .u64 0, .int .u64 0, .int .u64 0, .int .u64 0]) (M.ge Hg17) (M.fresh Hg17) Bg17 rfl)
 clear Bg17
 simp only [Z7,Z0]
 refine wpL_store (g := g17) (off := 0) (n := 4) (cs := fel p.x) (by rfl) (by rfl) (by rfl) (by rfl) (by rfl) (M.t 0 rfl) (by simp [flen]) info24 (fel_one _) (fun w19 P R T => ?_)
 replace M := M.putS 0 0 rfl P R T rfl ⟨.inl rfl, trivial⟩
 simp only [Z0] at M
 refine Z9 (Z10 ?_)
 refine hK14 _ _ ?_
 refine Z4 (fun K20 hK20 => ?_)
 refine wp_region_grow 4 [] (by kernel_rfl) (by kernel_rfl) (by kernel_rfl) (fun Lk hLk => ?_)
 simp only [Z1,Z2]
 refine wpV_load (cs := fel p.x) (by rfl) rfl rfl (M.r 0 0 rfl rfl) (M.lt 0 rfl) Try.underlying24 rfl info24 ?_
 simp only [Z7,Z0]
 refine Z20 (v := fe (leastF p.x)) (args := #[fe p.x]) (by rfl) rfl Try.func45 (by kernel_rfl) (by kernel_rfl) rfl (fun W hW => least_c hp.x W) ?_
 simp only [Z7,Z0]
 refine wpV_load (cs := fel p.x) (by rfl) rfl rfl (M.r 0 0 rfl rfl) (M.lt 0 rfl) Try.underlying24 rfl info24 ?_
 simp only [Z7,Z0]
 refine Z19 (v := .bool (decide (leastF p.x ≠ p.x))) (by rfl) (by rfl) (fun W hW => ?_) ?_
 ·
  exact run_neq_fe (leastF_lt ..) hp.x Try.underlying24 Try.underlying22 info22 (by kernel_rfl) rfl rfl rfl W
 simp only [Z7,Z0]
 refine Z14 (hLk.out _ ?_)
 clear hLk Lk
 simp only [Z1,Z2]
 iterate 4 refine wpN_skip (by rfl) ?_
 refine wpN_nil (fun w22 Sw22 hbs => ?_)
 clear hbs
 replace M := M.sees Sw22
 refine Z9 (Z10 ?_)
 refine hK20 _ _ ?_
 cases hc23 : (decide (leastF p.x ≠ p.x))
 ·
  have q24 : leastF p.x = p.x := Decidable.not_not.1 (of_decide_eq_false hc23)
  refine Z6 rfl ?_
  refine wp_skip ?_
  refine hK13 _ _ ?_
  refine Z8 ?_
  refine Z11 1 (by rfl) (fun Lk hLk => ?_)
  simp only [Z1,Z2]
  refine Z15 (v := .int .i64 1) (by rfl) rfl rfl rfl (fun W => run_add (by decide) W) ?_
  simp only [Z7,Z0]
  refine Z14 (hLk _ (fun w26 Sw26 => ?_))
  clear hLk Lk
  simp only [Z1,Z2]
  replace M := M.sees Sw26
  refine Z12 (v := .int .i64 1) (by rfl) (by rfl) (by rfl) ?_
  simp only [Z7,Z0]
  refine Z9 (Z10 ?_)
  refine Z17 (Q := fun _ _ _ => True) ?_
  rw [rounds_succ]
  refine Z4 (fun K27 hK27 => ?_)
  refine Z8 ?_
  refine Z11 1 (by rfl) (fun Lk hLk => ?_)
  simp only [Z1,Z2]
  refine Z15 (v := .bool true) (by rfl) rfl rfl rfl (fun W => run_lss _ _ _ _ W) ?_
  simp only [Z7,Z0]
  refine Z14 (hLk _ (fun w29 Sw29 => ?_))
  clear hLk Lk
  simp only [Z1,Z2]
  replace M := M.sees Sw29
  refine Z9 (Z10 ?_)
  refine hK27 _ _ ?_
  refine Z4 (fun K30 hK30 => ?_)
  refine Z5 rfl ?_
  refine wp_skip ?_
  refine hK30 _ _ ?_
  refine Z4 (fun K31 hK31 => ?_)
  refine wp_block ?_
  refine Z4 (fun K32 hK32 => ?_)
  refine Z8 ?_
  refine Z11 1 (by rfl) (fun Lk hLk => ?_)
  simp only [Z1,Z2]
  refine Z19 (v := fe p.y) (by rfl) (by rfl) (fun W hW => ?_) ?_
  ·
   (unfold RunsVal; kernel_rfl)
  simp only [Z7,Z0]
  refine Z14 (hLk _ (fun w34 Sw34 => ?_))
  clear hLk Lk
  simp only [Z1,Z2]
  replace M := M.sees Sw34
  refine wpL_var (t := 24) (cs := [.int .u64 0, .int .u64 0, .int .u64 0, .int .u64 0]) (by rfl) (fun W => ?_) (fun g35 w36 Sw36 Hg35 Bg35 => ?_)
  ·
   go_simp
  replace M := ((M.sees Sw36).add (N := 4) (cs := [.int .u64 0, .int .u64 0, .int .u64 0, .int .u64 0]) (M.ge Hg35) (M.fresh Hg35) Bg35 rfl)
  clear Bg35
  simp only [Z7,Z0]
  refine wpL_store (g := g35) (off := 0) (n := 4) (cs := fel p.y) (by rfl) (by rfl) (by rfl) (by rfl) (by rfl) (M.t 0 rfl) (by simp [flen]) info24 (fel_one _) (fun w37 P R T => ?_)
  replace M := M.putS 0 0 rfl P R T rfl ⟨.inl rfl, trivial⟩
  simp only [Z0] at M
  refine Z9 (Z10 ?_)
  refine hK32 _ _ ?_
  refine Z4 (fun K38 hK38 => ?_)
  refine wp_region_grow 4 [] (by kernel_rfl) (by kernel_rfl) (by kernel_rfl) (fun Lk hLk => ?_)
  simp only [Z1,Z2]
  refine wpV_load (cs := fel p.y) (by rfl) rfl rfl (M.r 0 0 rfl rfl) (M.lt 0 rfl) Try.underlying24 rfl info24 ?_
  simp only [Z7,Z0]
  refine Z20 (v := fe (leastF p.y)) (args := #[fe p.y]) (by rfl) rfl Try.func45 (by kernel_rfl) (by kernel_rfl) rfl (fun W hW => least_c hp.y W) ?_
  simp only [Z7,Z0]
  refine wpV_load (cs := fel p.y) (by rfl) rfl rfl (M.r 0 0 rfl rfl) (M.lt 0 rfl) Try.underlying24 rfl info24 ?_
  simp only [Z7,Z0]
  refine Z19 (v := .bool (decide (leastF p.y ≠ p.y))) (by rfl) (by rfl) (fun W hW => ?_) ?_
  ·
   exact run_neq_fe (leastF_lt ..) hp.y Try.underlying24 Try.underlying22 info22 (by kernel_rfl) rfl rfl rfl W
  simp only [Z7,Z0]
  refine Z14 (hLk.out _ ?_)
  clear hLk Lk
  simp only [Z1,Z2]
  iterate 4 refine wpN_skip (by rfl) ?_
  refine wpN_nil (fun w40 Sw40 hbs => ?_)
  clear hbs
  replace M := M.sees Sw40
  refine Z9 (Z10 ?_)
  refine hK38 _ _ ?_
  cases hc41 : (decide (leastF p.y ≠ p.y))
  ·
   have q42 : leastF p.y = p.y := Decidable.not_not.1 (of_decide_eq_false hc41)
   refine Z6 rfl ?_
   refine wp_skip ?_
   refine hK31 _ _ ?_
   refine Z8 ?_
   refine Z11 1 (by rfl) (fun Lk hLk => ?_)
   simp only [Z1,Z2]
   refine Z15 (v := .int .i64 2) (by rfl) rfl rfl rfl (fun W => run_add (by decide) W) ?_
   simp only [Z7,Z0]
   refine Z14 (hLk _ (fun w44 Sw44 => ?_))
   clear hLk Lk
   simp only [Z1,Z2]
   replace M := M.sees Sw44
   refine Z12 (v := .int .i64 2) (by rfl) (by rfl) (by rfl) ?_
   simp only [Z7,Z0]
   refine Z9 (Z10 ?_)
   refine Z17 (Q := fun _ _ _ => True) ?_
   rw [rounds_succ]
   refine Z4 (fun K45 hK45 => ?_)
   refine Z8 ?_
   refine Z11 1 (by rfl) (fun Lk hLk => ?_)
   simp only [Z1,Z2]
   refine Z15 (v := .bool true) (by rfl) rfl rfl rfl (fun W => run_lss _ _ _ _ W) ?_
   simp only [Z7,Z0]
   refine Z14 (hLk _ (fun w47 Sw47 => ?_))
   clear hLk Lk
   simp only [Z1,Z2]
   replace M := M.sees Sw47
   refine Z9 (Z10 ?_)
   refine hK45 _ _ ?_
   refine Z4 (fun K48 hK48 => ?_)
   refine Z5 rfl ?_
   refine wp_skip ?_
   refine hK48 _ _ ?_
   refine Z4 (fun K49 hK49 => ?_)
   refine wp_block ?_
   refine Z4 (fun K50 hK50 => ?_)
   refine Z8 ?_
   refine Z11 1 (by rfl) (fun Lk hLk => ?_)
   simp only [Z1,Z2]
   refine Z19 (v := fe p.z) (by rfl) (by rfl) (fun W hW => ?_) ?_
   ·
    (unfold RunsVal; kernel_rfl)
   simp only [Z7,Z0]
   refine Z14 (hLk _ (fun w52 Sw52 => ?_))
   clear hLk Lk
   simp only [Z1,Z2]
   replace M := M.sees Sw52
   refine wpL_var (t := 24) (cs := [.int .u64 0, .int .u64 0, .int .u64 0, .int .u64 0]) (by rfl) (fun W => ?_) (fun g53 w54 Sw54 Hg53 Bg53 => ?_)
   ·
    go_simp
   replace M := ((M.sees Sw54).add (N := 4) (cs := [.int .u64 0, .int .u64 0, .int .u64 0, .int .u64 0]) (M.ge Hg53) (M.fresh Hg53) Bg53 rfl)
   clear Bg53
   simp only [Z7,Z0]
   refine wpL_store (g := g53) (off := 0) (n := 4) (cs := fel p.z) (by rfl) (by rfl) (by rfl) (by rfl) (by rfl) (M.t 0 rfl) (by simp [flen]) info24 (fel_one _) (fun w55 P R T => ?_)
   replace M := M.putS 0 0 rfl P R T rfl ⟨.inl rfl, trivial⟩
   simp only [Z0] at M
   refine Z9 (Z10 ?_)
   refine hK50 _ _ ?_
   refine Z4 (fun K56 hK56 => ?_)
   refine wp_region_grow 4 [] (by kernel_rfl) (by kernel_rfl) (by kernel_rfl) (fun Lk hLk => ?_)
   simp only [Z1,Z2]
   refine wpV_load (cs := fel p.z) (by rfl) rfl rfl (M.r 0 0 rfl rfl) (M.lt 0 rfl) Try.underlying24 rfl info24 ?_
   simp only [Z7,Z0]
   refine Z20 (v := fe (leastF p.z)) (args := #[fe p.z]) (by rfl) rfl Try.func45 (by kernel_rfl) (by kernel_rfl) rfl (fun W hW => least_c hp.z W) ?_
   simp only [Z7,Z0]
   refine wpV_load (cs := fel p.z) (by rfl) rfl rfl (M.r 0 0 rfl rfl) (M.lt 0 rfl) Try.underlying24 rfl info24 ?_
   simp only [Z7,Z0]
   refine Z19 (v := .bool (decide (leastF p.z ≠ p.z))) (by rfl) (by rfl) (fun W hW => ?_) ?_
   ·
    exact run_neq_fe (leastF_lt ..) hp.z Try.underlying24 Try.underlying22 info22 (by kernel_rfl) rfl rfl rfl W
   simp only [Z7,Z0]
   refine Z14 (hLk.out _ ?_)
   clear hLk Lk
   simp only [Z1,Z2]
   iterate 4 refine wpN_skip (by rfl) ?_
   refine wpN_nil (fun w58 Sw58 hbs => ?_)
   clear hbs
   replace M := M.sees Sw58
   refine Z9 (Z10 ?_)
   refine hK56 _ _ ?_
   cases hc59 : (decide (leastF p.z ≠ p.z))
   ·
    have q60 : leastF p.z = p.z := Decidable.not_not.1 (of_decide_eq_false hc59)
    refine Z6 rfl ?_
    refine wp_skip ?_
    refine hK49 _ _ ?_
    refine Z8 ?_
    refine Z11 1 (by rfl) (fun Lk hLk => ?_)
    simp only [Z1,Z2]
    refine Z15 (v := .int .i64 3) (by rfl) rfl rfl rfl (fun W => run_add (by decide) W) ?_
    simp only [Z7,Z0]
    refine Z14 (hLk _ (fun w62 Sw62 => ?_))
    clear hLk Lk
    simp only [Z1,Z2]
    replace M := M.sees Sw62
    refine Z12 (v := .int .i64 3) (by rfl) (by rfl) (by rfl) ?_
    simp only [Z7,Z0]
    refine Z9 (Z10 ?_)
    refine Z17 (Q := fun _ _ _ => True) ?_
    rw [rounds_succ]
    refine Z4 (fun K63 hK63 => ?_)
    refine Z8 ?_
    refine Z11 1 (by rfl) (fun Lk hLk => ?_)
    simp only [Z1,Z2]
    refine Z15 (v := .bool true) (by rfl) rfl rfl rfl (fun W => run_lss _ _ _ _ W) ?_
    simp only [Z7,Z0]
    refine Z14 (hLk _ (fun w65 Sw65 => ?_))
    clear hLk Lk
    simp only [Z1,Z2]
    replace M := M.sees Sw65
    refine Z9 (Z10 ?_)
    refine hK63 _ _ ?_
    refine Z4 (fun K66 hK66 => ?_)
    refine Z5 rfl ?_
    refine wp_skip ?_
    refine hK66 _ _ ?_
    refine Z4 (fun K67 hK67 => ?_)
    refine wp_block ?_
    refine Z4 (fun K68 hK68 => ?_)
    refine Z8 ?_
    refine Z11 1 (by rfl) (fun Lk hLk => ?_)
    simp only [Z1,Z2]
    refine Z19 (v := fe p.t) (by rfl) (by rfl) (fun W hW => ?_) ?_
    ·
     (unfold RunsVal; kernel_rfl)
    simp only [Z7,Z0]
    refine Z14 (hLk _ (fun w70 Sw70 => ?_))
    clear hLk Lk
    simp only [Z1,Z2]
    replace M := M.sees Sw70
    refine wpL_var (t := 24) (cs := [.int .u64 0, .int .u64 0, .int .u64 0, .int .u64 0]) (by rfl) (fun W => ?_) (fun g71 w72 Sw72 Hg71 Bg71 => ?_)
    ·
     go_simp
    replace M := ((M.sees Sw72).add (N := 4) (cs := [.int .u64 0, .int .u64 0, .int .u64 0, .int .u64 0]) (M.ge Hg71) (M.fresh Hg71) Bg71 rfl)
    clear Bg71
    simp only [Z7,Z0]
    refine wpL_store (g := g71) (off := 0) (n := 4) (cs := fel p.t) (by rfl) (by rfl) (by rfl) (by rfl) (by rfl) (M.t 0 rfl) (by simp [flen]) info24 (fel_one _) (fun w73 P R T => ?_)
    replace M := M.putS 0 0 rfl P R T rfl ⟨.inl rfl, trivial⟩
    simp only [Z0] at M
    refine Z9 (Z10 ?_)
    refine hK68 _ _ ?_
    refine Z4 (fun K74 hK74 => ?_)
    refine wp_region_grow 4 [] (by kernel_rfl) (by kernel_rfl) (by kernel_rfl) (fun Lk hLk => ?_)
    simp only [Z1,Z2]
    refine wpV_load (cs := fel p.t) (by rfl) rfl rfl (M.r 0 0 rfl rfl) (M.lt 0 rfl) Try.underlying24 rfl info24 ?_
    simp only [Z7,Z0]
    refine Z20 (v := fe (leastF p.t)) (args := #[fe p.t]) (by rfl) rfl Try.func45 (by kernel_rfl) (by kernel_rfl) rfl (fun W hW => least_c hp.t W) ?_
    simp only [Z7,Z0]
    refine wpV_load (cs := fel p.t) (by rfl) rfl rfl (M.r 0 0 rfl rfl) (M.lt 0 rfl) Try.underlying24 rfl info24 ?_
    simp only [Z7,Z0]
    refine Z19 (v := .bool (decide (leastF p.t ≠ p.t))) (by rfl) (by rfl) (fun W hW => ?_) ?_
    ·
     exact run_neq_fe (leastF_lt ..) hp.t Try.underlying24 Try.underlying22 info22 (by kernel_rfl) rfl rfl rfl W
    simp only [Z7,Z0]
    refine Z14 (hLk.out _ ?_)
    clear hLk Lk
    simp only [Z1,Z2]
    iterate 4 refine wpN_skip (by rfl) ?_
    refine wpN_nil (fun w76 Sw76 hbs => ?_)
    clear hbs
    replace M := M.sees Sw76
    refine Z9 (Z10 ?_)
    refine hK74 _ _ ?_
    cases hc77 : (decide (leastF p.t ≠ p.t))
    ·
     have q78 : leastF p.t = p.t := Decidable.not_not.1 (of_decide_eq_false hc77)
     refine Z6 rfl ?_
     refine wp_skip ?_
     refine hK67 _ _ ?_
     refine Z8 ?_
     refine Z11 1 (by rfl) (fun Lk hLk => ?_)
     simp only [Z1,Z2]
     refine Z15 (v := .int .i64 4) (by rfl) rfl rfl rfl (fun W => run_add (by decide) W) ?_
     simp only [Z7,Z0]
     refine Z14 (hLk _ (fun w80 Sw80 => ?_))
     clear hLk Lk
     simp only [Z1,Z2]
     replace M := M.sees Sw80
     refine Z12 (v := .int .i64 4) (by rfl) (by rfl) (by rfl) ?_
     simp only [Z7,Z0]
     refine Z9 (Z10 ?_)
     refine Z17 (Q := fun _ _ _ => True) ?_
     rw [rounds_succ]
     refine Z4 (fun K81 hK81 => ?_)
     refine Z8 ?_
     refine Z11 1 (by rfl) (fun Lk hLk => ?_)
     simp only [Z1,Z2]
     refine Z15 (v := .bool false) (by rfl) rfl rfl rfl (fun W => run_lss _ _ _ _ W) ?_
     simp only [Z7,Z0]
     refine Z14 (hLk _ (fun w83 Sw83 => ?_))
     clear hLk Lk
     simp only [Z1,Z2]
     replace M := M.sees Sw83
     refine Z9 (Z10 ?_)
     refine hK81 _ _ ?_
     refine Z4 (fun K84 hK84 => ?_)
     refine Z6 rfl ?_
     refine wp_exit ?_
     refine hK5 _ _ ?_
     refine Z4 (fun K85 hK85 => ?_)
     refine Z4 (fun K86 hK86 => ?_)
     cases hg87 : (decide (p.z = 0))
     ·
      have q88 : ¬ (p.z = 0) := of_decide_eq_false hg87
      refine wp_region_grow 17 [] (by kernel_rfl) (by kernel_rfl) (by kernel_rfl) (fun Lk hLk => ?_)
      simp only [Z1,Z2]
      refine Z19 (v := .pointer (some ⟨g3, 8, none⟩)) (by rfl) (by rfl) (fun W hW => ?_) ?_
      ·
       (go_simp; exact rfl)
      simp only [Z7,Z0]
      refine wpV_load (cs := fel p.z) (by rfl) rfl rfl (M.r 4 2 rfl rfl) (M.lt 4 rfl) Try.underlying24 rfl info24 ?_
      simp only [Z7,Z0]
      refine Z19 (v := fe 0) (by rfl) (by rfl) (fun W hW => ?_) ?_
      ·
       rw [show fe 0 = .agg ([.int .u64 0, .int .u64 0, .int .u64 0, .int .u64 0]).toArray from (by kernel_rfl)]; unfold RunsVal; kernel_rfl
      simp only [Z7,Z0]
      refine Z19 (v := .bool false) (by rfl) (by rfl) (fun W hW => ?_) ?_
      ·
       exact hg87 ▸ run_eql_fe hp.z (by decide) Try.underlying24 Try.underlying22 info22 (by kernel_rfl) rfl rfl rfl W
      simp only [Z7,Z0]
      refine Z16 (v := .bool false) (by rfl) rfl rfl ?_
      simp only [Z7,Z0]
      refine Z19 (v := .pointer (some ⟨g3, 0, none⟩)) (by rfl) (by rfl) (fun W hW => ?_) ?_
      ·
       (go_simp; exact rfl)
      simp only [Z7,Z0]
      refine wpV_load (cs := fel p.x) (by rfl) rfl rfl (M.r 4 0 rfl rfl) (M.lt 4 rfl) Try.underlying24 rfl info24 ?_
      simp only [Z7,Z0]
      refine Z19 (v := .pointer (some ⟨g3, 4, none⟩)) (by rfl) (by rfl) (fun W hW => ?_) ?_
      ·
       (go_simp; exact rfl)
      simp only [Z7,Z0]
      refine wpV_load (cs := fel p.y) (by rfl) rfl rfl (M.r 4 1 rfl rfl) (M.lt 4 rfl) Try.underlying24 rfl info24 ?_
      simp only [Z7,Z0]
      refine Z20 (v := fe (fmul p.x p.y)) (args := #[fe p.x, fe p.y]) (by rfl) rfl Try.func39 (by kernel_rfl) (by kernel_rfl) rfl (fun W hW => fmul_c hp.x hp.y W) ?_
      simp only [Z7,Z0]
      refine Z19 (v := .pointer (some ⟨g3, 8, none⟩)) (by rfl) (by rfl) (fun W hW => ?_) ?_
      ·
       (go_simp; exact rfl)
      simp only [Z7,Z0]
      refine wpV_load (cs := fel p.z) (by rfl) rfl rfl (M.r 4 2 rfl rfl) (M.lt 4 rfl) Try.underlying24 rfl info24 ?_
      simp only [Z7,Z0]
      refine Z19 (v := .pointer (some ⟨g3, 12, none⟩)) (by rfl) (by rfl) (fun W hW => ?_) ?_
      ·
       (go_simp; exact rfl)
      simp only [Z7,Z0]
      refine wpV_load (cs := fel p.t) (by rfl) rfl rfl (M.r 4 3 rfl rfl) (M.lt 4 rfl) Try.underlying24 rfl info24 ?_
      simp only [Z7,Z0]
      refine Z20 (v := fe (fmul p.z p.t)) (args := #[fe p.z, fe p.t]) (by rfl) rfl Try.func39 (by kernel_rfl) (by kernel_rfl) rfl (fun W hW => fmul_c hp.z hp.t W) ?_
      simp only [Z7,Z0]
      refine Z19 (v := .bool (decide (fmul p.x p.y ≠ fmul p.z p.t))) (by rfl) (by rfl) (fun W hW => ?_) ?_
      ·
       exact run_neq_fe (fmul_lt ..) (fmul_lt ..) Try.underlying24 Try.underlying22 info22 (by kernel_rfl) rfl rfl rfl W
      simp only [Z7,Z0]
      refine wpV_pick (v := .bool (decide (fmul p.x p.y ≠ fmul p.z p.t))) (by rfl) rfl rfl rfl ?_
      simp only [Z7,Z0]
      refine Z14 (hLk.out _ ?_)
      clear hLk Lk
      simp only [Z1,Z2]
      iterate 17 refine wpN_skip (by rfl) ?_
      refine wpN_nil (fun w90 Sw90 hbs => ?_)
      clear hbs
      replace M := M.sees Sw90
      refine Z9 (Z10 ?_)
      refine hK86 _ _ ?_
      cases hc91 : (decide (fmul p.x p.y ≠ fmul p.z p.t))
      ·
       have q92 : fmul p.x p.y = fmul p.z p.t := Decidable.not_not.1 (of_decide_eq_false hc91)
       refine Z6 rfl ?_
       refine wp_skip ?_
       refine hK85 _ _ ?_
       refine Z4 (fun K93 hK93 => ?_)
       refine wp_region_grow 12 [] (by kernel_rfl) (by kernel_rfl) (by kernel_rfl) (fun Lk hLk => ?_)
       simp only [Z1,Z2]
       refine Z19 (v := .pointer (some ⟨g3, 4, none⟩)) (by rfl) (by rfl) (fun W hW => ?_) ?_
       ·
        (go_simp; exact rfl)
       simp only [Z7,Z0]
       refine wpV_load (cs := fel p.y) (by rfl) rfl rfl (M.r 4 1 rfl rfl) (M.lt 4 rfl) Try.underlying24 rfl info24 ?_
       simp only [Z7,Z0]
       refine Z19 (v := .pointer (some ⟨g3, 4, none⟩)) (by rfl) (by rfl) (fun W hW => ?_) ?_
       ·
        (go_simp; exact rfl)
       simp only [Z7,Z0]
       refine wpV_load (cs := fel p.y) (by rfl) rfl rfl (M.r 4 1 rfl rfl) (M.lt 4 rfl) Try.underlying24 rfl info24 ?_
       simp only [Z7,Z0]
       refine Z20 (v := fe (fmul p.y p.y)) (args := #[fe p.y, fe p.y]) (by rfl) rfl Try.func39 (by kernel_rfl) (by kernel_rfl) rfl (fun W hW => fmul_c hp.y hp.y W) ?_
       simp only [Z7,Z0]
       refine Z19 (v := .pointer (some ⟨g3, 0, none⟩)) (by rfl) (by rfl) (fun W hW => ?_) ?_
       ·
        (go_simp; exact rfl)
       simp only [Z7,Z0]
       refine wpV_load (cs := fel p.x) (by rfl) rfl rfl (M.r 4 0 rfl rfl) (M.lt 4 rfl) Try.underlying24 rfl info24 ?_
       simp only [Z7,Z0]
       refine Z19 (v := .pointer (some ⟨g3, 0, none⟩)) (by rfl) (by rfl) (fun W hW => ?_) ?_
       ·
        (go_simp; exact rfl)
       simp only [Z7,Z0]
       refine wpV_load (cs := fel p.x) (by rfl) rfl rfl (M.r 4 0 rfl rfl) (M.lt 4 rfl) Try.underlying24 rfl info24 ?_
       simp only [Z7,Z0]
       refine Z20 (v := fe (fmul p.x p.x)) (args := #[fe p.x, fe p.x]) (by rfl) rfl Try.func39 (by kernel_rfl) (by kernel_rfl) rfl (fun W hW => fmul_c hp.x hp.x W) ?_
       simp only [Z7,Z0]
       refine Z20 (v := fe (fsub (fmul p.y p.y) (fmul p.x p.x))) (args := #[fe (fmul p.y p.y), fe (fmul p.x p.x)]) (by rfl) rfl Try.func26 (by kernel_rfl) (by kernel_rfl) rfl (fun W hW => fsub_c (fmul_lt ..) (fmul_lt ..) W) ?_
       simp only [Z7,Z0]
       refine wpV_alloc (by rfl) ?_
       refine Z14 (hLk.out _ ?_)
       clear hLk Lk
       simp only [Z1,Z2]
       iterate 11 refine wpN_skip (by rfl) ?_
       refine wpN_new (t := 24) (cs := ([.int .u64 0, .int .u64 0, .int .u64 0, .int .u64 0]).toArray) (by rfl) (fun W => ?_) (fun g95 Hg95 ng95 => ?_)
       ·
        go_simp
       simp only [Z7,Z0]
       refine wpN_nil (fun w96 Sw96 hbs => ?_)
       replace M := ((M.sees Sw96).add (N := 4) (cs := [.int .u64 0, .int .u64 0, .int .u64 0, .int .u64 0]) (M.ge Hg95) (M.fresh Hg95) (hbs _ (.head _)) rfl)
       clear hbs ng95
       refine wpL_store (g := g95) (off := 0) (n := 4) (cs := fel (fsub (fmul p.y p.y) (fmul p.x p.x))) (by rfl) (by rfl) (by rfl) (by rfl) (by rfl) (M.t 0 rfl) (by simp [flen]) info24 (fel_one _) (fun w97 P R T => ?_)
       replace M := M.putS 0 0 rfl P R T rfl ⟨.inl rfl, trivial⟩
       simp only [Z0] at M
       refine Z9 (Z10 ?_)
       refine hK93 _ _ ?_
       refine Z4 (fun K98 hK98 => ?_)
       refine wp_region_grow 14 [] (by kernel_rfl) (by kernel_rfl) (by kernel_rfl) (fun Lk hLk => ?_)
       simp only [Z1,Z2]
       refine Z19 (v := .pointer (some ⟨g3, 8, none⟩)) (by rfl) (by rfl) (fun W hW => ?_) ?_
       ·
        (go_simp; exact rfl)
       simp only [Z7,Z0]
       refine wpV_load (cs := fel p.z) (by rfl) rfl rfl (M.r 5 2 rfl rfl) (M.lt 5 rfl) Try.underlying24 rfl info24 ?_
       simp only [Z7,Z0]
       refine Z19 (v := .pointer (some ⟨g3, 8, none⟩)) (by rfl) (by rfl) (fun W hW => ?_) ?_
       ·
        (go_simp; exact rfl)
       simp only [Z7,Z0]
       refine wpV_load (cs := fel p.z) (by rfl) rfl rfl (M.r 5 2 rfl rfl) (M.lt 5 rfl) Try.underlying24 rfl info24 ?_
       simp only [Z7,Z0]
       refine Z20 (v := fe (fmul p.z p.z)) (args := #[fe p.z, fe p.z]) (by rfl) rfl Try.func39 (by kernel_rfl) (by kernel_rfl) rfl (fun W hW => fmul_c hp.z hp.z W) ?_
       simp only [Z7,Z0]
       refine Z20 (v := fe dF) (args := #[]) (by rfl) rfl Try.func47 (by kernel_rfl) (by kernel_rfl) rfl (fun W hW => twisted_c) ?_
       simp only [Z7,Z0]
       refine Z19 (v := .pointer (some ⟨g3, 12, none⟩)) (by rfl) (by rfl) (fun W hW => ?_) ?_
       ·
        (go_simp; exact rfl)
       simp only [Z7,Z0]
       refine wpV_load (cs := fel p.t) (by rfl) rfl rfl (M.r 5 3 rfl rfl) (M.lt 5 rfl) Try.underlying24 rfl info24 ?_
       simp only [Z7,Z0]
       refine Z19 (v := .pointer (some ⟨g3, 12, none⟩)) (by rfl) (by rfl) (fun W hW => ?_) ?_
       ·
        (go_simp; exact rfl)
       simp only [Z7,Z0]
       refine wpV_load (cs := fel p.t) (by rfl) rfl rfl (M.r 5 3 rfl rfl) (M.lt 5 rfl) Try.underlying24 rfl info24 ?_
       simp only [Z7,Z0]
       refine Z20 (v := fe (fmul p.t p.t)) (args := #[fe p.t, fe p.t]) (by rfl) rfl Try.func39 (by kernel_rfl) (by kernel_rfl) rfl (fun W hW => fmul_c hp.t hp.t W) ?_
       simp only [Z7,Z0]
       refine Z20 (v := fe (fmul dF (fmul p.t p.t))) (args := #[fe dF, fe (fmul p.t p.t)]) (by rfl) rfl Try.func39 (by kernel_rfl) (by kernel_rfl) rfl (fun W hW => fmul_c dF_lt (fmul_lt ..) W) ?_
       simp only [Z7,Z0]
       refine Z20 (v := fe (fadd (fmul p.z p.z) (fmul dF (fmul p.t p.t)))) (args := #[fe (fmul p.z p.z), fe (fmul dF (fmul p.t p.t))]) (by rfl) rfl Try.func46 (by kernel_rfl) (by kernel_rfl) rfl (fun W hW => fadd_c (fmul_lt ..) (fmul_lt ..) W) ?_
       simp only [Z7,Z0]
       refine wpV_alloc (by rfl) ?_
       refine Z14 (hLk.out _ ?_)
       clear hLk Lk
       simp only [Z1,Z2]
       iterate 13 refine wpN_skip (by rfl) ?_
       refine wpN_new (t := 24) (cs := ([.int .u64 0, .int .u64 0, .int .u64 0, .int .u64 0]).toArray) (by rfl) (fun W => ?_) (fun g100 Hg100 ng100 => ?_)
       ·
        go_simp
       simp only [Z7,Z0]
       refine wpN_nil (fun w101 Sw101 hbs => ?_)
       replace M := ((M.sees Sw101).add (N := 4) (cs := [.int .u64 0, .int .u64 0, .int .u64 0, .int .u64 0]) (M.ge Hg100) (M.fresh Hg100) (hbs _ (.head _)) rfl)
       clear hbs ng100
       refine wpL_store (g := g100) (off := 0) (n := 4) (cs := fel (fadd (fmul p.z p.z) (fmul dF (fmul p.t p.t)))) (by rfl) (by rfl) (by rfl) (by rfl) (by rfl) (M.t 0 rfl) (by simp [flen]) info24 (fel_one _) (fun w102 P R T => ?_)
       replace M := M.putS 0 0 rfl P R T rfl ⟨.inl rfl, trivial⟩
       simp only [Z0] at M
       refine Z9 (Z10 ?_)
       refine hK98 _ _ ?_
       refine Z4 (fun K103 hK103 => ?_)
       refine Z8 ?_
       refine Z11 3 (by rfl) (fun Lk hLk => ?_)
       simp only [Z1,Z2]
       refine wpV_load (cs := fel (fsub (fmul p.y p.y) (fmul p.x p.x))) (by rfl) rfl rfl (M.r 1 0 rfl rfl) (M.lt 1 rfl) Try.underlying24 rfl info24 ?_
       simp only [Z7,Z0]
       refine wpV_load (cs := fel (fadd (fmul p.z p.z) (fmul dF (fmul p.t p.t)))) (by rfl) rfl rfl (M.r 0 0 rfl rfl) (M.lt 0 rfl) Try.underlying24 rfl info24 ?_
       simp only [Z7,Z0]
       refine Z19 (v := .bool (decide (fsub (fmul p.y p.y) (fmul p.x p.x) = fadd (fmul p.z p.z) (fmul dF (fmul p.t p.t))))) (by rfl) (by rfl) (fun W hW => ?_) ?_
       ·
        exact run_eql_fe (fsub_lt ..) (fadd_lt ..) Try.underlying24 Try.underlying22 info22 (by kernel_rfl) rfl rfl rfl W
       simp only [Z7,Z0]
       refine Z14 (hLk _ (fun w105 Sw105 => ?_))
       clear hLk Lk
       simp only [Z1,Z2]
       replace M := M.sees Sw105
       refine Z13 (v := .bool (decide (fsub (fmul p.y p.y) (fmul p.x p.x) = fadd (fmul p.z p.z) (fmul dF (fmul p.t p.t))))) (by rfl) (by rfl) (by rfl) ?_
       simp only [Z7,Z0]
       refine Z9 (Z10 ?_)
       refine hK103 _ _ ?_
       refine wp_ret ?_
       repeat (first | with_reducible refine then_ret ?_ | with_reducible refine inblock_ret ?_)
       refine bodyPost_ret (v := .bool (decide (fsub (fmul p.y p.y) (fmul p.x p.x) = fadd (fmul p.z p.z) (fmul dF (fmul p.t p.t))))) (res1 rfl (.tmp (by rfl))) rfl ?_
       have BE := M.below
       exact ⟨by unfold rightP; rw [decide_eq_true q24, decide_eq_true q42, decide_eq_true q60, decide_eq_true q78, decide_eq_true (p := p.z ≠ 0) q88, decide_eq_true q92]; rfl, BE⟩
      ·
       have q106 : (fmul p.x p.y ≠ fmul p.z p.t) := of_decide_eq_true hc91
       refine Z5 rfl ?_
       refine Z4 (fun K107 hK107 => ?_)
       refine Z8 ?_
       refine Z13 (v := .bool false) (by rfl) (by rfl) (by rfl) ?_
       simp only [Z7,Z0]
       refine Z9 (Z10 ?_)
       refine hK107 _ _ ?_
       refine wp_ret ?_
       repeat (first | with_reducible refine then_ret ?_ | with_reducible refine inblock_ret ?_)
       refine bodyPost_ret (v := .bool false) (res1 rfl (.tmp (by rfl))) rfl ?_
       have BE := M.below
       exact ⟨by unfold rightP; simp [q24, q42, q60, q78, q88, q106], BE⟩
     ·
      have q109 : (p.z = 0) := of_decide_eq_true hg87
      refine wp_region_grow 17 [] (by kernel_rfl) (by kernel_rfl) (by kernel_rfl) (fun Lk hLk => ?_)
      simp only [Z1,Z2]
      refine Z19 (v := .pointer (some ⟨g3, 8, none⟩)) (by rfl) (by rfl) (fun W hW => ?_) ?_
      ·
       (go_simp; exact rfl)
      simp only [Z7,Z0]
      refine wpV_load (cs := fel p.z) (by rfl) rfl rfl (M.r 4 2 rfl rfl) (M.lt 4 rfl) Try.underlying24 rfl info24 ?_
      simp only [Z7,Z0]
      refine Z19 (v := fe 0) (by rfl) (by rfl) (fun W hW => ?_) ?_
      ·
       rw [show fe 0 = .agg ([.int .u64 0, .int .u64 0, .int .u64 0, .int .u64 0]).toArray from (by kernel_rfl)]; unfold RunsVal; kernel_rfl
      simp only [Z7,Z0]
      refine Z19 (v := .bool true) (by rfl) (by rfl) (fun W hW => ?_) ?_
      ·
       exact hg87 ▸ run_eql_fe hp.z (by decide) Try.underlying24 Try.underlying22 info22 (by kernel_rfl) rfl rfl rfl W
      simp only [Z7,Z0]
      refine Z16 (v := .bool true) (by rfl) rfl rfl ?_
      simp only [Z7,Z0]
      refine wpV_skip (by rfl) (by rfl) ?_
      simp only [Z7,Z0]
      refine wpV_skip (by rfl) (by rfl) ?_
      simp only [Z7,Z0]
      refine wpV_skip (by rfl) (by rfl) ?_
      simp only [Z7,Z0]
      refine wpV_skip (by rfl) (by rfl) ?_
      simp only [Z7,Z0]
      refine wpV_skip (by rfl) (by rfl) ?_
      simp only [Z7,Z0]
      refine wpV_skip (by rfl) (by rfl) ?_
      simp only [Z7,Z0]
      refine wpV_skip (by rfl) (by rfl) ?_
      simp only [Z7,Z0]
      refine wpV_skip (by rfl) (by rfl) ?_
      simp only [Z7,Z0]
      refine wpV_skip (by rfl) (by rfl) ?_
      simp only [Z7,Z0]
      refine wpV_skip (by rfl) (by rfl) ?_
      simp only [Z7,Z0]
      refine wpV_skip (by rfl) (by rfl) ?_
      simp only [Z7,Z0]
      refine wpV_pick (v := .bool true) (by rfl) rfl rfl rfl ?_
      simp only [Z7,Z0]
      refine Z14 (hLk.out _ ?_)
      clear hLk Lk
      simp only [Z1,Z2]
      iterate 17 refine wpN_skip (by rfl) ?_
      refine wpN_nil (fun w111 Sw111 hbs => ?_)
      clear hbs
      replace M := M.sees Sw111
      refine Z9 (Z10 ?_)
      refine hK86 _ _ ?_
      refine Z5 rfl ?_
      refine Z4 (fun K112 hK112 => ?_)
      refine Z8 ?_
      refine Z13 (v := .bool false) (by rfl) (by rfl) (by rfl) ?_
      simp only [Z7,Z0]
      refine Z9 (Z10 ?_)
      refine hK112 _ _ ?_
      refine wp_ret ?_
      repeat (first | with_reducible refine then_ret ?_ | with_reducible refine inblock_ret ?_)
      refine bodyPost_ret (v := .bool false) (res1 rfl (.tmp (by rfl))) rfl ?_
      have BE := M.below
      exact ⟨by unfold rightP; simp [q24, q42, q60, q78, q109], BE⟩
    ·
     have q114 : (leastF p.t ≠ p.t) := of_decide_eq_true hc77
     refine Z5 rfl ?_
     refine Z4 (fun K115 hK115 => ?_)
     refine Z8 ?_
     refine Z13 (v := .bool false) (by rfl) (by rfl) (by rfl) ?_
     simp only [Z7,Z0]
     refine Z9 (Z10 ?_)
     refine hK115 _ _ ?_
     refine wp_ret ?_
     repeat (first | with_reducible refine then_ret ?_ | with_reducible refine inblock_ret ?_)
     refine bodyPost_ret (v := .bool false) (res1 rfl (.tmp (by rfl))) rfl ?_
     have BE := M.below
     exact ⟨by unfold rightP; simp [q24, q42, q60, q114], BE⟩
   ·
    have q117 : (leastF p.z ≠ p.z) := of_decide_eq_true hc59
    refine Z5 rfl ?_
    refine Z4 (fun K118 hK118 => ?_)
    refine Z8 ?_
    refine Z13 (v := .bool false) (by rfl) (by rfl) (by rfl) ?_
    simp only [Z7,Z0]
    refine Z9 (Z10 ?_)
    refine hK118 _ _ ?_
    refine wp_ret ?_
    repeat (first | with_reducible refine then_ret ?_ | with_reducible refine inblock_ret ?_)
    refine bodyPost_ret (v := .bool false) (res1 rfl (.tmp (by rfl))) rfl ?_
    have BE := M.below
    exact ⟨by unfold rightP; simp [q24, q42, q117], BE⟩
  ·
   have q120 : (leastF p.y ≠ p.y) := of_decide_eq_true hc41
   refine Z5 rfl ?_
   refine Z4 (fun K121 hK121 => ?_)
   refine Z8 ?_
   refine Z13 (v := .bool false) (by rfl) (by rfl) (by rfl) ?_
   simp only [Z7,Z0]
   refine Z9 (Z10 ?_)
   refine hK121 _ _ ?_
   refine wp_ret ?_
   repeat (first | with_reducible refine then_ret ?_ | with_reducible refine inblock_ret ?_)
   refine bodyPost_ret (v := .bool false) (res1 rfl (.tmp (by rfl))) rfl ?_
   have BE := M.below
   exact ⟨by unfold rightP; simp [q24, q120], BE⟩
 ·
  have q123 : (leastF p.x ≠ p.x) := of_decide_eq_true hc23
  refine Z5 rfl ?_
  refine Z4 (fun K124 hK124 => ?_)
  refine Z8 ?_
  refine Z13 (v := .bool false) (by rfl) (by rfl) (by rfl) ?_
  simp only [Z7,Z0]
  refine Z9 (Z10 ?_)
  refine hK124 _ _ ?_
  refine wp_ret ?_
  repeat (first | with_reducible refine then_ret ?_ | with_reducible refine inblock_ret ?_)
  refine bodyPost_ret (v := .bool false) (res1 rfl (.tmp (by rfl))) rfl ?_
  have BE := M.below
  exact ⟨by unfold rightP; simp [q123], BE⟩
set_option maxHeartbeats 2000000 in
theorem same_c {p q : P4} {w : World} (hp : p.Ok) (hq : q.Ok) :
  Calls Try.prog 20 #[.agg (fel p.x ++ fel p.y ++ fel p.z ++ fel p.t : List Value).toArray, .agg (fel q.x ++ fel q.y ++ fel q.z ++ fel q.t : List Value).toArray] w fun e w' => e = .returned (.bool (sameP p q)) ∧ Below w.heap.size w w' := by
 go_enter Try.func20, Try.ntmps20
 have M := Mem.start w
 refine Z4 (fun K1 hK1 => ?_)
 refine Z8 ?_
 refine wpL_var (t := 26) (cs := fel p.x ++ fel p.y ++ fel p.z ++ fel p.t) (by rfl) (fun W => ?_) (fun g3 w4 Sw4 Hg3 Bg3 => ?_)
 ·
  (first | rfl | go_simp)
 replace M := ((M.sees Sw4).addS (N := 16) (cs := fel p.x ++ fel p.y ++ fel p.z ++ fel p.t) (segs := [(0, fel p.x), (4, fel p.y), (8, fel p.z), (12, fel p.t)]) (M.ge Hg3) (M.fresh Hg3) Bg3 (by simp [flen]) ⟨rfl, rfl, rfl, rfl, trivial⟩)
 clear Bg3
 simp only [Z7,Z0]
 refine wpL_var (t := 26) (cs := fel q.x ++ fel q.y ++ fel q.z ++ fel q.t) (by rfl) (fun W => ?_) (fun g5 w6 Sw6 Hg5 Bg5 => ?_)
 ·
  (first | rfl | go_simp)
 replace M := ((M.sees Sw6).addS (N := 16) (cs := fel q.x ++ fel q.y ++ fel q.z ++ fel q.t) (segs := [(0, fel q.x), (4, fel q.y), (8, fel q.z), (12, fel q.t)]) (M.ge Hg5) (M.fresh Hg5) Bg5 (by simp [flen]) ⟨rfl, rfl, rfl, rfl, trivial⟩)
 clear Bg5
 simp only [Z7,Z0]
 refine Z13 (v := .bool false) (by rfl) (by rfl) (by rfl) ?_
 simp only [Z7,Z0]
 refine Z9 (Z10 ?_)
 refine hK1 _ _ ?_
 refine Z4 (fun K7 hK7 => ?_)
 cases hg8 : (rightP p)
 ·
  have q9 : (rightP p) = false := hg8
  refine wp_region_grow 32 [] (by kernel_rfl) (by kernel_rfl) (by kernel_rfl) (fun Lk hLk => ?_)
  simp only [Z1,Z2]
  refine wpV_load (cs := fel p.x ++ (fel p.y) ++ (fel p.z) ++ (fel p.t)) (by rfl) rfl rfl (range_join (range_join (range_join (M.r 1 0 rfl rfl) (M.r 1 1 rfl rfl) (by simp [flen])) (M.r 1 2 rfl rfl) (by simp [flen])) (M.r 1 3 rfl rfl) (by simp [flen])) (M.lt 1 rfl) Try.underlying26 rfl info26 ?_
  simp only [Z7,Z0]
  refine Z20 (v := .bool false) (args := #[.agg (fel p.x ++ (fel p.y) ++ (fel p.z) ++ (fel p.t) : List Value).toArray]) (by rfl) rfl Try.func17 (by kernel_rfl) (by kernel_rfl) rfl (fun W hW => by have h9 : Calls Try.prog _ _ W _ := right_c hp; rw [hg8] at h9; exact h9) ?_
  simp only [Z7,Z0]
  refine Z16 (v := .bool false) (by rfl) rfl rfl ?_
  simp only [Z7,Z0]
  refine wpV_skip (by rfl) (by rfl) ?_
  simp only [Z7,Z0]
  refine wpV_skip (by rfl) (by rfl) ?_
  simp only [Z7,Z0]
  refine wpV_pick (v := .bool false) (by rfl) rfl rfl rfl ?_
  simp only [Z7,Z0]
  refine Z16 (v := .bool false) (by rfl) rfl rfl ?_
  simp only [Z7,Z0]
  refine wpV_skip (by rfl) (by rfl) ?_
  simp only [Z7,Z0]
  refine wpV_skip (by rfl) (by rfl) ?_
  simp only [Z7,Z0]
  refine wpV_skip (by rfl) (by rfl) ?_
  simp only [Z7,Z0]
  refine wpV_skip (by rfl) (by rfl) ?_
  simp only [Z7,Z0]
  refine wpV_skip (by rfl) (by rfl) ?_
  simp only [Z7,Z0]
  refine wpV_skip (by rfl) (by rfl) ?_
  simp only [Z7,Z0]
  refine wpV_skip (by rfl) (by rfl) ?_
  simp only [Z7,Z0]
  refine wpV_skip (by rfl) (by rfl) ?_
  simp only [Z7,Z0]
  refine wpV_skip (by rfl) (by rfl) ?_
  simp only [Z7,Z0]
  refine wpV_skip (by rfl) (by rfl) ?_
  simp only [Z7,Z0]
  refine wpV_skip (by rfl) (by rfl) ?_
  simp only [Z7,Z0]
  refine wpV_pick (v := .bool false) (by rfl) rfl rfl rfl ?_
  simp only [Z7,Z0]
  refine Z16 (v := .bool false) (by rfl) rfl rfl ?_
  simp only [Z7,Z0]
  refine wpV_skip (by rfl) (by rfl) ?_
  simp only [Z7,Z0]
  refine wpV_skip (by rfl) (by rfl) ?_
  simp only [Z7,Z0]
  refine wpV_skip (by rfl) (by rfl) ?_
  simp only [Z7,Z0]
  refine wpV_skip (by rfl) (by rfl) ?_
  simp only [Z7,Z0]
  refine wpV_skip (by rfl) (by rfl) ?_
  simp only [Z7,Z0]
  refine wpV_skip (by rfl) (by rfl) ?_
  simp only [Z7,Z0]
  refine wpV_skip (by rfl) (by rfl) ?_
  simp only [Z7,Z0]
  refine wpV_skip (by rfl) (by rfl) ?_
  simp only [Z7,Z0]
  refine wpV_skip (by rfl) (by rfl) ?_
  simp only [Z7,Z0]
  refine wpV_skip (by rfl) (by rfl) ?_
  simp only [Z7,Z0]
  refine wpV_skip (by rfl) (by rfl) ?_
  simp only [Z7,Z0]
  refine wpV_pick (v := .bool false) (by rfl) rfl rfl rfl ?_
  simp only [Z7,Z0]
  refine Z14 (hLk.out _ ?_)
  clear hLk Lk
  simp only [Z1,Z2]
  iterate 32 refine wpN_skip (by rfl) ?_
  refine wpN_nil (fun w11 Sw11 hbs => ?_)
  clear hbs
  replace M := M.sees Sw11
  refine Z13 (v := .bool false) (by rfl) (by rfl) (by rfl) ?_
  simp only [Z7,Z0]
  refine Z9 (Z10 ?_)
  refine hK7 _ _ ?_
  refine wp_ret ?_
  repeat (first | with_reducible refine then_ret ?_ | with_reducible refine inblock_ret ?_)
  refine bodyPost_ret (v := .bool false) (res1 rfl (.tmp (by rfl))) rfl ?_
  have BE := M.below
  exact ⟨by unfold sameP; simp [q9], BE⟩
 ·
  have q12 : (rightP p) = true := hg8
  cases hg13 : (rightP q)
  ·
   have q14 : (rightP q) = false := hg13
   refine wp_region_grow 32 [] (by kernel_rfl) (by kernel_rfl) (by kernel_rfl) (fun Lk hLk => ?_)
   simp only [Z1,Z2]
   refine wpV_load (cs := fel p.x ++ (fel p.y) ++ (fel p.z) ++ (fel p.t)) (by rfl) rfl rfl (range_join (range_join (range_join (M.r 1 0 rfl rfl) (M.r 1 1 rfl rfl) (by simp [flen])) (M.r 1 2 rfl rfl) (by simp [flen])) (M.r 1 3 rfl rfl) (by simp [flen])) (M.lt 1 rfl) Try.underlying26 rfl info26 ?_
   simp only [Z7,Z0]
   refine Z20 (v := .bool true) (args := #[.agg (fel p.x ++ (fel p.y) ++ (fel p.z) ++ (fel p.t) : List Value).toArray]) (by rfl) rfl Try.func17 (by kernel_rfl) (by kernel_rfl) rfl (fun W hW => by have h9 : Calls Try.prog _ _ W _ := right_c hp; rw [hg8] at h9; exact h9) ?_
   simp only [Z7,Z0]
   refine Z16 (v := .bool true) (by rfl) rfl rfl ?_
   simp only [Z7,Z0]
   refine wpV_load (cs := fel q.x ++ (fel q.y) ++ (fel q.z) ++ (fel q.t)) (by rfl) rfl rfl (range_join (range_join (range_join (M.r 0 0 rfl rfl) (M.r 0 1 rfl rfl) (by simp [flen])) (M.r 0 2 rfl rfl) (by simp [flen])) (M.r 0 3 rfl rfl) (by simp [flen])) (M.lt 0 rfl) Try.underlying26 rfl info26 ?_
   simp only [Z7,Z0]
   refine Z20 (v := .bool false) (args := #[.agg (fel q.x ++ (fel q.y) ++ (fel q.z) ++ (fel q.t) : List Value).toArray]) (by rfl) rfl Try.func17 (by kernel_rfl) (by kernel_rfl) rfl (fun W hW => by have h9 : Calls Try.prog _ _ W _ := right_c hq; rw [hg13] at h9; exact h9) ?_
   simp only [Z7,Z0]
   refine wpV_pick (v := .bool false) (by rfl) rfl rfl rfl ?_
   simp only [Z7,Z0]
   refine Z16 (v := .bool false) (by rfl) rfl rfl ?_
   simp only [Z7,Z0]
   refine wpV_skip (by rfl) (by rfl) ?_
   simp only [Z7,Z0]
   refine wpV_skip (by rfl) (by rfl) ?_
   simp only [Z7,Z0]
   refine wpV_skip (by rfl) (by rfl) ?_
   simp only [Z7,Z0]
   refine wpV_skip (by rfl) (by rfl) ?_
   simp only [Z7,Z0]
   refine wpV_skip (by rfl) (by rfl) ?_
   simp only [Z7,Z0]
   refine wpV_skip (by rfl) (by rfl) ?_
   simp only [Z7,Z0]
   refine wpV_skip (by rfl) (by rfl) ?_
   simp only [Z7,Z0]
   refine wpV_skip (by rfl) (by rfl) ?_
   simp only [Z7,Z0]
   refine wpV_skip (by rfl) (by rfl) ?_
   simp only [Z7,Z0]
   refine wpV_skip (by rfl) (by rfl) ?_
   simp only [Z7,Z0]
   refine wpV_skip (by rfl) (by rfl) ?_
   simp only [Z7,Z0]
   refine wpV_pick (v := .bool false) (by rfl) rfl rfl rfl ?_
   simp only [Z7,Z0]
   refine Z16 (v := .bool false) (by rfl) rfl rfl ?_
   simp only [Z7,Z0]
   refine wpV_skip (by rfl) (by rfl) ?_
   simp only [Z7,Z0]
   refine wpV_skip (by rfl) (by rfl) ?_
   simp only [Z7,Z0]
   refine wpV_skip (by rfl) (by rfl) ?_
   simp only [Z7,Z0]
   refine wpV_skip (by rfl) (by rfl) ?_
   simp only [Z7,Z0]
   refine wpV_skip (by rfl) (by rfl) ?_
   simp only [Z7,Z0]
   refine wpV_skip (by rfl) (by rfl) ?_
   simp only [Z7,Z0]
   refine wpV_skip (by rfl) (by rfl) ?_
   simp only [Z7,Z0]
   refine wpV_skip (by rfl) (by rfl) ?_
   simp only [Z7,Z0]
   refine wpV_skip (by rfl) (by rfl) ?_
   simp only [Z7,Z0]
   refine wpV_skip (by rfl) (by rfl) ?_
   simp only [Z7,Z0]
   refine wpV_skip (by rfl) (by rfl) ?_
   simp only [Z7,Z0]
   refine wpV_pick (v := .bool false) (by rfl) rfl rfl rfl ?_
   simp only [Z7,Z0]
   refine Z14 (hLk.out _ ?_)
   clear hLk Lk
   simp only [Z1,Z2]
   iterate 32 refine wpN_skip (by rfl) ?_
   refine wpN_nil (fun w16 Sw16 hbs => ?_)
   clear hbs
   replace M := M.sees Sw16
   refine Z13 (v := .bool false) (by rfl) (by rfl) (by rfl) ?_
   simp only [Z7,Z0]
   refine Z9 (Z10 ?_)
   refine hK7 _ _ ?_
   refine wp_ret ?_
   repeat (first | with_reducible refine then_ret ?_ | with_reducible refine inblock_ret ?_)
   refine bodyPost_ret (v := .bool false) (res1 rfl (.tmp (by rfl))) rfl ?_
   have BE := M.below
   exact ⟨by unfold sameP; simp [q12, q14], BE⟩
  ·
   have q17 : (rightP q) = true := hg13
   cases hg18 : (decide (fmul p.x q.z = fmul q.x p.z))
   ·
    have q19 : ¬ (fmul p.x q.z = fmul q.x p.z) := of_decide_eq_false hg18
    refine wp_region_grow 32 [] (by kernel_rfl) (by kernel_rfl) (by kernel_rfl) (fun Lk hLk => ?_)
    simp only [Z1,Z2]
    refine wpV_load (cs := fel p.x ++ (fel p.y) ++ (fel p.z) ++ (fel p.t)) (by rfl) rfl rfl (range_join (range_join (range_join (M.r 1 0 rfl rfl) (M.r 1 1 rfl rfl) (by simp [flen])) (M.r 1 2 rfl rfl) (by simp [flen])) (M.r 1 3 rfl rfl) (by simp [flen])) (M.lt 1 rfl) Try.underlying26 rfl info26 ?_
    simp only [Z7,Z0]
    refine Z20 (v := .bool true) (args := #[.agg (fel p.x ++ (fel p.y) ++ (fel p.z) ++ (fel p.t) : List Value).toArray]) (by rfl) rfl Try.func17 (by kernel_rfl) (by kernel_rfl) rfl (fun W hW => by have h9 : Calls Try.prog _ _ W _ := right_c hp; rw [hg8] at h9; exact h9) ?_
    simp only [Z7,Z0]
    refine Z16 (v := .bool true) (by rfl) rfl rfl ?_
    simp only [Z7,Z0]
    refine wpV_load (cs := fel q.x ++ (fel q.y) ++ (fel q.z) ++ (fel q.t)) (by rfl) rfl rfl (range_join (range_join (range_join (M.r 0 0 rfl rfl) (M.r 0 1 rfl rfl) (by simp [flen])) (M.r 0 2 rfl rfl) (by simp [flen])) (M.r 0 3 rfl rfl) (by simp [flen])) (M.lt 0 rfl) Try.underlying26 rfl info26 ?_
    simp only [Z7,Z0]
    refine Z20 (v := .bool true) (args := #[.agg (fel q.x ++ (fel q.y) ++ (fel q.z) ++ (fel q.t) : List Value).toArray]) (by rfl) rfl Try.func17 (by kernel_rfl) (by kernel_rfl) rfl (fun W hW => by have h9 : Calls Try.prog _ _ W _ := right_c hq; rw [hg13] at h9; exact h9) ?_
    simp only [Z7,Z0]
    refine wpV_pick (v := .bool true) (by rfl) rfl rfl rfl ?_
    simp only [Z7,Z0]
    refine Z16 (v := .bool true) (by rfl) rfl rfl ?_
    simp only [Z7,Z0]
    refine Z19 (v := .pointer (some ⟨g3, 0, none⟩)) (by rfl) (by rfl) (fun W hW => ?_) ?_
    ·
     (go_simp; exact rfl)
    simp only [Z7,Z0]
    refine wpV_load (cs := fel p.x) (by rfl) rfl rfl (M.r 1 0 rfl rfl) (M.lt 1 rfl) Try.underlying24 rfl info24 ?_
    simp only [Z7,Z0]
    refine Z19 (v := .pointer (some ⟨g5, 8, none⟩)) (by rfl) (by rfl) (fun W hW => ?_) ?_
    ·
     (go_simp; exact rfl)
    simp only [Z7,Z0]
    refine wpV_load (cs := fel q.z) (by rfl) rfl rfl (M.r 0 2 rfl rfl) (M.lt 0 rfl) Try.underlying24 rfl info24 ?_
    simp only [Z7,Z0]
    refine Z20 (v := fe (fmul p.x q.z)) (args := #[fe p.x, fe q.z]) (by rfl) rfl Try.func39 (by kernel_rfl) (by kernel_rfl) rfl (fun W hW => fmul_c hp.x hq.z W) ?_
    simp only [Z7,Z0]
    refine Z19 (v := .pointer (some ⟨g5, 0, none⟩)) (by rfl) (by rfl) (fun W hW => ?_) ?_
    ·
     (go_simp; exact rfl)
    simp only [Z7,Z0]
    refine wpV_load (cs := fel q.x) (by rfl) rfl rfl (M.r 0 0 rfl rfl) (M.lt 0 rfl) Try.underlying24 rfl info24 ?_
    simp only [Z7,Z0]
    refine Z19 (v := .pointer (some ⟨g3, 8, none⟩)) (by rfl) (by rfl) (fun W hW => ?_) ?_
    ·
     (go_simp; exact rfl)
    simp only [Z7,Z0]
    refine wpV_load (cs := fel p.z) (by rfl) rfl rfl (M.r 1 2 rfl rfl) (M.lt 1 rfl) Try.underlying24 rfl info24 ?_
    simp only [Z7,Z0]
    refine Z20 (v := fe (fmul q.x p.z)) (args := #[fe q.x, fe p.z]) (by rfl) rfl Try.func39 (by kernel_rfl) (by kernel_rfl) rfl (fun W hW => fmul_c hq.x hp.z W) ?_
    simp only [Z7,Z0]
    refine Z19 (v := .bool false) (by rfl) (by rfl) (fun W hW => ?_) ?_
    ·
     exact hg18 ▸ run_eql_fe (fmul_lt ..) (fmul_lt ..) Try.underlying24 Try.underlying22 info22 (by kernel_rfl) rfl rfl rfl W
    simp only [Z7,Z0]
    refine wpV_pick (v := .bool false) (by rfl) rfl rfl rfl ?_
    simp only [Z7,Z0]
    refine Z16 (v := .bool false) (by rfl) rfl rfl ?_
    simp only [Z7,Z0]
    refine wpV_skip (by rfl) (by rfl) ?_
    simp only [Z7,Z0]
    refine wpV_skip (by rfl) (by rfl) ?_
    simp only [Z7,Z0]
    refine wpV_skip (by rfl) (by rfl) ?_
    simp only [Z7,Z0]
    refine wpV_skip (by rfl) (by rfl) ?_
    simp only [Z7,Z0]
    refine wpV_skip (by rfl) (by rfl) ?_
    simp only [Z7,Z0]
    refine wpV_skip (by rfl) (by rfl) ?_
    simp only [Z7,Z0]
    refine wpV_skip (by rfl) (by rfl) ?_
    simp only [Z7,Z0]
    refine wpV_skip (by rfl) (by rfl) ?_
    simp only [Z7,Z0]
    refine wpV_skip (by rfl) (by rfl) ?_
    simp only [Z7,Z0]
    refine wpV_skip (by rfl) (by rfl) ?_
    simp only [Z7,Z0]
    refine wpV_skip (by rfl) (by rfl) ?_
    simp only [Z7,Z0]
    refine wpV_pick (v := .bool false) (by rfl) rfl rfl rfl ?_
    simp only [Z7,Z0]
    refine Z14 (hLk.out _ ?_)
    clear hLk Lk
    simp only [Z1,Z2]
    iterate 32 refine wpN_skip (by rfl) ?_
    refine wpN_nil (fun w21 Sw21 hbs => ?_)
    clear hbs
    replace M := M.sees Sw21
    refine Z13 (v := .bool false) (by rfl) (by rfl) (by rfl) ?_
    simp only [Z7,Z0]
    refine Z9 (Z10 ?_)
    refine hK7 _ _ ?_
    refine wp_ret ?_
    repeat (first | with_reducible refine then_ret ?_ | with_reducible refine inblock_ret ?_)
    refine bodyPost_ret (v := .bool false) (res1 rfl (.tmp (by rfl))) rfl ?_
    have BE := M.below
    exact ⟨by unfold sameP; simp [q12, q17, q19], BE⟩
   ·
    have q22 : (fmul p.x q.z = fmul q.x p.z) := of_decide_eq_true hg18
    refine wp_region_grow 32 [] (by kernel_rfl) (by kernel_rfl) (by kernel_rfl) (fun Lk hLk => ?_)
    simp only [Z1,Z2]
    refine wpV_load (cs := fel p.x ++ (fel p.y) ++ (fel p.z) ++ (fel p.t)) (by rfl) rfl rfl (range_join (range_join (range_join (M.r 1 0 rfl rfl) (M.r 1 1 rfl rfl) (by simp [flen])) (M.r 1 2 rfl rfl) (by simp [flen])) (M.r 1 3 rfl rfl) (by simp [flen])) (M.lt 1 rfl) Try.underlying26 rfl info26 ?_
    simp only [Z7,Z0]
    refine Z20 (v := .bool true) (args := #[.agg (fel p.x ++ (fel p.y) ++ (fel p.z) ++ (fel p.t) : List Value).toArray]) (by rfl) rfl Try.func17 (by kernel_rfl) (by kernel_rfl) rfl (fun W hW => by have h9 : Calls Try.prog _ _ W _ := right_c hp; rw [hg8] at h9; exact h9) ?_
    simp only [Z7,Z0]
    refine Z16 (v := .bool true) (by rfl) rfl rfl ?_
    simp only [Z7,Z0]
    refine wpV_load (cs := fel q.x ++ (fel q.y) ++ (fel q.z) ++ (fel q.t)) (by rfl) rfl rfl (range_join (range_join (range_join (M.r 0 0 rfl rfl) (M.r 0 1 rfl rfl) (by simp [flen])) (M.r 0 2 rfl rfl) (by simp [flen])) (M.r 0 3 rfl rfl) (by simp [flen])) (M.lt 0 rfl) Try.underlying26 rfl info26 ?_
    simp only [Z7,Z0]
    refine Z20 (v := .bool true) (args := #[.agg (fel q.x ++ (fel q.y) ++ (fel q.z) ++ (fel q.t) : List Value).toArray]) (by rfl) rfl Try.func17 (by kernel_rfl) (by kernel_rfl) rfl (fun W hW => by have h9 : Calls Try.prog _ _ W _ := right_c hq; rw [hg13] at h9; exact h9) ?_
    simp only [Z7,Z0]
    refine wpV_pick (v := .bool true) (by rfl) rfl rfl rfl ?_
    simp only [Z7,Z0]
    refine Z16 (v := .bool true) (by rfl) rfl rfl ?_
    simp only [Z7,Z0]
    refine Z19 (v := .pointer (some ⟨g3, 0, none⟩)) (by rfl) (by rfl) (fun W hW => ?_) ?_
    ·
     (go_simp; exact rfl)
    simp only [Z7,Z0]
    refine wpV_load (cs := fel p.x) (by rfl) rfl rfl (M.r 1 0 rfl rfl) (M.lt 1 rfl) Try.underlying24 rfl info24 ?_
    simp only [Z7,Z0]
    refine Z19 (v := .pointer (some ⟨g5, 8, none⟩)) (by rfl) (by rfl) (fun W hW => ?_) ?_
    ·
     (go_simp; exact rfl)
    simp only [Z7,Z0]
    refine wpV_load (cs := fel q.z) (by rfl) rfl rfl (M.r 0 2 rfl rfl) (M.lt 0 rfl) Try.underlying24 rfl info24 ?_
    simp only [Z7,Z0]
    refine Z20 (v := fe (fmul p.x q.z)) (args := #[fe p.x, fe q.z]) (by rfl) rfl Try.func39 (by kernel_rfl) (by kernel_rfl) rfl (fun W hW => fmul_c hp.x hq.z W) ?_
    simp only [Z7,Z0]
    refine Z19 (v := .pointer (some ⟨g5, 0, none⟩)) (by rfl) (by rfl) (fun W hW => ?_) ?_
    ·
     (go_simp; exact rfl)
    simp only [Z7,Z0]
    refine wpV_load (cs := fel q.x) (by rfl) rfl rfl (M.r 0 0 rfl rfl) (M.lt 0 rfl) Try.underlying24 rfl info24 ?_
    simp only [Z7,Z0]
    refine Z19 (v := .pointer (some ⟨g3, 8, none⟩)) (by rfl) (by rfl) (fun W hW => ?_) ?_
    ·
     (go_simp; exact rfl)
    simp only [Z7,Z0]
    refine wpV_load (cs := fel p.z) (by rfl) rfl rfl (M.r 1 2 rfl rfl) (M.lt 1 rfl) Try.underlying24 rfl info24 ?_
    simp only [Z7,Z0]
    refine Z20 (v := fe (fmul q.x p.z)) (args := #[fe q.x, fe p.z]) (by rfl) rfl Try.func39 (by kernel_rfl) (by kernel_rfl) rfl (fun W hW => fmul_c hq.x hp.z W) ?_
    simp only [Z7,Z0]
    refine Z19 (v := .bool true) (by rfl) (by rfl) (fun W hW => ?_) ?_
    ·
     exact hg18 ▸ run_eql_fe (fmul_lt ..) (fmul_lt ..) Try.underlying24 Try.underlying22 info22 (by kernel_rfl) rfl rfl rfl W
    simp only [Z7,Z0]
    refine wpV_pick (v := .bool true) (by rfl) rfl rfl rfl ?_
    simp only [Z7,Z0]
    refine Z16 (v := .bool true) (by rfl) rfl rfl ?_
    simp only [Z7,Z0]
    refine Z19 (v := .pointer (some ⟨g3, 4, none⟩)) (by rfl) (by rfl) (fun W hW => ?_) ?_
    ·
     (go_simp; exact rfl)
    simp only [Z7,Z0]
    refine wpV_load (cs := fel p.y) (by rfl) rfl rfl (M.r 1 1 rfl rfl) (M.lt 1 rfl) Try.underlying24 rfl info24 ?_
    simp only [Z7,Z0]
    refine Z19 (v := .pointer (some ⟨g5, 8, none⟩)) (by rfl) (by rfl) (fun W hW => ?_) ?_
    ·
     (go_simp; exact rfl)
    simp only [Z7,Z0]
    refine wpV_load (cs := fel q.z) (by rfl) rfl rfl (M.r 0 2 rfl rfl) (M.lt 0 rfl) Try.underlying24 rfl info24 ?_
    simp only [Z7,Z0]
    refine Z20 (v := fe (fmul p.y q.z)) (args := #[fe p.y, fe q.z]) (by rfl) rfl Try.func39 (by kernel_rfl) (by kernel_rfl) rfl (fun W hW => fmul_c hp.y hq.z W) ?_
    simp only [Z7,Z0]
    refine Z19 (v := .pointer (some ⟨g5, 4, none⟩)) (by rfl) (by rfl) (fun W hW => ?_) ?_
    ·
     (go_simp; exact rfl)
    simp only [Z7,Z0]
    refine wpV_load (cs := fel q.y) (by rfl) rfl rfl (M.r 0 1 rfl rfl) (M.lt 0 rfl) Try.underlying24 rfl info24 ?_
    simp only [Z7,Z0]
    refine Z19 (v := .pointer (some ⟨g3, 8, none⟩)) (by rfl) (by rfl) (fun W hW => ?_) ?_
    ·
     (go_simp; exact rfl)
    simp only [Z7,Z0]
    refine wpV_load (cs := fel p.z) (by rfl) rfl rfl (M.r 1 2 rfl rfl) (M.lt 1 rfl) Try.underlying24 rfl info24 ?_
    simp only [Z7,Z0]
    refine Z20 (v := fe (fmul q.y p.z)) (args := #[fe q.y, fe p.z]) (by rfl) rfl Try.func39 (by kernel_rfl) (by kernel_rfl) rfl (fun W hW => fmul_c hq.y hp.z W) ?_
    simp only [Z7,Z0]
    refine Z19 (v := .bool (decide (fmul p.y q.z = fmul q.y p.z))) (by rfl) (by rfl) (fun W hW => ?_) ?_
    ·
     exact run_eql_fe (fmul_lt ..) (fmul_lt ..) Try.underlying24 Try.underlying22 info22 (by kernel_rfl) rfl rfl rfl W
    simp only [Z7,Z0]
    refine wpV_pick (v := .bool (decide (fmul p.y q.z = fmul q.y p.z))) (by rfl) rfl rfl rfl ?_
    simp only [Z7,Z0]
    refine Z14 (hLk.out _ ?_)
    clear hLk Lk
    simp only [Z1,Z2]
    iterate 32 refine wpN_skip (by rfl) ?_
    refine wpN_nil (fun w24 Sw24 hbs => ?_)
    clear hbs
    replace M := M.sees Sw24
    refine Z13 (v := .bool (decide (fmul p.y q.z = fmul q.y p.z))) (by rfl) (by rfl) (by rfl) ?_
    simp only [Z7,Z0]
    refine Z9 (Z10 ?_)
    refine hK7 _ _ ?_
    refine wp_ret ?_
    repeat (first | with_reducible refine then_ret ?_ | with_reducible refine inblock_ret ?_)
    refine bodyPost_ret (v := .bool (decide (fmul p.y q.z = fmul q.y p.z))) (res1 rfl (.tmp (by rfl))) rfl ?_
    have BE := M.below
    exact ⟨by unfold sameP; simp [q12, q17, q22], BE⟩
end Go.Proofs.Yc

namespace Go.Proofs.Yc
open Go Go.RowKit Go.Proofs.Num
open List renaming set → Z0, take → Z1, drop → Z2
open Go renaming wp_seq_k → Z4, wp_cond_true → Z5
open Go.Proofs.Num renaming putT → Z7, wp_region_seq → Z8, wpL_nil → Z9, no_panic → Z10, wpL_chunk → Z11, wpL_assign → Z13, wpV_nil → Z14, wpV_move → Z16, wpV_val → Z19, wpV_callf → Z20
attribute [local irreducible] wpV wpN wpList
open Go.Proofs.Ya
set_option maxHeartbeats 2000000 in
theorem Add_no1 {p q : P4} {w : World} (hp : p.Ok) (hq : q.Ok) (h1 : rightP p = false) :
  Calls Try.prog 21 #[.agg (fel p.x ++ fel p.y ++ fel p.z ++ fel p.t : List Value).toArray, .agg (fel q.x ++ fel q.y ++ fel q.z ++ fel q.t : List Value).toArray] w fun e w' => e = .returned (.tuple #[.agg (fel noneP.x ++ fel noneP.y ++ fel noneP.z ++ fel noneP.t : List Value).toArray, .int .i64 1]) ∧ Below w.heap.size w w' := by
 go_enter Try.func21, Try.ntmps21
 have M := Mem.start w
 refine Z4 (fun K1 hK1 => ?_)
 refine Z8 ?_
 refine wpL_var (t := 26) (cs := fel p.x ++ fel p.y ++ fel p.z ++ fel p.t) (by rfl) (fun W => ?_) (fun g3 w4 Sw4 Hg3 Bg3 => ?_)
 ·
  (first | rfl | go_simp)
 replace M := ((M.sees Sw4).addS (N := 16) (cs := fel p.x ++ fel p.y ++ fel p.z ++ fel p.t) (segs := [(0, fel p.x), (4, fel p.y), (8, fel p.z), (12, fel p.t)]) (M.ge Hg3) (M.fresh Hg3) Bg3 (by simp [flen]) ⟨rfl, rfl, rfl, rfl, trivial⟩)
 clear Bg3
 simp only [Z7,Z0]
 refine wpL_var (t := 26) (cs := fel q.x ++ fel q.y ++ fel q.z ++ fel q.t) (by rfl) (fun W => ?_) (fun g5 w6 Sw6 Hg5 Bg5 => ?_)
 ·
  (first | rfl | go_simp)
 replace M := ((M.sees Sw6).addS (N := 16) (cs := fel q.x ++ fel q.y ++ fel q.z ++ fel q.t) (segs := [(0, fel q.x), (4, fel q.y), (8, fel q.z), (12, fel q.t)]) (M.ge Hg5) (M.fresh Hg5) Bg5 (by simp [flen]) ⟨rfl, rfl, rfl, rfl, trivial⟩)
 clear Bg5
 simp only [Z7,Z0]
 refine wpL_var (t := 26) (cs := [.int .u64 0, .int .u64 0, .int .u64 0, .int .u64 0, .int .u64 0, .int .u64 0, .int .u64 0, .int .u64 0, .int .u64 0, .int .u64 0, .int .u64 0, .int .u64 0, .int .u64 0, .int .u64 0, .int .u64 0, .int .u64 0]) (by rfl) (fun W => ?_) (fun g7 w8 Sw8 Hg7 Bg7 => ?_)
 ·
  go_simp
 replace M := ((M.sees Sw8).addS (N := 16) (cs := [.int .u64 0, .int .u64 0, .int .u64 0, .int .u64 0, .int .u64 0, .int .u64 0, .int .u64 0, .int .u64 0, .int .u64 0, .int .u64 0, .int .u64 0, .int .u64 0, .int .u64 0, .int .u64 0, .int .u64 0, .int .u64 0]) (segs := [(0, [.int .u64 0, .int .u64 0, .int .u64 0, .int .u64 0]), (4, [.int .u64 0, .int .u64 0, .int .u64 0, .int .u64 0]), (8, [.int .u64 0, .int .u64 0, .int .u64 0, .int .u64 0]), (12, [.int .u64 0, .int .u64 0, .int .u64 0, .int .u64 0])]) (M.ge Hg7) (M.fresh Hg7) Bg7 rfl ⟨rfl, rfl, rfl, rfl, trivial⟩)
 clear Bg7
 simp only [Z7,Z0]
 refine Z13 (v := .int .i64 0) (by rfl) (by rfl) (by rfl) ?_
 simp only [Z7,Z0]
 refine Z9 (Z10 ?_)
 refine hK1 _ _ ?_
 refine Z4 (fun K9 hK9 => ?_)
 refine Z4 (fun K10 hK10 => ?_)
 refine Z8 ?_
 refine Z11 8 (by rfl) (fun Lk hLk => ?_)
 simp only [Z1,Z2]
 refine wpV_load (cs := fel p.x ++ (fel p.y) ++ (fel p.z) ++ (fel p.t)) (by rfl) rfl rfl (range_join (range_join (range_join (M.r 2 0 rfl rfl) (M.r 2 1 rfl rfl) (by simp [flen])) (M.r 2 2 rfl rfl) (by simp [flen])) (M.r 2 3 rfl rfl) (by simp [flen])) (M.lt 2 rfl) Try.underlying26 rfl info26 ?_
 simp only [Z7,Z0]
 refine Z20 (v := .bool false) (args := #[.agg (fel p.x ++ (fel p.y) ++ (fel p.z) ++ (fel p.t) : List Value).toArray]) (by rfl) rfl Try.func17 (by kernel_rfl) (by kernel_rfl) rfl (fun W hW => by have h9 : Calls Try.prog _ _ W _ := right_c hp; rw [h1] at h9; exact h9) ?_
 simp only [Z7,Z0]
 refine wpV_not (b := false) (by rfl) rfl rfl ?_
 simp only [Bool.not_true, Bool.not_false]
 simp only [Z7,Z0]
 refine Z16 (v := .bool true) (by rfl) rfl rfl ?_
 simp only [Z7,Z0]
 refine wpV_skip (by rfl) (by rfl) ?_
 simp only [Z7,Z0]
 refine wpV_skip (by rfl) (by rfl) ?_
 simp only [Z7,Z0]
 refine wpV_skip (by rfl) (by rfl) ?_
 simp only [Z7,Z0]
 refine wpV_pick (v := .bool true) (by rfl) rfl rfl rfl ?_
 simp only [Z7,Z0]
 refine Z14 (hLk _ (fun w12 Sw12 => ?_))
 clear hLk Lk
 simp only [Z1,Z2]
 replace M := M.sees Sw12
 refine Z9 (Z10 ?_)
 refine hK10 _ _ ?_
 refine Z5 rfl ?_
 refine Z4 (fun K13 hK13 => ?_)
 refine Z8 ?_
 refine Z11 1 (by rfl) (fun Lk hLk => ?_)
 simp only [Z1,Z2]
 refine Z19 (v := .agg ([.int .u64 0, .int .u64 0, .int .u64 0, .int .u64 0, .int .u64 0, .int .u64 0, .int .u64 0, .int .u64 0, .int .u64 0, .int .u64 0, .int .u64 0, .int .u64 0, .int .u64 0, .int .u64 0, .int .u64 0, .int .u64 0]).toArray) (by rfl) (by rfl) (fun W hW => ?_) ?_
 ·
  (unfold RunsVal; kernel_rfl)
 simp only [Z7,Z0]
 refine Z14 (hLk _ (fun w15 Sw15 => ?_))
 clear hLk Lk
 simp only [Z1,Z2]
 replace M := M.sees Sw15
 refine wpL_store (g := g7) (off := 0) (n := 16) (cs := [.int .u64 0, .int .u64 0, .int .u64 0, .int .u64 0, .int .u64 0, .int .u64 0, .int .u64 0, .int .u64 0, .int .u64 0, .int .u64 0, .int .u64 0, .int .u64 0, .int .u64 0, .int .u64 0, .int .u64 0, .int .u64 0]) (by rfl) (by rfl) (by rfl) (by rfl) (by rfl) (M.t 0 rfl) (by simp [flen]) info26 (by simp [fone, Value.oneCell']) (fun w16 P R T => ?_)
 replace M := M.put (segs' := [(0, [.int .u64 0, .int .u64 0, .int .u64 0, .int .u64 0]), (4, [.int .u64 0, .int .u64 0, .int .u64 0, .int .u64 0]), (8, [.int .u64 0, .int .u64 0, .int .u64 0, .int .u64 0]), (12, [.int .u64 0, .int .u64 0, .int .u64 0, .int .u64 0])]) 0 rfl P T (SegsOf.at R ⟨rfl, rfl, rfl, rfl, trivial⟩)
 simp only [Z0] at M
 refine Z13 (v := .int .i64 1) (by rfl) (by rfl) (by rfl) ?_
 simp only [Z7,Z0]
 refine Z9 (Z10 ?_)
 refine hK13 _ _ ?_
 refine wp_ret ?_
 repeat (first | with_reducible refine then_ret ?_ | with_reducible refine inblock_ret ?_)
 refine bodyPost_ret (v := .tuple #[.agg ([.int .u64 0, .int .u64 0, .int .u64 0, .int .u64 0] ++ [.int .u64 0, .int .u64 0, .int .u64 0, .int .u64 0] ++ [.int .u64 0, .int .u64 0, .int .u64 0, .int .u64 0] ++ [.int .u64 0, .int .u64 0, .int .u64 0, .int .u64 0] : List Value).toArray, .int .i64 1]) (res2 rfl (.cell (by rfl) (run_loadVar_mid _ _ _ _ ([.int .u64 0, .int .u64 0, .int .u64 0, .int .u64 0] ++ [.int .u64 0, .int .u64 0, .int .u64 0, .int .u64 0] ++ [.int .u64 0, .int .u64 0, .int .u64 0, .int .u64 0] ++ [.int .u64 0, .int .u64 0, .int .u64 0, .int .u64 0]) _ (range_join (range_join (range_join (M.r 0 0 rfl rfl) (M.r 0 1 rfl rfl) (by simp [flen])) (M.r 0 2 rfl rfl) (by simp [flen])) (M.r 0 3 rfl rfl) (by simp [flen])) Try.underlying26 rfl info26)) (.tmp (by rfl))) rfl ?_
 have BE := M.below
 exact ⟨rfl, BE⟩
set_option maxHeartbeats 2000000 in
theorem Add_no2 {p q : P4} {w : World} (hp : p.Ok) (hq : q.Ok) (h1 : rightP p = true) (h2 : rightP q = false) :
  Calls Try.prog 21 #[.agg (fel p.x ++ fel p.y ++ fel p.z ++ fel p.t : List Value).toArray, .agg (fel q.x ++ fel q.y ++ fel q.z ++ fel q.t : List Value).toArray] w fun e w' => e = .returned (.tuple #[.agg (fel noneP.x ++ fel noneP.y ++ fel noneP.z ++ fel noneP.t : List Value).toArray, .int .i64 1]) ∧ Below w.heap.size w w' := by
 go_enter Try.func21, Try.ntmps21
 have M := Mem.start w
 refine Z4 (fun K1 hK1 => ?_)
 refine Z8 ?_
 refine wpL_var (t := 26) (cs := fel p.x ++ fel p.y ++ fel p.z ++ fel p.t) (by rfl) (fun W => ?_) (fun g3 w4 Sw4 Hg3 Bg3 => ?_)
 ·
  (first | rfl | go_simp)
 replace M := ((M.sees Sw4).addS (N := 16) (cs := fel p.x ++ fel p.y ++ fel p.z ++ fel p.t) (segs := [(0, fel p.x), (4, fel p.y), (8, fel p.z), (12, fel p.t)]) (M.ge Hg3) (M.fresh Hg3) Bg3 (by simp [flen]) ⟨rfl, rfl, rfl, rfl, trivial⟩)
 clear Bg3
 simp only [Z7,Z0]
 refine wpL_var (t := 26) (cs := fel q.x ++ fel q.y ++ fel q.z ++ fel q.t) (by rfl) (fun W => ?_) (fun g5 w6 Sw6 Hg5 Bg5 => ?_)
 ·
  (first | rfl | go_simp)
 replace M := ((M.sees Sw6).addS (N := 16) (cs := fel q.x ++ fel q.y ++ fel q.z ++ fel q.t) (segs := [(0, fel q.x), (4, fel q.y), (8, fel q.z), (12, fel q.t)]) (M.ge Hg5) (M.fresh Hg5) Bg5 (by simp [flen]) ⟨rfl, rfl, rfl, rfl, trivial⟩)
 clear Bg5
 simp only [Z7,Z0]
 refine wpL_var (t := 26) (cs := [.int .u64 0, .int .u64 0, .int .u64 0, .int .u64 0, .int .u64 0, .int .u64 0, .int .u64 0, .int .u64 0, .int .u64 0, .int .u64 0, .int .u64 0, .int .u64 0, .int .u64 0, .int .u64 0, .int .u64 0, .int .u64 0]) (by rfl) (fun W => ?_) (fun g7 w8 Sw8 Hg7 Bg7 => ?_)
 ·
  go_simp
 replace M := ((M.sees Sw8).addS (N := 16) (cs := [.int .u64 0, .int .u64 0, .int .u64 0, .int .u64 0, .int .u64 0, .int .u64 0, .int .u64 0, .int .u64 0, .int .u64 0, .int .u64 0, .int .u64 0, .int .u64 0, .int .u64 0, .int .u64 0, .int .u64 0, .int .u64 0]) (segs := [(0, [.int .u64 0, .int .u64 0, .int .u64 0, .int .u64 0]), (4, [.int .u64 0, .int .u64 0, .int .u64 0, .int .u64 0]), (8, [.int .u64 0, .int .u64 0, .int .u64 0, .int .u64 0]), (12, [.int .u64 0, .int .u64 0, .int .u64 0, .int .u64 0])]) (M.ge Hg7) (M.fresh Hg7) Bg7 rfl ⟨rfl, rfl, rfl, rfl, trivial⟩)
 clear Bg7
 simp only [Z7,Z0]
 refine Z13 (v := .int .i64 0) (by rfl) (by rfl) (by rfl) ?_
 simp only [Z7,Z0]
 refine Z9 (Z10 ?_)
 refine hK1 _ _ ?_
 refine Z4 (fun K9 hK9 => ?_)
 refine Z4 (fun K10 hK10 => ?_)
 refine Z8 ?_
 refine Z11 8 (by rfl) (fun Lk hLk => ?_)
 simp only [Z1,Z2]
 refine wpV_load (cs := fel p.x ++ (fel p.y) ++ (fel p.z) ++ (fel p.t)) (by rfl) rfl rfl (range_join (range_join (range_join (M.r 2 0 rfl rfl) (M.r 2 1 rfl rfl) (by simp [flen])) (M.r 2 2 rfl rfl) (by simp [flen])) (M.r 2 3 rfl rfl) (by simp [flen])) (M.lt 2 rfl) Try.underlying26 rfl info26 ?_
 simp only [Z7,Z0]
 refine Z20 (v := .bool true) (args := #[.agg (fel p.x ++ (fel p.y) ++ (fel p.z) ++ (fel p.t) : List Value).toArray]) (by rfl) rfl Try.func17 (by kernel_rfl) (by kernel_rfl) rfl (fun W hW => by have h9 : Calls Try.prog _ _ W _ := right_c hp; rw [h1] at h9; exact h9) ?_
 simp only [Z7,Z0]
 refine wpV_not (b := true) (by rfl) rfl rfl ?_
 simp only [Bool.not_true, Bool.not_false]
 simp only [Z7,Z0]
 refine Z16 (v := .bool false) (by rfl) rfl rfl ?_
 simp only [Z7,Z0]
 refine wpV_load (cs := fel q.x ++ (fel q.y) ++ (fel q.z) ++ (fel q.t)) (by rfl) rfl rfl (range_join (range_join (range_join (M.r 1 0 rfl rfl) (M.r 1 1 rfl rfl) (by simp [flen])) (M.r 1 2 rfl rfl) (by simp [flen])) (M.r 1 3 rfl rfl) (by simp [flen])) (M.lt 1 rfl) Try.underlying26 rfl info26 ?_
 simp only [Z7,Z0]
 refine Z20 (v := .bool false) (args := #[.agg (fel q.x ++ (fel q.y) ++ (fel q.z) ++ (fel q.t) : List Value).toArray]) (by rfl) rfl Try.func17 (by kernel_rfl) (by kernel_rfl) rfl (fun W hW => by have h9 : Calls Try.prog _ _ W _ := right_c hq; rw [h2] at h9; exact h9) ?_
 simp only [Z7,Z0]
 refine wpV_not (b := false) (by rfl) rfl rfl ?_
 simp only [Bool.not_true, Bool.not_false]
 simp only [Z7,Z0]
 refine wpV_pick (v := .bool true) (by rfl) rfl rfl rfl ?_
 simp only [Z7,Z0]
 refine Z14 (hLk _ (fun w12 Sw12 => ?_))
 clear hLk Lk
 simp only [Z1,Z2]
 replace M := M.sees Sw12
 refine Z9 (Z10 ?_)
 refine hK10 _ _ ?_
 refine Z5 rfl ?_
 refine Z4 (fun K13 hK13 => ?_)
 refine Z8 ?_
 refine Z11 1 (by rfl) (fun Lk hLk => ?_)
 simp only [Z1,Z2]
 refine Z19 (v := .agg ([.int .u64 0, .int .u64 0, .int .u64 0, .int .u64 0, .int .u64 0, .int .u64 0, .int .u64 0, .int .u64 0, .int .u64 0, .int .u64 0, .int .u64 0, .int .u64 0, .int .u64 0, .int .u64 0, .int .u64 0, .int .u64 0]).toArray) (by rfl) (by rfl) (fun W hW => ?_) ?_
 ·
  (unfold RunsVal; kernel_rfl)
 simp only [Z7,Z0]
 refine Z14 (hLk _ (fun w15 Sw15 => ?_))
 clear hLk Lk
 simp only [Z1,Z2]
 replace M := M.sees Sw15
 refine wpL_store (g := g7) (off := 0) (n := 16) (cs := [.int .u64 0, .int .u64 0, .int .u64 0, .int .u64 0, .int .u64 0, .int .u64 0, .int .u64 0, .int .u64 0, .int .u64 0, .int .u64 0, .int .u64 0, .int .u64 0, .int .u64 0, .int .u64 0, .int .u64 0, .int .u64 0]) (by rfl) (by rfl) (by rfl) (by rfl) (by rfl) (M.t 0 rfl) (by simp [flen]) info26 (by simp [fone, Value.oneCell']) (fun w16 P R T => ?_)
 replace M := M.put (segs' := [(0, [.int .u64 0, .int .u64 0, .int .u64 0, .int .u64 0]), (4, [.int .u64 0, .int .u64 0, .int .u64 0, .int .u64 0]), (8, [.int .u64 0, .int .u64 0, .int .u64 0, .int .u64 0]), (12, [.int .u64 0, .int .u64 0, .int .u64 0, .int .u64 0])]) 0 rfl P T (SegsOf.at R ⟨rfl, rfl, rfl, rfl, trivial⟩)
 simp only [Z0] at M
 refine Z13 (v := .int .i64 1) (by rfl) (by rfl) (by rfl) ?_
 simp only [Z7,Z0]
 refine Z9 (Z10 ?_)
 refine hK13 _ _ ?_
 refine wp_ret ?_
 repeat (first | with_reducible refine then_ret ?_ | with_reducible refine inblock_ret ?_)
 refine bodyPost_ret (v := .tuple #[.agg ([.int .u64 0, .int .u64 0, .int .u64 0, .int .u64 0] ++ [.int .u64 0, .int .u64 0, .int .u64 0, .int .u64 0] ++ [.int .u64 0, .int .u64 0, .int .u64 0, .int .u64 0] ++ [.int .u64 0, .int .u64 0, .int .u64 0, .int .u64 0] : List Value).toArray, .int .i64 1]) (res2 rfl (.cell (by rfl) (run_loadVar_mid _ _ _ _ ([.int .u64 0, .int .u64 0, .int .u64 0, .int .u64 0] ++ [.int .u64 0, .int .u64 0, .int .u64 0, .int .u64 0] ++ [.int .u64 0, .int .u64 0, .int .u64 0, .int .u64 0] ++ [.int .u64 0, .int .u64 0, .int .u64 0, .int .u64 0]) _ (range_join (range_join (range_join (M.r 0 0 rfl rfl) (M.r 0 1 rfl rfl) (by simp [flen])) (M.r 0 2 rfl rfl) (by simp [flen])) (M.r 0 3 rfl rfl) (by simp [flen])) Try.underlying26 rfl info26)) (.tmp (by rfl))) rfl ?_
 have BE := M.below
 exact ⟨rfl, BE⟩
set_option maxHeartbeats 2000000 in
theorem Neg_no {p : P4} {w : World} (hp : p.Ok) (h1 : rightP p = false) :
  Calls Try.prog 22 #[.agg (fel p.x ++ fel p.y ++ fel p.z ++ fel p.t : List Value).toArray] w fun e w' => e = .returned (.tuple #[.agg (fel noneP.x ++ fel noneP.y ++ fel noneP.z ++ fel noneP.t : List Value).toArray, .int .i64 1]) ∧ Below w.heap.size w w' := by
 go_enter Try.func22, Try.ntmps22
 have M := Mem.start w
 refine Z4 (fun K1 hK1 => ?_)
 refine Z8 ?_
 refine wpL_var (t := 26) (cs := fel p.x ++ fel p.y ++ fel p.z ++ fel p.t) (by rfl) (fun W => ?_) (fun g3 w4 Sw4 Hg3 Bg3 => ?_)
 ·
  (first | rfl | go_simp)
 replace M := ((M.sees Sw4).addS (N := 16) (cs := fel p.x ++ fel p.y ++ fel p.z ++ fel p.t) (segs := [(0, fel p.x), (4, fel p.y), (8, fel p.z), (12, fel p.t)]) (M.ge Hg3) (M.fresh Hg3) Bg3 (by simp [flen]) ⟨rfl, rfl, rfl, rfl, trivial⟩)
 clear Bg3
 simp only [Z7,Z0]
 refine wpL_var (t := 26) (cs := [.int .u64 0, .int .u64 0, .int .u64 0, .int .u64 0, .int .u64 0, .int .u64 0, .int .u64 0, .int .u64 0, .int .u64 0, .int .u64 0, .int .u64 0, .int .u64 0, .int .u64 0, .int .u64 0, .int .u64 0, .int .u64 0]) (by rfl) (fun W => ?_) (fun g5 w6 Sw6 Hg5 Bg5 => ?_)
 ·
  go_simp
 replace M := ((M.sees Sw6).addS (N := 16) (cs := [.int .u64 0, .int .u64 0, .int .u64 0, .int .u64 0, .int .u64 0, .int .u64 0, .int .u64 0, .int .u64 0, .int .u64 0, .int .u64 0, .int .u64 0, .int .u64 0, .int .u64 0, .int .u64 0, .int .u64 0, .int .u64 0]) (segs := [(0, [.int .u64 0, .int .u64 0, .int .u64 0, .int .u64 0]), (4, [.int .u64 0, .int .u64 0, .int .u64 0, .int .u64 0]), (8, [.int .u64 0, .int .u64 0, .int .u64 0, .int .u64 0]), (12, [.int .u64 0, .int .u64 0, .int .u64 0, .int .u64 0])]) (M.ge Hg5) (M.fresh Hg5) Bg5 rfl ⟨rfl, rfl, rfl, rfl, trivial⟩)
 clear Bg5
 simp only [Z7,Z0]
 refine Z13 (v := .int .i64 0) (by rfl) (by rfl) (by rfl) ?_
 simp only [Z7,Z0]
 refine Z9 (Z10 ?_)
 refine hK1 _ _ ?_
 refine Z4 (fun K7 hK7 => ?_)
 refine Z4 (fun K8 hK8 => ?_)
 refine Z8 ?_
 refine Z11 3 (by rfl) (fun Lk hLk => ?_)
 simp only [Z1,Z2]
 refine wpV_load (cs := fel p.x ++ (fel p.y) ++ (fel p.z) ++ (fel p.t)) (by rfl) rfl rfl (range_join (range_join (range_join (M.r 1 0 rfl rfl) (M.r 1 1 rfl rfl) (by simp [flen])) (M.r 1 2 rfl rfl) (by simp [flen])) (M.r 1 3 rfl rfl) (by simp [flen])) (M.lt 1 rfl) Try.underlying26 rfl info26 ?_
 simp only [Z7,Z0]
 refine Z20 (v := .bool false) (args := #[.agg (fel p.x ++ (fel p.y) ++ (fel p.z) ++ (fel p.t) : List Value).toArray]) (by rfl) rfl Try.func17 (by kernel_rfl) (by kernel_rfl) rfl (fun W hW => by have h9 : Calls Try.prog _ _ W _ := right_c hp; rw [h1] at h9; exact h9) ?_
 simp only [Z7,Z0]
 refine wpV_not (b := false) (by rfl) rfl rfl ?_
 simp only [Bool.not_true, Bool.not_false]
 simp only [Z7,Z0]
 refine Z14 (hLk _ (fun w10 Sw10 => ?_))
 clear hLk Lk
 simp only [Z1,Z2]
 replace M := M.sees Sw10
 refine Z9 (Z10 ?_)
 refine hK8 _ _ ?_
 refine Z5 rfl ?_
 refine Z4 (fun K11 hK11 => ?_)
 refine Z8 ?_
 refine Z11 1 (by rfl) (fun Lk hLk => ?_)
 simp only [Z1,Z2]
 refine Z19 (v := .agg ([.int .u64 0, .int .u64 0, .int .u64 0, .int .u64 0, .int .u64 0, .int .u64 0, .int .u64 0, .int .u64 0, .int .u64 0, .int .u64 0, .int .u64 0, .int .u64 0, .int .u64 0, .int .u64 0, .int .u64 0, .int .u64 0]).toArray) (by rfl) (by rfl) (fun W hW => ?_) ?_
 ·
  (unfold RunsVal; kernel_rfl)
 simp only [Z7,Z0]
 refine Z14 (hLk _ (fun w13 Sw13 => ?_))
 clear hLk Lk
 simp only [Z1,Z2]
 replace M := M.sees Sw13
 refine wpL_store (g := g5) (off := 0) (n := 16) (cs := [.int .u64 0, .int .u64 0, .int .u64 0, .int .u64 0, .int .u64 0, .int .u64 0, .int .u64 0, .int .u64 0, .int .u64 0, .int .u64 0, .int .u64 0, .int .u64 0, .int .u64 0, .int .u64 0, .int .u64 0, .int .u64 0]) (by rfl) (by rfl) (by rfl) (by rfl) (by rfl) (M.t 0 rfl) (by simp [flen]) info26 (by simp [fone, Value.oneCell']) (fun w14 P R T => ?_)
 replace M := M.put (segs' := [(0, [.int .u64 0, .int .u64 0, .int .u64 0, .int .u64 0]), (4, [.int .u64 0, .int .u64 0, .int .u64 0, .int .u64 0]), (8, [.int .u64 0, .int .u64 0, .int .u64 0, .int .u64 0]), (12, [.int .u64 0, .int .u64 0, .int .u64 0, .int .u64 0])]) 0 rfl P T (SegsOf.at R ⟨rfl, rfl, rfl, rfl, trivial⟩)
 simp only [Z0] at M
 refine Z13 (v := .int .i64 1) (by rfl) (by rfl) (by rfl) ?_
 simp only [Z7,Z0]
 refine Z9 (Z10 ?_)
 refine hK11 _ _ ?_
 refine wp_ret ?_
 repeat (first | with_reducible refine then_ret ?_ | with_reducible refine inblock_ret ?_)
 refine bodyPost_ret (v := .tuple #[.agg ([.int .u64 0, .int .u64 0, .int .u64 0, .int .u64 0] ++ [.int .u64 0, .int .u64 0, .int .u64 0, .int .u64 0] ++ [.int .u64 0, .int .u64 0, .int .u64 0, .int .u64 0] ++ [.int .u64 0, .int .u64 0, .int .u64 0, .int .u64 0] : List Value).toArray, .int .i64 1]) (res2 rfl (.cell (by rfl) (run_loadVar_mid _ _ _ _ ([.int .u64 0, .int .u64 0, .int .u64 0, .int .u64 0] ++ [.int .u64 0, .int .u64 0, .int .u64 0, .int .u64 0] ++ [.int .u64 0, .int .u64 0, .int .u64 0, .int .u64 0] ++ [.int .u64 0, .int .u64 0, .int .u64 0, .int .u64 0]) _ (range_join (range_join (range_join (M.r 0 0 rfl rfl) (M.r 0 1 rfl rfl) (by simp [flen])) (M.r 0 2 rfl rfl) (by simp [flen])) (M.r 0 3 rfl rfl) (by simp [flen])) Try.underlying26 rfl info26)) (.tmp (by rfl))) rfl ?_
 have BE := M.below
 exact ⟨rfl, BE⟩
end Go.Proofs.Yc

namespace Go.Proofs.Yc
open Go Go.RowKit Go.Proofs.Num
open List renaming set → Z0, take → Z1, drop → Z2
open Go renaming wp_seq_k → Z4, wp_cond_true → Z5
open Go.Proofs.Num renaming putT → Z7, wp_region_seq → Z8, wpL_nil → Z9, no_panic → Z10, wpL_chunk → Z11, wpL_assign → Z13, wpV_nil → Z14, wpV_val → Z19, wpV_callf → Z20
attribute [local irreducible] wpV wpN wpList
open Go.Proofs.Ya
set_option maxHeartbeats 2000000 in
theorem Mul_no {n : Nat} {p : P4} {w : World} (hn : n < 2 ^ 256) (hp : p.Ok) (h1 : rightP p = false) :
  Calls Try.prog 23 #[fe n, .agg (fel p.x ++ fel p.y ++ fel p.z ++ fel p.t : List Value).toArray] w fun e w' => e = .returned (.tuple #[.agg (fel noneP.x ++ fel noneP.y ++ fel noneP.z ++ fel noneP.t : List Value).toArray, .int .i64 1]) ∧ Below w.heap.size w w' := by
 go_enter Try.func23, Try.ntmps23
 have M := Mem.start w
 refine Z4 (fun K1 hK1 => ?_)
 refine Z8 ?_
 refine wpL_var (t := 39) (cs := fel n) (by rfl) (fun W => ?_) (fun g3 w4 Sw4 Hg3 Bg3 => ?_)
 ·
  (first | rfl | go_simp)
 replace M := ((M.sees Sw4).add (N := 4) (cs := fel n) (M.ge Hg3) (M.fresh Hg3) Bg3 rfl)
 clear Bg3
 simp only [Z7,Z0]
 refine wpL_var (t := 26) (cs := fel p.x ++ fel p.y ++ fel p.z ++ fel p.t) (by rfl) (fun W => ?_) (fun g5 w6 Sw6 Hg5 Bg5 => ?_)
 ·
  (first | rfl | go_simp)
 replace M := ((M.sees Sw6).addS (N := 16) (cs := fel p.x ++ fel p.y ++ fel p.z ++ fel p.t) (segs := [(0, fel p.x), (4, fel p.y), (8, fel p.z), (12, fel p.t)]) (M.ge Hg5) (M.fresh Hg5) Bg5 (by simp [flen]) ⟨rfl, rfl, rfl, rfl, trivial⟩)
 clear Bg5
 simp only [Z7,Z0]
 refine wpL_var (t := 26) (cs := [.int .u64 0, .int .u64 0, .int .u64 0, .int .u64 0, .int .u64 0, .int .u64 0, .int .u64 0, .int .u64 0, .int .u64 0, .int .u64 0, .int .u64 0, .int .u64 0, .int .u64 0, .int .u64 0, .int .u64 0, .int .u64 0]) (by rfl) (fun W => ?_) (fun g7 w8 Sw8 Hg7 Bg7 => ?_)
 ·
  go_simp
 replace M := ((M.sees Sw8).addS (N := 16) (cs := [.int .u64 0, .int .u64 0, .int .u64 0, .int .u64 0, .int .u64 0, .int .u64 0, .int .u64 0, .int .u64 0, .int .u64 0, .int .u64 0, .int .u64 0, .int .u64 0, .int .u64 0, .int .u64 0, .int .u64 0, .int .u64 0]) (segs := [(0, [.int .u64 0, .int .u64 0, .int .u64 0, .int .u64 0]), (4, [.int .u64 0, .int .u64 0, .int .u64 0, .int .u64 0]), (8, [.int .u64 0, .int .u64 0, .int .u64 0, .int .u64 0]), (12, [.int .u64 0, .int .u64 0, .int .u64 0, .int .u64 0])]) (M.ge Hg7) (M.fresh Hg7) Bg7 rfl ⟨rfl, rfl, rfl, rfl, trivial⟩)
 clear Bg7
 simp only [Z7,Z0]
 refine Z13 (v := .int .i64 0) (by rfl) (by rfl) (by rfl) ?_
 simp only [Z7,Z0]
 refine Z9 (Z10 ?_)
 refine hK1 _ _ ?_
 refine Z4 (fun K9 hK9 => ?_)
 refine Z4 (fun K10 hK10 => ?_)
 refine Z8 ?_
 refine Z11 3 (by rfl) (fun Lk hLk => ?_)
 simp only [Z1,Z2]
 refine wpV_load (cs := fel p.x ++ (fel p.y) ++ (fel p.z) ++ (fel p.t)) (by rfl) rfl rfl (range_join (range_join (range_join (M.r 1 0 rfl rfl) (M.r 1 1 rfl rfl) (by simp [flen])) (M.r 1 2 rfl rfl) (by simp [flen])) (M.r 1 3 rfl rfl) (by simp [flen])) (M.lt 1 rfl) Try.underlying26 rfl info26 ?_
 simp only [Z7,Z0]
 refine Z20 (v := .bool false) (args := #[.agg (fel p.x ++ (fel p.y) ++ (fel p.z) ++ (fel p.t) : List Value).toArray]) (by rfl) rfl Try.func17 (by kernel_rfl) (by kernel_rfl) rfl (fun W hW => by have h9 : Calls Try.prog _ _ W _ := right_c hp; rw [h1] at h9; exact h9) ?_
 simp only [Z7,Z0]
 refine wpV_not (b := false) (by rfl) rfl rfl ?_
 simp only [Bool.not_true, Bool.not_false]
 simp only [Z7,Z0]
 refine Z14 (hLk _ (fun w12 Sw12 => ?_))
 clear hLk Lk
 simp only [Z1,Z2]
 replace M := M.sees Sw12
 refine Z9 (Z10 ?_)
 refine hK10 _ _ ?_
 refine Z5 rfl ?_
 refine Z4 (fun K13 hK13 => ?_)
 refine Z8 ?_
 refine Z11 1 (by rfl) (fun Lk hLk => ?_)
 simp only [Z1,Z2]
 refine Z19 (v := .agg ([.int .u64 0, .int .u64 0, .int .u64 0, .int .u64 0, .int .u64 0, .int .u64 0, .int .u64 0, .int .u64 0, .int .u64 0, .int .u64 0, .int .u64 0, .int .u64 0, .int .u64 0, .int .u64 0, .int .u64 0, .int .u64 0]).toArray) (by rfl) (by rfl) (fun W hW => ?_) ?_
 ·
  (unfold RunsVal; kernel_rfl)
 simp only [Z7,Z0]
 refine Z14 (hLk _ (fun w15 Sw15 => ?_))
 clear hLk Lk
 simp only [Z1,Z2]
 replace M := M.sees Sw15
 refine wpL_store (g := g7) (off := 0) (n := 16) (cs := [.int .u64 0, .int .u64 0, .int .u64 0, .int .u64 0, .int .u64 0, .int .u64 0, .int .u64 0, .int .u64 0, .int .u64 0, .int .u64 0, .int .u64 0, .int .u64 0, .int .u64 0, .int .u64 0, .int .u64 0, .int .u64 0]) (by rfl) (by rfl) (by rfl) (by rfl) (by rfl) (M.t 0 rfl) (by simp [flen]) info26 (by simp [fone, Value.oneCell']) (fun w16 P R T => ?_)
 replace M := M.put (segs' := [(0, [.int .u64 0, .int .u64 0, .int .u64 0, .int .u64 0]), (4, [.int .u64 0, .int .u64 0, .int .u64 0, .int .u64 0]), (8, [.int .u64 0, .int .u64 0, .int .u64 0, .int .u64 0]), (12, [.int .u64 0, .int .u64 0, .int .u64 0, .int .u64 0])]) 0 rfl P T (SegsOf.at R ⟨rfl, rfl, rfl, rfl, trivial⟩)
 simp only [Z0] at M
 refine Z13 (v := .int .i64 1) (by rfl) (by rfl) (by rfl) ?_
 simp only [Z7,Z0]
 refine Z9 (Z10 ?_)
 refine hK13 _ _ ?_
 refine wp_ret ?_
 repeat (first | with_reducible refine then_ret ?_ | with_reducible refine inblock_ret ?_)
 refine bodyPost_ret (v := .tuple #[.agg ([.int .u64 0, .int .u64 0, .int .u64 0, .int .u64 0] ++ [.int .u64 0, .int .u64 0, .int .u64 0, .int .u64 0] ++ [.int .u64 0, .int .u64 0, .int .u64 0, .int .u64 0] ++ [.int .u64 0, .int .u64 0, .int .u64 0, .int .u64 0] : List Value).toArray, .int .i64 1]) (res2 rfl (.cell (by rfl) (run_loadVar_mid _ _ _ _ ([.int .u64 0, .int .u64 0, .int .u64 0, .int .u64 0] ++ [.int .u64 0, .int .u64 0, .int .u64 0, .int .u64 0] ++ [.int .u64 0, .int .u64 0, .int .u64 0, .int .u64 0] ++ [.int .u64 0, .int .u64 0, .int .u64 0, .int .u64 0]) _ (range_join (range_join (range_join (M.r 0 0 rfl rfl) (M.r 0 1 rfl rfl) (by simp [flen])) (M.r 0 2 rfl rfl) (by simp [flen])) (M.r 0 3 rfl rfl) (by simp [flen])) Try.underlying26 rfl info26)) (.tmp (by rfl))) rfl ?_
 have BE := M.below
 exact ⟨rfl, BE⟩
end Go.Proofs.Yc

namespace Go.Proofs.Ya
open Go Go.RowKit Go.Shelf Go.Proofs.Num
open List renaming set → Z0, take → Z1, drop → Z2
open Go renaming undef → Z3, wp_seq_k → Z4, wp_cond_true → Z5, wp_cond_false → Z6
open Go.Proofs.Num renaming putT → Z7, wpL_nil → Z9, no_panic → Z10, wpL_assign → Z13, wpV_nil → Z14, wpV_bin → Z15, wpV_move → Z16
theorem info3 : (Try.prog.info? 3).map (·.size) = some 1 := by kernel_rfl
set_option maxHeartbeats 1000000 in
theorem trim_c {n x g o cg : Nat} {w : World} (hn : n ≤ 100000) (hx : x < 65536 ^ n) (hcg : n ≤ cg) (Lg : g < w.heap.size) (Rg_o : w.rangeAt g o (dl n x)) :
  Calls Try.prog 64 #[.slice (some ⟨g, o, none⟩) n cg] w fun e w' => e = .returned (.slice (some ⟨g, o, none⟩) (dlen x) cg) ∧ Below w.heap.size w w' := by
 go_enter Try.func64, Try.ntmps64
 have BE := Below.refl w.heap.size w
 refine Z4 (fun K1 hK1 => ?_)
 refine wp_region_plain 0 (by kernel_rfl) (fun Lk hLk => ?_)
 simp only [Z1,Z2]
 refine Z14 (hLk.out _ ?_)
 clear hLk Lk
 simp only [Z1,Z2]
 refine wpN_nil (fun w3 Sw3 hbs => ?_)
 clear hbs
 replace Rg_o := range_sees Rg_o Lg Sw3
 replace Lg := Nat.lt_of_lt_of_le Lg Sw3.2.2.size
 replace BE := BE.trans (Sw3.2.2.mono BE.size)
 refine Z13 (v := (.slice none 0 0)) (by rfl) (by rfl) (by rfl) ?_
 simp only [Z7,Z0]
 refine Z9 (Z10 ?_)
 refine hK1 _ _ ?_
 refine Z4 (fun K4 hK4 => ?_)
 refine wp_region_plain 2 (by kernel_rfl) (fun Lk hLk => ?_)
 simp only [Z1,Z2]
 refine Z16 (v := .slice (some ⟨g, o, none⟩) n cg) (by rfl) rfl rfl ?_
 simp only [Z7,Z0]
 refine wpV_lenA (n := n) (by rfl) rfl rfl rfl Try.underlying100 ?_
 simp only [Z7,Z0]
 refine Z14 (hLk.out _ ?_)
 clear hLk Lk
 simp only [Z1,Z2]
 iterate 2 refine wpN_skip (by rfl) ?_
 refine wpN_nil (fun w6 Sw6 hbs => ?_)
 clear hbs
 replace Rg_o := range_sees Rg_o Lg Sw6
 replace Lg := Nat.lt_of_lt_of_le Lg Sw6.2.2.size
 replace BE := BE.trans (Sw6.2.2.mono BE.size)
 refine Z13 (v := .int .i64 ((n : Nat) : Int)) (by rfl) (by rfl) (by rfl) ?_
 simp only [Z7,Z0]
 refine Z9 (Z10 ?_)
 refine hK4 _ _ ?_
 refine Z4 (fun K7 hK7 => ?_)
 refine wp_block ?_
 refine wp_loop_ghost (fun n9 a9 W9 => ∃ (k : Nat) (u8 : Nat → Value), n9 = 2 * k ∧ a9 = { tmps := #[.slice (some ⟨g, o, none⟩) n cg, Z3, (.slice none 0 0), .int .i64 ((k : Nat) : Int), .slice (some ⟨g, o, none⟩) n cg, .int .i64 ((n : Nat) : Int), u8 6, u8 7, u8 8, u8 9, u8 10, u8 11, u8 12, u8 13, u8 14, u8 15, u8 16, u8 17, Z3, Z3, Z3], defers := [] } ∧ Below w.heap.size w W9 ∧ World.rangeAt W9 g o (dl n x) ∧ g < W9.heap.size ∧ (dlen x ≤ k) ∧ (k ≤ n)) (2 * (n)) ?_ (fun n9 a9 W9 hI => ?_)
 ·
  exact ⟨n, (fun q9 => (#[Z3, Z3, Z3, Z3, Z3, Z3, Z3, Z3, Z3, Z3, Z3, Z3, Z3, Z3, Z3, Z3, Z3, Z3] : Array Value).getD q9 Z3), rfl, rfl, BE, Rg_o, Lg, ((dlen_le _ _).2 hx), (Nat.le_refl _)⟩
 clear BE Rg_o Lg
 obtain ⟨k, u8, rfl, rfl, BE, Rg_o, Lg, hk, hkn⟩ := hI
 obtain ⟨w9, rfl⟩ : ∃ W8, W8 = W9 := ⟨_, rfl⟩
 refine Z4 (fun K10 hK10 => ?_)
 refine Z4 (fun K11 hK11 => ?_)
 rcases k with _ | j
 ·
  refine wp_region_plain 10 (by kernel_rfl) (fun Lk hLk => ?_)
  simp only [Z1,Z2]
  refine Z16 (v := .int .i64 ((0 : Nat) : Int)) (by rfl) rfl rfl ?_
  simp only [Z7,Z0]
  refine Z15 (v := .bool false) (by rfl) rfl rfl rfl (fun W => run_gtr _ _ _ _ W) ?_
  simp only [Z7,Z0]
  refine Z16 (v := .bool false) (by rfl) rfl rfl ?_
  simp only [Z7,Z0]
  refine wpV_skip (by rfl) (by rfl) ?_
  simp only [Z7,Z0]
  refine wpV_skip (by rfl) (by rfl) ?_
  simp only [Z7,Z0]
  refine wpV_skip (by rfl) (by rfl) ?_
  simp only [Z7,Z0]
  refine wpV_skip (by rfl) (by rfl) ?_
  simp only [Z7,Z0]
  refine wpV_skip (by rfl) (by rfl) ?_
  simp only [Z7,Z0]
  refine wpV_skip (by rfl) (by rfl) ?_
  simp only [Z7,Z0]
  refine wpV_pick (v := .bool false) (by rfl) rfl rfl rfl ?_
  simp only [Z7,Z0]
  refine Z14 (hLk.out _ ?_)
  clear hLk Lk
  simp only [Z1,Z2]
  iterate 10 refine wpN_skip (by rfl) ?_
  refine wpN_nil (fun w13 Sw13 hbs => ?_)
  clear hbs
  replace Rg_o := range_sees Rg_o Lg Sw13
  replace Lg := Nat.lt_of_lt_of_le Lg Sw13.2.2.size
  replace BE := BE.trans (Sw13.2.2.mono BE.size)
  refine Z9 (Z10 ?_)
  refine hK11 _ _ ?_
  refine Z6 rfl ?_
  refine wp_exit ?_
  refine hK7 _ _ ?_
  refine Z4 (fun K14 hK14 => ?_)
  have eK : dlen x = 0 := Nat.le_zero.1 hk
  refine wp_region_plain 3 (by kernel_rfl) (fun Lk hLk => ?_)
  simp only [Z1,Z2]
  refine Z16 (v := .slice (some ⟨g, o, none⟩) n cg) (by rfl) rfl rfl ?_
  simp only [Z7,Z0]
  refine Z16 (v := .int .i64 ((0 : Nat) : Int)) (by rfl) rfl rfl ?_
  simp only [Z7,Z0]
  refine wpV_sliceH (hi := 0) (by rfl) rfl rfl rfl Try.underlying100 info3 (by omega) ?_
  simp only [Z7,Z0]
  refine Z14 (hLk.out _ ?_)
  clear hLk Lk
  simp only [Z1,Z2]
  iterate 3 refine wpN_skip (by rfl) ?_
  refine wpN_nil (fun w16 Sw16 hbs => ?_)
  clear hbs
  replace Rg_o := range_sees Rg_o Lg Sw16
  replace Lg := Nat.lt_of_lt_of_le Lg Sw16.2.2.size
  replace BE := BE.trans (Sw16.2.2.mono BE.size)
  refine Z13 (v := .slice (some ⟨g, o, none⟩) 0 cg) (by rfl) (by rfl) (by rfl) ?_
  simp only [Z7,Z0]
  refine Z9 (Z10 ?_)
  refine hK14 _ _ ?_
  refine wp_ret ?_
  repeat (first | with_reducible refine then_ret ?_ | with_reducible refine inblock_ret ?_)
  refine bodyPost_ret (v := .slice (some ⟨g, o, none⟩) 0 cg) (res1 rfl (.tmp (by rfl))) rfl ?_
  exact ⟨by rw [eK], BE⟩
 ·
  refine wp_region_plain 10 (by kernel_rfl) (fun Lk hLk => ?_)
  simp only [Z1,Z2]
  refine Z16 (v := .int .i64 (((j + 1) : Nat) : Int)) (by rfl) rfl rfl ?_
  simp only [Z7,Z0]
  refine Z15 (v := .bool true) (by rfl) rfl rfl rfl (fun W => (run_gtrN _ _ _ _ W).trans (by simp)) ?_
  simp only [Z7,Z0]
  refine Z16 (v := .bool true) (by rfl) rfl rfl ?_
  simp only [Z7,Z0]
  refine Z16 (v := .slice (some ⟨g, o, none⟩) n cg) (by rfl) rfl rfl ?_
  simp only [Z7,Z0]
  refine Z16 (v := .int .i64 (((j + 1) : Nat) : Int)) (by rfl) rfl rfl ?_
  simp only [Z7,Z0]
  refine Z15 (v := .int .i64 ((j : Nat) : Int)) (by rfl) rfl rfl rfl (fun W => run_sub (by simp only [IntKind.wrap_i64]; omega) W) ?_
  simp only [Z7,Z0]
  refine wpV_idxs (n := j) (by rfl) rfl rfl rfl Try.underlying100 info3 (by omega) ?_
  simp only [Z7,Z0]
  refine wpV_load1 (v := .int .i64 ((digN x j : Nat) : Int)) (by rfl) rfl rfl (Rg_o _ _ (dl_get (j := j) n x (by omega))) Lg Try.underlying3 rfl ?_
  simp only [Z7,Z0]
  refine Z15 (v := .bool (((digN x j : Nat) : Int) == 0)) (by rfl) rfl rfl rfl (fun W => run_eql _ _ _ _ W) ?_
  simp only [Z7,Z0]
  refine wpV_pick (v := .bool (((digN x j : Nat) : Int) == 0)) (by rfl) rfl rfl rfl ?_
  simp only [Z7,Z0]
  refine Z14 (hLk.out _ ?_)
  clear hLk Lk
  simp only [Z1,Z2]
  iterate 10 refine wpN_skip (by rfl) ?_
  refine wpN_nil (fun w18 Sw18 hbs => ?_)
  clear hbs
  replace Rg_o := range_sees Rg_o Lg Sw18
  replace Lg := Nat.lt_of_lt_of_le Lg Sw18.2.2.size
  replace BE := BE.trans (Sw18.2.2.mono BE.size)
  refine Z9 (Z10 ?_)
  refine hK11 _ _ ?_
  cases hc19 : (((digN x j : Nat) : Int) == 0)
  ·
   have hd : digN x j ≠ 0 := by intro e; rw [e] at hc19; simp at hc19
   refine Z6 rfl ?_
   refine wp_exit ?_
   refine hK7 _ _ ?_
   refine Z4 (fun K20 hK20 => ?_)
   have eK : dlen x = (j + 1) := trim_end hk hd
   refine wp_region_plain 3 (by kernel_rfl) (fun Lk hLk => ?_)
   simp only [Z1,Z2]
   refine Z16 (v := .slice (some ⟨g, o, none⟩) n cg) (by rfl) rfl rfl ?_
   simp only [Z7,Z0]
   refine Z16 (v := .int .i64 (((j + 1) : Nat) : Int)) (by rfl) rfl rfl ?_
   simp only [Z7,Z0]
   refine wpV_sliceH (hi := (j + 1)) (by rfl) rfl rfl rfl Try.underlying100 info3 (by omega) ?_
   simp only [Z7,Z0]
   refine Z14 (hLk.out _ ?_)
   clear hLk Lk
   simp only [Z1,Z2]
   iterate 3 refine wpN_skip (by rfl) ?_
   refine wpN_nil (fun w22 Sw22 hbs => ?_)
   clear hbs
   replace Rg_o := range_sees Rg_o Lg Sw22
   replace Lg := Nat.lt_of_lt_of_le Lg Sw22.2.2.size
   replace BE := BE.trans (Sw22.2.2.mono BE.size)
   refine Z13 (v := .slice (some ⟨g, o, none⟩) (j + 1) cg) (by rfl) (by rfl) (by rfl) ?_
   simp only [Z7,Z0]
   refine Z9 (Z10 ?_)
   refine hK20 _ _ ?_
   refine wp_ret ?_
   repeat (first | with_reducible refine then_ret ?_ | with_reducible refine inblock_ret ?_)
   refine bodyPost_ret (v := .slice (some ⟨g, o, none⟩) (j + 1) cg) (res1 rfl (.tmp (by rfl))) rfl ?_
   exact ⟨by rw [eK], BE⟩
  ·
   have hd : digN x j = 0 := by have := beq_iff_eq.1 hc19; omega
   refine Z5 rfl ?_
   refine wp_skip ?_
   refine hK10 _ _ ?_
   refine wp_block ?_
   refine wp_region_plain 2 (by kernel_rfl) (fun Lk hLk => ?_)
   simp only [Z1,Z2]
   refine Z16 (v := .int .i64 (((j + 1) : Nat) : Int)) (by rfl) rfl rfl ?_
   simp only [Z7,Z0]
   refine Z15 (v := .int .i64 ((j : Nat) : Int)) (by rfl) rfl rfl rfl (fun W => run_sub (by simp only [IntKind.wrap_i64]; omega) W) ?_
   simp only [Z7,Z0]
   refine Z14 (hLk.out _ ?_)
   clear hLk Lk
   simp only [Z1,Z2]
   iterate 2 refine wpN_skip (by rfl) ?_
   refine wpN_nil (fun w24 Sw24 hbs => ?_)
   clear hbs
   replace Rg_o := range_sees Rg_o Lg Sw24
   replace Lg := Nat.lt_of_lt_of_le Lg Sw24.2.2.size
   replace BE := BE.trans (Sw24.2.2.mono BE.size)
   refine Z13 (v := .int .i64 ((j : Nat) : Int)) (by rfl) (by rfl) (by rfl) ?_
   simp only [Z7,Z0]
   refine Z9 (Z10 ?_)
   refine Exists.intro _ ⟨?_, j, (fun q9 => (#[Z3, Z3, Z3, Z3, Z3, Z3, .int .i64 (((j + 1) : Nat) : Int), .bool true, .bool true, .slice (some ⟨g, o, none⟩) n cg, .int .i64 (((j + 1) : Nat) : Int), .int .i64 ((j : Nat) : Int), .pointer (some ⟨g, o + j, none⟩), .int .i64 ((digN x j : Nat) : Int), .bool true, .bool true, .int .i64 (((j + 1) : Nat) : Int), .int .i64 ((j : Nat) : Int)] : Array Value).getD q9 Z3), rfl, rfl, BE, Rg_o, Lg, (trim_step hk hd), (by omega)⟩
   omega
end Go.Proofs.Ya

namespace Go.Proofs.Ya
open Go Go.RowKit Go.Shelf Go.Proofs.Num
open List renaming set → Z0, take → Z1, drop → Z2
open Go renaming undef → Z3, wp_seq_k → Z4, wp_cond_true → Z5, wp_cond_false → Z6
open Go.Proofs.Num renaming putT → Z7, wpL_nil → Z9, no_panic → Z10, wpL_assign → Z13, wpV_nil → Z14, wpV_bin → Z15, wpV_move → Z16, wpL_store1 → Z18, wpV_callf → Z20
set_option maxHeartbeats 1000000 in
theorem carry_c {n x g cg : Nat} {f : Nat → Nat} {w : World} (hn : n ≤ 10000) (hf : ∀ i, i < n → f i ≤ 2305843009213693952) (hx : valN n f = x) (hcg : n ≤ cg) (Lg : g < w.heap.size) (Rg_0 : w.rangeAt g 0 (nl n f)) :
  Calls Try.prog 89 #[.slice (some ⟨g, 0, none⟩) n cg] w fun e w' => ∃ v, e = .returned v ∧ NewRow w (dlen x) (dl (dlen x) x) v w' ∧ Below w.heap.size w w' := by
 go_enter Try.func89, Try.ntmps89
 have BE := Below.refl w.heap.size w
 refine Z4 (fun K1 hK1 => ?_)
 refine wp_region_plain 0 (by kernel_rfl) (fun Lk hLk => ?_)
 simp only [Z1,Z2]
 refine Z14 (hLk.out _ ?_)
 clear hLk Lk
 simp only [Z1,Z2]
 refine wpN_nil (fun w3 Sw3 hbs => ?_)
 clear hbs
 replace Rg_0 := range_sees Rg_0 Lg Sw3
 replace Lg := Nat.lt_of_lt_of_le Lg Sw3.2.2.size
 replace BE := BE.trans (Sw3.2.2.mono BE.size)
 refine Z13 (v := (.slice none 0 0)) (by rfl) (by rfl) (by rfl) ?_
 simp only [Z7,Z0]
 refine Z9 (Z10 ?_)
 refine hK1 _ _ ?_
 refine Z4 (fun K4 hK4 => ?_)
 refine wp_region_plain 3 (by kernel_rfl) (fun Lk hLk => ?_)
 simp only [Z1,Z2]
 refine Z16 (v := .slice (some ⟨g, 0, none⟩) n cg) (by rfl) rfl rfl ?_
 simp only [Z7,Z0]
 refine wpV_lenA (n := n) (by rfl) rfl rfl rfl Try.underlying100 ?_
 simp only [Z7,Z0]
 refine Z15 (v := .int .i64 ((n + 4 : Nat) : Int)) (by rfl) rfl rfl rfl (fun W => run_add (by simp only [IntKind.wrap_i64]; omega) W) ?_
 simp only [Z7,Z0]
 refine Z14 (hLk.out _ ?_)
 clear hLk Lk
 simp only [Z1,Z2]
 iterate 3 refine wpN_skip (by rfl) ?_
 refine wpN_nil (fun w6 Sw6 hbs => ?_)
 clear hbs
 replace Rg_0 := range_sees Rg_0 Lg Sw6
 replace Lg := Nat.lt_of_lt_of_le Lg Sw6.2.2.size
 replace BE := BE.trans (Sw6.2.2.mono BE.size)
 refine wpL_make (n := n + 4) (z := .int .i64 0) (bytes := 8) (by rfl) (by rfl) (by rfl) (by rfl) Try.underlying100 (by kernel_rfl) rfl (by omega) (by omega) (fun g7 w8 Sw8 Hg7 Bg7 => ?_)
 have Ng_g7 : g ≠ g7 := Nat.ne_of_lt (Nat.lt_of_lt_of_le Lg Hg7)
 have Gg7 : w.heap.size ≤ g7 := Nat.le_trans BE.size Hg7
 replace Rg_0 := range_sees Rg_0 Lg Sw8
 replace Lg := Nat.lt_of_lt_of_le Lg Sw8.2.2.size
 replace BE := BE.trans (Sw8.2.2.mono BE.size)
 have Tg7 := blk_there Bg7 (n := n + 4) (by simp)
 have Rg7_0 := blk_range Bg7 (l := List.replicate (n + 4) (.int .i64 0)) rfl
 rw [← dl_zero] at Rg7_0
 have Lg7 := Bg7.lt
 clear Bg7
 simp only [Z7,Z0]
 refine Z13 (v := .slice (some ⟨g7, 0, none⟩) (n + 4) (n + 4)) (by rfl) (by rfl) (by rfl) ?_
 simp only [Z7,Z0]
 refine Z9 (Z10 ?_)
 refine hK4 _ _ ?_
 refine Z4 (fun K9 hK9 => ?_)
 refine wp_region_plain 0 (by kernel_rfl) (fun Lk hLk => ?_)
 simp only [Z1,Z2]
 refine Z14 (hLk.out _ ?_)
 clear hLk Lk
 simp only [Z1,Z2]
 refine wpN_nil (fun w11 Sw11 hbs => ?_)
 clear hbs
 replace Rg_0 := range_sees Rg_0 Lg Sw11
 replace Rg7_0 := range_sees Rg7_0 Lg7 Sw11
 replace Tg7 := there_sees Tg7 Lg7 Sw11
 replace Lg := Nat.lt_of_lt_of_le Lg Sw11.2.2.size
 replace Lg7 := Nat.lt_of_lt_of_le Lg7 Sw11.2.2.size
 replace BE := BE.trans (Sw11.2.2.mono BE.size)
 refine Z13 (v := .int .i64 0) (by rfl) (by rfl) (by rfl) ?_
 simp only [Z7,Z0]
 refine Z9 (Z10 ?_)
 refine hK9 _ _ ?_
 refine Z4 (fun K12 hK12 => ?_)
 refine Z4 (fun K13 hK13 => ?_)
 refine wp_region_plain 3 (by kernel_rfl) (fun Lk hLk => ?_)
 simp only [Z1,Z2]
 refine Z16 (v := .slice (some ⟨g7, 0, none⟩) (n + 4) (n + 4)) (by rfl) rfl rfl ?_
 simp only [Z7,Z0]
 refine wpV_lenA (n := n + 4) (by rfl) rfl rfl rfl Try.underlying100 ?_
 simp only [Z7,Z0]
 refine Z16 (v := .int .i64 0) (by rfl) rfl rfl ?_
 simp only [Z7,Z0]
 refine Z14 (hLk.out _ ?_)
 clear hLk Lk
 simp only [Z1,Z2]
 iterate 3 refine wpN_skip (by rfl) ?_
 refine wpN_nil (fun w15 Sw15 hbs => ?_)
 clear hbs
 replace Rg_0 := range_sees Rg_0 Lg Sw15
 replace Rg7_0 := range_sees Rg7_0 Lg7 Sw15
 replace Tg7 := there_sees Tg7 Lg7 Sw15
 replace Lg := Nat.lt_of_lt_of_le Lg Sw15.2.2.size
 replace Lg7 := Nat.lt_of_lt_of_le Lg7 Sw15.2.2.size
 replace BE := BE.trans (Sw15.2.2.mono BE.size)
 refine Z9 (Z10 ?_)
 refine hK13 _ _ ?_
 refine wp_block ?_
 refine wp_loop_ghost (fun n9 a9 W9 => ∃ (i : Nat) (N : Nat) (u16 : Nat → Value), n9 = n + 4 - i ∧ a9 = { tmps := #[.slice (some ⟨g, 0, none⟩) n cg, Z3, (.slice none 0 0), .slice (some ⟨g7, 0, none⟩) (n + 4) (n + 4), .int .i64 ((N : Nat) : Int), u16 5, .slice (some ⟨g, 0, none⟩) n cg, .int .i64 ((n : Nat) : Int), .int .i64 ((n + 4 : Nat) : Int), .slice (some ⟨g7, 0, none⟩) (n + 4) (n + 4), .slice (some ⟨g7, 0, none⟩) (n + 4) (n + 4), .int .i64 ((n + 4 : Nat) : Int), .int .i64 ((i : Nat) : Int), u16 13, u16 14, u16 15, u16 16, u16 17, u16 18, u16 19, u16 20, u16 21, u16 22, u16 23, u16 24, u16 25, u16 26, u16 27, u16 28, u16 29, u16 30, u16 31, u16 32, Z3, Z3], defers := [] } ∧ Below w.heap.size w W9 ∧ World.rangeAt W9 g 0 (nl n f) ∧ g < W9.heap.size ∧ World.rangeAt W9 g7 0 (dl (n + 4) (cvV f n i % 65536 ^ i)) ∧ World.there W9 g7 0 (n + 4) ∧ g7 < W9.heap.size ∧ (i ≤ n + 4) ∧ (N = cvV f n i / 65536 ^ i)) (n + 4 - (0)) ?_ (fun n9 a9 W9 hI => ?_)
 ·
  exact ⟨0, 0, (fun q9 => (#[Z3, Z3, Z3, Z3, Z3, Z3, Z3, Z3, Z3, Z3, Z3, Z3, Z3, Z3, Z3, Z3, Z3, Z3, Z3, Z3, Z3, Z3, Z3, Z3, Z3, Z3, Z3, Z3, Z3, Z3, Z3, Z3, Z3] : Array Value).getD q9 Z3), rfl, rfl, BE, Rg_0, Lg, (by rw [show cvV f n 0 % 65536 ^ 0 = 0 by rw [Nat.pow_zero, Nat.mod_one]]; exact Rg7_0), Tg7, Lg7, (by omega), (by simp [cvV, valN])⟩
 clear BE Rg_0 Rg7_0 Tg7 Lg Lg7
 obtain ⟨i, N, u16, rfl, rfl, BE, Rg_0, Lg, Rg7_0, Tg7, Lg7, hi4, hN⟩ := hI
 obtain ⟨w17, rfl⟩ : ∃ W8, W8 = W9 := ⟨_, rfl⟩
 have hcb := cv_bound hf i
 rw [← hN] at hcb
 refine Z4 (fun K18 hK18 => ?_)
 refine wp_region_plain 1 (by kernel_rfl) (fun Lk hLk => ?_)
 simp only [Z1,Z2]
 refine Z15 (v := .bool (decide (i < n + 4))) (by rfl) rfl rfl rfl (fun W => run_lssN i (n + 4) _ _ W) ?_
 simp only [Z7,Z0]
 refine Z14 (hLk.out _ ?_)
 clear hLk Lk
 simp only [Z1,Z2]
 iterate 1 refine wpN_skip (by rfl) ?_
 refine wpN_nil (fun w20 Sw20 hbs => ?_)
 clear hbs
 replace Rg_0 := range_sees Rg_0 Lg Sw20
 replace Rg7_0 := range_sees Rg7_0 Lg7 Sw20
 replace Tg7 := there_sees Tg7 Lg7 Sw20
 replace Lg := Nat.lt_of_lt_of_le Lg Sw20.2.2.size
 replace Lg7 := Nat.lt_of_lt_of_le Lg7 Sw20.2.2.size
 replace BE := BE.trans (Sw20.2.2.mono BE.size)
 refine Z9 (Z10 ?_)
 refine hK18 _ _ ?_
 refine Z4 (fun K21 hK21 => ?_)
 cases hc22 : (decide (i < n + 4))
 ·
  have ei : i = n + 4 := by have := of_decide_eq_false hc22; omega
  subst ei
  refine Z6 rfl ?_
  refine wp_exit ?_
  refine hK12 _ _ ?_
  refine Z4 (fun K23 hK23 => ?_)
  rw [cv_end, Nat.mod_eq_of_lt (valN_lt4 hf), hx] at Rg7_0
  have hx4 := valN_lt4 hf
  rw [hx] at hx4
  refine wp_region_plain 2 (by kernel_rfl) (fun Lk hLk => ?_)
  simp only [Z1,Z2]
  refine Z16 (v := .slice (some ⟨g7, 0, none⟩) (n + 4) (n + 4)) (by rfl) rfl rfl ?_
  simp only [Z7,Z0]
  refine Z20 (v := .slice (some ⟨g7, 0, none⟩) (dlen x) (n + 4)) (args := #[.slice (some ⟨g7, 0, none⟩) (n + 4) (n + 4)]) (by rfl) rfl Try.func64 (by kernel_rfl) (by kernel_rfl) rfl (fun W hW => trim_c (x := x) (by omega) hx4 (Nat.le_refl _) (Nat.lt_of_lt_of_le Lg7 hW.2.2.size) (range_sees Rg7_0 Lg7 hW)) ?_
  simp only [Z7,Z0]
  refine Z14 (hLk.out _ ?_)
  clear hLk Lk
  simp only [Z1,Z2]
  iterate 2 refine wpN_skip (by rfl) ?_
  refine wpN_nil (fun w25 Sw25 hbs => ?_)
  clear hbs
  replace Rg_0 := range_sees Rg_0 Lg Sw25
  replace Rg7_0 := range_sees Rg7_0 Lg7 Sw25
  replace Tg7 := there_sees Tg7 Lg7 Sw25
  replace Lg := Nat.lt_of_lt_of_le Lg Sw25.2.2.size
  replace Lg7 := Nat.lt_of_lt_of_le Lg7 Sw25.2.2.size
  replace BE := BE.trans (Sw25.2.2.mono BE.size)
  refine Z13 (v := .slice (some ⟨g7, 0, none⟩) (dlen x) (n + 4)) (by rfl) (by rfl) (by rfl) ?_
  simp only [Z7,Z0]
  refine Z9 (Z10 ?_)
  refine hK23 _ _ ?_
  refine wp_ret ?_
  repeat (first | with_reducible refine then_ret ?_ | with_reducible refine inblock_ret ?_)
  refine bodyPost_ret (v := .slice (some ⟨g7, 0, none⟩) (dlen x) (n + 4)) (res1 rfl (.tmp (by rfl))) rfl ?_
  exact ⟨_, rfl, ⟨g7, n + 4, rfl, (Nat.le_trans ((dlen_le _ _).2 hx4) (Nat.le_refl _)), Gg7, Lg7, (range_dl_take (m := dlen x) Rg7_0 ((dlen_le _ _).2 hx4))⟩, BE⟩
 ·
  have hi : i < n + 4 := of_decide_eq_true hc22
  refine Z5 rfl ?_
  refine wp_skip ?_
  refine hK21 _ _ ?_
  refine Z4 (fun K26 hK26 => ?_)
  refine wp_block ?_
  refine Z4 (fun K27 hK27 => ?_)
  refine wp_region_plain 1 (by kernel_rfl) (fun Lk hLk => ?_)
  simp only [Z1,Z2]
  refine Z16 (v := .int .i64 ((i : Nat) : Int)) (by rfl) rfl rfl ?_
  simp only [Z7,Z0]
  refine Z14 (hLk.out _ ?_)
  clear hLk Lk
  simp only [Z1,Z2]
  iterate 1 refine wpN_skip (by rfl) ?_
  refine wpN_nil (fun w29 Sw29 hbs => ?_)
  clear hbs
  replace Rg_0 := range_sees Rg_0 Lg Sw29
  replace Rg7_0 := range_sees Rg7_0 Lg7 Sw29
  replace Tg7 := there_sees Tg7 Lg7 Sw29
  replace Lg := Nat.lt_of_lt_of_le Lg Sw29.2.2.size
  replace Lg7 := Nat.lt_of_lt_of_le Lg7 Sw29.2.2.size
  replace BE := BE.trans (Sw29.2.2.mono BE.size)
  refine Z13 (v := .int .i64 ((i : Nat) : Int)) (by rfl) (by rfl) (by rfl) ?_
  simp only [Z7,Z0]
  refine Z9 (Z10 ?_)
  refine hK27 _ _ ?_
  refine Z4 (fun K30 hK30 => ?_)
  refine Z4 (fun K31 hK31 => ?_)
  refine wp_region_plain 4 (by kernel_rfl) (fun Lk hLk => ?_)
  simp only [Z1,Z2]
  refine Z16 (v := .int .i64 ((i : Nat) : Int)) (by rfl) rfl rfl ?_
  simp only [Z7,Z0]
  refine Z16 (v := .slice (some ⟨g, 0, none⟩) n cg) (by rfl) rfl rfl ?_
  simp only [Z7,Z0]
  refine wpV_lenA (n := n) (by rfl) rfl rfl rfl Try.underlying100 ?_
  simp only [Z7,Z0]
  refine Z15 (v := .bool (decide (i < n))) (by rfl) rfl rfl rfl (fun W => run_lssN i n _ _ W) ?_
  simp only [Z7,Z0]
  refine Z14 (hLk.out _ ?_)
  clear hLk Lk
  simp only [Z1,Z2]
  iterate 4 refine wpN_skip (by rfl) ?_
  refine wpN_nil (fun w33 Sw33 hbs => ?_)
  clear hbs
  replace Rg_0 := range_sees Rg_0 Lg Sw33
  replace Rg7_0 := range_sees Rg7_0 Lg7 Sw33
  replace Tg7 := there_sees Tg7 Lg7 Sw33
  replace Lg := Nat.lt_of_lt_of_le Lg Sw33.2.2.size
  replace Lg7 := Nat.lt_of_lt_of_le Lg7 Sw33.2.2.size
  replace BE := BE.trans (Sw33.2.2.mono BE.size)
  refine Z9 (Z10 ?_)
  refine hK31 _ _ ?_
  cases hc34 : (decide (i < n))
  ·
   have hin : ¬ i < n := of_decide_eq_false hc34
   have ecv := cvf_ge (f := f) hin
   refine Z6 rfl ?_
   refine wp_skip ?_
   refine hK30 _ _ ?_
   refine Z4 (fun K35 hK35 => ?_)
   refine wp_region_plain 5 (by kernel_rfl) (fun Lk hLk => ?_)
   simp only [Z1,Z2]
   refine Z16 (v := .slice (some ⟨g7, 0, none⟩) (n + 4) (n + 4)) (by rfl) rfl rfl ?_
   simp only [Z7,Z0]
   refine Z16 (v := .int .i64 ((i : Nat) : Int)) (by rfl) rfl rfl ?_
   simp only [Z7,Z0]
   refine Z16 (v := .int .i64 ((N : Nat) : Int)) (by rfl) rfl rfl ?_
   simp only [Z7,Z0]
   refine Z15 (v := .int .i64 ((N % 65536 : Nat) : Int)) (by rfl) rfl rfl rfl (fun W => run_rem (by decide) (tmod_nat N 65536) W) ?_
   simp only [Z7,Z0]
   refine wpV_idxs (n := i) (by rfl) rfl rfl rfl Try.underlying100 info3 (by omega) ?_
   simp only [Nat.zero_add]
   simp only [Z7,Z0]
   refine Z14 (hLk.out _ ?_)
   clear hLk Lk
   simp only [Z1,Z2]
   iterate 5 refine wpN_skip (by rfl) ?_
   refine wpN_nil (fun w37 Sw37 hbs => ?_)
   clear hbs
   replace Rg_0 := range_sees Rg_0 Lg Sw37
   replace Rg7_0 := range_sees Rg7_0 Lg7 Sw37
   replace Tg7 := there_sees Tg7 Lg7 Sw37
   replace Lg := Nat.lt_of_lt_of_le Lg Sw37.2.2.size
   replace Lg7 := Nat.lt_of_lt_of_le Lg7 Sw37.2.2.size
   replace BE := BE.trans (Sw37.2.2.mono BE.size)
   refine Z18 (g := g7) (off := i) (n := n + 4) (v := .int .i64 ((N % 65536 : Nat) : Int)) (by rfl) (by rfl) (by rfl) (by rfl) (by rfl) Tg7 (by omega) info3 rfl (fun w38 Pw38 RR TT => ?_)
   replace Rg_0 := Pw38.range Rg_0 (.inl Ng_g7)
   replace Rg7_0 := range_set Rg7_0 Pw38 RR
   clear RR
   replace Tg7 := TT
   replace Lg := Pw38.lt Lg
   replace Lg7 := Pw38.lt Lg7
   replace BE := Pw38.below BE Gg7
   rw [show (N % 65536) = (cvV f n i / 65536 ^ i + cvf f n i) % 65536 by rw [hN, ecv, Nat.add_zero], cv_put] at Rg7_0
   refine Z9 (Z10 ?_)
   refine hK35 _ _ ?_
   refine wp_region_plain 2 (by kernel_rfl) (fun Lk hLk => ?_)
   simp only [Z1,Z2]
   refine Z16 (v := .int .i64 ((N : Nat) : Int)) (by rfl) rfl rfl ?_
   simp only [Z7,Z0]
   refine Z15 (v := .int .i64 ((N / 65536 : Nat) : Int)) (by rfl) rfl rfl rfl (fun W => run_quo (by decide) ((congrArg _ (tdiv_nat _ 65536)).trans (wrap_nat _ (by omega))) W) ?_
   simp only [Z7,Z0]
   refine Z14 (hLk.out _ ?_)
   clear hLk Lk
   simp only [Z1,Z2]
   iterate 2 refine wpN_skip (by rfl) ?_
   refine wpN_nil (fun w40 Sw40 hbs => ?_)
   clear hbs
   replace Rg_0 := range_sees Rg_0 Lg Sw40
   replace Rg7_0 := range_sees Rg7_0 Lg7 Sw40
   replace Tg7 := there_sees Tg7 Lg7 Sw40
   replace Lg := Nat.lt_of_lt_of_le Lg Sw40.2.2.size
   replace Lg7 := Nat.lt_of_lt_of_le Lg7 Sw40.2.2.size
   replace BE := BE.trans (Sw40.2.2.mono BE.size)
   refine Z13 (v := .int .i64 ((N / 65536 : Nat) : Int)) (by rfl) (by rfl) (by rfl) ?_
   simp only [Z7,Z0]
   refine Z9 (Z10 ?_)
   refine hK26 _ _ ?_
   refine wp_region_plain 2 (by kernel_rfl) (fun Lk hLk => ?_)
   simp only [Z1,Z2]
   refine Z15 (v := .int .i64 ((i + 1 : Nat) : Int)) (by rfl) rfl rfl rfl (fun W => run_add (by simp only [IntKind.wrap_i64]; omega) W) ?_
   simp only [Z7,Z0]
   refine Z16 (v := .int .i64 ((i + 1 : Nat) : Int)) (by rfl) rfl rfl ?_
   simp only [Z7,Z0]
   refine Z14 (hLk.out _ ?_)
   clear hLk Lk
   simp only [Z1,Z2]
   iterate 2 refine wpN_skip (by rfl) ?_
   refine wpN_nil (fun w42 Sw42 hbs => ?_)
   clear hbs
   replace Rg_0 := range_sees Rg_0 Lg Sw42
   replace Rg7_0 := range_sees Rg7_0 Lg7 Sw42
   replace Tg7 := there_sees Tg7 Lg7 Sw42
   replace Lg := Nat.lt_of_lt_of_le Lg Sw42.2.2.size
   replace Lg7 := Nat.lt_of_lt_of_le Lg7 Sw42.2.2.size
   replace BE := BE.trans (Sw42.2.2.mono BE.size)
   refine Z9 (Z10 ?_)
   refine Exists.intro _ ⟨?_, (i + 1), (N / 65536), (fun q9 => (#[Z3, Z3, Z3, Z3, Z3, .int .i64 ((i : Nat) : Int), Z3, Z3, Z3, Z3, Z3, Z3, Z3, .bool true, .int .i64 ((i : Nat) : Int), .int .i64 ((i : Nat) : Int), .slice (some ⟨g, 0, none⟩) n cg, .int .i64 ((n : Nat) : Int), .bool false, u16 19, u16 20, u16 21, u16 22, u16 23, u16 24, .slice (some ⟨g7, 0, none⟩) (n + 4) (n + 4), .int .i64 ((i : Nat) : Int), .int .i64 ((N : Nat) : Int), .int .i64 ((N % 65536 : Nat) : Int), .pointer (some ⟨g7, i, none⟩), .int .i64 ((N : Nat) : Int), .int .i64 ((N / 65536 : Nat) : Int), .int .i64 ((i + 1 : Nat) : Int)] : Array Value).getD q9 Z3), rfl, rfl, BE, Rg_0, Lg, Rg7_0, Tg7, Lg7, (by omega), (by rw [hN, ← cv_next, ecv, Nat.add_zero])⟩
   omega
  ·
   have hin : i < n := of_decide_eq_true hc34
   have hfi := hf i hin
   have ecv := cvf_lt (f := f) hin
   refine Z5 rfl ?_
   refine wp_region_plain 6 (by kernel_rfl) (fun Lk hLk => ?_)
   simp only [Z1,Z2]
   refine Z16 (v := .int .i64 ((N : Nat) : Int)) (by rfl) rfl rfl ?_
   simp only [Z7,Z0]
   refine Z16 (v := .slice (some ⟨g, 0, none⟩) n cg) (by rfl) rfl rfl ?_
   simp only [Z7,Z0]
   refine Z16 (v := .int .i64 ((i : Nat) : Int)) (by rfl) rfl rfl ?_
   simp only [Z7,Z0]
   refine wpV_idxs (n := i) (by rfl) rfl rfl rfl Try.underlying100 info3 (by omega) ?_
   simp only [Nat.zero_add]
   simp only [Z7,Z0]
   refine wpV_load1 (v := .int .i64 ((f i : Nat) : Int)) (by rfl) rfl rfl (by have := Rg_0 _ _ (nl_get (j := i) n f (by omega)); rwa [Nat.zero_add] at this) Lg Try.underlying3 rfl ?_
   simp only [Z7,Z0]
   refine Z15 (v := .int .i64 ((N + f i : Nat) : Int)) (by rfl) rfl rfl rfl (fun W => run_add (by simp only [IntKind.wrap_i64]; omega) W) ?_
   simp only [Z7,Z0]
   refine Z14 (hLk.out _ ?_)
   clear hLk Lk
   simp only [Z1,Z2]
   iterate 6 refine wpN_skip (by rfl) ?_
   refine wpN_nil (fun w44 Sw44 hbs => ?_)
   clear hbs
   replace Rg_0 := range_sees Rg_0 Lg Sw44
   replace Rg7_0 := range_sees Rg7_0 Lg7 Sw44
   replace Tg7 := there_sees Tg7 Lg7 Sw44
   replace Lg := Nat.lt_of_lt_of_le Lg Sw44.2.2.size
   replace Lg7 := Nat.lt_of_lt_of_le Lg7 Sw44.2.2.size
   replace BE := BE.trans (Sw44.2.2.mono BE.size)
   refine Z13 (v := .int .i64 ((N + f i : Nat) : Int)) (by rfl) (by rfl) (by rfl) ?_
   simp only [Z7,Z0]
   refine Z9 (Z10 ?_)
   refine hK30 _ _ ?_
   refine Z4 (fun K45 hK45 => ?_)
   refine wp_region_plain 5 (by kernel_rfl) (fun Lk hLk => ?_)
   simp only [Z1,Z2]
   refine Z16 (v := .slice (some ⟨g7, 0, none⟩) (n + 4) (n + 4)) (by rfl) rfl rfl ?_
   simp only [Z7,Z0]
   refine Z16 (v := .int .i64 ((i : Nat) : Int)) (by rfl) rfl rfl ?_
   simp only [Z7,Z0]
   refine Z16 (v := .int .i64 ((N + f i : Nat) : Int)) (by rfl) rfl rfl ?_
   simp only [Z7,Z0]
   refine Z15 (v := .int .i64 (((N + f i) % 65536 : Nat) : Int)) (by rfl) rfl rfl rfl (fun W => run_rem (by decide) (tmod_nat (N + f i) 65536) W) ?_
   simp only [Z7,Z0]
   refine wpV_idxs (n := i) (by rfl) rfl rfl rfl Try.underlying100 info3 (by omega) ?_
   simp only [Nat.zero_add]
   simp only [Z7,Z0]
   refine Z14 (hLk.out _ ?_)
   clear hLk Lk
   simp only [Z1,Z2]
   iterate 5 refine wpN_skip (by rfl) ?_
   refine wpN_nil (fun w47 Sw47 hbs => ?_)
   clear hbs
   replace Rg_0 := range_sees Rg_0 Lg Sw47
   replace Rg7_0 := range_sees Rg7_0 Lg7 Sw47
   replace Tg7 := there_sees Tg7 Lg7 Sw47
   replace Lg := Nat.lt_of_lt_of_le Lg Sw47.2.2.size
   replace Lg7 := Nat.lt_of_lt_of_le Lg7 Sw47.2.2.size
   replace BE := BE.trans (Sw47.2.2.mono BE.size)
   refine Z18 (g := g7) (off := i) (n := n + 4) (v := .int .i64 (((N + f i) % 65536 : Nat) : Int)) (by rfl) (by rfl) (by rfl) (by rfl) (by rfl) Tg7 (by omega) info3 rfl (fun w48 Pw48 RR TT => ?_)
   replace Rg_0 := Pw48.range Rg_0 (.inl Ng_g7)
   replace Rg7_0 := range_set Rg7_0 Pw48 RR
   clear RR
   replace Tg7 := TT
   replace Lg := Pw48.lt Lg
   replace Lg7 := Pw48.lt Lg7
   replace BE := Pw48.below BE Gg7
   rw [show ((N + f i) % 65536) = (cvV f n i / 65536 ^ i + cvf f n i) % 65536 by rw [hN, ecv], cv_put] at Rg7_0
   refine Z9 (Z10 ?_)
   refine hK45 _ _ ?_
   refine wp_region_plain 2 (by kernel_rfl) (fun Lk hLk => ?_)
   simp only [Z1,Z2]
   refine Z16 (v := .int .i64 ((N + f i : Nat) : Int)) (by rfl) rfl rfl ?_
   simp only [Z7,Z0]
   refine Z15 (v := .int .i64 (((N + f i) / 65536 : Nat) : Int)) (by rfl) rfl rfl rfl (fun W => run_quo (by decide) ((congrArg _ (tdiv_nat _ 65536)).trans (wrap_nat _ (by omega))) W) ?_
   simp only [Z7,Z0]
   refine Z14 (hLk.out _ ?_)
   clear hLk Lk
   simp only [Z1,Z2]
   iterate 2 refine wpN_skip (by rfl) ?_
   refine wpN_nil (fun w50 Sw50 hbs => ?_)
   clear hbs
   replace Rg_0 := range_sees Rg_0 Lg Sw50
   replace Rg7_0 := range_sees Rg7_0 Lg7 Sw50
   replace Tg7 := there_sees Tg7 Lg7 Sw50
   replace Lg := Nat.lt_of_lt_of_le Lg Sw50.2.2.size
   replace Lg7 := Nat.lt_of_lt_of_le Lg7 Sw50.2.2.size
   replace BE := BE.trans (Sw50.2.2.mono BE.size)
   refine Z13 (v := .int .i64 (((N + f i) / 65536 : Nat) : Int)) (by rfl) (by rfl) (by rfl) ?_
   simp only [Z7,Z0]
   refine Z9 (Z10 ?_)
   refine hK26 _ _ ?_
   refine wp_region_plain 2 (by kernel_rfl) (fun Lk hLk => ?_)
   simp only [Z1,Z2]
   refine Z15 (v := .int .i64 ((i + 1 : Nat) : Int)) (by rfl) rfl rfl rfl (fun W => run_add (by simp only [IntKind.wrap_i64]; omega) W) ?_
   simp only [Z7,Z0]
   refine Z16 (v := .int .i64 ((i + 1 : Nat) : Int)) (by rfl) rfl rfl ?_
   simp only [Z7,Z0]
   refine Z14 (hLk.out _ ?_)
   clear hLk Lk
   simp only [Z1,Z2]
   iterate 2 refine wpN_skip (by rfl) ?_
   refine wpN_nil (fun w52 Sw52 hbs => ?_)
   clear hbs
   replace Rg_0 := range_sees Rg_0 Lg Sw52
   replace Rg7_0 := range_sees Rg7_0 Lg7 Sw52
   replace Tg7 := there_sees Tg7 Lg7 Sw52
   replace Lg := Nat.lt_of_lt_of_le Lg Sw52.2.2.size
   replace Lg7 := Nat.lt_of_lt_of_le Lg7 Sw52.2.2.size
   replace BE := BE.trans (Sw52.2.2.mono BE.size)
   refine Z9 (Z10 ?_)
   refine Exists.intro _ ⟨?_, (i + 1), ((N + f i) / 65536), (fun q9 => (#[Z3, Z3, Z3, Z3, Z3, .int .i64 ((i : Nat) : Int), Z3, Z3, Z3, Z3, Z3, Z3, Z3, .bool true, .int .i64 ((i : Nat) : Int), .int .i64 ((i : Nat) : Int), .slice (some ⟨g, 0, none⟩) n cg, .int .i64 ((n : Nat) : Int), .bool true, .int .i64 ((N : Nat) : Int), .slice (some ⟨g, 0, none⟩) n cg, .int .i64 ((i : Nat) : Int), .pointer (some ⟨g, i, none⟩), .int .i64 ((f i : Nat) : Int), .int .i64 ((N + f i : Nat) : Int), .slice (some ⟨g7, 0, none⟩) (n + 4) (n + 4), .int .i64 ((i : Nat) : Int), .int .i64 ((N + f i : Nat) : Int), .int .i64 (((N + f i) % 65536 : Nat) : Int), .pointer (some ⟨g7, i, none⟩), .int .i64 ((N + f i : Nat) : Int), .int .i64 (((N + f i) / 65536 : Nat) : Int), .int .i64 ((i + 1 : Nat) : Int)] : Array Value).getD q9 Z3), rfl, rfl, BE, Rg_0, Lg, Rg7_0, Tg7, Lg7, (by omega), (by rw [hN, ← cv_next, ecv])⟩
   omega
end Go.Proofs.Ya

