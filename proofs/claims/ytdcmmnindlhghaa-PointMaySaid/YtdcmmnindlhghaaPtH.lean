import Derived.WalkKit
import Derived.WalkSpells
import Derived.Laws.Pointers
import Derived.RowKit3
import Derived.Below
import Derived.Outline
import Derived.LoopN
import Derived.Lib.Hide
import Derived.Handy
import Derived.Laws.Bits64b
import Derived.Test.YtdcmmnindlhghaaPtF
import Derived.Test.YtdcmmnindlhghaaPtG
set_option linter.unusedSimpArgs false
set_option linter.unusedVariables false
namespace Go.Proofs.Yc
open Go Go.RowKit Go.Proofs.Num
open List renaming set → Z0, take → Z1, drop → Z2
open Go renaming wp_seq_k → Z4, wp_cond_true → Z5, wp_cond_false → Z6
open Go.Proofs.Num renaming putT → Z7, wp_region_seq → Z8, wpL_nil → Z9, no_panic → Z10, wpL_chunk → Z11, wpL_assign → Z13, wpV_nil → Z14, wpV_move → Z16, wpV_val → Z19, wpV_callf → Z20
attribute [local irreducible] wpV wpN wpList
open Go.Proofs.Ya
theorem two4 (x y : Nat) : ∀ v ∈ fel x ++ fel y, v.oneCell' = true := by
 intro v hv
 rcases List.mem_append.1 hv with h | h
 ·
  exact fel_one _ v h
 ·
  exact fel_one _ v h
theorem info32 : (Try.prog.info? 32).map (·.size) = some 8 := by kernel_rfl
set_option maxHeartbeats 1000000 in
theorem rD_c  {w : World}  :
  Calls Try.prog 44 #[] w fun e w' => e = .returned (fe dR) ∧ Below w.heap.size w w' := by
 go_enter Try.func44, Try.ntmps44
 have M := Mem.start w
 refine Z4 (fun K1 hK1 => ?_)
 refine Z8 ?_
 refine wpL_var (t := 24) (cs := [.int .u64 0, .int .u64 0, .int .u64 0, .int .u64 0]) (by rfl) (fun W => ?_) (fun g3 w4 Sw4 Hg3 Bg3 => ?_)
 ·
  go_simp
 replace M := ((M.sees Sw4).add (N := 4) (cs := [.int .u64 0, .int .u64 0, .int .u64 0, .int .u64 0]) (M.ge Hg3) (M.fresh Hg3) Bg3 rfl)
 clear Bg3
 simp only [Z7,Z0]
 refine Z9 (Z10 ?_)
 refine hK1 _ _ ?_
 refine Z4 (fun K5 hK5 => ?_)
 refine Z8 ?_
 refine Z11 6 (by rfl) (fun Lk hLk => ?_)
 simp only [Z1,Z2]
 refine Z19 (v := fe 0) (by rfl) (by rfl) (fun W hW => ?_) ?_
 ·
  rw [show fe 0 = .agg ([.int .u64 0, .int .u64 0, .int .u64 0, .int .u64 0]).toArray from (by kernel_rfl)]; unfold RunsVal; kernel_rfl
 simp only [Z7,Z0]
 refine Z19 (v := fe 121665) (by rfl) (by rfl) (fun W hW => ?_) ?_
 ·
  rw [show fe 121665 = .agg ([.int .u64 121665, .int .u64 0, .int .u64 0, .int .u64 0]).toArray from (by kernel_rfl)]; unfold RunsVal; kernel_rfl
 simp only [Z7,Z0]
 refine Z20 (v := fe (fsub 0 121665)) (args := #[fe 0, fe 121665]) (by rfl) rfl Try.func37 (by kernel_rfl) (by kernel_rfl) rfl (fun W hW => rsub04_c (by decide) (by decide)) ?_
 simp only [Z7,Z0]
 refine Z19 (v := fe 121666) (by rfl) (by rfl) (fun W hW => ?_) ?_
 ·
  rw [show fe 121666 = .agg ([.int .u64 121666, .int .u64 0, .int .u64 0, .int .u64 0]).toArray from (by kernel_rfl)]; unfold RunsVal; kernel_rfl
 simp only [Z7,Z0]
 refine Z20 (v := fe (finv 121666)) (args := #[fe 121666]) (by rfl) rfl Try.func48 (by kernel_rfl) (by kernel_rfl) rfl (fun W hW => rinv_c (by decide)) ?_
 simp only [Z7,Z0]
 refine Z20 (v := fe (fmul (fsub 0 121665) (finv 121666))) (args := #[fe (fsub 0 121665), fe (finv 121666)]) (by rfl) rfl Try.func42 (by kernel_rfl) (by kernel_rfl) rfl (fun W hW => rmul04_c (fsub_lt ..) (finv_lt _)) ?_
 simp only [Z7,Z0]
 refine Z14 (hLk _ (fun w7 Sw7 => ?_))
 clear hLk Lk
 simp only [Z1,Z2]
 replace M := M.sees Sw7
 refine wpL_store (g := g3) (off := 0) (n := 4) (cs := fel (fmul (fsub 0 121665) (finv 121666))) (by rfl) (by rfl) (by rfl) (by rfl) (by rfl) (M.t 0 rfl) (by simp [flen]) info24 (fel_one _) (fun w8 P R T => ?_)
 replace M := M.putS 0 0 rfl P R T rfl ⟨.inl rfl, trivial⟩
 simp only [Z0] at M
 refine Z9 (Z10 ?_)
 refine hK5 _ _ ?_
 refine wp_ret ?_
 repeat (first | with_reducible refine then_ret ?_ | with_reducible refine inblock_ret ?_)
 refine bodyPost_ret (v := fe (fmul (fsub 0 121665) (finv 121666))) (res1 rfl (.cell (by rfl) (run_loadVar_mid _ _ _ _ (fel (fmul (fsub 0 121665) (finv 121666))) _ (M.r 0 0 rfl rfl) Try.underlying24 rfl info24))) rfl ?_
 have BE := M.below
 exact ⟨rfl, BE⟩
set_option maxHeartbeats 1000000 in
theorem rOn_c {x y d : Nat} {w : World} (hx : x < 2 ^ 256) (hy : y < 2 ^ 256) (hd : d < 2 ^ 256) :
  Calls Try.prog 43 #[fe x, fe y, fe d] w fun e w' => e = .returned (.bool (onP x y d)) ∧ Below w.heap.size w w' := by
 go_enter Try.func43, Try.ntmps43
 have M := Mem.start w
 refine Z4 (fun K1 hK1 => ?_)
 refine Z8 ?_
 refine wpL_var (t := 24) (cs := fel x) (by rfl) (fun W => ?_) (fun g3 w4 Sw4 Hg3 Bg3 => ?_)
 ·
  (first | rfl | go_simp)
 replace M := ((M.sees Sw4).add (N := 4) (cs := fel x) (M.ge Hg3) (M.fresh Hg3) Bg3 rfl)
 clear Bg3
 simp only [Z7,Z0]
 refine wpL_var (t := 24) (cs := fel y) (by rfl) (fun W => ?_) (fun g5 w6 Sw6 Hg5 Bg5 => ?_)
 ·
  (first | rfl | go_simp)
 replace M := ((M.sees Sw6).add (N := 4) (cs := fel y) (M.ge Hg5) (M.fresh Hg5) Bg5 rfl)
 clear Bg5
 simp only [Z7,Z0]
 refine wpL_var (t := 24) (cs := fel d) (by rfl) (fun W => ?_) (fun g7 w8 Sw8 Hg7 Bg7 => ?_)
 ·
  (first | rfl | go_simp)
 replace M := ((M.sees Sw8).add (N := 4) (cs := fel d) (M.ge Hg7) (M.fresh Hg7) Bg7 rfl)
 clear Bg7
 simp only [Z7,Z0]
 refine Z13 (v := .bool false) (by rfl) (by rfl) (by rfl) ?_
 simp only [Z7,Z0]
 refine Z9 (Z10 ?_)
 refine hK1 _ _ ?_
 refine Z4 (fun K9 hK9 => ?_)
 refine Z8 ?_
 refine Z11 3 (by rfl) (fun Lk hLk => ?_)
 simp only [Z1,Z2]
 refine wpV_load (cs := fel x) (by rfl) rfl rfl (M.r 2 0 rfl rfl) (M.lt 2 rfl) Try.underlying24 rfl info24 ?_
 simp only [Z7,Z0]
 refine wpV_load (cs := fel x) (by rfl) rfl rfl (M.r 2 0 rfl rfl) (M.lt 2 rfl) Try.underlying24 rfl info24 ?_
 simp only [Z7,Z0]
 refine Z20 (v := fe (fmul x x)) (args := #[fe x, fe x]) (by rfl) rfl Try.func42 (by kernel_rfl) (by kernel_rfl) rfl (fun W hW => rmul04_c hx hx) ?_
 simp only [Z7,Z0]
 refine Z14 (hLk _ (fun w11 Sw11 => ?_))
 clear hLk Lk
 simp only [Z1,Z2]
 replace M := M.sees Sw11
 refine wpL_var (t := 24) (cs := [.int .u64 0, .int .u64 0, .int .u64 0, .int .u64 0]) (by rfl) (fun W => ?_) (fun g12 w13 Sw13 Hg12 Bg12 => ?_)
 ·
  go_simp
 replace M := ((M.sees Sw13).add (N := 4) (cs := [.int .u64 0, .int .u64 0, .int .u64 0, .int .u64 0]) (M.ge Hg12) (M.fresh Hg12) Bg12 rfl)
 clear Bg12
 simp only [Z7,Z0]
 refine wpL_store (g := g12) (off := 0) (n := 4) (cs := fel (fmul x x)) (by rfl) (by rfl) (by rfl) (by rfl) (by rfl) (M.t 0 rfl) (by simp [flen]) info24 (fel_one _) (fun w14 P R T => ?_)
 replace M := M.putS 0 0 rfl P R T rfl ⟨.inl rfl, trivial⟩
 simp only [Z0] at M
 refine Z9 (Z10 ?_)
 refine hK9 _ _ ?_
 refine Z4 (fun K15 hK15 => ?_)
 refine Z8 ?_
 refine Z11 3 (by rfl) (fun Lk hLk => ?_)
 simp only [Z1,Z2]
 refine wpV_load (cs := fel y) (by rfl) rfl rfl (M.r 2 0 rfl rfl) (M.lt 2 rfl) Try.underlying24 rfl info24 ?_
 simp only [Z7,Z0]
 refine wpV_load (cs := fel y) (by rfl) rfl rfl (M.r 2 0 rfl rfl) (M.lt 2 rfl) Try.underlying24 rfl info24 ?_
 simp only [Z7,Z0]
 refine Z20 (v := fe (fmul y y)) (args := #[fe y, fe y]) (by rfl) rfl Try.func42 (by kernel_rfl) (by kernel_rfl) rfl (fun W hW => rmul04_c hy hy) ?_
 simp only [Z7,Z0]
 refine Z14 (hLk _ (fun w17 Sw17 => ?_))
 clear hLk Lk
 simp only [Z1,Z2]
 replace M := M.sees Sw17
 refine wpL_var (t := 24) (cs := [.int .u64 0, .int .u64 0, .int .u64 0, .int .u64 0]) (by rfl) (fun W => ?_) (fun g18 w19 Sw19 Hg18 Bg18 => ?_)
 ·
  go_simp
 replace M := ((M.sees Sw19).add (N := 4) (cs := [.int .u64 0, .int .u64 0, .int .u64 0, .int .u64 0]) (M.ge Hg18) (M.fresh Hg18) Bg18 rfl)
 clear Bg18
 simp only [Z7,Z0]
 refine wpL_store (g := g18) (off := 0) (n := 4) (cs := fel (fmul y y)) (by rfl) (by rfl) (by rfl) (by rfl) (by rfl) (M.t 0 rfl) (by simp [flen]) info24 (fel_one _) (fun w20 P R T => ?_)
 replace M := M.putS 0 0 rfl P R T rfl ⟨.inl rfl, trivial⟩
 simp only [Z0] at M
 refine Z9 (Z10 ?_)
 refine hK15 _ _ ?_
 refine Z4 (fun K21 hK21 => ?_)
 refine wp_region_grow 11 [] (by kernel_rfl) (by kernel_rfl) (by kernel_rfl) (fun Lk hLk => ?_)
 simp only [Z1,Z2]
 refine wpV_load (cs := fel (fmul y y)) (by rfl) rfl rfl (M.r 0 0 rfl rfl) (M.lt 0 rfl) Try.underlying24 rfl info24 ?_
 simp only [Z7,Z0]
 refine wpV_load (cs := fel (fmul x x)) (by rfl) rfl rfl (M.r 1 0 rfl rfl) (M.lt 1 rfl) Try.underlying24 rfl info24 ?_
 simp only [Z7,Z0]
 refine Z20 (v := fe (fsub (fmul y y) (fmul x x))) (args := #[fe (fmul y y), fe (fmul x x)]) (by rfl) rfl Try.func37 (by kernel_rfl) (by kernel_rfl) rfl (fun W hW => rsub04_c (fmul_lt ..) (fmul_lt ..)) ?_
 simp only [Z7,Z0]
 refine Z19 (v := fe 1) (by rfl) (by rfl) (fun W hW => ?_) ?_
 ·
  rw [show fe 1 = .agg ([.int .u64 1, .int .u64 0, .int .u64 0, .int .u64 0]).toArray from (by kernel_rfl)]; unfold RunsVal; kernel_rfl
 simp only [Z7,Z0]
 refine wpV_load (cs := fel d) (by rfl) rfl rfl (M.r 2 0 rfl rfl) (M.lt 2 rfl) Try.underlying24 rfl info24 ?_
 simp only [Z7,Z0]
 refine wpV_load (cs := fel (fmul x x)) (by rfl) rfl rfl (M.r 1 0 rfl rfl) (M.lt 1 rfl) Try.underlying24 rfl info24 ?_
 simp only [Z7,Z0]
 refine wpV_load (cs := fel (fmul y y)) (by rfl) rfl rfl (M.r 0 0 rfl rfl) (M.lt 0 rfl) Try.underlying24 rfl info24 ?_
 simp only [Z7,Z0]
 refine Z20 (v := fe (fmul (fmul x x) (fmul y y))) (args := #[fe (fmul x x), fe (fmul y y)]) (by rfl) rfl Try.func42 (by kernel_rfl) (by kernel_rfl) rfl (fun W hW => rmul04_c (fmul_lt ..) (fmul_lt ..)) ?_
 simp only [Z7,Z0]
 refine Z20 (v := fe (fmul d (fmul (fmul x x) (fmul y y)))) (args := #[fe d, fe (fmul (fmul x x) (fmul y y))]) (by rfl) rfl Try.func42 (by kernel_rfl) (by kernel_rfl) rfl (fun W hW => rmul04_c hd (fmul_lt ..)) ?_
 simp only [Z7,Z0]
 refine Z20 (v := fe (fadd 1 (fmul d (fmul (fmul x x) (fmul y y))))) (args := #[fe 1, fe (fmul d (fmul (fmul x x) (fmul y y)))]) (by rfl) rfl Try.func50 (by kernel_rfl) (by kernel_rfl) rfl (fun W hW => radd04_c (by decide) (fmul_lt ..)) ?_
 simp only [Z7,Z0]
 refine Z19 (v := .bool (decide (fsub (fmul y y) (fmul x x) = fadd 1 (fmul d (fmul (fmul x x) (fmul y y)))))) (by rfl) (by rfl) (fun W hW => ?_) ?_
 ·
  exact run_eql_fe (fsub_lt ..) (fadd_lt ..) Try.underlying24 Try.underlying22 info22 (by kernel_rfl) rfl rfl rfl W
 simp only [Z7,Z0]
 refine Z14 (hLk.out _ ?_)
 clear hLk Lk
 simp only [Z1,Z2]
 iterate 11 refine wpN_skip (by rfl) ?_
 refine wpN_nil (fun w23 Sw23 hbs => ?_)
 clear hbs
 replace M := M.sees Sw23
 refine Z13 (v := .bool (decide (fsub (fmul y y) (fmul x x) = fadd 1 (fmul d (fmul (fmul x x) (fmul y y)))))) (by rfl) (by rfl) (by rfl) ?_
 simp only [Z7,Z0]
 refine Z9 (Z10 ?_)
 refine hK21 _ _ ?_
 refine wp_ret ?_
 repeat (first | with_reducible refine then_ret ?_ | with_reducible refine inblock_ret ?_)
 refine bodyPost_ret (v := .bool (decide (fsub (fmul y y) (fmul x x) = fadd 1 (fmul d (fmul (fmul x x) (fmul y y)))))) (res1 rfl (.tmp (by rfl))) rfl ?_
 have BE := M.below
 exact ⟨rfl, BE⟩
set_option maxHeartbeats 1000000 in
theorem rAffine_c {p : P4} {w : World} (hp : p.Ok) :
  Calls Try.prog 18 #[.agg (fel p.x ++ fel p.y ++ fel p.z ++ fel p.t : List Value).toArray] w fun e w' => e = .returned (.agg (fel (affX p) ++ fel (affY p) : List Value).toArray) ∧ Below w.heap.size w w' := by
 go_enter Try.func18, Try.ntmps18
 have M := Mem.start w
 refine Z4 (fun K1 hK1 => ?_)
 refine Z8 ?_
 refine wpL_var (t := 26) (cs := fel p.x ++ fel p.y ++ fel p.z ++ fel p.t) (by rfl) (fun W => ?_) (fun g3 w4 Sw4 Hg3 Bg3 => ?_)
 ·
  (first | rfl | go_simp)
 replace M := ((M.sees Sw4).addS (N := 16) (cs := fel p.x ++ fel p.y ++ fel p.z ++ fel p.t) (segs := [(0, fel p.x), (4, fel p.y), (8, fel p.z), (12, fel p.t)]) (M.ge Hg3) (M.fresh Hg3) Bg3 (by simp [flen]) ⟨rfl, rfl, rfl, rfl, trivial⟩)
 clear Bg3
 simp only [Z7,Z0]
 refine wpL_var (t := 32) (cs := [.int .u64 0, .int .u64 0, .int .u64 0, .int .u64 0, .int .u64 0, .int .u64 0, .int .u64 0, .int .u64 0]) (by rfl) (fun W => ?_) (fun g5 w6 Sw6 Hg5 Bg5 => ?_)
 ·
  go_simp
 replace M := ((M.sees Sw6).addS (N := 8) (cs := [.int .u64 0, .int .u64 0, .int .u64 0, .int .u64 0, .int .u64 0, .int .u64 0, .int .u64 0, .int .u64 0]) (segs := [(0, [.int .u64 0, .int .u64 0, .int .u64 0, .int .u64 0]), (4, [.int .u64 0, .int .u64 0, .int .u64 0, .int .u64 0])]) (M.ge Hg5) (M.fresh Hg5) Bg5 rfl ⟨rfl, rfl, trivial⟩)
 clear Bg5
 simp only [Z7,Z0]
 refine Z9 (Z10 ?_)
 refine hK1 _ _ ?_
 refine Z4 (fun K7 hK7 => ?_)
 refine Z8 ?_
 refine Z11 3 (by rfl) (fun Lk hLk => ?_)
 simp only [Z1,Z2]
 refine Z19 (v := .pointer (some ⟨g3, 8, none⟩)) (by rfl) (by rfl) (fun W hW => ?_) ?_
 ·
  (go_simp; exact rfl)
 simp only [Z7,Z0]
 refine wpV_load (cs := fel p.z) (by rfl) rfl rfl (M.r 1 2 rfl rfl) (M.lt 1 rfl) Try.underlying24 rfl info24 ?_
 simp only [Z7,Z0]
 refine Z20 (v := fe (finv p.z)) (args := #[fe p.z]) (by rfl) rfl Try.func48 (by kernel_rfl) (by kernel_rfl) rfl (fun W hW => rinv_c hp.z) ?_
 simp only [Z7,Z0]
 refine Z14 (hLk _ (fun w9 Sw9 => ?_))
 clear hLk Lk
 simp only [Z1,Z2]
 replace M := M.sees Sw9
 refine wpL_var (t := 24) (cs := [.int .u64 0, .int .u64 0, .int .u64 0, .int .u64 0]) (by rfl) (fun W => ?_) (fun g10 w11 Sw11 Hg10 Bg10 => ?_)
 ·
  go_simp
 replace M := ((M.sees Sw11).add (N := 4) (cs := [.int .u64 0, .int .u64 0, .int .u64 0, .int .u64 0]) (M.ge Hg10) (M.fresh Hg10) Bg10 rfl)
 clear Bg10
 simp only [Z7,Z0]
 refine wpL_store (g := g10) (off := 0) (n := 4) (cs := fel (finv p.z)) (by rfl) (by rfl) (by rfl) (by rfl) (by rfl) (M.t 0 rfl) (by simp [flen]) info24 (fel_one _) (fun w12 P R T => ?_)
 replace M := M.putS 0 0 rfl P R T rfl ⟨.inl rfl, trivial⟩
 simp only [Z0] at M
 refine Z9 (Z10 ?_)
 refine hK7 _ _ ?_
 refine Z4 (fun K13 hK13 => ?_)
 refine wp_region_grow 9 [] (by kernel_rfl) (by kernel_rfl) (by kernel_rfl) (fun Lk hLk => ?_)
 simp only [Z1,Z2]
 refine Z19 (v := .pointer (some ⟨g3, 0, none⟩)) (by rfl) (by rfl) (fun W hW => ?_) ?_
 ·
  (go_simp; exact rfl)
 simp only [Z7,Z0]
 refine wpV_load (cs := fel p.x) (by rfl) rfl rfl (M.r 2 0 rfl rfl) (M.lt 2 rfl) Try.underlying24 rfl info24 ?_
 simp only [Z7,Z0]
 refine wpV_load (cs := fel (finv p.z)) (by rfl) rfl rfl (M.r 0 0 rfl rfl) (M.lt 0 rfl) Try.underlying24 rfl info24 ?_
 simp only [Z7,Z0]
 refine Z20 (v := fe (fmul p.x (finv p.z))) (args := #[fe p.x, fe (finv p.z)]) (by rfl) rfl Try.func42 (by kernel_rfl) (by kernel_rfl) rfl (fun W hW => rmul04_c hp.x (finv_lt ..)) ?_
 simp only [Z7,Z0]
 refine Z19 (v := .pointer (some ⟨g3, 4, none⟩)) (by rfl) (by rfl) (fun W hW => ?_) ?_
 ·
  (go_simp; exact rfl)
 simp only [Z7,Z0]
 refine wpV_load (cs := fel p.y) (by rfl) rfl rfl (M.r 2 1 rfl rfl) (M.lt 2 rfl) Try.underlying24 rfl info24 ?_
 simp only [Z7,Z0]
 refine wpV_load (cs := fel (finv p.z)) (by rfl) rfl rfl (M.r 0 0 rfl rfl) (M.lt 0 rfl) Try.underlying24 rfl info24 ?_
 simp only [Z7,Z0]
 refine Z20 (v := fe (fmul p.y (finv p.z))) (args := #[fe p.y, fe (finv p.z)]) (by rfl) rfl Try.func42 (by kernel_rfl) (by kernel_rfl) rfl (fun W hW => rmul04_c hp.y (finv_lt ..)) ?_
 simp only [Z7,Z0]
 refine Z19 (v := .agg ((fel (fmul p.x (finv p.z))) ++ (fel (fmul p.y (finv p.z))) : List Value).toArray) (by rfl) (by rfl) (fun W hW => ?_) ?_
 ·
  (unfold RunsVal; kernel_rfl)
 simp only [Z7,Z0]
 refine Z14 (hLk.out _ ?_)
 clear hLk Lk
 simp only [Z1,Z2]
 iterate 9 refine wpN_skip (by rfl) ?_
 refine wpN_nil (fun w15 Sw15 hbs => ?_)
 clear hbs
 replace M := M.sees Sw15
 refine wpL_store (g := g5) (off := 0) (n := 8) (cs := (fel (fmul p.x (finv p.z))) ++ (fel (fmul p.y (finv p.z)))) (by rfl) (by rfl) (by rfl) (by rfl) (by rfl) (M.t 1 rfl) (by simp [flen]) info32 (two4 _ _) (fun w16 P R T => ?_)
 replace M := M.put (segs' := [(0, fel (fmul p.x (finv p.z))), (4, fel (fmul p.y (finv p.z)))]) 1 rfl P T (SegsOf.at R ⟨rfl, rfl, trivial⟩)
 simp only [Z0] at M
 refine Z9 (Z10 ?_)
 refine hK13 _ _ ?_
 refine wp_ret ?_
 repeat (first | with_reducible refine then_ret ?_ | with_reducible refine inblock_ret ?_)
 refine bodyPost_ret (v := .agg (fel (fmul p.x (finv p.z)) ++ (fel (fmul p.y (finv p.z))) : List Value).toArray) (res1 rfl (.cell (by rfl) (run_loadVar_mid _ _ _ _ (fel (fmul p.x (finv p.z)) ++ (fel (fmul p.y (finv p.z)))) _ (range_join (M.r 1 0 rfl rfl) (M.r 1 1 rfl rfl) (by simp [flen])) Try.underlying32 rfl info32))) rfl ?_
 have BE := M.below
 exact ⟨rfl, BE⟩
set_option maxHeartbeats 2000000 in
theorem rRight_c {p : P4} {w : World} (hp : p.Ok) :
  Calls Try.prog 14 #[.agg (fel p.x ++ fel p.y ++ fel p.z ++ fel p.t : List Value).toArray] w fun e w' => e = .returned (.bool (rRight p)) ∧ Below w.heap.size w w' := by
 go_enter Try.func14, Try.ntmps14
 have M := Mem.start w
 refine Z4 (fun K1 hK1 => ?_)
 refine Z8 ?_
 refine wpL_var (t := 26) (cs := fel p.x ++ fel p.y ++ fel p.z ++ fel p.t) (by rfl) (fun W => ?_) (fun g3 w4 Sw4 Hg3 Bg3 => ?_)
 ·
  (first | rfl | go_simp)
 replace M := ((M.sees Sw4).addS (N := 16) (cs := fel p.x ++ fel p.y ++ fel p.z ++ fel p.t) (segs := [(0, fel p.x), (4, fel p.y), (8, fel p.z), (12, fel p.t)]) (M.ge Hg3) (M.fresh Hg3) Bg3 (by simp [flen]) ⟨rfl, rfl, rfl, rfl, trivial⟩)
 clear Bg3
 simp only [Z7,Z0]
 refine Z13 (v := .bool false) (by rfl) (by rfl) (by rfl) ?_
 simp only [Z7,Z0]
 refine Z9 (Z10 ?_)
 refine hK1 _ _ ?_
 refine Z4 (fun K5 hK5 => ?_)
 refine Z4 (fun K6 hK6 => ?_)
 cases hg7 : (decide (leastF p.x ≠ p.x))
 ·
  have q8 : leastF p.x = p.x := Decidable.not_not.1 (of_decide_eq_false hg7)
  cases hg9 : (decide (leastF p.y ≠ p.y))
  ·
   have q10 : leastF p.y = p.y := Decidable.not_not.1 (of_decide_eq_false hg9)
   cases hg11 : (decide (leastF p.z ≠ p.z))
   ·
    have q12 : leastF p.z = p.z := Decidable.not_not.1 (of_decide_eq_false hg11)
    refine wp_region_grow 30 [] (by kernel_rfl) (by kernel_rfl) (by kernel_rfl) (fun Lk hLk => ?_)
    simp only [Z1,Z2]
    refine Z19 (v := .pointer (some ⟨g3, 0, none⟩)) (by rfl) (by rfl) (fun W hW => ?_) ?_
    ·
     (go_simp; exact rfl)
    simp only [Z7,Z0]
    refine wpV_load (cs := fel p.x) (by rfl) rfl rfl (M.r 0 0 rfl rfl) (M.lt 0 rfl) Try.underlying24 rfl info24 ?_
    simp only [Z7,Z0]
    refine Z20 (v := fe (leastF p.x)) (args := #[fe p.x]) (by rfl) rfl Try.func41 (by kernel_rfl) (by kernel_rfl) rfl (fun W hW => rleast04_c hp.x) ?_
    simp only [Z7,Z0]
    refine Z19 (v := .pointer (some ⟨g3, 0, none⟩)) (by rfl) (by rfl) (fun W hW => ?_) ?_
    ·
     (go_simp; exact rfl)
    simp only [Z7,Z0]
    refine wpV_load (cs := fel p.x) (by rfl) rfl rfl (M.r 0 0 rfl rfl) (M.lt 0 rfl) Try.underlying24 rfl info24 ?_
    simp only [Z7,Z0]
    refine Z19 (v := .bool false) (by rfl) (by rfl) (fun W hW => ?_) ?_
    ·
     exact hg7 ▸ run_neq_fe (leastF_lt _) hp.x Try.underlying24 Try.underlying22 info22 (by kernel_rfl) rfl rfl rfl W
    simp only [Z7,Z0]
    refine Z16 (v := .bool false) (by rfl) rfl rfl ?_
    simp only [Z7,Z0]
    refine Z19 (v := .pointer (some ⟨g3, 4, none⟩)) (by rfl) (by rfl) (fun W hW => ?_) ?_
    ·
     (go_simp; exact rfl)
    simp only [Z7,Z0]
    refine wpV_load (cs := fel p.y) (by rfl) rfl rfl (M.r 0 1 rfl rfl) (M.lt 0 rfl) Try.underlying24 rfl info24 ?_
    simp only [Z7,Z0]
    refine Z20 (v := fe (leastF p.y)) (args := #[fe p.y]) (by rfl) rfl Try.func41 (by kernel_rfl) (by kernel_rfl) rfl (fun W hW => rleast04_c hp.y) ?_
    simp only [Z7,Z0]
    refine Z19 (v := .pointer (some ⟨g3, 4, none⟩)) (by rfl) (by rfl) (fun W hW => ?_) ?_
    ·
     (go_simp; exact rfl)
    simp only [Z7,Z0]
    refine wpV_load (cs := fel p.y) (by rfl) rfl rfl (M.r 0 1 rfl rfl) (M.lt 0 rfl) Try.underlying24 rfl info24 ?_
    simp only [Z7,Z0]
    refine Z19 (v := .bool false) (by rfl) (by rfl) (fun W hW => ?_) ?_
    ·
     exact hg9 ▸ run_neq_fe (leastF_lt _) hp.y Try.underlying24 Try.underlying22 info22 (by kernel_rfl) rfl rfl rfl W
    simp only [Z7,Z0]
    refine wpV_pick (v := .bool false) (by rfl) rfl rfl rfl ?_
    simp only [Z7,Z0]
    refine Z16 (v := .bool false) (by rfl) rfl rfl ?_
    simp only [Z7,Z0]
    refine Z19 (v := .pointer (some ⟨g3, 8, none⟩)) (by rfl) (by rfl) (fun W hW => ?_) ?_
    ·
     (go_simp; exact rfl)
    simp only [Z7,Z0]
    refine wpV_load (cs := fel p.z) (by rfl) rfl rfl (M.r 0 2 rfl rfl) (M.lt 0 rfl) Try.underlying24 rfl info24 ?_
    simp only [Z7,Z0]
    refine Z20 (v := fe (leastF p.z)) (args := #[fe p.z]) (by rfl) rfl Try.func41 (by kernel_rfl) (by kernel_rfl) rfl (fun W hW => rleast04_c hp.z) ?_
    simp only [Z7,Z0]
    refine Z19 (v := .pointer (some ⟨g3, 8, none⟩)) (by rfl) (by rfl) (fun W hW => ?_) ?_
    ·
     (go_simp; exact rfl)
    simp only [Z7,Z0]
    refine wpV_load (cs := fel p.z) (by rfl) rfl rfl (M.r 0 2 rfl rfl) (M.lt 0 rfl) Try.underlying24 rfl info24 ?_
    simp only [Z7,Z0]
    refine Z19 (v := .bool false) (by rfl) (by rfl) (fun W hW => ?_) ?_
    ·
     exact hg11 ▸ run_neq_fe (leastF_lt _) hp.z Try.underlying24 Try.underlying22 info22 (by kernel_rfl) rfl rfl rfl W
    simp only [Z7,Z0]
    refine wpV_pick (v := .bool false) (by rfl) rfl rfl rfl ?_
    simp only [Z7,Z0]
    refine Z16 (v := .bool false) (by rfl) rfl rfl ?_
    simp only [Z7,Z0]
    refine Z19 (v := .pointer (some ⟨g3, 12, none⟩)) (by rfl) (by rfl) (fun W hW => ?_) ?_
    ·
     (go_simp; exact rfl)
    simp only [Z7,Z0]
    refine wpV_load (cs := fel p.t) (by rfl) rfl rfl (M.r 0 3 rfl rfl) (M.lt 0 rfl) Try.underlying24 rfl info24 ?_
    simp only [Z7,Z0]
    refine Z20 (v := fe (leastF p.t)) (args := #[fe p.t]) (by rfl) rfl Try.func41 (by kernel_rfl) (by kernel_rfl) rfl (fun W hW => rleast04_c hp.t) ?_
    simp only [Z7,Z0]
    refine Z19 (v := .pointer (some ⟨g3, 12, none⟩)) (by rfl) (by rfl) (fun W hW => ?_) ?_
    ·
     (go_simp; exact rfl)
    simp only [Z7,Z0]
    refine wpV_load (cs := fel p.t) (by rfl) rfl rfl (M.r 0 3 rfl rfl) (M.lt 0 rfl) Try.underlying24 rfl info24 ?_
    simp only [Z7,Z0]
    refine Z19 (v := .bool (decide (leastF p.t ≠ p.t))) (by rfl) (by rfl) (fun W hW => ?_) ?_
    ·
     exact run_neq_fe (leastF_lt _) hp.t Try.underlying24 Try.underlying22 info22 (by kernel_rfl) rfl rfl rfl W
    simp only [Z7,Z0]
    refine wpV_pick (v := .bool (decide (leastF p.t ≠ p.t))) (by rfl) rfl rfl rfl ?_
    simp only [Z7,Z0]
    refine Z14 (hLk.out _ ?_)
    clear hLk Lk
    simp only [Z1,Z2]
    iterate 30 refine wpN_skip (by rfl) ?_
    refine wpN_nil (fun w14 Sw14 hbs => ?_)
    clear hbs
    replace M := M.sees Sw14
    refine Z9 (Z10 ?_)
    refine hK6 _ _ ?_
    cases hc15 : (decide (leastF p.t ≠ p.t))
    ·
     have q16 : leastF p.t = p.t := Decidable.not_not.1 (of_decide_eq_false hc15)
     refine Z6 rfl ?_
     refine wp_skip ?_
     refine hK5 _ _ ?_
     refine Z4 (fun K17 hK17 => ?_)
     refine Z8 ?_
     refine Z11 1 (by rfl) (fun Lk hLk => ?_)
     simp only [Z1,Z2]
     refine Z19 (v := fe 0) (by rfl) (by rfl) (fun W hW => ?_) ?_
     ·
      rw [show fe 0 = .agg ([.int .u64 0, .int .u64 0, .int .u64 0, .int .u64 0]).toArray from (by kernel_rfl)]; unfold RunsVal; kernel_rfl
     simp only [Z7,Z0]
     refine Z14 (hLk _ (fun w19 Sw19 => ?_))
     clear hLk Lk
     simp only [Z1,Z2]
     replace M := M.sees Sw19
     refine wpL_var (t := 24) (cs := [.int .u64 0, .int .u64 0, .int .u64 0, .int .u64 0]) (by rfl) (fun W => ?_) (fun g20 w21 Sw21 Hg20 Bg20 => ?_)
     ·
      go_simp
     replace M := ((M.sees Sw21).add (N := 4) (cs := [.int .u64 0, .int .u64 0, .int .u64 0, .int .u64 0]) (M.ge Hg20) (M.fresh Hg20) Bg20 rfl)
     clear Bg20
     simp only [Z7,Z0]
     refine wpL_store (g := g20) (off := 0) (n := 4) (cs := fel 0) (by rfl) (by rfl) (by rfl) (by rfl) (by rfl) (M.t 0 rfl) (by simp [flen]) info24 (fel_one _) (fun w22 P R T => ?_)
     replace M := M.putS 0 0 rfl P R T rfl ⟨.inl rfl, trivial⟩
     simp only [Z0] at M
     refine Z9 (Z10 ?_)
     refine hK17 _ _ ?_
     refine Z4 (fun K23 hK23 => ?_)
     refine Z4 (fun K24 hK24 => ?_)
     cases hg25 : (decide (p.z = 0))
     ·
      have q26 : ¬ (p.z = 0) := of_decide_eq_false hg25
      refine wp_region_grow 17 [] (by kernel_rfl) (by kernel_rfl) (by kernel_rfl) (fun Lk hLk => ?_)
      simp only [Z1,Z2]
      refine Z19 (v := .pointer (some ⟨g3, 8, none⟩)) (by rfl) (by rfl) (fun W hW => ?_) ?_
      ·
       (go_simp; exact rfl)
      simp only [Z7,Z0]
      refine wpV_load (cs := fel p.z) (by rfl) rfl rfl (M.r 1 2 rfl rfl) (M.lt 1 rfl) Try.underlying24 rfl info24 ?_
      simp only [Z7,Z0]
      refine wpV_load (cs := fel 0) (by rfl) rfl rfl (M.r 0 0 rfl rfl) (M.lt 0 rfl) Try.underlying24 rfl info24 ?_
      simp only [Z7,Z0]
      refine Z19 (v := .bool false) (by rfl) (by rfl) (fun W hW => ?_) ?_
      ·
       exact hg25 ▸ run_eql_fe hp.z (by decide) Try.underlying24 Try.underlying22 info22 (by kernel_rfl) rfl rfl rfl W
      simp only [Z7,Z0]
      refine Z16 (v := .bool false) (by rfl) rfl rfl ?_
      simp only [Z7,Z0]
      refine Z19 (v := .pointer (some ⟨g3, 0, none⟩)) (by rfl) (by rfl) (fun W hW => ?_) ?_
      ·
       (go_simp; exact rfl)
      simp only [Z7,Z0]
      refine wpV_load (cs := fel p.x) (by rfl) rfl rfl (M.r 1 0 rfl rfl) (M.lt 1 rfl) Try.underlying24 rfl info24 ?_
      simp only [Z7,Z0]
      refine Z19 (v := .pointer (some ⟨g3, 4, none⟩)) (by rfl) (by rfl) (fun W hW => ?_) ?_
      ·
       (go_simp; exact rfl)
      simp only [Z7,Z0]
      refine wpV_load (cs := fel p.y) (by rfl) rfl rfl (M.r 1 1 rfl rfl) (M.lt 1 rfl) Try.underlying24 rfl info24 ?_
      simp only [Z7,Z0]
      refine Z20 (v := fe (fmul p.x p.y)) (args := #[fe p.x, fe p.y]) (by rfl) rfl Try.func42 (by kernel_rfl) (by kernel_rfl) rfl (fun W hW => rmul04_c hp.x hp.y) ?_
      simp only [Z7,Z0]
      refine Z19 (v := .pointer (some ⟨g3, 8, none⟩)) (by rfl) (by rfl) (fun W hW => ?_) ?_
      ·
       (go_simp; exact rfl)
      simp only [Z7,Z0]
      refine wpV_load (cs := fel p.z) (by rfl) rfl rfl (M.r 1 2 rfl rfl) (M.lt 1 rfl) Try.underlying24 rfl info24 ?_
      simp only [Z7,Z0]
      refine Z19 (v := .pointer (some ⟨g3, 12, none⟩)) (by rfl) (by rfl) (fun W hW => ?_) ?_
      ·
       (go_simp; exact rfl)
      simp only [Z7,Z0]
      refine wpV_load (cs := fel p.t) (by rfl) rfl rfl (M.r 1 3 rfl rfl) (M.lt 1 rfl) Try.underlying24 rfl info24 ?_
      simp only [Z7,Z0]
      refine Z20 (v := fe (fmul p.z p.t)) (args := #[fe p.z, fe p.t]) (by rfl) rfl Try.func42 (by kernel_rfl) (by kernel_rfl) rfl (fun W hW => rmul04_c hp.z hp.t) ?_
      simp only [Z7,Z0]
      refine Z19 (v := .bool (decide (fmul p.x p.y ≠ fmul p.z p.t))) (by rfl) (by rfl) (fun W hW => ?_) ?_
      ·
       exact run_neq_fe (fmul_lt ..) (fmul_lt ..) Try.underlying24 Try.underlying22 info22 (by kernel_rfl) rfl rfl rfl W
      simp only [Z7,Z0]
      refine wpV_pick (v := .bool (decide (fmul p.x p.y ≠ fmul p.z p.t))) (by rfl) rfl rfl rfl ?_
      simp only [Z7,Z0]
      refine Z14 (hLk.out _ ?_)
      clear hLk Lk
      simp only [Z1,Z2]
      iterate 17 refine wpN_skip (by rfl) ?_
      refine wpN_nil (fun w28 Sw28 hbs => ?_)
      clear hbs
      replace M := M.sees Sw28
      refine Z9 (Z10 ?_)
      refine hK24 _ _ ?_
      cases hc29 : (decide (fmul p.x p.y ≠ fmul p.z p.t))
      ·
       have q30 : fmul p.x p.y = fmul p.z p.t := Decidable.not_not.1 (of_decide_eq_false hc29)
       refine Z6 rfl ?_
       refine wp_skip ?_
       refine hK23 _ _ ?_
       refine Z4 (fun K31 hK31 => ?_)
       refine Z8 ?_
       refine Z11 2 (by rfl) (fun Lk hLk => ?_)
       simp only [Z1,Z2]
       refine wpV_load (cs := fel p.x ++ (fel p.y) ++ (fel p.z) ++ (fel p.t)) (by rfl) rfl rfl (range_join (range_join (range_join (M.r 1 0 rfl rfl) (M.r 1 1 rfl rfl) (by simp [flen])) (M.r 1 2 rfl rfl) (by simp [flen])) (M.r 1 3 rfl rfl) (by simp [flen])) (M.lt 1 rfl) Try.underlying26 rfl info26 ?_
       simp only [Z7,Z0]
       refine Z20 (v := .agg (fel (affX p) ++ fel (affY p) : List Value).toArray) (args := #[.agg (fel p.x ++ (fel p.y) ++ (fel p.z) ++ (fel p.t) : List Value).toArray]) (by rfl) rfl Try.func18 (by kernel_rfl) (by kernel_rfl) rfl (fun W hW => rAffine_c hp) ?_
       simp only [Z7,Z0]
       refine Z14 (hLk _ (fun w33 Sw33 => ?_))
       clear hLk Lk
       simp only [Z1,Z2]
       replace M := M.sees Sw33
       refine wpL_var (t := 32) (cs := [.int .u64 0, .int .u64 0, .int .u64 0, .int .u64 0, .int .u64 0, .int .u64 0, .int .u64 0, .int .u64 0]) (by rfl) (fun W => ?_) (fun g34 w35 Sw35 Hg34 Bg34 => ?_)
       ·
        go_simp
       replace M := ((M.sees Sw35).addS (N := 8) (cs := [.int .u64 0, .int .u64 0, .int .u64 0, .int .u64 0, .int .u64 0, .int .u64 0, .int .u64 0, .int .u64 0]) (segs := [(0, [.int .u64 0, .int .u64 0, .int .u64 0, .int .u64 0]), (4, [.int .u64 0, .int .u64 0, .int .u64 0, .int .u64 0])]) (M.ge Hg34) (M.fresh Hg34) Bg34 rfl ⟨rfl, rfl, trivial⟩)
       clear Bg34
       simp only [Z7,Z0]
       refine wpL_store (g := g34) (off := 0) (n := 8) (cs := fel (affX p) ++ fel (affY p)) (by rfl) (by rfl) (by rfl) (by rfl) (by rfl) (M.t 0 rfl) (by simp [flen]) info32 (two4 _ _) (fun w36 P R T => ?_)
       replace M := M.put (segs' := [(0, fel (affX p)), (4, fel (affY p))]) 0 rfl P T (SegsOf.at R ⟨rfl, rfl, trivial⟩)
       simp only [Z0] at M
       refine Z9 (Z10 ?_)
       refine hK31 _ _ ?_
       refine Z4 (fun K37 hK37 => ?_)
       refine wp_region_grow 6 [] (by kernel_rfl) (by kernel_rfl) (by kernel_rfl) (fun Lk hLk => ?_)
       simp only [Z1,Z2]
       refine Z19 (v := .pointer (some ⟨g34, 0, none⟩)) (by rfl) (by rfl) (fun W hW => ?_) ?_
       ·
        (go_simp; exact rfl)
       simp only [Z7,Z0]
       refine wpV_load (cs := fel (affX p)) (by rfl) rfl rfl (M.r 0 0 rfl rfl) (M.lt 0 rfl) Try.underlying24 rfl info24 ?_
       simp only [Z7,Z0]
       refine Z19 (v := .pointer (some ⟨g34, 4, none⟩)) (by rfl) (by rfl) (fun W hW => ?_) ?_
       ·
        (go_simp; exact rfl)
       simp only [Z7,Z0]
       refine wpV_load (cs := fel (affY p)) (by rfl) rfl rfl (M.r 0 1 rfl rfl) (M.lt 0 rfl) Try.underlying24 rfl info24 ?_
       simp only [Z7,Z0]
       refine Z20 (v := fe dR) (args := #[]) (by rfl) rfl Try.func44 (by kernel_rfl) (by kernel_rfl) rfl (fun W hW => rD_c) ?_
       simp only [Z7,Z0]
       refine Z20 (v := .bool (onP (affX p) (affY p) dR)) (args := #[fe (affX p), fe (affY p), fe dR]) (by rfl) rfl Try.func43 (by kernel_rfl) (by kernel_rfl) rfl (fun W hW => rOn_c (affX_lt ..) (affY_lt ..) dR_lt) ?_
       simp only [Z7,Z0]
       refine Z14 (hLk.out _ ?_)
       clear hLk Lk
       simp only [Z1,Z2]
       iterate 6 refine wpN_skip (by rfl) ?_
       refine wpN_nil (fun w39 Sw39 hbs => ?_)
       clear hbs
       replace M := M.sees Sw39
       refine Z13 (v := .bool (onP (affX p) (affY p) dR)) (by rfl) (by rfl) (by rfl) ?_
       simp only [Z7,Z0]
       refine Z9 (Z10 ?_)
       refine hK37 _ _ ?_
       refine wp_ret ?_
       repeat (first | with_reducible refine then_ret ?_ | with_reducible refine inblock_ret ?_)
       refine bodyPost_ret (v := .bool (onP (affX p) (affY p) dR)) (res1 rfl (.tmp (by rfl))) rfl ?_
       have BE := M.below
       exact ⟨by unfold rRight; rw [decide_eq_true q8, decide_eq_true q10, decide_eq_true q12, decide_eq_true q16, decide_eq_true (p := p.z ≠ 0) q26, decide_eq_true q30]; simp only [Bool.true_and], BE⟩
      ·
       have q40 : (fmul p.x p.y ≠ fmul p.z p.t) := of_decide_eq_true hc29
       refine Z5 rfl ?_
       refine Z4 (fun K41 hK41 => ?_)
       refine Z8 ?_
       refine Z13 (v := .bool false) (by rfl) (by rfl) (by rfl) ?_
       simp only [Z7,Z0]
       refine Z9 (Z10 ?_)
       refine hK41 _ _ ?_
       refine wp_ret ?_
       repeat (first | with_reducible refine then_ret ?_ | with_reducible refine inblock_ret ?_)
       refine bodyPost_ret (v := .bool false) (res1 rfl (.tmp (by rfl))) rfl ?_
       have BE := M.below
       exact ⟨by unfold rRight; simp [q8, q10, q12, q16, q26, q40], BE⟩
     ·
      have q43 : (p.z = 0) := of_decide_eq_true hg25
      refine wp_region_grow 17 [] (by kernel_rfl) (by kernel_rfl) (by kernel_rfl) (fun Lk hLk => ?_)
      simp only [Z1,Z2]
      refine Z19 (v := .pointer (some ⟨g3, 8, none⟩)) (by rfl) (by rfl) (fun W hW => ?_) ?_
      ·
       (go_simp; exact rfl)
      simp only [Z7,Z0]
      refine wpV_load (cs := fel p.z) (by rfl) rfl rfl (M.r 1 2 rfl rfl) (M.lt 1 rfl) Try.underlying24 rfl info24 ?_
      simp only [Z7,Z0]
      refine wpV_load (cs := fel 0) (by rfl) rfl rfl (M.r 0 0 rfl rfl) (M.lt 0 rfl) Try.underlying24 rfl info24 ?_
      simp only [Z7,Z0]
      refine Z19 (v := .bool true) (by rfl) (by rfl) (fun W hW => ?_) ?_
      ·
       exact hg25 ▸ run_eql_fe hp.z (by decide) Try.underlying24 Try.underlying22 info22 (by kernel_rfl) rfl rfl rfl W
      simp only [Z7,Z0]
      refine Z16 (v := .bool true) (by rfl) rfl rfl ?_
      simp only [Z7,Z0]
      refine wpV_skip (by rfl) (by rfl) ?_
      simp only [Z7,Z0]
      refine wpV_skip (by rfl) (by rfl) ?_
      simp only [Z7,Z0]
      refine wpV_skip (by rfl) (by rfl) ?_
      simp only [Z7,Z0]
      refine wpV_skip (by rfl) (by rfl) ?_
      simp only [Z7,Z0]
      refine wpV_skip (by rfl) (by rfl) ?_
      simp only [Z7,Z0]
      refine wpV_skip (by rfl) (by rfl) ?_
      simp only [Z7,Z0]
      refine wpV_skip (by rfl) (by rfl) ?_
      simp only [Z7,Z0]
      refine wpV_skip (by rfl) (by rfl) ?_
      simp only [Z7,Z0]
      refine wpV_skip (by rfl) (by rfl) ?_
      simp only [Z7,Z0]
      refine wpV_skip (by rfl) (by rfl) ?_
      simp only [Z7,Z0]
      refine wpV_skip (by rfl) (by rfl) ?_
      simp only [Z7,Z0]
      refine wpV_pick (v := .bool true) (by rfl) rfl rfl rfl ?_
      simp only [Z7,Z0]
      refine Z14 (hLk.out _ ?_)
      clear hLk Lk
      simp only [Z1,Z2]
      iterate 17 refine wpN_skip (by rfl) ?_
      refine wpN_nil (fun w45 Sw45 hbs => ?_)
      clear hbs
      replace M := M.sees Sw45
      refine Z9 (Z10 ?_)
      refine hK24 _ _ ?_
      refine Z5 rfl ?_
      refine Z4 (fun K46 hK46 => ?_)
      refine Z8 ?_
      refine Z13 (v := .bool false) (by rfl) (by rfl) (by rfl) ?_
      simp only [Z7,Z0]
      refine Z9 (Z10 ?_)
      refine hK46 _ _ ?_
      refine wp_ret ?_
      repeat (first | with_reducible refine then_ret ?_ | with_reducible refine inblock_ret ?_)
      refine bodyPost_ret (v := .bool false) (res1 rfl (.tmp (by rfl))) rfl ?_
      have BE := M.below
      exact ⟨by unfold rRight; simp [q8, q10, q12, q16, q43], BE⟩
    ·
     have q48 : (leastF p.t ≠ p.t) := of_decide_eq_true hc15
     refine Z5 rfl ?_
     refine Z4 (fun K49 hK49 => ?_)
     refine Z8 ?_
     refine Z13 (v := .bool false) (by rfl) (by rfl) (by rfl) ?_
     simp only [Z7,Z0]
     refine Z9 (Z10 ?_)
     refine hK49 _ _ ?_
     refine wp_ret ?_
     repeat (first | with_reducible refine then_ret ?_ | with_reducible refine inblock_ret ?_)
     refine bodyPost_ret (v := .bool false) (res1 rfl (.tmp (by rfl))) rfl ?_
     have BE := M.below
     exact ⟨by unfold rRight; simp [q8, q10, q12, q48], BE⟩
   ·
    have q51 : (leastF p.z ≠ p.z) := of_decide_eq_true hg11
    refine wp_region_grow 30 [] (by kernel_rfl) (by kernel_rfl) (by kernel_rfl) (fun Lk hLk => ?_)
    simp only [Z1,Z2]
    refine Z19 (v := .pointer (some ⟨g3, 0, none⟩)) (by rfl) (by rfl) (fun W hW => ?_) ?_
    ·
     (go_simp; exact rfl)
    simp only [Z7,Z0]
    refine wpV_load (cs := fel p.x) (by rfl) rfl rfl (M.r 0 0 rfl rfl) (M.lt 0 rfl) Try.underlying24 rfl info24 ?_
    simp only [Z7,Z0]
    refine Z20 (v := fe (leastF p.x)) (args := #[fe p.x]) (by rfl) rfl Try.func41 (by kernel_rfl) (by kernel_rfl) rfl (fun W hW => rleast04_c hp.x) ?_
    simp only [Z7,Z0]
    refine Z19 (v := .pointer (some ⟨g3, 0, none⟩)) (by rfl) (by rfl) (fun W hW => ?_) ?_
    ·
     (go_simp; exact rfl)
    simp only [Z7,Z0]
    refine wpV_load (cs := fel p.x) (by rfl) rfl rfl (M.r 0 0 rfl rfl) (M.lt 0 rfl) Try.underlying24 rfl info24 ?_
    simp only [Z7,Z0]
    refine Z19 (v := .bool false) (by rfl) (by rfl) (fun W hW => ?_) ?_
    ·
     exact hg7 ▸ run_neq_fe (leastF_lt _) hp.x Try.underlying24 Try.underlying22 info22 (by kernel_rfl) rfl rfl rfl W
    simp only [Z7,Z0]
    refine Z16 (v := .bool false) (by rfl) rfl rfl ?_
    simp only [Z7,Z0]
    refine Z19 (v := .pointer (some ⟨g3, 4, none⟩)) (by rfl) (by rfl) (fun W hW => ?_) ?_
    ·
     (go_simp; exact rfl)
    simp only [Z7,Z0]
    refine wpV_load (cs := fel p.y) (by rfl) rfl rfl (M.r 0 1 rfl rfl) (M.lt 0 rfl) Try.underlying24 rfl info24 ?_
    simp only [Z7,Z0]
    refine Z20 (v := fe (leastF p.y)) (args := #[fe p.y]) (by rfl) rfl Try.func41 (by kernel_rfl) (by kernel_rfl) rfl (fun W hW => rleast04_c hp.y) ?_
    simp only [Z7,Z0]
    refine Z19 (v := .pointer (some ⟨g3, 4, none⟩)) (by rfl) (by rfl) (fun W hW => ?_) ?_
    ·
     (go_simp; exact rfl)
    simp only [Z7,Z0]
    refine wpV_load (cs := fel p.y) (by rfl) rfl rfl (M.r 0 1 rfl rfl) (M.lt 0 rfl) Try.underlying24 rfl info24 ?_
    simp only [Z7,Z0]
    refine Z19 (v := .bool false) (by rfl) (by rfl) (fun W hW => ?_) ?_
    ·
     exact hg9 ▸ run_neq_fe (leastF_lt _) hp.y Try.underlying24 Try.underlying22 info22 (by kernel_rfl) rfl rfl rfl W
    simp only [Z7,Z0]
    refine wpV_pick (v := .bool false) (by rfl) rfl rfl rfl ?_
    simp only [Z7,Z0]
    refine Z16 (v := .bool false) (by rfl) rfl rfl ?_
    simp only [Z7,Z0]
    refine Z19 (v := .pointer (some ⟨g3, 8, none⟩)) (by rfl) (by rfl) (fun W hW => ?_) ?_
    ·
     (go_simp; exact rfl)
    simp only [Z7,Z0]
    refine wpV_load (cs := fel p.z) (by rfl) rfl rfl (M.r 0 2 rfl rfl) (M.lt 0 rfl) Try.underlying24 rfl info24 ?_
    simp only [Z7,Z0]
    refine Z20 (v := fe (leastF p.z)) (args := #[fe p.z]) (by rfl) rfl Try.func41 (by kernel_rfl) (by kernel_rfl) rfl (fun W hW => rleast04_c hp.z) ?_
    simp only [Z7,Z0]
    refine Z19 (v := .pointer (some ⟨g3, 8, none⟩)) (by rfl) (by rfl) (fun W hW => ?_) ?_
    ·
     (go_simp; exact rfl)
    simp only [Z7,Z0]
    refine wpV_load (cs := fel p.z) (by rfl) rfl rfl (M.r 0 2 rfl rfl) (M.lt 0 rfl) Try.underlying24 rfl info24 ?_
    simp only [Z7,Z0]
    refine Z19 (v := .bool true) (by rfl) (by rfl) (fun W hW => ?_) ?_
    ·
     exact hg11 ▸ run_neq_fe (leastF_lt _) hp.z Try.underlying24 Try.underlying22 info22 (by kernel_rfl) rfl rfl rfl W
    simp only [Z7,Z0]
    refine wpV_pick (v := .bool true) (by rfl) rfl rfl rfl ?_
    simp only [Z7,Z0]
    refine Z16 (v := .bool true) (by rfl) rfl rfl ?_
    simp only [Z7,Z0]
    refine wpV_skip (by rfl) (by rfl) ?_
    simp only [Z7,Z0]
    refine wpV_skip (by rfl) (by rfl) ?_
    simp only [Z7,Z0]
    refine wpV_skip (by rfl) (by rfl) ?_
    simp only [Z7,Z0]
    refine wpV_skip (by rfl) (by rfl) ?_
    simp only [Z7,Z0]
    refine wpV_skip (by rfl) (by rfl) ?_
    simp only [Z7,Z0]
    refine wpV_skip (by rfl) (by rfl) ?_
    simp only [Z7,Z0]
    refine wpV_pick (v := .bool true) (by rfl) rfl rfl rfl ?_
    simp only [Z7,Z0]
    refine Z14 (hLk.out _ ?_)
    clear hLk Lk
    simp only [Z1,Z2]
    iterate 30 refine wpN_skip (by rfl) ?_
    refine wpN_nil (fun w53 Sw53 hbs => ?_)
    clear hbs
    replace M := M.sees Sw53
    refine Z9 (Z10 ?_)
    refine hK6 _ _ ?_
    refine Z5 rfl ?_
    refine Z4 (fun K54 hK54 => ?_)
    refine Z8 ?_
    refine Z13 (v := .bool false) (by rfl) (by rfl) (by rfl) ?_
    simp only [Z7,Z0]
    refine Z9 (Z10 ?_)
    refine hK54 _ _ ?_
    refine wp_ret ?_
    repeat (first | with_reducible refine then_ret ?_ | with_reducible refine inblock_ret ?_)
    refine bodyPost_ret (v := .bool false) (res1 rfl (.tmp (by rfl))) rfl ?_
    have BE := M.below
    exact ⟨by unfold rRight; simp [q8, q10, q51], BE⟩
  ·
   have q56 : (leastF p.y ≠ p.y) := of_decide_eq_true hg9
   refine wp_region_grow 30 [] (by kernel_rfl) (by kernel_rfl) (by kernel_rfl) (fun Lk hLk => ?_)
   simp only [Z1,Z2]
   refine Z19 (v := .pointer (some ⟨g3, 0, none⟩)) (by rfl) (by rfl) (fun W hW => ?_) ?_
   ·
    (go_simp; exact rfl)
   simp only [Z7,Z0]
   refine wpV_load (cs := fel p.x) (by rfl) rfl rfl (M.r 0 0 rfl rfl) (M.lt 0 rfl) Try.underlying24 rfl info24 ?_
   simp only [Z7,Z0]
   refine Z20 (v := fe (leastF p.x)) (args := #[fe p.x]) (by rfl) rfl Try.func41 (by kernel_rfl) (by kernel_rfl) rfl (fun W hW => rleast04_c hp.x) ?_
   simp only [Z7,Z0]
   refine Z19 (v := .pointer (some ⟨g3, 0, none⟩)) (by rfl) (by rfl) (fun W hW => ?_) ?_
   ·
    (go_simp; exact rfl)
   simp only [Z7,Z0]
   refine wpV_load (cs := fel p.x) (by rfl) rfl rfl (M.r 0 0 rfl rfl) (M.lt 0 rfl) Try.underlying24 rfl info24 ?_
   simp only [Z7,Z0]
   refine Z19 (v := .bool false) (by rfl) (by rfl) (fun W hW => ?_) ?_
   ·
    exact hg7 ▸ run_neq_fe (leastF_lt _) hp.x Try.underlying24 Try.underlying22 info22 (by kernel_rfl) rfl rfl rfl W
   simp only [Z7,Z0]
   refine Z16 (v := .bool false) (by rfl) rfl rfl ?_
   simp only [Z7,Z0]
   refine Z19 (v := .pointer (some ⟨g3, 4, none⟩)) (by rfl) (by rfl) (fun W hW => ?_) ?_
   ·
    (go_simp; exact rfl)
   simp only [Z7,Z0]
   refine wpV_load (cs := fel p.y) (by rfl) rfl rfl (M.r 0 1 rfl rfl) (M.lt 0 rfl) Try.underlying24 rfl info24 ?_
   simp only [Z7,Z0]
   refine Z20 (v := fe (leastF p.y)) (args := #[fe p.y]) (by rfl) rfl Try.func41 (by kernel_rfl) (by kernel_rfl) rfl (fun W hW => rleast04_c hp.y) ?_
   simp only [Z7,Z0]
   refine Z19 (v := .pointer (some ⟨g3, 4, none⟩)) (by rfl) (by rfl) (fun W hW => ?_) ?_
   ·
    (go_simp; exact rfl)
   simp only [Z7,Z0]
   refine wpV_load (cs := fel p.y) (by rfl) rfl rfl (M.r 0 1 rfl rfl) (M.lt 0 rfl) Try.underlying24 rfl info24 ?_
   simp only [Z7,Z0]
   refine Z19 (v := .bool true) (by rfl) (by rfl) (fun W hW => ?_) ?_
   ·
    exact hg9 ▸ run_neq_fe (leastF_lt _) hp.y Try.underlying24 Try.underlying22 info22 (by kernel_rfl) rfl rfl rfl W
   simp only [Z7,Z0]
   refine wpV_pick (v := .bool true) (by rfl) rfl rfl rfl ?_
   simp only [Z7,Z0]
   refine Z16 (v := .bool true) (by rfl) rfl rfl ?_
   simp only [Z7,Z0]
   refine wpV_skip (by rfl) (by rfl) ?_
   simp only [Z7,Z0]
   refine wpV_skip (by rfl) (by rfl) ?_
   simp only [Z7,Z0]
   refine wpV_skip (by rfl) (by rfl) ?_
   simp only [Z7,Z0]
   refine wpV_skip (by rfl) (by rfl) ?_
   simp only [Z7,Z0]
   refine wpV_skip (by rfl) (by rfl) ?_
   simp only [Z7,Z0]
   refine wpV_skip (by rfl) (by rfl) ?_
   simp only [Z7,Z0]
   refine wpV_pick (v := .bool true) (by rfl) rfl rfl rfl ?_
   simp only [Z7,Z0]
   refine Z16 (v := .bool true) (by rfl) rfl rfl ?_
   simp only [Z7,Z0]
   refine wpV_skip (by rfl) (by rfl) ?_
   simp only [Z7,Z0]
   refine wpV_skip (by rfl) (by rfl) ?_
   simp only [Z7,Z0]
   refine wpV_skip (by rfl) (by rfl) ?_
   simp only [Z7,Z0]
   refine wpV_skip (by rfl) (by rfl) ?_
   simp only [Z7,Z0]
   refine wpV_skip (by rfl) (by rfl) ?_
   simp only [Z7,Z0]
   refine wpV_skip (by rfl) (by rfl) ?_
   simp only [Z7,Z0]
   refine wpV_pick (v := .bool true) (by rfl) rfl rfl rfl ?_
   simp only [Z7,Z0]
   refine Z14 (hLk.out _ ?_)
   clear hLk Lk
   simp only [Z1,Z2]
   iterate 30 refine wpN_skip (by rfl) ?_
   refine wpN_nil (fun w58 Sw58 hbs => ?_)
   clear hbs
   replace M := M.sees Sw58
   refine Z9 (Z10 ?_)
   refine hK6 _ _ ?_
   refine Z5 rfl ?_
   refine Z4 (fun K59 hK59 => ?_)
   refine Z8 ?_
   refine Z13 (v := .bool false) (by rfl) (by rfl) (by rfl) ?_
   simp only [Z7,Z0]
   refine Z9 (Z10 ?_)
   refine hK59 _ _ ?_
   refine wp_ret ?_
   repeat (first | with_reducible refine then_ret ?_ | with_reducible refine inblock_ret ?_)
   refine bodyPost_ret (v := .bool false) (res1 rfl (.tmp (by rfl))) rfl ?_
   have BE := M.below
   exact ⟨by unfold rRight; simp [q8, q56], BE⟩
 ·
  have q61 : (leastF p.x ≠ p.x) := of_decide_eq_true hg7
  refine wp_region_grow 30 [] (by kernel_rfl) (by kernel_rfl) (by kernel_rfl) (fun Lk hLk => ?_)
  simp only [Z1,Z2]
  refine Z19 (v := .pointer (some ⟨g3, 0, none⟩)) (by rfl) (by rfl) (fun W hW => ?_) ?_
  ·
   (go_simp; exact rfl)
  simp only [Z7,Z0]
  refine wpV_load (cs := fel p.x) (by rfl) rfl rfl (M.r 0 0 rfl rfl) (M.lt 0 rfl) Try.underlying24 rfl info24 ?_
  simp only [Z7,Z0]
  refine Z20 (v := fe (leastF p.x)) (args := #[fe p.x]) (by rfl) rfl Try.func41 (by kernel_rfl) (by kernel_rfl) rfl (fun W hW => rleast04_c hp.x) ?_
  simp only [Z7,Z0]
  refine Z19 (v := .pointer (some ⟨g3, 0, none⟩)) (by rfl) (by rfl) (fun W hW => ?_) ?_
  ·
   (go_simp; exact rfl)
  simp only [Z7,Z0]
  refine wpV_load (cs := fel p.x) (by rfl) rfl rfl (M.r 0 0 rfl rfl) (M.lt 0 rfl) Try.underlying24 rfl info24 ?_
  simp only [Z7,Z0]
  refine Z19 (v := .bool true) (by rfl) (by rfl) (fun W hW => ?_) ?_
  ·
   exact hg7 ▸ run_neq_fe (leastF_lt _) hp.x Try.underlying24 Try.underlying22 info22 (by kernel_rfl) rfl rfl rfl W
  simp only [Z7,Z0]
  refine Z16 (v := .bool true) (by rfl) rfl rfl ?_
  simp only [Z7,Z0]
  refine wpV_skip (by rfl) (by rfl) ?_
  simp only [Z7,Z0]
  refine wpV_skip (by rfl) (by rfl) ?_
  simp only [Z7,Z0]
  refine wpV_skip (by rfl) (by rfl) ?_
  simp only [Z7,Z0]
  refine wpV_skip (by rfl) (by rfl) ?_
  simp only [Z7,Z0]
  refine wpV_skip (by rfl) (by rfl) ?_
  simp only [Z7,Z0]
  refine wpV_skip (by rfl) (by rfl) ?_
  simp only [Z7,Z0]
  refine wpV_pick (v := .bool true) (by rfl) rfl rfl rfl ?_
  simp only [Z7,Z0]
  refine Z16 (v := .bool true) (by rfl) rfl rfl ?_
  simp only [Z7,Z0]
  refine wpV_skip (by rfl) (by rfl) ?_
  simp only [Z7,Z0]
  refine wpV_skip (by rfl) (by rfl) ?_
  simp only [Z7,Z0]
  refine wpV_skip (by rfl) (by rfl) ?_
  simp only [Z7,Z0]
  refine wpV_skip (by rfl) (by rfl) ?_
  simp only [Z7,Z0]
  refine wpV_skip (by rfl) (by rfl) ?_
  simp only [Z7,Z0]
  refine wpV_skip (by rfl) (by rfl) ?_
  simp only [Z7,Z0]
  refine wpV_pick (v := .bool true) (by rfl) rfl rfl rfl ?_
  simp only [Z7,Z0]
  refine Z16 (v := .bool true) (by rfl) rfl rfl ?_
  simp only [Z7,Z0]
  refine wpV_skip (by rfl) (by rfl) ?_
  simp only [Z7,Z0]
  refine wpV_skip (by rfl) (by rfl) ?_
  simp only [Z7,Z0]
  refine wpV_skip (by rfl) (by rfl) ?_
  simp only [Z7,Z0]
  refine wpV_skip (by rfl) (by rfl) ?_
  simp only [Z7,Z0]
  refine wpV_skip (by rfl) (by rfl) ?_
  simp only [Z7,Z0]
  refine wpV_skip (by rfl) (by rfl) ?_
  simp only [Z7,Z0]
  refine wpV_pick (v := .bool true) (by rfl) rfl rfl rfl ?_
  simp only [Z7,Z0]
  refine Z14 (hLk.out _ ?_)
  clear hLk Lk
  simp only [Z1,Z2]
  iterate 30 refine wpN_skip (by rfl) ?_
  refine wpN_nil (fun w63 Sw63 hbs => ?_)
  clear hbs
  replace M := M.sees Sw63
  refine Z9 (Z10 ?_)
  refine hK6 _ _ ?_
  refine Z5 rfl ?_
  refine Z4 (fun K64 hK64 => ?_)
  refine Z8 ?_
  refine Z13 (v := .bool false) (by rfl) (by rfl) (by rfl) ?_
  simp only [Z7,Z0]
  refine Z9 (Z10 ?_)
  refine hK64 _ _ ?_
  refine wp_ret ?_
  repeat (first | with_reducible refine then_ret ?_ | with_reducible refine inblock_ret ?_)
  refine bodyPost_ret (v := .bool false) (res1 rfl (.tmp (by rfl))) rfl ?_
  have BE := M.below
  exact ⟨by unfold rRight; simp [q61], BE⟩
end Go.Proofs.Yc

