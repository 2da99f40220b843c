import Derived.WalkKit
import Derived.WalkSpells
import Derived.Laws.Pointers
import Derived.RowKit3
import Derived.Below
import Derived.Outline
import Derived.LoopN
import Derived.Lib.Hide
import Derived.Handy
import Derived.Laws.Bits64b
import Derived.Test.YtdcmmnindlhghaaPtF
import Derived.Test.YtdcmmnindlhghaaPtG
set_option linter.unusedSimpArgs false
set_option linter.unusedVariables false
namespace Go.Proofs.Yc
open Go Go.RowKit Go.Proofs.Num
attribute [local irreducible] wpV wpN wpList
open Go.Proofs.Ya
theorem two4 (x y : Nat) : ∀ v ∈ fel x ++ fel y, v.oneCell' = true := by
 intro v hv
 rcases List.mem_append.1 hv with h | h
 ·
  exact fel_one _ v h
 ·
  exact fel_one _ v h
theorem info32 : (Try.prog.info? 32).map (·.size) = some 8 := by kernel_rfl
set_option maxHeartbeats 1000000 in
theorem rD_c  {w : World}  :
  Calls Try.prog 44 #[] w fun e w' => e = .returned (fe dR) ∧ Below w.heap.size w w' := by
 go_enter Try.func44, Try.ntmps44
 have M := Mem.start w
 refine wp_seq_k (fun K1 hK1 => ?_)
 refine wp_region_seq ?_
 refine wpL_var (t := 24) (cs := [.int .u64 0, .int .u64 0, .int .u64 0, .int .u64 0]) (by rfl) (fun W => ?_) (fun g3 w4 Sw4 Hg3 Bg3 => ?_)
 ·
  go_simp
 replace M := ((M.sees Sw4).add (N := 4) (cs := [.int .u64 0, .int .u64 0, .int .u64 0, .int .u64 0]) (M.ge Hg3) (M.fresh Hg3) Bg3 rfl)
 clear Bg3
 simp only [putT, List.set]
 refine wpL_nil (no_panic ?_)
 refine hK1 _ _ ?_
 refine wp_seq_k (fun K5 hK5 => ?_)
 refine wp_region_seq ?_
 refine wpL_chunk 6 (by rfl) (fun Lk hLk => ?_)
 simp only [List.take, List.drop]
 refine wpV_val (v := fe 0) (by rfl) (by rfl) (fun W hW => ?_) ?_
 ·
  rw [show fe 0 = .agg ([.int .u64 0, .int .u64 0, .int .u64 0, .int .u64 0]).toArray from (by kernel_rfl)]; unfold RunsVal; kernel_rfl
 simp only [putT, List.set]
 refine wpV_val (v := fe 121665) (by rfl) (by rfl) (fun W hW => ?_) ?_
 ·
  rw [show fe 121665 = .agg ([.int .u64 121665, .int .u64 0, .int .u64 0, .int .u64 0]).toArray from (by kernel_rfl)]; unfold RunsVal; kernel_rfl
 simp only [putT, List.set]
 refine wpV_callf (v := fe (fsub 0 121665)) (args := #[fe 0, fe 121665]) (by rfl) rfl Try.func37 (by kernel_rfl) (by kernel_rfl) rfl (fun W hW => rsub04_c (by decide) (by decide)) ?_
 simp only [putT, List.set]
 refine wpV_val (v := fe 121666) (by rfl) (by rfl) (fun W hW => ?_) ?_
 ·
  rw [show fe 121666 = .agg ([.int .u64 121666, .int .u64 0, .int .u64 0, .int .u64 0]).toArray from (by kernel_rfl)]; unfold RunsVal; kernel_rfl
 simp only [putT, List.set]
 refine wpV_callf (v := fe (finv 121666)) (args := #[fe 121666]) (by rfl) rfl Try.func48 (by kernel_rfl) (by kernel_rfl) rfl (fun W hW => rinv_c (by decide)) ?_
 simp only [putT, List.set]
 refine wpV_callf (v := fe (fmul (fsub 0 121665) (finv 121666))) (args := #[fe (fsub 0 121665), fe (finv 121666)]) (by rfl) rfl Try.func42 (by kernel_rfl) (by kernel_rfl) rfl (fun W hW => rmul04_c (fsub_lt ..) (finv_lt _)) ?_
 simp only [putT, List.set]
 refine wpV_nil (hLk _ (fun w7 Sw7 => ?_))
 clear hLk Lk
 simp only [List.take, List.drop]
 replace M := M.sees Sw7
 refine wpL_store (g := g3) (off := 0) (n := 4) (cs := fel (fmul (fsub 0 121665) (finv 121666))) (by rfl) (by rfl) (by rfl) (by rfl) (by rfl) (M.t 0 rfl) (by simp [flen]) info24 (fel_one _) (fun w8 P R T => ?_)
 replace M := M.putS 0 0 rfl P R T rfl ⟨.inl rfl, trivial⟩
 simp only [List.set] at M
 refine wpL_nil (no_panic ?_)
 refine hK5 _ _ ?_
 refine wp_ret ?_
 repeat (first | with_reducible refine then_ret ?_ | with_reducible refine inblock_ret ?_)
 refine bodyPost_ret (v := fe (fmul (fsub 0 121665) (finv 121666))) (res1 rfl (.cell (by rfl) (run_loadVar_mid _ _ _ _ (fel (fmul (fsub 0 121665) (finv 121666))) _ (M.r 0 0 rfl rfl) Try.underlying24 rfl info24))) rfl ?_
 have BE := M.below
 exact ⟨rfl, BE⟩
set_option maxHeartbeats 1000000 in
theorem rAffine_c {p : P4} {w : World} (hp : p.Ok) :
  Calls Try.prog 18 #[.agg (fel p.x ++ fel p.y ++ fel p.z ++ fel p.t : List Value).toArray] w fun e w' => e = .returned (.agg (fel (affX p) ++ fel (affY p) : List Value).toArray) ∧ Below w.heap.size w w' := by
 go_enter Try.func18, Try.ntmps18
 have M := Mem.start w
 refine wp_seq_k (fun K1 hK1 => ?_)
 refine wp_region_seq ?_
 refine wpL_var (t := 26) (cs := fel p.x ++ fel p.y ++ fel p.z ++ fel p.t) (by rfl) (fun W => ?_) (fun g3 w4 Sw4 Hg3 Bg3 => ?_)
 ·
  (first | rfl | go_simp)
 replace M := ((M.sees Sw4).addS (N := 16) (cs := fel p.x ++ fel p.y ++ fel p.z ++ fel p.t) (segs := [(0, fel p.x), (4, fel p.y), (8, fel p.z), (12, fel p.t)]) (M.ge Hg3) (M.fresh Hg3) Bg3 (by simp [flen]) ⟨rfl, rfl, rfl, rfl, trivial⟩)
 clear Bg3
 simp only [putT, List.set]
 refine wpL_var (t := 32) (cs := [.int .u64 0, .int .u64 0, .int .u64 0, .int .u64 0, .int .u64 0, .int .u64 0, .int .u64 0, .int .u64 0]) (by rfl) (fun W => ?_) (fun g5 w6 Sw6 Hg5 Bg5 => ?_)
 ·
  go_simp
 replace M := ((M.sees Sw6).addS (N := 8) (cs := [.int .u64 0, .int .u64 0, .int .u64 0, .int .u64 0, .int .u64 0, .int .u64 0, .int .u64 0, .int .u64 0]) (segs := [(0, [.int .u64 0, .int .u64 0, .int .u64 0, .int .u64 0]), (4, [.int .u64 0, .int .u64 0, .int .u64 0, .int .u64 0])]) (M.ge Hg5) (M.fresh Hg5) Bg5 rfl ⟨rfl, rfl, trivial⟩)
 clear Bg5
 simp only [putT, List.set]
 refine wpL_nil (no_panic ?_)
 refine hK1 _ _ ?_
 refine wp_seq_k (fun K7 hK7 => ?_)
 refine wp_region_seq ?_
 refine wpL_chunk 3 (by rfl) (fun Lk hLk => ?_)
 simp only [List.take, List.drop]
 refine wpV_val (v := .pointer (some ⟨g3, 8, none⟩)) (by rfl) (by rfl) (fun W hW => ?_) ?_
 ·
  (go_simp; exact rfl)
 simp only [putT, List.set]
 refine wpV_load (cs := fel p.z) (by rfl) rfl rfl (M.r 1 2 rfl rfl) (M.lt 1 rfl) Try.underlying24 rfl info24 ?_
 simp only [putT, List.set]
 refine wpV_callf (v := fe (finv p.z)) (args := #[fe p.z]) (by rfl) rfl Try.func48 (by kernel_rfl) (by kernel_rfl) rfl (fun W hW => rinv_c hp.z) ?_
 simp only [putT, List.set]
 refine wpV_nil (hLk _ (fun w9 Sw9 => ?_))
 clear hLk Lk
 simp only [List.take, List.drop]
 replace M := M.sees Sw9
 refine wpL_var (t := 24) (cs := [.int .u64 0, .int .u64 0, .int .u64 0, .int .u64 0]) (by rfl) (fun W => ?_) (fun g10 w11 Sw11 Hg10 Bg10 => ?_)
 ·
  go_simp
 replace M := ((M.sees Sw11).add (N := 4) (cs := [.int .u64 0, .int .u64 0, .int .u64 0, .int .u64 0]) (M.ge Hg10) (M.fresh Hg10) Bg10 rfl)
 clear Bg10
 simp only [putT, List.set]
 refine wpL_store (g := g10) (off := 0) (n := 4) (cs := fel (finv p.z)) (by rfl) (by rfl) (by rfl) (by rfl) (by rfl) (M.t 0 rfl) (by simp [flen]) info24 (fel_one _) (fun w12 P R T => ?_)
 replace M := M.putS 0 0 rfl P R T rfl ⟨.inl rfl, trivial⟩
 simp only [List.set] at M
 refine wpL_nil (no_panic ?_)
 refine hK7 _ _ ?_
 refine wp_seq_k (fun K13 hK13 => ?_)
 refine wp_region_grow 9 [] (by kernel_rfl) (by kernel_rfl) (by kernel_rfl) (fun Lk hLk => ?_)
 simp only [List.take, List.drop]
 refine wpV_val (v := .pointer (some ⟨g3, 0, none⟩)) (by rfl) (by rfl) (fun W hW => ?_) ?_
 ·
  (go_simp; exact rfl)
 simp only [putT, List.set]
 refine wpV_load (cs := fel p.x) (by rfl) rfl rfl (M.r 2 0 rfl rfl) (M.lt 2 rfl) Try.underlying24 rfl info24 ?_
 simp only [putT, List.set]
 refine wpV_load (cs := fel (finv p.z)) (by rfl) rfl rfl (M.r 0 0 rfl rfl) (M.lt 0 rfl) Try.underlying24 rfl info24 ?_
 simp only [putT, List.set]
 refine wpV_callf (v := fe (fmul p.x (finv p.z))) (args := #[fe p.x, fe (finv p.z)]) (by rfl) rfl Try.func42 (by kernel_rfl) (by kernel_rfl) rfl (fun W hW => rmul04_c hp.x (finv_lt ..)) ?_
 simp only [putT, List.set]
 refine wpV_val (v := .pointer (some ⟨g3, 4, none⟩)) (by rfl) (by rfl) (fun W hW => ?_) ?_
 ·
  (go_simp; exact rfl)
 simp only [putT, List.set]
 refine wpV_load (cs := fel p.y) (by rfl) rfl rfl (M.r 2 1 rfl rfl) (M.lt 2 rfl) Try.underlying24 rfl info24 ?_
 simp only [putT, List.set]
 refine wpV_load (cs := fel (finv p.z)) (by rfl) rfl rfl (M.r 0 0 rfl rfl) (M.lt 0 rfl) Try.underlying24 rfl info24 ?_
 simp only [putT, List.set]
 refine wpV_callf (v := fe (fmul p.y (finv p.z))) (args := #[fe p.y, fe (finv p.z)]) (by rfl) rfl Try.func42 (by kernel_rfl) (by kernel_rfl) rfl (fun W hW => rmul04_c hp.y (finv_lt ..)) ?_
 simp only [putT, List.set]
 refine wpV_val (v := .agg ((fel (fmul p.x (finv p.z))) ++ (fel (fmul p.y (finv p.z))) : List Value).toArray) (by rfl) (by rfl) (fun W hW => ?_) ?_
 ·
  (unfold RunsVal; kernel_rfl)
 simp only [putT, List.set]
 refine wpV_nil (hLk.out _ ?_)
 clear hLk Lk
 simp only [List.take, List.drop]
 iterate 9 refine wpN_skip (by rfl) ?_
 refine wpN_nil (fun w15 Sw15 hbs => ?_)
 clear hbs
 replace M := M.sees Sw15
 refine wpL_store (g := g5) (off := 0) (n := 8) (cs := (fel (fmul p.x (finv p.z))) ++ (fel (fmul p.y (finv p.z)))) (by rfl) (by rfl) (by rfl) (by rfl) (by rfl) (M.t 1 rfl) (by simp [flen]) info32 (two4 _ _) (fun w16 P R T => ?_)
 replace M := M.put (segs' := [(0, fel (fmul p.x (finv p.z))), (4, fel (fmul p.y (finv p.z)))]) 1 rfl P T (SegsOf.at R ⟨rfl, rfl, trivial⟩)
 simp only [List.set] at M
 refine wpL_nil (no_panic ?_)
 refine hK13 _ _ ?_
 refine wp_ret ?_
 repeat (first | with_reducible refine then_ret ?_ | with_reducible refine inblock_ret ?_)
 refine bodyPost_ret (v := .agg (fel (fmul p.x (finv p.z)) ++ (fel (fmul p.y (finv p.z))) : List Value).toArray) (res1 rfl (.cell (by rfl) (run_loadVar_mid _ _ _ _ (fel (fmul p.x (finv p.z)) ++ (fel (fmul p.y (finv p.z)))) _ (range_join (M.r 1 0 rfl rfl) (M.r 1 1 rfl rfl) (by simp [flen])) Try.underlying32 rfl info32))) rfl ?_
 have BE := M.below
 exact ⟨rfl, BE⟩
set_option maxHeartbeats 2000000 in
theorem rSum_c {a b c d : Nat} {w : World} (ha : a < 2 ^ 256) (hb : b < 2 ^ 256) (hc : c < 2 ^ 256) (hd : d < 2 ^ 256) :
  Calls Try.prog 25 #[.agg (fel a ++ fel b : List Value).toArray, .agg (fel c ++ fel d : List Value).toArray] w fun e w' => e = .returned (.agg (fel (sumX a b c d) ++ fel (sumY a b c d) : List Value).toArray) ∧ Below w.heap.size w w' := by
 go_enter Try.func25, Try.ntmps25
 have M := Mem.start w
 refine wp_seq_k (fun K1 hK1 => ?_)
 refine wp_region_seq ?_
 refine wpL_var (t := 32) (cs := fel a ++ fel b) (by rfl) (fun W => ?_) (fun g3 w4 Sw4 Hg3 Bg3 => ?_)
 ·
  (first | rfl | go_simp)
 replace M := ((M.sees Sw4).addS (N := 8) (cs := fel a ++ fel b) (segs := [(0, fel a), (4, fel b)]) (M.ge Hg3) (M.fresh Hg3) Bg3 (by simp [flen]) ⟨rfl, rfl, trivial⟩)
 clear Bg3
 simp only [putT, List.set]
 refine wpL_var (t := 32) (cs := fel c ++ fel d) (by rfl) (fun W => ?_) (fun g5 w6 Sw6 Hg5 Bg5 => ?_)
 ·
  (first | rfl | go_simp)
 replace M := ((M.sees Sw6).addS (N := 8) (cs := fel c ++ fel d) (segs := [(0, fel c), (4, fel d)]) (M.ge Hg5) (M.fresh Hg5) Bg5 (by simp [flen]) ⟨rfl, rfl, trivial⟩)
 clear Bg5
 simp only [putT, List.set]
 refine wpL_var (t := 32) (cs := [.int .u64 0, .int .u64 0, .int .u64 0, .int .u64 0, .int .u64 0, .int .u64 0, .int .u64 0, .int .u64 0]) (by rfl) (fun W => ?_) (fun g7 w8 Sw8 Hg7 Bg7 => ?_)
 ·
  go_simp
 replace M := ((M.sees Sw8).addS (N := 8) (cs := [.int .u64 0, .int .u64 0, .int .u64 0, .int .u64 0, .int .u64 0, .int .u64 0, .int .u64 0, .int .u64 0]) (segs := [(0, [.int .u64 0, .int .u64 0, .int .u64 0, .int .u64 0]), (4, [.int .u64 0, .int .u64 0, .int .u64 0, .int .u64 0])]) (M.ge Hg7) (M.fresh Hg7) Bg7 rfl ⟨rfl, rfl, trivial⟩)
 clear Bg7
 simp only [putT, List.set]
 refine wpL_nil (no_panic ?_)
 refine hK1 _ _ ?_
 refine wp_seq_k (fun K9 hK9 => ?_)
 refine wp_region_seq ?_
 refine wpL_chunk 5 (by rfl) (fun Lk hLk => ?_)
 simp only [List.take, List.drop]
 refine wpV_val (v := .pointer (some ⟨g3, 0, none⟩)) (by rfl) (by rfl) (fun W hW => ?_) ?_
 ·
  (go_simp; exact rfl)
 simp only [putT, List.set]
 refine wpV_load (cs := fel a) (by rfl) rfl rfl (M.r 2 0 rfl rfl) (M.lt 2 rfl) Try.underlying24 rfl info24 ?_
 simp only [putT, List.set]
 refine wpV_val (v := .pointer (some ⟨g5, 4, none⟩)) (by rfl) (by rfl) (fun W hW => ?_) ?_
 ·
  (go_simp; exact rfl)
 simp only [putT, List.set]
 refine wpV_load (cs := fel d) (by rfl) rfl rfl (M.r 1 1 rfl rfl) (M.lt 1 rfl) Try.underlying24 rfl info24 ?_
 simp only [putT, List.set]
 refine wpV_callf (v := fe (fmul a d)) (args := #[fe a, fe d]) (by rfl) rfl Try.func42 (by kernel_rfl) (by kernel_rfl) rfl (fun W hW => rmul04_c ha hd) ?_
 simp only [putT, List.set]
 refine wpV_nil (hLk _ (fun w11 Sw11 => ?_))
 clear hLk Lk
 simp only [List.take, List.drop]
 replace M := M.sees Sw11
 refine wpL_var (t := 24) (cs := [.int .u64 0, .int .u64 0, .int .u64 0, .int .u64 0]) (by rfl) (fun W => ?_) (fun g12 w13 Sw13 Hg12 Bg12 => ?_)
 ·
  go_simp
 replace M := ((M.sees Sw13).add (N := 4) (cs := [.int .u64 0, .int .u64 0, .int .u64 0, .int .u64 0]) (M.ge Hg12) (M.fresh Hg12) Bg12 rfl)
 clear Bg12
 simp only [putT, List.set]
 refine wpL_store (g := g12) (off := 0) (n := 4) (cs := fel (fmul a d)) (by rfl) (by rfl) (by rfl) (by rfl) (by rfl) (M.t 0 rfl) (by simp [flen]) info24 (fel_one _) (fun w14 P R T => ?_)
 replace M := M.putS 0 0 rfl P R T rfl ⟨.inl rfl, trivial⟩
 simp only [List.set] at M
 refine wpL_nil (no_panic ?_)
 refine hK9 _ _ ?_
 refine wp_seq_k (fun K15 hK15 => ?_)
 refine wp_region_seq ?_
 refine wpL_chunk 5 (by rfl) (fun Lk hLk => ?_)
 simp only [List.take, List.drop]
 refine wpV_val (v := .pointer (some ⟨g5, 0, none⟩)) (by rfl) (by rfl) (fun W hW => ?_) ?_
 ·
  (go_simp; exact rfl)
 simp only [putT, List.set]
 refine wpV_load (cs := fel c) (by rfl) rfl rfl (M.r 2 0 rfl rfl) (M.lt 2 rfl) Try.underlying24 rfl info24 ?_
 simp only [putT, List.set]
 refine wpV_val (v := .pointer (some ⟨g3, 4, none⟩)) (by rfl) (by rfl) (fun W hW => ?_) ?_
 ·
  (go_simp; exact rfl)
 simp only [putT, List.set]
 refine wpV_load (cs := fel b) (by rfl) rfl rfl (M.r 3 1 rfl rfl) (M.lt 3 rfl) Try.underlying24 rfl info24 ?_
 simp only [putT, List.set]
 refine wpV_callf (v := fe (fmul c b)) (args := #[fe c, fe b]) (by rfl) rfl Try.func42 (by kernel_rfl) (by kernel_rfl) rfl (fun W hW => rmul04_c hc hb) ?_
 simp only [putT, List.set]
 refine wpV_nil (hLk _ (fun w17 Sw17 => ?_))
 clear hLk Lk
 simp only [List.take, List.drop]
 replace M := M.sees Sw17
 refine wpL_var (t := 24) (cs := [.int .u64 0, .int .u64 0, .int .u64 0, .int .u64 0]) (by rfl) (fun W => ?_) (fun g18 w19 Sw19 Hg18 Bg18 => ?_)
 ·
  go_simp
 replace M := ((M.sees Sw19).add (N := 4) (cs := [.int .u64 0, .int .u64 0, .int .u64 0, .int .u64 0]) (M.ge Hg18) (M.fresh Hg18) Bg18 rfl)
 clear Bg18
 simp only [putT, List.set]
 refine wpL_store (g := g18) (off := 0) (n := 4) (cs := fel (fmul c b)) (by rfl) (by rfl) (by rfl) (by rfl) (by rfl) (M.t 0 rfl) (by simp [flen]) info24 (fel_one _) (fun w20 P R T => ?_)
 replace M := M.putS 0 0 rfl P R T rfl ⟨.inl rfl, trivial⟩
 simp only [List.set] at M
 refine wpL_nil (no_panic ?_)
 refine hK15 _ _ ?_
 refine wp_seq_k (fun K21 hK21 => ?_)
 refine wp_region_seq ?_
 refine wpL_chunk 5 (by rfl) (fun Lk hLk => ?_)
 simp only [List.take, List.drop]
 refine wpV_val (v := .pointer (some ⟨g3, 4, none⟩)) (by rfl) (by rfl) (fun W hW => ?_) ?_
 ·
  (go_simp; exact rfl)
 simp only [putT, List.set]
 refine wpV_load (cs := fel b) (by rfl) rfl rfl (M.r 4 1 rfl rfl) (M.lt 4 rfl) Try.underlying24 rfl info24 ?_
 simp only [putT, List.set]
 refine wpV_val (v := .pointer (some ⟨g5, 4, none⟩)) (by rfl) (by rfl) (fun W hW => ?_) ?_
 ·
  (go_simp; exact rfl)
 simp only [putT, List.set]
 refine wpV_load (cs := fel d) (by rfl) rfl rfl (M.r 3 1 rfl rfl) (M.lt 3 rfl) Try.underlying24 rfl info24 ?_
 simp only [putT, List.set]
 refine wpV_callf (v := fe (fmul b d)) (args := #[fe b, fe d]) (by rfl) rfl Try.func42 (by kernel_rfl) (by kernel_rfl) rfl (fun W hW => rmul04_c hb hd) ?_
 simp only [putT, List.set]
 refine wpV_nil (hLk _ (fun w23 Sw23 => ?_))
 clear hLk Lk
 simp only [List.take, List.drop]
 replace M := M.sees Sw23
 refine wpL_var (t := 24) (cs := [.int .u64 0, .int .u64 0, .int .u64 0, .int .u64 0]) (by rfl) (fun W => ?_) (fun g24 w25 Sw25 Hg24 Bg24 => ?_)
 ·
  go_simp
 replace M := ((M.sees Sw25).add (N := 4) (cs := [.int .u64 0, .int .u64 0, .int .u64 0, .int .u64 0]) (M.ge Hg24) (M.fresh Hg24) Bg24 rfl)
 clear Bg24
 simp only [putT, List.set]
 refine wpL_store (g := g24) (off := 0) (n := 4) (cs := fel (fmul b d)) (by rfl) (by rfl) (by rfl) (by rfl) (by rfl) (M.t 0 rfl) (by simp [flen]) info24 (fel_one _) (fun w26 P R T => ?_)
 replace M := M.putS 0 0 rfl P R T rfl ⟨.inl rfl, trivial⟩
 simp only [List.set] at M
 refine wpL_nil (no_panic ?_)
 refine hK21 _ _ ?_
 refine wp_seq_k (fun K27 hK27 => ?_)
 refine wp_region_seq ?_
 refine wpL_chunk 5 (by rfl) (fun Lk hLk => ?_)
 simp only [List.take, List.drop]
 refine wpV_val (v := .pointer (some ⟨g3, 0, none⟩)) (by rfl) (by rfl) (fun W hW => ?_) ?_
 ·
  (go_simp; exact rfl)
 simp only [putT, List.set]
 refine wpV_load (cs := fel a) (by rfl) rfl rfl (M.r 5 0 rfl rfl) (M.lt 5 rfl) Try.underlying24 rfl info24 ?_
 simp only [putT, List.set]
 refine wpV_val (v := .pointer (some ⟨g5, 0, none⟩)) (by rfl) (by rfl) (fun W hW => ?_) ?_
 ·
  (go_simp; exact rfl)
 simp only [putT, List.set]
 refine wpV_load (cs := fel c) (by rfl) rfl rfl (M.r 4 0 rfl rfl) (M.lt 4 rfl) Try.underlying24 rfl info24 ?_
 simp only [putT, List.set]
 refine wpV_callf (v := fe (fmul a c)) (args := #[fe a, fe c]) (by rfl) rfl Try.func42 (by kernel_rfl) (by kernel_rfl) rfl (fun W hW => rmul04_c ha hc) ?_
 simp only [putT, List.set]
 refine wpV_nil (hLk _ (fun w29 Sw29 => ?_))
 clear hLk Lk
 simp only [List.take, List.drop]
 replace M := M.sees Sw29
 refine wpL_var (t := 24) (cs := [.int .u64 0, .int .u64 0, .int .u64 0, .int .u64 0]) (by rfl) (fun W => ?_) (fun g30 w31 Sw31 Hg30 Bg30 => ?_)
 ·
  go_simp
 replace M := ((M.sees Sw31).add (N := 4) (cs := [.int .u64 0, .int .u64 0, .int .u64 0, .int .u64 0]) (M.ge Hg30) (M.fresh Hg30) Bg30 rfl)
 clear Bg30
 simp only [putT, List.set]
 refine wpL_store (g := g30) (off := 0) (n := 4) (cs := fel (fmul a c)) (by rfl) (by rfl) (by rfl) (by rfl) (by rfl) (M.t 0 rfl) (by simp [flen]) info24 (fel_one _) (fun w32 P R T => ?_)
 replace M := M.putS 0 0 rfl P R T rfl ⟨.inl rfl, trivial⟩
 simp only [List.set] at M
 refine wpL_nil (no_panic ?_)
 refine hK27 _ _ ?_
 refine wp_seq_k (fun K33 hK33 => ?_)
 refine wp_region_grow 6 [] (by kernel_rfl) (by kernel_rfl) (by kernel_rfl) (fun Lk hLk => ?_)
 simp only [List.take, List.drop]
 refine wpV_callf (v := fe dR) (args := #[]) (by rfl) rfl Try.func44 (by kernel_rfl) (by kernel_rfl) rfl (fun W hW => rD_c) ?_
 simp only [putT, List.set]
 refine wpV_load (cs := fel (fmul a c)) (by rfl) rfl rfl (M.r 0 0 rfl rfl) (M.lt 0 rfl) Try.underlying24 rfl info24 ?_
 simp only [putT, List.set]
 refine wpV_load (cs := fel (fmul b d)) (by rfl) rfl rfl (M.r 1 0 rfl rfl) (M.lt 1 rfl) Try.underlying24 rfl info24 ?_
 simp only [putT, List.set]
 refine wpV_callf (v := fe (fmul (fmul a c) (fmul b d))) (args := #[fe (fmul a c), fe (fmul b d)]) (by rfl) rfl Try.func42 (by kernel_rfl) (by kernel_rfl) rfl (fun W hW => rmul04_c (fmul_lt ..) (fmul_lt ..)) ?_
 simp only [putT, List.set]
 refine wpV_callf (v := fe (fmul dR (fmul (fmul a c) (fmul b d)))) (args := #[fe dR, fe (fmul (fmul a c) (fmul b d))]) (by rfl) rfl Try.func42 (by kernel_rfl) (by kernel_rfl) rfl (fun W hW => rmul04_c dR_lt (fmul_lt ..)) ?_
 simp only [putT, List.set]
 refine wpV_alloc (by rfl) ?_
 refine wpV_nil (hLk.out _ ?_)
 clear hLk Lk
 simp only [List.take, List.drop]
 iterate 5 refine wpN_skip (by rfl) ?_
 refine wpN_new (t := 24) (cs := ([.int .u64 0, .int .u64 0, .int .u64 0, .int .u64 0]).toArray) (by rfl) (fun W => ?_) (fun g35 Hg35 ng35 => ?_)
 ·
  go_simp
 simp only [putT, List.set]
 refine wpN_nil (fun w36 Sw36 hbs => ?_)
 replace M := ((M.sees Sw36).add (N := 4) (cs := [.int .u64 0, .int .u64 0, .int .u64 0, .int .u64 0]) (M.ge Hg35) (M.fresh Hg35) (hbs _ (.head _)) rfl)
 clear hbs ng35
 refine wpL_store (g := g35) (off := 0) (n := 4) (cs := fel (fmul dR (fmul (fmul a c) (fmul b d)))) (by rfl) (by rfl) (by rfl) (by rfl) (by rfl) (M.t 0 rfl) (by simp [flen]) info24 (fel_one _) (fun w37 P R T => ?_)
 replace M := M.putS 0 0 rfl P R T rfl ⟨.inl rfl, trivial⟩
 simp only [List.set] at M
 refine wpL_nil (no_panic ?_)
 refine hK33 _ _ ?_
 refine wp_seq_k (fun K38 hK38 => ?_)
 refine wp_region_seq ?_
 refine wpL_chunk 1 (by rfl) (fun Lk hLk => ?_)
 simp only [List.take, List.drop]
 refine wpV_val (v := fe 1) (by rfl) (by rfl) (fun W hW => ?_) ?_
 ·
  rw [show fe 1 = .agg ([.int .u64 1, .int .u64 0, .int .u64 0, .int .u64 0]).toArray from (by kernel_rfl)]; unfold RunsVal; kernel_rfl
 simp only [putT, List.set]
 refine wpV_nil (hLk _ (fun w40 Sw40 => ?_))
 clear hLk Lk
 simp only [List.take, List.drop]
 replace M := M.sees Sw40
 refine wpL_var (t := 24) (cs := [.int .u64 0, .int .u64 0, .int .u64 0, .int .u64 0]) (by rfl) (fun W => ?_) (fun g41 w42 Sw42 Hg41 Bg41 => ?_)
 ·
  go_simp
 replace M := ((M.sees Sw42).add (N := 4) (cs := [.int .u64 0, .int .u64 0, .int .u64 0, .int .u64 0]) (M.ge Hg41) (M.fresh Hg41) Bg41 rfl)
 clear Bg41
 simp only [putT, List.set]
 refine wpL_store (g := g41) (off := 0) (n := 4) (cs := fel 1) (by rfl) (by rfl) (by rfl) (by rfl) (by rfl) (M.t 0 rfl) (by simp [flen]) info24 (fel_one _) (fun w43 P R T => ?_)
 replace M := M.putS 0 0 rfl P R T rfl ⟨.inl rfl, trivial⟩
 simp only [List.set] at M
 refine wpL_nil (no_panic ?_)
 refine hK38 _ _ ?_
 refine wp_seq_k (fun K44 hK44 => ?_)
 refine wp_region_grow 17 [] (by kernel_rfl) (by kernel_rfl) (by kernel_rfl) (fun Lk hLk => ?_)
 simp only [List.take, List.drop]
 refine wpV_load (cs := fel (fmul a d)) (by rfl) rfl rfl (M.r 5 0 rfl rfl) (M.lt 5 rfl) Try.underlying24 rfl info24 ?_
 simp only [putT, List.set]
 refine wpV_load (cs := fel (fmul c b)) (by rfl) rfl rfl (M.r 4 0 rfl rfl) (M.lt 4 rfl) Try.underlying24 rfl info24 ?_
 simp only [putT, List.set]
 refine wpV_callf (v := fe (fadd (fmul a d) (fmul c b))) (args := #[fe (fmul a d), fe (fmul c b)]) (by rfl) rfl Try.func50 (by kernel_rfl) (by kernel_rfl) rfl (fun W hW => radd04_c (fmul_lt ..) (fmul_lt ..)) ?_
 simp only [putT, List.set]
 refine wpV_load (cs := fel 1) (by rfl) rfl rfl (M.r 0 0 rfl rfl) (M.lt 0 rfl) Try.underlying24 rfl info24 ?_
 simp only [putT, List.set]
 refine wpV_load (cs := fel (fmul dR (fmul (fmul a c) (fmul b d)))) (by rfl) rfl rfl (M.r 1 0 rfl rfl) (M.lt 1 rfl) Try.underlying24 rfl info24 ?_
 simp only [putT, List.set]
 refine wpV_callf (v := fe (fadd 1 (fmul dR (fmul (fmul a c) (fmul b d))))) (args := #[fe 1, fe (fmul dR (fmul (fmul a c) (fmul b d)))]) (by rfl) rfl Try.func50 (by kernel_rfl) (by kernel_rfl) rfl (fun W hW => radd04_c (by decide) (fmul_lt ..)) ?_
 simp only [putT, List.set]
 refine wpV_callf (v := fe (finv (fadd 1 (fmul dR (fmul (fmul a c) (fmul b d)))))) (args := #[fe (fadd 1 (fmul dR (fmul (fmul a c) (fmul b d))))]) (by rfl) rfl Try.func48 (by kernel_rfl) (by kernel_rfl) rfl (fun W hW => rinv_c (fadd_lt ..)) ?_
 simp only [putT, List.set]
 refine wpV_callf (v := fe (fmul (fadd (fmul a d) (fmul c b)) (finv (fadd 1 (fmul dR (fmul (fmul a c) (fmul b d))))))) (args := #[fe (fadd (fmul a d) (fmul c b)), fe (finv (fadd 1 (fmul dR (fmul (fmul a c) (fmul b d)))))]) (by rfl) rfl Try.func42 (by kernel_rfl) (by kernel_rfl) rfl (fun W hW => rmul04_c (fadd_lt ..) (finv_lt _)) ?_
 simp only [putT, List.set]
 refine wpV_load (cs := fel (fmul b d)) (by rfl) rfl rfl (M.r 3 0 rfl rfl) (M.lt 3 rfl) Try.underlying24 rfl info24 ?_
 simp only [putT, List.set]
 refine wpV_load (cs := fel (fmul a c)) (by rfl) rfl rfl (M.r 2 0 rfl rfl) (M.lt 2 rfl) Try.underlying24 rfl info24 ?_
 simp only [putT, List.set]
 refine wpV_callf (v := fe (fadd (fmul b d) (fmul a c))) (args := #[fe (fmul b d), fe (fmul a c)]) (by rfl) rfl Try.func50 (by kernel_rfl) (by kernel_rfl) rfl (fun W hW => radd04_c (fmul_lt ..) (fmul_lt ..)) ?_
 simp only [putT, List.set]
 refine wpV_load (cs := fel 1) (by rfl) rfl rfl (M.r 0 0 rfl rfl) (M.lt 0 rfl) Try.underlying24 rfl info24 ?_
 simp only [putT, List.set]
 refine wpV_load (cs := fel (fmul dR (fmul (fmul a c) (fmul b d)))) (by rfl) rfl rfl (M.r 1 0 rfl rfl) (M.lt 1 rfl) Try.underlying24 rfl info24 ?_
 simp only [putT, List.set]
 refine wpV_callf (v := fe (fsub 1 (fmul dR (fmul (fmul a c) (fmul b d))))) (args := #[fe 1, fe (fmul dR (fmul (fmul a c) (fmul b d)))]) (by rfl) rfl Try.func37 (by kernel_rfl) (by kernel_rfl) rfl (fun W hW => rsub04_c (by decide) (fmul_lt ..)) ?_
 simp only [putT, List.set]
 refine wpV_callf (v := fe (finv (fsub 1 (fmul dR (fmul (fmul a c) (fmul b d)))))) (args := #[fe (fsub 1 (fmul dR (fmul (fmul a c) (fmul b d))))]) (by rfl) rfl Try.func48 (by kernel_rfl) (by kernel_rfl) rfl (fun W hW => rinv_c (fsub_lt ..)) ?_
 simp only [putT, List.set]
 refine wpV_callf (v := fe (fmul (fadd (fmul b d) (fmul a c)) (finv (fsub 1 (fmul dR (fmul (fmul a c) (fmul b d))))))) (args := #[fe (fadd (fmul b d) (fmul a c)), fe (finv (fsub 1 (fmul dR (fmul (fmul a c) (fmul b d)))))]) (by rfl) rfl Try.func42 (by kernel_rfl) (by kernel_rfl) rfl (fun W hW => rmul04_c (fadd_lt ..) (finv_lt _)) ?_
 simp only [putT, List.set]
 refine wpV_val (v := .agg ((fel (fmul (fadd (fmul a d) (fmul c b)) (finv (fadd 1 (fmul dR (fmul (fmul a c) (fmul b d))))))) ++ (fel (fmul (fadd (fmul b d) (fmul a c)) (finv (fsub 1 (fmul dR (fmul (fmul a c) (fmul b d))))))) : List Value).toArray) (by rfl) (by rfl) (fun W hW => ?_) ?_
 ·
  (unfold RunsVal; kernel_rfl)
 simp only [putT, List.set]
 refine wpV_nil (hLk.out _ ?_)
 clear hLk Lk
 simp only [List.take, List.drop]
 iterate 17 refine wpN_skip (by rfl) ?_
 refine wpN_nil (fun w46 Sw46 hbs => ?_)
 clear hbs
 replace M := M.sees Sw46
 refine wpL_store (g := g7) (off := 0) (n := 8) (cs := (fel (fmul (fadd (fmul a d) (fmul c b)) (finv (fadd 1 (fmul dR (fmul (fmul a c) (fmul b d))))))) ++ (fel (fmul (fadd (fmul b d) (fmul a c)) (finv (fsub 1 (fmul dR (fmul (fmul a c) (fmul b d)))))))) (by rfl) (by rfl) (by rfl) (by rfl) (by rfl) (M.t 6 rfl) (by simp [flen]) info32 (two4 _ _) (fun w47 P R T => ?_)
 replace M := M.put (segs' := [(0, fel (fmul (fadd (fmul a d) (fmul c b)) (finv (fadd 1 (fmul dR (fmul (fmul a c) (fmul b d))))))), (4, fel (fmul (fadd (fmul b d) (fmul a c)) (finv (fsub 1 (fmul dR (fmul (fmul a c) (fmul b d)))))))]) 6 rfl P T (SegsOf.at R ⟨rfl, rfl, trivial⟩)
 simp only [List.set] at M
 refine wpL_nil (no_panic ?_)
 refine hK44 _ _ ?_
 refine wp_ret ?_
 repeat (first | with_reducible refine then_ret ?_ | with_reducible refine inblock_ret ?_)
 refine bodyPost_ret (v := .agg (fel (fmul (fadd (fmul a d) (fmul c b)) (finv (fadd 1 (fmul dR (fmul (fmul a c) (fmul b d)))))) ++ (fel (fmul (fadd (fmul b d) (fmul a c)) (finv (fsub 1 (fmul dR (fmul (fmul a c) (fmul b d))))))) : List Value).toArray) (res1 rfl (.cell (by rfl) (run_loadVar_mid _ _ _ _ (fel (fmul (fadd (fmul a d) (fmul c b)) (finv (fadd 1 (fmul dR (fmul (fmul a c) (fmul b d)))))) ++ (fel (fmul (fadd (fmul b d) (fmul a c)) (finv (fsub 1 (fmul dR (fmul (fmul a c) (fmul b d)))))))) _ (range_join (M.r 6 0 rfl rfl) (M.r 6 1 rfl rfl) (by simp [flen])) Try.underlying32 rfl info32))) rfl ?_
 have BE := M.below
 exact ⟨rfl, BE⟩
end Go.Proofs.Yc

