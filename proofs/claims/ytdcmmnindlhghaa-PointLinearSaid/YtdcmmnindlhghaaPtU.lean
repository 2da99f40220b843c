import Derived.WalkKit
import Derived.WalkSpells
import Derived.Laws.Pointers
import Derived.RowKit3
import Derived.Below
import Derived.Outline
import Derived.LoopN
import Derived.Lib.Hide
import Derived.Handy
import Derived.Laws.Bits64b
import Derived.Test.YtdcmmnindlhghaaPtT
import Derived.Test.YtdcmmnindlhghaaEqS
import Derived.Test.YtdcmmnindlhghaaJoin
import Derived.Test.YtdcmmnindlhghaaF9
import Derived.Test.YtdcmmnindlhghaaPtL
set_option linter.unusedSimpArgs false
set_option linter.unusedVariables false
namespace Go.Proofs.Yc
open Go Go.RowKit Go.Proofs.Num
attribute [local irreducible] wpV wpN wpList
open Go.Proofs.Ya
theorem lin_add {n m : Nat} (hn : n < 2 ^ 256) (hm : m < 2 ^ 256) : Eqv (addP (mulR n baseP 256) (mulR m baseP 256)) (mulR (sadd n m) baseP 256) := by
 have hb := base_ptq
 have h1 := add_congr (mulR_ptq hb 256) (mulR_ptq hb 256) (times_ptq hb _) (times_ptq hb _) (mul_times hb hn) (mul_times hb hm)
 have h2 := (times_mod (n + m)).trans (times_add hb n m)
 exact (h1.trans h2.symm).trans (mul_times hb (sadd_lt n m)).symm
theorem lin_mul {n m : Nat} (hn : n < 2 ^ 256) (hm : m < 2 ^ 256) : Eqv (mulR m (mulR n baseP 256) 256) (mulR (smul n m) baseP 256) := by
 have hb := base_ptq
 have hp := mulR_ptq (n := n) hb 256
 have h1 := (mul_times hp hm).trans (times_congr hp (times_ptq hb n) (mul_times hb hn) m)
 have h2 := (times_mod (n * m)).trans (times_mul hb n m)
 exact (h1.trans h2.symm).trans (mul_times hb (smul_lt n m)).symm
set_option maxHeartbeats 4000000 in
theorem plinear_a {n m : Nat} {pa pb pc pd pe : P4} {w : World} (hn : n < 2 ^ 256) (hm : m < 2 ^ 256) (hpa : pa.Ok) (epa : mulR n baseP 256 = pa) (rpa : rightP pa = true) (hpb : pb.Ok) (epb : mulR m baseP 256 = pb) (rpb : rightP pb = true) (hpc : pc.Ok) (epc : mulR (sadd n m) baseP 256 = pc) (rpc : rightP pc = true) (hpd : pd.Ok) (epd : mulR m pa 256 = pd) (rpd : rightP pd = true) (hpe : pe.Ok) (epe : mulR (smul n m) baseP 256 = pe) (rpe : rightP pe = true) (eqA : Eqv (addP pa pb) pc) (eqM : Eqv pd pe) :
  Calls Try.prog 9 #[fe n, fe m] w fun e w' => e = .returned (.bool true) ∧ Below w.heap.size w w' := by
 go_enter Try.func9, Try.ntmps9
 have M := Mem.start w
 refine wp_seq_k (fun K1 hK1 => ?_)
 refine wp_region_seq ?_
 refine wpL_var (t := 39) (cs := fel n) (by rfl) (fun W => ?_) (fun g3 w4 Sw4 Hg3 Bg3 => ?_)
 ·
  (first | rfl | go_simp)
 replace M := ((M.sees Sw4).add (N := 4) (cs := fel n) (M.ge Hg3) (M.fresh Hg3) Bg3 rfl)
 clear Bg3
 simp only [putT, List.set]
 refine wpL_var (t := 39) (cs := fel m) (by rfl) (fun W => ?_) (fun g5 w6 Sw6 Hg5 Bg5 => ?_)
 ·
  (first | rfl | go_simp)
 replace M := ((M.sees Sw6).add (N := 4) (cs := fel m) (M.ge Hg5) (M.fresh Hg5) Bg5 rfl)
 clear Bg5
 simp only [putT, List.set]
 refine wpL_assign (v := .bool false) (by rfl) (by rfl) (by rfl) ?_
 simp only [putT, List.set]
 refine wpL_nil (no_panic ?_)
 refine hK1 _ _ ?_
 refine wp_seq_k (fun K7 hK7 => ?_)
 refine wp_region_seq ?_
 refine wpL_chunk 1 (by rfl) (fun Lk hLk => ?_)
 simp only [List.take, List.drop]
 refine wpV_callf (v := .agg (fel baseP.x ++ fel baseP.y ++ fel baseP.z ++ fel baseP.t : List Value).toArray) (args := #[]) (by rfl) rfl Try.func16 (by kernel_rfl) (by kernel_rfl) rfl (fun W hW => Base_c) ?_
 simp only [putT, List.set]
 refine wpV_nil (hLk _ (fun w9 Sw9 => ?_))
 clear hLk Lk
 simp only [List.take, List.drop]
 replace M := M.sees Sw9
 refine wpL_var (t := 26) (cs := [.int .u64 0, .int .u64 0, .int .u64 0, .int .u64 0, .int .u64 0, .int .u64 0, .int .u64 0, .int .u64 0, .int .u64 0, .int .u64 0, .int .u64 0, .int .u64 0, .int .u64 0, .int .u64 0, .int .u64 0, .int .u64 0]) (by rfl) (fun W => ?_) (fun g10 w11 Sw11 Hg10 Bg10 => ?_)
 ·
  go_simp
 replace M := ((M.sees Sw11).addS (N := 16) (cs := [.int .u64 0, .int .u64 0, .int .u64 0, .int .u64 0, .int .u64 0, .int .u64 0, .int .u64 0, .int .u64 0, .int .u64 0, .int .u64 0, .int .u64 0, .int .u64 0, .int .u64 0, .int .u64 0, .int .u64 0, .int .u64 0]) (segs := [(0, [.int .u64 0, .int .u64 0, .int .u64 0, .int .u64 0]), (4, [.int .u64 0, .int .u64 0, .int .u64 0, .int .u64 0]), (8, [.int .u64 0, .int .u64 0, .int .u64 0, .int .u64 0]), (12, [.int .u64 0, .int .u64 0, .int .u64 0, .int .u64 0])]) (M.ge Hg10) (M.fresh Hg10) Bg10 rfl ⟨rfl, rfl, rfl, rfl, trivial⟩)
 clear Bg10
 simp only [putT, List.set]
 refine wpL_store (g := g10) (off := 0) (n := 16) (cs := fel baseP.x ++ fel baseP.y ++ fel baseP.z ++ fel baseP.t) (by rfl) (by rfl) (by rfl) (by rfl) (by rfl) (M.t 0 rfl) (by simp [flen]) info26 (one4 _ _ _ _) (fun w12 P R T => ?_)
 replace M := M.put (segs' := [(0, fel baseP.x), (4, fel baseP.y), (8, fel baseP.z), (12, fel baseP.t)]) 0 rfl P T (SegsOf.at R ⟨rfl, rfl, rfl, rfl, trivial⟩)
 simp only [List.set] at M
 refine wpL_nil (no_panic ?_)
 refine hK7 _ _ ?_
 refine wp_seq_k (fun K13 hK13 => ?_)
 refine wp_region_seq ?_
 refine wpL_chunk 6 (by rfl) (fun Lk hLk => ?_)
 simp only [List.take, List.drop]
 refine wpV_load (cs := fel n) (by rfl) rfl rfl (M.r 2 0 rfl rfl) (M.lt 2 rfl) Try.underlying39 rfl info39 ?_
 simp only [putT, List.set]
 refine wpV_load (cs := fel baseP.x ++ (fel baseP.y) ++ (fel baseP.z) ++ (fel baseP.t)) (by rfl) rfl rfl (range_join (range_join (range_join (M.r 0 0 rfl rfl) (M.r 0 1 rfl rfl) (by simp [flen])) (M.r 0 2 rfl rfl) (by simp [flen])) (M.r 0 3 rfl rfl) (by simp [flen])) (M.lt 0 rfl) Try.underlying26 rfl info26 ?_
 simp only [putT, List.set]
 refine wpV_callf (v := .tuple #[.agg (fel pa.x ++ fel pa.y ++ fel pa.z ++ fel pa.t : List Value).toArray, .int .i64 0]) (args := #[fe n, .agg (fel baseP.x ++ (fel baseP.y) ++ (fel baseP.z) ++ (fel baseP.t) : List Value).toArray]) (by rfl) rfl Try.func23 (by kernel_rfl) (by kernel_rfl) rfl (fun W hW => (by have h9 := Mul_ok (n := n) (p := baseP) (w := W) hn baseP_ok rightP_base; rw [epa] at h9; exact h9)) ?_
 simp only [putT, List.set]
 refine wpV_move (v := .tuple #[.agg (fel pa.x ++ fel pa.y ++ fel pa.z ++ fel pa.t : List Value).toArray, .int .i64 0]) (by rfl) rfl rfl ?_
 simp only [putT, List.set]
 refine wpV_extract (v := .agg (fel pa.x ++ fel pa.y ++ fel pa.z ++ fel pa.t : List Value).toArray) (by rfl) rfl rfl rfl ?_
 simp only [putT, List.set]
 refine wpV_extract (v := .int .i64 0) (by rfl) rfl rfl rfl ?_
 simp only [putT, List.set]
 refine wpV_nil (hLk _ (fun w15 Sw15 => ?_))
 clear hLk Lk
 simp only [List.take, List.drop]
 replace M := M.sees Sw15
 refine wpL_var (t := 26) (cs := [.int .u64 0, .int .u64 0, .int .u64 0, .int .u64 0, .int .u64 0, .int .u64 0, .int .u64 0, .int .u64 0, .int .u64 0, .int .u64 0, .int .u64 0, .int .u64 0, .int .u64 0, .int .u64 0, .int .u64 0, .int .u64 0]) (by rfl) (fun W => ?_) (fun g16 w17 Sw17 Hg16 Bg16 => ?_)
 ·
  go_simp
 replace M := ((M.sees Sw17).addS (N := 16) (cs := [.int .u64 0, .int .u64 0, .int .u64 0, .int .u64 0, .int .u64 0, .int .u64 0, .int .u64 0, .int .u64 0, .int .u64 0, .int .u64 0, .int .u64 0, .int .u64 0, .int .u64 0, .int .u64 0, .int .u64 0, .int .u64 0]) (segs := [(0, [.int .u64 0, .int .u64 0, .int .u64 0, .int .u64 0]), (4, [.int .u64 0, .int .u64 0, .int .u64 0, .int .u64 0]), (8, [.int .u64 0, .int .u64 0, .int .u64 0, .int .u64 0]), (12, [.int .u64 0, .int .u64 0, .int .u64 0, .int .u64 0])]) (M.ge Hg16) (M.fresh Hg16) Bg16 rfl ⟨rfl, rfl, rfl, rfl, trivial⟩)
 clear Bg16
 simp only [putT, List.set]
 refine wpL_store (g := g16) (off := 0) (n := 16) (cs := fel pa.x ++ fel pa.y ++ fel pa.z ++ fel pa.t) (by rfl) (by rfl) (by rfl) (by rfl) (by rfl) (M.t 0 rfl) (by simp [flen]) info26 (one4 _ _ _ _) (fun w18 P R T => ?_)
 replace M := M.put (segs' := [(0, fel pa.x), (4, fel pa.y), (8, fel pa.z), (12, fel pa.t)]) 0 rfl P T (SegsOf.at R ⟨rfl, rfl, rfl, rfl, trivial⟩)
 simp only [List.set] at M
 refine wpL_assign (v := .int .i64 0) (by rfl) (by rfl) (by rfl) ?_
 simp only [putT, List.set]
 refine wpL_nil (no_panic ?_)
 refine hK13 _ _ ?_
 refine wp_seq_k (fun K19 hK19 => ?_)
 refine wp_region_seq ?_
 refine wpL_chunk 6 (by rfl) (fun Lk hLk => ?_)
 simp only [List.take, List.drop]
 refine wpV_load (cs := fel m) (by rfl) rfl rfl (M.r 2 0 rfl rfl) (M.lt 2 rfl) Try.underlying39 rfl info39 ?_
 simp only [putT, List.set]
 refine wpV_load (cs := fel baseP.x ++ (fel baseP.y) ++ (fel baseP.z) ++ (fel baseP.t)) (by rfl) rfl rfl (range_join (range_join (range_join (M.r 1 0 rfl rfl) (M.r 1 1 rfl rfl) (by simp [flen])) (M.r 1 2 rfl rfl) (by simp [flen])) (M.r 1 3 rfl rfl) (by simp [flen])) (M.lt 1 rfl) Try.underlying26 rfl info26 ?_
 simp only [putT, List.set]
 refine wpV_callf (v := .tuple #[.agg (fel pb.x ++ fel pb.y ++ fel pb.z ++ fel pb.t : List Value).toArray, .int .i64 0]) (args := #[fe m, .agg (fel baseP.x ++ (fel baseP.y) ++ (fel baseP.z) ++ (fel baseP.t) : List Value).toArray]) (by rfl) rfl Try.func23 (by kernel_rfl) (by kernel_rfl) rfl (fun W hW => (by have h9 := Mul_ok (n := m) (p := baseP) (w := W) hm baseP_ok rightP_base; rw [epb] at h9; exact h9)) ?_
 simp only [putT, List.set]
 refine wpV_move (v := .tuple #[.agg (fel pb.x ++ fel pb.y ++ fel pb.z ++ fel pb.t : List Value).toArray, .int .i64 0]) (by rfl) rfl rfl ?_
 simp only [putT, List.set]
 refine wpV_extract (v := .agg (fel pb.x ++ fel pb.y ++ fel pb.z ++ fel pb.t : List Value).toArray) (by rfl) rfl rfl rfl ?_
 simp only [putT, List.set]
 refine wpV_extract (v := .int .i64 0) (by rfl) rfl rfl rfl ?_
 simp only [putT, List.set]
 refine wpV_nil (hLk _ (fun w21 Sw21 => ?_))
 clear hLk Lk
 simp only [List.take, List.drop]
 replace M := M.sees Sw21
 refine wpL_var (t := 26) (cs := [.int .u64 0, .int .u64 0, .int .u64 0, .int .u64 0, .int .u64 0, .int .u64 0, .int .u64 0, .int .u64 0, .int .u64 0, .int .u64 0, .int .u64 0, .int .u64 0, .int .u64 0, .int .u64 0, .int .u64 0, .int .u64 0]) (by rfl) (fun W => ?_) (fun g22 w23 Sw23 Hg22 Bg22 => ?_)
 ·
  go_simp
 replace M := ((M.sees Sw23).addS (N := 16) (cs := [.int .u64 0, .int .u64 0, .int .u64 0, .int .u64 0, .int .u64 0, .int .u64 0, .int .u64 0, .int .u64 0, .int .u64 0, .int .u64 0, .int .u64 0, .int .u64 0, .int .u64 0, .int .u64 0, .int .u64 0, .int .u64 0]) (segs := [(0, [.int .u64 0, .int .u64 0, .int .u64 0, .int .u64 0]), (4, [.int .u64 0, .int .u64 0, .int .u64 0, .int .u64 0]), (8, [.int .u64 0, .int .u64 0, .int .u64 0, .int .u64 0]), (12, [.int .u64 0, .int .u64 0, .int .u64 0, .int .u64 0])]) (M.ge Hg22) (M.fresh Hg22) Bg22 rfl ⟨rfl, rfl, rfl, rfl, trivial⟩)
 clear Bg22
 simp only [putT, List.set]
 refine wpL_store (g := g22) (off := 0) (n := 16) (cs := fel pb.x ++ fel pb.y ++ fel pb.z ++ fel pb.t) (by rfl) (by rfl) (by rfl) (by rfl) (by rfl) (M.t 0 rfl) (by simp [flen]) info26 (one4 _ _ _ _) (fun w24 P R T => ?_)
 replace M := M.put (segs' := [(0, fel pb.x), (4, fel pb.y), (8, fel pb.z), (12, fel pb.t)]) 0 rfl P T (SegsOf.at R ⟨rfl, rfl, rfl, rfl, trivial⟩)
 simp only [List.set] at M
 refine wpL_assign (v := .int .i64 0) (by rfl) (by rfl) (by rfl) ?_
 simp only [putT, List.set]
 refine wpL_nil (no_panic ?_)
 refine hK19 _ _ ?_
 refine wp_seq_k (fun K25 hK25 => ?_)
 refine wp_region_seq ?_
 refine wpL_chunk 6 (by rfl) (fun Lk hLk => ?_)
 simp only [List.take, List.drop]
 refine wpV_load (cs := fel pa.x ++ (fel pa.y) ++ (fel pa.z) ++ (fel pa.t)) (by rfl) rfl rfl (range_join (range_join (range_join (M.r 1 0 rfl rfl) (M.r 1 1 rfl rfl) (by simp [flen])) (M.r 1 2 rfl rfl) (by simp [flen])) (M.r 1 3 rfl rfl) (by simp [flen])) (M.lt 1 rfl) Try.underlying26 rfl info26 ?_
 simp only [putT, List.set]
 refine wpV_load (cs := fel pb.x ++ (fel pb.y) ++ (fel pb.z) ++ (fel pb.t)) (by rfl) rfl rfl (range_join (range_join (range_join (M.r 0 0 rfl rfl) (M.r 0 1 rfl rfl) (by simp [flen])) (M.r 0 2 rfl rfl) (by simp [flen])) (M.r 0 3 rfl rfl) (by simp [flen])) (M.lt 0 rfl) Try.underlying26 rfl info26 ?_
 simp only [putT, List.set]
 refine wpV_callf (v := .tuple #[.agg (fel (addP pa pb).x ++ fel (addP pa pb).y ++ fel (addP pa pb).z ++ fel (addP pa pb).t : List Value).toArray, .int .i64 0]) (args := #[.agg (fel pa.x ++ (fel pa.y) ++ (fel pa.z) ++ (fel pa.t) : List Value).toArray, .agg (fel pb.x ++ (fel pb.y) ++ (fel pb.z) ++ (fel pb.t) : List Value).toArray]) (by rfl) rfl Try.func21 (by kernel_rfl) (by kernel_rfl) rfl (fun W hW => Add_ok hpa hpb rpa rpb) ?_
 simp only [putT, List.set]
 refine wpV_move (v := .tuple #[.agg (fel (addP pa pb).x ++ fel (addP pa pb).y ++ fel (addP pa pb).z ++ fel (addP pa pb).t : List Value).toArray, .int .i64 0]) (by rfl) rfl rfl ?_
 simp only [putT, List.set]
 refine wpV_extract (v := .agg (fel (addP pa pb).x ++ fel (addP pa pb).y ++ fel (addP pa pb).z ++ fel (addP pa pb).t : List Value).toArray) (by rfl) rfl rfl rfl ?_
 simp only [putT, List.set]
 refine wpV_extract (v := .int .i64 0) (by rfl) rfl rfl rfl ?_
 simp only [putT, List.set]
 refine wpV_nil (hLk _ (fun w27 Sw27 => ?_))
 clear hLk Lk
 simp only [List.take, List.drop]
 replace M := M.sees Sw27
 refine wpL_var (t := 26) (cs := [.int .u64 0, .int .u64 0, .int .u64 0, .int .u64 0, .int .u64 0, .int .u64 0, .int .u64 0, .int .u64 0, .int .u64 0, .int .u64 0, .int .u64 0, .int .u64 0, .int .u64 0, .int .u64 0, .int .u64 0, .int .u64 0]) (by rfl) (fun W => ?_) (fun g28 w29 Sw29 Hg28 Bg28 => ?_)
 ·
  go_simp
 replace M := ((M.sees Sw29).addS (N := 16) (cs := [.int .u64 0, .int .u64 0, .int .u64 0, .int .u64 0, .int .u64 0, .int .u64 0, .int .u64 0, .int .u64 0, .int .u64 0, .int .u64 0, .int .u64 0, .int .u64 0, .int .u64 0, .int .u64 0, .int .u64 0, .int .u64 0]) (segs := [(0, [.int .u64 0, .int .u64 0, .int .u64 0, .int .u64 0]), (4, [.int .u64 0, .int .u64 0, .int .u64 0, .int .u64 0]), (8, [.int .u64 0, .int .u64 0, .int .u64 0, .int .u64 0]), (12, [.int .u64 0, .int .u64 0, .int .u64 0, .int .u64 0])]) (M.ge Hg28) (M.fresh Hg28) Bg28 rfl ⟨rfl, rfl, rfl, rfl, trivial⟩)
 clear Bg28
 simp only [putT, List.set]
 refine wpL_store (g := g28) (off := 0) (n := 16) (cs := fel (addP pa pb).x ++ fel (addP pa pb).y ++ fel (addP pa pb).z ++ fel (addP pa pb).t) (by rfl) (by rfl) (by rfl) (by rfl) (by rfl) (M.t 0 rfl) (by simp [flen]) info26 (one4 _ _ _ _) (fun w30 P R T => ?_)
 replace M := M.put (segs' := [(0, fel (addP pa pb).x), (4, fel (addP pa pb).y), (8, fel (addP pa pb).z), (12, fel (addP pa pb).t)]) 0 rfl P T (SegsOf.at R ⟨rfl, rfl, rfl, rfl, trivial⟩)
 simp only [List.set] at M
 refine wpL_assign (v := .int .i64 0) (by rfl) (by rfl) (by rfl) ?_
 simp only [putT, List.set]
 refine wpL_nil (no_panic ?_)
 refine hK25 _ _ ?_
 refine wp_seq_k (fun K31 hK31 => ?_)
 refine wp_region_grow 9 [7] (by kernel_rfl) (by kernel_rfl) (by kernel_rfl) (fun Lk hLk => ?_)
 simp only [List.take, List.drop]
 refine wpV_load (cs := fel n) (by rfl) rfl rfl (M.r 5 0 rfl rfl) (M.lt 5 rfl) Try.underlying39 rfl info39 ?_
 simp only [putT, List.set]
 refine wpV_load (cs := fel m) (by rfl) rfl rfl (M.r 4 0 rfl rfl) (M.lt 4 rfl) Try.underlying39 rfl info39 ?_
 simp only [putT, List.set]
 refine wpV_callf (v := fe (sadd n m)) (args := #[fe n, fe m]) (by rfl) rfl Try.func28 (by kernel_rfl) (by kernel_rfl) rfl (fun W hW => sadd_c hn hm W) ?_
 simp only [putT, List.set]
 refine wpV_load (cs := fel baseP.x ++ (fel baseP.y) ++ (fel baseP.z) ++ (fel baseP.t)) (by rfl) rfl rfl (range_join (range_join (range_join (M.r 3 0 rfl rfl) (M.r 3 1 rfl rfl) (by simp [flen])) (M.r 3 2 rfl rfl) (by simp [flen])) (M.r 3 3 rfl rfl) (by simp [flen])) (M.lt 3 rfl) Try.underlying26 rfl info26 ?_
 simp only [putT, List.set]
 refine wpV_callf (v := .tuple #[.agg (fel pc.x ++ fel pc.y ++ fel pc.z ++ fel pc.t : List Value).toArray, .int .i64 0]) (args := #[fe (sadd n m), .agg (fel baseP.x ++ (fel baseP.y) ++ (fel baseP.z) ++ (fel baseP.t) : List Value).toArray]) (by rfl) rfl Try.func23 (by kernel_rfl) (by kernel_rfl) rfl (fun W hW => (by have h9 := Mul_ok (n := sadd n m) (p := baseP) (w := W) (sadd_lt ..) baseP_ok rightP_base; rw [epc] at h9; exact h9)) ?_
 simp only [putT, List.set]
 refine wpV_move (v := .tuple #[.agg (fel pc.x ++ fel pc.y ++ fel pc.z ++ fel pc.t : List Value).toArray, .int .i64 0]) (by rfl) rfl rfl ?_
 simp only [putT, List.set]
 refine wpV_extract (v := .agg (fel pc.x ++ fel pc.y ++ fel pc.z ++ fel pc.t : List Value).toArray) (by rfl) rfl rfl rfl ?_
 simp only [putT, List.set]
 refine wpV_extract (v := .int .i64 0) (by rfl) rfl rfl rfl ?_
 simp only [putT, List.set]
 refine wpV_alloc (by rfl) ?_
 refine wpV_nil (hLk.out _ ?_)
 clear hLk Lk
 simp only [List.take, List.drop]
 iterate 8 refine wpN_skip (by rfl) ?_
 refine wpN_new (t := 26) (cs := ([.int .u64 0, .int .u64 0, .int .u64 0, .int .u64 0, .int .u64 0, .int .u64 0, .int .u64 0, .int .u64 0, .int .u64 0, .int .u64 0, .int .u64 0, .int .u64 0, .int .u64 0, .int .u64 0, .int .u64 0, .int .u64 0]).toArray) (by rfl) (fun W => ?_) (fun g33 Hg33 ng33 => ?_)
 ·
  go_simp
 simp only [putT, List.set]
 refine wpN_nil (fun w34 Sw34 hbs => ?_)
 replace M := ((M.sees Sw34).addS (N := 16) (cs := [.int .u64 0, .int .u64 0, .int .u64 0, .int .u64 0, .int .u64 0, .int .u64 0, .int .u64 0, .int .u64 0, .int .u64 0, .int .u64 0, .int .u64 0, .int .u64 0, .int .u64 0, .int .u64 0, .int .u64 0, .int .u64 0]) (segs := [(0, [.int .u64 0, .int .u64 0, .int .u64 0, .int .u64 0]), (4, [.int .u64 0, .int .u64 0, .int .u64 0, .int .u64 0]), (8, [.int .u64 0, .int .u64 0, .int .u64 0, .int .u64 0]), (12, [.int .u64 0, .int .u64 0, .int .u64 0, .int .u64 0])]) (M.ge Hg33) (M.fresh Hg33) (hbs _ (.head _)) rfl ⟨rfl, rfl, rfl, rfl, trivial⟩)
 clear hbs ng33
 refine wpL_store (g := g33) (off := 0) (n := 16) (cs := fel pc.x ++ fel pc.y ++ fel pc.z ++ fel pc.t) (by rfl) (by rfl) (by rfl) (by rfl) (by rfl) (M.t 0 rfl) (by simp [flen]) info26 (one4 _ _ _ _) (fun w35 P R T => ?_)
 replace M := M.put (segs' := [(0, fel pc.x), (4, fel pc.y), (8, fel pc.z), (12, fel pc.t)]) 0 rfl P T (SegsOf.at R ⟨rfl, rfl, rfl, rfl, trivial⟩)
 simp only [List.set] at M
 refine wpL_assign (v := .int .i64 0) (by rfl) (by rfl) (by rfl) ?_
 simp only [putT, List.set]
 refine wpL_nil (no_panic ?_)
 refine hK31 _ _ ?_
 refine wp_seq_k (fun K36 hK36 => ?_)
 refine wp_region_seq ?_
 refine wpL_chunk 6 (by rfl) (fun Lk hLk => ?_)
 simp only [List.take, List.drop]
 refine wpV_load (cs := fel m) (by rfl) rfl rfl (M.r 5 0 rfl rfl) (M.lt 5 rfl) Try.underlying39 rfl info39 ?_
 simp only [putT, List.set]
 refine wpV_load (cs := fel pa.x ++ (fel pa.y) ++ (fel pa.z) ++ (fel pa.t)) (by rfl) rfl rfl (range_join (range_join (range_join (M.r 3 0 rfl rfl) (M.r 3 1 rfl rfl) (by simp [flen])) (M.r 3 2 rfl rfl) (by simp [flen])) (M.r 3 3 rfl rfl) (by simp [flen])) (M.lt 3 rfl) Try.underlying26 rfl info26 ?_
 simp only [putT, List.set]
 refine wpV_callf (v := .tuple #[.agg (fel pd.x ++ fel pd.y ++ fel pd.z ++ fel pd.t : List Value).toArray, .int .i64 0]) (args := #[fe m, .agg (fel pa.x ++ (fel pa.y) ++ (fel pa.z) ++ (fel pa.t) : List Value).toArray]) (by rfl) rfl Try.func23 (by kernel_rfl) (by kernel_rfl) rfl (fun W hW => (by have h9 := Mul_ok (n := m) (p := pa) (w := W) hm hpa rpa; rw [epd] at h9; exact h9)) ?_
 simp only [putT, List.set]
 refine wpV_move (v := .tuple #[.agg (fel pd.x ++ fel pd.y ++ fel pd.z ++ fel pd.t : List Value).toArray, .int .i64 0]) (by rfl) rfl rfl ?_
 simp only [putT, List.set]
 refine wpV_extract (v := .agg (fel pd.x ++ fel pd.y ++ fel pd.z ++ fel pd.t : List Value).toArray) (by rfl) rfl rfl rfl ?_
 simp only [putT, List.set]
 refine wpV_extract (v := .int .i64 0) (by rfl) rfl rfl rfl ?_
 simp only [putT, List.set]
 refine wpV_nil (hLk _ (fun w38 Sw38 => ?_))
 clear hLk Lk
 simp only [List.take, List.drop]
 replace M := M.sees Sw38
 refine wpL_var (t := 26) (cs := [.int .u64 0, .int .u64 0, .int .u64 0, .int .u64 0, .int .u64 0, .int .u64 0, .int .u64 0, .int .u64 0, .int .u64 0, .int .u64 0, .int .u64 0, .int .u64 0, .int .u64 0, .int .u64 0, .int .u64 0, .int .u64 0]) (by rfl) (fun W => ?_) (fun g39 w40 Sw40 Hg39 Bg39 => ?_)
 ·
  go_simp
 replace M := ((M.sees Sw40).addS (N := 16) (cs := [.int .u64 0, .int .u64 0, .int .u64 0, .int .u64 0, .int .u64 0, .int .u64 0, .int .u64 0, .int .u64 0, .int .u64 0, .int .u64 0, .int .u64 0, .int .u64 0, .int .u64 0, .int .u64 0, .int .u64 0, .int .u64 0]) (segs := [(0, [.int .u64 0, .int .u64 0, .int .u64 0, .int .u64 0]), (4, [.int .u64 0, .int .u64 0, .int .u64 0, .int .u64 0]), (8, [.int .u64 0, .int .u64 0, .int .u64 0, .int .u64 0]), (12, [.int .u64 0, .int .u64 0, .int .u64 0, .int .u64 0])]) (M.ge Hg39) (M.fresh Hg39) Bg39 rfl ⟨rfl, rfl, rfl, rfl, trivial⟩)
 clear Bg39
 simp only [putT, List.set]
 refine wpL_store (g := g39) (off := 0) (n := 16) (cs := fel pd.x ++ fel pd.y ++ fel pd.z ++ fel pd.t) (by rfl) (by rfl) (by rfl) (by rfl) (by rfl) (M.t 0 rfl) (by simp [flen]) info26 (one4 _ _ _ _) (fun w41 P R T => ?_)
 replace M := M.put (segs' := [(0, fel pd.x), (4, fel pd.y), (8, fel pd.z), (12, fel pd.t)]) 0 rfl P T (SegsOf.at R ⟨rfl, rfl, rfl, rfl, trivial⟩)
 simp only [List.set] at M
 refine wpL_assign (v := .int .i64 0) (by rfl) (by rfl) (by rfl) ?_
 simp only [putT, List.set]
 refine wpL_nil (no_panic ?_)
 refine hK36 _ _ ?_
 refine wp_seq_k (fun K42 hK42 => ?_)
 refine wp_region_grow 9 [7] (by kernel_rfl) (by kernel_rfl) (by kernel_rfl) (fun Lk hLk => ?_)
 simp only [List.take, List.drop]
 refine wpV_load (cs := fel n) (by rfl) rfl rfl (M.r 7 0 rfl rfl) (M.lt 7 rfl) Try.underlying39 rfl info39 ?_
 simp only [putT, List.set]
 refine wpV_load (cs := fel m) (by rfl) rfl rfl (M.r 6 0 rfl rfl) (M.lt 6 rfl) Try.underlying39 rfl info39 ?_
 simp only [putT, List.set]
 refine wpV_callf (v := fe (smul n m)) (args := #[fe n, fe m]) (by rfl) rfl Try.func29 (by kernel_rfl) (by kernel_rfl) rfl (fun W hW => smul_c hn hm W) ?_
 simp only [putT, List.set]
 refine wpV_load (cs := fel baseP.x ++ (fel baseP.y) ++ (fel baseP.z) ++ (fel baseP.t)) (by rfl) rfl rfl (range_join (range_join (range_join (M.r 5 0 rfl rfl) (M.r 5 1 rfl rfl) (by simp [flen])) (M.r 5 2 rfl rfl) (by simp [flen])) (M.r 5 3 rfl rfl) (by simp [flen])) (M.lt 5 rfl) Try.underlying26 rfl info26 ?_
 simp only [putT, List.set]
 refine wpV_callf (v := .tuple #[.agg (fel pe.x ++ fel pe.y ++ fel pe.z ++ fel pe.t : List Value).toArray, .int .i64 0]) (args := #[fe (smul n m), .agg (fel baseP.x ++ (fel baseP.y) ++ (fel baseP.z) ++ (fel baseP.t) : List Value).toArray]) (by rfl) rfl Try.func23 (by kernel_rfl) (by kernel_rfl) rfl (fun W hW => (by have h9 := Mul_ok (n := smul n m) (p := baseP) (w := W) (smul_lt ..) baseP_ok rightP_base; rw [epe] at h9; exact h9)) ?_
 simp only [putT, List.set]
 refine wpV_move (v := .tuple #[.agg (fel pe.x ++ fel pe.y ++ fel pe.z ++ fel pe.t : List Value).toArray, .int .i64 0]) (by rfl) rfl rfl ?_
 simp only [putT, List.set]
 refine wpV_extract (v := .agg (fel pe.x ++ fel pe.y ++ fel pe.z ++ fel pe.t : List Value).toArray) (by rfl) rfl rfl rfl ?_
 simp only [putT, List.set]
 refine wpV_extract (v := .int .i64 0) (by rfl) rfl rfl rfl ?_
 simp only [putT, List.set]
 refine wpV_alloc (by rfl) ?_
 refine wpV_nil (hLk.out _ ?_)
 clear hLk Lk
 simp only [List.take, List.drop]
 iterate 8 refine wpN_skip (by rfl) ?_
 refine wpN_new (t := 26) (cs := ([.int .u64 0, .int .u64 0, .int .u64 0, .int .u64 0, .int .u64 0, .int .u64 0, .int .u64 0, .int .u64 0, .int .u64 0, .int .u64 0, .int .u64 0, .int .u64 0, .int .u64 0, .int .u64 0, .int .u64 0, .int .u64 0]).toArray) (by rfl) (fun W => ?_) (fun g44 Hg44 ng44 => ?_)
 ·
  go_simp
 simp only [putT, List.set]
 refine wpN_nil (fun w45 Sw45 hbs => ?_)
 replace M := ((M.sees Sw45).addS (N := 16) (cs := [.int .u64 0, .int .u64 0, .int .u64 0, .int .u64 0, .int .u64 0, .int .u64 0, .int .u64 0, .int .u64 0, .int .u64 0, .int .u64 0, .int .u64 0, .int .u64 0, .int .u64 0, .int .u64 0, .int .u64 0, .int .u64 0]) (segs := [(0, [.int .u64 0, .int .u64 0, .int .u64 0, .int .u64 0]), (4, [.int .u64 0, .int .u64 0, .int .u64 0, .int .u64 0]), (8, [.int .u64 0, .int .u64 0, .int .u64 0, .int .u64 0]), (12, [.int .u64 0, .int .u64 0, .int .u64 0, .int .u64 0])]) (M.ge Hg44) (M.fresh Hg44) (hbs _ (.head _)) rfl ⟨rfl, rfl, rfl, rfl, trivial⟩)
 clear hbs ng44
 refine wpL_store (g := g44) (off := 0) (n := 16) (cs := fel pe.x ++ fel pe.y ++ fel pe.z ++ fel pe.t) (by rfl) (by rfl) (by rfl) (by rfl) (by rfl) (M.t 0 rfl) (by simp [flen]) info26 (one4 _ _ _ _) (fun w46 P R T => ?_)
 replace M := M.put (segs' := [(0, fel pe.x), (4, fel pe.y), (8, fel pe.z), (12, fel pe.t)]) 0 rfl P T (SegsOf.at R ⟨rfl, rfl, rfl, rfl, trivial⟩)
 simp only [List.set] at M
 refine wpL_assign (v := .int .i64 0) (by rfl) (by rfl) (by rfl) ?_
 simp only [putT, List.set]
 refine wpL_nil (no_panic ?_)
 refine hK42 _ _ ?_
 refine wp_seq_k (fun K47 hK47 => ?_)
 refine wp_region_seq ?_
 refine wpL_chunk 35 (by rfl) (fun Lk hLk => ?_)
 simp only [List.take, List.drop]
 refine wpV_callf (v := .bool true) (args := #[]) (by rfl) rfl Try.func11 (by kernel_rfl) (by kernel_rfl) rfl (fun W hW => alive06_c) ?_
 simp only [putT, List.set]
 refine wpV_move (v := .bool true) (by rfl) rfl rfl ?_
 simp only [putT, List.set]
 refine wpV_move (v := .int .i64 0) (by rfl) rfl rfl ?_
 simp only [putT, List.set]
 refine wpV_bin (v := .bool true) (by rfl) rfl rfl rfl (fun W => run_eql _ _ _ _ W) ?_
 simp only [putT, List.set]
 refine wpV_pick (v := .bool true) (by rfl) rfl rfl rfl ?_
 simp only [putT, List.set]
 refine wpV_move (v := .bool true) (by rfl) rfl rfl ?_
 simp only [putT, List.set]
 refine wpV_move (v := .int .i64 0) (by rfl) rfl rfl ?_
 simp only [putT, List.set]
 refine wpV_bin (v := .bool true) (by rfl) rfl rfl rfl (fun W => run_eql _ _ _ _ W) ?_
 simp only [putT, List.set]
 refine wpV_pick (v := .bool true) (by rfl) rfl rfl rfl ?_
 simp only [putT, List.set]
 refine wpV_move (v := .bool true) (by rfl) rfl rfl ?_
 simp only [putT, List.set]
 refine wpV_move (v := .int .i64 0) (by rfl) rfl rfl ?_
 simp only [putT, List.set]
 refine wpV_bin (v := .bool true) (by rfl) rfl rfl rfl (fun W => run_eql _ _ _ _ W) ?_
 simp only [putT, List.set]
 refine wpV_pick (v := .bool true) (by rfl) rfl rfl rfl ?_
 simp only [putT, List.set]
 refine wpV_move (v := .bool true) (by rfl) rfl rfl ?_
 simp only [putT, List.set]
 refine wpV_move (v := .int .i64 0) (by rfl) rfl rfl ?_
 simp only [putT, List.set]
 refine wpV_bin (v := .bool true) (by rfl) rfl rfl rfl (fun W => run_eql _ _ _ _ W) ?_
 simp only [putT, List.set]
 refine wpV_pick (v := .bool true) (by rfl) rfl rfl rfl ?_
 simp only [putT, List.set]
 refine wpV_move (v := .bool true) (by rfl) rfl rfl ?_
 simp only [putT, List.set]
 refine wpV_move (v := .int .i64 0) (by rfl) rfl rfl ?_
 simp only [putT, List.set]
 refine wpV_bin (v := .bool true) (by rfl) rfl rfl rfl (fun W => run_eql _ _ _ _ W) ?_
 simp only [putT, List.set]
 refine wpV_pick (v := .bool true) (by rfl) rfl rfl rfl ?_
 simp only [putT, List.set]
 refine wpV_move (v := .bool true) (by rfl) rfl rfl ?_
 simp only [putT, List.set]
 refine wpV_move (v := .int .i64 0) (by rfl) rfl rfl ?_
 simp only [putT, List.set]
 refine wpV_bin (v := .bool true) (by rfl) rfl rfl rfl (fun W => run_eql _ _ _ _ W) ?_
 simp only [putT, List.set]
 refine wpV_pick (v := .bool true) (by rfl) rfl rfl rfl ?_
 simp only [putT, List.set]
 refine wpV_move (v := .bool true) (by rfl) rfl rfl ?_
 simp only [putT, List.set]
 refine wpV_load (cs := fel (addP pa pb).x ++ (fel (addP pa pb).y) ++ (fel (addP pa pb).z) ++ (fel (addP pa pb).t)) (by rfl) rfl rfl (range_join (range_join (range_join (M.r 3 0 rfl rfl) (M.r 3 1 rfl rfl) (by simp [flen])) (M.r 3 2 rfl rfl) (by simp [flen])) (M.r 3 3 rfl rfl) (by simp [flen])) (M.lt 3 rfl) Try.underlying26 rfl info26 ?_
 simp only [putT, List.set]
 refine wpV_load (cs := fel pc.x ++ (fel pc.y) ++ (fel pc.z) ++ (fel pc.t)) (by rfl) rfl rfl (range_join (range_join (range_join (M.r 2 0 rfl rfl) (M.r 2 1 rfl rfl) (by simp [flen])) (M.r 2 2 rfl rfl) (by simp [flen])) (M.r 2 3 rfl rfl) (by simp [flen])) (M.lt 2 rfl) Try.underlying26 rfl info26 ?_
 simp only [putT, List.set]
 refine wpV_callf (v := .bool true) (args := #[.agg (fel (addP pa pb).x ++ (fel (addP pa pb).y) ++ (fel (addP pa pb).z) ++ (fel (addP pa pb).t) : List Value).toArray, .agg (fel pc.x ++ (fel pc.y) ++ (fel pc.z) ++ (fel pc.t) : List Value).toArray]) (by rfl) rfl Try.func20 (by kernel_rfl) (by kernel_rfl) rfl (fun W hW => (by have h9 := same_c (p := addP pa pb) (q := pc) (w := W) (addP_ok ..) hpc; rw [(same_eqv (right_add rpa rpb) rpc).2 eqA] at h9; exact h9)) ?_
 simp only [putT, List.set]
 refine wpV_pick (v := .bool true) (by rfl) rfl rfl rfl ?_
 simp only [putT, List.set]
 refine wpV_move (v := .bool true) (by rfl) rfl rfl ?_
 simp only [putT, List.set]
 refine wpV_load (cs := fel pd.x ++ (fel pd.y) ++ (fel pd.z) ++ (fel pd.t)) (by rfl) rfl rfl (range_join (range_join (range_join (M.r 1 0 rfl rfl) (M.r 1 1 rfl rfl) (by simp [flen])) (M.r 1 2 rfl rfl) (by simp [flen])) (M.r 1 3 rfl rfl) (by simp [flen])) (M.lt 1 rfl) Try.underlying26 rfl info26 ?_
 simp only [putT, List.set]
 refine wpV_load (cs := fel pe.x ++ (fel pe.y) ++ (fel pe.z) ++ (fel pe.t)) (by rfl) rfl rfl (range_join (range_join (range_join (M.r 0 0 rfl rfl) (M.r 0 1 rfl rfl) (by simp [flen])) (M.r 0 2 rfl rfl) (by simp [flen])) (M.r 0 3 rfl rfl) (by simp [flen])) (M.lt 0 rfl) Try.underlying26 rfl info26 ?_
 simp only [putT, List.set]
 refine wpV_callf (v := .bool true) (args := #[.agg (fel pd.x ++ (fel pd.y) ++ (fel pd.z) ++ (fel pd.t) : List Value).toArray, .agg (fel pe.x ++ (fel pe.y) ++ (fel pe.z) ++ (fel pe.t) : List Value).toArray]) (by rfl) rfl Try.func20 (by kernel_rfl) (by kernel_rfl) rfl (fun W hW => (by have h9 := same_c (p := pd) (q := pe) (w := W) hpd hpe; rw [(same_eqv rpd rpe).2 eqM] at h9; exact h9)) ?_
 simp only [putT, List.set]
 refine wpV_pick (v := .bool true) (by rfl) rfl rfl rfl ?_
 simp only [putT, List.set]
 refine wpV_nil (hLk _ (fun w49 Sw49 => ?_))
 clear hLk Lk
 simp only [List.take, List.drop]
 replace M := M.sees Sw49
 refine wpL_assign (v := .bool true) (by rfl) (by rfl) (by rfl) ?_
 simp only [putT, List.set]
 refine wpL_nil (no_panic ?_)
 refine hK47 _ _ ?_
 refine wp_ret ?_
 repeat (first | with_reducible refine then_ret ?_ | with_reducible refine inblock_ret ?_)
 refine bodyPost_ret (v := .bool true) (res1 rfl (.tmp (by rfl))) rfl ?_
 have BE := M.below
 exact ⟨rfl, BE⟩
theorem plinear_c {n m : Nat} {w : World} (hn : n < 2 ^ 256) (hm : m < 2 ^ 256) :
  Calls Try.prog 9 #[fe n, fe m] w fun e w' => e = .returned (.bool true) ∧ Below w.heap.size w w' := by
 have hr : ∀ k, rightP (mulR k baseP 256) = true := fun k => right_mulR rightP_base 256
 exact plinear_a hn hm (mulR_ok ..) rfl (hr _) (mulR_ok ..) rfl (hr _) (mulR_ok ..) rfl (hr _) (mulR_ok ..) rfl (right_mulR (hr _) 256) (mulR_ok ..) rfl (hr _) (lin_add hn hm) (lin_mul hn hm)
end Go.Proofs.Yc

