import Derived.WalkKit
import Derived.WalkSpells
import Derived.Laws.Pointers
import Derived.RowKit3
import Derived.Below
import Derived.Outline
import Derived.LoopN
import Derived.Lib.Hide
import Derived.Handy
import Derived.Laws.Bits64b
import Derived.Test.YtdcmmnindlhghaaPtP
import Derived.Test.YtdcmmnindlhghaaPtR
set_option linter.unusedSimpArgs false
set_option linter.unusedVariables false
namespace Go.Proofs.Yc
open Go Go.RowKit Go.Proofs.Num
attribute [local irreducible] wpV wpN wpList
open Go.Proofs.Ya
set_option maxRecDepth 100000 in
set_option maxHeartbeats 4000000 in
theorem pgroup_a {n m k z : Nat} {pa pb pc : P4} {w : World} (hn : n < 2 ^ 256) (hm : m < 2 ^ 256) (hk : k < 2 ^ 256) (hz : z < 18446744073709551616) (hpa : pa.Ok) (hpb : pb.Ok) (hpc : pc.Ok) (epa : scaleP (mulR n baseP 256) (z ||| 1) = pa) (epb : scaleP (mulR m baseP 256) (z / 2 ^ 9 ||| 1) = pb) (epc : scaleP (mulR k baseP 256) (z / 2 ^ 20 ||| 1) = pc) (rpa : rightP pa = true) (rpb : rightP pb = true) (rpc : rightP pc = true) :
  Calls Try.prog 6 #[fe n, fe m, fe k, .int .u64 ((z : Nat) : Int)] w fun e w' => e = .returned (.bool true) ∧ Below w.heap.size w w' := by
 have qa := (ofRightP rpa).2
 have qb := (ofRightP rpb).2
 have qc := (ofRightP rpc).2
 have hz9 : z / 2 ^ 9 < 18446744073709551616 := Nat.lt_of_le_of_lt (Nat.div_le_self ..) hz
 have hz20 : z / 2 ^ 20 < 18446744073709551616 := Nat.lt_of_le_of_lt (Nat.div_le_self ..) hz
 go_enter Try.func6, Try.ntmps6
 have M := Mem.start w
 refine wp_seq_k (fun K1 hK1 => ?_)
 refine wp_region_seq ?_
 refine wpL_var (t := 39) (cs := fel n) (by rfl) (fun W => ?_) (fun g3 w4 Sw4 Hg3 Bg3 => ?_)
 ·
  (first | rfl | go_simp)
 replace M := ((M.sees Sw4).add (N := 4) (cs := fel n) (M.ge Hg3) (M.fresh Hg3) Bg3 rfl)
 clear Bg3
 simp only [putT, List.set]
 refine wpL_var (t := 39) (cs := fel m) (by rfl) (fun W => ?_) (fun g5 w6 Sw6 Hg5 Bg5 => ?_)
 ·
  (first | rfl | go_simp)
 replace M := ((M.sees Sw6).add (N := 4) (cs := fel m) (M.ge Hg5) (M.fresh Hg5) Bg5 rfl)
 clear Bg5
 simp only [putT, List.set]
 refine wpL_var (t := 39) (cs := fel k) (by rfl) (fun W => ?_) (fun g7 w8 Sw8 Hg7 Bg7 => ?_)
 ·
  (first | rfl | go_simp)
 replace M := ((M.sees Sw8).add (N := 4) (cs := fel k) (M.ge Hg7) (M.fresh Hg7) Bg7 rfl)
 clear Bg7
 simp only [putT, List.set]
 refine wpL_assign (v := .bool false) (by rfl) (by rfl) (by rfl) ?_
 simp only [putT, List.set]
 refine wpL_nil (no_panic ?_)
 refine hK1 _ _ ?_
 refine wp_seq_k (fun K9 hK9 => ?_)
 refine wp_region_seq ?_
 refine wpL_chunk 6 (by rfl) (fun Lk hLk => ?_)
 simp only [List.take, List.drop]
 refine wpV_load (cs := fel n) (by rfl) rfl rfl (M.r 2 0 rfl rfl) (M.lt 2 rfl) Try.underlying39 rfl info39 ?_
 simp only [putT, List.set]
 refine wpV_move (v := .int .u64 ((z : Nat) : Int)) (by rfl) rfl rfl ?_
 simp only [putT, List.set]
 refine wpV_callf (v := .tuple #[.agg (fel pa.x ++ fel pa.y ++ fel pa.z ++ fel pa.t : List Value).toArray, .bool true]) (args := #[fe n, .int .u64 ((z : Nat) : Int)]) (by rfl) rfl Try.func24 (by kernel_rfl) (by kernel_rfl) rfl (fun W hW => (by have h9 := some_c (n := n) (z := z) (w := W) hn hz; rw [epa, rpa] at h9; exact h9)) ?_
 simp only [putT, List.set]
 refine wpV_move (v := .tuple #[.agg (fel pa.x ++ fel pa.y ++ fel pa.z ++ fel pa.t : List Value).toArray, .bool true]) (by rfl) rfl rfl ?_
 simp only [putT, List.set]
 refine wpV_extract (v := .agg (fel pa.x ++ fel pa.y ++ fel pa.z ++ fel pa.t : List Value).toArray) (by rfl) rfl rfl rfl ?_
 simp only [putT, List.set]
 refine wpV_extract (v := .bool true) (by rfl) rfl rfl rfl ?_
 simp only [putT, List.set]
 refine wpV_nil (hLk _ (fun w11 Sw11 => ?_))
 clear hLk Lk
 simp only [List.take, List.drop]
 replace M := M.sees Sw11
 refine wpL_var (t := 26) (cs := [.int .u64 0, .int .u64 0, .int .u64 0, .int .u64 0, .int .u64 0, .int .u64 0, .int .u64 0, .int .u64 0, .int .u64 0, .int .u64 0, .int .u64 0, .int .u64 0, .int .u64 0, .int .u64 0, .int .u64 0, .int .u64 0]) (by rfl) (fun W => ?_) (fun g12 w13 Sw13 Hg12 Bg12 => ?_)
 ·
  go_simp
 replace M := ((M.sees Sw13).addS (N := 16) (cs := [.int .u64 0, .int .u64 0, .int .u64 0, .int .u64 0, .int .u64 0, .int .u64 0, .int .u64 0, .int .u64 0, .int .u64 0, .int .u64 0, .int .u64 0, .int .u64 0, .int .u64 0, .int .u64 0, .int .u64 0, .int .u64 0]) (segs := [(0, [.int .u64 0, .int .u64 0, .int .u64 0, .int .u64 0]), (4, [.int .u64 0, .int .u64 0, .int .u64 0, .int .u64 0]), (8, [.int .u64 0, .int .u64 0, .int .u64 0, .int .u64 0]), (12, [.int .u64 0, .int .u64 0, .int .u64 0, .int .u64 0])]) (M.ge Hg12) (M.fresh Hg12) Bg12 rfl ⟨rfl, rfl, rfl, rfl, trivial⟩)
 clear Bg12
 simp only [putT, List.set]
 refine wpL_store (g := g12) (off := 0) (n := 16) (cs := fel pa.x ++ fel pa.y ++ fel pa.z ++ fel pa.t) (by rfl) (by rfl) (by rfl) (by rfl) (by rfl) (M.t 0 rfl) (by simp [flen]) info26 (one4 _ _ _ _) (fun w14 P R T => ?_)
 replace M := M.put (segs' := [(0, fel pa.x), (4, fel pa.y), (8, fel pa.z), (12, fel pa.t)]) 0 rfl P T (SegsOf.at R ⟨rfl, rfl, rfl, rfl, trivial⟩)
 simp only [List.set] at M
 refine wpL_assign (v := .bool true) (by rfl) (by rfl) (by rfl) ?_
 simp only [putT, List.set]
 refine wpL_nil (no_panic ?_)
 refine hK9 _ _ ?_
 refine wp_seq_k (fun K15 hK15 => ?_)
 refine wp_region_seq ?_
 refine wpL_chunk 7 (by rfl) (fun Lk hLk => ?_)
 simp only [List.take, List.drop]
 refine wpV_load (cs := fel m) (by rfl) rfl rfl (M.r 2 0 rfl rfl) (M.lt 2 rfl) Try.underlying39 rfl info39 ?_
 simp only [putT, List.set]
 refine wpV_move (v := .int .u64 ((z : Nat) : Int)) (by rfl) rfl rfl ?_
 simp only [putT, List.set]
 refine wpV_bin (v := .int .u64 ((z / 2 ^ 9 : Nat) : Int)) (by rfl) rfl rfl rfl (fun W => nr_shr64 (n := 9) (by decide) W) ?_
 simp only [putT, List.set]
 refine wpV_callf (v := .tuple #[.agg (fel pb.x ++ fel pb.y ++ fel pb.z ++ fel pb.t : List Value).toArray, .bool true]) (args := #[fe m, .int .u64 ((z / 2 ^ 9 : Nat) : Int)]) (by rfl) rfl Try.func24 (by kernel_rfl) (by kernel_rfl) rfl (fun W hW => (by have h9 := some_c (n := m) (z := z / 2 ^ 9) (w := W) hm hz9; rw [epb, rpb] at h9; exact h9)) ?_
 simp only [putT, List.set]
 refine wpV_move (v := .tuple #[.agg (fel pb.x ++ fel pb.y ++ fel pb.z ++ fel pb.t : List Value).toArray, .bool true]) (by rfl) rfl rfl ?_
 simp only [putT, List.set]
 refine wpV_extract (v := .agg (fel pb.x ++ fel pb.y ++ fel pb.z ++ fel pb.t : List Value).toArray) (by rfl) rfl rfl rfl ?_
 simp only [putT, List.set]
 refine wpV_extract (v := .bool true) (by rfl) rfl rfl rfl ?_
 simp only [putT, List.set]
 refine wpV_nil (hLk _ (fun w17 Sw17 => ?_))
 clear hLk Lk
 simp only [List.take, List.drop]
 replace M := M.sees Sw17
 refine wpL_var (t := 26) (cs := [.int .u64 0, .int .u64 0, .int .u64 0, .int .u64 0, .int .u64 0, .int .u64 0, .int .u64 0, .int .u64 0, .int .u64 0, .int .u64 0, .int .u64 0, .int .u64 0, .int .u64 0, .int .u64 0, .int .u64 0, .int .u64 0]) (by rfl) (fun W => ?_) (fun g18 w19 Sw19 Hg18 Bg18 => ?_)
 ·
  go_simp
 replace M := ((M.sees Sw19).addS (N := 16) (cs := [.int .u64 0, .int .u64 0, .int .u64 0, .int .u64 0, .int .u64 0, .int .u64 0, .int .u64 0, .int .u64 0, .int .u64 0, .int .u64 0, .int .u64 0, .int .u64 0, .int .u64 0, .int .u64 0, .int .u64 0, .int .u64 0]) (segs := [(0, [.int .u64 0, .int .u64 0, .int .u64 0, .int .u64 0]), (4, [.int .u64 0, .int .u64 0, .int .u64 0, .int .u64 0]), (8, [.int .u64 0, .int .u64 0, .int .u64 0, .int .u64 0]), (12, [.int .u64 0, .int .u64 0, .int .u64 0, .int .u64 0])]) (M.ge Hg18) (M.fresh Hg18) Bg18 rfl ⟨rfl, rfl, rfl, rfl, trivial⟩)
 clear Bg18
 simp only [putT, List.set]
 refine wpL_store (g := g18) (off := 0) (n := 16) (cs := fel pb.x ++ fel pb.y ++ fel pb.z ++ fel pb.t) (by rfl) (by rfl) (by rfl) (by rfl) (by rfl) (M.t 0 rfl) (by simp [flen]) info26 (one4 _ _ _ _) (fun w20 P R T => ?_)
 replace M := M.put (segs' := [(0, fel pb.x), (4, fel pb.y), (8, fel pb.z), (12, fel pb.t)]) 0 rfl P T (SegsOf.at R ⟨rfl, rfl, rfl, rfl, trivial⟩)
 simp only [List.set] at M
 refine wpL_assign (v := .bool true) (by rfl) (by rfl) (by rfl) ?_
 simp only [putT, List.set]
 refine wpL_nil (no_panic ?_)
 refine hK15 _ _ ?_
 refine wp_seq_k (fun K21 hK21 => ?_)
 refine wp_region_seq ?_
 refine wpL_chunk 7 (by rfl) (fun Lk hLk => ?_)
 simp only [List.take, List.drop]
 refine wpV_load (cs := fel k) (by rfl) rfl rfl (M.r 2 0 rfl rfl) (M.lt 2 rfl) Try.underlying39 rfl info39 ?_
 simp only [putT, List.set]
 refine wpV_move (v := .int .u64 ((z : Nat) : Int)) (by rfl) rfl rfl ?_
 simp only [putT, List.set]
 refine wpV_bin (v := .int .u64 ((z / 2 ^ 20 : Nat) : Int)) (by rfl) rfl rfl rfl (fun W => nr_shr64 (n := 20) (by decide) W) ?_
 simp only [putT, List.set]
 refine wpV_callf (v := .tuple #[.agg (fel pc.x ++ fel pc.y ++ fel pc.z ++ fel pc.t : List Value).toArray, .bool true]) (args := #[fe k, .int .u64 ((z / 2 ^ 20 : Nat) : Int)]) (by rfl) rfl Try.func24 (by kernel_rfl) (by kernel_rfl) rfl (fun W hW => (by have h9 := some_c (n := k) (z := z / 2 ^ 20) (w := W) hk hz20; rw [epc, rpc] at h9; exact h9)) ?_
 simp only [putT, List.set]
 refine wpV_move (v := .tuple #[.agg (fel pc.x ++ fel pc.y ++ fel pc.z ++ fel pc.t : List Value).toArray, .bool true]) (by rfl) rfl rfl ?_
 simp only [putT, List.set]
 refine wpV_extract (v := .agg (fel pc.x ++ fel pc.y ++ fel pc.z ++ fel pc.t : List Value).toArray) (by rfl) rfl rfl rfl ?_
 simp only [putT, List.set]
 refine wpV_extract (v := .bool true) (by rfl) rfl rfl rfl ?_
 simp only [putT, List.set]
 refine wpV_nil (hLk _ (fun w23 Sw23 => ?_))
 clear hLk Lk
 simp only [List.take, List.drop]
 replace M := M.sees Sw23
 refine wpL_var (t := 26) (cs := [.int .u64 0, .int .u64 0, .int .u64 0, .int .u64 0, .int .u64 0, .int .u64 0, .int .u64 0, .int .u64 0, .int .u64 0, .int .u64 0, .int .u64 0, .int .u64 0, .int .u64 0, .int .u64 0, .int .u64 0, .int .u64 0]) (by rfl) (fun W => ?_) (fun g24 w25 Sw25 Hg24 Bg24 => ?_)
 ·
  go_simp
 replace M := ((M.sees Sw25).addS (N := 16) (cs := [.int .u64 0, .int .u64 0, .int .u64 0, .int .u64 0, .int .u64 0, .int .u64 0, .int .u64 0, .int .u64 0, .int .u64 0, .int .u64 0, .int .u64 0, .int .u64 0, .int .u64 0, .int .u64 0, .int .u64 0, .int .u64 0]) (segs := [(0, [.int .u64 0, .int .u64 0, .int .u64 0, .int .u64 0]), (4, [.int .u64 0, .int .u64 0, .int .u64 0, .int .u64 0]), (8, [.int .u64 0, .int .u64 0, .int .u64 0, .int .u64 0]), (12, [.int .u64 0, .int .u64 0, .int .u64 0, .int .u64 0])]) (M.ge Hg24) (M.fresh Hg24) Bg24 rfl ⟨rfl, rfl, rfl, rfl, trivial⟩)
 clear Bg24
 simp only [putT, List.set]
 refine wpL_store (g := g24) (off := 0) (n := 16) (cs := fel pc.x ++ fel pc.y ++ fel pc.z ++ fel pc.t) (by rfl) (by rfl) (by rfl) (by rfl) (by rfl) (M.t 0 rfl) (by simp [flen]) info26 (one4 _ _ _ _) (fun w26 P R T => ?_)
 replace M := M.put (segs' := [(0, fel pc.x), (4, fel pc.y), (8, fel pc.z), (12, fel pc.t)]) 0 rfl P T (SegsOf.at R ⟨rfl, rfl, rfl, rfl, trivial⟩)
 simp only [List.set] at M
 refine wpL_assign (v := .bool true) (by rfl) (by rfl) (by rfl) ?_
 simp only [putT, List.set]
 refine wpL_nil (no_panic ?_)
 refine hK21 _ _ ?_
 refine wp_seq_k (fun K27 hK27 => ?_)
 refine wp_region_seq ?_
 refine wpL_chunk 6 (by rfl) (fun Lk hLk => ?_)
 simp only [List.take, List.drop]
 refine wpV_load (cs := fel pa.x ++ (fel pa.y) ++ (fel pa.z) ++ (fel pa.t)) (by rfl) rfl rfl (range_join (range_join (range_join (M.r 2 0 rfl rfl) (M.r 2 1 rfl rfl) (by simp [flen])) (M.r 2 2 rfl rfl) (by simp [flen])) (M.r 2 3 rfl rfl) (by simp [flen])) (M.lt 2 rfl) Try.underlying26 rfl info26 ?_
 simp only [putT, List.set]
 refine wpV_load (cs := fel pb.x ++ (fel pb.y) ++ (fel pb.z) ++ (fel pb.t)) (by rfl) rfl rfl (range_join (range_join (range_join (M.r 1 0 rfl rfl) (M.r 1 1 rfl rfl) (by simp [flen])) (M.r 1 2 rfl rfl) (by simp [flen])) (M.r 1 3 rfl rfl) (by simp [flen])) (M.lt 1 rfl) Try.underlying26 rfl info26 ?_
 simp only [putT, List.set]
 refine wpV_callf (v := .tuple #[.agg (fel (addP pa pb).x ++ fel (addP pa pb).y ++ fel (addP pa pb).z ++ fel (addP pa pb).t : List Value).toArray, .int .i64 0]) (args := #[.agg (fel pa.x ++ (fel pa.y) ++ (fel pa.z) ++ (fel pa.t) : List Value).toArray, .agg (fel pb.x ++ (fel pb.y) ++ (fel pb.z) ++ (fel pb.t) : List Value).toArray]) (by rfl) rfl Try.func21 (by kernel_rfl) (by kernel_rfl) rfl (fun W hW => Add_ok hpa hpb rpa rpb) ?_
 simp only [putT, List.set]
 refine wpV_move (v := .tuple #[.agg (fel (addP pa pb).x ++ fel (addP pa pb).y ++ fel (addP pa pb).z ++ fel (addP pa pb).t : List Value).toArray, .int .i64 0]) (by rfl) rfl rfl ?_
 simp only [putT, List.set]
 refine wpV_extract (v := .agg (fel (addP pa pb).x ++ fel (addP pa pb).y ++ fel (addP pa pb).z ++ fel (addP pa pb).t : List Value).toArray) (by rfl) rfl rfl rfl ?_
 simp only [putT, List.set]
 refine wpV_extract (v := .int .i64 0) (by rfl) rfl rfl rfl ?_
 simp only [putT, List.set]
 refine wpV_nil (hLk _ (fun w29 Sw29 => ?_))
 clear hLk Lk
 simp only [List.take, List.drop]
 replace M := M.sees Sw29
 refine wpL_var (t := 26) (cs := [.int .u64 0, .int .u64 0, .int .u64 0, .int .u64 0, .int .u64 0, .int .u64 0, .int .u64 0, .int .u64 0, .int .u64 0, .int .u64 0, .int .u64 0, .int .u64 0, .int .u64 0, .int .u64 0, .int .u64 0, .int .u64 0]) (by rfl) (fun W => ?_) (fun g30 w31 Sw31 Hg30 Bg30 => ?_)
 ·
  go_simp
 replace M := ((M.sees Sw31).addS (N := 16) (cs := [.int .u64 0, .int .u64 0, .int .u64 0, .int .u64 0, .int .u64 0, .int .u64 0, .int .u64 0, .int .u64 0, .int .u64 0, .int .u64 0, .int .u64 0, .int .u64 0, .int .u64 0, .int .u64 0, .int .u64 0, .int .u64 0]) (segs := [(0, [.int .u64 0, .int .u64 0, .int .u64 0, .int .u64 0]), (4, [.int .u64 0, .int .u64 0, .int .u64 0, .int .u64 0]), (8, [.int .u64 0, .int .u64 0, .int .u64 0, .int .u64 0]), (12, [.int .u64 0, .int .u64 0, .int .u64 0, .int .u64 0])]) (M.ge Hg30) (M.fresh Hg30) Bg30 rfl ⟨rfl, rfl, rfl, rfl, trivial⟩)
 clear Bg30
 simp only [putT, List.set]
 refine wpL_store (g := g30) (off := 0) (n := 16) (cs := fel (addP pa pb).x ++ fel (addP pa pb).y ++ fel (addP pa pb).z ++ fel (addP pa pb).t) (by rfl) (by rfl) (by rfl) (by rfl) (by rfl) (M.t 0 rfl) (by simp [flen]) info26 (one4 _ _ _ _) (fun w32 P R T => ?_)
 replace M := M.put (segs' := [(0, fel (addP pa pb).x), (4, fel (addP pa pb).y), (8, fel (addP pa pb).z), (12, fel (addP pa pb).t)]) 0 rfl P T (SegsOf.at R ⟨rfl, rfl, rfl, rfl, trivial⟩)
 simp only [List.set] at M
 refine wpL_assign (v := .int .i64 0) (by rfl) (by rfl) (by rfl) ?_
 simp only [putT, List.set]
 refine wpL_nil (no_panic ?_)
 refine hK27 _ _ ?_
 refine wp_seq_k (fun K33 hK33 => ?_)
 refine wp_region_seq ?_
 refine wpL_chunk 6 (by rfl) (fun Lk hLk => ?_)
 simp only [List.take, List.drop]
 refine wpV_load (cs := fel pb.x ++ (fel pb.y) ++ (fel pb.z) ++ (fel pb.t)) (by rfl) rfl rfl (range_join (range_join (range_join (M.r 2 0 rfl rfl) (M.r 2 1 rfl rfl) (by simp [flen])) (M.r 2 2 rfl rfl) (by simp [flen])) (M.r 2 3 rfl rfl) (by simp [flen])) (M.lt 2 rfl) Try.underlying26 rfl info26 ?_
 simp only [putT, List.set]
 refine wpV_load (cs := fel pa.x ++ (fel pa.y) ++ (fel pa.z) ++ (fel pa.t)) (by rfl) rfl rfl (range_join (range_join (range_join (M.r 3 0 rfl rfl) (M.r 3 1 rfl rfl) (by simp [flen])) (M.r 3 2 rfl rfl) (by simp [flen])) (M.r 3 3 rfl rfl) (by simp [flen])) (M.lt 3 rfl) Try.underlying26 rfl info26 ?_
 simp only [putT, List.set]
 refine wpV_callf (v := .tuple #[.agg (fel (addP pb pa).x ++ fel (addP pb pa).y ++ fel (addP pb pa).z ++ fel (addP pb pa).t : List Value).toArray, .int .i64 0]) (args := #[.agg (fel pb.x ++ (fel pb.y) ++ (fel pb.z) ++ (fel pb.t) : List Value).toArray, .agg (fel pa.x ++ (fel pa.y) ++ (fel pa.z) ++ (fel pa.t) : List Value).toArray]) (by rfl) rfl Try.func21 (by kernel_rfl) (by kernel_rfl) rfl (fun W hW => Add_ok hpb hpa rpb rpa) ?_
 simp only [putT, List.set]
 refine wpV_move (v := .tuple #[.agg (fel (addP pb pa).x ++ fel (addP pb pa).y ++ fel (addP pb pa).z ++ fel (addP pb pa).t : List Value).toArray, .int .i64 0]) (by rfl) rfl rfl ?_
 simp only [putT, List.set]
 refine wpV_extract (v := .agg (fel (addP pb pa).x ++ fel (addP pb pa).y ++ fel (addP pb pa).z ++ fel (addP pb pa).t : List Value).toArray) (by rfl) rfl rfl rfl ?_
 simp only [putT, List.set]
 refine wpV_extract (v := .int .i64 0) (by rfl) rfl rfl rfl ?_
 simp only [putT, List.set]
 refine wpV_nil (hLk _ (fun w35 Sw35 => ?_))
 clear hLk Lk
 simp only [List.take, List.drop]
 replace M := M.sees Sw35
 refine wpL_var (t := 26) (cs := [.int .u64 0, .int .u64 0, .int .u64 0, .int .u64 0, .int .u64 0, .int .u64 0, .int .u64 0, .int .u64 0, .int .u64 0, .int .u64 0, .int .u64 0, .int .u64 0, .int .u64 0, .int .u64 0, .int .u64 0, .int .u64 0]) (by rfl) (fun W => ?_) (fun g36 w37 Sw37 Hg36 Bg36 => ?_)
 ·
  go_simp
 replace M := ((M.sees Sw37).addS (N := 16) (cs := [.int .u64 0, .int .u64 0, .int .u64 0, .int .u64 0, .int .u64 0, .int .u64 0, .int .u64 0, .int .u64 0, .int .u64 0, .int .u64 0, .int .u64 0, .int .u64 0, .int .u64 0, .int .u64 0, .int .u64 0, .int .u64 0]) (segs := [(0, [.int .u64 0, .int .u64 0, .int .u64 0, .int .u64 0]), (4, [.int .u64 0, .int .u64 0, .int .u64 0, .int .u64 0]), (8, [.int .u64 0, .int .u64 0, .int .u64 0, .int .u64 0]), (12, [.int .u64 0, .int .u64 0, .int .u64 0, .int .u64 0])]) (M.ge Hg36) (M.fresh Hg36) Bg36 rfl ⟨rfl, rfl, rfl, rfl, trivial⟩)
 clear Bg36
 simp only [putT, List.set]
 refine wpL_store (g := g36) (off := 0) (n := 16) (cs := fel (addP pb pa).x ++ fel (addP pb pa).y ++ fel (addP pb pa).z ++ fel (addP pb pa).t) (by rfl) (by rfl) (by rfl) (by rfl) (by rfl) (M.t 0 rfl) (by simp [flen]) info26 (one4 _ _ _ _) (fun w38 P R T => ?_)
 replace M := M.put (segs' := [(0, fel (addP pb pa).x), (4, fel (addP pb pa).y), (8, fel (addP pb pa).z), (12, fel (addP pb pa).t)]) 0 rfl P T (SegsOf.at R ⟨rfl, rfl, rfl, rfl, trivial⟩)
 simp only [List.set] at M
 refine wpL_assign (v := .int .i64 0) (by rfl) (by rfl) (by rfl) ?_
 simp only [putT, List.set]
 refine wpL_nil (no_panic ?_)
 refine hK33 _ _ ?_
 refine wp_seq_k (fun K39 hK39 => ?_)
 refine wp_region_seq ?_
 refine wpL_chunk 6 (by rfl) (fun Lk hLk => ?_)
 simp only [List.take, List.drop]
 refine wpV_load (cs := fel pb.x ++ (fel pb.y) ++ (fel pb.z) ++ (fel pb.t)) (by rfl) rfl rfl (range_join (range_join (range_join (M.r 3 0 rfl rfl) (M.r 3 1 rfl rfl) (by simp [flen])) (M.r 3 2 rfl rfl) (by simp [flen])) (M.r 3 3 rfl rfl) (by simp [flen])) (M.lt 3 rfl) Try.underlying26 rfl info26 ?_
 simp only [putT, List.set]
 refine wpV_load (cs := fel pc.x ++ (fel pc.y) ++ (fel pc.z) ++ (fel pc.t)) (by rfl) rfl rfl (range_join (range_join (range_join (M.r 2 0 rfl rfl) (M.r 2 1 rfl rfl) (by simp [flen])) (M.r 2 2 rfl rfl) (by simp [flen])) (M.r 2 3 rfl rfl) (by simp [flen])) (M.lt 2 rfl) Try.underlying26 rfl info26 ?_
 simp only [putT, List.set]
 refine wpV_callf (v := .tuple #[.agg (fel (addP pb pc).x ++ fel (addP pb pc).y ++ fel (addP pb pc).z ++ fel (addP pb pc).t : List Value).toArray, .int .i64 0]) (args := #[.agg (fel pb.x ++ (fel pb.y) ++ (fel pb.z) ++ (fel pb.t) : List Value).toArray, .agg (fel pc.x ++ (fel pc.y) ++ (fel pc.z) ++ (fel pc.t) : List Value).toArray]) (by rfl) rfl Try.func21 (by kernel_rfl) (by kernel_rfl) rfl (fun W hW => Add_ok hpb hpc rpb rpc) ?_
 simp only [putT, List.set]
 refine wpV_move (v := .tuple #[.agg (fel (addP pb pc).x ++ fel (addP pb pc).y ++ fel (addP pb pc).z ++ fel (addP pb pc).t : List Value).toArray, .int .i64 0]) (by rfl) rfl rfl ?_
 simp only [putT, List.set]
 refine wpV_extract (v := .agg (fel (addP pb pc).x ++ fel (addP pb pc).y ++ fel (addP pb pc).z ++ fel (addP pb pc).t : List Value).toArray) (by rfl) rfl rfl rfl ?_
 simp only [putT, List.set]
 refine wpV_extract (v := .int .i64 0) (by rfl) rfl rfl rfl ?_
 simp only [putT, List.set]
 refine wpV_nil (hLk _ (fun w41 Sw41 => ?_))
 clear hLk Lk
 simp only [List.take, List.drop]
 replace M := M.sees Sw41
 refine wpL_var (t := 26) (cs := [.int .u64 0, .int .u64 0, .int .u64 0, .int .u64 0, .int .u64 0, .int .u64 0, .int .u64 0, .int .u64 0, .int .u64 0, .int .u64 0, .int .u64 0, .int .u64 0, .int .u64 0, .int .u64 0, .int .u64 0, .int .u64 0]) (by rfl) (fun W => ?_) (fun g42 w43 Sw43 Hg42 Bg42 => ?_)
 ·
  go_simp
 replace M := ((M.sees Sw43).addS (N := 16) (cs := [.int .u64 0, .int .u64 0, .int .u64 0, .int .u64 0, .int .u64 0, .int .u64 0, .int .u64 0, .int .u64 0, .int .u64 0, .int .u64 0, .int .u64 0, .int .u64 0, .int .u64 0, .int .u64 0, .int .u64 0, .int .u64 0]) (segs := [(0, [.int .u64 0, .int .u64 0, .int .u64 0, .int .u64 0]), (4, [.int .u64 0, .int .u64 0, .int .u64 0, .int .u64 0]), (8, [.int .u64 0, .int .u64 0, .int .u64 0, .int .u64 0]), (12, [.int .u64 0, .int .u64 0, .int .u64 0, .int .u64 0])]) (M.ge Hg42) (M.fresh Hg42) Bg42 rfl ⟨rfl, rfl, rfl, rfl, trivial⟩)
 clear Bg42
 simp only [putT, List.set]
 refine wpL_store (g := g42) (off := 0) (n := 16) (cs := fel (addP pb pc).x ++ fel (addP pb pc).y ++ fel (addP pb pc).z ++ fel (addP pb pc).t) (by rfl) (by rfl) (by rfl) (by rfl) (by rfl) (M.t 0 rfl) (by simp [flen]) info26 (one4 _ _ _ _) (fun w44 P R T => ?_)
 replace M := M.put (segs' := [(0, fel (addP pb pc).x), (4, fel (addP pb pc).y), (8, fel (addP pb pc).z), (12, fel (addP pb pc).t)]) 0 rfl P T (SegsOf.at R ⟨rfl, rfl, rfl, rfl, trivial⟩)
 simp only [List.set] at M
 refine wpL_assign (v := .int .i64 0) (by rfl) (by rfl) (by rfl) ?_
 simp only [putT, List.set]
 refine wpL_nil (no_panic ?_)
 refine hK39 _ _ ?_
 refine wp_seq_k (fun K45 hK45 => ?_)
 refine wp_region_seq ?_
 refine wpL_chunk 6 (by rfl) (fun Lk hLk => ?_)
 simp only [List.take, List.drop]
 refine wpV_load (cs := fel (addP pa pb).x ++ (fel (addP pa pb).y) ++ (fel (addP pa pb).z) ++ (fel (addP pa pb).t)) (by rfl) rfl rfl (range_join (range_join (range_join (M.r 2 0 rfl rfl) (M.r 2 1 rfl rfl) (by simp [flen])) (M.r 2 2 rfl rfl) (by simp [flen])) (M.r 2 3 rfl rfl) (by simp [flen])) (M.lt 2 rfl) Try.underlying26 rfl info26 ?_
 simp only [putT, List.set]
 refine wpV_load (cs := fel pc.x ++ (fel pc.y) ++ (fel pc.z) ++ (fel pc.t)) (by rfl) rfl rfl (range_join (range_join (range_join (M.r 3 0 rfl rfl) (M.r 3 1 rfl rfl) (by simp [flen])) (M.r 3 2 rfl rfl) (by simp [flen])) (M.r 3 3 rfl rfl) (by simp [flen])) (M.lt 3 rfl) Try.underlying26 rfl info26 ?_
 simp only [putT, List.set]
 refine wpV_callf (v := .tuple #[.agg (fel (addP (addP pa pb) pc).x ++ fel (addP (addP pa pb) pc).y ++ fel (addP (addP pa pb) pc).z ++ fel (addP (addP pa pb) pc).t : List Value).toArray, .int .i64 0]) (args := #[.agg (fel (addP pa pb).x ++ (fel (addP pa pb).y) ++ (fel (addP pa pb).z) ++ (fel (addP pa pb).t) : List Value).toArray, .agg (fel pc.x ++ (fel pc.y) ++ (fel pc.z) ++ (fel pc.t) : List Value).toArray]) (by rfl) rfl Try.func21 (by kernel_rfl) (by kernel_rfl) rfl (fun W hW => Add_ok (addP_ok ..) hpc (right_add rpa rpb) rpc) ?_
 simp only [putT, List.set]
 refine wpV_move (v := .tuple #[.agg (fel (addP (addP pa pb) pc).x ++ fel (addP (addP pa pb) pc).y ++ fel (addP (addP pa pb) pc).z ++ fel (addP (addP pa pb) pc).t : List Value).toArray, .int .i64 0]) (by rfl) rfl rfl ?_
 simp only [putT, List.set]
 refine wpV_extract (v := .agg (fel (addP (addP pa pb) pc).x ++ fel (addP (addP pa pb) pc).y ++ fel (addP (addP pa pb) pc).z ++ fel (addP (addP pa pb) pc).t : List Value).toArray) (by rfl) rfl rfl rfl ?_
 simp only [putT, List.set]
 refine wpV_extract (v := .int .i64 0) (by rfl) rfl rfl rfl ?_
 simp only [putT, List.set]
 refine wpV_nil (hLk _ (fun w47 Sw47 => ?_))
 clear hLk Lk
 simp only [List.take, List.drop]
 replace M := M.sees Sw47
 refine wpL_var (t := 26) (cs := [.int .u64 0, .int .u64 0, .int .u64 0, .int .u64 0, .int .u64 0, .int .u64 0, .int .u64 0, .int .u64 0, .int .u64 0, .int .u64 0, .int .u64 0, .int .u64 0, .int .u64 0, .int .u64 0, .int .u64 0, .int .u64 0]) (by rfl) (fun W => ?_) (fun g48 w49 Sw49 Hg48 Bg48 => ?_)
 ·
  go_simp
 replace M := ((M.sees Sw49).addS (N := 16) (cs := [.int .u64 0, .int .u64 0, .int .u64 0, .int .u64 0, .int .u64 0, .int .u64 0, .int .u64 0, .int .u64 0, .int .u64 0, .int .u64 0, .int .u64 0, .int .u64 0, .int .u64 0, .int .u64 0, .int .u64 0, .int .u64 0]) (segs := [(0, [.int .u64 0, .int .u64 0, .int .u64 0, .int .u64 0]), (4, [.int .u64 0, .int .u64 0, .int .u64 0, .int .u64 0]), (8, [.int .u64 0, .int .u64 0, .int .u64 0, .int .u64 0]), (12, [.int .u64 0, .int .u64 0, .int .u64 0, .int .u64 0])]) (M.ge Hg48) (M.fresh Hg48) Bg48 rfl ⟨rfl, rfl, rfl, rfl, trivial⟩)
 clear Bg48
 simp only [putT, List.set]
 refine wpL_store (g := g48) (off := 0) (n := 16) (cs := fel (addP (addP pa pb) pc).x ++ fel (addP (addP pa pb) pc).y ++ fel (addP (addP pa pb) pc).z ++ fel (addP (addP pa pb) pc).t) (by rfl) (by rfl) (by rfl) (by rfl) (by rfl) (M.t 0 rfl) (by simp [flen]) info26 (one4 _ _ _ _) (fun w50 P R T => ?_)
 replace M := M.put (segs' := [(0, fel (addP (addP pa pb) pc).x), (4, fel (addP (addP pa pb) pc).y), (8, fel (addP (addP pa pb) pc).z), (12, fel (addP (addP pa pb) pc).t)]) 0 rfl P T (SegsOf.at R ⟨rfl, rfl, rfl, rfl, trivial⟩)
 simp only [List.set] at M
 refine wpL_assign (v := .int .i64 0) (by rfl) (by rfl) (by rfl) ?_
 simp only [putT, List.set]
 refine wpL_nil (no_panic ?_)
 refine hK45 _ _ ?_
 refine wp_seq_k (fun K51 hK51 => ?_)
 refine wp_region_seq ?_
 refine wpL_chunk 6 (by rfl) (fun Lk hLk => ?_)
 simp only [List.take, List.drop]
 refine wpV_load (cs := fel pa.x ++ (fel pa.y) ++ (fel pa.z) ++ (fel pa.t)) (by rfl) rfl rfl (range_join (range_join (range_join (M.r 6 0 rfl rfl) (M.r 6 1 rfl rfl) (by simp [flen])) (M.r 6 2 rfl rfl) (by simp [flen])) (M.r 6 3 rfl rfl) (by simp [flen])) (M.lt 6 rfl) Try.underlying26 rfl info26 ?_
 simp only [putT, List.set]
 refine wpV_load (cs := fel (addP pb pc).x ++ (fel (addP pb pc).y) ++ (fel (addP pb pc).z) ++ (fel (addP pb pc).t)) (by rfl) rfl rfl (range_join (range_join (range_join (M.r 1 0 rfl rfl) (M.r 1 1 rfl rfl) (by simp [flen])) (M.r 1 2 rfl rfl) (by simp [flen])) (M.r 1 3 rfl rfl) (by simp [flen])) (M.lt 1 rfl) Try.underlying26 rfl info26 ?_
 simp only [putT, List.set]
 refine wpV_callf (v := .tuple #[.agg (fel (addP pa (addP pb pc)).x ++ fel (addP pa (addP pb pc)).y ++ fel (addP pa (addP pb pc)).z ++ fel (addP pa (addP pb pc)).t : List Value).toArray, .int .i64 0]) (args := #[.agg (fel pa.x ++ (fel pa.y) ++ (fel pa.z) ++ (fel pa.t) : List Value).toArray, .agg (fel (addP pb pc).x ++ (fel (addP pb pc).y) ++ (fel (addP pb pc).z) ++ (fel (addP pb pc).t) : List Value).toArray]) (by rfl) rfl Try.func21 (by kernel_rfl) (by kernel_rfl) rfl (fun W hW => Add_ok hpa (addP_ok ..) rpa (right_add rpb rpc)) ?_
 simp only [putT, List.set]
 refine wpV_move (v := .tuple #[.agg (fel (addP pa (addP pb pc)).x ++ fel (addP pa (addP pb pc)).y ++ fel (addP pa (addP pb pc)).z ++ fel (addP pa (addP pb pc)).t : List Value).toArray, .int .i64 0]) (by rfl) rfl rfl ?_
 simp only [putT, List.set]
 refine wpV_extract (v := .agg (fel (addP pa (addP pb pc)).x ++ fel (addP pa (addP pb pc)).y ++ fel (addP pa (addP pb pc)).z ++ fel (addP pa (addP pb pc)).t : List Value).toArray) (by rfl) rfl rfl rfl ?_
 simp only [putT, List.set]
 refine wpV_extract (v := .int .i64 0) (by rfl) rfl rfl rfl ?_
 simp only [putT, List.set]
 refine wpV_nil (hLk _ (fun w53 Sw53 => ?_))
 clear hLk Lk
 simp only [List.take, List.drop]
 replace M := M.sees Sw53
 refine wpL_var (t := 26) (cs := [.int .u64 0, .int .u64 0, .int .u64 0, .int .u64 0, .int .u64 0, .int .u64 0, .int .u64 0, .int .u64 0, .int .u64 0, .int .u64 0, .int .u64 0, .int .u64 0, .int .u64 0, .int .u64 0, .int .u64 0, .int .u64 0]) (by rfl) (fun W => ?_) (fun g54 w55 Sw55 Hg54 Bg54 => ?_)
 ·
  go_simp
 replace M := ((M.sees Sw55).addS (N := 16) (cs := [.int .u64 0, .int .u64 0, .int .u64 0, .int .u64 0, .int .u64 0, .int .u64 0, .int .u64 0, .int .u64 0, .int .u64 0, .int .u64 0, .int .u64 0, .int .u64 0, .int .u64 0, .int .u64 0, .int .u64 0, .int .u64 0]) (segs := [(0, [.int .u64 0, .int .u64 0, .int .u64 0, .int .u64 0]), (4, [.int .u64 0, .int .u64 0, .int .u64 0, .int .u64 0]), (8, [.int .u64 0, .int .u64 0, .int .u64 0, .int .u64 0]), (12, [.int .u64 0, .int .u64 0, .int .u64 0, .int .u64 0])]) (M.ge Hg54) (M.fresh Hg54) Bg54 rfl ⟨rfl, rfl, rfl, rfl, trivial⟩)
 clear Bg54
 simp only [putT, List.set]
 refine wpL_store (g := g54) (off := 0) (n := 16) (cs := fel (addP pa (addP pb pc)).x ++ fel (addP pa (addP pb pc)).y ++ fel (addP pa (addP pb pc)).z ++ fel (addP pa (addP pb pc)).t) (by rfl) (by rfl) (by rfl) (by rfl) (by rfl) (M.t 0 rfl) (by simp [flen]) info26 (one4 _ _ _ _) (fun w56 P R T => ?_)
 replace M := M.put (segs' := [(0, fel (addP pa (addP pb pc)).x), (4, fel (addP pa (addP pb pc)).y), (8, fel (addP pa (addP pb pc)).z), (12, fel (addP pa (addP pb pc)).t)]) 0 rfl P T (SegsOf.at R ⟨rfl, rfl, rfl, rfl, trivial⟩)
 simp only [List.set] at M
 refine wpL_assign (v := .int .i64 0) (by rfl) (by rfl) (by rfl) ?_
 simp only [putT, List.set]
 refine wpL_nil (no_panic ?_)
 refine hK51 _ _ ?_
 refine wp_seq_k (fun K57 hK57 => ?_)
 refine wp_region_seq ?_
 refine wpL_chunk 5 (by rfl) (fun Lk hLk => ?_)
 simp only [List.take, List.drop]
 refine wpV_load (cs := fel pa.x ++ (fel pa.y) ++ (fel pa.z) ++ (fel pa.t)) (by rfl) rfl rfl (range_join (range_join (range_join (M.r 7 0 rfl rfl) (M.r 7 1 rfl rfl) (by simp [flen])) (M.r 7 2 rfl rfl) (by simp [flen])) (M.r 7 3 rfl rfl) (by simp [flen])) (M.lt 7 rfl) Try.underlying26 rfl info26 ?_
 simp only [putT, List.set]
 refine wpV_callf (v := .tuple #[.agg (fel (negP pa).x ++ fel (negP pa).y ++ fel (negP pa).z ++ fel (negP pa).t : List Value).toArray, .int .i64 0]) (args := #[.agg (fel pa.x ++ (fel pa.y) ++ (fel pa.z) ++ (fel pa.t) : List Value).toArray]) (by rfl) rfl Try.func22 (by kernel_rfl) (by kernel_rfl) rfl (fun W hW => Neg_ok hpa rpa) ?_
 simp only [putT, List.set]
 refine wpV_move (v := .tuple #[.agg (fel (negP pa).x ++ fel (negP pa).y ++ fel (negP pa).z ++ fel (negP pa).t : List Value).toArray, .int .i64 0]) (by rfl) rfl rfl ?_
 simp only [putT, List.set]
 refine wpV_extract (v := .agg (fel (negP pa).x ++ fel (negP pa).y ++ fel (negP pa).z ++ fel (negP pa).t : List Value).toArray) (by rfl) rfl rfl rfl ?_
 simp only [putT, List.set]
 refine wpV_extract (v := .int .i64 0) (by rfl) rfl rfl rfl ?_
 simp only [putT, List.set]
 refine wpV_nil (hLk _ (fun w59 Sw59 => ?_))
 clear hLk Lk
 simp only [List.take, List.drop]
 replace M := M.sees Sw59
 refine wpL_var (t := 26) (cs := [.int .u64 0, .int .u64 0, .int .u64 0, .int .u64 0, .int .u64 0, .int .u64 0, .int .u64 0, .int .u64 0, .int .u64 0, .int .u64 0, .int .u64 0, .int .u64 0, .int .u64 0, .int .u64 0, .int .u64 0, .int .u64 0]) (by rfl) (fun W => ?_) (fun g60 w61 Sw61 Hg60 Bg60 => ?_)
 ·
  go_simp
 replace M := ((M.sees Sw61).addS (N := 16) (cs := [.int .u64 0, .int .u64 0, .int .u64 0, .int .u64 0, .int .u64 0, .int .u64 0, .int .u64 0, .int .u64 0, .int .u64 0, .int .u64 0, .int .u64 0, .int .u64 0, .int .u64 0, .int .u64 0, .int .u64 0, .int .u64 0]) (segs := [(0, [.int .u64 0, .int .u64 0, .int .u64 0, .int .u64 0]), (4, [.int .u64 0, .int .u64 0, .int .u64 0, .int .u64 0]), (8, [.int .u64 0, .int .u64 0, .int .u64 0, .int .u64 0]), (12, [.int .u64 0, .int .u64 0, .int .u64 0, .int .u64 0])]) (M.ge Hg60) (M.fresh Hg60) Bg60 rfl ⟨rfl, rfl, rfl, rfl, trivial⟩)
 clear Bg60
 simp only [putT, List.set]
 refine wpL_store (g := g60) (off := 0) (n := 16) (cs := fel (negP pa).x ++ fel (negP pa).y ++ fel (negP pa).z ++ fel (negP pa).t) (by rfl) (by rfl) (by rfl) (by rfl) (by rfl) (M.t 0 rfl) (by simp [flen]) info26 (one4 _ _ _ _) (fun w62 P R T => ?_)
 replace M := M.put (segs' := [(0, fel (negP pa).x), (4, fel (negP pa).y), (8, fel (negP pa).z), (12, fel (negP pa).t)]) 0 rfl P T (SegsOf.at R ⟨rfl, rfl, rfl, rfl, trivial⟩)
 simp only [List.set] at M
 refine wpL_assign (v := .int .i64 0) (by rfl) (by rfl) (by rfl) ?_
 simp only [putT, List.set]
 refine wpL_nil (no_panic ?_)
 refine hK57 _ _ ?_
 refine wp_seq_k (fun K63 hK63 => ?_)
 refine wp_region_seq ?_
 refine wpL_chunk 6 (by rfl) (fun Lk hLk => ?_)
 simp only [List.take, List.drop]
 refine wpV_load (cs := fel pa.x ++ (fel pa.y) ++ (fel pa.z) ++ (fel pa.t)) (by rfl) rfl rfl (range_join (range_join (range_join (M.r 8 0 rfl rfl) (M.r 8 1 rfl rfl) (by simp [flen])) (M.r 8 2 rfl rfl) (by simp [flen])) (M.r 8 3 rfl rfl) (by simp [flen])) (M.lt 8 rfl) Try.underlying26 rfl info26 ?_
 simp only [putT, List.set]
 refine wpV_load (cs := fel (negP pa).x ++ (fel (negP pa).y) ++ (fel (negP pa).z) ++ (fel (negP pa).t)) (by rfl) rfl rfl (range_join (range_join (range_join (M.r 0 0 rfl rfl) (M.r 0 1 rfl rfl) (by simp [flen])) (M.r 0 2 rfl rfl) (by simp [flen])) (M.r 0 3 rfl rfl) (by simp [flen])) (M.lt 0 rfl) Try.underlying26 rfl info26 ?_
 simp only [putT, List.set]
 refine wpV_callf (v := .tuple #[.agg (fel (addP pa (negP pa)).x ++ fel (addP pa (negP pa)).y ++ fel (addP pa (negP pa)).z ++ fel (addP pa (negP pa)).t : List Value).toArray, .int .i64 0]) (args := #[.agg (fel pa.x ++ (fel pa.y) ++ (fel pa.z) ++ (fel pa.t) : List Value).toArray, .agg (fel (negP pa).x ++ (fel (negP pa).y) ++ (fel (negP pa).z) ++ (fel (negP pa).t) : List Value).toArray]) (by rfl) rfl Try.func21 (by kernel_rfl) (by kernel_rfl) rfl (fun W hW => Add_ok hpa (negP_ok hpa) rpa (right_neg rpa)) ?_
 simp only [putT, List.set]
 refine wpV_move (v := .tuple #[.agg (fel (addP pa (negP pa)).x ++ fel (addP pa (negP pa)).y ++ fel (addP pa (negP pa)).z ++ fel (addP pa (negP pa)).t : List Value).toArray, .int .i64 0]) (by rfl) rfl rfl ?_
 simp only [putT, List.set]
 refine wpV_extract (v := .agg (fel (addP pa (negP pa)).x ++ fel (addP pa (negP pa)).y ++ fel (addP pa (negP pa)).z ++ fel (addP pa (negP pa)).t : List Value).toArray) (by rfl) rfl rfl rfl ?_
 simp only [putT, List.set]
 refine wpV_extract (v := .int .i64 0) (by rfl) rfl rfl rfl ?_
 simp only [putT, List.set]
 refine wpV_nil (hLk _ (fun w65 Sw65 => ?_))
 clear hLk Lk
 simp only [List.take, List.drop]
 replace M := M.sees Sw65
 refine wpL_var (t := 26) (cs := [.int .u64 0, .int .u64 0, .int .u64 0, .int .u64 0, .int .u64 0, .int .u64 0, .int .u64 0, .int .u64 0, .int .u64 0, .int .u64 0, .int .u64 0, .int .u64 0, .int .u64 0, .int .u64 0, .int .u64 0, .int .u64 0]) (by rfl) (fun W => ?_) (fun g66 w67 Sw67 Hg66 Bg66 => ?_)
 ·
  go_simp
 replace M := ((M.sees Sw67).addS (N := 16) (cs := [.int .u64 0, .int .u64 0, .int .u64 0, .int .u64 0, .int .u64 0, .int .u64 0, .int .u64 0, .int .u64 0, .int .u64 0, .int .u64 0, .int .u64 0, .int .u64 0, .int .u64 0, .int .u64 0, .int .u64 0, .int .u64 0]) (segs := [(0, [.int .u64 0, .int .u64 0, .int .u64 0, .int .u64 0]), (4, [.int .u64 0, .int .u64 0, .int .u64 0, .int .u64 0]), (8, [.int .u64 0, .int .u64 0, .int .u64 0, .int .u64 0]), (12, [.int .u64 0, .int .u64 0, .int .u64 0, .int .u64 0])]) (M.ge Hg66) (M.fresh Hg66) Bg66 rfl ⟨rfl, rfl, rfl, rfl, trivial⟩)
 clear Bg66
 simp only [putT, List.set]
 refine wpL_store (g := g66) (off := 0) (n := 16) (cs := fel (addP pa (negP pa)).x ++ fel (addP pa (negP pa)).y ++ fel (addP pa (negP pa)).z ++ fel (addP pa (negP pa)).t) (by rfl) (by rfl) (by rfl) (by rfl) (by rfl) (M.t 0 rfl) (by simp [flen]) info26 (one4 _ _ _ _) (fun w68 P R T => ?_)
 replace M := M.put (segs' := [(0, fel (addP pa (negP pa)).x), (4, fel (addP pa (negP pa)).y), (8, fel (addP pa (negP pa)).z), (12, fel (addP pa (negP pa)).t)]) 0 rfl P T (SegsOf.at R ⟨rfl, rfl, rfl, rfl, trivial⟩)
 simp only [List.set] at M
 refine wpL_assign (v := .int .i64 0) (by rfl) (by rfl) (by rfl) ?_
 simp only [putT, List.set]
 refine wpL_nil (no_panic ?_)
 refine hK63 _ _ ?_
 refine wp_seq_k (fun K69 hK69 => ?_)
 refine wp_region_grow 7 [5] (by kernel_rfl) (by kernel_rfl) (by kernel_rfl) (fun Lk hLk => ?_)
 simp only [List.take, List.drop]
 refine wpV_load (cs := fel pa.x ++ (fel pa.y) ++ (fel pa.z) ++ (fel pa.t)) (by rfl) rfl rfl (range_join (range_join (range_join (M.r 9 0 rfl rfl) (M.r 9 1 rfl rfl) (by simp [flen])) (M.r 9 2 rfl rfl) (by simp [flen])) (M.r 9 3 rfl rfl) (by simp [flen])) (M.lt 9 rfl) Try.underlying26 rfl info26 ?_
 simp only [putT, List.set]
 refine wpV_callf (v := .agg (fel zeroP.x ++ fel zeroP.y ++ fel zeroP.z ++ fel zeroP.t : List Value).toArray) (args := #[]) (by rfl) rfl Try.func15 (by kernel_rfl) (by kernel_rfl) rfl (fun W hW => zero_c) ?_
 simp only [putT, List.set]
 refine wpV_callf (v := .tuple #[.agg (fel (addP pa zeroP).x ++ fel (addP pa zeroP).y ++ fel (addP pa zeroP).z ++ fel (addP pa zeroP).t : List Value).toArray, .int .i64 0]) (args := #[.agg (fel pa.x ++ (fel pa.y) ++ (fel pa.z) ++ (fel pa.t) : List Value).toArray, .agg (fel zeroP.x ++ fel zeroP.y ++ fel zeroP.z ++ fel zeroP.t : List Value).toArray]) (by rfl) rfl Try.func21 (by kernel_rfl) (by kernel_rfl) rfl (fun W hW => Add_ok hpa zeroP_ok rpa right_zero) ?_
 simp only [putT, List.set]
 refine wpV_move (v := .tuple #[.agg (fel (addP pa zeroP).x ++ fel (addP pa zeroP).y ++ fel (addP pa zeroP).z ++ fel (addP pa zeroP).t : List Value).toArray, .int .i64 0]) (by rfl) rfl rfl ?_
 simp only [putT, List.set]
 refine wpV_extract (v := .agg (fel (addP pa zeroP).x ++ fel (addP pa zeroP).y ++ fel (addP pa zeroP).z ++ fel (addP pa zeroP).t : List Value).toArray) (by rfl) rfl rfl rfl ?_
 simp only [putT, List.set]
 refine wpV_extract (v := .int .i64 0) (by rfl) rfl rfl rfl ?_
 simp only [putT, List.set]
 refine wpV_alloc (by rfl) ?_
 refine wpV_nil (hLk.out _ ?_)
 clear hLk Lk
 simp only [List.take, List.drop]
 iterate 6 refine wpN_skip (by rfl) ?_
 refine wpN_new (t := 26) (cs := ([.int .u64 0, .int .u64 0, .int .u64 0, .int .u64 0, .int .u64 0, .int .u64 0, .int .u64 0, .int .u64 0, .int .u64 0, .int .u64 0, .int .u64 0, .int .u64 0, .int .u64 0, .int .u64 0, .int .u64 0, .int .u64 0]).toArray) (by rfl) (fun W => ?_) (fun g71 Hg71 ng71 => ?_)
 ·
  go_simp
 simp only [putT, List.set]
 refine wpN_nil (fun w72 Sw72 hbs => ?_)
 replace M := ((M.sees Sw72).addS (N := 16) (cs := [.int .u64 0, .int .u64 0, .int .u64 0, .int .u64 0, .int .u64 0, .int .u64 0, .int .u64 0, .int .u64 0, .int .u64 0, .int .u64 0, .int .u64 0, .int .u64 0, .int .u64 0, .int .u64 0, .int .u64 0, .int .u64 0]) (segs := [(0, [.int .u64 0, .int .u64 0, .int .u64 0, .int .u64 0]), (4, [.int .u64 0, .int .u64 0, .int .u64 0, .int .u64 0]), (8, [.int .u64 0, .int .u64 0, .int .u64 0, .int .u64 0]), (12, [.int .u64 0, .int .u64 0, .int .u64 0, .int .u64 0])]) (M.ge Hg71) (M.fresh Hg71) (hbs _ (.head _)) rfl ⟨rfl, rfl, rfl, rfl, trivial⟩)
 clear hbs ng71
 refine wpL_store (g := g71) (off := 0) (n := 16) (cs := fel (addP pa zeroP).x ++ fel (addP pa zeroP).y ++ fel (addP pa zeroP).z ++ fel (addP pa zeroP).t) (by rfl) (by rfl) (by rfl) (by rfl) (by rfl) (M.t 0 rfl) (by simp [flen]) info26 (one4 _ _ _ _) (fun w73 P R T => ?_)
 replace M := M.put (segs' := [(0, fel (addP pa zeroP).x), (4, fel (addP pa zeroP).y), (8, fel (addP pa zeroP).z), (12, fel (addP pa zeroP).t)]) 0 rfl P T (SegsOf.at R ⟨rfl, rfl, rfl, rfl, trivial⟩)
 simp only [List.set] at M
 refine wpL_assign (v := .int .i64 0) (by rfl) (by rfl) (by rfl) ?_
 simp only [putT, List.set]
 refine wpL_nil (no_panic ?_)
 refine hK69 _ _ ?_
 refine wp_seq_k (fun K74 hK74 => ?_)
 refine wp_seq_k (fun K75 hK75 => ?_)
 refine wp_region_seq ?_
 refine wpL_move (v := .bool true) (by rfl) (by rfl) (by rfl) ?_
 simp only [putT, List.set]
 refine wpL_chunk 45 (by rfl) (fun Lk hLk => ?_)
 simp only [List.take, List.drop]
 refine wpV_not (b := true) (by rfl) rfl rfl ?_
 simp only [Bool.not_true, Bool.not_false]
 simp only [putT, List.set]
 refine wpV_move (v := .bool false) (by rfl) rfl rfl ?_
 simp only [putT, List.set]
 refine wpV_move (v := .bool true) (by rfl) rfl rfl ?_
 simp only [putT, List.set]
 refine wpV_not (b := true) (by rfl) rfl rfl ?_
 simp only [Bool.not_true, Bool.not_false]
 simp only [putT, List.set]
 refine wpV_pick (v := .bool false) (by rfl) rfl rfl rfl ?_
 simp only [putT, List.set]
 refine wpV_move (v := .bool false) (by rfl) rfl rfl ?_
 simp only [putT, List.set]
 refine wpV_move (v := .bool true) (by rfl) rfl rfl ?_
 simp only [putT, List.set]
 refine wpV_not (b := true) (by rfl) rfl rfl ?_
 simp only [Bool.not_true, Bool.not_false]
 simp only [putT, List.set]
 refine wpV_pick (v := .bool false) (by rfl) rfl rfl rfl ?_
 simp only [putT, List.set]
 refine wpV_move (v := .bool false) (by rfl) rfl rfl ?_
 simp only [putT, List.set]
 refine wpV_move (v := .int .i64 0) (by rfl) rfl rfl ?_
 simp only [putT, List.set]
 refine wpV_bin (v := .bool false) (by rfl) rfl rfl rfl (fun W => run_neq _ _ _ _ W) ?_
 simp only [putT, List.set]
 refine wpV_pick (v := .bool false) (by rfl) rfl rfl rfl ?_
 simp only [putT, List.set]
 refine wpV_move (v := .bool false) (by rfl) rfl rfl ?_
 simp only [putT, List.set]
 refine wpV_move (v := .int .i64 0) (by rfl) rfl rfl ?_
 simp only [putT, List.set]
 refine wpV_bin (v := .bool false) (by rfl) rfl rfl rfl (fun W => run_neq _ _ _ _ W) ?_
 simp only [putT, List.set]
 refine wpV_pick (v := .bool false) (by rfl) rfl rfl rfl ?_
 simp only [putT, List.set]
 refine wpV_move (v := .bool false) (by rfl) rfl rfl ?_
 simp only [putT, List.set]
 refine wpV_move (v := .int .i64 0) (by rfl) rfl rfl ?_
 simp only [putT, List.set]
 refine wpV_bin (v := .bool false) (by rfl) rfl rfl rfl (fun W => run_neq _ _ _ _ W) ?_
 simp only [putT, List.set]
 refine wpV_pick (v := .bool false) (by rfl) rfl rfl rfl ?_
 simp only [putT, List.set]
 refine wpV_move (v := .bool false) (by rfl) rfl rfl ?_
 simp only [putT, List.set]
 refine wpV_move (v := .int .i64 0) (by rfl) rfl rfl ?_
 simp only [putT, List.set]
 refine wpV_bin (v := .bool false) (by rfl) rfl rfl rfl (fun W => run_neq _ _ _ _ W) ?_
 simp only [putT, List.set]
 refine wpV_pick (v := .bool false) (by rfl) rfl rfl rfl ?_
 simp only [putT, List.set]
 refine wpV_move (v := .bool false) (by rfl) rfl rfl ?_
 simp only [putT, List.set]
 refine wpV_move (v := .int .i64 0) (by rfl) rfl rfl ?_
 simp only [putT, List.set]
 refine wpV_bin (v := .bool false) (by rfl) rfl rfl rfl (fun W => run_neq _ _ _ _ W) ?_
 simp only [putT, List.set]
 refine wpV_pick (v := .bool false) (by rfl) rfl rfl rfl ?_
 simp only [putT, List.set]
 refine wpV_move (v := .bool false) (by rfl) rfl rfl ?_
 simp only [putT, List.set]
 refine wpV_move (v := .int .i64 0) (by rfl) rfl rfl ?_
 simp only [putT, List.set]
 refine wpV_bin (v := .bool false) (by rfl) rfl rfl rfl (fun W => run_neq _ _ _ _ W) ?_
 simp only [putT, List.set]
 refine wpV_pick (v := .bool false) (by rfl) rfl rfl rfl ?_
 simp only [putT, List.set]
 refine wpV_move (v := .bool false) (by rfl) rfl rfl ?_
 simp only [putT, List.set]
 refine wpV_move (v := .int .i64 0) (by rfl) rfl rfl ?_
 simp only [putT, List.set]
 refine wpV_bin (v := .bool false) (by rfl) rfl rfl rfl (fun W => run_neq _ _ _ _ W) ?_
 simp only [putT, List.set]
 refine wpV_pick (v := .bool false) (by rfl) rfl rfl rfl ?_
 simp only [putT, List.set]
 refine wpV_move (v := .bool false) (by rfl) rfl rfl ?_
 simp only [putT, List.set]
 refine wpV_move (v := .int .i64 0) (by rfl) rfl rfl ?_
 simp only [putT, List.set]
 refine wpV_bin (v := .bool false) (by rfl) rfl rfl rfl (fun W => run_neq _ _ _ _ W) ?_
 simp only [putT, List.set]
 refine wpV_pick (v := .bool false) (by rfl) rfl rfl rfl ?_
 simp only [putT, List.set]
 refine wpV_move (v := .bool false) (by rfl) rfl rfl ?_
 simp only [putT, List.set]
 refine wpV_callf (v := .bool true) (args := #[]) (by rfl) rfl Try.func11 (by kernel_rfl) (by kernel_rfl) rfl (fun W hW => alive06_c) ?_
 simp only [putT, List.set]
 refine wpV_not (b := true) (by rfl) rfl rfl ?_
 simp only [Bool.not_true, Bool.not_false]
 simp only [putT, List.set]
 refine wpV_pick (v := .bool false) (by rfl) rfl rfl rfl ?_
 simp only [putT, List.set]
 refine wpV_nil (hLk _ (fun w77 Sw77 => ?_))
 clear hLk Lk
 simp only [List.take, List.drop]
 replace M := M.sees Sw77
 refine wpL_nil (no_panic ?_)
 refine hK75 _ _ ?_
 refine wp_cond_false rfl ?_
 refine wp_skip ?_
 refine hK74 _ _ ?_
 refine wp_seq_k (fun K78 hK78 => ?_)
 refine wp_region_grow 18 [] (by kernel_rfl) (by kernel_rfl) (by kernel_rfl) (fun Lk hLk => ?_)
 simp only [List.take, List.drop]
 refine wpV_load (cs := fel (addP pa pb).x ++ (fel (addP pa pb).y) ++ (fel (addP pa pb).z) ++ (fel (addP pa pb).t)) (by rfl) rfl rfl (range_join (range_join (range_join (M.r 7 0 rfl rfl) (M.r 7 1 rfl rfl) (by simp [flen])) (M.r 7 2 rfl rfl) (by simp [flen])) (M.r 7 3 rfl rfl) (by simp [flen])) (M.lt 7 rfl) Try.underlying26 rfl info26 ?_
 simp only [putT, List.set]
 refine wpV_load (cs := fel (addP pb pa).x ++ (fel (addP pb pa).y) ++ (fel (addP pb pa).z) ++ (fel (addP pb pa).t)) (by rfl) rfl rfl (range_join (range_join (range_join (M.r 6 0 rfl rfl) (M.r 6 1 rfl rfl) (by simp [flen])) (M.r 6 2 rfl rfl) (by simp [flen])) (M.r 6 3 rfl rfl) (by simp [flen])) (M.lt 6 rfl) Try.underlying26 rfl info26 ?_
 simp only [putT, List.set]
 refine wpV_callf (v := .bool true) (args := #[.agg (fel (addP pa pb).x ++ (fel (addP pa pb).y) ++ (fel (addP pa pb).z) ++ (fel (addP pa pb).t) : List Value).toArray, .agg (fel (addP pb pa).x ++ (fel (addP pb pa).y) ++ (fel (addP pb pa).z) ++ (fel (addP pb pa).t) : List Value).toArray]) (by rfl) rfl Try.func20 (by kernel_rfl) (by kernel_rfl) rfl (fun W hW => (by have h9 := same_c (p := addP pa pb) (q := addP pb pa) (w := W) (addP_ok ..) (addP_ok ..); rw [(same_eqv (right_add rpa rpb) (right_add rpb rpa)).2 (add_comm qa qb)] at h9; exact h9)) ?_
 simp only [putT, List.set]
 refine wpV_move (v := .bool true) (by rfl) rfl rfl ?_
 simp only [putT, List.set]
 refine wpV_load (cs := fel (addP (addP pa pb) pc).x ++ (fel (addP (addP pa pb) pc).y) ++ (fel (addP (addP pa pb) pc).z) ++ (fel (addP (addP pa pb) pc).t)) (by rfl) rfl rfl (range_join (range_join (range_join (M.r 4 0 rfl rfl) (M.r 4 1 rfl rfl) (by simp [flen])) (M.r 4 2 rfl rfl) (by simp [flen])) (M.r 4 3 rfl rfl) (by simp [flen])) (M.lt 4 rfl) Try.underlying26 rfl info26 ?_
 simp only [putT, List.set]
 refine wpV_load (cs := fel (addP pa (addP pb pc)).x ++ (fel (addP pa (addP pb pc)).y) ++ (fel (addP pa (addP pb pc)).z) ++ (fel (addP pa (addP pb pc)).t)) (by rfl) rfl rfl (range_join (range_join (range_join (M.r 3 0 rfl rfl) (M.r 3 1 rfl rfl) (by simp [flen])) (M.r 3 2 rfl rfl) (by simp [flen])) (M.r 3 3 rfl rfl) (by simp [flen])) (M.lt 3 rfl) Try.underlying26 rfl info26 ?_
 simp only [putT, List.set]
 refine wpV_callf (v := .bool true) (args := #[.agg (fel (addP (addP pa pb) pc).x ++ (fel (addP (addP pa pb) pc).y) ++ (fel (addP (addP pa pb) pc).z) ++ (fel (addP (addP pa pb) pc).t) : List Value).toArray, .agg (fel (addP pa (addP pb pc)).x ++ (fel (addP pa (addP pb pc)).y) ++ (fel (addP pa (addP pb pc)).z) ++ (fel (addP pa (addP pb pc)).t) : List Value).toArray]) (by rfl) rfl Try.func20 (by kernel_rfl) (by kernel_rfl) rfl (fun W hW => (by have h9 := same_c (p := addP (addP pa pb) pc) (q := addP pa (addP pb pc)) (w := W) (addP_ok ..) (addP_ok ..); rw [(same_eqv (right_add (right_add rpa rpb) rpc) (right_add rpa (right_add rpb rpc))).2 (add_assoc qa qb qc)] at h9; exact h9)) ?_
 simp only [putT, List.set]
 refine wpV_pick (v := .bool true) (by rfl) rfl rfl rfl ?_
 simp only [putT, List.set]
 refine wpV_move (v := .bool true) (by rfl) rfl rfl ?_
 simp only [putT, List.set]
 refine wpV_load (cs := fel (addP pa (negP pa)).x ++ (fel (addP pa (negP pa)).y) ++ (fel (addP pa (negP pa)).z) ++ (fel (addP pa (negP pa)).t)) (by rfl) rfl rfl (range_join (range_join (range_join (M.r 1 0 rfl rfl) (M.r 1 1 rfl rfl) (by simp [flen])) (M.r 1 2 rfl rfl) (by simp [flen])) (M.r 1 3 rfl rfl) (by simp [flen])) (M.lt 1 rfl) Try.underlying26 rfl info26 ?_
 simp only [putT, List.set]
 refine wpV_callf (v := .agg (fel zeroP.x ++ fel zeroP.y ++ fel zeroP.z ++ fel zeroP.t : List Value).toArray) (args := #[]) (by rfl) rfl Try.func15 (by kernel_rfl) (by kernel_rfl) rfl (fun W hW => zero_c) ?_
 simp only [putT, List.set]
 refine wpV_callf (v := .bool true) (args := #[.agg (fel (addP pa (negP pa)).x ++ (fel (addP pa (negP pa)).y) ++ (fel (addP pa (negP pa)).z) ++ (fel (addP pa (negP pa)).t) : List Value).toArray, .agg (fel zeroP.x ++ fel zeroP.y ++ fel zeroP.z ++ fel zeroP.t : List Value).toArray]) (by rfl) rfl Try.func20 (by kernel_rfl) (by kernel_rfl) rfl (fun W hW => (by have h9 := same_c (p := addP pa (negP pa)) (q := zeroP) (w := W) (addP_ok ..) zeroP_ok; rw [(same_eqv (right_add rpa (right_neg rpa)) right_zero).2 (add_neg qa)] at h9; exact h9)) ?_
 simp only [putT, List.set]
 refine wpV_pick (v := .bool true) (by rfl) rfl rfl rfl ?_
 simp only [putT, List.set]
 refine wpV_move (v := .bool true) (by rfl) rfl rfl ?_
 simp only [putT, List.set]
 refine wpV_load (cs := fel (addP pa zeroP).x ++ (fel (addP pa zeroP).y) ++ (fel (addP pa zeroP).z) ++ (fel (addP pa zeroP).t)) (by rfl) rfl rfl (range_join (range_join (range_join (M.r 0 0 rfl rfl) (M.r 0 1 rfl rfl) (by simp [flen])) (M.r 0 2 rfl rfl) (by simp [flen])) (M.r 0 3 rfl rfl) (by simp [flen])) (M.lt 0 rfl) Try.underlying26 rfl info26 ?_
 simp only [putT, List.set]
 refine wpV_load (cs := fel pa.x ++ (fel pa.y) ++ (fel pa.z) ++ (fel pa.t)) (by rfl) rfl rfl (range_join (range_join (range_join (M.r 10 0 rfl rfl) (M.r 10 1 rfl rfl) (by simp [flen])) (M.r 10 2 rfl rfl) (by simp [flen])) (M.r 10 3 rfl rfl) (by simp [flen])) (M.lt 10 rfl) Try.underlying26 rfl info26 ?_
 simp only [putT, List.set]
 refine wpV_callf (v := .bool true) (args := #[.agg (fel (addP pa zeroP).x ++ (fel (addP pa zeroP).y) ++ (fel (addP pa zeroP).z) ++ (fel (addP pa zeroP).t) : List Value).toArray, .agg (fel pa.x ++ (fel pa.y) ++ (fel pa.z) ++ (fel pa.t) : List Value).toArray]) (by rfl) rfl Try.func20 (by kernel_rfl) (by kernel_rfl) rfl (fun W hW => (by have h9 := same_c (p := addP pa zeroP) (q := pa) (w := W) (addP_ok ..) hpa; rw [(same_eqv (right_add rpa right_zero) rpa).2 (add_zero qa)] at h9; exact h9)) ?_
 simp only [putT, List.set]
 refine wpV_pick (v := .bool true) (by rfl) rfl rfl rfl ?_
 simp only [putT, List.set]
 refine wpV_nil (hLk.out _ ?_)
 clear hLk Lk
 simp only [List.take, List.drop]
 iterate 18 refine wpN_skip (by rfl) ?_
 refine wpN_nil (fun w80 Sw80 hbs => ?_)
 clear hbs
 replace M := M.sees Sw80
 refine wpL_assign (v := .bool true) (by rfl) (by rfl) (by rfl) ?_
 simp only [putT, List.set]
 refine wpL_nil (no_panic ?_)
 refine hK78 _ _ ?_
 refine wp_ret ?_
 repeat (first | with_reducible refine then_ret ?_ | with_reducible refine inblock_ret ?_)
 refine bodyPost_ret (v := .bool true) (res1 rfl (.tmp (by rfl))) rfl ?_
 have BE := M.below
 exact ⟨rfl, BE⟩
theorem pgroup_c {n m k z : Nat} {w : World} (hn : n < 2 ^ 256) (hm : m < 2 ^ 256) (hk : k < 2 ^ 256) (hz : z < 18446744073709551616) :
  Calls Try.prog 6 #[fe n, fe m, fe k, .int .u64 ((z : Nat) : Int)] w fun e w' => e = .returned (.bool true) ∧ Below w.heap.size w w' := by
 have hz9 : z / 2 ^ 9 < 18446744073709551616 := Nat.lt_of_le_of_lt (Nat.div_le_self ..) hz
 have hz20 : z / 2 ^ 20 < 18446744073709551616 := Nat.lt_of_le_of_lt (Nat.div_le_self ..) hz
 exact pgroup_a hn hm hk hz (scaleP_ok ..) (scaleP_ok ..) (scaleP_ok ..) rfl rfl rfl (someP hz) (someP hz9) (someP hz20)
end Go.Proofs.Yc

