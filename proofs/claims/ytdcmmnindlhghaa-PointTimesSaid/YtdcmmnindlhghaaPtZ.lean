import Derived.WalkKit
import Derived.WalkSpells
import Derived.Laws.Pointers
import Derived.RowKit3
import Derived.Below
import Derived.Outline
import Derived.LoopN
import Derived.Lib.Hide
import Derived.Handy
import Derived.Laws.Bits64b
import Derived.Test.YtdcmmnindlhghaaPtX
import Derived.Test.YtdcmmnindlhghaaPtY
set_option linter.unusedSimpArgs false
set_option linter.unusedVariables false
namespace Go.Proofs.Yc
open Go Go.RowKit Go.Proofs.Num
attribute [local irreducible] wpV wpN wpList
open Go.Proofs.Ya
set_option maxRecDepth 100000 in
set_option maxHeartbeats 4000000 in
theorem ptimes_less {x : Int} {pq pr pz pk : P4} {ls : List UInt8} {n : Nat} {w : World} (hn1 : n + 1 < 2 ^ 256) (hn0 : n < 2 ^ 256) (hn : n < 2 ^ 256) (hpq : pq.Ok) (epq : mulR n baseP 256 = pq) (rpq : rightP pq = true) (hpr : pr.Ok) (epr : mulR (n + 1) baseP 256 = pr) (rpr : rightP pr = true) (hpz : pz.Ok) (epz : mulR 7237005577332262213973186563042994240857116359379907606001950938285454250989 baseP 256 = pz) (rpz : rightP pz = true) (hpk : pk.Ok) (epk : affP (affX pq) (affY pq) = pk) (rpk : rightP pk = true) (els : textQ (affX pq) (affY pq) = ls) (eqM : Eqv pr (addP pq baseP)) (eqZ : Eqv pz zeroP) (eqK : Eqv pk pq) :
  Calls Try.prog 8 #[fe n, .int .i64 x] w fun e w' => e = .returned (.bool true) ∧ Below w.heap.size w w' := by
 obtain ⟨⟨hx1, hx2⟩, f, hfe, hf⟩ : (-20 < x.tmod 20 ∧ x.tmod 20 < 20) ∧ ∃ f : Nat, (x.tmod 20 + 20).tmod 20 = (f : Int) ∧ f < 20 := modZ x (n := 20) (by decide)
 have hff : (f : Int) < 20 := by omega
 obtain ⟨pa, hpa, epa, rpa, eqF⟩ : ∃ pa : P4, pa.Ok ∧ mulR f baseP 256 = pa ∧ rightP pa = true ∧ Eqv pa (timesP baseP f) := ⟨_, mulR_ok .., rfl, right_mulR rightP_base 256, few_eqv hf⟩
 go_enter Try.func8, Try.ntmps8
 have M := Mem.start w
 refine wp_seq_k (fun K1 hK1 => ?_)
 refine wp_region_seq ?_
 refine wpL_var (t := 39) (cs := fel n) (by rfl) (fun W => ?_) (fun g3 w4 Sw4 Hg3 Bg3 => ?_)
 ·
  (first | rfl | go_simp)
 replace M := ((M.sees Sw4).add (N := 4) (cs := fel n) (M.ge Hg3) (M.fresh Hg3) Bg3 rfl)
 clear Bg3
 simp only [putT, List.set]
 refine wpL_assign (v := .bool false) (by rfl) (by rfl) (by rfl) ?_
 simp only [putT, List.set]
 refine wpL_nil (no_panic ?_)
 refine hK1 _ _ ?_
 refine wp_seq_k (fun K5 hK5 => ?_)
 refine wp_region_seq ?_
 refine wpL_chunk 1 (by rfl) (fun Lk hLk => ?_)
 simp only [List.take, List.drop]
 refine wpV_callf (v := .agg (fel baseP.x ++ fel baseP.y ++ fel baseP.z ++ fel baseP.t : List Value).toArray) (args := #[]) (by rfl) rfl Try.func16 (by kernel_rfl) (by kernel_rfl) rfl (fun W hW => Base_c) ?_
 simp only [putT, List.set]
 refine wpV_nil (hLk _ (fun w7 Sw7 => ?_))
 clear hLk Lk
 simp only [List.take, List.drop]
 replace M := M.sees Sw7
 refine wpL_var (t := 26) (cs := [.int .u64 0, .int .u64 0, .int .u64 0, .int .u64 0, .int .u64 0, .int .u64 0, .int .u64 0, .int .u64 0, .int .u64 0, .int .u64 0, .int .u64 0, .int .u64 0, .int .u64 0, .int .u64 0, .int .u64 0, .int .u64 0]) (by rfl) (fun W => ?_) (fun g8 w9 Sw9 Hg8 Bg8 => ?_)
 ·
  go_simp
 replace M := ((M.sees Sw9).addS (N := 16) (cs := [.int .u64 0, .int .u64 0, .int .u64 0, .int .u64 0, .int .u64 0, .int .u64 0, .int .u64 0, .int .u64 0, .int .u64 0, .int .u64 0, .int .u64 0, .int .u64 0, .int .u64 0, .int .u64 0, .int .u64 0, .int .u64 0]) (segs := [(0, [.int .u64 0, .int .u64 0, .int .u64 0, .int .u64 0]), (4, [.int .u64 0, .int .u64 0, .int .u64 0, .int .u64 0]), (8, [.int .u64 0, .int .u64 0, .int .u64 0, .int .u64 0]), (12, [.int .u64 0, .int .u64 0, .int .u64 0, .int .u64 0])]) (M.ge Hg8) (M.fresh Hg8) Bg8 rfl ⟨rfl, rfl, rfl, rfl, trivial⟩)
 clear Bg8
 simp only [putT, List.set]
 refine wpL_store (g := g8) (off := 0) (n := 16) (cs := fel baseP.x ++ fel baseP.y ++ fel baseP.z ++ fel baseP.t) (by rfl) (by rfl) (by rfl) (by rfl) (by rfl) (M.t 0 rfl) (by simp [flen]) info26 (one4 _ _ _ _) (fun w10 P R T => ?_)
 replace M := M.put (segs' := [(0, fel baseP.x), (4, fel baseP.y), (8, fel baseP.z), (12, fel baseP.t)]) 0 rfl P T (SegsOf.at R ⟨rfl, rfl, rfl, rfl, trivial⟩)
 simp only [List.set] at M
 refine wpL_nil (no_panic ?_)
 refine hK5 _ _ ?_
 refine wp_seq_k (fun K11 hK11 => ?_)
 refine wp_region_seq ?_
 refine wpL_move (v := .int .i64 x) (by rfl) (by rfl) (by rfl) ?_
 simp only [putT, List.set]
 refine wpL_chunk 3 (by rfl) (fun Lk hLk => ?_)
 simp only [List.take, List.drop]
 refine wpV_bin (v := .int .i64 (x.tmod 20)) (by rfl) rfl rfl rfl (fun W => run_rem (by decide) rfl W) ?_
 simp only [putT, List.set]
 refine wpV_bin (v := .int .i64 (x.tmod 20 + 20)) (by rfl) rfl rfl rfl (fun W => run_add (by simp only [IntKind.wrap_i64]; omega) W) ?_
 simp only [putT, List.set]
 refine wpV_bin (v := .int .i64 ((f : Nat) : Int)) (by rfl) rfl rfl rfl (fun W => run_rem (by decide) hfe W) ?_
 simp only [putT, List.set]
 refine wpV_nil (hLk _ (fun w13 Sw13 => ?_))
 clear hLk Lk
 simp only [List.take, List.drop]
 replace M := M.sees Sw13
 refine wpL_assign (v := .int .i64 ((f : Nat) : Int)) (by rfl) (by rfl) (by rfl) ?_
 simp only [putT, List.set]
 refine wpL_nil (no_panic ?_)
 refine hK11 _ _ ?_
 refine wp_seq_k (fun K14 hK14 => ?_)
 refine wp_region_seq ?_
 refine wpL_chunk 1 (by rfl) (fun Lk hLk => ?_)
 simp only [List.take, List.drop]
 refine wpV_callf (v := .agg (fel zeroP.x ++ fel zeroP.y ++ fel zeroP.z ++ fel zeroP.t : List Value).toArray) (args := #[]) (by rfl) rfl Try.func15 (by kernel_rfl) (by kernel_rfl) rfl (fun W hW => zero_c) ?_
 simp only [putT, List.set]
 refine wpV_nil (hLk _ (fun w16 Sw16 => ?_))
 clear hLk Lk
 simp only [List.take, List.drop]
 replace M := M.sees Sw16
 refine wpL_var (t := 26) (cs := [.int .u64 0, .int .u64 0, .int .u64 0, .int .u64 0, .int .u64 0, .int .u64 0, .int .u64 0, .int .u64 0, .int .u64 0, .int .u64 0, .int .u64 0, .int .u64 0, .int .u64 0, .int .u64 0, .int .u64 0, .int .u64 0]) (by rfl) (fun W => ?_) (fun g17 w18 Sw18 Hg17 Bg17 => ?_)
 ·
  go_simp
 replace M := ((M.sees Sw18).addS (N := 16) (cs := [.int .u64 0, .int .u64 0, .int .u64 0, .int .u64 0, .int .u64 0, .int .u64 0, .int .u64 0, .int .u64 0, .int .u64 0, .int .u64 0, .int .u64 0, .int .u64 0, .int .u64 0, .int .u64 0, .int .u64 0, .int .u64 0]) (segs := [(0, [.int .u64 0, .int .u64 0, .int .u64 0, .int .u64 0]), (4, [.int .u64 0, .int .u64 0, .int .u64 0, .int .u64 0]), (8, [.int .u64 0, .int .u64 0, .int .u64 0, .int .u64 0]), (12, [.int .u64 0, .int .u64 0, .int .u64 0, .int .u64 0])]) (M.ge Hg17) (M.fresh Hg17) Bg17 rfl ⟨rfl, rfl, rfl, rfl, trivial⟩)
 clear Bg17
 simp only [putT, List.set]
 refine wpL_store (g := g17) (off := 0) (n := 16) (cs := fel zeroP.x ++ fel zeroP.y ++ fel zeroP.z ++ fel zeroP.t) (by rfl) (by rfl) (by rfl) (by rfl) (by rfl) (M.t 0 rfl) (by simp [flen]) info26 (one4 _ _ _ _) (fun w19 P R T => ?_)
 replace M := M.put (segs' := [(0, fel zeroP.x), (4, fel zeroP.y), (8, fel zeroP.z), (12, fel zeroP.t)]) 0 rfl P T (SegsOf.at R ⟨rfl, rfl, rfl, rfl, trivial⟩)
 simp only [List.set] at M
 refine wpL_nil (no_panic ?_)
 refine hK14 _ _ ?_
 refine wp_seq_k (fun K20 hK20 => ?_)
 refine wp_seq_k (fun K21 hK21 => ?_)
 refine wp_region_seq ?_
 refine wpL_move (v := .int .i64 ((f : Nat) : Int)) (by rfl) (by rfl) (by rfl) ?_
 simp only [putT, List.set]
 refine wpL_move (v := .int .i64 0) (by rfl) (by rfl) (by rfl) ?_
 simp only [putT, List.set]
 refine wpL_nil (no_panic ?_)
 refine hK21 _ _ ?_
 refine wp_block ?_
 refine wp_loop_ghost (fun n9 a9 W9 => ∃ (k : Nat) (u23 : Nat → Value), n9 = f - k ∧ a9 = { tmps := #[fe n, .int .i64 ((f : Nat) : Int), .pointer (some ⟨g3, 0, none⟩), undef, u23 4, .pointer (some ⟨g8, 0, none⟩), .pointer (some ⟨g17, 0, none⟩), u23 7, u23 8, undef, undef, undef, undef, undef, undef, undef, undef, undef, undef, undef, undef, undef, undef, undef, undef, .agg (fel baseP.x ++ fel baseP.y ++ fel baseP.z ++ fel baseP.t : List Value).toArray, .int .i64 x, .int .i64 (x.tmod 20), .int .i64 (x.tmod 20 + 20), .int .i64 ((f : Nat) : Int), .agg (fel zeroP.x ++ fel zeroP.y ++ fel zeroP.z ++ fel zeroP.t : List Value).toArray, .int .i64 ((f : Nat) : Int), .int .i64 ((k : Nat) : Int), u23 33, u23 34, u23 35, u23 36, u23 37, u23 38, u23 39, u23 40, u23 41, u23 42, u23 43, undef, undef, undef, undef, undef, undef, undef, undef, undef, undef, undef, undef, undef, undef, undef, undef, undef, undef, undef, undef, undef, undef, undef, undef, undef, undef, undef, undef, undef, undef, undef, undef, undef, undef, undef, undef, undef, undef, undef, undef, undef, undef, undef, undef, undef, undef, undef, undef, undef, undef, undef, undef, undef, undef, undef, undef, undef, undef, undef, undef, undef, undef, undef, undef, undef, undef, undef, undef, undef, undef, undef, undef, undef, undef, undef, undef, undef, undef, undef, undef, undef, undef, undef, undef, undef, undef, undef, undef, undef, undef, undef, undef, undef, undef, undef, undef, undef, undef, undef, undef, undef, undef, undef, undef, undef, undef, undef, undef], defers := [] } ∧ Mem [] w W9 [⟨g17, 16, [(0, fel (timesP baseP k).x), (4, fel (timesP baseP k).y), (8, fel (timesP baseP k).z), (12, fel (timesP baseP k).t)]⟩, ⟨g8, 16, [(0, fel baseP.x), (4, fel baseP.y), (8, fel baseP.z), (12, fel baseP.t)]⟩, ⟨g3, 4, [(0, fel n)]⟩] ∧ (k ≤ f)) (f - (0)) ?_ (fun n9 a9 W9 hI => ?_)
 ·
  exact ⟨0, (fun q9 => (#[undef, undef, undef, undef, .bool false, undef, undef, undef, undef, undef, undef, undef, undef, undef, undef, undef, undef, undef, undef, undef, undef, undef, undef, undef, undef, undef, undef, undef, undef, undef, undef, undef, undef, undef, undef, undef, undef, undef, undef, undef, undef, undef, undef, undef] : Array Value).getD q9 undef), rfl, rfl, M, (Nat.zero_le _)⟩
 clear M
 obtain ⟨k, u23, rfl, rfl, M, hk4⟩ := hI
 obtain ⟨w24, rfl⟩ : ∃ W8, W8 = W9 := ⟨_, rfl⟩
 refine wp_seq_k (fun K25 hK25 => ?_)
 refine wp_region_seq ?_
 refine wpL_chunk 1 (by rfl) (fun Lk hLk => ?_)
 simp only [List.take, List.drop]
 refine wpV_bin (v := .bool (decide (k < f))) (by rfl) rfl rfl rfl (fun W => run_lssN k f _ _ W) ?_
 simp only [putT, List.set]
 refine wpV_nil (hLk _ (fun w27 Sw27 => ?_))
 clear hLk Lk
 simp only [List.take, List.drop]
 replace M := M.sees Sw27
 refine wpL_nil (no_panic ?_)
 refine hK25 _ _ ?_
 refine wp_seq_k (fun K28 hK28 => ?_)
 cases hc29 : (decide (k < f))
 ·
  have ek : f = k := by have := of_decide_eq_false hc29; omega
  subst ek
  refine wp_cond_false rfl ?_
  refine wp_exit ?_
  refine hK20 _ _ ?_
  refine wp_seq_k (fun K30 hK30 => ?_)
  refine wp_region_seq ?_
  refine wpL_move (v := .int .i64 ((f : Nat) : Int)) (by rfl) (by rfl) (by rfl) ?_
  simp only [putT, List.set]
  refine wpL_chunk 7 (by rfl) (fun Lk hLk => ?_)
  simp only [List.take, List.drop]
  refine wpV_conv (d := .bool) (e := ((f : Nat) : Int)) (by rfl) rfl rfl (run_conv_int Try.underlying3 Try.underlying22 (by rw [wrap_u64]; omega)) ?_
  simp only [putT, List.set]
  refine wpV_val (v := fe f) (by rfl) (by rfl) (fun W hW => ?_) ?_
  ·
   rw [show fe f = .agg ([.int .u64 ((f : Nat) : Int), .int .u64 0, .int .u64 0, .int .u64 0] : List Value).toArray from congrArg (fun l => Value.agg (List.toArray l)) (fel_of (Nat.lt_trans hf (by decide)))]; unfold RunsVal; kernel_rfl
  simp only [putT, List.set]
  refine wpV_load (cs := fel baseP.x ++ (fel baseP.y) ++ (fel baseP.z) ++ (fel baseP.t)) (by rfl) rfl rfl (range_join (range_join (range_join (M.r 1 0 rfl rfl) (M.r 1 1 rfl rfl) (by simp [flen])) (M.r 1 2 rfl rfl) (by simp [flen])) (M.r 1 3 rfl rfl) (by simp [flen])) (M.lt 1 rfl) Try.underlying26 rfl info26 ?_
  simp only [putT, List.set]
  refine wpV_callf (v := .tuple #[.agg (fel pa.x ++ fel pa.y ++ fel pa.z ++ fel pa.t : List Value).toArray, .int .i64 0]) (args := #[fe f, .agg (fel baseP.x ++ (fel baseP.y) ++ (fel baseP.z) ++ (fel baseP.t) : List Value).toArray]) (by rfl) rfl Try.func23 (by kernel_rfl) (by kernel_rfl) rfl (fun W hW => (by have h9 := Mul_ok (n := f) (p := baseP) (w := W) (Nat.lt_trans hf (by decide)) baseP_ok rightP_base; rw [epa] at h9; exact h9)) ?_
  simp only [putT, List.set]
  refine wpV_move (v := .tuple #[.agg (fel pa.x ++ fel pa.y ++ fel pa.z ++ fel pa.t : List Value).toArray, .int .i64 0]) (by rfl) rfl rfl ?_
  simp only [putT, List.set]
  refine wpV_extract (v := .agg (fel pa.x ++ fel pa.y ++ fel pa.z ++ fel pa.t : List Value).toArray) (by rfl) rfl rfl rfl ?_
  simp only [putT, List.set]
  refine wpV_extract (v := .int .i64 0) (by rfl) rfl rfl rfl ?_
  simp only [putT, List.set]
  refine wpV_nil (hLk _ (fun w32 Sw32 => ?_))
  clear hLk Lk
  simp only [List.take, List.drop]
  replace M := M.sees Sw32
  refine wpL_var (t := 26) (cs := [.int .u64 0, .int .u64 0, .int .u64 0, .int .u64 0, .int .u64 0, .int .u64 0, .int .u64 0, .int .u64 0, .int .u64 0, .int .u64 0, .int .u64 0, .int .u64 0, .int .u64 0, .int .u64 0, .int .u64 0, .int .u64 0]) (by rfl) (fun W => ?_) (fun g33 w34 Sw34 Hg33 Bg33 => ?_)
  ·
   go_simp
  replace M := ((M.sees Sw34).addS (N := 16) (cs := [.int .u64 0, .int .u64 0, .int .u64 0, .int .u64 0, .int .u64 0, .int .u64 0, .int .u64 0, .int .u64 0, .int .u64 0, .int .u64 0, .int .u64 0, .int .u64 0, .int .u64 0, .int .u64 0, .int .u64 0, .int .u64 0]) (segs := [(0, [.int .u64 0, .int .u64 0, .int .u64 0, .int .u64 0]), (4, [.int .u64 0, .int .u64 0, .int .u64 0, .int .u64 0]), (8, [.int .u64 0, .int .u64 0, .int .u64 0, .int .u64 0]), (12, [.int .u64 0, .int .u64 0, .int .u64 0, .int .u64 0])]) (M.ge Hg33) (M.fresh Hg33) Bg33 rfl ⟨rfl, rfl, rfl, rfl, trivial⟩)
  clear Bg33
  simp only [putT, List.set]
  refine wpL_store (g := g33) (off := 0) (n := 16) (cs := fel pa.x ++ fel pa.y ++ fel pa.z ++ fel pa.t) (by rfl) (by rfl) (by rfl) (by rfl) (by rfl) (M.t 0 rfl) (by simp [flen]) info26 (one4 _ _ _ _) (fun w35 P R T => ?_)
  replace M := M.put (segs' := [(0, fel pa.x), (4, fel pa.y), (8, fel pa.z), (12, fel pa.t)]) 0 rfl P T (SegsOf.at R ⟨rfl, rfl, rfl, rfl, trivial⟩)
  simp only [List.set] at M
  refine wpL_assign (v := .int .i64 0) (by rfl) (by rfl) (by rfl) ?_
  simp only [putT, List.set]
  refine wpL_nil (no_panic ?_)
  refine hK30 _ _ ?_
  refine wp_seq_k (fun K36 hK36 => ?_)
  refine wp_seq_k (fun K37 hK37 => ?_)
  refine wp_region_seq ?_
  refine wpL_chunk 3 (by rfl) (fun Lk hLk => ?_)
  simp only [List.take, List.drop]
  refine wpV_load (cs := fel n) (by rfl) rfl rfl (M.r 3 0 rfl rfl) (M.lt 3 rfl) Try.underlying39 rfl info39 ?_
  simp only [putT, List.set]
  refine wpV_val (v := fe 115792089237316195423570985008687907853269984665640564039457584007913129639935) (by rfl) (by rfl) (fun W hW => ?_) ?_
  ·
   rw [show fe 115792089237316195423570985008687907853269984665640564039457584007913129639935 = .agg ([.int .u64 18446744073709551615, .int .u64 18446744073709551615, .int .u64 18446744073709551615, .int .u64 18446744073709551615]).toArray from (by kernel_rfl)]; unfold RunsVal; kernel_rfl
  simp only [putT, List.set]
  refine wpV_val (v := .bool false) (by rfl) (by rfl) (fun W hW => ?_) ?_
  ·
   exact (decide_eq_false (show ¬ n = 115792089237316195423570985008687907853269984665640564039457584007913129639935 from fun e => by rw [e] at hn1; exact absurd hn1 (by decide))) ▸ run_eql_fe hn (by decide) Try.underlying39 Try.underlying22 info22 (by kernel_rfl) rfl rfl rfl W
  simp only [putT, List.set]
  refine wpV_nil (hLk _ (fun w39 Sw39 => ?_))
  clear hLk Lk
  simp only [List.take, List.drop]
  replace M := M.sees Sw39
  refine wpL_nil (no_panic ?_)
  refine hK37 _ _ ?_
  refine wp_cond_false rfl ?_
  refine wp_skip ?_
  refine hK36 _ _ ?_
  refine wp_seq_k (fun K40 hK40 => ?_)
  refine wp_region_seq ?_
  refine wpL_chunk 1 (by rfl) (fun Lk hLk => ?_)
  simp only [List.take, List.drop]
  refine wpV_load (cs := fel n) (by rfl) rfl rfl (M.r 3 0 rfl rfl) (M.lt 3 rfl) Try.underlying39 rfl info39 ?_
  simp only [putT, List.set]
  refine wpV_nil (hLk _ (fun w42 Sw42 => ?_))
  clear hLk Lk
  simp only [List.take, List.drop]
  replace M := M.sees Sw42
  refine wpL_var (t := 39) (cs := [.int .u64 0, .int .u64 0, .int .u64 0, .int .u64 0]) (by rfl) (fun W => ?_) (fun g43 w44 Sw44 Hg43 Bg43 => ?_)
  ·
   go_simp
  replace M := ((M.sees Sw44).add (N := 4) (cs := [.int .u64 0, .int .u64 0, .int .u64 0, .int .u64 0]) (M.ge Hg43) (M.fresh Hg43) Bg43 rfl)
  clear Bg43
  simp only [putT, List.set]
  refine wpL_store (g := g43) (off := 0) (n := 4) (cs := fel n) (by rfl) (by rfl) (by rfl) (by rfl) (by rfl) (M.t 0 rfl) (by simp [flen]) info39 (fel_one _) (fun w45 P R T => ?_)
  replace M := M.putS 0 0 rfl P R T rfl ⟨.inl rfl, trivial⟩
  simp only [List.set] at M
  refine wpL_nil (no_panic ?_)
  refine hK40 _ _ ?_
  refine wp_seq_k (fun K46 hK46 => ?_)
  refine wp_seq_k (fun K47 hK47 => ?_)
  refine wp_region_seq ?_
  refine wpL_move (v := .int .i64 0) (by rfl) (by rfl) (by rfl) ?_
  simp only [putT, List.set]
  refine wpL_nil (no_panic ?_)
  refine hK47 _ _ ?_
  refine wp_block ?_
  replace M := M.read1 (cs := fel (n / 2 ^ (64 * 0) * 2 ^ (64 * 0))) (o := 0) 0 rfl (by rw [low_0 n]; exact (M.r 0 0 rfl rfl))
  simp only [List.set] at M
  refine wp_loop_ghost (fun n9 a9 W9 => ∃ (i : Nat) (u49 : Nat → Value), n9 = 4 - i ∧ a9 = { tmps := #[fe n, .int .i64 ((f : Nat) : Int), .pointer (some ⟨g3, 0, none⟩), undef, u23 4, .pointer (some ⟨g8, 0, none⟩), .pointer (some ⟨g17, 0, none⟩), u23 7, u23 8, .pointer (some ⟨g33, 0, none⟩), .int .i64 0, .pointer (some ⟨g43, 0, none⟩), u49 12, undef, undef, undef, undef, undef, undef, undef, undef, undef, undef, undef, undef, .agg (fel baseP.x ++ fel baseP.y ++ fel baseP.z ++ fel baseP.t : List Value).toArray, .int .i64 x, .int .i64 (x.tmod 20), .int .i64 (x.tmod 20 + 20), .int .i64 ((f : Nat) : Int), .agg (fel zeroP.x ++ fel zeroP.y ++ fel zeroP.z ++ fel zeroP.t : List Value).toArray, .int .i64 ((f : Nat) : Int), .int .i64 ((f : Nat) : Int), .bool false, u23 34, u23 35, u23 36, u23 37, u23 38, u23 39, u23 40, u23 41, u23 42, u23 43, .tuple #[.agg (fel pa.x ++ fel pa.y ++ fel pa.z ++ fel pa.t : List Value).toArray, .int .i64 0], .int .i64 ((f : Nat) : Int), .int .u64 ((f : Nat) : Int), fe f, .agg (fel baseP.x ++ (fel baseP.y) ++ (fel baseP.z) ++ (fel baseP.t) : List Value).toArray, .tuple #[.agg (fel pa.x ++ fel pa.y ++ fel pa.z ++ fel pa.t : List Value).toArray, .int .i64 0], .agg (fel pa.x ++ fel pa.y ++ fel pa.z ++ fel pa.t : List Value).toArray, .int .i64 0, fe n, fe 115792089237316195423570985008687907853269984665640564039457584007913129639935, .bool false, undef, fe n, .int .i64 ((i : Nat) : Int), u49 58, u49 59, u49 60, u49 61, u49 62, u49 63, u49 64, u49 65, u49 66, u49 67, u49 68, u49 69, undef, undef, undef, undef, undef, undef, undef, undef, undef, undef, undef, undef, undef, undef, undef, undef, undef, undef, undef, undef, undef, undef, undef, undef, undef, undef, undef, undef, undef, undef, undef, undef, undef, undef, undef, undef, undef, undef, undef, undef, undef, undef, undef, undef, undef, undef, undef, undef, undef, undef, undef, undef, undef, undef, undef, undef, undef, undef, undef, undef, undef, undef, undef, undef, undef, undef, undef, undef, undef, undef, undef, undef, undef, undef, undef, undef, undef, undef, undef, undef, undef, undef], defers := [] } ∧ Mem [] w W9 [⟨g43, 4, [(0, fel (n / 2 ^ (64 * i) * 2 ^ (64 * i)))]⟩, ⟨g33, 16, [(0, fel pa.x), (4, fel pa.y), (8, fel pa.z), (12, fel pa.t)]⟩, ⟨g17, 16, [(0, fel (timesP baseP f).x), (4, fel (timesP baseP f).y), (8, fel (timesP baseP f).z), (12, fel (timesP baseP f).t)]⟩, ⟨g8, 16, [(0, fel baseP.x), (4, fel baseP.y), (8, fel baseP.z), (12, fel baseP.t)]⟩, ⟨g3, 4, [(0, fel n)]⟩] ∧ (i ≤ 4) ∧ (n % 2 ^ (64 * i) + 1 = 2 ^ (64 * i))) (4 - (0)) ?_ (fun n9 a9 W9 hI => ?_)
  ·
   exact ⟨0, (fun q9 => (#[undef, undef, undef, undef, undef, undef, undef, undef, undef, undef, undef, undef, undef, undef, undef, undef, undef, undef, undef, undef, undef, undef, undef, undef, undef, undef, undef, undef, undef, undef, undef, undef, undef, undef, undef, undef, undef, undef, undef, undef, undef, undef, undef, undef, undef, undef, undef, undef, undef, undef, undef, undef, undef, undef, undef, undef, undef, undef, undef, undef, undef, undef, undef, undef, undef, undef, undef, undef, undef, undef] : Array Value).getD q9 undef), rfl, rfl, M, (by decide), (by rw [show (2 : Nat) ^ (64 * 0) = 1 by decide, Nat.mod_one])⟩
  clear M
  obtain ⟨i, u49, rfl, rfl, M, hi4, hc⟩ := hI
  obtain ⟨w50, rfl⟩ : ∃ W8, W8 = W9 := ⟨_, rfl⟩
  refine wp_seq_k (fun K51 hK51 => ?_)
  refine wp_region_seq ?_
  refine wpL_chunk 1 (by rfl) (fun Lk hLk => ?_)
  simp only [List.take, List.drop]
  refine wpV_bin (v := .bool (decide (i < 4))) (by rfl) rfl rfl rfl (fun W => run_lssN i 4 _ _ W) ?_
  simp only [putT, List.set]
  refine wpV_nil (hLk _ (fun w53 Sw53 => ?_))
  clear hLk Lk
  simp only [List.take, List.drop]
  replace M := M.sees Sw53
  refine wpL_nil (no_panic ?_)
  refine hK51 _ _ ?_
  refine wp_seq_k (fun K54 hK54 => ?_)
  cases hc55 : (decide (i < 4))
  ·
   obtain rfl : i = 4 := by have := of_decide_eq_false hc55; omega
   exact (no_carry hn1 hc).elim
  ·
   have hi : i < 4 := of_decide_eq_true hc55
   refine wp_cond_true rfl ?_
   refine wp_skip ?_
   refine hK54 _ _ ?_
   refine wp_seq_k (fun K56 hK56 => ?_)
   refine wp_block ?_
   refine wp_seq_k (fun K57 hK57 => ?_)
   refine wp_region_seq ?_
   refine wpL_move (v := .int .i64 ((i : Nat) : Int)) (by rfl) (by rfl) (by rfl) ?_
   simp only [putT, List.set]
   refine wpL_assign (v := .int .i64 ((i : Nat) : Int)) (by rfl) (by rfl) (by rfl) ?_
   simp only [putT, List.set]
   refine wpL_nil (no_panic ?_)
   refine hK57 _ _ ?_
   refine wp_seq_k (fun K59 hK59 => ?_)
   refine wp_region_seq ?_
   refine wpL_move (v := .int .i64 ((i : Nat) : Int)) (by rfl) (by rfl) (by rfl) ?_
   simp only [putT, List.set]
   refine wpL_chunk 4 (by rfl) (fun Lk hLk => ?_)
   simp only [List.take, List.drop]
   refine wpV_idx (n := i) (by rfl) rfl rfl rfl Try.underlying39 info22 (by omega) ?_
   simp only [Nat.zero_add]
   simp only [putT, List.set]
   refine wpV_load1 (v := .int .u64 ((limbN n i : Nat) : Int)) (by rfl) rfl rfl (zadd ((M.r 0 0 rfl rfl) _ _ (low_get hi))) (M.lt 0 rfl) Try.underlying22 rfl ?_
   simp only [putT, List.set]
   refine wpV_bin (v := .int .u64 ((((limbN n i) + 1) % 18446744073709551616 : Nat) : Int)) (by rfl) rfl rfl rfl (fun W => nr_add64 _ (limbN n i) 1 W) ?_
   simp only [putT, List.set]
   refine wpV_idx (n := i) (by rfl) rfl rfl rfl Try.underlying39 info22 (by omega) ?_
   simp only [Nat.zero_add]
   simp only [putT, List.set]
   refine wpV_nil (hLk _ (fun w61 Sw61 => ?_))
   clear hLk Lk
   simp only [List.take, List.drop]
   replace M := M.sees Sw61
   refine wpL_store1 (g := g43) (off := i) (n := 4) (v := .int .u64 ((((limbN n i) + 1) % 18446744073709551616 : Nat) : Int)) (by rfl) (by rfl) (by rfl) (by rfl) (by rfl) (M.t 0 rfl) (by omega) info22 rfl (fun w62 P R T => ?_)
   replace M := M.put1 (j := i) 0 rfl P R T (Nat.zero_add _).symm
   simp only [List.set] at M
   rw [show (fel (n / 2 ^ (64 * i) * 2 ^ (64 * i))).set i (.int .u64 (((limbN n i + 1) % 18446744073709551616 : Nat) : Int)) = incC n i from rfl] at M
   refine wpL_nil (no_panic ?_)
   refine hK59 _ _ ?_
   refine wp_seq_k (fun K63 hK63 => ?_)
   refine wp_region_seq ?_
   refine wpL_move (v := .int .i64 ((i : Nat) : Int)) (by rfl) (by rfl) (by rfl) ?_
   simp only [putT, List.set]
   refine wpL_chunk 3 (by rfl) (fun Lk hLk => ?_)
   simp only [List.take, List.drop]
   refine wpV_idx (n := i) (by rfl) rfl rfl rfl Try.underlying39 info22 (by omega) ?_
   simp only [Nat.zero_add]
   simp only [putT, List.set]
   refine wpV_load1 (v := .int .u64 (((limbN n i + 1) % 18446744073709551616 : Nat) : Int)) (by rfl) rfl rfl (zadd ((M.r 0 0 rfl rfl) _ _ (incC_get hi))) (M.lt 0 rfl) Try.underlying22 rfl ?_
   simp only [putT, List.set]
   refine wpV_bin (v := .bool (decide ((limbN n i + 1) % 18446744073709551616 ≠ 0))) (by rfl) rfl rfl rfl (fun W => run_neqN ((limbN n i + 1) % 18446744073709551616) 0 _ _ W) ?_
   simp only [putT, List.set]
   refine wpV_nil (hLk _ (fun w65 Sw65 => ?_))
   clear hLk Lk
   simp only [List.take, List.drop]
   replace M := M.sees Sw65
   refine wpL_nil (no_panic ?_)
   refine hK63 _ _ ?_
   cases hc66 : (decide ((limbN n i + 1) % 18446744073709551616 ≠ 0))
   ·
    have hI9 := (inc_all hi hn0 hc).2 (Decidable.not_not.1 (of_decide_eq_false hc66))
    rw [hI9.1] at M
    refine wp_cond_false rfl ?_
    refine wp_skip ?_
    refine hK56 _ _ ?_
    refine wp_region_seq ?_
    refine wpL_chunk 1 (by rfl) (fun Lk hLk => ?_)
    simp only [List.take, List.drop]
    refine wpV_bin (v := .int .i64 ((i + 1 : Nat) : Int)) (by rfl) rfl rfl rfl (fun W => run_add (by simp only [IntKind.wrap_i64]; omega) W) ?_
    simp only [putT, List.set]
    refine wpV_nil (hLk _ (fun w68 Sw68 => ?_))
    clear hLk Lk
    simp only [List.take, List.drop]
    replace M := M.sees Sw68
    refine wpL_move (v := .int .i64 ((i + 1 : Nat) : Int)) (by rfl) (by rfl) (by rfl) ?_
    simp only [putT, List.set]
    refine wpL_nil (no_panic ?_)
    refine Exists.intro _ ⟨?_, (i + 1), (fun q9 => (#[undef, undef, undef, undef, undef, undef, undef, undef, undef, undef, undef, undef, .int .i64 ((i : Nat) : Int), undef, undef, undef, undef, undef, undef, undef, undef, undef, undef, undef, undef, undef, undef, undef, undef, undef, undef, undef, undef, undef, undef, undef, undef, undef, undef, undef, undef, undef, undef, undef, undef, undef, undef, undef, undef, undef, undef, undef, undef, undef, undef, undef, undef, undef, .bool true, .int .i64 ((i : Nat) : Int), .int .i64 ((i : Nat) : Int), .pointer (some ⟨g43, i, none⟩), .int .u64 ((limbN n i : Nat) : Int), .int .u64 ((((limbN n i) + 1) % 18446744073709551616 : Nat) : Int), .pointer (some ⟨g43, i, none⟩), .int .i64 ((i : Nat) : Int), .pointer (some ⟨g43, i, none⟩), .int .u64 (((limbN n i + 1) % 18446744073709551616 : Nat) : Int), .bool false, .int .i64 ((i + 1 : Nat) : Int)] : Array Value).getD q9 undef), rfl, rfl, M, (by omega), hI9.2⟩
    omega
   ·
    have hI9 := (inc_all hi hn0 hc).1 (of_decide_eq_true hc66)
    rw [hI9] at M
    refine wp_cond_true rfl ?_
    refine wp_exit ?_
    refine hK46 _ _ ?_
    refine wp_seq_k (fun K69 hK69 => ?_)
    refine wp_region_seq ?_
    refine wpL_chunk 6 (by rfl) (fun Lk hLk => ?_)
    simp only [List.take, List.drop]
    refine wpV_load (cs := fel n) (by rfl) rfl rfl (M.r 4 0 rfl rfl) (M.lt 4 rfl) Try.underlying39 rfl info39 ?_
    simp only [putT, List.set]
    refine wpV_load (cs := fel baseP.x ++ (fel baseP.y) ++ (fel baseP.z) ++ (fel baseP.t)) (by rfl) rfl rfl (range_join (range_join (range_join (M.r 3 0 rfl rfl) (M.r 3 1 rfl rfl) (by simp [flen])) (M.r 3 2 rfl rfl) (by simp [flen])) (M.r 3 3 rfl rfl) (by simp [flen])) (M.lt 3 rfl) Try.underlying26 rfl info26 ?_
    simp only [putT, List.set]
    refine wpV_callf (v := .tuple #[.agg (fel pq.x ++ fel pq.y ++ fel pq.z ++ fel pq.t : List Value).toArray, .int .i64 0]) (args := #[fe n, .agg (fel baseP.x ++ (fel baseP.y) ++ (fel baseP.z) ++ (fel baseP.t) : List Value).toArray]) (by rfl) rfl Try.func23 (by kernel_rfl) (by kernel_rfl) rfl (fun W hW => (by have h9 := Mul_ok (n := n) (p := baseP) (w := W) hn baseP_ok rightP_base; rw [epq] at h9; exact h9)) ?_
    simp only [putT, List.set]
    refine wpV_move (v := .tuple #[.agg (fel pq.x ++ fel pq.y ++ fel pq.z ++ fel pq.t : List Value).toArray, .int .i64 0]) (by rfl) rfl rfl ?_
    simp only [putT, List.set]
    refine wpV_extract (v := .agg (fel pq.x ++ fel pq.y ++ fel pq.z ++ fel pq.t : List Value).toArray) (by rfl) rfl rfl rfl ?_
    simp only [putT, List.set]
    refine wpV_extract (v := .int .i64 0) (by rfl) rfl rfl rfl ?_
    simp only [putT, List.set]
    refine wpV_nil (hLk _ (fun w71 Sw71 => ?_))
    clear hLk Lk
    simp only [List.take, List.drop]
    replace M := M.sees Sw71
    refine wpL_var (t := 26) (cs := [.int .u64 0, .int .u64 0, .int .u64 0, .int .u64 0, .int .u64 0, .int .u64 0, .int .u64 0, .int .u64 0, .int .u64 0, .int .u64 0, .int .u64 0, .int .u64 0, .int .u64 0, .int .u64 0, .int .u64 0, .int .u64 0]) (by rfl) (fun W => ?_) (fun g72 w73 Sw73 Hg72 Bg72 => ?_)
    ·
     go_simp
    replace M := ((M.sees Sw73).addS (N := 16) (cs := [.int .u64 0, .int .u64 0, .int .u64 0, .int .u64 0, .int .u64 0, .int .u64 0, .int .u64 0, .int .u64 0, .int .u64 0, .int .u64 0, .int .u64 0, .int .u64 0, .int .u64 0, .int .u64 0, .int .u64 0, .int .u64 0]) (segs := [(0, [.int .u64 0, .int .u64 0, .int .u64 0, .int .u64 0]), (4, [.int .u64 0, .int .u64 0, .int .u64 0, .int .u64 0]), (8, [.int .u64 0, .int .u64 0, .int .u64 0, .int .u64 0]), (12, [.int .u64 0, .int .u64 0, .int .u64 0, .int .u64 0])]) (M.ge Hg72) (M.fresh Hg72) Bg72 rfl ⟨rfl, rfl, rfl, rfl, trivial⟩)
    clear Bg72
    simp only [putT, List.set]
    refine wpL_store (g := g72) (off := 0) (n := 16) (cs := fel pq.x ++ fel pq.y ++ fel pq.z ++ fel pq.t) (by rfl) (by rfl) (by rfl) (by rfl) (by rfl) (M.t 0 rfl) (by simp [flen]) info26 (one4 _ _ _ _) (fun w74 P R T => ?_)
    replace M := M.put (segs' := [(0, fel pq.x), (4, fel pq.y), (8, fel pq.z), (12, fel pq.t)]) 0 rfl P T (SegsOf.at R ⟨rfl, rfl, rfl, rfl, trivial⟩)
    simp only [List.set] at M
    refine wpL_assign (v := .int .i64 0) (by rfl) (by rfl) (by rfl) ?_
    simp only [putT, List.set]
    refine wpL_nil (no_panic ?_)
    refine hK69 _ _ ?_
    refine wp_seq_k (fun K75 hK75 => ?_)
    refine wp_region_seq ?_
    refine wpL_chunk 6 (by rfl) (fun Lk hLk => ?_)
    simp only [List.take, List.drop]
    refine wpV_load (cs := fel (n + 1)) (by rfl) rfl rfl (M.r 1 0 rfl rfl) (M.lt 1 rfl) Try.underlying39 rfl info39 ?_
    simp only [putT, List.set]
    refine wpV_load (cs := fel baseP.x ++ (fel baseP.y) ++ (fel baseP.z) ++ (fel baseP.t)) (by rfl) rfl rfl (range_join (range_join (range_join (M.r 4 0 rfl rfl) (M.r 4 1 rfl rfl) (by simp [flen])) (M.r 4 2 rfl rfl) (by simp [flen])) (M.r 4 3 rfl rfl) (by simp [flen])) (M.lt 4 rfl) Try.underlying26 rfl info26 ?_
    simp only [putT, List.set]
    refine wpV_callf (v := .tuple #[.agg (fel pr.x ++ fel pr.y ++ fel pr.z ++ fel pr.t : List Value).toArray, .int .i64 0]) (args := #[fe (n + 1), .agg (fel baseP.x ++ (fel baseP.y) ++ (fel baseP.z) ++ (fel baseP.t) : List Value).toArray]) (by rfl) rfl Try.func23 (by kernel_rfl) (by kernel_rfl) rfl (fun W hW => (by have h9 := Mul_ok (n := n + 1) (p := baseP) (w := W) hn1 baseP_ok rightP_base; rw [epr] at h9; exact h9)) ?_
    simp only [putT, List.set]
    refine wpV_move (v := .tuple #[.agg (fel pr.x ++ fel pr.y ++ fel pr.z ++ fel pr.t : List Value).toArray, .int .i64 0]) (by rfl) rfl rfl ?_
    simp only [putT, List.set]
    refine wpV_extract (v := .agg (fel pr.x ++ fel pr.y ++ fel pr.z ++ fel pr.t : List Value).toArray) (by rfl) rfl rfl rfl ?_
    simp only [putT, List.set]
    refine wpV_extract (v := .int .i64 0) (by rfl) rfl rfl rfl ?_
    simp only [putT, List.set]
    refine wpV_nil (hLk _ (fun w77 Sw77 => ?_))
    clear hLk Lk
    simp only [List.take, List.drop]
    replace M := M.sees Sw77
    refine wpL_var (t := 26) (cs := [.int .u64 0, .int .u64 0, .int .u64 0, .int .u64 0, .int .u64 0, .int .u64 0, .int .u64 0, .int .u64 0, .int .u64 0, .int .u64 0, .int .u64 0, .int .u64 0, .int .u64 0, .int .u64 0, .int .u64 0, .int .u64 0]) (by rfl) (fun W => ?_) (fun g78 w79 Sw79 Hg78 Bg78 => ?_)
    ·
     go_simp
    replace M := ((M.sees Sw79).addS (N := 16) (cs := [.int .u64 0, .int .u64 0, .int .u64 0, .int .u64 0, .int .u64 0, .int .u64 0, .int .u64 0, .int .u64 0, .int .u64 0, .int .u64 0, .int .u64 0, .int .u64 0, .int .u64 0, .int .u64 0, .int .u64 0, .int .u64 0]) (segs := [(0, [.int .u64 0, .int .u64 0, .int .u64 0, .int .u64 0]), (4, [.int .u64 0, .int .u64 0, .int .u64 0, .int .u64 0]), (8, [.int .u64 0, .int .u64 0, .int .u64 0, .int .u64 0]), (12, [.int .u64 0, .int .u64 0, .int .u64 0, .int .u64 0])]) (M.ge Hg78) (M.fresh Hg78) Bg78 rfl ⟨rfl, rfl, rfl, rfl, trivial⟩)
    clear Bg78
    simp only [putT, List.set]
    refine wpL_store (g := g78) (off := 0) (n := 16) (cs := fel pr.x ++ fel pr.y ++ fel pr.z ++ fel pr.t) (by rfl) (by rfl) (by rfl) (by rfl) (by rfl) (M.t 0 rfl) (by simp [flen]) info26 (one4 _ _ _ _) (fun w80 P R T => ?_)
    replace M := M.put (segs' := [(0, fel pr.x), (4, fel pr.y), (8, fel pr.z), (12, fel pr.t)]) 0 rfl P T (SegsOf.at R ⟨rfl, rfl, rfl, rfl, trivial⟩)
    simp only [List.set] at M
    refine wpL_assign (v := .int .i64 0) (by rfl) (by rfl) (by rfl) ?_
    simp only [putT, List.set]
    refine wpL_nil (no_panic ?_)
    refine hK75 _ _ ?_
    refine wp_seq_k (fun K81 hK81 => ?_)
    refine wp_region_seq ?_
    refine wpL_chunk 6 (by rfl) (fun Lk hLk => ?_)
    simp only [List.take, List.drop]
    refine wpV_load (cs := fel pq.x ++ (fel pq.y) ++ (fel pq.z) ++ (fel pq.t)) (by rfl) rfl rfl (range_join (range_join (range_join (M.r 1 0 rfl rfl) (M.r 1 1 rfl rfl) (by simp [flen])) (M.r 1 2 rfl rfl) (by simp [flen])) (M.r 1 3 rfl rfl) (by simp [flen])) (M.lt 1 rfl) Try.underlying26 rfl info26 ?_
    simp only [putT, List.set]
    refine wpV_load (cs := fel baseP.x ++ (fel baseP.y) ++ (fel baseP.z) ++ (fel baseP.t)) (by rfl) rfl rfl (range_join (range_join (range_join (M.r 5 0 rfl rfl) (M.r 5 1 rfl rfl) (by simp [flen])) (M.r 5 2 rfl rfl) (by simp [flen])) (M.r 5 3 rfl rfl) (by simp [flen])) (M.lt 5 rfl) Try.underlying26 rfl info26 ?_
    simp only [putT, List.set]
    refine wpV_callf (v := .tuple #[.agg (fel (addP pq baseP).x ++ fel (addP pq baseP).y ++ fel (addP pq baseP).z ++ fel (addP pq baseP).t : List Value).toArray, .int .i64 0]) (args := #[.agg (fel pq.x ++ (fel pq.y) ++ (fel pq.z) ++ (fel pq.t) : List Value).toArray, .agg (fel baseP.x ++ (fel baseP.y) ++ (fel baseP.z) ++ (fel baseP.t) : List Value).toArray]) (by rfl) rfl Try.func21 (by kernel_rfl) (by kernel_rfl) rfl (fun W hW => Add_ok hpq baseP_ok rpq rightP_base) ?_
    simp only [putT, List.set]
    refine wpV_move (v := .tuple #[.agg (fel (addP pq baseP).x ++ fel (addP pq baseP).y ++ fel (addP pq baseP).z ++ fel (addP pq baseP).t : List Value).toArray, .int .i64 0]) (by rfl) rfl rfl ?_
    simp only [putT, List.set]
    refine wpV_extract (v := .agg (fel (addP pq baseP).x ++ fel (addP pq baseP).y ++ fel (addP pq baseP).z ++ fel (addP pq baseP).t : List Value).toArray) (by rfl) rfl rfl rfl ?_
    simp only [putT, List.set]
    refine wpV_extract (v := .int .i64 0) (by rfl) rfl rfl rfl ?_
    simp only [putT, List.set]
    refine wpV_nil (hLk _ (fun w83 Sw83 => ?_))
    clear hLk Lk
    simp only [List.take, List.drop]
    replace M := M.sees Sw83
    refine wpL_var (t := 26) (cs := [.int .u64 0, .int .u64 0, .int .u64 0, .int .u64 0, .int .u64 0, .int .u64 0, .int .u64 0, .int .u64 0, .int .u64 0, .int .u64 0, .int .u64 0, .int .u64 0, .int .u64 0, .int .u64 0, .int .u64 0, .int .u64 0]) (by rfl) (fun W => ?_) (fun g84 w85 Sw85 Hg84 Bg84 => ?_)
    ·
     go_simp
    replace M := ((M.sees Sw85).addS (N := 16) (cs := [.int .u64 0, .int .u64 0, .int .u64 0, .int .u64 0, .int .u64 0, .int .u64 0, .int .u64 0, .int .u64 0, .int .u64 0, .int .u64 0, .int .u64 0, .int .u64 0, .int .u64 0, .int .u64 0, .int .u64 0, .int .u64 0]) (segs := [(0, [.int .u64 0, .int .u64 0, .int .u64 0, .int .u64 0]), (4, [.int .u64 0, .int .u64 0, .int .u64 0, .int .u64 0]), (8, [.int .u64 0, .int .u64 0, .int .u64 0, .int .u64 0]), (12, [.int .u64 0, .int .u64 0, .int .u64 0, .int .u64 0])]) (M.ge Hg84) (M.fresh Hg84) Bg84 rfl ⟨rfl, rfl, rfl, rfl, trivial⟩)
    clear Bg84
    simp only [putT, List.set]
    refine wpL_store (g := g84) (off := 0) (n := 16) (cs := fel (addP pq baseP).x ++ fel (addP pq baseP).y ++ fel (addP pq baseP).z ++ fel (addP pq baseP).t) (by rfl) (by rfl) (by rfl) (by rfl) (by rfl) (M.t 0 rfl) (by simp [flen]) info26 (one4 _ _ _ _) (fun w86 P R T => ?_)
    replace M := M.put (segs' := [(0, fel (addP pq baseP).x), (4, fel (addP pq baseP).y), (8, fel (addP pq baseP).z), (12, fel (addP pq baseP).t)]) 0 rfl P T (SegsOf.at R ⟨rfl, rfl, rfl, rfl, trivial⟩)
    simp only [List.set] at M
    refine wpL_assign (v := .int .i64 0) (by rfl) (by rfl) (by rfl) ?_
    simp only [putT, List.set]
    refine wpL_nil (no_panic ?_)
    refine hK81 _ _ ?_
    refine wp_seq_k (fun K87 hK87 => ?_)
    refine wp_region_seq ?_
    refine wpL_chunk 6 (by rfl) (fun Lk hLk => ?_)
    simp only [List.take, List.drop]
    refine wpV_val (v := fe 7237005577332262213973186563042994240857116359379907606001950938285454250989) (by rfl) (by rfl) (fun W hW => ?_) ?_
    ·
     rw [show fe 7237005577332262213973186563042994240857116359379907606001950938285454250989 = .agg ([.int .u64 6346243789798364141, .int .u64 1503914060200516822, .int .u64 0, .int .u64 1152921504606846976]).toArray from (by kernel_rfl)]; unfold RunsVal; kernel_rfl
    simp only [putT, List.set]
    refine wpV_load (cs := fel baseP.x ++ (fel baseP.y) ++ (fel baseP.z) ++ (fel baseP.t)) (by rfl) rfl rfl (range_join (range_join (range_join (M.r 6 0 rfl rfl) (M.r 6 1 rfl rfl) (by simp [flen])) (M.r 6 2 rfl rfl) (by simp [flen])) (M.r 6 3 rfl rfl) (by simp [flen])) (M.lt 6 rfl) Try.underlying26 rfl info26 ?_
    simp only [putT, List.set]
    refine wpV_callf (v := .tuple #[.agg (fel pz.x ++ fel pz.y ++ fel pz.z ++ fel pz.t : List Value).toArray, .int .i64 0]) (args := #[fe 7237005577332262213973186563042994240857116359379907606001950938285454250989, .agg (fel baseP.x ++ (fel baseP.y) ++ (fel baseP.z) ++ (fel baseP.t) : List Value).toArray]) (by rfl) rfl Try.func23 (by kernel_rfl) (by kernel_rfl) rfl (fun W hW => (by have h9 := Mul_ok (n := 7237005577332262213973186563042994240857116359379907606001950938285454250989) (p := baseP) (w := W) (by decide) baseP_ok rightP_base; rw [epz] at h9; exact h9)) ?_
    simp only [putT, List.set]
    refine wpV_move (v := .tuple #[.agg (fel pz.x ++ fel pz.y ++ fel pz.z ++ fel pz.t : List Value).toArray, .int .i64 0]) (by rfl) rfl rfl ?_
    simp only [putT, List.set]
    refine wpV_extract (v := .agg (fel pz.x ++ fel pz.y ++ fel pz.z ++ fel pz.t : List Value).toArray) (by rfl) rfl rfl rfl ?_
    simp only [putT, List.set]
    refine wpV_extract (v := .int .i64 0) (by rfl) rfl rfl rfl ?_
    simp only [putT, List.set]
    refine wpV_nil (hLk _ (fun w89 Sw89 => ?_))
    clear hLk Lk
    simp only [List.take, List.drop]
    replace M := M.sees Sw89
    refine wpL_var (t := 26) (cs := [.int .u64 0, .int .u64 0, .int .u64 0, .int .u64 0, .int .u64 0, .int .u64 0, .int .u64 0, .int .u64 0, .int .u64 0, .int .u64 0, .int .u64 0, .int .u64 0, .int .u64 0, .int .u64 0, .int .u64 0, .int .u64 0]) (by rfl) (fun W => ?_) (fun g90 w91 Sw91 Hg90 Bg90 => ?_)
    ·
     go_simp
    replace M := ((M.sees Sw91).addS (N := 16) (cs := [.int .u64 0, .int .u64 0, .int .u64 0, .int .u64 0, .int .u64 0, .int .u64 0, .int .u64 0, .int .u64 0, .int .u64 0, .int .u64 0, .int .u64 0, .int .u64 0, .int .u64 0, .int .u64 0, .int .u64 0, .int .u64 0]) (segs := [(0, [.int .u64 0, .int .u64 0, .int .u64 0, .int .u64 0]), (4, [.int .u64 0, .int .u64 0, .int .u64 0, .int .u64 0]), (8, [.int .u64 0, .int .u64 0, .int .u64 0, .int .u64 0]), (12, [.int .u64 0, .int .u64 0, .int .u64 0, .int .u64 0])]) (M.ge Hg90) (M.fresh Hg90) Bg90 rfl ⟨rfl, rfl, rfl, rfl, trivial⟩)
    clear Bg90
    simp only [putT, List.set]
    refine wpL_store (g := g90) (off := 0) (n := 16) (cs := fel pz.x ++ fel pz.y ++ fel pz.z ++ fel pz.t) (by rfl) (by rfl) (by rfl) (by rfl) (by rfl) (M.t 0 rfl) (by simp [flen]) info26 (one4 _ _ _ _) (fun w92 P R T => ?_)
    replace M := M.put (segs' := [(0, fel pz.x), (4, fel pz.y), (8, fel pz.z), (12, fel pz.t)]) 0 rfl P T (SegsOf.at R ⟨rfl, rfl, rfl, rfl, trivial⟩)
    simp only [List.set] at M
    refine wpL_assign (v := .int .i64 0) (by rfl) (by rfl) (by rfl) ?_
    simp only [putT, List.set]
    refine wpL_nil (no_panic ?_)
    refine hK87 _ _ ?_
    refine wp_seq_k (fun K93 hK93 => ?_)
    refine wp_region_seq ?_
    refine wpL_chunk 5 (by rfl) (fun Lk hLk => ?_)
    simp only [List.take, List.drop]
    refine wpV_load (cs := fel pq.x ++ (fel pq.y) ++ (fel pq.z) ++ (fel pq.t)) (by rfl) rfl rfl (range_join (range_join (range_join (M.r 3 0 rfl rfl) (M.r 3 1 rfl rfl) (by simp [flen])) (M.r 3 2 rfl rfl) (by simp [flen])) (M.r 3 3 rfl rfl) (by simp [flen])) (M.lt 3 rfl) Try.underlying26 rfl info26 ?_
    simp only [putT, List.set]
    refine wpV_callf (v := .tuple #[.string (bs ls), .int .i64 0]) (args := #[.agg (fel pq.x ++ (fel pq.y) ++ (fel pq.z) ++ (fel pq.t) : List Value).toArray]) (by rfl) rfl Try.func13 (by kernel_rfl) (by kernel_rfl) rfl (fun W hW => (by have h9 := Bytes_ok (p := pq) (w := W) hpq rpq; rw [els] at h9; exact h9)) ?_
    simp only [putT, List.set]
    refine wpV_move (v := .tuple #[.string (bs ls), .int .i64 0]) (by rfl) rfl rfl ?_
    simp only [putT, List.set]
    refine wpV_extract (v := .string (bs ls)) (by rfl) rfl rfl rfl ?_
    simp only [putT, List.set]
    refine wpV_extract (v := .int .i64 0) (by rfl) rfl rfl rfl ?_
    simp only [putT, List.set]
    refine wpV_nil (hLk _ (fun w95 Sw95 => ?_))
    clear hLk Lk
    simp only [List.take, List.drop]
    replace M := M.sees Sw95
    refine wpL_assign (v := .string (bs ls)) (by rfl) (by rfl) (by rfl) ?_
    simp only [putT, List.set]
    refine wpL_assign (v := .int .i64 0) (by rfl) (by rfl) (by rfl) ?_
    simp only [putT, List.set]
    refine wpL_nil (no_panic ?_)
    refine hK93 _ _ ?_
    refine wp_seq_k (fun K96 hK96 => ?_)
    refine wp_region_seq ?_
    refine wpL_move (v := .string (bs ls)) (by rfl) (by rfl) (by rfl) ?_
    simp only [putT, List.set]
    refine wpL_chunk 4 (by rfl) (fun Lk hLk => ?_)
    simp only [List.take, List.drop]
    refine wpV_callf (v := .tuple #[.agg (fel pk.x ++ fel pk.y ++ fel pk.z ++ fel pk.t : List Value).toArray, .int .i64 0]) (args := #[.string (bs ls)]) (by rfl) rfl Try.func10 (by kernel_rfl) (by kernel_rfl) rfl (fun W hW => (by have h9 := Parse_text (p := pq) (w := W) rpq; rw [els, epk] at h9; exact h9)) ?_
    simp only [putT, List.set]
    refine wpV_move (v := .tuple #[.agg (fel pk.x ++ fel pk.y ++ fel pk.z ++ fel pk.t : List Value).toArray, .int .i64 0]) (by rfl) rfl rfl ?_
    simp only [putT, List.set]
    refine wpV_extract (v := .agg (fel pk.x ++ fel pk.y ++ fel pk.z ++ fel pk.t : List Value).toArray) (by rfl) rfl rfl rfl ?_
    simp only [putT, List.set]
    refine wpV_extract (v := .int .i64 0) (by rfl) rfl rfl rfl ?_
    simp only [putT, List.set]
    refine wpV_nil (hLk _ (fun w98 Sw98 => ?_))
    clear hLk Lk
    simp only [List.take, List.drop]
    replace M := M.sees Sw98
    refine wpL_var (t := 26) (cs := [.int .u64 0, .int .u64 0, .int .u64 0, .int .u64 0, .int .u64 0, .int .u64 0, .int .u64 0, .int .u64 0, .int .u64 0, .int .u64 0, .int .u64 0, .int .u64 0, .int .u64 0, .int .u64 0, .int .u64 0, .int .u64 0]) (by rfl) (fun W => ?_) (fun g99 w100 Sw100 Hg99 Bg99 => ?_)
    ·
     go_simp
    replace M := ((M.sees Sw100).addS (N := 16) (cs := [.int .u64 0, .int .u64 0, .int .u64 0, .int .u64 0, .int .u64 0, .int .u64 0, .int .u64 0, .int .u64 0, .int .u64 0, .int .u64 0, .int .u64 0, .int .u64 0, .int .u64 0, .int .u64 0, .int .u64 0, .int .u64 0]) (segs := [(0, [.int .u64 0, .int .u64 0, .int .u64 0, .int .u64 0]), (4, [.int .u64 0, .int .u64 0, .int .u64 0, .int .u64 0]), (8, [.int .u64 0, .int .u64 0, .int .u64 0, .int .u64 0]), (12, [.int .u64 0, .int .u64 0, .int .u64 0, .int .u64 0])]) (M.ge Hg99) (M.fresh Hg99) Bg99 rfl ⟨rfl, rfl, rfl, rfl, trivial⟩)
    clear Bg99
    simp only [putT, List.set]
    refine wpL_store (g := g99) (off := 0) (n := 16) (cs := fel pk.x ++ fel pk.y ++ fel pk.z ++ fel pk.t) (by rfl) (by rfl) (by rfl) (by rfl) (by rfl) (M.t 0 rfl) (by simp [flen]) info26 (one4 _ _ _ _) (fun w101 P R T => ?_)
    replace M := M.put (segs' := [(0, fel pk.x), (4, fel pk.y), (8, fel pk.z), (12, fel pk.t)]) 0 rfl P T (SegsOf.at R ⟨rfl, rfl, rfl, rfl, trivial⟩)
    simp only [List.set] at M
    refine wpL_assign (v := .int .i64 0) (by rfl) (by rfl) (by rfl) ?_
    simp only [putT, List.set]
    refine wpL_nil (no_panic ?_)
    refine hK96 _ _ ?_
    refine wp_seq_k (fun K102 hK102 => ?_)
    refine wp_seq_k (fun K103 hK103 => ?_)
    refine wp_region_seq ?_
    refine wpL_move (v := .int .i64 0) (by rfl) (by rfl) (by rfl) ?_
    simp only [putT, List.set]
    refine wpL_chunk 29 (by rfl) (fun Lk hLk => ?_)
    simp only [List.take, List.drop]
    refine wpV_bin (v := .bool false) (by rfl) rfl rfl rfl (fun W => run_neq _ _ _ _ W) ?_
    simp only [putT, List.set]
    refine wpV_move (v := .bool false) (by rfl) rfl rfl ?_
    simp only [putT, List.set]
    refine wpV_move (v := .int .i64 0) (by rfl) rfl rfl ?_
    simp only [putT, List.set]
    refine wpV_bin (v := .bool false) (by rfl) rfl rfl rfl (fun W => run_neq _ _ _ _ W) ?_
    simp only [putT, List.set]
    refine wpV_pick (v := .bool false) (by rfl) rfl rfl rfl ?_
    simp only [putT, List.set]
    refine wpV_move (v := .bool false) (by rfl) rfl rfl ?_
    simp only [putT, List.set]
    refine wpV_move (v := .int .i64 0) (by rfl) rfl rfl ?_
    simp only [putT, List.set]
    refine wpV_bin (v := .bool false) (by rfl) rfl rfl rfl (fun W => run_neq _ _ _ _ W) ?_
    simp only [putT, List.set]
    refine wpV_pick (v := .bool false) (by rfl) rfl rfl rfl ?_
    simp only [putT, List.set]
    refine wpV_move (v := .bool false) (by rfl) rfl rfl ?_
    simp only [putT, List.set]
    refine wpV_move (v := .int .i64 0) (by rfl) rfl rfl ?_
    simp only [putT, List.set]
    refine wpV_bin (v := .bool false) (by rfl) rfl rfl rfl (fun W => run_neq _ _ _ _ W) ?_
    simp only [putT, List.set]
    refine wpV_pick (v := .bool false) (by rfl) rfl rfl rfl ?_
    simp only [putT, List.set]
    refine wpV_move (v := .bool false) (by rfl) rfl rfl ?_
    simp only [putT, List.set]
    refine wpV_move (v := .int .i64 0) (by rfl) rfl rfl ?_
    simp only [putT, List.set]
    refine wpV_bin (v := .bool false) (by rfl) rfl rfl rfl (fun W => run_neq _ _ _ _ W) ?_
    simp only [putT, List.set]
    refine wpV_pick (v := .bool false) (by rfl) rfl rfl rfl ?_
    simp only [putT, List.set]
    refine wpV_move (v := .bool false) (by rfl) rfl rfl ?_
    simp only [putT, List.set]
    refine wpV_move (v := .int .i64 0) (by rfl) rfl rfl ?_
    simp only [putT, List.set]
    refine wpV_bin (v := .bool false) (by rfl) rfl rfl rfl (fun W => run_neq _ _ _ _ W) ?_
    simp only [putT, List.set]
    refine wpV_pick (v := .bool false) (by rfl) rfl rfl rfl ?_
    simp only [putT, List.set]
    refine wpV_move (v := .bool false) (by rfl) rfl rfl ?_
    simp only [putT, List.set]
    refine wpV_move (v := .int .i64 0) (by rfl) rfl rfl ?_
    simp only [putT, List.set]
    refine wpV_bin (v := .bool false) (by rfl) rfl rfl rfl (fun W => run_neq _ _ _ _ W) ?_
    simp only [putT, List.set]
    refine wpV_pick (v := .bool false) (by rfl) rfl rfl rfl ?_
    simp only [putT, List.set]
    refine wpV_move (v := .bool false) (by rfl) rfl rfl ?_
    simp only [putT, List.set]
    refine wpV_callf (v := .bool true) (args := #[]) (by rfl) rfl Try.func11 (by kernel_rfl) (by kernel_rfl) rfl (fun W hW => alive06_c) ?_
    simp only [putT, List.set]
    refine wpV_not (b := true) (by rfl) rfl rfl ?_
    simp only [Bool.not_true, Bool.not_false]
    simp only [putT, List.set]
    refine wpV_pick (v := .bool false) (by rfl) rfl rfl rfl ?_
    simp only [putT, List.set]
    refine wpV_nil (hLk _ (fun w105 Sw105 => ?_))
    clear hLk Lk
    simp only [List.take, List.drop]
    replace M := M.sees Sw105
    refine wpL_nil (no_panic ?_)
    refine hK103 _ _ ?_
    refine wp_cond_false rfl ?_
    refine wp_skip ?_
    refine hK102 _ _ ?_
    refine wp_seq_k (fun K106 hK106 => ?_)
    refine wp_region_grow 18 [] (by kernel_rfl) (by kernel_rfl) (by kernel_rfl) (fun Lk hLk => ?_)
    simp only [List.take, List.drop]
    refine wpV_load (cs := fel pa.x ++ (fel pa.y) ++ (fel pa.z) ++ (fel pa.t)) (by rfl) rfl rfl (range_join (range_join (range_join (M.r 6 0 rfl rfl) (M.r 6 1 rfl rfl) (by simp [flen])) (M.r 6 2 rfl rfl) (by simp [flen])) (M.r 6 3 rfl rfl) (by simp [flen])) (M.lt 6 rfl) Try.underlying26 rfl info26 ?_
    simp only [putT, List.set]
    refine wpV_load (cs := fel (timesP baseP f).x ++ (fel (timesP baseP f).y) ++ (fel (timesP baseP f).z) ++ (fel (timesP baseP f).t)) (by rfl) rfl rfl (range_join (range_join (range_join (M.r 7 0 rfl rfl) (M.r 7 1 rfl rfl) (by simp [flen])) (M.r 7 2 rfl rfl) (by simp [flen])) (M.r 7 3 rfl rfl) (by simp [flen])) (M.lt 7 rfl) Try.underlying26 rfl info26 ?_
    simp only [putT, List.set]
    refine wpV_callf (v := .bool true) (args := #[.agg (fel pa.x ++ (fel pa.y) ++ (fel pa.z) ++ (fel pa.t) : List Value).toArray, .agg (fel (timesP baseP f).x ++ (fel (timesP baseP f).y) ++ (fel (timesP baseP f).z) ++ (fel (timesP baseP f).t) : List Value).toArray]) (by rfl) rfl Try.func20 (by kernel_rfl) (by kernel_rfl) rfl (fun W hW => (by have h9 := same_c (p := pa) (q := timesP baseP f) (w := W) hpa (times_ok ..); rw [(same_eqv rpa (times_right rightP_base _)).2 eqF] at h9; exact h9)) ?_
    simp only [putT, List.set]
    refine wpV_move (v := .bool true) (by rfl) rfl rfl ?_
    simp only [putT, List.set]
    refine wpV_load (cs := fel pr.x ++ (fel pr.y) ++ (fel pr.z) ++ (fel pr.t)) (by rfl) rfl rfl (range_join (range_join (range_join (M.r 3 0 rfl rfl) (M.r 3 1 rfl rfl) (by simp [flen])) (M.r 3 2 rfl rfl) (by simp [flen])) (M.r 3 3 rfl rfl) (by simp [flen])) (M.lt 3 rfl) Try.underlying26 rfl info26 ?_
    simp only [putT, List.set]
    refine wpV_load (cs := fel (addP pq baseP).x ++ (fel (addP pq baseP).y) ++ (fel (addP pq baseP).z) ++ (fel (addP pq baseP).t)) (by rfl) rfl rfl (range_join (range_join (range_join (M.r 2 0 rfl rfl) (M.r 2 1 rfl rfl) (by simp [flen])) (M.r 2 2 rfl rfl) (by simp [flen])) (M.r 2 3 rfl rfl) (by simp [flen])) (M.lt 2 rfl) Try.underlying26 rfl info26 ?_
    simp only [putT, List.set]
    refine wpV_callf (v := .bool true) (args := #[.agg (fel pr.x ++ (fel pr.y) ++ (fel pr.z) ++ (fel pr.t) : List Value).toArray, .agg (fel (addP pq baseP).x ++ (fel (addP pq baseP).y) ++ (fel (addP pq baseP).z) ++ (fel (addP pq baseP).t) : List Value).toArray]) (by rfl) rfl Try.func20 (by kernel_rfl) (by kernel_rfl) rfl (fun W hW => (by have h9 := same_c (p := pr) (q := addP pq baseP) (w := W) hpr (addP_ok ..); rw [(same_eqv rpr (right_add rpq rightP_base)).2 eqM] at h9; exact h9)) ?_
    simp only [putT, List.set]
    refine wpV_pick (v := .bool true) (by rfl) rfl rfl rfl ?_
    simp only [putT, List.set]
    refine wpV_move (v := .bool true) (by rfl) rfl rfl ?_
    simp only [putT, List.set]
    refine wpV_load (cs := fel pz.x ++ (fel pz.y) ++ (fel pz.z) ++ (fel pz.t)) (by rfl) rfl rfl (range_join (range_join (range_join (M.r 1 0 rfl rfl) (M.r 1 1 rfl rfl) (by simp [flen])) (M.r 1 2 rfl rfl) (by simp [flen])) (M.r 1 3 rfl rfl) (by simp [flen])) (M.lt 1 rfl) Try.underlying26 rfl info26 ?_
    simp only [putT, List.set]
    refine wpV_callf (v := .agg (fel zeroP.x ++ fel zeroP.y ++ fel zeroP.z ++ fel zeroP.t : List Value).toArray) (args := #[]) (by rfl) rfl Try.func15 (by kernel_rfl) (by kernel_rfl) rfl (fun W hW => zero_c) ?_
    simp only [putT, List.set]
    refine wpV_callf (v := .bool true) (args := #[.agg (fel pz.x ++ (fel pz.y) ++ (fel pz.z) ++ (fel pz.t) : List Value).toArray, .agg (fel zeroP.x ++ fel zeroP.y ++ fel zeroP.z ++ fel zeroP.t : List Value).toArray]) (by rfl) rfl Try.func20 (by kernel_rfl) (by kernel_rfl) rfl (fun W hW => (by have h9 := same_c (p := pz) (q := zeroP) (w := W) hpz zeroP_ok; rw [(same_eqv rpz right_zero).2 eqZ] at h9; exact h9)) ?_
    simp only [putT, List.set]
    refine wpV_pick (v := .bool true) (by rfl) rfl rfl rfl ?_
    simp only [putT, List.set]
    refine wpV_move (v := .bool true) (by rfl) rfl rfl ?_
    simp only [putT, List.set]
    refine wpV_load (cs := fel pk.x ++ (fel pk.y) ++ (fel pk.z) ++ (fel pk.t)) (by rfl) rfl rfl (range_join (range_join (range_join (M.r 0 0 rfl rfl) (M.r 0 1 rfl rfl) (by simp [flen])) (M.r 0 2 rfl rfl) (by simp [flen])) (M.r 0 3 rfl rfl) (by simp [flen])) (M.lt 0 rfl) Try.underlying26 rfl info26 ?_
    simp only [putT, List.set]
    refine wpV_load (cs := fel pq.x ++ (fel pq.y) ++ (fel pq.z) ++ (fel pq.t)) (by rfl) rfl rfl (range_join (range_join (range_join (M.r 4 0 rfl rfl) (M.r 4 1 rfl rfl) (by simp [flen])) (M.r 4 2 rfl rfl) (by simp [flen])) (M.r 4 3 rfl rfl) (by simp [flen])) (M.lt 4 rfl) Try.underlying26 rfl info26 ?_
    simp only [putT, List.set]
    refine wpV_callf (v := .bool true) (args := #[.agg (fel pk.x ++ (fel pk.y) ++ (fel pk.z) ++ (fel pk.t) : List Value).toArray, .agg (fel pq.x ++ (fel pq.y) ++ (fel pq.z) ++ (fel pq.t) : List Value).toArray]) (by rfl) rfl Try.func20 (by kernel_rfl) (by kernel_rfl) rfl (fun W hW => (by have h9 := same_c (p := pk) (q := pq) (w := W) hpk hpq; rw [(same_eqv rpk rpq).2 eqK] at h9; exact h9)) ?_
    simp only [putT, List.set]
    refine wpV_pick (v := .bool true) (by rfl) rfl rfl rfl ?_
    simp only [putT, List.set]
    refine wpV_nil (hLk.out _ ?_)
    clear hLk Lk
    simp only [List.take, List.drop]
    iterate 18 refine wpN_skip (by rfl) ?_
    refine wpN_nil (fun w108 Sw108 hbs => ?_)
    clear hbs
    replace M := M.sees Sw108
    refine wpL_assign (v := .bool true) (by rfl) (by rfl) (by rfl) ?_
    simp only [putT, List.set]
    refine wpL_nil (no_panic ?_)
    refine hK106 _ _ ?_
    refine wp_ret ?_
    repeat (first | with_reducible refine then_ret ?_ | with_reducible refine inblock_ret ?_)
    refine bodyPost_ret (v := .bool true) (res1 rfl (.tmp (by rfl))) rfl ?_
    have BE := M.below
    exact ⟨rfl, BE⟩
 ·
  have hk : k < f := of_decide_eq_true hc29
  refine wp_cond_true rfl ?_
  refine wp_skip ?_
  refine hK28 _ _ ?_
  refine wp_seq_k (fun K109 hK109 => ?_)
  refine wp_block ?_
  refine wp_seq_k (fun K110 hK110 => ?_)
  refine wp_region_seq ?_
  refine wpL_chunk 6 (by rfl) (fun Lk hLk => ?_)
  simp only [List.take, List.drop]
  refine wpV_load (cs := fel (timesP baseP k).x ++ (fel (timesP baseP k).y) ++ (fel (timesP baseP k).z) ++ (fel (timesP baseP k).t)) (by rfl) rfl rfl (range_join (range_join (range_join (M.r 0 0 rfl rfl) (M.r 0 1 rfl rfl) (by simp [flen])) (M.r 0 2 rfl rfl) (by simp [flen])) (M.r 0 3 rfl rfl) (by simp [flen])) (M.lt 0 rfl) Try.underlying26 rfl info26 ?_
  simp only [putT, List.set]
  refine wpV_load (cs := fel baseP.x ++ (fel baseP.y) ++ (fel baseP.z) ++ (fel baseP.t)) (by rfl) rfl rfl (range_join (range_join (range_join (M.r 1 0 rfl rfl) (M.r 1 1 rfl rfl) (by simp [flen])) (M.r 1 2 rfl rfl) (by simp [flen])) (M.r 1 3 rfl rfl) (by simp [flen])) (M.lt 1 rfl) Try.underlying26 rfl info26 ?_
  simp only [putT, List.set]
  refine wpV_callf (v := .tuple #[.agg (fel (addP (timesP baseP k) baseP).x ++ fel (addP (timesP baseP k) baseP).y ++ fel (addP (timesP baseP k) baseP).z ++ fel (addP (timesP baseP k) baseP).t : List Value).toArray, .int .i64 0]) (args := #[.agg (fel (timesP baseP k).x ++ (fel (timesP baseP k).y) ++ (fel (timesP baseP k).z) ++ (fel (timesP baseP k).t) : List Value).toArray, .agg (fel baseP.x ++ (fel baseP.y) ++ (fel baseP.z) ++ (fel baseP.t) : List Value).toArray]) (by rfl) rfl Try.func21 (by kernel_rfl) (by kernel_rfl) rfl (fun W hW => Add_ok (times_ok ..) baseP_ok (times_right rightP_base _) rightP_base) ?_
  simp only [putT, List.set]
  refine wpV_move (v := .tuple #[.agg (fel (addP (timesP baseP k) baseP).x ++ fel (addP (timesP baseP k) baseP).y ++ fel (addP (timesP baseP k) baseP).z ++ fel (addP (timesP baseP k) baseP).t : List Value).toArray, .int .i64 0]) (by rfl) rfl rfl ?_
  simp only [putT, List.set]
  refine wpV_extract (v := .agg (fel (addP (timesP baseP k) baseP).x ++ fel (addP (timesP baseP k) baseP).y ++ fel (addP (timesP baseP k) baseP).z ++ fel (addP (timesP baseP k) baseP).t : List Value).toArray) (by rfl) rfl rfl rfl ?_
  simp only [putT, List.set]
  refine wpV_extract (v := .int .i64 0) (by rfl) rfl rfl rfl ?_
  simp only [putT, List.set]
  refine wpV_nil (hLk _ (fun w112 Sw112 => ?_))
  clear hLk Lk
  simp only [List.take, List.drop]
  replace M := M.sees Sw112
  refine wpL_var (t := 26) (cs := [.int .u64 0, .int .u64 0, .int .u64 0, .int .u64 0, .int .u64 0, .int .u64 0, .int .u64 0, .int .u64 0, .int .u64 0, .int .u64 0, .int .u64 0, .int .u64 0, .int .u64 0, .int .u64 0, .int .u64 0, .int .u64 0]) (by rfl) (fun W => ?_) (fun g113 w114 Sw114 Hg113 Bg113 => ?_)
  ·
   go_simp
  replace M := ((M.sees Sw114).addS (N := 16) (cs := [.int .u64 0, .int .u64 0, .int .u64 0, .int .u64 0, .int .u64 0, .int .u64 0, .int .u64 0, .int .u64 0, .int .u64 0, .int .u64 0, .int .u64 0, .int .u64 0, .int .u64 0, .int .u64 0, .int .u64 0, .int .u64 0]) (segs := [(0, [.int .u64 0, .int .u64 0, .int .u64 0, .int .u64 0]), (4, [.int .u64 0, .int .u64 0, .int .u64 0, .int .u64 0]), (8, [.int .u64 0, .int .u64 0, .int .u64 0, .int .u64 0]), (12, [.int .u64 0, .int .u64 0, .int .u64 0, .int .u64 0])]) (M.ge Hg113) (M.fresh Hg113) Bg113 rfl ⟨rfl, rfl, rfl, rfl, trivial⟩)
  clear Bg113
  simp only [putT, List.set]
  refine wpL_store (g := g113) (off := 0) (n := 16) (cs := fel (addP (timesP baseP k) baseP).x ++ fel (addP (timesP baseP k) baseP).y ++ fel (addP (timesP baseP k) baseP).z ++ fel (addP (timesP baseP k) baseP).t) (by rfl) (by rfl) (by rfl) (by rfl) (by rfl) (M.t 0 rfl) (by simp [flen]) info26 (one4 _ _ _ _) (fun w115 P R T => ?_)
  replace M := M.put (segs' := [(0, fel (addP (timesP baseP k) baseP).x), (4, fel (addP (timesP baseP k) baseP).y), (8, fel (addP (timesP baseP k) baseP).z), (12, fel (addP (timesP baseP k) baseP).t)]) 0 rfl P T (SegsOf.at R ⟨rfl, rfl, rfl, rfl, trivial⟩)
  simp only [List.set] at M
  refine wpL_assign (v := .int .i64 0) (by rfl) (by rfl) (by rfl) ?_
  simp only [putT, List.set]
  refine wpL_nil (no_panic ?_)
  refine hK110 _ _ ?_
  refine wp_seq_k (fun K116 hK116 => ?_)
  refine wp_seq_k (fun K117 hK117 => ?_)
  refine wp_region_seq ?_
  refine wpL_move (v := .int .i64 0) (by rfl) (by rfl) (by rfl) ?_
  simp only [putT, List.set]
  refine wpL_chunk 1 (by rfl) (fun Lk hLk => ?_)
  simp only [List.take, List.drop]
  refine wpV_bin (v := .bool false) (by rfl) rfl rfl rfl (fun W => run_neq _ _ _ _ W) ?_
  simp only [putT, List.set]
  refine wpV_nil (hLk _ (fun w119 Sw119 => ?_))
  clear hLk Lk
  simp only [List.take, List.drop]
  replace M := M.sees Sw119
  refine wpL_nil (no_panic ?_)
  refine hK117 _ _ ?_
  refine wp_cond_false rfl ?_
  refine wp_skip ?_
  refine hK116 _ _ ?_
  refine wp_region_seq ?_
  refine wpL_chunk 1 (by rfl) (fun Lk hLk => ?_)
  simp only [List.take, List.drop]
  refine wpV_load (cs := fel (addP (timesP baseP k) baseP).x ++ (fel (addP (timesP baseP k) baseP).y) ++ (fel (addP (timesP baseP k) baseP).z) ++ (fel (addP (timesP baseP k) baseP).t)) (by rfl) rfl rfl (range_join (range_join (range_join (M.r 0 0 rfl rfl) (M.r 0 1 rfl rfl) (by simp [flen])) (M.r 0 2 rfl rfl) (by simp [flen])) (M.r 0 3 rfl rfl) (by simp [flen])) (M.lt 0 rfl) Try.underlying26 rfl info26 ?_
  simp only [putT, List.set]
  refine wpV_nil (hLk _ (fun w121 Sw121 => ?_))
  clear hLk Lk
  simp only [List.take, List.drop]
  replace M := M.sees Sw121
  refine wpL_store (g := g17) (off := 0) (n := 16) (cs := fel (addP (timesP baseP k) baseP).x ++ (fel (addP (timesP baseP k) baseP).y) ++ (fel (addP (timesP baseP k) baseP).z) ++ (fel (addP (timesP baseP k) baseP).t)) (by rfl) (by rfl) (by rfl) (by rfl) (by rfl) (M.t 1 rfl) (by simp [flen]) info26 (one4 _ _ _ _) (fun w122 P R T => ?_)
  replace M := M.put (segs' := [(0, fel (addP (timesP baseP k) baseP).x), (4, fel (addP (timesP baseP k) baseP).y), (8, fel (addP (timesP baseP k) baseP).z), (12, fel (addP (timesP baseP k) baseP).t)]) 1 rfl P T (SegsOf.at R ⟨rfl, rfl, rfl, rfl, trivial⟩)
  simp only [List.set] at M
  refine wpL_nil (no_panic ?_)
  refine hK109 _ _ ?_
  refine wp_region_seq ?_
  refine wpL_chunk 1 (by rfl) (fun Lk hLk => ?_)
  simp only [List.take, List.drop]
  refine wpV_bin (v := .int .i64 ((k + 1 : Nat) : Int)) (by rfl) rfl rfl rfl (fun W => run_add (by simp only [IntKind.wrap_i64]; omega) W) ?_
  simp only [putT, List.set]
  refine wpV_nil (hLk _ (fun w124 Sw124 => ?_))
  clear hLk Lk
  simp only [List.take, List.drop]
  replace M := M.sees Sw124
  refine wpL_move (v := .int .i64 ((k + 1 : Nat) : Int)) (by rfl) (by rfl) (by rfl) ?_
  simp only [putT, List.set]
  refine wpL_nil (no_panic ?_)
  refine Exists.intro _ ⟨?_, (k + 1), (fun q9 => (#[undef, undef, undef, undef, u23 4, undef, undef, .pointer (some ⟨g113, 0, none⟩), .int .i64 0, undef, undef, undef, undef, undef, undef, undef, undef, undef, undef, undef, undef, undef, undef, undef, undef, undef, undef, undef, undef, undef, undef, undef, undef, .bool true, .tuple #[.agg (fel (addP (timesP baseP k) baseP).x ++ fel (addP (timesP baseP k) baseP).y ++ fel (addP (timesP baseP k) baseP).z ++ fel (addP (timesP baseP k) baseP).t : List Value).toArray, .int .i64 0], .agg (fel (timesP baseP k).x ++ (fel (timesP baseP k).y) ++ (fel (timesP baseP k).z) ++ (fel (timesP baseP k).t) : List Value).toArray, .agg (fel baseP.x ++ (fel baseP.y) ++ (fel baseP.z) ++ (fel baseP.t) : List Value).toArray, .tuple #[.agg (fel (addP (timesP baseP k) baseP).x ++ fel (addP (timesP baseP k) baseP).y ++ fel (addP (timesP baseP k) baseP).z ++ fel (addP (timesP baseP k) baseP).t : List Value).toArray, .int .i64 0], .agg (fel (addP (timesP baseP k) baseP).x ++ fel (addP (timesP baseP k) baseP).y ++ fel (addP (timesP baseP k) baseP).z ++ fel (addP (timesP baseP k) baseP).t : List Value).toArray, .int .i64 0, .int .i64 0, .bool false, .agg (fel (addP (timesP baseP k) baseP).x ++ (fel (addP (timesP baseP k) baseP).y) ++ (fel (addP (timesP baseP k) baseP).z) ++ (fel (addP (timesP baseP k) baseP).t) : List Value).toArray, .int .i64 ((k + 1 : Nat) : Int)] : Array Value).getD q9 undef), rfl, rfl, (M.pick [1, 2, 3] (by decide) rfl), (by omega)⟩
  omega
set_option maxRecDepth 100000 in
set_option maxHeartbeats 4000000 in
theorem ptimes_max {x : Int} {pq pr pz pk : P4} {ls : List UInt8} {w : World} (hn1 : 0 + 1 < 2 ^ 256) (hn0 : 0 < 2 ^ 256) (hpq : pq.Ok) (epq : mulR 0 baseP 256 = pq) (rpq : rightP pq = true) (hpr : pr.Ok) (epr : mulR (0 + 1) baseP 256 = pr) (rpr : rightP pr = true) (hpz : pz.Ok) (epz : mulR 7237005577332262213973186563042994240857116359379907606001950938285454250989 baseP 256 = pz) (rpz : rightP pz = true) (hpk : pk.Ok) (epk : affP (affX pq) (affY pq) = pk) (rpk : rightP pk = true) (els : textQ (affX pq) (affY pq) = ls) (eqM : Eqv pr (addP pq baseP)) (eqZ : Eqv pz zeroP) (eqK : Eqv pk pq) :
  Calls Try.prog 8 #[fe 115792089237316195423570985008687907853269984665640564039457584007913129639935, .int .i64 x] w fun e w' => e = .returned (.bool true) ∧ Below w.heap.size w w' := by
 obtain ⟨⟨hx1, hx2⟩, f, hfe, hf⟩ : (-20 < x.tmod 20 ∧ x.tmod 20 < 20) ∧ ∃ f : Nat, (x.tmod 20 + 20).tmod 20 = (f : Int) ∧ f < 20 := modZ x (n := 20) (by decide)
 have hff : (f : Int) < 20 := by omega
 obtain ⟨pa, hpa, epa, rpa, eqF⟩ : ∃ pa : P4, pa.Ok ∧ mulR f baseP 256 = pa ∧ rightP pa = true ∧ Eqv pa (timesP baseP f) := ⟨_, mulR_ok .., rfl, right_mulR rightP_base 256, few_eqv hf⟩
 go_enter Try.func8, Try.ntmps8
 have M := Mem.start w
 refine wp_seq_k (fun K1 hK1 => ?_)
 refine wp_region_seq ?_
 refine wpL_var (t := 39) (cs := fel 115792089237316195423570985008687907853269984665640564039457584007913129639935) (by rfl) (fun W => ?_) (fun g3 w4 Sw4 Hg3 Bg3 => ?_)
 ·
  (first | rfl | go_simp)
 replace M := ((M.sees Sw4).add (N := 4) (cs := fel 115792089237316195423570985008687907853269984665640564039457584007913129639935) (M.ge Hg3) (M.fresh Hg3) Bg3 rfl)
 clear Bg3
 simp only [putT, List.set]
 refine wpL_assign (v := .bool false) (by rfl) (by rfl) (by rfl) ?_
 simp only [putT, List.set]
 refine wpL_nil (no_panic ?_)
 refine hK1 _ _ ?_
 refine wp_seq_k (fun K5 hK5 => ?_)
 refine wp_region_seq ?_
 refine wpL_chunk 1 (by rfl) (fun Lk hLk => ?_)
 simp only [List.take, List.drop]
 refine wpV_callf (v := .agg (fel baseP.x ++ fel baseP.y ++ fel baseP.z ++ fel baseP.t : List Value).toArray) (args := #[]) (by rfl) rfl Try.func16 (by kernel_rfl) (by kernel_rfl) rfl (fun W hW => Base_c) ?_
 simp only [putT, List.set]
 refine wpV_nil (hLk _ (fun w7 Sw7 => ?_))
 clear hLk Lk
 simp only [List.take, List.drop]
 replace M := M.sees Sw7
 refine wpL_var (t := 26) (cs := [.int .u64 0, .int .u64 0, .int .u64 0, .int .u64 0, .int .u64 0, .int .u64 0, .int .u64 0, .int .u64 0, .int .u64 0, .int .u64 0, .int .u64 0, .int .u64 0, .int .u64 0, .int .u64 0, .int .u64 0, .int .u64 0]) (by rfl) (fun W => ?_) (fun g8 w9 Sw9 Hg8 Bg8 => ?_)
 ·
  go_simp
 replace M := ((M.sees Sw9).addS (N := 16) (cs := [.int .u64 0, .int .u64 0, .int .u64 0, .int .u64 0, .int .u64 0, .int .u64 0, .int .u64 0, .int .u64 0, .int .u64 0, .int .u64 0, .int .u64 0, .int .u64 0, .int .u64 0, .int .u64 0, .int .u64 0, .int .u64 0]) (segs := [(0, [.int .u64 0, .int .u64 0, .int .u64 0, .int .u64 0]), (4, [.int .u64 0, .int .u64 0, .int .u64 0, .int .u64 0]), (8, [.int .u64 0, .int .u64 0, .int .u64 0, .int .u64 0]), (12, [.int .u64 0, .int .u64 0, .int .u64 0, .int .u64 0])]) (M.ge Hg8) (M.fresh Hg8) Bg8 rfl ⟨rfl, rfl, rfl, rfl, trivial⟩)
 clear Bg8
 simp only [putT, List.set]
 refine wpL_store (g := g8) (off := 0) (n := 16) (cs := fel baseP.x ++ fel baseP.y ++ fel baseP.z ++ fel baseP.t) (by rfl) (by rfl) (by rfl) (by rfl) (by rfl) (M.t 0 rfl) (by simp [flen]) info26 (one4 _ _ _ _) (fun w10 P R T => ?_)
 replace M := M.put (segs' := [(0, fel baseP.x), (4, fel baseP.y), (8, fel baseP.z), (12, fel baseP.t)]) 0 rfl P T (SegsOf.at R ⟨rfl, rfl, rfl, rfl, trivial⟩)
 simp only [List.set] at M
 refine wpL_nil (no_panic ?_)
 refine hK5 _ _ ?_
 refine wp_seq_k (fun K11 hK11 => ?_)
 refine wp_region_seq ?_
 refine wpL_move (v := .int .i64 x) (by rfl) (by rfl) (by rfl) ?_
 simp only [putT, List.set]
 refine wpL_chunk 3 (by rfl) (fun Lk hLk => ?_)
 simp only [List.take, List.drop]
 refine wpV_bin (v := .int .i64 (x.tmod 20)) (by rfl) rfl rfl rfl (fun W => run_rem (by decide) rfl W) ?_
 simp only [putT, List.set]
 refine wpV_bin (v := .int .i64 (x.tmod 20 + 20)) (by rfl) rfl rfl rfl (fun W => run_add (by simp only [IntKind.wrap_i64]; omega) W) ?_
 simp only [putT, List.set]
 refine wpV_bin (v := .int .i64 ((f : Nat) : Int)) (by rfl) rfl rfl rfl (fun W => run_rem (by decide) hfe W) ?_
 simp only [putT, List.set]
 refine wpV_nil (hLk _ (fun w13 Sw13 => ?_))
 clear hLk Lk
 simp only [List.take, List.drop]
 replace M := M.sees Sw13
 refine wpL_assign (v := .int .i64 ((f : Nat) : Int)) (by rfl) (by rfl) (by rfl) ?_
 simp only [putT, List.set]
 refine wpL_nil (no_panic ?_)
 refine hK11 _ _ ?_
 refine wp_seq_k (fun K14 hK14 => ?_)
 refine wp_region_seq ?_
 refine wpL_chunk 1 (by rfl) (fun Lk hLk => ?_)
 simp only [List.take, List.drop]
 refine wpV_callf (v := .agg (fel zeroP.x ++ fel zeroP.y ++ fel zeroP.z ++ fel zeroP.t : List Value).toArray) (args := #[]) (by rfl) rfl Try.func15 (by kernel_rfl) (by kernel_rfl) rfl (fun W hW => zero_c) ?_
 simp only [putT, List.set]
 refine wpV_nil (hLk _ (fun w16 Sw16 => ?_))
 clear hLk Lk
 simp only [List.take, List.drop]
 replace M := M.sees Sw16
 refine wpL_var (t := 26) (cs := [.int .u64 0, .int .u64 0, .int .u64 0, .int .u64 0, .int .u64 0, .int .u64 0, .int .u64 0, .int .u64 0, .int .u64 0, .int .u64 0, .int .u64 0, .int .u64 0, .int .u64 0, .int .u64 0, .int .u64 0, .int .u64 0]) (by rfl) (fun W => ?_) (fun g17 w18 Sw18 Hg17 Bg17 => ?_)
 ·
  go_simp
 replace M := ((M.sees Sw18).addS (N := 16) (cs := [.int .u64 0, .int .u64 0, .int .u64 0, .int .u64 0, .int .u64 0, .int .u64 0, .int .u64 0, .int .u64 0, .int .u64 0, .int .u64 0, .int .u64 0, .int .u64 0, .int .u64 0, .int .u64 0, .int .u64 0, .int .u64 0]) (segs := [(0, [.int .u64 0, .int .u64 0, .int .u64 0, .int .u64 0]), (4, [.int .u64 0, .int .u64 0, .int .u64 0, .int .u64 0]), (8, [.int .u64 0, .int .u64 0, .int .u64 0, .int .u64 0]), (12, [.int .u64 0, .int .u64 0, .int .u64 0, .int .u64 0])]) (M.ge Hg17) (M.fresh Hg17) Bg17 rfl ⟨rfl, rfl, rfl, rfl, trivial⟩)
 clear Bg17
 simp only [putT, List.set]
 refine wpL_store (g := g17) (off := 0) (n := 16) (cs := fel zeroP.x ++ fel zeroP.y ++ fel zeroP.z ++ fel zeroP.t) (by rfl) (by rfl) (by rfl) (by rfl) (by rfl) (M.t 0 rfl) (by simp [flen]) info26 (one4 _ _ _ _) (fun w19 P R T => ?_)
 replace M := M.put (segs' := [(0, fel zeroP.x), (4, fel zeroP.y), (8, fel zeroP.z), (12, fel zeroP.t)]) 0 rfl P T (SegsOf.at R ⟨rfl, rfl, rfl, rfl, trivial⟩)
 simp only [List.set] at M
 refine wpL_nil (no_panic ?_)
 refine hK14 _ _ ?_
 refine wp_seq_k (fun K20 hK20 => ?_)
 refine wp_seq_k (fun K21 hK21 => ?_)
 refine wp_region_seq ?_
 refine wpL_move (v := .int .i64 ((f : Nat) : Int)) (by rfl) (by rfl) (by rfl) ?_
 simp only [putT, List.set]
 refine wpL_move (v := .int .i64 0) (by rfl) (by rfl) (by rfl) ?_
 simp only [putT, List.set]
 refine wpL_nil (no_panic ?_)
 refine hK21 _ _ ?_
 refine wp_block ?_
 refine wp_loop_ghost (fun n9 a9 W9 => ∃ (k : Nat) (u23 : Nat → Value), n9 = f - k ∧ a9 = { tmps := #[fe 115792089237316195423570985008687907853269984665640564039457584007913129639935, .int .i64 ((f : Nat) : Int), .pointer (some ⟨g3, 0, none⟩), undef, u23 4, .pointer (some ⟨g8, 0, none⟩), .pointer (some ⟨g17, 0, none⟩), u23 7, u23 8, undef, undef, undef, undef, undef, undef, undef, undef, undef, undef, undef, undef, undef, undef, undef, undef, .agg (fel baseP.x ++ fel baseP.y ++ fel baseP.z ++ fel baseP.t : List Value).toArray, .int .i64 x, .int .i64 (x.tmod 20), .int .i64 (x.tmod 20 + 20), .int .i64 ((f : Nat) : Int), .agg (fel zeroP.x ++ fel zeroP.y ++ fel zeroP.z ++ fel zeroP.t : List Value).toArray, .int .i64 ((f : Nat) : Int), .int .i64 ((k : Nat) : Int), u23 33, u23 34, u23 35, u23 36, u23 37, u23 38, u23 39, u23 40, u23 41, u23 42, u23 43, undef, undef, undef, undef, undef, undef, undef, undef, undef, undef, undef, undef, undef, undef, undef, undef, undef, undef, undef, undef, undef, undef, undef, undef, undef, undef, undef, undef, undef, undef, undef, undef, undef, undef, undef, undef, undef, undef, undef, undef, undef, undef, undef, undef, undef, undef, undef, undef, undef, undef, undef, undef, undef, undef, undef, undef, undef, undef, undef, undef, undef, undef, undef, undef, undef, undef, undef, undef, undef, undef, undef, undef, undef, undef, undef, undef, undef, undef, undef, undef, undef, undef, undef, undef, undef, undef, undef, undef, undef, undef, undef, undef, undef, undef, undef, undef, undef, undef, undef, undef, undef, undef, undef, undef, undef, undef, undef, undef], defers := [] } ∧ Mem [] w W9 [⟨g17, 16, [(0, fel (timesP baseP k).x), (4, fel (timesP baseP k).y), (8, fel (timesP baseP k).z), (12, fel (timesP baseP k).t)]⟩, ⟨g8, 16, [(0, fel baseP.x), (4, fel baseP.y), (8, fel baseP.z), (12, fel baseP.t)]⟩, ⟨g3, 4, [(0, fel 115792089237316195423570985008687907853269984665640564039457584007913129639935)]⟩] ∧ (k ≤ f)) (f - (0)) ?_ (fun n9 a9 W9 hI => ?_)
 ·
  exact ⟨0, (fun q9 => (#[undef, undef, undef, undef, .bool false, undef, undef, undef, undef, undef, undef, undef, undef, undef, undef, undef, undef, undef, undef, undef, undef, undef, undef, undef, undef, undef, undef, undef, undef, undef, undef, undef, undef, undef, undef, undef, undef, undef, undef, undef, undef, undef, undef, undef] : Array Value).getD q9 undef), rfl, rfl, M, (Nat.zero_le _)⟩
 clear M
 obtain ⟨k, u23, rfl, rfl, M, hk4⟩ := hI
 obtain ⟨w24, rfl⟩ : ∃ W8, W8 = W9 := ⟨_, rfl⟩
 refine wp_seq_k (fun K25 hK25 => ?_)
 refine wp_region_seq ?_
 refine wpL_chunk 1 (by rfl) (fun Lk hLk => ?_)
 simp only [List.take, List.drop]
 refine wpV_bin (v := .bool (decide (k < f))) (by rfl) rfl rfl rfl (fun W => run_lssN k f _ _ W) ?_
 simp only [putT, List.set]
 refine wpV_nil (hLk _ (fun w27 Sw27 => ?_))
 clear hLk Lk
 simp only [List.take, List.drop]
 replace M := M.sees Sw27
 refine wpL_nil (no_panic ?_)
 refine hK25 _ _ ?_
 refine wp_seq_k (fun K28 hK28 => ?_)
 cases hc29 : (decide (k < f))
 ·
  have ek : f = k := by have := of_decide_eq_false hc29; omega
  subst ek
  refine wp_cond_false rfl ?_
  refine wp_exit ?_
  refine hK20 _ _ ?_
  refine wp_seq_k (fun K30 hK30 => ?_)
  refine wp_region_seq ?_
  refine wpL_move (v := .int .i64 ((f : Nat) : Int)) (by rfl) (by rfl) (by rfl) ?_
  simp only [putT, List.set]
  refine wpL_chunk 7 (by rfl) (fun Lk hLk => ?_)
  simp only [List.take, List.drop]
  refine wpV_conv (d := .bool) (e := ((f : Nat) : Int)) (by rfl) rfl rfl (run_conv_int Try.underlying3 Try.underlying22 (by rw [wrap_u64]; omega)) ?_
  simp only [putT, List.set]
  refine wpV_val (v := fe f) (by rfl) (by rfl) (fun W hW => ?_) ?_
  ·
   rw [show fe f = .agg ([.int .u64 ((f : Nat) : Int), .int .u64 0, .int .u64 0, .int .u64 0] : List Value).toArray from congrArg (fun l => Value.agg (List.toArray l)) (fel_of (Nat.lt_trans hf (by decide)))]; unfold RunsVal; kernel_rfl
  simp only [putT, List.set]
  refine wpV_load (cs := fel baseP.x ++ (fel baseP.y) ++ (fel baseP.z) ++ (fel baseP.t)) (by rfl) rfl rfl (range_join (range_join (range_join (M.r 1 0 rfl rfl) (M.r 1 1 rfl rfl) (by simp [flen])) (M.r 1 2 rfl rfl) (by simp [flen])) (M.r 1 3 rfl rfl) (by simp [flen])) (M.lt 1 rfl) Try.underlying26 rfl info26 ?_
  simp only [putT, List.set]
  refine wpV_callf (v := .tuple #[.agg (fel pa.x ++ fel pa.y ++ fel pa.z ++ fel pa.t : List Value).toArray, .int .i64 0]) (args := #[fe f, .agg (fel baseP.x ++ (fel baseP.y) ++ (fel baseP.z) ++ (fel baseP.t) : List Value).toArray]) (by rfl) rfl Try.func23 (by kernel_rfl) (by kernel_rfl) rfl (fun W hW => (by have h9 := Mul_ok (n := f) (p := baseP) (w := W) (Nat.lt_trans hf (by decide)) baseP_ok rightP_base; rw [epa] at h9; exact h9)) ?_
  simp only [putT, List.set]
  refine wpV_move (v := .tuple #[.agg (fel pa.x ++ fel pa.y ++ fel pa.z ++ fel pa.t : List Value).toArray, .int .i64 0]) (by rfl) rfl rfl ?_
  simp only [putT, List.set]
  refine wpV_extract (v := .agg (fel pa.x ++ fel pa.y ++ fel pa.z ++ fel pa.t : List Value).toArray) (by rfl) rfl rfl rfl ?_
  simp only [putT, List.set]
  refine wpV_extract (v := .int .i64 0) (by rfl) rfl rfl rfl ?_
  simp only [putT, List.set]
  refine wpV_nil (hLk _ (fun w32 Sw32 => ?_))
  clear hLk Lk
  simp only [List.take, List.drop]
  replace M := M.sees Sw32
  refine wpL_var (t := 26) (cs := [.int .u64 0, .int .u64 0, .int .u64 0, .int .u64 0, .int .u64 0, .int .u64 0, .int .u64 0, .int .u64 0, .int .u64 0, .int .u64 0, .int .u64 0, .int .u64 0, .int .u64 0, .int .u64 0, .int .u64 0, .int .u64 0]) (by rfl) (fun W => ?_) (fun g33 w34 Sw34 Hg33 Bg33 => ?_)
  ·
   go_simp
  replace M := ((M.sees Sw34).addS (N := 16) (cs := [.int .u64 0, .int .u64 0, .int .u64 0, .int .u64 0, .int .u64 0, .int .u64 0, .int .u64 0, .int .u64 0, .int .u64 0, .int .u64 0, .int .u64 0, .int .u64 0, .int .u64 0, .int .u64 0, .int .u64 0, .int .u64 0]) (segs := [(0, [.int .u64 0, .int .u64 0, .int .u64 0, .int .u64 0]), (4, [.int .u64 0, .int .u64 0, .int .u64 0, .int .u64 0]), (8, [.int .u64 0, .int .u64 0, .int .u64 0, .int .u64 0]), (12, [.int .u64 0, .int .u64 0, .int .u64 0, .int .u64 0])]) (M.ge Hg33) (M.fresh Hg33) Bg33 rfl ⟨rfl, rfl, rfl, rfl, trivial⟩)
  clear Bg33
  simp only [putT, List.set]
  refine wpL_store (g := g33) (off := 0) (n := 16) (cs := fel pa.x ++ fel pa.y ++ fel pa.z ++ fel pa.t) (by rfl) (by rfl) (by rfl) (by rfl) (by rfl) (M.t 0 rfl) (by simp [flen]) info26 (one4 _ _ _ _) (fun w35 P R T => ?_)
  replace M := M.put (segs' := [(0, fel pa.x), (4, fel pa.y), (8, fel pa.z), (12, fel pa.t)]) 0 rfl P T (SegsOf.at R ⟨rfl, rfl, rfl, rfl, trivial⟩)
  simp only [List.set] at M
  refine wpL_assign (v := .int .i64 0) (by rfl) (by rfl) (by rfl) ?_
  simp only [putT, List.set]
  refine wpL_nil (no_panic ?_)
  refine hK30 _ _ ?_
  refine wp_seq_k (fun K36 hK36 => ?_)
  refine wp_seq_k (fun K37 hK37 => ?_)
  refine wp_region_seq ?_
  refine wpL_chunk 3 (by rfl) (fun Lk hLk => ?_)
  simp only [List.take, List.drop]
  refine wpV_load (cs := fel 115792089237316195423570985008687907853269984665640564039457584007913129639935) (by rfl) rfl rfl (M.r 3 0 rfl rfl) (M.lt 3 rfl) Try.underlying39 rfl info39 ?_
  simp only [putT, List.set]
  refine wpV_val (v := fe 115792089237316195423570985008687907853269984665640564039457584007913129639935) (by rfl) (by rfl) (fun W hW => ?_) ?_
  ·
   rw [show fe 115792089237316195423570985008687907853269984665640564039457584007913129639935 = .agg ([.int .u64 18446744073709551615, .int .u64 18446744073709551615, .int .u64 18446744073709551615, .int .u64 18446744073709551615]).toArray from (by kernel_rfl)]; unfold RunsVal; kernel_rfl
  simp only [putT, List.set]
  refine wpV_val (v := .bool true) (by rfl) (by rfl) (fun W hW => ?_) ?_
  ·
   exact run_eql_fe_same (by decide) Try.underlying39 Try.underlying22 info22 (by kernel_rfl) rfl rfl rfl W
  simp only [putT, List.set]
  refine wpV_nil (hLk _ (fun w39 Sw39 => ?_))
  clear hLk Lk
  simp only [List.take, List.drop]
  replace M := M.sees Sw39
  refine wpL_nil (no_panic ?_)
  refine hK37 _ _ ?_
  refine wp_cond_true rfl ?_
  refine wp_region_seq ?_
  refine wpL_chunk 1 (by rfl) (fun Lk hLk => ?_)
  simp only [List.take, List.drop]
  refine wpV_val (v := fe 0) (by rfl) (by rfl) (fun W hW => ?_) ?_
  ·
   rw [show fe 0 = .agg ([.int .u64 0, .int .u64 0, .int .u64 0, .int .u64 0]).toArray from (by kernel_rfl)]; unfold RunsVal; kernel_rfl
  simp only [putT, List.set]
  refine wpV_nil (hLk _ (fun w41 Sw41 => ?_))
  clear hLk Lk
  simp only [List.take, List.drop]
  replace M := M.sees Sw41
  refine wpL_store (g := g3) (off := 0) (n := 4) (cs := fel 0) (by rfl) (by rfl) (by rfl) (by rfl) (by rfl) (M.t 3 rfl) (by simp [flen]) info39 (fel_one _) (fun w42 P R T => ?_)
  replace M := M.putS 3 0 rfl P R T rfl ⟨.inl rfl, trivial⟩
  simp only [List.set] at M
  refine wpL_nil (no_panic ?_)
  refine hK36 _ _ ?_
  refine wp_seq_k (fun K43 hK43 => ?_)
  refine wp_region_seq ?_
  refine wpL_chunk 1 (by rfl) (fun Lk hLk => ?_)
  simp only [List.take, List.drop]
  refine wpV_load (cs := fel 0) (by rfl) rfl rfl (M.r 3 0 rfl rfl) (M.lt 3 rfl) Try.underlying39 rfl info39 ?_
  simp only [putT, List.set]
  refine wpV_nil (hLk _ (fun w45 Sw45 => ?_))
  clear hLk Lk
  simp only [List.take, List.drop]
  replace M := M.sees Sw45
  refine wpL_var (t := 39) (cs := [.int .u64 0, .int .u64 0, .int .u64 0, .int .u64 0]) (by rfl) (fun W => ?_) (fun g46 w47 Sw47 Hg46 Bg46 => ?_)
  ·
   go_simp
  replace M := ((M.sees Sw47).add (N := 4) (cs := [.int .u64 0, .int .u64 0, .int .u64 0, .int .u64 0]) (M.ge Hg46) (M.fresh Hg46) Bg46 rfl)
  clear Bg46
  simp only [putT, List.set]
  refine wpL_store (g := g46) (off := 0) (n := 4) (cs := fel 0) (by rfl) (by rfl) (by rfl) (by rfl) (by rfl) (M.t 0 rfl) (by simp [flen]) info39 (fel_one _) (fun w48 P R T => ?_)
  replace M := M.putS 0 0 rfl P R T rfl ⟨.inl rfl, trivial⟩
  simp only [List.set] at M
  refine wpL_nil (no_panic ?_)
  refine hK43 _ _ ?_
  refine wp_seq_k (fun K49 hK49 => ?_)
  refine wp_seq_k (fun K50 hK50 => ?_)
  refine wp_region_seq ?_
  refine wpL_move (v := .int .i64 0) (by rfl) (by rfl) (by rfl) ?_
  simp only [putT, List.set]
  refine wpL_nil (no_panic ?_)
  refine hK50 _ _ ?_
  refine wp_block ?_
  replace M := M.read1 (cs := fel (0 / 2 ^ (64 * 0) * 2 ^ (64 * 0))) (o := 0) 0 rfl (by rw [low_0 0]; exact (M.r 0 0 rfl rfl))
  simp only [List.set] at M
  refine wp_loop_ghost (fun n9 a9 W9 => ∃ (i : Nat) (u52 : Nat → Value), n9 = 4 - i ∧ a9 = { tmps := #[fe 115792089237316195423570985008687907853269984665640564039457584007913129639935, .int .i64 ((f : Nat) : Int), .pointer (some ⟨g3, 0, none⟩), undef, u23 4, .pointer (some ⟨g8, 0, none⟩), .pointer (some ⟨g17, 0, none⟩), u23 7, u23 8, .pointer (some ⟨g33, 0, none⟩), .int .i64 0, .pointer (some ⟨g46, 0, none⟩), u52 12, undef, undef, undef, undef, undef, undef, undef, undef, undef, undef, undef, undef, .agg (fel baseP.x ++ fel baseP.y ++ fel baseP.z ++ fel baseP.t : List Value).toArray, .int .i64 x, .int .i64 (x.tmod 20), .int .i64 (x.tmod 20 + 20), .int .i64 ((f : Nat) : Int), .agg (fel zeroP.x ++ fel zeroP.y ++ fel zeroP.z ++ fel zeroP.t : List Value).toArray, .int .i64 ((f : Nat) : Int), .int .i64 ((f : Nat) : Int), .bool false, u23 34, u23 35, u23 36, u23 37, u23 38, u23 39, u23 40, u23 41, u23 42, u23 43, .tuple #[.agg (fel pa.x ++ fel pa.y ++ fel pa.z ++ fel pa.t : List Value).toArray, .int .i64 0], .int .i64 ((f : Nat) : Int), .int .u64 ((f : Nat) : Int), fe f, .agg (fel baseP.x ++ (fel baseP.y) ++ (fel baseP.z) ++ (fel baseP.t) : List Value).toArray, .tuple #[.agg (fel pa.x ++ fel pa.y ++ fel pa.z ++ fel pa.t : List Value).toArray, .int .i64 0], .agg (fel pa.x ++ fel pa.y ++ fel pa.z ++ fel pa.t : List Value).toArray, .int .i64 0, fe 115792089237316195423570985008687907853269984665640564039457584007913129639935, fe 115792089237316195423570985008687907853269984665640564039457584007913129639935, .bool true, fe 0, fe 0, .int .i64 ((i : Nat) : Int), u52 58, u52 59, u52 60, u52 61, u52 62, u52 63, u52 64, u52 65, u52 66, u52 67, u52 68, u52 69, undef, undef, undef, undef, undef, undef, undef, undef, undef, undef, undef, undef, undef, undef, undef, undef, undef, undef, undef, undef, undef, undef, undef, undef, undef, undef, undef, undef, undef, undef, undef, undef, undef, undef, undef, undef, undef, undef, undef, undef, undef, undef, undef, undef, undef, undef, undef, undef, undef, undef, undef, undef, undef, undef, undef, undef, undef, undef, undef, undef, undef, undef, undef, undef, undef, undef, undef, undef, undef, undef, undef, undef, undef, undef, undef, undef, undef, undef, undef, undef, undef, undef], defers := [] } ∧ Mem [] w W9 [⟨g46, 4, [(0, fel (0 / 2 ^ (64 * i) * 2 ^ (64 * i)))]⟩, ⟨g33, 16, [(0, fel pa.x), (4, fel pa.y), (8, fel pa.z), (12, fel pa.t)]⟩, ⟨g17, 16, [(0, fel (timesP baseP f).x), (4, fel (timesP baseP f).y), (8, fel (timesP baseP f).z), (12, fel (timesP baseP f).t)]⟩, ⟨g8, 16, [(0, fel baseP.x), (4, fel baseP.y), (8, fel baseP.z), (12, fel baseP.t)]⟩, ⟨g3, 4, [(0, fel 0)]⟩] ∧ (i ≤ 4) ∧ (0 % 2 ^ (64 * i) + 1 = 2 ^ (64 * i))) (4 - (0)) ?_ (fun n9 a9 W9 hI => ?_)
  ·
   exact ⟨0, (fun q9 => (#[undef, undef, undef, undef, undef, undef, undef, undef, undef, undef, undef, undef, undef, undef, undef, undef, undef, undef, undef, undef, undef, undef, undef, undef, undef, undef, undef, undef, undef, undef, undef, undef, undef, undef, undef, undef, undef, undef, undef, undef, undef, undef, undef, undef, undef, undef, undef, undef, undef, undef, undef, undef, undef, undef, undef, undef, undef, undef, undef, undef, undef, undef, undef, undef, undef, undef, undef, undef, undef, undef] : Array Value).getD q9 undef), rfl, rfl, M, (by decide), (by rw [show (2 : Nat) ^ (64 * 0) = 1 by decide, Nat.mod_one])⟩
  clear M
  obtain ⟨i, u52, rfl, rfl, M, hi4, hc⟩ := hI
  obtain ⟨w53, rfl⟩ : ∃ W8, W8 = W9 := ⟨_, rfl⟩
  refine wp_seq_k (fun K54 hK54 => ?_)
  refine wp_region_seq ?_
  refine wpL_chunk 1 (by rfl) (fun Lk hLk => ?_)
  simp only [List.take, List.drop]
  refine wpV_bin (v := .bool (decide (i < 4))) (by rfl) rfl rfl rfl (fun W => run_lssN i 4 _ _ W) ?_
  simp only [putT, List.set]
  refine wpV_nil (hLk _ (fun w56 Sw56 => ?_))
  clear hLk Lk
  simp only [List.take, List.drop]
  replace M := M.sees Sw56
  refine wpL_nil (no_panic ?_)
  refine hK54 _ _ ?_
  refine wp_seq_k (fun K57 hK57 => ?_)
  cases hc58 : (decide (i < 4))
  ·
   obtain rfl : i = 4 := by have := of_decide_eq_false hc58; omega
   exact (no_carry hn1 hc).elim
  ·
   have hi : i < 4 := of_decide_eq_true hc58
   refine wp_cond_true rfl ?_
   refine wp_skip ?_
   refine hK57 _ _ ?_
   refine wp_seq_k (fun K59 hK59 => ?_)
   refine wp_block ?_
   refine wp_seq_k (fun K60 hK60 => ?_)
   refine wp_region_seq ?_
   refine wpL_move (v := .int .i64 ((i : Nat) : Int)) (by rfl) (by rfl) (by rfl) ?_
   simp only [putT, List.set]
   refine wpL_assign (v := .int .i64 ((i : Nat) : Int)) (by rfl) (by rfl) (by rfl) ?_
   simp only [putT, List.set]
   refine wpL_nil (no_panic ?_)
   refine hK60 _ _ ?_
   refine wp_seq_k (fun K62 hK62 => ?_)
   refine wp_region_seq ?_
   refine wpL_move (v := .int .i64 ((i : Nat) : Int)) (by rfl) (by rfl) (by rfl) ?_
   simp only [putT, List.set]
   refine wpL_chunk 4 (by rfl) (fun Lk hLk => ?_)
   simp only [List.take, List.drop]
   refine wpV_idx (n := i) (by rfl) rfl rfl rfl Try.underlying39 info22 (by omega) ?_
   simp only [Nat.zero_add]
   simp only [putT, List.set]
   refine wpV_load1 (v := .int .u64 ((limbN 0 i : Nat) : Int)) (by rfl) rfl rfl (zadd ((M.r 0 0 rfl rfl) _ _ (low_get hi))) (M.lt 0 rfl) Try.underlying22 rfl ?_
   simp only [putT, List.set]
   refine wpV_bin (v := .int .u64 ((((limbN 0 i) + 1) % 18446744073709551616 : Nat) : Int)) (by rfl) rfl rfl rfl (fun W => nr_add64 _ (limbN 0 i) 1 W) ?_
   simp only [putT, List.set]
   refine wpV_idx (n := i) (by rfl) rfl rfl rfl Try.underlying39 info22 (by omega) ?_
   simp only [Nat.zero_add]
   simp only [putT, List.set]
   refine wpV_nil (hLk _ (fun w64 Sw64 => ?_))
   clear hLk Lk
   simp only [List.take, List.drop]
   replace M := M.sees Sw64
   refine wpL_store1 (g := g46) (off := i) (n := 4) (v := .int .u64 ((((limbN 0 i) + 1) % 18446744073709551616 : Nat) : Int)) (by rfl) (by rfl) (by rfl) (by rfl) (by rfl) (M.t 0 rfl) (by omega) info22 rfl (fun w65 P R T => ?_)
   replace M := M.put1 (j := i) 0 rfl P R T (Nat.zero_add _).symm
   simp only [List.set] at M
   rw [show (fel (0 / 2 ^ (64 * i) * 2 ^ (64 * i))).set i (.int .u64 (((limbN 0 i + 1) % 18446744073709551616 : Nat) : Int)) = incC 0 i from rfl] at M
   refine wpL_nil (no_panic ?_)
   refine hK62 _ _ ?_
   refine wp_seq_k (fun K66 hK66 => ?_)
   refine wp_region_seq ?_
   refine wpL_move (v := .int .i64 ((i : Nat) : Int)) (by rfl) (by rfl) (by rfl) ?_
   simp only [putT, List.set]
   refine wpL_chunk 3 (by rfl) (fun Lk hLk => ?_)
   simp only [List.take, List.drop]
   refine wpV_idx (n := i) (by rfl) rfl rfl rfl Try.underlying39 info22 (by omega) ?_
   simp only [Nat.zero_add]
   simp only [putT, List.set]
   refine wpV_load1 (v := .int .u64 (((limbN 0 i + 1) % 18446744073709551616 : Nat) : Int)) (by rfl) rfl rfl (zadd ((M.r 0 0 rfl rfl) _ _ (incC_get hi))) (M.lt 0 rfl) Try.underlying22 rfl ?_
   simp only [putT, List.set]
   refine wpV_bin (v := .bool (decide ((limbN 0 i + 1) % 18446744073709551616 ≠ 0))) (by rfl) rfl rfl rfl (fun W => run_neqN ((limbN 0 i + 1) % 18446744073709551616) 0 _ _ W) ?_
   simp only [putT, List.set]
   refine wpV_nil (hLk _ (fun w68 Sw68 => ?_))
   clear hLk Lk
   simp only [List.take, List.drop]
   replace M := M.sees Sw68
   refine wpL_nil (no_panic ?_)
   refine hK66 _ _ ?_
   cases hc69 : (decide ((limbN 0 i + 1) % 18446744073709551616 ≠ 0))
   ·
    have hI9 := (inc_all hi hn0 hc).2 (Decidable.not_not.1 (of_decide_eq_false hc69))
    rw [hI9.1] at M
    refine wp_cond_false rfl ?_
    refine wp_skip ?_
    refine hK59 _ _ ?_
    refine wp_region_seq ?_
    refine wpL_chunk 1 (by rfl) (fun Lk hLk => ?_)
    simp only [List.take, List.drop]
    refine wpV_bin (v := .int .i64 ((i + 1 : Nat) : Int)) (by rfl) rfl rfl rfl (fun W => run_add (by simp only [IntKind.wrap_i64]; omega) W) ?_
    simp only [putT, List.set]
    refine wpV_nil (hLk _ (fun w71 Sw71 => ?_))
    clear hLk Lk
    simp only [List.take, List.drop]
    replace M := M.sees Sw71
    refine wpL_move (v := .int .i64 ((i + 1 : Nat) : Int)) (by rfl) (by rfl) (by rfl) ?_
    simp only [putT, List.set]
    refine wpL_nil (no_panic ?_)
    refine Exists.intro _ ⟨?_, (i + 1), (fun q9 => (#[undef, undef, undef, undef, undef, undef, undef, undef, undef, undef, undef, undef, .int .i64 ((i : Nat) : Int), undef, undef, undef, undef, undef, undef, undef, undef, undef, undef, undef, undef, undef, undef, undef, undef, undef, undef, undef, undef, undef, undef, undef, undef, undef, undef, undef, undef, undef, undef, undef, undef, undef, undef, undef, undef, undef, undef, undef, undef, undef, undef, undef, undef, undef, .bool true, .int .i64 ((i : Nat) : Int), .int .i64 ((i : Nat) : Int), .pointer (some ⟨g46, i, none⟩), .int .u64 ((limbN 0 i : Nat) : Int), .int .u64 ((((limbN 0 i) + 1) % 18446744073709551616 : Nat) : Int), .pointer (some ⟨g46, i, none⟩), .int .i64 ((i : Nat) : Int), .pointer (some ⟨g46, i, none⟩), .int .u64 (((limbN 0 i + 1) % 18446744073709551616 : Nat) : Int), .bool false, .int .i64 ((i + 1 : Nat) : Int)] : Array Value).getD q9 undef), rfl, rfl, M, (by omega), hI9.2⟩
    omega
   ·
    have hI9 := (inc_all hi hn0 hc).1 (of_decide_eq_true hc69)
    rw [hI9] at M
    refine wp_cond_true rfl ?_
    refine wp_exit ?_
    refine hK49 _ _ ?_
    refine wp_seq_k (fun K72 hK72 => ?_)
    refine wp_region_seq ?_
    refine wpL_chunk 6 (by rfl) (fun Lk hLk => ?_)
    simp only [List.take, List.drop]
    refine wpV_load (cs := fel 0) (by rfl) rfl rfl (M.r 4 0 rfl rfl) (M.lt 4 rfl) Try.underlying39 rfl info39 ?_
    simp only [putT, List.set]
    refine wpV_load (cs := fel baseP.x ++ (fel baseP.y) ++ (fel baseP.z) ++ (fel baseP.t)) (by rfl) rfl rfl (range_join (range_join (range_join (M.r 3 0 rfl rfl) (M.r 3 1 rfl rfl) (by simp [flen])) (M.r 3 2 rfl rfl) (by simp [flen])) (M.r 3 3 rfl rfl) (by simp [flen])) (M.lt 3 rfl) Try.underlying26 rfl info26 ?_
    simp only [putT, List.set]
    refine wpV_callf (v := .tuple #[.agg (fel pq.x ++ fel pq.y ++ fel pq.z ++ fel pq.t : List Value).toArray, .int .i64 0]) (args := #[fe 0, .agg (fel baseP.x ++ (fel baseP.y) ++ (fel baseP.z) ++ (fel baseP.t) : List Value).toArray]) (by rfl) rfl Try.func23 (by kernel_rfl) (by kernel_rfl) rfl (fun W hW => (by have h9 := Mul_ok (n := 0) (p := baseP) (w := W) (by decide) baseP_ok rightP_base; rw [epq] at h9; exact h9)) ?_
    simp only [putT, List.set]
    refine wpV_move (v := .tuple #[.agg (fel pq.x ++ fel pq.y ++ fel pq.z ++ fel pq.t : List Value).toArray, .int .i64 0]) (by rfl) rfl rfl ?_
    simp only [putT, List.set]
    refine wpV_extract (v := .agg (fel pq.x ++ fel pq.y ++ fel pq.z ++ fel pq.t : List Value).toArray) (by rfl) rfl rfl rfl ?_
    simp only [putT, List.set]
    refine wpV_extract (v := .int .i64 0) (by rfl) rfl rfl rfl ?_
    simp only [putT, List.set]
    refine wpV_nil (hLk _ (fun w74 Sw74 => ?_))
    clear hLk Lk
    simp only [List.take, List.drop]
    replace M := M.sees Sw74
    refine wpL_var (t := 26) (cs := [.int .u64 0, .int .u64 0, .int .u64 0, .int .u64 0, .int .u64 0, .int .u64 0, .int .u64 0, .int .u64 0, .int .u64 0, .int .u64 0, .int .u64 0, .int .u64 0, .int .u64 0, .int .u64 0, .int .u64 0, .int .u64 0]) (by rfl) (fun W => ?_) (fun g75 w76 Sw76 Hg75 Bg75 => ?_)
    ·
     go_simp
    replace M := ((M.sees Sw76).addS (N := 16) (cs := [.int .u64 0, .int .u64 0, .int .u64 0, .int .u64 0, .int .u64 0, .int .u64 0, .int .u64 0, .int .u64 0, .int .u64 0, .int .u64 0, .int .u64 0, .int .u64 0, .int .u64 0, .int .u64 0, .int .u64 0, .int .u64 0]) (segs := [(0, [.int .u64 0, .int .u64 0, .int .u64 0, .int .u64 0]), (4, [.int .u64 0, .int .u64 0, .int .u64 0, .int .u64 0]), (8, [.int .u64 0, .int .u64 0, .int .u64 0, .int .u64 0]), (12, [.int .u64 0, .int .u64 0, .int .u64 0, .int .u64 0])]) (M.ge Hg75) (M.fresh Hg75) Bg75 rfl ⟨rfl, rfl, rfl, rfl, trivial⟩)
    clear Bg75
    simp only [putT, List.set]
    refine wpL_store (g := g75) (off := 0) (n := 16) (cs := fel pq.x ++ fel pq.y ++ fel pq.z ++ fel pq.t) (by rfl) (by rfl) (by rfl) (by rfl) (by rfl) (M.t 0 rfl) (by simp [flen]) info26 (one4 _ _ _ _) (fun w77 P R T => ?_)
    replace M := M.put (segs' := [(0, fel pq.x), (4, fel pq.y), (8, fel pq.z), (12, fel pq.t)]) 0 rfl P T (SegsOf.at R ⟨rfl, rfl, rfl, rfl, trivial⟩)
    simp only [List.set] at M
    refine wpL_assign (v := .int .i64 0) (by rfl) (by rfl) (by rfl) ?_
    simp only [putT, List.set]
    refine wpL_nil (no_panic ?_)
    refine hK72 _ _ ?_
    refine wp_seq_k (fun K78 hK78 => ?_)
    refine wp_region_seq ?_
    refine wpL_chunk 6 (by rfl) (fun Lk hLk => ?_)
    simp only [List.take, List.drop]
    refine wpV_load (cs := fel (0 + 1)) (by rfl) rfl rfl (M.r 1 0 rfl rfl) (M.lt 1 rfl) Try.underlying39 rfl info39 ?_
    simp only [putT, List.set]
    refine wpV_load (cs := fel baseP.x ++ (fel baseP.y) ++ (fel baseP.z) ++ (fel baseP.t)) (by rfl) rfl rfl (range_join (range_join (range_join (M.r 4 0 rfl rfl) (M.r 4 1 rfl rfl) (by simp [flen])) (M.r 4 2 rfl rfl) (by simp [flen])) (M.r 4 3 rfl rfl) (by simp [flen])) (M.lt 4 rfl) Try.underlying26 rfl info26 ?_
    simp only [putT, List.set]
    refine wpV_callf (v := .tuple #[.agg (fel pr.x ++ fel pr.y ++ fel pr.z ++ fel pr.t : List Value).toArray, .int .i64 0]) (args := #[fe (0 + 1), .agg (fel baseP.x ++ (fel baseP.y) ++ (fel baseP.z) ++ (fel baseP.t) : List Value).toArray]) (by rfl) rfl Try.func23 (by kernel_rfl) (by kernel_rfl) rfl (fun W hW => (by have h9 := Mul_ok (n := 0 + 1) (p := baseP) (w := W) (by decide) baseP_ok rightP_base; rw [epr] at h9; exact h9)) ?_
    simp only [putT, List.set]
    refine wpV_move (v := .tuple #[.agg (fel pr.x ++ fel pr.y ++ fel pr.z ++ fel pr.t : List Value).toArray, .int .i64 0]) (by rfl) rfl rfl ?_
    simp only [putT, List.set]
    refine wpV_extract (v := .agg (fel pr.x ++ fel pr.y ++ fel pr.z ++ fel pr.t : List Value).toArray) (by rfl) rfl rfl rfl ?_
    simp only [putT, List.set]
    refine wpV_extract (v := .int .i64 0) (by rfl) rfl rfl rfl ?_
    simp only [putT, List.set]
    refine wpV_nil (hLk _ (fun w80 Sw80 => ?_))
    clear hLk Lk
    simp only [List.take, List.drop]
    replace M := M.sees Sw80
    refine wpL_var (t := 26) (cs := [.int .u64 0, .int .u64 0, .int .u64 0, .int .u64 0, .int .u64 0, .int .u64 0, .int .u64 0, .int .u64 0, .int .u64 0, .int .u64 0, .int .u64 0, .int .u64 0, .int .u64 0, .int .u64 0, .int .u64 0, .int .u64 0]) (by rfl) (fun W => ?_) (fun g81 w82 Sw82 Hg81 Bg81 => ?_)
    ·
     go_simp
    replace M := ((M.sees Sw82).addS (N := 16) (cs := [.int .u64 0, .int .u64 0, .int .u64 0, .int .u64 0, .int .u64 0, .int .u64 0, .int .u64 0, .int .u64 0, .int .u64 0, .int .u64 0, .int .u64 0, .int .u64 0, .int .u64 0, .int .u64 0, .int .u64 0, .int .u64 0]) (segs := [(0, [.int .u64 0, .int .u64 0, .int .u64 0, .int .u64 0]), (4, [.int .u64 0, .int .u64 0, .int .u64 0, .int .u64 0]), (8, [.int .u64 0, .int .u64 0, .int .u64 0, .int .u64 0]), (12, [.int .u64 0, .int .u64 0, .int .u64 0, .int .u64 0])]) (M.ge Hg81) (M.fresh Hg81) Bg81 rfl ⟨rfl, rfl, rfl, rfl, trivial⟩)
    clear Bg81
    simp only [putT, List.set]
    refine wpL_store (g := g81) (off := 0) (n := 16) (cs := fel pr.x ++ fel pr.y ++ fel pr.z ++ fel pr.t) (by rfl) (by rfl) (by rfl) (by rfl) (by rfl) (M.t 0 rfl) (by simp [flen]) info26 (one4 _ _ _ _) (fun w83 P R T => ?_)
    replace M := M.put (segs' := [(0, fel pr.x), (4, fel pr.y), (8, fel pr.z), (12, fel pr.t)]) 0 rfl P T (SegsOf.at R ⟨rfl, rfl, rfl, rfl, trivial⟩)
    simp only [List.set] at M
    refine wpL_assign (v := .int .i64 0) (by rfl) (by rfl) (by rfl) ?_
    simp only [putT, List.set]
    refine wpL_nil (no_panic ?_)
    refine hK78 _ _ ?_
    refine wp_seq_k (fun K84 hK84 => ?_)
    refine wp_region_seq ?_
    refine wpL_chunk 6 (by rfl) (fun Lk hLk => ?_)
    simp only [List.take, List.drop]
    refine wpV_load (cs := fel pq.x ++ (fel pq.y) ++ (fel pq.z) ++ (fel pq.t)) (by rfl) rfl rfl (range_join (range_join (range_join (M.r 1 0 rfl rfl) (M.r 1 1 rfl rfl) (by simp [flen])) (M.r 1 2 rfl rfl) (by simp [flen])) (M.r 1 3 rfl rfl) (by simp [flen])) (M.lt 1 rfl) Try.underlying26 rfl info26 ?_
    simp only [putT, List.set]
    refine wpV_load (cs := fel baseP.x ++ (fel baseP.y) ++ (fel baseP.z) ++ (fel baseP.t)) (by rfl) rfl rfl (range_join (range_join (range_join (M.r 5 0 rfl rfl) (M.r 5 1 rfl rfl) (by simp [flen])) (M.r 5 2 rfl rfl) (by simp [flen])) (M.r 5 3 rfl rfl) (by simp [flen])) (M.lt 5 rfl) Try.underlying26 rfl info26 ?_
    simp only [putT, List.set]
    refine wpV_callf (v := .tuple #[.agg (fel (addP pq baseP).x ++ fel (addP pq baseP).y ++ fel (addP pq baseP).z ++ fel (addP pq baseP).t : List Value).toArray, .int .i64 0]) (args := #[.agg (fel pq.x ++ (fel pq.y) ++ (fel pq.z) ++ (fel pq.t) : List Value).toArray, .agg (fel baseP.x ++ (fel baseP.y) ++ (fel baseP.z) ++ (fel baseP.t) : List Value).toArray]) (by rfl) rfl Try.func21 (by kernel_rfl) (by kernel_rfl) rfl (fun W hW => Add_ok hpq baseP_ok rpq rightP_base) ?_
    simp only [putT, List.set]
    refine wpV_move (v := .tuple #[.agg (fel (addP pq baseP).x ++ fel (addP pq baseP).y ++ fel (addP pq baseP).z ++ fel (addP pq baseP).t : List Value).toArray, .int .i64 0]) (by rfl) rfl rfl ?_
    simp only [putT, List.set]
    refine wpV_extract (v := .agg (fel (addP pq baseP).x ++ fel (addP pq baseP).y ++ fel (addP pq baseP).z ++ fel (addP pq baseP).t : List Value).toArray) (by rfl) rfl rfl rfl ?_
    simp only [putT, List.set]
    refine wpV_extract (v := .int .i64 0) (by rfl) rfl rfl rfl ?_
    simp only [putT, List.set]
    refine wpV_nil (hLk _ (fun w86 Sw86 => ?_))
    clear hLk Lk
    simp only [List.take, List.drop]
    replace M := M.sees Sw86
    refine wpL_var (t := 26) (cs := [.int .u64 0, .int .u64 0, .int .u64 0, .int .u64 0, .int .u64 0, .int .u64 0, .int .u64 0, .int .u64 0, .int .u64 0, .int .u64 0, .int .u64 0, .int .u64 0, .int .u64 0, .int .u64 0, .int .u64 0, .int .u64 0]) (by rfl) (fun W => ?_) (fun g87 w88 Sw88 Hg87 Bg87 => ?_)
    ·
     go_simp
    replace M := ((M.sees Sw88).addS (N := 16) (cs := [.int .u64 0, .int .u64 0, .int .u64 0, .int .u64 0, .int .u64 0, .int .u64 0, .int .u64 0, .int .u64 0, .int .u64 0, .int .u64 0, .int .u64 0, .int .u64 0, .int .u64 0, .int .u64 0, .int .u64 0, .int .u64 0]) (segs := [(0, [.int .u64 0, .int .u64 0, .int .u64 0, .int .u64 0]), (4, [.int .u64 0, .int .u64 0, .int .u64 0, .int .u64 0]), (8, [.int .u64 0, .int .u64 0, .int .u64 0, .int .u64 0]), (12, [.int .u64 0, .int .u64 0, .int .u64 0, .int .u64 0])]) (M.ge Hg87) (M.fresh Hg87) Bg87 rfl ⟨rfl, rfl, rfl, rfl, trivial⟩)
    clear Bg87
    simp only [putT, List.set]
    refine wpL_store (g := g87) (off := 0) (n := 16) (cs := fel (addP pq baseP).x ++ fel (addP pq baseP).y ++ fel (addP pq baseP).z ++ fel (addP pq baseP).t) (by rfl) (by rfl) (by rfl) (by rfl) (by rfl) (M.t 0 rfl) (by simp [flen]) info26 (one4 _ _ _ _) (fun w89 P R T => ?_)
    replace M := M.put (segs' := [(0, fel (addP pq baseP).x), (4, fel (addP pq baseP).y), (8, fel (addP pq baseP).z), (12, fel (addP pq baseP).t)]) 0 rfl P T (SegsOf.at R ⟨rfl, rfl, rfl, rfl, trivial⟩)
    simp only [List.set] at M
    refine wpL_assign (v := .int .i64 0) (by rfl) (by rfl) (by rfl) ?_
    simp only [putT, List.set]
    refine wpL_nil (no_panic ?_)
    refine hK84 _ _ ?_
    refine wp_seq_k (fun K90 hK90 => ?_)
    refine wp_region_seq ?_
    refine wpL_chunk 6 (by rfl) (fun Lk hLk => ?_)
    simp only [List.take, List.drop]
    refine wpV_val (v := fe 7237005577332262213973186563042994240857116359379907606001950938285454250989) (by rfl) (by rfl) (fun W hW => ?_) ?_
    ·
     rw [show fe 7237005577332262213973186563042994240857116359379907606001950938285454250989 = .agg ([.int .u64 6346243789798364141, .int .u64 1503914060200516822, .int .u64 0, .int .u64 1152921504606846976]).toArray from (by kernel_rfl)]; unfold RunsVal; kernel_rfl
    simp only [putT, List.set]
    refine wpV_load (cs := fel baseP.x ++ (fel baseP.y) ++ (fel baseP.z) ++ (fel baseP.t)) (by rfl) rfl rfl (range_join (range_join (range_join (M.r 6 0 rfl rfl) (M.r 6 1 rfl rfl) (by simp [flen])) (M.r 6 2 rfl rfl) (by simp [flen])) (M.r 6 3 rfl rfl) (by simp [flen])) (M.lt 6 rfl) Try.underlying26 rfl info26 ?_
    simp only [putT, List.set]
    refine wpV_callf (v := .tuple #[.agg (fel pz.x ++ fel pz.y ++ fel pz.z ++ fel pz.t : List Value).toArray, .int .i64 0]) (args := #[fe 7237005577332262213973186563042994240857116359379907606001950938285454250989, .agg (fel baseP.x ++ (fel baseP.y) ++ (fel baseP.z) ++ (fel baseP.t) : List Value).toArray]) (by rfl) rfl Try.func23 (by kernel_rfl) (by kernel_rfl) rfl (fun W hW => (by have h9 := Mul_ok (n := 7237005577332262213973186563042994240857116359379907606001950938285454250989) (p := baseP) (w := W) (by decide) baseP_ok rightP_base; rw [epz] at h9; exact h9)) ?_
    simp only [putT, List.set]
    refine wpV_move (v := .tuple #[.agg (fel pz.x ++ fel pz.y ++ fel pz.z ++ fel pz.t : List Value).toArray, .int .i64 0]) (by rfl) rfl rfl ?_
    simp only [putT, List.set]
    refine wpV_extract (v := .agg (fel pz.x ++ fel pz.y ++ fel pz.z ++ fel pz.t : List Value).toArray) (by rfl) rfl rfl rfl ?_
    simp only [putT, List.set]
    refine wpV_extract (v := .int .i64 0) (by rfl) rfl rfl rfl ?_
    simp only [putT, List.set]
    refine wpV_nil (hLk _ (fun w92 Sw92 => ?_))
    clear hLk Lk
    simp only [List.take, List.drop]
    replace M := M.sees Sw92
    refine wpL_var (t := 26) (cs := [.int .u64 0, .int .u64 0, .int .u64 0, .int .u64 0, .int .u64 0, .int .u64 0, .int .u64 0, .int .u64 0, .int .u64 0, .int .u64 0, .int .u64 0, .int .u64 0, .int .u64 0, .int .u64 0, .int .u64 0, .int .u64 0]) (by rfl) (fun W => ?_) (fun g93 w94 Sw94 Hg93 Bg93 => ?_)
    ·
     go_simp
    replace M := ((M.sees Sw94).addS (N := 16) (cs := [.int .u64 0, .int .u64 0, .int .u64 0, .int .u64 0, .int .u64 0, .int .u64 0, .int .u64 0, .int .u64 0, .int .u64 0, .int .u64 0, .int .u64 0, .int .u64 0, .int .u64 0, .int .u64 0, .int .u64 0, .int .u64 0]) (segs := [(0, [.int .u64 0, .int .u64 0, .int .u64 0, .int .u64 0]), (4, [.int .u64 0, .int .u64 0, .int .u64 0, .int .u64 0]), (8, [.int .u64 0, .int .u64 0, .int .u64 0, .int .u64 0]), (12, [.int .u64 0, .int .u64 0, .int .u64 0, .int .u64 0])]) (M.ge Hg93) (M.fresh Hg93) Bg93 rfl ⟨rfl, rfl, rfl, rfl, trivial⟩)
    clear Bg93
    simp only [putT, List.set]
    refine wpL_store (g := g93) (off := 0) (n := 16) (cs := fel pz.x ++ fel pz.y ++ fel pz.z ++ fel pz.t) (by rfl) (by rfl) (by rfl) (by rfl) (by rfl) (M.t 0 rfl) (by simp [flen]) info26 (one4 _ _ _ _) (fun w95 P R T => ?_)
    replace M := M.put (segs' := [(0, fel pz.x), (4, fel pz.y), (8, fel pz.z), (12, fel pz.t)]) 0 rfl P T (SegsOf.at R ⟨rfl, rfl, rfl, rfl, trivial⟩)
    simp only [List.set] at M
    refine wpL_assign (v := .int .i64 0) (by rfl) (by rfl) (by rfl) ?_
    simp only [putT, List.set]
    refine wpL_nil (no_panic ?_)
    refine hK90 _ _ ?_
    refine wp_seq_k (fun K96 hK96 => ?_)
    refine wp_region_seq ?_
    refine wpL_chunk 5 (by rfl) (fun Lk hLk => ?_)
    simp only [List.take, List.drop]
    refine wpV_load (cs := fel pq.x ++ (fel pq.y) ++ (fel pq.z) ++ (fel pq.t)) (by rfl) rfl rfl (range_join (range_join (range_join (M.r 3 0 rfl rfl) (M.r 3 1 rfl rfl) (by simp [flen])) (M.r 3 2 rfl rfl) (by simp [flen])) (M.r 3 3 rfl rfl) (by simp [flen])) (M.lt 3 rfl) Try.underlying26 rfl info26 ?_
    simp only [putT, List.set]
    refine wpV_callf (v := .tuple #[.string (bs ls), .int .i64 0]) (args := #[.agg (fel pq.x ++ (fel pq.y) ++ (fel pq.z) ++ (fel pq.t) : List Value).toArray]) (by rfl) rfl Try.func13 (by kernel_rfl) (by kernel_rfl) rfl (fun W hW => (by have h9 := Bytes_ok (p := pq) (w := W) hpq rpq; rw [els] at h9; exact h9)) ?_
    simp only [putT, List.set]
    refine wpV_move (v := .tuple #[.string (bs ls), .int .i64 0]) (by rfl) rfl rfl ?_
    simp only [putT, List.set]
    refine wpV_extract (v := .string (bs ls)) (by rfl) rfl rfl rfl ?_
    simp only [putT, List.set]
    refine wpV_extract (v := .int .i64 0) (by rfl) rfl rfl rfl ?_
    simp only [putT, List.set]
    refine wpV_nil (hLk _ (fun w98 Sw98 => ?_))
    clear hLk Lk
    simp only [List.take, List.drop]
    replace M := M.sees Sw98
    refine wpL_assign (v := .string (bs ls)) (by rfl) (by rfl) (by rfl) ?_
    simp only [putT, List.set]
    refine wpL_assign (v := .int .i64 0) (by rfl) (by rfl) (by rfl) ?_
    simp only [putT, List.set]
    refine wpL_nil (no_panic ?_)
    refine hK96 _ _ ?_
    refine wp_seq_k (fun K99 hK99 => ?_)
    refine wp_region_seq ?_
    refine wpL_move (v := .string (bs ls)) (by rfl) (by rfl) (by rfl) ?_
    simp only [putT, List.set]
    refine wpL_chunk 4 (by rfl) (fun Lk hLk => ?_)
    simp only [List.take, List.drop]
    refine wpV_callf (v := .tuple #[.agg (fel pk.x ++ fel pk.y ++ fel pk.z ++ fel pk.t : List Value).toArray, .int .i64 0]) (args := #[.string (bs ls)]) (by rfl) rfl Try.func10 (by kernel_rfl) (by kernel_rfl) rfl (fun W hW => (by have h9 := Parse_text (p := pq) (w := W) rpq; rw [els, epk] at h9; exact h9)) ?_
    simp only [putT, List.set]
    refine wpV_move (v := .tuple #[.agg (fel pk.x ++ fel pk.y ++ fel pk.z ++ fel pk.t : List Value).toArray, .int .i64 0]) (by rfl) rfl rfl ?_
    simp only [putT, List.set]
    refine wpV_extract (v := .agg (fel pk.x ++ fel pk.y ++ fel pk.z ++ fel pk.t : List Value).toArray) (by rfl) rfl rfl rfl ?_
    simp only [putT, List.set]
    refine wpV_extract (v := .int .i64 0) (by rfl) rfl rfl rfl ?_
    simp only [putT, List.set]
    refine wpV_nil (hLk _ (fun w101 Sw101 => ?_))
    clear hLk Lk
    simp only [List.take, List.drop]
    replace M := M.sees Sw101
    refine wpL_var (t := 26) (cs := [.int .u64 0, .int .u64 0, .int .u64 0, .int .u64 0, .int .u64 0, .int .u64 0, .int .u64 0, .int .u64 0, .int .u64 0, .int .u64 0, .int .u64 0, .int .u64 0, .int .u64 0, .int .u64 0, .int .u64 0, .int .u64 0]) (by rfl) (fun W => ?_) (fun g102 w103 Sw103 Hg102 Bg102 => ?_)
    ·
     go_simp
    replace M := ((M.sees Sw103).addS (N := 16) (cs := [.int .u64 0, .int .u64 0, .int .u64 0, .int .u64 0, .int .u64 0, .int .u64 0, .int .u64 0, .int .u64 0, .int .u64 0, .int .u64 0, .int .u64 0, .int .u64 0, .int .u64 0, .int .u64 0, .int .u64 0, .int .u64 0]) (segs := [(0, [.int .u64 0, .int .u64 0, .int .u64 0, .int .u64 0]), (4, [.int .u64 0, .int .u64 0, .int .u64 0, .int .u64 0]), (8, [.int .u64 0, .int .u64 0, .int .u64 0, .int .u64 0]), (12, [.int .u64 0, .int .u64 0, .int .u64 0, .int .u64 0])]) (M.ge Hg102) (M.fresh Hg102) Bg102 rfl ⟨rfl, rfl, rfl, rfl, trivial⟩)
    clear Bg102
    simp only [putT, List.set]
    refine wpL_store (g := g102) (off := 0) (n := 16) (cs := fel pk.x ++ fel pk.y ++ fel pk.z ++ fel pk.t) (by rfl) (by rfl) (by rfl) (by rfl) (by rfl) (M.t 0 rfl) (by simp [flen]) info26 (one4 _ _ _ _) (fun w104 P R T => ?_)
    replace M := M.put (segs' := [(0, fel pk.x), (4, fel pk.y), (8, fel pk.z), (12, fel pk.t)]) 0 rfl P T (SegsOf.at R ⟨rfl, rfl, rfl, rfl, trivial⟩)
    simp only [List.set] at M
    refine wpL_assign (v := .int .i64 0) (by rfl) (by rfl) (by rfl) ?_
    simp only [putT, List.set]
    refine wpL_nil (no_panic ?_)
    refine hK99 _ _ ?_
    refine wp_seq_k (fun K105 hK105 => ?_)
    refine wp_seq_k (fun K106 hK106 => ?_)
    refine wp_region_seq ?_
    refine wpL_move (v := .int .i64 0) (by rfl) (by rfl) (by rfl) ?_
    simp only [putT, List.set]
    refine wpL_chunk 29 (by rfl) (fun Lk hLk => ?_)
    simp only [List.take, List.drop]
    refine wpV_bin (v := .bool false) (by rfl) rfl rfl rfl (fun W => run_neq _ _ _ _ W) ?_
    simp only [putT, List.set]
    refine wpV_move (v := .bool false) (by rfl) rfl rfl ?_
    simp only [putT, List.set]
    refine wpV_move (v := .int .i64 0) (by rfl) rfl rfl ?_
    simp only [putT, List.set]
    refine wpV_bin (v := .bool false) (by rfl) rfl rfl rfl (fun W => run_neq _ _ _ _ W) ?_
    simp only [putT, List.set]
    refine wpV_pick (v := .bool false) (by rfl) rfl rfl rfl ?_
    simp only [putT, List.set]
    refine wpV_move (v := .bool false) (by rfl) rfl rfl ?_
    simp only [putT, List.set]
    refine wpV_move (v := .int .i64 0) (by rfl) rfl rfl ?_
    simp only [putT, List.set]
    refine wpV_bin (v := .bool false) (by rfl) rfl rfl rfl (fun W => run_neq _ _ _ _ W) ?_
    simp only [putT, List.set]
    refine wpV_pick (v := .bool false) (by rfl) rfl rfl rfl ?_
    simp only [putT, List.set]
    refine wpV_move (v := .bool false) (by rfl) rfl rfl ?_
    simp only [putT, List.set]
    refine wpV_move (v := .int .i64 0) (by rfl) rfl rfl ?_
    simp only [putT, List.set]
    refine wpV_bin (v := .bool false) (by rfl) rfl rfl rfl (fun W => run_neq _ _ _ _ W) ?_
    simp only [putT, List.set]
    refine wpV_pick (v := .bool false) (by rfl) rfl rfl rfl ?_
    simp only [putT, List.set]
    refine wpV_move (v := .bool false) (by rfl) rfl rfl ?_
    simp only [putT, List.set]
    refine wpV_move (v := .int .i64 0) (by rfl) rfl rfl ?_
    simp only [putT, List.set]
    refine wpV_bin (v := .bool false) (by rfl) rfl rfl rfl (fun W => run_neq _ _ _ _ W) ?_
    simp only [putT, List.set]
    refine wpV_pick (v := .bool false) (by rfl) rfl rfl rfl ?_
    simp only [putT, List.set]
    refine wpV_move (v := .bool false) (by rfl) rfl rfl ?_
    simp only [putT, List.set]
    refine wpV_move (v := .int .i64 0) (by rfl) rfl rfl ?_
    simp only [putT, List.set]
    refine wpV_bin (v := .bool false) (by rfl) rfl rfl rfl (fun W => run_neq _ _ _ _ W) ?_
    simp only [putT, List.set]
    refine wpV_pick (v := .bool false) (by rfl) rfl rfl rfl ?_
    simp only [putT, List.set]
    refine wpV_move (v := .bool false) (by rfl) rfl rfl ?_
    simp only [putT, List.set]
    refine wpV_move (v := .int .i64 0) (by rfl) rfl rfl ?_
    simp only [putT, List.set]
    refine wpV_bin (v := .bool false) (by rfl) rfl rfl rfl (fun W => run_neq _ _ _ _ W) ?_
    simp only [putT, List.set]
    refine wpV_pick (v := .bool false) (by rfl) rfl rfl rfl ?_
    simp only [putT, List.set]
    refine wpV_move (v := .bool false) (by rfl) rfl rfl ?_
    simp only [putT, List.set]
    refine wpV_callf (v := .bool true) (args := #[]) (by rfl) rfl Try.func11 (by kernel_rfl) (by kernel_rfl) rfl (fun W hW => alive06_c) ?_
    simp only [putT, List.set]
    refine wpV_not (b := true) (by rfl) rfl rfl ?_
    simp only [Bool.not_true, Bool.not_false]
    simp only [putT, List.set]
    refine wpV_pick (v := .bool false) (by rfl) rfl rfl rfl ?_
    simp only [putT, List.set]
    refine wpV_nil (hLk _ (fun w108 Sw108 => ?_))
    clear hLk Lk
    simp only [List.take, List.drop]
    replace M := M.sees Sw108
    refine wpL_nil (no_panic ?_)
    refine hK106 _ _ ?_
    refine wp_cond_false rfl ?_
    refine wp_skip ?_
    refine hK105 _ _ ?_
    refine wp_seq_k (fun K109 hK109 => ?_)
    refine wp_region_grow 18 [] (by kernel_rfl) (by kernel_rfl) (by kernel_rfl) (fun Lk hLk => ?_)
    simp only [List.take, List.drop]
    refine wpV_load (cs := fel pa.x ++ (fel pa.y) ++ (fel pa.z) ++ (fel pa.t)) (by rfl) rfl rfl (range_join (range_join (range_join (M.r 6 0 rfl rfl) (M.r 6 1 rfl rfl) (by simp [flen])) (M.r 6 2 rfl rfl) (by simp [flen])) (M.r 6 3 rfl rfl) (by simp [flen])) (M.lt 6 rfl) Try.underlying26 rfl info26 ?_
    simp only [putT, List.set]
    refine wpV_load (cs := fel (timesP baseP f).x ++ (fel (timesP baseP f).y) ++ (fel (timesP baseP f).z) ++ (fel (timesP baseP f).t)) (by rfl) rfl rfl (range_join (range_join (range_join (M.r 7 0 rfl rfl) (M.r 7 1 rfl rfl) (by simp [flen])) (M.r 7 2 rfl rfl) (by simp [flen])) (M.r 7 3 rfl rfl) (by simp [flen])) (M.lt 7 rfl) Try.underlying26 rfl info26 ?_
    simp only [putT, List.set]
    refine wpV_callf (v := .bool true) (args := #[.agg (fel pa.x ++ (fel pa.y) ++ (fel pa.z) ++ (fel pa.t) : List Value).toArray, .agg (fel (timesP baseP f).x ++ (fel (timesP baseP f).y) ++ (fel (timesP baseP f).z) ++ (fel (timesP baseP f).t) : List Value).toArray]) (by rfl) rfl Try.func20 (by kernel_rfl) (by kernel_rfl) rfl (fun W hW => (by have h9 := same_c (p := pa) (q := timesP baseP f) (w := W) hpa (times_ok ..); rw [(same_eqv rpa (times_right rightP_base _)).2 eqF] at h9; exact h9)) ?_
    simp only [putT, List.set]
    refine wpV_move (v := .bool true) (by rfl) rfl rfl ?_
    simp only [putT, List.set]
    refine wpV_load (cs := fel pr.x ++ (fel pr.y) ++ (fel pr.z) ++ (fel pr.t)) (by rfl) rfl rfl (range_join (range_join (range_join (M.r 3 0 rfl rfl) (M.r 3 1 rfl rfl) (by simp [flen])) (M.r 3 2 rfl rfl) (by simp [flen])) (M.r 3 3 rfl rfl) (by simp [flen])) (M.lt 3 rfl) Try.underlying26 rfl info26 ?_
    simp only [putT, List.set]
    refine wpV_load (cs := fel (addP pq baseP).x ++ (fel (addP pq baseP).y) ++ (fel (addP pq baseP).z) ++ (fel (addP pq baseP).t)) (by rfl) rfl rfl (range_join (range_join (range_join (M.r 2 0 rfl rfl) (M.r 2 1 rfl rfl) (by simp [flen])) (M.r 2 2 rfl rfl) (by simp [flen])) (M.r 2 3 rfl rfl) (by simp [flen])) (M.lt 2 rfl) Try.underlying26 rfl info26 ?_
    simp only [putT, List.set]
    refine wpV_callf (v := .bool true) (args := #[.agg (fel pr.x ++ (fel pr.y) ++ (fel pr.z) ++ (fel pr.t) : List Value).toArray, .agg (fel (addP pq baseP).x ++ (fel (addP pq baseP).y) ++ (fel (addP pq baseP).z) ++ (fel (addP pq baseP).t) : List Value).toArray]) (by rfl) rfl Try.func20 (by kernel_rfl) (by kernel_rfl) rfl (fun W hW => (by have h9 := same_c (p := pr) (q := addP pq baseP) (w := W) hpr (addP_ok ..); rw [(same_eqv rpr (right_add rpq rightP_base)).2 eqM] at h9; exact h9)) ?_
    simp only [putT, List.set]
    refine wpV_pick (v := .bool true) (by rfl) rfl rfl rfl ?_
    simp only [putT, List.set]
    refine wpV_move (v := .bool true) (by rfl) rfl rfl ?_
    simp only [putT, List.set]
    refine wpV_load (cs := fel pz.x ++ (fel pz.y) ++ (fel pz.z) ++ (fel pz.t)) (by rfl) rfl rfl (range_join (range_join (range_join (M.r 1 0 rfl rfl) (M.r 1 1 rfl rfl) (by simp [flen])) (M.r 1 2 rfl rfl) (by simp [flen])) (M.r 1 3 rfl rfl) (by simp [flen])) (M.lt 1 rfl) Try.underlying26 rfl info26 ?_
    simp only [putT, List.set]
    refine wpV_callf (v := .agg (fel zeroP.x ++ fel zeroP.y ++ fel zeroP.z ++ fel zeroP.t : List Value).toArray) (args := #[]) (by rfl) rfl Try.func15 (by kernel_rfl) (by kernel_rfl) rfl (fun W hW => zero_c) ?_
    simp only [putT, List.set]
    refine wpV_callf (v := .bool true) (args := #[.agg (fel pz.x ++ (fel pz.y) ++ (fel pz.z) ++ (fel pz.t) : List Value).toArray, .agg (fel zeroP.x ++ fel zeroP.y ++ fel zeroP.z ++ fel zeroP.t : List Value).toArray]) (by rfl) rfl Try.func20 (by kernel_rfl) (by kernel_rfl) rfl (fun W hW => (by have h9 := same_c (p := pz) (q := zeroP) (w := W) hpz zeroP_ok; rw [(same_eqv rpz right_zero).2 eqZ] at h9; exact h9)) ?_
    simp only [putT, List.set]
    refine wpV_pick (v := .bool true) (by rfl) rfl rfl rfl ?_
    simp only [putT, List.set]
    refine wpV_move (v := .bool true) (by rfl) rfl rfl ?_
    simp only [putT, List.set]
    refine wpV_load (cs := fel pk.x ++ (fel pk.y) ++ (fel pk.z) ++ (fel pk.t)) (by rfl) rfl rfl (range_join (range_join (range_join (M.r 0 0 rfl rfl) (M.r 0 1 rfl rfl) (by simp [flen])) (M.r 0 2 rfl rfl) (by simp [flen])) (M.r 0 3 rfl rfl) (by simp [flen])) (M.lt 0 rfl) Try.underlying26 rfl info26 ?_
    simp only [putT, List.set]
    refine wpV_load (cs := fel pq.x ++ (fel pq.y) ++ (fel pq.z) ++ (fel pq.t)) (by rfl) rfl rfl (range_join (range_join (range_join (M.r 4 0 rfl rfl) (M.r 4 1 rfl rfl) (by simp [flen])) (M.r 4 2 rfl rfl) (by simp [flen])) (M.r 4 3 rfl rfl) (by simp [flen])) (M.lt 4 rfl) Try.underlying26 rfl info26 ?_
    simp only [putT, List.set]
    refine wpV_callf (v := .bool true) (args := #[.agg (fel pk.x ++ (fel pk.y) ++ (fel pk.z) ++ (fel pk.t) : List Value).toArray, .agg (fel pq.x ++ (fel pq.y) ++ (fel pq.z) ++ (fel pq.t) : List Value).toArray]) (by rfl) rfl Try.func20 (by kernel_rfl) (by kernel_rfl) rfl (fun W hW => (by have h9 := same_c (p := pk) (q := pq) (w := W) hpk hpq; rw [(same_eqv rpk rpq).2 eqK] at h9; exact h9)) ?_
    simp only [putT, List.set]
    refine wpV_pick (v := .bool true) (by rfl) rfl rfl rfl ?_
    simp only [putT, List.set]
    refine wpV_nil (hLk.out _ ?_)
    clear hLk Lk
    simp only [List.take, List.drop]
    iterate 18 refine wpN_skip (by rfl) ?_
    refine wpN_nil (fun w111 Sw111 hbs => ?_)
    clear hbs
    replace M := M.sees Sw111
    refine wpL_assign (v := .bool true) (by rfl) (by rfl) (by rfl) ?_
    simp only [putT, List.set]
    refine wpL_nil (no_panic ?_)
    refine hK109 _ _ ?_
    refine wp_ret ?_
    repeat (first | with_reducible refine then_ret ?_ | with_reducible refine inblock_ret ?_)
    refine bodyPost_ret (v := .bool true) (res1 rfl (.tmp (by rfl))) rfl ?_
    have BE := M.below
    exact ⟨rfl, BE⟩
 ·
  have hk : k < f := of_decide_eq_true hc29
  refine wp_cond_true rfl ?_
  refine wp_skip ?_
  refine hK28 _ _ ?_
  refine wp_seq_k (fun K112 hK112 => ?_)
  refine wp_block ?_
  refine wp_seq_k (fun K113 hK113 => ?_)
  refine wp_region_seq ?_
  refine wpL_chunk 6 (by rfl) (fun Lk hLk => ?_)
  simp only [List.take, List.drop]
  refine wpV_load (cs := fel (timesP baseP k).x ++ (fel (timesP baseP k).y) ++ (fel (timesP baseP k).z) ++ (fel (timesP baseP k).t)) (by rfl) rfl rfl (range_join (range_join (range_join (M.r 0 0 rfl rfl) (M.r 0 1 rfl rfl) (by simp [flen])) (M.r 0 2 rfl rfl) (by simp [flen])) (M.r 0 3 rfl rfl) (by simp [flen])) (M.lt 0 rfl) Try.underlying26 rfl info26 ?_
  simp only [putT, List.set]
  refine wpV_load (cs := fel baseP.x ++ (fel baseP.y) ++ (fel baseP.z) ++ (fel baseP.t)) (by rfl) rfl rfl (range_join (range_join (range_join (M.r 1 0 rfl rfl) (M.r 1 1 rfl rfl) (by simp [flen])) (M.r 1 2 rfl rfl) (by simp [flen])) (M.r 1 3 rfl rfl) (by simp [flen])) (M.lt 1 rfl) Try.underlying26 rfl info26 ?_
  simp only [putT, List.set]
  refine wpV_callf (v := .tuple #[.agg (fel (addP (timesP baseP k) baseP).x ++ fel (addP (timesP baseP k) baseP).y ++ fel (addP (timesP baseP k) baseP).z ++ fel (addP (timesP baseP k) baseP).t : List Value).toArray, .int .i64 0]) (args := #[.agg (fel (timesP baseP k).x ++ (fel (timesP baseP k).y) ++ (fel (timesP baseP k).z) ++ (fel (timesP baseP k).t) : List Value).toArray, .agg (fel baseP.x ++ (fel baseP.y) ++ (fel baseP.z) ++ (fel baseP.t) : List Value).toArray]) (by rfl) rfl Try.func21 (by kernel_rfl) (by kernel_rfl) rfl (fun W hW => Add_ok (times_ok ..) baseP_ok (times_right rightP_base _) rightP_base) ?_
  simp only [putT, List.set]
  refine wpV_move (v := .tuple #[.agg (fel (addP (timesP baseP k) baseP).x ++ fel (addP (timesP baseP k) baseP).y ++ fel (addP (timesP baseP k) baseP).z ++ fel (addP (timesP baseP k) baseP).t : List Value).toArray, .int .i64 0]) (by rfl) rfl rfl ?_
  simp only [putT, List.set]
  refine wpV_extract (v := .agg (fel (addP (timesP baseP k) baseP).x ++ fel (addP (timesP baseP k) baseP).y ++ fel (addP (timesP baseP k) baseP).z ++ fel (addP (timesP baseP k) baseP).t : List Value).toArray) (by rfl) rfl rfl rfl ?_
  simp only [putT, List.set]
  refine wpV_extract (v := .int .i64 0) (by rfl) rfl rfl rfl ?_
  simp only [putT, List.set]
  refine wpV_nil (hLk _ (fun w115 Sw115 => ?_))
  clear hLk Lk
  simp only [List.take, List.drop]
  replace M := M.sees Sw115
  refine wpL_var (t := 26) (cs := [.int .u64 0, .int .u64 0, .int .u64 0, .int .u64 0, .int .u64 0, .int .u64 0, .int .u64 0, .int .u64 0, .int .u64 0, .int .u64 0, .int .u64 0, .int .u64 0, .int .u64 0, .int .u64 0, .int .u64 0, .int .u64 0]) (by rfl) (fun W => ?_) (fun g116 w117 Sw117 Hg116 Bg116 => ?_)
  ·
   go_simp
  replace M := ((M.sees Sw117).addS (N := 16) (cs := [.int .u64 0, .int .u64 0, .int .u64 0, .int .u64 0, .int .u64 0, .int .u64 0, .int .u64 0, .int .u64 0, .int .u64 0, .int .u64 0, .int .u64 0, .int .u64 0, .int .u64 0, .int .u64 0, .int .u64 0, .int .u64 0]) (segs := [(0, [.int .u64 0, .int .u64 0, .int .u64 0, .int .u64 0]), (4, [.int .u64 0, .int .u64 0, .int .u64 0, .int .u64 0]), (8, [.int .u64 0, .int .u64 0, .int .u64 0, .int .u64 0]), (12, [.int .u64 0, .int .u64 0, .int .u64 0, .int .u64 0])]) (M.ge Hg116) (M.fresh Hg116) Bg116 rfl ⟨rfl, rfl, rfl, rfl, trivial⟩)
  clear Bg116
  simp only [putT, List.set]
  refine wpL_store (g := g116) (off := 0) (n := 16) (cs := fel (addP (timesP baseP k) baseP).x ++ fel (addP (timesP baseP k) baseP).y ++ fel (addP (timesP baseP k) baseP).z ++ fel (addP (timesP baseP k) baseP).t) (by rfl) (by rfl) (by rfl) (by rfl) (by rfl) (M.t 0 rfl) (by simp [flen]) info26 (one4 _ _ _ _) (fun w118 P R T => ?_)
  replace M := M.put (segs' := [(0, fel (addP (timesP baseP k) baseP).x), (4, fel (addP (timesP baseP k) baseP).y), (8, fel (addP (timesP baseP k) baseP).z), (12, fel (addP (timesP baseP k) baseP).t)]) 0 rfl P T (SegsOf.at R ⟨rfl, rfl, rfl, rfl, trivial⟩)
  simp only [List.set] at M
  refine wpL_assign (v := .int .i64 0) (by rfl) (by rfl) (by rfl) ?_
  simp only [putT, List.set]
  refine wpL_nil (no_panic ?_)
  refine hK113 _ _ ?_
  refine wp_seq_k (fun K119 hK119 => ?_)
  refine wp_seq_k (fun K120 hK120 => ?_)
  refine wp_region_seq ?_
  refine wpL_move (v := .int .i64 0) (by rfl) (by rfl) (by rfl) ?_
  simp only [putT, List.set]
  refine wpL_chunk 1 (by rfl) (fun Lk hLk => ?_)
  simp only [List.take, List.drop]
  refine wpV_bin (v := .bool false) (by rfl) rfl rfl rfl (fun W => run_neq _ _ _ _ W) ?_
  simp only [putT, List.set]
  refine wpV_nil (hLk _ (fun w122 Sw122 => ?_))
  clear hLk Lk
  simp only [List.take, List.drop]
  replace M := M.sees Sw122
  refine wpL_nil (no_panic ?_)
  refine hK120 _ _ ?_
  refine wp_cond_false rfl ?_
  refine wp_skip ?_
  refine hK119 _ _ ?_
  refine wp_region_seq ?_
  refine wpL_chunk 1 (by rfl) (fun Lk hLk => ?_)
  simp only [List.take, List.drop]
  refine wpV_load (cs := fel (addP (timesP baseP k) baseP).x ++ (fel (addP (timesP baseP k) baseP).y) ++ (fel (addP (timesP baseP k) baseP).z) ++ (fel (addP (timesP baseP k) baseP).t)) (by rfl) rfl rfl (range_join (range_join (range_join (M.r 0 0 rfl rfl) (M.r 0 1 rfl rfl) (by simp [flen])) (M.r 0 2 rfl rfl) (by simp [flen])) (M.r 0 3 rfl rfl) (by simp [flen])) (M.lt 0 rfl) Try.underlying26 rfl info26 ?_
  simp only [putT, List.set]
  refine wpV_nil (hLk _ (fun w124 Sw124 => ?_))
  clear hLk Lk
  simp only [List.take, List.drop]
  replace M := M.sees Sw124
  refine wpL_store (g := g17) (off := 0) (n := 16) (cs := fel (addP (timesP baseP k) baseP).x ++ (fel (addP (timesP baseP k) baseP).y) ++ (fel (addP (timesP baseP k) baseP).z) ++ (fel (addP (timesP baseP k) baseP).t)) (by rfl) (by rfl) (by rfl) (by rfl) (by rfl) (M.t 1 rfl) (by simp [flen]) info26 (one4 _ _ _ _) (fun w125 P R T => ?_)
  replace M := M.put (segs' := [(0, fel (addP (timesP baseP k) baseP).x), (4, fel (addP (timesP baseP k) baseP).y), (8, fel (addP (timesP baseP k) baseP).z), (12, fel (addP (timesP baseP k) baseP).t)]) 1 rfl P T (SegsOf.at R ⟨rfl, rfl, rfl, rfl, trivial⟩)
  simp only [List.set] at M
  refine wpL_nil (no_panic ?_)
  refine hK112 _ _ ?_
  refine wp_region_seq ?_
  refine wpL_chunk 1 (by rfl) (fun Lk hLk => ?_)
  simp only [List.take, List.drop]
  refine wpV_bin (v := .int .i64 ((k + 1 : Nat) : Int)) (by rfl) rfl rfl rfl (fun W => run_add (by simp only [IntKind.wrap_i64]; omega) W) ?_
  simp only [putT, List.set]
  refine wpV_nil (hLk _ (fun w127 Sw127 => ?_))
  clear hLk Lk
  simp only [List.take, List.drop]
  replace M := M.sees Sw127
  refine wpL_move (v := .int .i64 ((k + 1 : Nat) : Int)) (by rfl) (by rfl) (by rfl) ?_
  simp only [putT, List.set]
  refine wpL_nil (no_panic ?_)
  refine Exists.intro _ ⟨?_, (k + 1), (fun q9 => (#[undef, undef, undef, undef, u23 4, undef, undef, .pointer (some ⟨g116, 0, none⟩), .int .i64 0, undef, undef, undef, undef, undef, undef, undef, undef, undef, undef, undef, undef, undef, undef, undef, undef, undef, undef, undef, undef, undef, undef, undef, undef, .bool true, .tuple #[.agg (fel (addP (timesP baseP k) baseP).x ++ fel (addP (timesP baseP k) baseP).y ++ fel (addP (timesP baseP k) baseP).z ++ fel (addP (timesP baseP k) baseP).t : List Value).toArray, .int .i64 0], .agg (fel (timesP baseP k).x ++ (fel (timesP baseP k).y) ++ (fel (timesP baseP k).z) ++ (fel (timesP baseP k).t) : List Value).toArray, .agg (fel baseP.x ++ (fel baseP.y) ++ (fel baseP.z) ++ (fel baseP.t) : List Value).toArray, .tuple #[.agg (fel (addP (timesP baseP k) baseP).x ++ fel (addP (timesP baseP k) baseP).y ++ fel (addP (timesP baseP k) baseP).z ++ fel (addP (timesP baseP k) baseP).t : List Value).toArray, .int .i64 0], .agg (fel (addP (timesP baseP k) baseP).x ++ fel (addP (timesP baseP k) baseP).y ++ fel (addP (timesP baseP k) baseP).z ++ fel (addP (timesP baseP k) baseP).t : List Value).toArray, .int .i64 0, .int .i64 0, .bool false, .agg (fel (addP (timesP baseP k) baseP).x ++ (fel (addP (timesP baseP k) baseP).y) ++ (fel (addP (timesP baseP k) baseP).z) ++ (fel (addP (timesP baseP k) baseP).t) : List Value).toArray, .int .i64 ((k + 1 : Nat) : Int)] : Array Value).getD q9 undef), rfl, rfl, (M.pick [1, 2, 3] (by decide) rfl), (by omega)⟩
  omega
theorem ptimes_c {n : Nat} {x : Int} {w : World} (hn : n < 2 ^ 256) :
  Calls Try.prog 8 #[fe n, .int .i64 x] w fun e w' => e = .returned (.bool true) ∧ Below w.heap.size w w' := by
 have hr : ∀ k, rightP (mulR k baseP 256) = true := fun k => right_mulR rightP_base 256
 have ha : ∀ k, rightP (affP (affX (mulR k baseP 256)) (affY (mulR k baseP 256))) = true := fun k => aff_right (affX_ltp _) (affY_ltp _) (ofRightP (hr k)).2.on
 have hk : ∀ k, (affP (affX (mulR k baseP 256)) (affY (mulR k baseP 256))).Ok := fun k => affP_ok (affX_lt _) (affY_lt _)
 by_cases h : n = 115792089237316195423570985008687907853269984665640564039457584007913129639935
 ·
  subst h
  exact ptimes_max (by decide) (by decide) (mulR_ok ..) rfl (hr _) (mulR_ok ..) rfl (hr _) (mulR_ok ..) rfl (hr _) (hk _) rfl (ha _) rfl (more_eqv (by decide)) ord_eqv (aff_eqv _)
 ·
  have h1 : n + 1 < 2 ^ 256 := by
   have : (2 : Nat) ^ 256 = 115792089237316195423570985008687907853269984665640564039457584007913129639935 + 1 := by decide
   omega
  exact ptimes_less h1 hn hn (mulR_ok ..) rfl (hr _) (mulR_ok ..) rfl (hr _) (mulR_ok ..) rfl (hr _) (hk _) rfl (ha _) rfl (more_eqv h1) ord_eqv (aff_eqv _)
end Go.Proofs.Yc

