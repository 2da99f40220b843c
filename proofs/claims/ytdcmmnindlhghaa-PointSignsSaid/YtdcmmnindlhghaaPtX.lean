import Derived.WalkKit
import Derived.WalkSpells
import Derived.Laws.Pointers
import Derived.RowKit3
import Derived.Below
import Derived.Outline
import Derived.LoopN
import Derived.Lib.Hide
import Derived.Handy
import Derived.Laws.Bits64b
import Derived.Test.YtdcmmnindlhghaaPtV
import Derived.Test.YtdcmmnindlhghaaPtW
set_option linter.unusedSimpArgs false
set_option linter.unusedVariables false
namespace Go.Proofs.Yc
open Go Go.RowKit Go.Proofs.Num
attribute [local irreducible] wpV wpN wpList
open Go.Proofs.Ya
theorem nr_xor8 {P : Program} {T : TypeId} {x y : Nat} (hx : x < 256) (hy : y < 256) (W : World) : (binOp .xor T (.int .u8 (x : Int)) (.int .u8 (y : Int))).run P W = .ok (.int .u8 ((x ^^^ y : Nat) : Int)) W := by
 have h : x ^^^ y < 2 ^ 8 := Nat.xor_lt_two_pow hx hy
 refine run_xor' (e := ((x ^^^ y : Nat) : Int)) ?_ W
 show IntKind.wrap .u8 ((BitVec.ofInt 8 (x : Int) ^^^ BitVec.ofInt 8 (y : Int)).toNat : Int) = _
 rw [BitVec.toNat_xor, toNat_of hx, toNat_of hy]
 simp [IntKind.wrap, IntKind.bits, IntKind.signed]
 omega
theorem Parse_text {p : P4} {w : World} (hp : rightP p = true) :
  Calls Try.prog 10 #[.string (bs (textQ (affX p) (affY p)))] w fun e w' => e = .returned (.tuple #[.agg (fel (affP (affX p) (affY p)).x ++ fel (affP (affX p) (affY p)).y ++ fel (affP (affX p) (affY p)).z ++ fel (affP (affX p) (affY p)).t : List Value).toArray, .int .i64 0]) ∧ Below w.heap.size w w' := by
 have hx := affX_ltp p
 have hy := affY_ltp p
 have ho := (ofRightP hp).2.on
 have hr := rootX_on hx ho
 have hf := fp_text (x := affX p) hy
 have hb := textQ_odd (x := affX p) hy
 generalize affX p = x at *
 generalize affY p = y at *
 have hx2 : x < 2 ^ 256 := Nat.lt_trans hx (by decide)
 have hy2 : y < 2 ^ 256 := Nat.lt_trans hy (by decide)
 by_cases h : x % 2 = 1
 ·
  have h9 := Parse_odd (l := textQ x y) (x := fsub 0 x) (y := y) (w := w) (textQ_len _ _) (fsub_lt ..) hy2 hf.1 hf.2 (by rw [hr, if_neg (by omega)]) (hb.trans (decide_eq_true h)) (decide_eq_false fun e => by rw [fsub_zero_iff hx] at e; omega)
  rw [fsub_twice hx] at h9
  exact h9
 ·
  exact Parse_even (l := textQ x y) (x := x) (y := y) (w := w) (textQ_len _ _) hx2 hy2 hf.1 hf.2 (by rw [hr, if_pos (by omega)]) (hb.trans (decide_eq_false h))
set_option maxRecDepth 100000 in
set_option maxHeartbeats 4000000 in
theorem psigns_zero {n : Nat} {pa pc pd : P4} {ls lt : List UInt8} {w : World} (hn : n < 2 ^ 256) (hpa : pa.Ok) (epa : mulR n baseP 256 = pa) (rpa : rightP pa = true) (els : textQ (affX pa) (affY pa) = ls) (elt : textQ (affX (negP pa)) (affY (negP pa)) = lt) (hpc : pc.Ok) (epc : affP (affX pa) (affY pa) = pc) (rpc : rightP pc = true) (hpd : pd.Ok) (epd : affP (affX (negP pa)) (affY (negP pa)) = pd) (rpd : rightP pd = true) (eqA : Eqv pc pa) (eqB : Eqv pd (negP pa)) (hls : ls.length = 32) (hlt : lt.length = 32) (hT : ls.take 31 = lt.take 31) (hz : decide (pa.x = 0) = true) (hX : decide (byteN ls 31 ^^^ byteN lt 31 = 128) = false) (hE : decide (ls = lt) = true) :
  Calls Try.prog 7 #[fe n] w fun e w' => e = .returned (.bool true) ∧ Below w.heap.size w w' := by
 go_enter Try.func7, Try.ntmps7
 have M := Mem.start w
 refine wp_seq_k (fun K1 hK1 => ?_)
 refine wp_region_seq ?_
 refine wpL_var (t := 39) (cs := fel n) (by rfl) (fun W => ?_) (fun g3 w4 Sw4 Hg3 Bg3 => ?_)
 ·
  (first | rfl | go_simp)
 replace M := ((M.sees Sw4).add (N := 4) (cs := fel n) (M.ge Hg3) (M.fresh Hg3) Bg3 rfl)
 clear Bg3
 simp only [putT, List.set]
 refine wpL_assign (v := .bool false) (by rfl) (by rfl) (by rfl) ?_
 simp only [putT, List.set]
 refine wpL_nil (no_panic ?_)
 refine hK1 _ _ ?_
 refine wp_seq_k (fun K5 hK5 => ?_)
 refine wp_region_grow 7 [5] (by kernel_rfl) (by kernel_rfl) (by kernel_rfl) (fun Lk hLk => ?_)
 simp only [List.take, List.drop]
 refine wpV_load (cs := fel n) (by rfl) rfl rfl (M.r 0 0 rfl rfl) (M.lt 0 rfl) Try.underlying39 rfl info39 ?_
 simp only [putT, List.set]
 refine wpV_callf (v := .agg (fel baseP.x ++ fel baseP.y ++ fel baseP.z ++ fel baseP.t : List Value).toArray) (args := #[]) (by rfl) rfl Try.func16 (by kernel_rfl) (by kernel_rfl) rfl (fun W hW => Base_c) ?_
 simp only [putT, List.set]
 refine wpV_callf (v := .tuple #[.agg (fel pa.x ++ fel pa.y ++ fel pa.z ++ fel pa.t : List Value).toArray, .int .i64 0]) (args := #[fe n, .agg (fel baseP.x ++ fel baseP.y ++ fel baseP.z ++ fel baseP.t : List Value).toArray]) (by rfl) rfl Try.func23 (by kernel_rfl) (by kernel_rfl) rfl (fun W hW => (by have h9 := Mul_ok (n := n) (p := baseP) (w := W) hn baseP_ok rightP_base; rw [epa] at h9; exact h9)) ?_
 simp only [putT, List.set]
 refine wpV_move (v := .tuple #[.agg (fel pa.x ++ fel pa.y ++ fel pa.z ++ fel pa.t : List Value).toArray, .int .i64 0]) (by rfl) rfl rfl ?_
 simp only [putT, List.set]
 refine wpV_extract (v := .agg (fel pa.x ++ fel pa.y ++ fel pa.z ++ fel pa.t : List Value).toArray) (by rfl) rfl rfl rfl ?_
 simp only [putT, List.set]
 refine wpV_extract (v := .int .i64 0) (by rfl) rfl rfl rfl ?_
 simp only [putT, List.set]
 refine wpV_alloc (by rfl) ?_
 refine wpV_nil (hLk.out _ ?_)
 clear hLk Lk
 simp only [List.take, List.drop]
 iterate 6 refine wpN_skip (by rfl) ?_
 refine wpN_new (t := 26) (cs := ([.int .u64 0, .int .u64 0, .int .u64 0, .int .u64 0, .int .u64 0, .int .u64 0, .int .u64 0, .int .u64 0, .int .u64 0, .int .u64 0, .int .u64 0, .int .u64 0, .int .u64 0, .int .u64 0, .int .u64 0, .int .u64 0]).toArray) (by rfl) (fun W => ?_) (fun g7 Hg7 ng7 => ?_)
 ·
  go_simp
 simp only [putT, List.set]
 refine wpN_nil (fun w8 Sw8 hbs => ?_)
 replace M := ((M.sees Sw8).addS (N := 16) (cs := [.int .u64 0, .int .u64 0, .int .u64 0, .int .u64 0, .int .u64 0, .int .u64 0, .int .u64 0, .int .u64 0, .int .u64 0, .int .u64 0, .int .u64 0, .int .u64 0, .int .u64 0, .int .u64 0, .int .u64 0, .int .u64 0]) (segs := [(0, [.int .u64 0, .int .u64 0, .int .u64 0, .int .u64 0]), (4, [.int .u64 0, .int .u64 0, .int .u64 0, .int .u64 0]), (8, [.int .u64 0, .int .u64 0, .int .u64 0, .int .u64 0]), (12, [.int .u64 0, .int .u64 0, .int .u64 0, .int .u64 0])]) (M.ge Hg7) (M.fresh Hg7) (hbs _ (.head _)) rfl ⟨rfl, rfl, rfl, rfl, trivial⟩)
 clear hbs ng7
 refine wpL_store (g := g7) (off := 0) (n := 16) (cs := fel pa.x ++ fel pa.y ++ fel pa.z ++ fel pa.t) (by rfl) (by rfl) (by rfl) (by rfl) (by rfl) (M.t 0 rfl) (by simp [flen]) info26 (one4 _ _ _ _) (fun w9 P R T => ?_)
 replace M := M.put (segs' := [(0, fel pa.x), (4, fel pa.y), (8, fel pa.z), (12, fel pa.t)]) 0 rfl P T (SegsOf.at R ⟨rfl, rfl, rfl, rfl, trivial⟩)
 simp only [List.set] at M
 refine wpL_assign (v := .int .i64 0) (by rfl) (by rfl) (by rfl) ?_
 simp only [putT, List.set]
 refine wpL_nil (no_panic ?_)
 refine hK5 _ _ ?_
 refine wp_seq_k (fun K10 hK10 => ?_)
 refine wp_region_seq ?_
 refine wpL_chunk 5 (by rfl) (fun Lk hLk => ?_)
 simp only [List.take, List.drop]
 refine wpV_load (cs := fel pa.x ++ (fel pa.y) ++ (fel pa.z) ++ (fel pa.t)) (by rfl) rfl rfl (range_join (range_join (range_join (M.r 0 0 rfl rfl) (M.r 0 1 rfl rfl) (by simp [flen])) (M.r 0 2 rfl rfl) (by simp [flen])) (M.r 0 3 rfl rfl) (by simp [flen])) (M.lt 0 rfl) Try.underlying26 rfl info26 ?_
 simp only [putT, List.set]
 refine wpV_callf (v := .tuple #[.agg (fel (negP pa).x ++ fel (negP pa).y ++ fel (negP pa).z ++ fel (negP pa).t : List Value).toArray, .int .i64 0]) (args := #[.agg (fel pa.x ++ (fel pa.y) ++ (fel pa.z) ++ (fel pa.t) : List Value).toArray]) (by rfl) rfl Try.func22 (by kernel_rfl) (by kernel_rfl) rfl (fun W hW => Neg_ok hpa rpa) ?_
 simp only [putT, List.set]
 refine wpV_move (v := .tuple #[.agg (fel (negP pa).x ++ fel (negP pa).y ++ fel (negP pa).z ++ fel (negP pa).t : List Value).toArray, .int .i64 0]) (by rfl) rfl rfl ?_
 simp only [putT, List.set]
 refine wpV_extract (v := .agg (fel (negP pa).x ++ fel (negP pa).y ++ fel (negP pa).z ++ fel (negP pa).t : List Value).toArray) (by rfl) rfl rfl rfl ?_
 simp only [putT, List.set]
 refine wpV_extract (v := .int .i64 0) (by rfl) rfl rfl rfl ?_
 simp only [putT, List.set]
 refine wpV_nil (hLk _ (fun w12 Sw12 => ?_))
 clear hLk Lk
 simp only [List.take, List.drop]
 replace M := M.sees Sw12
 refine wpL_var (t := 26) (cs := [.int .u64 0, .int .u64 0, .int .u64 0, .int .u64 0, .int .u64 0, .int .u64 0, .int .u64 0, .int .u64 0, .int .u64 0, .int .u64 0, .int .u64 0, .int .u64 0, .int .u64 0, .int .u64 0, .int .u64 0, .int .u64 0]) (by rfl) (fun W => ?_) (fun g13 w14 Sw14 Hg13 Bg13 => ?_)
 ·
  go_simp
 replace M := ((M.sees Sw14).addS (N := 16) (cs := [.int .u64 0, .int .u64 0, .int .u64 0, .int .u64 0, .int .u64 0, .int .u64 0, .int .u64 0, .int .u64 0, .int .u64 0, .int .u64 0, .int .u64 0, .int .u64 0, .int .u64 0, .int .u64 0, .int .u64 0, .int .u64 0]) (segs := [(0, [.int .u64 0, .int .u64 0, .int .u64 0, .int .u64 0]), (4, [.int .u64 0, .int .u64 0, .int .u64 0, .int .u64 0]), (8, [.int .u64 0, .int .u64 0, .int .u64 0, .int .u64 0]), (12, [.int .u64 0, .int .u64 0, .int .u64 0, .int .u64 0])]) (M.ge Hg13) (M.fresh Hg13) Bg13 rfl ⟨rfl, rfl, rfl, rfl, trivial⟩)
 clear Bg13
 simp only [putT, List.set]
 refine wpL_store (g := g13) (off := 0) (n := 16) (cs := fel (negP pa).x ++ fel (negP pa).y ++ fel (negP pa).z ++ fel (negP pa).t) (by rfl) (by rfl) (by rfl) (by rfl) (by rfl) (M.t 0 rfl) (by simp [flen]) info26 (one4 _ _ _ _) (fun w15 P R T => ?_)
 replace M := M.put (segs' := [(0, fel (negP pa).x), (4, fel (negP pa).y), (8, fel (negP pa).z), (12, fel (negP pa).t)]) 0 rfl P T (SegsOf.at R ⟨rfl, rfl, rfl, rfl, trivial⟩)
 simp only [List.set] at M
 refine wpL_assign (v := .int .i64 0) (by rfl) (by rfl) (by rfl) ?_
 simp only [putT, List.set]
 refine wpL_nil (no_panic ?_)
 refine hK10 _ _ ?_
 refine wp_seq_k (fun K16 hK16 => ?_)
 refine wp_region_seq ?_
 refine wpL_chunk 5 (by rfl) (fun Lk hLk => ?_)
 simp only [List.take, List.drop]
 refine wpV_load (cs := fel pa.x ++ (fel pa.y) ++ (fel pa.z) ++ (fel pa.t)) (by rfl) rfl rfl (range_join (range_join (range_join (M.r 1 0 rfl rfl) (M.r 1 1 rfl rfl) (by simp [flen])) (M.r 1 2 rfl rfl) (by simp [flen])) (M.r 1 3 rfl rfl) (by simp [flen])) (M.lt 1 rfl) Try.underlying26 rfl info26 ?_
 simp only [putT, List.set]
 refine wpV_callf (v := .tuple #[.string (bs ls), .int .i64 0]) (args := #[.agg (fel pa.x ++ (fel pa.y) ++ (fel pa.z) ++ (fel pa.t) : List Value).toArray]) (by rfl) rfl Try.func13 (by kernel_rfl) (by kernel_rfl) rfl (fun W hW => (by have h9 := Bytes_ok (p := pa) (w := W) hpa rpa; rw [els] at h9; exact h9)) ?_
 simp only [putT, List.set]
 refine wpV_move (v := .tuple #[.string (bs ls), .int .i64 0]) (by rfl) rfl rfl ?_
 simp only [putT, List.set]
 refine wpV_extract (v := .string (bs ls)) (by rfl) rfl rfl rfl ?_
 simp only [putT, List.set]
 refine wpV_extract (v := .int .i64 0) (by rfl) rfl rfl rfl ?_
 simp only [putT, List.set]
 refine wpV_nil (hLk _ (fun w18 Sw18 => ?_))
 clear hLk Lk
 simp only [List.take, List.drop]
 replace M := M.sees Sw18
 refine wpL_assign (v := .string (bs ls)) (by rfl) (by rfl) (by rfl) ?_
 simp only [putT, List.set]
 refine wpL_assign (v := .int .i64 0) (by rfl) (by rfl) (by rfl) ?_
 simp only [putT, List.set]
 refine wpL_nil (no_panic ?_)
 refine hK16 _ _ ?_
 refine wp_seq_k (fun K19 hK19 => ?_)
 refine wp_region_seq ?_
 refine wpL_chunk 5 (by rfl) (fun Lk hLk => ?_)
 simp only [List.take, List.drop]
 refine wpV_load (cs := fel (negP pa).x ++ (fel (negP pa).y) ++ (fel (negP pa).z) ++ (fel (negP pa).t)) (by rfl) rfl rfl (range_join (range_join (range_join (M.r 0 0 rfl rfl) (M.r 0 1 rfl rfl) (by simp [flen])) (M.r 0 2 rfl rfl) (by simp [flen])) (M.r 0 3 rfl rfl) (by simp [flen])) (M.lt 0 rfl) Try.underlying26 rfl info26 ?_
 simp only [putT, List.set]
 refine wpV_callf (v := .tuple #[.string (bs lt), .int .i64 0]) (args := #[.agg (fel (negP pa).x ++ (fel (negP pa).y) ++ (fel (negP pa).z) ++ (fel (negP pa).t) : List Value).toArray]) (by rfl) rfl Try.func13 (by kernel_rfl) (by kernel_rfl) rfl (fun W hW => (by have h9 := Bytes_ok (p := negP pa) (w := W) (negP_ok hpa) (right_neg rpa); rw [elt] at h9; exact h9)) ?_
 simp only [putT, List.set]
 refine wpV_move (v := .tuple #[.string (bs lt), .int .i64 0]) (by rfl) rfl rfl ?_
 simp only [putT, List.set]
 refine wpV_extract (v := .string (bs lt)) (by rfl) rfl rfl rfl ?_
 simp only [putT, List.set]
 refine wpV_extract (v := .int .i64 0) (by rfl) rfl rfl rfl ?_
 simp only [putT, List.set]
 refine wpV_nil (hLk _ (fun w21 Sw21 => ?_))
 clear hLk Lk
 simp only [List.take, List.drop]
 replace M := M.sees Sw21
 refine wpL_assign (v := .string (bs lt)) (by rfl) (by rfl) (by rfl) ?_
 simp only [putT, List.set]
 refine wpL_assign (v := .int .i64 0) (by rfl) (by rfl) (by rfl) ?_
 simp only [putT, List.set]
 refine wpL_nil (no_panic ?_)
 refine hK19 _ _ ?_
 refine wp_seq_k (fun K22 hK22 => ?_)
 refine wp_region_seq ?_
 refine wpL_move (v := .string (bs ls)) (by rfl) (by rfl) (by rfl) ?_
 simp only [putT, List.set]
 refine wpL_chunk 4 (by rfl) (fun Lk hLk => ?_)
 simp only [List.take, List.drop]
 refine wpV_callf (v := .tuple #[.agg (fel pc.x ++ fel pc.y ++ fel pc.z ++ fel pc.t : List Value).toArray, .int .i64 0]) (args := #[.string (bs ls)]) (by rfl) rfl Try.func10 (by kernel_rfl) (by kernel_rfl) rfl (fun W hW => (by have h9 := Parse_text (p := pa) (w := W) rpa; rw [els, epc] at h9; exact h9)) ?_
 simp only [putT, List.set]
 refine wpV_move (v := .tuple #[.agg (fel pc.x ++ fel pc.y ++ fel pc.z ++ fel pc.t : List Value).toArray, .int .i64 0]) (by rfl) rfl rfl ?_
 simp only [putT, List.set]
 refine wpV_extract (v := .agg (fel pc.x ++ fel pc.y ++ fel pc.z ++ fel pc.t : List Value).toArray) (by rfl) rfl rfl rfl ?_
 simp only [putT, List.set]
 refine wpV_extract (v := .int .i64 0) (by rfl) rfl rfl rfl ?_
 simp only [putT, List.set]
 refine wpV_nil (hLk _ (fun w24 Sw24 => ?_))
 clear hLk Lk
 simp only [List.take, List.drop]
 replace M := M.sees Sw24
 refine wpL_var (t := 26) (cs := [.int .u64 0, .int .u64 0, .int .u64 0, .int .u64 0, .int .u64 0, .int .u64 0, .int .u64 0, .int .u64 0, .int .u64 0, .int .u64 0, .int .u64 0, .int .u64 0, .int .u64 0, .int .u64 0, .int .u64 0, .int .u64 0]) (by rfl) (fun W => ?_) (fun g25 w26 Sw26 Hg25 Bg25 => ?_)
 ·
  go_simp
 replace M := ((M.sees Sw26).addS (N := 16) (cs := [.int .u64 0, .int .u64 0, .int .u64 0, .int .u64 0, .int .u64 0, .int .u64 0, .int .u64 0, .int .u64 0, .int .u64 0, .int .u64 0, .int .u64 0, .int .u64 0, .int .u64 0, .int .u64 0, .int .u64 0, .int .u64 0]) (segs := [(0, [.int .u64 0, .int .u64 0, .int .u64 0, .int .u64 0]), (4, [.int .u64 0, .int .u64 0, .int .u64 0, .int .u64 0]), (8, [.int .u64 0, .int .u64 0, .int .u64 0, .int .u64 0]), (12, [.int .u64 0, .int .u64 0, .int .u64 0, .int .u64 0])]) (M.ge Hg25) (M.fresh Hg25) Bg25 rfl ⟨rfl, rfl, rfl, rfl, trivial⟩)
 clear Bg25
 simp only [putT, List.set]
 refine wpL_store (g := g25) (off := 0) (n := 16) (cs := fel pc.x ++ fel pc.y ++ fel pc.z ++ fel pc.t) (by rfl) (by rfl) (by rfl) (by rfl) (by rfl) (M.t 0 rfl) (by simp [flen]) info26 (one4 _ _ _ _) (fun w27 P R T => ?_)
 replace M := M.put (segs' := [(0, fel pc.x), (4, fel pc.y), (8, fel pc.z), (12, fel pc.t)]) 0 rfl P T (SegsOf.at R ⟨rfl, rfl, rfl, rfl, trivial⟩)
 simp only [List.set] at M
 refine wpL_assign (v := .int .i64 0) (by rfl) (by rfl) (by rfl) ?_
 simp only [putT, List.set]
 refine wpL_nil (no_panic ?_)
 refine hK22 _ _ ?_
 refine wp_seq_k (fun K28 hK28 => ?_)
 refine wp_region_seq ?_
 refine wpL_move (v := .string (bs lt)) (by rfl) (by rfl) (by rfl) ?_
 simp only [putT, List.set]
 refine wpL_chunk 4 (by rfl) (fun Lk hLk => ?_)
 simp only [List.take, List.drop]
 refine wpV_callf (v := .tuple #[.agg (fel pd.x ++ fel pd.y ++ fel pd.z ++ fel pd.t : List Value).toArray, .int .i64 0]) (args := #[.string (bs lt)]) (by rfl) rfl Try.func10 (by kernel_rfl) (by kernel_rfl) rfl (fun W hW => (by have h9 := Parse_text (p := (negP pa)) (w := W) (right_neg rpa); rw [elt, epd] at h9; exact h9)) ?_
 simp only [putT, List.set]
 refine wpV_move (v := .tuple #[.agg (fel pd.x ++ fel pd.y ++ fel pd.z ++ fel pd.t : List Value).toArray, .int .i64 0]) (by rfl) rfl rfl ?_
 simp only [putT, List.set]
 refine wpV_extract (v := .agg (fel pd.x ++ fel pd.y ++ fel pd.z ++ fel pd.t : List Value).toArray) (by rfl) rfl rfl rfl ?_
 simp only [putT, List.set]
 refine wpV_extract (v := .int .i64 0) (by rfl) rfl rfl rfl ?_
 simp only [putT, List.set]
 refine wpV_nil (hLk _ (fun w30 Sw30 => ?_))
 clear hLk Lk
 simp only [List.take, List.drop]
 replace M := M.sees Sw30
 refine wpL_var (t := 26) (cs := [.int .u64 0, .int .u64 0, .int .u64 0, .int .u64 0, .int .u64 0, .int .u64 0, .int .u64 0, .int .u64 0, .int .u64 0, .int .u64 0, .int .u64 0, .int .u64 0, .int .u64 0, .int .u64 0, .int .u64 0, .int .u64 0]) (by rfl) (fun W => ?_) (fun g31 w32 Sw32 Hg31 Bg31 => ?_)
 ·
  go_simp
 replace M := ((M.sees Sw32).addS (N := 16) (cs := [.int .u64 0, .int .u64 0, .int .u64 0, .int .u64 0, .int .u64 0, .int .u64 0, .int .u64 0, .int .u64 0, .int .u64 0, .int .u64 0, .int .u64 0, .int .u64 0, .int .u64 0, .int .u64 0, .int .u64 0, .int .u64 0]) (segs := [(0, [.int .u64 0, .int .u64 0, .int .u64 0, .int .u64 0]), (4, [.int .u64 0, .int .u64 0, .int .u64 0, .int .u64 0]), (8, [.int .u64 0, .int .u64 0, .int .u64 0, .int .u64 0]), (12, [.int .u64 0, .int .u64 0, .int .u64 0, .int .u64 0])]) (M.ge Hg31) (M.fresh Hg31) Bg31 rfl ⟨rfl, rfl, rfl, rfl, trivial⟩)
 clear Bg31
 simp only [putT, List.set]
 refine wpL_store (g := g31) (off := 0) (n := 16) (cs := fel pd.x ++ fel pd.y ++ fel pd.z ++ fel pd.t) (by rfl) (by rfl) (by rfl) (by rfl) (by rfl) (M.t 0 rfl) (by simp [flen]) info26 (one4 _ _ _ _) (fun w33 P R T => ?_)
 replace M := M.put (segs' := [(0, fel pd.x), (4, fel pd.y), (8, fel pd.z), (12, fel pd.t)]) 0 rfl P T (SegsOf.at R ⟨rfl, rfl, rfl, rfl, trivial⟩)
 simp only [List.set] at M
 refine wpL_assign (v := .int .i64 0) (by rfl) (by rfl) (by rfl) ?_
 simp only [putT, List.set]
 refine wpL_nil (no_panic ?_)
 refine hK28 _ _ ?_
 refine wp_seq_k (fun K34 hK34 => ?_)
 refine wp_seq_k (fun K35 hK35 => ?_)
 refine wp_region_seq ?_
 refine wpL_move (v := .int .i64 0) (by rfl) (by rfl) (by rfl) ?_
 simp only [putT, List.set]
 refine wpL_chunk 35 (by rfl) (fun Lk hLk => ?_)
 simp only [List.take, List.drop]
 refine wpV_bin (v := .bool false) (by rfl) rfl rfl rfl (fun W => run_neq _ _ _ _ W) ?_
 simp only [putT, List.set]
 refine wpV_move (v := .bool false) (by rfl) rfl rfl ?_
 simp only [putT, List.set]
 refine wpV_move (v := .int .i64 0) (by rfl) rfl rfl ?_
 simp only [putT, List.set]
 refine wpV_bin (v := .bool false) (by rfl) rfl rfl rfl (fun W => run_neq _ _ _ _ W) ?_
 simp only [putT, List.set]
 refine wpV_pick (v := .bool false) (by rfl) rfl rfl rfl ?_
 simp only [putT, List.set]
 refine wpV_move (v := .bool false) (by rfl) rfl rfl ?_
 simp only [putT, List.set]
 refine wpV_move (v := .int .i64 0) (by rfl) rfl rfl ?_
 simp only [putT, List.set]
 refine wpV_bin (v := .bool false) (by rfl) rfl rfl rfl (fun W => run_neq _ _ _ _ W) ?_
 simp only [putT, List.set]
 refine wpV_pick (v := .bool false) (by rfl) rfl rfl rfl ?_
 simp only [putT, List.set]
 refine wpV_move (v := .bool false) (by rfl) rfl rfl ?_
 simp only [putT, List.set]
 refine wpV_move (v := .int .i64 0) (by rfl) rfl rfl ?_
 simp only [putT, List.set]
 refine wpV_bin (v := .bool false) (by rfl) rfl rfl rfl (fun W => run_neq _ _ _ _ W) ?_
 simp only [putT, List.set]
 refine wpV_pick (v := .bool false) (by rfl) rfl rfl rfl ?_
 simp only [putT, List.set]
 refine wpV_move (v := .bool false) (by rfl) rfl rfl ?_
 simp only [putT, List.set]
 refine wpV_move (v := .int .i64 0) (by rfl) rfl rfl ?_
 simp only [putT, List.set]
 refine wpV_bin (v := .bool false) (by rfl) rfl rfl rfl (fun W => run_neq _ _ _ _ W) ?_
 simp only [putT, List.set]
 refine wpV_pick (v := .bool false) (by rfl) rfl rfl rfl ?_
 simp only [putT, List.set]
 refine wpV_move (v := .bool false) (by rfl) rfl rfl ?_
 simp only [putT, List.set]
 refine wpV_move (v := .int .i64 0) (by rfl) rfl rfl ?_
 simp only [putT, List.set]
 refine wpV_bin (v := .bool false) (by rfl) rfl rfl rfl (fun W => run_neq _ _ _ _ W) ?_
 simp only [putT, List.set]
 refine wpV_pick (v := .bool false) (by rfl) rfl rfl rfl ?_
 simp only [putT, List.set]
 refine wpV_move (v := .bool false) (by rfl) rfl rfl ?_
 simp only [putT, List.set]
 refine wpV_move (v := .string (bs ls)) (by rfl) rfl rfl ?_
 simp only [putT, List.set]
 refine wpV_lenS (by rfl) rfl rfl rfl Try.underlying9 ?_
 simp only [putT, List.set]
 refine wpV_bin (v := .bool false) (by rfl) rfl rfl rfl (fun W => (run_neqN ls.length 32 _ _ W).trans (by rw [(decide_eq_false (fun h => h hls))])) ?_
 simp only [putT, List.set]
 refine wpV_pick (v := .bool false) (by rfl) rfl rfl rfl ?_
 simp only [putT, List.set]
 refine wpV_move (v := .bool false) (by rfl) rfl rfl ?_
 simp only [putT, List.set]
 refine wpV_move (v := .string (bs lt)) (by rfl) rfl rfl ?_
 simp only [putT, List.set]
 refine wpV_lenS (by rfl) rfl rfl rfl Try.underlying9 ?_
 simp only [putT, List.set]
 refine wpV_bin (v := .bool false) (by rfl) rfl rfl rfl (fun W => (run_neqN lt.length 32 _ _ W).trans (by rw [(decide_eq_false (fun h => h hlt))])) ?_
 simp only [putT, List.set]
 refine wpV_pick (v := .bool false) (by rfl) rfl rfl rfl ?_
 simp only [putT, List.set]
 refine wpV_move (v := .bool false) (by rfl) rfl rfl ?_
 simp only [putT, List.set]
 refine wpV_callf (v := .bool true) (args := #[]) (by rfl) rfl Try.func11 (by kernel_rfl) (by kernel_rfl) rfl (fun W hW => alive06_c) ?_
 simp only [putT, List.set]
 refine wpV_not (b := true) (by rfl) rfl rfl ?_
 simp only [Bool.not_true, Bool.not_false]
 simp only [putT, List.set]
 refine wpV_pick (v := .bool false) (by rfl) rfl rfl rfl ?_
 simp only [putT, List.set]
 refine wpV_nil (hLk _ (fun w37 Sw37 => ?_))
 clear hLk Lk
 simp only [List.take, List.drop]
 replace M := M.sees Sw37
 refine wpL_nil (no_panic ?_)
 refine hK35 _ _ ?_
 refine wp_cond_false rfl ?_
 refine wp_skip ?_
 refine hK34 _ _ ?_
 refine wp_seq_k (fun K38 hK38 => ?_)
 refine wp_region_seq ?_
 refine wpL_chunk 4 (by rfl) (fun Lk hLk => ?_)
 simp only [List.take, List.drop]
 refine wpV_val (v := .pointer (some ⟨g7, 0, none⟩)) (by rfl) (by rfl) (fun W hW => ?_) ?_
 ·
  (go_simp; exact rfl)
 simp only [putT, List.set]
 refine wpV_load (cs := fel pa.x) (by rfl) rfl rfl (M.r 3 0 rfl rfl) (M.lt 3 rfl) Try.underlying24 rfl info24 ?_
 simp only [putT, List.set]
 refine wpV_val (v := fe 0) (by rfl) (by rfl) (fun W hW => ?_) ?_
 ·
  rw [show fe 0 = .agg ([.int .u64 0, .int .u64 0, .int .u64 0, .int .u64 0]).toArray from (by kernel_rfl)]; unfold RunsVal; kernel_rfl
 simp only [putT, List.set]
 refine wpV_val (v := .bool true) (by rfl) (by rfl) (fun W hW => ?_) ?_
 ·
  exact hz ▸ run_eql_fe hpa.x (by decide) Try.underlying24 Try.underlying22 info22 (by kernel_rfl) rfl rfl rfl W
 simp only [putT, List.set]
 refine wpV_nil (hLk _ (fun w40 Sw40 => ?_))
 clear hLk Lk
 simp only [List.take, List.drop]
 replace M := M.sees Sw40
 refine wpL_assign (v := .bool true) (by rfl) (by rfl) (by rfl) ?_
 simp only [putT, List.set]
 refine wpL_nil (no_panic ?_)
 refine hK38 _ _ ?_
 refine wp_seq_k (fun K41 hK41 => ?_)
 refine wp_region_grow 33 [] (by kernel_rfl) (by kernel_rfl) (by kernel_rfl) (fun Lk hLk => ?_)
 simp only [List.take, List.drop]
 refine wpV_move (v := .string (bs ls)) (by rfl) rfl rfl ?_
 simp only [putT, List.set]
 refine wpV_takeS (l := ls) (hi := 31) (by rfl) rfl rfl rfl Try.underlying9 (by omega) ?_
 simp only [putT, List.set]
 refine wpV_move (v := .string (bs lt)) (by rfl) rfl rfl ?_
 simp only [putT, List.set]
 refine wpV_takeS (l := lt) (hi := 31) (by rfl) rfl rfl rfl Try.underlying9 (by omega) ?_
 simp only [putT, List.set]
 refine wpV_binS (v := .bool true) (by rfl) rfl rfl rfl (fun W => (run_eql_bs _ _ _ W).trans (by rw [(decide_eq_true hT)])) ?_
 simp only [putT, List.set]
 refine wpV_move (v := .bool true) (by rfl) rfl rfl ?_
 simp only [putT, List.set]
 refine wpV_move (v := .string (bs ls)) (by rfl) rfl rfl ?_
 simp only [putT, List.set]
 refine wpV_indexb (n := 31) (by omega) (by rfl) rfl rfl rfl Try.underlying9 ?_
 simp only [putT, List.set]
 refine wpV_move (v := .string (bs lt)) (by rfl) rfl rfl ?_
 simp only [putT, List.set]
 refine wpV_indexb (n := 31) (by omega) (by rfl) rfl rfl rfl Try.underlying9 ?_
 simp only [putT, List.set]
 refine wpV_bin (v := .int .u8 ((byteN ls 31 ^^^ byteN lt 31 : Nat) : Int)) (by rfl) rfl rfl rfl (fun W => nr_xor8 (byteN_lt ls 31) (byteN_lt lt 31) W) ?_
 simp only [putT, List.set]
 refine wpV_bin (v := .bool false) (by rfl) rfl rfl rfl (fun W => (run_eqlN (byteN ls 31 ^^^ byteN lt 31) 128 _ _ W).trans (by rw [hX])) ?_
 simp only [putT, List.set]
 refine wpV_move (v := .bool true) (by rfl) rfl rfl ?_
 simp only [putT, List.set]
 refine wpV_not (b := true) (by rfl) rfl rfl ?_
 simp only [Bool.not_true, Bool.not_false]
 simp only [putT, List.set]
 refine wpV_val (v := .bool true) (by rfl) (by rfl) (fun W hW => ?_) ?_
 ·
  (go_simp; exact rfl)
 simp only [putT, List.set]
 refine wpV_pick (v := .bool true) (by rfl) rfl rfl rfl ?_
 simp only [putT, List.set]
 refine wpV_move (v := .bool true) (by rfl) rfl rfl ?_
 simp only [putT, List.set]
 refine wpV_move (v := .string (bs ls)) (by rfl) rfl rfl ?_
 simp only [putT, List.set]
 refine wpV_move (v := .string (bs lt)) (by rfl) rfl rfl ?_
 simp only [putT, List.set]
 refine wpV_binS (v := .bool true) (by rfl) rfl rfl rfl (fun W => (run_eql_bs _ _ _ W).trans (by rw [hE])) ?_
 simp only [putT, List.set]
 refine wpV_move (v := .bool true) (by rfl) rfl rfl ?_
 simp only [putT, List.set]
 refine wpV_val (v := .bool true) (by rfl) (by rfl) (fun W hW => ?_) ?_
 ·
  (go_simp; exact rfl)
 simp only [putT, List.set]
 refine wpV_pick (v := .bool true) (by rfl) rfl rfl rfl ?_
 simp only [putT, List.set]
 refine wpV_move (v := .bool true) (by rfl) rfl rfl ?_
 simp only [putT, List.set]
 refine wpV_load (cs := fel pc.x ++ (fel pc.y) ++ (fel pc.z) ++ (fel pc.t)) (by rfl) rfl rfl (range_join (range_join (range_join (M.r 1 0 rfl rfl) (M.r 1 1 rfl rfl) (by simp [flen])) (M.r 1 2 rfl rfl) (by simp [flen])) (M.r 1 3 rfl rfl) (by simp [flen])) (M.lt 1 rfl) Try.underlying26 rfl info26 ?_
 simp only [putT, List.set]
 refine wpV_load (cs := fel pa.x ++ (fel pa.y) ++ (fel pa.z) ++ (fel pa.t)) (by rfl) rfl rfl (range_join (range_join (range_join (M.r 3 0 rfl rfl) (M.r 3 1 rfl rfl) (by simp [flen])) (M.r 3 2 rfl rfl) (by simp [flen])) (M.r 3 3 rfl rfl) (by simp [flen])) (M.lt 3 rfl) Try.underlying26 rfl info26 ?_
 simp only [putT, List.set]
 refine wpV_callf (v := .bool true) (args := #[.agg (fel pc.x ++ (fel pc.y) ++ (fel pc.z) ++ (fel pc.t) : List Value).toArray, .agg (fel pa.x ++ (fel pa.y) ++ (fel pa.z) ++ (fel pa.t) : List Value).toArray]) (by rfl) rfl Try.func20 (by kernel_rfl) (by kernel_rfl) rfl (fun W hW => (by have h9 := same_c (p := pc) (q := pa) (w := W) hpc hpa; rw [(same_eqv rpc rpa).2 eqA] at h9; exact h9)) ?_
 simp only [putT, List.set]
 refine wpV_pick (v := .bool true) (by rfl) rfl rfl rfl ?_
 simp only [putT, List.set]
 refine wpV_move (v := .bool true) (by rfl) rfl rfl ?_
 simp only [putT, List.set]
 refine wpV_load (cs := fel pd.x ++ (fel pd.y) ++ (fel pd.z) ++ (fel pd.t)) (by rfl) rfl rfl (range_join (range_join (range_join (M.r 0 0 rfl rfl) (M.r 0 1 rfl rfl) (by simp [flen])) (M.r 0 2 rfl rfl) (by simp [flen])) (M.r 0 3 rfl rfl) (by simp [flen])) (M.lt 0 rfl) Try.underlying26 rfl info26 ?_
 simp only [putT, List.set]
 refine wpV_load (cs := fel (negP pa).x ++ (fel (negP pa).y) ++ (fel (negP pa).z) ++ (fel (negP pa).t)) (by rfl) rfl rfl (range_join (range_join (range_join (M.r 2 0 rfl rfl) (M.r 2 1 rfl rfl) (by simp [flen])) (M.r 2 2 rfl rfl) (by simp [flen])) (M.r 2 3 rfl rfl) (by simp [flen])) (M.lt 2 rfl) Try.underlying26 rfl info26 ?_
 simp only [putT, List.set]
 refine wpV_callf (v := .bool true) (args := #[.agg (fel pd.x ++ (fel pd.y) ++ (fel pd.z) ++ (fel pd.t) : List Value).toArray, .agg (fel (negP pa).x ++ (fel (negP pa).y) ++ (fel (negP pa).z) ++ (fel (negP pa).t) : List Value).toArray]) (by rfl) rfl Try.func20 (by kernel_rfl) (by kernel_rfl) rfl (fun W hW => (by have h9 := same_c (p := pd) (q := negP pa) (w := W) hpd (negP_ok hpa); rw [(same_eqv rpd (right_neg rpa)).2 eqB] at h9; exact h9)) ?_
 simp only [putT, List.set]
 refine wpV_pick (v := .bool true) (by rfl) rfl rfl rfl ?_
 simp only [putT, List.set]
 refine wpV_nil (hLk.out _ ?_)
 clear hLk Lk
 simp only [List.take, List.drop]
 iterate 33 refine wpN_skip (by rfl) ?_
 refine wpN_nil (fun w43 Sw43 hbs => ?_)
 clear hbs
 replace M := M.sees Sw43
 refine wpL_assign (v := .bool true) (by rfl) (by rfl) (by rfl) ?_
 simp only [putT, List.set]
 refine wpL_nil (no_panic ?_)
 refine hK41 _ _ ?_
 refine wp_ret ?_
 repeat (first | with_reducible refine then_ret ?_ | with_reducible refine inblock_ret ?_)
 refine bodyPost_ret (v := .bool true) (res1 rfl (.tmp (by rfl))) rfl ?_
 have BE := M.below
 exact ⟨rfl, BE⟩
set_option maxRecDepth 100000 in
set_option maxHeartbeats 4000000 in
theorem psigns_non {n : Nat} {pa pc pd : P4} {ls lt : List UInt8} {w : World} (hn : n < 2 ^ 256) (hpa : pa.Ok) (epa : mulR n baseP 256 = pa) (rpa : rightP pa = true) (els : textQ (affX pa) (affY pa) = ls) (elt : textQ (affX (negP pa)) (affY (negP pa)) = lt) (hpc : pc.Ok) (epc : affP (affX pa) (affY pa) = pc) (rpc : rightP pc = true) (hpd : pd.Ok) (epd : affP (affX (negP pa)) (affY (negP pa)) = pd) (rpd : rightP pd = true) (eqA : Eqv pc pa) (eqB : Eqv pd (negP pa)) (hls : ls.length = 32) (hlt : lt.length = 32) (hT : ls.take 31 = lt.take 31) (hz : decide (pa.x = 0) = false) (hX : decide (byteN ls 31 ^^^ byteN lt 31 = 128) = true) (hE : decide (ls = lt) = false) :
  Calls Try.prog 7 #[fe n] w fun e w' => e = .returned (.bool true) ∧ Below w.heap.size w w' := by
 go_enter Try.func7, Try.ntmps7
 have M := Mem.start w
 refine wp_seq_k (fun K1 hK1 => ?_)
 refine wp_region_seq ?_
 refine wpL_var (t := 39) (cs := fel n) (by rfl) (fun W => ?_) (fun g3 w4 Sw4 Hg3 Bg3 => ?_)
 ·
  (first | rfl | go_simp)
 replace M := ((M.sees Sw4).add (N := 4) (cs := fel n) (M.ge Hg3) (M.fresh Hg3) Bg3 rfl)
 clear Bg3
 simp only [putT, List.set]
 refine wpL_assign (v := .bool false) (by rfl) (by rfl) (by rfl) ?_
 simp only [putT, List.set]
 refine wpL_nil (no_panic ?_)
 refine hK1 _ _ ?_
 refine wp_seq_k (fun K5 hK5 => ?_)
 refine wp_region_grow 7 [5] (by kernel_rfl) (by kernel_rfl) (by kernel_rfl) (fun Lk hLk => ?_)
 simp only [List.take, List.drop]
 refine wpV_load (cs := fel n) (by rfl) rfl rfl (M.r 0 0 rfl rfl) (M.lt 0 rfl) Try.underlying39 rfl info39 ?_
 simp only [putT, List.set]
 refine wpV_callf (v := .agg (fel baseP.x ++ fel baseP.y ++ fel baseP.z ++ fel baseP.t : List Value).toArray) (args := #[]) (by rfl) rfl Try.func16 (by kernel_rfl) (by kernel_rfl) rfl (fun W hW => Base_c) ?_
 simp only [putT, List.set]
 refine wpV_callf (v := .tuple #[.agg (fel pa.x ++ fel pa.y ++ fel pa.z ++ fel pa.t : List Value).toArray, .int .i64 0]) (args := #[fe n, .agg (fel baseP.x ++ fel baseP.y ++ fel baseP.z ++ fel baseP.t : List Value).toArray]) (by rfl) rfl Try.func23 (by kernel_rfl) (by kernel_rfl) rfl (fun W hW => (by have h9 := Mul_ok (n := n) (p := baseP) (w := W) hn baseP_ok rightP_base; rw [epa] at h9; exact h9)) ?_
 simp only [putT, List.set]
 refine wpV_move (v := .tuple #[.agg (fel pa.x ++ fel pa.y ++ fel pa.z ++ fel pa.t : List Value).toArray, .int .i64 0]) (by rfl) rfl rfl ?_
 simp only [putT, List.set]
 refine wpV_extract (v := .agg (fel pa.x ++ fel pa.y ++ fel pa.z ++ fel pa.t : List Value).toArray) (by rfl) rfl rfl rfl ?_
 simp only [putT, List.set]
 refine wpV_extract (v := .int .i64 0) (by rfl) rfl rfl rfl ?_
 simp only [putT, List.set]
 refine wpV_alloc (by rfl) ?_
 refine wpV_nil (hLk.out _ ?_)
 clear hLk Lk
 simp only [List.take, List.drop]
 iterate 6 refine wpN_skip (by rfl) ?_
 refine wpN_new (t := 26) (cs := ([.int .u64 0, .int .u64 0, .int .u64 0, .int .u64 0, .int .u64 0, .int .u64 0, .int .u64 0, .int .u64 0, .int .u64 0, .int .u64 0, .int .u64 0, .int .u64 0, .int .u64 0, .int .u64 0, .int .u64 0, .int .u64 0]).toArray) (by rfl) (fun W => ?_) (fun g7 Hg7 ng7 => ?_)
 ·
  go_simp
 simp only [putT, List.set]
 refine wpN_nil (fun w8 Sw8 hbs => ?_)
 replace M := ((M.sees Sw8).addS (N := 16) (cs := [.int .u64 0, .int .u64 0, .int .u64 0, .int .u64 0, .int .u64 0, .int .u64 0, .int .u64 0, .int .u64 0, .int .u64 0, .int .u64 0, .int .u64 0, .int .u64 0, .int .u64 0, .int .u64 0, .int .u64 0, .int .u64 0]) (segs := [(0, [.int .u64 0, .int .u64 0, .int .u64 0, .int .u64 0]), (4, [.int .u64 0, .int .u64 0, .int .u64 0, .int .u64 0]), (8, [.int .u64 0, .int .u64 0, .int .u64 0, .int .u64 0]), (12, [.int .u64 0, .int .u64 0, .int .u64 0, .int .u64 0])]) (M.ge Hg7) (M.fresh Hg7) (hbs _ (.head _)) rfl ⟨rfl, rfl, rfl, rfl, trivial⟩)
 clear hbs ng7
 refine wpL_store (g := g7) (off := 0) (n := 16) (cs := fel pa.x ++ fel pa.y ++ fel pa.z ++ fel pa.t) (by rfl) (by rfl) (by rfl) (by rfl) (by rfl) (M.t 0 rfl) (by simp [flen]) info26 (one4 _ _ _ _) (fun w9 P R T => ?_)
 replace M := M.put (segs' := [(0, fel pa.x), (4, fel pa.y), (8, fel pa.z), (12, fel pa.t)]) 0 rfl P T (SegsOf.at R ⟨rfl, rfl, rfl, rfl, trivial⟩)
 simp only [List.set] at M
 refine wpL_assign (v := .int .i64 0) (by rfl) (by rfl) (by rfl) ?_
 simp only [putT, List.set]
 refine wpL_nil (no_panic ?_)
 refine hK5 _ _ ?_
 refine wp_seq_k (fun K10 hK10 => ?_)
 refine wp_region_seq ?_
 refine wpL_chunk 5 (by rfl) (fun Lk hLk => ?_)
 simp only [List.take, List.drop]
 refine wpV_load (cs := fel pa.x ++ (fel pa.y) ++ (fel pa.z) ++ (fel pa.t)) (by rfl) rfl rfl (range_join (range_join (range_join (M.r 0 0 rfl rfl) (M.r 0 1 rfl rfl) (by simp [flen])) (M.r 0 2 rfl rfl) (by simp [flen])) (M.r 0 3 rfl rfl) (by simp [flen])) (M.lt 0 rfl) Try.underlying26 rfl info26 ?_
 simp only [putT, List.set]
 refine wpV_callf (v := .tuple #[.agg (fel (negP pa).x ++ fel (negP pa).y ++ fel (negP pa).z ++ fel (negP pa).t : List Value).toArray, .int .i64 0]) (args := #[.agg (fel pa.x ++ (fel pa.y) ++ (fel pa.z) ++ (fel pa.t) : List Value).toArray]) (by rfl) rfl Try.func22 (by kernel_rfl) (by kernel_rfl) rfl (fun W hW => Neg_ok hpa rpa) ?_
 simp only [putT, List.set]
 refine wpV_move (v := .tuple #[.agg (fel (negP pa).x ++ fel (negP pa).y ++ fel (negP pa).z ++ fel (negP pa).t : List Value).toArray, .int .i64 0]) (by rfl) rfl rfl ?_
 simp only [putT, List.set]
 refine wpV_extract (v := .agg (fel (negP pa).x ++ fel (negP pa).y ++ fel (negP pa).z ++ fel (negP pa).t : List Value).toArray) (by rfl) rfl rfl rfl ?_
 simp only [putT, List.set]
 refine wpV_extract (v := .int .i64 0) (by rfl) rfl rfl rfl ?_
 simp only [putT, List.set]
 refine wpV_nil (hLk _ (fun w12 Sw12 => ?_))
 clear hLk Lk
 simp only [List.take, List.drop]
 replace M := M.sees Sw12
 refine wpL_var (t := 26) (cs := [.int .u64 0, .int .u64 0, .int .u64 0, .int .u64 0, .int .u64 0, .int .u64 0, .int .u64 0, .int .u64 0, .int .u64 0, .int .u64 0, .int .u64 0, .int .u64 0, .int .u64 0, .int .u64 0, .int .u64 0, .int .u64 0]) (by rfl) (fun W => ?_) (fun g13 w14 Sw14 Hg13 Bg13 => ?_)
 ·
  go_simp
 replace M := ((M.sees Sw14).addS (N := 16) (cs := [.int .u64 0, .int .u64 0, .int .u64 0, .int .u64 0, .int .u64 0, .int .u64 0, .int .u64 0, .int .u64 0, .int .u64 0, .int .u64 0, .int .u64 0, .int .u64 0, .int .u64 0, .int .u64 0, .int .u64 0, .int .u64 0]) (segs := [(0, [.int .u64 0, .int .u64 0, .int .u64 0, .int .u64 0]), (4, [.int .u64 0, .int .u64 0, .int .u64 0, .int .u64 0]), (8, [.int .u64 0, .int .u64 0, .int .u64 0, .int .u64 0]), (12, [.int .u64 0, .int .u64 0, .int .u64 0, .int .u64 0])]) (M.ge Hg13) (M.fresh Hg13) Bg13 rfl ⟨rfl, rfl, rfl, rfl, trivial⟩)
 clear Bg13
 simp only [putT, List.set]
 refine wpL_store (g := g13) (off := 0) (n := 16) (cs := fel (negP pa).x ++ fel (negP pa).y ++ fel (negP pa).z ++ fel (negP pa).t) (by rfl) (by rfl) (by rfl) (by rfl) (by rfl) (M.t 0 rfl) (by simp [flen]) info26 (one4 _ _ _ _) (fun w15 P R T => ?_)
 replace M := M.put (segs' := [(0, fel (negP pa).x), (4, fel (negP pa).y), (8, fel (negP pa).z), (12, fel (negP pa).t)]) 0 rfl P T (SegsOf.at R ⟨rfl, rfl, rfl, rfl, trivial⟩)
 simp only [List.set] at M
 refine wpL_assign (v := .int .i64 0) (by rfl) (by rfl) (by rfl) ?_
 simp only [putT, List.set]
 refine wpL_nil (no_panic ?_)
 refine hK10 _ _ ?_
 refine wp_seq_k (fun K16 hK16 => ?_)
 refine wp_region_seq ?_
 refine wpL_chunk 5 (by rfl) (fun Lk hLk => ?_)
 simp only [List.take, List.drop]
 refine wpV_load (cs := fel pa.x ++ (fel pa.y) ++ (fel pa.z) ++ (fel pa.t)) (by rfl) rfl rfl (range_join (range_join (range_join (M.r 1 0 rfl rfl) (M.r 1 1 rfl rfl) (by simp [flen])) (M.r 1 2 rfl rfl) (by simp [flen])) (M.r 1 3 rfl rfl) (by simp [flen])) (M.lt 1 rfl) Try.underlying26 rfl info26 ?_
 simp only [putT, List.set]
 refine wpV_callf (v := .tuple #[.string (bs ls), .int .i64 0]) (args := #[.agg (fel pa.x ++ (fel pa.y) ++ (fel pa.z) ++ (fel pa.t) : List Value).toArray]) (by rfl) rfl Try.func13 (by kernel_rfl) (by kernel_rfl) rfl (fun W hW => (by have h9 := Bytes_ok (p := pa) (w := W) hpa rpa; rw [els] at h9; exact h9)) ?_
 simp only [putT, List.set]
 refine wpV_move (v := .tuple #[.string (bs ls), .int .i64 0]) (by rfl) rfl rfl ?_
 simp only [putT, List.set]
 refine wpV_extract (v := .string (bs ls)) (by rfl) rfl rfl rfl ?_
 simp only [putT, List.set]
 refine wpV_extract (v := .int .i64 0) (by rfl) rfl rfl rfl ?_
 simp only [putT, List.set]
 refine wpV_nil (hLk _ (fun w18 Sw18 => ?_))
 clear hLk Lk
 simp only [List.take, List.drop]
 replace M := M.sees Sw18
 refine wpL_assign (v := .string (bs ls)) (by rfl) (by rfl) (by rfl) ?_
 simp only [putT, List.set]
 refine wpL_assign (v := .int .i64 0) (by rfl) (by rfl) (by rfl) ?_
 simp only [putT, List.set]
 refine wpL_nil (no_panic ?_)
 refine hK16 _ _ ?_
 refine wp_seq_k (fun K19 hK19 => ?_)
 refine wp_region_seq ?_
 refine wpL_chunk 5 (by rfl) (fun Lk hLk => ?_)
 simp only [List.take, List.drop]
 refine wpV_load (cs := fel (negP pa).x ++ (fel (negP pa).y) ++ (fel (negP pa).z) ++ (fel (negP pa).t)) (by rfl) rfl rfl (range_join (range_join (range_join (M.r 0 0 rfl rfl) (M.r 0 1 rfl rfl) (by simp [flen])) (M.r 0 2 rfl rfl) (by simp [flen])) (M.r 0 3 rfl rfl) (by simp [flen])) (M.lt 0 rfl) Try.underlying26 rfl info26 ?_
 simp only [putT, List.set]
 refine wpV_callf (v := .tuple #[.string (bs lt), .int .i64 0]) (args := #[.agg (fel (negP pa).x ++ (fel (negP pa).y) ++ (fel (negP pa).z) ++ (fel (negP pa).t) : List Value).toArray]) (by rfl) rfl Try.func13 (by kernel_rfl) (by kernel_rfl) rfl (fun W hW => (by have h9 := Bytes_ok (p := negP pa) (w := W) (negP_ok hpa) (right_neg rpa); rw [elt] at h9; exact h9)) ?_
 simp only [putT, List.set]
 refine wpV_move (v := .tuple #[.string (bs lt), .int .i64 0]) (by rfl) rfl rfl ?_
 simp only [putT, List.set]
 refine wpV_extract (v := .string (bs lt)) (by rfl) rfl rfl rfl ?_
 simp only [putT, List.set]
 refine wpV_extract (v := .int .i64 0) (by rfl) rfl rfl rfl ?_
 simp only [putT, List.set]
 refine wpV_nil (hLk _ (fun w21 Sw21 => ?_))
 clear hLk Lk
 simp only [List.take, List.drop]
 replace M := M.sees Sw21
 refine wpL_assign (v := .string (bs lt)) (by rfl) (by rfl) (by rfl) ?_
 simp only [putT, List.set]
 refine wpL_assign (v := .int .i64 0) (by rfl) (by rfl) (by rfl) ?_
 simp only [putT, List.set]
 refine wpL_nil (no_panic ?_)
 refine hK19 _ _ ?_
 refine wp_seq_k (fun K22 hK22 => ?_)
 refine wp_region_seq ?_
 refine wpL_move (v := .string (bs ls)) (by rfl) (by rfl) (by rfl) ?_
 simp only [putT, List.set]
 refine wpL_chunk 4 (by rfl) (fun Lk hLk => ?_)
 simp only [List.take, List.drop]
 refine wpV_callf (v := .tuple #[.agg (fel pc.x ++ fel pc.y ++ fel pc.z ++ fel pc.t : List Value).toArray, .int .i64 0]) (args := #[.string (bs ls)]) (by rfl) rfl Try.func10 (by kernel_rfl) (by kernel_rfl) rfl (fun W hW => (by have h9 := Parse_text (p := pa) (w := W) rpa; rw [els, epc] at h9; exact h9)) ?_
 simp only [putT, List.set]
 refine wpV_move (v := .tuple #[.agg (fel pc.x ++ fel pc.y ++ fel pc.z ++ fel pc.t : List Value).toArray, .int .i64 0]) (by rfl) rfl rfl ?_
 simp only [putT, List.set]
 refine wpV_extract (v := .agg (fel pc.x ++ fel pc.y ++ fel pc.z ++ fel pc.t : List Value).toArray) (by rfl) rfl rfl rfl ?_
 simp only [putT, List.set]
 refine wpV_extract (v := .int .i64 0) (by rfl) rfl rfl rfl ?_
 simp only [putT, List.set]
 refine wpV_nil (hLk _ (fun w24 Sw24 => ?_))
 clear hLk Lk
 simp only [List.take, List.drop]
 replace M := M.sees Sw24
 refine wpL_var (t := 26) (cs := [.int .u64 0, .int .u64 0, .int .u64 0, .int .u64 0, .int .u64 0, .int .u64 0, .int .u64 0, .int .u64 0, .int .u64 0, .int .u64 0, .int .u64 0, .int .u64 0, .int .u64 0, .int .u64 0, .int .u64 0, .int .u64 0]) (by rfl) (fun W => ?_) (fun g25 w26 Sw26 Hg25 Bg25 => ?_)
 ·
  go_simp
 replace M := ((M.sees Sw26).addS (N := 16) (cs := [.int .u64 0, .int .u64 0, .int .u64 0, .int .u64 0, .int .u64 0, .int .u64 0, .int .u64 0, .int .u64 0, .int .u64 0, .int .u64 0, .int .u64 0, .int .u64 0, .int .u64 0, .int .u64 0, .int .u64 0, .int .u64 0]) (segs := [(0, [.int .u64 0, .int .u64 0, .int .u64 0, .int .u64 0]), (4, [.int .u64 0, .int .u64 0, .int .u64 0, .int .u64 0]), (8, [.int .u64 0, .int .u64 0, .int .u64 0, .int .u64 0]), (12, [.int .u64 0, .int .u64 0, .int .u64 0, .int .u64 0])]) (M.ge Hg25) (M.fresh Hg25) Bg25 rfl ⟨rfl, rfl, rfl, rfl, trivial⟩)
 clear Bg25
 simp only [putT, List.set]
 refine wpL_store (g := g25) (off := 0) (n := 16) (cs := fel pc.x ++ fel pc.y ++ fel pc.z ++ fel pc.t) (by rfl) (by rfl) (by rfl) (by rfl) (by rfl) (M.t 0 rfl) (by simp [flen]) info26 (one4 _ _ _ _) (fun w27 P R T => ?_)
 replace M := M.put (segs' := [(0, fel pc.x), (4, fel pc.y), (8, fel pc.z), (12, fel pc.t)]) 0 rfl P T (SegsOf.at R ⟨rfl, rfl, rfl, rfl, trivial⟩)
 simp only [List.set] at M
 refine wpL_assign (v := .int .i64 0) (by rfl) (by rfl) (by rfl) ?_
 simp only [putT, List.set]
 refine wpL_nil (no_panic ?_)
 refine hK22 _ _ ?_
 refine wp_seq_k (fun K28 hK28 => ?_)
 refine wp_region_seq ?_
 refine wpL_move (v := .string (bs lt)) (by rfl) (by rfl) (by rfl) ?_
 simp only [putT, List.set]
 refine wpL_chunk 4 (by rfl) (fun Lk hLk => ?_)
 simp only [List.take, List.drop]
 refine wpV_callf (v := .tuple #[.agg (fel pd.x ++ fel pd.y ++ fel pd.z ++ fel pd.t : List Value).toArray, .int .i64 0]) (args := #[.string (bs lt)]) (by rfl) rfl Try.func10 (by kernel_rfl) (by kernel_rfl) rfl (fun W hW => (by have h9 := Parse_text (p := (negP pa)) (w := W) (right_neg rpa); rw [elt, epd] at h9; exact h9)) ?_
 simp only [putT, List.set]
 refine wpV_move (v := .tuple #[.agg (fel pd.x ++ fel pd.y ++ fel pd.z ++ fel pd.t : List Value).toArray, .int .i64 0]) (by rfl) rfl rfl ?_
 simp only [putT, List.set]
 refine wpV_extract (v := .agg (fel pd.x ++ fel pd.y ++ fel pd.z ++ fel pd.t : List Value).toArray) (by rfl) rfl rfl rfl ?_
 simp only [putT, List.set]
 refine wpV_extract (v := .int .i64 0) (by rfl) rfl rfl rfl ?_
 simp only [putT, List.set]
 refine wpV_nil (hLk _ (fun w30 Sw30 => ?_))
 clear hLk Lk
 simp only [List.take, List.drop]
 replace M := M.sees Sw30
 refine wpL_var (t := 26) (cs := [.int .u64 0, .int .u64 0, .int .u64 0, .int .u64 0, .int .u64 0, .int .u64 0, .int .u64 0, .int .u64 0, .int .u64 0, .int .u64 0, .int .u64 0, .int .u64 0, .int .u64 0, .int .u64 0, .int .u64 0, .int .u64 0]) (by rfl) (fun W => ?_) (fun g31 w32 Sw32 Hg31 Bg31 => ?_)
 ·
  go_simp
 replace M := ((M.sees Sw32).addS (N := 16) (cs := [.int .u64 0, .int .u64 0, .int .u64 0, .int .u64 0, .int .u64 0, .int .u64 0, .int .u64 0, .int .u64 0, .int .u64 0, .int .u64 0, .int .u64 0, .int .u64 0, .int .u64 0, .int .u64 0, .int .u64 0, .int .u64 0]) (segs := [(0, [.int .u64 0, .int .u64 0, .int .u64 0, .int .u64 0]), (4, [.int .u64 0, .int .u64 0, .int .u64 0, .int .u64 0]), (8, [.int .u64 0, .int .u64 0, .int .u64 0, .int .u64 0]), (12, [.int .u64 0, .int .u64 0, .int .u64 0, .int .u64 0])]) (M.ge Hg31) (M.fresh Hg31) Bg31 rfl ⟨rfl, rfl, rfl, rfl, trivial⟩)
 clear Bg31
 simp only [putT, List.set]
 refine wpL_store (g := g31) (off := 0) (n := 16) (cs := fel pd.x ++ fel pd.y ++ fel pd.z ++ fel pd.t) (by rfl) (by rfl) (by rfl) (by rfl) (by rfl) (M.t 0 rfl) (by simp [flen]) info26 (one4 _ _ _ _) (fun w33 P R T => ?_)
 replace M := M.put (segs' := [(0, fel pd.x), (4, fel pd.y), (8, fel pd.z), (12, fel pd.t)]) 0 rfl P T (SegsOf.at R ⟨rfl, rfl, rfl, rfl, trivial⟩)
 simp only [List.set] at M
 refine wpL_assign (v := .int .i64 0) (by rfl) (by rfl) (by rfl) ?_
 simp only [putT, List.set]
 refine wpL_nil (no_panic ?_)
 refine hK28 _ _ ?_
 refine wp_seq_k (fun K34 hK34 => ?_)
 refine wp_seq_k (fun K35 hK35 => ?_)
 refine wp_region_seq ?_
 refine wpL_move (v := .int .i64 0) (by rfl) (by rfl) (by rfl) ?_
 simp only [putT, List.set]
 refine wpL_chunk 35 (by rfl) (fun Lk hLk => ?_)
 simp only [List.take, List.drop]
 refine wpV_bin (v := .bool false) (by rfl) rfl rfl rfl (fun W => run_neq _ _ _ _ W) ?_
 simp only [putT, List.set]
 refine wpV_move (v := .bool false) (by rfl) rfl rfl ?_
 simp only [putT, List.set]
 refine wpV_move (v := .int .i64 0) (by rfl) rfl rfl ?_
 simp only [putT, List.set]
 refine wpV_bin (v := .bool false) (by rfl) rfl rfl rfl (fun W => run_neq _ _ _ _ W) ?_
 simp only [putT, List.set]
 refine wpV_pick (v := .bool false) (by rfl) rfl rfl rfl ?_
 simp only [putT, List.set]
 refine wpV_move (v := .bool false) (by rfl) rfl rfl ?_
 simp only [putT, List.set]
 refine wpV_move (v := .int .i64 0) (by rfl) rfl rfl ?_
 simp only [putT, List.set]
 refine wpV_bin (v := .bool false) (by rfl) rfl rfl rfl (fun W => run_neq _ _ _ _ W) ?_
 simp only [putT, List.set]
 refine wpV_pick (v := .bool false) (by rfl) rfl rfl rfl ?_
 simp only [putT, List.set]
 refine wpV_move (v := .bool false) (by rfl) rfl rfl ?_
 simp only [putT, List.set]
 refine wpV_move (v := .int .i64 0) (by rfl) rfl rfl ?_
 simp only [putT, List.set]
 refine wpV_bin (v := .bool false) (by rfl) rfl rfl rfl (fun W => run_neq _ _ _ _ W) ?_
 simp only [putT, List.set]
 refine wpV_pick (v := .bool false) (by rfl) rfl rfl rfl ?_
 simp only [putT, List.set]
 refine wpV_move (v := .bool false) (by rfl) rfl rfl ?_
 simp only [putT, List.set]
 refine wpV_move (v := .int .i64 0) (by rfl) rfl rfl ?_
 simp only [putT, List.set]
 refine wpV_bin (v := .bool false) (by rfl) rfl rfl rfl (fun W => run_neq _ _ _ _ W) ?_
 simp only [putT, List.set]
 refine wpV_pick (v := .bool false) (by rfl) rfl rfl rfl ?_
 simp only [putT, List.set]
 refine wpV_move (v := .bool false) (by rfl) rfl rfl ?_
 simp only [putT, List.set]
 refine wpV_move (v := .int .i64 0) (by rfl) rfl rfl ?_
 simp only [putT, List.set]
 refine wpV_bin (v := .bool false) (by rfl) rfl rfl rfl (fun W => run_neq _ _ _ _ W) ?_
 simp only [putT, List.set]
 refine wpV_pick (v := .bool false) (by rfl) rfl rfl rfl ?_
 simp only [putT, List.set]
 refine wpV_move (v := .bool false) (by rfl) rfl rfl ?_
 simp only [putT, List.set]
 refine wpV_move (v := .string (bs ls)) (by rfl) rfl rfl ?_
 simp only [putT, List.set]
 refine wpV_lenS (by rfl) rfl rfl rfl Try.underlying9 ?_
 simp only [putT, List.set]
 refine wpV_bin (v := .bool false) (by rfl) rfl rfl rfl (fun W => (run_neqN ls.length 32 _ _ W).trans (by rw [(decide_eq_false (fun h => h hls))])) ?_
 simp only [putT, List.set]
 refine wpV_pick (v := .bool false) (by rfl) rfl rfl rfl ?_
 simp only [putT, List.set]
 refine wpV_move (v := .bool false) (by rfl) rfl rfl ?_
 simp only [putT, List.set]
 refine wpV_move (v := .string (bs lt)) (by rfl) rfl rfl ?_
 simp only [putT, List.set]
 refine wpV_lenS (by rfl) rfl rfl rfl Try.underlying9 ?_
 simp only [putT, List.set]
 refine wpV_bin (v := .bool false) (by rfl) rfl rfl rfl (fun W => (run_neqN lt.length 32 _ _ W).trans (by rw [(decide_eq_false (fun h => h hlt))])) ?_
 simp only [putT, List.set]
 refine wpV_pick (v := .bool false) (by rfl) rfl rfl rfl ?_
 simp only [putT, List.set]
 refine wpV_move (v := .bool false) (by rfl) rfl rfl ?_
 simp only [putT, List.set]
 refine wpV_callf (v := .bool true) (args := #[]) (by rfl) rfl Try.func11 (by kernel_rfl) (by kernel_rfl) rfl (fun W hW => alive06_c) ?_
 simp only [putT, List.set]
 refine wpV_not (b := true) (by rfl) rfl rfl ?_
 simp only [Bool.not_true, Bool.not_false]
 simp only [putT, List.set]
 refine wpV_pick (v := .bool false) (by rfl) rfl rfl rfl ?_
 simp only [putT, List.set]
 refine wpV_nil (hLk _ (fun w37 Sw37 => ?_))
 clear hLk Lk
 simp only [List.take, List.drop]
 replace M := M.sees Sw37
 refine wpL_nil (no_panic ?_)
 refine hK35 _ _ ?_
 refine wp_cond_false rfl ?_
 refine wp_skip ?_
 refine hK34 _ _ ?_
 refine wp_seq_k (fun K38 hK38 => ?_)
 refine wp_region_seq ?_
 refine wpL_chunk 4 (by rfl) (fun Lk hLk => ?_)
 simp only [List.take, List.drop]
 refine wpV_val (v := .pointer (some ⟨g7, 0, none⟩)) (by rfl) (by rfl) (fun W hW => ?_) ?_
 ·
  (go_simp; exact rfl)
 simp only [putT, List.set]
 refine wpV_load (cs := fel pa.x) (by rfl) rfl rfl (M.r 3 0 rfl rfl) (M.lt 3 rfl) Try.underlying24 rfl info24 ?_
 simp only [putT, List.set]
 refine wpV_val (v := fe 0) (by rfl) (by rfl) (fun W hW => ?_) ?_
 ·
  rw [show fe 0 = .agg ([.int .u64 0, .int .u64 0, .int .u64 0, .int .u64 0]).toArray from (by kernel_rfl)]; unfold RunsVal; kernel_rfl
 simp only [putT, List.set]
 refine wpV_val (v := .bool false) (by rfl) (by rfl) (fun W hW => ?_) ?_
 ·
  exact hz ▸ run_eql_fe hpa.x (by decide) Try.underlying24 Try.underlying22 info22 (by kernel_rfl) rfl rfl rfl W
 simp only [putT, List.set]
 refine wpV_nil (hLk _ (fun w40 Sw40 => ?_))
 clear hLk Lk
 simp only [List.take, List.drop]
 replace M := M.sees Sw40
 refine wpL_assign (v := .bool false) (by rfl) (by rfl) (by rfl) ?_
 simp only [putT, List.set]
 refine wpL_nil (no_panic ?_)
 refine hK38 _ _ ?_
 refine wp_seq_k (fun K41 hK41 => ?_)
 refine wp_region_grow 33 [] (by kernel_rfl) (by kernel_rfl) (by kernel_rfl) (fun Lk hLk => ?_)
 simp only [List.take, List.drop]
 refine wpV_move (v := .string (bs ls)) (by rfl) rfl rfl ?_
 simp only [putT, List.set]
 refine wpV_takeS (l := ls) (hi := 31) (by rfl) rfl rfl rfl Try.underlying9 (by omega) ?_
 simp only [putT, List.set]
 refine wpV_move (v := .string (bs lt)) (by rfl) rfl rfl ?_
 simp only [putT, List.set]
 refine wpV_takeS (l := lt) (hi := 31) (by rfl) rfl rfl rfl Try.underlying9 (by omega) ?_
 simp only [putT, List.set]
 refine wpV_binS (v := .bool true) (by rfl) rfl rfl rfl (fun W => (run_eql_bs _ _ _ W).trans (by rw [(decide_eq_true hT)])) ?_
 simp only [putT, List.set]
 refine wpV_move (v := .bool true) (by rfl) rfl rfl ?_
 simp only [putT, List.set]
 refine wpV_move (v := .string (bs ls)) (by rfl) rfl rfl ?_
 simp only [putT, List.set]
 refine wpV_indexb (n := 31) (by omega) (by rfl) rfl rfl rfl Try.underlying9 ?_
 simp only [putT, List.set]
 refine wpV_move (v := .string (bs lt)) (by rfl) rfl rfl ?_
 simp only [putT, List.set]
 refine wpV_indexb (n := 31) (by omega) (by rfl) rfl rfl rfl Try.underlying9 ?_
 simp only [putT, List.set]
 refine wpV_bin (v := .int .u8 ((byteN ls 31 ^^^ byteN lt 31 : Nat) : Int)) (by rfl) rfl rfl rfl (fun W => nr_xor8 (byteN_lt ls 31) (byteN_lt lt 31) W) ?_
 simp only [putT, List.set]
 refine wpV_bin (v := .bool true) (by rfl) rfl rfl rfl (fun W => (run_eqlN (byteN ls 31 ^^^ byteN lt 31) 128 _ _ W).trans (by rw [hX])) ?_
 simp only [putT, List.set]
 refine wpV_move (v := .bool false) (by rfl) rfl rfl ?_
 simp only [putT, List.set]
 refine wpV_not (b := false) (by rfl) rfl rfl ?_
 simp only [Bool.not_true, Bool.not_false]
 simp only [putT, List.set]
 refine wpV_val (v := .bool true) (by rfl) (by rfl) (fun W hW => ?_) ?_
 ·
  (go_simp; exact rfl)
 simp only [putT, List.set]
 refine wpV_pick (v := .bool true) (by rfl) rfl rfl rfl ?_
 simp only [putT, List.set]
 refine wpV_move (v := .bool true) (by rfl) rfl rfl ?_
 simp only [putT, List.set]
 refine wpV_move (v := .string (bs ls)) (by rfl) rfl rfl ?_
 simp only [putT, List.set]
 refine wpV_move (v := .string (bs lt)) (by rfl) rfl rfl ?_
 simp only [putT, List.set]
 refine wpV_binS (v := .bool false) (by rfl) rfl rfl rfl (fun W => (run_eql_bs _ _ _ W).trans (by rw [hE])) ?_
 simp only [putT, List.set]
 refine wpV_move (v := .bool false) (by rfl) rfl rfl ?_
 simp only [putT, List.set]
 refine wpV_val (v := .bool true) (by rfl) (by rfl) (fun W hW => ?_) ?_
 ·
  (go_simp; exact rfl)
 simp only [putT, List.set]
 refine wpV_pick (v := .bool true) (by rfl) rfl rfl rfl ?_
 simp only [putT, List.set]
 refine wpV_move (v := .bool true) (by rfl) rfl rfl ?_
 simp only [putT, List.set]
 refine wpV_load (cs := fel pc.x ++ (fel pc.y) ++ (fel pc.z) ++ (fel pc.t)) (by rfl) rfl rfl (range_join (range_join (range_join (M.r 1 0 rfl rfl) (M.r 1 1 rfl rfl) (by simp [flen])) (M.r 1 2 rfl rfl) (by simp [flen])) (M.r 1 3 rfl rfl) (by simp [flen])) (M.lt 1 rfl) Try.underlying26 rfl info26 ?_
 simp only [putT, List.set]
 refine wpV_load (cs := fel pa.x ++ (fel pa.y) ++ (fel pa.z) ++ (fel pa.t)) (by rfl) rfl rfl (range_join (range_join (range_join (M.r 3 0 rfl rfl) (M.r 3 1 rfl rfl) (by simp [flen])) (M.r 3 2 rfl rfl) (by simp [flen])) (M.r 3 3 rfl rfl) (by simp [flen])) (M.lt 3 rfl) Try.underlying26 rfl info26 ?_
 simp only [putT, List.set]
 refine wpV_callf (v := .bool true) (args := #[.agg (fel pc.x ++ (fel pc.y) ++ (fel pc.z) ++ (fel pc.t) : List Value).toArray, .agg (fel pa.x ++ (fel pa.y) ++ (fel pa.z) ++ (fel pa.t) : List Value).toArray]) (by rfl) rfl Try.func20 (by kernel_rfl) (by kernel_rfl) rfl (fun W hW => (by have h9 := same_c (p := pc) (q := pa) (w := W) hpc hpa; rw [(same_eqv rpc rpa).2 eqA] at h9; exact h9)) ?_
 simp only [putT, List.set]
 refine wpV_pick (v := .bool true) (by rfl) rfl rfl rfl ?_
 simp only [putT, List.set]
 refine wpV_move (v := .bool true) (by rfl) rfl rfl ?_
 simp only [putT, List.set]
 refine wpV_load (cs := fel pd.x ++ (fel pd.y) ++ (fel pd.z) ++ (fel pd.t)) (by rfl) rfl rfl (range_join (range_join (range_join (M.r 0 0 rfl rfl) (M.r 0 1 rfl rfl) (by simp [flen])) (M.r 0 2 rfl rfl) (by simp [flen])) (M.r 0 3 rfl rfl) (by simp [flen])) (M.lt 0 rfl) Try.underlying26 rfl info26 ?_
 simp only [putT, List.set]
 refine wpV_load (cs := fel (negP pa).x ++ (fel (negP pa).y) ++ (fel (negP pa).z) ++ (fel (negP pa).t)) (by rfl) rfl rfl (range_join (range_join (range_join (M.r 2 0 rfl rfl) (M.r 2 1 rfl rfl) (by simp [flen])) (M.r 2 2 rfl rfl) (by simp [flen])) (M.r 2 3 rfl rfl) (by simp [flen])) (M.lt 2 rfl) Try.underlying26 rfl info26 ?_
 simp only [putT, List.set]
 refine wpV_callf (v := .bool true) (args := #[.agg (fel pd.x ++ (fel pd.y) ++ (fel pd.z) ++ (fel pd.t) : List Value).toArray, .agg (fel (negP pa).x ++ (fel (negP pa).y) ++ (fel (negP pa).z) ++ (fel (negP pa).t) : List Value).toArray]) (by rfl) rfl Try.func20 (by kernel_rfl) (by kernel_rfl) rfl (fun W hW => (by have h9 := same_c (p := pd) (q := negP pa) (w := W) hpd (negP_ok hpa); rw [(same_eqv rpd (right_neg rpa)).2 eqB] at h9; exact h9)) ?_
 simp only [putT, List.set]
 refine wpV_pick (v := .bool true) (by rfl) rfl rfl rfl ?_
 simp only [putT, List.set]
 refine wpV_nil (hLk.out _ ?_)
 clear hLk Lk
 simp only [List.take, List.drop]
 iterate 33 refine wpN_skip (by rfl) ?_
 refine wpN_nil (fun w43 Sw43 hbs => ?_)
 clear hbs
 replace M := M.sees Sw43
 refine wpL_assign (v := .bool true) (by rfl) (by rfl) (by rfl) ?_
 simp only [putT, List.set]
 refine wpL_nil (no_panic ?_)
 refine hK41 _ _ ?_
 refine wp_ret ?_
 repeat (first | with_reducible refine then_ret ?_ | with_reducible refine inblock_ret ?_)
 refine bodyPost_ret (v := .bool true) (res1 rfl (.tmp (by rfl))) rfl ?_
 have BE := M.below
 exact ⟨rfl, BE⟩
theorem xor_fin : ∀ a : Fin 128, (a.val ^^^ (a.val + 128)) = 128 ∧ ((a.val + 128) ^^^ a.val) = 128 := by decide
theorem xor_or {b x : Nat} (hb : b < 128) : (b + x % 2 * 128) ^^^ (b + (1 - x % 2) * 128) = 128 := by
 have h3 := xor_fin ⟨b, hb⟩
 simp only at h3
 rcases Nat.mod_two_eq_zero_or_one x with e | e
 ·
  rw [e, Nat.zero_mul, Nat.add_zero, Nat.sub_zero, Nat.one_mul]; exact h3.1
 ·
  rw [e, Nat.one_mul, Nat.sub_self, Nat.zero_mul, Nat.add_zero]; exact h3.2
theorem psigns_c {n : Nat} {w : World} (hn : n < 2 ^ 256) :
  Calls Try.prog 7 #[fe n] w fun e w' => e = .returned (.bool true) ∧ Below w.heap.size w w' := by
 have hr : rightP (mulR n baseP 256) = true := right_mulR rightP_base 256
 have hok := mulR_ok n baseP 256
 generalize hp : mulR n baseP 256 = p at hr hok
 have hrn := right_neg hr
 have hx := affX_ltp p
 have hy := affY_ltp p
 obtain ⟨nx, ny⟩ := aff_neg p
 have ox := (ofRightP hr).2.on
 have oxn := (ofRightP hrn).2.on
 have ra : rightP (affP (affX p) (affY p)) = true := aff_right hx hy ox
 have rb : rightP (affP (affX (negP p)) (affY (negP p))) = true := aff_right (affX_ltp _) (affY_ltp _) oxn
 have oka : (affP (affX p) (affY p)).Ok := affP_ok (affX_lt p) (affY_lt p)
 have okb : (affP (affX (negP p)) (affY (negP p))).Ok := affP_ok (affX_lt _) (affY_lt _)
 have hT : (textQ (affX p) (affY p)).take 31 = (textQ (affX (negP p)) (affY (negP p))).take 31 := by
  rw [textQ_app (affY_ltp p), textQ_app (affY_ltp _), List.take_left' (take_31 _), List.take_left' (take_31 _), ny]
 by_cases h0 : p.x = 0
 ·
  have h1 := (x_zero hr).1 h0
  have e1 : textQ (affX p) (affY p) = textQ (affX (negP p)) (affY (negP p)) := by rw [nx, ny, h1, neg_zero]
  exact psigns_zero hn hok hp hr rfl rfl oka rfl ra okb rfl rb (aff_eqv p) (aff_eqv _) (textQ_len _ _) (textQ_len _ _) hT (decide_eq_true h0) (decide_eq_false (by rw [e1, Nat.xor_self]; decide)) (decide_eq_true e1)
 ·
  have h1 : affX p ≠ 0 := fun e => h0 ((x_zero hr).2 e)
  have h2 := neg_par hx h1
  have b1 := textQ_byte (x := affX p) (affY_ltp p)
  have b2 := textQ_byte (x := affX (negP p)) (affY_ltp (negP p))
  rw [nx, ny, h2] at b2
  have hx3 : byteN (textQ (affX p) (affY p)) 31 ^^^ byteN (textQ (affX (negP p)) (affY (negP p))) 31 = 128 := by
   rw [nx, ny, b1, b2]
   exact xor_or (high_lt hy)
  have hne : ¬ textQ (affX p) (affY p) = textQ (affX (negP p)) (affY (negP p)) := fun e => by
   rw [← e, Nat.xor_self] at hx3
   exact absurd hx3 (by decide)
  exact psigns_non hn hok hp hr rfl rfl oka rfl ra okb rfl rb (aff_eqv p) (aff_eqv _) (textQ_len _ _) (textQ_len _ _) hT (decide_eq_false h0) (decide_eq_true hx3) (decide_eq_false hne)
end Go.Proofs.Yc

