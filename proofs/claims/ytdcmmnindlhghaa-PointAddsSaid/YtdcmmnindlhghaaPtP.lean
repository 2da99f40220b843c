import Derived.WalkKit
import Derived.WalkSpells
import Derived.Laws.Pointers
import Derived.RowKit3
import Derived.Below
import Derived.Outline
import Derived.LoopN
import Derived.Lib.Hide
import Derived.Handy
import Derived.Laws.Bits64b
import Derived.Test.YtdcmmnindlhghaaPtO
set_option linter.unusedSimpArgs false
set_option linter.unusedVariables false
namespace Go.Proofs.Yc
open Go Go.RowKit Go.Proofs.Num
attribute [local irreducible] wpV wpN wpList
open Go.Proofs.Ya
theorem byte_31 (y : Nat) : byteN (bytesN 32 y) 31 = y / 256 ^ 31 % 256 := by
 unfold byteN
 have h : (bytesN 32 y).getD 31 0 = UInt8.ofNat (y / 256 ^ 31) := by simp [bytesN, List.getD_eq_getElem?_getD]
 rw [h, UInt8.toNat_ofNat']
theorem or_high : ∀ b : Fin 128, (b.val ||| 128) = b.val + 128 := by decide
theorem set_last (l : List UInt8) (h : l.length = 32) (v : UInt8) : l.set 31 v = l.take 31 ++ [v] := by
 rw [List.set_eq_take_append_cons_drop, if_pos (by omega), List.drop_of_length_le (by omega)]
theorem text_same {x y : Nat} (hy : y < pF) : rText x y = textQ x y := by
 have hl : (bytesN 32 y).length = 32 := bytesN_len _ _
 have hb : y / 256 ^ 31 < 128 := by
  have : pF < 128 * 256 ^ 31 := by decide
  exact Nat.div_lt_of_lt_mul (by rw [Nat.mul_comm]; exact Nat.lt_trans hy this)
 unfold rText textQ
 rw [leastF_of_lt hy, set_last _ hl, byte_31, Nat.mod_eq_of_lt (show y / 256 ^ 31 < 256 by omega)]
 by_cases h : x % 2 = 1
 ·
  rw [if_pos h, h]
  have h9 := or_high ⟨y / 256 ^ 31, hb⟩
  simp only at h9
  rw [Nat.one_mul, h9, Nat.mod_eq_of_lt (by omega)]
 ·
  rw [if_neg h, show x % 2 = 0 by omega]
  have h9 : (bytesN 32 y).take 31 ++ [UInt8.ofNat (y / 256 ^ 31)] = bytesN 32 y := by
   rw [← set_last _ hl]
   have : (bytesN 32 y)[31]'(by omega) = UInt8.ofNat (y / 256 ^ 31) := by simp [bytesN]
   rw [← this, List.set_getElem_self]
  rw [Nat.zero_mul, Nat.or_zero, h9]
theorem eq_fe {P : Program} {T e : TypeId} (hT : P.underlying T = some (.array 4 e)) (he : P.underlying e = some (.int .u64)) (hs : (P.info? e).map (·.size) = some 1) {x y : Nat} (hx : x < 2 ^ 256) (hy : y < 2 ^ 256) : EqD P 2 T (.agg (fel x).toArray) (.agg (fel y).toArray) (decide (x = y)) := by
 have h := eq_arr hT he hs [limb x 0, limb x 1, limb x 2, limb x 3] [limb y 0, limb y 1, limb y 2, limb y 3] rfl rfl
 have e9 : decide ([limb x 0, limb x 1, limb x 2, limb x 3] = [limb y 0, limb y 1, limb y 2, limb y 3]) = decide (x = y) := by
  refine decide_eq_decide.2 ⟨fun q => ?_, fun q => by rw [q]⟩
  simp only [List.cons.injEq, and_true] at q
  have h1 := limbs_sum x hx
  have h2 := limbs_sum y hy
  rw [q.1, q.2.1, q.2.2.1, q.2.2.2, ← h2] at h1
  exact Int.ofNat.inj h1
 rw [e9] at h
 exact h
theorem someP {n z : Nat} (hz : z < 18446744073709551616) : rightP (scaleP (mulR n baseP 256) (z ||| 1)) = true := by
 refine right_scale (right_mulR rightP_base 256) (fq_small (fun h => ?_) (Nat.lt_trans (or1_lt hz) (by decide)))
 have h9 : 1 ≤ z ||| 1 := Nat.right_le_or
 omega
set_option maxRecDepth 100000 in
set_option maxHeartbeats 4000000 in
theorem padds_eq {n m z ax ay bx bz sx sy : Nat} {pa pb : P4} {w : World} (hn : n < 2 ^ 256) (hm : m < 2 ^ 256) (hz : z < 18446744073709551616) (hpa : pa.Ok) (hpb : pb.Ok) (epa : scaleP (mulR n baseP 256) (z ||| 1) = pa) (epb : scaleP (mulR m baseP 256) (z / 2 ^ 7 ||| 1) = pb) (rpa : rightP pa = true) (rpb : rightP pb = true) (eax : affX pa = ax) (eay : affY pa = ay) (ebx : affX pb = bx) (ebz : affY pb = bz) (esx : sumX ax ay bx bz = sx) (esy : sumY ax ay bx bz = sy) (hs : (decide (ax = bx) && (decide (ay = bz))) = true) :
  Calls Try.prog 5 #[fe n, fe m, .int .u64 ((z : Nat) : Int)] w fun e w' => e = .returned (.bool true) ∧ Below w.heap.size w w' := by
 have hpq := (ofRightP rpa).2
 have hqq := (ofRightP rpb).2
 obtain ⟨haX, haY⟩ := aff_add hpq hqq
 obtain ⟨hnX, hnY⟩ := aff_neg pa
 rw [eax, eay, ebx, ebz] at haX haY
 rw [esx] at haX
 rw [esy] at haY
 rw [eax] at hnX
 rw [eay] at hnY
 have lax : ax < 2 ^ 256 := eax ▸ affX_lt pa
 have lay : ay < 2 ^ 256 := eay ▸ affY_lt pa
 have lbx : bx < 2 ^ 256 := ebx ▸ affX_lt pb
 have lbz : bz < 2 ^ 256 := ebz ▸ affY_lt pb
 have lsx : sx < 2 ^ 256 := esx ▸ sumX_lt ..
 have lsy : sy < 2 ^ 256 := esy ▸ sumY_lt ..
 have hz7 : z / 2 ^ 7 < 18446744073709551616 := Nat.lt_of_le_of_lt (Nat.div_le_self ..) hz
 go_enter Try.func5, Try.ntmps5
 have M := Mem.start w
 refine wp_seq_k (fun K1 hK1 => ?_)
 refine wp_region_seq ?_
 refine wpL_var (t := 39) (cs := fel n) (by rfl) (fun W => ?_) (fun g3 w4 Sw4 Hg3 Bg3 => ?_)
 ·
  (first | rfl | go_simp)
 replace M := ((M.sees Sw4).add (N := 4) (cs := fel n) (M.ge Hg3) (M.fresh Hg3) Bg3 rfl)
 clear Bg3
 simp only [putT, List.set]
 refine wpL_var (t := 39) (cs := fel m) (by rfl) (fun W => ?_) (fun g5 w6 Sw6 Hg5 Bg5 => ?_)
 ·
  (first | rfl | go_simp)
 replace M := ((M.sees Sw6).add (N := 4) (cs := fel m) (M.ge Hg5) (M.fresh Hg5) Bg5 rfl)
 clear Bg5
 simp only [putT, List.set]
 refine wpL_assign (v := .bool false) (by rfl) (by rfl) (by rfl) ?_
 simp only [putT, List.set]
 refine wpL_nil (no_panic ?_)
 refine hK1 _ _ ?_
 refine wp_seq_k (fun K7 hK7 => ?_)
 refine wp_region_seq ?_
 refine wpL_chunk 6 (by rfl) (fun Lk hLk => ?_)
 simp only [List.take, List.drop]
 refine wpV_load (cs := fel n) (by rfl) rfl rfl (M.r 1 0 rfl rfl) (M.lt 1 rfl) Try.underlying39 rfl info39 ?_
 simp only [putT, List.set]
 refine wpV_move (v := .int .u64 ((z : Nat) : Int)) (by rfl) rfl rfl ?_
 simp only [putT, List.set]
 refine wpV_callf (v := .tuple #[.agg (fel pa.x ++ fel pa.y ++ fel pa.z ++ fel pa.t : List Value).toArray, .bool true]) (args := #[fe n, .int .u64 ((z : Nat) : Int)]) (by rfl) rfl Try.func24 (by kernel_rfl) (by kernel_rfl) rfl (fun W hW => (by have h9 := some_c (n := n) (z := z) (w := W) hn hz; rw [epa, rpa] at h9; exact h9)) ?_
 simp only [putT, List.set]
 refine wpV_move (v := .tuple #[.agg (fel pa.x ++ fel pa.y ++ fel pa.z ++ fel pa.t : List Value).toArray, .bool true]) (by rfl) rfl rfl ?_
 simp only [putT, List.set]
 refine wpV_extract (v := .agg (fel pa.x ++ fel pa.y ++ fel pa.z ++ fel pa.t : List Value).toArray) (by rfl) rfl rfl rfl ?_
 simp only [putT, List.set]
 refine wpV_extract (v := .bool true) (by rfl) rfl rfl rfl ?_
 simp only [putT, List.set]
 refine wpV_nil (hLk _ (fun w9 Sw9 => ?_))
 clear hLk Lk
 simp only [List.take, List.drop]
 replace M := M.sees Sw9
 refine wpL_var (t := 26) (cs := [.int .u64 0, .int .u64 0, .int .u64 0, .int .u64 0, .int .u64 0, .int .u64 0, .int .u64 0, .int .u64 0, .int .u64 0, .int .u64 0, .int .u64 0, .int .u64 0, .int .u64 0, .int .u64 0, .int .u64 0, .int .u64 0]) (by rfl) (fun W => ?_) (fun g10 w11 Sw11 Hg10 Bg10 => ?_)
 ·
  go_simp
 replace M := ((M.sees Sw11).addS (N := 16) (cs := [.int .u64 0, .int .u64 0, .int .u64 0, .int .u64 0, .int .u64 0, .int .u64 0, .int .u64 0, .int .u64 0, .int .u64 0, .int .u64 0, .int .u64 0, .int .u64 0, .int .u64 0, .int .u64 0, .int .u64 0, .int .u64 0]) (segs := [(0, [.int .u64 0, .int .u64 0, .int .u64 0, .int .u64 0]), (4, [.int .u64 0, .int .u64 0, .int .u64 0, .int .u64 0]), (8, [.int .u64 0, .int .u64 0, .int .u64 0, .int .u64 0]), (12, [.int .u64 0, .int .u64 0, .int .u64 0, .int .u64 0])]) (M.ge Hg10) (M.fresh Hg10) Bg10 rfl ⟨rfl, rfl, rfl, rfl, trivial⟩)
 clear Bg10
 simp only [putT, List.set]
 refine wpL_store (g := g10) (off := 0) (n := 16) (cs := fel pa.x ++ fel pa.y ++ fel pa.z ++ fel pa.t) (by rfl) (by rfl) (by rfl) (by rfl) (by rfl) (M.t 0 rfl) (by simp [flen]) info26 (one4 _ _ _ _) (fun w12 P R T => ?_)
 replace M := M.put (segs' := [(0, fel pa.x), (4, fel pa.y), (8, fel pa.z), (12, fel pa.t)]) 0 rfl P T (SegsOf.at R ⟨rfl, rfl, rfl, rfl, trivial⟩)
 simp only [List.set] at M
 refine wpL_assign (v := .bool true) (by rfl) (by rfl) (by rfl) ?_
 simp only [putT, List.set]
 refine wpL_nil (no_panic ?_)
 refine hK7 _ _ ?_
 refine wp_seq_k (fun K13 hK13 => ?_)
 refine wp_region_seq ?_
 refine wpL_chunk 7 (by rfl) (fun Lk hLk => ?_)
 simp only [List.take, List.drop]
 refine wpV_load (cs := fel m) (by rfl) rfl rfl (M.r 1 0 rfl rfl) (M.lt 1 rfl) Try.underlying39 rfl info39 ?_
 simp only [putT, List.set]
 refine wpV_move (v := .int .u64 ((z : Nat) : Int)) (by rfl) rfl rfl ?_
 simp only [putT, List.set]
 refine wpV_bin (v := .int .u64 ((z / 2 ^ 7 : Nat) : Int)) (by rfl) rfl rfl rfl (fun W => nr_shr64 (n := 7) (by decide) W) ?_
 simp only [putT, List.set]
 refine wpV_callf (v := .tuple #[.agg (fel pb.x ++ fel pb.y ++ fel pb.z ++ fel pb.t : List Value).toArray, .bool true]) (args := #[fe m, .int .u64 ((z / 2 ^ 7 : Nat) : Int)]) (by rfl) rfl Try.func24 (by kernel_rfl) (by kernel_rfl) rfl (fun W hW => (by have h9 := some_c (n := m) (z := z / 2 ^ 7) (w := W) hm hz7; rw [epb, rpb] at h9; exact h9)) ?_
 simp only [putT, List.set]
 refine wpV_move (v := .tuple #[.agg (fel pb.x ++ fel pb.y ++ fel pb.z ++ fel pb.t : List Value).toArray, .bool true]) (by rfl) rfl rfl ?_
 simp only [putT, List.set]
 refine wpV_extract (v := .agg (fel pb.x ++ fel pb.y ++ fel pb.z ++ fel pb.t : List Value).toArray) (by rfl) rfl rfl rfl ?_
 simp only [putT, List.set]
 refine wpV_extract (v := .bool true) (by rfl) rfl rfl rfl ?_
 simp only [putT, List.set]
 refine wpV_nil (hLk _ (fun w15 Sw15 => ?_))
 clear hLk Lk
 simp only [List.take, List.drop]
 replace M := M.sees Sw15
 refine wpL_var (t := 26) (cs := [.int .u64 0, .int .u64 0, .int .u64 0, .int .u64 0, .int .u64 0, .int .u64 0, .int .u64 0, .int .u64 0, .int .u64 0, .int .u64 0, .int .u64 0, .int .u64 0, .int .u64 0, .int .u64 0, .int .u64 0, .int .u64 0]) (by rfl) (fun W => ?_) (fun g16 w17 Sw17 Hg16 Bg16 => ?_)
 ·
  go_simp
 replace M := ((M.sees Sw17).addS (N := 16) (cs := [.int .u64 0, .int .u64 0, .int .u64 0, .int .u64 0, .int .u64 0, .int .u64 0, .int .u64 0, .int .u64 0, .int .u64 0, .int .u64 0, .int .u64 0, .int .u64 0, .int .u64 0, .int .u64 0, .int .u64 0, .int .u64 0]) (segs := [(0, [.int .u64 0, .int .u64 0, .int .u64 0, .int .u64 0]), (4, [.int .u64 0, .int .u64 0, .int .u64 0, .int .u64 0]), (8, [.int .u64 0, .int .u64 0, .int .u64 0, .int .u64 0]), (12, [.int .u64 0, .int .u64 0, .int .u64 0, .int .u64 0])]) (M.ge Hg16) (M.fresh Hg16) Bg16 rfl ⟨rfl, rfl, rfl, rfl, trivial⟩)
 clear Bg16
 simp only [putT, List.set]
 refine wpL_store (g := g16) (off := 0) (n := 16) (cs := fel pb.x ++ fel pb.y ++ fel pb.z ++ fel pb.t) (by rfl) (by rfl) (by rfl) (by rfl) (by rfl) (M.t 0 rfl) (by simp [flen]) info26 (one4 _ _ _ _) (fun w18 P R T => ?_)
 replace M := M.put (segs' := [(0, fel pb.x), (4, fel pb.y), (8, fel pb.z), (12, fel pb.t)]) 0 rfl P T (SegsOf.at R ⟨rfl, rfl, rfl, rfl, trivial⟩)
 simp only [List.set] at M
 refine wpL_assign (v := .bool true) (by rfl) (by rfl) (by rfl) ?_
 simp only [putT, List.set]
 refine wpL_nil (no_panic ?_)
 refine hK13 _ _ ?_
 refine wp_seq_k (fun K19 hK19 => ?_)
 refine wp_region_seq ?_
 refine wpL_chunk 6 (by rfl) (fun Lk hLk => ?_)
 simp only [List.take, List.drop]
 refine wpV_load (cs := fel pa.x ++ (fel pa.y) ++ (fel pa.z) ++ (fel pa.t)) (by rfl) rfl rfl (range_join (range_join (range_join (M.r 1 0 rfl rfl) (M.r 1 1 rfl rfl) (by simp [flen])) (M.r 1 2 rfl rfl) (by simp [flen])) (M.r 1 3 rfl rfl) (by simp [flen])) (M.lt 1 rfl) Try.underlying26 rfl info26 ?_
 simp only [putT, List.set]
 refine wpV_load (cs := fel pb.x ++ (fel pb.y) ++ (fel pb.z) ++ (fel pb.t)) (by rfl) rfl rfl (range_join (range_join (range_join (M.r 0 0 rfl rfl) (M.r 0 1 rfl rfl) (by simp [flen])) (M.r 0 2 rfl rfl) (by simp [flen])) (M.r 0 3 rfl rfl) (by simp [flen])) (M.lt 0 rfl) Try.underlying26 rfl info26 ?_
 simp only [putT, List.set]
 refine wpV_callf (v := .tuple #[.agg (fel (addP pa pb).x ++ fel (addP pa pb).y ++ fel (addP pa pb).z ++ fel (addP pa pb).t : List Value).toArray, .int .i64 0]) (args := #[.agg (fel pa.x ++ (fel pa.y) ++ (fel pa.z) ++ (fel pa.t) : List Value).toArray, .agg (fel pb.x ++ (fel pb.y) ++ (fel pb.z) ++ (fel pb.t) : List Value).toArray]) (by rfl) rfl Try.func21 (by kernel_rfl) (by kernel_rfl) rfl (fun W hW => Add_ok hpa hpb rpa rpb) ?_
 simp only [putT, List.set]
 refine wpV_move (v := .tuple #[.agg (fel (addP pa pb).x ++ fel (addP pa pb).y ++ fel (addP pa pb).z ++ fel (addP pa pb).t : List Value).toArray, .int .i64 0]) (by rfl) rfl rfl ?_
 simp only [putT, List.set]
 refine wpV_extract (v := .agg (fel (addP pa pb).x ++ fel (addP pa pb).y ++ fel (addP pa pb).z ++ fel (addP pa pb).t : List Value).toArray) (by rfl) rfl rfl rfl ?_
 simp only [putT, List.set]
 refine wpV_extract (v := .int .i64 0) (by rfl) rfl rfl rfl ?_
 simp only [putT, List.set]
 refine wpV_nil (hLk _ (fun w21 Sw21 => ?_))
 clear hLk Lk
 simp only [List.take, List.drop]
 replace M := M.sees Sw21
 refine wpL_var (t := 26) (cs := [.int .u64 0, .int .u64 0, .int .u64 0, .int .u64 0, .int .u64 0, .int .u64 0, .int .u64 0, .int .u64 0, .int .u64 0, .int .u64 0, .int .u64 0, .int .u64 0, .int .u64 0, .int .u64 0, .int .u64 0, .int .u64 0]) (by rfl) (fun W => ?_) (fun g22 w23 Sw23 Hg22 Bg22 => ?_)
 ·
  go_simp
 replace M := ((M.sees Sw23).addS (N := 16) (cs := [.int .u64 0, .int .u64 0, .int .u64 0, .int .u64 0, .int .u64 0, .int .u64 0, .int .u64 0, .int .u64 0, .int .u64 0, .int .u64 0, .int .u64 0, .int .u64 0, .int .u64 0, .int .u64 0, .int .u64 0, .int .u64 0]) (segs := [(0, [.int .u64 0, .int .u64 0, .int .u64 0, .int .u64 0]), (4, [.int .u64 0, .int .u64 0, .int .u64 0, .int .u64 0]), (8, [.int .u64 0, .int .u64 0, .int .u64 0, .int .u64 0]), (12, [.int .u64 0, .int .u64 0, .int .u64 0, .int .u64 0])]) (M.ge Hg22) (M.fresh Hg22) Bg22 rfl ⟨rfl, rfl, rfl, rfl, trivial⟩)
 clear Bg22
 simp only [putT, List.set]
 refine wpL_store (g := g22) (off := 0) (n := 16) (cs := fel (addP pa pb).x ++ fel (addP pa pb).y ++ fel (addP pa pb).z ++ fel (addP pa pb).t) (by rfl) (by rfl) (by rfl) (by rfl) (by rfl) (M.t 0 rfl) (by simp [flen]) info26 (one4 _ _ _ _) (fun w24 P R T => ?_)
 replace M := M.put (segs' := [(0, fel (addP pa pb).x), (4, fel (addP pa pb).y), (8, fel (addP pa pb).z), (12, fel (addP pa pb).t)]) 0 rfl P T (SegsOf.at R ⟨rfl, rfl, rfl, rfl, trivial⟩)
 simp only [List.set] at M
 refine wpL_assign (v := .int .i64 0) (by rfl) (by rfl) (by rfl) ?_
 simp only [putT, List.set]
 refine wpL_nil (no_panic ?_)
 refine hK19 _ _ ?_
 refine wp_seq_k (fun K25 hK25 => ?_)
 refine wp_seq_k (fun K26 hK26 => ?_)
 refine wp_region_seq ?_
 refine wpL_move (v := .bool true) (by rfl) (by rfl) (by rfl) ?_
 simp only [putT, List.set]
 refine wpL_chunk 18 (by rfl) (fun Lk hLk => ?_)
 simp only [List.take, List.drop]
 refine wpV_not (b := true) (by rfl) rfl rfl ?_
 simp only [Bool.not_true, Bool.not_false]
 simp only [putT, List.set]
 refine wpV_move (v := .bool false) (by rfl) rfl rfl ?_
 simp only [putT, List.set]
 refine wpV_move (v := .bool true) (by rfl) rfl rfl ?_
 simp only [putT, List.set]
 refine wpV_not (b := true) (by rfl) rfl rfl ?_
 simp only [Bool.not_true, Bool.not_false]
 simp only [putT, List.set]
 refine wpV_pick (v := .bool false) (by rfl) rfl rfl rfl ?_
 simp only [putT, List.set]
 refine wpV_move (v := .bool false) (by rfl) rfl rfl ?_
 simp only [putT, List.set]
 refine wpV_move (v := .int .i64 0) (by rfl) rfl rfl ?_
 simp only [putT, List.set]
 refine wpV_bin (v := .bool false) (by rfl) rfl rfl rfl (fun W => run_neq _ _ _ _ W) ?_
 simp only [putT, List.set]
 refine wpV_pick (v := .bool false) (by rfl) rfl rfl rfl ?_
 simp only [putT, List.set]
 refine wpV_move (v := .bool false) (by rfl) rfl rfl ?_
 simp only [putT, List.set]
 refine wpV_load (cs := fel (addP pa pb).x ++ (fel (addP pa pb).y) ++ (fel (addP pa pb).z) ++ (fel (addP pa pb).t)) (by rfl) rfl rfl (range_join (range_join (range_join (M.r 0 0 rfl rfl) (M.r 0 1 rfl rfl) (by simp [flen])) (M.r 0 2 rfl rfl) (by simp [flen])) (M.r 0 3 rfl rfl) (by simp [flen])) (M.lt 0 rfl) Try.underlying26 rfl info26 ?_
 simp only [putT, List.set]
 refine wpV_callf (v := .bool true) (args := #[.agg (fel (addP pa pb).x ++ (fel (addP pa pb).y) ++ (fel (addP pa pb).z) ++ (fel (addP pa pb).t) : List Value).toArray]) (by rfl) rfl Try.func17 (by kernel_rfl) (by kernel_rfl) rfl (fun W hW => (by have h9 := right_c (p := addP pa pb) (w := W) (addP_ok ..); rw [right_add rpa rpb] at h9; exact h9)) ?_
 simp only [putT, List.set]
 refine wpV_not (b := true) (by rfl) rfl rfl ?_
 simp only [Bool.not_true, Bool.not_false]
 simp only [putT, List.set]
 refine wpV_pick (v := .bool false) (by rfl) rfl rfl rfl ?_
 simp only [putT, List.set]
 refine wpV_move (v := .bool false) (by rfl) rfl rfl ?_
 simp only [putT, List.set]
 refine wpV_callf (v := .bool true) (args := #[]) (by rfl) rfl Try.func11 (by kernel_rfl) (by kernel_rfl) rfl (fun W hW => alive06_c) ?_
 simp only [putT, List.set]
 refine wpV_not (b := true) (by rfl) rfl rfl ?_
 simp only [Bool.not_true, Bool.not_false]
 simp only [putT, List.set]
 refine wpV_pick (v := .bool false) (by rfl) rfl rfl rfl ?_
 simp only [putT, List.set]
 refine wpV_nil (hLk _ (fun w28 Sw28 => ?_))
 clear hLk Lk
 simp only [List.take, List.drop]
 replace M := M.sees Sw28
 refine wpL_nil (no_panic ?_)
 refine hK26 _ _ ?_
 refine wp_cond_false rfl ?_
 refine wp_skip ?_
 refine hK25 _ _ ?_
 refine wp_seq_k (fun K29 hK29 => ?_)
 refine wp_region_grow 6 [] (by kernel_rfl) (by kernel_rfl) (by kernel_rfl) (fun Lk hLk => ?_)
 simp only [List.take, List.drop]
 refine wpV_load (cs := fel pa.x ++ (fel pa.y) ++ (fel pa.z) ++ (fel pa.t)) (by rfl) rfl rfl (range_join (range_join (range_join (M.r 2 0 rfl rfl) (M.r 2 1 rfl rfl) (by simp [flen])) (M.r 2 2 rfl rfl) (by simp [flen])) (M.r 2 3 rfl rfl) (by simp [flen])) (M.lt 2 rfl) Try.underlying26 rfl info26 ?_
 simp only [putT, List.set]
 refine wpV_callf (v := .agg (fel ax ++ fel ay : List Value).toArray) (args := #[.agg (fel pa.x ++ (fel pa.y) ++ (fel pa.z) ++ (fel pa.t) : List Value).toArray]) (by rfl) rfl Try.func18 (by kernel_rfl) (by kernel_rfl) rfl (fun W hW => (by have h9 := rAffine_c (w := W) hpa; rw [eax, eay] at h9; exact h9)) ?_
 simp only [putT, List.set]
 refine wpV_load (cs := fel pb.x ++ (fel pb.y) ++ (fel pb.z) ++ (fel pb.t)) (by rfl) rfl rfl (range_join (range_join (range_join (M.r 1 0 rfl rfl) (M.r 1 1 rfl rfl) (by simp [flen])) (M.r 1 2 rfl rfl) (by simp [flen])) (M.r 1 3 rfl rfl) (by simp [flen])) (M.lt 1 rfl) Try.underlying26 rfl info26 ?_
 simp only [putT, List.set]
 refine wpV_callf (v := .agg (fel bx ++ fel bz : List Value).toArray) (args := #[.agg (fel pb.x ++ (fel pb.y) ++ (fel pb.z) ++ (fel pb.t) : List Value).toArray]) (by rfl) rfl Try.func18 (by kernel_rfl) (by kernel_rfl) rfl (fun W hW => (by have h9 := rAffine_c (w := W) hpb; rw [ebx, ebz] at h9; exact h9)) ?_
 simp only [putT, List.set]
 refine wpV_alloc (by rfl) ?_
 refine wpV_alloc (by rfl) ?_
 refine wpV_nil (hLk.out _ ?_)
 clear hLk Lk
 simp only [List.take, List.drop]
 iterate 4 refine wpN_skip (by rfl) ?_
 refine wpN_new (t := 32) (cs := ([.int .u64 0, .int .u64 0, .int .u64 0, .int .u64 0, .int .u64 0, .int .u64 0, .int .u64 0, .int .u64 0]).toArray) (by rfl) (fun W => ?_) (fun g31 Hg31 ng31 => ?_)
 ·
  go_simp
 refine wpN_new (t := 32) (cs := ([.int .u64 0, .int .u64 0, .int .u64 0, .int .u64 0, .int .u64 0, .int .u64 0, .int .u64 0, .int .u64 0]).toArray) (by rfl) (fun W => ?_) (fun g32 Hg32 ng32 => ?_)
 ·
  go_simp
 simp only [putT, List.set]
 refine wpN_nil (fun w33 Sw33 hbs => ?_)
 replace M := (((M.sees Sw33).addS (N := 8) (cs := [.int .u64 0, .int .u64 0, .int .u64 0, .int .u64 0, .int .u64 0, .int .u64 0, .int .u64 0, .int .u64 0]) (segs := [(0, [.int .u64 0, .int .u64 0, .int .u64 0, .int .u64 0]), (4, [.int .u64 0, .int .u64 0, .int .u64 0, .int .u64 0])]) (M.ge Hg31) (M.fresh Hg31) (hbs _ (.tail _ (.head _))) rfl ⟨rfl, rfl, trivial⟩).addS (N := 8) (cs := [.int .u64 0, .int .u64 0, .int .u64 0, .int .u64 0, .int .u64 0, .int .u64 0, .int .u64 0, .int .u64 0]) (segs := [(0, [.int .u64 0, .int .u64 0, .int .u64 0, .int .u64 0]), (4, [.int .u64 0, .int .u64 0, .int .u64 0, .int .u64 0])]) (M.ge Hg32) (fcons (ng32 _ (.head _)) (M.fresh Hg32)) (hbs _ (.head _)) rfl ⟨rfl, rfl, trivial⟩)
 clear hbs ng31 ng32
 refine wpL_store (g := g31) (off := 0) (n := 8) (cs := fel ax ++ fel ay) (by rfl) (by rfl) (by rfl) (by rfl) (by rfl) (M.t 1 rfl) (by simp [flen]) info32 (two4 _ _) (fun w34 P R T => ?_)
 replace M := M.put (segs' := [(0, fel ax), (4, fel ay)]) 1 rfl P T (SegsOf.at R ⟨rfl, rfl, trivial⟩)
 simp only [List.set] at M
 refine wpL_store (g := g32) (off := 0) (n := 8) (cs := fel bx ++ fel bz) (by rfl) (by rfl) (by rfl) (by rfl) (by rfl) (M.t 0 rfl) (by simp [flen]) info32 (two4 _ _) (fun w35 P R T => ?_)
 replace M := M.put (segs' := [(0, fel bx), (4, fel bz)]) 0 rfl P T (SegsOf.at R ⟨rfl, rfl, trivial⟩)
 simp only [List.set] at M
 refine wpL_nil (no_panic ?_)
 refine hK29 _ _ ?_
 refine wp_seq_k (fun K36 hK36 => ?_)
 refine wp_seq_k (fun K37 hK37 => ?_)
 refine wp_region_grow 6 [] (by kernel_rfl) (by kernel_rfl) (by kernel_rfl) (fun Lk hLk => ?_)
 simp only [List.take, List.drop]
 refine wpV_load (cs := fel (addP pa pb).x ++ (fel (addP pa pb).y) ++ (fel (addP pa pb).z) ++ (fel (addP pa pb).t)) (by rfl) rfl rfl (range_join (range_join (range_join (M.r 2 0 rfl rfl) (M.r 2 1 rfl rfl) (by simp [flen])) (M.r 2 2 rfl rfl) (by simp [flen])) (M.r 2 3 rfl rfl) (by simp [flen])) (M.lt 2 rfl) Try.underlying26 rfl info26 ?_
 simp only [putT, List.set]
 refine wpV_callf (v := .agg (fel sx ++ fel sy : List Value).toArray) (args := #[.agg (fel (addP pa pb).x ++ (fel (addP pa pb).y) ++ (fel (addP pa pb).z) ++ (fel (addP pa pb).t) : List Value).toArray]) (by rfl) rfl Try.func18 (by kernel_rfl) (by kernel_rfl) rfl (fun W hW => (by have h9 := rAffine_c (p := addP pa pb) (w := W) (addP_ok ..); rw [haX, haY] at h9; exact h9)) ?_
 simp only [putT, List.set]
 refine wpV_load (cs := fel ax ++ (fel ay)) (by rfl) rfl rfl (range_join (M.r 1 0 rfl rfl) (M.r 1 1 rfl rfl) (by simp [flen])) (M.lt 1 rfl) Try.underlying32 rfl info32 ?_
 simp only [putT, List.set]
 refine wpV_load (cs := fel bx ++ (fel bz)) (by rfl) rfl rfl (range_join (M.r 0 0 rfl rfl) (M.r 0 1 rfl rfl) (by simp [flen])) (M.lt 0 rfl) Try.underlying32 rfl info32 ?_
 simp only [putT, List.set]
 refine wpV_callf (v := .agg (fel sx ++ fel sy : List Value).toArray) (args := #[.agg (fel ax ++ (fel ay) : List Value).toArray, .agg (fel bx ++ (fel bz) : List Value).toArray]) (by rfl) rfl Try.func25 (by kernel_rfl) (by kernel_rfl) rfl (fun W hW => (by have h9 := rSum_c (a := ax) (b := ay) (c := bx) (d := bz) (w := W) lax lay lbx lbz; rw [esx, esy] at h9; exact h9)) ?_
 simp only [putT, List.set]
 refine wpV_neqT (k := 3) (u := fel sx ++ fel sy) (v := fel sx ++ fel sy) (b := true) (by rfl) rfl rfl rfl (by kernel_rfl) ((eq_struct (k := 2) (xs := fel sx ++ fel sy) (ys := fel sx ++ fel sy) (fs := [(false, 24, 0), (false, 24, 4)]) (bs := [true, true]) Try.underlying32 (by kernel_rfl) (by rfl) ⟨rfl, ⟨.agg (fel sx).toArray, .agg (fel sx).toArray, (fun W => run_part_row Try.underlying24 rfl info24 rfl W), (fun W => run_part_row Try.underlying24 rfl info24 rfl W), ((eq_fe Try.underlying24 Try.underlying22 info22 lsx lsx).bool (decide_eq_true rfl))⟩, rfl, ⟨.agg (fel sy).toArray, .agg (fel sy).toArray, (fun W => run_part_row Try.underlying24 rfl info24 rfl W), (fun W => run_part_row Try.underlying24 rfl info24 rfl W), ((eq_fe Try.underlying24 Try.underlying22 info22 lsy lsy).bool (decide_eq_true rfl))⟩, trivial⟩).bool (by simp only [List.all_cons, List.all_nil, id, Bool.and_true, Bool.true_and])) (by decide) ?_
 simp only [Bool.not_true, Bool.not_false]
 simp only [putT, List.set]
 refine wpV_nil (hLk.out _ ?_)
 clear hLk Lk
 simp only [List.take, List.drop]
 iterate 6 refine wpN_skip (by rfl) ?_
 refine wpN_nil (fun w39 Sw39 hbs => ?_)
 clear hbs
 replace M := M.sees Sw39
 refine wpL_nil (no_panic ?_)
 refine hK37 _ _ ?_
 refine wp_cond_false rfl ?_
 refine wp_skip ?_
 refine hK36 _ _ ?_
 refine wp_seq_k (fun K40 hK40 => ?_)
 refine wp_region_seq ?_
 refine wpL_chunk 5 (by rfl) (fun Lk hLk => ?_)
 simp only [List.take, List.drop]
 refine wpV_load (cs := fel pa.x ++ (fel pa.y) ++ (fel pa.z) ++ (fel pa.t)) (by rfl) rfl rfl (range_join (range_join (range_join (M.r 4 0 rfl rfl) (M.r 4 1 rfl rfl) (by simp [flen])) (M.r 4 2 rfl rfl) (by simp [flen])) (M.r 4 3 rfl rfl) (by simp [flen])) (M.lt 4 rfl) Try.underlying26 rfl info26 ?_
 simp only [putT, List.set]
 refine wpV_callf (v := .tuple #[.agg (fel (negP pa).x ++ fel (negP pa).y ++ fel (negP pa).z ++ fel (negP pa).t : List Value).toArray, .int .i64 0]) (args := #[.agg (fel pa.x ++ (fel pa.y) ++ (fel pa.z) ++ (fel pa.t) : List Value).toArray]) (by rfl) rfl Try.func22 (by kernel_rfl) (by kernel_rfl) rfl (fun W hW => Neg_ok hpa rpa) ?_
 simp only [putT, List.set]
 refine wpV_move (v := .tuple #[.agg (fel (negP pa).x ++ fel (negP pa).y ++ fel (negP pa).z ++ fel (negP pa).t : List Value).toArray, .int .i64 0]) (by rfl) rfl rfl ?_
 simp only [putT, List.set]
 refine wpV_extract (v := .agg (fel (negP pa).x ++ fel (negP pa).y ++ fel (negP pa).z ++ fel (negP pa).t : List Value).toArray) (by rfl) rfl rfl rfl ?_
 simp only [putT, List.set]
 refine wpV_extract (v := .int .i64 0) (by rfl) rfl rfl rfl ?_
 simp only [putT, List.set]
 refine wpV_nil (hLk _ (fun w42 Sw42 => ?_))
 clear hLk Lk
 simp only [List.take, List.drop]
 replace M := M.sees Sw42
 refine wpL_var (t := 26) (cs := [.int .u64 0, .int .u64 0, .int .u64 0, .int .u64 0, .int .u64 0, .int .u64 0, .int .u64 0, .int .u64 0, .int .u64 0, .int .u64 0, .int .u64 0, .int .u64 0, .int .u64 0, .int .u64 0, .int .u64 0, .int .u64 0]) (by rfl) (fun W => ?_) (fun g43 w44 Sw44 Hg43 Bg43 => ?_)
 ·
  go_simp
 replace M := ((M.sees Sw44).addS (N := 16) (cs := [.int .u64 0, .int .u64 0, .int .u64 0, .int .u64 0, .int .u64 0, .int .u64 0, .int .u64 0, .int .u64 0, .int .u64 0, .int .u64 0, .int .u64 0, .int .u64 0, .int .u64 0, .int .u64 0, .int .u64 0, .int .u64 0]) (segs := [(0, [.int .u64 0, .int .u64 0, .int .u64 0, .int .u64 0]), (4, [.int .u64 0, .int .u64 0, .int .u64 0, .int .u64 0]), (8, [.int .u64 0, .int .u64 0, .int .u64 0, .int .u64 0]), (12, [.int .u64 0, .int .u64 0, .int .u64 0, .int .u64 0])]) (M.ge Hg43) (M.fresh Hg43) Bg43 rfl ⟨rfl, rfl, rfl, rfl, trivial⟩)
 clear Bg43
 simp only [putT, List.set]
 refine wpL_store (g := g43) (off := 0) (n := 16) (cs := fel (negP pa).x ++ fel (negP pa).y ++ fel (negP pa).z ++ fel (negP pa).t) (by rfl) (by rfl) (by rfl) (by rfl) (by rfl) (M.t 0 rfl) (by simp [flen]) info26 (one4 _ _ _ _) (fun w45 P R T => ?_)
 replace M := M.put (segs' := [(0, fel (negP pa).x), (4, fel (negP pa).y), (8, fel (negP pa).z), (12, fel (negP pa).t)]) 0 rfl P T (SegsOf.at R ⟨rfl, rfl, rfl, rfl, trivial⟩)
 simp only [List.set] at M
 refine wpL_assign (v := .int .i64 0) (by rfl) (by rfl) (by rfl) ?_
 simp only [putT, List.set]
 refine wpL_nil (no_panic ?_)
 refine hK40 _ _ ?_
 refine wp_seq_k (fun K46 hK46 => ?_)
 refine wp_region_seq ?_
 refine wpL_chunk 5 (by rfl) (fun Lk hLk => ?_)
 simp only [List.take, List.drop]
 refine wpV_load (cs := fel pa.x ++ (fel pa.y) ++ (fel pa.z) ++ (fel pa.t)) (by rfl) rfl rfl (range_join (range_join (range_join (M.r 5 0 rfl rfl) (M.r 5 1 rfl rfl) (by simp [flen])) (M.r 5 2 rfl rfl) (by simp [flen])) (M.r 5 3 rfl rfl) (by simp [flen])) (M.lt 5 rfl) Try.underlying26 rfl info26 ?_
 simp only [putT, List.set]
 refine wpV_callf (v := .tuple #[.string (bs (textQ ax ay)), .int .i64 0]) (args := #[.agg (fel pa.x ++ (fel pa.y) ++ (fel pa.z) ++ (fel pa.t) : List Value).toArray]) (by rfl) rfl Try.func13 (by kernel_rfl) (by kernel_rfl) rfl (fun W hW => (by have h9 := Bytes_ok (w := W) hpa rpa; rw [eax, eay] at h9; exact h9)) ?_
 simp only [putT, List.set]
 refine wpV_move (v := .tuple #[.string (bs (textQ ax ay)), .int .i64 0]) (by rfl) rfl rfl ?_
 simp only [putT, List.set]
 refine wpV_extract (v := .string (bs (textQ ax ay))) (by rfl) rfl rfl rfl ?_
 simp only [putT, List.set]
 refine wpV_extract (v := .int .i64 0) (by rfl) rfl rfl rfl ?_
 simp only [putT, List.set]
 refine wpV_nil (hLk _ (fun w48 Sw48 => ?_))
 clear hLk Lk
 simp only [List.take, List.drop]
 replace M := M.sees Sw48
 refine wpL_assign (v := .string (bs (textQ ax ay))) (by rfl) (by rfl) (by rfl) ?_
 simp only [putT, List.set]
 refine wpL_assign (v := .int .i64 0) (by rfl) (by rfl) (by rfl) ?_
 simp only [putT, List.set]
 refine wpL_nil (no_panic ?_)
 refine hK46 _ _ ?_
 refine wp_seq_k (fun K49 hK49 => ?_)
 refine wp_region_seq ?_
 refine wpL_chunk 2 (by rfl) (fun Lk hLk => ?_)
 simp only [List.take, List.drop]
 refine wpV_load (cs := fel (negP pa).x ++ (fel (negP pa).y) ++ (fel (negP pa).z) ++ (fel (negP pa).t)) (by rfl) rfl rfl (range_join (range_join (range_join (M.r 0 0 rfl rfl) (M.r 0 1 rfl rfl) (by simp [flen])) (M.r 0 2 rfl rfl) (by simp [flen])) (M.r 0 3 rfl rfl) (by simp [flen])) (M.lt 0 rfl) Try.underlying26 rfl info26 ?_
 simp only [putT, List.set]
 refine wpV_callf (v := .agg (fel (fsub 0 ax) ++ fel ay : List Value).toArray) (args := #[.agg (fel (negP pa).x ++ (fel (negP pa).y) ++ (fel (negP pa).z) ++ (fel (negP pa).t) : List Value).toArray]) (by rfl) rfl Try.func18 (by kernel_rfl) (by kernel_rfl) rfl (fun W hW => (by have h9 := rAffine_c (p := negP pa) (w := W) (negP_ok hpa); rw [hnX, hnY] at h9; exact h9)) ?_
 simp only [putT, List.set]
 refine wpV_nil (hLk _ (fun w51 Sw51 => ?_))
 clear hLk Lk
 simp only [List.take, List.drop]
 replace M := M.sees Sw51
 refine wpL_var (t := 32) (cs := [.int .u64 0, .int .u64 0, .int .u64 0, .int .u64 0, .int .u64 0, .int .u64 0, .int .u64 0, .int .u64 0]) (by rfl) (fun W => ?_) (fun g52 w53 Sw53 Hg52 Bg52 => ?_)
 ·
  go_simp
 replace M := ((M.sees Sw53).addS (N := 8) (cs := [.int .u64 0, .int .u64 0, .int .u64 0, .int .u64 0, .int .u64 0, .int .u64 0, .int .u64 0, .int .u64 0]) (segs := [(0, [.int .u64 0, .int .u64 0, .int .u64 0, .int .u64 0]), (4, [.int .u64 0, .int .u64 0, .int .u64 0, .int .u64 0])]) (M.ge Hg52) (M.fresh Hg52) Bg52 rfl ⟨rfl, rfl, trivial⟩)
 clear Bg52
 simp only [putT, List.set]
 refine wpL_store (g := g52) (off := 0) (n := 8) (cs := fel (fsub 0 ax) ++ fel ay) (by rfl) (by rfl) (by rfl) (by rfl) (by rfl) (M.t 0 rfl) (by simp [flen]) info32 (two4 _ _) (fun w54 P R T => ?_)
 replace M := M.put (segs' := [(0, fel (fsub 0 ax)), (4, fel ay)]) 0 rfl P T (SegsOf.at R ⟨rfl, rfl, trivial⟩)
 simp only [List.set] at M
 refine wpL_nil (no_panic ?_)
 refine hK49 _ _ ?_
 refine wp_seq_k (fun K55 hK55 => ?_)
 refine wp_region_grow 42 [] (by kernel_rfl) (by kernel_rfl) (by kernel_rfl) (fun Lk hLk => ?_)
 simp only [List.take, List.drop]
 refine wpV_move (v := .int .i64 0) (by rfl) rfl rfl ?_
 simp only [putT, List.set]
 refine wpV_bin (v := .bool true) (by rfl) rfl rfl rfl (fun W => run_eql _ _ _ _ W) ?_
 simp only [putT, List.set]
 refine wpV_move (v := .bool true) (by rfl) rfl rfl ?_
 simp only [putT, List.set]
 refine wpV_move (v := .int .i64 0) (by rfl) rfl rfl ?_
 simp only [putT, List.set]
 refine wpV_bin (v := .bool true) (by rfl) rfl rfl rfl (fun W => run_eql _ _ _ _ W) ?_
 simp only [putT, List.set]
 refine wpV_pick (v := .bool true) (by rfl) rfl rfl rfl ?_
 simp only [putT, List.set]
 refine wpV_move (v := .bool true) (by rfl) rfl rfl ?_
 simp only [putT, List.set]
 refine wpV_val (v := .pointer (some ⟨g52, 4, none⟩)) (by rfl) (by rfl) (fun W hW => ?_) ?_
 ·
  (go_simp; exact rfl)
 simp only [putT, List.set]
 refine wpV_load (cs := fel ay) (by rfl) rfl rfl (M.r 0 1 rfl rfl) (M.lt 0 rfl) Try.underlying24 rfl info24 ?_
 simp only [putT, List.set]
 refine wpV_val (v := .pointer (some ⟨g31, 4, none⟩)) (by rfl) (by rfl) (fun W hW => ?_) ?_
 ·
  (go_simp; exact rfl)
 simp only [putT, List.set]
 refine wpV_load (cs := fel ay) (by rfl) rfl rfl (M.r 3 1 rfl rfl) (M.lt 3 rfl) Try.underlying24 rfl info24 ?_
 simp only [putT, List.set]
 refine wpV_val (v := .bool true) (by rfl) (by rfl) (fun W hW => ?_) ?_
 ·
  exact run_eql_fe_same lay Try.underlying24 Try.underlying22 info22 (by kernel_rfl) rfl rfl rfl W
 simp only [putT, List.set]
 refine wpV_pick (v := .bool true) (by rfl) rfl rfl rfl ?_
 simp only [putT, List.set]
 refine wpV_move (v := .bool true) (by rfl) rfl rfl ?_
 simp only [putT, List.set]
 refine wpV_val (v := .pointer (some ⟨g52, 0, none⟩)) (by rfl) (by rfl) (fun W hW => ?_) ?_
 ·
  (go_simp; exact rfl)
 simp only [putT, List.set]
 refine wpV_load (cs := fel (fsub 0 ax)) (by rfl) rfl rfl (M.r 0 0 rfl rfl) (M.lt 0 rfl) Try.underlying24 rfl info24 ?_
 simp only [putT, List.set]
 refine wpV_val (v := fe 0) (by rfl) (by rfl) (fun W hW => ?_) ?_
 ·
  rw [show fe 0 = .agg ([.int .u64 0, .int .u64 0, .int .u64 0, .int .u64 0]).toArray from (by kernel_rfl)]; unfold RunsVal; kernel_rfl
 simp only [putT, List.set]
 refine wpV_val (v := .pointer (some ⟨g31, 0, none⟩)) (by rfl) (by rfl) (fun W hW => ?_) ?_
 ·
  (go_simp; exact rfl)
 simp only [putT, List.set]
 refine wpV_load (cs := fel ax) (by rfl) rfl rfl (M.r 3 0 rfl rfl) (M.lt 3 rfl) Try.underlying24 rfl info24 ?_
 simp only [putT, List.set]
 refine wpV_callf (v := fe (fsub 0 ax)) (args := #[fe 0, fe ax]) (by rfl) rfl Try.func26 (by kernel_rfl) (by kernel_rfl) rfl (fun W hW => fsub_c (by decide) lax W) ?_
 simp only [putT, List.set]
 refine wpV_val (v := .bool true) (by rfl) (by rfl) (fun W hW => ?_) ?_
 ·
  exact run_eql_fe_same (fsub_lt ..) Try.underlying24 Try.underlying22 info22 (by kernel_rfl) rfl rfl rfl W
 simp only [putT, List.set]
 refine wpV_pick (v := .bool true) (by rfl) rfl rfl rfl ?_
 simp only [putT, List.set]
 refine wpV_move (v := .bool true) (by rfl) rfl rfl ?_
 simp only [putT, List.set]
 refine wpV_move (v := .string (bs (textQ ax ay))) (by rfl) rfl rfl ?_
 simp only [putT, List.set]
 refine wpV_load (cs := fel ax ++ (fel ay)) (by rfl) rfl rfl (range_join (M.r 3 0 rfl rfl) (M.r 3 1 rfl rfl) (by simp [flen])) (M.lt 3 rfl) Try.underlying32 rfl info32 ?_
 simp only [putT, List.set]
 refine wpV_callf (v := .string (bs (textQ ax ay))) (args := #[.agg (fel ax ++ (fel ay) : List Value).toArray]) (by rfl) rfl Try.func27 (by kernel_rfl) (by kernel_rfl) rfl (fun W hW => (by have h9 := rText_c (a := ax) (b := ay) (w := W) lax lay; rw [text_same (eay ▸ affY_ltp pa)] at h9; exact h9)) ?_
 simp only [putT, List.set]
 refine wpV_binS (v := .bool true) (by rfl) rfl rfl rfl (fun W => (run_eql_bs _ _ _ W).trans (by rw [show decide (textQ ax ay = textQ ax ay) = true from (decide_eq_true rfl)])) ?_
 simp only [putT, List.set]
 refine wpV_pick (v := .bool true) (by rfl) rfl rfl rfl ?_
 simp only [putT, List.set]
 refine wpV_move (v := .bool true) (by rfl) rfl rfl ?_
 simp only [putT, List.set]
 refine wpV_load (cs := fel pa.x ++ (fel pa.y) ++ (fel pa.z) ++ (fel pa.t)) (by rfl) rfl rfl (range_join (range_join (range_join (M.r 6 0 rfl rfl) (M.r 6 1 rfl rfl) (by simp [flen])) (M.r 6 2 rfl rfl) (by simp [flen])) (M.r 6 3 rfl rfl) (by simp [flen])) (M.lt 6 rfl) Try.underlying26 rfl info26 ?_
 simp only [putT, List.set]
 refine wpV_load (cs := fel pb.x ++ (fel pb.y) ++ (fel pb.z) ++ (fel pb.t)) (by rfl) rfl rfl (range_join (range_join (range_join (M.r 5 0 rfl rfl) (M.r 5 1 rfl rfl) (by simp [flen])) (M.r 5 2 rfl rfl) (by simp [flen])) (M.r 5 3 rfl rfl) (by simp [flen])) (M.lt 5 rfl) Try.underlying26 rfl info26 ?_
 simp only [putT, List.set]
 refine wpV_callf (v := .bool true) (args := #[.agg (fel pa.x ++ (fel pa.y) ++ (fel pa.z) ++ (fel pa.t) : List Value).toArray, .agg (fel pb.x ++ (fel pb.y) ++ (fel pb.z) ++ (fel pb.t) : List Value).toArray]) (by rfl) rfl Try.func20 (by kernel_rfl) (by kernel_rfl) rfl (fun W hW => (by have h9 := same_c (w := W) hpa hpb; rw [same_aff rpa rpb, eax, eay, ebx, ebz, hs] at h9; exact h9)) ?_
 simp only [putT, List.set]
 refine wpV_load (cs := fel ax ++ (fel ay)) (by rfl) rfl rfl (range_join (M.r 3 0 rfl rfl) (M.r 3 1 rfl rfl) (by simp [flen])) (M.lt 3 rfl) Try.underlying32 rfl info32 ?_
 simp only [putT, List.set]
 refine wpV_load (cs := fel bx ++ (fel bz)) (by rfl) rfl rfl (range_join (M.r 2 0 rfl rfl) (M.r 2 1 rfl rfl) (by simp [flen])) (M.lt 2 rfl) Try.underlying32 rfl info32 ?_
 simp only [putT, List.set]
 refine wpV_eqlT (k := 3) (u := fel ax ++ (fel ay)) (v := fel bx ++ (fel bz)) (b := true) (by rfl) rfl rfl rfl (by kernel_rfl) (((eq_struct (k := 2) (xs := fel ax ++ (fel ay)) (ys := fel bx ++ (fel bz)) (fs := [(false, 24, 0), (false, 24, 4)]) (bs := [decide (ax = bx), decide (ay = bz)]) Try.underlying32 (by kernel_rfl) (by rfl) ⟨rfl, ⟨.agg (fel ax).toArray, .agg (fel bx).toArray, (fun W => run_part_row Try.underlying24 rfl info24 rfl W), (fun W => run_part_row Try.underlying24 rfl info24 rfl W), (eq_fe Try.underlying24 Try.underlying22 info22 lax lbx)⟩, rfl, ⟨.agg (fel ay).toArray, .agg (fel bz).toArray, (fun W => run_part_row Try.underlying24 rfl info24 rfl W), (fun W => run_part_row Try.underlying24 rfl info24 rfl W), (eq_fe Try.underlying24 Try.underlying22 info22 lay lbz)⟩, trivial⟩).bool (by simp only [List.all_cons, List.all_nil, id, Bool.and_true, Bool.true_and])).bool hs) (by decide) ?_
 simp only [putT, List.set]
 refine wpV_val (v := .bool true) (by rfl) (by rfl) (fun W hW => ?_) ?_
 ·
  (go_simp; exact rfl)
 simp only [putT, List.set]
 refine wpV_pick (v := .bool true) (by rfl) rfl rfl rfl ?_
 simp only [putT, List.set]
 refine wpV_move (v := .bool true) (by rfl) rfl rfl ?_
 simp only [putT, List.set]
 refine wpV_load (cs := fel pa.x ++ (fel pa.y) ++ (fel pa.z) ++ (fel pa.t)) (by rfl) rfl rfl (range_join (range_join (range_join (M.r 6 0 rfl rfl) (M.r 6 1 rfl rfl) (by simp [flen])) (M.r 6 2 rfl rfl) (by simp [flen])) (M.r 6 3 rfl rfl) (by simp [flen])) (M.lt 6 rfl) Try.underlying26 rfl info26 ?_
 simp only [putT, List.set]
 refine wpV_load (cs := fel pa.x ++ (fel pa.y) ++ (fel pa.z) ++ (fel pa.t)) (by rfl) rfl rfl (range_join (range_join (range_join (M.r 6 0 rfl rfl) (M.r 6 1 rfl rfl) (by simp [flen])) (M.r 6 2 rfl rfl) (by simp [flen])) (M.r 6 3 rfl rfl) (by simp [flen])) (M.lt 6 rfl) Try.underlying26 rfl info26 ?_
 simp only [putT, List.set]
 refine wpV_callf (v := .bool true) (args := #[.agg (fel pa.x ++ (fel pa.y) ++ (fel pa.z) ++ (fel pa.t) : List Value).toArray, .agg (fel pa.x ++ (fel pa.y) ++ (fel pa.z) ++ (fel pa.t) : List Value).toArray]) (by rfl) rfl Try.func20 (by kernel_rfl) (by kernel_rfl) rfl (fun W hW => (by have h9 := same_c (w := W) hpa hpa; rw [same_self rpa] at h9; exact h9)) ?_
 simp only [putT, List.set]
 refine wpV_pick (v := .bool true) (by rfl) rfl rfl rfl ?_
 simp only [putT, List.set]
 refine wpV_nil (hLk.out _ ?_)
 clear hLk Lk
 simp only [List.take, List.drop]
 iterate 42 refine wpN_skip (by rfl) ?_
 refine wpN_nil (fun w57 Sw57 hbs => ?_)
 clear hbs
 replace M := M.sees Sw57
 refine wpL_assign (v := .bool true) (by rfl) (by rfl) (by rfl) ?_
 simp only [putT, List.set]
 refine wpL_nil (no_panic ?_)
 refine hK55 _ _ ?_
 refine wp_ret ?_
 repeat (first | with_reducible refine then_ret ?_ | with_reducible refine inblock_ret ?_)
 refine bodyPost_ret (v := .bool true) (res1 rfl (.tmp (by rfl))) rfl ?_
 have BE := M.below
 exact ⟨rfl, BE⟩
set_option maxRecDepth 100000 in
set_option maxHeartbeats 4000000 in
theorem padds_ne {n m z ax ay bx bz sx sy : Nat} {pa pb : P4} {w : World} (hn : n < 2 ^ 256) (hm : m < 2 ^ 256) (hz : z < 18446744073709551616) (hpa : pa.Ok) (hpb : pb.Ok) (epa : scaleP (mulR n baseP 256) (z ||| 1) = pa) (epb : scaleP (mulR m baseP 256) (z / 2 ^ 7 ||| 1) = pb) (rpa : rightP pa = true) (rpb : rightP pb = true) (eax : affX pa = ax) (eay : affY pa = ay) (ebx : affX pb = bx) (ebz : affY pb = bz) (esx : sumX ax ay bx bz = sx) (esy : sumY ax ay bx bz = sy) (hs : (decide (ax = bx) && (decide (ay = bz))) = false) :
  Calls Try.prog 5 #[fe n, fe m, .int .u64 ((z : Nat) : Int)] w fun e w' => e = .returned (.bool true) ∧ Below w.heap.size w w' := by
 have hpq := (ofRightP rpa).2
 have hqq := (ofRightP rpb).2
 obtain ⟨haX, haY⟩ := aff_add hpq hqq
 obtain ⟨hnX, hnY⟩ := aff_neg pa
 rw [eax, eay, ebx, ebz] at haX haY
 rw [esx] at haX
 rw [esy] at haY
 rw [eax] at hnX
 rw [eay] at hnY
 have lax : ax < 2 ^ 256 := eax ▸ affX_lt pa
 have lay : ay < 2 ^ 256 := eay ▸ affY_lt pa
 have lbx : bx < 2 ^ 256 := ebx ▸ affX_lt pb
 have lbz : bz < 2 ^ 256 := ebz ▸ affY_lt pb
 have lsx : sx < 2 ^ 256 := esx ▸ sumX_lt ..
 have lsy : sy < 2 ^ 256 := esy ▸ sumY_lt ..
 have hz7 : z / 2 ^ 7 < 18446744073709551616 := Nat.lt_of_le_of_lt (Nat.div_le_self ..) hz
 go_enter Try.func5, Try.ntmps5
 have M := Mem.start w
 refine wp_seq_k (fun K1 hK1 => ?_)
 refine wp_region_seq ?_
 refine wpL_var (t := 39) (cs := fel n) (by rfl) (fun W => ?_) (fun g3 w4 Sw4 Hg3 Bg3 => ?_)
 ·
  (first | rfl | go_simp)
 replace M := ((M.sees Sw4).add (N := 4) (cs := fel n) (M.ge Hg3) (M.fresh Hg3) Bg3 rfl)
 clear Bg3
 simp only [putT, List.set]
 refine wpL_var (t := 39) (cs := fel m) (by rfl) (fun W => ?_) (fun g5 w6 Sw6 Hg5 Bg5 => ?_)
 ·
  (first | rfl | go_simp)
 replace M := ((M.sees Sw6).add (N := 4) (cs := fel m) (M.ge Hg5) (M.fresh Hg5) Bg5 rfl)
 clear Bg5
 simp only [putT, List.set]
 refine wpL_assign (v := .bool false) (by rfl) (by rfl) (by rfl) ?_
 simp only [putT, List.set]
 refine wpL_nil (no_panic ?_)
 refine hK1 _ _ ?_
 refine wp_seq_k (fun K7 hK7 => ?_)
 refine wp_region_seq ?_
 refine wpL_chunk 6 (by rfl) (fun Lk hLk => ?_)
 simp only [List.take, List.drop]
 refine wpV_load (cs := fel n) (by rfl) rfl rfl (M.r 1 0 rfl rfl) (M.lt 1 rfl) Try.underlying39 rfl info39 ?_
 simp only [putT, List.set]
 refine wpV_move (v := .int .u64 ((z : Nat) : Int)) (by rfl) rfl rfl ?_
 simp only [putT, List.set]
 refine wpV_callf (v := .tuple #[.agg (fel pa.x ++ fel pa.y ++ fel pa.z ++ fel pa.t : List Value).toArray, .bool true]) (args := #[fe n, .int .u64 ((z : Nat) : Int)]) (by rfl) rfl Try.func24 (by kernel_rfl) (by kernel_rfl) rfl (fun W hW => (by have h9 := some_c (n := n) (z := z) (w := W) hn hz; rw [epa, rpa] at h9; exact h9)) ?_
 simp only [putT, List.set]
 refine wpV_move (v := .tuple #[.agg (fel pa.x ++ fel pa.y ++ fel pa.z ++ fel pa.t : List Value).toArray, .bool true]) (by rfl) rfl rfl ?_
 simp only [putT, List.set]
 refine wpV_extract (v := .agg (fel pa.x ++ fel pa.y ++ fel pa.z ++ fel pa.t : List Value).toArray) (by rfl) rfl rfl rfl ?_
 simp only [putT, List.set]
 refine wpV_extract (v := .bool true) (by rfl) rfl rfl rfl ?_
 simp only [putT, List.set]
 refine wpV_nil (hLk _ (fun w9 Sw9 => ?_))
 clear hLk Lk
 simp only [List.take, List.drop]
 replace M := M.sees Sw9
 refine wpL_var (t := 26) (cs := [.int .u64 0, .int .u64 0, .int .u64 0, .int .u64 0, .int .u64 0, .int .u64 0, .int .u64 0, .int .u64 0, .int .u64 0, .int .u64 0, .int .u64 0, .int .u64 0, .int .u64 0, .int .u64 0, .int .u64 0, .int .u64 0]) (by rfl) (fun W => ?_) (fun g10 w11 Sw11 Hg10 Bg10 => ?_)
 ·
  go_simp
 replace M := ((M.sees Sw11).addS (N := 16) (cs := [.int .u64 0, .int .u64 0, .int .u64 0, .int .u64 0, .int .u64 0, .int .u64 0, .int .u64 0, .int .u64 0, .int .u64 0, .int .u64 0, .int .u64 0, .int .u64 0, .int .u64 0, .int .u64 0, .int .u64 0, .int .u64 0]) (segs := [(0, [.int .u64 0, .int .u64 0, .int .u64 0, .int .u64 0]), (4, [.int .u64 0, .int .u64 0, .int .u64 0, .int .u64 0]), (8, [.int .u64 0, .int .u64 0, .int .u64 0, .int .u64 0]), (12, [.int .u64 0, .int .u64 0, .int .u64 0, .int .u64 0])]) (M.ge Hg10) (M.fresh Hg10) Bg10 rfl ⟨rfl, rfl, rfl, rfl, trivial⟩)
 clear Bg10
 simp only [putT, List.set]
 refine wpL_store (g := g10) (off := 0) (n := 16) (cs := fel pa.x ++ fel pa.y ++ fel pa.z ++ fel pa.t) (by rfl) (by rfl) (by rfl) (by rfl) (by rfl) (M.t 0 rfl) (by simp [flen]) info26 (one4 _ _ _ _) (fun w12 P R T => ?_)
 replace M := M.put (segs' := [(0, fel pa.x), (4, fel pa.y), (8, fel pa.z), (12, fel pa.t)]) 0 rfl P T (SegsOf.at R ⟨rfl, rfl, rfl, rfl, trivial⟩)
 simp only [List.set] at M
 refine wpL_assign (v := .bool true) (by rfl) (by rfl) (by rfl) ?_
 simp only [putT, List.set]
 refine wpL_nil (no_panic ?_)
 refine hK7 _ _ ?_
 refine wp_seq_k (fun K13 hK13 => ?_)
 refine wp_region_seq ?_
 refine wpL_chunk 7 (by rfl) (fun Lk hLk => ?_)
 simp only [List.take, List.drop]
 refine wpV_load (cs := fel m) (by rfl) rfl rfl (M.r 1 0 rfl rfl) (M.lt 1 rfl) Try.underlying39 rfl info39 ?_
 simp only [putT, List.set]
 refine wpV_move (v := .int .u64 ((z : Nat) : Int)) (by rfl) rfl rfl ?_
 simp only [putT, List.set]
 refine wpV_bin (v := .int .u64 ((z / 2 ^ 7 : Nat) : Int)) (by rfl) rfl rfl rfl (fun W => nr_shr64 (n := 7) (by decide) W) ?_
 simp only [putT, List.set]
 refine wpV_callf (v := .tuple #[.agg (fel pb.x ++ fel pb.y ++ fel pb.z ++ fel pb.t : List Value).toArray, .bool true]) (args := #[fe m, .int .u64 ((z / 2 ^ 7 : Nat) : Int)]) (by rfl) rfl Try.func24 (by kernel_rfl) (by kernel_rfl) rfl (fun W hW => (by have h9 := some_c (n := m) (z := z / 2 ^ 7) (w := W) hm hz7; rw [epb, rpb] at h9; exact h9)) ?_
 simp only [putT, List.set]
 refine wpV_move (v := .tuple #[.agg (fel pb.x ++ fel pb.y ++ fel pb.z ++ fel pb.t : List Value).toArray, .bool true]) (by rfl) rfl rfl ?_
 simp only [putT, List.set]
 refine wpV_extract (v := .agg (fel pb.x ++ fel pb.y ++ fel pb.z ++ fel pb.t : List Value).toArray) (by rfl) rfl rfl rfl ?_
 simp only [putT, List.set]
 refine wpV_extract (v := .bool true) (by rfl) rfl rfl rfl ?_
 simp only [putT, List.set]
 refine wpV_nil (hLk _ (fun w15 Sw15 => ?_))
 clear hLk Lk
 simp only [List.take, List.drop]
 replace M := M.sees Sw15
 refine wpL_var (t := 26) (cs := [.int .u64 0, .int .u64 0, .int .u64 0, .int .u64 0, .int .u64 0, .int .u64 0, .int .u64 0, .int .u64 0, .int .u64 0, .int .u64 0, .int .u64 0, .int .u64 0, .int .u64 0, .int .u64 0, .int .u64 0, .int .u64 0]) (by rfl) (fun W => ?_) (fun g16 w17 Sw17 Hg16 Bg16 => ?_)
 ·
  go_simp
 replace M := ((M.sees Sw17).addS (N := 16) (cs := [.int .u64 0, .int .u64 0, .int .u64 0, .int .u64 0, .int .u64 0, .int .u64 0, .int .u64 0, .int .u64 0, .int .u64 0, .int .u64 0, .int .u64 0, .int .u64 0, .int .u64 0, .int .u64 0, .int .u64 0, .int .u64 0]) (segs := [(0, [.int .u64 0, .int .u64 0, .int .u64 0, .int .u64 0]), (4, [.int .u64 0, .int .u64 0, .int .u64 0, .int .u64 0]), (8, [.int .u64 0, .int .u64 0, .int .u64 0, .int .u64 0]), (12, [.int .u64 0, .int .u64 0, .int .u64 0, .int .u64 0])]) (M.ge Hg16) (M.fresh Hg16) Bg16 rfl ⟨rfl, rfl, rfl, rfl, trivial⟩)
 clear Bg16
 simp only [putT, List.set]
 refine wpL_store (g := g16) (off := 0) (n := 16) (cs := fel pb.x ++ fel pb.y ++ fel pb.z ++ fel pb.t) (by rfl) (by rfl) (by rfl) (by rfl) (by rfl) (M.t 0 rfl) (by simp [flen]) info26 (one4 _ _ _ _) (fun w18 P R T => ?_)
 replace M := M.put (segs' := [(0, fel pb.x), (4, fel pb.y), (8, fel pb.z), (12, fel pb.t)]) 0 rfl P T (SegsOf.at R ⟨rfl, rfl, rfl, rfl, trivial⟩)
 simp only [List.set] at M
 refine wpL_assign (v := .bool true) (by rfl) (by rfl) (by rfl) ?_
 simp only [putT, List.set]
 refine wpL_nil (no_panic ?_)
 refine hK13 _ _ ?_
 refine wp_seq_k (fun K19 hK19 => ?_)
 refine wp_region_seq ?_
 refine wpL_chunk 6 (by rfl) (fun Lk hLk => ?_)
 simp only [List.take, List.drop]
 refine wpV_load (cs := fel pa.x ++ (fel pa.y) ++ (fel pa.z) ++ (fel pa.t)) (by rfl) rfl rfl (range_join (range_join (range_join (M.r 1 0 rfl rfl) (M.r 1 1 rfl rfl) (by simp [flen])) (M.r 1 2 rfl rfl) (by simp [flen])) (M.r 1 3 rfl rfl) (by simp [flen])) (M.lt 1 rfl) Try.underlying26 rfl info26 ?_
 simp only [putT, List.set]
 refine wpV_load (cs := fel pb.x ++ (fel pb.y) ++ (fel pb.z) ++ (fel pb.t)) (by rfl) rfl rfl (range_join (range_join (range_join (M.r 0 0 rfl rfl) (M.r 0 1 rfl rfl) (by simp [flen])) (M.r 0 2 rfl rfl) (by simp [flen])) (M.r 0 3 rfl rfl) (by simp [flen])) (M.lt 0 rfl) Try.underlying26 rfl info26 ?_
 simp only [putT, List.set]
 refine wpV_callf (v := .tuple #[.agg (fel (addP pa pb).x ++ fel (addP pa pb).y ++ fel (addP pa pb).z ++ fel (addP pa pb).t : List Value).toArray, .int .i64 0]) (args := #[.agg (fel pa.x ++ (fel pa.y) ++ (fel pa.z) ++ (fel pa.t) : List Value).toArray, .agg (fel pb.x ++ (fel pb.y) ++ (fel pb.z) ++ (fel pb.t) : List Value).toArray]) (by rfl) rfl Try.func21 (by kernel_rfl) (by kernel_rfl) rfl (fun W hW => Add_ok hpa hpb rpa rpb) ?_
 simp only [putT, List.set]
 refine wpV_move (v := .tuple #[.agg (fel (addP pa pb).x ++ fel (addP pa pb).y ++ fel (addP pa pb).z ++ fel (addP pa pb).t : List Value).toArray, .int .i64 0]) (by rfl) rfl rfl ?_
 simp only [putT, List.set]
 refine wpV_extract (v := .agg (fel (addP pa pb).x ++ fel (addP pa pb).y ++ fel (addP pa pb).z ++ fel (addP pa pb).t : List Value).toArray) (by rfl) rfl rfl rfl ?_
 simp only [putT, List.set]
 refine wpV_extract (v := .int .i64 0) (by rfl) rfl rfl rfl ?_
 simp only [putT, List.set]
 refine wpV_nil (hLk _ (fun w21 Sw21 => ?_))
 clear hLk Lk
 simp only [List.take, List.drop]
 replace M := M.sees Sw21
 refine wpL_var (t := 26) (cs := [.int .u64 0, .int .u64 0, .int .u64 0, .int .u64 0, .int .u64 0, .int .u64 0, .int .u64 0, .int .u64 0, .int .u64 0, .int .u64 0, .int .u64 0, .int .u64 0, .int .u64 0, .int .u64 0, .int .u64 0, .int .u64 0]) (by rfl) (fun W => ?_) (fun g22 w23 Sw23 Hg22 Bg22 => ?_)
 ·
  go_simp
 replace M := ((M.sees Sw23).addS (N := 16) (cs := [.int .u64 0, .int .u64 0, .int .u64 0, .int .u64 0, .int .u64 0, .int .u64 0, .int .u64 0, .int .u64 0, .int .u64 0, .int .u64 0, .int .u64 0, .int .u64 0, .int .u64 0, .int .u64 0, .int .u64 0, .int .u64 0]) (segs := [(0, [.int .u64 0, .int .u64 0, .int .u64 0, .int .u64 0]), (4, [.int .u64 0, .int .u64 0, .int .u64 0, .int .u64 0]), (8, [.int .u64 0, .int .u64 0, .int .u64 0, .int .u64 0]), (12, [.int .u64 0, .int .u64 0, .int .u64 0, .int .u64 0])]) (M.ge Hg22) (M.fresh Hg22) Bg22 rfl ⟨rfl, rfl, rfl, rfl, trivial⟩)
 clear Bg22
 simp only [putT, List.set]
 refine wpL_store (g := g22) (off := 0) (n := 16) (cs := fel (addP pa pb).x ++ fel (addP pa pb).y ++ fel (addP pa pb).z ++ fel (addP pa pb).t) (by rfl) (by rfl) (by rfl) (by rfl) (by rfl) (M.t 0 rfl) (by simp [flen]) info26 (one4 _ _ _ _) (fun w24 P R T => ?_)
 replace M := M.put (segs' := [(0, fel (addP pa pb).x), (4, fel (addP pa pb).y), (8, fel (addP pa pb).z), (12, fel (addP pa pb).t)]) 0 rfl P T (SegsOf.at R ⟨rfl, rfl, rfl, rfl, trivial⟩)
 simp only [List.set] at M
 refine wpL_assign (v := .int .i64 0) (by rfl) (by rfl) (by rfl) ?_
 simp only [putT, List.set]
 refine wpL_nil (no_panic ?_)
 refine hK19 _ _ ?_
 refine wp_seq_k (fun K25 hK25 => ?_)
 refine wp_seq_k (fun K26 hK26 => ?_)
 refine wp_region_seq ?_
 refine wpL_move (v := .bool true) (by rfl) (by rfl) (by rfl) ?_
 simp only [putT, List.set]
 refine wpL_chunk 18 (by rfl) (fun Lk hLk => ?_)
 simp only [List.take, List.drop]
 refine wpV_not (b := true) (by rfl) rfl rfl ?_
 simp only [Bool.not_true, Bool.not_false]
 simp only [putT, List.set]
 refine wpV_move (v := .bool false) (by rfl) rfl rfl ?_
 simp only [putT, List.set]
 refine wpV_move (v := .bool true) (by rfl) rfl rfl ?_
 simp only [putT, List.set]
 refine wpV_not (b := true) (by rfl) rfl rfl ?_
 simp only [Bool.not_true, Bool.not_false]
 simp only [putT, List.set]
 refine wpV_pick (v := .bool false) (by rfl) rfl rfl rfl ?_
 simp only [putT, List.set]
 refine wpV_move (v := .bool false) (by rfl) rfl rfl ?_
 simp only [putT, List.set]
 refine wpV_move (v := .int .i64 0) (by rfl) rfl rfl ?_
 simp only [putT, List.set]
 refine wpV_bin (v := .bool false) (by rfl) rfl rfl rfl (fun W => run_neq _ _ _ _ W) ?_
 simp only [putT, List.set]
 refine wpV_pick (v := .bool false) (by rfl) rfl rfl rfl ?_
 simp only [putT, List.set]
 refine wpV_move (v := .bool false) (by rfl) rfl rfl ?_
 simp only [putT, List.set]
 refine wpV_load (cs := fel (addP pa pb).x ++ (fel (addP pa pb).y) ++ (fel (addP pa pb).z) ++ (fel (addP pa pb).t)) (by rfl) rfl rfl (range_join (range_join (range_join (M.r 0 0 rfl rfl) (M.r 0 1 rfl rfl) (by simp [flen])) (M.r 0 2 rfl rfl) (by simp [flen])) (M.r 0 3 rfl rfl) (by simp [flen])) (M.lt 0 rfl) Try.underlying26 rfl info26 ?_
 simp only [putT, List.set]
 refine wpV_callf (v := .bool true) (args := #[.agg (fel (addP pa pb).x ++ (fel (addP pa pb).y) ++ (fel (addP pa pb).z) ++ (fel (addP pa pb).t) : List Value).toArray]) (by rfl) rfl Try.func17 (by kernel_rfl) (by kernel_rfl) rfl (fun W hW => (by have h9 := right_c (p := addP pa pb) (w := W) (addP_ok ..); rw [right_add rpa rpb] at h9; exact h9)) ?_
 simp only [putT, List.set]
 refine wpV_not (b := true) (by rfl) rfl rfl ?_
 simp only [Bool.not_true, Bool.not_false]
 simp only [putT, List.set]
 refine wpV_pick (v := .bool false) (by rfl) rfl rfl rfl ?_
 simp only [putT, List.set]
 refine wpV_move (v := .bool false) (by rfl) rfl rfl ?_
 simp only [putT, List.set]
 refine wpV_callf (v := .bool true) (args := #[]) (by rfl) rfl Try.func11 (by kernel_rfl) (by kernel_rfl) rfl (fun W hW => alive06_c) ?_
 simp only [putT, List.set]
 refine wpV_not (b := true) (by rfl) rfl rfl ?_
 simp only [Bool.not_true, Bool.not_false]
 simp only [putT, List.set]
 refine wpV_pick (v := .bool false) (by rfl) rfl rfl rfl ?_
 simp only [putT, List.set]
 refine wpV_nil (hLk _ (fun w28 Sw28 => ?_))
 clear hLk Lk
 simp only [List.take, List.drop]
 replace M := M.sees Sw28
 refine wpL_nil (no_panic ?_)
 refine hK26 _ _ ?_
 refine wp_cond_false rfl ?_
 refine wp_skip ?_
 refine hK25 _ _ ?_
 refine wp_seq_k (fun K29 hK29 => ?_)
 refine wp_region_grow 6 [] (by kernel_rfl) (by kernel_rfl) (by kernel_rfl) (fun Lk hLk => ?_)
 simp only [List.take, List.drop]
 refine wpV_load (cs := fel pa.x ++ (fel pa.y) ++ (fel pa.z) ++ (fel pa.t)) (by rfl) rfl rfl (range_join (range_join (range_join (M.r 2 0 rfl rfl) (M.r 2 1 rfl rfl) (by simp [flen])) (M.r 2 2 rfl rfl) (by simp [flen])) (M.r 2 3 rfl rfl) (by simp [flen])) (M.lt 2 rfl) Try.underlying26 rfl info26 ?_
 simp only [putT, List.set]
 refine wpV_callf (v := .agg (fel ax ++ fel ay : List Value).toArray) (args := #[.agg (fel pa.x ++ (fel pa.y) ++ (fel pa.z) ++ (fel pa.t) : List Value).toArray]) (by rfl) rfl Try.func18 (by kernel_rfl) (by kernel_rfl) rfl (fun W hW => (by have h9 := rAffine_c (w := W) hpa; rw [eax, eay] at h9; exact h9)) ?_
 simp only [putT, List.set]
 refine wpV_load (cs := fel pb.x ++ (fel pb.y) ++ (fel pb.z) ++ (fel pb.t)) (by rfl) rfl rfl (range_join (range_join (range_join (M.r 1 0 rfl rfl) (M.r 1 1 rfl rfl) (by simp [flen])) (M.r 1 2 rfl rfl) (by simp [flen])) (M.r 1 3 rfl rfl) (by simp [flen])) (M.lt 1 rfl) Try.underlying26 rfl info26 ?_
 simp only [putT, List.set]
 refine wpV_callf (v := .agg (fel bx ++ fel bz : List Value).toArray) (args := #[.agg (fel pb.x ++ (fel pb.y) ++ (fel pb.z) ++ (fel pb.t) : List Value).toArray]) (by rfl) rfl Try.func18 (by kernel_rfl) (by kernel_rfl) rfl (fun W hW => (by have h9 := rAffine_c (w := W) hpb; rw [ebx, ebz] at h9; exact h9)) ?_
 simp only [putT, List.set]
 refine wpV_alloc (by rfl) ?_
 refine wpV_alloc (by rfl) ?_
 refine wpV_nil (hLk.out _ ?_)
 clear hLk Lk
 simp only [List.take, List.drop]
 iterate 4 refine wpN_skip (by rfl) ?_
 refine wpN_new (t := 32) (cs := ([.int .u64 0, .int .u64 0, .int .u64 0, .int .u64 0, .int .u64 0, .int .u64 0, .int .u64 0, .int .u64 0]).toArray) (by rfl) (fun W => ?_) (fun g31 Hg31 ng31 => ?_)
 ·
  go_simp
 refine wpN_new (t := 32) (cs := ([.int .u64 0, .int .u64 0, .int .u64 0, .int .u64 0, .int .u64 0, .int .u64 0, .int .u64 0, .int .u64 0]).toArray) (by rfl) (fun W => ?_) (fun g32 Hg32 ng32 => ?_)
 ·
  go_simp
 simp only [putT, List.set]
 refine wpN_nil (fun w33 Sw33 hbs => ?_)
 replace M := (((M.sees Sw33).addS (N := 8) (cs := [.int .u64 0, .int .u64 0, .int .u64 0, .int .u64 0, .int .u64 0, .int .u64 0, .int .u64 0, .int .u64 0]) (segs := [(0, [.int .u64 0, .int .u64 0, .int .u64 0, .int .u64 0]), (4, [.int .u64 0, .int .u64 0, .int .u64 0, .int .u64 0])]) (M.ge Hg31) (M.fresh Hg31) (hbs _ (.tail _ (.head _))) rfl ⟨rfl, rfl, trivial⟩).addS (N := 8) (cs := [.int .u64 0, .int .u64 0, .int .u64 0, .int .u64 0, .int .u64 0, .int .u64 0, .int .u64 0, .int .u64 0]) (segs := [(0, [.int .u64 0, .int .u64 0, .int .u64 0, .int .u64 0]), (4, [.int .u64 0, .int .u64 0, .int .u64 0, .int .u64 0])]) (M.ge Hg32) (fcons (ng32 _ (.head _)) (M.fresh Hg32)) (hbs _ (.head _)) rfl ⟨rfl, rfl, trivial⟩)
 clear hbs ng31 ng32
 refine wpL_store (g := g31) (off := 0) (n := 8) (cs := fel ax ++ fel ay) (by rfl) (by rfl) (by rfl) (by rfl) (by rfl) (M.t 1 rfl) (by simp [flen]) info32 (two4 _ _) (fun w34 P R T => ?_)
 replace M := M.put (segs' := [(0, fel ax), (4, fel ay)]) 1 rfl P T (SegsOf.at R ⟨rfl, rfl, trivial⟩)
 simp only [List.set] at M
 refine wpL_store (g := g32) (off := 0) (n := 8) (cs := fel bx ++ fel bz) (by rfl) (by rfl) (by rfl) (by rfl) (by rfl) (M.t 0 rfl) (by simp [flen]) info32 (two4 _ _) (fun w35 P R T => ?_)
 replace M := M.put (segs' := [(0, fel bx), (4, fel bz)]) 0 rfl P T (SegsOf.at R ⟨rfl, rfl, trivial⟩)
 simp only [List.set] at M
 refine wpL_nil (no_panic ?_)
 refine hK29 _ _ ?_
 refine wp_seq_k (fun K36 hK36 => ?_)
 refine wp_seq_k (fun K37 hK37 => ?_)
 refine wp_region_grow 6 [] (by kernel_rfl) (by kernel_rfl) (by kernel_rfl) (fun Lk hLk => ?_)
 simp only [List.take, List.drop]
 refine wpV_load (cs := fel (addP pa pb).x ++ (fel (addP pa pb).y) ++ (fel (addP pa pb).z) ++ (fel (addP pa pb).t)) (by rfl) rfl rfl (range_join (range_join (range_join (M.r 2 0 rfl rfl) (M.r 2 1 rfl rfl) (by simp [flen])) (M.r 2 2 rfl rfl) (by simp [flen])) (M.r 2 3 rfl rfl) (by simp [flen])) (M.lt 2 rfl) Try.underlying26 rfl info26 ?_
 simp only [putT, List.set]
 refine wpV_callf (v := .agg (fel sx ++ fel sy : List Value).toArray) (args := #[.agg (fel (addP pa pb).x ++ (fel (addP pa pb).y) ++ (fel (addP pa pb).z) ++ (fel (addP pa pb).t) : List Value).toArray]) (by rfl) rfl Try.func18 (by kernel_rfl) (by kernel_rfl) rfl (fun W hW => (by have h9 := rAffine_c (p := addP pa pb) (w := W) (addP_ok ..); rw [haX, haY] at h9; exact h9)) ?_
 simp only [putT, List.set]
 refine wpV_load (cs := fel ax ++ (fel ay)) (by rfl) rfl rfl (range_join (M.r 1 0 rfl rfl) (M.r 1 1 rfl rfl) (by simp [flen])) (M.lt 1 rfl) Try.underlying32 rfl info32 ?_
 simp only [putT, List.set]
 refine wpV_load (cs := fel bx ++ (fel bz)) (by rfl) rfl rfl (range_join (M.r 0 0 rfl rfl) (M.r 0 1 rfl rfl) (by simp [flen])) (M.lt 0 rfl) Try.underlying32 rfl info32 ?_
 simp only [putT, List.set]
 refine wpV_callf (v := .agg (fel sx ++ fel sy : List Value).toArray) (args := #[.agg (fel ax ++ (fel ay) : List Value).toArray, .agg (fel bx ++ (fel bz) : List Value).toArray]) (by rfl) rfl Try.func25 (by kernel_rfl) (by kernel_rfl) rfl (fun W hW => (by have h9 := rSum_c (a := ax) (b := ay) (c := bx) (d := bz) (w := W) lax lay lbx lbz; rw [esx, esy] at h9; exact h9)) ?_
 simp only [putT, List.set]
 refine wpV_neqT (k := 3) (u := fel sx ++ fel sy) (v := fel sx ++ fel sy) (b := true) (by rfl) rfl rfl rfl (by kernel_rfl) ((eq_struct (k := 2) (xs := fel sx ++ fel sy) (ys := fel sx ++ fel sy) (fs := [(false, 24, 0), (false, 24, 4)]) (bs := [true, true]) Try.underlying32 (by kernel_rfl) (by rfl) ⟨rfl, ⟨.agg (fel sx).toArray, .agg (fel sx).toArray, (fun W => run_part_row Try.underlying24 rfl info24 rfl W), (fun W => run_part_row Try.underlying24 rfl info24 rfl W), ((eq_fe Try.underlying24 Try.underlying22 info22 lsx lsx).bool (decide_eq_true rfl))⟩, rfl, ⟨.agg (fel sy).toArray, .agg (fel sy).toArray, (fun W => run_part_row Try.underlying24 rfl info24 rfl W), (fun W => run_part_row Try.underlying24 rfl info24 rfl W), ((eq_fe Try.underlying24 Try.underlying22 info22 lsy lsy).bool (decide_eq_true rfl))⟩, trivial⟩).bool (by simp only [List.all_cons, List.all_nil, id, Bool.and_true, Bool.true_and])) (by decide) ?_
 simp only [Bool.not_true, Bool.not_false]
 simp only [putT, List.set]
 refine wpV_nil (hLk.out _ ?_)
 clear hLk Lk
 simp only [List.take, List.drop]
 iterate 6 refine wpN_skip (by rfl) ?_
 refine wpN_nil (fun w39 Sw39 hbs => ?_)
 clear hbs
 replace M := M.sees Sw39
 refine wpL_nil (no_panic ?_)
 refine hK37 _ _ ?_
 refine wp_cond_false rfl ?_
 refine wp_skip ?_
 refine hK36 _ _ ?_
 refine wp_seq_k (fun K40 hK40 => ?_)
 refine wp_region_seq ?_
 refine wpL_chunk 5 (by rfl) (fun Lk hLk => ?_)
 simp only [List.take, List.drop]
 refine wpV_load (cs := fel pa.x ++ (fel pa.y) ++ (fel pa.z) ++ (fel pa.t)) (by rfl) rfl rfl (range_join (range_join (range_join (M.r 4 0 rfl rfl) (M.r 4 1 rfl rfl) (by simp [flen])) (M.r 4 2 rfl rfl) (by simp [flen])) (M.r 4 3 rfl rfl) (by simp [flen])) (M.lt 4 rfl) Try.underlying26 rfl info26 ?_
 simp only [putT, List.set]
 refine wpV_callf (v := .tuple #[.agg (fel (negP pa).x ++ fel (negP pa).y ++ fel (negP pa).z ++ fel (negP pa).t : List Value).toArray, .int .i64 0]) (args := #[.agg (fel pa.x ++ (fel pa.y) ++ (fel pa.z) ++ (fel pa.t) : List Value).toArray]) (by rfl) rfl Try.func22 (by kernel_rfl) (by kernel_rfl) rfl (fun W hW => Neg_ok hpa rpa) ?_
 simp only [putT, List.set]
 refine wpV_move (v := .tuple #[.agg (fel (negP pa).x ++ fel (negP pa).y ++ fel (negP pa).z ++ fel (negP pa).t : List Value).toArray, .int .i64 0]) (by rfl) rfl rfl ?_
 simp only [putT, List.set]
 refine wpV_extract (v := .agg (fel (negP pa).x ++ fel (negP pa).y ++ fel (negP pa).z ++ fel (negP pa).t : List Value).toArray) (by rfl) rfl rfl rfl ?_
 simp only [putT, List.set]
 refine wpV_extract (v := .int .i64 0) (by rfl) rfl rfl rfl ?_
 simp only [putT, List.set]
 refine wpV_nil (hLk _ (fun w42 Sw42 => ?_))
 clear hLk Lk
 simp only [List.take, List.drop]
 replace M := M.sees Sw42
 refine wpL_var (t := 26) (cs := [.int .u64 0, .int .u64 0, .int .u64 0, .int .u64 0, .int .u64 0, .int .u64 0, .int .u64 0, .int .u64 0, .int .u64 0, .int .u64 0, .int .u64 0, .int .u64 0, .int .u64 0, .int .u64 0, .int .u64 0, .int .u64 0]) (by rfl) (fun W => ?_) (fun g43 w44 Sw44 Hg43 Bg43 => ?_)
 ·
  go_simp
 replace M := ((M.sees Sw44).addS (N := 16) (cs := [.int .u64 0, .int .u64 0, .int .u64 0, .int .u64 0, .int .u64 0, .int .u64 0, .int .u64 0, .int .u64 0, .int .u64 0, .int .u64 0, .int .u64 0, .int .u64 0, .int .u64 0, .int .u64 0, .int .u64 0, .int .u64 0]) (segs := [(0, [.int .u64 0, .int .u64 0, .int .u64 0, .int .u64 0]), (4, [.int .u64 0, .int .u64 0, .int .u64 0, .int .u64 0]), (8, [.int .u64 0, .int .u64 0, .int .u64 0, .int .u64 0]), (12, [.int .u64 0, .int .u64 0, .int .u64 0, .int .u64 0])]) (M.ge Hg43) (M.fresh Hg43) Bg43 rfl ⟨rfl, rfl, rfl, rfl, trivial⟩)
 clear Bg43
 simp only [putT, List.set]
 refine wpL_store (g := g43) (off := 0) (n := 16) (cs := fel (negP pa).x ++ fel (negP pa).y ++ fel (negP pa).z ++ fel (negP pa).t) (by rfl) (by rfl) (by rfl) (by rfl) (by rfl) (M.t 0 rfl) (by simp [flen]) info26 (one4 _ _ _ _) (fun w45 P R T => ?_)
 replace M := M.put (segs' := [(0, fel (negP pa).x), (4, fel (negP pa).y), (8, fel (negP pa).z), (12, fel (negP pa).t)]) 0 rfl P T (SegsOf.at R ⟨rfl, rfl, rfl, rfl, trivial⟩)
 simp only [List.set] at M
 refine wpL_assign (v := .int .i64 0) (by rfl) (by rfl) (by rfl) ?_
 simp only [putT, List.set]
 refine wpL_nil (no_panic ?_)
 refine hK40 _ _ ?_
 refine wp_seq_k (fun K46 hK46 => ?_)
 refine wp_region_seq ?_
 refine wpL_chunk 5 (by rfl) (fun Lk hLk => ?_)
 simp only [List.take, List.drop]
 refine wpV_load (cs := fel pa.x ++ (fel pa.y) ++ (fel pa.z) ++ (fel pa.t)) (by rfl) rfl rfl (range_join (range_join (range_join (M.r 5 0 rfl rfl) (M.r 5 1 rfl rfl) (by simp [flen])) (M.r 5 2 rfl rfl) (by simp [flen])) (M.r 5 3 rfl rfl) (by simp [flen])) (M.lt 5 rfl) Try.underlying26 rfl info26 ?_
 simp only [putT, List.set]
 refine wpV_callf (v := .tuple #[.string (bs (textQ ax ay)), .int .i64 0]) (args := #[.agg (fel pa.x ++ (fel pa.y) ++ (fel pa.z) ++ (fel pa.t) : List Value).toArray]) (by rfl) rfl Try.func13 (by kernel_rfl) (by kernel_rfl) rfl (fun W hW => (by have h9 := Bytes_ok (w := W) hpa rpa; rw [eax, eay] at h9; exact h9)) ?_
 simp only [putT, List.set]
 refine wpV_move (v := .tuple #[.string (bs (textQ ax ay)), .int .i64 0]) (by rfl) rfl rfl ?_
 simp only [putT, List.set]
 refine wpV_extract (v := .string (bs (textQ ax ay))) (by rfl) rfl rfl rfl ?_
 simp only [putT, List.set]
 refine wpV_extract (v := .int .i64 0) (by rfl) rfl rfl rfl ?_
 simp only [putT, List.set]
 refine wpV_nil (hLk _ (fun w48 Sw48 => ?_))
 clear hLk Lk
 simp only [List.take, List.drop]
 replace M := M.sees Sw48
 refine wpL_assign (v := .string (bs (textQ ax ay))) (by rfl) (by rfl) (by rfl) ?_
 simp only [putT, List.set]
 refine wpL_assign (v := .int .i64 0) (by rfl) (by rfl) (by rfl) ?_
 simp only [putT, List.set]
 refine wpL_nil (no_panic ?_)
 refine hK46 _ _ ?_
 refine wp_seq_k (fun K49 hK49 => ?_)
 refine wp_region_seq ?_
 refine wpL_chunk 2 (by rfl) (fun Lk hLk => ?_)
 simp only [List.take, List.drop]
 refine wpV_load (cs := fel (negP pa).x ++ (fel (negP pa).y) ++ (fel (negP pa).z) ++ (fel (negP pa).t)) (by rfl) rfl rfl (range_join (range_join (range_join (M.r 0 0 rfl rfl) (M.r 0 1 rfl rfl) (by simp [flen])) (M.r 0 2 rfl rfl) (by simp [flen])) (M.r 0 3 rfl rfl) (by simp [flen])) (M.lt 0 rfl) Try.underlying26 rfl info26 ?_
 simp only [putT, List.set]
 refine wpV_callf (v := .agg (fel (fsub 0 ax) ++ fel ay : List Value).toArray) (args := #[.agg (fel (negP pa).x ++ (fel (negP pa).y) ++ (fel (negP pa).z) ++ (fel (negP pa).t) : List Value).toArray]) (by rfl) rfl Try.func18 (by kernel_rfl) (by kernel_rfl) rfl (fun W hW => (by have h9 := rAffine_c (p := negP pa) (w := W) (negP_ok hpa); rw [hnX, hnY] at h9; exact h9)) ?_
 simp only [putT, List.set]
 refine wpV_nil (hLk _ (fun w51 Sw51 => ?_))
 clear hLk Lk
 simp only [List.take, List.drop]
 replace M := M.sees Sw51
 refine wpL_var (t := 32) (cs := [.int .u64 0, .int .u64 0, .int .u64 0, .int .u64 0, .int .u64 0, .int .u64 0, .int .u64 0, .int .u64 0]) (by rfl) (fun W => ?_) (fun g52 w53 Sw53 Hg52 Bg52 => ?_)
 ·
  go_simp
 replace M := ((M.sees Sw53).addS (N := 8) (cs := [.int .u64 0, .int .u64 0, .int .u64 0, .int .u64 0, .int .u64 0, .int .u64 0, .int .u64 0, .int .u64 0]) (segs := [(0, [.int .u64 0, .int .u64 0, .int .u64 0, .int .u64 0]), (4, [.int .u64 0, .int .u64 0, .int .u64 0, .int .u64 0])]) (M.ge Hg52) (M.fresh Hg52) Bg52 rfl ⟨rfl, rfl, trivial⟩)
 clear Bg52
 simp only [putT, List.set]
 refine wpL_store (g := g52) (off := 0) (n := 8) (cs := fel (fsub 0 ax) ++ fel ay) (by rfl) (by rfl) (by rfl) (by rfl) (by rfl) (M.t 0 rfl) (by simp [flen]) info32 (two4 _ _) (fun w54 P R T => ?_)
 replace M := M.put (segs' := [(0, fel (fsub 0 ax)), (4, fel ay)]) 0 rfl P T (SegsOf.at R ⟨rfl, rfl, trivial⟩)
 simp only [List.set] at M
 refine wpL_nil (no_panic ?_)
 refine hK49 _ _ ?_
 refine wp_seq_k (fun K55 hK55 => ?_)
 refine wp_region_grow 42 [] (by kernel_rfl) (by kernel_rfl) (by kernel_rfl) (fun Lk hLk => ?_)
 simp only [List.take, List.drop]
 refine wpV_move (v := .int .i64 0) (by rfl) rfl rfl ?_
 simp only [putT, List.set]
 refine wpV_bin (v := .bool true) (by rfl) rfl rfl rfl (fun W => run_eql _ _ _ _ W) ?_
 simp only [putT, List.set]
 refine wpV_move (v := .bool true) (by rfl) rfl rfl ?_
 simp only [putT, List.set]
 refine wpV_move (v := .int .i64 0) (by rfl) rfl rfl ?_
 simp only [putT, List.set]
 refine wpV_bin (v := .bool true) (by rfl) rfl rfl rfl (fun W => run_eql _ _ _ _ W) ?_
 simp only [putT, List.set]
 refine wpV_pick (v := .bool true) (by rfl) rfl rfl rfl ?_
 simp only [putT, List.set]
 refine wpV_move (v := .bool true) (by rfl) rfl rfl ?_
 simp only [putT, List.set]
 refine wpV_val (v := .pointer (some ⟨g52, 4, none⟩)) (by rfl) (by rfl) (fun W hW => ?_) ?_
 ·
  (go_simp; exact rfl)
 simp only [putT, List.set]
 refine wpV_load (cs := fel ay) (by rfl) rfl rfl (M.r 0 1 rfl rfl) (M.lt 0 rfl) Try.underlying24 rfl info24 ?_
 simp only [putT, List.set]
 refine wpV_val (v := .pointer (some ⟨g31, 4, none⟩)) (by rfl) (by rfl) (fun W hW => ?_) ?_
 ·
  (go_simp; exact rfl)
 simp only [putT, List.set]
 refine wpV_load (cs := fel ay) (by rfl) rfl rfl (M.r 3 1 rfl rfl) (M.lt 3 rfl) Try.underlying24 rfl info24 ?_
 simp only [putT, List.set]
 refine wpV_val (v := .bool true) (by rfl) (by rfl) (fun W hW => ?_) ?_
 ·
  exact run_eql_fe_same lay Try.underlying24 Try.underlying22 info22 (by kernel_rfl) rfl rfl rfl W
 simp only [putT, List.set]
 refine wpV_pick (v := .bool true) (by rfl) rfl rfl rfl ?_
 simp only [putT, List.set]
 refine wpV_move (v := .bool true) (by rfl) rfl rfl ?_
 simp only [putT, List.set]
 refine wpV_val (v := .pointer (some ⟨g52, 0, none⟩)) (by rfl) (by rfl) (fun W hW => ?_) ?_
 ·
  (go_simp; exact rfl)
 simp only [putT, List.set]
 refine wpV_load (cs := fel (fsub 0 ax)) (by rfl) rfl rfl (M.r 0 0 rfl rfl) (M.lt 0 rfl) Try.underlying24 rfl info24 ?_
 simp only [putT, List.set]
 refine wpV_val (v := fe 0) (by rfl) (by rfl) (fun W hW => ?_) ?_
 ·
  rw [show fe 0 = .agg ([.int .u64 0, .int .u64 0, .int .u64 0, .int .u64 0]).toArray from (by kernel_rfl)]; unfold RunsVal; kernel_rfl
 simp only [putT, List.set]
 refine wpV_val (v := .pointer (some ⟨g31, 0, none⟩)) (by rfl) (by rfl) (fun W hW => ?_) ?_
 ·
  (go_simp; exact rfl)
 simp only [putT, List.set]
 refine wpV_load (cs := fel ax) (by rfl) rfl rfl (M.r 3 0 rfl rfl) (M.lt 3 rfl) Try.underlying24 rfl info24 ?_
 simp only [putT, List.set]
 refine wpV_callf (v := fe (fsub 0 ax)) (args := #[fe 0, fe ax]) (by rfl) rfl Try.func26 (by kernel_rfl) (by kernel_rfl) rfl (fun W hW => fsub_c (by decide) lax W) ?_
 simp only [putT, List.set]
 refine wpV_val (v := .bool true) (by rfl) (by rfl) (fun W hW => ?_) ?_
 ·
  exact run_eql_fe_same (fsub_lt ..) Try.underlying24 Try.underlying22 info22 (by kernel_rfl) rfl rfl rfl W
 simp only [putT, List.set]
 refine wpV_pick (v := .bool true) (by rfl) rfl rfl rfl ?_
 simp only [putT, List.set]
 refine wpV_move (v := .bool true) (by rfl) rfl rfl ?_
 simp only [putT, List.set]
 refine wpV_move (v := .string (bs (textQ ax ay))) (by rfl) rfl rfl ?_
 simp only [putT, List.set]
 refine wpV_load (cs := fel ax ++ (fel ay)) (by rfl) rfl rfl (range_join (M.r 3 0 rfl rfl) (M.r 3 1 rfl rfl) (by simp [flen])) (M.lt 3 rfl) Try.underlying32 rfl info32 ?_
 simp only [putT, List.set]
 refine wpV_callf (v := .string (bs (textQ ax ay))) (args := #[.agg (fel ax ++ (fel ay) : List Value).toArray]) (by rfl) rfl Try.func27 (by kernel_rfl) (by kernel_rfl) rfl (fun W hW => (by have h9 := rText_c (a := ax) (b := ay) (w := W) lax lay; rw [text_same (eay ▸ affY_ltp pa)] at h9; exact h9)) ?_
 simp only [putT, List.set]
 refine wpV_binS (v := .bool true) (by rfl) rfl rfl rfl (fun W => (run_eql_bs _ _ _ W).trans (by rw [show decide (textQ ax ay = textQ ax ay) = true from (decide_eq_true rfl)])) ?_
 simp only [putT, List.set]
 refine wpV_pick (v := .bool true) (by rfl) rfl rfl rfl ?_
 simp only [putT, List.set]
 refine wpV_move (v := .bool true) (by rfl) rfl rfl ?_
 simp only [putT, List.set]
 refine wpV_load (cs := fel pa.x ++ (fel pa.y) ++ (fel pa.z) ++ (fel pa.t)) (by rfl) rfl rfl (range_join (range_join (range_join (M.r 6 0 rfl rfl) (M.r 6 1 rfl rfl) (by simp [flen])) (M.r 6 2 rfl rfl) (by simp [flen])) (M.r 6 3 rfl rfl) (by simp [flen])) (M.lt 6 rfl) Try.underlying26 rfl info26 ?_
 simp only [putT, List.set]
 refine wpV_load (cs := fel pb.x ++ (fel pb.y) ++ (fel pb.z) ++ (fel pb.t)) (by rfl) rfl rfl (range_join (range_join (range_join (M.r 5 0 rfl rfl) (M.r 5 1 rfl rfl) (by simp [flen])) (M.r 5 2 rfl rfl) (by simp [flen])) (M.r 5 3 rfl rfl) (by simp [flen])) (M.lt 5 rfl) Try.underlying26 rfl info26 ?_
 simp only [putT, List.set]
 refine wpV_callf (v := .bool false) (args := #[.agg (fel pa.x ++ (fel pa.y) ++ (fel pa.z) ++ (fel pa.t) : List Value).toArray, .agg (fel pb.x ++ (fel pb.y) ++ (fel pb.z) ++ (fel pb.t) : List Value).toArray]) (by rfl) rfl Try.func20 (by kernel_rfl) (by kernel_rfl) rfl (fun W hW => (by have h9 := same_c (w := W) hpa hpb; rw [same_aff rpa rpb, eax, eay, ebx, ebz, hs] at h9; exact h9)) ?_
 simp only [putT, List.set]
 refine wpV_load (cs := fel ax ++ (fel ay)) (by rfl) rfl rfl (range_join (M.r 3 0 rfl rfl) (M.r 3 1 rfl rfl) (by simp [flen])) (M.lt 3 rfl) Try.underlying32 rfl info32 ?_
 simp only [putT, List.set]
 refine wpV_load (cs := fel bx ++ (fel bz)) (by rfl) rfl rfl (range_join (M.r 2 0 rfl rfl) (M.r 2 1 rfl rfl) (by simp [flen])) (M.lt 2 rfl) Try.underlying32 rfl info32 ?_
 simp only [putT, List.set]
 refine wpV_eqlT (k := 3) (u := fel ax ++ (fel ay)) (v := fel bx ++ (fel bz)) (b := false) (by rfl) rfl rfl rfl (by kernel_rfl) (((eq_struct (k := 2) (xs := fel ax ++ (fel ay)) (ys := fel bx ++ (fel bz)) (fs := [(false, 24, 0), (false, 24, 4)]) (bs := [decide (ax = bx), decide (ay = bz)]) Try.underlying32 (by kernel_rfl) (by rfl) ⟨rfl, ⟨.agg (fel ax).toArray, .agg (fel bx).toArray, (fun W => run_part_row Try.underlying24 rfl info24 rfl W), (fun W => run_part_row Try.underlying24 rfl info24 rfl W), (eq_fe Try.underlying24 Try.underlying22 info22 lax lbx)⟩, rfl, ⟨.agg (fel ay).toArray, .agg (fel bz).toArray, (fun W => run_part_row Try.underlying24 rfl info24 rfl W), (fun W => run_part_row Try.underlying24 rfl info24 rfl W), (eq_fe Try.underlying24 Try.underlying22 info22 lay lbz)⟩, trivial⟩).bool (by simp only [List.all_cons, List.all_nil, id, Bool.and_true, Bool.true_and])).bool hs) (by decide) ?_
 simp only [putT, List.set]
 refine wpV_val (v := .bool true) (by rfl) (by rfl) (fun W hW => ?_) ?_
 ·
  (go_simp; exact rfl)
 simp only [putT, List.set]
 refine wpV_pick (v := .bool true) (by rfl) rfl rfl rfl ?_
 simp only [putT, List.set]
 refine wpV_move (v := .bool true) (by rfl) rfl rfl ?_
 simp only [putT, List.set]
 refine wpV_load (cs := fel pa.x ++ (fel pa.y) ++ (fel pa.z) ++ (fel pa.t)) (by rfl) rfl rfl (range_join (range_join (range_join (M.r 6 0 rfl rfl) (M.r 6 1 rfl rfl) (by simp [flen])) (M.r 6 2 rfl rfl) (by simp [flen])) (M.r 6 3 rfl rfl) (by simp [flen])) (M.lt 6 rfl) Try.underlying26 rfl info26 ?_
 simp only [putT, List.set]
 refine wpV_load (cs := fel pa.x ++ (fel pa.y) ++ (fel pa.z) ++ (fel pa.t)) (by rfl) rfl rfl (range_join (range_join (range_join (M.r 6 0 rfl rfl) (M.r 6 1 rfl rfl) (by simp [flen])) (M.r 6 2 rfl rfl) (by simp [flen])) (M.r 6 3 rfl rfl) (by simp [flen])) (M.lt 6 rfl) Try.underlying26 rfl info26 ?_
 simp only [putT, List.set]
 refine wpV_callf (v := .bool true) (args := #[.agg (fel pa.x ++ (fel pa.y) ++ (fel pa.z) ++ (fel pa.t) : List Value).toArray, .agg (fel pa.x ++ (fel pa.y) ++ (fel pa.z) ++ (fel pa.t) : List Value).toArray]) (by rfl) rfl Try.func20 (by kernel_rfl) (by kernel_rfl) rfl (fun W hW => (by have h9 := same_c (w := W) hpa hpa; rw [same_self rpa] at h9; exact h9)) ?_
 simp only [putT, List.set]
 refine wpV_pick (v := .bool true) (by rfl) rfl rfl rfl ?_
 simp only [putT, List.set]
 refine wpV_nil (hLk.out _ ?_)
 clear hLk Lk
 simp only [List.take, List.drop]
 iterate 42 refine wpN_skip (by rfl) ?_
 refine wpN_nil (fun w57 Sw57 hbs => ?_)
 clear hbs
 replace M := M.sees Sw57
 refine wpL_assign (v := .bool true) (by rfl) (by rfl) (by rfl) ?_
 simp only [putT, List.set]
 refine wpL_nil (no_panic ?_)
 refine hK55 _ _ ?_
 refine wp_ret ?_
 repeat (first | with_reducible refine then_ret ?_ | with_reducible refine inblock_ret ?_)
 refine bodyPost_ret (v := .bool true) (res1 rfl (.tmp (by rfl))) rfl ?_
 have BE := M.below
 exact ⟨rfl, BE⟩
theorem padds_c {n m z : Nat} {w : World} (hn : n < 2 ^ 256) (hm : m < 2 ^ 256) (hz : z < 18446744073709551616) :
  Calls Try.prog 5 #[fe n, fe m, .int .u64 ((z : Nat) : Int)] w fun e w' => e = .returned (.bool true) ∧ Below w.heap.size w w' := by
 have hz7 : z / 2 ^ 7 < 18446744073709551616 := Nat.lt_of_le_of_lt (Nat.div_le_self ..) hz
 cases hs : (decide (affX (scaleP (mulR n baseP 256) (z ||| 1)) = affX (scaleP (mulR m baseP 256) (z / 2 ^ 7 ||| 1))) && (decide (affY (scaleP (mulR n baseP 256) (z ||| 1)) = affY (scaleP (mulR m baseP 256) (z / 2 ^ 7 ||| 1))))) with
 | true => exact padds_eq hn hm hz (scaleP_ok ..) (scaleP_ok ..) rfl rfl (someP hz) (someP hz7) rfl rfl rfl rfl rfl rfl hs
 | false => exact padds_ne hn hm hz (scaleP_ok ..) (scaleP_ok ..) rfl rfl (someP hz) (someP hz7) rfl rfl rfl rfl rfl rfl hs
end Go.Proofs.Yc

