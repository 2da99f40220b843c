import Derived.WalkKit
import Derived.WalkSpells
import Derived.Laws.Pointers
import Derived.RowKit3
import Derived.Below
import Derived.Outline
import Derived.LoopN
import Derived.Lib.Hide
import Derived.Handy
import Derived.Laws.Bits64b
import Derived.Test.YtpgpjoldelobdaaDoorEdB
import Derived.Test.YtpgpjoldelobdaaDoorPuC
set_option linter.unusedSimpArgs false
set_option linter.unusedVariables false
namespace Go.Proofs.Yc
open Go Go.RowKit Go.Proofs.Num
open List renaming set → Z5, take → Z6, drop → Z7
open Go renaming undef → Z8, wp_seq_k → Z9, wp_cond_true → Z10, wp_cond_false → Z11
open Go.Proofs.Num renaming putT → Z12, wp_region_seq → Z13, wpL_nil → Z14, no_panic → Z15, wpL_chunk → Z16, wpL_move → Z17, wpL_assign → Z18, wpV_nil → Z19, wpV_bin → Z20, wpV_move → Z21, then_normal → Z22, wpV_callf → Z25, wpN_skip → Z28, wpN_nil → Z29, wpV_load → Z31, wpV_extract → Z32, wpL_store → Z33, wpL_var → Z36
attribute [local irreducible] wpV wpN wpList
open Go.Proofs.Ya
/-- What is parsed of a text of 32 bytes. -/
def pPar (l : List UInt8) : P4 × Int := if fparseE (yT l) = 0 then (parsP (rootX (fparseN (yT l))).1 (fparseN (yT l)) (rootX (fparseN (yT l))).2 (decide (byteN l 31 / 128 * 128 ≠ 0)), parsE (rootX (fparseN (yT l))).1 (rootX (fparseN (yT l))).2 (decide (byteN l 31 / 128 * 128 ≠ 0))) else (noneP, 10)
theorem yT_len {l : List UInt8} (h : l.length = 32) : (yT l).length = 32 := by
 unfold yT
 rw [List.length_append, List.length_take, h]
 rfl
theorem fpE_or {l : List UInt8} (hl : l.length = 32) : fparseE l = 0 ∨ (fparseE l = 2 ∧ fparseN l = 0) := by
 by_cases h : leN l < pF
 ·
  exact .inl (fp_yes hl h).1
 ·
  exact .inr (fp_no hl h)
theorem Parse_c {l : List UInt8} {w : World} (hl : l.length = 32) :
  Calls Tryd.prog 51 #[.string (bs l)] w fun e w' => e = .returned (.tuple #[.agg (fel ((pPar l).1).x ++ fel ((pPar l).1).y ++ fel ((pPar l).1).z ++ fel ((pPar l).1).t : List Value).toArray, .int .i64 (pPar l).2]) ∧ Below w.heap.size w w' := by
 rcases fpE_or (yT_len hl) with h | ⟨h, h2⟩
 ·
  obtain ⟨y, hy⟩ : ∃ y, fparseN (yT l) = y := ⟨_, rfl⟩
  rcases hr : rootX y with ⟨x, b⟩
  have hp : pPar l = (parsP x y b (decide (byteN l 31 / 128 * 128 ≠ 0)), parsE x b (decide (byteN l 31 / 128 * 128 ≠ 0))) := by
   unfold pPar
   rw [if_pos h, hy, hr]
  have hx : x < 2 ^ 256 := by
   have := rootX_lt y
   rw [hr] at this
   exact this
  rw [hp]
  exact Parse_go hl hx (hy ▸ fparseN_lt _) hy h hr
 ·
  have hp : pPar l = (noneP, 10) := by
   unfold pPar
   rw [if_neg (by rw [h]; decide)]
  rw [hp]
  exact Parse_bad hl h2 h
theorem parsP_ok {x y : Nat} {b o : Bool} (hx : x < 2 ^ 256) (hy : y < 2 ^ 256) : (parsP x y b o).Ok := by
 unfold parsP
 split
 ·
  split
  ·
   exact affP_ok (fsub_lt ..) hy
  ·
   exact affP_ok hx hy
 ·
  exact noneP_ok
theorem pPar_ok (l : List UInt8) : (pPar l).1.Ok := by
 unfold pPar
 split
 ·
  exact parsP_ok (rootX_lt _) (fparseN_lt _)
 ·
  exact noneP_ok
theorem fpN_lt {l : List UInt8} (h : fparseE l = 0) : fparseN l < pF := by
 unfold fparseN
 split
 ·
  rename_i h9
  exact h9.2
 ·
  decide
theorem pPar_right {l : List UInt8} (h : (pPar l).2 = 0) : rightP (pPar l).1 = true := by
 unfold pPar at h ⊢
 split at h
 ·
  rename_i hE
  rw [if_pos hE]
  have hy := fpN_lt hE
  generalize fparseN (yT l) = y at *
  rcases hr : rootX y with ⟨x, b⟩
  rw [hr] at h
  simp only at h ⊢
  unfold parsE at h
  unfold parsP
  by_cases hY : parsY x b (decide (byteN l 31 / 128 * 128 ≠ 0)) = true
  ·
   rw [if_pos hY]
   have hb : b = true := by
    unfold parsY at hY
    cases b
    ·
     simp at hY
    ·
     rfl
   subst hb
   obtain ⟨hx, _, ho⟩ := root_on hr
   split
   ·
    exact aff_right (fsub_ltp ..) hy (root_on_neg hr)
   ·
    exact aff_right hx hy ho
  ·
   rw [if_neg hY] at h
   exact absurd h (by decide)
 ·
  exact absurd h (by decide)
theorem pPar_text {p : P4} (hp : rightP p = true) : pPar (textQ (affX p) (affY p)) = (affP (affX p) (affY p), 0) := by
 have hx := affX_ltp p
 have hy := affY_ltp p
 have ho := (ofRightP hp).2.on
 have hr := rootX_on hx ho
 have hf := fp_text (x := affX p) hy
 have hb := textQ_odd (x := affX p) hy
 generalize affX p = x at *
 generalize affY p = y at *
 have e1 : fparseN (yT (textQ x y)) = y := hf.1
 have e2 : fparseE (yT (textQ x y)) = 0 := hf.2
 unfold pPar
 rw [if_pos e2, e1, hr, hb]
 simp only
 by_cases h : x % 2 = 1
 ·
  have h0 : ¬ fsub 0 x = 0 := fun e => by rw [fsub_zero_iff hx] at e; omega
  have hY : parsY (fsub 0 x) true (decide (x % 2 = 1)) = true := by unfold parsY; simp [h, h0]
  unfold parsP parsE
  rw [if_neg (show ¬ x % 2 = 0 by omega), if_pos hY, if_pos hY, decide_eq_true h, if_pos rfl, fsub_twice hx]
 ·
  have hY : parsY x true (decide (x % 2 = 1)) = true := by unfold parsY; simp [h]
  unfold parsP parsE
  rw [if_pos (show x % 2 = 0 by omega), if_pos hY, if_pos hY, decide_eq_false h, if_neg (by decide)]
/-- Why a signature is not right: of why the key is none, why the number is none, and whether it fits. -/
def edV (ke se : Int) (c : Bool) : Int := if ke ≠ 0 then ke else if se ≠ 0 then se else if c then 0 else 12
/-- What stands against the first half. -/
def edQ (kp : P4) (s k : Nat) : P4 := addP (mulR s baseP 256) (negP (mulR k kp 256))
set_option maxHeartbeats 4000000 in
theorem Verify_go {key m sig : List UInt8} {w : World} (hk : key.length = 32) (hs : sig.length = 64) (hm : m.length ≤ 9223372036854775680) (L2 : 2 < w.heap.size) (R2_0 : w.rangeAt 2 0 kcellsq) :
  Calls Tryd.prog 18 #[.string (bs key), .string (bs m), .string (bs sig)] w fun e w' => e = .returned (.int .i64 (edV (pPar key).2 (sparseE (sig.drop 32)) (decide (textQ (affX (edQ (pPar key).1 (sparseN (sig.drop 32)) (edR [sig.take 32, key, m]))) (affY (edQ (pPar key).1 (sparseN (sig.drop 32)) (edR [sig.take 32, key, m]))) = sig.take 32)))) ∧ Below w.heap.size w w' := by
 rcases hkp : pPar key with ⟨kp, ke⟩
 have hpk : kp.Ok := by have := pPar_ok key; rw [hkp] at this; exact this
 have hkr : ke = 0 → rightP kp = true := fun h => by have := pPar_right (l := key); rw [hkp] at this; exact this h
 go_enter Tryd.func18, Tryd.ntmps18
 have M := Mem.start w
 refine Z9 (fun K1 hK1 => ?_)
 refine Z13 ?_
 refine Z18 (v := .int .i64 0) (by rfl) (by rfl) (by rfl) ?_
 simp only [Z12, Z5]
 refine Z14 (Z15 ?_)
 refine hK1 _ _ ?_
 refine Z9 (fun K3 hK3 => ?_)
 refine Z9 (fun K4 hK4 => ?_)
 refine Z13 ?_
 refine Z17 (v := .string (bs key)) (by rfl) (by rfl) (by rfl) ?_
 simp only [Z12, Z5]
 refine Z16 7 (by rfl) (fun Lk hLk => ?_)
 simp only [Z6, Z7]
 refine wpV_lenS (by rfl) rfl rfl rfl Tryd.underlying9 ?_
 simp only [Z12, Z5]
 refine Z20 (v := .bool false) (by rfl) rfl rfl rfl (fun W => (run_neqN key.length 32 _ _ W).trans (by rw [(decide_eq_false (fun h => h hk))])) ?_
 simp only [Z12, Z5]
 refine Z21 (v := .bool false) (by rfl) rfl rfl ?_
 simp only [Z12, Z5]
 refine Z21 (v := .string (bs sig)) (by rfl) rfl rfl ?_
 simp only [Z12, Z5]
 refine wpV_lenS (by rfl) rfl rfl rfl Tryd.underlying9 ?_
 simp only [Z12, Z5]
 refine Z20 (v := .bool false) (by rfl) rfl rfl rfl (fun W => (run_neqN sig.length 64 _ _ W).trans (by rw [(decide_eq_false (fun h => h hs))])) ?_
 simp only [Z12, Z5]
 refine wpV_pick (v := .bool false) (by rfl) rfl rfl rfl ?_
 simp only [Z12, Z5]
 refine Z19 (hLk _ (fun w6 Sw6 => ?_))
 clear hLk Lk
 simp only [Z6, Z7]
 replace M := M.sees Sw6
 refine Z14 (Z15 ?_)
 refine hK4 _ _ ?_
 refine Z11 rfl ?_
 refine wp_skip ?_
 refine hK3 _ _ ?_
 refine Z9 (fun K7 hK7 => ?_)
 refine Z13 ?_
 refine Z17 (v := .string (bs key)) (by rfl) (by rfl) (by rfl) ?_
 simp only [Z12, Z5]
 refine Z16 4 (by rfl) (fun Lk hLk => ?_)
 simp only [Z6, Z7]
 refine Z25 (v := .tuple #[.agg (fel kp.x ++ fel kp.y ++ fel kp.z ++ fel kp.t : List Value).toArray, .int .i64 ke]) (args := #[.string (bs key)]) (by rfl) rfl Tryd.func51 (by kernel_rfl) (by kernel_rfl) rfl (fun W hW => (by have h9 := Parse_c (w := W) hk; rw [hkp] at h9; exact h9)) ?_
 simp only [Z12, Z5]
 refine Z21 (v := .tuple #[.agg (fel kp.x ++ fel kp.y ++ fel kp.z ++ fel kp.t : List Value).toArray, .int .i64 ke]) (by rfl) rfl rfl ?_
 simp only [Z12, Z5]
 refine Z32 (v := .agg (fel kp.x ++ fel kp.y ++ fel kp.z ++ fel kp.t : List Value).toArray) (by rfl) rfl rfl rfl ?_
 simp only [Z12, Z5]
 refine Z32 (v := .int .i64 ke) (by rfl) rfl rfl rfl ?_
 simp only [Z12, Z5]
 refine Z19 (hLk _ (fun w9 Sw9 => ?_))
 clear hLk Lk
 simp only [Z6, Z7]
 replace M := M.sees Sw9
 refine Z36 (t := 88) (cs := [.int .u64 0, .int .u64 0, .int .u64 0, .int .u64 0, .int .u64 0, .int .u64 0, .int .u64 0, .int .u64 0, .int .u64 0, .int .u64 0, .int .u64 0, .int .u64 0, .int .u64 0, .int .u64 0, .int .u64 0, .int .u64 0]) (by rfl) (fun W => ?_) (fun g10 w11 Sw11 Hg10 Bg10 => ?_)
 ·
  go_simp
 replace M := ((M.sees Sw11).addS (N := 16) (cs := [.int .u64 0, .int .u64 0, .int .u64 0, .int .u64 0, .int .u64 0, .int .u64 0, .int .u64 0, .int .u64 0, .int .u64 0, .int .u64 0, .int .u64 0, .int .u64 0, .int .u64 0, .int .u64 0, .int .u64 0, .int .u64 0]) (segs := [(0, [.int .u64 0, .int .u64 0, .int .u64 0, .int .u64 0]), (4, [.int .u64 0, .int .u64 0, .int .u64 0, .int .u64 0]), (8, [.int .u64 0, .int .u64 0, .int .u64 0, .int .u64 0]), (12, [.int .u64 0, .int .u64 0, .int .u64 0, .int .u64 0])]) (M.ge Hg10) (M.fresh Hg10) Bg10 rfl ⟨rfl, rfl, rfl, rfl, trivial⟩)
 clear Bg10
 simp only [Z12, Z5]
 refine Z33 (g := g10) (off := 0) (n := 16) (cs := fel kp.x ++ fel kp.y ++ fel kp.z ++ fel kp.t) (by rfl) (by rfl) (by rfl) (by rfl) (by rfl) (M.t 0 rfl) (by simp [flen]) info88 (one4 _ _ _ _) (fun w12 P R T => ?_)
 replace M := M.put (segs' := [(0, fel kp.x), (4, fel kp.y), (8, fel kp.z), (12, fel kp.t)]) 0 rfl P T (SegsOf.at R ⟨rfl, rfl, rfl, rfl, trivial⟩)
 simp only [Z5] at M
 refine Z18 (v := .int .i64 ke) (by rfl) (by rfl) (by rfl) ?_
 simp only [Z12, Z5]
 refine Z14 (Z15 ?_)
 refine hK7 _ _ ?_
 refine Z9 (fun K13 hK13 => ?_)
 refine Z9 (fun K14 hK14 => ?_)
 refine Z13 ?_
 refine Z17 (v := .int .i64 ke) (by rfl) (by rfl) (by rfl) ?_
 simp only [Z12, Z5]
 refine Z16 1 (by rfl) (fun Lk hLk => ?_)
 simp only [Z6, Z7]
 refine Z20 (v := .bool (ke != 0)) (by rfl) rfl rfl rfl (fun W => run_neq _ _ _ _ W) ?_
 simp only [Z12, Z5]
 refine Z19 (hLk _ (fun w16 Sw16 => ?_))
 clear hLk Lk
 simp only [Z6, Z7]
 replace M := M.sees Sw16
 refine Z14 (Z15 ?_)
 refine hK14 _ _ ?_
 cases hc17 : (ke != 0)
 ·
  have rkp := hkr (by simpa using hc17)
  refine Z11 rfl ?_
  refine wp_skip ?_
  refine hK13 _ _ ?_
  refine Z9 (fun K18 hK18 => ?_)
  refine Z13 ?_
  refine Z17 (v := .string (bs sig)) (by rfl) (by rfl) (by rfl) ?_
  simp only [Z12, Z5]
  refine Z16 5 (by rfl) (fun Lk hLk => ?_)
  simp only [Z6, Z7]
  refine wpV_drop (l := sig) (lo := 32) (by rfl) rfl rfl rfl Tryd.underlying9 (by omega) ?_
  simp only [Z12, Z5]
  refine Z25 (v := .tuple #[fe (sparseN (sig.drop 32)), .int .i64 (sparseE (sig.drop 32))]) (args := #[.string (bs (sig.drop 32))]) (by rfl) rfl Tryd.func52 (by kernel_rfl) (by kernel_rfl) rfl (fun W hW => sparse_c (sig.drop 32) W) ?_
  simp only [Z12, Z5]
  refine Z21 (v := .tuple #[fe (sparseN (sig.drop 32)), .int .i64 (sparseE (sig.drop 32))]) (by rfl) rfl rfl ?_
  simp only [Z12, Z5]
  refine Z32 (v := fe (sparseN (sig.drop 32))) (by rfl) rfl rfl rfl ?_
  simp only [Z12, Z5]
  refine Z32 (v := .int .i64 (sparseE (sig.drop 32))) (by rfl) rfl rfl rfl ?_
  simp only [Z12, Z5]
  refine Z19 (hLk _ (fun w20 Sw20 => ?_))
  clear hLk Lk
  simp only [Z6, Z7]
  replace M := M.sees Sw20
  refine Z36 (t := 80) (cs := [.int .u64 0, .int .u64 0, .int .u64 0, .int .u64 0]) (by rfl) (fun W => ?_) (fun g21 w22 Sw22 Hg21 Bg21 => ?_)
  ·
   go_simp
  replace M := ((M.sees Sw22).add (N := 4) (cs := [.int .u64 0, .int .u64 0, .int .u64 0, .int .u64 0]) (M.ge Hg21) (M.fresh Hg21) Bg21 rfl)
  clear Bg21
  simp only [Z12, Z5]
  refine Z33 (g := g21) (off := 0) (n := 4) (cs := fel (sparseN (sig.drop 32))) (by rfl) (by rfl) (by rfl) (by rfl) (by rfl) (M.t 0 rfl) (by simp [flen]) info80 (fel_one _) (fun w23 P R T => ?_)
  replace M := M.putS 0 0 rfl P R T rfl ⟨.inl rfl, trivial⟩
  simp only [Z5] at M
  refine Z18 (v := .int .i64 (sparseE (sig.drop 32))) (by rfl) (by rfl) (by rfl) ?_
  simp only [Z12, Z5]
  refine Z14 (Z15 ?_)
  refine hK18 _ _ ?_
  refine Z9 (fun K24 hK24 => ?_)
  refine Z9 (fun K25 hK25 => ?_)
  refine Z13 ?_
  refine Z17 (v := .int .i64 (sparseE (sig.drop 32))) (by rfl) (by rfl) (by rfl) ?_
  simp only [Z12, Z5]
  refine Z16 1 (by rfl) (fun Lk hLk => ?_)
  simp only [Z6, Z7]
  refine Z20 (v := .bool ((sparseE (sig.drop 32)) != 0)) (by rfl) rfl rfl rfl (fun W => run_neq _ _ _ _ W) ?_
  simp only [Z12, Z5]
  refine Z19 (hLk _ (fun w27 Sw27 => ?_))
  clear hLk Lk
  simp only [Z6, Z7]
  replace M := M.sees Sw27
  refine Z14 (Z15 ?_)
  refine hK25 _ _ ?_
  cases hc28 : ((sparseE (sig.drop 32)) != 0)
  ·
   refine Z11 rfl ?_
   refine wp_skip ?_
   refine hK24 _ _ ?_
   refine Z9 (fun K29 hK29 => ?_)
   refine wp_region_addsF 12 [10] [4, 11] [ValRel (.string (bs sig)), ValRel (.string (bs (sig.take 32))), ValRel (.string (bs key)), ValRel (.string (bs m)), BoxRel w27 (fun gA => .slice (some ⟨gA, 0, none⟩) 3 3) 3 [(0, [.string (bs (sig.take 32)), .string (bs key), .string (bs m)])], ValRel (fe (edR [sig.take 32, key, m])), ValRel (.agg (fel kp.x ++ (fel kp.y) ++ (fel kp.z) ++ (fel kp.t) : List Value).toArray), ValRel (.tuple #[.agg (fel (mulR (edR [sig.take 32, key, m]) kp 256).x ++ fel (mulR (edR [sig.take 32, key, m]) kp 256).y ++ fel (mulR (edR [sig.take 32, key, m]) kp 256).z ++ fel (mulR (edR [sig.take 32, key, m]) kp 256).t : List Value).toArray, .int .i64 0]), ValRel (.tuple #[.agg (fel (mulR (edR [sig.take 32, key, m]) kp 256).x ++ fel (mulR (edR [sig.take 32, key, m]) kp 256).y ++ fel (mulR (edR [sig.take 32, key, m]) kp 256).z ++ fel (mulR (edR [sig.take 32, key, m]) kp 256).t : List Value).toArray, .int .i64 0]), ValRel (.agg (fel (mulR (edR [sig.take 32, key, m]) kp 256).x ++ fel (mulR (edR [sig.take 32, key, m]) kp 256).y ++ fel (mulR (edR [sig.take 32, key, m]) kp 256).z ++ fel (mulR (edR [sig.take 32, key, m]) kp 256).t : List Value).toArray), ValRel (.int .i64 0), BoxRel w27 (fun gA => .pointer (some ⟨gA, 0, none⟩)) 16 [(0, [.int .u64 0, .int .u64 0, .int .u64 0, .int .u64 0]), (4, [.int .u64 0, .int .u64 0, .int .u64 0, .int .u64 0]), (8, [.int .u64 0, .int .u64 0, .int .u64 0, .int .u64 0]), (12, [.int .u64 0, .int .u64 0, .int .u64 0, .int .u64 0])]] [[], [0], [], [], [1, 2, 3], [4], [], [5, 6], [7], [8], [8], []] (fun vs => { tmps := #[.string (bs key), .string (bs m), .string (bs sig), Z8, Z8, Z8, .int .i64 0, .pointer (some ⟨g10, 0, none⟩), .int .i64 (sparseE (sig.drop 32)), .pointer (some ⟨g21, 0, none⟩), vs 11, Z8, Z8, Z8, Z8, Z8, Z8, Z8, .string (bs key), .int .i64 ((key.length : Nat) : Int), .bool false, .bool false, .string (bs sig), .int .i64 ((sig.length : Nat) : Int), .bool false, .bool false, .tuple #[.agg (fel kp.x ++ fel kp.y ++ fel kp.z ++ fel kp.t : List Value).toArray, .int .i64 ke], .string (bs key), .tuple #[.agg (fel kp.x ++ fel kp.y ++ fel kp.z ++ fel kp.t : List Value).toArray, .int .i64 ke], .agg (fel kp.x ++ fel kp.y ++ fel kp.z ++ fel kp.t : List Value).toArray, .int .i64 ke, .int .i64 ke, .bool false, Z8, .tuple #[fe (sparseN (sig.drop 32)), .int .i64 (sparseE (sig.drop 32))], .string (bs sig), .string (bs (sig.drop 32)), .tuple #[fe (sparseN (sig.drop 32)), .int .i64 (sparseE (sig.drop 32))], fe (sparseN (sig.drop 32)), .int .i64 (sparseE (sig.drop 32)), .int .i64 (sparseE (sig.drop 32)), .bool false, Z8, vs 8, vs 0, vs 1, vs 2, vs 3, vs 4, vs 5, vs 6, vs 7, vs 9, vs 10, Z8, Z8, Z8, Z8, Z8, Z8, Z8, Z8, Z8, Z8, Z8, Z8, Z8, Z8, Z8, Z8, Z8, Z8, Z8, Z8, Z8, Z8, Z8, Z8, Z8, Z8], defers := [] }) (by kernel_rfl) (by kernel_rfl) (by kernel_rfl) (by kernel_rfl) (.cons keep_val (.cons keep_val (.cons keep_val (.cons keep_val (.cons keep_box (.cons keep_val (.cons keep_val (.cons keep_val (.cons keep_val (.cons keep_val (.cons keep_val (.cons keep_box AllKeep.nil)))))))))))) (.free free_val (.free free_val (.free free_val (.free free_val (.free free_box (.free free_val (.free free_val (.free free_val (.free free_val (.free free_val (.free free_val (.free free_box AllLoc.nil)))))))))))) (.cons own_box (.cons own_box AllOwn.nil)) (by kernel_rfl) ?_ ?_
   ·
    simp only [Z6]
    refine RulesL.cons (fun vs => { tmps := #[.string (bs key), .string (bs m), .string (bs sig), Z8, Z8, Z8, .int .i64 0, .pointer (some ⟨g10, 0, none⟩), .int .i64 (sparseE (sig.drop 32)), .pointer (some ⟨g21, 0, none⟩), Z8, Z8, Z8, Z8, Z8, Z8, Z8, Z8, .string (bs key), .int .i64 ((key.length : Nat) : Int), .bool false, .bool false, .string (bs sig), .int .i64 ((sig.length : Nat) : Int), .bool false, .bool false, .tuple #[.agg (fel kp.x ++ fel kp.y ++ fel kp.z ++ fel kp.t : List Value).toArray, .int .i64 ke], .string (bs key), .tuple #[.agg (fel kp.x ++ fel kp.y ++ fel kp.z ++ fel kp.t : List Value).toArray, .int .i64 ke], .agg (fel kp.x ++ fel kp.y ++ fel kp.z ++ fel kp.t : List Value).toArray, .int .i64 ke, .int .i64 ke, .bool false, Z8, .tuple #[fe (sparseN (sig.drop 32)), .int .i64 (sparseE (sig.drop 32))], .string (bs sig), .string (bs (sig.drop 32)), .tuple #[fe (sparseN (sig.drop 32)), .int .i64 (sparseE (sig.drop 32))], fe (sparseN (sig.drop 32)), .int .i64 (sparseE (sig.drop 32)), .int .i64 (sparseE (sig.drop 32)), .bool false, Z8, Z8, Z8, Z8, Z8, Z8, Z8, Z8, Z8, Z8, Z8, Z8, Z8, Z8, Z8, Z8, Z8, Z8, Z8, Z8, Z8, Z8, Z8, Z8, Z8, Z8, Z8, Z8, Z8, Z8, Z8, Z8, Z8, Z8, Z8, Z8, Z8, Z8], defers := [] }) (by kernel_rfl) ?_ ?_
    ·
     intro vs gs W32 SW32 D K9 hK9
     replace M := M.sees SW32
     dsimp only at hK9
     dsimp only
     refine Z17 (v := .string (bs sig)) (by rfl) (by rfl) (by rfl) ?_
     simp only [Z12, Z5]
     refine Z14 (Z22 ?_)
     have h8 := hK9 (.string (bs sig))
     have h9 := h8 0 _ (sees_refl _) rfl (fun h => absurd h (by decide))
     simp only [Z12, Z5] at h9
     exact h9
    refine RulesL.cons (fun vs => { tmps := #[.string (bs key), .string (bs m), .string (bs sig), Z8, Z8, Z8, .int .i64 0, .pointer (some ⟨g10, 0, none⟩), .int .i64 (sparseE (sig.drop 32)), .pointer (some ⟨g21, 0, none⟩), Z8, Z8, Z8, Z8, Z8, Z8, Z8, Z8, .string (bs key), .int .i64 ((key.length : Nat) : Int), .bool false, .bool false, .string (bs sig), .int .i64 ((sig.length : Nat) : Int), .bool false, .bool false, .tuple #[.agg (fel kp.x ++ fel kp.y ++ fel kp.z ++ fel kp.t : List Value).toArray, .int .i64 ke], .string (bs key), .tuple #[.agg (fel kp.x ++ fel kp.y ++ fel kp.z ++ fel kp.t : List Value).toArray, .int .i64 ke], .agg (fel kp.x ++ fel kp.y ++ fel kp.z ++ fel kp.t : List Value).toArray, .int .i64 ke, .int .i64 ke, .bool false, Z8, .tuple #[fe (sparseN (sig.drop 32)), .int .i64 (sparseE (sig.drop 32))], .string (bs sig), .string (bs (sig.drop 32)), .tuple #[fe (sparseN (sig.drop 32)), .int .i64 (sparseE (sig.drop 32))], fe (sparseN (sig.drop 32)), .int .i64 (sparseE (sig.drop 32)), .int .i64 (sparseE (sig.drop 32)), .bool false, Z8, Z8, vs 0, Z8, Z8, Z8, Z8, Z8, Z8, Z8, Z8, Z8, Z8, Z8, Z8, Z8, Z8, Z8, Z8, Z8, Z8, Z8, Z8, Z8, Z8, Z8, Z8, Z8, Z8, Z8, Z8, Z8, Z8, Z8, Z8, Z8, Z8, Z8], defers := [] }) (by kernel_rfl) ?_ ?_
    ·
     intro vs gs W33 SW33 D K9 hK9
     replace M := M.sees SW33
     obtain ⟨D0, _⟩ := D
     have e0 : vs 0 = .string (bs sig) := D0
     dsimp only at hK9
     dsimp only
     rw [e0] at hK9 ⊢
     refine Z16 1 (by rfl) (fun Lk hLk => ?_)
     simp only [Z6, Z7]
     refine wpV_takeS (l := sig) (hi := 32) (by rfl) rfl rfl rfl Tryd.underlying9 (by omega) ?_
     simp only [Z12, Z5]
     refine Z19 (hLk _ (fun w34 Sw34 => ?_))
     clear hLk Lk
     simp only [Z6, Z7]
     replace M := M.sees Sw34
     refine Z14 (Z22 ?_)
     have h8 := hK9 (.string (bs (sig.take 32)))
     have h9 := h8 0 _ Sw34 rfl (fun h => absurd h (by decide))
     simp only [Z12, Z5] at h9
     exact h9
    refine RulesL.cons (fun vs => { tmps := #[.string (bs key), .string (bs m), .string (bs sig), Z8, Z8, Z8, .int .i64 0, .pointer (some ⟨g10, 0, none⟩), .int .i64 (sparseE (sig.drop 32)), .pointer (some ⟨g21, 0, none⟩), Z8, Z8, Z8, Z8, Z8, Z8, Z8, Z8, .string (bs key), .int .i64 ((key.length : Nat) : Int), .bool false, .bool false, .string (bs sig), .int .i64 ((sig.length : Nat) : Int), .bool false, .bool false, .tuple #[.agg (fel kp.x ++ fel kp.y ++ fel kp.z ++ fel kp.t : List Value).toArray, .int .i64 ke], .string (bs key), .tuple #[.agg (fel kp.x ++ fel kp.y ++ fel kp.z ++ fel kp.t : List Value).toArray, .int .i64 ke], .agg (fel kp.x ++ fel kp.y ++ fel kp.z ++ fel kp.t : List Value).toArray, .int .i64 ke, .int .i64 ke, .bool false, Z8, .tuple #[fe (sparseN (sig.drop 32)), .int .i64 (sparseE (sig.drop 32))], .string (bs sig), .string (bs (sig.drop 32)), .tuple #[fe (sparseN (sig.drop 32)), .int .i64 (sparseE (sig.drop 32))], fe (sparseN (sig.drop 32)), .int .i64 (sparseE (sig.drop 32)), .int .i64 (sparseE (sig.drop 32)), .bool false, Z8, Z8, Z8, Z8, Z8, Z8, Z8, Z8, Z8, Z8, Z8, Z8, Z8, Z8, Z8, Z8, Z8, Z8, Z8, Z8, Z8, Z8, Z8, Z8, Z8, Z8, Z8, Z8, Z8, Z8, Z8, Z8, Z8, Z8, Z8, Z8, Z8, Z8], defers := [] }) (by kernel_rfl) ?_ ?_
    ·
     intro vs gs W35 SW35 D K9 hK9
     replace M := M.sees SW35
     dsimp only at hK9
     dsimp only
     refine Z17 (v := .string (bs key)) (by rfl) (by rfl) (by rfl) ?_
     simp only [Z12, Z5]
     refine Z14 (Z22 ?_)
     have h8 := hK9 (.string (bs key))
     have h9 := h8 0 _ (sees_refl _) rfl (fun h => absurd h (by decide))
     simp only [Z12, Z5] at h9
     exact h9
    refine RulesL.cons (fun vs => { tmps := #[.string (bs key), .string (bs m), .string (bs sig), Z8, Z8, Z8, .int .i64 0, .pointer (some ⟨g10, 0, none⟩), .int .i64 (sparseE (sig.drop 32)), .pointer (some ⟨g21, 0, none⟩), Z8, Z8, Z8, Z8, Z8, Z8, Z8, Z8, .string (bs key), .int .i64 ((key.length : Nat) : Int), .bool false, .bool false, .string (bs sig), .int .i64 ((sig.length : Nat) : Int), .bool false, .bool false, .tuple #[.agg (fel kp.x ++ fel kp.y ++ fel kp.z ++ fel kp.t : List Value).toArray, .int .i64 ke], .string (bs key), .tuple #[.agg (fel kp.x ++ fel kp.y ++ fel kp.z ++ fel kp.t : List Value).toArray, .int .i64 ke], .agg (fel kp.x ++ fel kp.y ++ fel kp.z ++ fel kp.t : List Value).toArray, .int .i64 ke, .int .i64 ke, .bool false, Z8, .tuple #[fe (sparseN (sig.drop 32)), .int .i64 (sparseE (sig.drop 32))], .string (bs sig), .string (bs (sig.drop 32)), .tuple #[fe (sparseN (sig.drop 32)), .int .i64 (sparseE (sig.drop 32))], fe (sparseN (sig.drop 32)), .int .i64 (sparseE (sig.drop 32)), .int .i64 (sparseE (sig.drop 32)), .bool false, Z8, Z8, Z8, Z8, Z8, Z8, Z8, Z8, Z8, Z8, Z8, Z8, Z8, Z8, Z8, Z8, Z8, Z8, Z8, Z8, Z8, Z8, Z8, Z8, Z8, Z8, Z8, Z8, Z8, Z8, Z8, Z8, Z8, Z8, Z8, Z8, Z8, Z8], defers := [] }) (by kernel_rfl) ?_ ?_
    ·
     intro vs gs W36 SW36 D K9 hK9
     replace M := M.sees SW36
     dsimp only at hK9
     dsimp only
     refine Z17 (v := .string (bs m)) (by rfl) (by rfl) (by rfl) ?_
     simp only [Z12, Z5]
     refine Z14 (Z22 ?_)
     have h8 := hK9 (.string (bs m))
     have h9 := h8 0 _ (sees_refl _) rfl (fun h => absurd h (by decide))
     simp only [Z12, Z5] at h9
     exact h9
    refine RulesL.cons (fun vs => { tmps := #[.string (bs key), .string (bs m), .string (bs sig), Z8, Z8, Z8, .int .i64 0, .pointer (some ⟨g10, 0, none⟩), .int .i64 (sparseE (sig.drop 32)), .pointer (some ⟨g21, 0, none⟩), Z8, Z8, Z8, Z8, Z8, Z8, Z8, Z8, .string (bs key), .int .i64 ((key.length : Nat) : Int), .bool false, .bool false, .string (bs sig), .int .i64 ((sig.length : Nat) : Int), .bool false, .bool false, .tuple #[.agg (fel kp.x ++ fel kp.y ++ fel kp.z ++ fel kp.t : List Value).toArray, .int .i64 ke], .string (bs key), .tuple #[.agg (fel kp.x ++ fel kp.y ++ fel kp.z ++ fel kp.t : List Value).toArray, .int .i64 ke], .agg (fel kp.x ++ fel kp.y ++ fel kp.z ++ fel kp.t : List Value).toArray, .int .i64 ke, .int .i64 ke, .bool false, Z8, .tuple #[fe (sparseN (sig.drop 32)), .int .i64 (sparseE (sig.drop 32))], .string (bs sig), .string (bs (sig.drop 32)), .tuple #[fe (sparseN (sig.drop 32)), .int .i64 (sparseE (sig.drop 32))], fe (sparseN (sig.drop 32)), .int .i64 (sparseE (sig.drop 32)), .int .i64 (sparseE (sig.drop 32)), .bool false, Z8, Z8, Z8, vs 1, vs 2, vs 3, Z8, Z8, Z8, Z8, Z8, Z8, Z8, Z8, Z8, Z8, Z8, Z8, Z8, Z8, Z8, Z8, Z8, Z8, Z8, Z8, Z8, Z8, Z8, Z8, Z8, Z8, Z8, Z8, Z8, Z8, Z8, Z8], defers := [] }) (by kernel_rfl) ?_ ?_
    ·
     intro vs gs W37 SW37 D K9 hK9
     replace M := M.sees SW37
     replace R2_0 := M.oldR R2_0 L2
     replace L2 := M.oldL L2
     have Rg21_0 := M.r 0 0 rfl rfl
     have Lg21 := M.lt 0 rfl
     have Rg10_0 := M.r 1 0 rfl rfl
     have Rg10_4 := M.r 1 1 rfl rfl
     have Rg10_8 := M.r 1 2 rfl rfl
     have Rg10_12 := M.r 1 3 rfl rfl
     have Lg10 := M.lt 1 rfl
     have BB := M.below
     replace M := Mem.start W37
     obtain ⟨D1, D2, D3, _⟩ := D
     have e1 : vs 1 = .string (bs (sig.take 32)) := D1
     have e2 : vs 2 = .string (bs key) := D2
     have e3 : vs 3 = .string (bs m) := D3
     dsimp only at hK9
     dsimp only
     rw [e1, e2, e3] at hK9 ⊢
     refine wpL_rowN (vs := [.string (bs (sig.take 32)), .string (bs key), .string (bs m)]) (z := .string { data := #[] }) (bytes := 16) (by rfl) (by rfl) Tryd.underlying37 (by kernel_rfl) (by decide) (by kernel_rfl) (fun g38 w39 Sw39 Hg38 Bg38 => ?_)
     replace M := ((M.sees Sw39).add (N := 3) (cs := [.string (bs (sig.take 32)), .string (bs key), .string (bs m)]) (M.ge Hg38) (M.fresh Hg38) Bg38 rfl)
     clear Bg38
     simp only [Z12, Z5]
     refine Z14 (Z22 ?_)
     have h8 := hK9 (.slice (some ⟨g38, 0, none⟩) 3 3)
     have h9 := h8 g38 _ M.seesAll ⟨rfl, (M.ok _ (.head _)).up SW37⟩ (fun _ => (M.ok _ (.head _)).ge)
     simp only [Z12, Z5] at h9
     exact h9
    refine RulesL.cons (fun vs => { tmps := #[.string (bs key), .string (bs m), .string (bs sig), Z8, Z8, Z8, .int .i64 0, .pointer (some ⟨g10, 0, none⟩), .int .i64 (sparseE (sig.drop 32)), .pointer (some ⟨g21, 0, none⟩), Z8, Z8, Z8, Z8, Z8, Z8, Z8, Z8, .string (bs key), .int .i64 ((key.length : Nat) : Int), .bool false, .bool false, .string (bs sig), .int .i64 ((sig.length : Nat) : Int), .bool false, .bool false, .tuple #[.agg (fel kp.x ++ fel kp.y ++ fel kp.z ++ fel kp.t : List Value).toArray, .int .i64 ke], .string (bs key), .tuple #[.agg (fel kp.x ++ fel kp.y ++ fel kp.z ++ fel kp.t : List Value).toArray, .int .i64 ke], .agg (fel kp.x ++ fel kp.y ++ fel kp.z ++ fel kp.t : List Value).toArray, .int .i64 ke, .int .i64 ke, .bool false, Z8, .tuple #[fe (sparseN (sig.drop 32)), .int .i64 (sparseE (sig.drop 32))], .string (bs sig), .string (bs (sig.drop 32)), .tuple #[fe (sparseN (sig.drop 32)), .int .i64 (sparseE (sig.drop 32))], fe (sparseN (sig.drop 32)), .int .i64 (sparseE (sig.drop 32)), .int .i64 (sparseE (sig.drop 32)), .bool false, Z8, Z8, Z8, Z8, Z8, Z8, vs 4, Z8, Z8, Z8, Z8, Z8, Z8, Z8, Z8, Z8, Z8, Z8, Z8, Z8, Z8, Z8, Z8, Z8, Z8, Z8, Z8, Z8, Z8, Z8, Z8, Z8, Z8, Z8, Z8, Z8, Z8, Z8], defers := [] }) (by kernel_rfl) ?_ ?_
    ·
     intro vs gs W40 SW40 D K9 hK9
     replace M := M.sees SW40
     replace R2_0 := M.oldR R2_0 L2
     replace L2 := M.oldL L2
     have Rg21_0 := M.r 0 0 rfl rfl
     have Lg21 := M.lt 0 rfl
     have Rg10_0 := M.r 1 0 rfl rfl
     have Rg10_4 := M.r 1 1 rfl rfl
     have Rg10_8 := M.r 1 2 rfl rfl
     have Rg10_12 := M.r 1 3 rfl rfl
     have Lg10 := M.lt 1 rfl
     have BB := M.below
     replace M := Mem.start W40
     obtain ⟨D4, _⟩ := D
     obtain ⟨e4, Og41⟩ := D4
     generalize gs 4 = g41 at *
     replace e4 : vs 4 = .slice (some ⟨g41, 0, none⟩) 3 3 := e4
     have Rg41_0 := Og41.range (0, [.string (bs (sig.take 32)), .string (bs key), .string (bs m)]) (by simp only [List.mem_cons, true_or, or_true])
     have Lg41 := Og41.lt
     dsimp only at hK9
     dsimp only
     rw [e4] at hK9 ⊢
     refine Z16 1 (by rfl) (fun Lk hLk => ?_)
     simp only [Z6, Z7]
     refine Z25 (v := fe (edR [sig.take 32, key, m])) (args := #[.slice (some ⟨g41, 0, none⟩) 3 3]) (by rfl) rfl Tryd.func47 (by kernel_rfl) (by kernel_rfl) rfl (fun W hW => wide_q (ps := [sig.take 32, key, m]) (w := W) (by simp) (getD_all (all3 (by rw [List.length_take]; omega) (by omega) hm)) ((M.sees hW).oldL L2) ((M.sees hW).oldR R2_0 L2) (Nat.le_refl _) ((M.sees hW).oldL Lg41) ((M.sees hW).oldR Rg41_0 Lg41)) ?_
     simp only [Z12, Z5]
     refine Z19 (hLk _ (fun w42 Sw42 => ?_))
     clear hLk Lk
     simp only [Z6, Z7]
     replace M := M.sees Sw42
     refine Z14 (Z22 ?_)
     have h8 := hK9 (fe (edR [sig.take 32, key, m]))
     have h9 := h8 0 _ M.seesAll rfl (fun h => absurd h (by decide))
     simp only [Z12, Z5] at h9
     exact h9
    refine RulesL.cons (fun vs => { tmps := #[.string (bs key), .string (bs m), .string (bs sig), Z8, Z8, Z8, .int .i64 0, .pointer (some ⟨g10, 0, none⟩), .int .i64 (sparseE (sig.drop 32)), .pointer (some ⟨g21, 0, none⟩), Z8, Z8, Z8, Z8, Z8, Z8, Z8, Z8, .string (bs key), .int .i64 ((key.length : Nat) : Int), .bool false, .bool false, .string (bs sig), .int .i64 ((sig.length : Nat) : Int), .bool false, .bool false, .tuple #[.agg (fel kp.x ++ fel kp.y ++ fel kp.z ++ fel kp.t : List Value).toArray, .int .i64 ke], .string (bs key), .tuple #[.agg (fel kp.x ++ fel kp.y ++ fel kp.z ++ fel kp.t : List Value).toArray, .int .i64 ke], .agg (fel kp.x ++ fel kp.y ++ fel kp.z ++ fel kp.t : List Value).toArray, .int .i64 ke, .int .i64 ke, .bool false, Z8, .tuple #[fe (sparseN (sig.drop 32)), .int .i64 (sparseE (sig.drop 32))], .string (bs sig), .string (bs (sig.drop 32)), .tuple #[fe (sparseN (sig.drop 32)), .int .i64 (sparseE (sig.drop 32))], fe (sparseN (sig.drop 32)), .int .i64 (sparseE (sig.drop 32)), .int .i64 (sparseE (sig.drop 32)), .bool false, Z8, Z8, Z8, Z8, Z8, Z8, Z8, Z8, Z8, Z8, Z8, Z8, Z8, Z8, Z8, Z8, Z8, Z8, Z8, Z8, Z8, Z8, Z8, Z8, Z8, Z8, Z8, Z8, Z8, Z8, Z8, Z8, Z8, Z8, Z8, Z8, Z8, Z8], defers := [] }) (by kernel_rfl) ?_ ?_
    ·
     intro vs gs W43 SW43 D K9 hK9
     replace M := M.sees SW43
     dsimp only at hK9
     dsimp only
     refine Z16 1 (by rfl) (fun Lk hLk => ?_)
     simp only [Z6, Z7]
     refine Z31 (cs := fel kp.x ++ (fel kp.y) ++ (fel kp.z) ++ (fel kp.t)) (by rfl) rfl rfl (range_join (range_join (range_join (M.r 1 0 rfl rfl) (M.r 1 1 rfl rfl) (by simp [flen])) (M.r 1 2 rfl rfl) (by simp [flen])) (M.r 1 3 rfl rfl) (by simp [flen])) (M.lt 1 rfl) Tryd.underlying88 rfl info88 ?_
     simp only [Z12, Z5]
     refine Z19 (hLk _ (fun w44 Sw44 => ?_))
     clear hLk Lk
     simp only [Z6, Z7]
     replace M := M.sees Sw44
     refine Z14 (Z22 ?_)
     have h8 := hK9 (.agg (fel kp.x ++ (fel kp.y) ++ (fel kp.z) ++ (fel kp.t) : List Value).toArray)
     have h9 := h8 0 _ Sw44 rfl (fun h => absurd h (by decide))
     simp only [Z12, Z5] at h9
     exact h9
    refine RulesL.cons (fun vs => { tmps := #[.string (bs key), .string (bs m), .string (bs sig), Z8, Z8, Z8, .int .i64 0, .pointer (some ⟨g10, 0, none⟩), .int .i64 (sparseE (sig.drop 32)), .pointer (some ⟨g21, 0, none⟩), Z8, Z8, Z8, Z8, Z8, Z8, Z8, Z8, .string (bs key), .int .i64 ((key.length : Nat) : Int), .bool false, .bool false, .string (bs sig), .int .i64 ((sig.length : Nat) : Int), .bool false, .bool false, .tuple #[.agg (fel kp.x ++ fel kp.y ++ fel kp.z ++ fel kp.t : List Value).toArray, .int .i64 ke], .string (bs key), .tuple #[.agg (fel kp.x ++ fel kp.y ++ fel kp.z ++ fel kp.t : List Value).toArray, .int .i64 ke], .agg (fel kp.x ++ fel kp.y ++ fel kp.z ++ fel kp.t : List Value).toArray, .int .i64 ke, .int .i64 ke, .bool false, Z8, .tuple #[fe (sparseN (sig.drop 32)), .int .i64 (sparseE (sig.drop 32))], .string (bs sig), .string (bs (sig.drop 32)), .tuple #[fe (sparseN (sig.drop 32)), .int .i64 (sparseE (sig.drop 32))], fe (sparseN (sig.drop 32)), .int .i64 (sparseE (sig.drop 32)), .int .i64 (sparseE (sig.drop 32)), .bool false, Z8, Z8, Z8, Z8, Z8, Z8, Z8, vs 5, vs 6, Z8, Z8, Z8, Z8, Z8, Z8, Z8, Z8, Z8, Z8, Z8, Z8, Z8, Z8, Z8, Z8, Z8, Z8, Z8, Z8, Z8, Z8, Z8, Z8, Z8, Z8, Z8, Z8, Z8], defers := [] }) (by kernel_rfl) ?_ ?_
    ·
     intro vs gs W45 SW45 D K9 hK9
     replace M := M.sees SW45
     obtain ⟨D5, D6, _⟩ := D
     have e5 : vs 5 = fe (edR [sig.take 32, key, m]) := D5
     have e6 : vs 6 = .agg (fel kp.x ++ (fel kp.y) ++ (fel kp.z) ++ (fel kp.t) : List Value).toArray := D6
     dsimp only at hK9
     dsimp only
     rw [e5, e6] at hK9 ⊢
     refine Z16 1 (by rfl) (fun Lk hLk => ?_)
     simp only [Z6, Z7]
     refine Z25 (v := .tuple #[.agg (fel (mulR (edR [sig.take 32, key, m]) kp 256).x ++ fel (mulR (edR [sig.take 32, key, m]) kp 256).y ++ fel (mulR (edR [sig.take 32, key, m]) kp 256).z ++ fel (mulR (edR [sig.take 32, key, m]) kp 256).t : List Value).toArray, .int .i64 0]) (args := #[fe (edR [sig.take 32, key, m]), .agg (fel kp.x ++ (fel kp.y) ++ (fel kp.z) ++ (fel kp.t) : List Value).toArray]) (by rfl) rfl Tryd.func53 (by kernel_rfl) (by kernel_rfl) rfl (fun W hW => Mul_ok (edR_lt _) hpk rkp) ?_
     simp only [Z12, Z5]
     refine Z19 (hLk _ (fun w46 Sw46 => ?_))
     clear hLk Lk
     simp only [Z6, Z7]
     replace M := M.sees Sw46
     refine Z14 (Z22 ?_)
     have h8 := hK9 (.tuple #[.agg (fel (mulR (edR [sig.take 32, key, m]) kp 256).x ++ fel (mulR (edR [sig.take 32, key, m]) kp 256).y ++ fel (mulR (edR [sig.take 32, key, m]) kp 256).z ++ fel (mulR (edR [sig.take 32, key, m]) kp 256).t : List Value).toArray, .int .i64 0])
     have h9 := h8 0 _ Sw46 rfl (fun h => absurd h (by decide))
     simp only [Z12, Z5] at h9
     exact h9
    refine RulesL.cons (fun vs => { tmps := #[.string (bs key), .string (bs m), .string (bs sig), Z8, Z8, Z8, .int .i64 0, .pointer (some ⟨g10, 0, none⟩), .int .i64 (sparseE (sig.drop 32)), .pointer (some ⟨g21, 0, none⟩), Z8, Z8, Z8, Z8, Z8, Z8, Z8, Z8, .string (bs key), .int .i64 ((key.length : Nat) : Int), .bool false, .bool false, .string (bs sig), .int .i64 ((sig.length : Nat) : Int), .bool false, .bool false, .tuple #[.agg (fel kp.x ++ fel kp.y ++ fel kp.z ++ fel kp.t : List Value).toArray, .int .i64 ke], .string (bs key), .tuple #[.agg (fel kp.x ++ fel kp.y ++ fel kp.z ++ fel kp.t : List Value).toArray, .int .i64 ke], .agg (fel kp.x ++ fel kp.y ++ fel kp.z ++ fel kp.t : List Value).toArray, .int .i64 ke, .int .i64 ke, .bool false, Z8, .tuple #[fe (sparseN (sig.drop 32)), .int .i64 (sparseE (sig.drop 32))], .string (bs sig), .string (bs (sig.drop 32)), .tuple #[fe (sparseN (sig.drop 32)), .int .i64 (sparseE (sig.drop 32))], fe (sparseN (sig.drop 32)), .int .i64 (sparseE (sig.drop 32)), .int .i64 (sparseE (sig.drop 32)), .bool false, Z8, Z8, Z8, Z8, Z8, Z8, Z8, Z8, Z8, vs 7, Z8, Z8, Z8, Z8, Z8, Z8, Z8, Z8, Z8, Z8, Z8, Z8, Z8, Z8, Z8, Z8, Z8, Z8, Z8, Z8, Z8, Z8, Z8, Z8, Z8, Z8, Z8, Z8], defers := [] }) (by kernel_rfl) ?_ ?_
    ·
     intro vs gs W47 SW47 D K9 hK9
     replace M := M.sees SW47
     obtain ⟨D7, _⟩ := D
     have e7 : vs 7 = .tuple #[.agg (fel (mulR (edR [sig.take 32, key, m]) kp 256).x ++ fel (mulR (edR [sig.take 32, key, m]) kp 256).y ++ fel (mulR (edR [sig.take 32, key, m]) kp 256).z ++ fel (mulR (edR [sig.take 32, key, m]) kp 256).t : List Value).toArray, .int .i64 0] := D7
     dsimp only at hK9
     dsimp only
     rw [e7] at hK9 ⊢
     refine Z17 (v := .tuple #[.agg (fel (mulR (edR [sig.take 32, key, m]) kp 256).x ++ fel (mulR (edR [sig.take 32, key, m]) kp 256).y ++ fel (mulR (edR [sig.take 32, key, m]) kp 256).z ++ fel (mulR (edR [sig.take 32, key, m]) kp 256).t : List Value).toArray, .int .i64 0]) (by rfl) (by rfl) (by rfl) ?_
     simp only [Z12, Z5]
     refine Z14 (Z22 ?_)
     have h8 := hK9 (.tuple #[.agg (fel (mulR (edR [sig.take 32, key, m]) kp 256).x ++ fel (mulR (edR [sig.take 32, key, m]) kp 256).y ++ fel (mulR (edR [sig.take 32, key, m]) kp 256).z ++ fel (mulR (edR [sig.take 32, key, m]) kp 256).t : List Value).toArray, .int .i64 0])
     have h9 := h8 0 _ (sees_refl _) rfl (fun h => absurd h (by decide))
     simp only [Z12, Z5] at h9
     exact h9
    refine RulesL.cons (fun vs => { tmps := #[.string (bs key), .string (bs m), .string (bs sig), Z8, Z8, Z8, .int .i64 0, .pointer (some ⟨g10, 0, none⟩), .int .i64 (sparseE (sig.drop 32)), .pointer (some ⟨g21, 0, none⟩), Z8, Z8, Z8, Z8, Z8, Z8, Z8, Z8, .string (bs key), .int .i64 ((key.length : Nat) : Int), .bool false, .bool false, .string (bs sig), .int .i64 ((sig.length : Nat) : Int), .bool false, .bool false, .tuple #[.agg (fel kp.x ++ fel kp.y ++ fel kp.z ++ fel kp.t : List Value).toArray, .int .i64 ke], .string (bs key), .tuple #[.agg (fel kp.x ++ fel kp.y ++ fel kp.z ++ fel kp.t : List Value).toArray, .int .i64 ke], .agg (fel kp.x ++ fel kp.y ++ fel kp.z ++ fel kp.t : List Value).toArray, .int .i64 ke, .int .i64 ke, .bool false, Z8, .tuple #[fe (sparseN (sig.drop 32)), .int .i64 (sparseE (sig.drop 32))], .string (bs sig), .string (bs (sig.drop 32)), .tuple #[fe (sparseN (sig.drop 32)), .int .i64 (sparseE (sig.drop 32))], fe (sparseN (sig.drop 32)), .int .i64 (sparseE (sig.drop 32)), .int .i64 (sparseE (sig.drop 32)), .bool false, Z8, vs 8, Z8, Z8, Z8, Z8, Z8, Z8, Z8, Z8, Z8, Z8, Z8, Z8, Z8, Z8, Z8, Z8, Z8, Z8, Z8, Z8, Z8, Z8, Z8, Z8, Z8, Z8, Z8, Z8, Z8, Z8, Z8, Z8, Z8, Z8, Z8, Z8], defers := [] }) (by kernel_rfl) ?_ ?_
    ·
     intro vs gs W48 SW48 D K9 hK9
     replace M := M.sees SW48
     obtain ⟨D8, _⟩ := D
     have e8 : vs 8 = .tuple #[.agg (fel (mulR (edR [sig.take 32, key, m]) kp 256).x ++ fel (mulR (edR [sig.take 32, key, m]) kp 256).y ++ fel (mulR (edR [sig.take 32, key, m]) kp 256).z ++ fel (mulR (edR [sig.take 32, key, m]) kp 256).t : List Value).toArray, .int .i64 0] := D8
     dsimp only at hK9
     dsimp only
     rw [e8] at hK9 ⊢
     refine Z16 1 (by rfl) (fun Lk hLk => ?_)
     simp only [Z6, Z7]
     refine Z32 (v := .agg (fel (mulR (edR [sig.take 32, key, m]) kp 256).x ++ fel (mulR (edR [sig.take 32, key, m]) kp 256).y ++ fel (mulR (edR [sig.take 32, key, m]) kp 256).z ++ fel (mulR (edR [sig.take 32, key, m]) kp 256).t : List Value).toArray) (by rfl) rfl rfl rfl ?_
     simp only [Z12, Z5]
     refine Z19 (hLk _ (fun w49 Sw49 => ?_))
     clear hLk Lk
     simp only [Z6, Z7]
     replace M := M.sees Sw49
     refine Z14 (Z22 ?_)
     have h8 := hK9 (.agg (fel (mulR (edR [sig.take 32, key, m]) kp 256).x ++ fel (mulR (edR [sig.take 32, key, m]) kp 256).y ++ fel (mulR (edR [sig.take 32, key, m]) kp 256).z ++ fel (mulR (edR [sig.take 32, key, m]) kp 256).t : List Value).toArray)
     have h9 := h8 0 _ Sw49 rfl (fun h => absurd h (by decide))
     simp only [Z12, Z5] at h9
     exact h9
    refine RulesL.cons (fun vs => { tmps := #[.string (bs key), .string (bs m), .string (bs sig), Z8, Z8, Z8, .int .i64 0, .pointer (some ⟨g10, 0, none⟩), .int .i64 (sparseE (sig.drop 32)), .pointer (some ⟨g21, 0, none⟩), Z8, Z8, Z8, Z8, Z8, Z8, Z8, Z8, .string (bs key), .int .i64 ((key.length : Nat) : Int), .bool false, .bool false, .string (bs sig), .int .i64 ((sig.length : Nat) : Int), .bool false, .bool false, .tuple #[.agg (fel kp.x ++ fel kp.y ++ fel kp.z ++ fel kp.t : List Value).toArray, .int .i64 ke], .string (bs key), .tuple #[.agg (fel kp.x ++ fel kp.y ++ fel kp.z ++ fel kp.t : List Value).toArray, .int .i64 ke], .agg (fel kp.x ++ fel kp.y ++ fel kp.z ++ fel kp.t : List Value).toArray, .int .i64 ke, .int .i64 ke, .bool false, Z8, .tuple #[fe (sparseN (sig.drop 32)), .int .i64 (sparseE (sig.drop 32))], .string (bs sig), .string (bs (sig.drop 32)), .tuple #[fe (sparseN (sig.drop 32)), .int .i64 (sparseE (sig.drop 32))], fe (sparseN (sig.drop 32)), .int .i64 (sparseE (sig.drop 32)), .int .i64 (sparseE (sig.drop 32)), .bool false, Z8, vs 8, Z8, Z8, Z8, Z8, Z8, Z8, Z8, Z8, Z8, Z8, Z8, Z8, Z8, Z8, Z8, Z8, Z8, Z8, Z8, Z8, Z8, Z8, Z8, Z8, Z8, Z8, Z8, Z8, Z8, Z8, Z8, Z8, Z8, Z8, Z8, Z8], defers := [] }) (by kernel_rfl) ?_ ?_
    ·
     intro vs gs W50 SW50 D K9 hK9
     replace M := M.sees SW50
     obtain ⟨D8, _⟩ := D
     have e8 : vs 8 = .tuple #[.agg (fel (mulR (edR [sig.take 32, key, m]) kp 256).x ++ fel (mulR (edR [sig.take 32, key, m]) kp 256).y ++ fel (mulR (edR [sig.take 32, key, m]) kp 256).z ++ fel (mulR (edR [sig.take 32, key, m]) kp 256).t : List Value).toArray, .int .i64 0] := D8
     dsimp only at hK9
     dsimp only
     rw [e8] at hK9 ⊢
     refine Z16 1 (by rfl) (fun Lk hLk => ?_)
     simp only [Z6, Z7]
     refine Z32 (v := .int .i64 0) (by rfl) rfl rfl rfl ?_
     simp only [Z12, Z5]
     refine Z19 (hLk _ (fun w51 Sw51 => ?_))
     clear hLk Lk
     simp only [Z6, Z7]
     replace M := M.sees Sw51
     refine Z14 (Z22 ?_)
     have h8 := hK9 (.int .i64 0)
     have h9 := h8 0 _ Sw51 rfl (fun h => absurd h (by decide))
     simp only [Z12, Z5] at h9
     exact h9
    refine RulesL.cons (fun vs => { tmps := #[.string (bs key), .string (bs m), .string (bs sig), Z8, Z8, Z8, .int .i64 0, .pointer (some ⟨g10, 0, none⟩), .int .i64 (sparseE (sig.drop 32)), .pointer (some ⟨g21, 0, none⟩), Z8, Z8, Z8, Z8, Z8, Z8, Z8, Z8, .string (bs key), .int .i64 ((key.length : Nat) : Int), .bool false, .bool false, .string (bs sig), .int .i64 ((sig.length : Nat) : Int), .bool false, .bool false, .tuple #[.agg (fel kp.x ++ fel kp.y ++ fel kp.z ++ fel kp.t : List Value).toArray, .int .i64 ke], .string (bs key), .tuple #[.agg (fel kp.x ++ fel kp.y ++ fel kp.z ++ fel kp.t : List Value).toArray, .int .i64 ke], .agg (fel kp.x ++ fel kp.y ++ fel kp.z ++ fel kp.t : List Value).toArray, .int .i64 ke, .int .i64 ke, .bool false, Z8, .tuple #[fe (sparseN (sig.drop 32)), .int .i64 (sparseE (sig.drop 32))], .string (bs sig), .string (bs (sig.drop 32)), .tuple #[fe (sparseN (sig.drop 32)), .int .i64 (sparseE (sig.drop 32))], fe (sparseN (sig.drop 32)), .int .i64 (sparseE (sig.drop 32)), .int .i64 (sparseE (sig.drop 32)), .bool false, Z8, Z8, Z8, Z8, Z8, Z8, Z8, Z8, Z8, Z8, Z8, Z8, Z8, Z8, Z8, Z8, Z8, Z8, Z8, Z8, Z8, Z8, Z8, Z8, Z8, Z8, Z8, Z8, Z8, Z8, Z8, Z8, Z8, Z8, Z8, Z8, Z8, Z8], defers := [] }) (by kernel_rfl) ?_ ?_
    ·
     intro vs gs W52 SW52 D K9 hK9
     replace M := M.sees SW52
     replace R2_0 := M.oldR R2_0 L2
     replace L2 := M.oldL L2
     have Rg21_0 := M.r 0 0 rfl rfl
     have Lg21 := M.lt 0 rfl
     have Rg10_0 := M.r 1 0 rfl rfl
     have Rg10_4 := M.r 1 1 rfl rfl
     have Rg10_8 := M.r 1 2 rfl rfl
     have Rg10_12 := M.r 1 3 rfl rfl
     have Lg10 := M.lt 1 rfl
     have BB := M.below
     replace M := Mem.start W52
     dsimp only at hK9
     dsimp only
     refine Z36 (t := 88) (cs := [.int .u64 0, .int .u64 0, .int .u64 0, .int .u64 0, .int .u64 0, .int .u64 0, .int .u64 0, .int .u64 0, .int .u64 0, .int .u64 0, .int .u64 0, .int .u64 0, .int .u64 0, .int .u64 0, .int .u64 0, .int .u64 0]) (by rfl) (fun W => ?_) (fun g53 w54 Sw54 Hg53 Bg53 => ?_)
     ·
      go_simp
     replace M := ((M.sees Sw54).addS (N := 16) (cs := [.int .u64 0, .int .u64 0, .int .u64 0, .int .u64 0, .int .u64 0, .int .u64 0, .int .u64 0, .int .u64 0, .int .u64 0, .int .u64 0, .int .u64 0, .int .u64 0, .int .u64 0, .int .u64 0, .int .u64 0, .int .u64 0]) (segs := [(0, [.int .u64 0, .int .u64 0, .int .u64 0, .int .u64 0]), (4, [.int .u64 0, .int .u64 0, .int .u64 0, .int .u64 0]), (8, [.int .u64 0, .int .u64 0, .int .u64 0, .int .u64 0]), (12, [.int .u64 0, .int .u64 0, .int .u64 0, .int .u64 0])]) (M.ge Hg53) (M.fresh Hg53) Bg53 rfl ⟨rfl, rfl, rfl, rfl, trivial⟩)
     clear Bg53
     simp only [Z12, Z5]
     refine Z14 (Z22 ?_)
     have h8 := hK9 (.pointer (some ⟨g53, 0, none⟩))
     have h9 := h8 g53 _ M.seesAll ⟨rfl, (M.ok _ (.head _)).up SW52⟩ (fun _ => (M.ok _ (.head _)).ge)
     simp only [Z12, Z5] at h9
     exact h9
    exact RulesL.nil
   intro vs gs W55 SW55 D A9
   obtain ⟨D0, D1, D2, D3, D4, D5, D6, D7, D8, D9, D10, D11, _⟩ := (show DepRel _ vs gs W55 [0, 1, 2, 3, 4, 5, 6, 7, 8, 9, 10, 11] from D)
   have n4_11 : gs 4 ≠ gs 11 := A9 4 11 (by decide) (by decide) (by decide) (by decide) (by decide)
   clear A9 D
   have e0 : vs 0 = .string (bs sig) := D0
   have e1 : vs 1 = .string (bs (sig.take 32)) := D1
   have e2 : vs 2 = .string (bs key) := D2
   have e3 : vs 3 = .string (bs m) := D3
   obtain ⟨e4, Og56⟩ := D4
   generalize gs 4 = g56 at *
   replace e4 : vs 4 = .slice (some ⟨g56, 0, none⟩) 3 3 := e4
   have e5 : vs 5 = fe (edR [sig.take 32, key, m]) := D5
   have e6 : vs 6 = .agg (fel kp.x ++ (fel kp.y) ++ (fel kp.z) ++ (fel kp.t) : List Value).toArray := D6
   have e7 : vs 7 = .tuple #[.agg (fel (mulR (edR [sig.take 32, key, m]) kp 256).x ++ fel (mulR (edR [sig.take 32, key, m]) kp 256).y ++ fel (mulR (edR [sig.take 32, key, m]) kp 256).z ++ fel (mulR (edR [sig.take 32, key, m]) kp 256).t : List Value).toArray, .int .i64 0] := D7
   have e8 : vs 8 = .tuple #[.agg (fel (mulR (edR [sig.take 32, key, m]) kp 256).x ++ fel (mulR (edR [sig.take 32, key, m]) kp 256).y ++ fel (mulR (edR [sig.take 32, key, m]) kp 256).z ++ fel (mulR (edR [sig.take 32, key, m]) kp 256).t : List Value).toArray, .int .i64 0] := D8
   have e9 : vs 9 = .agg (fel (mulR (edR [sig.take 32, key, m]) kp 256).x ++ fel (mulR (edR [sig.take 32, key, m]) kp 256).y ++ fel (mulR (edR [sig.take 32, key, m]) kp 256).z ++ fel (mulR (edR [sig.take 32, key, m]) kp 256).t : List Value).toArray := D9
   have e10 : vs 10 = .int .i64 0 := D10
   obtain ⟨e11, Og57⟩ := D11
   generalize gs 11 = g57 at *
   replace e11 : vs 11 = .pointer (some ⟨g57, 0, none⟩) := e11
   replace M := M.addOks SW55 [⟨g56, 3, [(0, [.string (bs (sig.take 32)), .string (bs key), .string (bs m)])]⟩, ⟨g57, 16, [(0, [.int .u64 0, .int .u64 0, .int .u64 0, .int .u64 0]), (4, [.int .u64 0, .int .u64 0, .int .u64 0, .int .u64 0]), (8, [.int .u64 0, .int .u64 0, .int .u64 0, .int .u64 0]), (12, [.int .u64 0, .int .u64 0, .int .u64 0, .int .u64 0])]⟩] (List.forall_mem_cons.2 ⟨Og56, (List.forall_mem_cons.2 ⟨Og57, (fun _ h => nomatch h)⟩)⟩) (.cons (List.forall_mem_cons.2 ⟨n4_11, (fun _ h => nomatch h)⟩) (.cons (fun _ h => nomatch h) .nil))
   simp only [List.cons_append, List.nil_append] at M
   dsimp only
   simp only [e0, e1, e2, e3, e4, e5, e6, e7, e8, e9, e10, e11, Z7]
   refine Z33 (g := g57) (off := 0) (n := 16) (cs := fel (mulR (edR [sig.take 32, key, m]) kp 256).x ++ fel (mulR (edR [sig.take 32, key, m]) kp 256).y ++ fel (mulR (edR [sig.take 32, key, m]) kp 256).z ++ fel (mulR (edR [sig.take 32, key, m]) kp 256).t) (by rfl) (by rfl) (by rfl) (by rfl) (by rfl) (M.t 1 rfl) (by simp [flen]) info88 (one4 _ _ _ _) (fun w58 P R T => ?_)
   replace M := M.put (segs' := [(0, fel (mulR (edR [sig.take 32, key, m]) kp 256).x), (4, fel (mulR (edR [sig.take 32, key, m]) kp 256).y), (8, fel (mulR (edR [sig.take 32, key, m]) kp 256).z), (12, fel (mulR (edR [sig.take 32, key, m]) kp 256).t)]) 1 rfl P T (SegsOf.at R ⟨rfl, rfl, rfl, rfl, trivial⟩)
   simp only [Z5] at M
   refine Z18 (v := .int .i64 0) (by rfl) (by rfl) (by rfl) ?_
   simp only [Z12, Z5]
   refine Z14 (Z15 ?_)
   refine hK29 _ _ ?_
   refine Z9 (fun K59 hK59 => ?_)
   refine Z13 ?_
   refine Z16 5 (by rfl) (fun Lk hLk => ?_)
   simp only [Z6, Z7]
   refine Z31 (cs := fel (mulR (edR [sig.take 32, key, m]) kp 256).x ++ (fel (mulR (edR [sig.take 32, key, m]) kp 256).y) ++ (fel (mulR (edR [sig.take 32, key, m]) kp 256).z) ++ (fel (mulR (edR [sig.take 32, key, m]) kp 256).t)) (by rfl) rfl rfl (range_join (range_join (range_join (M.r 1 0 rfl rfl) (M.r 1 1 rfl rfl) (by simp [flen])) (M.r 1 2 rfl rfl) (by simp [flen])) (M.r 1 3 rfl rfl) (by simp [flen])) (M.lt 1 rfl) Tryd.underlying88 rfl info88 ?_
   simp only [Z12, Z5]
   refine Z25 (v := .tuple #[.agg (fel (negP (mulR (edR [sig.take 32, key, m]) kp 256)).x ++ fel (negP (mulR (edR [sig.take 32, key, m]) kp 256)).y ++ fel (negP (mulR (edR [sig.take 32, key, m]) kp 256)).z ++ fel (negP (mulR (edR [sig.take 32, key, m]) kp 256)).t : List Value).toArray, .int .i64 0]) (args := #[.agg (fel (mulR (edR [sig.take 32, key, m]) kp 256).x ++ (fel (mulR (edR [sig.take 32, key, m]) kp 256).y) ++ (fel (mulR (edR [sig.take 32, key, m]) kp 256).z) ++ (fel (mulR (edR [sig.take 32, key, m]) kp 256).t) : List Value).toArray]) (by rfl) rfl Tryd.func54 (by kernel_rfl) (by kernel_rfl) rfl (fun W hW => Neg_ok (mulR_ok ..) (right_mulR rkp 256)) ?_
   simp only [Z12, Z5]
   refine Z21 (v := .tuple #[.agg (fel (negP (mulR (edR [sig.take 32, key, m]) kp 256)).x ++ fel (negP (mulR (edR [sig.take 32, key, m]) kp 256)).y ++ fel (negP (mulR (edR [sig.take 32, key, m]) kp 256)).z ++ fel (negP (mulR (edR [sig.take 32, key, m]) kp 256)).t : List Value).toArray, .int .i64 0]) (by rfl) rfl rfl ?_
   simp only [Z12, Z5]
   refine Z32 (v := .agg (fel (negP (mulR (edR [sig.take 32, key, m]) kp 256)).x ++ fel (negP (mulR (edR [sig.take 32, key, m]) kp 256)).y ++ fel (negP (mulR (edR [sig.take 32, key, m]) kp 256)).z ++ fel (negP (mulR (edR [sig.take 32, key, m]) kp 256)).t : List Value).toArray) (by rfl) rfl rfl rfl ?_
   simp only [Z12, Z5]
   refine Z32 (v := .int .i64 0) (by rfl) rfl rfl rfl ?_
   simp only [Z12, Z5]
   refine Z19 (hLk _ (fun w61 Sw61 => ?_))
   clear hLk Lk
   simp only [Z6, Z7]
   replace M := M.sees Sw61
   refine Z33 (g := g57) (off := 0) (n := 16) (cs := fel (negP (mulR (edR [sig.take 32, key, m]) kp 256)).x ++ fel (negP (mulR (edR [sig.take 32, key, m]) kp 256)).y ++ fel (negP (mulR (edR [sig.take 32, key, m]) kp 256)).z ++ fel (negP (mulR (edR [sig.take 32, key, m]) kp 256)).t) (by rfl) (by rfl) (by rfl) (by rfl) (by rfl) (M.t 1 rfl) (by simp [flen]) info88 (one4 _ _ _ _) (fun w62 P R T => ?_)
   replace M := M.put (segs' := [(0, fel (negP (mulR (edR [sig.take 32, key, m]) kp 256)).x), (4, fel (negP (mulR (edR [sig.take 32, key, m]) kp 256)).y), (8, fel (negP (mulR (edR [sig.take 32, key, m]) kp 256)).z), (12, fel (negP (mulR (edR [sig.take 32, key, m]) kp 256)).t)]) 1 rfl P T (SegsOf.at R ⟨rfl, rfl, rfl, rfl, trivial⟩)
   simp only [Z5] at M
   refine Z14 (Z15 ?_)
   refine hK59 _ _ ?_
   refine Z9 (fun K63 hK63 => ?_)
   refine wp_region_grow 7 [5] (by kernel_rfl) (by kernel_rfl) (by kernel_rfl) (fun Lk hLk => ?_)
   simp only [Z6, Z7]
   refine Z31 (cs := fel (sparseN (sig.drop 32))) (by rfl) rfl rfl (M.r 2 0 rfl rfl) (M.lt 2 rfl) Tryd.underlying80 rfl info80 ?_
   simp only [Z12, Z5]
   refine Z25 (v := .agg (fel baseP.x ++ fel baseP.y ++ fel baseP.z ++ fel baseP.t : List Value).toArray) (args := #[]) (by rfl) rfl Tryd.func55 (by kernel_rfl) (by kernel_rfl) rfl (fun W hW => Base_c) ?_
   simp only [Z12, Z5]
   refine Z25 (v := .tuple #[.agg (fel (mulR (sparseN (sig.drop 32)) baseP 256).x ++ fel (mulR (sparseN (sig.drop 32)) baseP 256).y ++ fel (mulR (sparseN (sig.drop 32)) baseP 256).z ++ fel (mulR (sparseN (sig.drop 32)) baseP 256).t : List Value).toArray, .int .i64 0]) (args := #[fe (sparseN (sig.drop 32)), .agg (fel baseP.x ++ fel baseP.y ++ fel baseP.z ++ fel baseP.t : List Value).toArray]) (by rfl) rfl Tryd.func53 (by kernel_rfl) (by kernel_rfl) rfl (fun W hW => Mul_ok (sparseN_lt ..) baseP_ok rightP_base) ?_
   simp only [Z12, Z5]
   refine Z21 (v := .tuple #[.agg (fel (mulR (sparseN (sig.drop 32)) baseP 256).x ++ fel (mulR (sparseN (sig.drop 32)) baseP 256).y ++ fel (mulR (sparseN (sig.drop 32)) baseP 256).z ++ fel (mulR (sparseN (sig.drop 32)) baseP 256).t : List Value).toArray, .int .i64 0]) (by rfl) rfl rfl ?_
   simp only [Z12, Z5]
   refine Z32 (v := .agg (fel (mulR (sparseN (sig.drop 32)) baseP 256).x ++ fel (mulR (sparseN (sig.drop 32)) baseP 256).y ++ fel (mulR (sparseN (sig.drop 32)) baseP 256).z ++ fel (mulR (sparseN (sig.drop 32)) baseP 256).t : List Value).toArray) (by rfl) rfl rfl rfl ?_
   simp only [Z12, Z5]
   refine Z32 (v := .int .i64 0) (by rfl) rfl rfl rfl ?_
   simp only [Z12, Z5]
   refine wpV_alloc (by rfl) ?_
   refine Z19 (hLk.out _ ?_)
   clear hLk Lk
   simp only [Z6, Z7]
   iterate 6 refine Z28 (by rfl) ?_
   refine wpN_new (t := 88) (cs := ([.int .u64 0, .int .u64 0, .int .u64 0, .int .u64 0, .int .u64 0, .int .u64 0, .int .u64 0, .int .u64 0, .int .u64 0, .int .u64 0, .int .u64 0, .int .u64 0, .int .u64 0, .int .u64 0, .int .u64 0, .int .u64 0]).toArray) (by rfl) (fun W => ?_) (fun g65 Hg65 ng65 => ?_)
   ·
    go_simp
   simp only [Z12, Z5]
   refine Z29 (fun w66 Sw66 hbs => ?_)
   replace M := ((M.sees Sw66).addS (N := 16) (cs := [.int .u64 0, .int .u64 0, .int .u64 0, .int .u64 0, .int .u64 0, .int .u64 0, .int .u64 0, .int .u64 0, .int .u64 0, .int .u64 0, .int .u64 0, .int .u64 0, .int .u64 0, .int .u64 0, .int .u64 0, .int .u64 0]) (segs := [(0, [.int .u64 0, .int .u64 0, .int .u64 0, .int .u64 0]), (4, [.int .u64 0, .int .u64 0, .int .u64 0, .int .u64 0]), (8, [.int .u64 0, .int .u64 0, .int .u64 0, .int .u64 0]), (12, [.int .u64 0, .int .u64 0, .int .u64 0, .int .u64 0])]) (M.ge Hg65) (M.fresh Hg65) (hbs _ (.head _)) rfl ⟨rfl, rfl, rfl, rfl, trivial⟩)
   clear hbs ng65
   refine Z33 (g := g65) (off := 0) (n := 16) (cs := fel (mulR (sparseN (sig.drop 32)) baseP 256).x ++ fel (mulR (sparseN (sig.drop 32)) baseP 256).y ++ fel (mulR (sparseN (sig.drop 32)) baseP 256).z ++ fel (mulR (sparseN (sig.drop 32)) baseP 256).t) (by rfl) (by rfl) (by rfl) (by rfl) (by rfl) (M.t 0 rfl) (by simp [flen]) info88 (one4 _ _ _ _) (fun w67 P R T => ?_)
   replace M := M.put (segs' := [(0, fel (mulR (sparseN (sig.drop 32)) baseP 256).x), (4, fel (mulR (sparseN (sig.drop 32)) baseP 256).y), (8, fel (mulR (sparseN (sig.drop 32)) baseP 256).z), (12, fel (mulR (sparseN (sig.drop 32)) baseP 256).t)]) 0 rfl P T (SegsOf.at R ⟨rfl, rfl, rfl, rfl, trivial⟩)
   simp only [Z5] at M
   refine Z18 (v := .int .i64 0) (by rfl) (by rfl) (by rfl) ?_
   simp only [Z12, Z5]
   refine Z14 (Z15 ?_)
   refine hK63 _ _ ?_
   refine Z9 (fun K68 hK68 => ?_)
   refine Z13 ?_
   refine Z16 6 (by rfl) (fun Lk hLk => ?_)
   simp only [Z6, Z7]
   refine Z31 (cs := fel (mulR (sparseN (sig.drop 32)) baseP 256).x ++ (fel (mulR (sparseN (sig.drop 32)) baseP 256).y) ++ (fel (mulR (sparseN (sig.drop 32)) baseP 256).z) ++ (fel (mulR (sparseN (sig.drop 32)) baseP 256).t)) (by rfl) rfl rfl (range_join (range_join (range_join (M.r 0 0 rfl rfl) (M.r 0 1 rfl rfl) (by simp [flen])) (M.r 0 2 rfl rfl) (by simp [flen])) (M.r 0 3 rfl rfl) (by simp [flen])) (M.lt 0 rfl) Tryd.underlying88 rfl info88 ?_
   simp only [Z12, Z5]
   refine Z31 (cs := fel (negP (mulR (edR [sig.take 32, key, m]) kp 256)).x ++ (fel (negP (mulR (edR [sig.take 32, key, m]) kp 256)).y) ++ (fel (negP (mulR (edR [sig.take 32, key, m]) kp 256)).z) ++ (fel (negP (mulR (edR [sig.take 32, key, m]) kp 256)).t)) (by rfl) rfl rfl (range_join (range_join (range_join (M.r 2 0 rfl rfl) (M.r 2 1 rfl rfl) (by simp [flen])) (M.r 2 2 rfl rfl) (by simp [flen])) (M.r 2 3 rfl rfl) (by simp [flen])) (M.lt 2 rfl) Tryd.underlying88 rfl info88 ?_
   simp only [Z12, Z5]
   refine Z25 (v := .tuple #[.agg (fel (edQ kp (sparseN (sig.drop 32)) (edR [sig.take 32, key, m])).x ++ fel (edQ kp (sparseN (sig.drop 32)) (edR [sig.take 32, key, m])).y ++ fel (edQ kp (sparseN (sig.drop 32)) (edR [sig.take 32, key, m])).z ++ fel (edQ kp (sparseN (sig.drop 32)) (edR [sig.take 32, key, m])).t : List Value).toArray, .int .i64 0]) (args := #[.agg (fel (mulR (sparseN (sig.drop 32)) baseP 256).x ++ (fel (mulR (sparseN (sig.drop 32)) baseP 256).y) ++ (fel (mulR (sparseN (sig.drop 32)) baseP 256).z) ++ (fel (mulR (sparseN (sig.drop 32)) baseP 256).t) : List Value).toArray, .agg (fel (negP (mulR (edR [sig.take 32, key, m]) kp 256)).x ++ (fel (negP (mulR (edR [sig.take 32, key, m]) kp 256)).y) ++ (fel (negP (mulR (edR [sig.take 32, key, m]) kp 256)).z) ++ (fel (negP (mulR (edR [sig.take 32, key, m]) kp 256)).t) : List Value).toArray]) (by rfl) rfl Tryd.func56 (by kernel_rfl) (by kernel_rfl) rfl (fun W hW => Add_ok (mulR_ok ..) (negP_ok (mulR_ok ..)) (right_mulR rightP_base 256) (right_neg (right_mulR rkp 256))) ?_
   simp only [Z12, Z5]
   refine Z21 (v := .tuple #[.agg (fel (edQ kp (sparseN (sig.drop 32)) (edR [sig.take 32, key, m])).x ++ fel (edQ kp (sparseN (sig.drop 32)) (edR [sig.take 32, key, m])).y ++ fel (edQ kp (sparseN (sig.drop 32)) (edR [sig.take 32, key, m])).z ++ fel (edQ kp (sparseN (sig.drop 32)) (edR [sig.take 32, key, m])).t : List Value).toArray, .int .i64 0]) (by rfl) rfl rfl ?_
   simp only [Z12, Z5]
   refine Z32 (v := .agg (fel (edQ kp (sparseN (sig.drop 32)) (edR [sig.take 32, key, m])).x ++ fel (edQ kp (sparseN (sig.drop 32)) (edR [sig.take 32, key, m])).y ++ fel (edQ kp (sparseN (sig.drop 32)) (edR [sig.take 32, key, m])).z ++ fel (edQ kp (sparseN (sig.drop 32)) (edR [sig.take 32, key, m])).t : List Value).toArray) (by rfl) rfl rfl rfl ?_
   simp only [Z12, Z5]
   refine Z32 (v := .int .i64 0) (by rfl) rfl rfl rfl ?_
   simp only [Z12, Z5]
   refine Z19 (hLk _ (fun w70 Sw70 => ?_))
   clear hLk Lk
   simp only [Z6, Z7]
   replace M := M.sees Sw70
   refine Z36 (t := 88) (cs := [.int .u64 0, .int .u64 0, .int .u64 0, .int .u64 0, .int .u64 0, .int .u64 0, .int .u64 0, .int .u64 0, .int .u64 0, .int .u64 0, .int .u64 0, .int .u64 0, .int .u64 0, .int .u64 0, .int .u64 0, .int .u64 0]) (by rfl) (fun W => ?_) (fun g71 w72 Sw72 Hg71 Bg71 => ?_)
   ·
    go_simp
   replace M := ((M.sees Sw72).addS (N := 16) (cs := [.int .u64 0, .int .u64 0, .int .u64 0, .int .u64 0, .int .u64 0, .int .u64 0, .int .u64 0, .int .u64 0, .int .u64 0, .int .u64 0, .int .u64 0, .int .u64 0, .int .u64 0, .int .u64 0, .int .u64 0, .int .u64 0]) (segs := [(0, [.int .u64 0, .int .u64 0, .int .u64 0, .int .u64 0]), (4, [.int .u64 0, .int .u64 0, .int .u64 0, .int .u64 0]), (8, [.int .u64 0, .int .u64 0, .int .u64 0, .int .u64 0]), (12, [.int .u64 0, .int .u64 0, .int .u64 0, .int .u64 0])]) (M.ge Hg71) (M.fresh Hg71) Bg71 rfl ⟨rfl, rfl, rfl, rfl, trivial⟩)
   clear Bg71
   simp only [Z12, Z5]
   refine Z33 (g := g71) (off := 0) (n := 16) (cs := fel (edQ kp (sparseN (sig.drop 32)) (edR [sig.take 32, key, m])).x ++ fel (edQ kp (sparseN (sig.drop 32)) (edR [sig.take 32, key, m])).y ++ fel (edQ kp (sparseN (sig.drop 32)) (edR [sig.take 32, key, m])).z ++ fel (edQ kp (sparseN (sig.drop 32)) (edR [sig.take 32, key, m])).t) (by rfl) (by rfl) (by rfl) (by rfl) (by rfl) (M.t 0 rfl) (by simp [flen]) info88 (one4 _ _ _ _) (fun w73 P R T => ?_)
   replace M := M.put (segs' := [(0, fel (edQ kp (sparseN (sig.drop 32)) (edR [sig.take 32, key, m])).x), (4, fel (edQ kp (sparseN (sig.drop 32)) (edR [sig.take 32, key, m])).y), (8, fel (edQ kp (sparseN (sig.drop 32)) (edR [sig.take 32, key, m])).z), (12, fel (edQ kp (sparseN (sig.drop 32)) (edR [sig.take 32, key, m])).t)]) 0 rfl P T (SegsOf.at R ⟨rfl, rfl, rfl, rfl, trivial⟩)
   simp only [Z5] at M
   refine Z18 (v := .int .i64 0) (by rfl) (by rfl) (by rfl) ?_
   simp only [Z12, Z5]
   refine Z14 (Z15 ?_)
   refine hK68 _ _ ?_
   refine Z9 (fun K74 hK74 => ?_)
   refine Z9 (fun K75 hK75 => ?_)
   refine Z13 ?_
   refine Z16 5 (by rfl) (fun Lk hLk => ?_)
   simp only [Z6, Z7]
   refine Z31 (cs := fel (edQ kp (sparseN (sig.drop 32)) (edR [sig.take 32, key, m])).x ++ (fel (edQ kp (sparseN (sig.drop 32)) (edR [sig.take 32, key, m])).y) ++ (fel (edQ kp (sparseN (sig.drop 32)) (edR [sig.take 32, key, m])).z) ++ (fel (edQ kp (sparseN (sig.drop 32)) (edR [sig.take 32, key, m])).t)) (by rfl) rfl rfl (range_join (range_join (range_join (M.r 0 0 rfl rfl) (M.r 0 1 rfl rfl) (by simp [flen])) (M.r 0 2 rfl rfl) (by simp [flen])) (M.r 0 3 rfl rfl) (by simp [flen])) (M.lt 0 rfl) Tryd.underlying88 rfl info88 ?_
   simp only [Z12, Z5]
   refine Z25 (v := .tuple #[.string (bs (textQ (affX (edQ kp (sparseN (sig.drop 32)) (edR [sig.take 32, key, m]))) (affY (edQ kp (sparseN (sig.drop 32)) (edR [sig.take 32, key, m]))))), .int .i64 0]) (args := #[.agg (fel (edQ kp (sparseN (sig.drop 32)) (edR [sig.take 32, key, m])).x ++ (fel (edQ kp (sparseN (sig.drop 32)) (edR [sig.take 32, key, m])).y) ++ (fel (edQ kp (sparseN (sig.drop 32)) (edR [sig.take 32, key, m])).z) ++ (fel (edQ kp (sparseN (sig.drop 32)) (edR [sig.take 32, key, m])).t) : List Value).toArray]) (by rfl) rfl Tryd.func57 (by kernel_rfl) (by kernel_rfl) rfl (fun W hW => Bytes_ok (addP_ok ..) (right_add (right_mulR rightP_base 256) (right_neg (right_mulR rkp 256)))) ?_
   simp only [Z12, Z5]
   refine Z21 (v := .tuple #[.string (bs (textQ (affX (edQ kp (sparseN (sig.drop 32)) (edR [sig.take 32, key, m]))) (affY (edQ kp (sparseN (sig.drop 32)) (edR [sig.take 32, key, m]))))), .int .i64 0]) (by rfl) rfl rfl ?_
   simp only [Z12, Z5]
   refine Z32 (v := .string (bs (textQ (affX (edQ kp (sparseN (sig.drop 32)) (edR [sig.take 32, key, m]))) (affY (edQ kp (sparseN (sig.drop 32)) (edR [sig.take 32, key, m])))))) (by rfl) rfl rfl rfl ?_
   simp only [Z12, Z5]
   refine Z32 (v := .int .i64 0) (by rfl) rfl rfl rfl ?_
   simp only [Z12, Z5]
   refine Z19 (hLk _ (fun w77 Sw77 => ?_))
   clear hLk Lk
   simp only [Z6, Z7]
   replace M := M.sees Sw77
   refine Z18 (v := .string (bs (textQ (affX (edQ kp (sparseN (sig.drop 32)) (edR [sig.take 32, key, m]))) (affY (edQ kp (sparseN (sig.drop 32)) (edR [sig.take 32, key, m])))))) (by rfl) (by rfl) (by rfl) ?_
   simp only [Z12, Z5]
   refine Z18 (v := .int .i64 0) (by rfl) (by rfl) (by rfl) ?_
   simp only [Z12, Z5]
   refine Z14 (Z15 ?_)
   refine hK75 _ _ ?_
   refine Z9 (fun K78 hK78 => ?_)
   refine Z13 ?_
   refine Z17 (v := .string (bs (textQ (affX (edQ kp (sparseN (sig.drop 32)) (edR [sig.take 32, key, m]))) (affY (edQ kp (sparseN (sig.drop 32)) (edR [sig.take 32, key, m])))))) (by rfl) (by rfl) (by rfl) ?_
   simp only [Z12, Z5]
   refine Z17 (v := .string (bs sig)) (by rfl) (by rfl) (by rfl) ?_
   simp only [Z12, Z5]
   refine Z16 2 (by rfl) (fun Lk hLk => ?_)
   simp only [Z6, Z7]
   refine wpV_takeS (l := sig) (hi := 32) (by rfl) rfl rfl rfl Tryd.underlying9 (by omega) ?_
   simp only [Z12, Z5]
   refine wpV_binS (v := .bool (decide (textQ (affX (edQ kp (sparseN (sig.drop 32)) (edR [sig.take 32, key, m]))) (affY (edQ kp (sparseN (sig.drop 32)) (edR [sig.take 32, key, m]))) ≠ sig.take 32))) (by rfl) rfl rfl rfl (run_neq_bs _ _ _) ?_
   simp only [Z12, Z5]
   refine Z19 (hLk _ (fun w80 Sw80 => ?_))
   clear hLk Lk
   simp only [Z6, Z7]
   replace M := M.sees Sw80
   refine Z14 (Z15 ?_)
   refine hK78 _ _ ?_
   cases hc81 : (decide (textQ (affX (edQ kp (sparseN (sig.drop 32)) (edR [sig.take 32, key, m]))) (affY (edQ kp (sparseN (sig.drop 32)) (edR [sig.take 32, key, m]))) ≠ sig.take 32))
   ·
    refine Z11 rfl ?_
    refine wp_skip ?_
    refine hK74 _ _ ?_
    refine Z9 (fun K82 hK82 => ?_)
    refine Z13 ?_
    refine Z18 (v := .int .i64 0) (by rfl) (by rfl) (by rfl) ?_
    simp only [Z12, Z5]
    refine Z14 (Z15 ?_)
    refine hK82 _ _ ?_
    refine wp_ret ?_
    repeat (first | with_reducible refine then_ret ?_ | with_reducible refine inblock_ret ?_)
    refine bodyPost_ret (v := .int .i64 0) (res1 rfl (.tmp (by rfl))) rfl ?_
    have BE := M.below
    exact ⟨by unfold edV; simp at hc17 hc28 hc81; simp [hc17, hc28, hc81], BE⟩
   ·
    refine Z10 rfl ?_
    refine Z9 (fun K84 hK84 => ?_)
    refine Z13 ?_
    refine Z18 (v := .int .i64 12) (by rfl) (by rfl) (by rfl) ?_
    simp only [Z12, Z5]
    refine Z14 (Z15 ?_)
    refine hK84 _ _ ?_
    refine wp_ret ?_
    repeat (first | with_reducible refine then_ret ?_ | with_reducible refine inblock_ret ?_)
    refine bodyPost_ret (v := .int .i64 12) (res1 rfl (.tmp (by rfl))) rfl ?_
    have BE := M.below
    exact ⟨by unfold edV; simp at hc17 hc28 hc81; simp [hc17, hc28, hc81], BE⟩
  ·
   refine Z10 rfl ?_
   refine Z9 (fun K86 hK86 => ?_)
   refine Z13 ?_
   refine Z17 (v := .int .i64 (sparseE (sig.drop 32))) (by rfl) (by rfl) (by rfl) ?_
   simp only [Z12, Z5]
   refine Z18 (v := .int .i64 (sparseE (sig.drop 32))) (by rfl) (by rfl) (by rfl) ?_
   simp only [Z12, Z5]
   refine Z14 (Z15 ?_)
   refine hK86 _ _ ?_
   refine wp_ret ?_
   repeat (first | with_reducible refine then_ret ?_ | with_reducible refine inblock_ret ?_)
   refine bodyPost_ret (v := .int .i64 (sparseE (sig.drop 32))) (res1 rfl (.tmp (by rfl))) rfl ?_
   have BE := M.below
   exact ⟨by unfold edV; simp at hc17 hc28; simp [hc17, hc28], BE⟩
 ·
  refine Z10 rfl ?_
  refine Z9 (fun K88 hK88 => ?_)
  refine Z13 ?_
  refine Z17 (v := .int .i64 ke) (by rfl) (by rfl) (by rfl) ?_
  simp only [Z12, Z5]
  refine Z18 (v := .int .i64 ke) (by rfl) (by rfl) (by rfl) ?_
  simp only [Z12, Z5]
  refine Z14 (Z15 ?_)
  refine hK88 _ _ ?_
  refine wp_ret ?_
  repeat (first | with_reducible refine then_ret ?_ | with_reducible refine inblock_ret ?_)
  refine bodyPost_ret (v := .int .i64 ke) (res1 rfl (.tmp (by rfl))) rfl ?_
  have BE := M.below
  exact ⟨by unfold edV; simp at hc17; simp [hc17], BE⟩
end Go.Proofs.Yc

