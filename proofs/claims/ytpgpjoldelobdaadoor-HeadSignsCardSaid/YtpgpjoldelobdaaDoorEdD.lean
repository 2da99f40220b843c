import Derived.WalkKit
import Derived.WalkSpells
import Derived.Laws.Pointers
import Derived.RowKit3
import Derived.Below
import Derived.Outline
import Derived.LoopN
import Derived.Lib.Hide
import Derived.Handy
import Derived.Laws.Bits64b
import Derived.Test.YtpgpjoldelobdaaDoorEdB
import Derived.Test.YtpgpjoldelobdaaDoorPuC
import Derived.Test.YtpgpjoldelobdaaDoorF3
import Derived.Test.YtpgpjoldelobdaaDoorAdds2
import Derived.Test.YtpgpjoldelobdaaDoorSteps13
import Derived.Test.YtpgpjoldelobdaaDoorShq
set_option linter.unusedSimpArgs false
set_option linter.unusedVariables false
namespace Go.Proofs.Yc
open Go Go.RowKit Go.Proofs.Num
open Tryd renaming underlying9 → U99
open Go.Proofs.Num  renaming putT → Z0
open List renaming set → Z6, take → Z7, drop → Z8
open Go renaming undef → Z9
open Go.Proofs.Num renaming wpL_nil → Z14, wpV_nil → Z19, then_normal → Z22
attribute [local irreducible] wpV wpN wpList
open Go.Proofs.Ya
/-- What is parsed of a text of 32 bytes. -/
def pPar (l : List UInt8) : P4 × Int := if fparseE (yT l) = 0 then (parsP (rootX (fparseN (yT l))).1 (fparseN (yT l)) (rootX (fparseN (yT l))).2 (decide (byteN l 31 / 128 * 128 ≠ 0)), parsE (rootX (fparseN (yT l))).1 (rootX (fparseN (yT l))).2 (decide (byteN l 31 / 128 * 128 ≠ 0))) else (noneP, 10)
theorem yT_len {l : List UInt8} (h : l.length = 32) : (yT l).length = 32 := by
 unfold yT
 rw [List.length_append, List.length_take, h]
 rfl
theorem fpE_or {l : List UInt8} (hl : l.length = 32) : fparseE l = 0 ∨ (fparseE l = 2 ∧ fparseN l = 0) := by
 by_cases h : leN l < pF
 ·
  exact .inl (fp_yes hl h).1
 exact .inr (fp_no hl h)
theorem Parse_c {l : List UInt8} {w : World} (hl : l.length = 32) :
  Calls Tryd.prog 51 #[.string (bs l)] w fun e w' => e = .returned (.tuple #[.agg (fel ((pPar l).1).x ++ fel ((pPar l).1).y ++ fel ((pPar l).1).z ++ fel ((pPar l).1).t : List Value).toArray, .int .i64 (pPar l).2]) ∧ Below w.heap.size w w' := by
 rcases fpE_or (yT_len hl) with h | ⟨h, h2⟩
 ·
  obtain ⟨y, hy⟩ : ∃ y, fparseN (yT l) = y := ⟨_, rfl⟩
  rcases hr : rootX y with ⟨x, b⟩
  have hp : pPar l = (parsP x y b (decide (byteN l 31 / 128 * 128 ≠ 0)), parsE x b (decide (byteN l 31 / 128 * 128 ≠ 0))) := by
   unfold pPar
   rw [if_pos h, hy, hr]
  have hx : x < 2 ^ 256 := by
   have := rootX_lt y
   rw [hr] at this
   exact this
  rw [hp]
  exact Parse_go hl hx (hy ▸ fparseN_lt _) hy h hr
 have hp : pPar l = (noneP, 10) := by
  unfold pPar
  rw [if_neg (by rw [h]; decide)]
 rw [hp]
 exact Parse_bad hl h2 h
theorem parsP_ok {x y : Nat} {b o : Bool} (hx : x < 2 ^ 256) (hy : y < 2 ^ 256) : (parsP x y b o).Ok := by
 unfold parsP
 split
 ·
  split
  ·
   exact affP_ok (fsub_lt ..) hy
  exact affP_ok hx hy
 exact noneP_ok
theorem pPar_ok (l : List UInt8) : (pPar l).1.Ok := by
 unfold pPar
 split
 ·
  exact parsP_ok (rootX_lt _) (fparseN_lt _)
 exact noneP_ok
theorem fpN_lt {l : List UInt8} (h : fparseE l = 0) : fparseN l < pF := by
 unfold fparseN
 split
 ·
  rename_i h9
  exact h9.2
 decide
theorem pPar_right {l : List UInt8} (h : (pPar l).2 = 0) : rightP (pPar l).1 = true := by
 unfold pPar at h ⊢
 split at h
 ·
  rename_i hE
  rw [if_pos hE]
  have hy := fpN_lt hE
  generalize fparseN (yT l) = y at *
  rcases hr : rootX y with ⟨x, b⟩
  rw [hr] at h
  simp only at h ⊢
  unfold parsE at h
  unfold parsP
  by_cases hY : parsY x b (decide (byteN l 31 / 128 * 128 ≠ 0)) = true
  ·
   rw [if_pos hY]
   have hb : b = true := by
    unfold parsY at hY
    cases b
    ·
     simp at hY
    rfl
   subst hb
   obtain ⟨hx, _, ho⟩ := root_on hr
   split
   ·
    exact aff_right (fsub_ltp ..) hy (root_on_neg hr)
   exact aff_right hx hy ho
  rw [if_neg hY] at h
  exact absurd h (by decide)
 exact absurd h (by decide)
theorem pPar_text {p : P4} (hp : rightP p = true) : pPar (textQ (affX p) (affY p)) = (affP (affX p) (affY p), 0) := by
 have hx := affX_ltp p
 have hy := affY_ltp p
 have ho := (ofRightP hp).2.on
 have hr := rootX_on hx ho
 have hf := fp_text (x := affX p) hy
 have hb := textQ_odd (x := affX p) hy
 generalize affX p = x at *
 generalize affY p = y at *
 have e1 : fparseN (yT (textQ x y)) = y := hf.1
 have e2 : fparseE (yT (textQ x y)) = 0 := hf.2
 unfold pPar
 rw [if_pos e2, e1, hr, hb]
 simp only
 by_cases h : x % 2 = 1
 ·
  have h0 : ¬ fsub 0 x = 0 := fun e => by rw [fsub_zero_iff hx] at e; omega
  have hY : parsY (fsub 0 x) true (decide (x % 2 = 1)) = true := by unfold parsY; simp [h, h0]
  unfold parsP parsE
  rw [if_neg (show ¬ x % 2 = 0 by omega), if_pos hY, if_pos hY, decide_eq_true h, if_pos rfl, fsub_twice hx]
 have hY : parsY x true (decide (x % 2 = 1)) = true := by unfold parsY; simp [h]
 unfold parsP parsE
 rw [if_pos (show x % 2 = 0 by omega), if_pos hY, if_pos hY, decide_eq_false h, if_neg (by decide)]
/-- Why a signature is not right: of why the key is none, why the number is none, and whether it fits. -/
def edV (ke se : Int) (c : Bool) : Int := if ke ≠ 0 then ke else if se ≠ 0 then se else if c then 0 else 12
/-- What stands against the first half. -/
def edQ (kp : P4) (s k : Nat) : P4 := addP (mulR s baseP 256) (negP (mulR k kp 256))
set_option maxHeartbeats 4000000 in
theorem Verify_go {key m sig : List UInt8} {w : World} (hk : key.length = 32) (hs : sig.length = 64) (hm : m.length ≤ 9223372036854775680) (L2 : 2 < w.heap.size) (R2_0 : w.rangeAt 2 0 kcellsq) :
  Calls Tryd.prog 18 #[.string (bs key), .string (bs m), .string (bs sig)] w fun e w' => e = .returned (.int .i64 (edV (pPar key).2 (sparseE (sig.drop 32)) (decide (textQ (affX (edQ (pPar key).1 (sparseN (sig.drop 32)) (edR [sig.take 32, key, m]))) (affY (edQ (pPar key).1 (sparseN (sig.drop 32)) (edR [sig.take 32, key, m]))) = sig.take 32)))) ∧ Below w.heap.size w w' := by
 rcases hkp : pPar key with ⟨kp, ke⟩
 have hpk : kp.Ok := by have := pPar_ok key; rw [hkp] at this; exact this
 have hkr : ke = 0 → rightP kp = true := fun h => by have := pPar_right (l := key); rw [hkp] at this; exact this h
 go_enter Tryd.func18, Tryd.ntmps18
 have M := Mem.start w
 refine qS fun _ k1 => ?_
 refine lg ?_; refine lZ k1 ?_
 refine sk fun _ k3 => ?_
 refine qS fun _ k4 => ?_
 refine lM ?_
 refine cM 7 fun Lk hLk => ?_
 refine wpV_lenS (by rfl) rfl rfl rfl U99 ?_
 simp only [Z0, Z6]
 refine vB (v := .bool false) (hr := fun W => (run_neqN key.length 32 _ _ W).trans (by rw [(decide_eq_false (fun h => h hk))])) ?_
 refine vM ?_; refine vM ?_
 refine wpV_lenS (by rfl) rfl rfl rfl U99 ?_
 simp only [Z0, Z6]
 refine vB (v := .bool false) (hr := fun W => (run_neqN sig.length 64 _ _ W).trans (by rw [(decide_eq_false (fun h => h hs))])) ?_
 refine vK ?_
 refine hLk _ fun w6 M => ?_
 refine lZ k4 ?_; refine cF ?_; refine sZ k3 ?_
 refine qS fun _ k7 => ?_
 refine lM ?_
 refine cM 4 fun Lk hLk => ?_
 refine vC (v := .tuple #[.agg (fel kp.x ++ fel kp.y ++ fel kp.z ++ fel kp.t : List Value).toArray, .int .i64 ke]) (args := #[.string (bs key)]) (fun W => (by have h9 := Parse_c (w := W) hk; rw [hkp] at h9; exact h9)) ?_
 refine vM ?_; refine vE ?_; refine vE ?_
 refine hLk _ fun w9 M => ?_
 refine nVs (segs := [(0, [.int .u64 0, .int .u64 0, .int .u64 0, .int .u64 0]), (4, [.int .u64 0, .int .u64 0, .int .u64 0, .int .u64 0]), (8, [.int .u64 0, .int .u64 0, .int .u64 0, .int .u64 0]), (12, [.int .u64 0, .int .u64 0, .int .u64 0, .int .u64 0])]) 16 fun g10 w11 M => ?_
 refine sTs (segs' := [(0, fel kp.x), (4, fel kp.y), (8, fel kp.z), (12, fel kp.t)]) 0 fun w12 M => ?_
 refine lg ?_; refine lZ k7 ?_
 refine sk fun _ k13 => ?_
 refine qS fun _ k14 => ?_
 refine lM ?_
 refine cM 1 fun Lk hLk => ?_
 refine vB (v := .bool (ke != 0)) (hr := run_neq _ _ _ _) ?_
 refine hLk _ fun w16 M => ?_
 refine lZ k14 ?_
 cases hc17 : (ke != 0)
 ·
  have rkp := hkr (by simpa using hc17)
  refine cF ?_; refine sZ k13 ?_
  refine qS fun _ k18 => ?_
  refine lM ?_
  refine cM 5 fun Lk hLk => ?_
  refine wpV_drop (l := sig) (lo := 32) (by rfl) rfl rfl rfl U99 (by omega) ?_
  simp only [Z0, Z6]
  refine vC (sparse_c (sig.drop 32)) ?_
  refine vM ?_; refine vE ?_; refine vE ?_
  refine hLk _ fun w20 M => ?_
  refine nV 4 fun g21 w22 M => ?_
  refine sT 0 0 fun w23 M => ?_
  refine lg ?_; refine lZ k18 ?_
  refine sk fun _ k24 => ?_
  refine qS fun _ k25 => ?_
  refine lM ?_
  refine cM 1 fun Lk hLk => ?_
  refine vB (v := .bool ((sparseE (sig.drop 32)) != 0)) (hr := run_neq _ _ _ _) ?_
  refine hLk _ fun w27 M => ?_
  refine lZ k25 ?_
  cases hc28 : ((sparseE (sig.drop 32)) != 0)
  ·
   refine cF ?_; refine sZ k24 ?_
   refine sk fun _ k29 => ?_
   refine wp_region_addsF 12 [10] [4, 11] [ValRel (.string (bs sig)), ValRel (.string (bs (sig.take 32))), ValRel (.string (bs key)), ValRel (.string (bs m)), BoxRel w27 (fun gA => .slice (some ⟨gA, 0, none⟩) 3 3) 3 [(0, [.string (bs (sig.take 32)), .string (bs key), .string (bs m)])], ValRel (fe (edR [sig.take 32, key, m])), ValRel (.agg (fel kp.x ++ (fel kp.y) ++ (fel kp.z) ++ (fel kp.t) : List Value).toArray), ValRel (.tuple #[.agg (fel (mulR (edR [sig.take 32, key, m]) kp 256).x ++ fel (mulR (edR [sig.take 32, key, m]) kp 256).y ++ fel (mulR (edR [sig.take 32, key, m]) kp 256).z ++ fel (mulR (edR [sig.take 32, key, m]) kp 256).t : List Value).toArray, .int .i64 0]), ValRel (.tuple #[.agg (fel (mulR (edR [sig.take 32, key, m]) kp 256).x ++ fel (mulR (edR [sig.take 32, key, m]) kp 256).y ++ fel (mulR (edR [sig.take 32, key, m]) kp 256).z ++ fel (mulR (edR [sig.take 32, key, m]) kp 256).t : List Value).toArray, .int .i64 0]), ValRel (.agg (fel (mulR (edR [sig.take 32, key, m]) kp 256).x ++ fel (mulR (edR [sig.take 32, key, m]) kp 256).y ++ fel (mulR (edR [sig.take 32, key, m]) kp 256).z ++ fel (mulR (edR [sig.take 32, key, m]) kp 256).t : List Value).toArray), ValRel (.int .i64 0), BoxRel w27 (fun gA => .pointer (some ⟨gA, 0, none⟩)) 16 [(0, [.int .u64 0, .int .u64 0, .int .u64 0, .int .u64 0]), (4, [.int .u64 0, .int .u64 0, .int .u64 0, .int .u64 0]), (8, [.int .u64 0, .int .u64 0, .int .u64 0, .int .u64 0]), (12, [.int .u64 0, .int .u64 0, .int .u64 0, .int .u64 0])]] [[], [0], [], [], [1, 2, 3], [4], [], [5, 6], [7], [8], [8], []] (fun vs => { tmps := #[.string (bs key), .string (bs m), .string (bs sig), Z9, Z9, Z9, .int .i64 0, .pointer (some ⟨g10, 0, none⟩), .int .i64 (sparseE (sig.drop 32)), .pointer (some ⟨g21, 0, none⟩), vs 11, Z9, Z9, Z9, Z9, Z9, Z9, Z9, .string (bs key), .int .i64 key.length, .bool false, .bool false, .string (bs sig), .int .i64 sig.length, .bool false, .bool false, .tuple #[.agg (fel kp.x ++ fel kp.y ++ fel kp.z ++ fel kp.t : List Value).toArray, .int .i64 ke], .string (bs key), .tuple #[.agg (fel kp.x ++ fel kp.y ++ fel kp.z ++ fel kp.t : List Value).toArray, .int .i64 ke], .agg (fel kp.x ++ fel kp.y ++ fel kp.z ++ fel kp.t : List Value).toArray, .int .i64 ke, .int .i64 ke, .bool false, Z9, .tuple #[fe (sparseN (sig.drop 32)), .int .i64 (sparseE (sig.drop 32))], .string (bs sig), .string (bs (sig.drop 32)), .tuple #[fe (sparseN (sig.drop 32)), .int .i64 (sparseE (sig.drop 32))], fe (sparseN (sig.drop 32)), .int .i64 (sparseE (sig.drop 32)), .int .i64 (sparseE (sig.drop 32)), .bool false, Z9, vs 8, vs 0, vs 1, vs 2, vs 3, vs 4, vs 5, vs 6, vs 7, vs 9, vs 10, Z9, Z9, Z9, Z9, Z9, Z9, Z9, Z9, Z9, Z9, Z9, Z9, Z9, Z9, Z9, Z9, Z9, Z9, Z9, Z9, Z9, Z9, Z9, Z9, Z9, Z9], defers := [] }) (by kernel_rfl) (by kernel_rfl) (by kernel_rfl) (by kernel_rfl) (.cons keep_val (.cons keep_val (.cons keep_val (.cons keep_val (.cons keep_box (.cons keep_val (.cons keep_val (.cons keep_val (.cons keep_val (.cons keep_val (.cons keep_val (.cons keep_box AllKeep.nil)))))))))))) (.free free_val (.free free_val (.free free_val (.free free_val (.free free_box (.free free_val (.free free_val (.free free_val (.free free_val (.free free_val (.free free_val (.free free_box AllLoc.nil)))))))))))) (.cons own_box (.cons own_box AllOwn.nil)) (by kernel_rfl) ?_ ?_
   ·
    simp only [Z7]
    refine RulesL.cons (fun vs => { tmps := #[.string (bs key), .string (bs m), .string (bs sig), Z9, Z9, Z9, .int .i64 0, .pointer (some ⟨g10, 0, none⟩), .int .i64 (sparseE (sig.drop 32)), .pointer (some ⟨g21, 0, none⟩), Z9, Z9, Z9, Z9, Z9, Z9, Z9, Z9, .string (bs key), .int .i64 key.length, .bool false, .bool false, .string (bs sig), .int .i64 sig.length, .bool false, .bool false, .tuple #[.agg (fel kp.x ++ fel kp.y ++ fel kp.z ++ fel kp.t : List Value).toArray, .int .i64 ke], .string (bs key), .tuple #[.agg (fel kp.x ++ fel kp.y ++ fel kp.z ++ fel kp.t : List Value).toArray, .int .i64 ke], .agg (fel kp.x ++ fel kp.y ++ fel kp.z ++ fel kp.t : List Value).toArray, .int .i64 ke, .int .i64 ke, .bool false, Z9, .tuple #[fe (sparseN (sig.drop 32)), .int .i64 (sparseE (sig.drop 32))], .string (bs sig), .string (bs (sig.drop 32)), .tuple #[fe (sparseN (sig.drop 32)), .int .i64 (sparseE (sig.drop 32))], fe (sparseN (sig.drop 32)), .int .i64 (sparseE (sig.drop 32)), .int .i64 (sparseE (sig.drop 32)), .bool false, Z9, Z9, Z9, Z9, Z9, Z9, Z9, Z9, Z9, Z9, Z9, Z9, Z9, Z9, Z9, Z9, Z9, Z9, Z9, Z9, Z9, Z9, Z9, Z9, Z9, Z9, Z9, Z9, Z9, Z9, Z9, Z9, Z9, Z9, Z9, Z9, Z9, Z9], defers := [] }) (by kernel_rfl) ?_ ?_
    ·
     intro vs gs W32 SW32 D K9 k9
     replace M := M.sees SW32
     dsimp only at k9
     try dsimp only
     refine lM ?_
     refine Z14 (Z22 ?_)
     have h8 := k9 (.string (bs sig))
     have h9 := h8 0 _ (sees_refl _) rfl (fun h => absurd h (by decide))
     simp only [Z0, Z6] at h9
     exact h9
    refine RulesL.cons (fun vs => { tmps := #[.string (bs key), .string (bs m), .string (bs sig), Z9, Z9, Z9, .int .i64 0, .pointer (some ⟨g10, 0, none⟩), .int .i64 (sparseE (sig.drop 32)), .pointer (some ⟨g21, 0, none⟩), Z9, Z9, Z9, Z9, Z9, Z9, Z9, Z9, .string (bs key), .int .i64 key.length, .bool false, .bool false, .string (bs sig), .int .i64 sig.length, .bool false, .bool false, .tuple #[.agg (fel kp.x ++ fel kp.y ++ fel kp.z ++ fel kp.t : List Value).toArray, .int .i64 ke], .string (bs key), .tuple #[.agg (fel kp.x ++ fel kp.y ++ fel kp.z ++ fel kp.t : List Value).toArray, .int .i64 ke], .agg (fel kp.x ++ fel kp.y ++ fel kp.z ++ fel kp.t : List Value).toArray, .int .i64 ke, .int .i64 ke, .bool false, Z9, .tuple #[fe (sparseN (sig.drop 32)), .int .i64 (sparseE (sig.drop 32))], .string (bs sig), .string (bs (sig.drop 32)), .tuple #[fe (sparseN (sig.drop 32)), .int .i64 (sparseE (sig.drop 32))], fe (sparseN (sig.drop 32)), .int .i64 (sparseE (sig.drop 32)), .int .i64 (sparseE (sig.drop 32)), .bool false, Z9, Z9, vs 0, Z9, Z9, Z9, Z9, Z9, Z9, Z9, Z9, Z9, Z9, Z9, Z9, Z9, Z9, Z9, Z9, Z9, Z9, Z9, Z9, Z9, Z9, Z9, Z9, Z9, Z9, Z9, Z9, Z9, Z9, Z9, Z9, Z9, Z9, Z9], defers := [] }) (by kernel_rfl) ?_ ?_
    ·
     intro vs gs W33 SW33 D K9 k9
     replace M := M.sees SW33
     obtain ⟨D0, _⟩ := D
     have e0 : vs 0 = .string (bs sig) := D0
     dsimp only at k9
     try dsimp only
     rw [e0] at k9 ⊢
     refine lCh 1 (fun Lk hLk => ?_)
     refine wpV_takeS (l := sig) (hi := 32) (by rfl) rfl rfl rfl U99 (by omega) ?_
     simp only [Z0, Z6]
     refine Z19 (hLk _ (fun w34 Sw34 => ?_))
     simp only [Z7, Z8]
     replace M := M.sees Sw34
     refine Z14 (Z22 ?_)
     have h8 := k9 (.string (bs (sig.take 32)))
     have h9 := h8 0 _ Sw34 rfl (fun h => absurd h (by decide))
     simp only [Z0, Z6] at h9
     exact h9
    refine RulesL.cons (fun vs => { tmps := #[.string (bs key), .string (bs m), .string (bs sig), Z9, Z9, Z9, .int .i64 0, .pointer (some ⟨g10, 0, none⟩), .int .i64 (sparseE (sig.drop 32)), .pointer (some ⟨g21, 0, none⟩), Z9, Z9, Z9, Z9, Z9, Z9, Z9, Z9, .string (bs key), .int .i64 key.length, .bool false, .bool false, .string (bs sig), .int .i64 sig.length, .bool false, .bool false, .tuple #[.agg (fel kp.x ++ fel kp.y ++ fel kp.z ++ fel kp.t : List Value).toArray, .int .i64 ke], .string (bs key), .tuple #[.agg (fel kp.x ++ fel kp.y ++ fel kp.z ++ fel kp.t : List Value).toArray, .int .i64 ke], .agg (fel kp.x ++ fel kp.y ++ fel kp.z ++ fel kp.t : List Value).toArray, .int .i64 ke, .int .i64 ke, .bool false, Z9, .tuple #[fe (sparseN (sig.drop 32)), .int .i64 (sparseE (sig.drop 32))], .string (bs sig), .string (bs (sig.drop 32)), .tuple #[fe (sparseN (sig.drop 32)), .int .i64 (sparseE (sig.drop 32))], fe (sparseN (sig.drop 32)), .int .i64 (sparseE (sig.drop 32)), .int .i64 (sparseE (sig.drop 32)), .bool false, Z9, Z9, Z9, Z9, Z9, Z9, Z9, Z9, Z9, Z9, Z9, Z9, Z9, Z9, Z9, Z9, Z9, Z9, Z9, Z9, Z9, Z9, Z9, Z9, Z9, Z9, Z9, Z9, Z9, Z9, Z9, Z9, Z9, Z9, Z9, Z9, Z9, Z9], defers := [] }) (by kernel_rfl) ?_ ?_
    ·
     intro vs gs W35 SW35 D K9 k9
     replace M := M.sees SW35
     dsimp only at k9
     try dsimp only
     refine lM ?_
     refine Z14 (Z22 ?_)
     have h8 := k9 (.string (bs key))
     have h9 := h8 0 _ (sees_refl _) rfl (fun h => absurd h (by decide))
     simp only [Z0, Z6] at h9
     exact h9
    refine RulesL.cons (fun vs => { tmps := #[.string (bs key), .string (bs m), .string (bs sig), Z9, Z9, Z9, .int .i64 0, .pointer (some ⟨g10, 0, none⟩), .int .i64 (sparseE (sig.drop 32)), .pointer (some ⟨g21, 0, none⟩), Z9, Z9, Z9, Z9, Z9, Z9, Z9, Z9, .string (bs key), .int .i64 key.length, .bool false, .bool false, .string (bs sig), .int .i64 sig.length, .bool false, .bool false, .tuple #[.agg (fel kp.x ++ fel kp.y ++ fel kp.z ++ fel kp.t : List Value).toArray, .int .i64 ke], .string (bs key), .tuple #[.agg (fel kp.x ++ fel kp.y ++ fel kp.z ++ fel kp.t : List Value).toArray, .int .i64 ke], .agg (fel kp.x ++ fel kp.y ++ fel kp.z ++ fel kp.t : List Value).toArray, .int .i64 ke, .int .i64 ke, .bool false, Z9, .tuple #[fe (sparseN (sig.drop 32)), .int .i64 (sparseE (sig.drop 32))], .string (bs sig), .string (bs (sig.drop 32)), .tuple #[fe (sparseN (sig.drop 32)), .int .i64 (sparseE (sig.drop 32))], fe (sparseN (sig.drop 32)), .int .i64 (sparseE (sig.drop 32)), .int .i64 (sparseE (sig.drop 32)), .bool false, Z9, Z9, Z9, Z9, Z9, Z9, Z9, Z9, Z9, Z9, Z9, Z9, Z9, Z9, Z9, Z9, Z9, Z9, Z9, Z9, Z9, Z9, Z9, Z9, Z9, Z9, Z9, Z9, Z9, Z9, Z9, Z9, Z9, Z9, Z9, Z9, Z9, Z9], defers := [] }) (by kernel_rfl) ?_ ?_
    ·
     intro vs gs W36 SW36 D K9 k9
     replace M := M.sees SW36
     dsimp only at k9
     try dsimp only
     refine lM ?_
     refine Z14 (Z22 ?_)
     have h8 := k9 (.string (bs m))
     have h9 := h8 0 _ (sees_refl _) rfl (fun h => absurd h (by decide))
     simp only [Z0, Z6] at h9
     exact h9
    refine RulesL.cons (fun vs => { tmps := #[.string (bs key), .string (bs m), .string (bs sig), Z9, Z9, Z9, .int .i64 0, .pointer (some ⟨g10, 0, none⟩), .int .i64 (sparseE (sig.drop 32)), .pointer (some ⟨g21, 0, none⟩), Z9, Z9, Z9, Z9, Z9, Z9, Z9, Z9, .string (bs key), .int .i64 key.length, .bool false, .bool false, .string (bs sig), .int .i64 sig.length, .bool false, .bool false, .tuple #[.agg (fel kp.x ++ fel kp.y ++ fel kp.z ++ fel kp.t : List Value).toArray, .int .i64 ke], .string (bs key), .tuple #[.agg (fel kp.x ++ fel kp.y ++ fel kp.z ++ fel kp.t : List Value).toArray, .int .i64 ke], .agg (fel kp.x ++ fel kp.y ++ fel kp.z ++ fel kp.t : List Value).toArray, .int .i64 ke, .int .i64 ke, .bool false, Z9, .tuple #[fe (sparseN (sig.drop 32)), .int .i64 (sparseE (sig.drop 32))], .string (bs sig), .string (bs (sig.drop 32)), .tuple #[fe (sparseN (sig.drop 32)), .int .i64 (sparseE (sig.drop 32))], fe (sparseN (sig.drop 32)), .int .i64 (sparseE (sig.drop 32)), .int .i64 (sparseE (sig.drop 32)), .bool false, Z9, Z9, Z9, vs 1, vs 2, vs 3, Z9, Z9, Z9, Z9, Z9, Z9, Z9, Z9, Z9, Z9, Z9, Z9, Z9, Z9, Z9, Z9, Z9, Z9, Z9, Z9, Z9, Z9, Z9, Z9, Z9, Z9, Z9, Z9, Z9, Z9, Z9, Z9], defers := [] }) (by kernel_rfl) ?_ ?_
    ·
     intro vs gs W37 SW37 D K9 k9
     replace M := M.sees SW37
     replace R2_0 := M.oldR R2_0 L2
     replace L2 := M.oldL L2
     have Rg21_0 := M.r 0 0 rfl rfl
     have Lg21 := M.lt 0 rfl
     have Rg10_0 := M.r 1 0 rfl rfl
     have Rg10_4 := M.r 1 1 rfl rfl
     have Rg10_8 := M.r 1 2 rfl rfl
     have Rg10_12 := M.r 1 3 rfl rfl
     have Lg10 := M.lt 1 rfl
     have BB := M.below
     replace M := Mem.start W37
     obtain ⟨D1, D2, D3, _⟩ := D
     have e1 : vs 1 = .string (bs (sig.take 32)) := D1
     have e2 : vs 2 = .string (bs key) := D2
     have e3 : vs 3 = .string (bs m) := D3
     dsimp only at k9
     try dsimp only
     rw [e1, e2, e3] at k9 ⊢
     refine wpL_rowN (vs := [.string (bs (sig.take 32)), .string (bs key), .string (bs m)]) (z := .string { data := #[] }) (bytes := 16) (by rfl) (by rfl) Tryd.underlying37 (by kernel_rfl) (by decide) (by kernel_rfl) (fun g38 w39 Sw39 Hg38 Bg38 => ?_)
     replace M := ((M.sees Sw39).add (N := 3) (cs := [.string (bs (sig.take 32)), .string (bs key), .string (bs m)]) (M.ge Hg38) (M.fresh Hg38) Bg38 rfl)
     clear Bg38
     simp only [Z0, Z6]
     refine Z14 (Z22 ?_)
     have h8 := k9 (.slice (some ⟨g38, 0, none⟩) 3 3)
     have h9 := h8 g38 _ M.seesAll ⟨rfl, (M.ok _ (.head _)).up SW37⟩ (fun _ => (M.ok _ (.head _)).ge)
     simp only [Z0, Z6] at h9
     exact h9
    refine RulesL.cons (fun vs => { tmps := #[.string (bs key), .string (bs m), .string (bs sig), Z9, Z9, Z9, .int .i64 0, .pointer (some ⟨g10, 0, none⟩), .int .i64 (sparseE (sig.drop 32)), .pointer (some ⟨g21, 0, none⟩), Z9, Z9, Z9, Z9, Z9, Z9, Z9, Z9, .string (bs key), .int .i64 key.length, .bool false, .bool false, .string (bs sig), .int .i64 sig.length, .bool false, .bool false, .tuple #[.agg (fel kp.x ++ fel kp.y ++ fel kp.z ++ fel kp.t : List Value).toArray, .int .i64 ke], .string (bs key), .tuple #[.agg (fel kp.x ++ fel kp.y ++ fel kp.z ++ fel kp.t : List Value).toArray, .int .i64 ke], .agg (fel kp.x ++ fel kp.y ++ fel kp.z ++ fel kp.t : List Value).toArray, .int .i64 ke, .int .i64 ke, .bool false, Z9, .tuple #[fe (sparseN (sig.drop 32)), .int .i64 (sparseE (sig.drop 32))], .string (bs sig), .string (bs (sig.drop 32)), .tuple #[fe (sparseN (sig.drop 32)), .int .i64 (sparseE (sig.drop 32))], fe (sparseN (sig.drop 32)), .int .i64 (sparseE (sig.drop 32)), .int .i64 (sparseE (sig.drop 32)), .bool false, Z9, Z9, Z9, Z9, Z9, Z9, vs 4, Z9, Z9, Z9, Z9, Z9, Z9, Z9, Z9, Z9, Z9, Z9, Z9, Z9, Z9, Z9, Z9, Z9, Z9, Z9, Z9, Z9, Z9, Z9, Z9, Z9, Z9, Z9, Z9, Z9, Z9, Z9], defers := [] }) (by kernel_rfl) ?_ ?_
    ·
     intro vs gs W40 SW40 D K9 k9
     replace M := M.sees SW40
     replace R2_0 := M.oldR R2_0 L2
     replace L2 := M.oldL L2
     have Rg21_0 := M.r 0 0 rfl rfl
     have Lg21 := M.lt 0 rfl
     have Rg10_0 := M.r 1 0 rfl rfl
     have Rg10_4 := M.r 1 1 rfl rfl
     have Rg10_8 := M.r 1 2 rfl rfl
     have Rg10_12 := M.r 1 3 rfl rfl
     have Lg10 := M.lt 1 rfl
     have BB := M.below
     replace M := Mem.start W40
     obtain ⟨D4, _⟩ := D
     obtain ⟨e4, Og41⟩ := D4
     generalize gs 4 = g41 at *
     replace e4 : vs 4 = .slice (some ⟨g41, 0, none⟩) 3 3 := e4
     have Rg41_0 := Og41.range (0, [.string (bs (sig.take 32)), .string (bs key), .string (bs m)]) (by simp only [List.mem_cons, true_or, or_true])
     have Lg41 := Og41.lt
     dsimp only at k9
     try dsimp only
     rw [e4] at k9 ⊢
     refine cM 1 fun Lk hLk => ?_
     refine vCh (v := fe (edR [sig.take 32, key, m])) (fun W hW => wide_q (ps := [sig.take 32, key, m]) (w := W) (by simp) (getD_all (all3 (by rw [List.length_take]; omega) (by omega) hm)) ((M.sees hW).oldL L2) ((M.sees hW).oldR R2_0 L2) (Nat.le_refl _) ((M.sees hW).oldL Lg41) ((M.sees hW).oldR Rg41_0 Lg41)) ?_
     refine hLk _ fun w42 M => ?_
     refine Z14 (Z22 ?_)
     have h8 := k9 (fe (edR [sig.take 32, key, m]))
     have h9 := h8 0 _ M.seesAll rfl (fun h => absurd h (by decide))
     simp only [Z0, Z6] at h9
     exact h9
    refine RulesL.cons (fun vs => { tmps := #[.string (bs key), .string (bs m), .string (bs sig), Z9, Z9, Z9, .int .i64 0, .pointer (some ⟨g10, 0, none⟩), .int .i64 (sparseE (sig.drop 32)), .pointer (some ⟨g21, 0, none⟩), Z9, Z9, Z9, Z9, Z9, Z9, Z9, Z9, .string (bs key), .int .i64 key.length, .bool false, .bool false, .string (bs sig), .int .i64 sig.length, .bool false, .bool false, .tuple #[.agg (fel kp.x ++ fel kp.y ++ fel kp.z ++ fel kp.t : List Value).toArray, .int .i64 ke], .string (bs key), .tuple #[.agg (fel kp.x ++ fel kp.y ++ fel kp.z ++ fel kp.t : List Value).toArray, .int .i64 ke], .agg (fel kp.x ++ fel kp.y ++ fel kp.z ++ fel kp.t : List Value).toArray, .int .i64 ke, .int .i64 ke, .bool false, Z9, .tuple #[fe (sparseN (sig.drop 32)), .int .i64 (sparseE (sig.drop 32))], .string (bs sig), .string (bs (sig.drop 32)), .tuple #[fe (sparseN (sig.drop 32)), .int .i64 (sparseE (sig.drop 32))], fe (sparseN (sig.drop 32)), .int .i64 (sparseE (sig.drop 32)), .int .i64 (sparseE (sig.drop 32)), .bool false, Z9, Z9, Z9, Z9, Z9, Z9, Z9, Z9, Z9, Z9, Z9, Z9, Z9, Z9, Z9, Z9, Z9, Z9, Z9, Z9, Z9, Z9, Z9, Z9, Z9, Z9, Z9, Z9, Z9, Z9, Z9, Z9, Z9, Z9, Z9, Z9, Z9, Z9], defers := [] }) (by kernel_rfl) ?_ ?_
    ·
     intro vs gs W43 SW43 D K9 k9
     replace M := M.sees SW43
     dsimp only at k9
     try dsimp only
     refine lCh 1 (fun Lk hLk => ?_)
     refine vP (pvLf (cs := fel kp.x ++ (fel kp.y) ++ (fel kp.z) ++ (fel kp.t)) (range_join (range_join (range_join (M.r 1 0 rfl rfl) (M.r 1 1 rfl rfl) (by simp [flen])) (M.r 1 2 rfl rfl) (by simp [flen])) (M.r 1 3 rfl rfl) (by simp [flen])) (M.lt 1 rfl)) ?_
     refine Z19 (hLk _ (fun w44 Sw44 => ?_))
     simp only [Z7, Z8]
     replace M := M.sees Sw44
     refine Z14 (Z22 ?_)
     have h8 := k9 (.agg (fel kp.x ++ (fel kp.y) ++ (fel kp.z) ++ (fel kp.t) : List Value).toArray)
     have h9 := h8 0 _ Sw44 rfl (fun h => absurd h (by decide))
     simp only [Z0, Z6] at h9
     exact h9
    refine RulesL.cons (fun vs => { tmps := #[.string (bs key), .string (bs m), .string (bs sig), Z9, Z9, Z9, .int .i64 0, .pointer (some ⟨g10, 0, none⟩), .int .i64 (sparseE (sig.drop 32)), .pointer (some ⟨g21, 0, none⟩), Z9, Z9, Z9, Z9, Z9, Z9, Z9, Z9, .string (bs key), .int .i64 key.length, .bool false, .bool false, .string (bs sig), .int .i64 sig.length, .bool false, .bool false, .tuple #[.agg (fel kp.x ++ fel kp.y ++ fel kp.z ++ fel kp.t : List Value).toArray, .int .i64 ke], .string (bs key), .tuple #[.agg (fel kp.x ++ fel kp.y ++ fel kp.z ++ fel kp.t : List Value).toArray, .int .i64 ke], .agg (fel kp.x ++ fel kp.y ++ fel kp.z ++ fel kp.t : List Value).toArray, .int .i64 ke, .int .i64 ke, .bool false, Z9, .tuple #[fe (sparseN (sig.drop 32)), .int .i64 (sparseE (sig.drop 32))], .string (bs sig), .string (bs (sig.drop 32)), .tuple #[fe (sparseN (sig.drop 32)), .int .i64 (sparseE (sig.drop 32))], fe (sparseN (sig.drop 32)), .int .i64 (sparseE (sig.drop 32)), .int .i64 (sparseE (sig.drop 32)), .bool false, Z9, Z9, Z9, Z9, Z9, Z9, Z9, vs 5, vs 6, Z9, Z9, Z9, Z9, Z9, Z9, Z9, Z9, Z9, Z9, Z9, Z9, Z9, Z9, Z9, Z9, Z9, Z9, Z9, Z9, Z9, Z9, Z9, Z9, Z9, Z9, Z9, Z9, Z9], defers := [] }) (by kernel_rfl) ?_ ?_
    ·
     intro vs gs W45 SW45 D K9 k9
     replace M := M.sees SW45
     obtain ⟨D5, D6, _⟩ := D
     have e5 : vs 5 = fe (edR [sig.take 32, key, m]) := D5
     have e6 : vs 6 = .agg (fel kp.x ++ (fel kp.y) ++ (fel kp.z) ++ (fel kp.t) : List Value).toArray := D6
     dsimp only at k9
     try dsimp only
     rw [e5, e6] at k9 ⊢
     refine lCh 1 (fun Lk hLk => ?_)
     refine vC (fun W => Mul_ok (edR_lt _) hpk rkp) ?_
     refine Z19 (hLk _ (fun w46 Sw46 => ?_))
     simp only [Z7, Z8]
     replace M := M.sees Sw46
     refine Z14 (Z22 ?_)
     have h8 := k9 (.tuple #[.agg (fel (mulR (edR [sig.take 32, key, m]) kp 256).x ++ fel (mulR (edR [sig.take 32, key, m]) kp 256).y ++ fel (mulR (edR [sig.take 32, key, m]) kp 256).z ++ fel (mulR (edR [sig.take 32, key, m]) kp 256).t : List Value).toArray, .int .i64 0])
     have h9 := h8 0 _ Sw46 rfl (fun h => absurd h (by decide))
     simp only [Z0, Z6] at h9
     exact h9
    refine RulesL.cons (fun vs => { tmps := #[.string (bs key), .string (bs m), .string (bs sig), Z9, Z9, Z9, .int .i64 0, .pointer (some ⟨g10, 0, none⟩), .int .i64 (sparseE (sig.drop 32)), .pointer (some ⟨g21, 0, none⟩), Z9, Z9, Z9, Z9, Z9, Z9, Z9, Z9, .string (bs key), .int .i64 key.length, .bool false, .bool false, .string (bs sig), .int .i64 sig.length, .bool false, .bool false, .tuple #[.agg (fel kp.x ++ fel kp.y ++ fel kp.z ++ fel kp.t : List Value).toArray, .int .i64 ke], .string (bs key), .tuple #[.agg (fel kp.x ++ fel kp.y ++ fel kp.z ++ fel kp.t : List Value).toArray, .int .i64 ke], .agg (fel kp.x ++ fel kp.y ++ fel kp.z ++ fel kp.t : List Value).toArray, .int .i64 ke, .int .i64 ke, .bool false, Z9, .tuple #[fe (sparseN (sig.drop 32)), .int .i64 (sparseE (sig.drop 32))], .string (bs sig), .string (bs (sig.drop 32)), .tuple #[fe (sparseN (sig.drop 32)), .int .i64 (sparseE (sig.drop 32))], fe (sparseN (sig.drop 32)), .int .i64 (sparseE (sig.drop 32)), .int .i64 (sparseE (sig.drop 32)), .bool false, Z9, Z9, Z9, Z9, Z9, Z9, Z9, Z9, Z9, vs 7, Z9, Z9, Z9, Z9, Z9, Z9, Z9, Z9, Z9, Z9, Z9, Z9, Z9, Z9, Z9, Z9, Z9, Z9, Z9, Z9, Z9, Z9, Z9, Z9, Z9, Z9, Z9, Z9], defers := [] }) (by kernel_rfl) ?_ ?_
    ·
     intro vs gs W47 SW47 D K9 k9
     replace M := M.sees SW47
     obtain ⟨D7, _⟩ := D
     have e7 : vs 7 = .tuple #[.agg (fel (mulR (edR [sig.take 32, key, m]) kp 256).x ++ fel (mulR (edR [sig.take 32, key, m]) kp 256).y ++ fel (mulR (edR [sig.take 32, key, m]) kp 256).z ++ fel (mulR (edR [sig.take 32, key, m]) kp 256).t : List Value).toArray, .int .i64 0] := D7
     dsimp only at k9
     try dsimp only
     rw [e7] at k9 ⊢
     refine lM ?_
     refine Z14 (Z22 ?_)
     have h8 := k9 (.tuple #[.agg (fel (mulR (edR [sig.take 32, key, m]) kp 256).x ++ fel (mulR (edR [sig.take 32, key, m]) kp 256).y ++ fel (mulR (edR [sig.take 32, key, m]) kp 256).z ++ fel (mulR (edR [sig.take 32, key, m]) kp 256).t : List Value).toArray, .int .i64 0])
     have h9 := h8 0 _ (sees_refl _) rfl (fun h => absurd h (by decide))
     simp only [Z0, Z6] at h9
     exact h9
    refine RulesL.cons (fun vs => { tmps := #[.string (bs key), .string (bs m), .string (bs sig), Z9, Z9, Z9, .int .i64 0, .pointer (some ⟨g10, 0, none⟩), .int .i64 (sparseE (sig.drop 32)), .pointer (some ⟨g21, 0, none⟩), Z9, Z9, Z9, Z9, Z9, Z9, Z9, Z9, .string (bs key), .int .i64 key.length, .bool false, .bool false, .string (bs sig), .int .i64 sig.length, .bool false, .bool false, .tuple #[.agg (fel kp.x ++ fel kp.y ++ fel kp.z ++ fel kp.t : List Value).toArray, .int .i64 ke], .string (bs key), .tuple #[.agg (fel kp.x ++ fel kp.y ++ fel kp.z ++ fel kp.t : List Value).toArray, .int .i64 ke], .agg (fel kp.x ++ fel kp.y ++ fel kp.z ++ fel kp.t : List Value).toArray, .int .i64 ke, .int .i64 ke, .bool false, Z9, .tuple #[fe (sparseN (sig.drop 32)), .int .i64 (sparseE (sig.drop 32))], .string (bs sig), .string (bs (sig.drop 32)), .tuple #[fe (sparseN (sig.drop 32)), .int .i64 (sparseE (sig.drop 32))], fe (sparseN (sig.drop 32)), .int .i64 (sparseE (sig.drop 32)), .int .i64 (sparseE (sig.drop 32)), .bool false, Z9, vs 8, Z9, Z9, Z9, Z9, Z9, Z9, Z9, Z9, Z9, Z9, Z9, Z9, Z9, Z9, Z9, Z9, Z9, Z9, Z9, Z9, Z9, Z9, Z9, Z9, Z9, Z9, Z9, Z9, Z9, Z9, Z9, Z9, Z9, Z9, Z9, Z9], defers := [] }) (by kernel_rfl) ?_ ?_
    ·
     intro vs gs W48 SW48 D K9 k9
     replace M := M.sees SW48
     obtain ⟨D8, _⟩ := D
     have e8 : vs 8 = .tuple #[.agg (fel (mulR (edR [sig.take 32, key, m]) kp 256).x ++ fel (mulR (edR [sig.take 32, key, m]) kp 256).y ++ fel (mulR (edR [sig.take 32, key, m]) kp 256).z ++ fel (mulR (edR [sig.take 32, key, m]) kp 256).t : List Value).toArray, .int .i64 0] := D8
     dsimp only at k9
     try dsimp only
     rw [e8] at k9 ⊢
     refine lCh 1 (fun Lk hLk => ?_)
     refine vE ?_
     refine Z19 (hLk _ (fun w49 Sw49 => ?_))
     simp only [Z7, Z8]
     replace M := M.sees Sw49
     refine Z14 (Z22 ?_)
     have h8 := k9 (.agg (fel (mulR (edR [sig.take 32, key, m]) kp 256).x ++ fel (mulR (edR [sig.take 32, key, m]) kp 256).y ++ fel (mulR (edR [sig.take 32, key, m]) kp 256).z ++ fel (mulR (edR [sig.take 32, key, m]) kp 256).t : List Value).toArray)
     have h9 := h8 0 _ Sw49 rfl (fun h => absurd h (by decide))
     simp only [Z0, Z6] at h9
     exact h9
    refine RulesL.cons (fun vs => { tmps := #[.string (bs key), .string (bs m), .string (bs sig), Z9, Z9, Z9, .int .i64 0, .pointer (some ⟨g10, 0, none⟩), .int .i64 (sparseE (sig.drop 32)), .pointer (some ⟨g21, 0, none⟩), Z9, Z9, Z9, Z9, Z9, Z9, Z9, Z9, .string (bs key), .int .i64 key.length, .bool false, .bool false, .string (bs sig), .int .i64 sig.length, .bool false, .bool false, .tuple #[.agg (fel kp.x ++ fel kp.y ++ fel kp.z ++ fel kp.t : List Value).toArray, .int .i64 ke], .string (bs key), .tuple #[.agg (fel kp.x ++ fel kp.y ++ fel kp.z ++ fel kp.t : List Value).toArray, .int .i64 ke], .agg (fel kp.x ++ fel kp.y ++ fel kp.z ++ fel kp.t : List Value).toArray, .int .i64 ke, .int .i64 ke, .bool false, Z9, .tuple #[fe (sparseN (sig.drop 32)), .int .i64 (sparseE (sig.drop 32))], .string (bs sig), .string (bs (sig.drop 32)), .tuple #[fe (sparseN (sig.drop 32)), .int .i64 (sparseE (sig.drop 32))], fe (sparseN (sig.drop 32)), .int .i64 (sparseE (sig.drop 32)), .int .i64 (sparseE (sig.drop 32)), .bool false, Z9, vs 8, Z9, Z9, Z9, Z9, Z9, Z9, Z9, Z9, Z9, Z9, Z9, Z9, Z9, Z9, Z9, Z9, Z9, Z9, Z9, Z9, Z9, Z9, Z9, Z9, Z9, Z9, Z9, Z9, Z9, Z9, Z9, Z9, Z9, Z9, Z9, Z9], defers := [] }) (by kernel_rfl) ?_ ?_
    ·
     intro vs gs W50 SW50 D K9 k9
     replace M := M.sees SW50
     obtain ⟨D8, _⟩ := D
     have e8 : vs 8 = .tuple #[.agg (fel (mulR (edR [sig.take 32, key, m]) kp 256).x ++ fel (mulR (edR [sig.take 32, key, m]) kp 256).y ++ fel (mulR (edR [sig.take 32, key, m]) kp 256).z ++ fel (mulR (edR [sig.take 32, key, m]) kp 256).t : List Value).toArray, .int .i64 0] := D8
     dsimp only at k9
     try dsimp only
     rw [e8] at k9 ⊢
     refine lCh 1 (fun Lk hLk => ?_)
     refine vE ?_
     refine Z19 (hLk _ (fun w51 Sw51 => ?_))
     simp only [Z7, Z8]
     replace M := M.sees Sw51
     refine Z14 (Z22 ?_)
     have h8 := k9 (.int .i64 0)
     have h9 := h8 0 _ Sw51 rfl (fun h => absurd h (by decide))
     simp only [Z0, Z6] at h9
     exact h9
    refine RulesL.cons (fun vs => { tmps := #[.string (bs key), .string (bs m), .string (bs sig), Z9, Z9, Z9, .int .i64 0, .pointer (some ⟨g10, 0, none⟩), .int .i64 (sparseE (sig.drop 32)), .pointer (some ⟨g21, 0, none⟩), Z9, Z9, Z9, Z9, Z9, Z9, Z9, Z9, .string (bs key), .int .i64 key.length, .bool false, .bool false, .string (bs sig), .int .i64 sig.length, .bool false, .bool false, .tuple #[.agg (fel kp.x ++ fel kp.y ++ fel kp.z ++ fel kp.t : List Value).toArray, .int .i64 ke], .string (bs key), .tuple #[.agg (fel kp.x ++ fel kp.y ++ fel kp.z ++ fel kp.t : List Value).toArray, .int .i64 ke], .agg (fel kp.x ++ fel kp.y ++ fel kp.z ++ fel kp.t : List Value).toArray, .int .i64 ke, .int .i64 ke, .bool false, Z9, .tuple #[fe (sparseN (sig.drop 32)), .int .i64 (sparseE (sig.drop 32))], .string (bs sig), .string (bs (sig.drop 32)), .tuple #[fe (sparseN (sig.drop 32)), .int .i64 (sparseE (sig.drop 32))], fe (sparseN (sig.drop 32)), .int .i64 (sparseE (sig.drop 32)), .int .i64 (sparseE (sig.drop 32)), .bool false, Z9, Z9, Z9, Z9, Z9, Z9, Z9, Z9, Z9, Z9, Z9, Z9, Z9, Z9, Z9, Z9, Z9, Z9, Z9, Z9, Z9, Z9, Z9, Z9, Z9, Z9, Z9, Z9, Z9, Z9, Z9, Z9, Z9, Z9, Z9, Z9, Z9, Z9], defers := [] }) (by kernel_rfl) ?_ ?_
    ·
     intro vs gs W52 SW52 D K9 k9
     replace M := M.sees SW52
     replace R2_0 := M.oldR R2_0 L2
     replace L2 := M.oldL L2
     have Rg21_0 := M.r 0 0 rfl rfl
     have Lg21 := M.lt 0 rfl
     have Rg10_0 := M.r 1 0 rfl rfl
     have Rg10_4 := M.r 1 1 rfl rfl
     have Rg10_8 := M.r 1 2 rfl rfl
     have Rg10_12 := M.r 1 3 rfl rfl
     have Lg10 := M.lt 1 rfl
     have BB := M.below
     replace M := Mem.start W52
     dsimp only at k9
     try dsimp only
     refine nVs (segs := [(0, [.int .u64 0, .int .u64 0, .int .u64 0, .int .u64 0]), (4, [.int .u64 0, .int .u64 0, .int .u64 0, .int .u64 0]), (8, [.int .u64 0, .int .u64 0, .int .u64 0, .int .u64 0]), (12, [.int .u64 0, .int .u64 0, .int .u64 0, .int .u64 0])]) 16 fun g53 w54 M => ?_
     refine Z14 (Z22 ?_)
     have h8 := k9 (.pointer (some ⟨g53, 0, none⟩))
     have h9 := h8 g53 _ M.seesAll ⟨rfl, (M.ok _ (.head _)).up SW52⟩ (fun _ => (M.ok _ (.head _)).ge)
     simp only [Z0, Z6] at h9
     exact h9
    exact RulesL.nil
   intro vs gs W55 SW55 D A9
   obtain ⟨D0, D1, D2, D3, D4, D5, D6, D7, D8, D9, D10, D11, _⟩ := (show DepRel _ vs gs W55 [0, 1, 2, 3, 4, 5, 6, 7, 8, 9, 10, 11] from D)
   have n4_11 : gs 4 ≠ gs 11 := A9 4 11 (by decide) (by decide) (by decide) (by decide) (by decide)
   clear A9 D
   have e0 : vs 0 = .string (bs sig) := D0
   have e1 : vs 1 = .string (bs (sig.take 32)) := D1
   have e2 : vs 2 = .string (bs key) := D2
   have e3 : vs 3 = .string (bs m) := D3
   obtain ⟨e4, Og56⟩ := D4
   generalize gs 4 = g56 at *
   replace e4 : vs 4 = .slice (some ⟨g56, 0, none⟩) 3 3 := e4
   have e5 : vs 5 = fe (edR [sig.take 32, key, m]) := D5
   have e6 : vs 6 = .agg (fel kp.x ++ (fel kp.y) ++ (fel kp.z) ++ (fel kp.t) : List Value).toArray := D6
   have e7 : vs 7 = .tuple #[.agg (fel (mulR (edR [sig.take 32, key, m]) kp 256).x ++ fel (mulR (edR [sig.take 32, key, m]) kp 256).y ++ fel (mulR (edR [sig.take 32, key, m]) kp 256).z ++ fel (mulR (edR [sig.take 32, key, m]) kp 256).t : List Value).toArray, .int .i64 0] := D7
   have e8 : vs 8 = .tuple #[.agg (fel (mulR (edR [sig.take 32, key, m]) kp 256).x ++ fel (mulR (edR [sig.take 32, key, m]) kp 256).y ++ fel (mulR (edR [sig.take 32, key, m]) kp 256).z ++ fel (mulR (edR [sig.take 32, key, m]) kp 256).t : List Value).toArray, .int .i64 0] := D8
   have e9 : vs 9 = .agg (fel (mulR (edR [sig.take 32, key, m]) kp 256).x ++ fel (mulR (edR [sig.take 32, key, m]) kp 256).y ++ fel (mulR (edR [sig.take 32, key, m]) kp 256).z ++ fel (mulR (edR [sig.take 32, key, m]) kp 256).t : List Value).toArray := D9
   have e10 : vs 10 = .int .i64 0 := D10
   obtain ⟨e11, Og57⟩ := D11
   generalize gs 11 = g57 at *
   replace e11 : vs 11 = .pointer (some ⟨g57, 0, none⟩) := e11
   replace M := M.addOks SW55 [⟨g56, 3, [(0, [.string (bs (sig.take 32)), .string (bs key), .string (bs m)])]⟩, ⟨g57, 16, [(0, [.int .u64 0, .int .u64 0, .int .u64 0, .int .u64 0]), (4, [.int .u64 0, .int .u64 0, .int .u64 0, .int .u64 0]), (8, [.int .u64 0, .int .u64 0, .int .u64 0, .int .u64 0]), (12, [.int .u64 0, .int .u64 0, .int .u64 0, .int .u64 0])]⟩] (List.forall_mem_cons.2 ⟨Og56, (List.forall_mem_cons.2 ⟨Og57, (fun _ h => nomatch h)⟩)⟩) (.cons (List.forall_mem_cons.2 ⟨n4_11, (fun _ h => nomatch h)⟩) (.cons (fun _ h => nomatch h) .nil))
   simp only [List.cons_append, List.nil_append] at M
   try dsimp only
   simp only [e0, e1, e2, e3, e4, e5, e6, e7, e8, e9, e10, e11, Z8]
   refine sTs (segs' := [(0, fel (mulR (edR [sig.take 32, key, m]) kp 256).x), (4, fel (mulR (edR [sig.take 32, key, m]) kp 256).y), (8, fel (mulR (edR [sig.take 32, key, m]) kp 256).z), (12, fel (mulR (edR [sig.take 32, key, m]) kp 256).t)]) 1 fun w58 M => ?_
   refine lg ?_; refine lZ k29 ?_
   refine qS fun _ k59 => ?_
   refine cM 5 fun Lk hLk => ?_
   refine vP (pvLf (cs := fel (mulR (edR [sig.take 32, key, m]) kp 256).x ++ (fel (mulR (edR [sig.take 32, key, m]) kp 256).y) ++ (fel (mulR (edR [sig.take 32, key, m]) kp 256).z) ++ (fel (mulR (edR [sig.take 32, key, m]) kp 256).t)) (range_join (range_join (range_join (M.r 1 0 rfl rfl) (M.r 1 1 rfl rfl) (by simp [flen])) (M.r 1 2 rfl rfl) (by simp [flen])) (M.r 1 3 rfl rfl) (by simp [flen])) (M.lt 1 rfl)) ?_
   refine vC (fun W => Neg_ok (mulR_ok ..) (right_mulR rkp 256)) ?_
   refine vM ?_; refine vE ?_; refine vE ?_
   refine hLk _ fun w61 M => ?_
   refine sTs (segs' := [(0, fel (negP (mulR (edR [sig.take 32, key, m]) kp 256)).x), (4, fel (negP (mulR (edR [sig.take 32, key, m]) kp 256)).y), (8, fel (negP (mulR (edR [sig.take 32, key, m]) kp 256)).z), (12, fel (negP (mulR (edR [sig.take 32, key, m]) kp 256)).t)]) 1 fun w62 M => ?_
   refine lZ k59 ?_
   refine sk fun _ k63 => ?_
   refine rH 7 [5] fun Lk hLk => ?_
   refine vL ?_
   refine vC (fun W => Base_c) ?_
   refine vC (fun W => Mul_ok (sparseN_lt ..) baseP_ok rightP_base) ?_
   refine vM ?_; refine vE ?_; refine vE ?_; refine vW ?_; refine hLk _ ?_; refine nA ?_
   refine n1s (segs := [(0, [.int .u64 0, .int .u64 0, .int .u64 0, .int .u64 0]), (4, [.int .u64 0, .int .u64 0, .int .u64 0, .int .u64 0]), (8, [.int .u64 0, .int .u64 0, .int .u64 0, .int .u64 0]), (12, [.int .u64 0, .int .u64 0, .int .u64 0, .int .u64 0])]) 16 fun g65 w66 M => ?_
   refine sTs (segs' := [(0, fel (mulR (sparseN (sig.drop 32)) baseP 256).x), (4, fel (mulR (sparseN (sig.drop 32)) baseP 256).y), (8, fel (mulR (sparseN (sig.drop 32)) baseP 256).z), (12, fel (mulR (sparseN (sig.drop 32)) baseP 256).t)]) 0 fun w67 M => ?_
   refine lg ?_; refine lZ k63 ?_
   refine qS fun _ k68 => ?_
   refine cM 6 fun Lk hLk => ?_
   refine vP (pvLf (cs := fel (mulR (sparseN (sig.drop 32)) baseP 256).x ++ (fel (mulR (sparseN (sig.drop 32)) baseP 256).y) ++ (fel (mulR (sparseN (sig.drop 32)) baseP 256).z) ++ (fel (mulR (sparseN (sig.drop 32)) baseP 256).t)) (range_join (range_join (range_join (M.r 0 0 rfl rfl) (M.r 0 1 rfl rfl) (by simp [flen])) (M.r 0 2 rfl rfl) (by simp [flen])) (M.r 0 3 rfl rfl) (by simp [flen])) (M.lt 0 rfl)) ?_
   refine vP (pvLf (cs := fel (negP (mulR (edR [sig.take 32, key, m]) kp 256)).x ++ (fel (negP (mulR (edR [sig.take 32, key, m]) kp 256)).y) ++ (fel (negP (mulR (edR [sig.take 32, key, m]) kp 256)).z) ++ (fel (negP (mulR (edR [sig.take 32, key, m]) kp 256)).t)) (range_join (range_join (range_join (M.r 2 0 rfl rfl) (M.r 2 1 rfl rfl) (by simp [flen])) (M.r 2 2 rfl rfl) (by simp [flen])) (M.r 2 3 rfl rfl) (by simp [flen])) (M.lt 2 rfl)) ?_
   refine vC (fun W => Add_ok (mulR_ok ..) (negP_ok (mulR_ok ..)) (right_mulR rightP_base 256) (right_neg (right_mulR rkp 256))) ?_
   refine vM ?_; refine vE ?_; refine vE ?_
   refine hLk _ fun w70 M => ?_
   refine nVs (segs := [(0, [.int .u64 0, .int .u64 0, .int .u64 0, .int .u64 0]), (4, [.int .u64 0, .int .u64 0, .int .u64 0, .int .u64 0]), (8, [.int .u64 0, .int .u64 0, .int .u64 0, .int .u64 0]), (12, [.int .u64 0, .int .u64 0, .int .u64 0, .int .u64 0])]) 16 fun g71 w72 M => ?_
   refine sTs (segs' := [(0, fel (edQ kp (sparseN (sig.drop 32)) (edR [sig.take 32, key, m])).x), (4, fel (edQ kp (sparseN (sig.drop 32)) (edR [sig.take 32, key, m])).y), (8, fel (edQ kp (sparseN (sig.drop 32)) (edR [sig.take 32, key, m])).z), (12, fel (edQ kp (sparseN (sig.drop 32)) (edR [sig.take 32, key, m])).t)]) 0 fun w73 M => ?_
   refine lg ?_; refine lZ k68 ?_
   refine sk fun _ k74 => ?_
   refine qS fun _ k75 => ?_
   refine cM 5 fun Lk hLk => ?_
   refine vP (pvLf (cs := fel (edQ kp (sparseN (sig.drop 32)) (edR [sig.take 32, key, m])).x ++ (fel (edQ kp (sparseN (sig.drop 32)) (edR [sig.take 32, key, m])).y) ++ (fel (edQ kp (sparseN (sig.drop 32)) (edR [sig.take 32, key, m])).z) ++ (fel (edQ kp (sparseN (sig.drop 32)) (edR [sig.take 32, key, m])).t)) (range_join (range_join (range_join (M.r 0 0 rfl rfl) (M.r 0 1 rfl rfl) (by simp [flen])) (M.r 0 2 rfl rfl) (by simp [flen])) (M.r 0 3 rfl rfl) (by simp [flen])) (M.lt 0 rfl)) ?_
   refine vC (fun W => Bytes_ok (addP_ok ..) (right_add (right_mulR rightP_base 256) (right_neg (right_mulR rkp 256)))) ?_
   refine vM ?_; refine vE ?_; refine vE ?_
   refine hLk _ fun w77 M => ?_
   refine lg ?_; refine lg ?_; refine lZ k75 ?_
   refine qS fun _ k78 => ?_
   refine lM ?_; refine lM ?_
   refine cM 2 fun Lk hLk => ?_
   refine wpV_takeS (l := sig) (hi := 32) (by rfl) rfl rfl rfl U99 (by omega) ?_
   simp only [Z0, Z6]
   refine wpV_binS (v := .bool (decide (textQ (affX (edQ kp (sparseN (sig.drop 32)) (edR [sig.take 32, key, m]))) (affY (edQ kp (sparseN (sig.drop 32)) (edR [sig.take 32, key, m]))) ≠ sig.take 32))) (by rfl) rfl rfl rfl (run_neq_bs _ _ _) ?_
   simp only [Z0, Z6]
   refine hLk _ fun w80 M => ?_
   refine lZ k78 ?_
   cases hc81 : (decide (textQ (affX (edQ kp (sparseN (sig.drop 32)) (edR [sig.take 32, key, m]))) (affY (edQ kp (sparseN (sig.drop 32)) (edR [sig.take 32, key, m]))) ≠ sig.take 32))
   ·
    refine cF ?_; refine sZ k74 ?_
    refine qS fun _ k82 => ?_
    refine lg ?_; refine lZ k82 ?_; refine rt1 ?_
    have BE := M.below
    exact ⟨by unfold edV; simp at hc17 hc28 hc81; simp [hc17, hc28, hc81], BE⟩
   refine cT ?_
   refine qS fun _ k84 => ?_
   refine lg ?_; refine lZ k84 ?_; refine rt1 ?_
   have BE := M.below
   exact ⟨by unfold edV; simp at hc17 hc28 hc81; simp [hc17, hc28, hc81], BE⟩
  refine cT ?_
  refine qS fun _ k86 => ?_
  refine lM ?_; refine lg ?_; refine lZ k86 ?_; refine rt1 ?_
  have BE := M.below
  exact ⟨by unfold edV; simp at hc17 hc28; simp [hc17, hc28], BE⟩
 refine cT ?_
 refine qS fun _ k88 => ?_
 refine lM ?_; refine lg ?_; refine lZ k88 ?_; refine rt1 ?_
 have BE := M.below
 exact ⟨by unfold edV; simp at hc17; simp [hc17], BE⟩
end Go.Proofs.Yc

namespace Go.Proofs.Yc
open Go Go.RowKit Go.Proofs.Num

attribute [local irreducible] wpV wpN wpList
open Go.Proofs.Ya
/-- The contrary of one point is that of the other. -/
theorem neg_congr {p q : P4} (h : Eqv p q) : Eqv (negP p) (negP q) := by
 obtain ⟨a, b⟩ := aff_neg p
 obtain ⟨c, d⟩ := aff_neg q
 exact ⟨by rw [a, c, h.x], by rw [b, d, h.y]⟩
theorem key_ptq (n : Nat) : PtQ (mulR n baseP 256) := mulR_ptq base_ptq 256
theorem key_right (n : Nat) : rightP (mulR n baseP 256) = true := right_mulR rightP_base 256
/-- The key's point. -/
def keyP (n : Nat) : P4 := affP (affX (mulR n baseP 256)) (affY (mulR n baseP 256))
theorem keyP_par (n : Nat) : pPar (edT n) = (keyP n, 0) := pPar_text (key_right n)
theorem keyP_right (n : Nat) : rightP (keyP n) = true := aff_right (affX_ltp _) (affY_ltp _) (ofRightP (key_right n)).2.on
theorem keyP_ptq (n : Nat) : PtQ (keyP n) := (ofRightP (keyP_right n)).2
theorem keyP_times {n k : Nat} (hn : n < 2 ^ 256) (hk : k < 2 ^ 256) : Eqv (mulR k (keyP n) 256) (timesP baseP (n * k)) := by
 have h1 := mul_times (keyP_ptq n) hk
 have h2 := times_congr (keyP_ptq n) (key_ptq n) (aff_eqv _) k
 have h3 := times_congr (key_ptq n) (times_ptq base_ptq n) (mul_times base_ptq hn) k
 exact ((h1.trans h2).trans h3).trans (times_mul base_ptq n k).symm
/-- So many times the base point, less the key's point so many times. -/
theorem edQ_eqv {n k s r : Nat} (hn : n < 2 ^ 256) (hk : k < 2 ^ 256) (hs : s < 2 ^ 256) (h : Eqv (timesP baseP s) (timesP baseP (r + n * k))) : Eqv (edQ (keyP n) s k) (timesP baseP r) := by
 have hb := base_ptq
 have hq := times_ptq hb (n * k)
 have hr := times_ptq hb r
 unfold edQ
 have h1 := add_congr (mulR_ptq hb 256) (neg_ptq (mulR_ptq (keyP_ptq n) 256)) (times_ptq hb (r + n * k)) (neg_ptq hq) ((mul_times hb hs).trans h) (neg_congr (keyP_times hn hk))
 have h2 := add_congr (times_ptq hb (r + n * k)) (neg_ptq hq) (addP_ptq hr hq) (neg_ptq hq) (times_add hb r (n * k)) Eqv.rfl
 have h3 := add_assoc hr hq (neg_ptq hq)
 have h4 := add_congr hr (addP_ptq hq (neg_ptq hq)) hr zero_ptq Eqv.rfl (add_neg hq)
 exact ((h1.trans h2).trans (h3.trans h4)).trans (add_zero hr)
theorem sign_mod (r k n : Nat) : restS (sadd r (smul k n)) = (r + n * k) % ordL := by
 unfold restS sadd smul
 rw [Nat.mod_mod, Nat.add_mod_mod, Nat.mul_comm]
theorem edS_take (seed m : List UInt8) : (edS seed m).take 32 = edT (edR [edP seed, m]) := List.take_left' (edT_len _)
theorem edS_drop (seed m : List UInt8) : (edS seed m).drop 32 = bytesN 32 (restS (sadd (edR [edP seed, m]) (smul (edR [edT (edR [edP seed, m]), edT (edN seed), m]) (edN seed)))) := List.drop_left' (edT_len _)
/-- What is signed is right. -/
theorem ed_right (seed m : List UInt8) : edV (pPar (edT (edN seed))).2 (sparseE ((edS seed m).drop 32)) (decide (textQ (affX (edQ (pPar (edT (edN seed))).1 (sparseN ((edS seed m).drop 32)) (edR [(edS seed m).take 32, edT (edN seed), m]))) (affY (edQ (pPar (edT (edN seed))).1 (sparseN ((edS seed m).drop 32)) (edR [(edS seed m).take 32, edT (edN seed), m]))) = (edS seed m).take 32)) = 0 := by
 rw [keyP_par, edS_drop, edS_take]
 obtain ⟨h1, h2⟩ := sp_bytes (sadd (edR [edP seed, m]) (smul (edR [edT (edR [edP seed, m]), edT (edN seed), m]) (edN seed)))
 rw [h1, h2]
 have hr := edR_lt [edP seed, m]
 have hk := edR_lt [edT (edR [edP seed, m]), edT (edN seed), m]
 generalize edR [edT (edR [edP seed, m]), edT (edN seed), m] = k at *
 generalize edR [edP seed, m] = r at *
 have hn := edN_lt seed
 generalize edN seed = n at *
 have h3 : Eqv (edQ (keyP n) (restS (sadd r (smul k n))) k) (timesP baseP r) := edQ_eqv hn hk (restS_lt _) (by rw [sign_mod]; exact times_mod _)
 have h4 := h3.trans (mul_times base_ptq hr).symm
 have h5 : textQ (affX (edQ (keyP n) (restS (sadd r (smul k n))) k)) (affY (edQ (keyP n) (restS (sadd r (smul k n))) k)) = edT r := text_eqv h4
 rw [decide_eq_true h5]
 rfl
end Go.Proofs.Yc

