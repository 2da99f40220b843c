import Derived.WalkKit
import Derived.WalkSpells
import Derived.Laws.Pointers
import Derived.RowKit3
import Derived.Below
import Derived.Outline
import Derived.LoopN
import Derived.Lib.Hide
import Derived.Handy
import Derived.Laws.Bits64b
import Derived.Test.YtpgpjoldelobdaaDoorOcA
import Derived.Test.YtpgpjoldelobdaaDoorPtY
set_option linter.unusedSimpArgs false
set_option linter.unusedVariables false
namespace Go.Proofs.Yc
open Go Go.RowKit Go.Proofs.Num
open Nat renaming zero_add → Z1, le_trans → Z2, mod_eq_of_lt → Z4
open List renaming set → Z5, take → Z6, drop → Z7
open Go renaming wp_seq_k → Z9, wp_cond_true → Z10, wp_cond_false → Z11
open Go.Proofs.Num renaming putT → Z12, wp_region_seq → Z13, wpL_nil → Z14, no_panic → Z15, wpL_chunk → Z16, wpL_move → Z17, wpL_assign → Z18, wpV_nil → Z19, wpV_bin → Z20, wpV_move → Z21, wpL_store1 → Z23, wpV_callf → Z25, wpV_extract → Z32, wpV_load1 → Z34
attribute [local irreducible] wpV wpN wpList
open Go.Proofs.Ya
theorem nr_xor8 {P : Program} {T : TypeId} {x y : Nat} (hx : x < 256) (hy : y < 256) (W : World) : (binOp .xor T (.int .u8 (x : Int)) (.int .u8 (y : Int))).run P W = .ok (.int .u8 ((x ^^^ y : Nat) : Int)) W := by
 have h : x ^^^ y < 2 ^ 8 := Nat.xor_lt_two_pow hx hy
 refine run_xor' (e := ((x ^^^ y : Nat) : Int)) ?_ W
 show IntKind.wrap .u8 ((BitVec.ofInt 8 (x : Int) ^^^ BitVec.ofInt 8 (y : Int)).toNat : Int) = _
 rw [BitVec.toNat_xor, toNat_of hx, toNat_of hy]
 simp [IntKind.wrap, IntKind.bits, IntKind.signed]
 omega
theorem add_cancel {p q c : P4} (hp : PtQ p) (hq : PtQ q) (hc : PtQ c) (h : Eqv (addP p c) (addP q c)) : Eqv p q := by
 have hn := neg_ptq hc
 have k : ∀ {u : P4}, PtQ u → Eqv (addP (addP u c) (negP c)) u := fun hu => ((add_assoc hu hc hn).trans (add_congr hu (addP_ptq hc hn) hu zero_ptq Eqv.rfl (add_neg hc))).trans (add_zero hu)
 exact ((k hp).symm.trans (add_congr (addP_ptq hp hc) hn (addP_ptq hq hc) hn h Eqv.rfl)).trans (k hq)
theorem edQ_inj {kp : P4} {s t k : Nat} (hp : rightP kp = true) (hs : s < 2 ^ 256) (ht : t < 2 ^ 256) (h : Eqv (edQ kp s k) (edQ kp t k)) : Eqv (timesP baseP s) (timesP baseP t) := by
 have hb := base_ptq
 have h1 := add_cancel (mulR_ptq hb 256) (mulR_ptq hb 256) (neg_ptq (mulR_ptq (ofRightP hp).2 256)) h
 exact ((mul_times hb hs).symm.trans h1).trans (mul_times hb ht)
theorem leN_set {l : List UInt8} {a : Nat} (h : a < l.length) (v : UInt8) : leN (l.set a v) + byteN l a * 256 ^ a = leN l + v.toNat * 256 ^ a := by
 induction l generalizing a with
 | nil => exact absurd h (by simp)
 | cons b l ih =>
  cases a with
  | zero => simp [leN, byteN]; omega
  | succ a =>
   have h1 := ih (a := a) (by simpa using h)
   have e : byteN (b :: l) (a + 1) = byteN l a := by simp [byteN]
   rw [e, List.set_cons_succ]
   show b.toNat + 256 * leN (l.set a v) + byteN l a * 256 ^ (a + 1) = b.toNat + 256 * leN l + v.toNat * 256 ^ (a + 1)
   rw [Nat.pow_succ]
   have h2 : 256 * (leN (l.set a v) + byteN l a * 256 ^ a) = 256 * (leN l + v.toNat * 256 ^ a) := by rw [h1]
   rw [Nat.mul_add, Nat.mul_add] at h2
   have e1 : byteN l a * (256 ^ a * 256) = 256 * (byteN l a * 256 ^ a) := by rw [← Nat.mul_assoc, Nat.mul_comm]
   have e2 : v.toNat * (256 ^ a * 256) = 256 * (v.toNat * 256 ^ a) := by rw [← Nat.mul_assoc, Nat.mul_comm]
   rw [e1, e2]
   omega
theorem flip_fin : ∀ b : Fin 256, ∀ j : Fin 8, ((b.val ^^^ 2 ^ j.val) = b.val + 2 ^ j.val ∨ (b.val ^^^ 2 ^ j.val) + 2 ^ j.val = b.val) ∧ (b.val ^^^ 2 ^ j.val) < 256 := by decide +kernel
theorem leN_flip {l : List UInt8} {a j : Nat} (h : a < l.length) (hj : j < 8) : leN (l.set a (UInt8.ofNat (byteN l a ^^^ 2 ^ j))) = leN l + 2 ^ (8 * a + j) ∨ leN (l.set a (UInt8.ofNat (byteN l a ^^^ 2 ^ j))) + 2 ^ (8 * a + j) = leN l := by
 obtain ⟨hf, hlt⟩ := flip_fin ⟨byteN l a, byteN_lt l a⟩ ⟨j, hj⟩
 simp only at hf hlt
 have hs := leN_set h (UInt8.ofNat (byteN l a ^^^ 2 ^ j))
 have hv : (UInt8.ofNat (byteN l a ^^^ 2 ^ j)).toNat = byteN l a ^^^ 2 ^ j := by
  rw [UInt8.toNat_ofNat']
  exact Z4 hlt
 rw [hv] at hs
 have hp : (2 : Nat) ^ (8 * a + j) = 2 ^ j * 256 ^ a := by rw [Nat.pow_add, Nat.pow_mul, Nat.mul_comm]
 rw [hp]
 generalize byteN l a ^^^ 2 ^ j = v at *
 generalize byteN l a = b at *
 generalize 2 ^ j = d at *
 generalize 256 ^ a = e at *
 rcases hf with rfl | hf
 ·
  rw [Nat.add_mul] at hs
  exact .inl (by omega)
 ·
  rw [← hf, Nat.add_mul] at hs
  exact .inr (by omega)
theorem spE_or {l : List UInt8} (hl : l.length = 32) : sparseE l = 0 ∨ sparseE l = 11 := by
 unfold sparseE
 rw [if_pos hl]
 split
 ·
  exact .inl rfl
 ·
  exact .inr rfl
theorem spN_of {l : List UInt8} (hl : l.length = 32) (h : sparseE l = 0) : sparseN l = leN l ∧ leN l < ordL := by
 unfold sparseE at h
 rw [if_pos hl] at h
 by_cases h2 : leN l < ordL
 ·
  exact ⟨if_pos ⟨hl, h2⟩, h2⟩
 ·
  rw [if_neg h2] at h
  exact absurd h (by decide)
/-- One bit of the number is another one: it is not right. -/
theorem ed_wrong {n k r : Nat} (hn : n < 2 ^ 256) (hk : k < 2 ^ 256) (hr : r < 2 ^ 256) {t : List UInt8} {a j : Nat} (ht : t.length = 32) (ha : a < 32) (hj : j < 8) (hs : t = bytesN 32 (restS (sadd r (smul k n)))) {tx : List UInt8} (htx : tx = edT r) :
  edV 0 (sparseE (t.set a (UInt8.ofNat (byteN t a ^^^ 2 ^ j)))) (decide (textQ (affX (edQ (keyP n) (sparseN (t.set a (UInt8.ofNat (byteN t a ^^^ 2 ^ j)))) k)) (affY (edQ (keyP n) (sparseN (t.set a (UInt8.ofNat (byteN t a ^^^ 2 ^ j)))) k)) = tx)) = 12 ∨
  edV 0 (sparseE (t.set a (UInt8.ofNat (byteN t a ^^^ 2 ^ j)))) (decide (textQ (affX (edQ (keyP n) (sparseN (t.set a (UInt8.ofNat (byteN t a ^^^ 2 ^ j)))) k)) (affY (edQ (keyP n) (sparseN (t.set a (UInt8.ofNat (byteN t a ^^^ 2 ^ j)))) k)) = tx)) = 11 := by
 have hfl := leN_flip (l := t) (a := a) (by omega) hj
 have hl2 : (t.set a (UInt8.ofNat (byteN t a ^^^ 2 ^ j))).length = 32 := by rw [List.length_set]; exact ht
 generalize t.set a (UInt8.ofNat (byteN t a ^^^ 2 ^ j)) = u at *
 have hs1 : leN t = restS (sadd r (smul k n)) := by rw [hs, leN_bytesN, e256_32]; exact Z4 (restS_lt _)
 rcases spE_or hl2 with he | he
 ·
  obtain ⟨e1, e2⟩ := spN_of hl2 he
  rw [he, e1]
  have hu : leN u < 2 ^ 256 := Nat.lt_trans e2 (by decide)
  have hne : ¬ textQ (affX (edQ (keyP n) (leN u) k)) (affY (edQ (keyP n) (leN u) k)) = tx := fun h => by
   rw [htx] at h
   have h1 := text_inj (edQ_right (keyP_right n) _ _) (key_right r) h
   have h3 : Eqv (edQ (keyP n) (restS (sadd r (smul k n))) k) (timesP baseP r) := edQ_eqv hn hk (restS_lt _) (by rw [sign_mod]; exact times_mod _)
   have h4 := h1.trans ((mul_times base_ptq hr).trans h3.symm)
   have h5 := edQ_inj (keyP_right n) hu (restS_lt _) h4
   rw [← hs1] at h5
   rcases hfl with hf | hf
   ·
    rw [hf] at h5
    exact pow_diff h5
   ·
    rw [← hf] at h5
    exact pow_diff h5.symm
  rw [decide_eq_false hne]
  exact .inl rfl
 ·
  rw [he]
  right
  rfl
/-- Why a signature is not right. -/
def edVf (key m sig : List UInt8) : Int := edV (pPar key).2 (sparseE (sig.drop 32)) (decide (textQ (affX (edQ (pPar key).1 (sparseN (sig.drop 32)) (edR [sig.take 32, key, m]))) (affY (edQ (pPar key).1 (sparseN (sig.drop 32)) (edR [sig.take 32, key, m]))) = sig.take 32))
theorem Verify_c {key m sig : List UInt8} {w : World} (hk : key.length = 32) (hs : sig.length = 64) (hm : m.length ≤ 9223372036854775680) (L2 : 2 < w.heap.size) (R2_0 : w.rangeAt 2 0 kcellsq) :
  Calls Tryd.prog 18 #[.string (bs key), .string (bs m), .string (bs sig)] w fun e w' => e = .returned (.int .i64 (edVf key m sig)) ∧ Below w.heap.size w w' := Verify_go hk hs hm L2 R2_0
theorem edVf_right (seed m : List UInt8) : edVf (edT (edN seed)) m (edS seed m) = 0 := ed_right seed m
theorem edVf_wrong (seed m : List UInt8) {a j : Nat} (ha : a < 32) (hj : j < 8) : edVf (edT (edN seed)) m ((edS seed m).set (32 + a) (UInt8.ofNat (byteN (edS seed m) (32 + a) ^^^ 2 ^ j))) = 12 ∨ edVf (edT (edN seed)) m ((edS seed m).set (32 + a) (UInt8.ofNat (byteN (edS seed m) (32 + a) ^^^ 2 ^ j))) = 11 := by
 have hb : byteN (edS seed m) (32 + a) = byteN ((edS seed m).drop 32) a := (byteN_drop _ _ _).symm
 have e1 : ((edS seed m).set (32 + a) (UInt8.ofNat (byteN (edS seed m) (32 + a) ^^^ 2 ^ j))).drop 32 = ((edS seed m).drop 32).set a (UInt8.ofNat (byteN ((edS seed m).drop 32) a ^^^ 2 ^ j)) := by
  rw [hb, List.drop_set, if_neg (by omega), show 32 + a - 32 = a by omega]
 have e2 : ((edS seed m).set (32 + a) (UInt8.ofNat (byteN (edS seed m) (32 + a) ^^^ 2 ^ j))).take 32 = edT (edR [edP seed, m]) := by
  rw [List.take_set_of_le (by omega), edS_take]
 unfold edVf
 rw [e1, e2, keyP_par]
 exact ed_wrong (edN_lt _) (edR_lt _) (edR_lt _) (by rw [List.length_drop, edS_len]) ha hj (edS_drop seed m) rfl
set_option maxHeartbeats 1000000 in
theorem short07_c {l : List UInt8} {w : World}  :
  Calls Tryd.prog 14 #[.string (bs l)] w fun e w' => e = .returned (.string (bs (cut l 300))) ∧ Below w.heap.size w w' := by
 go_enter Tryd.func14, Tryd.ntmps14
 have M := Mem.start w
 refine Z9 (fun K1 hK1 => ?_)
 refine Z13 ?_
 refine Z18 (v := .string (bs ([]))) (by rfl) (by rfl) (by rfl) ?_
 simp only [Z12, Z5]
 refine Z14 (Z15 ?_)
 refine hK1 _ _ ?_
 refine Z9 (fun K3 hK3 => ?_)
 refine Z13 ?_
 refine Z17 (v := .string (bs l)) (by rfl) (by rfl) (by rfl) ?_
 simp only [Z12, Z5]
 refine Z17 (v := .string (bs l)) (by rfl) (by rfl) (by rfl) ?_
 simp only [Z12, Z5]
 refine Z16 3 (by rfl) (fun Lk hLk => ?_)
 simp only [Z6, Z7]
 refine wpV_lenS (by rfl) rfl rfl rfl Tryd.underlying9 ?_
 simp only [Z12, Z5]
 refine wpV_min (n := l.length) (m := 300) (by rfl) rfl rfl rfl ?_
 simp only [Z12, Z5]
 refine wpV_cut (l := l) (m := 300) (by rfl) rfl rfl rfl Tryd.underlying9 ?_
 simp only [Z12, Z5]
 refine Z19 (hLk _ (fun w5 Sw5 => ?_))
 clear hLk Lk
 simp only [Z6, Z7]
 replace M := M.sees Sw5
 refine Z18 (v := .string (bs (cut l 300))) (by rfl) (by rfl) (by rfl) ?_
 simp only [Z12, Z5]
 refine Z14 (Z15 ?_)
 refine hK3 _ _ ?_
 refine wp_ret ?_
 repeat (first | with_reducible refine then_ret ?_ | with_reducible refine inblock_ret ?_)
 refine bodyPost_ret (v := .string (bs (cut l 300))) (res1 rfl (.tmp (by rfl))) rfl ?_
 have BE := M.below
 exact ⟨rfl, BE⟩
set_option maxHeartbeats 4000000 in
theorem eback_in {l m mm kt sg : List UInt8} {x g : Int} {z a : Nat} {w : World} (hl : l.length = 32) (hmm : mm = cut m 300) (hx1 : -32 < x.tmod 32 ∧ x.tmod 32 < 32) (hae : (x.tmod 32 + 32).tmod 32 = (a : Int)) (ha : a < 32) (hz : z < 256) (hsl : sg.length = 64) (hg : g = 12 ∨ g = 11) (hPub : ∀ W : World, 2 < W.heap.size → W.rangeAt 2 0 kcellsq → Calls Tryd.prog 16 #[.string (bs l)] W fun e w' => e = .returned (.tuple #[.string (bs kt), .int .i64 0]) ∧ Below W.heap.size W w') (hSig : ∀ W : World, 2 < W.heap.size → W.rangeAt 2 0 kcellsq → Calls Tryd.prog 17 #[.string (bs l), .string (bs mm)] W fun e w' => e = .returned (.tuple #[.string (bs sg), .int .i64 0]) ∧ Below W.heap.size W w') (hV1 : ∀ W : World, 2 < W.heap.size → W.rangeAt 2 0 kcellsq → Calls Tryd.prog 18 #[.string (bs kt), .string (bs mm), .string (bs sg)] W fun e w' => e = .returned (.int .i64 0) ∧ Below W.heap.size W w') (hV2 : ∀ W : World, 2 < W.heap.size → W.rangeAt 2 0 kcellsq → Calls Tryd.prog 18 #[.string (bs kt), .string (bs mm), .string (bs (sg.set (32 + a) (UInt8.ofNat (byteN sg (32 + a) ^^^ 2 ^ (z % 8)))))] W fun e w' => e = .returned (.int .i64 g) ∧ Below W.heap.size W w') (L2 : 2 < w.heap.size) (R2_0 : w.rangeAt 2 0 kcellsq) :
  Calls Tryd.prog 3 #[.string (bs l), .string (bs m), .int .i64 x, .int .u8 ((z : Nat) : Int)] w fun e w' => e = .returned (.bool true) ∧ Below w.heap.size w w' := by
 have hsh : (1 : Nat) * 2 ^ (z % 8) % 256 = 2 ^ (z % 8) := by rw [Nat.one_mul]; exact Z4 (Nat.lt_of_le_of_lt (Nat.pow_le_pow_right (by decide) (show z % 8 ≤ 7 by omega)) (by decide))
 have hp8 : 2 ^ (z % 8) < 256 := Nat.lt_of_le_of_lt (Nat.pow_le_pow_right (by decide) (show z % 8 ≤ 7 by omega)) (by decide)
 have hb9 := byteN_lt sg (32 + a)
 have hxl : byteN sg (32 + a) ^^^ 2 ^ (z % 8) < 256 := Nat.xor_lt_two_pow (n := 8) hb9 hp8
 go_enter Tryd.func3, Tryd.ntmps3
 have M := Mem.start w
 refine Z9 (fun K1 hK1 => ?_)
 refine Z13 ?_
 refine Z18 (v := .bool false) (by rfl) (by rfl) (by rfl) ?_
 simp only [Z12, Z5]
 refine Z14 (Z15 ?_)
 refine hK1 _ _ ?_
 refine Z9 (fun K3 hK3 => ?_)
 refine Z13 ?_
 refine Z17 (v := .string (bs m)) (by rfl) (by rfl) (by rfl) ?_
 simp only [Z12, Z5]
 refine Z16 1 (by rfl) (fun Lk hLk => ?_)
 simp only [Z6, Z7]
 refine Z25 (v := .string (bs mm)) (args := #[.string (bs m)]) (by rfl) rfl Tryd.func14 (by kernel_rfl) (by kernel_rfl) rfl (fun W hW => (by have h9 := short07_c (l := m) (w := W); rw [← hmm] at h9; exact h9)) ?_
 simp only [Z12, Z5]
 refine Z19 (hLk _ (fun w5 Sw5 => ?_))
 clear hLk Lk
 simp only [Z6, Z7]
 replace M := M.sees Sw5
 refine Z18 (v := .string (bs mm)) (by rfl) (by rfl) (by rfl) ?_
 simp only [Z12, Z5]
 refine Z14 (Z15 ?_)
 refine hK3 _ _ ?_
 refine Z9 (fun K6 hK6 => ?_)
 refine Z9 (fun K7 hK7 => ?_)
 refine Z13 ?_
 refine Z17 (v := .string (bs l)) (by rfl) (by rfl) (by rfl) ?_
 simp only [Z12, Z5]
 refine Z16 2 (by rfl) (fun Lk hLk => ?_)
 simp only [Z6, Z7]
 refine wpV_lenS (by rfl) rfl rfl rfl Tryd.underlying9 ?_
 simp only [Z12, Z5]
 refine Z20 (v := .bool false) (by rfl) rfl rfl rfl (fun W => (run_neqN l.length 32 _ _ W).trans (by rw [(decide_eq_false (fun h => h hl))])) ?_
 simp only [Z12, Z5]
 refine Z19 (hLk _ (fun w9 Sw9 => ?_))
 clear hLk Lk
 simp only [Z6, Z7]
 replace M := M.sees Sw9
 refine Z14 (Z15 ?_)
 refine hK7 _ _ ?_
 refine Z11 rfl ?_
 refine wp_skip ?_
 refine hK6 _ _ ?_
 refine Z9 (fun K10 hK10 => ?_)
 refine Z13 ?_
 refine Z17 (v := .string (bs l)) (by rfl) (by rfl) (by rfl) ?_
 simp only [Z12, Z5]
 refine Z16 4 (by rfl) (fun Lk hLk => ?_)
 simp only [Z6, Z7]
 refine Z25 (v := .tuple #[.string (bs kt), .int .i64 0]) (args := #[.string (bs l)]) (by rfl) rfl Tryd.func16 (by kernel_rfl) (by kernel_rfl) rfl (fun W hW => (hPub W ((M.sees hW).oldL L2) ((M.sees hW).oldR R2_0 L2))) ?_
 simp only [Z12, Z5]
 refine Z21 (v := .tuple #[.string (bs kt), .int .i64 0]) (by rfl) rfl rfl ?_
 simp only [Z12, Z5]
 refine Z32 (v := .string (bs kt)) (by rfl) rfl rfl rfl ?_
 simp only [Z12, Z5]
 refine Z32 (v := .int .i64 0) (by rfl) rfl rfl rfl ?_
 simp only [Z12, Z5]
 refine Z19 (hLk _ (fun w12 Sw12 => ?_))
 clear hLk Lk
 simp only [Z6, Z7]
 replace M := M.sees Sw12
 refine Z18 (v := .string (bs kt)) (by rfl) (by rfl) (by rfl) ?_
 simp only [Z12, Z5]
 refine Z18 (v := .int .i64 0) (by rfl) (by rfl) (by rfl) ?_
 simp only [Z12, Z5]
 refine Z14 (Z15 ?_)
 refine hK10 _ _ ?_
 refine Z9 (fun K13 hK13 => ?_)
 refine Z13 ?_
 refine Z17 (v := .string (bs l)) (by rfl) (by rfl) (by rfl) ?_
 simp only [Z12, Z5]
 refine Z17 (v := .string (bs mm)) (by rfl) (by rfl) (by rfl) ?_
 simp only [Z12, Z5]
 refine Z16 4 (by rfl) (fun Lk hLk => ?_)
 simp only [Z6, Z7]
 refine Z25 (v := .tuple #[.string (bs sg), .int .i64 0]) (args := #[.string (bs l), .string (bs mm)]) (by rfl) rfl Tryd.func17 (by kernel_rfl) (by kernel_rfl) rfl (fun W hW => (hSig W ((M.sees hW).oldL L2) ((M.sees hW).oldR R2_0 L2))) ?_
 simp only [Z12, Z5]
 refine Z21 (v := .tuple #[.string (bs sg), .int .i64 0]) (by rfl) rfl rfl ?_
 simp only [Z12, Z5]
 refine Z32 (v := .string (bs sg)) (by rfl) rfl rfl rfl ?_
 simp only [Z12, Z5]
 refine Z32 (v := .int .i64 0) (by rfl) rfl rfl rfl ?_
 simp only [Z12, Z5]
 refine Z19 (hLk _ (fun w15 Sw15 => ?_))
 clear hLk Lk
 simp only [Z6, Z7]
 replace M := M.sees Sw15
 refine Z18 (v := .string (bs sg)) (by rfl) (by rfl) (by rfl) ?_
 simp only [Z12, Z5]
 refine Z18 (v := .int .i64 0) (by rfl) (by rfl) (by rfl) ?_
 simp only [Z12, Z5]
 refine Z14 (Z15 ?_)
 refine hK13 _ _ ?_
 refine Z9 (fun K16 hK16 => ?_)
 refine Z9 (fun K17 hK17 => ?_)
 refine Z13 ?_
 refine Z17 (v := .int .i64 0) (by rfl) (by rfl) (by rfl) ?_
 simp only [Z12, Z5]
 refine Z16 17 (by rfl) (fun Lk hLk => ?_)
 simp only [Z6, Z7]
 refine Z20 (v := .bool false) (by rfl) rfl rfl rfl (fun W => run_neq _ _ _ _ W) ?_
 simp only [Z12, Z5]
 refine Z21 (v := .bool false) (by rfl) rfl rfl ?_
 simp only [Z12, Z5]
 refine Z21 (v := .int .i64 0) (by rfl) rfl rfl ?_
 simp only [Z12, Z5]
 refine Z20 (v := .bool false) (by rfl) rfl rfl rfl (fun W => run_neq _ _ _ _ W) ?_
 simp only [Z12, Z5]
 refine wpV_pick (v := .bool false) (by rfl) rfl rfl rfl ?_
 simp only [Z12, Z5]
 refine Z21 (v := .bool false) (by rfl) rfl rfl ?_
 simp only [Z12, Z5]
 refine Z21 (v := .string (bs sg)) (by rfl) rfl rfl ?_
 simp only [Z12, Z5]
 refine wpV_lenS (by rfl) rfl rfl rfl Tryd.underlying9 ?_
 simp only [Z12, Z5]
 refine Z20 (v := .bool false) (by rfl) rfl rfl rfl (fun W => (run_neqN sg.length 64 _ _ W).trans (by rw [(decide_eq_false (fun h => h hsl))])) ?_
 simp only [Z12, Z5]
 refine wpV_pick (v := .bool false) (by rfl) rfl rfl rfl ?_
 simp only [Z12, Z5]
 refine Z21 (v := .bool false) (by rfl) rfl rfl ?_
 simp only [Z12, Z5]
 refine Z21 (v := .string (bs kt)) (by rfl) rfl rfl ?_
 simp only [Z12, Z5]
 refine Z21 (v := .string (bs mm)) (by rfl) rfl rfl ?_
 simp only [Z12, Z5]
 refine Z21 (v := .string (bs sg)) (by rfl) rfl rfl ?_
 simp only [Z12, Z5]
 refine Z25 (v := .int .i64 0) (args := #[.string (bs kt), .string (bs mm), .string (bs sg)]) (by rfl) rfl Tryd.func18 (by kernel_rfl) (by kernel_rfl) rfl (fun W hW => (hV1 W ((M.sees hW).oldL L2) ((M.sees hW).oldR R2_0 L2))) ?_
 simp only [Z12, Z5]
 refine Z20 (v := .bool false) (by rfl) rfl rfl rfl (fun W => run_neq _ _ _ _ W) ?_
 simp only [Z12, Z5]
 refine wpV_pick (v := .bool false) (by rfl) rfl rfl rfl ?_
 simp only [Z12, Z5]
 refine Z19 (hLk _ (fun w19 Sw19 => ?_))
 clear hLk Lk
 simp only [Z6, Z7]
 replace M := M.sees Sw19
 refine Z14 (Z15 ?_)
 refine hK17 _ _ ?_
 refine Z11 rfl ?_
 refine wp_skip ?_
 refine hK16 _ _ ?_
 refine Z9 (fun K20 hK20 => ?_)
 refine Z13 ?_
 refine Z17 (v := .int .i64 x) (by rfl) (by rfl) (by rfl) ?_
 simp only [Z12, Z5]
 refine Z16 4 (by rfl) (fun Lk hLk => ?_)
 simp only [Z6, Z7]
 refine Z20 (v := .int .i64 (x.tmod 32)) (by rfl) rfl rfl rfl (fun W => run_rem (by decide) rfl W) ?_
 simp only [Z12, Z5]
 refine Z20 (v := .int .i64 (x.tmod 32 + 32)) (by rfl) rfl rfl rfl (fun W => run_add (by simp only [IntKind.wrap_i64]; omega) W) ?_
 simp only [Z12, Z5]
 refine Z20 (v := .int .i64 ((a : Nat) : Int)) (by rfl) rfl rfl rfl (fun W => run_rem (by decide) hae W) ?_
 simp only [Z12, Z5]
 refine Z20 (v := .int .i64 ((32 + a : Nat) : Int)) (by rfl) rfl rfl rfl (fun W => run_add (by simp only [IntKind.wrap_i64]; omega) W) ?_
 simp only [Z12, Z5]
 refine Z19 (hLk _ (fun w22 Sw22 => ?_))
 clear hLk Lk
 simp only [Z6, Z7]
 replace M := M.sees Sw22
 refine Z18 (v := .int .i64 ((32 + a : Nat) : Int)) (by rfl) (by rfl) (by rfl) ?_
 simp only [Z12, Z5]
 refine Z14 (Z15 ?_)
 refine hK20 _ _ ?_
 refine Z9 (fun K23 hK23 => ?_)
 refine Z13 ?_
 refine Z17 (v := .string (bs sg)) (by rfl) (by rfl) (by rfl) ?_
 simp only [Z12, Z5]
 refine wpL_s2b (l := sg) (by rfl) (by rfl) (by rfl) Tryd.underlying9 Tryd.underlying29 Tryd.underlying5 (by rw [hsl]; decide) (fun g25 g25c w26 Sw26 Hg25 Cg25 R T L => ?_)
 replace M := (M.sees Sw26).addR (M.ge Hg25) (M.fresh Hg25) T R L
 clear T R L
 rw [show sg.length = 64 from hsl] at Cg25
 rw [show sg.length = 64 from hsl]
 simp only [Z12, Z5]
 refine Z18 (v := .slice (some ⟨g25, 0, none⟩) 64 g25c) (by rfl) (by rfl) (by rfl) ?_
 simp only [Z12, Z5]
 refine Z14 (Z15 ?_)
 refine hK23 _ _ ?_
 refine Z9 (fun K27 hK27 => ?_)
 refine Z13 ?_
 refine Z17 (v := .slice (some ⟨g25, 0, none⟩) 64 g25c) (by rfl) (by rfl) (by rfl) ?_
 simp only [Z12, Z5]
 refine Z17 (v := .int .i64 ((32 + a : Nat) : Int)) (by rfl) (by rfl) (by rfl) ?_
 simp only [Z12, Z5]
 refine Z16 7 (by rfl) (fun Lk hLk => ?_)
 simp only [Z6, Z7]
 refine wpV_idxs (n := 32 + a) (by rfl) rfl rfl rfl Tryd.underlying29 info5 (by omega) ?_
 simp only [Z1]
 simp only [Z12, Z5]
 refine Z34 (v := .int .u8 ((byteN sg (32 + a) : Nat) : Int)) (by rfl) rfl rfl (zadd ((M.r 0 0 rfl rfl) _ _ (bcells_at (by omega)))) (M.lt 0 rfl) Tryd.underlying5 rfl ?_
 simp only [Z12, Z5]
 refine Z21 (v := .int .u8 ((z : Nat) : Int)) (by rfl) rfl rfl ?_
 simp only [Z12, Z5]
 refine Z20 (v := .int .u8 ((z % 8 : Nat) : Int)) (by rfl) rfl rfl rfl (fun W => run_rem (by decide) (by exact (tmod_nat _ _)) W) ?_
 simp only [Z12, Z5]
 refine Z20 (v := .int .u8 ((2 ^ (z % 8) : Nat) : Int)) (by rfl) rfl rfl rfl (fun W => (by have h9 := nr_shl8 (P := Tryd.prog) (T := 5) (k' := .u8) (x := 1) (n := z % 8) (by omega) W; rw [hsh] at h9; exact h9)) ?_
 simp only [Z12, Z5]
 refine Z20 (v := .int .u8 ((byteN sg (32 + a) ^^^ 2 ^ (z % 8) : Nat) : Int)) (by rfl) rfl rfl rfl (fun W => nr_xor8 hb9 hp8 W) ?_
 simp only [Z12, Z5]
 refine wpV_idxs (n := 32 + a) (by rfl) rfl rfl rfl Tryd.underlying29 info5 (by omega) ?_
 simp only [Z1]
 simp only [Z12, Z5]
 refine Z19 (hLk _ (fun w29 Sw29 => ?_))
 clear hLk Lk
 simp only [Z6, Z7]
 replace M := M.sees Sw29
 refine Z23 (g := g25) (off := 32 + a) (n := g25c) (v := .int .u8 ((byteN sg (32 + a) ^^^ 2 ^ (z % 8) : Nat) : Int)) (by rfl) (by rfl) (by rfl) (by rfl) (by rfl) (M.t 0 rfl) (by omega) info5 rfl (fun w30 P R T => ?_)
 replace M := M.put1 (j := 32 + a) 0 rfl P R T (Z1 _).symm
 simp only [Z5] at M
 rw [bcells_put _ (32 + a) hxl] at M
 refine Z14 (Z15 ?_)
 refine hK27 _ _ ?_
 refine Z9 (fun K31 hK31 => ?_)
 refine Z13 ?_
 refine Z17 (v := .string (bs kt)) (by rfl) (by rfl) (by rfl) ?_
 simp only [Z12, Z5]
 refine Z17 (v := .string (bs mm)) (by rfl) (by rfl) (by rfl) ?_
 simp only [Z12, Z5]
 refine Z17 (v := .slice (some ⟨g25, 0, none⟩) 64 g25c) (by rfl) (by rfl) (by rfl) ?_
 simp only [Z12, Z5]
 refine Z16 2 (by rfl) (fun Lk hLk => ?_)
 simp only [Z6, Z7]
 refine wpV_b2s (l := (sg.set (32 + a) (UInt8.ofNat (byteN sg (32 + a) ^^^ 2 ^ (z % 8))))) (by rfl) rfl rfl (by rw [List.length_set]; exact hsl.symm) Tryd.underlying29 Tryd.underlying5 Tryd.underlying9 (M.r 0 0 rfl rfl) (M.lt 0 rfl) ?_
 simp only [Z12, Z5]
 refine Z25 (v := .int .i64 g) (args := #[.string (bs kt), .string (bs mm), .string (bs (sg.set (32 + a) (UInt8.ofNat (byteN sg (32 + a) ^^^ 2 ^ (z % 8)))))]) (by rfl) rfl Tryd.func18 (by kernel_rfl) (by kernel_rfl) rfl (fun W hW => (hV2 W ((M.sees hW).oldL L2) ((M.sees hW).oldR R2_0 L2))) ?_
 simp only [Z12, Z5]
 refine Z19 (hLk _ (fun w33 Sw33 => ?_))
 clear hLk Lk
 simp only [Z6, Z7]
 replace M := M.sees Sw33
 refine Z18 (v := .int .i64 g) (by rfl) (by rfl) (by rfl) ?_
 simp only [Z12, Z5]
 refine Z14 (Z15 ?_)
 refine hK31 _ _ ?_
 refine Z9 (fun K34 hK34 => ?_)
 cases hg35 : (g == 12)
 ·
  refine Z13 ?_
  refine Z16 9 (by rfl) (fun Lk hLk => ?_)
  simp only [Z6, Z7]
  refine Z25 (v := .bool true) (args := #[]) (by rfl) rfl Tryd.func19 (by kernel_rfl) (by kernel_rfl) rfl (fun W hW => (alive07_c ((M.sees hW).oldL L2) ((M.sees hW).oldR R2_0 L2))) ?_
  simp only [Z12, Z5]
  refine Z21 (v := .bool true) (by rfl) rfl rfl ?_
  simp only [Z12, Z5]
  refine Z21 (v := .int .i64 g) (by rfl) rfl rfl ?_
  simp only [Z12, Z5]
  refine Z20 (v := .bool false) (by rfl) rfl rfl rfl (fun W => (run_eql _ _ _ _ W).trans (by rw [hg35])) ?_
  simp only [Z12, Z5]
  refine Z21 (v := .bool false) (by rfl) rfl rfl ?_
  simp only [Z12, Z5]
  refine Z21 (v := .int .i64 g) (by rfl) rfl rfl ?_
  simp only [Z12, Z5]
  refine Z20 (v := .bool (g == 11)) (by rfl) rfl rfl rfl (fun W => run_eql _ _ _ _ W) ?_
  simp only [Z12, Z5]
  refine wpV_pick (v := .bool (g == 11)) (by rfl) rfl rfl rfl ?_
  simp only [Z12, Z5]
  refine wpV_pick (v := .bool (g == 11)) (by rfl) rfl rfl rfl ?_
  simp only [Z12, Z5]
  refine Z19 (hLk _ (fun w37 Sw37 => ?_))
  clear hLk Lk
  simp only [Z6, Z7]
  replace M := M.sees Sw37
  refine Z18 (v := .bool (g == 11)) (by rfl) (by rfl) (by rfl) ?_
  simp only [Z12, Z5]
  refine Z14 (Z15 ?_)
  refine hK34 _ _ ?_
  refine wp_ret ?_
  repeat (first | with_reducible refine then_ret ?_ | with_reducible refine inblock_ret ?_)
  refine bodyPost_ret (v := .bool (g == 11)) (res1 rfl (.tmp (by rfl))) rfl ?_
  have BE := M.below
  have e9 : g = 11 := hg.resolve_left (fun h => by rw [h] at hg35; exact absurd hg35 (by decide))
  subst e9
  exact ⟨rfl, BE⟩
 ·
  refine Z13 ?_
  refine Z16 9 (by rfl) (fun Lk hLk => ?_)
  simp only [Z6, Z7]
  refine Z25 (v := .bool true) (args := #[]) (by rfl) rfl Tryd.func19 (by kernel_rfl) (by kernel_rfl) rfl (fun W hW => (alive07_c ((M.sees hW).oldL L2) ((M.sees hW).oldR R2_0 L2))) ?_
  simp only [Z12, Z5]
  refine Z21 (v := .bool true) (by rfl) rfl rfl ?_
  simp only [Z12, Z5]
  refine Z21 (v := .int .i64 g) (by rfl) rfl rfl ?_
  simp only [Z12, Z5]
  refine Z20 (v := .bool true) (by rfl) rfl rfl rfl (fun W => (run_eql _ _ _ _ W).trans (by rw [hg35])) ?_
  simp only [Z12, Z5]
  refine Z21 (v := .bool true) (by rfl) rfl rfl ?_
  simp only [Z12, Z5]
  refine wpV_skip (by rfl) (by rfl) ?_
  simp only [Z12, Z5]
  refine wpV_skip (by rfl) (by rfl) ?_
  simp only [Z12, Z5]
  refine wpV_pick (v := .bool true) (by rfl) rfl rfl rfl ?_
  simp only [Z12, Z5]
  refine wpV_pick (v := .bool true) (by rfl) rfl rfl rfl ?_
  simp only [Z12, Z5]
  refine Z19 (hLk _ (fun w39 Sw39 => ?_))
  clear hLk Lk
  simp only [Z6, Z7]
  replace M := M.sees Sw39
  refine Z18 (v := .bool true) (by rfl) (by rfl) (by rfl) ?_
  simp only [Z12, Z5]
  refine Z14 (Z15 ?_)
  refine hK34 _ _ ?_
  refine wp_ret ?_
  repeat (first | with_reducible refine then_ret ?_ | with_reducible refine inblock_ret ?_)
  refine bodyPost_ret (v := .bool true) (res1 rfl (.tmp (by rfl))) rfl ?_
  have BE := M.below
  exact ⟨rfl, BE⟩
set_option maxHeartbeats 4000000 in
theorem eback_out {l m mm kt sg : List UInt8} {x g : Int} {z a : Nat} {w : World} (hl : l.length ≠ 32) (hmm : mm = cut m 300) (hx1 : -32 < x.tmod 32 ∧ x.tmod 32 < 32) (hae : (x.tmod 32 + 32).tmod 32 = (a : Int)) (ha : a < 32) (hz : z < 256) (hsl : sg.length = 64) (hg : g = 12 ∨ g = 11) (hPub : ∀ W : World, 2 < W.heap.size → W.rangeAt 2 0 kcellsq → Calls Tryd.prog 16 #[.string (bs firstL)] W fun e w' => e = .returned (.tuple #[.string (bs kt), .int .i64 0]) ∧ Below W.heap.size W w') (hSig : ∀ W : World, 2 < W.heap.size → W.rangeAt 2 0 kcellsq → Calls Tryd.prog 17 #[.string (bs firstL), .string (bs mm)] W fun e w' => e = .returned (.tuple #[.string (bs sg), .int .i64 0]) ∧ Below W.heap.size W w') (hV1 : ∀ W : World, 2 < W.heap.size → W.rangeAt 2 0 kcellsq → Calls Tryd.prog 18 #[.string (bs kt), .string (bs mm), .string (bs sg)] W fun e w' => e = .returned (.int .i64 0) ∧ Below W.heap.size W w') (hV2 : ∀ W : World, 2 < W.heap.size → W.rangeAt 2 0 kcellsq → Calls Tryd.prog 18 #[.string (bs kt), .string (bs mm), .string (bs (sg.set (32 + a) (UInt8.ofNat (byteN sg (32 + a) ^^^ 2 ^ (z % 8)))))] W fun e w' => e = .returned (.int .i64 g) ∧ Below W.heap.size W w') (L2 : 2 < w.heap.size) (R2_0 : w.rangeAt 2 0 kcellsq) :
  Calls Tryd.prog 3 #[.string (bs l), .string (bs m), .int .i64 x, .int .u8 ((z : Nat) : Int)] w fun e w' => e = .returned (.bool true) ∧ Below w.heap.size w w' := by
 have hsh : (1 : Nat) * 2 ^ (z % 8) % 256 = 2 ^ (z % 8) := by rw [Nat.one_mul]; exact Z4 (Nat.lt_of_le_of_lt (Nat.pow_le_pow_right (by decide) (show z % 8 ≤ 7 by omega)) (by decide))
 have hp8 : 2 ^ (z % 8) < 256 := Nat.lt_of_le_of_lt (Nat.pow_le_pow_right (by decide) (show z % 8 ≤ 7 by omega)) (by decide)
 have hb9 := byteN_lt sg (32 + a)
 have hxl : byteN sg (32 + a) ^^^ 2 ^ (z % 8) < 256 := Nat.xor_lt_two_pow (n := 8) hb9 hp8
 go_enter Tryd.func3, Tryd.ntmps3
 have M := Mem.start w
 refine Z9 (fun K1 hK1 => ?_)
 refine Z13 ?_
 refine Z18 (v := .bool false) (by rfl) (by rfl) (by rfl) ?_
 simp only [Z12, Z5]
 refine Z14 (Z15 ?_)
 refine hK1 _ _ ?_
 refine Z9 (fun K3 hK3 => ?_)
 refine Z13 ?_
 refine Z17 (v := .string (bs m)) (by rfl) (by rfl) (by rfl) ?_
 simp only [Z12, Z5]
 refine Z16 1 (by rfl) (fun Lk hLk => ?_)
 simp only [Z6, Z7]
 refine Z25 (v := .string (bs mm)) (args := #[.string (bs m)]) (by rfl) rfl Tryd.func14 (by kernel_rfl) (by kernel_rfl) rfl (fun W hW => (by have h9 := short07_c (l := m) (w := W); rw [← hmm] at h9; exact h9)) ?_
 simp only [Z12, Z5]
 refine Z19 (hLk _ (fun w5 Sw5 => ?_))
 clear hLk Lk
 simp only [Z6, Z7]
 replace M := M.sees Sw5
 refine Z18 (v := .string (bs mm)) (by rfl) (by rfl) (by rfl) ?_
 simp only [Z12, Z5]
 refine Z14 (Z15 ?_)
 refine hK3 _ _ ?_
 refine Z9 (fun K6 hK6 => ?_)
 refine Z9 (fun K7 hK7 => ?_)
 refine Z13 ?_
 refine Z17 (v := .string (bs l)) (by rfl) (by rfl) (by rfl) ?_
 simp only [Z12, Z5]
 refine Z16 2 (by rfl) (fun Lk hLk => ?_)
 simp only [Z6, Z7]
 refine wpV_lenS (by rfl) rfl rfl rfl Tryd.underlying9 ?_
 simp only [Z12, Z5]
 refine Z20 (v := .bool true) (by rfl) rfl rfl rfl (fun W => (run_neqN l.length 32 _ _ W).trans (by rw [(decide_eq_true hl)])) ?_
 simp only [Z12, Z5]
 refine Z19 (hLk _ (fun w9 Sw9 => ?_))
 clear hLk Lk
 simp only [Z6, Z7]
 replace M := M.sees Sw9
 refine Z14 (Z15 ?_)
 refine hK7 _ _ ?_
 refine Z10 rfl ?_
 refine Z13 ?_
 refine Z16 1 (by rfl) (fun Lk hLk => ?_)
 simp only [Z6, Z7]
 refine Z25 (v := .string (bs firstL)) (args := #[]) (by rfl) rfl Tryd.func15 (by kernel_rfl) (by kernel_rfl) rfl (fun W hW => first07_c) ?_
 simp only [Z12, Z5]
 refine Z19 (hLk _ (fun w11 Sw11 => ?_))
 clear hLk Lk
 simp only [Z6, Z7]
 replace M := M.sees Sw11
 refine Z18 (v := .string (bs firstL)) (by rfl) (by rfl) (by rfl) ?_
 simp only [Z12, Z5]
 refine Z14 (Z15 ?_)
 refine hK6 _ _ ?_
 refine Z9 (fun K12 hK12 => ?_)
 refine Z13 ?_
 refine Z17 (v := .string (bs firstL)) (by rfl) (by rfl) (by rfl) ?_
 simp only [Z12, Z5]
 refine Z16 4 (by rfl) (fun Lk hLk => ?_)
 simp only [Z6, Z7]
 refine Z25 (v := .tuple #[.string (bs kt), .int .i64 0]) (args := #[.string (bs firstL)]) (by rfl) rfl Tryd.func16 (by kernel_rfl) (by kernel_rfl) rfl (fun W hW => (hPub W ((M.sees hW).oldL L2) ((M.sees hW).oldR R2_0 L2))) ?_
 simp only [Z12, Z5]
 refine Z21 (v := .tuple #[.string (bs kt), .int .i64 0]) (by rfl) rfl rfl ?_
 simp only [Z12, Z5]
 refine Z32 (v := .string (bs kt)) (by rfl) rfl rfl rfl ?_
 simp only [Z12, Z5]
 refine Z32 (v := .int .i64 0) (by rfl) rfl rfl rfl ?_
 simp only [Z12, Z5]
 refine Z19 (hLk _ (fun w14 Sw14 => ?_))
 clear hLk Lk
 simp only [Z6, Z7]
 replace M := M.sees Sw14
 refine Z18 (v := .string (bs kt)) (by rfl) (by rfl) (by rfl) ?_
 simp only [Z12, Z5]
 refine Z18 (v := .int .i64 0) (by rfl) (by rfl) (by rfl) ?_
 simp only [Z12, Z5]
 refine Z14 (Z15 ?_)
 refine hK12 _ _ ?_
 refine Z9 (fun K15 hK15 => ?_)
 refine Z13 ?_
 refine Z17 (v := .string (bs firstL)) (by rfl) (by rfl) (by rfl) ?_
 simp only [Z12, Z5]
 refine Z17 (v := .string (bs mm)) (by rfl) (by rfl) (by rfl) ?_
 simp only [Z12, Z5]
 refine Z16 4 (by rfl) (fun Lk hLk => ?_)
 simp only [Z6, Z7]
 refine Z25 (v := .tuple #[.string (bs sg), .int .i64 0]) (args := #[.string (bs firstL), .string (bs mm)]) (by rfl) rfl Tryd.func17 (by kernel_rfl) (by kernel_rfl) rfl (fun W hW => (hSig W ((M.sees hW).oldL L2) ((M.sees hW).oldR R2_0 L2))) ?_
 simp only [Z12, Z5]
 refine Z21 (v := .tuple #[.string (bs sg), .int .i64 0]) (by rfl) rfl rfl ?_
 simp only [Z12, Z5]
 refine Z32 (v := .string (bs sg)) (by rfl) rfl rfl rfl ?_
 simp only [Z12, Z5]
 refine Z32 (v := .int .i64 0) (by rfl) rfl rfl rfl ?_
 simp only [Z12, Z5]
 refine Z19 (hLk _ (fun w17 Sw17 => ?_))
 clear hLk Lk
 simp only [Z6, Z7]
 replace M := M.sees Sw17
 refine Z18 (v := .string (bs sg)) (by rfl) (by rfl) (by rfl) ?_
 simp only [Z12, Z5]
 refine Z18 (v := .int .i64 0) (by rfl) (by rfl) (by rfl) ?_
 simp only [Z12, Z5]
 refine Z14 (Z15 ?_)
 refine hK15 _ _ ?_
 refine Z9 (fun K18 hK18 => ?_)
 refine Z9 (fun K19 hK19 => ?_)
 refine Z13 ?_
 refine Z17 (v := .int .i64 0) (by rfl) (by rfl) (by rfl) ?_
 simp only [Z12, Z5]
 refine Z16 17 (by rfl) (fun Lk hLk => ?_)
 simp only [Z6, Z7]
 refine Z20 (v := .bool false) (by rfl) rfl rfl rfl (fun W => run_neq _ _ _ _ W) ?_
 simp only [Z12, Z5]
 refine Z21 (v := .bool false) (by rfl) rfl rfl ?_
 simp only [Z12, Z5]
 refine Z21 (v := .int .i64 0) (by rfl) rfl rfl ?_
 simp only [Z12, Z5]
 refine Z20 (v := .bool false) (by rfl) rfl rfl rfl (fun W => run_neq _ _ _ _ W) ?_
 simp only [Z12, Z5]
 refine wpV_pick (v := .bool false) (by rfl) rfl rfl rfl ?_
 simp only [Z12, Z5]
 refine Z21 (v := .bool false) (by rfl) rfl rfl ?_
 simp only [Z12, Z5]
 refine Z21 (v := .string (bs sg)) (by rfl) rfl rfl ?_
 simp only [Z12, Z5]
 refine wpV_lenS (by rfl) rfl rfl rfl Tryd.underlying9 ?_
 simp only [Z12, Z5]
 refine Z20 (v := .bool false) (by rfl) rfl rfl rfl (fun W => (run_neqN sg.length 64 _ _ W).trans (by rw [(decide_eq_false (fun h => h hsl))])) ?_
 simp only [Z12, Z5]
 refine wpV_pick (v := .bool false) (by rfl) rfl rfl rfl ?_
 simp only [Z12, Z5]
 refine Z21 (v := .bool false) (by rfl) rfl rfl ?_
 simp only [Z12, Z5]
 refine Z21 (v := .string (bs kt)) (by rfl) rfl rfl ?_
 simp only [Z12, Z5]
 refine Z21 (v := .string (bs mm)) (by rfl) rfl rfl ?_
 simp only [Z12, Z5]
 refine Z21 (v := .string (bs sg)) (by rfl) rfl rfl ?_
 simp only [Z12, Z5]
 refine Z25 (v := .int .i64 0) (args := #[.string (bs kt), .string (bs mm), .string (bs sg)]) (by rfl) rfl Tryd.func18 (by kernel_rfl) (by kernel_rfl) rfl (fun W hW => (hV1 W ((M.sees hW).oldL L2) ((M.sees hW).oldR R2_0 L2))) ?_
 simp only [Z12, Z5]
 refine Z20 (v := .bool false) (by rfl) rfl rfl rfl (fun W => run_neq _ _ _ _ W) ?_
 simp only [Z12, Z5]
 refine wpV_pick (v := .bool false) (by rfl) rfl rfl rfl ?_
 simp only [Z12, Z5]
 refine Z19 (hLk _ (fun w21 Sw21 => ?_))
 clear hLk Lk
 simp only [Z6, Z7]
 replace M := M.sees Sw21
 refine Z14 (Z15 ?_)
 refine hK19 _ _ ?_
 refine Z11 rfl ?_
 refine wp_skip ?_
 refine hK18 _ _ ?_
 refine Z9 (fun K22 hK22 => ?_)
 refine Z13 ?_
 refine Z17 (v := .int .i64 x) (by rfl) (by rfl) (by rfl) ?_
 simp only [Z12, Z5]
 refine Z16 4 (by rfl) (fun Lk hLk => ?_)
 simp only [Z6, Z7]
 refine Z20 (v := .int .i64 (x.tmod 32)) (by rfl) rfl rfl rfl (fun W => run_rem (by decide) rfl W) ?_
 simp only [Z12, Z5]
 refine Z20 (v := .int .i64 (x.tmod 32 + 32)) (by rfl) rfl rfl rfl (fun W => run_add (by simp only [IntKind.wrap_i64]; omega) W) ?_
 simp only [Z12, Z5]
 refine Z20 (v := .int .i64 ((a : Nat) : Int)) (by rfl) rfl rfl rfl (fun W => run_rem (by decide) hae W) ?_
 simp only [Z12, Z5]
 refine Z20 (v := .int .i64 ((32 + a : Nat) : Int)) (by rfl) rfl rfl rfl (fun W => run_add (by simp only [IntKind.wrap_i64]; omega) W) ?_
 simp only [Z12, Z5]
 refine Z19 (hLk _ (fun w24 Sw24 => ?_))
 clear hLk Lk
 simp only [Z6, Z7]
 replace M := M.sees Sw24
 refine Z18 (v := .int .i64 ((32 + a : Nat) : Int)) (by rfl) (by rfl) (by rfl) ?_
 simp only [Z12, Z5]
 refine Z14 (Z15 ?_)
 refine hK22 _ _ ?_
 refine Z9 (fun K25 hK25 => ?_)
 refine Z13 ?_
 refine Z17 (v := .string (bs sg)) (by rfl) (by rfl) (by rfl) ?_
 simp only [Z12, Z5]
 refine wpL_s2b (l := sg) (by rfl) (by rfl) (by rfl) Tryd.underlying9 Tryd.underlying29 Tryd.underlying5 (by rw [hsl]; decide) (fun g27 g27c w28 Sw28 Hg27 Cg27 R T L => ?_)
 replace M := (M.sees Sw28).addR (M.ge Hg27) (M.fresh Hg27) T R L
 clear T R L
 rw [show sg.length = 64 from hsl] at Cg27
 rw [show sg.length = 64 from hsl]
 simp only [Z12, Z5]
 refine Z18 (v := .slice (some ⟨g27, 0, none⟩) 64 g27c) (by rfl) (by rfl) (by rfl) ?_
 simp only [Z12, Z5]
 refine Z14 (Z15 ?_)
 refine hK25 _ _ ?_
 refine Z9 (fun K29 hK29 => ?_)
 refine Z13 ?_
 refine Z17 (v := .slice (some ⟨g27, 0, none⟩) 64 g27c) (by rfl) (by rfl) (by rfl) ?_
 simp only [Z12, Z5]
 refine Z17 (v := .int .i64 ((32 + a : Nat) : Int)) (by rfl) (by rfl) (by rfl) ?_
 simp only [Z12, Z5]
 refine Z16 7 (by rfl) (fun Lk hLk => ?_)
 simp only [Z6, Z7]
 refine wpV_idxs (n := 32 + a) (by rfl) rfl rfl rfl Tryd.underlying29 info5 (by omega) ?_
 simp only [Z1]
 simp only [Z12, Z5]
 refine Z34 (v := .int .u8 ((byteN sg (32 + a) : Nat) : Int)) (by rfl) rfl rfl (zadd ((M.r 0 0 rfl rfl) _ _ (bcells_at (by omega)))) (M.lt 0 rfl) Tryd.underlying5 rfl ?_
 simp only [Z12, Z5]
 refine Z21 (v := .int .u8 ((z : Nat) : Int)) (by rfl) rfl rfl ?_
 simp only [Z12, Z5]
 refine Z20 (v := .int .u8 ((z % 8 : Nat) : Int)) (by rfl) rfl rfl rfl (fun W => run_rem (by decide) (by exact (tmod_nat _ _)) W) ?_
 simp only [Z12, Z5]
 refine Z20 (v := .int .u8 ((2 ^ (z % 8) : Nat) : Int)) (by rfl) rfl rfl rfl (fun W => (by have h9 := nr_shl8 (P := Tryd.prog) (T := 5) (k' := .u8) (x := 1) (n := z % 8) (by omega) W; rw [hsh] at h9; exact h9)) ?_
 simp only [Z12, Z5]
 refine Z20 (v := .int .u8 ((byteN sg (32 + a) ^^^ 2 ^ (z % 8) : Nat) : Int)) (by rfl) rfl rfl rfl (fun W => nr_xor8 hb9 hp8 W) ?_
 simp only [Z12, Z5]
 refine wpV_idxs (n := 32 + a) (by rfl) rfl rfl rfl Tryd.underlying29 info5 (by omega) ?_
 simp only [Z1]
 simp only [Z12, Z5]
 refine Z19 (hLk _ (fun w31 Sw31 => ?_))
 clear hLk Lk
 simp only [Z6, Z7]
 replace M := M.sees Sw31
 refine Z23 (g := g27) (off := 32 + a) (n := g27c) (v := .int .u8 ((byteN sg (32 + a) ^^^ 2 ^ (z % 8) : Nat) : Int)) (by rfl) (by rfl) (by rfl) (by rfl) (by rfl) (M.t 0 rfl) (by omega) info5 rfl (fun w32 P R T => ?_)
 replace M := M.put1 (j := 32 + a) 0 rfl P R T (Z1 _).symm
 simp only [Z5] at M
 rw [bcells_put _ (32 + a) hxl] at M
 refine Z14 (Z15 ?_)
 refine hK29 _ _ ?_
 refine Z9 (fun K33 hK33 => ?_)
 refine Z13 ?_
 refine Z17 (v := .string (bs kt)) (by rfl) (by rfl) (by rfl) ?_
 simp only [Z12, Z5]
 refine Z17 (v := .string (bs mm)) (by rfl) (by rfl) (by rfl) ?_
 simp only [Z12, Z5]
 refine Z17 (v := .slice (some ⟨g27, 0, none⟩) 64 g27c) (by rfl) (by rfl) (by rfl) ?_
 simp only [Z12, Z5]
 refine Z16 2 (by rfl) (fun Lk hLk => ?_)
 simp only [Z6, Z7]
 refine wpV_b2s (l := (sg.set (32 + a) (UInt8.ofNat (byteN sg (32 + a) ^^^ 2 ^ (z % 8))))) (by rfl) rfl rfl (by rw [List.length_set]; exact hsl.symm) Tryd.underlying29 Tryd.underlying5 Tryd.underlying9 (M.r 0 0 rfl rfl) (M.lt 0 rfl) ?_
 simp only [Z12, Z5]
 refine Z25 (v := .int .i64 g) (args := #[.string (bs kt), .string (bs mm), .string (bs (sg.set (32 + a) (UInt8.ofNat (byteN sg (32 + a) ^^^ 2 ^ (z % 8)))))]) (by rfl) rfl Tryd.func18 (by kernel_rfl) (by kernel_rfl) rfl (fun W hW => (hV2 W ((M.sees hW).oldL L2) ((M.sees hW).oldR R2_0 L2))) ?_
 simp only [Z12, Z5]
 refine Z19 (hLk _ (fun w35 Sw35 => ?_))
 clear hLk Lk
 simp only [Z6, Z7]
 replace M := M.sees Sw35
 refine Z18 (v := .int .i64 g) (by rfl) (by rfl) (by rfl) ?_
 simp only [Z12, Z5]
 refine Z14 (Z15 ?_)
 refine hK33 _ _ ?_
 refine Z9 (fun K36 hK36 => ?_)
 cases hg37 : (g == 12)
 ·
  refine Z13 ?_
  refine Z16 9 (by rfl) (fun Lk hLk => ?_)
  simp only [Z6, Z7]
  refine Z25 (v := .bool true) (args := #[]) (by rfl) rfl Tryd.func19 (by kernel_rfl) (by kernel_rfl) rfl (fun W hW => (alive07_c ((M.sees hW).oldL L2) ((M.sees hW).oldR R2_0 L2))) ?_
  simp only [Z12, Z5]
  refine Z21 (v := .bool true) (by rfl) rfl rfl ?_
  simp only [Z12, Z5]
  refine Z21 (v := .int .i64 g) (by rfl) rfl rfl ?_
  simp only [Z12, Z5]
  refine Z20 (v := .bool false) (by rfl) rfl rfl rfl (fun W => (run_eql _ _ _ _ W).trans (by rw [hg37])) ?_
  simp only [Z12, Z5]
  refine Z21 (v := .bool false) (by rfl) rfl rfl ?_
  simp only [Z12, Z5]
  refine Z21 (v := .int .i64 g) (by rfl) rfl rfl ?_
  simp only [Z12, Z5]
  refine Z20 (v := .bool (g == 11)) (by rfl) rfl rfl rfl (fun W => run_eql _ _ _ _ W) ?_
  simp only [Z12, Z5]
  refine wpV_pick (v := .bool (g == 11)) (by rfl) rfl rfl rfl ?_
  simp only [Z12, Z5]
  refine wpV_pick (v := .bool (g == 11)) (by rfl) rfl rfl rfl ?_
  simp only [Z12, Z5]
  refine Z19 (hLk _ (fun w39 Sw39 => ?_))
  clear hLk Lk
  simp only [Z6, Z7]
  replace M := M.sees Sw39
  refine Z18 (v := .bool (g == 11)) (by rfl) (by rfl) (by rfl) ?_
  simp only [Z12, Z5]
  refine Z14 (Z15 ?_)
  refine hK36 _ _ ?_
  refine wp_ret ?_
  repeat (first | with_reducible refine then_ret ?_ | with_reducible refine inblock_ret ?_)
  refine bodyPost_ret (v := .bool (g == 11)) (res1 rfl (.tmp (by rfl))) rfl ?_
  have BE := M.below
  have e9 : g = 11 := hg.resolve_left (fun h => by rw [h] at hg37; exact absurd hg37 (by decide))
  subst e9
  exact ⟨rfl, BE⟩
 ·
  refine Z13 ?_
  refine Z16 9 (by rfl) (fun Lk hLk => ?_)
  simp only [Z6, Z7]
  refine Z25 (v := .bool true) (args := #[]) (by rfl) rfl Tryd.func19 (by kernel_rfl) (by kernel_rfl) rfl (fun W hW => (alive07_c ((M.sees hW).oldL L2) ((M.sees hW).oldR R2_0 L2))) ?_
  simp only [Z12, Z5]
  refine Z21 (v := .bool true) (by rfl) rfl rfl ?_
  simp only [Z12, Z5]
  refine Z21 (v := .int .i64 g) (by rfl) rfl rfl ?_
  simp only [Z12, Z5]
  refine Z20 (v := .bool true) (by rfl) rfl rfl rfl (fun W => (run_eql _ _ _ _ W).trans (by rw [hg37])) ?_
  simp only [Z12, Z5]
  refine Z21 (v := .bool true) (by rfl) rfl rfl ?_
  simp only [Z12, Z5]
  refine wpV_skip (by rfl) (by rfl) ?_
  simp only [Z12, Z5]
  refine wpV_skip (by rfl) (by rfl) ?_
  simp only [Z12, Z5]
  refine wpV_pick (v := .bool true) (by rfl) rfl rfl rfl ?_
  simp only [Z12, Z5]
  refine wpV_pick (v := .bool true) (by rfl) rfl rfl rfl ?_
  simp only [Z12, Z5]
  refine Z19 (hLk _ (fun w41 Sw41 => ?_))
  clear hLk Lk
  simp only [Z6, Z7]
  replace M := M.sees Sw41
  refine Z18 (v := .bool true) (by rfl) (by rfl) (by rfl) ?_
  simp only [Z12, Z5]
  refine Z14 (Z15 ?_)
  refine hK36 _ _ ?_
  refine wp_ret ?_
  repeat (first | with_reducible refine then_ret ?_ | with_reducible refine inblock_ret ?_)
  refine bodyPost_ret (v := .bool true) (res1 rfl (.tmp (by rfl))) rfl ?_
  have BE := M.below
  exact ⟨rfl, BE⟩
theorem eback_c {l m : List UInt8} {x : Int} {z : Nat} {w : World} (hz : z < 256) (L2 : 2 < w.heap.size) (R2_0 : w.rangeAt 2 0 kcellsq) :
  Calls Tryd.prog 3 #[.string (bs l), .string (bs m), .int .i64 x, .int .u8 ((z : Nat) : Int)] w fun e w' => e = .returned (.bool true) ∧ Below w.heap.size w w' := by
 obtain ⟨hx, a, hae, ha⟩ := modZ x (n := 32) (by decide)
 have hml : (cut m 300).length ≤ 9223372036854775680 := Z2 (cut_len _ _) (by decide)
 have hj : z % 8 < 8 := Nat.mod_lt _ (by decide)
 by_cases hl : l.length = 32
 ·
  exact eback_in hl rfl hx hae ha hz (edS_len l (cut m 300)) (edVf_wrong l (cut m 300) ha hj) (fun W L R => Public_ok hl L R) (fun W L R => Sign_ok hl hml L R) (fun W L R => edVf_right l (cut m 300) ▸ Verify_c (edT_len _) (edS_len _ _) hml L R) (fun W L R => Verify_c (edT_len _) (by rw [List.length_set]; exact edS_len _ _) hml L R) L2 R2_0
 ·
  exact eback_out hl rfl hx hae ha hz (edS_len firstL (cut m 300)) (edVf_wrong firstL (cut m 300) ha hj) (fun W L R => Public_ok (by decide) L R) (fun W L R => Sign_ok (by decide) hml L R) (fun W L R => edVf_right firstL (cut m 300) ▸ Verify_c (edT_len _) (edS_len _ _) hml L R) (fun W L R => Verify_c (edT_len _) (by rw [List.length_set]; exact edS_len _ _) hml L R) L2 R2_0
end Go.Proofs.Yc

