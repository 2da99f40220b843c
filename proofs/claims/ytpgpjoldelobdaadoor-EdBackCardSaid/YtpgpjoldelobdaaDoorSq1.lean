import Derived.WalkKit
import Derived.WalkSpells
import Derived.Laws.Pointers
import Derived.RowKit3
import Derived.Below
import Derived.Outline
import Derived.LoopN
import Derived.Lib.Hide
import Derived.Handy
import Derived.Laws.Bits64b
import Derived.Test.YtpgpjoldelobdaaDoorPtK
import Derived.Test.YtpgpjoldelobdaaDoorAdds2
import Derived.Test.YtpgpjoldelobdaaDoorShq
set_option linter.unusedSimpArgs false
set_option linter.unusedVariables false
namespace Go.Proofs.Yc
open Go Go.RowKit Go.Proofs.Num
open Nat renaming mod_eq_of_lt → Z4
open List renaming set → Z5, take → Z6, drop → Z7
open Go renaming undef → Z8, wp_seq_k → Z9, wp_cond_true → Z10, wp_cond_false → Z11
open Go.Proofs.Num renaming putT → Z12, wp_region_seq → Z13, wpL_nil → Z14, no_panic → Z15, wpL_chunk → Z16, wpL_move → Z17, wpL_assign → Z18, wpV_nil → Z19, wpV_bin → Z20, wpV_move → Z21, then_normal → Z22, wpV_val → Z24, wpV_callf → Z25, wpN_skip → Z28, wpN_nil → Z29, wpV_load → Z31, wpV_extract → Z32, wpL_store → Z33, wpL_var → Z36
attribute [local irreducible] wpV wpN wpList
open Go.Proofs.Ya
theorem bcells_one9 {v : Nat} (h : v < 256) : bcells [UInt8.ofNat v] = [.int .u8 ((v : Nat) : Int)] := by
 have h9 : (UInt8.ofNat v).toNat = v := by
  rw [UInt8.toNat_ofNat']
  exact Z4 h
 show [Value.int .u8 (((UInt8.ofNat v).toNat : Nat) : Int)] = _
 rw [h9]
theorem run_andNot {P : Program} {T : TypeId} {k : IntKind} {m n e : Int} (h : bits .andNot k m n = e) (W : World) : (binOp .andNot T (.int k m) (.int k n)).run P W = .ok (.int k e) W := by subst h; simp [binOp, go_sem]
theorem andNot_fin : ∀ b : Fin 256, bits .andNot .u8 (b.val : Int) 128 = ((b.val % 128 : Nat) : Int) := by decide +kernel
theorem andNot_128 {b : Nat} (h : b < 256) : bits .andNot .u8 (b : Int) 128 = ((b % 128 : Nat) : Int) := andNot_fin ⟨b, h⟩
theorem and_fin : ∀ b : Fin 256, bits .and .u8 (b.val : Int) 128 = ((b.val / 128 * 128 : Nat) : Int) := by decide +kernel
theorem and_128 {b : Nat} (h : b < 256) : bits .and .u8 (b : Int) 128 = ((b / 128 * 128 : Nat) : Int) := and_fin ⟨b, h⟩
/-- What is parsed of x, y, whether there is a root, whether the highest bit is set. -/
def parsY (x : Nat) (b o : Bool) : Bool := b && !(o && decide (x = 0))
def parsP (x y : Nat) (b o : Bool) : P4 := if parsY x b o then affP (if o then fsub 0 x else x) y else noneP
def parsE (x : Nat) (b o : Bool) : Int := if parsY x b o then 0 else 10
/-- The text of y: the highest bit left out. -/
def yT (l : List UInt8) : List UInt8 := l.take 31 ++ [UInt8.ofNat (byteN l 31 % 128)]
set_option maxHeartbeats 2000000 in
theorem Parse_bad {l : List UInt8} {w : World} (hl : l.length = 32) (hN : fparseN (yT l) = 0) (hE : fparseE (yT l) = 2) :
  Calls Tryd.prog 51 #[.string (bs l)] w fun e w' => e = .returned (.tuple #[.agg (fel noneP.x ++ fel noneP.y ++ fel noneP.z ++ fel noneP.t : List Value).toArray, .int .i64 10]) ∧ Below w.heap.size w w' := by
 go_enter Tryd.func51, Tryd.ntmps51
 have M := Mem.start w
 refine Z9 (fun K1 hK1 => ?_)
 refine Z13 ?_
 refine Z36 (t := 88) (cs := [.int .u64 0, .int .u64 0, .int .u64 0, .int .u64 0, .int .u64 0, .int .u64 0, .int .u64 0, .int .u64 0, .int .u64 0, .int .u64 0, .int .u64 0, .int .u64 0, .int .u64 0, .int .u64 0, .int .u64 0, .int .u64 0]) (by rfl) (fun W => ?_) (fun g3 w4 Sw4 Hg3 Bg3 => ?_)
 ·
  go_simp
 replace M := ((M.sees Sw4).addS (N := 16) (cs := [.int .u64 0, .int .u64 0, .int .u64 0, .int .u64 0, .int .u64 0, .int .u64 0, .int .u64 0, .int .u64 0, .int .u64 0, .int .u64 0, .int .u64 0, .int .u64 0, .int .u64 0, .int .u64 0, .int .u64 0, .int .u64 0]) (segs := [(0, [.int .u64 0, .int .u64 0, .int .u64 0, .int .u64 0]), (4, [.int .u64 0, .int .u64 0, .int .u64 0, .int .u64 0]), (8, [.int .u64 0, .int .u64 0, .int .u64 0, .int .u64 0]), (12, [.int .u64 0, .int .u64 0, .int .u64 0, .int .u64 0])]) (M.ge Hg3) (M.fresh Hg3) Bg3 rfl ⟨rfl, rfl, rfl, rfl, trivial⟩)
 clear Bg3
 simp only [Z12, Z5]
 refine Z18 (v := .int .i64 0) (by rfl) (by rfl) (by rfl) ?_
 simp only [Z12, Z5]
 refine Z14 (Z15 ?_)
 refine hK1 _ _ ?_
 refine Z9 (fun K5 hK5 => ?_)
 refine Z9 (fun K6 hK6 => ?_)
 refine Z13 ?_
 refine Z17 (v := .string (bs l)) (by rfl) (by rfl) (by rfl) ?_
 simp only [Z12, Z5]
 refine Z16 2 (by rfl) (fun Lk hLk => ?_)
 simp only [Z6, Z7]
 refine wpV_lenS (by rfl) rfl rfl rfl Tryd.underlying9 ?_
 simp only [Z12, Z5]
 refine Z20 (v := .bool false) (by rfl) rfl rfl rfl (fun W => (run_neqN l.length 32 _ _ W).trans (by rw [(decide_eq_false (fun h => h hl))])) ?_
 simp only [Z12, Z5]
 refine Z19 (hLk _ (fun w8 Sw8 => ?_))
 clear hLk Lk
 simp only [Z6, Z7]
 replace M := M.sees Sw8
 refine Z14 (Z15 ?_)
 refine hK6 _ _ ?_
 refine Z11 rfl ?_
 refine wp_skip ?_
 refine hK5 _ _ ?_
 refine Z9 (fun K9 hK9 => ?_)
 refine Z13 ?_
 refine Z17 (v := .string (bs l)) (by rfl) (by rfl) (by rfl) ?_
 simp only [Z12, Z5]
 refine Z16 1 (by rfl) (fun Lk hLk => ?_)
 simp only [Z6, Z7]
 refine wpV_indexb (n := 31) (by omega) (by rfl) rfl rfl rfl Tryd.underlying9 ?_
 simp only [Z12, Z5]
 refine Z19 (hLk _ (fun w11 Sw11 => ?_))
 clear hLk Lk
 simp only [Z6, Z7]
 replace M := M.sees Sw11
 refine Z18 (v := .int .u8 ((byteN l 31 : Nat) : Int)) (by rfl) (by rfl) (by rfl) ?_
 simp only [Z12, Z5]
 refine Z14 (Z15 ?_)
 refine hK9 _ _ ?_
 refine Z9 (fun K12 hK12 => ?_)
 refine wp_region_addsF 12 [10] [4, 11] [ValRel (.string (bs l)), ValRel (.string (bs (l.take 31))), ValRel (.int .u8 ((byteN l 31 : Nat) : Int)), ValRel (.int .u8 ((byteN l 31 % 128 : Nat) : Int)), BoxRel w11 (fun gA => .slice (some ⟨gA, 0, none⟩) 1 1) 1 [(0, [.int .u8 ((byteN l 31 % 128 : Nat) : Int)])], ValRel (.string (bs ([UInt8.ofNat (byteN l 31 % 128)]))), ValRel (.string (bs ((l.take 31) ++ ([UInt8.ofNat (byteN l 31 % 128)])))), ValRel (.tuple #[fe 0, .int .i64 2]), ValRel (.tuple #[fe 0, .int .i64 2]), ValRel (fe 0), ValRel (.int .i64 2), BoxRel w11 (fun gA => .pointer (some ⟨gA, 0, none⟩)) 4 [(0, [.int .u64 0, .int .u64 0, .int .u64 0, .int .u64 0])]] [[], [0], [], [2], [3], [4], [1, 5], [6], [7], [8], [8], []] (fun vs => { tmps := #[.string (bs l), Z8, .pointer (some ⟨g3, 0, none⟩), .int .i64 0, .int .u8 ((byteN l 31 : Nat) : Int), vs 11, Z8, Z8, Z8, Z8, .string (bs l), .int .i64 ((l.length : Nat) : Int), .bool false, Z8, .string (bs l), .int .u8 ((byteN l 31 : Nat) : Int), vs 8, vs 0, vs 1, vs 2, vs 3, vs 4, vs 5, vs 6, vs 7, vs 9, vs 10, Z8, Z8, Z8, Z8, Z8, Z8, Z8, Z8, Z8, Z8, Z8, Z8, Z8, Z8, Z8, Z8, Z8, Z8, Z8, Z8, Z8, Z8, Z8, Z8, Z8, Z8, Z8, Z8, Z8], defers := [] }) (by kernel_rfl) (by kernel_rfl) (by kernel_rfl) (by kernel_rfl) (.cons keep_val (.cons keep_val (.cons keep_val (.cons keep_val (.cons keep_box (.cons keep_val (.cons keep_val (.cons keep_val (.cons keep_val (.cons keep_val (.cons keep_val (.cons keep_box AllKeep.nil)))))))))))) (.free free_val (.free free_val (.free free_val (.free free_val (.free free_box (.free free_val (.free free_val (.free free_val (.free free_val (.free free_val (.free free_val (.free free_box AllLoc.nil)))))))))))) (.cons own_box (.cons own_box AllOwn.nil)) (by kernel_rfl) ?_ ?_
 ·
  simp only [Z6]
  refine RulesL.cons (fun vs => { tmps := #[.string (bs l), Z8, .pointer (some ⟨g3, 0, none⟩), .int .i64 0, .int .u8 ((byteN l 31 : Nat) : Int), Z8, Z8, Z8, Z8, Z8, .string (bs l), .int .i64 ((l.length : Nat) : Int), .bool false, Z8, .string (bs l), .int .u8 ((byteN l 31 : Nat) : Int), Z8, Z8, Z8, Z8, Z8, Z8, Z8, Z8, Z8, Z8, Z8, Z8, Z8, Z8, Z8, Z8, Z8, Z8, Z8, Z8, Z8, Z8, Z8, Z8, Z8, Z8, Z8, Z8, Z8, Z8, Z8, Z8, Z8, Z8, Z8, Z8, Z8, Z8, Z8, Z8], defers := [] }) (by kernel_rfl) ?_ ?_
  ·
   intro vs gs W15 SW15 D K9 hK9
   replace M := M.sees SW15
   dsimp only at hK9
   dsimp only
   refine Z17 (v := .string (bs l)) (by rfl) (by rfl) (by rfl) ?_
   simp only [Z12, Z5]
   refine Z14 (Z22 ?_)
   have h8 := hK9 (.string (bs l))
   have h9 := h8 0 _ (sees_refl _) rfl (fun h => absurd h (by decide))
   simp only [Z12, Z5] at h9
   exact h9
  refine RulesL.cons (fun vs => { tmps := #[.string (bs l), Z8, .pointer (some ⟨g3, 0, none⟩), .int .i64 0, .int .u8 ((byteN l 31 : Nat) : Int), Z8, Z8, Z8, Z8, Z8, .string (bs l), .int .i64 ((l.length : Nat) : Int), .bool false, Z8, .string (bs l), .int .u8 ((byteN l 31 : Nat) : Int), Z8, vs 0, Z8, Z8, Z8, Z8, Z8, Z8, Z8, Z8, Z8, Z8, Z8, Z8, Z8, Z8, Z8, Z8, Z8, Z8, Z8, Z8, Z8, Z8, Z8, Z8, Z8, Z8, Z8, Z8, Z8, Z8, Z8, Z8, Z8, Z8, Z8, Z8, Z8, Z8], defers := [] }) (by kernel_rfl) ?_ ?_
  ·
   intro vs gs W16 SW16 D K9 hK9
   replace M := M.sees SW16
   obtain ⟨D0, _⟩ := D
   have e0 : vs 0 = .string (bs l) := D0
   dsimp only at hK9
   dsimp only
   rw [e0] at hK9 ⊢
   refine Z16 1 (by rfl) (fun Lk hLk => ?_)
   simp only [Z6, Z7]
   refine wpV_takeS (l := l) (hi := 31) (by rfl) rfl rfl rfl Tryd.underlying9 (by omega) ?_
   simp only [Z12, Z5]
   refine Z19 (hLk _ (fun w17 Sw17 => ?_))
   clear hLk Lk
   simp only [Z6, Z7]
   replace M := M.sees Sw17
   refine Z14 (Z22 ?_)
   have h8 := hK9 (.string (bs (l.take 31)))
   have h9 := h8 0 _ Sw17 rfl (fun h => absurd h (by decide))
   simp only [Z12, Z5] at h9
   exact h9
  refine RulesL.cons (fun vs => { tmps := #[.string (bs l), Z8, .pointer (some ⟨g3, 0, none⟩), .int .i64 0, .int .u8 ((byteN l 31 : Nat) : Int), Z8, Z8, Z8, Z8, Z8, .string (bs l), .int .i64 ((l.length : Nat) : Int), .bool false, Z8, .string (bs l), .int .u8 ((byteN l 31 : Nat) : Int), Z8, Z8, Z8, Z8, Z8, Z8, Z8, Z8, Z8, Z8, Z8, Z8, Z8, Z8, Z8, Z8, Z8, Z8, Z8, Z8, Z8, Z8, Z8, Z8, Z8, Z8, Z8, Z8, Z8, Z8, Z8, Z8, Z8, Z8, Z8, Z8, Z8, Z8, Z8, Z8], defers := [] }) (by kernel_rfl) ?_ ?_
  ·
   intro vs gs W18 SW18 D K9 hK9
   replace M := M.sees SW18
   dsimp only at hK9
   dsimp only
   refine Z17 (v := .int .u8 ((byteN l 31 : Nat) : Int)) (by rfl) (by rfl) (by rfl) ?_
   simp only [Z12, Z5]
   refine Z14 (Z22 ?_)
   have h8 := hK9 (.int .u8 ((byteN l 31 : Nat) : Int))
   have h9 := h8 0 _ (sees_refl _) rfl (fun h => absurd h (by decide))
   simp only [Z12, Z5] at h9
   exact h9
  refine RulesL.cons (fun vs => { tmps := #[.string (bs l), Z8, .pointer (some ⟨g3, 0, none⟩), .int .i64 0, .int .u8 ((byteN l 31 : Nat) : Int), Z8, Z8, Z8, Z8, Z8, .string (bs l), .int .i64 ((l.length : Nat) : Int), .bool false, Z8, .string (bs l), .int .u8 ((byteN l 31 : Nat) : Int), Z8, Z8, Z8, vs 2, Z8, Z8, Z8, Z8, Z8, Z8, Z8, Z8, Z8, Z8, Z8, Z8, Z8, Z8, Z8, Z8, Z8, Z8, Z8, Z8, Z8, Z8, Z8, Z8, Z8, Z8, Z8, Z8, Z8, Z8, Z8, Z8, Z8, Z8, Z8, Z8], defers := [] }) (by kernel_rfl) ?_ ?_
  ·
   intro vs gs W19 SW19 D K9 hK9
   replace M := M.sees SW19
   obtain ⟨D2, _⟩ := D
   have e2 : vs 2 = .int .u8 ((byteN l 31 : Nat) : Int) := D2
   dsimp only at hK9
   dsimp only
   rw [e2] at hK9 ⊢
   refine Z16 1 (by rfl) (fun Lk hLk => ?_)
   simp only [Z6, Z7]
   refine Z20 (v := .int .u8 ((byteN l 31 % 128 : Nat) : Int)) (by rfl) rfl rfl rfl (fun W => run_andNot (andNot_128 (byteN_lt l 31)) W) ?_
   simp only [Z12, Z5]
   refine Z19 (hLk _ (fun w20 Sw20 => ?_))
   clear hLk Lk
   simp only [Z6, Z7]
   replace M := M.sees Sw20
   refine Z14 (Z22 ?_)
   have h8 := hK9 (.int .u8 ((byteN l 31 % 128 : Nat) : Int))
   have h9 := h8 0 _ Sw20 rfl (fun h => absurd h (by decide))
   simp only [Z12, Z5] at h9
   exact h9
  refine RulesL.cons (fun vs => { tmps := #[.string (bs l), Z8, .pointer (some ⟨g3, 0, none⟩), .int .i64 0, .int .u8 ((byteN l 31 : Nat) : Int), Z8, Z8, Z8, Z8, Z8, .string (bs l), .int .i64 ((l.length : Nat) : Int), .bool false, Z8, .string (bs l), .int .u8 ((byteN l 31 : Nat) : Int), Z8, Z8, Z8, Z8, vs 3, Z8, Z8, Z8, Z8, Z8, Z8, Z8, Z8, Z8, Z8, Z8, Z8, Z8, Z8, Z8, Z8, Z8, Z8, Z8, Z8, Z8, Z8, Z8, Z8, Z8, Z8, Z8, Z8, Z8, Z8, Z8, Z8, Z8, Z8, Z8], defers := [] }) (by kernel_rfl) ?_ ?_
  ·
   intro vs gs W21 SW21 D K9 hK9
   replace M := M.sees SW21
   have Rg3_0 := M.r 0 0 rfl rfl
   have Rg3_4 := M.r 0 1 rfl rfl
   have Rg3_8 := M.r 0 2 rfl rfl
   have Rg3_12 := M.r 0 3 rfl rfl
   have Lg3 := M.lt 0 rfl
   have BB := M.below
   replace M := Mem.start W21
   obtain ⟨D3, _⟩ := D
   have e3 : vs 3 = .int .u8 ((byteN l 31 % 128 : Nat) : Int) := D3
   dsimp only at hK9
   dsimp only
   rw [e3] at hK9 ⊢
   refine wpL_rowN (vs := [.int .u8 ((byteN l 31 % 128 : Nat) : Int)]) (z := .int .u8 0) (bytes := 1) (by rfl) (by rfl) Tryd.underlying29 (by kernel_rfl) (by decide) (by kernel_rfl) (fun g22 w23 Sw23 Hg22 Bg22 => ?_)
   replace M := ((M.sees Sw23).add (N := 1) (cs := [.int .u8 ((byteN l 31 % 128 : Nat) : Int)]) (M.ge Hg22) (M.fresh Hg22) Bg22 rfl)
   clear Bg22
   simp only [Z12, Z5]
   refine Z14 (Z22 ?_)
   have h8 := hK9 (.slice (some ⟨g22, 0, none⟩) 1 1)
   have h9 := h8 g22 _ M.seesAll ⟨rfl, (M.ok _ (.head _)).up SW21⟩ (fun _ => (M.ok _ (.head _)).ge)
   simp only [Z12, Z5] at h9
   exact h9
  refine RulesL.cons (fun vs => { tmps := #[.string (bs l), Z8, .pointer (some ⟨g3, 0, none⟩), .int .i64 0, .int .u8 ((byteN l 31 : Nat) : Int), Z8, Z8, Z8, Z8, Z8, .string (bs l), .int .i64 ((l.length : Nat) : Int), .bool false, Z8, .string (bs l), .int .u8 ((byteN l 31 : Nat) : Int), Z8, Z8, Z8, Z8, Z8, vs 4, Z8, Z8, Z8, Z8, Z8, Z8, Z8, Z8, Z8, Z8, Z8, Z8, Z8, Z8, Z8, Z8, Z8, Z8, Z8, Z8, Z8, Z8, Z8, Z8, Z8, Z8, Z8, Z8, Z8, Z8, Z8, Z8, Z8, Z8], defers := [] }) (by kernel_rfl) ?_ ?_
  ·
   intro vs gs W24 SW24 D K9 hK9
   replace M := M.sees SW24
   have Rg3_0 := M.r 0 0 rfl rfl
   have Rg3_4 := M.r 0 1 rfl rfl
   have Rg3_8 := M.r 0 2 rfl rfl
   have Rg3_12 := M.r 0 3 rfl rfl
   have Lg3 := M.lt 0 rfl
   have BB := M.below
   replace M := Mem.start W24
   obtain ⟨D4, _⟩ := D
   obtain ⟨e4, Og25⟩ := D4
   generalize gs 4 = g25 at *
   replace e4 : vs 4 = .slice (some ⟨g25, 0, none⟩) 1 1 := e4
   have Rg25_0 := Og25.range (0, [.int .u8 ((byteN l 31 % 128 : Nat) : Int)]) (by simp only [List.mem_cons, true_or, or_true])
   have Lg25 := Og25.lt
   dsimp only at hK9
   dsimp only
   rw [e4] at hK9 ⊢
   refine Z16 1 (by rfl) (fun Lk hLk => ?_)
   simp only [Z6, Z7]
   rw [← bcells_one9 (v := byteN l 31 % 128) (by have := byteN_lt l 31; omega)] at Rg25_0
   refine wpV_b2s (l := [UInt8.ofNat (byteN l 31 % 128)]) (by rfl) rfl rfl rfl Tryd.underlying29 Tryd.underlying5 Tryd.underlying9 (M.oldR Rg25_0 Lg25) (M.oldL Lg25) ?_
   simp only [Z12, Z5]
   refine Z19 (hLk _ (fun w26 Sw26 => ?_))
   clear hLk Lk
   simp only [Z6, Z7]
   replace M := M.sees Sw26
   refine Z14 (Z22 ?_)
   have h8 := hK9 (.string (bs ([UInt8.ofNat (byteN l 31 % 128)])))
   have h9 := h8 0 _ M.seesAll rfl (fun h => absurd h (by decide))
   simp only [Z12, Z5] at h9
   exact h9
  refine RulesL.cons (fun vs => { tmps := #[.string (bs l), Z8, .pointer (some ⟨g3, 0, none⟩), .int .i64 0, .int .u8 ((byteN l 31 : Nat) : Int), Z8, Z8, Z8, Z8, Z8, .string (bs l), .int .i64 ((l.length : Nat) : Int), .bool false, Z8, .string (bs l), .int .u8 ((byteN l 31 : Nat) : Int), Z8, Z8, vs 1, Z8, Z8, Z8, vs 5, Z8, Z8, Z8, Z8, Z8, Z8, Z8, Z8, Z8, Z8, Z8, Z8, Z8, Z8, Z8, Z8, Z8, Z8, Z8, Z8, Z8, Z8, Z8, Z8, Z8, Z8, Z8, Z8, Z8, Z8, Z8, Z8, Z8], defers := [] }) (by kernel_rfl) ?_ ?_
  ·
   intro vs gs W27 SW27 D K9 hK9
   replace M := M.sees SW27
   obtain ⟨D1, D5, _⟩ := D
   have e1 : vs 1 = .string (bs (l.take 31)) := D1
   have e5 : vs 5 = .string (bs ([UInt8.ofNat (byteN l 31 % 128)])) := D5
   dsimp only at hK9
   dsimp only
   rw [e1, e5] at hK9 ⊢
   refine Z16 1 (by rfl) (fun Lk hLk => ?_)
   simp only [Z6, Z7]
   refine wpV_binS (v := .string (bs ((l.take 31) ++ ([UInt8.ofNat (byteN l 31 % 128)])))) (by rfl) rfl rfl rfl (run_add_bs _ _ _ (by simp [List.length_take, hl])) ?_
   simp only [Z12, Z5]
   refine Z19 (hLk _ (fun w28 Sw28 => ?_))
   clear hLk Lk
   simp only [Z6, Z7]
   replace M := M.sees Sw28
   refine Z14 (Z22 ?_)
   have h8 := hK9 (.string (bs ((l.take 31) ++ ([UInt8.ofNat (byteN l 31 % 128)]))))
   have h9 := h8 0 _ Sw28 rfl (fun h => absurd h (by decide))
   simp only [Z12, Z5] at h9
   exact h9
  refine RulesL.cons (fun vs => { tmps := #[.string (bs l), Z8, .pointer (some ⟨g3, 0, none⟩), .int .i64 0, .int .u8 ((byteN l 31 : Nat) : Int), Z8, Z8, Z8, Z8, Z8, .string (bs l), .int .i64 ((l.length : Nat) : Int), .bool false, Z8, .string (bs l), .int .u8 ((byteN l 31 : Nat) : Int), Z8, Z8, Z8, Z8, Z8, Z8, Z8, vs 6, Z8, Z8, Z8, Z8, Z8, Z8, Z8, Z8, Z8, Z8, Z8, Z8, Z8, Z8, Z8, Z8, Z8, Z8, Z8, Z8, Z8, Z8, Z8, Z8, Z8, Z8, Z8, Z8, Z8, Z8, Z8, Z8], defers := [] }) (by kernel_rfl) ?_ ?_
  ·
   intro vs gs W29 SW29 D K9 hK9
   replace M := M.sees SW29
   obtain ⟨D6, _⟩ := D
   have e6 : vs 6 = .string (bs ((l.take 31) ++ ([UInt8.ofNat (byteN l 31 % 128)]))) := D6
   dsimp only at hK9
   dsimp only
   rw [e6] at hK9 ⊢
   refine Z16 1 (by rfl) (fun Lk hLk => ?_)
   simp only [Z6, Z7]
   refine Z25 (v := .tuple #[fe 0, .int .i64 2]) (args := #[.string (bs ((l.take 31) ++ ([UInt8.ofNat (byteN l 31 % 128)])))]) (by rfl) rfl Tryd.func88 (by kernel_rfl) (by kernel_rfl) rfl (fun W hW => (by have h9 := fparse_c (yT l) W; rw [hN, hE] at h9; exact h9)) ?_
   simp only [Z12, Z5]
   refine Z19 (hLk _ (fun w30 Sw30 => ?_))
   clear hLk Lk
   simp only [Z6, Z7]
   replace M := M.sees Sw30
   refine Z14 (Z22 ?_)
   have h8 := hK9 (.tuple #[fe 0, .int .i64 2])
   have h9 := h8 0 _ Sw30 rfl (fun h => absurd h (by decide))
   simp only [Z12, Z5] at h9
   exact h9
  refine RulesL.cons (fun vs => { tmps := #[.string (bs l), Z8, .pointer (some ⟨g3, 0, none⟩), .int .i64 0, .int .u8 ((byteN l 31 : Nat) : Int), Z8, Z8, Z8, Z8, Z8, .string (bs l), .int .i64 ((l.length : Nat) : Int), .bool false, Z8, .string (bs l), .int .u8 ((byteN l 31 : Nat) : Int), Z8, Z8, Z8, Z8, Z8, Z8, Z8, Z8, vs 7, Z8, Z8, Z8, Z8, Z8, Z8, Z8, Z8, Z8, Z8, Z8, Z8, Z8, Z8, Z8, Z8, Z8, Z8, Z8, Z8, Z8, Z8, Z8, Z8, Z8, Z8, Z8, Z8, Z8, Z8, Z8], defers := [] }) (by kernel_rfl) ?_ ?_
  ·
   intro vs gs W31 SW31 D K9 hK9
   replace M := M.sees SW31
   obtain ⟨D7, _⟩ := D
   have e7 : vs 7 = .tuple #[fe 0, .int .i64 2] := D7
   dsimp only at hK9
   dsimp only
   rw [e7] at hK9 ⊢
   refine Z17 (v := .tuple #[fe 0, .int .i64 2]) (by rfl) (by rfl) (by rfl) ?_
   simp only [Z12, Z5]
   refine Z14 (Z22 ?_)
   have h8 := hK9 (.tuple #[fe 0, .int .i64 2])
   have h9 := h8 0 _ (sees_refl _) rfl (fun h => absurd h (by decide))
   simp only [Z12, Z5] at h9
   exact h9
  refine RulesL.cons (fun vs => { tmps := #[.string (bs l), Z8, .pointer (some ⟨g3, 0, none⟩), .int .i64 0, .int .u8 ((byteN l 31 : Nat) : Int), Z8, Z8, Z8, Z8, Z8, .string (bs l), .int .i64 ((l.length : Nat) : Int), .bool false, Z8, .string (bs l), .int .u8 ((byteN l 31 : Nat) : Int), vs 8, Z8, Z8, Z8, Z8, Z8, Z8, Z8, Z8, Z8, Z8, Z8, Z8, Z8, Z8, Z8, Z8, Z8, Z8, Z8, Z8, Z8, Z8, Z8, Z8, Z8, Z8, Z8, Z8, Z8, Z8, Z8, Z8, Z8, Z8, Z8, Z8, Z8, Z8, Z8], defers := [] }) (by kernel_rfl) ?_ ?_
  ·
   intro vs gs W32 SW32 D K9 hK9
   replace M := M.sees SW32
   obtain ⟨D8, _⟩ := D
   have e8 : vs 8 = .tuple #[fe 0, .int .i64 2] := D8
   dsimp only at hK9
   dsimp only
   rw [e8] at hK9 ⊢
   refine Z16 1 (by rfl) (fun Lk hLk => ?_)
   simp only [Z6, Z7]
   refine Z32 (v := fe 0) (by rfl) rfl rfl rfl ?_
   simp only [Z12, Z5]
   refine Z19 (hLk _ (fun w33 Sw33 => ?_))
   clear hLk Lk
   simp only [Z6, Z7]
   replace M := M.sees Sw33
   refine Z14 (Z22 ?_)
   have h8 := hK9 (fe 0)
   have h9 := h8 0 _ Sw33 rfl (fun h => absurd h (by decide))
   simp only [Z12, Z5] at h9
   exact h9
  refine RulesL.cons (fun vs => { tmps := #[.string (bs l), Z8, .pointer (some ⟨g3, 0, none⟩), .int .i64 0, .int .u8 ((byteN l 31 : Nat) : Int), Z8, Z8, Z8, Z8, Z8, .string (bs l), .int .i64 ((l.length : Nat) : Int), .bool false, Z8, .string (bs l), .int .u8 ((byteN l 31 : Nat) : Int), vs 8, Z8, Z8, Z8, Z8, Z8, Z8, Z8, Z8, Z8, Z8, Z8, Z8, Z8, Z8, Z8, Z8, Z8, Z8, Z8, Z8, Z8, Z8, Z8, Z8, Z8, Z8, Z8, Z8, Z8, Z8, Z8, Z8, Z8, Z8, Z8, Z8, Z8, Z8, Z8], defers := [] }) (by kernel_rfl) ?_ ?_
  ·
   intro vs gs W34 SW34 D K9 hK9
   replace M := M.sees SW34
   obtain ⟨D8, _⟩ := D
   have e8 : vs 8 = .tuple #[fe 0, .int .i64 2] := D8
   dsimp only at hK9
   dsimp only
   rw [e8] at hK9 ⊢
   refine Z16 1 (by rfl) (fun Lk hLk => ?_)
   simp only [Z6, Z7]
   refine Z32 (v := .int .i64 2) (by rfl) rfl rfl rfl ?_
   simp only [Z12, Z5]
   refine Z19 (hLk _ (fun w35 Sw35 => ?_))
   clear hLk Lk
   simp only [Z6, Z7]
   replace M := M.sees Sw35
   refine Z14 (Z22 ?_)
   have h8 := hK9 (.int .i64 2)
   have h9 := h8 0 _ Sw35 rfl (fun h => absurd h (by decide))
   simp only [Z12, Z5] at h9
   exact h9
  refine RulesL.cons (fun vs => { tmps := #[.string (bs l), Z8, .pointer (some ⟨g3, 0, none⟩), .int .i64 0, .int .u8 ((byteN l 31 : Nat) : Int), Z8, Z8, Z8, Z8, Z8, .string (bs l), .int .i64 ((l.length : Nat) : Int), .bool false, Z8, .string (bs l), .int .u8 ((byteN l 31 : Nat) : Int), Z8, Z8, Z8, Z8, Z8, Z8, Z8, Z8, Z8, Z8, Z8, Z8, Z8, Z8, Z8, Z8, Z8, Z8, Z8, Z8, Z8, Z8, Z8, Z8, Z8, Z8, Z8, Z8, Z8, Z8, Z8, Z8, Z8, Z8, Z8, Z8, Z8, Z8, Z8, Z8], defers := [] }) (by kernel_rfl) ?_ ?_
  ·
   intro vs gs W36 SW36 D K9 hK9
   replace M := M.sees SW36
   have Rg3_0 := M.r 0 0 rfl rfl
   have Rg3_4 := M.r 0 1 rfl rfl
   have Rg3_8 := M.r 0 2 rfl rfl
   have Rg3_12 := M.r 0 3 rfl rfl
   have Lg3 := M.lt 0 rfl
   have BB := M.below
   replace M := Mem.start W36
   dsimp only at hK9
   dsimp only
   refine Z36 (t := 86) (cs := [.int .u64 0, .int .u64 0, .int .u64 0, .int .u64 0]) (by rfl) (fun W => ?_) (fun g37 w38 Sw38 Hg37 Bg37 => ?_)
   ·
    go_simp
   replace M := ((M.sees Sw38).add (N := 4) (cs := [.int .u64 0, .int .u64 0, .int .u64 0, .int .u64 0]) (M.ge Hg37) (M.fresh Hg37) Bg37 rfl)
   clear Bg37
   simp only [Z12, Z5]
   refine Z14 (Z22 ?_)
   have h8 := hK9 (.pointer (some ⟨g37, 0, none⟩))
   have h9 := h8 g37 _ M.seesAll ⟨rfl, (M.ok _ (.head _)).up SW36⟩ (fun _ => (M.ok _ (.head _)).ge)
   simp only [Z12, Z5] at h9
   exact h9
  exact RulesL.nil
 intro vs gs W39 SW39 D A9
 obtain ⟨D0, D1, D2, D3, D4, D5, D6, D7, D8, D9, D10, D11, _⟩ := (show DepRel _ vs gs W39 [0, 1, 2, 3, 4, 5, 6, 7, 8, 9, 10, 11] from D)
 have n4_11 : gs 4 ≠ gs 11 := A9 4 11 (by decide) (by decide) (by decide) (by decide) (by decide)
 clear A9 D
 have e0 : vs 0 = .string (bs l) := D0
 have e1 : vs 1 = .string (bs (l.take 31)) := D1
 have e2 : vs 2 = .int .u8 ((byteN l 31 : Nat) : Int) := D2
 have e3 : vs 3 = .int .u8 ((byteN l 31 % 128 : Nat) : Int) := D3
 obtain ⟨e4, Og40⟩ := D4
 generalize gs 4 = g40 at *
 replace e4 : vs 4 = .slice (some ⟨g40, 0, none⟩) 1 1 := e4
 have e5 : vs 5 = .string (bs ([UInt8.ofNat (byteN l 31 % 128)])) := D5
 have e6 : vs 6 = .string (bs ((l.take 31) ++ ([UInt8.ofNat (byteN l 31 % 128)]))) := D6
 have e7 : vs 7 = .tuple #[fe 0, .int .i64 2] := D7
 have e8 : vs 8 = .tuple #[fe 0, .int .i64 2] := D8
 have e9 : vs 9 = fe 0 := D9
 have e10 : vs 10 = .int .i64 2 := D10
 obtain ⟨e11, Og41⟩ := D11
 generalize gs 11 = g41 at *
 replace e11 : vs 11 = .pointer (some ⟨g41, 0, none⟩) := e11
 replace M := M.addOks SW39 [⟨g40, 1, [(0, [.int .u8 ((byteN l 31 % 128 : Nat) : Int)])]⟩, ⟨g41, 4, [(0, [.int .u64 0, .int .u64 0, .int .u64 0, .int .u64 0])]⟩] (List.forall_mem_cons.2 ⟨Og40, (List.forall_mem_cons.2 ⟨Og41, (fun _ h => nomatch h)⟩)⟩) (.cons (List.forall_mem_cons.2 ⟨n4_11, (fun _ h => nomatch h)⟩) (.cons (fun _ h => nomatch h) .nil))
 simp only [List.cons_append, List.nil_append] at M
 dsimp only
 simp only [e0, e1, e2, e3, e4, e5, e6, e7, e8, e9, e10, e11, Z7]
 refine Z33 (g := g41) (off := 0) (n := 4) (cs := fel 0) (by rfl) (by rfl) (by rfl) (by rfl) (by rfl) (M.t 1 rfl) (by simp [flen]) info86 (fel_one _) (fun w42 P R T => ?_)
 replace M := M.putS 1 0 rfl P R T rfl ⟨.inl rfl, trivial⟩
 simp only [Z5] at M
 refine Z18 (v := .int .i64 2) (by rfl) (by rfl) (by rfl) ?_
 simp only [Z12, Z5]
 refine Z14 (Z15 ?_)
 refine hK12 _ _ ?_
 refine Z9 (fun K43 hK43 => ?_)
 refine Z9 (fun K44 hK44 => ?_)
 refine Z13 ?_
 refine Z17 (v := .int .i64 2) (by rfl) (by rfl) (by rfl) ?_
 simp only [Z12, Z5]
 refine Z16 1 (by rfl) (fun Lk hLk => ?_)
 simp only [Z6, Z7]
 refine Z20 (v := .bool true) (by rfl) rfl rfl rfl (fun W => run_neq _ _ _ _ W) ?_
 simp only [Z12, Z5]
 refine Z19 (hLk _ (fun w46 Sw46 => ?_))
 clear hLk Lk
 simp only [Z6, Z7]
 replace M := M.sees Sw46
 refine Z14 (Z15 ?_)
 refine hK44 _ _ ?_
 refine Z10 rfl ?_
 refine Z9 (fun K47 hK47 => ?_)
 refine Z13 ?_
 refine Z16 1 (by rfl) (fun Lk hLk => ?_)
 simp only [Z6, Z7]
 refine Z24 (v := .agg ([.int .u64 0, .int .u64 0, .int .u64 0, .int .u64 0, .int .u64 0, .int .u64 0, .int .u64 0, .int .u64 0, .int .u64 0, .int .u64 0, .int .u64 0, .int .u64 0, .int .u64 0, .int .u64 0, .int .u64 0, .int .u64 0]).toArray) (by rfl) (by rfl) (fun W hW => ?_) ?_
 ·
  (unfold RunsVal; kernel_rfl)
 simp only [Z12, Z5]
 refine Z19 (hLk _ (fun w49 Sw49 => ?_))
 clear hLk Lk
 simp only [Z6, Z7]
 replace M := M.sees Sw49
 refine Z33 (g := g3) (off := 0) (n := 16) (cs := [.int .u64 0, .int .u64 0, .int .u64 0, .int .u64 0, .int .u64 0, .int .u64 0, .int .u64 0, .int .u64 0, .int .u64 0, .int .u64 0, .int .u64 0, .int .u64 0, .int .u64 0, .int .u64 0, .int .u64 0, .int .u64 0]) (by rfl) (by rfl) (by rfl) (by rfl) (by rfl) (M.t 2 rfl) (by simp [flen]) info88 (by simp [fone, Value.oneCell']) (fun w50 P R T => ?_)
 replace M := M.put (segs' := [(0, [.int .u64 0, .int .u64 0, .int .u64 0, .int .u64 0]), (4, [.int .u64 0, .int .u64 0, .int .u64 0, .int .u64 0]), (8, [.int .u64 0, .int .u64 0, .int .u64 0, .int .u64 0]), (12, [.int .u64 0, .int .u64 0, .int .u64 0, .int .u64 0])]) 2 rfl P T (SegsOf.at R ⟨rfl, rfl, rfl, rfl, trivial⟩)
 simp only [Z5] at M
 refine Z18 (v := .int .i64 10) (by rfl) (by rfl) (by rfl) ?_
 simp only [Z12, Z5]
 refine Z14 (Z15 ?_)
 refine hK47 _ _ ?_
 refine wp_ret ?_
 repeat (first | with_reducible refine then_ret ?_ | with_reducible refine inblock_ret ?_)
 refine bodyPost_ret (v := .tuple #[.agg ([.int .u64 0, .int .u64 0, .int .u64 0, .int .u64 0] ++ [.int .u64 0, .int .u64 0, .int .u64 0, .int .u64 0] ++ [.int .u64 0, .int .u64 0, .int .u64 0, .int .u64 0] ++ [.int .u64 0, .int .u64 0, .int .u64 0, .int .u64 0] : List Value).toArray, .int .i64 10]) (res2 rfl (.cell (by rfl) (run_loadVar_mid _ _ _ _ ([.int .u64 0, .int .u64 0, .int .u64 0, .int .u64 0] ++ [.int .u64 0, .int .u64 0, .int .u64 0, .int .u64 0] ++ [.int .u64 0, .int .u64 0, .int .u64 0, .int .u64 0] ++ [.int .u64 0, .int .u64 0, .int .u64 0, .int .u64 0]) _ (range_join (range_join (range_join (M.r 2 0 rfl rfl) (M.r 2 1 rfl rfl) (by simp [flen])) (M.r 2 2 rfl rfl) (by simp [flen])) (M.r 2 3 rfl rfl) (by simp [flen])) Tryd.underlying88 rfl info88)) (.tmp (by rfl))) rfl ?_
 have BE := M.below
 exact ⟨rfl, BE⟩
set_option maxHeartbeats 2000000 in
theorem Parse_go {l : List UInt8} {x y : Nat} {b : Bool} {w : World} (hl : l.length = 32) (hx : x < 2 ^ 256) (hy : y < 2 ^ 256) (hN : fparseN (yT l) = y) (hE : fparseE (yT l) = 0) (hr : rootX y = (x, b)) :
  Calls Tryd.prog 51 #[.string (bs l)] w fun e w' => e = .returned (.tuple #[.agg (fel (parsP x y b (decide (byteN l 31 / 128 * 128 ≠ 0))).x ++ fel (parsP x y b (decide (byteN l 31 / 128 * 128 ≠ 0))).y ++ fel (parsP x y b (decide (byteN l 31 / 128 * 128 ≠ 0))).z ++ fel (parsP x y b (decide (byteN l 31 / 128 * 128 ≠ 0))).t : List Value).toArray, .int .i64 (parsE x b (decide (byteN l 31 / 128 * 128 ≠ 0)))]) ∧ Below w.heap.size w w' := by
 go_enter Tryd.func51, Tryd.ntmps51
 have M := Mem.start w
 refine Z9 (fun K1 hK1 => ?_)
 refine Z13 ?_
 refine Z36 (t := 88) (cs := [.int .u64 0, .int .u64 0, .int .u64 0, .int .u64 0, .int .u64 0, .int .u64 0, .int .u64 0, .int .u64 0, .int .u64 0, .int .u64 0, .int .u64 0, .int .u64 0, .int .u64 0, .int .u64 0, .int .u64 0, .int .u64 0]) (by rfl) (fun W => ?_) (fun g3 w4 Sw4 Hg3 Bg3 => ?_)
 ·
  go_simp
 replace M := ((M.sees Sw4).addS (N := 16) (cs := [.int .u64 0, .int .u64 0, .int .u64 0, .int .u64 0, .int .u64 0, .int .u64 0, .int .u64 0, .int .u64 0, .int .u64 0, .int .u64 0, .int .u64 0, .int .u64 0, .int .u64 0, .int .u64 0, .int .u64 0, .int .u64 0]) (segs := [(0, [.int .u64 0, .int .u64 0, .int .u64 0, .int .u64 0]), (4, [.int .u64 0, .int .u64 0, .int .u64 0, .int .u64 0]), (8, [.int .u64 0, .int .u64 0, .int .u64 0, .int .u64 0]), (12, [.int .u64 0, .int .u64 0, .int .u64 0, .int .u64 0])]) (M.ge Hg3) (M.fresh Hg3) Bg3 rfl ⟨rfl, rfl, rfl, rfl, trivial⟩)
 clear Bg3
 simp only [Z12, Z5]
 refine Z18 (v := .int .i64 0) (by rfl) (by rfl) (by rfl) ?_
 simp only [Z12, Z5]
 refine Z14 (Z15 ?_)
 refine hK1 _ _ ?_
 refine Z9 (fun K5 hK5 => ?_)
 refine Z9 (fun K6 hK6 => ?_)
 refine Z13 ?_
 refine Z17 (v := .string (bs l)) (by rfl) (by rfl) (by rfl) ?_
 simp only [Z12, Z5]
 refine Z16 2 (by rfl) (fun Lk hLk => ?_)
 simp only [Z6, Z7]
 refine wpV_lenS (by rfl) rfl rfl rfl Tryd.underlying9 ?_
 simp only [Z12, Z5]
 refine Z20 (v := .bool false) (by rfl) rfl rfl rfl (fun W => (run_neqN l.length 32 _ _ W).trans (by rw [(decide_eq_false (fun h => h hl))])) ?_
 simp only [Z12, Z5]
 refine Z19 (hLk _ (fun w8 Sw8 => ?_))
 clear hLk Lk
 simp only [Z6, Z7]
 replace M := M.sees Sw8
 refine Z14 (Z15 ?_)
 refine hK6 _ _ ?_
 refine Z11 rfl ?_
 refine wp_skip ?_
 refine hK5 _ _ ?_
 refine Z9 (fun K9 hK9 => ?_)
 refine Z13 ?_
 refine Z17 (v := .string (bs l)) (by rfl) (by rfl) (by rfl) ?_
 simp only [Z12, Z5]
 refine Z16 1 (by rfl) (fun Lk hLk => ?_)
 simp only [Z6, Z7]
 refine wpV_indexb (n := 31) (by omega) (by rfl) rfl rfl rfl Tryd.underlying9 ?_
 simp only [Z12, Z5]
 refine Z19 (hLk _ (fun w11 Sw11 => ?_))
 clear hLk Lk
 simp only [Z6, Z7]
 replace M := M.sees Sw11
 refine Z18 (v := .int .u8 ((byteN l 31 : Nat) : Int)) (by rfl) (by rfl) (by rfl) ?_
 simp only [Z12, Z5]
 refine Z14 (Z15 ?_)
 refine hK9 _ _ ?_
 refine Z9 (fun K12 hK12 => ?_)
 refine wp_region_addsF 12 [10] [4, 11] [ValRel (.string (bs l)), ValRel (.string (bs (l.take 31))), ValRel (.int .u8 ((byteN l 31 : Nat) : Int)), ValRel (.int .u8 ((byteN l 31 % 128 : Nat) : Int)), BoxRel w11 (fun gA => .slice (some ⟨gA, 0, none⟩) 1 1) 1 [(0, [.int .u8 ((byteN l 31 % 128 : Nat) : Int)])], ValRel (.string (bs ([UInt8.ofNat (byteN l 31 % 128)]))), ValRel (.string (bs ((l.take 31) ++ ([UInt8.ofNat (byteN l 31 % 128)])))), ValRel (.tuple #[fe y, .int .i64 0]), ValRel (.tuple #[fe y, .int .i64 0]), ValRel (fe y), ValRel (.int .i64 0), BoxRel w11 (fun gA => .pointer (some ⟨gA, 0, none⟩)) 4 [(0, [.int .u64 0, .int .u64 0, .int .u64 0, .int .u64 0])]] [[], [0], [], [2], [3], [4], [1, 5], [6], [7], [8], [8], []] (fun vs => { tmps := #[.string (bs l), Z8, .pointer (some ⟨g3, 0, none⟩), .int .i64 0, .int .u8 ((byteN l 31 : Nat) : Int), vs 11, Z8, Z8, Z8, Z8, .string (bs l), .int .i64 ((l.length : Nat) : Int), .bool false, Z8, .string (bs l), .int .u8 ((byteN l 31 : Nat) : Int), vs 8, vs 0, vs 1, vs 2, vs 3, vs 4, vs 5, vs 6, vs 7, vs 9, vs 10, Z8, Z8, Z8, Z8, Z8, Z8, Z8, Z8, Z8, Z8, Z8, Z8, Z8, Z8, Z8, Z8, Z8, Z8, Z8, Z8, Z8, Z8, Z8, Z8, Z8, Z8, Z8, Z8, Z8], defers := [] }) (by kernel_rfl) (by kernel_rfl) (by kernel_rfl) (by kernel_rfl) (.cons keep_val (.cons keep_val (.cons keep_val (.cons keep_val (.cons keep_box (.cons keep_val (.cons keep_val (.cons keep_val (.cons keep_val (.cons keep_val (.cons keep_val (.cons keep_box AllKeep.nil)))))))))))) (.free free_val (.free free_val (.free free_val (.free free_val (.free free_box (.free free_val (.free free_val (.free free_val (.free free_val (.free free_val (.free free_val (.free free_box AllLoc.nil)))))))))))) (.cons own_box (.cons own_box AllOwn.nil)) (by kernel_rfl) ?_ ?_
 ·
  simp only [Z6]
  refine RulesL.cons (fun vs => { tmps := #[.string (bs l), Z8, .pointer (some ⟨g3, 0, none⟩), .int .i64 0, .int .u8 ((byteN l 31 : Nat) : Int), Z8, Z8, Z8, Z8, Z8, .string (bs l), .int .i64 ((l.length : Nat) : Int), .bool false, Z8, .string (bs l), .int .u8 ((byteN l 31 : Nat) : Int), Z8, Z8, Z8, Z8, Z8, Z8, Z8, Z8, Z8, Z8, Z8, Z8, Z8, Z8, Z8, Z8, Z8, Z8, Z8, Z8, Z8, Z8, Z8, Z8, Z8, Z8, Z8, Z8, Z8, Z8, Z8, Z8, Z8, Z8, Z8, Z8, Z8, Z8, Z8, Z8], defers := [] }) (by kernel_rfl) ?_ ?_
  ·
   intro vs gs W15 SW15 D K9 hK9
   replace M := M.sees SW15
   dsimp only at hK9
   dsimp only
   refine Z17 (v := .string (bs l)) (by rfl) (by rfl) (by rfl) ?_
   simp only [Z12, Z5]
   refine Z14 (Z22 ?_)
   have h8 := hK9 (.string (bs l))
   have h9 := h8 0 _ (sees_refl _) rfl (fun h => absurd h (by decide))
   simp only [Z12, Z5] at h9
   exact h9
  refine RulesL.cons (fun vs => { tmps := #[.string (bs l), Z8, .pointer (some ⟨g3, 0, none⟩), .int .i64 0, .int .u8 ((byteN l 31 : Nat) : Int), Z8, Z8, Z8, Z8, Z8, .string (bs l), .int .i64 ((l.length : Nat) : Int), .bool false, Z8, .string (bs l), .int .u8 ((byteN l 31 : Nat) : Int), Z8, vs 0, Z8, Z8, Z8, Z8, Z8, Z8, Z8, Z8, Z8, Z8, Z8, Z8, Z8, Z8, Z8, Z8, Z8, Z8, Z8, Z8, Z8, Z8, Z8, Z8, Z8, Z8, Z8, Z8, Z8, Z8, Z8, Z8, Z8, Z8, Z8, Z8, Z8, Z8], defers := [] }) (by kernel_rfl) ?_ ?_
  ·
   intro vs gs W16 SW16 D K9 hK9
   replace M := M.sees SW16
   obtain ⟨D0, _⟩ := D
   have e0 : vs 0 = .string (bs l) := D0
   dsimp only at hK9
   dsimp only
   rw [e0] at hK9 ⊢
   refine Z16 1 (by rfl) (fun Lk hLk => ?_)
   simp only [Z6, Z7]
   refine wpV_takeS (l := l) (hi := 31) (by rfl) rfl rfl rfl Tryd.underlying9 (by omega) ?_
   simp only [Z12, Z5]
   refine Z19 (hLk _ (fun w17 Sw17 => ?_))
   clear hLk Lk
   simp only [Z6, Z7]
   replace M := M.sees Sw17
   refine Z14 (Z22 ?_)
   have h8 := hK9 (.string (bs (l.take 31)))
   have h9 := h8 0 _ Sw17 rfl (fun h => absurd h (by decide))
   simp only [Z12, Z5] at h9
   exact h9
  refine RulesL.cons (fun vs => { tmps := #[.string (bs l), Z8, .pointer (some ⟨g3, 0, none⟩), .int .i64 0, .int .u8 ((byteN l 31 : Nat) : Int), Z8, Z8, Z8, Z8, Z8, .string (bs l), .int .i64 ((l.length : Nat) : Int), .bool false, Z8, .string (bs l), .int .u8 ((byteN l 31 : Nat) : Int), Z8, Z8, Z8, Z8, Z8, Z8, Z8, Z8, Z8, Z8, Z8, Z8, Z8, Z8, Z8, Z8, Z8, Z8, Z8, Z8, Z8, Z8, Z8, Z8, Z8, Z8, Z8, Z8, Z8, Z8, Z8, Z8, Z8, Z8, Z8, Z8, Z8, Z8, Z8, Z8], defers := [] }) (by kernel_rfl) ?_ ?_
  ·
   intro vs gs W18 SW18 D K9 hK9
   replace M := M.sees SW18
   dsimp only at hK9
   dsimp only
   refine Z17 (v := .int .u8 ((byteN l 31 : Nat) : Int)) (by rfl) (by rfl) (by rfl) ?_
   simp only [Z12, Z5]
   refine Z14 (Z22 ?_)
   have h8 := hK9 (.int .u8 ((byteN l 31 : Nat) : Int))
   have h9 := h8 0 _ (sees_refl _) rfl (fun h => absurd h (by decide))
   simp only [Z12, Z5] at h9
   exact h9
  refine RulesL.cons (fun vs => { tmps := #[.string (bs l), Z8, .pointer (some ⟨g3, 0, none⟩), .int .i64 0, .int .u8 ((byteN l 31 : Nat) : Int), Z8, Z8, Z8, Z8, Z8, .string (bs l), .int .i64 ((l.length : Nat) : Int), .bool false, Z8, .string (bs l), .int .u8 ((byteN l 31 : Nat) : Int), Z8, Z8, Z8, vs 2, Z8, Z8, Z8, Z8, Z8, Z8, Z8, Z8, Z8, Z8, Z8, Z8, Z8, Z8, Z8, Z8, Z8, Z8, Z8, Z8, Z8, Z8, Z8, Z8, Z8, Z8, Z8, Z8, Z8, Z8, Z8, Z8, Z8, Z8, Z8, Z8], defers := [] }) (by kernel_rfl) ?_ ?_
  ·
   intro vs gs W19 SW19 D K9 hK9
   replace M := M.sees SW19
   obtain ⟨D2, _⟩ := D
   have e2 : vs 2 = .int .u8 ((byteN l 31 : Nat) : Int) := D2
   dsimp only at hK9
   dsimp only
   rw [e2] at hK9 ⊢
   refine Z16 1 (by rfl) (fun Lk hLk => ?_)
   simp only [Z6, Z7]
   refine Z20 (v := .int .u8 ((byteN l 31 % 128 : Nat) : Int)) (by rfl) rfl rfl rfl (fun W => run_andNot (andNot_128 (byteN_lt l 31)) W) ?_
   simp only [Z12, Z5]
   refine Z19 (hLk _ (fun w20 Sw20 => ?_))
   clear hLk Lk
   simp only [Z6, Z7]
   replace M := M.sees Sw20
   refine Z14 (Z22 ?_)
   have h8 := hK9 (.int .u8 ((byteN l 31 % 128 : Nat) : Int))
   have h9 := h8 0 _ Sw20 rfl (fun h => absurd h (by decide))
   simp only [Z12, Z5] at h9
   exact h9
  refine RulesL.cons (fun vs => { tmps := #[.string (bs l), Z8, .pointer (some ⟨g3, 0, none⟩), .int .i64 0, .int .u8 ((byteN l 31 : Nat) : Int), Z8, Z8, Z8, Z8, Z8, .string (bs l), .int .i64 ((l.length : Nat) : Int), .bool false, Z8, .string (bs l), .int .u8 ((byteN l 31 : Nat) : Int), Z8, Z8, Z8, Z8, vs 3, Z8, Z8, Z8, Z8, Z8, Z8, Z8, Z8, Z8, Z8, Z8, Z8, Z8, Z8, Z8, Z8, Z8, Z8, Z8, Z8, Z8, Z8, Z8, Z8, Z8, Z8, Z8, Z8, Z8, Z8, Z8, Z8, Z8, Z8, Z8], defers := [] }) (by kernel_rfl) ?_ ?_
  ·
   intro vs gs W21 SW21 D K9 hK9
   replace M := M.sees SW21
   have Rg3_0 := M.r 0 0 rfl rfl
   have Rg3_4 := M.r 0 1 rfl rfl
   have Rg3_8 := M.r 0 2 rfl rfl
   have Rg3_12 := M.r 0 3 rfl rfl
   have Lg3 := M.lt 0 rfl
   have BB := M.below
   replace M := Mem.start W21
   obtain ⟨D3, _⟩ := D
   have e3 : vs 3 = .int .u8 ((byteN l 31 % 128 : Nat) : Int) := D3
   dsimp only at hK9
   dsimp only
   rw [e3] at hK9 ⊢
   refine wpL_rowN (vs := [.int .u8 ((byteN l 31 % 128 : Nat) : Int)]) (z := .int .u8 0) (bytes := 1) (by rfl) (by rfl) Tryd.underlying29 (by kernel_rfl) (by decide) (by kernel_rfl) (fun g22 w23 Sw23 Hg22 Bg22 => ?_)
   replace M := ((M.sees Sw23).add (N := 1) (cs := [.int .u8 ((byteN l 31 % 128 : Nat) : Int)]) (M.ge Hg22) (M.fresh Hg22) Bg22 rfl)
   clear Bg22
   simp only [Z12, Z5]
   refine Z14 (Z22 ?_)
   have h8 := hK9 (.slice (some ⟨g22, 0, none⟩) 1 1)
   have h9 := h8 g22 _ M.seesAll ⟨rfl, (M.ok _ (.head _)).up SW21⟩ (fun _ => (M.ok _ (.head _)).ge)
   simp only [Z12, Z5] at h9
   exact h9
  refine RulesL.cons (fun vs => { tmps := #[.string (bs l), Z8, .pointer (some ⟨g3, 0, none⟩), .int .i64 0, .int .u8 ((byteN l 31 : Nat) : Int), Z8, Z8, Z8, Z8, Z8, .string (bs l), .int .i64 ((l.length : Nat) : Int), .bool false, Z8, .string (bs l), .int .u8 ((byteN l 31 : Nat) : Int), Z8, Z8, Z8, Z8, Z8, vs 4, Z8, Z8, Z8, Z8, Z8, Z8, Z8, Z8, Z8, Z8, Z8, Z8, Z8, Z8, Z8, Z8, Z8, Z8, Z8, Z8, Z8, Z8, Z8, Z8, Z8, Z8, Z8, Z8, Z8, Z8, Z8, Z8, Z8, Z8], defers := [] }) (by kernel_rfl) ?_ ?_
  ·
   intro vs gs W24 SW24 D K9 hK9
   replace M := M.sees SW24
   have Rg3_0 := M.r 0 0 rfl rfl
   have Rg3_4 := M.r 0 1 rfl rfl
   have Rg3_8 := M.r 0 2 rfl rfl
   have Rg3_12 := M.r 0 3 rfl rfl
   have Lg3 := M.lt 0 rfl
   have BB := M.below
   replace M := Mem.start W24
   obtain ⟨D4, _⟩ := D
   obtain ⟨e4, Og25⟩ := D4
   generalize gs 4 = g25 at *
   replace e4 : vs 4 = .slice (some ⟨g25, 0, none⟩) 1 1 := e4
   have Rg25_0 := Og25.range (0, [.int .u8 ((byteN l 31 % 128 : Nat) : Int)]) (by simp only [List.mem_cons, true_or, or_true])
   have Lg25 := Og25.lt
   dsimp only at hK9
   dsimp only
   rw [e4] at hK9 ⊢
   refine Z16 1 (by rfl) (fun Lk hLk => ?_)
   simp only [Z6, Z7]
   rw [← bcells_one9 (v := byteN l 31 % 128) (by have := byteN_lt l 31; omega)] at Rg25_0
   refine wpV_b2s (l := [UInt8.ofNat (byteN l 31 % 128)]) (by rfl) rfl rfl rfl Tryd.underlying29 Tryd.underlying5 Tryd.underlying9 (M.oldR Rg25_0 Lg25) (M.oldL Lg25) ?_
   simp only [Z12, Z5]
   refine Z19 (hLk _ (fun w26 Sw26 => ?_))
   clear hLk Lk
   simp only [Z6, Z7]
   replace M := M.sees Sw26
   refine Z14 (Z22 ?_)
   have h8 := hK9 (.string (bs ([UInt8.ofNat (byteN l 31 % 128)])))
   have h9 := h8 0 _ M.seesAll rfl (fun h => absurd h (by decide))
   simp only [Z12, Z5] at h9
   exact h9
  refine RulesL.cons (fun vs => { tmps := #[.string (bs l), Z8, .pointer (some ⟨g3, 0, none⟩), .int .i64 0, .int .u8 ((byteN l 31 : Nat) : Int), Z8, Z8, Z8, Z8, Z8, .string (bs l), .int .i64 ((l.length : Nat) : Int), .bool false, Z8, .string (bs l), .int .u8 ((byteN l 31 : Nat) : Int), Z8, Z8, vs 1, Z8, Z8, Z8, vs 5, Z8, Z8, Z8, Z8, Z8, Z8, Z8, Z8, Z8, Z8, Z8, Z8, Z8, Z8, Z8, Z8, Z8, Z8, Z8, Z8, Z8, Z8, Z8, Z8, Z8, Z8, Z8, Z8, Z8, Z8, Z8, Z8, Z8], defers := [] }) (by kernel_rfl) ?_ ?_
  ·
   intro vs gs W27 SW27 D K9 hK9
   replace M := M.sees SW27
   obtain ⟨D1, D5, _⟩ := D
   have e1 : vs 1 = .string (bs (l.take 31)) := D1
   have e5 : vs 5 = .string (bs ([UInt8.ofNat (byteN l 31 % 128)])) := D5
   dsimp only at hK9
   dsimp only
   rw [e1, e5] at hK9 ⊢
   refine Z16 1 (by rfl) (fun Lk hLk => ?_)
   simp only [Z6, Z7]
   refine wpV_binS (v := .string (bs ((l.take 31) ++ ([UInt8.ofNat (byteN l 31 % 128)])))) (by rfl) rfl rfl rfl (run_add_bs _ _ _ (by simp [List.length_take, hl])) ?_
   simp only [Z12, Z5]
   refine Z19 (hLk _ (fun w28 Sw28 => ?_))
   clear hLk Lk
   simp only [Z6, Z7]
   replace M := M.sees Sw28
   refine Z14 (Z22 ?_)
   have h8 := hK9 (.string (bs ((l.take 31) ++ ([UInt8.ofNat (byteN l 31 % 128)]))))
   have h9 := h8 0 _ Sw28 rfl (fun h => absurd h (by decide))
   simp only [Z12, Z5] at h9
   exact h9
  refine RulesL.cons (fun vs => { tmps := #[.string (bs l), Z8, .pointer (some ⟨g3, 0, none⟩), .int .i64 0, .int .u8 ((byteN l 31 : Nat) : Int), Z8, Z8, Z8, Z8, Z8, .string (bs l), .int .i64 ((l.length : Nat) : Int), .bool false, Z8, .string (bs l), .int .u8 ((byteN l 31 : Nat) : Int), Z8, Z8, Z8, Z8, Z8, Z8, Z8, vs 6, Z8, Z8, Z8, Z8, Z8, Z8, Z8, Z8, Z8, Z8, Z8, Z8, Z8, Z8, Z8, Z8, Z8, Z8, Z8, Z8, Z8, Z8, Z8, Z8, Z8, Z8, Z8, Z8, Z8, Z8, Z8, Z8], defers := [] }) (by kernel_rfl) ?_ ?_
  ·
   intro vs gs W29 SW29 D K9 hK9
   replace M := M.sees SW29
   obtain ⟨D6, _⟩ := D
   have e6 : vs 6 = .string (bs ((l.take 31) ++ ([UInt8.ofNat (byteN l 31 % 128)]))) := D6
   dsimp only at hK9
   dsimp only
   rw [e6] at hK9 ⊢
   refine Z16 1 (by rfl) (fun Lk hLk => ?_)
   simp only [Z6, Z7]
   refine Z25 (v := .tuple #[fe y, .int .i64 0]) (args := #[.string (bs ((l.take 31) ++ ([UInt8.ofNat (byteN l 31 % 128)])))]) (by rfl) rfl Tryd.func88 (by kernel_rfl) (by kernel_rfl) rfl (fun W hW => (by have h9 := fparse_c (yT l) W; rw [hN, hE] at h9; exact h9)) ?_
   simp only [Z12, Z5]
   refine Z19 (hLk _ (fun w30 Sw30 => ?_))
   clear hLk Lk
   simp only [Z6, Z7]
   replace M := M.sees Sw30
   refine Z14 (Z22 ?_)
   have h8 := hK9 (.tuple #[fe y, .int .i64 0])
   have h9 := h8 0 _ Sw30 rfl (fun h => absurd h (by decide))
   simp only [Z12, Z5] at h9
   exact h9
  refine RulesL.cons (fun vs => { tmps := #[.string (bs l), Z8, .pointer (some ⟨g3, 0, none⟩), .int .i64 0, .int .u8 ((byteN l 31 : Nat) : Int), Z8, Z8, Z8, Z8, Z8, .string (bs l), .int .i64 ((l.length : Nat) : Int), .bool false, Z8, .string (bs l), .int .u8 ((byteN l 31 : Nat) : Int), Z8, Z8, Z8, Z8, Z8, Z8, Z8, Z8, vs 7, Z8, Z8, Z8, Z8, Z8, Z8, Z8, Z8, Z8, Z8, Z8, Z8, Z8, Z8, Z8, Z8, Z8, Z8, Z8, Z8, Z8, Z8, Z8, Z8, Z8, Z8, Z8, Z8, Z8, Z8, Z8], defers := [] }) (by kernel_rfl) ?_ ?_
  ·
   intro vs gs W31 SW31 D K9 hK9
   replace M := M.sees SW31
   obtain ⟨D7, _⟩ := D
   have e7 : vs 7 = .tuple #[fe y, .int .i64 0] := D7
   dsimp only at hK9
   dsimp only
   rw [e7] at hK9 ⊢
   refine Z17 (v := .tuple #[fe y, .int .i64 0]) (by rfl) (by rfl) (by rfl) ?_
   simp only [Z12, Z5]
   refine Z14 (Z22 ?_)
   have h8 := hK9 (.tuple #[fe y, .int .i64 0])
   have h9 := h8 0 _ (sees_refl _) rfl (fun h => absurd h (by decide))
   simp only [Z12, Z5] at h9
   exact h9
  refine RulesL.cons (fun vs => { tmps := #[.string (bs l), Z8, .pointer (some ⟨g3, 0, none⟩), .int .i64 0, .int .u8 ((byteN l 31 : Nat) : Int), Z8, Z8, Z8, Z8, Z8, .string (bs l), .int .i64 ((l.length : Nat) : Int), .bool false, Z8, .string (bs l), .int .u8 ((byteN l 31 : Nat) : Int), vs 8, Z8, Z8, Z8, Z8, Z8, Z8, Z8, Z8, Z8, Z8, Z8, Z8, Z8, Z8, Z8, Z8, Z8, Z8, Z8, Z8, Z8, Z8, Z8, Z8, Z8, Z8, Z8, Z8, Z8, Z8, Z8, Z8, Z8, Z8, Z8, Z8, Z8, Z8, Z8], defers := [] }) (by kernel_rfl) ?_ ?_
  ·
   intro vs gs W32 SW32 D K9 hK9
   replace M := M.sees SW32
   obtain ⟨D8, _⟩ := D
   have e8 : vs 8 = .tuple #[fe y, .int .i64 0] := D8
   dsimp only at hK9
   dsimp only
   rw [e8] at hK9 ⊢
   refine Z16 1 (by rfl) (fun Lk hLk => ?_)
   simp only [Z6, Z7]
   refine Z32 (v := fe y) (by rfl) rfl rfl rfl ?_
   simp only [Z12, Z5]
   refine Z19 (hLk _ (fun w33 Sw33 => ?_))
   clear hLk Lk
   simp only [Z6, Z7]
   replace M := M.sees Sw33
   refine Z14 (Z22 ?_)
   have h8 := hK9 (fe y)
   have h9 := h8 0 _ Sw33 rfl (fun h => absurd h (by decide))
   simp only [Z12, Z5] at h9
   exact h9
  refine RulesL.cons (fun vs => { tmps := #[.string (bs l), Z8, .pointer (some ⟨g3, 0, none⟩), .int .i64 0, .int .u8 ((byteN l 31 : Nat) : Int), Z8, Z8, Z8, Z8, Z8, .string (bs l), .int .i64 ((l.length : Nat) : Int), .bool false, Z8, .string (bs l), .int .u8 ((byteN l 31 : Nat) : Int), vs 8, Z8, Z8, Z8, Z8, Z8, Z8, Z8, Z8, Z8, Z8, Z8, Z8, Z8, Z8, Z8, Z8, Z8, Z8, Z8, Z8, Z8, Z8, Z8, Z8, Z8, Z8, Z8, Z8, Z8, Z8, Z8, Z8, Z8, Z8, Z8, Z8, Z8, Z8, Z8], defers := [] }) (by kernel_rfl) ?_ ?_
  ·
   intro vs gs W34 SW34 D K9 hK9
   replace M := M.sees SW34
   obtain ⟨D8, _⟩ := D
   have e8 : vs 8 = .tuple #[fe y, .int .i64 0] := D8
   dsimp only at hK9
   dsimp only
   rw [e8] at hK9 ⊢
   refine Z16 1 (by rfl) (fun Lk hLk => ?_)
   simp only [Z6, Z7]
   refine Z32 (v := .int .i64 0) (by rfl) rfl rfl rfl ?_
   simp only [Z12, Z5]
   refine Z19 (hLk _ (fun w35 Sw35 => ?_))
   clear hLk Lk
   simp only [Z6, Z7]
   replace M := M.sees Sw35
   refine Z14 (Z22 ?_)
   have h8 := hK9 (.int .i64 0)
   have h9 := h8 0 _ Sw35 rfl (fun h => absurd h (by decide))
   simp only [Z12, Z5] at h9
   exact h9
  refine RulesL.cons (fun vs => { tmps := #[.string (bs l), Z8, .pointer (some ⟨g3, 0, none⟩), .int .i64 0, .int .u8 ((byteN l 31 : Nat) : Int), Z8, Z8, Z8, Z8, Z8, .string (bs l), .int .i64 ((l.length : Nat) : Int), .bool false, Z8, .string (bs l), .int .u8 ((byteN l 31 : Nat) : Int), Z8, Z8, Z8, Z8, Z8, Z8, Z8, Z8, Z8, Z8, Z8, Z8, Z8, Z8, Z8, Z8, Z8, Z8, Z8, Z8, Z8, Z8, Z8, Z8, Z8, Z8, Z8, Z8, Z8, Z8, Z8, Z8, Z8, Z8, Z8, Z8, Z8, Z8, Z8, Z8], defers := [] }) (by kernel_rfl) ?_ ?_
  ·
   intro vs gs W36 SW36 D K9 hK9
   replace M := M.sees SW36
   have Rg3_0 := M.r 0 0 rfl rfl
   have Rg3_4 := M.r 0 1 rfl rfl
   have Rg3_8 := M.r 0 2 rfl rfl
   have Rg3_12 := M.r 0 3 rfl rfl
   have Lg3 := M.lt 0 rfl
   have BB := M.below
   replace M := Mem.start W36
   dsimp only at hK9
   dsimp only
   refine Z36 (t := 86) (cs := [.int .u64 0, .int .u64 0, .int .u64 0, .int .u64 0]) (by rfl) (fun W => ?_) (fun g37 w38 Sw38 Hg37 Bg37 => ?_)
   ·
    go_simp
   replace M := ((M.sees Sw38).add (N := 4) (cs := [.int .u64 0, .int .u64 0, .int .u64 0, .int .u64 0]) (M.ge Hg37) (M.fresh Hg37) Bg37 rfl)
   clear Bg37
   simp only [Z12, Z5]
   refine Z14 (Z22 ?_)
   have h8 := hK9 (.pointer (some ⟨g37, 0, none⟩))
   have h9 := h8 g37 _ M.seesAll ⟨rfl, (M.ok _ (.head _)).up SW36⟩ (fun _ => (M.ok _ (.head _)).ge)
   simp only [Z12, Z5] at h9
   exact h9
  exact RulesL.nil
 intro vs gs W39 SW39 D A9
 obtain ⟨D0, D1, D2, D3, D4, D5, D6, D7, D8, D9, D10, D11, _⟩ := (show DepRel _ vs gs W39 [0, 1, 2, 3, 4, 5, 6, 7, 8, 9, 10, 11] from D)
 have n4_11 : gs 4 ≠ gs 11 := A9 4 11 (by decide) (by decide) (by decide) (by decide) (by decide)
 clear A9 D
 have e0 : vs 0 = .string (bs l) := D0
 have e1 : vs 1 = .string (bs (l.take 31)) := D1
 have e2 : vs 2 = .int .u8 ((byteN l 31 : Nat) : Int) := D2
 have e3 : vs 3 = .int .u8 ((byteN l 31 % 128 : Nat) : Int) := D3
 obtain ⟨e4, Og40⟩ := D4
 generalize gs 4 = g40 at *
 replace e4 : vs 4 = .slice (some ⟨g40, 0, none⟩) 1 1 := e4
 have e5 : vs 5 = .string (bs ([UInt8.ofNat (byteN l 31 % 128)])) := D5
 have e6 : vs 6 = .string (bs ((l.take 31) ++ ([UInt8.ofNat (byteN l 31 % 128)]))) := D6
 have e7 : vs 7 = .tuple #[fe y, .int .i64 0] := D7
 have e8 : vs 8 = .tuple #[fe y, .int .i64 0] := D8
 have e9 : vs 9 = fe y := D9
 have e10 : vs 10 = .int .i64 0 := D10
 obtain ⟨e11, Og41⟩ := D11
 generalize gs 11 = g41 at *
 replace e11 : vs 11 = .pointer (some ⟨g41, 0, none⟩) := e11
 replace M := M.addOks SW39 [⟨g40, 1, [(0, [.int .u8 ((byteN l 31 % 128 : Nat) : Int)])]⟩, ⟨g41, 4, [(0, [.int .u64 0, .int .u64 0, .int .u64 0, .int .u64 0])]⟩] (List.forall_mem_cons.2 ⟨Og40, (List.forall_mem_cons.2 ⟨Og41, (fun _ h => nomatch h)⟩)⟩) (.cons (List.forall_mem_cons.2 ⟨n4_11, (fun _ h => nomatch h)⟩) (.cons (fun _ h => nomatch h) .nil))
 simp only [List.cons_append, List.nil_append] at M
 dsimp only
 simp only [e0, e1, e2, e3, e4, e5, e6, e7, e8, e9, e10, e11, Z7]
 refine Z33 (g := g41) (off := 0) (n := 4) (cs := fel y) (by rfl) (by rfl) (by rfl) (by rfl) (by rfl) (M.t 1 rfl) (by simp [flen]) info86 (fel_one _) (fun w42 P R T => ?_)
 replace M := M.putS 1 0 rfl P R T rfl ⟨.inl rfl, trivial⟩
 simp only [Z5] at M
 refine Z18 (v := .int .i64 0) (by rfl) (by rfl) (by rfl) ?_
 simp only [Z12, Z5]
 refine Z14 (Z15 ?_)
 refine hK12 _ _ ?_
 refine Z9 (fun K43 hK43 => ?_)
 refine Z9 (fun K44 hK44 => ?_)
 refine Z13 ?_
 refine Z17 (v := .int .i64 0) (by rfl) (by rfl) (by rfl) ?_
 simp only [Z12, Z5]
 refine Z16 1 (by rfl) (fun Lk hLk => ?_)
 simp only [Z6, Z7]
 refine Z20 (v := .bool false) (by rfl) rfl rfl rfl (fun W => run_neq _ _ _ _ W) ?_
 simp only [Z12, Z5]
 refine Z19 (hLk _ (fun w46 Sw46 => ?_))
 clear hLk Lk
 simp only [Z6, Z7]
 replace M := M.sees Sw46
 refine Z14 (Z15 ?_)
 refine hK44 _ _ ?_
 refine Z11 rfl ?_
 refine wp_skip ?_
 refine hK43 _ _ ?_
 refine Z9 (fun K47 hK47 => ?_)
 refine Z13 ?_
 refine Z16 5 (by rfl) (fun Lk hLk => ?_)
 simp only [Z6, Z7]
 refine Z31 (cs := fel y) (by rfl) rfl rfl (M.r 1 0 rfl rfl) (M.lt 1 rfl) Tryd.underlying86 rfl info86 ?_
 simp only [Z12, Z5]
 refine Z25 (v := .tuple #[fe x, .bool b]) (args := #[fe y]) (by rfl) rfl Tryd.func89 (by kernel_rfl) (by kernel_rfl) rfl (fun W hW => (by have h9 := root_c (y := y) (w := W) hy; rw [hr] at h9; exact h9)) ?_
 simp only [Z12, Z5]
 refine Z21 (v := .tuple #[fe x, .bool b]) (by rfl) rfl rfl ?_
 simp only [Z12, Z5]
 refine Z32 (v := fe x) (by rfl) rfl rfl rfl ?_
 simp only [Z12, Z5]
 refine Z32 (v := .bool b) (by rfl) rfl rfl rfl ?_
 simp only [Z12, Z5]
 refine Z19 (hLk _ (fun w49 Sw49 => ?_))
 clear hLk Lk
 simp only [Z6, Z7]
 replace M := M.sees Sw49
 refine Z36 (t := 86) (cs := [.int .u64 0, .int .u64 0, .int .u64 0, .int .u64 0]) (by rfl) (fun W => ?_) (fun g50 w51 Sw51 Hg50 Bg50 => ?_)
 ·
  go_simp
 replace M := ((M.sees Sw51).add (N := 4) (cs := [.int .u64 0, .int .u64 0, .int .u64 0, .int .u64 0]) (M.ge Hg50) (M.fresh Hg50) Bg50 rfl)
 clear Bg50
 simp only [Z12, Z5]
 refine Z33 (g := g50) (off := 0) (n := 4) (cs := fel x) (by rfl) (by rfl) (by rfl) (by rfl) (by rfl) (M.t 0 rfl) (by simp [flen]) info86 (fel_one _) (fun w52 P R T => ?_)
 replace M := M.putS 0 0 rfl P R T rfl ⟨.inl rfl, trivial⟩
 simp only [Z5] at M
 refine Z18 (v := .bool b) (by rfl) (by rfl) (by rfl) ?_
 simp only [Z12, Z5]
 refine Z14 (Z15 ?_)
 refine hK47 _ _ ?_
 refine Z9 (fun K53 hK53 => ?_)
 refine Z13 ?_
 refine Z17 (v := .int .u8 ((byteN l 31 : Nat) : Int)) (by rfl) (by rfl) (by rfl) ?_
 simp only [Z12, Z5]
 refine Z16 2 (by rfl) (fun Lk hLk => ?_)
 simp only [Z6, Z7]
 refine Z20 (v := .int .u8 ((byteN l 31 / 128 * 128 : Nat) : Int)) (by rfl) rfl rfl rfl (fun W => run_and (and_128 (byteN_lt l 31)) W) ?_
 simp only [Z12, Z5]
 refine Z20 (v := .bool (decide (byteN l 31 / 128 * 128 ≠ 0))) (by rfl) rfl rfl rfl (fun W => run_neqN (byteN l 31 / 128 * 128) 0 _ _ W) ?_
 simp only [Z12, Z5]
 refine Z19 (hLk _ (fun w55 Sw55 => ?_))
 clear hLk Lk
 simp only [Z6, Z7]
 replace M := M.sees Sw55
 refine Z18 (v := .bool (decide (byteN l 31 / 128 * 128 ≠ 0))) (by rfl) (by rfl) (by rfl) ?_
 simp only [Z12, Z5]
 refine Z14 (Z15 ?_)
 refine hK53 _ _ ?_
 refine Z9 (fun K56 hK56 => ?_)
 refine Z9 (fun K57 hK57 => ?_)
 cases hg58 : (b)
 ·
  refine Z13 ?_
  refine Z17 (v := .bool false) (by rfl) (by rfl) (by rfl) ?_
  simp only [Z12, Z5]
  refine Z16 9 (by rfl) (fun Lk hLk => ?_)
  simp only [Z6, Z7]
  refine wpV_not (b := false) (by rfl) rfl rfl ?_
  simp only [Bool.not_true, Bool.not_false]
  simp only [Z12, Z5]
  refine Z21 (v := .bool true) (by rfl) rfl rfl ?_
  simp only [Z12, Z5]
  refine wpV_skip (by rfl) (by rfl) ?_
  simp only [Z12, Z5]
  refine wpV_skip (by rfl) (by rfl) ?_
  simp only [Z12, Z5]
  refine wpV_skip (by rfl) (by rfl) ?_
  simp only [Z12, Z5]
  refine wpV_skip (by rfl) (by rfl) ?_
  simp only [Z12, Z5]
  refine wpV_skip (by rfl) (by rfl) ?_
  simp only [Z12, Z5]
  refine wpV_skip (by rfl) (by rfl) ?_
  simp only [Z12, Z5]
  refine wpV_pick (v := .bool true) (by rfl) rfl rfl rfl ?_
  simp only [Z12, Z5]
  refine Z19 (hLk _ (fun w60 Sw60 => ?_))
  clear hLk Lk
  simp only [Z6, Z7]
  replace M := M.sees Sw60
  refine Z14 (Z15 ?_)
  refine hK57 _ _ ?_
  refine Z10 rfl ?_
  refine Z9 (fun K61 hK61 => ?_)
  refine Z13 ?_
  refine Z16 1 (by rfl) (fun Lk hLk => ?_)
  simp only [Z6, Z7]
  refine Z24 (v := .agg ([.int .u64 0, .int .u64 0, .int .u64 0, .int .u64 0, .int .u64 0, .int .u64 0, .int .u64 0, .int .u64 0, .int .u64 0, .int .u64 0, .int .u64 0, .int .u64 0, .int .u64 0, .int .u64 0, .int .u64 0, .int .u64 0]).toArray) (by rfl) (by rfl) (fun W hW => ?_) ?_
  ·
   (unfold RunsVal; kernel_rfl)
  simp only [Z12, Z5]
  refine Z19 (hLk _ (fun w63 Sw63 => ?_))
  clear hLk Lk
  simp only [Z6, Z7]
  replace M := M.sees Sw63
  refine Z33 (g := g3) (off := 0) (n := 16) (cs := [.int .u64 0, .int .u64 0, .int .u64 0, .int .u64 0, .int .u64 0, .int .u64 0, .int .u64 0, .int .u64 0, .int .u64 0, .int .u64 0, .int .u64 0, .int .u64 0, .int .u64 0, .int .u64 0, .int .u64 0, .int .u64 0]) (by rfl) (by rfl) (by rfl) (by rfl) (by rfl) (M.t 3 rfl) (by simp [flen]) info88 (by simp [fone, Value.oneCell']) (fun w64 P R T => ?_)
  replace M := M.put (segs' := [(0, [.int .u64 0, .int .u64 0, .int .u64 0, .int .u64 0]), (4, [.int .u64 0, .int .u64 0, .int .u64 0, .int .u64 0]), (8, [.int .u64 0, .int .u64 0, .int .u64 0, .int .u64 0]), (12, [.int .u64 0, .int .u64 0, .int .u64 0, .int .u64 0])]) 3 rfl P T (SegsOf.at R ⟨rfl, rfl, rfl, rfl, trivial⟩)
  simp only [Z5] at M
  refine Z18 (v := .int .i64 10) (by rfl) (by rfl) (by rfl) ?_
  simp only [Z12, Z5]
  refine Z14 (Z15 ?_)
  refine hK61 _ _ ?_
  refine wp_ret ?_
  repeat (first | with_reducible refine then_ret ?_ | with_reducible refine inblock_ret ?_)
  refine bodyPost_ret (v := .tuple #[.agg ([.int .u64 0, .int .u64 0, .int .u64 0, .int .u64 0] ++ [.int .u64 0, .int .u64 0, .int .u64 0, .int .u64 0] ++ [.int .u64 0, .int .u64 0, .int .u64 0, .int .u64 0] ++ [.int .u64 0, .int .u64 0, .int .u64 0, .int .u64 0] : List Value).toArray, .int .i64 10]) (res2 rfl (.cell (by rfl) (run_loadVar_mid _ _ _ _ ([.int .u64 0, .int .u64 0, .int .u64 0, .int .u64 0] ++ [.int .u64 0, .int .u64 0, .int .u64 0, .int .u64 0] ++ [.int .u64 0, .int .u64 0, .int .u64 0, .int .u64 0] ++ [.int .u64 0, .int .u64 0, .int .u64 0, .int .u64 0]) _ (range_join (range_join (range_join (M.r 3 0 rfl rfl) (M.r 3 1 rfl rfl) (by simp [flen])) (M.r 3 2 rfl rfl) (by simp [flen])) (M.r 3 3 rfl rfl) (by simp [flen])) Tryd.underlying88 rfl info88)) (.tmp (by rfl))) rfl ?_
  have BE := M.below
  have hv : parsP x y b (decide (byteN l 31 / 128 * 128 ≠ 0)) = noneP ∧ parsE x b (decide (byteN l 31 / 128 * 128 ≠ 0)) = 10 := by unfold parsP parsE parsY; simp [hg58]
  exact ⟨by rw [hv.1, hv.2] <;> rfl, BE⟩
 ·
  cases hg65 : (decide (byteN l 31 / 128 * 128 ≠ 0))
  ·
   refine Z13 ?_
   refine Z17 (v := .bool true) (by rfl) (by rfl) (by rfl) ?_
   simp only [Z12, Z5]
   refine Z16 9 (by rfl) (fun Lk hLk => ?_)
   simp only [Z6, Z7]
   refine wpV_not (b := true) (by rfl) rfl rfl ?_
   simp only [Bool.not_true, Bool.not_false]
   simp only [Z12, Z5]
   refine Z21 (v := .bool false) (by rfl) rfl rfl ?_
   simp only [Z12, Z5]
   refine Z21 (v := .bool false) (by rfl) rfl rfl ?_
   simp only [Z12, Z5]
   refine Z21 (v := .bool false) (by rfl) rfl rfl ?_
   simp only [Z12, Z5]
   refine wpV_skip (by rfl) (by rfl) ?_
   simp only [Z12, Z5]
   refine wpV_skip (by rfl) (by rfl) ?_
   simp only [Z12, Z5]
   refine wpV_skip (by rfl) (by rfl) ?_
   simp only [Z12, Z5]
   refine wpV_pick (v := .bool false) (by rfl) rfl rfl rfl ?_
   simp only [Z12, Z5]
   refine wpV_pick (v := .bool false) (by rfl) rfl rfl rfl ?_
   simp only [Z12, Z5]
   refine Z19 (hLk _ (fun w67 Sw67 => ?_))
   clear hLk Lk
   simp only [Z6, Z7]
   replace M := M.sees Sw67
   refine Z14 (Z15 ?_)
   refine hK57 _ _ ?_
   refine Z11 rfl ?_
   refine wp_skip ?_
   refine hK56 _ _ ?_
   refine Z9 (fun K68 hK68 => ?_)
   refine Z9 (fun K69 hK69 => ?_)
   refine Z13 ?_
   refine Z17 (v := .bool false) (by rfl) (by rfl) (by rfl) ?_
   simp only [Z12, Z5]
   refine Z14 (Z15 ?_)
   refine hK69 _ _ ?_
   refine Z11 rfl ?_
   refine wp_skip ?_
   refine hK68 _ _ ?_
   refine Z9 (fun K71 hK71 => ?_)
   refine Z13 ?_
   refine Z16 3 (by rfl) (fun Lk hLk => ?_)
   simp only [Z6, Z7]
   refine Z31 (cs := fel x) (by rfl) rfl rfl (M.r 0 0 rfl rfl) (M.lt 0 rfl) Tryd.underlying86 rfl info86 ?_
   simp only [Z12, Z5]
   refine Z31 (cs := fel y) (by rfl) rfl rfl (M.r 2 0 rfl rfl) (M.lt 2 rfl) Tryd.underlying86 rfl info86 ?_
   simp only [Z12, Z5]
   refine Z25 (v := .agg (fel (affP x y).x ++ fel (affP x y).y ++ fel (affP x y).z ++ fel (affP x y).t : List Value).toArray) (args := #[fe x, fe y]) (by rfl) rfl Tryd.func92 (by kernel_rfl) (by kernel_rfl) rfl (fun W hW => affine_c hx hy) ?_
   simp only [Z12, Z5]
   refine Z19 (hLk _ (fun w73 Sw73 => ?_))
   clear hLk Lk
   simp only [Z6, Z7]
   replace M := M.sees Sw73
   refine Z33 (g := g3) (off := 0) (n := 16) (cs := fel (affP x y).x ++ fel (affP x y).y ++ fel (affP x y).z ++ fel (affP x y).t) (by rfl) (by rfl) (by rfl) (by rfl) (by rfl) (M.t 3 rfl) (by simp [flen]) info88 (one4 _ _ _ _) (fun w74 P R T => ?_)
   replace M := M.put (segs' := [(0, fel (affP x y).x), (4, fel (affP x y).y), (8, fel (affP x y).z), (12, fel (affP x y).t)]) 3 rfl P T (SegsOf.at R ⟨rfl, rfl, rfl, rfl, trivial⟩)
   simp only [Z5] at M
   refine Z18 (v := .int .i64 0) (by rfl) (by rfl) (by rfl) ?_
   simp only [Z12, Z5]
   refine Z14 (Z15 ?_)
   refine hK71 _ _ ?_
   refine wp_ret ?_
   repeat (first | with_reducible refine then_ret ?_ | with_reducible refine inblock_ret ?_)
   refine bodyPost_ret (v := .tuple #[.agg (fel (affP x y).x ++ (fel (affP x y).y) ++ (fel (affP x y).z) ++ (fel (affP x y).t) : List Value).toArray, .int .i64 0]) (res2 rfl (.cell (by rfl) (run_loadVar_mid _ _ _ _ (fel (affP x y).x ++ (fel (affP x y).y) ++ (fel (affP x y).z) ++ (fel (affP x y).t)) _ (range_join (range_join (range_join (M.r 3 0 rfl rfl) (M.r 3 1 rfl rfl) (by simp [flen])) (M.r 3 2 rfl rfl) (by simp [flen])) (M.r 3 3 rfl rfl) (by simp [flen])) Tryd.underlying88 rfl info88)) (.tmp (by rfl))) rfl ?_
   have BE := M.below
   have hv : parsP x y b (decide (byteN l 31 / 128 * 128 ≠ 0)) = affP x y ∧ parsE x b (decide (byteN l 31 / 128 * 128 ≠ 0)) = 0 := by unfold parsP parsE parsY; simp [hg58, hg65]
   exact ⟨by rw [hv.1, hv.2] <;> rfl, BE⟩
  ·
   refine Z13 ?_
   refine Z17 (v := .bool true) (by rfl) (by rfl) (by rfl) ?_
   simp only [Z12, Z5]
   refine Z16 9 (by rfl) (fun Lk hLk => ?_)
   simp only [Z6, Z7]
   refine wpV_not (b := true) (by rfl) rfl rfl ?_
   simp only [Bool.not_true, Bool.not_false]
   simp only [Z12, Z5]
   refine Z21 (v := .bool false) (by rfl) rfl rfl ?_
   simp only [Z12, Z5]
   refine Z21 (v := .bool true) (by rfl) rfl rfl ?_
   simp only [Z12, Z5]
   refine Z21 (v := .bool true) (by rfl) rfl rfl ?_
   simp only [Z12, Z5]
   refine Z31 (cs := fel x) (by rfl) rfl rfl (M.r 0 0 rfl rfl) (M.lt 0 rfl) Tryd.underlying86 rfl info86 ?_
   simp only [Z12, Z5]
   refine Z24 (v := fe 0) (by rfl) (by rfl) (fun W hW => ?_) ?_
   ·
    rw [show fe 0 = .agg ([.int .u64 0, .int .u64 0, .int .u64 0, .int .u64 0]).toArray from (by kernel_rfl)]; unfold RunsVal; kernel_rfl
   simp only [Z12, Z5]
   refine Z24 (v := .bool (decide (x = 0))) (by rfl) (by rfl) (fun W hW => ?_) ?_
   ·
    exact run_eql_fe hx (by decide) Tryd.underlying86 Tryd.underlying40 info40 (by kernel_rfl) rfl rfl rfl W
   simp only [Z12, Z5]
   refine wpV_pick (v := .bool (decide (x = 0))) (by rfl) rfl rfl rfl ?_
   simp only [Z12, Z5]
   refine wpV_pick (v := .bool (decide (x = 0))) (by rfl) rfl rfl rfl ?_
   simp only [Z12, Z5]
   refine Z19 (hLk _ (fun w76 Sw76 => ?_))
   clear hLk Lk
   simp only [Z6, Z7]
   replace M := M.sees Sw76
   refine Z14 (Z15 ?_)
   refine hK57 _ _ ?_
   cases hc77 : (decide (x = 0))
   ·
    refine Z11 rfl ?_
    refine wp_skip ?_
    refine hK56 _ _ ?_
    refine Z9 (fun K78 hK78 => ?_)
    refine Z9 (fun K79 hK79 => ?_)
    refine Z13 ?_
    refine Z17 (v := .bool true) (by rfl) (by rfl) (by rfl) ?_
    simp only [Z12, Z5]
    refine Z14 (Z15 ?_)
    refine hK79 _ _ ?_
    refine Z10 rfl ?_
    refine wp_region_grow 3 [] (by kernel_rfl) (by kernel_rfl) (by kernel_rfl) (fun Lk hLk => ?_)
    simp only [Z6, Z7]
    refine Z25 (v := fe 0) (args := #[.int .u64 0]) (by rfl) rfl Tryd.func91 (by kernel_rfl) (by kernel_rfl) rfl (fun W hW => of_c (n := 0) (by decide) W) ?_
    simp only [Z12, Z5]
    refine Z31 (cs := fel x) (by rfl) rfl rfl (M.r 0 0 rfl rfl) (M.lt 0 rfl) Tryd.underlying86 rfl info86 ?_
    simp only [Z12, Z5]
    refine Z25 (v := fe (fsub 0 x)) (args := #[fe 0, fe x]) (by rfl) rfl Tryd.func90 (by kernel_rfl) (by kernel_rfl) rfl (fun W hW => fsub_c (by decide) hx W) ?_
    simp only [Z12, Z5]
    refine Z19 (hLk.out _ ?_)
    clear hLk Lk
    simp only [Z6, Z7]
    iterate 3 refine Z28 (by rfl) ?_
    refine Z29 (fun w82 Sw82 hbs => ?_)
    clear hbs
    replace M := M.sees Sw82
    refine Z33 (g := g50) (off := 0) (n := 4) (cs := fel (fsub 0 x)) (by rfl) (by rfl) (by rfl) (by rfl) (by rfl) (M.t 0 rfl) (by simp [flen]) info86 (fel_one _) (fun w83 P R T => ?_)
    replace M := M.putS 0 0 rfl P R T rfl ⟨.inl rfl, trivial⟩
    simp only [Z5] at M
    refine Z14 (Z15 ?_)
    refine hK78 _ _ ?_
    refine Z9 (fun K84 hK84 => ?_)
    refine Z13 ?_
    refine Z16 3 (by rfl) (fun Lk hLk => ?_)
    simp only [Z6, Z7]
    refine Z31 (cs := fel (fsub 0 x)) (by rfl) rfl rfl (M.r 0 0 rfl rfl) (M.lt 0 rfl) Tryd.underlying86 rfl info86 ?_
    simp only [Z12, Z5]
    refine Z31 (cs := fel y) (by rfl) rfl rfl (M.r 2 0 rfl rfl) (M.lt 2 rfl) Tryd.underlying86 rfl info86 ?_
    simp only [Z12, Z5]
    refine Z25 (v := .agg (fel (affP (fsub 0 x) y).x ++ fel (affP (fsub 0 x) y).y ++ fel (affP (fsub 0 x) y).z ++ fel (affP (fsub 0 x) y).t : List Value).toArray) (args := #[fe (fsub 0 x), fe y]) (by rfl) rfl Tryd.func92 (by kernel_rfl) (by kernel_rfl) rfl (fun W hW => affine_c (fsub_lt ..) hy) ?_
    simp only [Z12, Z5]
    refine Z19 (hLk _ (fun w86 Sw86 => ?_))
    clear hLk Lk
    simp only [Z6, Z7]
    replace M := M.sees Sw86
    refine Z33 (g := g3) (off := 0) (n := 16) (cs := fel (affP (fsub 0 x) y).x ++ fel (affP (fsub 0 x) y).y ++ fel (affP (fsub 0 x) y).z ++ fel (affP (fsub 0 x) y).t) (by rfl) (by rfl) (by rfl) (by rfl) (by rfl) (M.t 3 rfl) (by simp [flen]) info88 (one4 _ _ _ _) (fun w87 P R T => ?_)
    replace M := M.put (segs' := [(0, fel (affP (fsub 0 x) y).x), (4, fel (affP (fsub 0 x) y).y), (8, fel (affP (fsub 0 x) y).z), (12, fel (affP (fsub 0 x) y).t)]) 3 rfl P T (SegsOf.at R ⟨rfl, rfl, rfl, rfl, trivial⟩)
    simp only [Z5] at M
    refine Z18 (v := .int .i64 0) (by rfl) (by rfl) (by rfl) ?_
    simp only [Z12, Z5]
    refine Z14 (Z15 ?_)
    refine hK84 _ _ ?_
    refine wp_ret ?_
    repeat (first | with_reducible refine then_ret ?_ | with_reducible refine inblock_ret ?_)
    refine bodyPost_ret (v := .tuple #[.agg (fel (affP (fsub 0 x) y).x ++ (fel (affP (fsub 0 x) y).y) ++ (fel (affP (fsub 0 x) y).z) ++ (fel (affP (fsub 0 x) y).t) : List Value).toArray, .int .i64 0]) (res2 rfl (.cell (by rfl) (run_loadVar_mid _ _ _ _ (fel (affP (fsub 0 x) y).x ++ (fel (affP (fsub 0 x) y).y) ++ (fel (affP (fsub 0 x) y).z) ++ (fel (affP (fsub 0 x) y).t)) _ (range_join (range_join (range_join (M.r 3 0 rfl rfl) (M.r 3 1 rfl rfl) (by simp [flen])) (M.r 3 2 rfl rfl) (by simp [flen])) (M.r 3 3 rfl rfl) (by simp [flen])) Tryd.underlying88 rfl info88)) (.tmp (by rfl))) rfl ?_
    have BE := M.below
    have hv : parsP x y b (decide (byteN l 31 / 128 * 128 ≠ 0)) = affP (fsub 0 x) y ∧ parsE x b (decide (byteN l 31 / 128 * 128 ≠ 0)) = 0 := by unfold parsP parsE parsY; simp [hg58, hg65, hc77]
    exact ⟨by rw [hv.1, hv.2] <;> rfl, BE⟩
   ·
    refine Z10 rfl ?_
    refine Z9 (fun K88 hK88 => ?_)
    refine Z13 ?_
    refine Z16 1 (by rfl) (fun Lk hLk => ?_)
    simp only [Z6, Z7]
    refine Z24 (v := .agg ([.int .u64 0, .int .u64 0, .int .u64 0, .int .u64 0, .int .u64 0, .int .u64 0, .int .u64 0, .int .u64 0, .int .u64 0, .int .u64 0, .int .u64 0, .int .u64 0, .int .u64 0, .int .u64 0, .int .u64 0, .int .u64 0]).toArray) (by rfl) (by rfl) (fun W hW => ?_) ?_
    ·
     (unfold RunsVal; kernel_rfl)
    simp only [Z12, Z5]
    refine Z19 (hLk _ (fun w90 Sw90 => ?_))
    clear hLk Lk
    simp only [Z6, Z7]
    replace M := M.sees Sw90
    refine Z33 (g := g3) (off := 0) (n := 16) (cs := [.int .u64 0, .int .u64 0, .int .u64 0, .int .u64 0, .int .u64 0, .int .u64 0, .int .u64 0, .int .u64 0, .int .u64 0, .int .u64 0, .int .u64 0, .int .u64 0, .int .u64 0, .int .u64 0, .int .u64 0, .int .u64 0]) (by rfl) (by rfl) (by rfl) (by rfl) (by rfl) (M.t 3 rfl) (by simp [flen]) info88 (by simp [fone, Value.oneCell']) (fun w91 P R T => ?_)
    replace M := M.put (segs' := [(0, [.int .u64 0, .int .u64 0, .int .u64 0, .int .u64 0]), (4, [.int .u64 0, .int .u64 0, .int .u64 0, .int .u64 0]), (8, [.int .u64 0, .int .u64 0, .int .u64 0, .int .u64 0]), (12, [.int .u64 0, .int .u64 0, .int .u64 0, .int .u64 0])]) 3 rfl P T (SegsOf.at R ⟨rfl, rfl, rfl, rfl, trivial⟩)
    simp only [Z5] at M
    refine Z18 (v := .int .i64 10) (by rfl) (by rfl) (by rfl) ?_
    simp only [Z12, Z5]
    refine Z14 (Z15 ?_)
    refine hK88 _ _ ?_
    refine wp_ret ?_
    repeat (first | with_reducible refine then_ret ?_ | with_reducible refine inblock_ret ?_)
    refine bodyPost_ret (v := .tuple #[.agg ([.int .u64 0, .int .u64 0, .int .u64 0, .int .u64 0] ++ [.int .u64 0, .int .u64 0, .int .u64 0, .int .u64 0] ++ [.int .u64 0, .int .u64 0, .int .u64 0, .int .u64 0] ++ [.int .u64 0, .int .u64 0, .int .u64 0, .int .u64 0] : List Value).toArray, .int .i64 10]) (res2 rfl (.cell (by rfl) (run_loadVar_mid _ _ _ _ ([.int .u64 0, .int .u64 0, .int .u64 0, .int .u64 0] ++ [.int .u64 0, .int .u64 0, .int .u64 0, .int .u64 0] ++ [.int .u64 0, .int .u64 0, .int .u64 0, .int .u64 0] ++ [.int .u64 0, .int .u64 0, .int .u64 0, .int .u64 0]) _ (range_join (range_join (range_join (M.r 3 0 rfl rfl) (M.r 3 1 rfl rfl) (by simp [flen])) (M.r 3 2 rfl rfl) (by simp [flen])) (M.r 3 3 rfl rfl) (by simp [flen])) Tryd.underlying88 rfl info88)) (.tmp (by rfl))) rfl ?_
    have BE := M.below
    have hv : parsP x y b (decide (byteN l 31 / 128 * 128 ≠ 0)) = noneP ∧ parsE x b (decide (byteN l 31 / 128 * 128 ≠ 0)) = 10 := by unfold parsP parsE parsY; simp [hg58, hg65, hc77]
    exact ⟨by rw [hv.1, hv.2] <;> rfl, BE⟩
end Go.Proofs.Yc

namespace Go.Proofs.Yc
open Go Go.RowKit Go.Proofs.Num

theorem info9 : (Tryd.prog.info? 9).map (·.size) = some 1 := by kernel_rfl
theorem info129 : (Tryd.prog.info? 129).map (·.size) = some 8 := by kernel_rfl
theorem info171 : (Tryd.prog.info? 171).map (·.size) = some 10 := by kernel_rfl
theorem info201 : (Tryd.prog.info? 201).map (·.size) = some 80 := by kernel_rfl
end Go.Proofs.Yc

namespace Go.Proofs.Yc
open Go Go.RowKit Go.Proofs.Num
open Nat renaming zero_add → Z1, mod_eq_of_lt → Z4
open List renaming set → Z5, take → Z6, drop → Z7
open Go renaming undef → Z8, wp_seq_k → Z9, wp_cond_true → Z10, wp_cond_false → Z11
open Go.Proofs.Num renaming putT → Z12, wp_region_seq → Z13, wpL_nil → Z14, no_panic → Z15, wpL_chunk → Z16, wpL_move → Z17, wpL_assign → Z18, wpV_nil → Z19, wpV_bin → Z20, wpV_move → Z21, then_normal → Z22, wpL_store1 → Z23, wpV_callf → Z25, wpN_skip → Z28, wpN_nil → Z29, wpV_load → Z31, wpL_store → Z33, wpV_load1 → Z34, wpL_var → Z36
attribute [local irreducible] wpV wpN wpList
open Go.Proofs.Ya
theorem rotl_wrapq {n : Nat} (h1 : 1 ≤ n) (h2 : n ≤ 63) : IntKind.u64.wrap (-((n : Nat) : Int)) = ((18446744073709551616 - n : Nat) : Int) := by
 rw [IntKind.wrap_u64]; omega
theorem rotl_andq {n : Nat} (h1 : 1 ≤ n) (h2 : n ≤ 63) : bits .and .u64 ((18446744073709551616 - n : Nat) : Int) 63 = ((64 - n : Nat) : Int) := by
 have h := bits_and_u64_nat (18446744073709551616 - n) 63 (by omega) (by decide)
 refine h.trans ?_
 rw [show (63 : Nat) = 2 ^ 6 - 1 by decide, Nat.and_two_pow_sub_one_eq_mod]
 omega
theorem or8q {a b : Nat} (ha : a < 72057594037927936) (hb : b < 256) : bits .or .u64 ((a * 256 : Nat) : Int) ((b : Nat) : Int) = ((a * 256 + b : Nat) : Int) := by
 have h1 := toNat_of (n := 64) (a := a * 256) (Nat.lt_of_lt_of_eq (by omega : a * 256 < 18446744073709551616) (by decide))
 have h2 := toNat_of (n := 64) (a := b) (show b < 18446744073709551616 by omega)
 have h : a * 256 + b < 2 ^ 64 := by omega
 show IntKind.wrap .u64 ((BitVec.ofInt 64 ((a * 256 : Nat) : Int) ||| BitVec.ofInt 64 ((b : Nat) : Int)).toNat : Int) = _
 rw [BitVec.toNat_or, h1, h2, show a * 256 ||| b = a * 256 + b by have := Nat.shiftLeft_add_eq_or_of_lt (i := 8) (b := b) (by omega) a; rw [Nat.shiftLeft_eq, show (2 : Nat) ^ 8 = 256 by decide] at this; exact this.symm, wrap64N, Z4 h]
set_option maxHeartbeats 1000000 in
theorem rotl_cq {x n : Nat} {w : World} (hx : x < 18446744073709551616) (hn1 : 1 ≤ n) (hn2 : n ≤ 63) :
  Calls Tryd.prog 160 #[.int .u64 ((x : Nat) : Int), .int .i64 (-((n : Nat) : Int))] w fun e w' => e = .returned (.int .u64 ((rotrq x n : Nat) : Int)) ∧ Below w.heap.size w w' := by
 go_enter Tryd.func160, Tryd.ntmps160
 have M := Mem.start w
 refine Z9 (fun K1 hK1 => ?_)
 refine Z13 ?_
 refine Z18 (v := .int .u64 0) (by rfl) (by rfl) (by rfl) ?_
 simp only [Z12, Z5]
 refine Z14 (Z15 ?_)
 refine hK1 _ _ ?_
 refine Z9 (fun K3 hK3 => ?_)
 refine Z13 ?_
 refine Z17 (v := .int .i64 (-((n : Nat) : Int))) (by rfl) (by rfl) (by rfl) ?_
 simp only [Z12, Z5]
 refine Z16 2 (by rfl) (fun Lk hLk => ?_)
 simp only [Z6, Z7]
 refine wpV_conv (d := .bool) (e := ((18446744073709551616 - n : Nat) : Int)) (by rfl) rfl rfl (run_conv_int Tryd.underlying3 Tryd.underlying99 (rotl_wrapq hn1 hn2)) ?_
 simp only [Z12, Z5]
 refine Z20 (v := .int .u64 ((64 - n : Nat) : Int)) (by rfl) rfl rfl rfl (fun W => run_and (rotl_andq hn1 hn2) W) ?_
 simp only [Z12, Z5]
 refine Z19 (hLk _ (fun w5 Sw5 => ?_))
 clear hLk Lk
 simp only [Z6, Z7]
 replace M := M.sees Sw5
 refine Z18 (v := .int .u64 ((64 - n : Nat) : Int)) (by rfl) (by rfl) (by rfl) ?_
 simp only [Z12, Z5]
 refine Z14 (Z15 ?_)
 refine hK3 _ _ ?_
 refine Z9 (fun K6 hK6 => ?_)
 refine Z13 ?_
 refine Z17 (v := .int .u64 ((x : Nat) : Int)) (by rfl) (by rfl) (by rfl) ?_
 simp only [Z12, Z5]
 refine Z17 (v := .int .u64 ((64 - n : Nat) : Int)) (by rfl) (by rfl) (by rfl) ?_
 simp only [Z12, Z5]
 refine Z16 6 (by rfl) (fun Lk hLk => ?_)
 simp only [Z6, Z7]
 refine Z20 (v := .int .u64 ((x * 2 ^ (64 - n) % 18446744073709551616 : Nat) : Int)) (by rfl) rfl rfl rfl (fun W => nr_shl64 (x := x) (n := 64 - n) (by omega) W) ?_
 simp only [Z12, Z5]
 refine Z21 (v := .int .u64 ((x : Nat) : Int)) (by rfl) rfl rfl ?_
 simp only [Z12, Z5]
 refine Z21 (v := .int .u64 ((64 - n : Nat) : Int)) (by rfl) rfl rfl ?_
 simp only [Z12, Z5]
 refine Z20 (v := .int .u64 ((64 - (64 - n) : Nat) : Int)) (by rfl) rfl rfl rfl (fun W => nr_sub64 (x := 64) (y := 64 - n) (by omega) (by decide) W) ?_
 simp only [Z12, Z5]
 refine Z20 (v := .int .u64 ((x / 2 ^ (64 - (64 - n)) : Nat) : Int)) (by rfl) rfl rfl rfl (fun W => nr_shr64 (x := x) (n := 64 - (64 - n)) (by omega) W) ?_
 simp only [Z12, Z5]
 refine Z20 (v := .int .u64 (((x * 2 ^ (64 - n) % 18446744073709551616) ||| (x / 2 ^ (64 - (64 - n))) : Nat) : Int)) (by rfl) rfl rfl rfl (fun W => nr_or64 (x := x * 2 ^ (64 - n) % 18446744073709551616) (y := x / 2 ^ (64 - (64 - n))) (mod_lt64 _) (div_lt64 _ hx) W) ?_
 simp only [Z12, Z5]
 refine Z19 (hLk _ (fun w8 Sw8 => ?_))
 clear hLk Lk
 simp only [Z6, Z7]
 replace M := M.sees Sw8
 refine Z18 (v := .int .u64 (((x * 2 ^ (64 - n) % 18446744073709551616) ||| (x / 2 ^ (64 - (64 - n))) : Nat) : Int)) (by rfl) (by rfl) (by rfl) ?_
 simp only [Z12, Z5]
 refine Z14 (Z15 ?_)
 refine hK6 _ _ ?_
 refine wp_ret ?_
 repeat (first | with_reducible refine then_ret ?_ | with_reducible refine inblock_ret ?_)
 refine bodyPost_ret (v := .int .u64 (((x * 2 ^ (64 - n) % 18446744073709551616) ||| (x / 2 ^ (64 - (64 - n))) : Nat) : Int)) (res1 rfl (.tmp (by rfl))) rfl ?_
 have BE := M.below
 exact ⟨by rw [show 64 - (64 - n) = n by omega, rotr_orq hx (by omega)], BE⟩
set_option maxHeartbeats 1000000 in
theorem read_cq {l : List UInt8} {w : World} (hl : 8 ≤ l.length) :
  Calls Tryd.prog 162 #[.string (bs l)] w fun e w' => e = .returned (.int .u64 ((be4q l 0 : Nat) : Int)) ∧ Below w.heap.size w w' := by
 go_enter Tryd.func162, Tryd.ntmps162
 have M := Mem.start w
 refine Z9 (fun K1 hK1 => ?_)
 refine Z13 ?_
 refine Z18 (v := .int .u64 0) (by rfl) (by rfl) (by rfl) ?_
 simp only [Z12, Z5]
 refine Z14 (Z15 ?_)
 refine hK1 _ _ ?_
 refine Z9 (fun K3 hK3 => ?_)
 refine Z13 ?_
 refine Z18 (v := .int .u64 0) (by rfl) (by rfl) (by rfl) ?_
 simp only [Z12, Z5]
 refine Z14 (Z15 ?_)
 refine hK3 _ _ ?_
 refine Z9 (fun K5 hK5 => ?_)
 refine Z9 (fun K6 hK6 => ?_)
 refine Z13 ?_
 refine Z17 (v := .int .i64 0) (by rfl) (by rfl) (by rfl) ?_
 simp only [Z12, Z5]
 refine Z14 (Z15 ?_)
 refine hK6 _ _ ?_
 refine wp_block ?_
 refine wp_loop_rounds 9 ?_
 rw [rounds_succ]
 refine Z9 (fun K8 hK8 => ?_)
 refine Z13 ?_
 refine Z16 1 (by rfl) (fun Lk hLk => ?_)
 simp only [Z6, Z7]
 refine Z20 (v := .bool true) (by rfl) rfl rfl rfl (fun W => run_lss _ _ _ _ W) ?_
 simp only [Z12, Z5]
 refine Z19 (hLk _ (fun w10 Sw10 => ?_))
 clear hLk Lk
 simp only [Z6, Z7]
 replace M := M.sees Sw10
 refine Z14 (Z15 ?_)
 refine hK8 _ _ ?_
 refine Z9 (fun K11 hK11 => ?_)
 refine Z10 rfl ?_
 refine wp_skip ?_
 refine hK11 _ _ ?_
 refine Z9 (fun K12 hK12 => ?_)
 refine wp_block ?_
 refine Z9 (fun K13 hK13 => ?_)
 refine Z13 ?_
 refine Z17 (v := .int .i64 0) (by rfl) (by rfl) (by rfl) ?_
 simp only [Z12, Z5]
 refine Z18 (v := .int .i64 0) (by rfl) (by rfl) (by rfl) ?_
 simp only [Z12, Z5]
 refine Z14 (Z15 ?_)
 refine hK13 _ _ ?_
 refine Z13 ?_
 refine Z17 (v := .int .u64 0) (by rfl) (by rfl) (by rfl) ?_
 simp only [Z12, Z5]
 refine Z16 6 (by rfl) (fun Lk hLk => ?_)
 simp only [Z6, Z7]
 refine Z20 (v := .int .u64 ((0 * 256 : Nat) : Int)) (by rfl) rfl rfl rfl (fun W => run_shl (m := 0) (n := 8) (by decide) ((wrap64N _).trans (congrArg _ (by have := byteN_lt l 0; have := byteN_lt l 1; have := byteN_lt l 2; have := byteN_lt l 3; have := byteN_lt l 4; have := byteN_lt l 5; have := byteN_lt l 6; omega))) W) ?_
 simp only [Z12, Z5]
 refine Z21 (v := .string (bs l)) (by rfl) rfl rfl ?_
 simp only [Z12, Z5]
 refine Z21 (v := .int .i64 0) (by rfl) rfl rfl ?_
 simp only [Z12, Z5]
 refine wpV_indexb (n := 0) (by omega) (by rfl) rfl rfl rfl Tryd.underlying9 ?_
 simp only [Z12, Z5]
 refine wpV_conv (d := .bool) (e := ((byteN l 0 : Nat) : Int)) (by rfl) rfl rfl (run_conv_int Tryd.underlying5 Tryd.underlying40 (by have := (byteN_lt l 0); rw [wrap_u64]; omega)) ?_
 simp only [Z12, Z5]
 refine Z20 (v := .int .u64 ((byteN l 0 : Nat) : Int)) (by rfl) rfl rfl rfl (fun W => run_or ((or8q (a := 0) (b := byteN l 0) (by decide) (byteN_lt l 0)).trans (by rw [Nat.zero_mul, Z1])) W) ?_
 simp only [Z12, Z5]
 refine Z19 (hLk _ (fun w16 Sw16 => ?_))
 clear hLk Lk
 simp only [Z6, Z7]
 replace M := M.sees Sw16
 refine Z18 (v := .int .u64 ((byteN l 0 : Nat) : Int)) (by rfl) (by rfl) (by rfl) ?_
 simp only [Z12, Z5]
 refine Z14 (Z15 ?_)
 refine hK12 _ _ ?_
 refine Z13 ?_
 refine Z16 1 (by rfl) (fun Lk hLk => ?_)
 simp only [Z6, Z7]
 refine Z20 (v := .int .i64 1) (by rfl) rfl rfl rfl (fun W => run_add (by decide) W) ?_
 simp only [Z12, Z5]
 refine Z19 (hLk _ (fun w18 Sw18 => ?_))
 clear hLk Lk
 simp only [Z6, Z7]
 replace M := M.sees Sw18
 refine Z17 (v := .int .i64 1) (by rfl) (by rfl) (by rfl) ?_
 simp only [Z12, Z5]
 refine Z14 (Z15 ?_)
 refine Z22 (Q := fun _ _ _ => True) ?_
 rw [rounds_succ]
 refine Z9 (fun K19 hK19 => ?_)
 refine Z13 ?_
 refine Z16 1 (by rfl) (fun Lk hLk => ?_)
 simp only [Z6, Z7]
 refine Z20 (v := .bool true) (by rfl) rfl rfl rfl (fun W => run_lss _ _ _ _ W) ?_
 simp only [Z12, Z5]
 refine Z19 (hLk _ (fun w21 Sw21 => ?_))
 clear hLk Lk
 simp only [Z6, Z7]
 replace M := M.sees Sw21
 refine Z14 (Z15 ?_)
 refine hK19 _ _ ?_
 refine Z9 (fun K22 hK22 => ?_)
 refine Z10 rfl ?_
 refine wp_skip ?_
 refine hK22 _ _ ?_
 refine Z9 (fun K23 hK23 => ?_)
 refine wp_block ?_
 refine Z9 (fun K24 hK24 => ?_)
 refine Z13 ?_
 refine Z17 (v := .int .i64 1) (by rfl) (by rfl) (by rfl) ?_
 simp only [Z12, Z5]
 refine Z18 (v := .int .i64 1) (by rfl) (by rfl) (by rfl) ?_
 simp only [Z12, Z5]
 refine Z14 (Z15 ?_)
 refine hK24 _ _ ?_
 refine Z13 ?_
 refine Z17 (v := .int .u64 ((byteN l 0 : Nat) : Int)) (by rfl) (by rfl) (by rfl) ?_
 simp only [Z12, Z5]
 refine Z16 6 (by rfl) (fun Lk hLk => ?_)
 simp only [Z6, Z7]
 refine Z20 (v := .int .u64 (((byteN l 0) * 256 : Nat) : Int)) (by rfl) rfl rfl rfl (fun W => run_shl (m := byteN l 0) (n := 8) (by decide) ((wrap64N _).trans (congrArg _ (by have := byteN_lt l 0; have := byteN_lt l 1; have := byteN_lt l 2; have := byteN_lt l 3; have := byteN_lt l 4; have := byteN_lt l 5; have := byteN_lt l 6; omega))) W) ?_
 simp only [Z12, Z5]
 refine Z21 (v := .string (bs l)) (by rfl) rfl rfl ?_
 simp only [Z12, Z5]
 refine Z21 (v := .int .i64 1) (by rfl) rfl rfl ?_
 simp only [Z12, Z5]
 refine wpV_indexb (n := 1) (by omega) (by rfl) rfl rfl rfl Tryd.underlying9 ?_
 simp only [Z12, Z5]
 refine wpV_conv (d := .bool) (e := ((byteN l 1 : Nat) : Int)) (by rfl) rfl rfl (run_conv_int Tryd.underlying5 Tryd.underlying40 (by have := (byteN_lt l 1); rw [wrap_u64]; omega)) ?_
 simp only [Z12, Z5]
 refine Z20 (v := .int .u64 ((byteN l 0 * 256 + byteN l 1 : Nat) : Int)) (by rfl) rfl rfl rfl (fun W => run_or (or8q (a := byteN l 0) (b := byteN l 1) (by have := byteN_lt l 0; have := byteN_lt l 1; have := byteN_lt l 2; have := byteN_lt l 3; have := byteN_lt l 4; have := byteN_lt l 5; have := byteN_lt l 6; omega) (byteN_lt l 1)) W) ?_
 simp only [Z12, Z5]
 refine Z19 (hLk _ (fun w27 Sw27 => ?_))
 clear hLk Lk
 simp only [Z6, Z7]
 replace M := M.sees Sw27
 refine Z18 (v := .int .u64 ((byteN l 0 * 256 + byteN l 1 : Nat) : Int)) (by rfl) (by rfl) (by rfl) ?_
 simp only [Z12, Z5]
 refine Z14 (Z15 ?_)
 refine hK23 _ _ ?_
 refine Z13 ?_
 refine Z16 1 (by rfl) (fun Lk hLk => ?_)
 simp only [Z6, Z7]
 refine Z20 (v := .int .i64 2) (by rfl) rfl rfl rfl (fun W => run_add (by decide) W) ?_
 simp only [Z12, Z5]
 refine Z19 (hLk _ (fun w29 Sw29 => ?_))
 clear hLk Lk
 simp only [Z6, Z7]
 replace M := M.sees Sw29
 refine Z17 (v := .int .i64 2) (by rfl) (by rfl) (by rfl) ?_
 simp only [Z12, Z5]
 refine Z14 (Z15 ?_)
 refine Z22 (Q := fun _ _ _ => True) ?_
 rw [rounds_succ]
 refine Z9 (fun K30 hK30 => ?_)
 refine Z13 ?_
 refine Z16 1 (by rfl) (fun Lk hLk => ?_)
 simp only [Z6, Z7]
 refine Z20 (v := .bool true) (by rfl) rfl rfl rfl (fun W => run_lss _ _ _ _ W) ?_
 simp only [Z12, Z5]
 refine Z19 (hLk _ (fun w32 Sw32 => ?_))
 clear hLk Lk
 simp only [Z6, Z7]
 replace M := M.sees Sw32
 refine Z14 (Z15 ?_)
 refine hK30 _ _ ?_
 refine Z9 (fun K33 hK33 => ?_)
 refine Z10 rfl ?_
 refine wp_skip ?_
 refine hK33 _ _ ?_
 refine Z9 (fun K34 hK34 => ?_)
 refine wp_block ?_
 refine Z9 (fun K35 hK35 => ?_)
 refine Z13 ?_
 refine Z17 (v := .int .i64 2) (by rfl) (by rfl) (by rfl) ?_
 simp only [Z12, Z5]
 refine Z18 (v := .int .i64 2) (by rfl) (by rfl) (by rfl) ?_
 simp only [Z12, Z5]
 refine Z14 (Z15 ?_)
 refine hK35 _ _ ?_
 refine Z13 ?_
 refine Z17 (v := .int .u64 ((byteN l 0 * 256 + byteN l 1 : Nat) : Int)) (by rfl) (by rfl) (by rfl) ?_
 simp only [Z12, Z5]
 refine Z16 6 (by rfl) (fun Lk hLk => ?_)
 simp only [Z6, Z7]
 refine Z20 (v := .int .u64 (((byteN l 0 * 256 + byteN l 1) * 256 : Nat) : Int)) (by rfl) rfl rfl rfl (fun W => run_shl (m := byteN l 0 * 256 + byteN l 1) (n := 8) (by decide) ((wrap64N _).trans (congrArg _ (by have := byteN_lt l 0; have := byteN_lt l 1; have := byteN_lt l 2; have := byteN_lt l 3; have := byteN_lt l 4; have := byteN_lt l 5; have := byteN_lt l 6; omega))) W) ?_
 simp only [Z12, Z5]
 refine Z21 (v := .string (bs l)) (by rfl) rfl rfl ?_
 simp only [Z12, Z5]
 refine Z21 (v := .int .i64 2) (by rfl) rfl rfl ?_
 simp only [Z12, Z5]
 refine wpV_indexb (n := 2) (by omega) (by rfl) rfl rfl rfl Tryd.underlying9 ?_
 simp only [Z12, Z5]
 refine wpV_conv (d := .bool) (e := ((byteN l 2 : Nat) : Int)) (by rfl) rfl rfl (run_conv_int Tryd.underlying5 Tryd.underlying40 (by have := (byteN_lt l 2); rw [wrap_u64]; omega)) ?_
 simp only [Z12, Z5]
 refine Z20 (v := .int .u64 (((byteN l 0 * 256 + byteN l 1) * 256 + byteN l 2 : Nat) : Int)) (by rfl) rfl rfl rfl (fun W => run_or (or8q (a := byteN l 0 * 256 + byteN l 1) (b := byteN l 2) (by have := byteN_lt l 0; have := byteN_lt l 1; have := byteN_lt l 2; have := byteN_lt l 3; have := byteN_lt l 4; have := byteN_lt l 5; have := byteN_lt l 6; omega) (byteN_lt l 2)) W) ?_
 simp only [Z12, Z5]
 refine Z19 (hLk _ (fun w38 Sw38 => ?_))
 clear hLk Lk
 simp only [Z6, Z7]
 replace M := M.sees Sw38
 refine Z18 (v := .int .u64 (((byteN l 0 * 256 + byteN l 1) * 256 + byteN l 2 : Nat) : Int)) (by rfl) (by rfl) (by rfl) ?_
 simp only [Z12, Z5]
 refine Z14 (Z15 ?_)
 refine hK34 _ _ ?_
 refine Z13 ?_
 refine Z16 1 (by rfl) (fun Lk hLk => ?_)
 simp only [Z6, Z7]
 refine Z20 (v := .int .i64 3) (by rfl) rfl rfl rfl (fun W => run_add (by decide) W) ?_
 simp only [Z12, Z5]
 refine Z19 (hLk _ (fun w40 Sw40 => ?_))
 clear hLk Lk
 simp only [Z6, Z7]
 replace M := M.sees Sw40
 refine Z17 (v := .int .i64 3) (by rfl) (by rfl) (by rfl) ?_
 simp only [Z12, Z5]
 refine Z14 (Z15 ?_)
 refine Z22 (Q := fun _ _ _ => True) ?_
 rw [rounds_succ]
 refine Z9 (fun K41 hK41 => ?_)
 refine Z13 ?_
 refine Z16 1 (by rfl) (fun Lk hLk => ?_)
 simp only [Z6, Z7]
 refine Z20 (v := .bool true) (by rfl) rfl rfl rfl (fun W => run_lss _ _ _ _ W) ?_
 simp only [Z12, Z5]
 refine Z19 (hLk _ (fun w43 Sw43 => ?_))
 clear hLk Lk
 simp only [Z6, Z7]
 replace M := M.sees Sw43
 refine Z14 (Z15 ?_)
 refine hK41 _ _ ?_
 refine Z9 (fun K44 hK44 => ?_)
 refine Z10 rfl ?_
 refine wp_skip ?_
 refine hK44 _ _ ?_
 refine Z9 (fun K45 hK45 => ?_)
 refine wp_block ?_
 refine Z9 (fun K46 hK46 => ?_)
 refine Z13 ?_
 refine Z17 (v := .int .i64 3) (by rfl) (by rfl) (by rfl) ?_
 simp only [Z12, Z5]
 refine Z18 (v := .int .i64 3) (by rfl) (by rfl) (by rfl) ?_
 simp only [Z12, Z5]
 refine Z14 (Z15 ?_)
 refine hK46 _ _ ?_
 refine Z13 ?_
 refine Z17 (v := .int .u64 (((byteN l 0 * 256 + byteN l 1) * 256 + byteN l 2 : Nat) : Int)) (by rfl) (by rfl) (by rfl) ?_
 simp only [Z12, Z5]
 refine Z16 6 (by rfl) (fun Lk hLk => ?_)
 simp only [Z6, Z7]
 refine Z20 (v := .int .u64 ((((byteN l 0 * 256 + byteN l 1) * 256 + byteN l 2) * 256 : Nat) : Int)) (by rfl) rfl rfl rfl (fun W => run_shl (m := (byteN l 0 * 256 + byteN l 1) * 256 + byteN l 2) (n := 8) (by decide) ((wrap64N _).trans (congrArg _ (by have := byteN_lt l 0; have := byteN_lt l 1; have := byteN_lt l 2; have := byteN_lt l 3; have := byteN_lt l 4; have := byteN_lt l 5; have := byteN_lt l 6; omega))) W) ?_
 simp only [Z12, Z5]
 refine Z21 (v := .string (bs l)) (by rfl) rfl rfl ?_
 simp only [Z12, Z5]
 refine Z21 (v := .int .i64 3) (by rfl) rfl rfl ?_
 simp only [Z12, Z5]
 refine wpV_indexb (n := 3) (by omega) (by rfl) rfl rfl rfl Tryd.underlying9 ?_
 simp only [Z12, Z5]
 refine wpV_conv (d := .bool) (e := ((byteN l 3 : Nat) : Int)) (by rfl) rfl rfl (run_conv_int Tryd.underlying5 Tryd.underlying40 (by have := (byteN_lt l 3); rw [wrap_u64]; omega)) ?_
 simp only [Z12, Z5]
 refine Z20 (v := .int .u64 ((((byteN l 0 * 256 + byteN l 1) * 256 + byteN l 2) * 256 + byteN l 3 : Nat) : Int)) (by rfl) rfl rfl rfl (fun W => run_or (or8q (a := (byteN l 0 * 256 + byteN l 1) * 256 + byteN l 2) (b := byteN l 3) (by have := byteN_lt l 0; have := byteN_lt l 1; have := byteN_lt l 2; have := byteN_lt l 3; have := byteN_lt l 4; have := byteN_lt l 5; have := byteN_lt l 6; omega) (byteN_lt l 3)) W) ?_
 simp only [Z12, Z5]
 refine Z19 (hLk _ (fun w49 Sw49 => ?_))
 clear hLk Lk
 simp only [Z6, Z7]
 replace M := M.sees Sw49
 refine Z18 (v := .int .u64 ((((byteN l 0 * 256 + byteN l 1) * 256 + byteN l 2) * 256 + byteN l 3 : Nat) : Int)) (by rfl) (by rfl) (by rfl) ?_
 simp only [Z12, Z5]
 refine Z14 (Z15 ?_)
 refine hK45 _ _ ?_
 refine Z13 ?_
 refine Z16 1 (by rfl) (fun Lk hLk => ?_)
 simp only [Z6, Z7]
 refine Z20 (v := .int .i64 4) (by rfl) rfl rfl rfl (fun W => run_add (by decide) W) ?_
 simp only [Z12, Z5]
 refine Z19 (hLk _ (fun w51 Sw51 => ?_))
 clear hLk Lk
 simp only [Z6, Z7]
 replace M := M.sees Sw51
 refine Z17 (v := .int .i64 4) (by rfl) (by rfl) (by rfl) ?_
 simp only [Z12, Z5]
 refine Z14 (Z15 ?_)
 refine Z22 (Q := fun _ _ _ => True) ?_
 rw [rounds_succ]
 refine Z9 (fun K52 hK52 => ?_)
 refine Z13 ?_
 refine Z16 1 (by rfl) (fun Lk hLk => ?_)
 simp only [Z6, Z7]
 refine Z20 (v := .bool true) (by rfl) rfl rfl rfl (fun W => run_lss _ _ _ _ W) ?_
 simp only [Z12, Z5]
 refine Z19 (hLk _ (fun w54 Sw54 => ?_))
 clear hLk Lk
 simp only [Z6, Z7]
 replace M := M.sees Sw54
 refine Z14 (Z15 ?_)
 refine hK52 _ _ ?_
 refine Z9 (fun K55 hK55 => ?_)
 refine Z10 rfl ?_
 refine wp_skip ?_
 refine hK55 _ _ ?_
 refine Z9 (fun K56 hK56 => ?_)
 refine wp_block ?_
 refine Z9 (fun K57 hK57 => ?_)
 refine Z13 ?_
 refine Z17 (v := .int .i64 4) (by rfl) (by rfl) (by rfl) ?_
 simp only [Z12, Z5]
 refine Z18 (v := .int .i64 4) (by rfl) (by rfl) (by rfl) ?_
 simp only [Z12, Z5]
 refine Z14 (Z15 ?_)
 refine hK57 _ _ ?_
 refine Z13 ?_
 refine Z17 (v := .int .u64 ((((byteN l 0 * 256 + byteN l 1) * 256 + byteN l 2) * 256 + byteN l 3 : Nat) : Int)) (by rfl) (by rfl) (by rfl) ?_
 simp only [Z12, Z5]
 refine Z16 6 (by rfl) (fun Lk hLk => ?_)
 simp only [Z6, Z7]
 refine Z20 (v := .int .u64 (((((byteN l 0 * 256 + byteN l 1) * 256 + byteN l 2) * 256 + byteN l 3) * 256 : Nat) : Int)) (by rfl) rfl rfl rfl (fun W => run_shl (m := ((byteN l 0 * 256 + byteN l 1) * 256 + byteN l 2) * 256 + byteN l 3) (n := 8) (by decide) ((wrap64N _).trans (congrArg _ (by have := byteN_lt l 0; have := byteN_lt l 1; have := byteN_lt l 2; have := byteN_lt l 3; have := byteN_lt l 4; have := byteN_lt l 5; have := byteN_lt l 6; omega))) W) ?_
 simp only [Z12, Z5]
 refine Z21 (v := .string (bs l)) (by rfl) rfl rfl ?_
 simp only [Z12, Z5]
 refine Z21 (v := .int .i64 4) (by rfl) rfl rfl ?_
 simp only [Z12, Z5]
 refine wpV_indexb (n := 4) (by omega) (by rfl) rfl rfl rfl Tryd.underlying9 ?_
 simp only [Z12, Z5]
 refine wpV_conv (d := .bool) (e := ((byteN l 4 : Nat) : Int)) (by rfl) rfl rfl (run_conv_int Tryd.underlying5 Tryd.underlying40 (by have := (byteN_lt l 4); rw [wrap_u64]; omega)) ?_
 simp only [Z12, Z5]
 refine Z20 (v := .int .u64 (((((byteN l 0 * 256 + byteN l 1) * 256 + byteN l 2) * 256 + byteN l 3) * 256 + byteN l 4 : Nat) : Int)) (by rfl) rfl rfl rfl (fun W => run_or (or8q (a := ((byteN l 0 * 256 + byteN l 1) * 256 + byteN l 2) * 256 + byteN l 3) (b := byteN l 4) (by have := byteN_lt l 0; have := byteN_lt l 1; have := byteN_lt l 2; have := byteN_lt l 3; have := byteN_lt l 4; have := byteN_lt l 5; have := byteN_lt l 6; omega) (byteN_lt l 4)) W) ?_
 simp only [Z12, Z5]
 refine Z19 (hLk _ (fun w60 Sw60 => ?_))
 clear hLk Lk
 simp only [Z6, Z7]
 replace M := M.sees Sw60
 refine Z18 (v := .int .u64 (((((byteN l 0 * 256 + byteN l 1) * 256 + byteN l 2) * 256 + byteN l 3) * 256 + byteN l 4 : Nat) : Int)) (by rfl) (by rfl) (by rfl) ?_
 simp only [Z12, Z5]
 refine Z14 (Z15 ?_)
 refine hK56 _ _ ?_
 refine Z13 ?_
 refine Z16 1 (by rfl) (fun Lk hLk => ?_)
 simp only [Z6, Z7]
 refine Z20 (v := .int .i64 5) (by rfl) rfl rfl rfl (fun W => run_add (by decide) W) ?_
 simp only [Z12, Z5]
 refine Z19 (hLk _ (fun w62 Sw62 => ?_))
 clear hLk Lk
 simp only [Z6, Z7]
 replace M := M.sees Sw62
 refine Z17 (v := .int .i64 5) (by rfl) (by rfl) (by rfl) ?_
 simp only [Z12, Z5]
 refine Z14 (Z15 ?_)
 refine Z22 (Q := fun _ _ _ => True) ?_
 rw [rounds_succ]
 refine Z9 (fun K63 hK63 => ?_)
 refine Z13 ?_
 refine Z16 1 (by rfl) (fun Lk hLk => ?_)
 simp only [Z6, Z7]
 refine Z20 (v := .bool true) (by rfl) rfl rfl rfl (fun W => run_lss _ _ _ _ W) ?_
 simp only [Z12, Z5]
 refine Z19 (hLk _ (fun w65 Sw65 => ?_))
 clear hLk Lk
 simp only [Z6, Z7]
 replace M := M.sees Sw65
 refine Z14 (Z15 ?_)
 refine hK63 _ _ ?_
 refine Z9 (fun K66 hK66 => ?_)
 refine Z10 rfl ?_
 refine wp_skip ?_
 refine hK66 _ _ ?_
 refine Z9 (fun K67 hK67 => ?_)
 refine wp_block ?_
 refine Z9 (fun K68 hK68 => ?_)
 refine Z13 ?_
 refine Z17 (v := .int .i64 5) (by rfl) (by rfl) (by rfl) ?_
 simp only [Z12, Z5]
 refine Z18 (v := .int .i64 5) (by rfl) (by rfl) (by rfl) ?_
 simp only [Z12, Z5]
 refine Z14 (Z15 ?_)
 refine hK68 _ _ ?_
 refine Z13 ?_
 refine Z17 (v := .int .u64 (((((byteN l 0 * 256 + byteN l 1) * 256 + byteN l 2) * 256 + byteN l 3) * 256 + byteN l 4 : Nat) : Int)) (by rfl) (by rfl) (by rfl) ?_
 simp only [Z12, Z5]
 refine Z16 6 (by rfl) (fun Lk hLk => ?_)
 simp only [Z6, Z7]
 refine Z20 (v := .int .u64 ((((((byteN l 0 * 256 + byteN l 1) * 256 + byteN l 2) * 256 + byteN l 3) * 256 + byteN l 4) * 256 : Nat) : Int)) (by rfl) rfl rfl rfl (fun W => run_shl (m := (((byteN l 0 * 256 + byteN l 1) * 256 + byteN l 2) * 256 + byteN l 3) * 256 + byteN l 4) (n := 8) (by decide) ((wrap64N _).trans (congrArg _ (by have := byteN_lt l 0; have := byteN_lt l 1; have := byteN_lt l 2; have := byteN_lt l 3; have := byteN_lt l 4; have := byteN_lt l 5; have := byteN_lt l 6; omega))) W) ?_
 simp only [Z12, Z5]
 refine Z21 (v := .string (bs l)) (by rfl) rfl rfl ?_
 simp only [Z12, Z5]
 refine Z21 (v := .int .i64 5) (by rfl) rfl rfl ?_
 simp only [Z12, Z5]
 refine wpV_indexb (n := 5) (by omega) (by rfl) rfl rfl rfl Tryd.underlying9 ?_
 simp only [Z12, Z5]
 refine wpV_conv (d := .bool) (e := ((byteN l 5 : Nat) : Int)) (by rfl) rfl rfl (run_conv_int Tryd.underlying5 Tryd.underlying40 (by have := (byteN_lt l 5); rw [wrap_u64]; omega)) ?_
 simp only [Z12, Z5]
 refine Z20 (v := .int .u64 ((((((byteN l 0 * 256 + byteN l 1) * 256 + byteN l 2) * 256 + byteN l 3) * 256 + byteN l 4) * 256 + byteN l 5 : Nat) : Int)) (by rfl) rfl rfl rfl (fun W => run_or (or8q (a := (((byteN l 0 * 256 + byteN l 1) * 256 + byteN l 2) * 256 + byteN l 3) * 256 + byteN l 4) (b := byteN l 5) (by have := byteN_lt l 0; have := byteN_lt l 1; have := byteN_lt l 2; have := byteN_lt l 3; have := byteN_lt l 4; have := byteN_lt l 5; have := byteN_lt l 6; omega) (byteN_lt l 5)) W) ?_
 simp only [Z12, Z5]
 refine Z19 (hLk _ (fun w71 Sw71 => ?_))
 clear hLk Lk
 simp only [Z6, Z7]
 replace M := M.sees Sw71
 refine Z18 (v := .int .u64 ((((((byteN l 0 * 256 + byteN l 1) * 256 + byteN l 2) * 256 + byteN l 3) * 256 + byteN l 4) * 256 + byteN l 5 : Nat) : Int)) (by rfl) (by rfl) (by rfl) ?_
 simp only [Z12, Z5]
 refine Z14 (Z15 ?_)
 refine hK67 _ _ ?_
 refine Z13 ?_
 refine Z16 1 (by rfl) (fun Lk hLk => ?_)
 simp only [Z6, Z7]
 refine Z20 (v := .int .i64 6) (by rfl) rfl rfl rfl (fun W => run_add (by decide) W) ?_
 simp only [Z12, Z5]
 refine Z19 (hLk _ (fun w73 Sw73 => ?_))
 clear hLk Lk
 simp only [Z6, Z7]
 replace M := M.sees Sw73
 refine Z17 (v := .int .i64 6) (by rfl) (by rfl) (by rfl) ?_
 simp only [Z12, Z5]
 refine Z14 (Z15 ?_)
 refine Z22 (Q := fun _ _ _ => True) ?_
 rw [rounds_succ]
 refine Z9 (fun K74 hK74 => ?_)
 refine Z13 ?_
 refine Z16 1 (by rfl) (fun Lk hLk => ?_)
 simp only [Z6, Z7]
 refine Z20 (v := .bool true) (by rfl) rfl rfl rfl (fun W => run_lss _ _ _ _ W) ?_
 simp only [Z12, Z5]
 refine Z19 (hLk _ (fun w76 Sw76 => ?_))
 clear hLk Lk
 simp only [Z6, Z7]
 replace M := M.sees Sw76
 refine Z14 (Z15 ?_)
 refine hK74 _ _ ?_
 refine Z9 (fun K77 hK77 => ?_)
 refine Z10 rfl ?_
 refine wp_skip ?_
 refine hK77 _ _ ?_
 refine Z9 (fun K78 hK78 => ?_)
 refine wp_block ?_
 refine Z9 (fun K79 hK79 => ?_)
 refine Z13 ?_
 refine Z17 (v := .int .i64 6) (by rfl) (by rfl) (by rfl) ?_
 simp only [Z12, Z5]
 refine Z18 (v := .int .i64 6) (by rfl) (by rfl) (by rfl) ?_
 simp only [Z12, Z5]
 refine Z14 (Z15 ?_)
 refine hK79 _ _ ?_
 refine Z13 ?_
 refine Z17 (v := .int .u64 ((((((byteN l 0 * 256 + byteN l 1) * 256 + byteN l 2) * 256 + byteN l 3) * 256 + byteN l 4) * 256 + byteN l 5 : Nat) : Int)) (by rfl) (by rfl) (by rfl) ?_
 simp only [Z12, Z5]
 refine Z16 6 (by rfl) (fun Lk hLk => ?_)
 simp only [Z6, Z7]
 refine Z20 (v := .int .u64 (((((((byteN l 0 * 256 + byteN l 1) * 256 + byteN l 2) * 256 + byteN l 3) * 256 + byteN l 4) * 256 + byteN l 5) * 256 : Nat) : Int)) (by rfl) rfl rfl rfl (fun W => run_shl (m := ((((byteN l 0 * 256 + byteN l 1) * 256 + byteN l 2) * 256 + byteN l 3) * 256 + byteN l 4) * 256 + byteN l 5) (n := 8) (by decide) ((wrap64N _).trans (congrArg _ (by have := byteN_lt l 0; have := byteN_lt l 1; have := byteN_lt l 2; have := byteN_lt l 3; have := byteN_lt l 4; have := byteN_lt l 5; have := byteN_lt l 6; omega))) W) ?_
 simp only [Z12, Z5]
 refine Z21 (v := .string (bs l)) (by rfl) rfl rfl ?_
 simp only [Z12, Z5]
 refine Z21 (v := .int .i64 6) (by rfl) rfl rfl ?_
 simp only [Z12, Z5]
 refine wpV_indexb (n := 6) (by omega) (by rfl) rfl rfl rfl Tryd.underlying9 ?_
 simp only [Z12, Z5]
 refine wpV_conv (d := .bool) (e := ((byteN l 6 : Nat) : Int)) (by rfl) rfl rfl (run_conv_int Tryd.underlying5 Tryd.underlying40 (by have := (byteN_lt l 6); rw [wrap_u64]; omega)) ?_
 simp only [Z12, Z5]
 refine Z20 (v := .int .u64 (((((((byteN l 0 * 256 + byteN l 1) * 256 + byteN l 2) * 256 + byteN l 3) * 256 + byteN l 4) * 256 + byteN l 5) * 256 + byteN l 6 : Nat) : Int)) (by rfl) rfl rfl rfl (fun W => run_or (or8q (a := ((((byteN l 0 * 256 + byteN l 1) * 256 + byteN l 2) * 256 + byteN l 3) * 256 + byteN l 4) * 256 + byteN l 5) (b := byteN l 6) (by have := byteN_lt l 0; have := byteN_lt l 1; have := byteN_lt l 2; have := byteN_lt l 3; have := byteN_lt l 4; have := byteN_lt l 5; have := byteN_lt l 6; omega) (byteN_lt l 6)) W) ?_
 simp only [Z12, Z5]
 refine Z19 (hLk _ (fun w82 Sw82 => ?_))
 clear hLk Lk
 simp only [Z6, Z7]
 replace M := M.sees Sw82
 refine Z18 (v := .int .u64 (((((((byteN l 0 * 256 + byteN l 1) * 256 + byteN l 2) * 256 + byteN l 3) * 256 + byteN l 4) * 256 + byteN l 5) * 256 + byteN l 6 : Nat) : Int)) (by rfl) (by rfl) (by rfl) ?_
 simp only [Z12, Z5]
 refine Z14 (Z15 ?_)
 refine hK78 _ _ ?_
 refine Z13 ?_
 refine Z16 1 (by rfl) (fun Lk hLk => ?_)
 simp only [Z6, Z7]
 refine Z20 (v := .int .i64 7) (by rfl) rfl rfl rfl (fun W => run_add (by decide) W) ?_
 simp only [Z12, Z5]
 refine Z19 (hLk _ (fun w84 Sw84 => ?_))
 clear hLk Lk
 simp only [Z6, Z7]
 replace M := M.sees Sw84
 refine Z17 (v := .int .i64 7) (by rfl) (by rfl) (by rfl) ?_
 simp only [Z12, Z5]
 refine Z14 (Z15 ?_)
 refine Z22 (Q := fun _ _ _ => True) ?_
 rw [rounds_succ]
 refine Z9 (fun K85 hK85 => ?_)
 refine Z13 ?_
 refine Z16 1 (by rfl) (fun Lk hLk => ?_)
 simp only [Z6, Z7]
 refine Z20 (v := .bool true) (by rfl) rfl rfl rfl (fun W => run_lss _ _ _ _ W) ?_
 simp only [Z12, Z5]
 refine Z19 (hLk _ (fun w87 Sw87 => ?_))
 clear hLk Lk
 simp only [Z6, Z7]
 replace M := M.sees Sw87
 refine Z14 (Z15 ?_)
 refine hK85 _ _ ?_
 refine Z9 (fun K88 hK88 => ?_)
 refine Z10 rfl ?_
 refine wp_skip ?_
 refine hK88 _ _ ?_
 refine Z9 (fun K89 hK89 => ?_)
 refine wp_block ?_
 refine Z9 (fun K90 hK90 => ?_)
 refine Z13 ?_
 refine Z17 (v := .int .i64 7) (by rfl) (by rfl) (by rfl) ?_
 simp only [Z12, Z5]
 refine Z18 (v := .int .i64 7) (by rfl) (by rfl) (by rfl) ?_
 simp only [Z12, Z5]
 refine Z14 (Z15 ?_)
 refine hK90 _ _ ?_
 refine Z13 ?_
 refine Z17 (v := .int .u64 (((((((byteN l 0 * 256 + byteN l 1) * 256 + byteN l 2) * 256 + byteN l 3) * 256 + byteN l 4) * 256 + byteN l 5) * 256 + byteN l 6 : Nat) : Int)) (by rfl) (by rfl) (by rfl) ?_
 simp only [Z12, Z5]
 refine Z16 6 (by rfl) (fun Lk hLk => ?_)
 simp only [Z6, Z7]
 refine Z20 (v := .int .u64 ((((((((byteN l 0 * 256 + byteN l 1) * 256 + byteN l 2) * 256 + byteN l 3) * 256 + byteN l 4) * 256 + byteN l 5) * 256 + byteN l 6) * 256 : Nat) : Int)) (by rfl) rfl rfl rfl (fun W => run_shl (m := (((((byteN l 0 * 256 + byteN l 1) * 256 + byteN l 2) * 256 + byteN l 3) * 256 + byteN l 4) * 256 + byteN l 5) * 256 + byteN l 6) (n := 8) (by decide) ((wrap64N _).trans (congrArg _ (by have := byteN_lt l 0; have := byteN_lt l 1; have := byteN_lt l 2; have := byteN_lt l 3; have := byteN_lt l 4; have := byteN_lt l 5; have := byteN_lt l 6; omega))) W) ?_
 simp only [Z12, Z5]
 refine Z21 (v := .string (bs l)) (by rfl) rfl rfl ?_
 simp only [Z12, Z5]
 refine Z21 (v := .int .i64 7) (by rfl) rfl rfl ?_
 simp only [Z12, Z5]
 refine wpV_indexb (n := 7) (by omega) (by rfl) rfl rfl rfl Tryd.underlying9 ?_
 simp only [Z12, Z5]
 refine wpV_conv (d := .bool) (e := ((byteN l 7 : Nat) : Int)) (by rfl) rfl rfl (run_conv_int Tryd.underlying5 Tryd.underlying40 (by have := (byteN_lt l 7); rw [wrap_u64]; omega)) ?_
 simp only [Z12, Z5]
 refine Z20 (v := .int .u64 ((be4q l 0 : Nat) : Int)) (by rfl) rfl rfl rfl (fun W => run_or (or8q (a := (((((byteN l 0 * 256 + byteN l 1) * 256 + byteN l 2) * 256 + byteN l 3) * 256 + byteN l 4) * 256 + byteN l 5) * 256 + byteN l 6) (b := byteN l 7) (by have := byteN_lt l 0; have := byteN_lt l 1; have := byteN_lt l 2; have := byteN_lt l 3; have := byteN_lt l 4; have := byteN_lt l 5; have := byteN_lt l 6; omega) (byteN_lt l 7)) W) ?_
 simp only [Z12, Z5]
 refine Z19 (hLk _ (fun w93 Sw93 => ?_))
 clear hLk Lk
 simp only [Z6, Z7]
 replace M := M.sees Sw93
 refine Z18 (v := .int .u64 ((be4q l 0 : Nat) : Int)) (by rfl) (by rfl) (by rfl) ?_
 simp only [Z12, Z5]
 refine Z14 (Z15 ?_)
 refine hK89 _ _ ?_
 refine Z13 ?_
 refine Z16 1 (by rfl) (fun Lk hLk => ?_)
 simp only [Z6, Z7]
 refine Z20 (v := .int .i64 8) (by rfl) rfl rfl rfl (fun W => run_add (by decide) W) ?_
 simp only [Z12, Z5]
 refine Z19 (hLk _ (fun w95 Sw95 => ?_))
 clear hLk Lk
 simp only [Z6, Z7]
 replace M := M.sees Sw95
 refine Z17 (v := .int .i64 8) (by rfl) (by rfl) (by rfl) ?_
 simp only [Z12, Z5]
 refine Z14 (Z15 ?_)
 refine Z22 (Q := fun _ _ _ => True) ?_
 rw [rounds_succ]
 refine Z9 (fun K96 hK96 => ?_)
 refine Z13 ?_
 refine Z16 1 (by rfl) (fun Lk hLk => ?_)
 simp only [Z6, Z7]
 refine Z20 (v := .bool false) (by rfl) rfl rfl rfl (fun W => run_lss _ _ _ _ W) ?_
 simp only [Z12, Z5]
 refine Z19 (hLk _ (fun w98 Sw98 => ?_))
 clear hLk Lk
 simp only [Z6, Z7]
 replace M := M.sees Sw98
 refine Z14 (Z15 ?_)
 refine hK96 _ _ ?_
 refine Z9 (fun K99 hK99 => ?_)
 refine Z11 rfl ?_
 refine wp_exit ?_
 refine hK5 _ _ ?_
 refine Z9 (fun K100 hK100 => ?_)
 refine Z13 ?_
 refine Z17 (v := .int .u64 ((be4q l 0 : Nat) : Int)) (by rfl) (by rfl) (by rfl) ?_
 simp only [Z12, Z5]
 refine Z18 (v := .int .u64 ((be4q l 0 : Nat) : Int)) (by rfl) (by rfl) (by rfl) ?_
 simp only [Z12, Z5]
 refine Z14 (Z15 ?_)
 refine hK100 _ _ ?_
 refine wp_ret ?_
 repeat (first | with_reducible refine then_ret ?_ | with_reducible refine inblock_ret ?_)
 refine bodyPost_ret (v := .int .u64 ((be4q l 0 : Nat) : Int)) (res1 rfl (.tmp (by rfl))) rfl ?_
 have BE := M.below
 exact ⟨rfl, BE⟩
set_option maxHeartbeats 2000000 in
theorem spread_cq {l : List UInt8} {w : World} (hl : 128 ≤ l.length) :
  Calls Tryd.prog 159 #[.string (bs l)] w fun e w' => e = .returned (.agg (wcellsq l 80).toArray) ∧ Below w.heap.size w w' := by
 go_enter Tryd.func159, Tryd.ntmps159
 have M := Mem.start w
 refine Z9 (fun K1 hK1 => ?_)
 refine Z13 ?_
 refine Z36 (t := 201) (cs := [.int .u64 0, .int .u64 0, .int .u64 0, .int .u64 0, .int .u64 0, .int .u64 0, .int .u64 0, .int .u64 0, .int .u64 0, .int .u64 0, .int .u64 0, .int .u64 0, .int .u64 0, .int .u64 0, .int .u64 0, .int .u64 0, .int .u64 0, .int .u64 0, .int .u64 0, .int .u64 0, .int .u64 0, .int .u64 0, .int .u64 0, .int .u64 0, .int .u64 0, .int .u64 0, .int .u64 0, .int .u64 0, .int .u64 0, .int .u64 0, .int .u64 0, .int .u64 0, .int .u64 0, .int .u64 0, .int .u64 0, .int .u64 0, .int .u64 0, .int .u64 0, .int .u64 0, .int .u64 0, .int .u64 0, .int .u64 0, .int .u64 0, .int .u64 0, .int .u64 0, .int .u64 0, .int .u64 0, .int .u64 0, .int .u64 0, .int .u64 0, .int .u64 0, .int .u64 0, .int .u64 0, .int .u64 0, .int .u64 0, .int .u64 0, .int .u64 0, .int .u64 0, .int .u64 0, .int .u64 0, .int .u64 0, .int .u64 0, .int .u64 0, .int .u64 0, .int .u64 0, .int .u64 0, .int .u64 0, .int .u64 0, .int .u64 0, .int .u64 0, .int .u64 0, .int .u64 0, .int .u64 0, .int .u64 0, .int .u64 0, .int .u64 0, .int .u64 0, .int .u64 0, .int .u64 0, .int .u64 0]) (by rfl) (fun W => ?_) (fun g3 w4 Sw4 Hg3 Bg3 => ?_)
 ·
  (go_simp <;> rfl)
 replace M := ((M.sees Sw4).add (N := 80) (cs := [.int .u64 0, .int .u64 0, .int .u64 0, .int .u64 0, .int .u64 0, .int .u64 0, .int .u64 0, .int .u64 0, .int .u64 0, .int .u64 0, .int .u64 0, .int .u64 0, .int .u64 0, .int .u64 0, .int .u64 0, .int .u64 0, .int .u64 0, .int .u64 0, .int .u64 0, .int .u64 0, .int .u64 0, .int .u64 0, .int .u64 0, .int .u64 0, .int .u64 0, .int .u64 0, .int .u64 0, .int .u64 0, .int .u64 0, .int .u64 0, .int .u64 0, .int .u64 0, .int .u64 0, .int .u64 0, .int .u64 0, .int .u64 0, .int .u64 0, .int .u64 0, .int .u64 0, .int .u64 0, .int .u64 0, .int .u64 0, .int .u64 0, .int .u64 0, .int .u64 0, .int .u64 0, .int .u64 0, .int .u64 0, .int .u64 0, .int .u64 0, .int .u64 0, .int .u64 0, .int .u64 0, .int .u64 0, .int .u64 0, .int .u64 0, .int .u64 0, .int .u64 0, .int .u64 0, .int .u64 0, .int .u64 0, .int .u64 0, .int .u64 0, .int .u64 0, .int .u64 0, .int .u64 0, .int .u64 0, .int .u64 0, .int .u64 0, .int .u64 0, .int .u64 0, .int .u64 0, .int .u64 0, .int .u64 0, .int .u64 0, .int .u64 0, .int .u64 0, .int .u64 0, .int .u64 0, .int .u64 0]) (M.ge Hg3) (M.fresh Hg3) Bg3 rfl)
 clear Bg3
 simp only [Z12, Z5]
 refine Z14 (Z15 ?_)
 refine hK1 _ _ ?_
 refine Z9 (fun K5 hK5 => ?_)
 refine Z13 ?_
 refine Z36 (t := 201) (cs := [.int .u64 0, .int .u64 0, .int .u64 0, .int .u64 0, .int .u64 0, .int .u64 0, .int .u64 0, .int .u64 0, .int .u64 0, .int .u64 0, .int .u64 0, .int .u64 0, .int .u64 0, .int .u64 0, .int .u64 0, .int .u64 0, .int .u64 0, .int .u64 0, .int .u64 0, .int .u64 0, .int .u64 0, .int .u64 0, .int .u64 0, .int .u64 0, .int .u64 0, .int .u64 0, .int .u64 0, .int .u64 0, .int .u64 0, .int .u64 0, .int .u64 0, .int .u64 0, .int .u64 0, .int .u64 0, .int .u64 0, .int .u64 0, .int .u64 0, .int .u64 0, .int .u64 0, .int .u64 0, .int .u64 0, .int .u64 0, .int .u64 0, .int .u64 0, .int .u64 0, .int .u64 0, .int .u64 0, .int .u64 0, .int .u64 0, .int .u64 0, .int .u64 0, .int .u64 0, .int .u64 0, .int .u64 0, .int .u64 0, .int .u64 0, .int .u64 0, .int .u64 0, .int .u64 0, .int .u64 0, .int .u64 0, .int .u64 0, .int .u64 0, .int .u64 0, .int .u64 0, .int .u64 0, .int .u64 0, .int .u64 0, .int .u64 0, .int .u64 0, .int .u64 0, .int .u64 0, .int .u64 0, .int .u64 0, .int .u64 0, .int .u64 0, .int .u64 0, .int .u64 0, .int .u64 0, .int .u64 0]) (by rfl) (fun W => ?_) (fun g7 w8 Sw8 Hg7 Bg7 => ?_)
 ·
  (go_simp <;> rfl)
 replace M := ((M.sees Sw8).add (N := 80) (cs := [.int .u64 0, .int .u64 0, .int .u64 0, .int .u64 0, .int .u64 0, .int .u64 0, .int .u64 0, .int .u64 0, .int .u64 0, .int .u64 0, .int .u64 0, .int .u64 0, .int .u64 0, .int .u64 0, .int .u64 0, .int .u64 0, .int .u64 0, .int .u64 0, .int .u64 0, .int .u64 0, .int .u64 0, .int .u64 0, .int .u64 0, .int .u64 0, .int .u64 0, .int .u64 0, .int .u64 0, .int .u64 0, .int .u64 0, .int .u64 0, .int .u64 0, .int .u64 0, .int .u64 0, .int .u64 0, .int .u64 0, .int .u64 0, .int .u64 0, .int .u64 0, .int .u64 0, .int .u64 0, .int .u64 0, .int .u64 0, .int .u64 0, .int .u64 0, .int .u64 0, .int .u64 0, .int .u64 0, .int .u64 0, .int .u64 0, .int .u64 0, .int .u64 0, .int .u64 0, .int .u64 0, .int .u64 0, .int .u64 0, .int .u64 0, .int .u64 0, .int .u64 0, .int .u64 0, .int .u64 0, .int .u64 0, .int .u64 0, .int .u64 0, .int .u64 0, .int .u64 0, .int .u64 0, .int .u64 0, .int .u64 0, .int .u64 0, .int .u64 0, .int .u64 0, .int .u64 0, .int .u64 0, .int .u64 0, .int .u64 0, .int .u64 0, .int .u64 0, .int .u64 0, .int .u64 0, .int .u64 0]) (M.ge Hg7) (M.fresh Hg7) Bg7 rfl)
 clear Bg7
 simp only [Z12, Z5]
 refine Z14 (Z15 ?_)
 refine hK5 _ _ ?_
 refine Z9 (fun K9 hK9 => ?_)
 refine Z9 (fun K10 hK10 => ?_)
 refine Z13 ?_
 refine Z17 (v := .int .i64 0) (by rfl) (by rfl) (by rfl) ?_
 simp only [Z12, Z5]
 refine Z14 (Z15 ?_)
 refine hK10 _ _ ?_
 refine wp_block ?_
 replace M := M.read1 (cs := wcellsq l 0) (o := 0) 0 rfl (by rw [wcells_zeroq]; exact (M.r 0 0 rfl rfl))
 simp only [Z5] at M
 refine wp_loop_ghost (fun n9 a9 W9 => ∃ (t : Nat) (u12 : Nat → Value), n9 = 80 - t ∧ a9 = { tmps := #[.string (bs l), Z8, .pointer (some ⟨g3, 0, none⟩), .pointer (some ⟨g7, 0, none⟩), u12 4, u12 5, u12 6, u12 7, u12 8, .int .i64 ((t : Nat) : Int), u12 10, u12 11, u12 12, u12 13, u12 14, u12 15, u12 16, u12 17, u12 18, u12 19, u12 20, u12 21, u12 22, u12 23, u12 24, u12 25, u12 26, u12 27, u12 28, u12 29, u12 30, u12 31, u12 32, u12 33, u12 34, u12 35, u12 36, u12 37, u12 38, u12 39, u12 40, u12 41, u12 42, u12 43, u12 44, u12 45, u12 46, u12 47, u12 48, u12 49, u12 50, u12 51, u12 52, u12 53, u12 54, u12 55, u12 56, u12 57, u12 58, u12 59, u12 60, Z8], defers := [] } ∧ Mem [] w W9 [⟨g7, 80, [(0, wcellsq l t)]⟩, ⟨g3, 80, [(0, [.int .u64 0, .int .u64 0, .int .u64 0, .int .u64 0, .int .u64 0, .int .u64 0, .int .u64 0, .int .u64 0, .int .u64 0, .int .u64 0, .int .u64 0, .int .u64 0, .int .u64 0, .int .u64 0, .int .u64 0, .int .u64 0, .int .u64 0, .int .u64 0, .int .u64 0, .int .u64 0, .int .u64 0, .int .u64 0, .int .u64 0, .int .u64 0, .int .u64 0, .int .u64 0, .int .u64 0, .int .u64 0, .int .u64 0, .int .u64 0, .int .u64 0, .int .u64 0, .int .u64 0, .int .u64 0, .int .u64 0, .int .u64 0, .int .u64 0, .int .u64 0, .int .u64 0, .int .u64 0, .int .u64 0, .int .u64 0, .int .u64 0, .int .u64 0, .int .u64 0, .int .u64 0, .int .u64 0, .int .u64 0, .int .u64 0, .int .u64 0, .int .u64 0, .int .u64 0, .int .u64 0, .int .u64 0, .int .u64 0, .int .u64 0, .int .u64 0, .int .u64 0, .int .u64 0, .int .u64 0, .int .u64 0, .int .u64 0, .int .u64 0, .int .u64 0, .int .u64 0, .int .u64 0, .int .u64 0, .int .u64 0, .int .u64 0, .int .u64 0, .int .u64 0, .int .u64 0, .int .u64 0, .int .u64 0, .int .u64 0, .int .u64 0, .int .u64 0, .int .u64 0, .int .u64 0, .int .u64 0])]⟩] ∧ (t ≤ 80)) (80 - (0)) ?_ (fun n9 a9 W9 hI => ?_)
 ·
  exact ⟨0, (fun q9 => (#[Z8, Z8, Z8, Z8, Z8, Z8, Z8, Z8, Z8, Z8, Z8, Z8, Z8, Z8, Z8, Z8, Z8, Z8, Z8, Z8, Z8, Z8, Z8, Z8, Z8, Z8, Z8, Z8, Z8, Z8, Z8, Z8, Z8, Z8, Z8, Z8, Z8, Z8, Z8, Z8, Z8, Z8, Z8, Z8, Z8, Z8, Z8, Z8, Z8, Z8, Z8, Z8, Z8, Z8, Z8, Z8, Z8, Z8, Z8, Z8, Z8] : Array Value).getD q9 Z8), rfl, rfl, M, (by omega)⟩
 clear M
 obtain ⟨t, u12, rfl, rfl, M, ht4⟩ := hI
 obtain ⟨w13, rfl⟩ : ∃ W8, W8 = W9 := ⟨_, rfl⟩
 refine Z9 (fun K14 hK14 => ?_)
 refine Z13 ?_
 refine Z16 1 (by rfl) (fun Lk hLk => ?_)
 simp only [Z6, Z7]
 refine Z20 (v := .bool (decide (t < 80))) (by rfl) rfl rfl rfl (fun W => run_lssN t 80 _ _ W) ?_
 simp only [Z12, Z5]
 refine Z19 (hLk _ (fun w16 Sw16 => ?_))
 clear hLk Lk
 simp only [Z6, Z7]
 replace M := M.sees Sw16
 refine Z14 (Z15 ?_)
 refine hK14 _ _ ?_
 refine Z9 (fun K17 hK17 => ?_)
 cases hc18 : (decide (t < 80))
 ·
  have et : t = 80 := by have := of_decide_eq_false hc18; omega
  subst et
  refine Z11 rfl ?_
  refine wp_exit ?_
  refine hK9 _ _ ?_
  refine Z9 (fun K19 hK19 => ?_)
  refine Z13 ?_
  refine Z16 1 (by rfl) (fun Lk hLk => ?_)
  simp only [Z6, Z7]
  refine Z31 (cs := wcellsq l 80) (by rfl) rfl rfl (M.r 0 0 rfl rfl) (M.lt 0 rfl) Tryd.underlying201 rfl info201 ?_
  simp only [Z12, Z5]
  refine Z19 (hLk _ (fun w21 Sw21 => ?_))
  clear hLk Lk
  simp only [Z6, Z7]
  replace M := M.sees Sw21
  refine Z33 (g := g3) (off := 0) (n := 80) (cs := wcellsq l 80) (by rfl) (by rfl) (by rfl) (by rfl) (by rfl) (M.t 1 rfl) (by rw [wcells_lenq]; decide) info201 (wcells_oneq _ _) (fun w22 P R T => ?_)
  replace M := M.putS 1 0 rfl P R T rfl ⟨.inl rfl, trivial⟩
  simp only [Z5] at M
  refine Z14 (Z15 ?_)
  refine hK19 _ _ ?_
  refine wp_ret ?_
  repeat (first | with_reducible refine then_ret ?_ | with_reducible refine inblock_ret ?_)
  refine bodyPost_ret (v := .agg (wcellsq l 80).toArray) (res1 rfl (.cell (by rfl) (run_loadVar_mid _ _ _ _ (wcellsq l 80) _ (M.r 1 0 rfl rfl) Tryd.underlying201 rfl info201))) rfl ?_
  have BE := M.below
  exact ⟨rfl, BE⟩
 ·
  have ht : t < 80 := of_decide_eq_true hc18
  refine Z10 rfl ?_
  refine wp_skip ?_
  refine hK17 _ _ ?_
  refine Z9 (fun K23 hK23 => ?_)
  refine wp_block ?_
  refine Z9 (fun K24 hK24 => ?_)
  refine Z13 ?_
  refine Z17 (v := .int .i64 ((t : Nat) : Int)) (by rfl) (by rfl) (by rfl) ?_
  simp only [Z12, Z5]
  refine Z18 (v := .int .i64 ((t : Nat) : Int)) (by rfl) (by rfl) (by rfl) ?_
  simp only [Z12, Z5]
  refine Z14 (Z15 ?_)
  refine hK24 _ _ ?_
  refine Z9 (fun K26 hK26 => ?_)
  refine Z9 (fun K27 hK27 => ?_)
  refine Z13 ?_
  refine Z17 (v := .int .i64 ((t : Nat) : Int)) (by rfl) (by rfl) (by rfl) ?_
  simp only [Z12, Z5]
  refine Z16 1 (by rfl) (fun Lk hLk => ?_)
  simp only [Z6, Z7]
  refine Z20 (v := .bool (decide (t < 16))) (by rfl) rfl rfl rfl (fun W => run_lssN t 16 _ _ W) ?_
  simp only [Z12, Z5]
  refine Z19 (hLk _ (fun w29 Sw29 => ?_))
  clear hLk Lk
  simp only [Z6, Z7]
  replace M := M.sees Sw29
  refine Z14 (Z15 ?_)
  refine hK27 _ _ ?_
  cases hc30 : (decide (t < 16))
  ·
   have h16 : ¬ t < 16 := of_decide_eq_false hc30
   refine Z11 rfl ?_
   refine wp_skip ?_
   refine hK26 _ _ ?_
   refine Z9 (fun K31 hK31 => ?_)
   refine wp_region_grow 10 [] (by kernel_rfl) (by kernel_rfl) (by kernel_rfl) (fun Lk hLk => ?_)
   simp only [Z6, Z7]
   refine Z21 (v := .int .i64 ((t : Nat) : Int)) (by rfl) rfl rfl ?_
   simp only [Z12, Z5]
   refine Z20 (v := .int .i64 ((t - 15 : Nat) : Int)) (by rfl) rfl rfl rfl (fun W => run_sub (by simp only [IntKind.wrap_i64]; omega) W) ?_
   simp only [Z12, Z5]
   refine wpV_idx (n := t - 15) (by rfl) rfl rfl rfl Tryd.underlying201 info40 (by omega) ?_
   simp only [Z1]
   simp only [Z12, Z5]
   refine Z34 (v := .int .u64 ((shWq l (t - 15) : Nat) : Int)) (by rfl) rfl rfl (zadd ((M.r 0 0 rfl rfl) _ _ (wcells_atq l (by omega) (by omega)))) (M.lt 0 rfl) Tryd.underlying40 rfl ?_
   simp only [Z12, Z5]
   refine Z21 (v := .int .i64 ((t : Nat) : Int)) (by rfl) rfl rfl ?_
   simp only [Z12, Z5]
   refine Z20 (v := .int .i64 ((t - 2 : Nat) : Int)) (by rfl) rfl rfl rfl (fun W => run_sub (by simp only [IntKind.wrap_i64]; omega) W) ?_
   simp only [Z12, Z5]
   refine wpV_idx (n := t - 2) (by rfl) rfl rfl rfl Tryd.underlying201 info40 (by omega) ?_
   simp only [Z1]
   simp only [Z12, Z5]
   refine Z34 (v := .int .u64 ((shWq l (t - 2) : Nat) : Int)) (by rfl) rfl rfl (zadd ((M.r 0 0 rfl rfl) _ _ (wcells_atq l (by omega) (by omega)))) (M.lt 0 rfl) Tryd.underlying40 rfl ?_
   simp only [Z12, Z5]
   refine wpV_assign (v := .int .u64 ((shWq l (t - 15) : Nat) : Int)) (by rfl) rfl rfl ?_
   simp only [Z12, Z5]
   refine wpV_assign (v := .int .u64 ((shWq l (t - 2) : Nat) : Int)) (by rfl) rfl rfl ?_
   simp only [Z12, Z5]
   refine Z19 (hLk.out _ ?_)
   clear hLk Lk
   simp only [Z6, Z7]
   iterate 10 refine Z28 (by rfl) ?_
   refine Z29 (fun w33 Sw33 hbs => ?_)
   clear hbs
   replace M := M.sees Sw33
   refine Z14 (Z15 ?_)
   refine hK31 _ _ ?_
   refine Z9 (fun K34 hK34 => ?_)
   refine Z13 ?_
   refine Z17 (v := .int .u64 ((shWq l (t - 15) : Nat) : Int)) (by rfl) (by rfl) (by rfl) ?_
   simp only [Z12, Z5]
   refine Z16 7 (by rfl) (fun Lk hLk => ?_)
   simp only [Z6, Z7]
   refine Z25 (v := .int .u64 ((rotrq (shWq l (t - 15)) 1 : Nat) : Int)) (args := #[.int .u64 ((shWq l (t - 15) : Nat) : Int), .int .i64 (-1)]) (by rfl) rfl Tryd.func160 (by kernel_rfl) (by kernel_rfl) rfl (fun W hW => (by have := rotl_cq (x := shWq l (t - 15)) (n := 1) (w := W) (shW_ltq ..) (by decide) (by decide); exact this)) ?_
   simp only [Z12, Z5]
   refine Z21 (v := .int .u64 ((shWq l (t - 15) : Nat) : Int)) (by rfl) rfl rfl ?_
   simp only [Z12, Z5]
   refine Z25 (v := .int .u64 ((rotrq (shWq l (t - 15)) 8 : Nat) : Int)) (args := #[.int .u64 ((shWq l (t - 15) : Nat) : Int), .int .i64 (-8)]) (by rfl) rfl Tryd.func160 (by kernel_rfl) (by kernel_rfl) rfl (fun W hW => (by have := rotl_cq (x := shWq l (t - 15)) (n := 8) (w := W) (shW_ltq ..) (by decide) (by decide); exact this)) ?_
   simp only [Z12, Z5]
   refine Z20 (v := .int .u64 (((rotrq (shWq l (t - 15)) 1) ^^^ (rotrq (shWq l (t - 15)) 8) : Nat) : Int)) (by rfl) rfl rfl rfl (fun W => nr_xor64 (x := rotrq (shWq l (t - 15)) 1) (y := rotrq (shWq l (t - 15)) 8) (rotr_ltq (shW_ltq ..) (by decide)) (rotr_ltq (shW_ltq ..) (by decide)) W) ?_
   simp only [Z12, Z5]
   refine Z21 (v := .int .u64 ((shWq l (t - 15) : Nat) : Int)) (by rfl) rfl rfl ?_
   simp only [Z12, Z5]
   refine Z20 (v := .int .u64 (((shWq l (t - 15)) / 2 ^ 7 : Nat) : Int)) (by rfl) rfl rfl rfl (fun W => nr_shr64 (x := shWq l (t - 15)) (n := 7) (by omega) W) ?_
   simp only [Z12, Z5]
   refine Z20 (v := .int .u64 ((sg0q (shWq l (t - 15)) : Nat) : Int)) (by rfl) rfl rfl rfl (fun W => nr_xor64 (x := (rotrq (shWq l (t - 15)) 1) ^^^ (rotrq (shWq l (t - 15)) 8)) (y := (shWq l (t - 15)) / 2 ^ 7) (xor_lt64 (rotr_ltq (shW_ltq ..) (by decide)) (rotr_ltq (shW_ltq ..) (by decide))) (div_lt64 _ (shW_ltq ..)) W) ?_
   simp only [Z12, Z5]
   refine Z19 (hLk _ (fun w36 Sw36 => ?_))
   clear hLk Lk
   simp only [Z6, Z7]
   replace M := M.sees Sw36
   refine Z18 (v := .int .u64 ((sg0q (shWq l (t - 15)) : Nat) : Int)) (by rfl) (by rfl) (by rfl) ?_
   simp only [Z12, Z5]
   refine Z14 (Z15 ?_)
   refine hK34 _ _ ?_
   refine Z9 (fun K37 hK37 => ?_)
   refine Z13 ?_
   refine Z17 (v := .int .u64 ((shWq l (t - 2) : Nat) : Int)) (by rfl) (by rfl) (by rfl) ?_
   simp only [Z12, Z5]
   refine Z16 7 (by rfl) (fun Lk hLk => ?_)
   simp only [Z6, Z7]
   refine Z25 (v := .int .u64 ((rotrq (shWq l (t - 2)) 19 : Nat) : Int)) (args := #[.int .u64 ((shWq l (t - 2) : Nat) : Int), .int .i64 (-19)]) (by rfl) rfl Tryd.func160 (by kernel_rfl) (by kernel_rfl) rfl (fun W hW => (by have := rotl_cq (x := shWq l (t - 2)) (n := 19) (w := W) (shW_ltq ..) (by decide) (by decide); exact this)) ?_
   simp only [Z12, Z5]
   refine Z21 (v := .int .u64 ((shWq l (t - 2) : Nat) : Int)) (by rfl) rfl rfl ?_
   simp only [Z12, Z5]
   refine Z25 (v := .int .u64 ((rotrq (shWq l (t - 2)) 61 : Nat) : Int)) (args := #[.int .u64 ((shWq l (t - 2) : Nat) : Int), .int .i64 (-61)]) (by rfl) rfl Tryd.func160 (by kernel_rfl) (by kernel_rfl) rfl (fun W hW => (by have := rotl_cq (x := shWq l (t - 2)) (n := 61) (w := W) (shW_ltq ..) (by decide) (by decide); exact this)) ?_
   simp only [Z12, Z5]
   refine Z20 (v := .int .u64 (((rotrq (shWq l (t - 2)) 19) ^^^ (rotrq (shWq l (t - 2)) 61) : Nat) : Int)) (by rfl) rfl rfl rfl (fun W => nr_xor64 (x := rotrq (shWq l (t - 2)) 19) (y := rotrq (shWq l (t - 2)) 61) (rotr_ltq (shW_ltq ..) (by decide)) (rotr_ltq (shW_ltq ..) (by decide)) W) ?_
   simp only [Z12, Z5]
   refine Z21 (v := .int .u64 ((shWq l (t - 2) : Nat) : Int)) (by rfl) rfl rfl ?_
   simp only [Z12, Z5]
   refine Z20 (v := .int .u64 (((shWq l (t - 2)) / 2 ^ 6 : Nat) : Int)) (by rfl) rfl rfl rfl (fun W => nr_shr64 (x := shWq l (t - 2)) (n := 6) (by omega) W) ?_
   simp only [Z12, Z5]
   refine Z20 (v := .int .u64 ((sg1q (shWq l (t - 2)) : Nat) : Int)) (by rfl) rfl rfl rfl (fun W => nr_xor64 (x := (rotrq (shWq l (t - 2)) 19) ^^^ (rotrq (shWq l (t - 2)) 61)) (y := (shWq l (t - 2)) / 2 ^ 6) (xor_lt64 (rotr_ltq (shW_ltq ..) (by decide)) (rotr_ltq (shW_ltq ..) (by decide))) (div_lt64 _ (shW_ltq ..)) W) ?_
   simp only [Z12, Z5]
   refine Z19 (hLk _ (fun w39 Sw39 => ?_))
   clear hLk Lk
   simp only [Z6, Z7]
   replace M := M.sees Sw39
   refine Z18 (v := .int .u64 ((sg1q (shWq l (t - 2)) : Nat) : Int)) (by rfl) (by rfl) (by rfl) ?_
   simp only [Z12, Z5]
   refine Z14 (Z15 ?_)
   refine hK37 _ _ ?_
   refine wp_region_grow 15 [] (by kernel_rfl) (by kernel_rfl) (by kernel_rfl) (fun Lk hLk => ?_)
   simp only [Z6, Z7]
   refine Z21 (v := .int .i64 ((t : Nat) : Int)) (by rfl) rfl rfl ?_
   simp only [Z12, Z5]
   refine Z21 (v := .int .i64 ((t : Nat) : Int)) (by rfl) rfl rfl ?_
   simp only [Z12, Z5]
   refine Z20 (v := .int .i64 ((t - 16 : Nat) : Int)) (by rfl) rfl rfl rfl (fun W => run_sub (by simp only [IntKind.wrap_i64]; omega) W) ?_
   simp only [Z12, Z5]
   refine wpV_idx (n := t - 16) (by rfl) rfl rfl rfl Tryd.underlying201 info40 (by omega) ?_
   simp only [Z1]
   simp only [Z12, Z5]
   refine Z34 (v := .int .u64 ((shWq l (t - 16) : Nat) : Int)) (by rfl) rfl rfl (zadd ((M.r 0 0 rfl rfl) _ _ (wcells_atq l (by omega) (by omega)))) (M.lt 0 rfl) Tryd.underlying40 rfl ?_
   simp only [Z12, Z5]
   refine Z21 (v := .int .u64 ((sg0q (shWq l (t - 15)) : Nat) : Int)) (by rfl) rfl rfl ?_
   simp only [Z12, Z5]
   refine Z20 (v := .int .u64 ((((shWq l (t - 16)) + (sg0q (shWq l (t - 15)))) % 18446744073709551616 : Nat) : Int)) (by rfl) rfl rfl rfl (fun W => nr_add64 _ (shWq l (t - 16)) (sg0q (shWq l (t - 15))) W) ?_
   simp only [Z12, Z5]
   refine Z21 (v := .int .i64 ((t : Nat) : Int)) (by rfl) rfl rfl ?_
   simp only [Z12, Z5]
   refine Z20 (v := .int .i64 ((t - 7 : Nat) : Int)) (by rfl) rfl rfl rfl (fun W => run_sub (by simp only [IntKind.wrap_i64]; omega) W) ?_
   simp only [Z12, Z5]
   refine wpV_idx (n := t - 7) (by rfl) rfl rfl rfl Tryd.underlying201 info40 (by omega) ?_
   simp only [Z1]
   simp only [Z12, Z5]
   refine Z34 (v := .int .u64 ((shWq l (t - 7) : Nat) : Int)) (by rfl) rfl rfl (zadd ((M.r 0 0 rfl rfl) _ _ (wcells_atq l (by omega) (by omega)))) (M.lt 0 rfl) Tryd.underlying40 rfl ?_
   simp only [Z12, Z5]
   refine Z20 (v := .int .u64 ((((((shWq l (t - 16)) + (sg0q (shWq l (t - 15)))) % 18446744073709551616) + (shWq l (t - 7))) % 18446744073709551616 : Nat) : Int)) (by rfl) rfl rfl rfl (fun W => nr_add64 _ (((shWq l (t - 16)) + (sg0q (shWq l (t - 15)))) % 18446744073709551616) (shWq l (t - 7)) W) ?_
   simp only [Z12, Z5]
   refine Z21 (v := .int .u64 ((sg1q (shWq l (t - 2)) : Nat) : Int)) (by rfl) rfl rfl ?_
   simp only [Z12, Z5]
   refine Z20 (v := .int .u64 ((shWq l t : Nat) : Int)) (by rfl) rfl rfl rfl (fun W => (by have := nr_add64 (P := Tryd.prog) 0 (((shWq l (t - 16) + sg0q (shWq l (t - 15))) % 18446744073709551616 + shWq l (t - 7)) % 18446744073709551616) (sg1q (shWq l (t - 2))) W; rw [← shW_hiq h16] at this; exact this)) ?_
   simp only [Z12, Z5]
   refine wpV_idx (n := t) (by rfl) rfl rfl rfl Tryd.underlying201 info40 (by omega) ?_
   simp only [Z1]
   simp only [Z12, Z5]
   refine Z19 (hLk.out _ ?_)
   clear hLk Lk
   simp only [Z6, Z7]
   iterate 15 refine Z28 (by rfl) ?_
   refine Z29 (fun w41 Sw41 hbs => ?_)
   clear hbs
   replace M := M.sees Sw41
   refine Z23 (g := g7) (off := t) (n := 80) (v := .int .u64 ((shWq l t : Nat) : Int)) (by rfl) (by rfl) (by rfl) (by rfl) (by rfl) (M.t 0 rfl) (by omega) info40 rfl (fun w42 P R T => ?_)
   replace M := M.put1 (j := t) 0 rfl P R T (Z1 _).symm
   simp only [Z5] at M
   rw [wcells_setq l ht] at M
   refine Z14 (Z15 ?_)
   refine hK23 _ _ ?_
   refine Z13 ?_
   refine Z16 1 (by rfl) (fun Lk hLk => ?_)
   simp only [Z6, Z7]
   refine Z20 (v := .int .i64 ((t + 1 : Nat) : Int)) (by rfl) rfl rfl rfl (fun W => run_add (by simp only [IntKind.wrap_i64]; omega) W) ?_
   simp only [Z12, Z5]
   refine Z19 (hLk _ (fun w44 Sw44 => ?_))
   clear hLk Lk
   simp only [Z6, Z7]
   replace M := M.sees Sw44
   refine Z17 (v := .int .i64 ((t + 1 : Nat) : Int)) (by rfl) (by rfl) (by rfl) ?_
   simp only [Z12, Z5]
   refine Z14 (Z15 ?_)
   refine Exists.intro _ ⟨?_, (t + 1), (fun q9 => (#[Z8, Z8, Z8, Z8, .int .i64 ((t : Nat) : Int), .int .u64 ((shWq l (t - 15) : Nat) : Int), .int .u64 ((shWq l (t - 2) : Nat) : Int), .int .u64 ((sg0q (shWq l (t - 15)) : Nat) : Int), .int .u64 ((sg1q (shWq l (t - 2)) : Nat) : Int), Z8, .bool true, .int .i64 ((t : Nat) : Int), .int .i64 ((t : Nat) : Int), .bool false, u12 14, u12 15, u12 16, u12 17, u12 18, u12 19, u12 20, .int .i64 ((t : Nat) : Int), .int .i64 ((t - 15 : Nat) : Int), .pointer (some ⟨g7, t - 15, none⟩), .int .u64 ((shWq l (t - 15) : Nat) : Int), .int .i64 ((t : Nat) : Int), .int .i64 ((t - 2 : Nat) : Int), .pointer (some ⟨g7, t - 2, none⟩), .int .u64 ((shWq l (t - 2) : Nat) : Int), .int .u64 ((shWq l (t - 15) : Nat) : Int), .int .u64 ((rotrq (shWq l (t - 15)) 1 : Nat) : Int), .int .u64 ((shWq l (t - 15) : Nat) : Int), .int .u64 ((rotrq (shWq l (t - 15)) 8 : Nat) : Int), .int .u64 (((rotrq (shWq l (t - 15)) 1) ^^^ (rotrq (shWq l (t - 15)) 8) : Nat) : Int), .int .u64 ((shWq l (t - 15) : Nat) : Int), .int .u64 (((shWq l (t - 15)) / 2 ^ 7 : Nat) : Int), .int .u64 ((sg0q (shWq l (t - 15)) : Nat) : Int), .int .u64 ((shWq l (t - 2) : Nat) : Int), .int .u64 ((rotrq (shWq l (t - 2)) 19 : Nat) : Int), .int .u64 ((shWq l (t - 2) : Nat) : Int), .int .u64 ((rotrq (shWq l (t - 2)) 61 : Nat) : Int), .int .u64 (((rotrq (shWq l (t - 2)) 19) ^^^ (rotrq (shWq l (t - 2)) 61) : Nat) : Int), .int .u64 ((shWq l (t - 2) : Nat) : Int), .int .u64 (((shWq l (t - 2)) / 2 ^ 6 : Nat) : Int), .int .u64 ((sg1q (shWq l (t - 2)) : Nat) : Int), .int .i64 ((t : Nat) : Int), .int .i64 ((t : Nat) : Int), .int .i64 ((t - 16 : Nat) : Int), .pointer (some ⟨g7, t - 16, none⟩), .int .u64 ((shWq l (t - 16) : Nat) : Int), .int .u64 ((sg0q (shWq l (t - 15)) : Nat) : Int), .int .u64 ((((shWq l (t - 16)) + (sg0q (shWq l (t - 15)))) % 18446744073709551616 : Nat) : Int), .int .i64 ((t : Nat) : Int), .int .i64 ((t - 7 : Nat) : Int), .pointer (some ⟨g7, t - 7, none⟩), .int .u64 ((shWq l (t - 7) : Nat) : Int), .int .u64 ((((((shWq l (t - 16)) + (sg0q (shWq l (t - 15)))) % 18446744073709551616) + (shWq l (t - 7))) % 18446744073709551616 : Nat) : Int), .int .u64 ((sg1q (shWq l (t - 2)) : Nat) : Int), .int .u64 ((shWq l t : Nat) : Int), .pointer (some ⟨g7, t, none⟩), .int .i64 ((t + 1 : Nat) : Int)] : Array Value).getD q9 Z8), rfl, rfl, M, (by omega)⟩
   omega
  ·
   have h16 : t < 16 := of_decide_eq_true hc30
   refine Z10 rfl ?_
   refine Z9 (fun K45 hK45 => ?_)
   refine Z13 ?_
   refine Z17 (v := .int .i64 ((t : Nat) : Int)) (by rfl) (by rfl) (by rfl) ?_
   simp only [Z12, Z5]
   refine Z17 (v := .string (bs l)) (by rfl) (by rfl) (by rfl) ?_
   simp only [Z12, Z5]
   refine Z17 (v := .int .i64 ((t : Nat) : Int)) (by rfl) (by rfl) (by rfl) ?_
   simp only [Z12, Z5]
   refine Z16 4 (by rfl) (fun Lk hLk => ?_)
   simp only [Z6, Z7]
   refine Z20 (v := .int .i64 ((8 * t : Nat) : Int)) (by rfl) rfl rfl rfl (fun W => run_mul (by simp only [IntKind.wrap_i64]; omega) W) ?_
   simp only [Z12, Z5]
   refine wpV_drop (l := l) (lo := 8 * t) (by rfl) rfl rfl rfl Tryd.underlying9 (by omega) ?_
   simp only [Z12, Z5]
   refine Z25 (v := .int .u64 ((shWq l t : Nat) : Int)) (args := #[.string (bs (l.drop (8 * t)))]) (by rfl) rfl Tryd.func162 (by kernel_rfl) (by kernel_rfl) rfl (fun W hW => (by have := read_cq (l := l.drop (8 * t)) (w := W) (by rw [List.length_drop]; omega); rwa [show be4q (l.drop (8 * t)) 0 = shWq l t by rw [shW_loq h16]; unfold be4q; simp only [byteN_drop, Z1, Nat.add_zero]] at this)) ?_
   simp only [Z12, Z5]
   refine wpV_idx (n := t) (by rfl) rfl rfl rfl Tryd.underlying201 info40 (by omega) ?_
   simp only [Z1]
   simp only [Z12, Z5]
   refine Z19 (hLk _ (fun w47 Sw47 => ?_))
   clear hLk Lk
   simp only [Z6, Z7]
   replace M := M.sees Sw47
   refine Z23 (g := g7) (off := t) (n := 80) (v := .int .u64 ((shWq l t : Nat) : Int)) (by rfl) (by rfl) (by rfl) (by rfl) (by rfl) (M.t 0 rfl) (by omega) info40 rfl (fun w48 P R T => ?_)
   replace M := M.put1 (j := t) 0 rfl P R T (Z1 _).symm
   simp only [Z5] at M
   rw [wcells_setq l ht] at M
   refine Z14 (Z15 ?_)
   refine hK45 _ _ ?_
   refine wp_exit ?_
   refine hK23 _ _ ?_
   refine Z13 ?_
   refine Z16 1 (by rfl) (fun Lk hLk => ?_)
   simp only [Z6, Z7]
   refine Z20 (v := .int .i64 ((t + 1 : Nat) : Int)) (by rfl) rfl rfl rfl (fun W => run_add (by simp only [IntKind.wrap_i64]; omega) W) ?_
   simp only [Z12, Z5]
   refine Z19 (hLk _ (fun w50 Sw50 => ?_))
   clear hLk Lk
   simp only [Z6, Z7]
   replace M := M.sees Sw50
   refine Z17 (v := .int .i64 ((t + 1 : Nat) : Int)) (by rfl) (by rfl) (by rfl) ?_
   simp only [Z12, Z5]
   refine Z14 (Z15 ?_)
   refine Exists.intro _ ⟨?_, (t + 1), (fun q9 => (#[Z8, Z8, Z8, Z8, .int .i64 ((t : Nat) : Int), u12 5, u12 6, u12 7, u12 8, Z8, .bool true, .int .i64 ((t : Nat) : Int), .int .i64 ((t : Nat) : Int), .bool true, .int .i64 ((t : Nat) : Int), .string (bs l), .int .i64 ((t : Nat) : Int), .int .i64 ((8 * t : Nat) : Int), .string (bs (l.drop (8 * t))), .int .u64 ((shWq l t : Nat) : Int), .pointer (some ⟨g7, t, none⟩), u12 21, u12 22, u12 23, u12 24, u12 25, u12 26, u12 27, u12 28, u12 29, u12 30, u12 31, u12 32, u12 33, u12 34, u12 35, u12 36, u12 37, u12 38, u12 39, u12 40, u12 41, u12 42, u12 43, u12 44, u12 45, u12 46, u12 47, u12 48, u12 49, u12 50, u12 51, u12 52, u12 53, u12 54, u12 55, u12 56, u12 57, u12 58, u12 59, .int .i64 ((t + 1 : Nat) : Int)] : Array Value).getD q9 Z8), rfl, rfl, M, (by omega)⟩
   omega
end Go.Proofs.Yc

