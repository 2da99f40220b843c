import Derived.WalkKit
import Derived.WalkSpells
import Derived.Laws.Pointers
import Derived.RowKit3
import Derived.Below
import Derived.Outline
import Derived.LoopN
import Derived.Lib.Hide
import Derived.Handy
import Derived.Laws.Bits64b
import Derived.Test.YtdcmmnindlhghaaNumG
import Derived.Test.YtdcmmnindlhghaaPtR
import Derived.Test.YtdcmmnindlhghaaPtO
set_option linter.unusedSimpArgs false
set_option linter.unusedVariables false
namespace Go.Proofs.Yc
open Go Go.RowKit Go.Proofs.Num
open List renaming set → Z0, take → Z1, drop → Z2
open Go renaming undef → Z3, wp_seq_k → Z4, wp_cond_true → Z5, wp_cond_false → Z6
open Go.Proofs.Num renaming putT → Z7, wp_region_seq → Z8, wpL_nil → Z9, no_panic → Z10, wpL_chunk → Z11, wpL_move → Z12, wpL_assign → Z13, wpV_nil → Z14, wpV_bin → Z15, wpV_move → Z16, then_normal → Z17, wpV_val → Z19, wpV_callf → Z20
attribute [local irreducible] wpV wpN wpList
open Go.Proofs.Ya
theorem run_andNot {P : Program} {T : TypeId} {k : IntKind} {m n e : Int} (h : bits .andNot k m n = e) (W : World) : (binOp .andNot T (.int k m) (.int k n)).run P W = .ok (.int k e) W := by subst h; simp [binOp, go_sem]
theorem andNot_fin : ∀ b : Fin 256, bits .andNot .u8 (b.val : Int) 128 = ((b.val % 128 : Nat) : Int) := by decide +kernel
theorem andNot_128 {b : Nat} (h : b < 256) : bits .andNot .u8 (b : Int) 128 = ((b % 128 : Nat) : Int) := andNot_fin ⟨b, h⟩
theorem and_fin : ∀ b : Fin 256, bits .and .u8 (b.val : Int) 128 = ((b.val / 128 * 128 : Nat) : Int) := by decide +kernel
theorem and_128 {b : Nat} (h : b < 256) : bits .and .u8 (b : Int) 128 = ((b / 128 * 128 : Nat) : Int) := and_fin ⟨b, h⟩
/-- What is parsed of x, y, whether there is a root, whether the highest bit is set. -/
def parsY (x : Nat) (b o : Bool) : Bool := b && !(o && decide (x = 0))
def parsP (x y : Nat) (b o : Bool) : P4 := if parsY x b o then affP (if o then fsub 0 x else x) y else noneP
def parsE (x : Nat) (b o : Bool) : Int := if parsY x b o then 0 else 10
/-- The text of y: the highest bit left out. -/
def yT (l : List UInt8) : List UInt8 := l.take 31 ++ [UInt8.ofNat (byteN l 31 % 128)]
set_option maxHeartbeats 2000000 in
theorem Parse_len {l : List UInt8} {w : World} (hl : l.length ≠ 32) :
  Calls Try.prog 10 #[.string (bs l)] w fun e w' => e = .returned (.tuple #[.agg (fel noneP.x ++ fel noneP.y ++ fel noneP.z ++ fel noneP.t : List Value).toArray, .int .i64 1]) ∧ Below w.heap.size w w' := by
 go_enter Try.func10, Try.ntmps10
 have M := Mem.start w
 refine Z4 (fun K1 hK1 => ?_)
 refine Z8 ?_
 refine wpL_var (t := 26) (cs := [.int .u64 0, .int .u64 0, .int .u64 0, .int .u64 0, .int .u64 0, .int .u64 0, .int .u64 0, .int .u64 0, .int .u64 0, .int .u64 0, .int .u64 0, .int .u64 0, .int .u64 0, .int .u64 0, .int .u64 0, .int .u64 0]) (by rfl) (fun W => ?_) (fun g3 w4 Sw4 Hg3 Bg3 => ?_)
 ·
  go_simp
 replace M := ((M.sees Sw4).addS (N := 16) (cs := [.int .u64 0, .int .u64 0, .int .u64 0, .int .u64 0, .int .u64 0, .int .u64 0, .int .u64 0, .int .u64 0, .int .u64 0, .int .u64 0, .int .u64 0, .int .u64 0, .int .u64 0, .int .u64 0, .int .u64 0, .int .u64 0]) (segs := [(0, [.int .u64 0, .int .u64 0, .int .u64 0, .int .u64 0]), (4, [.int .u64 0, .int .u64 0, .int .u64 0, .int .u64 0]), (8, [.int .u64 0, .int .u64 0, .int .u64 0, .int .u64 0]), (12, [.int .u64 0, .int .u64 0, .int .u64 0, .int .u64 0])]) (M.ge Hg3) (M.fresh Hg3) Bg3 rfl ⟨rfl, rfl, rfl, rfl, trivial⟩)
 clear Bg3
 simp only [Z7,Z0]
 refine Z13 (v := .int .i64 0) (by rfl) (by rfl) (by rfl) ?_
 simp only [Z7,Z0]
 refine Z9 (Z10 ?_)
 refine hK1 _ _ ?_
 refine Z4 (fun K5 hK5 => ?_)
 refine Z4 (fun K6 hK6 => ?_)
 refine Z8 ?_
 refine Z12 (v := .string (bs l)) (by rfl) (by rfl) (by rfl) ?_
 simp only [Z7,Z0]
 refine Z11 2 (by rfl) (fun Lk hLk => ?_)
 simp only [Z1,Z2]
 refine wpV_lenS (by rfl) rfl rfl rfl Try.underlying9 ?_
 simp only [Z7,Z0]
 refine Z15 (v := .bool true) (by rfl) rfl rfl rfl (fun W => (run_neqN l.length 32 _ _ W).trans (by rw [(decide_eq_true hl)])) ?_
 simp only [Z7,Z0]
 refine Z14 (hLk _ (fun w8 Sw8 => ?_))
 clear hLk Lk
 simp only [Z1,Z2]
 replace M := M.sees Sw8
 refine Z9 (Z10 ?_)
 refine hK6 _ _ ?_
 refine Z5 rfl ?_
 refine Z4 (fun K9 hK9 => ?_)
 refine Z8 ?_
 refine Z11 1 (by rfl) (fun Lk hLk => ?_)
 simp only [Z1,Z2]
 refine Z19 (v := .agg ([.int .u64 0, .int .u64 0, .int .u64 0, .int .u64 0, .int .u64 0, .int .u64 0, .int .u64 0, .int .u64 0, .int .u64 0, .int .u64 0, .int .u64 0, .int .u64 0, .int .u64 0, .int .u64 0, .int .u64 0, .int .u64 0]).toArray) (by rfl) (by rfl) (fun W hW => ?_) ?_
 ·
  (unfold RunsVal; kernel_rfl)
 simp only [Z7,Z0]
 refine Z14 (hLk _ (fun w11 Sw11 => ?_))
 clear hLk Lk
 simp only [Z1,Z2]
 replace M := M.sees Sw11
 refine wpL_store (g := g3) (off := 0) (n := 16) (cs := [.int .u64 0, .int .u64 0, .int .u64 0, .int .u64 0, .int .u64 0, .int .u64 0, .int .u64 0, .int .u64 0, .int .u64 0, .int .u64 0, .int .u64 0, .int .u64 0, .int .u64 0, .int .u64 0, .int .u64 0, .int .u64 0]) (by rfl) (by rfl) (by rfl) (by rfl) (by rfl) (M.t 0 rfl) (by simp [flen]) info26 (by simp [fone, Value.oneCell']) (fun w12 P R T => ?_)
 replace M := M.put (segs' := [(0, [.int .u64 0, .int .u64 0, .int .u64 0, .int .u64 0]), (4, [.int .u64 0, .int .u64 0, .int .u64 0, .int .u64 0]), (8, [.int .u64 0, .int .u64 0, .int .u64 0, .int .u64 0]), (12, [.int .u64 0, .int .u64 0, .int .u64 0, .int .u64 0])]) 0 rfl P T (SegsOf.at R ⟨rfl, rfl, rfl, rfl, trivial⟩)
 simp only [Z0] at M
 refine Z13 (v := .int .i64 1) (by rfl) (by rfl) (by rfl) ?_
 simp only [Z7,Z0]
 refine Z9 (Z10 ?_)
 refine hK9 _ _ ?_
 refine wp_ret ?_
 repeat (first | with_reducible refine then_ret ?_ | with_reducible refine inblock_ret ?_)
 refine bodyPost_ret (v := .tuple #[.agg ([.int .u64 0, .int .u64 0, .int .u64 0, .int .u64 0] ++ [.int .u64 0, .int .u64 0, .int .u64 0, .int .u64 0] ++ [.int .u64 0, .int .u64 0, .int .u64 0, .int .u64 0] ++ [.int .u64 0, .int .u64 0, .int .u64 0, .int .u64 0] : List Value).toArray, .int .i64 1]) (res2 rfl (.cell (by rfl) (run_loadVar_mid _ _ _ _ ([.int .u64 0, .int .u64 0, .int .u64 0, .int .u64 0] ++ [.int .u64 0, .int .u64 0, .int .u64 0, .int .u64 0] ++ [.int .u64 0, .int .u64 0, .int .u64 0, .int .u64 0] ++ [.int .u64 0, .int .u64 0, .int .u64 0, .int .u64 0]) _ (range_join (range_join (range_join (M.r 0 0 rfl rfl) (M.r 0 1 rfl rfl) (by simp [flen])) (M.r 0 2 rfl rfl) (by simp [flen])) (M.r 0 3 rfl rfl) (by simp [flen])) Try.underlying26 rfl info26)) (.tmp (by rfl))) rfl ?_
 have BE := M.below
 exact ⟨rfl, BE⟩
set_option maxHeartbeats 2000000 in
theorem Parse_bad {l : List UInt8} {w : World} (hl : l.length = 32) (hN : fparseN (yT l) = 0) (hE : fparseE (yT l) = 2) :
  Calls Try.prog 10 #[.string (bs l)] w fun e w' => e = .returned (.tuple #[.agg (fel noneP.x ++ fel noneP.y ++ fel noneP.z ++ fel noneP.t : List Value).toArray, .int .i64 10]) ∧ Below w.heap.size w w' := by
 go_enter Try.func10, Try.ntmps10
 have M := Mem.start w
 refine Z4 (fun K1 hK1 => ?_)
 refine Z8 ?_
 refine wpL_var (t := 26) (cs := [.int .u64 0, .int .u64 0, .int .u64 0, .int .u64 0, .int .u64 0, .int .u64 0, .int .u64 0, .int .u64 0, .int .u64 0, .int .u64 0, .int .u64 0, .int .u64 0, .int .u64 0, .int .u64 0, .int .u64 0, .int .u64 0]) (by rfl) (fun W => ?_) (fun g3 w4 Sw4 Hg3 Bg3 => ?_)
 ·
  go_simp
 replace M := ((M.sees Sw4).addS (N := 16) (cs := [.int .u64 0, .int .u64 0, .int .u64 0, .int .u64 0, .int .u64 0, .int .u64 0, .int .u64 0, .int .u64 0, .int .u64 0, .int .u64 0, .int .u64 0, .int .u64 0, .int .u64 0, .int .u64 0, .int .u64 0, .int .u64 0]) (segs := [(0, [.int .u64 0, .int .u64 0, .int .u64 0, .int .u64 0]), (4, [.int .u64 0, .int .u64 0, .int .u64 0, .int .u64 0]), (8, [.int .u64 0, .int .u64 0, .int .u64 0, .int .u64 0]), (12, [.int .u64 0, .int .u64 0, .int .u64 0, .int .u64 0])]) (M.ge Hg3) (M.fresh Hg3) Bg3 rfl ⟨rfl, rfl, rfl, rfl, trivial⟩)
 clear Bg3
 simp only [Z7,Z0]
 refine Z13 (v := .int .i64 0) (by rfl) (by rfl) (by rfl) ?_
 simp only [Z7,Z0]
 refine Z9 (Z10 ?_)
 refine hK1 _ _ ?_
 refine Z4 (fun K5 hK5 => ?_)
 refine Z4 (fun K6 hK6 => ?_)
 refine Z8 ?_
 refine Z12 (v := .string (bs l)) (by rfl) (by rfl) (by rfl) ?_
 simp only [Z7,Z0]
 refine Z11 2 (by rfl) (fun Lk hLk => ?_)
 simp only [Z1,Z2]
 refine wpV_lenS (by rfl) rfl rfl rfl Try.underlying9 ?_
 simp only [Z7,Z0]
 refine Z15 (v := .bool false) (by rfl) rfl rfl rfl (fun W => (run_neqN l.length 32 _ _ W).trans (by rw [(decide_eq_false (fun h => h hl))])) ?_
 simp only [Z7,Z0]
 refine Z14 (hLk _ (fun w8 Sw8 => ?_))
 clear hLk Lk
 simp only [Z1,Z2]
 replace M := M.sees Sw8
 refine Z9 (Z10 ?_)
 refine hK6 _ _ ?_
 refine Z6 rfl ?_
 refine wp_skip ?_
 refine hK5 _ _ ?_
 refine Z4 (fun K9 hK9 => ?_)
 refine Z8 ?_
 refine Z12 (v := .string (bs l)) (by rfl) (by rfl) (by rfl) ?_
 simp only [Z7,Z0]
 refine Z11 1 (by rfl) (fun Lk hLk => ?_)
 simp only [Z1,Z2]
 refine wpV_indexb (n := 31) (by omega) (by rfl) rfl rfl rfl Try.underlying9 ?_
 simp only [Z7,Z0]
 refine Z14 (hLk _ (fun w11 Sw11 => ?_))
 clear hLk Lk
 simp only [Z1,Z2]
 replace M := M.sees Sw11
 refine Z13 (v := .int .u8 ((byteN l 31 : Nat) : Int)) (by rfl) (by rfl) (by rfl) ?_
 simp only [Z7,Z0]
 refine Z9 (Z10 ?_)
 refine hK9 _ _ ?_
 refine Z4 (fun K12 hK12 => ?_)
 refine wp_region_addsF 12 [10] [4, 11] [ValRel (.string (bs l)), ValRel (.string (bs (l.take 31))), ValRel (.int .u8 ((byteN l 31 : Nat) : Int)), ValRel (.int .u8 ((byteN l 31 % 128 : Nat) : Int)), BoxRel w11 (fun gA => .slice (some ⟨gA, 0, none⟩) 1 1) 1 [(0, [.int .u8 ((byteN l 31 % 128 : Nat) : Int)])], ValRel (.string (bs ([UInt8.ofNat (byteN l 31 % 128)]))), ValRel (.string (bs ((l.take 31) ++ ([UInt8.ofNat (byteN l 31 % 128)])))), ValRel (.tuple #[fe 0, .int .i64 2]), ValRel (.tuple #[fe 0, .int .i64 2]), ValRel (fe 0), ValRel (.int .i64 2), BoxRel w11 (fun gA => .pointer (some ⟨gA, 0, none⟩)) 4 [(0, [.int .u64 0, .int .u64 0, .int .u64 0, .int .u64 0])]] [[], [0], [], [2], [3], [4], [1, 5], [6], [7], [8], [8], []] (fun vs => { tmps := #[.string (bs l), Z3, .pointer (some ⟨g3, 0, none⟩), .int .i64 0, .int .u8 ((byteN l 31 : Nat) : Int), vs 11, Z3, Z3, Z3, Z3, .string (bs l), .int .i64 ((l.length : Nat) : Int), .bool false, Z3, .string (bs l), .int .u8 ((byteN l 31 : Nat) : Int), vs 8, vs 0, vs 1, vs 2, vs 3, vs 4, vs 5, vs 6, vs 7, vs 9, vs 10, Z3, Z3, Z3, Z3, Z3, Z3, Z3, Z3, Z3, Z3, Z3, Z3, Z3, Z3, Z3, Z3, Z3, Z3, Z3, Z3, Z3, Z3, Z3, Z3, Z3, Z3, Z3, Z3, Z3], defers := [] }) (by kernel_rfl) (by kernel_rfl) (by kernel_rfl) (by kernel_rfl) (.cons keep_val (.cons keep_val (.cons keep_val (.cons keep_val (.cons keep_box (.cons keep_val (.cons keep_val (.cons keep_val (.cons keep_val (.cons keep_val (.cons keep_val (.cons keep_box AllKeep.nil)))))))))))) (.free free_val (.free free_val (.free free_val (.free free_val (.free free_box (.free free_val (.free free_val (.free free_val (.free free_val (.free free_val (.free free_val (.free free_box AllLoc.nil)))))))))))) (.cons own_box (.cons own_box AllOwn.nil)) (by kernel_rfl) ?_ ?_
 ·
  simp only [Z1]
  refine RulesL.cons (fun vs => { tmps := #[.string (bs l), Z3, .pointer (some ⟨g3, 0, none⟩), .int .i64 0, .int .u8 ((byteN l 31 : Nat) : Int), Z3, Z3, Z3, Z3, Z3, .string (bs l), .int .i64 ((l.length : Nat) : Int), .bool false, Z3, .string (bs l), .int .u8 ((byteN l 31 : Nat) : Int), Z3, Z3, Z3, Z3, Z3, Z3, Z3, Z3, Z3, Z3, Z3, Z3, Z3, Z3, Z3, Z3, Z3, Z3, Z3, Z3, Z3, Z3, Z3, Z3, Z3, Z3, Z3, Z3, Z3, Z3, Z3, Z3, Z3, Z3, Z3, Z3, Z3, Z3, Z3, Z3], defers := [] }) (by kernel_rfl) ?_ ?_
  ·
   intro vs gs W15 SW15 D K9 hK9
   replace M := M.sees SW15
   dsimp only at hK9
   dsimp only
   refine Z12 (v := .string (bs l)) (by rfl) (by rfl) (by rfl) ?_
   simp only [Z7,Z0]
   refine Z9 (Z17 ?_)
   have h8 := hK9 (.string (bs l))
   have h9 := h8 0 _ (sees_refl _) rfl (fun h => absurd h (by decide))
   simp only [Z7,Z0] at h9
   exact h9
  refine RulesL.cons (fun vs => { tmps := #[.string (bs l), Z3, .pointer (some ⟨g3, 0, none⟩), .int .i64 0, .int .u8 ((byteN l 31 : Nat) : Int), Z3, Z3, Z3, Z3, Z3, .string (bs l), .int .i64 ((l.length : Nat) : Int), .bool false, Z3, .string (bs l), .int .u8 ((byteN l 31 : Nat) : Int), Z3, vs 0, Z3, Z3, Z3, Z3, Z3, Z3, Z3, Z3, Z3, Z3, Z3, Z3, Z3, Z3, Z3, Z3, Z3, Z3, Z3, Z3, Z3, Z3, Z3, Z3, Z3, Z3, Z3, Z3, Z3, Z3, Z3, Z3, Z3, Z3, Z3, Z3, Z3, Z3], defers := [] }) (by kernel_rfl) ?_ ?_
  ·
   intro vs gs W16 SW16 D K9 hK9
   replace M := M.sees SW16
   obtain ⟨D0, _⟩ := D
   have e0 : vs 0 = .string (bs l) := D0
   dsimp only at hK9
   dsimp only
   rw [e0] at hK9 ⊢
   refine Z11 1 (by rfl) (fun Lk hLk => ?_)
   simp only [Z1,Z2]
   refine wpV_takeS (l := l) (hi := 31) (by rfl) rfl rfl rfl Try.underlying9 (by omega) ?_
   simp only [Z7,Z0]
   refine Z14 (hLk _ (fun w17 Sw17 => ?_))
   clear hLk Lk
   simp only [Z1,Z2]
   replace M := M.sees Sw17
   refine Z9 (Z17 ?_)
   have h8 := hK9 (.string (bs (l.take 31)))
   have h9 := h8 0 _ Sw17 rfl (fun h => absurd h (by decide))
   simp only [Z7,Z0] at h9
   exact h9
  refine RulesL.cons (fun vs => { tmps := #[.string (bs l), Z3, .pointer (some ⟨g3, 0, none⟩), .int .i64 0, .int .u8 ((byteN l 31 : Nat) : Int), Z3, Z3, Z3, Z3, Z3, .string (bs l), .int .i64 ((l.length : Nat) : Int), .bool false, Z3, .string (bs l), .int .u8 ((byteN l 31 : Nat) : Int), Z3, Z3, Z3, Z3, Z3, Z3, Z3, Z3, Z3, Z3, Z3, Z3, Z3, Z3, Z3, Z3, Z3, Z3, Z3, Z3, Z3, Z3, Z3, Z3, Z3, Z3, Z3, Z3, Z3, Z3, Z3, Z3, Z3, Z3, Z3, Z3, Z3, Z3, Z3, Z3], defers := [] }) (by kernel_rfl) ?_ ?_
  ·
   intro vs gs W18 SW18 D K9 hK9
   replace M := M.sees SW18
   dsimp only at hK9
   dsimp only
   refine Z12 (v := .int .u8 ((byteN l 31 : Nat) : Int)) (by rfl) (by rfl) (by rfl) ?_
   simp only [Z7,Z0]
   refine Z9 (Z17 ?_)
   have h8 := hK9 (.int .u8 ((byteN l 31 : Nat) : Int))
   have h9 := h8 0 _ (sees_refl _) rfl (fun h => absurd h (by decide))
   simp only [Z7,Z0] at h9
   exact h9
  refine RulesL.cons (fun vs => { tmps := #[.string (bs l), Z3, .pointer (some ⟨g3, 0, none⟩), .int .i64 0, .int .u8 ((byteN l 31 : Nat) : Int), Z3, Z3, Z3, Z3, Z3, .string (bs l), .int .i64 ((l.length : Nat) : Int), .bool false, Z3, .string (bs l), .int .u8 ((byteN l 31 : Nat) : Int), Z3, Z3, Z3, vs 2, Z3, Z3, Z3, Z3, Z3, Z3, Z3, Z3, Z3, Z3, Z3, Z3, Z3, Z3, Z3, Z3, Z3, Z3, Z3, Z3, Z3, Z3, Z3, Z3, Z3, Z3, Z3, Z3, Z3, Z3, Z3, Z3, Z3, Z3, Z3, Z3], defers := [] }) (by kernel_rfl) ?_ ?_
  ·
   intro vs gs W19 SW19 D K9 hK9
   replace M := M.sees SW19
   obtain ⟨D2, _⟩ := D
   have e2 : vs 2 = .int .u8 ((byteN l 31 : Nat) : Int) := D2
   dsimp only at hK9
   dsimp only
   rw [e2] at hK9 ⊢
   refine Z11 1 (by rfl) (fun Lk hLk => ?_)
   simp only [Z1,Z2]
   refine Z15 (v := .int .u8 ((byteN l 31 % 128 : Nat) : Int)) (by rfl) rfl rfl rfl (fun W => run_andNot (andNot_128 (byteN_lt l 31)) W) ?_
   simp only [Z7,Z0]
   refine Z14 (hLk _ (fun w20 Sw20 => ?_))
   clear hLk Lk
   simp only [Z1,Z2]
   replace M := M.sees Sw20
   refine Z9 (Z17 ?_)
   have h8 := hK9 (.int .u8 ((byteN l 31 % 128 : Nat) : Int))
   have h9 := h8 0 _ Sw20 rfl (fun h => absurd h (by decide))
   simp only [Z7,Z0] at h9
   exact h9
  refine RulesL.cons (fun vs => { tmps := #[.string (bs l), Z3, .pointer (some ⟨g3, 0, none⟩), .int .i64 0, .int .u8 ((byteN l 31 : Nat) : Int), Z3, Z3, Z3, Z3, Z3, .string (bs l), .int .i64 ((l.length : Nat) : Int), .bool false, Z3, .string (bs l), .int .u8 ((byteN l 31 : Nat) : Int), Z3, Z3, Z3, Z3, vs 3, Z3, Z3, Z3, Z3, Z3, Z3, Z3, Z3, Z3, Z3, Z3, Z3, Z3, Z3, Z3, Z3, Z3, Z3, Z3, Z3, Z3, Z3, Z3, Z3, Z3, Z3, Z3, Z3, Z3, Z3, Z3, Z3, Z3, Z3, Z3], defers := [] }) (by kernel_rfl) ?_ ?_
  ·
   intro vs gs W21 SW21 D K9 hK9
   replace M := M.sees SW21
   have Rg3_0 := M.r 0 0 rfl rfl
   have Rg3_4 := M.r 0 1 rfl rfl
   have Rg3_8 := M.r 0 2 rfl rfl
   have Rg3_12 := M.r 0 3 rfl rfl
   have Lg3 := M.lt 0 rfl
   have BB := M.below
   replace M := Mem.start W21
   obtain ⟨D3, _⟩ := D
   have e3 : vs 3 = .int .u8 ((byteN l 31 % 128 : Nat) : Int) := D3
   dsimp only at hK9
   dsimp only
   rw [e3] at hK9 ⊢
   refine wpL_rowN (vs := [.int .u8 ((byteN l 31 % 128 : Nat) : Int)]) (z := .int .u8 0) (bytes := 1) (by rfl) (by rfl) Try.underlying62 (by kernel_rfl) (by decide) (by kernel_rfl) (fun g22 w23 Sw23 Hg22 Bg22 => ?_)
   replace M := ((M.sees Sw23).add (N := 1) (cs := [.int .u8 ((byteN l 31 % 128 : Nat) : Int)]) (M.ge Hg22) (M.fresh Hg22) Bg22 rfl)
   clear Bg22
   simp only [Z7,Z0]
   refine Z9 (Z17 ?_)
   have h8 := hK9 (.slice (some ⟨g22, 0, none⟩) 1 1)
   have h9 := h8 g22 _ M.seesAll ⟨rfl, (M.ok _ (.head _)).up SW21⟩ (fun _ => (M.ok _ (.head _)).ge)
   simp only [Z7,Z0] at h9
   exact h9
  refine RulesL.cons (fun vs => { tmps := #[.string (bs l), Z3, .pointer (some ⟨g3, 0, none⟩), .int .i64 0, .int .u8 ((byteN l 31 : Nat) : Int), Z3, Z3, Z3, Z3, Z3, .string (bs l), .int .i64 ((l.length : Nat) : Int), .bool false, Z3, .string (bs l), .int .u8 ((byteN l 31 : Nat) : Int), Z3, Z3, Z3, Z3, Z3, vs 4, Z3, Z3, Z3, Z3, Z3, Z3, Z3, Z3, Z3, Z3, Z3, Z3, Z3, Z3, Z3, Z3, Z3, Z3, Z3, Z3, Z3, Z3, Z3, Z3, Z3, Z3, Z3, Z3, Z3, Z3, Z3, Z3, Z3, Z3], defers := [] }) (by kernel_rfl) ?_ ?_
  ·
   intro vs gs W24 SW24 D K9 hK9
   replace M := M.sees SW24
   have Rg3_0 := M.r 0 0 rfl rfl
   have Rg3_4 := M.r 0 1 rfl rfl
   have Rg3_8 := M.r 0 2 rfl rfl
   have Rg3_12 := M.r 0 3 rfl rfl
   have Lg3 := M.lt 0 rfl
   have BB := M.below
   replace M := Mem.start W24
   obtain ⟨D4, _⟩ := D
   obtain ⟨e4, Og25⟩ := D4
   generalize gs 4 = g25 at *
   replace e4 : vs 4 = .slice (some ⟨g25, 0, none⟩) 1 1 := e4
   have Rg25_0 := Og25.range (0, [.int .u8 ((byteN l 31 % 128 : Nat) : Int)]) (by simp only [List.mem_cons, true_or, or_true])
   have Lg25 := Og25.lt
   dsimp only at hK9
   dsimp only
   rw [e4] at hK9 ⊢
   refine Z11 1 (by rfl) (fun Lk hLk => ?_)
   simp only [Z1,Z2]
   rw [← bcells_one9 (v := byteN l 31 % 128) (by have := byteN_lt l 31; omega)] at Rg25_0
   refine wpV_b2s (l := [UInt8.ofNat (byteN l 31 % 128)]) (by rfl) rfl rfl rfl Try.underlying62 Try.underlying5 Try.underlying9 (M.oldR Rg25_0 Lg25) (M.oldL Lg25) ?_
   simp only [Z7,Z0]
   refine Z14 (hLk _ (fun w26 Sw26 => ?_))
   clear hLk Lk
   simp only [Z1,Z2]
   replace M := M.sees Sw26
   refine Z9 (Z17 ?_)
   have h8 := hK9 (.string (bs ([UInt8.ofNat (byteN l 31 % 128)])))
   have h9 := h8 0 _ M.seesAll rfl (fun h => absurd h (by decide))
   simp only [Z7,Z0] at h9
   exact h9
  refine RulesL.cons (fun vs => { tmps := #[.string (bs l), Z3, .pointer (some ⟨g3, 0, none⟩), .int .i64 0, .int .u8 ((byteN l 31 : Nat) : Int), Z3, Z3, Z3, Z3, Z3, .string (bs l), .int .i64 ((l.length : Nat) : Int), .bool false, Z3, .string (bs l), .int .u8 ((byteN l 31 : Nat) : Int), Z3, Z3, vs 1, Z3, Z3, Z3, vs 5, Z3, Z3, Z3, Z3, Z3, Z3, Z3, Z3, Z3, Z3, Z3, Z3, Z3, Z3, Z3, Z3, Z3, Z3, Z3, Z3, Z3, Z3, Z3, Z3, Z3, Z3, Z3, Z3, Z3, Z3, Z3, Z3, Z3], defers := [] }) (by kernel_rfl) ?_ ?_
  ·
   intro vs gs W27 SW27 D K9 hK9
   replace M := M.sees SW27
   obtain ⟨D1, D5, _⟩ := D
   have e1 : vs 1 = .string (bs (l.take 31)) := D1
   have e5 : vs 5 = .string (bs ([UInt8.ofNat (byteN l 31 % 128)])) := D5
   dsimp only at hK9
   dsimp only
   rw [e1, e5] at hK9 ⊢
   refine Z11 1 (by rfl) (fun Lk hLk => ?_)
   simp only [Z1,Z2]
   refine wpV_binS (v := .string (bs ((l.take 31) ++ ([UInt8.ofNat (byteN l 31 % 128)])))) (by rfl) rfl rfl rfl (run_add_bs _ _ _ (by simp [List.length_take, hl])) ?_
   simp only [Z7,Z0]
   refine Z14 (hLk _ (fun w28 Sw28 => ?_))
   clear hLk Lk
   simp only [Z1,Z2]
   replace M := M.sees Sw28
   refine Z9 (Z17 ?_)
   have h8 := hK9 (.string (bs ((l.take 31) ++ ([UInt8.ofNat (byteN l 31 % 128)]))))
   have h9 := h8 0 _ Sw28 rfl (fun h => absurd h (by decide))
   simp only [Z7,Z0] at h9
   exact h9
  refine RulesL.cons (fun vs => { tmps := #[.string (bs l), Z3, .pointer (some ⟨g3, 0, none⟩), .int .i64 0, .int .u8 ((byteN l 31 : Nat) : Int), Z3, Z3, Z3, Z3, Z3, .string (bs l), .int .i64 ((l.length : Nat) : Int), .bool false, Z3, .string (bs l), .int .u8 ((byteN l 31 : Nat) : Int), Z3, Z3, Z3, Z3, Z3, Z3, Z3, vs 6, Z3, Z3, Z3, Z3, Z3, Z3, Z3, Z3, Z3, Z3, Z3, Z3, Z3, Z3, Z3, Z3, Z3, Z3, Z3, Z3, Z3, Z3, Z3, Z3, Z3, Z3, Z3, Z3, Z3, Z3, Z3, Z3], defers := [] }) (by kernel_rfl) ?_ ?_
  ·
   intro vs gs W29 SW29 D K9 hK9
   replace M := M.sees SW29
   obtain ⟨D6, _⟩ := D
   have e6 : vs 6 = .string (bs ((l.take 31) ++ ([UInt8.ofNat (byteN l 31 % 128)]))) := D6
   dsimp only at hK9
   dsimp only
   rw [e6] at hK9 ⊢
   refine Z11 1 (by rfl) (fun Lk hLk => ?_)
   simp only [Z1,Z2]
   refine Z20 (v := .tuple #[fe 0, .int .i64 2]) (args := #[.string (bs ((l.take 31) ++ ([UInt8.ofNat (byteN l 31 % 128)])))]) (by rfl) rfl Try.func30 (by kernel_rfl) (by kernel_rfl) rfl (fun W hW => (by have h9 := fparse_c (yT l) W; rw [hN, hE] at h9; exact h9)) ?_
   simp only [Z7,Z0]
   refine Z14 (hLk _ (fun w30 Sw30 => ?_))
   clear hLk Lk
   simp only [Z1,Z2]
   replace M := M.sees Sw30
   refine Z9 (Z17 ?_)
   have h8 := hK9 (.tuple #[fe 0, .int .i64 2])
   have h9 := h8 0 _ Sw30 rfl (fun h => absurd h (by decide))
   simp only [Z7,Z0] at h9
   exact h9
  refine RulesL.cons (fun vs => { tmps := #[.string (bs l), Z3, .pointer (some ⟨g3, 0, none⟩), .int .i64 0, .int .u8 ((byteN l 31 : Nat) : Int), Z3, Z3, Z3, Z3, Z3, .string (bs l), .int .i64 ((l.length : Nat) : Int), .bool false, Z3, .string (bs l), .int .u8 ((byteN l 31 : Nat) : Int), Z3, Z3, Z3, Z3, Z3, Z3, Z3, Z3, vs 7, Z3, Z3, Z3, Z3, Z3, Z3, Z3, Z3, Z3, Z3, Z3, Z3, Z3, Z3, Z3, Z3, Z3, Z3, Z3, Z3, Z3, Z3, Z3, Z3, Z3, Z3, Z3, Z3, Z3, Z3, Z3], defers := [] }) (by kernel_rfl) ?_ ?_
  ·
   intro vs gs W31 SW31 D K9 hK9
   replace M := M.sees SW31
   obtain ⟨D7, _⟩ := D
   have e7 : vs 7 = .tuple #[fe 0, .int .i64 2] := D7
   dsimp only at hK9
   dsimp only
   rw [e7] at hK9 ⊢
   refine Z12 (v := .tuple #[fe 0, .int .i64 2]) (by rfl) (by rfl) (by rfl) ?_
   simp only [Z7,Z0]
   refine Z9 (Z17 ?_)
   have h8 := hK9 (.tuple #[fe 0, .int .i64 2])
   have h9 := h8 0 _ (sees_refl _) rfl (fun h => absurd h (by decide))
   simp only [Z7,Z0] at h9
   exact h9
  refine RulesL.cons (fun vs => { tmps := #[.string (bs l), Z3, .pointer (some ⟨g3, 0, none⟩), .int .i64 0, .int .u8 ((byteN l 31 : Nat) : Int), Z3, Z3, Z3, Z3, Z3, .string (bs l), .int .i64 ((l.length : Nat) : Int), .bool false, Z3, .string (bs l), .int .u8 ((byteN l 31 : Nat) : Int), vs 8, Z3, Z3, Z3, Z3, Z3, Z3, Z3, Z3, Z3, Z3, Z3, Z3, Z3, Z3, Z3, Z3, Z3, Z3, Z3, Z3, Z3, Z3, Z3, Z3, Z3, Z3, Z3, Z3, Z3, Z3, Z3, Z3, Z3, Z3, Z3, Z3, Z3, Z3, Z3], defers := [] }) (by kernel_rfl) ?_ ?_
  ·
   intro vs gs W32 SW32 D K9 hK9
   replace M := M.sees SW32
   obtain ⟨D8, _⟩ := D
   have e8 : vs 8 = .tuple #[fe 0, .int .i64 2] := D8
   dsimp only at hK9
   dsimp only
   rw [e8] at hK9 ⊢
   refine Z11 1 (by rfl) (fun Lk hLk => ?_)
   simp only [Z1,Z2]
   refine wpV_extract (v := fe 0) (by rfl) rfl rfl rfl ?_
   simp only [Z7,Z0]
   refine Z14 (hLk _ (fun w33 Sw33 => ?_))
   clear hLk Lk
   simp only [Z1,Z2]
   replace M := M.sees Sw33
   refine Z9 (Z17 ?_)
   have h8 := hK9 (fe 0)
   have h9 := h8 0 _ Sw33 rfl (fun h => absurd h (by decide))
   simp only [Z7,Z0] at h9
   exact h9
  refine RulesL.cons (fun vs => { tmps := #[.string (bs l), Z3, .pointer (some ⟨g3, 0, none⟩), .int .i64 0, .int .u8 ((byteN l 31 : Nat) : Int), Z3, Z3, Z3, Z3, Z3, .string (bs l), .int .i64 ((l.length : Nat) : Int), .bool false, Z3, .string (bs l), .int .u8 ((byteN l 31 : Nat) : Int), vs 8, Z3, Z3, Z3, Z3, Z3, Z3, Z3, Z3, Z3, Z3, Z3, Z3, Z3, Z3, Z3, Z3, Z3, Z3, Z3, Z3, Z3, Z3, Z3, Z3, Z3, Z3, Z3, Z3, Z3, Z3, Z3, Z3, Z3, Z3, Z3, Z3, Z3, Z3, Z3], defers := [] }) (by kernel_rfl) ?_ ?_
  ·
   intro vs gs W34 SW34 D K9 hK9
   replace M := M.sees SW34
   obtain ⟨D8, _⟩ := D
   have e8 : vs 8 = .tuple #[fe 0, .int .i64 2] := D8
   dsimp only at hK9
   dsimp only
   rw [e8] at hK9 ⊢
   refine Z11 1 (by rfl) (fun Lk hLk => ?_)
   simp only [Z1,Z2]
   refine wpV_extract (v := .int .i64 2) (by rfl) rfl rfl rfl ?_
   simp only [Z7,Z0]
   refine Z14 (hLk _ (fun w35 Sw35 => ?_))
   clear hLk Lk
   simp only [Z1,Z2]
   replace M := M.sees Sw35
   refine Z9 (Z17 ?_)
   have h8 := hK9 (.int .i64 2)
   have h9 := h8 0 _ Sw35 rfl (fun h => absurd h (by decide))
   simp only [Z7,Z0] at h9
   exact h9
  refine RulesL.cons (fun vs => { tmps := #[.string (bs l), Z3, .pointer (some ⟨g3, 0, none⟩), .int .i64 0, .int .u8 ((byteN l 31 : Nat) : Int), Z3, Z3, Z3, Z3, Z3, .string (bs l), .int .i64 ((l.length : Nat) : Int), .bool false, Z3, .string (bs l), .int .u8 ((byteN l 31 : Nat) : Int), Z3, Z3, Z3, Z3, Z3, Z3, Z3, Z3, Z3, Z3, Z3, Z3, Z3, Z3, Z3, Z3, Z3, Z3, Z3, Z3, Z3, Z3, Z3, Z3, Z3, Z3, Z3, Z3, Z3, Z3, Z3, Z3, Z3, Z3, Z3, Z3, Z3, Z3, Z3, Z3], defers := [] }) (by kernel_rfl) ?_ ?_
  ·
   intro vs gs W36 SW36 D K9 hK9
   replace M := M.sees SW36
   have Rg3_0 := M.r 0 0 rfl rfl
   have Rg3_4 := M.r 0 1 rfl rfl
   have Rg3_8 := M.r 0 2 rfl rfl
   have Rg3_12 := M.r 0 3 rfl rfl
   have Lg3 := M.lt 0 rfl
   have BB := M.below
   replace M := Mem.start W36
   dsimp only at hK9
   dsimp only
   refine wpL_var (t := 24) (cs := [.int .u64 0, .int .u64 0, .int .u64 0, .int .u64 0]) (by rfl) (fun W => ?_) (fun g37 w38 Sw38 Hg37 Bg37 => ?_)
   ·
    go_simp
   replace M := ((M.sees Sw38).add (N := 4) (cs := [.int .u64 0, .int .u64 0, .int .u64 0, .int .u64 0]) (M.ge Hg37) (M.fresh Hg37) Bg37 rfl)
   clear Bg37
   simp only [Z7,Z0]
   refine Z9 (Z17 ?_)
   have h8 := hK9 (.pointer (some ⟨g37, 0, none⟩))
   have h9 := h8 g37 _ M.seesAll ⟨rfl, (M.ok _ (.head _)).up SW36⟩ (fun _ => (M.ok _ (.head _)).ge)
   simp only [Z7,Z0] at h9
   exact h9
  exact RulesL.nil
 intro vs gs W39 SW39 D A9
 obtain ⟨D0, D1, D2, D3, D4, D5, D6, D7, D8, D9, D10, D11, _⟩ := (show DepRel _ vs gs W39 [0, 1, 2, 3, 4, 5, 6, 7, 8, 9, 10, 11] from D)
 have n4_11 : gs 4 ≠ gs 11 := A9 4 11 (by decide) (by decide) (by decide) (by decide) (by decide)
 clear A9 D
 have e0 : vs 0 = .string (bs l) := D0
 have e1 : vs 1 = .string (bs (l.take 31)) := D1
 have e2 : vs 2 = .int .u8 ((byteN l 31 : Nat) : Int) := D2
 have e3 : vs 3 = .int .u8 ((byteN l 31 % 128 : Nat) : Int) := D3
 obtain ⟨e4, Og40⟩ := D4
 generalize gs 4 = g40 at *
 replace e4 : vs 4 = .slice (some ⟨g40, 0, none⟩) 1 1 := e4
 have e5 : vs 5 = .string (bs ([UInt8.ofNat (byteN l 31 % 128)])) := D5
 have e6 : vs 6 = .string (bs ((l.take 31) ++ ([UInt8.ofNat (byteN l 31 % 128)]))) := D6
 have e7 : vs 7 = .tuple #[fe 0, .int .i64 2] := D7
 have e8 : vs 8 = .tuple #[fe 0, .int .i64 2] := D8
 have e9 : vs 9 = fe 0 := D9
 have e10 : vs 10 = .int .i64 2 := D10
 obtain ⟨e11, Og41⟩ := D11
 generalize gs 11 = g41 at *
 replace e11 : vs 11 = .pointer (some ⟨g41, 0, none⟩) := e11
 replace M := M.addOks SW39 [⟨g40, 1, [(0, [.int .u8 ((byteN l 31 % 128 : Nat) : Int)])]⟩, ⟨g41, 4, [(0, [.int .u64 0, .int .u64 0, .int .u64 0, .int .u64 0])]⟩] (List.forall_mem_cons.2 ⟨Og40, (List.forall_mem_cons.2 ⟨Og41, (fun _ h => nomatch h)⟩)⟩) (.cons (List.forall_mem_cons.2 ⟨n4_11, (fun _ h => nomatch h)⟩) (.cons (fun _ h => nomatch h) .nil))
 simp only [List.cons_append, List.nil_append] at M
 dsimp only
 simp only [e0, e1, e2, e3, e4, e5, e6, e7, e8, e9, e10, e11, Z2]
 refine wpL_store (g := g41) (off := 0) (n := 4) (cs := fel 0) (by rfl) (by rfl) (by rfl) (by rfl) (by rfl) (M.t 1 rfl) (by simp [flen]) info24 (fel_one _) (fun w42 P R T => ?_)
 replace M := M.putS 1 0 rfl P R T rfl ⟨.inl rfl, trivial⟩
 simp only [Z0] at M
 refine Z13 (v := .int .i64 2) (by rfl) (by rfl) (by rfl) ?_
 simp only [Z7,Z0]
 refine Z9 (Z10 ?_)
 refine hK12 _ _ ?_
 refine Z4 (fun K43 hK43 => ?_)
 refine Z4 (fun K44 hK44 => ?_)
 refine Z8 ?_
 refine Z12 (v := .int .i64 2) (by rfl) (by rfl) (by rfl) ?_
 simp only [Z7,Z0]
 refine Z11 1 (by rfl) (fun Lk hLk => ?_)
 simp only [Z1,Z2]
 refine Z15 (v := .bool true) (by rfl) rfl rfl rfl (fun W => run_neq _ _ _ _ W) ?_
 simp only [Z7,Z0]
 refine Z14 (hLk _ (fun w46 Sw46 => ?_))
 clear hLk Lk
 simp only [Z1,Z2]
 replace M := M.sees Sw46
 refine Z9 (Z10 ?_)
 refine hK44 _ _ ?_
 refine Z5 rfl ?_
 refine Z4 (fun K47 hK47 => ?_)
 refine Z8 ?_
 refine Z11 1 (by rfl) (fun Lk hLk => ?_)
 simp only [Z1,Z2]
 refine Z19 (v := .agg ([.int .u64 0, .int .u64 0, .int .u64 0, .int .u64 0, .int .u64 0, .int .u64 0, .int .u64 0, .int .u64 0, .int .u64 0, .int .u64 0, .int .u64 0, .int .u64 0, .int .u64 0, .int .u64 0, .int .u64 0, .int .u64 0]).toArray) (by rfl) (by rfl) (fun W hW => ?_) ?_
 ·
  (unfold RunsVal; kernel_rfl)
 simp only [Z7,Z0]
 refine Z14 (hLk _ (fun w49 Sw49 => ?_))
 clear hLk Lk
 simp only [Z1,Z2]
 replace M := M.sees Sw49
 refine wpL_store (g := g3) (off := 0) (n := 16) (cs := [.int .u64 0, .int .u64 0, .int .u64 0, .int .u64 0, .int .u64 0, .int .u64 0, .int .u64 0, .int .u64 0, .int .u64 0, .int .u64 0, .int .u64 0, .int .u64 0, .int .u64 0, .int .u64 0, .int .u64 0, .int .u64 0]) (by rfl) (by rfl) (by rfl) (by rfl) (by rfl) (M.t 2 rfl) (by simp [flen]) info26 (by simp [fone, Value.oneCell']) (fun w50 P R T => ?_)
 replace M := M.put (segs' := [(0, [.int .u64 0, .int .u64 0, .int .u64 0, .int .u64 0]), (4, [.int .u64 0, .int .u64 0, .int .u64 0, .int .u64 0]), (8, [.int .u64 0, .int .u64 0, .int .u64 0, .int .u64 0]), (12, [.int .u64 0, .int .u64 0, .int .u64 0, .int .u64 0])]) 2 rfl P T (SegsOf.at R ⟨rfl, rfl, rfl, rfl, trivial⟩)
 simp only [Z0] at M
 refine Z13 (v := .int .i64 10) (by rfl) (by rfl) (by rfl) ?_
 simp only [Z7,Z0]
 refine Z9 (Z10 ?_)
 refine hK47 _ _ ?_
 refine wp_ret ?_
 repeat (first | with_reducible refine then_ret ?_ | with_reducible refine inblock_ret ?_)
 refine bodyPost_ret (v := .tuple #[.agg ([.int .u64 0, .int .u64 0, .int .u64 0, .int .u64 0] ++ [.int .u64 0, .int .u64 0, .int .u64 0, .int .u64 0] ++ [.int .u64 0, .int .u64 0, .int .u64 0, .int .u64 0] ++ [.int .u64 0, .int .u64 0, .int .u64 0, .int .u64 0] : List Value).toArray, .int .i64 10]) (res2 rfl (.cell (by rfl) (run_loadVar_mid _ _ _ _ ([.int .u64 0, .int .u64 0, .int .u64 0, .int .u64 0] ++ [.int .u64 0, .int .u64 0, .int .u64 0, .int .u64 0] ++ [.int .u64 0, .int .u64 0, .int .u64 0, .int .u64 0] ++ [.int .u64 0, .int .u64 0, .int .u64 0, .int .u64 0]) _ (range_join (range_join (range_join (M.r 2 0 rfl rfl) (M.r 2 1 rfl rfl) (by simp [flen])) (M.r 2 2 rfl rfl) (by simp [flen])) (M.r 2 3 rfl rfl) (by simp [flen])) Try.underlying26 rfl info26)) (.tmp (by rfl))) rfl ?_
 have BE := M.below
 exact ⟨rfl, BE⟩
set_option maxHeartbeats 2000000 in
theorem Parse_go {l : List UInt8} {x y : Nat} {b : Bool} {w : World} (hl : l.length = 32) (hx : x < 2 ^ 256) (hy : y < 2 ^ 256) (hN : fparseN (yT l) = y) (hE : fparseE (yT l) = 0) (hr : rootX y = (x, b)) :
  Calls Try.prog 10 #[.string (bs l)] w fun e w' => e = .returned (.tuple #[.agg (fel (parsP x y b (decide (byteN l 31 / 128 * 128 ≠ 0))).x ++ fel (parsP x y b (decide (byteN l 31 / 128 * 128 ≠ 0))).y ++ fel (parsP x y b (decide (byteN l 31 / 128 * 128 ≠ 0))).z ++ fel (parsP x y b (decide (byteN l 31 / 128 * 128 ≠ 0))).t : List Value).toArray, .int .i64 (parsE x b (decide (byteN l 31 / 128 * 128 ≠ 0)))]) ∧ Below w.heap.size w w' := by
 go_enter Try.func10, Try.ntmps10
 have M := Mem.start w
 refine Z4 (fun K1 hK1 => ?_)
 refine Z8 ?_
 refine wpL_var (t := 26) (cs := [.int .u64 0, .int .u64 0, .int .u64 0, .int .u64 0, .int .u64 0, .int .u64 0, .int .u64 0, .int .u64 0, .int .u64 0, .int .u64 0, .int .u64 0, .int .u64 0, .int .u64 0, .int .u64 0, .int .u64 0, .int .u64 0]) (by rfl) (fun W => ?_) (fun g3 w4 Sw4 Hg3 Bg3 => ?_)
 ·
  go_simp
 replace M := ((M.sees Sw4).addS (N := 16) (cs := [.int .u64 0, .int .u64 0, .int .u64 0, .int .u64 0, .int .u64 0, .int .u64 0, .int .u64 0, .int .u64 0, .int .u64 0, .int .u64 0, .int .u64 0, .int .u64 0, .int .u64 0, .int .u64 0, .int .u64 0, .int .u64 0]) (segs := [(0, [.int .u64 0, .int .u64 0, .int .u64 0, .int .u64 0]), (4, [.int .u64 0, .int .u64 0, .int .u64 0, .int .u64 0]), (8, [.int .u64 0, .int .u64 0, .int .u64 0, .int .u64 0]), (12, [.int .u64 0, .int .u64 0, .int .u64 0, .int .u64 0])]) (M.ge Hg3) (M.fresh Hg3) Bg3 rfl ⟨rfl, rfl, rfl, rfl, trivial⟩)
 clear Bg3
 simp only [Z7,Z0]
 refine Z13 (v := .int .i64 0) (by rfl) (by rfl) (by rfl) ?_
 simp only [Z7,Z0]
 refine Z9 (Z10 ?_)
 refine hK1 _ _ ?_
 refine Z4 (fun K5 hK5 => ?_)
 refine Z4 (fun K6 hK6 => ?_)
 refine Z8 ?_
 refine Z12 (v := .string (bs l)) (by rfl) (by rfl) (by rfl) ?_
 simp only [Z7,Z0]
 refine Z11 2 (by rfl) (fun Lk hLk => ?_)
 simp only [Z1,Z2]
 refine wpV_lenS (by rfl) rfl rfl rfl Try.underlying9 ?_
 simp only [Z7,Z0]
 refine Z15 (v := .bool false) (by rfl) rfl rfl rfl (fun W => (run_neqN l.length 32 _ _ W).trans (by rw [(decide_eq_false (fun h => h hl))])) ?_
 simp only [Z7,Z0]
 refine Z14 (hLk _ (fun w8 Sw8 => ?_))
 clear hLk Lk
 simp only [Z1,Z2]
 replace M := M.sees Sw8
 refine Z9 (Z10 ?_)
 refine hK6 _ _ ?_
 refine Z6 rfl ?_
 refine wp_skip ?_
 refine hK5 _ _ ?_
 refine Z4 (fun K9 hK9 => ?_)
 refine Z8 ?_
 refine Z12 (v := .string (bs l)) (by rfl) (by rfl) (by rfl) ?_
 simp only [Z7,Z0]
 refine Z11 1 (by rfl) (fun Lk hLk => ?_)
 simp only [Z1,Z2]
 refine wpV_indexb (n := 31) (by omega) (by rfl) rfl rfl rfl Try.underlying9 ?_
 simp only [Z7,Z0]
 refine Z14 (hLk _ (fun w11 Sw11 => ?_))
 clear hLk Lk
 simp only [Z1,Z2]
 replace M := M.sees Sw11
 refine Z13 (v := .int .u8 ((byteN l 31 : Nat) : Int)) (by rfl) (by rfl) (by rfl) ?_
 simp only [Z7,Z0]
 refine Z9 (Z10 ?_)
 refine hK9 _ _ ?_
 refine Z4 (fun K12 hK12 => ?_)
 refine wp_region_addsF 12 [10] [4, 11] [ValRel (.string (bs l)), ValRel (.string (bs (l.take 31))), ValRel (.int .u8 ((byteN l 31 : Nat) : Int)), ValRel (.int .u8 ((byteN l 31 % 128 : Nat) : Int)), BoxRel w11 (fun gA => .slice (some ⟨gA, 0, none⟩) 1 1) 1 [(0, [.int .u8 ((byteN l 31 % 128 : Nat) : Int)])], ValRel (.string (bs ([UInt8.ofNat (byteN l 31 % 128)]))), ValRel (.string (bs ((l.take 31) ++ ([UInt8.ofNat (byteN l 31 % 128)])))), ValRel (.tuple #[fe y, .int .i64 0]), ValRel (.tuple #[fe y, .int .i64 0]), ValRel (fe y), ValRel (.int .i64 0), BoxRel w11 (fun gA => .pointer (some ⟨gA, 0, none⟩)) 4 [(0, [.int .u64 0, .int .u64 0, .int .u64 0, .int .u64 0])]] [[], [0], [], [2], [3], [4], [1, 5], [6], [7], [8], [8], []] (fun vs => { tmps := #[.string (bs l), Z3, .pointer (some ⟨g3, 0, none⟩), .int .i64 0, .int .u8 ((byteN l 31 : Nat) : Int), vs 11, Z3, Z3, Z3, Z3, .string (bs l), .int .i64 ((l.length : Nat) : Int), .bool false, Z3, .string (bs l), .int .u8 ((byteN l 31 : Nat) : Int), vs 8, vs 0, vs 1, vs 2, vs 3, vs 4, vs 5, vs 6, vs 7, vs 9, vs 10, Z3, Z3, Z3, Z3, Z3, Z3, Z3, Z3, Z3, Z3, Z3, Z3, Z3, Z3, Z3, Z3, Z3, Z3, Z3, Z3, Z3, Z3, Z3, Z3, Z3, Z3, Z3, Z3, Z3], defers := [] }) (by kernel_rfl) (by kernel_rfl) (by kernel_rfl) (by kernel_rfl) (.cons keep_val (.cons keep_val (.cons keep_val (.cons keep_val (.cons keep_box (.cons keep_val (.cons keep_val (.cons keep_val (.cons keep_val (.cons keep_val (.cons keep_val (.cons keep_box AllKeep.nil)))))))))))) (.free free_val (.free free_val (.free free_val (.free free_val (.free free_box (.free free_val (.free free_val (.free free_val (.free free_val (.free free_val (.free free_val (.free free_box AllLoc.nil)))))))))))) (.cons own_box (.cons own_box AllOwn.nil)) (by kernel_rfl) ?_ ?_
 ·
  simp only [Z1]
  refine RulesL.cons (fun vs => { tmps := #[.string (bs l), Z3, .pointer (some ⟨g3, 0, none⟩), .int .i64 0, .int .u8 ((byteN l 31 : Nat) : Int), Z3, Z3, Z3, Z3, Z3, .string (bs l), .int .i64 ((l.length : Nat) : Int), .bool false, Z3, .string (bs l), .int .u8 ((byteN l 31 : Nat) : Int), Z3, Z3, Z3, Z3, Z3, Z3, Z3, Z3, Z3, Z3, Z3, Z3, Z3, Z3, Z3, Z3, Z3, Z3, Z3, Z3, Z3, Z3, Z3, Z3, Z3, Z3, Z3, Z3, Z3, Z3, Z3, Z3, Z3, Z3, Z3, Z3, Z3, Z3, Z3, Z3], defers := [] }) (by kernel_rfl) ?_ ?_
  ·
   intro vs gs W15 SW15 D K9 hK9
   replace M := M.sees SW15
   dsimp only at hK9
   dsimp only
   refine Z12 (v := .string (bs l)) (by rfl) (by rfl) (by rfl) ?_
   simp only [Z7,Z0]
   refine Z9 (Z17 ?_)
   have h8 := hK9 (.string (bs l))
   have h9 := h8 0 _ (sees_refl _) rfl (fun h => absurd h (by decide))
   simp only [Z7,Z0] at h9
   exact h9
  refine RulesL.cons (fun vs => { tmps := #[.string (bs l), Z3, .pointer (some ⟨g3, 0, none⟩), .int .i64 0, .int .u8 ((byteN l 31 : Nat) : Int), Z3, Z3, Z3, Z3, Z3, .string (bs l), .int .i64 ((l.length : Nat) : Int), .bool false, Z3, .string (bs l), .int .u8 ((byteN l 31 : Nat) : Int), Z3, vs 0, Z3, Z3, Z3, Z3, Z3, Z3, Z3, Z3, Z3, Z3, Z3, Z3, Z3, Z3, Z3, Z3, Z3, Z3, Z3, Z3, Z3, Z3, Z3, Z3, Z3, Z3, Z3, Z3, Z3, Z3, Z3, Z3, Z3, Z3, Z3, Z3, Z3, Z3], defers := [] }) (by kernel_rfl) ?_ ?_
  ·
   intro vs gs W16 SW16 D K9 hK9
   replace M := M.sees SW16
   obtain ⟨D0, _⟩ := D
   have e0 : vs 0 = .string (bs l) := D0
   dsimp only at hK9
   dsimp only
   rw [e0] at hK9 ⊢
   refine Z11 1 (by rfl) (fun Lk hLk => ?_)
   simp only [Z1,Z2]
   refine wpV_takeS (l := l) (hi := 31) (by rfl) rfl rfl rfl Try.underlying9 (by omega) ?_
   simp only [Z7,Z0]
   refine Z14 (hLk _ (fun w17 Sw17 => ?_))
   clear hLk Lk
   simp only [Z1,Z2]
   replace M := M.sees Sw17
   refine Z9 (Z17 ?_)
   have h8 := hK9 (.string (bs (l.take 31)))
   have h9 := h8 0 _ Sw17 rfl (fun h => absurd h (by decide))
   simp only [Z7,Z0] at h9
   exact h9
  refine RulesL.cons (fun vs => { tmps := #[.string (bs l), Z3, .pointer (some ⟨g3, 0, none⟩), .int .i64 0, .int .u8 ((byteN l 31 : Nat) : Int), Z3, Z3, Z3, Z3, Z3, .string (bs l), .int .i64 ((l.length : Nat) : Int), .bool false, Z3, .string (bs l), .int .u8 ((byteN l 31 : Nat) : Int), Z3, Z3, Z3, Z3, Z3, Z3, Z3, Z3, Z3, Z3, Z3, Z3, Z3, Z3, Z3, Z3, Z3, Z3, Z3, Z3, Z3, Z3, Z3, Z3, Z3, Z3, Z3, Z3, Z3, Z3, Z3, Z3, Z3, Z3, Z3, Z3, Z3, Z3, Z3, Z3], defers := [] }) (by kernel_rfl) ?_ ?_
  ·
   intro vs gs W18 SW18 D K9 hK9
   replace M := M.sees SW18
   dsimp only at hK9
   dsimp only
   refine Z12 (v := .int .u8 ((byteN l 31 : Nat) : Int)) (by rfl) (by rfl) (by rfl) ?_
   simp only [Z7,Z0]
   refine Z9 (Z17 ?_)
   have h8 := hK9 (.int .u8 ((byteN l 31 : Nat) : Int))
   have h9 := h8 0 _ (sees_refl _) rfl (fun h => absurd h (by decide))
   simp only [Z7,Z0] at h9
   exact h9
  refine RulesL.cons (fun vs => { tmps := #[.string (bs l), Z3, .pointer (some ⟨g3, 0, none⟩), .int .i64 0, .int .u8 ((byteN l 31 : Nat) : Int), Z3, Z3, Z3, Z3, Z3, .string (bs l), .int .i64 ((l.length : Nat) : Int), .bool false, Z3, .string (bs l), .int .u8 ((byteN l 31 : Nat) : Int), Z3, Z3, Z3, vs 2, Z3, Z3, Z3, Z3, Z3, Z3, Z3, Z3, Z3, Z3, Z3, Z3, Z3, Z3, Z3, Z3, Z3, Z3, Z3, Z3, Z3, Z3, Z3, Z3, Z3, Z3, Z3, Z3, Z3, Z3, Z3, Z3, Z3, Z3, Z3, Z3], defers := [] }) (by kernel_rfl) ?_ ?_
  ·
   intro vs gs W19 SW19 D K9 hK9
   replace M := M.sees SW19
   obtain ⟨D2, _⟩ := D
   have e2 : vs 2 = .int .u8 ((byteN l 31 : Nat) : Int) := D2
   dsimp only at hK9
   dsimp only
   rw [e2] at hK9 ⊢
   refine Z11 1 (by rfl) (fun Lk hLk => ?_)
   simp only [Z1,Z2]
   refine Z15 (v := .int .u8 ((byteN l 31 % 128 : Nat) : Int)) (by rfl) rfl rfl rfl (fun W => run_andNot (andNot_128 (byteN_lt l 31)) W) ?_
   simp only [Z7,Z0]
   refine Z14 (hLk _ (fun w20 Sw20 => ?_))
   clear hLk Lk
   simp only [Z1,Z2]
   replace M := M.sees Sw20
   refine Z9 (Z17 ?_)
   have h8 := hK9 (.int .u8 ((byteN l 31 % 128 : Nat) : Int))
   have h9 := h8 0 _ Sw20 rfl (fun h => absurd h (by decide))
   simp only [Z7,Z0] at h9
   exact h9
  refine RulesL.cons (fun vs => { tmps := #[.string (bs l), Z3, .pointer (some ⟨g3, 0, none⟩), .int .i64 0, .int .u8 ((byteN l 31 : Nat) : Int), Z3, Z3, Z3, Z3, Z3, .string (bs l), .int .i64 ((l.length : Nat) : Int), .bool false, Z3, .string (bs l), .int .u8 ((byteN l 31 : Nat) : Int), Z3, Z3, Z3, Z3, vs 3, Z3, Z3, Z3, Z3, Z3, Z3, Z3, Z3, Z3, Z3, Z3, Z3, Z3, Z3, Z3, Z3, Z3, Z3, Z3, Z3, Z3, Z3, Z3, Z3, Z3, Z3, Z3, Z3, Z3, Z3, Z3, Z3, Z3, Z3, Z3], defers := [] }) (by kernel_rfl) ?_ ?_
  ·
   intro vs gs W21 SW21 D K9 hK9
   replace M := M.sees SW21
   have Rg3_0 := M.r 0 0 rfl rfl
   have Rg3_4 := M.r 0 1 rfl rfl
   have Rg3_8 := M.r 0 2 rfl rfl
   have Rg3_12 := M.r 0 3 rfl rfl
   have Lg3 := M.lt 0 rfl
   have BB := M.below
   replace M := Mem.start W21
   obtain ⟨D3, _⟩ := D
   have e3 : vs 3 = .int .u8 ((byteN l 31 % 128 : Nat) : Int) := D3
   dsimp only at hK9
   dsimp only
   rw [e3] at hK9 ⊢
   refine wpL_rowN (vs := [.int .u8 ((byteN l 31 % 128 : Nat) : Int)]) (z := .int .u8 0) (bytes := 1) (by rfl) (by rfl) Try.underlying62 (by kernel_rfl) (by decide) (by kernel_rfl) (fun g22 w23 Sw23 Hg22 Bg22 => ?_)
   replace M := ((M.sees Sw23).add (N := 1) (cs := [.int .u8 ((byteN l 31 % 128 : Nat) : Int)]) (M.ge Hg22) (M.fresh Hg22) Bg22 rfl)
   clear Bg22
   simp only [Z7,Z0]
   refine Z9 (Z17 ?_)
   have h8 := hK9 (.slice (some ⟨g22, 0, none⟩) 1 1)
   have h9 := h8 g22 _ M.seesAll ⟨rfl, (M.ok _ (.head _)).up SW21⟩ (fun _ => (M.ok _ (.head _)).ge)
   simp only [Z7,Z0] at h9
   exact h9
  refine RulesL.cons (fun vs => { tmps := #[.string (bs l), Z3, .pointer (some ⟨g3, 0, none⟩), .int .i64 0, .int .u8 ((byteN l 31 : Nat) : Int), Z3, Z3, Z3, Z3, Z3, .string (bs l), .int .i64 ((l.length : Nat) : Int), .bool false, Z3, .string (bs l), .int .u8 ((byteN l 31 : Nat) : Int), Z3, Z3, Z3, Z3, Z3, vs 4, Z3, Z3, Z3, Z3, Z3, Z3, Z3, Z3, Z3, Z3, Z3, Z3, Z3, Z3, Z3, Z3, Z3, Z3, Z3, Z3, Z3, Z3, Z3, Z3, Z3, Z3, Z3, Z3, Z3, Z3, Z3, Z3, Z3, Z3], defers := [] }) (by kernel_rfl) ?_ ?_
  ·
   intro vs gs W24 SW24 D K9 hK9
   replace M := M.sees SW24
   have Rg3_0 := M.r 0 0 rfl rfl
   have Rg3_4 := M.r 0 1 rfl rfl
   have Rg3_8 := M.r 0 2 rfl rfl
   have Rg3_12 := M.r 0 3 rfl rfl
   have Lg3 := M.lt 0 rfl
   have BB := M.below
   replace M := Mem.start W24
   obtain ⟨D4, _⟩ := D
   obtain ⟨e4, Og25⟩ := D4
   generalize gs 4 = g25 at *
   replace e4 : vs 4 = .slice (some ⟨g25, 0, none⟩) 1 1 := e4
   have Rg25_0 := Og25.range (0, [.int .u8 ((byteN l 31 % 128 : Nat) : Int)]) (by simp only [List.mem_cons, true_or, or_true])
   have Lg25 := Og25.lt
   dsimp only at hK9
   dsimp only
   rw [e4] at hK9 ⊢
   refine Z11 1 (by rfl) (fun Lk hLk => ?_)
   simp only [Z1,Z2]
   rw [← bcells_one9 (v := byteN l 31 % 128) (by have := byteN_lt l 31; omega)] at Rg25_0
   refine wpV_b2s (l := [UInt8.ofNat (byteN l 31 % 128)]) (by rfl) rfl rfl rfl Try.underlying62 Try.underlying5 Try.underlying9 (M.oldR Rg25_0 Lg25) (M.oldL Lg25) ?_
   simp only [Z7,Z0]
   refine Z14 (hLk _ (fun w26 Sw26 => ?_))
   clear hLk Lk
   simp only [Z1,Z2]
   replace M := M.sees Sw26
   refine Z9 (Z17 ?_)
   have h8 := hK9 (.string (bs ([UInt8.ofNat (byteN l 31 % 128)])))
   have h9 := h8 0 _ M.seesAll rfl (fun h => absurd h (by decide))
   simp only [Z7,Z0] at h9
   exact h9
  refine RulesL.cons (fun vs => { tmps := #[.string (bs l), Z3, .pointer (some ⟨g3, 0, none⟩), .int .i64 0, .int .u8 ((byteN l 31 : Nat) : Int), Z3, Z3, Z3, Z3, Z3, .string (bs l), .int .i64 ((l.length : Nat) : Int), .bool false, Z3, .string (bs l), .int .u8 ((byteN l 31 : Nat) : Int), Z3, Z3, vs 1, Z3, Z3, Z3, vs 5, Z3, Z3, Z3, Z3, Z3, Z3, Z3, Z3, Z3, Z3, Z3, Z3, Z3, Z3, Z3, Z3, Z3, Z3, Z3, Z3, Z3, Z3, Z3, Z3, Z3, Z3, Z3, Z3, Z3, Z3, Z3, Z3, Z3], defers := [] }) (by kernel_rfl) ?_ ?_
  ·
   intro vs gs W27 SW27 D K9 hK9
   replace M := M.sees SW27
   obtain ⟨D1, D5, _⟩ := D
   have e1 : vs 1 = .string (bs (l.take 31)) := D1
   have e5 : vs 5 = .string (bs ([UInt8.ofNat (byteN l 31 % 128)])) := D5
   dsimp only at hK9
   dsimp only
   rw [e1, e5] at hK9 ⊢
   refine Z11 1 (by rfl) (fun Lk hLk => ?_)
   simp only [Z1,Z2]
   refine wpV_binS (v := .string (bs ((l.take 31) ++ ([UInt8.ofNat (byteN l 31 % 128)])))) (by rfl) rfl rfl rfl (run_add_bs _ _ _ (by simp [List.length_take, hl])) ?_
   simp only [Z7,Z0]
   refine Z14 (hLk _ (fun w28 Sw28 => ?_))
   clear hLk Lk
   simp only [Z1,Z2]
   replace M := M.sees Sw28
   refine Z9 (Z17 ?_)
   have h8 := hK9 (.string (bs ((l.take 31) ++ ([UInt8.ofNat (byteN l 31 % 128)]))))
   have h9 := h8 0 _ Sw28 rfl (fun h => absurd h (by decide))
   simp only [Z7,Z0] at h9
   exact h9
  refine RulesL.cons (fun vs => { tmps := #[.string (bs l), Z3, .pointer (some ⟨g3, 0, none⟩), .int .i64 0, .int .u8 ((byteN l 31 : Nat) : Int), Z3, Z3, Z3, Z3, Z3, .string (bs l), .int .i64 ((l.length : Nat) : Int), .bool false, Z3, .string (bs l), .int .u8 ((byteN l 31 : Nat) : Int), Z3, Z3, Z3, Z3, Z3, Z3, Z3, vs 6, Z3, Z3, Z3, Z3, Z3, Z3, Z3, Z3, Z3, Z3, Z3, Z3, Z3, Z3, Z3, Z3, Z3, Z3, Z3, Z3, Z3, Z3, Z3, Z3, Z3, Z3, Z3, Z3, Z3, Z3, Z3, Z3], defers := [] }) (by kernel_rfl) ?_ ?_
  ·
   intro vs gs W29 SW29 D K9 hK9
   replace M := M.sees SW29
   obtain ⟨D6, _⟩ := D
   have e6 : vs 6 = .string (bs ((l.take 31) ++ ([UInt8.ofNat (byteN l 31 % 128)]))) := D6
   dsimp only at hK9
   dsimp only
   rw [e6] at hK9 ⊢
   refine Z11 1 (by rfl) (fun Lk hLk => ?_)
   simp only [Z1,Z2]
   refine Z20 (v := .tuple #[fe y, .int .i64 0]) (args := #[.string (bs ((l.take 31) ++ ([UInt8.ofNat (byteN l 31 % 128)])))]) (by rfl) rfl Try.func30 (by kernel_rfl) (by kernel_rfl) rfl (fun W hW => (by have h9 := fparse_c (yT l) W; rw [hN, hE] at h9; exact h9)) ?_
   simp only [Z7,Z0]
   refine Z14 (hLk _ (fun w30 Sw30 => ?_))
   clear hLk Lk
   simp only [Z1,Z2]
   replace M := M.sees Sw30
   refine Z9 (Z17 ?_)
   have h8 := hK9 (.tuple #[fe y, .int .i64 0])
   have h9 := h8 0 _ Sw30 rfl (fun h => absurd h (by decide))
   simp only [Z7,Z0] at h9
   exact h9
  refine RulesL.cons (fun vs => { tmps := #[.string (bs l), Z3, .pointer (some ⟨g3, 0, none⟩), .int .i64 0, .int .u8 ((byteN l 31 : Nat) : Int), Z3, Z3, Z3, Z3, Z3, .string (bs l), .int .i64 ((l.length : Nat) : Int), .bool false, Z3, .string (bs l), .int .u8 ((byteN l 31 : Nat) : Int), Z3, Z3, Z3, Z3, Z3, Z3, Z3, Z3, vs 7, Z3, Z3, Z3, Z3, Z3, Z3, Z3, Z3, Z3, Z3, Z3, Z3, Z3, Z3, Z3, Z3, Z3, Z3, Z3, Z3, Z3, Z3, Z3, Z3, Z3, Z3, Z3, Z3, Z3, Z3, Z3], defers := [] }) (by kernel_rfl) ?_ ?_
  ·
   intro vs gs W31 SW31 D K9 hK9
   replace M := M.sees SW31
   obtain ⟨D7, _⟩ := D
   have e7 : vs 7 = .tuple #[fe y, .int .i64 0] := D7
   dsimp only at hK9
   dsimp only
   rw [e7] at hK9 ⊢
   refine Z12 (v := .tuple #[fe y, .int .i64 0]) (by rfl) (by rfl) (by rfl) ?_
   simp only [Z7,Z0]
   refine Z9 (Z17 ?_)
   have h8 := hK9 (.tuple #[fe y, .int .i64 0])
   have h9 := h8 0 _ (sees_refl _) rfl (fun h => absurd h (by decide))
   simp only [Z7,Z0] at h9
   exact h9
  refine RulesL.cons (fun vs => { tmps := #[.string (bs l), Z3, .pointer (some ⟨g3, 0, none⟩), .int .i64 0, .int .u8 ((byteN l 31 : Nat) : Int), Z3, Z3, Z3, Z3, Z3, .string (bs l), .int .i64 ((l.length : Nat) : Int), .bool false, Z3, .string (bs l), .int .u8 ((byteN l 31 : Nat) : Int), vs 8, Z3, Z3, Z3, Z3, Z3, Z3, Z3, Z3, Z3, Z3, Z3, Z3, Z3, Z3, Z3, Z3, Z3, Z3, Z3, Z3, Z3, Z3, Z3, Z3, Z3, Z3, Z3, Z3, Z3, Z3, Z3, Z3, Z3, Z3, Z3, Z3, Z3, Z3, Z3], defers := [] }) (by kernel_rfl) ?_ ?_
  ·
   intro vs gs W32 SW32 D K9 hK9
   replace M := M.sees SW32
   obtain ⟨D8, _⟩ := D
   have e8 : vs 8 = .tuple #[fe y, .int .i64 0] := D8
   dsimp only at hK9
   dsimp only
   rw [e8] at hK9 ⊢
   refine Z11 1 (by rfl) (fun Lk hLk => ?_)
   simp only [Z1,Z2]
   refine wpV_extract (v := fe y) (by rfl) rfl rfl rfl ?_
   simp only [Z7,Z0]
   refine Z14 (hLk _ (fun w33 Sw33 => ?_))
   clear hLk Lk
   simp only [Z1,Z2]
   replace M := M.sees Sw33
   refine Z9 (Z17 ?_)
   have h8 := hK9 (fe y)
   have h9 := h8 0 _ Sw33 rfl (fun h => absurd h (by decide))
   simp only [Z7,Z0] at h9
   exact h9
  refine RulesL.cons (fun vs => { tmps := #[.string (bs l), Z3, .pointer (some ⟨g3, 0, none⟩), .int .i64 0, .int .u8 ((byteN l 31 : Nat) : Int), Z3, Z3, Z3, Z3, Z3, .string (bs l), .int .i64 ((l.length : Nat) : Int), .bool false, Z3, .string (bs l), .int .u8 ((byteN l 31 : Nat) : Int), vs 8, Z3, Z3, Z3, Z3, Z3, Z3, Z3, Z3, Z3, Z3, Z3, Z3, Z3, Z3, Z3, Z3, Z3, Z3, Z3, Z3, Z3, Z3, Z3, Z3, Z3, Z3, Z3, Z3, Z3, Z3, Z3, Z3, Z3, Z3, Z3, Z3, Z3, Z3, Z3], defers := [] }) (by kernel_rfl) ?_ ?_
  ·
   intro vs gs W34 SW34 D K9 hK9
   replace M := M.sees SW34
   obtain ⟨D8, _⟩ := D
   have e8 : vs 8 = .tuple #[fe y, .int .i64 0] := D8
   dsimp only at hK9
   dsimp only
   rw [e8] at hK9 ⊢
   refine Z11 1 (by rfl) (fun Lk hLk => ?_)
   simp only [Z1,Z2]
   refine wpV_extract (v := .int .i64 0) (by rfl) rfl rfl rfl ?_
   simp only [Z7,Z0]
   refine Z14 (hLk _ (fun w35 Sw35 => ?_))
   clear hLk Lk
   simp only [Z1,Z2]
   replace M := M.sees Sw35
   refine Z9 (Z17 ?_)
   have h8 := hK9 (.int .i64 0)
   have h9 := h8 0 _ Sw35 rfl (fun h => absurd h (by decide))
   simp only [Z7,Z0] at h9
   exact h9
  refine RulesL.cons (fun vs => { tmps := #[.string (bs l), Z3, .pointer (some ⟨g3, 0, none⟩), .int .i64 0, .int .u8 ((byteN l 31 : Nat) : Int), Z3, Z3, Z3, Z3, Z3, .string (bs l), .int .i64 ((l.length : Nat) : Int), .bool false, Z3, .string (bs l), .int .u8 ((byteN l 31 : Nat) : Int), Z3, Z3, Z3, Z3, Z3, Z3, Z3, Z3, Z3, Z3, Z3, Z3, Z3, Z3, Z3, Z3, Z3, Z3, Z3, Z3, Z3, Z3, Z3, Z3, Z3, Z3, Z3, Z3, Z3, Z3, Z3, Z3, Z3, Z3, Z3, Z3, Z3, Z3, Z3, Z3], defers := [] }) (by kernel_rfl) ?_ ?_
  ·
   intro vs gs W36 SW36 D K9 hK9
   replace M := M.sees SW36
   have Rg3_0 := M.r 0 0 rfl rfl
   have Rg3_4 := M.r 0 1 rfl rfl
   have Rg3_8 := M.r 0 2 rfl rfl
   have Rg3_12 := M.r 0 3 rfl rfl
   have Lg3 := M.lt 0 rfl
   have BB := M.below
   replace M := Mem.start W36
   dsimp only at hK9
   dsimp only
   refine wpL_var (t := 24) (cs := [.int .u64 0, .int .u64 0, .int .u64 0, .int .u64 0]) (by rfl) (fun W => ?_) (fun g37 w38 Sw38 Hg37 Bg37 => ?_)
   ·
    go_simp
   replace M := ((M.sees Sw38).add (N := 4) (cs := [.int .u64 0, .int .u64 0, .int .u64 0, .int .u64 0]) (M.ge Hg37) (M.fresh Hg37) Bg37 rfl)
   clear Bg37
   simp only [Z7,Z0]
   refine Z9 (Z17 ?_)
   have h8 := hK9 (.pointer (some ⟨g37, 0, none⟩))
   have h9 := h8 g37 _ M.seesAll ⟨rfl, (M.ok _ (.head _)).up SW36⟩ (fun _ => (M.ok _ (.head _)).ge)
   simp only [Z7,Z0] at h9
   exact h9
  exact RulesL.nil
 intro vs gs W39 SW39 D A9
 obtain ⟨D0, D1, D2, D3, D4, D5, D6, D7, D8, D9, D10, D11, _⟩ := (show DepRel _ vs gs W39 [0, 1, 2, 3, 4, 5, 6, 7, 8, 9, 10, 11] from D)
 have n4_11 : gs 4 ≠ gs 11 := A9 4 11 (by decide) (by decide) (by decide) (by decide) (by decide)
 clear A9 D
 have e0 : vs 0 = .string (bs l) := D0
 have e1 : vs 1 = .string (bs (l.take 31)) := D1
 have e2 : vs 2 = .int .u8 ((byteN l 31 : Nat) : Int) := D2
 have e3 : vs 3 = .int .u8 ((byteN l 31 % 128 : Nat) : Int) := D3
 obtain ⟨e4, Og40⟩ := D4
 generalize gs 4 = g40 at *
 replace e4 : vs 4 = .slice (some ⟨g40, 0, none⟩) 1 1 := e4
 have e5 : vs 5 = .string (bs ([UInt8.ofNat (byteN l 31 % 128)])) := D5
 have e6 : vs 6 = .string (bs ((l.take 31) ++ ([UInt8.ofNat (byteN l 31 % 128)]))) := D6
 have e7 : vs 7 = .tuple #[fe y, .int .i64 0] := D7
 have e8 : vs 8 = .tuple #[fe y, .int .i64 0] := D8
 have e9 : vs 9 = fe y := D9
 have e10 : vs 10 = .int .i64 0 := D10
 obtain ⟨e11, Og41⟩ := D11
 generalize gs 11 = g41 at *
 replace e11 : vs 11 = .pointer (some ⟨g41, 0, none⟩) := e11
 replace M := M.addOks SW39 [⟨g40, 1, [(0, [.int .u8 ((byteN l 31 % 128 : Nat) : Int)])]⟩, ⟨g41, 4, [(0, [.int .u64 0, .int .u64 0, .int .u64 0, .int .u64 0])]⟩] (List.forall_mem_cons.2 ⟨Og40, (List.forall_mem_cons.2 ⟨Og41, (fun _ h => nomatch h)⟩)⟩) (.cons (List.forall_mem_cons.2 ⟨n4_11, (fun _ h => nomatch h)⟩) (.cons (fun _ h => nomatch h) .nil))
 simp only [List.cons_append, List.nil_append] at M
 dsimp only
 simp only [e0, e1, e2, e3, e4, e5, e6, e7, e8, e9, e10, e11, Z2]
 refine wpL_store (g := g41) (off := 0) (n := 4) (cs := fel y) (by rfl) (by rfl) (by rfl) (by rfl) (by rfl) (M.t 1 rfl) (by simp [flen]) info24 (fel_one _) (fun w42 P R T => ?_)
 replace M := M.putS 1 0 rfl P R T rfl ⟨.inl rfl, trivial⟩
 simp only [Z0] at M
 refine Z13 (v := .int .i64 0) (by rfl) (by rfl) (by rfl) ?_
 simp only [Z7,Z0]
 refine Z9 (Z10 ?_)
 refine hK12 _ _ ?_
 refine Z4 (fun K43 hK43 => ?_)
 refine Z4 (fun K44 hK44 => ?_)
 refine Z8 ?_
 refine Z12 (v := .int .i64 0) (by rfl) (by rfl) (by rfl) ?_
 simp only [Z7,Z0]
 refine Z11 1 (by rfl) (fun Lk hLk => ?_)
 simp only [Z1,Z2]
 refine Z15 (v := .bool false) (by rfl) rfl rfl rfl (fun W => run_neq _ _ _ _ W) ?_
 simp only [Z7,Z0]
 refine Z14 (hLk _ (fun w46 Sw46 => ?_))
 clear hLk Lk
 simp only [Z1,Z2]
 replace M := M.sees Sw46
 refine Z9 (Z10 ?_)
 refine hK44 _ _ ?_
 refine Z6 rfl ?_
 refine wp_skip ?_
 refine hK43 _ _ ?_
 refine Z4 (fun K47 hK47 => ?_)
 refine Z8 ?_
 refine Z11 5 (by rfl) (fun Lk hLk => ?_)
 simp only [Z1,Z2]
 refine wpV_load (cs := fel y) (by rfl) rfl rfl (M.r 1 0 rfl rfl) (M.lt 1 rfl) Try.underlying24 rfl info24 ?_
 simp only [Z7,Z0]
 refine Z20 (v := .tuple #[fe x, .bool b]) (args := #[fe y]) (by rfl) rfl Try.func31 (by kernel_rfl) (by kernel_rfl) rfl (fun W hW => (by have h9 := root_c (y := y) (w := W) hy; rw [hr] at h9; exact h9)) ?_
 simp only [Z7,Z0]
 refine Z16 (v := .tuple #[fe x, .bool b]) (by rfl) rfl rfl ?_
 simp only [Z7,Z0]
 refine wpV_extract (v := fe x) (by rfl) rfl rfl rfl ?_
 simp only [Z7,Z0]
 refine wpV_extract (v := .bool b) (by rfl) rfl rfl rfl ?_
 simp only [Z7,Z0]
 refine Z14 (hLk _ (fun w49 Sw49 => ?_))
 clear hLk Lk
 simp only [Z1,Z2]
 replace M := M.sees Sw49
 refine wpL_var (t := 24) (cs := [.int .u64 0, .int .u64 0, .int .u64 0, .int .u64 0]) (by rfl) (fun W => ?_) (fun g50 w51 Sw51 Hg50 Bg50 => ?_)
 ·
  go_simp
 replace M := ((M.sees Sw51).add (N := 4) (cs := [.int .u64 0, .int .u64 0, .int .u64 0, .int .u64 0]) (M.ge Hg50) (M.fresh Hg50) Bg50 rfl)
 clear Bg50
 simp only [Z7,Z0]
 refine wpL_store (g := g50) (off := 0) (n := 4) (cs := fel x) (by rfl) (by rfl) (by rfl) (by rfl) (by rfl) (M.t 0 rfl) (by simp [flen]) info24 (fel_one _) (fun w52 P R T => ?_)
 replace M := M.putS 0 0 rfl P R T rfl ⟨.inl rfl, trivial⟩
 simp only [Z0] at M
 refine Z13 (v := .bool b) (by rfl) (by rfl) (by rfl) ?_
 simp only [Z7,Z0]
 refine Z9 (Z10 ?_)
 refine hK47 _ _ ?_
 refine Z4 (fun K53 hK53 => ?_)
 refine Z8 ?_
 refine Z12 (v := .int .u8 ((byteN l 31 : Nat) : Int)) (by rfl) (by rfl) (by rfl) ?_
 simp only [Z7,Z0]
 refine Z11 2 (by rfl) (fun Lk hLk => ?_)
 simp only [Z1,Z2]
 refine Z15 (v := .int .u8 ((byteN l 31 / 128 * 128 : Nat) : Int)) (by rfl) rfl rfl rfl (fun W => run_and (and_128 (byteN_lt l 31)) W) ?_
 simp only [Z7,Z0]
 refine Z15 (v := .bool (decide (byteN l 31 / 128 * 128 ≠ 0))) (by rfl) rfl rfl rfl (fun W => run_neqN (byteN l 31 / 128 * 128) 0 _ _ W) ?_
 simp only [Z7,Z0]
 refine Z14 (hLk _ (fun w55 Sw55 => ?_))
 clear hLk Lk
 simp only [Z1,Z2]
 replace M := M.sees Sw55
 refine Z13 (v := .bool (decide (byteN l 31 / 128 * 128 ≠ 0))) (by rfl) (by rfl) (by rfl) ?_
 simp only [Z7,Z0]
 refine Z9 (Z10 ?_)
 refine hK53 _ _ ?_
 refine Z4 (fun K56 hK56 => ?_)
 refine Z4 (fun K57 hK57 => ?_)
 cases hg58 : (b)
 ·
  refine Z8 ?_
  refine Z12 (v := .bool false) (by rfl) (by rfl) (by rfl) ?_
  simp only [Z7,Z0]
  refine Z11 9 (by rfl) (fun Lk hLk => ?_)
  simp only [Z1,Z2]
  refine wpV_not (b := false) (by rfl) rfl rfl ?_
  simp only [Bool.not_true, Bool.not_false]
  simp only [Z7,Z0]
  refine Z16 (v := .bool true) (by rfl) rfl rfl ?_
  simp only [Z7,Z0]
  refine wpV_skip (by rfl) (by rfl) ?_
  simp only [Z7,Z0]
  refine wpV_skip (by rfl) (by rfl) ?_
  simp only [Z7,Z0]
  refine wpV_skip (by rfl) (by rfl) ?_
  simp only [Z7,Z0]
  refine wpV_skip (by rfl) (by rfl) ?_
  simp only [Z7,Z0]
  refine wpV_skip (by rfl) (by rfl) ?_
  simp only [Z7,Z0]
  refine wpV_skip (by rfl) (by rfl) ?_
  simp only [Z7,Z0]
  refine wpV_pick (v := .bool true) (by rfl) rfl rfl rfl ?_
  simp only [Z7,Z0]
  refine Z14 (hLk _ (fun w60 Sw60 => ?_))
  clear hLk Lk
  simp only [Z1,Z2]
  replace M := M.sees Sw60
  refine Z9 (Z10 ?_)
  refine hK57 _ _ ?_
  refine Z5 rfl ?_
  refine Z4 (fun K61 hK61 => ?_)
  refine Z8 ?_
  refine Z11 1 (by rfl) (fun Lk hLk => ?_)
  simp only [Z1,Z2]
  refine Z19 (v := .agg ([.int .u64 0, .int .u64 0, .int .u64 0, .int .u64 0, .int .u64 0, .int .u64 0, .int .u64 0, .int .u64 0, .int .u64 0, .int .u64 0, .int .u64 0, .int .u64 0, .int .u64 0, .int .u64 0, .int .u64 0, .int .u64 0]).toArray) (by rfl) (by rfl) (fun W hW => ?_) ?_
  ·
   (unfold RunsVal; kernel_rfl)
  simp only [Z7,Z0]
  refine Z14 (hLk _ (fun w63 Sw63 => ?_))
  clear hLk Lk
  simp only [Z1,Z2]
  replace M := M.sees Sw63
  refine wpL_store (g := g3) (off := 0) (n := 16) (cs := [.int .u64 0, .int .u64 0, .int .u64 0, .int .u64 0, .int .u64 0, .int .u64 0, .int .u64 0, .int .u64 0, .int .u64 0, .int .u64 0, .int .u64 0, .int .u64 0, .int .u64 0, .int .u64 0, .int .u64 0, .int .u64 0]) (by rfl) (by rfl) (by rfl) (by rfl) (by rfl) (M.t 3 rfl) (by simp [flen]) info26 (by simp [fone, Value.oneCell']) (fun w64 P R T => ?_)
  replace M := M.put (segs' := [(0, [.int .u64 0, .int .u64 0, .int .u64 0, .int .u64 0]), (4, [.int .u64 0, .int .u64 0, .int .u64 0, .int .u64 0]), (8, [.int .u64 0, .int .u64 0, .int .u64 0, .int .u64 0]), (12, [.int .u64 0, .int .u64 0, .int .u64 0, .int .u64 0])]) 3 rfl P T (SegsOf.at R ⟨rfl, rfl, rfl, rfl, trivial⟩)
  simp only [Z0] at M
  refine Z13 (v := .int .i64 10) (by rfl) (by rfl) (by rfl) ?_
  simp only [Z7,Z0]
  refine Z9 (Z10 ?_)
  refine hK61 _ _ ?_
  refine wp_ret ?_
  repeat (first | with_reducible refine then_ret ?_ | with_reducible refine inblock_ret ?_)
  refine bodyPost_ret (v := .tuple #[.agg ([.int .u64 0, .int .u64 0, .int .u64 0, .int .u64 0] ++ [.int .u64 0, .int .u64 0, .int .u64 0, .int .u64 0] ++ [.int .u64 0, .int .u64 0, .int .u64 0, .int .u64 0] ++ [.int .u64 0, .int .u64 0, .int .u64 0, .int .u64 0] : List Value).toArray, .int .i64 10]) (res2 rfl (.cell (by rfl) (run_loadVar_mid _ _ _ _ ([.int .u64 0, .int .u64 0, .int .u64 0, .int .u64 0] ++ [.int .u64 0, .int .u64 0, .int .u64 0, .int .u64 0] ++ [.int .u64 0, .int .u64 0, .int .u64 0, .int .u64 0] ++ [.int .u64 0, .int .u64 0, .int .u64 0, .int .u64 0]) _ (range_join (range_join (range_join (M.r 3 0 rfl rfl) (M.r 3 1 rfl rfl) (by simp [flen])) (M.r 3 2 rfl rfl) (by simp [flen])) (M.r 3 3 rfl rfl) (by simp [flen])) Try.underlying26 rfl info26)) (.tmp (by rfl))) rfl ?_
  have BE := M.below
  have hv : parsP x y b (decide (byteN l 31 / 128 * 128 ≠ 0)) = noneP ∧ parsE x b (decide (byteN l 31 / 128 * 128 ≠ 0)) = 10 := by unfold parsP parsE parsY; simp [hg58]
  exact ⟨by rw [hv.1, hv.2] <;> rfl, BE⟩
 ·
  cases hg65 : (decide (byteN l 31 / 128 * 128 ≠ 0))
  ·
   refine Z8 ?_
   refine Z12 (v := .bool true) (by rfl) (by rfl) (by rfl) ?_
   simp only [Z7,Z0]
   refine Z11 9 (by rfl) (fun Lk hLk => ?_)
   simp only [Z1,Z2]
   refine wpV_not (b := true) (by rfl) rfl rfl ?_
   simp only [Bool.not_true, Bool.not_false]
   simp only [Z7,Z0]
   refine Z16 (v := .bool false) (by rfl) rfl rfl ?_
   simp only [Z7,Z0]
   refine Z16 (v := .bool false) (by rfl) rfl rfl ?_
   simp only [Z7,Z0]
   refine Z16 (v := .bool false) (by rfl) rfl rfl ?_
   simp only [Z7,Z0]
   refine wpV_skip (by rfl) (by rfl) ?_
   simp only [Z7,Z0]
   refine wpV_skip (by rfl) (by rfl) ?_
   simp only [Z7,Z0]
   refine wpV_skip (by rfl) (by rfl) ?_
   simp only [Z7,Z0]
   refine wpV_pick (v := .bool false) (by rfl) rfl rfl rfl ?_
   simp only [Z7,Z0]
   refine wpV_pick (v := .bool false) (by rfl) rfl rfl rfl ?_
   simp only [Z7,Z0]
   refine Z14 (hLk _ (fun w67 Sw67 => ?_))
   clear hLk Lk
   simp only [Z1,Z2]
   replace M := M.sees Sw67
   refine Z9 (Z10 ?_)
   refine hK57 _ _ ?_
   refine Z6 rfl ?_
   refine wp_skip ?_
   refine hK56 _ _ ?_
   refine Z4 (fun K68 hK68 => ?_)
   refine Z4 (fun K69 hK69 => ?_)
   refine Z8 ?_
   refine Z12 (v := .bool false) (by rfl) (by rfl) (by rfl) ?_
   simp only [Z7,Z0]
   refine Z9 (Z10 ?_)
   refine hK69 _ _ ?_
   refine Z6 rfl ?_
   refine wp_skip ?_
   refine hK68 _ _ ?_
   refine Z4 (fun K71 hK71 => ?_)
   refine Z8 ?_
   refine Z11 3 (by rfl) (fun Lk hLk => ?_)
   simp only [Z1,Z2]
   refine wpV_load (cs := fel x) (by rfl) rfl rfl (M.r 0 0 rfl rfl) (M.lt 0 rfl) Try.underlying24 rfl info24 ?_
   simp only [Z7,Z0]
   refine wpV_load (cs := fel y) (by rfl) rfl rfl (M.r 2 0 rfl rfl) (M.lt 2 rfl) Try.underlying24 rfl info24 ?_
   simp only [Z7,Z0]
   refine Z20 (v := .agg (fel (affP x y).x ++ fel (affP x y).y ++ fel (affP x y).z ++ fel (affP x y).t : List Value).toArray) (args := #[fe x, fe y]) (by rfl) rfl Try.func33 (by kernel_rfl) (by kernel_rfl) rfl (fun W hW => affine_c hx hy) ?_
   simp only [Z7,Z0]
   refine Z14 (hLk _ (fun w73 Sw73 => ?_))
   clear hLk Lk
   simp only [Z1,Z2]
   replace M := M.sees Sw73
   refine wpL_store (g := g3) (off := 0) (n := 16) (cs := fel (affP x y).x ++ fel (affP x y).y ++ fel (affP x y).z ++ fel (affP x y).t) (by rfl) (by rfl) (by rfl) (by rfl) (by rfl) (M.t 3 rfl) (by simp [flen]) info26 (one4 _ _ _ _) (fun w74 P R T => ?_)
   replace M := M.put (segs' := [(0, fel (affP x y).x), (4, fel (affP x y).y), (8, fel (affP x y).z), (12, fel (affP x y).t)]) 3 rfl P T (SegsOf.at R ⟨rfl, rfl, rfl, rfl, trivial⟩)
   simp only [Z0] at M
   refine Z13 (v := .int .i64 0) (by rfl) (by rfl) (by rfl) ?_
   simp only [Z7,Z0]
   refine Z9 (Z10 ?_)
   refine hK71 _ _ ?_
   refine wp_ret ?_
   repeat (first | with_reducible refine then_ret ?_ | with_reducible refine inblock_ret ?_)
   refine bodyPost_ret (v := .tuple #[.agg (fel (affP x y).x ++ (fel (affP x y).y) ++ (fel (affP x y).z) ++ (fel (affP x y).t) : List Value).toArray, .int .i64 0]) (res2 rfl (.cell (by rfl) (run_loadVar_mid _ _ _ _ (fel (affP x y).x ++ (fel (affP x y).y) ++ (fel (affP x y).z) ++ (fel (affP x y).t)) _ (range_join (range_join (range_join (M.r 3 0 rfl rfl) (M.r 3 1 rfl rfl) (by simp [flen])) (M.r 3 2 rfl rfl) (by simp [flen])) (M.r 3 3 rfl rfl) (by simp [flen])) Try.underlying26 rfl info26)) (.tmp (by rfl))) rfl ?_
   have BE := M.below
   have hv : parsP x y b (decide (byteN l 31 / 128 * 128 ≠ 0)) = affP x y ∧ parsE x b (decide (byteN l 31 / 128 * 128 ≠ 0)) = 0 := by unfold parsP parsE parsY; simp [hg58, hg65]
   exact ⟨by rw [hv.1, hv.2] <;> rfl, BE⟩
  ·
   refine Z8 ?_
   refine Z12 (v := .bool true) (by rfl) (by rfl) (by rfl) ?_
   simp only [Z7,Z0]
   refine Z11 9 (by rfl) (fun Lk hLk => ?_)
   simp only [Z1,Z2]
   refine wpV_not (b := true) (by rfl) rfl rfl ?_
   simp only [Bool.not_true, Bool.not_false]
   simp only [Z7,Z0]
   refine Z16 (v := .bool false) (by rfl) rfl rfl ?_
   simp only [Z7,Z0]
   refine Z16 (v := .bool true) (by rfl) rfl rfl ?_
   simp only [Z7,Z0]
   refine Z16 (v := .bool true) (by rfl) rfl rfl ?_
   simp only [Z7,Z0]
   refine wpV_load (cs := fel x) (by rfl) rfl rfl (M.r 0 0 rfl rfl) (M.lt 0 rfl) Try.underlying24 rfl info24 ?_
   simp only [Z7,Z0]
   refine Z19 (v := fe 0) (by rfl) (by rfl) (fun W hW => ?_) ?_
   ·
    rw [show fe 0 = .agg ([.int .u64 0, .int .u64 0, .int .u64 0, .int .u64 0]).toArray from (by kernel_rfl)]; unfold RunsVal; kernel_rfl
   simp only [Z7,Z0]
   refine Z19 (v := .bool (decide (x = 0))) (by rfl) (by rfl) (fun W hW => ?_) ?_
   ·
    exact run_eql_fe hx (by decide) Try.underlying24 Try.underlying22 info22 (by kernel_rfl) rfl rfl rfl W
   simp only [Z7,Z0]
   refine wpV_pick (v := .bool (decide (x = 0))) (by rfl) rfl rfl rfl ?_
   simp only [Z7,Z0]
   refine wpV_pick (v := .bool (decide (x = 0))) (by rfl) rfl rfl rfl ?_
   simp only [Z7,Z0]
   refine Z14 (hLk _ (fun w76 Sw76 => ?_))
   clear hLk Lk
   simp only [Z1,Z2]
   replace M := M.sees Sw76
   refine Z9 (Z10 ?_)
   refine hK57 _ _ ?_
   cases hc77 : (decide (x = 0))
   ·
    refine Z6 rfl ?_
    refine wp_skip ?_
    refine hK56 _ _ ?_
    refine Z4 (fun K78 hK78 => ?_)
    refine Z4 (fun K79 hK79 => ?_)
    refine Z8 ?_
    refine Z12 (v := .bool true) (by rfl) (by rfl) (by rfl) ?_
    simp only [Z7,Z0]
    refine Z9 (Z10 ?_)
    refine hK79 _ _ ?_
    refine Z5 rfl ?_
    refine wp_region_grow 3 [] (by kernel_rfl) (by kernel_rfl) (by kernel_rfl) (fun Lk hLk => ?_)
    simp only [Z1,Z2]
    refine Z20 (v := fe 0) (args := #[.int .u64 0]) (by rfl) rfl Try.func32 (by kernel_rfl) (by kernel_rfl) rfl (fun W hW => of_c (n := 0) (by decide) W) ?_
    simp only [Z7,Z0]
    refine wpV_load (cs := fel x) (by rfl) rfl rfl (M.r 0 0 rfl rfl) (M.lt 0 rfl) Try.underlying24 rfl info24 ?_
    simp only [Z7,Z0]
    refine Z20 (v := fe (fsub 0 x)) (args := #[fe 0, fe x]) (by rfl) rfl Try.func26 (by kernel_rfl) (by kernel_rfl) rfl (fun W hW => fsub_c (by decide) hx W) ?_
    simp only [Z7,Z0]
    refine Z14 (hLk.out _ ?_)
    clear hLk Lk
    simp only [Z1,Z2]
    iterate 3 refine wpN_skip (by rfl) ?_
    refine wpN_nil (fun w82 Sw82 hbs => ?_)
    clear hbs
    replace M := M.sees Sw82
    refine wpL_store (g := g50) (off := 0) (n := 4) (cs := fel (fsub 0 x)) (by rfl) (by rfl) (by rfl) (by rfl) (by rfl) (M.t 0 rfl) (by simp [flen]) info24 (fel_one _) (fun w83 P R T => ?_)
    replace M := M.putS 0 0 rfl P R T rfl ⟨.inl rfl, trivial⟩
    simp only [Z0] at M
    refine Z9 (Z10 ?_)
    refine hK78 _ _ ?_
    refine Z4 (fun K84 hK84 => ?_)
    refine Z8 ?_
    refine Z11 3 (by rfl) (fun Lk hLk => ?_)
    simp only [Z1,Z2]
    refine wpV_load (cs := fel (fsub 0 x)) (by rfl) rfl rfl (M.r 0 0 rfl rfl) (M.lt 0 rfl) Try.underlying24 rfl info24 ?_
    simp only [Z7,Z0]
    refine wpV_load (cs := fel y) (by rfl) rfl rfl (M.r 2 0 rfl rfl) (M.lt 2 rfl) Try.underlying24 rfl info24 ?_
    simp only [Z7,Z0]
    refine Z20 (v := .agg (fel (affP (fsub 0 x) y).x ++ fel (affP (fsub 0 x) y).y ++ fel (affP (fsub 0 x) y).z ++ fel (affP (fsub 0 x) y).t : List Value).toArray) (args := #[fe (fsub 0 x), fe y]) (by rfl) rfl Try.func33 (by kernel_rfl) (by kernel_rfl) rfl (fun W hW => affine_c (fsub_lt ..) hy) ?_
    simp only [Z7,Z0]
    refine Z14 (hLk _ (fun w86 Sw86 => ?_))
    clear hLk Lk
    simp only [Z1,Z2]
    replace M := M.sees Sw86
    refine wpL_store (g := g3) (off := 0) (n := 16) (cs := fel (affP (fsub 0 x) y).x ++ fel (affP (fsub 0 x) y).y ++ fel (affP (fsub 0 x) y).z ++ fel (affP (fsub 0 x) y).t) (by rfl) (by rfl) (by rfl) (by rfl) (by rfl) (M.t 3 rfl) (by simp [flen]) info26 (one4 _ _ _ _) (fun w87 P R T => ?_)
    replace M := M.put (segs' := [(0, fel (affP (fsub 0 x) y).x), (4, fel (affP (fsub 0 x) y).y), (8, fel (affP (fsub 0 x) y).z), (12, fel (affP (fsub 0 x) y).t)]) 3 rfl P T (SegsOf.at R ⟨rfl, rfl, rfl, rfl, trivial⟩)
    simp only [Z0] at M
    refine Z13 (v := .int .i64 0) (by rfl) (by rfl) (by rfl) ?_
    simp only [Z7,Z0]
    refine Z9 (Z10 ?_)
    refine hK84 _ _ ?_
    refine wp_ret ?_
    repeat (first | with_reducible refine then_ret ?_ | with_reducible refine inblock_ret ?_)
    refine bodyPost_ret (v := .tuple #[.agg (fel (affP (fsub 0 x) y).x ++ (fel (affP (fsub 0 x) y).y) ++ (fel (affP (fsub 0 x) y).z) ++ (fel (affP (fsub 0 x) y).t) : List Value).toArray, .int .i64 0]) (res2 rfl (.cell (by rfl) (run_loadVar_mid _ _ _ _ (fel (affP (fsub 0 x) y).x ++ (fel (affP (fsub 0 x) y).y) ++ (fel (affP (fsub 0 x) y).z) ++ (fel (affP (fsub 0 x) y).t)) _ (range_join (range_join (range_join (M.r 3 0 rfl rfl) (M.r 3 1 rfl rfl) (by simp [flen])) (M.r 3 2 rfl rfl) (by simp [flen])) (M.r 3 3 rfl rfl) (by simp [flen])) Try.underlying26 rfl info26)) (.tmp (by rfl))) rfl ?_
    have BE := M.below
    have hv : parsP x y b (decide (byteN l 31 / 128 * 128 ≠ 0)) = affP (fsub 0 x) y ∧ parsE x b (decide (byteN l 31 / 128 * 128 ≠ 0)) = 0 := by unfold parsP parsE parsY; simp [hg58, hg65, hc77]
    exact ⟨by rw [hv.1, hv.2] <;> rfl, BE⟩
   ·
    refine Z5 rfl ?_
    refine Z4 (fun K88 hK88 => ?_)
    refine Z8 ?_
    refine Z11 1 (by rfl) (fun Lk hLk => ?_)
    simp only [Z1,Z2]
    refine Z19 (v := .agg ([.int .u64 0, .int .u64 0, .int .u64 0, .int .u64 0, .int .u64 0, .int .u64 0, .int .u64 0, .int .u64 0, .int .u64 0, .int .u64 0, .int .u64 0, .int .u64 0, .int .u64 0, .int .u64 0, .int .u64 0, .int .u64 0]).toArray) (by rfl) (by rfl) (fun W hW => ?_) ?_
    ·
     (unfold RunsVal; kernel_rfl)
    simp only [Z7,Z0]
    refine Z14 (hLk _ (fun w90 Sw90 => ?_))
    clear hLk Lk
    simp only [Z1,Z2]
    replace M := M.sees Sw90
    refine wpL_store (g := g3) (off := 0) (n := 16) (cs := [.int .u64 0, .int .u64 0, .int .u64 0, .int .u64 0, .int .u64 0, .int .u64 0, .int .u64 0, .int .u64 0, .int .u64 0, .int .u64 0, .int .u64 0, .int .u64 0, .int .u64 0, .int .u64 0, .int .u64 0, .int .u64 0]) (by rfl) (by rfl) (by rfl) (by rfl) (by rfl) (M.t 3 rfl) (by simp [flen]) info26 (by simp [fone, Value.oneCell']) (fun w91 P R T => ?_)
    replace M := M.put (segs' := [(0, [.int .u64 0, .int .u64 0, .int .u64 0, .int .u64 0]), (4, [.int .u64 0, .int .u64 0, .int .u64 0, .int .u64 0]), (8, [.int .u64 0, .int .u64 0, .int .u64 0, .int .u64 0]), (12, [.int .u64 0, .int .u64 0, .int .u64 0, .int .u64 0])]) 3 rfl P T (SegsOf.at R ⟨rfl, rfl, rfl, rfl, trivial⟩)
    simp only [Z0] at M
    refine Z13 (v := .int .i64 10) (by rfl) (by rfl) (by rfl) ?_
    simp only [Z7,Z0]
    refine Z9 (Z10 ?_)
    refine hK88 _ _ ?_
    refine wp_ret ?_
    repeat (first | with_reducible refine then_ret ?_ | with_reducible refine inblock_ret ?_)
    refine bodyPost_ret (v := .tuple #[.agg ([.int .u64 0, .int .u64 0, .int .u64 0, .int .u64 0] ++ [.int .u64 0, .int .u64 0, .int .u64 0, .int .u64 0] ++ [.int .u64 0, .int .u64 0, .int .u64 0, .int .u64 0] ++ [.int .u64 0, .int .u64 0, .int .u64 0, .int .u64 0] : List Value).toArray, .int .i64 10]) (res2 rfl (.cell (by rfl) (run_loadVar_mid _ _ _ _ ([.int .u64 0, .int .u64 0, .int .u64 0, .int .u64 0] ++ [.int .u64 0, .int .u64 0, .int .u64 0, .int .u64 0] ++ [.int .u64 0, .int .u64 0, .int .u64 0, .int .u64 0] ++ [.int .u64 0, .int .u64 0, .int .u64 0, .int .u64 0]) _ (range_join (range_join (range_join (M.r 3 0 rfl rfl) (M.r 3 1 rfl rfl) (by simp [flen])) (M.r 3 2 rfl rfl) (by simp [flen])) (M.r 3 3 rfl rfl) (by simp [flen])) Try.underlying26 rfl info26)) (.tmp (by rfl))) rfl ?_
    have BE := M.below
    have hv : parsP x y b (decide (byteN l 31 / 128 * 128 ≠ 0)) = noneP ∧ parsE x b (decide (byteN l 31 / 128 * 128 ≠ 0)) = 10 := by unfold parsP parsE parsY; simp [hg58, hg65, hc77]
    exact ⟨by rw [hv.1, hv.2] <;> rfl, BE⟩
theorem Parse_none {l : List UInt8} {x y : Nat} {w : World} (hl : l.length = 32) (hx : x < 2 ^ 256) (hy : y < 2 ^ 256) (hN : fparseN (yT l) = y) (hE : fparseE (yT l) = 0) (hr : rootX y = (x, false)) :
  Calls Try.prog 10 #[.string (bs l)] w fun e w' => e = .returned (.tuple #[.agg (fel noneP.x ++ fel noneP.y ++ fel noneP.z ++ fel noneP.t : List Value).toArray, .int .i64 10]) ∧ Below w.heap.size w w' := by
 have h9 := Parse_go (w := w) hl hx hy hN hE hr
 rw [show parsP x y false (decide (byteN l 31 / 128 * 128 ≠ 0)) = noneP by unfold parsP parsY; simp, show parsE x false (decide (byteN l 31 / 128 * 128 ≠ 0)) = 10 by unfold parsE parsY; simp] at h9
 exact h9
theorem Parse_zero {l : List UInt8} {x y : Nat} {w : World} (hl : l.length = 32) (hx : x < 2 ^ 256) (hy : y < 2 ^ 256) (hN : fparseN (yT l) = y) (hE : fparseE (yT l) = 0) (hr : rootX y = (x, true)) (hb : decide (byteN l 31 / 128 * 128 ≠ 0) = true) (h0 : decide (x = 0) = true) :
  Calls Try.prog 10 #[.string (bs l)] w fun e w' => e = .returned (.tuple #[.agg (fel noneP.x ++ fel noneP.y ++ fel noneP.z ++ fel noneP.t : List Value).toArray, .int .i64 10]) ∧ Below w.heap.size w w' := by
 have h9 := Parse_go (w := w) hl hx hy hN hE hr
 rw [show parsP x y true (decide (byteN l 31 / 128 * 128 ≠ 0)) = noneP by unfold parsP parsY; rw [hb, h0]; simp, show parsE x true (decide (byteN l 31 / 128 * 128 ≠ 0)) = 10 by unfold parsE parsY; rw [hb, h0]; simp] at h9
 exact h9
theorem Parse_odd {l : List UInt8} {x y : Nat} {w : World} (hl : l.length = 32) (hx : x < 2 ^ 256) (hy : y < 2 ^ 256) (hN : fparseN (yT l) = y) (hE : fparseE (yT l) = 0) (hr : rootX y = (x, true)) (hb : decide (byteN l 31 / 128 * 128 ≠ 0) = true) (h0 : decide (x = 0) = false) :
  Calls Try.prog 10 #[.string (bs l)] w fun e w' => e = .returned (.tuple #[.agg (fel (affP (fsub 0 x) y).x ++ fel (affP (fsub 0 x) y).y ++ fel (affP (fsub 0 x) y).z ++ fel (affP (fsub 0 x) y).t : List Value).toArray, .int .i64 0]) ∧ Below w.heap.size w w' := by
 have h9 := Parse_go (w := w) hl hx hy hN hE hr
 rw [show parsP x y true (decide (byteN l 31 / 128 * 128 ≠ 0)) = (affP (fsub 0 x) y) by unfold parsP parsY; rw [hb, h0]; simp, show parsE x true (decide (byteN l 31 / 128 * 128 ≠ 0)) = 0 by unfold parsE parsY; rw [hb, h0]; simp] at h9
 exact h9
theorem Parse_even {l : List UInt8} {x y : Nat} {w : World} (hl : l.length = 32) (hx : x < 2 ^ 256) (hy : y < 2 ^ 256) (hN : fparseN (yT l) = y) (hE : fparseE (yT l) = 0) (hr : rootX y = (x, true)) (hb : decide (byteN l 31 / 128 * 128 ≠ 0) = false) :
  Calls Try.prog 10 #[.string (bs l)] w fun e w' => e = .returned (.tuple #[.agg (fel (affP x y).x ++ fel (affP x y).y ++ fel (affP x y).z ++ fel (affP x y).t : List Value).toArray, .int .i64 0]) ∧ Below w.heap.size w w' := by
 have h9 := Parse_go (w := w) hl hx hy hN hE hr
 rw [show parsP x y true (decide (byteN l 31 / 128 * 128 ≠ 0)) = (affP x y) by unfold parsP parsY; rw [hb]; simp, show parsE x true (decide (byteN l 31 / 128 * 128 ≠ 0)) = 0 by unfold parsE parsY; rw [hb]; simp] at h9
 exact h9
end Go.Proofs.Yc

