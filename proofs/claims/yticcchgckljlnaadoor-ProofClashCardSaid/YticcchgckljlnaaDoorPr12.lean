import Derived.WalkKit
import Derived.WalkSpells
import Derived.Laws.Pointers
import Derived.RowKit3
import Derived.Below
import Derived.Outline
import Derived.LoopN
import Derived.Lib.Hide
import Derived.Handy
import Derived.Laws.Bits64b
import Derived.Test.YticcchgckljlnaaDoorPr10
import Derived.Test.YticcchgckljlnaaDoorSteps10
import Derived.Test.YticcchgckljlnaaDoorSteps11
set_option linter.unusedSimpArgs false
set_option linter.unusedVariables false
namespace Go.Proofs.Yb
open Go Go.RowKit Go.Proofs.Num
attribute [local irreducible] wpV wpN wpList
section
variable {σ : Type} {f : Bool → List UInt8 → σ → σ}
theorem walkG_stop {ps : List (List UInt8)} {k a l : Nat} {s : σ} (hk : k < ps.length) (hl : l = 0) : walkF f (ps.drop k) a l s = (false, s) := by
 rw [drop_get hk, walkF, if_pos hl]
theorem walkG_no {ps : List (List UInt8)} {k a l : Nat} {s : σ} {r : Bool × σ} (hk : k < ps.length) (hl : ¬ l = 0) (h : ¬ (a % 2 = 1 ∨ a = l)) (hW : r = walkF f (ps.drop k) a l s) : r = walkF f (ps.drop (k + 1)) (a / 2 ^ 1) (l / 2 ^ 1) (f false (ps.getD k []) s) := by
 rw [hW, drop_get hk, walkF, if_neg hl, if_neg h]
theorem walkG_yes {ps : List (List UInt8)} {k a l a2 l2 : Nat} {s : σ} {r : Bool × σ} (hk : k < ps.length) (hl : ¬ l = 0) (h : a % 2 = 1 ∨ a = l) (hz : skipZ a2 l2 = skipZ a l) (hzz : skipZ a2 l2 = (a2, l2)) (hW : r = walkF f (ps.drop k) a l s) : r = walkF f (ps.drop (k + 1)) (a2 / 2 ^ 1) (l2 / 2 ^ 1) (f true (ps.getD k []) s) := by
 rw [hW, drop_get hk, walkF, if_neg hl, if_pos h, ← hz, hzz]
end
set_option maxHeartbeats 1000000 in
theorem joined_t {x s0 : List UInt8} {w : World} (hx : x.length = 32) (hs : s0.length = 32) (L0 : 0 < w.heap.size) (R0_0 : w.rangeAt 0 0 kcells) :
  Calls Tryd.prog 101 #[.bool true, .string (bs x), .string (bs s0)] w fun e w' => e = .returned (.string (bs (nodeS x s0))) ∧ Below w.heap.size w w' := by
 go_enter Tryd.func101, Tryd.ntmps101
 have M := Mem.start w
 refine wp_seq_k (fun K1 hK1 => ?_)
 refine wp_region_seq ?_
 refine wpL_assign (v := .string (bs ([]))) (by rfl) (by rfl) (by rfl) ?_
 simp only [putT, List.set]
 refine wpL_nil (no_panic ?_)
 refine hK1 _ _ ?_
 refine wp_seq_k (fun K3 hK3 => ?_)
 refine wp_seq_k (fun K4 hK4 => ?_)
 refine wp_region_seq ?_
 refine wpL_move (v := .bool true) (by rfl) (by rfl) (by rfl) ?_
 simp only [putT, List.set]
 refine wpL_nil (no_panic ?_)
 refine hK4 _ _ ?_
 refine wp_cond_true rfl ?_
 refine wp_seq_k (fun K6 hK6 => ?_)
 refine wp_region_seq ?_
 refine wpL_move (v := .string (bs x)) (by rfl) (by rfl) (by rfl) ?_
 simp only [putT, List.set]
 refine wpL_move (v := .string (bs s0)) (by rfl) (by rfl) (by rfl) ?_
 simp only [putT, List.set]
 refine wpL_chunk 1 (by rfl) (fun Lk hLk => ?_)
 simp only [List.take, List.drop]
 refine wpV_callf (v := .string (bs (nodeS x s0))) (args := #[.string (bs x), .string (bs s0)]) (by rfl) rfl Tryd.func40 (by kernel_rfl) (by kernel_rfl) rfl (fun W hW => node_c (a := x) (b := s0) (by omega) (by omega) ((M.sees hW).oldL L0) ((M.sees hW).oldR R0_0 L0)) ?_
 simp only [putT, List.set]
 refine wpV_nil (hLk _ (fun w8 Sw8 => ?_))
 clear hLk Lk
 simp only [List.take, List.drop]
 replace M := M.sees Sw8
 refine wpL_assign (v := .string (bs (nodeS x s0))) (by rfl) (by rfl) (by rfl) ?_
 simp only [putT, List.set]
 refine wpL_nil (no_panic ?_)
 refine hK6 _ _ ?_
 refine wp_ret ?_
 repeat (first | with_reducible refine then_ret ?_ | with_reducible refine inblock_ret ?_)
 refine bodyPost_ret (v := .string (bs (nodeS x s0))) (res1 rfl (.tmp (by rfl))) rfl ?_
 have BE := M.below
 exact ⟨rfl, BE⟩
set_option maxHeartbeats 1000000 in
theorem joined_f {x s0 : List UInt8} {w : World} (hx : x.length = 32) (hs : s0.length = 32) (L0 : 0 < w.heap.size) (R0_0 : w.rangeAt 0 0 kcells) :
  Calls Tryd.prog 101 #[.bool false, .string (bs x), .string (bs s0)] w fun e w' => e = .returned (.string (bs (nodeS s0 x))) ∧ Below w.heap.size w w' := by
 go_enter Tryd.func101, Tryd.ntmps101
 have M := Mem.start w
 refine wp_seq_k (fun K1 hK1 => ?_)
 refine wp_region_seq ?_
 refine wpL_assign (v := .string (bs ([]))) (by rfl) (by rfl) (by rfl) ?_
 simp only [putT, List.set]
 refine wpL_nil (no_panic ?_)
 refine hK1 _ _ ?_
 refine wp_seq_k (fun K3 hK3 => ?_)
 refine wp_seq_k (fun K4 hK4 => ?_)
 refine wp_region_seq ?_
 refine wpL_move (v := .bool false) (by rfl) (by rfl) (by rfl) ?_
 simp only [putT, List.set]
 refine wpL_nil (no_panic ?_)
 refine hK4 _ _ ?_
 refine wp_cond_false rfl ?_
 refine wp_skip ?_
 refine hK3 _ _ ?_
 refine wp_seq_k (fun K6 hK6 => ?_)
 refine wp_region_seq ?_
 refine wpL_move (v := .string (bs s0)) (by rfl) (by rfl) (by rfl) ?_
 simp only [putT, List.set]
 refine wpL_move (v := .string (bs x)) (by rfl) (by rfl) (by rfl) ?_
 simp only [putT, List.set]
 refine wpL_chunk 1 (by rfl) (fun Lk hLk => ?_)
 simp only [List.take, List.drop]
 refine wpV_callf (v := .string (bs (nodeS s0 x))) (args := #[.string (bs s0), .string (bs x)]) (by rfl) rfl Tryd.func40 (by kernel_rfl) (by kernel_rfl) rfl (fun W hW => node_c (a := s0) (b := x) (by omega) (by omega) ((M.sees hW).oldL L0) ((M.sees hW).oldR R0_0 L0)) ?_
 simp only [putT, List.set]
 refine wpV_nil (hLk _ (fun w8 Sw8 => ?_))
 clear hLk Lk
 simp only [List.take, List.drop]
 replace M := M.sees Sw8
 refine wpL_assign (v := .string (bs (nodeS s0 x))) (by rfl) (by rfl) (by rfl) ?_
 simp only [putT, List.set]
 refine wpL_nil (no_panic ?_)
 refine hK6 _ _ ?_
 refine wp_ret ?_
 repeat (first | with_reducible refine then_ret ?_ | with_reducible refine inblock_ret ?_)
 refine bodyPost_ret (v := .string (bs (nodeS s0 x))) (res1 rfl (.tmp (by rfl))) rfl ?_
 have BE := M.below
 exact ⟨rfl, BE⟩
end Go.Proofs.Yb

