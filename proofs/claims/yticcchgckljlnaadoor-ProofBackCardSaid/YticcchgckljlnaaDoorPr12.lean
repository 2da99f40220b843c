import Derived.WalkKit
import Derived.WalkSpells
import Derived.Laws.Pointers
import Derived.RowKit3
import Derived.Below
import Derived.Outline
import Derived.LoopN
import Derived.Lib.Hide
import Derived.Handy
import Derived.Laws.Bits64b
import Derived.Test.YticcchgckljlnaaDoorPr10
import Derived.Test.YticcchgckljlnaaDoorSteps11
set_option linter.unusedSimpArgs false
set_option linter.unusedVariables false
namespace Go.Proofs.Yb
open Go Go.RowKit Go.Proofs.Num
open List renaming set → Z0, take → Z1, drop → Z2
open Go renaming undef → Z3, wp_seq_k → Z4, wp_cond_true → Z5, wp_cond_false → Z6
open Go.Proofs.Num renaming putT → Z7, wp_region_seq → Z8, wpL_nil → Z9, no_panic → Z10, wpL_chunk → Z11, wpL_move → Z12, wpL_assign → Z13, wpV_nil → Z14, wpV_bin → Z15, wpV_move → Z16, then_normal → Z17, wpL_store1 → Z18, wpV_val → Z19, wpV_callf → Z20
attribute [local irreducible] wpV wpN wpList
section
variable {σ : Type} {f : Bool → List UInt8 → σ → σ}
theorem walkG_stop {ps : List (List UInt8)} {k a l : Nat} {s : σ} (hk : k < ps.length) (hl : l = 0) : walkF f (ps.drop k) a l s = (false, s) := by
 rw [drop_get hk, walkF, if_pos hl]
theorem walkG_no {ps : List (List UInt8)} {k a l : Nat} {s : σ} {r : Bool × σ} (hk : k < ps.length) (hl : ¬ l = 0) (h : ¬ (a % 2 = 1 ∨ a = l)) (hW : r = walkF f (ps.drop k) a l s) : r = walkF f (ps.drop (k + 1)) (a / 2 ^ 1) (l / 2 ^ 1) (f false (ps.getD k []) s) := by
 rw [hW, drop_get hk, walkF, if_neg hl, if_neg h]
theorem walkG_yes {ps : List (List UInt8)} {k a l a2 l2 : Nat} {s : σ} {r : Bool × σ} (hk : k < ps.length) (hl : ¬ l = 0) (h : a % 2 = 1 ∨ a = l) (hz : skipZ a2 l2 = skipZ a l) (hzz : skipZ a2 l2 = (a2, l2)) (hW : r = walkF f (ps.drop k) a l s) : r = walkF f (ps.drop (k + 1)) (a2 / 2 ^ 1) (l2 / 2 ^ 1) (f true (ps.getD k []) s) := by
 rw [hW, drop_get hk, walkF, if_neg hl, if_pos h, ← hz, hzz]
end
set_option maxHeartbeats 1000000 in
theorem joined_t {x s0 : List UInt8} {w : World} (hx : x.length = 32) (hs : s0.length = 32) (L0 : 0 < w.heap.size) (R0_0 : w.rangeAt 0 0 kcells) :
  Calls Tryd.prog 101 #[.bool true, .string (bs x), .string (bs s0)] w fun e w' => e = .returned (.string (bs (nodeS x s0))) ∧ Below w.heap.size w w' := by
 go_enter Tryd.func101, Tryd.ntmps101
 have M := Mem.start w
 refine Z4 (fun K1 hK1 => ?_)
 refine Z8 ?_
 refine Z13 (v := .string (bs ([]))) (by rfl) (by rfl) (by rfl) ?_
 simp only [Z7,Z0]
 refine Z9 (Z10 ?_)
 refine hK1 _ _ ?_
 refine Z4 (fun K3 hK3 => ?_)
 refine Z4 (fun K4 hK4 => ?_)
 refine Z8 ?_
 refine Z12 (v := .bool true) (by rfl) (by rfl) (by rfl) ?_
 simp only [Z7,Z0]
 refine Z9 (Z10 ?_)
 refine hK4 _ _ ?_
 refine Z5 rfl ?_
 refine Z4 (fun K6 hK6 => ?_)
 refine Z8 ?_
 refine Z12 (v := .string (bs x)) (by rfl) (by rfl) (by rfl) ?_
 simp only [Z7,Z0]
 refine Z12 (v := .string (bs s0)) (by rfl) (by rfl) (by rfl) ?_
 simp only [Z7,Z0]
 refine Z11 1 (by rfl) (fun Lk hLk => ?_)
 simp only [Z1,Z2]
 refine Z20 (v := .string (bs (nodeS x s0))) (args := #[.string (bs x), .string (bs s0)]) (by rfl) rfl Tryd.func40 (by kernel_rfl) (by kernel_rfl) rfl (fun W hW => node_c (a := x) (b := s0) (by omega) (by omega) ((M.sees hW).oldL L0) ((M.sees hW).oldR R0_0 L0)) ?_
 simp only [Z7,Z0]
 refine Z14 (hLk _ (fun w8 Sw8 => ?_))
 clear hLk Lk
 simp only [Z1,Z2]
 replace M := M.sees Sw8
 refine Z13 (v := .string (bs (nodeS x s0))) (by rfl) (by rfl) (by rfl) ?_
 simp only [Z7,Z0]
 refine Z9 (Z10 ?_)
 refine hK6 _ _ ?_
 refine wp_ret ?_
 repeat (first | with_reducible refine then_ret ?_ | with_reducible refine inblock_ret ?_)
 refine bodyPost_ret (v := .string (bs (nodeS x s0))) (res1 rfl (.tmp (by rfl))) rfl ?_
 have BE := M.below
 exact ⟨rfl, BE⟩
set_option maxHeartbeats 1000000 in
theorem joined_f {x s0 : List UInt8} {w : World} (hx : x.length = 32) (hs : s0.length = 32) (L0 : 0 < w.heap.size) (R0_0 : w.rangeAt 0 0 kcells) :
  Calls Tryd.prog 101 #[.bool false, .string (bs x), .string (bs s0)] w fun e w' => e = .returned (.string (bs (nodeS s0 x))) ∧ Below w.heap.size w w' := by
 go_enter Tryd.func101, Tryd.ntmps101
 have M := Mem.start w
 refine Z4 (fun K1 hK1 => ?_)
 refine Z8 ?_
 refine Z13 (v := .string (bs ([]))) (by rfl) (by rfl) (by rfl) ?_
 simp only [Z7,Z0]
 refine Z9 (Z10 ?_)
 refine hK1 _ _ ?_
 refine Z4 (fun K3 hK3 => ?_)
 refine Z4 (fun K4 hK4 => ?_)
 refine Z8 ?_
 refine Z12 (v := .bool false) (by rfl) (by rfl) (by rfl) ?_
 simp only [Z7,Z0]
 refine Z9 (Z10 ?_)
 refine hK4 _ _ ?_
 refine Z6 rfl ?_
 refine wp_skip ?_
 refine hK3 _ _ ?_
 refine Z4 (fun K6 hK6 => ?_)
 refine Z8 ?_
 refine Z12 (v := .string (bs s0)) (by rfl) (by rfl) (by rfl) ?_
 simp only [Z7,Z0]
 refine Z12 (v := .string (bs x)) (by rfl) (by rfl) (by rfl) ?_
 simp only [Z7,Z0]
 refine Z11 1 (by rfl) (fun Lk hLk => ?_)
 simp only [Z1,Z2]
 refine Z20 (v := .string (bs (nodeS s0 x))) (args := #[.string (bs s0), .string (bs x)]) (by rfl) rfl Tryd.func40 (by kernel_rfl) (by kernel_rfl) rfl (fun W hW => node_c (a := s0) (b := x) (by omega) (by omega) ((M.sees hW).oldL L0) ((M.sees hW).oldR R0_0 L0)) ?_
 simp only [Z7,Z0]
 refine Z14 (hLk _ (fun w8 Sw8 => ?_))
 clear hLk Lk
 simp only [Z1,Z2]
 replace M := M.sees Sw8
 refine Z13 (v := .string (bs (nodeS s0 x))) (by rfl) (by rfl) (by rfl) ?_
 simp only [Z7,Z0]
 refine Z9 (Z10 ?_)
 refine hK6 _ _ ?_
 refine wp_ret ?_
 repeat (first | with_reducible refine then_ret ?_ | with_reducible refine inblock_ret ?_)
 refine bodyPost_ret (v := .string (bs (nodeS s0 x))) (res1 rfl (.tmp (by rfl))) rfl ?_
 have BE := M.below
 exact ⟨rfl, BE⟩
set_option maxHeartbeats 1000000 in
theorem fol2_t {g : Nat} {x s0 : List UInt8} {w : World} (hx : x.length = 32) (hs : s0.length = 32) (hg0 : g ≠ 0) (L0 : 0 < w.heap.size) (R0_0 : w.rangeAt 0 0 kcells) (hM : Mem [g] w w [⟨g, 1, [(0, [.string (bs s0)])]⟩]) :
  Calls Tryd.prog 103 #[.bool true, .string (bs x), .pointer (some ⟨g, 0, none⟩)] w fun e w' => ∃ v, e = .returned v ∧ v = .tuple #[] ∧ Mem [g] w w' [⟨g, 1, [(0, [.string (bs (nodeS x s0))])]⟩] := by
 go_enter Tryd.func103, Tryd.ntmps103
 have M := hM
 refine Z8 ?_
 refine Z12 (v := .bool true) (by rfl) (by rfl) (by rfl) ?_
 simp only [Z7,Z0]
 refine Z12 (v := .string (bs x)) (by rfl) (by rfl) (by rfl) ?_
 simp only [Z7,Z0]
 refine Z11 2 (by rfl) (fun Lk hLk => ?_)
 simp only [Z1,Z2]
 refine wpV_load1 (v := .string (bs s0)) (by rfl) rfl rfl (range_one (M.r 0 0 rfl rfl)) (M.lt 0 rfl) Tryd.underlying9 rfl ?_
 simp only [Z7,Z0]
 refine Z20 (v := .string (bs (nodeS x s0))) (args := #[.bool true, .string (bs x), .string (bs s0)]) (by rfl) rfl Tryd.func101 (by kernel_rfl) (by kernel_rfl) rfl (fun W hW => by with_reducible exact joined_t (x := x) (s0 := s0) hx hs ((M.sees hW).oldL L0) ((M.sees hW).oldG R0_0 L0 (by simpa using Ne.symm hg0))) ?_
 simp only [Z7,Z0]
 refine Z14 (hLk _ (fun w2 Sw2 => ?_))
 clear hLk Lk
 simp only [Z1,Z2]
 replace M := M.sees Sw2
 refine Z18 (g := g) (off := 0) (n := 1) (v := .string (bs (nodeS x s0))) (by rfl) (by rfl) (by rfl) (by rfl) (by rfl) (M.t 0 rfl) (by decide) info9 rfl (fun w3 P R T => ?_)
 replace M := M.putS (new := [.string (bs (nodeS x s0))]) 0 0 rfl P R T rfl ⟨.inl rfl, trivial⟩
 simp only [Z0] at M
 refine Z9 (Z10 ?_)
 repeat (first | with_reducible refine then_exit ?_ | with_reducible refine inblock_exit ?_)
 refine bodyPost_end (v := .tuple #[]) (results_none rfl _ _ _) rfl ?_
 exact ⟨_, rfl, rfl, M⟩
set_option maxHeartbeats 1000000 in
theorem fol2_f {g : Nat} {x s0 : List UInt8} {w : World} (hx : x.length = 32) (hs : s0.length = 32) (hg0 : g ≠ 0) (L0 : 0 < w.heap.size) (R0_0 : w.rangeAt 0 0 kcells) (hM : Mem [g] w w [⟨g, 1, [(0, [.string (bs s0)])]⟩]) :
  Calls Tryd.prog 103 #[.bool false, .string (bs x), .pointer (some ⟨g, 0, none⟩)] w fun e w' => ∃ v, e = .returned v ∧ v = .tuple #[] ∧ Mem [g] w w' [⟨g, 1, [(0, [.string (bs (nodeS s0 x))])]⟩] := by
 go_enter Tryd.func103, Tryd.ntmps103
 have M := hM
 refine Z8 ?_
 refine Z12 (v := .bool false) (by rfl) (by rfl) (by rfl) ?_
 simp only [Z7,Z0]
 refine Z12 (v := .string (bs x)) (by rfl) (by rfl) (by rfl) ?_
 simp only [Z7,Z0]
 refine Z11 2 (by rfl) (fun Lk hLk => ?_)
 simp only [Z1,Z2]
 refine wpV_load1 (v := .string (bs s0)) (by rfl) rfl rfl (range_one (M.r 0 0 rfl rfl)) (M.lt 0 rfl) Tryd.underlying9 rfl ?_
 simp only [Z7,Z0]
 refine Z20 (v := .string (bs (nodeS s0 x))) (args := #[.bool false, .string (bs x), .string (bs s0)]) (by rfl) rfl Tryd.func101 (by kernel_rfl) (by kernel_rfl) rfl (fun W hW => by with_reducible exact joined_f (x := x) (s0 := s0) hx hs ((M.sees hW).oldL L0) ((M.sees hW).oldG R0_0 L0 (by simpa using Ne.symm hg0))) ?_
 simp only [Z7,Z0]
 refine Z14 (hLk _ (fun w2 Sw2 => ?_))
 clear hLk Lk
 simp only [Z1,Z2]
 replace M := M.sees Sw2
 refine Z18 (g := g) (off := 0) (n := 1) (v := .string (bs (nodeS s0 x))) (by rfl) (by rfl) (by rfl) (by rfl) (by rfl) (M.t 0 rfl) (by decide) info9 rfl (fun w3 P R T => ?_)
 replace M := M.putS (new := [.string (bs (nodeS s0 x))]) 0 0 rfl P R T rfl ⟨.inl rfl, trivial⟩
 simp only [Z0] at M
 refine Z9 (Z10 ?_)
 repeat (first | with_reducible refine then_exit ?_ | with_reducible refine inblock_exit ?_)
 refine bodyPost_end (v := .tuple #[]) (results_none rfl _ _ _) rfl ?_
 exact ⟨_, rfl, rfl, M⟩
set_option maxHeartbeats 1000000 in
theorem fol1_t {g h : Nat} {x sa sb : List UInt8} {w : World} (hx : x.length = 32) (hsa : sa.length = 32) (hsb : sb.length = 32) (hg0 : g ≠ 0) (hh0 : h ≠ 0) (L0 : 0 < w.heap.size) (R0_0 : w.rangeAt 0 0 kcells) (hM : Mem [g, h] w w [⟨g, 1, [(0, [.string (bs sb)])]⟩, ⟨h, 1, [(0, [.string (bs sa)])]⟩]) :
  Calls Tryd.prog 102 #[.bool true, .string (bs x), .pointer (some ⟨g, 0, none⟩), .pointer (some ⟨h, 0, none⟩)] w fun e w' => ∃ v, e = .returned v ∧ v = .tuple #[] ∧ Mem [g, h] w w' [⟨g, 1, [(0, [.string (bs (nodeS x sb))])]⟩, ⟨h, 1, [(0, [.string (bs (nodeS x sa))])]⟩] := by
 go_enter Tryd.func102, Tryd.ntmps102
 have M := hM
 refine Z4 (fun K1 hK1 => ?_)
 refine Z8 ?_
 refine Z12 (v := .bool true) (by rfl) (by rfl) (by rfl) ?_
 simp only [Z7,Z0]
 refine Z12 (v := .string (bs x)) (by rfl) (by rfl) (by rfl) ?_
 simp only [Z7,Z0]
 refine Z11 2 (by rfl) (fun Lk hLk => ?_)
 simp only [Z1,Z2]
 refine wpV_load1 (v := .string (bs sb)) (by rfl) rfl rfl (range_one (M.r 0 0 rfl rfl)) (M.lt 0 rfl) Tryd.underlying9 rfl ?_
 simp only [Z7,Z0]
 refine Z20 (v := .string (bs (nodeS x sb))) (args := #[.bool true, .string (bs x), .string (bs sb)]) (by rfl) rfl Tryd.func101 (by kernel_rfl) (by kernel_rfl) rfl (fun W hW => by with_reducible exact joined_t (x := x) (s0 := sb) hx hsb ((M.sees hW).oldL L0) ((M.sees hW).oldG R0_0 L0 (by simp; omega))) ?_
 simp only [Z7,Z0]
 refine Z14 (hLk _ (fun w3 Sw3 => ?_))
 clear hLk Lk
 simp only [Z1,Z2]
 replace M := M.sees Sw3
 refine Z18 (g := g) (off := 0) (n := 1) (v := .string (bs (nodeS x sb))) (by rfl) (by rfl) (by rfl) (by rfl) (by rfl) (M.t 0 rfl) (by decide) info9 rfl (fun w4 P R T => ?_)
 replace M := M.putS (new := [.string (bs (nodeS x sb))]) 0 0 rfl P R T rfl ⟨.inl rfl, trivial⟩
 simp only [Z0] at M
 refine Z9 (Z10 ?_)
 refine hK1 _ _ ?_
 refine Z4 (fun K5 hK5 => ?_)
 refine Z8 ?_
 refine Z12 (v := .bool true) (by rfl) (by rfl) (by rfl) ?_
 simp only [Z7,Z0]
 refine Z9 (Z10 ?_)
 refine hK5 _ _ ?_
 refine Z5 rfl ?_
 refine Z8 ?_
 refine Z12 (v := .string (bs x)) (by rfl) (by rfl) (by rfl) ?_
 simp only [Z7,Z0]
 refine Z11 2 (by rfl) (fun Lk hLk => ?_)
 simp only [Z1,Z2]
 refine wpV_load1 (v := .string (bs sa)) (by rfl) rfl rfl (range_one (M.r 1 0 rfl rfl)) (M.lt 1 rfl) Tryd.underlying9 rfl ?_
 simp only [Z7,Z0]
 refine Z20 (v := .string (bs (nodeS x sa))) (args := #[.string (bs x), .string (bs sa)]) (by rfl) rfl Tryd.func40 (by kernel_rfl) (by kernel_rfl) rfl (fun W hW => node_c (a := x) (b := sa) (by omega) (by omega) ((M.sees hW).oldL L0) ((M.sees hW).oldG R0_0 L0 (by simp; omega))) ?_
 simp only [Z7,Z0]
 refine Z14 (hLk _ (fun w8 Sw8 => ?_))
 clear hLk Lk
 simp only [Z1,Z2]
 replace M := M.sees Sw8
 refine Z18 (g := h) (off := 0) (n := 1) (v := .string (bs (nodeS x sa))) (by rfl) (by rfl) (by rfl) (by rfl) (by rfl) (M.t 1 rfl) (by decide) info9 rfl (fun w9 P R T => ?_)
 replace M := M.putS (new := [.string (bs (nodeS x sa))]) 1 0 rfl P R T rfl ⟨.inl rfl, trivial⟩
 simp only [Z0] at M
 refine Z9 (Z10 ?_)
 repeat (first | with_reducible refine then_exit ?_ | with_reducible refine inblock_exit ?_)
 refine bodyPost_end (v := .tuple #[]) (results_none rfl _ _ _) rfl ?_
 exact ⟨_, rfl, rfl, M⟩
set_option maxHeartbeats 1000000 in
theorem fol1_f {g h : Nat} {x sa sb : List UInt8} {w : World} (hx : x.length = 32) (hsa : sa.length = 32) (hsb : sb.length = 32) (hg0 : g ≠ 0) (hh0 : h ≠ 0) (L0 : 0 < w.heap.size) (R0_0 : w.rangeAt 0 0 kcells) (hM : Mem [g, h] w w [⟨g, 1, [(0, [.string (bs sb)])]⟩, ⟨h, 1, [(0, [.string (bs sa)])]⟩]) :
  Calls Tryd.prog 102 #[.bool false, .string (bs x), .pointer (some ⟨g, 0, none⟩), .pointer (some ⟨h, 0, none⟩)] w fun e w' => ∃ v, e = .returned v ∧ v = .tuple #[] ∧ Mem [g, h] w w' [⟨g, 1, [(0, [.string (bs (nodeS sb x))])]⟩, ⟨h, 1, [(0, [.string (bs sa)])]⟩] := by
 go_enter Tryd.func102, Tryd.ntmps102
 have M := hM
 refine Z4 (fun K1 hK1 => ?_)
 refine Z8 ?_
 refine Z12 (v := .bool false) (by rfl) (by rfl) (by rfl) ?_
 simp only [Z7,Z0]
 refine Z12 (v := .string (bs x)) (by rfl) (by rfl) (by rfl) ?_
 simp only [Z7,Z0]
 refine Z11 2 (by rfl) (fun Lk hLk => ?_)
 simp only [Z1,Z2]
 refine wpV_load1 (v := .string (bs sb)) (by rfl) rfl rfl (range_one (M.r 0 0 rfl rfl)) (M.lt 0 rfl) Tryd.underlying9 rfl ?_
 simp only [Z7,Z0]
 refine Z20 (v := .string (bs (nodeS sb x))) (args := #[.bool false, .string (bs x), .string (bs sb)]) (by rfl) rfl Tryd.func101 (by kernel_rfl) (by kernel_rfl) rfl (fun W hW => by with_reducible exact joined_f (x := x) (s0 := sb) hx hsb ((M.sees hW).oldL L0) ((M.sees hW).oldG R0_0 L0 (by simp; omega))) ?_
 simp only [Z7,Z0]
 refine Z14 (hLk _ (fun w3 Sw3 => ?_))
 clear hLk Lk
 simp only [Z1,Z2]
 replace M := M.sees Sw3
 refine Z18 (g := g) (off := 0) (n := 1) (v := .string (bs (nodeS sb x))) (by rfl) (by rfl) (by rfl) (by rfl) (by rfl) (M.t 0 rfl) (by decide) info9 rfl (fun w4 P R T => ?_)
 replace M := M.putS (new := [.string (bs (nodeS sb x))]) 0 0 rfl P R T rfl ⟨.inl rfl, trivial⟩
 simp only [Z0] at M
 refine Z9 (Z10 ?_)
 refine hK1 _ _ ?_
 refine Z4 (fun K5 hK5 => ?_)
 refine Z8 ?_
 refine Z12 (v := .bool false) (by rfl) (by rfl) (by rfl) ?_
 simp only [Z7,Z0]
 refine Z9 (Z10 ?_)
 refine hK5 _ _ ?_
 refine Z6 rfl ?_
 refine wp_skip ?_
 repeat (first | with_reducible refine then_exit ?_ | with_reducible refine inblock_exit ?_)
 refine bodyPost_end (v := .tuple #[]) (results_none rfl _ _ _) rfl ?_
 exact ⟨_, rfl, rfl, M⟩
set_option maxHeartbeats 4000000 in
theorem walk1_c {ps : List (List UInt8)} {ap : Option Addr} {np cp : Nat} {g a0 l0 : Nat} {s0 : List UInt8} {w : World} (hps : ps.length ≤ 4611686018427387904) (ha0 : a0 ≤ 4611686018427387904) (hl0b : l0 ≤ 4611686018427387904) (h32k : ∀ {k : Nat}, k < ps.length → (ps.getD k []).length = 32) (hs0 : s0.length = 32) (hg0 : g ≠ 0) (L0 : 0 < w.heap.size) (R0_0 : w.rangeAt 0 0 kcells) (Hp : RowN [g] w ap np cp (scells ps)) (hM : Mem [g] w w [⟨g, 1, [(0, [.string (bs s0)])]⟩]) :
  Calls Tryd.prog 83 #[.int .i64 ((a0 : Nat) : Int), .int .i64 ((l0 : Nat) : Int), .slice ap np cp, .func (.func 103) #[] #[.pointer (some ⟨g, 0, none⟩)]] w fun e w' => ∃ v, e = .returned v ∧ v = .bool (walkF nodeF ps a0 l0 s0).1 ∧ Mem [g] w w' [⟨g, 1, [(0, [.string (bs ((walkF nodeF ps a0 l0 s0).2))])]⟩] := by
 obtain rfl : np = ps.length := by have := Hp.row.len; rwa [scells_len] at this
 go_enter Tryd.func83, Tryd.ntmps83
 have M := hM
 refine Z4 (fun K1 hK1 => ?_)
 refine Z8 ?_
 refine Z13 (v := .bool false) (by rfl) (by rfl) (by rfl) ?_
 simp only [Z7,Z0]
 refine Z9 (Z10 ?_)
 refine hK1 _ _ ?_
 refine wp_scope_straight ?_
 refine Z4 (fun K3 hK3 => ?_)
 refine Z8 ?_
 refine Z13 (v := .bool true) (by rfl) (by rfl) (by rfl) ?_
 simp only [Z7,Z0]
 refine Z9 (Z10 ?_)
 refine hK3 _ _ ?_
 refine Z4 (fun K5 hK5 => ?_)
 refine wp_label ?_
 refine hK5 _ _ ?_
 refine Z4 (fun K6 hK6 => ?_)
 refine Z4 (fun K7 hK7 => ?_)
 refine Z8 ?_
 refine Z12 (v := .slice ap ps.length cp) (by rfl) (by rfl) (by rfl) ?_
 simp only [Z7,Z0]
 refine Z11 1 (by rfl) (fun Lk hLk => ?_)
 simp only [Z1,Z2]
 refine wpV_lenA (n := ps.length) (by rfl) rfl rfl rfl Tryd.underlying48 ?_
 simp only [Z7,Z0]
 refine Z14 (hLk _ (fun w9 Sw9 => ?_))
 clear hLk Lk
 simp only [Z1,Z2]
 replace M := M.sees Sw9
 refine Z12 (v := .int .i64 0) (by rfl) (by rfl) (by rfl) ?_
 simp only [Z7,Z0]
 refine Z9 (Z10 ?_)
 refine hK7 _ _ ?_
 refine wp_block ?_
 refine wp_loop_ghost (fun n9 a9 W9 => ∃ (k : Nat) (a : Nat) (l : Nat) (s1 : List UInt8) (u10 : Nat → Value), n9 = 2 * (ps.length - k) ∧ a9 = { tmps := #[.int .i64 ((a : Nat) : Int), .int .i64 ((l : Nat) : Int), .slice ap ps.length cp, .func (.func 103) #[] #[.pointer (some ⟨g, 0, none⟩)], Z3, Z3, Z3, Z3, .bool false, .bool true, Z3, u10 11, .slice ap ps.length cp, .int .i64 ((ps.length : Nat) : Int), .int .i64 ((k : Nat) : Int), u10 15, u10 16, u10 17, u10 18, u10 19, u10 20, u10 21, u10 22, u10 23, u10 24, u10 25, u10 26, u10 27, u10 28, u10 29, u10 30, u10 31, u10 32, u10 33, u10 34, u10 35, u10 36, u10 37, u10 38, u10 39, u10 40, u10 41, u10 42, u10 43, u10 44, u10 45, u10 46, u10 47, u10 48, u10 49, u10 50, u10 51, Z3, Z3, Z3, Z3, Z3], defers := [] } ∧ Mem [g] w W9 [⟨g, 1, [(0, [.string (bs s1)])]⟩] ∧ (k ≤ ps.length) ∧ (a ≤ 4611686018427387904) ∧ (l ≤ 4611686018427387904) ∧ (s1.length = 32) ∧ (walkF nodeF ps a0 l0 s0 = walkF nodeF (ps.drop k) a l s1)) (2 * (ps.length - (0))) ?_ (fun n9 a9 W9 hI => ?_)
 ·
  exact ⟨0, a0, l0, s0, (fun q9 => (#[Z3, Z3, Z3, Z3, Z3, Z3, Z3, Z3, Z3, Z3, Z3, Z3, Z3, Z3, Z3, Z3, Z3, Z3, Z3, Z3, Z3, Z3, Z3, Z3, Z3, Z3, Z3, Z3, Z3, Z3, Z3, Z3, Z3, Z3, Z3, Z3, Z3, Z3, Z3, Z3, Z3, Z3, Z3, Z3, Z3, Z3, Z3, Z3, Z3, Z3, Z3, Z3] : Array Value).getD q9 Z3), rfl, rfl, M, (Nat.zero_le _), ha0, hl0b, hs0, rfl⟩
 clear M
 obtain ⟨k, a, l, s1, u10, rfl, rfl, M, hk4, ha, hlb, hs1, hW⟩ := hI
 obtain ⟨w11, rfl⟩ : ∃ W8, W8 = W9 := ⟨_, rfl⟩
 refine Z4 (fun K12 hK12 => ?_)
 refine Z8 ?_
 refine Z11 1 (by rfl) (fun Lk hLk => ?_)
 simp only [Z1,Z2]
 refine Z15 (v := .bool (decide (k < ps.length))) (by rfl) rfl rfl rfl (fun W => run_lssN k ps.length _ _ W) ?_
 simp only [Z7,Z0]
 refine Z14 (hLk _ (fun w14 Sw14 => ?_))
 clear hLk Lk
 simp only [Z1,Z2]
 replace M := M.sees Sw14
 refine Z9 (Z10 ?_)
 refine hK12 _ _ ?_
 refine Z4 (fun K15 hK15 => ?_)
 cases hc16 : (decide (k < ps.length))
 ·
  have hk : ¬ k < ps.length := of_decide_eq_false hc16
  refine Z6 rfl ?_
  refine wp_exit ?_
  refine hK6 _ _ ?_
  refine Z4 (fun K17 hK17 => ?_)
  refine Z8 ?_
  refine Z12 (v := .bool true) (by rfl) (by rfl) (by rfl) ?_
  simp only [Z7,Z0]
  refine Z12 (v := .bool true) (by rfl) (by rfl) (by rfl) ?_
  simp only [Z7,Z0]
  refine Z11 3 (by rfl) (fun Lk hLk => ?_)
  simp only [Z1,Z2]
  refine Z16 (v := .int .i64 ((l : Nat) : Int)) (by rfl) rfl rfl ?_
  simp only [Z7,Z0]
  refine Z15 (v := .bool (decide (l = 0))) (by rfl) rfl rfl rfl (fun W => run_eqlN l 0 _ _ W) ?_
  simp only [Z7,Z0]
  refine wpV_pick (v := .bool (decide (l = 0))) (by rfl) rfl rfl rfl ?_
  simp only [Z7,Z0]
  refine Z14 (hLk _ (fun w19 Sw19 => ?_))
  clear hLk Lk
  simp only [Z1,Z2]
  replace M := M.sees Sw19
  refine Z13 (v := .bool (decide (l = 0))) (by rfl) (by rfl) (by rfl) ?_
  simp only [Z7,Z0]
  refine Z9 (Z10 ?_)
  refine hK17 _ _ ?_
  refine wp_ret ?_
  repeat (first | with_reducible refine then_ret ?_ | with_reducible refine inblock_ret ?_ | with_reducible refine nogoto_ret ?_)
  refine bodyPost_ret (v := .bool (decide (l = 0))) (res1 rfl (.tmp (by rfl))) rfl ?_
  exact ⟨_, rfl, by rw [hW, List.drop_of_length_le (by omega)]; rfl, by rw [hW, List.drop_of_length_le (by omega)]; exact M⟩
 ·
  have hk : k < ps.length := of_decide_eq_true hc16
  refine Z5 rfl ?_
  refine wp_skip ?_
  refine hK15 _ _ ?_
  refine Z4 (fun K20 hK20 => ?_)
  refine wp_block ?_
  refine Z4 (fun K21 hK21 => ?_)
  refine Z8 ?_
  refine Z11 2 (by rfl) (fun Lk hLk => ?_)
  simp only [Z1,Z2]
  refine wpV_idxA (i := k) (by rfl) rfl rfl rfl Tryd.underlying48 info9 (Hp.mem M).row (by omega) ?_
  simp only [Z7,Z0]
  refine wpV_loadA (i := k) (v := .string (bs (ps.getD k []))) (by rfl) rfl rfl (Hp.mem M).row (scells_get (ps := ps) (by omega)) Tryd.underlying9 rfl ?_
  simp only [Z7,Z0]
  refine Z14 (hLk _ (fun w23 Sw23 => ?_))
  clear hLk Lk
  simp only [Z1,Z2]
  replace M := M.sees Sw23
  refine Z13 (v := .string (bs (ps.getD k []))) (by rfl) (by rfl) (by rfl) ?_
  simp only [Z7,Z0]
  refine Z9 (Z10 ?_)
  refine hK21 _ _ ?_
  refine Z4 (fun K24 hK24 => ?_)
  refine wp_block ?_
  refine Z4 (fun K25 hK25 => ?_)
  refine Z8 ?_
  refine Z12 (v := .int .i64 ((l : Nat) : Int)) (by rfl) (by rfl) (by rfl) ?_
  simp only [Z7,Z0]
  refine Z11 1 (by rfl) (fun Lk hLk => ?_)
  simp only [Z1,Z2]
  refine Z15 (v := .bool (decide (l = 0))) (by rfl) rfl rfl rfl (fun W => run_eqlN l 0 _ _ W) ?_
  simp only [Z7,Z0]
  refine Z14 (hLk _ (fun w27 Sw27 => ?_))
  clear hLk Lk
  simp only [Z1,Z2]
  replace M := M.sees Sw27
  refine Z13 (v := .bool (decide (l = 0))) (by rfl) (by rfl) (by rfl) ?_
  simp only [Z7,Z0]
  refine Z9 (Z10 ?_)
  refine hK25 _ _ ?_
  cases hc28 : (decide (l = 0))
  ·
   have hl0 : ¬ l = 0 := of_decide_eq_false hc28
   refine Z6 rfl ?_
   refine Z4 (fun K29 hK29 => ?_)
   cases hg30 : (decide (a % 2 = 1))
   ·
    have ho : ¬ a % 2 = 1 := of_decide_eq_false hg30
    refine Z8 ?_
    refine Z12 (v := .int .i64 ((a : Nat) : Int)) (by rfl) (by rfl) (by rfl) ?_
    simp only [Z7,Z0]
    refine Z11 7 (by rfl) (fun Lk hLk => ?_)
    simp only [Z1,Z2]
    refine Z15 (v := .int .i64 ((a % 2 : Nat) : Int)) (by rfl) rfl rfl rfl (fun W => run_and ((and_i64 (m := a) (n := 1) (by omega) (by decide)).trans (by rw [and_oneN])) W) ?_
    simp only [Z7,Z0]
    refine Z15 (v := .bool false) (by rfl) rfl rfl rfl (fun W => (run_eqlN (a % 2) 1 _ _ W).trans (by rw [hg30])) ?_
    simp only [Z7,Z0]
    refine Z16 (v := .bool false) (by rfl) rfl rfl ?_
    simp only [Z7,Z0]
    refine Z16 (v := .int .i64 ((a : Nat) : Int)) (by rfl) rfl rfl ?_
    simp only [Z7,Z0]
    refine Z16 (v := .int .i64 ((l : Nat) : Int)) (by rfl) rfl rfl ?_
    simp only [Z7,Z0]
    refine Z15 (v := .bool (decide (a = l))) (by rfl) rfl rfl rfl (fun W => run_eqlN a l _ _ W) ?_
    simp only [Z7,Z0]
    refine wpV_pick (v := .bool (decide (a = l))) (by rfl) rfl rfl rfl ?_
    simp only [Z7,Z0]
    refine Z14 (hLk _ (fun w32 Sw32 => ?_))
    clear hLk Lk
    simp only [Z1,Z2]
    replace M := M.sees Sw32
    refine Z13 (v := .bool (decide (a = l))) (by rfl) (by rfl) (by rfl) ?_
    simp only [Z7,Z0]
    refine Z9 (Z10 ?_)
    refine hK29 _ _ ?_
    cases hc33 : (decide (a = l))
    ·
     have hal : ¬ a = l := of_decide_eq_false hc33
     have hno : ¬ (a % 2 = 1 ∨ a = l) := fun q9 => q9.elim ho hal
     refine Z6 rfl ?_
     refine Z8 ?_
     refine Z12 (v := .func (.func 103) #[] #[.pointer (some ⟨g, 0, none⟩)]) (by rfl) (by rfl) (by rfl) ?_
     simp only [Z7,Z0]
     refine Z12 (v := .string (bs (ps.getD k []))) (by rfl) (by rfl) (by rfl) ?_
     simp only [Z7,Z0]
     refine wpL_callMc (f := 103) (args := #[.bool false, .string (bs (ps.getD k []))]) (caps := #[.pointer (some ⟨g, 0, none⟩)]) (all := #[.bool false, .string (bs (ps.getD k [])), .pointer (some ⟨g, 0, none⟩)]) (R := fun v9 W9 => v9 = .tuple #[] ∧ Mem [g] w32 W9 [⟨g, 1, [(0, [.string (bs (nodeS s1 (ps.getD k [])))])]⟩]) (by simp) (by rfl) (by rfl) (by rfl) rfl Tryd.func103 (by kernel_rfl) (by kernel_rfl) (fol2_f (x := ps.getD k []) (s0 := s1) (h32k hk) hs1 hg0 (M.oldL L0) (M.oldG R0_0 L0 (by simpa using Ne.symm hg0)) (M.one 0 rfl)) (fun v9 w35 h9 => ?_)
     obtain ⟨rfl, M9⟩ := h9
     replace M := M.callM1 0 rfl M9
     simp only [Z0] at M
     simp only [Z7,Z0]
     refine Z9 (Z10 ?_)
     refine hK24 _ _ ?_
     refine Z8 ?_
     refine Z12 (v := .int .i64 ((a : Nat) : Int)) (by rfl) (by rfl) (by rfl) ?_
     simp only [Z7,Z0]
     refine Z11 3 (by rfl) (fun Lk hLk => ?_)
     simp only [Z1,Z2]
     refine Z15 (v := .int .i64 ((a / 2 ^ 1 : Nat) : Int)) (by rfl) rfl rfl rfl (fun W => run_shr (n := 1) (by decide) rfl W) ?_
     simp only [Z7,Z0]
     refine Z16 (v := .int .i64 ((l : Nat) : Int)) (by rfl) rfl rfl ?_
     simp only [Z7,Z0]
     refine Z15 (v := .int .i64 ((l / 2 ^ 1 : Nat) : Int)) (by rfl) rfl rfl rfl (fun W => run_shr (n := 1) (by decide) rfl W) ?_
     simp only [Z7,Z0]
     refine Z14 (hLk _ (fun w37 Sw37 => ?_))
     clear hLk Lk
     simp only [Z1,Z2]
     replace M := M.sees Sw37
     refine Z13 (v := .int .i64 ((a / 2 ^ 1 : Nat) : Int)) (by rfl) (by rfl) (by rfl) ?_
     simp only [Z7,Z0]
     refine Z13 (v := .int .i64 ((l / 2 ^ 1 : Nat) : Int)) (by rfl) (by rfl) (by rfl) ?_
     simp only [Z7,Z0]
     refine Z9 (Z10 ?_)
     refine hK20 _ _ ?_
     refine Z8 ?_
     refine Z11 1 (by rfl) (fun Lk hLk => ?_)
     simp only [Z1,Z2]
     refine Z15 (v := .int .i64 ((k + 1 : Nat) : Int)) (by rfl) rfl rfl rfl (fun W => run_add (by simp only [IntKind.wrap_i64]; omega) W) ?_
     simp only [Z7,Z0]
     refine Z14 (hLk _ (fun w39 Sw39 => ?_))
     clear hLk Lk
     simp only [Z1,Z2]
     replace M := M.sees Sw39
     refine Z12 (v := .int .i64 ((k + 1 : Nat) : Int)) (by rfl) (by rfl) (by rfl) ?_
     simp only [Z7,Z0]
     refine Z9 (Z10 ?_)
     refine Exists.intro _ ⟨?_, (k + 1), (a / 2 ^ 1), (l / 2 ^ 1), (nodeS s1 (ps.getD k [])), (fun q9 => (#[Z3, Z3, Z3, Z3, Z3, Z3, Z3, Z3, Z3, Z3, Z3, .string (bs (ps.getD k [])), Z3, Z3, Z3, .bool true, .pointer (ap.map (·.add k)), .string (bs (ps.getD k [])), .func (.func 103) #[] #[.pointer (some ⟨g, 0, none⟩)], .string (bs (ps.getD k [])), .tuple #[], .bool false, .int .i64 ((l : Nat) : Int), .bool false, .bool false, .int .i64 ((a : Nat) : Int), .int .i64 ((a % 2 : Nat) : Int), .bool false, .bool false, .int .i64 ((a : Nat) : Int), .int .i64 ((l : Nat) : Int), .bool false, .bool false, u10 33, u10 34, u10 35, u10 36, u10 37, u10 38, u10 39, u10 40, u10 41, u10 42, u10 43, u10 44, u10 45, u10 46, .int .i64 ((a : Nat) : Int), .int .i64 ((a / 2 ^ 1 : Nat) : Int), .int .i64 ((l : Nat) : Int), .int .i64 ((l / 2 ^ 1 : Nat) : Int), .int .i64 ((k + 1 : Nat) : Int)] : Array Value).getD q9 Z3), rfl, rfl, M, (by omega), (by omega), (by omega), (nodeS_len _ _), (walkG_no hk hl0 hno hW)⟩
     omega
    ·
     have hal : a = l := of_decide_eq_true hc33
     have hys : a % 2 = 1 ∨ a = l := .inr hal
     refine Z5 rfl ?_
     refine Z4 (fun K40 hK40 => ?_)
     refine Z8 ?_
     refine Z12 (v := .func (.func 103) #[] #[.pointer (some ⟨g, 0, none⟩)]) (by rfl) (by rfl) (by rfl) ?_
     simp only [Z7,Z0]
     refine Z12 (v := .string (bs (ps.getD k []))) (by rfl) (by rfl) (by rfl) ?_
     simp only [Z7,Z0]
     refine wpL_callMc (f := 103) (args := #[.bool true, .string (bs (ps.getD k []))]) (caps := #[.pointer (some ⟨g, 0, none⟩)]) (all := #[.bool true, .string (bs (ps.getD k [])), .pointer (some ⟨g, 0, none⟩)]) (R := fun v9 W9 => v9 = .tuple #[] ∧ Mem [g] w32 W9 [⟨g, 1, [(0, [.string (bs (nodeS (ps.getD k []) s1))])]⟩]) (by simp) (by rfl) (by rfl) (by rfl) rfl Tryd.func103 (by kernel_rfl) (by kernel_rfl) (fol2_t (x := ps.getD k []) (s0 := s1) (h32k hk) hs1 hg0 (M.oldL L0) (M.oldG R0_0 L0 (by simpa using Ne.symm hg0)) (M.one 0 rfl)) (fun v9 w42 h9 => ?_)
     obtain ⟨rfl, M9⟩ := h9
     replace M := M.callM1 0 rfl M9
     simp only [Z0] at M
     simp only [Z7,Z0]
     refine Z9 (Z10 ?_)
     refine hK40 _ _ ?_
     refine wp_block ?_
     refine wp_loop_ghost (fun n9 a9 W9 => ∃ (a2 : Nat) (l2 : Nat) (u43 : Nat → Value), n9 = 2 * a2 ∧ a9 = { tmps := #[.int .i64 ((a2 : Nat) : Int), .int .i64 ((l2 : Nat) : Int), .slice ap ps.length cp, .func (.func 103) #[] #[.pointer (some ⟨g, 0, none⟩)], Z3, Z3, Z3, Z3, .bool false, .bool true, Z3, .string (bs (ps.getD k [])), .slice ap ps.length cp, .int .i64 ((ps.length : Nat) : Int), .int .i64 ((k : Nat) : Int), .bool true, .pointer (ap.map (·.add k)), .string (bs (ps.getD k [])), u10 18, u10 19, u10 20, .bool false, .int .i64 ((l : Nat) : Int), .bool false, .bool true, .int .i64 ((a : Nat) : Int), .int .i64 ((a % 2 : Nat) : Int), .bool false, .bool false, .int .i64 ((a : Nat) : Int), .int .i64 ((l : Nat) : Int), .bool true, .bool true, .func (.func 103) #[] #[.pointer (some ⟨g, 0, none⟩)], .string (bs (ps.getD k [])), .tuple #[], u43 36, u43 37, u43 38, u43 39, u43 40, u43 41, u43 42, u43 43, u43 44, u43 45, u43 46, u10 47, u10 48, u10 49, u10 50, u10 51, Z3, Z3, Z3, Z3, Z3], defers := [] } ∧ Mem [g] w W9 [⟨g, 1, [(0, [.string (bs (nodeS (ps.getD k []) s1))])]⟩] ∧ (a2 ≤ a) ∧ (l2 ≤ l) ∧ (skipZ a2 l2 = skipZ a l)) (2 * (a)) ?_ (fun n9 a9 W9 hI => ?_)
     ·
      exact ⟨a, l, (fun q9 => (#[Z3, Z3, Z3, Z3, Z3, Z3, Z3, Z3, Z3, Z3, Z3, Z3, Z3, Z3, Z3, Z3, Z3, Z3, Z3, Z3, Z3, Z3, Z3, Z3, Z3, Z3, Z3, Z3, Z3, Z3, Z3, Z3, Z3, Z3, Z3, Z3, u10 36, u10 37, u10 38, u10 39, u10 40, u10 41, u10 42, u10 43, u10 44, u10 45, u10 46] : Array Value).getD q9 Z3), rfl, rfl, M, (Nat.le_refl _), (Nat.le_refl _), rfl⟩
     clear M
     obtain ⟨a2, l2, u43, rfl, rfl, M, ha2, hl2, hz⟩ := hI
     obtain ⟨w44, rfl⟩ : ∃ W8, W8 = W9 := ⟨_, rfl⟩
     refine Z4 (fun K45 hK45 => ?_)
     refine Z4 (fun K46 hK46 => ?_)
     cases hg47 : (decide (a2 ≠ 0))
     ·
      have hnz : ¬ a2 ≠ 0 := of_decide_eq_false hg47
      have hzz : skipZ a2 l2 = (a2, l2) := by rw [skipZ, dif_neg (fun q9 => hnz q9.1)]
      refine Z8 ?_
      refine Z12 (v := .int .i64 ((a2 : Nat) : Int)) (by rfl) (by rfl) (by rfl) ?_
      simp only [Z7,Z0]
      refine Z11 6 (by rfl) (fun Lk hLk => ?_)
      simp only [Z1,Z2]
      refine Z15 (v := .bool false) (by rfl) rfl rfl rfl (fun W => (run_neqN a2 0 _ _ W).trans (by rw [hg47])) ?_
      simp only [Z7,Z0]
      refine Z16 (v := .bool false) (by rfl) rfl rfl ?_
      simp only [Z7,Z0]
      refine wpV_skip (by rfl) (by rfl) ?_
      simp only [Z7,Z0]
      refine wpV_skip (by rfl) (by rfl) ?_
      simp only [Z7,Z0]
      refine wpV_skip (by rfl) (by rfl) ?_
      simp only [Z7,Z0]
      refine wpV_pick (v := .bool false) (by rfl) rfl rfl rfl ?_
      simp only [Z7,Z0]
      refine Z14 (hLk _ (fun w49 Sw49 => ?_))
      clear hLk Lk
      simp only [Z1,Z2]
      replace M := M.sees Sw49
      refine Z9 (Z10 ?_)
      refine hK46 _ _ ?_
      refine Z6 rfl ?_
      refine wp_exit ?_
      refine hK24 _ _ ?_
      refine Z8 ?_
      refine Z12 (v := .int .i64 ((a2 : Nat) : Int)) (by rfl) (by rfl) (by rfl) ?_
      simp only [Z7,Z0]
      refine Z11 3 (by rfl) (fun Lk hLk => ?_)
      simp only [Z1,Z2]
      refine Z15 (v := .int .i64 ((a2 / 2 ^ 1 : Nat) : Int)) (by rfl) rfl rfl rfl (fun W => run_shr (n := 1) (by decide) rfl W) ?_
      simp only [Z7,Z0]
      refine Z16 (v := .int .i64 ((l2 : Nat) : Int)) (by rfl) rfl rfl ?_
      simp only [Z7,Z0]
      refine Z15 (v := .int .i64 ((l2 / 2 ^ 1 : Nat) : Int)) (by rfl) rfl rfl rfl (fun W => run_shr (n := 1) (by decide) rfl W) ?_
      simp only [Z7,Z0]
      refine Z14 (hLk _ (fun w51 Sw51 => ?_))
      clear hLk Lk
      simp only [Z1,Z2]
      replace M := M.sees Sw51
      refine Z13 (v := .int .i64 ((a2 / 2 ^ 1 : Nat) : Int)) (by rfl) (by rfl) (by rfl) ?_
      simp only [Z7,Z0]
      refine Z13 (v := .int .i64 ((l2 / 2 ^ 1 : Nat) : Int)) (by rfl) (by rfl) (by rfl) ?_
      simp only [Z7,Z0]
      refine Z9 (Z10 ?_)
      refine hK20 _ _ ?_
      refine Z8 ?_
      refine Z11 1 (by rfl) (fun Lk hLk => ?_)
      simp only [Z1,Z2]
      refine Z15 (v := .int .i64 ((k + 1 : Nat) : Int)) (by rfl) rfl rfl rfl (fun W => run_add (by simp only [IntKind.wrap_i64]; omega) W) ?_
      simp only [Z7,Z0]
      refine Z14 (hLk _ (fun w53 Sw53 => ?_))
      clear hLk Lk
      simp only [Z1,Z2]
      replace M := M.sees Sw53
      refine Z12 (v := .int .i64 ((k + 1 : Nat) : Int)) (by rfl) (by rfl) (by rfl) ?_
      simp only [Z7,Z0]
      refine Z9 (Z10 ?_)
      refine Exists.intro _ ⟨?_, (k + 1), (a2 / 2 ^ 1), (l2 / 2 ^ 1), (nodeS (ps.getD k []) s1), (fun q9 => (#[Z3, Z3, Z3, Z3, Z3, Z3, Z3, Z3, Z3, Z3, Z3, .string (bs (ps.getD k [])), Z3, Z3, Z3, .bool true, .pointer (ap.map (·.add k)), .string (bs (ps.getD k [])), u10 18, u10 19, u10 20, .bool false, .int .i64 ((l : Nat) : Int), .bool false, .bool true, .int .i64 ((a : Nat) : Int), .int .i64 ((a % 2 : Nat) : Int), .bool false, .bool false, .int .i64 ((a : Nat) : Int), .int .i64 ((l : Nat) : Int), .bool true, .bool true, .func (.func 103) #[] #[.pointer (some ⟨g, 0, none⟩)], .string (bs (ps.getD k [])), .tuple #[], .int .i64 ((a2 : Nat) : Int), .bool false, .bool false, Z3, Z3, Z3, .bool false, u43 43, u43 44, u43 45, u43 46, .int .i64 ((a2 : Nat) : Int), .int .i64 ((a2 / 2 ^ 1 : Nat) : Int), .int .i64 ((l2 : Nat) : Int), .int .i64 ((l2 / 2 ^ 1 : Nat) : Int), .int .i64 ((k + 1 : Nat) : Int)] : Array Value).getD q9 Z3), rfl, rfl, M, (by omega), (by omega), (by omega), (nodeS_len _ _), (walkG_yes hk hl0 hys hz hzz hW)⟩
      omega
     ·
      have hnz : a2 ≠ 0 := of_decide_eq_true hg47
      refine Z8 ?_
      refine Z12 (v := .int .i64 ((a2 : Nat) : Int)) (by rfl) (by rfl) (by rfl) ?_
      simp only [Z7,Z0]
      refine Z11 6 (by rfl) (fun Lk hLk => ?_)
      simp only [Z1,Z2]
      refine Z15 (v := .bool true) (by rfl) rfl rfl rfl (fun W => (run_neqN a2 0 _ _ W).trans (by rw [hg47])) ?_
      simp only [Z7,Z0]
      refine Z16 (v := .bool true) (by rfl) rfl rfl ?_
      simp only [Z7,Z0]
      refine Z16 (v := .int .i64 ((a2 : Nat) : Int)) (by rfl) rfl rfl ?_
      simp only [Z7,Z0]
      refine Z15 (v := .int .i64 ((a2 % 2 : Nat) : Int)) (by rfl) rfl rfl rfl (fun W => run_and ((and_i64 (m := a2) (n := 1) (by omega) (by decide)).trans (by rw [and_oneN])) W) ?_
      simp only [Z7,Z0]
      refine Z15 (v := .bool (decide (a2 % 2 = 0))) (by rfl) rfl rfl rfl (fun W => run_eqlN (a2 % 2) 0 _ _ W) ?_
      simp only [Z7,Z0]
      refine wpV_pick (v := .bool (decide (a2 % 2 = 0))) (by rfl) rfl rfl rfl ?_
      simp only [Z7,Z0]
      refine Z14 (hLk _ (fun w55 Sw55 => ?_))
      clear hLk Lk
      simp only [Z1,Z2]
      replace M := M.sees Sw55
      refine Z9 (Z10 ?_)
      refine hK46 _ _ ?_
      cases hc56 : (decide (a2 % 2 = 0))
      ·
       have hev : ¬ a2 % 2 = 0 := of_decide_eq_false hc56
       have hzz : skipZ a2 l2 = (a2, l2) := by rw [skipZ, dif_neg (fun q9 => hev q9.2)]
       refine Z6 rfl ?_
       refine wp_exit ?_
       refine hK24 _ _ ?_
       refine Z8 ?_
       refine Z12 (v := .int .i64 ((a2 : Nat) : Int)) (by rfl) (by rfl) (by rfl) ?_
       simp only [Z7,Z0]
       refine Z11 3 (by rfl) (fun Lk hLk => ?_)
       simp only [Z1,Z2]
       refine Z15 (v := .int .i64 ((a2 / 2 ^ 1 : Nat) : Int)) (by rfl) rfl rfl rfl (fun W => run_shr (n := 1) (by decide) rfl W) ?_
       simp only [Z7,Z0]
       refine Z16 (v := .int .i64 ((l2 : Nat) : Int)) (by rfl) rfl rfl ?_
       simp only [Z7,Z0]
       refine Z15 (v := .int .i64 ((l2 / 2 ^ 1 : Nat) : Int)) (by rfl) rfl rfl rfl (fun W => run_shr (n := 1) (by decide) rfl W) ?_
       simp only [Z7,Z0]
       refine Z14 (hLk _ (fun w58 Sw58 => ?_))
       clear hLk Lk
       simp only [Z1,Z2]
       replace M := M.sees Sw58
       refine Z13 (v := .int .i64 ((a2 / 2 ^ 1 : Nat) : Int)) (by rfl) (by rfl) (by rfl) ?_
       simp only [Z7,Z0]
       refine Z13 (v := .int .i64 ((l2 / 2 ^ 1 : Nat) : Int)) (by rfl) (by rfl) (by rfl) ?_
       simp only [Z7,Z0]
       refine Z9 (Z10 ?_)
       refine hK20 _ _ ?_
       refine Z8 ?_
       refine Z11 1 (by rfl) (fun Lk hLk => ?_)
       simp only [Z1,Z2]
       refine Z15 (v := .int .i64 ((k + 1 : Nat) : Int)) (by rfl) rfl rfl rfl (fun W => run_add (by simp only [IntKind.wrap_i64]; omega) W) ?_
       simp only [Z7,Z0]
       refine Z14 (hLk _ (fun w60 Sw60 => ?_))
       clear hLk Lk
       simp only [Z1,Z2]
       replace M := M.sees Sw60
       refine Z12 (v := .int .i64 ((k + 1 : Nat) : Int)) (by rfl) (by rfl) (by rfl) ?_
       simp only [Z7,Z0]
       refine Z9 (Z10 ?_)
       refine Exists.intro _ ⟨?_, (k + 1), (a2 / 2 ^ 1), (l2 / 2 ^ 1), (nodeS (ps.getD k []) s1), (fun q9 => (#[Z3, Z3, Z3, Z3, Z3, Z3, Z3, Z3, Z3, Z3, Z3, .string (bs (ps.getD k [])), Z3, Z3, Z3, .bool true, .pointer (ap.map (·.add k)), .string (bs (ps.getD k [])), u10 18, u10 19, u10 20, .bool false, .int .i64 ((l : Nat) : Int), .bool false, .bool true, .int .i64 ((a : Nat) : Int), .int .i64 ((a % 2 : Nat) : Int), .bool false, .bool false, .int .i64 ((a : Nat) : Int), .int .i64 ((l : Nat) : Int), .bool true, .bool true, .func (.func 103) #[] #[.pointer (some ⟨g, 0, none⟩)], .string (bs (ps.getD k [])), .tuple #[], .int .i64 ((a2 : Nat) : Int), .bool true, .bool true, .int .i64 ((a2 : Nat) : Int), .int .i64 ((a2 % 2 : Nat) : Int), .bool false, .bool false, u43 43, u43 44, u43 45, u43 46, .int .i64 ((a2 : Nat) : Int), .int .i64 ((a2 / 2 ^ 1 : Nat) : Int), .int .i64 ((l2 : Nat) : Int), .int .i64 ((l2 / 2 ^ 1 : Nat) : Int), .int .i64 ((k + 1 : Nat) : Int)] : Array Value).getD q9 Z3), rfl, rfl, M, (by omega), (by omega), (by omega), (nodeS_len _ _), (walkG_yes hk hl0 hys hz hzz hW)⟩
       omega
      ·
       have hev : a2 % 2 = 0 := of_decide_eq_true hc56
       refine Z5 rfl ?_
       refine wp_skip ?_
       refine hK45 _ _ ?_
       refine wp_block ?_
       refine Z8 ?_
       refine Z12 (v := .int .i64 ((a2 : Nat) : Int)) (by rfl) (by rfl) (by rfl) ?_
       simp only [Z7,Z0]
       refine Z11 3 (by rfl) (fun Lk hLk => ?_)
       simp only [Z1,Z2]
       refine Z15 (v := .int .i64 ((a2 / 2 ^ 1 : Nat) : Int)) (by rfl) rfl rfl rfl (fun W => run_shr (n := 1) (by decide) rfl W) ?_
       simp only [Z7,Z0]
       refine Z16 (v := .int .i64 ((l2 : Nat) : Int)) (by rfl) rfl rfl ?_
       simp only [Z7,Z0]
       refine Z15 (v := .int .i64 ((l2 / 2 ^ 1 : Nat) : Int)) (by rfl) rfl rfl rfl (fun W => run_shr (n := 1) (by decide) rfl W) ?_
       simp only [Z7,Z0]
       refine Z14 (hLk _ (fun w62 Sw62 => ?_))
       clear hLk Lk
       simp only [Z1,Z2]
       replace M := M.sees Sw62
       refine Z13 (v := .int .i64 ((a2 / 2 ^ 1 : Nat) : Int)) (by rfl) (by rfl) (by rfl) ?_
       simp only [Z7,Z0]
       refine Z13 (v := .int .i64 ((l2 / 2 ^ 1 : Nat) : Int)) (by rfl) (by rfl) (by rfl) ?_
       simp only [Z7,Z0]
       refine Z9 (Z10 ?_)
       refine Exists.intro _ ⟨?_, (a2 / 2 ^ 1), (l2 / 2 ^ 1), (fun q9 => (#[Z3, Z3, Z3, Z3, Z3, Z3, Z3, Z3, Z3, Z3, Z3, Z3, Z3, Z3, Z3, Z3, Z3, Z3, Z3, Z3, Z3, Z3, Z3, Z3, Z3, Z3, Z3, Z3, Z3, Z3, Z3, Z3, Z3, Z3, Z3, Z3, .int .i64 ((a2 : Nat) : Int), .bool true, .bool true, .int .i64 ((a2 : Nat) : Int), .int .i64 ((a2 % 2 : Nat) : Int), .bool true, .bool true, .int .i64 ((a2 : Nat) : Int), .int .i64 ((a2 / 2 ^ 1 : Nat) : Int), .int .i64 ((l2 : Nat) : Int), .int .i64 ((l2 / 2 ^ 1 : Nat) : Int)] : Array Value).getD q9 Z3), rfl, rfl, M, (by omega), (by omega), ((skipZ_go hnz hev).symm.trans hz)⟩
       omega
   ·
    have ho : a % 2 = 1 := of_decide_eq_true hg30
    have hys : a % 2 = 1 ∨ a = l := .inl ho
    refine Z8 ?_
    refine Z12 (v := .int .i64 ((a : Nat) : Int)) (by rfl) (by rfl) (by rfl) ?_
    simp only [Z7,Z0]
    refine Z11 7 (by rfl) (fun Lk hLk => ?_)
    simp only [Z1,Z2]
    refine Z15 (v := .int .i64 ((a % 2 : Nat) : Int)) (by rfl) rfl rfl rfl (fun W => run_and ((and_i64 (m := a) (n := 1) (by omega) (by decide)).trans (by rw [and_oneN])) W) ?_
    simp only [Z7,Z0]
    refine Z15 (v := .bool true) (by rfl) rfl rfl rfl (fun W => (run_eqlN (a % 2) 1 _ _ W).trans (by rw [hg30])) ?_
    simp only [Z7,Z0]
    refine Z16 (v := .bool true) (by rfl) rfl rfl ?_
    simp only [Z7,Z0]
    refine wpV_skip (by rfl) (by rfl) ?_
    simp only [Z7,Z0]
    refine wpV_skip (by rfl) (by rfl) ?_
    simp only [Z7,Z0]
    refine wpV_skip (by rfl) (by rfl) ?_
    simp only [Z7,Z0]
    refine wpV_pick (v := .bool true) (by rfl) rfl rfl rfl ?_
    simp only [Z7,Z0]
    refine Z14 (hLk _ (fun w64 Sw64 => ?_))
    clear hLk Lk
    simp only [Z1,Z2]
    replace M := M.sees Sw64
    refine Z13 (v := .bool true) (by rfl) (by rfl) (by rfl) ?_
    simp only [Z7,Z0]
    refine Z9 (Z10 ?_)
    refine hK29 _ _ ?_
    refine Z5 rfl ?_
    refine Z4 (fun K65 hK65 => ?_)
    refine Z8 ?_
    refine Z12 (v := .func (.func 103) #[] #[.pointer (some ⟨g, 0, none⟩)]) (by rfl) (by rfl) (by rfl) ?_
    simp only [Z7,Z0]
    refine Z12 (v := .string (bs (ps.getD k []))) (by rfl) (by rfl) (by rfl) ?_
    simp only [Z7,Z0]
    refine wpL_callMc (f := 103) (args := #[.bool true, .string (bs (ps.getD k []))]) (caps := #[.pointer (some ⟨g, 0, none⟩)]) (all := #[.bool true, .string (bs (ps.getD k [])), .pointer (some ⟨g, 0, none⟩)]) (R := fun v9 W9 => v9 = .tuple #[] ∧ Mem [g] w64 W9 [⟨g, 1, [(0, [.string (bs (nodeS (ps.getD k []) s1))])]⟩]) (by simp) (by rfl) (by rfl) (by rfl) rfl Tryd.func103 (by kernel_rfl) (by kernel_rfl) (fol2_t (x := ps.getD k []) (s0 := s1) (h32k hk) hs1 hg0 (M.oldL L0) (M.oldG R0_0 L0 (by simpa using Ne.symm hg0)) (M.one 0 rfl)) (fun v9 w67 h9 => ?_)
    obtain ⟨rfl, M9⟩ := h9
    replace M := M.callM1 0 rfl M9
    simp only [Z0] at M
    simp only [Z7,Z0]
    refine Z9 (Z10 ?_)
    refine hK65 _ _ ?_
    refine wp_block ?_
    refine wp_loop_ghost (fun n9 a9 W9 => ∃ (a2 : Nat) (l2 : Nat) (u68 : Nat → Value), n9 = 2 * a2 ∧ a9 = { tmps := #[.int .i64 ((a2 : Nat) : Int), .int .i64 ((l2 : Nat) : Int), .slice ap ps.length cp, .func (.func 103) #[] #[.pointer (some ⟨g, 0, none⟩)], Z3, Z3, Z3, Z3, .bool false, .bool true, Z3, .string (bs (ps.getD k [])), .slice ap ps.length cp, .int .i64 ((ps.length : Nat) : Int), .int .i64 ((k : Nat) : Int), .bool true, .pointer (ap.map (·.add k)), .string (bs (ps.getD k [])), u10 18, u10 19, u10 20, .bool false, .int .i64 ((l : Nat) : Int), .bool false, .bool true, .int .i64 ((a : Nat) : Int), .int .i64 ((a % 2 : Nat) : Int), .bool true, .bool true, Z3, Z3, Z3, .bool true, .func (.func 103) #[] #[.pointer (some ⟨g, 0, none⟩)], .string (bs (ps.getD k [])), .tuple #[], u68 36, u68 37, u68 38, u68 39, u68 40, u68 41, u68 42, u68 43, u68 44, u68 45, u68 46, u10 47, u10 48, u10 49, u10 50, u10 51, Z3, Z3, Z3, Z3, Z3], defers := [] } ∧ Mem [g] w W9 [⟨g, 1, [(0, [.string (bs (nodeS (ps.getD k []) s1))])]⟩] ∧ (a2 ≤ a) ∧ (l2 ≤ l) ∧ (skipZ a2 l2 = skipZ a l)) (2 * (a)) ?_ (fun n9 a9 W9 hI => ?_)
    ·
     exact ⟨a, l, (fun q9 => (#[Z3, Z3, Z3, Z3, Z3, Z3, Z3, Z3, Z3, Z3, Z3, Z3, Z3, Z3, Z3, Z3, Z3, Z3, Z3, Z3, Z3, Z3, Z3, Z3, Z3, Z3, Z3, Z3, Z3, Z3, Z3, Z3, Z3, Z3, Z3, Z3, u10 36, u10 37, u10 38, u10 39, u10 40, u10 41, u10 42, u10 43, u10 44, u10 45, u10 46] : Array Value).getD q9 Z3), rfl, rfl, M, (Nat.le_refl _), (Nat.le_refl _), rfl⟩
    clear M
    obtain ⟨a2, l2, u68, rfl, rfl, M, ha2, hl2, hz⟩ := hI
    obtain ⟨w69, rfl⟩ : ∃ W8, W8 = W9 := ⟨_, rfl⟩
    refine Z4 (fun K70 hK70 => ?_)
    refine Z4 (fun K71 hK71 => ?_)
    cases hg72 : (decide (a2 ≠ 0))
    ·
     have hnz : ¬ a2 ≠ 0 := of_decide_eq_false hg72
     have hzz : skipZ a2 l2 = (a2, l2) := by rw [skipZ, dif_neg (fun q9 => hnz q9.1)]
     refine Z8 ?_
     refine Z12 (v := .int .i64 ((a2 : Nat) : Int)) (by rfl) (by rfl) (by rfl) ?_
     simp only [Z7,Z0]
     refine Z11 6 (by rfl) (fun Lk hLk => ?_)
     simp only [Z1,Z2]
     refine Z15 (v := .bool false) (by rfl) rfl rfl rfl (fun W => (run_neqN a2 0 _ _ W).trans (by rw [hg72])) ?_
     simp only [Z7,Z0]
     refine Z16 (v := .bool false) (by rfl) rfl rfl ?_
     simp only [Z7,Z0]
     refine wpV_skip (by rfl) (by rfl) ?_
     simp only [Z7,Z0]
     refine wpV_skip (by rfl) (by rfl) ?_
     simp only [Z7,Z0]
     refine wpV_skip (by rfl) (by rfl) ?_
     simp only [Z7,Z0]
     refine wpV_pick (v := .bool false) (by rfl) rfl rfl rfl ?_
     simp only [Z7,Z0]
     refine Z14 (hLk _ (fun w74 Sw74 => ?_))
     clear hLk Lk
     simp only [Z1,Z2]
     replace M := M.sees Sw74
     refine Z9 (Z10 ?_)
     refine hK71 _ _ ?_
     refine Z6 rfl ?_
     refine wp_exit ?_
     refine hK24 _ _ ?_
     refine Z8 ?_
     refine Z12 (v := .int .i64 ((a2 : Nat) : Int)) (by rfl) (by rfl) (by rfl) ?_
     simp only [Z7,Z0]
     refine Z11 3 (by rfl) (fun Lk hLk => ?_)
     simp only [Z1,Z2]
     refine Z15 (v := .int .i64 ((a2 / 2 ^ 1 : Nat) : Int)) (by rfl) rfl rfl rfl (fun W => run_shr (n := 1) (by decide) rfl W) ?_
     simp only [Z7,Z0]
     refine Z16 (v := .int .i64 ((l2 : Nat) : Int)) (by rfl) rfl rfl ?_
     simp only [Z7,Z0]
     refine Z15 (v := .int .i64 ((l2 / 2 ^ 1 : Nat) : Int)) (by rfl) rfl rfl rfl (fun W => run_shr (n := 1) (by decide) rfl W) ?_
     simp only [Z7,Z0]
     refine Z14 (hLk _ (fun w76 Sw76 => ?_))
     clear hLk Lk
     simp only [Z1,Z2]
     replace M := M.sees Sw76
     refine Z13 (v := .int .i64 ((a2 / 2 ^ 1 : Nat) : Int)) (by rfl) (by rfl) (by rfl) ?_
     simp only [Z7,Z0]
     refine Z13 (v := .int .i64 ((l2 / 2 ^ 1 : Nat) : Int)) (by rfl) (by rfl) (by rfl) ?_
     simp only [Z7,Z0]
     refine Z9 (Z10 ?_)
     refine hK20 _ _ ?_
     refine Z8 ?_
     refine Z11 1 (by rfl) (fun Lk hLk => ?_)
     simp only [Z1,Z2]
     refine Z15 (v := .int .i64 ((k + 1 : Nat) : Int)) (by rfl) rfl rfl rfl (fun W => run_add (by simp only [IntKind.wrap_i64]; omega) W) ?_
     simp only [Z7,Z0]
     refine Z14 (hLk _ (fun w78 Sw78 => ?_))
     clear hLk Lk
     simp only [Z1,Z2]
     replace M := M.sees Sw78
     refine Z12 (v := .int .i64 ((k + 1 : Nat) : Int)) (by rfl) (by rfl) (by rfl) ?_
     simp only [Z7,Z0]
     refine Z9 (Z10 ?_)
     refine Exists.intro _ ⟨?_, (k + 1), (a2 / 2 ^ 1), (l2 / 2 ^ 1), (nodeS (ps.getD k []) s1), (fun q9 => (#[Z3, Z3, Z3, Z3, Z3, Z3, Z3, Z3, Z3, Z3, Z3, .string (bs (ps.getD k [])), Z3, Z3, Z3, .bool true, .pointer (ap.map (·.add k)), .string (bs (ps.getD k [])), u10 18, u10 19, u10 20, .bool false, .int .i64 ((l : Nat) : Int), .bool false, .bool true, .int .i64 ((a : Nat) : Int), .int .i64 ((a % 2 : Nat) : Int), .bool true, .bool true, Z3, Z3, Z3, .bool true, .func (.func 103) #[] #[.pointer (some ⟨g, 0, none⟩)], .string (bs (ps.getD k [])), .tuple #[], .int .i64 ((a2 : Nat) : Int), .bool false, .bool false, Z3, Z3, Z3, .bool false, u68 43, u68 44, u68 45, u68 46, .int .i64 ((a2 : Nat) : Int), .int .i64 ((a2 / 2 ^ 1 : Nat) : Int), .int .i64 ((l2 : Nat) : Int), .int .i64 ((l2 / 2 ^ 1 : Nat) : Int), .int .i64 ((k + 1 : Nat) : Int)] : Array Value).getD q9 Z3), rfl, rfl, M, (by omega), (by omega), (by omega), (nodeS_len _ _), (walkG_yes hk hl0 hys hz hzz hW)⟩
     omega
    ·
     have hnz : a2 ≠ 0 := of_decide_eq_true hg72
     refine Z8 ?_
     refine Z12 (v := .int .i64 ((a2 : Nat) : Int)) (by rfl) (by rfl) (by rfl) ?_
     simp only [Z7,Z0]
     refine Z11 6 (by rfl) (fun Lk hLk => ?_)
     simp only [Z1,Z2]
     refine Z15 (v := .bool true) (by rfl) rfl rfl rfl (fun W => (run_neqN a2 0 _ _ W).trans (by rw [hg72])) ?_
     simp only [Z7,Z0]
     refine Z16 (v := .bool true) (by rfl) rfl rfl ?_
     simp only [Z7,Z0]
     refine Z16 (v := .int .i64 ((a2 : Nat) : Int)) (by rfl) rfl rfl ?_
     simp only [Z7,Z0]
     refine Z15 (v := .int .i64 ((a2 % 2 : Nat) : Int)) (by rfl) rfl rfl rfl (fun W => run_and ((and_i64 (m := a2) (n := 1) (by omega) (by decide)).trans (by rw [and_oneN])) W) ?_
     simp only [Z7,Z0]
     refine Z15 (v := .bool (decide (a2 % 2 = 0))) (by rfl) rfl rfl rfl (fun W => run_eqlN (a2 % 2) 0 _ _ W) ?_
     simp only [Z7,Z0]
     refine wpV_pick (v := .bool (decide (a2 % 2 = 0))) (by rfl) rfl rfl rfl ?_
     simp only [Z7,Z0]
     refine Z14 (hLk _ (fun w80 Sw80 => ?_))
     clear hLk Lk
     simp only [Z1,Z2]
     replace M := M.sees Sw80
     refine Z9 (Z10 ?_)
     refine hK71 _ _ ?_
     cases hc81 : (decide (a2 % 2 = 0))
     ·
      have hev : ¬ a2 % 2 = 0 := of_decide_eq_false hc81
      have hzz : skipZ a2 l2 = (a2, l2) := by rw [skipZ, dif_neg (fun q9 => hev q9.2)]
      refine Z6 rfl ?_
      refine wp_exit ?_
      refine hK24 _ _ ?_
      refine Z8 ?_
      refine Z12 (v := .int .i64 ((a2 : Nat) : Int)) (by rfl) (by rfl) (by rfl) ?_
      simp only [Z7,Z0]
      refine Z11 3 (by rfl) (fun Lk hLk => ?_)
      simp only [Z1,Z2]
      refine Z15 (v := .int .i64 ((a2 / 2 ^ 1 : Nat) : Int)) (by rfl) rfl rfl rfl (fun W => run_shr (n := 1) (by decide) rfl W) ?_
      simp only [Z7,Z0]
      refine Z16 (v := .int .i64 ((l2 : Nat) : Int)) (by rfl) rfl rfl ?_
      simp only [Z7,Z0]
      refine Z15 (v := .int .i64 ((l2 / 2 ^ 1 : Nat) : Int)) (by rfl) rfl rfl rfl (fun W => run_shr (n := 1) (by decide) rfl W) ?_
      simp only [Z7,Z0]
      refine Z14 (hLk _ (fun w83 Sw83 => ?_))
      clear hLk Lk
      simp only [Z1,Z2]
      replace M := M.sees Sw83
      refine Z13 (v := .int .i64 ((a2 / 2 ^ 1 : Nat) : Int)) (by rfl) (by rfl) (by rfl) ?_
      simp only [Z7,Z0]
      refine Z13 (v := .int .i64 ((l2 / 2 ^ 1 : Nat) : Int)) (by rfl) (by rfl) (by rfl) ?_
      simp only [Z7,Z0]
      refine Z9 (Z10 ?_)
      refine hK20 _ _ ?_
      refine Z8 ?_
      refine Z11 1 (by rfl) (fun Lk hLk => ?_)
      simp only [Z1,Z2]
      refine Z15 (v := .int .i64 ((k + 1 : Nat) : Int)) (by rfl) rfl rfl rfl (fun W => run_add (by simp only [IntKind.wrap_i64]; omega) W) ?_
      simp only [Z7,Z0]
      refine Z14 (hLk _ (fun w85 Sw85 => ?_))
      clear hLk Lk
      simp only [Z1,Z2]
      replace M := M.sees Sw85
      refine Z12 (v := .int .i64 ((k + 1 : Nat) : Int)) (by rfl) (by rfl) (by rfl) ?_
      simp only [Z7,Z0]
      refine Z9 (Z10 ?_)
      refine Exists.intro _ ⟨?_, (k + 1), (a2 / 2 ^ 1), (l2 / 2 ^ 1), (nodeS (ps.getD k []) s1), (fun q9 => (#[Z3, Z3, Z3, Z3, Z3, Z3, Z3, Z3, Z3, Z3, Z3, .string (bs (ps.getD k [])), Z3, Z3, Z3, .bool true, .pointer (ap.map (·.add k)), .string (bs (ps.getD k [])), u10 18, u10 19, u10 20, .bool false, .int .i64 ((l : Nat) : Int), .bool false, .bool true, .int .i64 ((a : Nat) : Int), .int .i64 ((a % 2 : Nat) : Int), .bool true, .bool true, Z3, Z3, Z3, .bool true, .func (.func 103) #[] #[.pointer (some ⟨g, 0, none⟩)], .string (bs (ps.getD k [])), .tuple #[], .int .i64 ((a2 : Nat) : Int), .bool true, .bool true, .int .i64 ((a2 : Nat) : Int), .int .i64 ((a2 % 2 : Nat) : Int), .bool false, .bool false, u68 43, u68 44, u68 45, u68 46, .int .i64 ((a2 : Nat) : Int), .int .i64 ((a2 / 2 ^ 1 : Nat) : Int), .int .i64 ((l2 : Nat) : Int), .int .i64 ((l2 / 2 ^ 1 : Nat) : Int), .int .i64 ((k + 1 : Nat) : Int)] : Array Value).getD q9 Z3), rfl, rfl, M, (by omega), (by omega), (by omega), (nodeS_len _ _), (walkG_yes hk hl0 hys hz hzz hW)⟩
      omega
     ·
      have hev : a2 % 2 = 0 := of_decide_eq_true hc81
      refine Z5 rfl ?_
      refine wp_skip ?_
      refine hK70 _ _ ?_
      refine wp_block ?_
      refine Z8 ?_
      refine Z12 (v := .int .i64 ((a2 : Nat) : Int)) (by rfl) (by rfl) (by rfl) ?_
      simp only [Z7,Z0]
      refine Z11 3 (by rfl) (fun Lk hLk => ?_)
      simp only [Z1,Z2]
      refine Z15 (v := .int .i64 ((a2 / 2 ^ 1 : Nat) : Int)) (by rfl) rfl rfl rfl (fun W => run_shr (n := 1) (by decide) rfl W) ?_
      simp only [Z7,Z0]
      refine Z16 (v := .int .i64 ((l2 : Nat) : Int)) (by rfl) rfl rfl ?_
      simp only [Z7,Z0]
      refine Z15 (v := .int .i64 ((l2 / 2 ^ 1 : Nat) : Int)) (by rfl) rfl rfl rfl (fun W => run_shr (n := 1) (by decide) rfl W) ?_
      simp only [Z7,Z0]
      refine Z14 (hLk _ (fun w87 Sw87 => ?_))
      clear hLk Lk
      simp only [Z1,Z2]
      replace M := M.sees Sw87
      refine Z13 (v := .int .i64 ((a2 / 2 ^ 1 : Nat) : Int)) (by rfl) (by rfl) (by rfl) ?_
      simp only [Z7,Z0]
      refine Z13 (v := .int .i64 ((l2 / 2 ^ 1 : Nat) : Int)) (by rfl) (by rfl) (by rfl) ?_
      simp only [Z7,Z0]
      refine Z9 (Z10 ?_)
      refine Exists.intro _ ⟨?_, (a2 / 2 ^ 1), (l2 / 2 ^ 1), (fun q9 => (#[Z3, Z3, Z3, Z3, Z3, Z3, Z3, Z3, Z3, Z3, Z3, Z3, Z3, Z3, Z3, Z3, Z3, Z3, Z3, Z3, Z3, Z3, Z3, Z3, Z3, Z3, Z3, Z3, Z3, Z3, Z3, Z3, Z3, Z3, Z3, Z3, .int .i64 ((a2 : Nat) : Int), .bool true, .bool true, .int .i64 ((a2 : Nat) : Int), .int .i64 ((a2 % 2 : Nat) : Int), .bool true, .bool true, .int .i64 ((a2 : Nat) : Int), .int .i64 ((a2 / 2 ^ 1 : Nat) : Int), .int .i64 ((l2 : Nat) : Int), .int .i64 ((l2 / 2 ^ 1 : Nat) : Int)] : Array Value).getD q9 Z3), rfl, rfl, M, (by omega), (by omega), ((skipZ_go hnz hev).symm.trans hz)⟩
      omega
  ·
   have hl0 : l = 0 := of_decide_eq_true hc28
   refine Z5 rfl ?_
   refine Z4 (fun K88 hK88 => ?_)
   refine Z8 ?_
   refine Z13 (v := .bool false) (by rfl) (by rfl) (by rfl) ?_
   simp only [Z7,Z0]
   refine Z9 (Z10 ?_)
   refine hK88 _ _ ?_
   refine wp_exit ?_
   refine hK6 _ _ ?_
   refine Z4 (fun K90 hK90 => ?_)
   refine Z8 ?_
   refine Z12 (v := .bool false) (by rfl) (by rfl) (by rfl) ?_
   simp only [Z7,Z0]
   refine Z12 (v := .bool false) (by rfl) (by rfl) (by rfl) ?_
   simp only [Z7,Z0]
   refine Z11 3 (by rfl) (fun Lk hLk => ?_)
   simp only [Z1,Z2]
   refine wpV_skip (by rfl) (by rfl) ?_
   simp only [Z7,Z0]
   refine wpV_skip (by rfl) (by rfl) ?_
   simp only [Z7,Z0]
   refine wpV_pick (v := .bool false) (by rfl) rfl rfl rfl ?_
   simp only [Z7,Z0]
   refine Z14 (hLk _ (fun w92 Sw92 => ?_))
   clear hLk Lk
   simp only [Z1,Z2]
   replace M := M.sees Sw92
   refine Z13 (v := .bool false) (by rfl) (by rfl) (by rfl) ?_
   simp only [Z7,Z0]
   refine Z9 (Z10 ?_)
   refine hK90 _ _ ?_
   refine wp_ret ?_
   repeat (first | with_reducible refine then_ret ?_ | with_reducible refine inblock_ret ?_ | with_reducible refine nogoto_ret ?_)
   refine bodyPost_ret (v := .bool false) (res1 rfl (.tmp (by rfl))) rfl ?_
   exact ⟨_, rfl, by rw [hW, walkG_stop hk hl0], by rw [hW, walkG_stop hk hl0]; exact M⟩
set_option maxHeartbeats 4000000 in
theorem walk2_c {ps : List (List UInt8)} {ap : Option Addr} {np cp : Nat} {g h a0 l0 : Nat} {c0 b0 : List UInt8} {w : World} (hps : ps.length ≤ 4611686018427387904) (ha0 : a0 ≤ 4611686018427387904) (hl0b : l0 ≤ 4611686018427387904) (h32k : ∀ {k : Nat}, k < ps.length → (ps.getD k []).length = 32) (hc0 : c0.length = 32) (hb0 : b0.length = 32) (hg0 : g ≠ 0) (hh0 : h ≠ 0) (L0 : 0 < w.heap.size) (R0_0 : w.rangeAt 0 0 kcells) (Hp : RowN [g, h] w ap np cp (scells ps)) (hM : Mem [g, h] w w [⟨g, 1, [(0, [.string (bs b0)])]⟩, ⟨h, 1, [(0, [.string (bs c0)])]⟩]) :
  Calls Tryd.prog 83 #[.int .i64 ((a0 : Nat) : Int), .int .i64 ((l0 : Nat) : Int), .slice ap np cp, .func (.func 102) #[] #[.pointer (some ⟨g, 0, none⟩), .pointer (some ⟨h, 0, none⟩)]] w fun e w' => ∃ v, e = .returned v ∧ v = .bool (walkF bothF ps a0 l0 (c0, b0)).1 ∧ Mem [g, h] w w' [⟨g, 1, [(0, [.string (bs ((walkF bothF ps a0 l0 (c0, b0)).2.2))])]⟩, ⟨h, 1, [(0, [.string (bs ((walkF bothF ps a0 l0 (c0, b0)).2.1))])]⟩] := by
 obtain rfl : np = ps.length := by have := Hp.row.len; rwa [scells_len] at this
 go_enter Tryd.func83, Tryd.ntmps83
 have M := hM
 refine Z4 (fun K1 hK1 => ?_)
 refine Z8 ?_
 refine Z13 (v := .bool false) (by rfl) (by rfl) (by rfl) ?_
 simp only [Z7,Z0]
 refine Z9 (Z10 ?_)
 refine hK1 _ _ ?_
 refine wp_scope_straight ?_
 refine Z4 (fun K3 hK3 => ?_)
 refine Z8 ?_
 refine Z13 (v := .bool true) (by rfl) (by rfl) (by rfl) ?_
 simp only [Z7,Z0]
 refine Z9 (Z10 ?_)
 refine hK3 _ _ ?_
 refine Z4 (fun K5 hK5 => ?_)
 refine wp_label ?_
 refine hK5 _ _ ?_
 refine Z4 (fun K6 hK6 => ?_)
 refine Z4 (fun K7 hK7 => ?_)
 refine Z8 ?_
 refine Z12 (v := .slice ap ps.length cp) (by rfl) (by rfl) (by rfl) ?_
 simp only [Z7,Z0]
 refine Z11 1 (by rfl) (fun Lk hLk => ?_)
 simp only [Z1,Z2]
 refine wpV_lenA (n := ps.length) (by rfl) rfl rfl rfl Tryd.underlying48 ?_
 simp only [Z7,Z0]
 refine Z14 (hLk _ (fun w9 Sw9 => ?_))
 clear hLk Lk
 simp only [Z1,Z2]
 replace M := M.sees Sw9
 refine Z12 (v := .int .i64 0) (by rfl) (by rfl) (by rfl) ?_
 simp only [Z7,Z0]
 refine Z9 (Z10 ?_)
 refine hK7 _ _ ?_
 refine wp_block ?_
 refine wp_loop_ghost (fun n9 a9 W9 => ∃ (k : Nat) (a : Nat) (l : Nat) (sa : List UInt8) (sb : List UInt8) (u10 : Nat → Value), n9 = 2 * (ps.length - k) ∧ a9 = { tmps := #[.int .i64 ((a : Nat) : Int), .int .i64 ((l : Nat) : Int), .slice ap ps.length cp, .func (.func 102) #[] #[.pointer (some ⟨g, 0, none⟩), .pointer (some ⟨h, 0, none⟩)], Z3, Z3, Z3, Z3, .bool false, .bool true, Z3, u10 11, .slice ap ps.length cp, .int .i64 ((ps.length : Nat) : Int), .int .i64 ((k : Nat) : Int), u10 15, u10 16, u10 17, u10 18, u10 19, u10 20, u10 21, u10 22, u10 23, u10 24, u10 25, u10 26, u10 27, u10 28, u10 29, u10 30, u10 31, u10 32, u10 33, u10 34, u10 35, u10 36, u10 37, u10 38, u10 39, u10 40, u10 41, u10 42, u10 43, u10 44, u10 45, u10 46, u10 47, u10 48, u10 49, u10 50, u10 51, Z3, Z3, Z3, Z3, Z3], defers := [] } ∧ Mem [g, h] w W9 [⟨g, 1, [(0, [.string (bs sb)])]⟩, ⟨h, 1, [(0, [.string (bs sa)])]⟩] ∧ (k ≤ ps.length) ∧ (a ≤ 4611686018427387904) ∧ (l ≤ 4611686018427387904) ∧ (sa.length = 32) ∧ (sb.length = 32) ∧ (walkF bothF ps a0 l0 (c0, b0) = walkF bothF (ps.drop k) a l (sa, sb))) (2 * (ps.length - (0))) ?_ (fun n9 a9 W9 hI => ?_)
 ·
  exact ⟨0, a0, l0, c0, b0, (fun q9 => (#[Z3, Z3, Z3, Z3, Z3, Z3, Z3, Z3, Z3, Z3, Z3, Z3, Z3, Z3, Z3, Z3, Z3, Z3, Z3, Z3, Z3, Z3, Z3, Z3, Z3, Z3, Z3, Z3, Z3, Z3, Z3, Z3, Z3, Z3, Z3, Z3, Z3, Z3, Z3, Z3, Z3, Z3, Z3, Z3, Z3, Z3, Z3, Z3, Z3, Z3, Z3, Z3] : Array Value).getD q9 Z3), rfl, rfl, M, (Nat.zero_le _), ha0, hl0b, hc0, hb0, rfl⟩
 clear M
 obtain ⟨k, a, l, sa, sb, u10, rfl, rfl, M, hk4, ha, hlb, hsa, hsb, hW⟩ := hI
 obtain ⟨w11, rfl⟩ : ∃ W8, W8 = W9 := ⟨_, rfl⟩
 refine Z4 (fun K12 hK12 => ?_)
 refine Z8 ?_
 refine Z11 1 (by rfl) (fun Lk hLk => ?_)
 simp only [Z1,Z2]
 refine Z15 (v := .bool (decide (k < ps.length))) (by rfl) rfl rfl rfl (fun W => run_lssN k ps.length _ _ W) ?_
 simp only [Z7,Z0]
 refine Z14 (hLk _ (fun w14 Sw14 => ?_))
 clear hLk Lk
 simp only [Z1,Z2]
 replace M := M.sees Sw14
 refine Z9 (Z10 ?_)
 refine hK12 _ _ ?_
 refine Z4 (fun K15 hK15 => ?_)
 cases hc16 : (decide (k < ps.length))
 ·
  have hk : ¬ k < ps.length := of_decide_eq_false hc16
  refine Z6 rfl ?_
  refine wp_exit ?_
  refine hK6 _ _ ?_
  refine Z4 (fun K17 hK17 => ?_)
  refine Z8 ?_
  refine Z12 (v := .bool true) (by rfl) (by rfl) (by rfl) ?_
  simp only [Z7,Z0]
  refine Z12 (v := .bool true) (by rfl) (by rfl) (by rfl) ?_
  simp only [Z7,Z0]
  refine Z11 3 (by rfl) (fun Lk hLk => ?_)
  simp only [Z1,Z2]
  refine Z16 (v := .int .i64 ((l : Nat) : Int)) (by rfl) rfl rfl ?_
  simp only [Z7,Z0]
  refine Z15 (v := .bool (decide (l = 0))) (by rfl) rfl rfl rfl (fun W => run_eqlN l 0 _ _ W) ?_
  simp only [Z7,Z0]
  refine wpV_pick (v := .bool (decide (l = 0))) (by rfl) rfl rfl rfl ?_
  simp only [Z7,Z0]
  refine Z14 (hLk _ (fun w19 Sw19 => ?_))
  clear hLk Lk
  simp only [Z1,Z2]
  replace M := M.sees Sw19
  refine Z13 (v := .bool (decide (l = 0))) (by rfl) (by rfl) (by rfl) ?_
  simp only [Z7,Z0]
  refine Z9 (Z10 ?_)
  refine hK17 _ _ ?_
  refine wp_ret ?_
  repeat (first | with_reducible refine then_ret ?_ | with_reducible refine inblock_ret ?_ | with_reducible refine nogoto_ret ?_)
  refine bodyPost_ret (v := .bool (decide (l = 0))) (res1 rfl (.tmp (by rfl))) rfl ?_
  exact ⟨_, rfl, by rw [hW, List.drop_of_length_le (by omega)]; rfl, by rw [hW, List.drop_of_length_le (by omega)]; exact M⟩
 ·
  have hk : k < ps.length := of_decide_eq_true hc16
  refine Z5 rfl ?_
  refine wp_skip ?_
  refine hK15 _ _ ?_
  refine Z4 (fun K20 hK20 => ?_)
  refine wp_block ?_
  refine Z4 (fun K21 hK21 => ?_)
  refine Z8 ?_
  refine Z11 2 (by rfl) (fun Lk hLk => ?_)
  simp only [Z1,Z2]
  refine wpV_idxA (i := k) (by rfl) rfl rfl rfl Tryd.underlying48 info9 (Hp.mem M).row (by omega) ?_
  simp only [Z7,Z0]
  refine wpV_loadA (i := k) (v := .string (bs (ps.getD k []))) (by rfl) rfl rfl (Hp.mem M).row (scells_get (ps := ps) (by omega)) Tryd.underlying9 rfl ?_
  simp only [Z7,Z0]
  refine Z14 (hLk _ (fun w23 Sw23 => ?_))
  clear hLk Lk
  simp only [Z1,Z2]
  replace M := M.sees Sw23
  refine Z13 (v := .string (bs (ps.getD k []))) (by rfl) (by rfl) (by rfl) ?_
  simp only [Z7,Z0]
  refine Z9 (Z10 ?_)
  refine hK21 _ _ ?_
  refine Z4 (fun K24 hK24 => ?_)
  refine wp_block ?_
  refine Z4 (fun K25 hK25 => ?_)
  refine Z8 ?_
  refine Z12 (v := .int .i64 ((l : Nat) : Int)) (by rfl) (by rfl) (by rfl) ?_
  simp only [Z7,Z0]
  refine Z11 1 (by rfl) (fun Lk hLk => ?_)
  simp only [Z1,Z2]
  refine Z15 (v := .bool (decide (l = 0))) (by rfl) rfl rfl rfl (fun W => run_eqlN l 0 _ _ W) ?_
  simp only [Z7,Z0]
  refine Z14 (hLk _ (fun w27 Sw27 => ?_))
  clear hLk Lk
  simp only [Z1,Z2]
  replace M := M.sees Sw27
  refine Z13 (v := .bool (decide (l = 0))) (by rfl) (by rfl) (by rfl) ?_
  simp only [Z7,Z0]
  refine Z9 (Z10 ?_)
  refine hK25 _ _ ?_
  cases hc28 : (decide (l = 0))
  ·
   have hl0 : ¬ l = 0 := of_decide_eq_false hc28
   refine Z6 rfl ?_
   refine Z4 (fun K29 hK29 => ?_)
   cases hg30 : (decide (a % 2 = 1))
   ·
    have ho : ¬ a % 2 = 1 := of_decide_eq_false hg30
    refine Z8 ?_
    refine Z12 (v := .int .i64 ((a : Nat) : Int)) (by rfl) (by rfl) (by rfl) ?_
    simp only [Z7,Z0]
    refine Z11 7 (by rfl) (fun Lk hLk => ?_)
    simp only [Z1,Z2]
    refine Z15 (v := .int .i64 ((a % 2 : Nat) : Int)) (by rfl) rfl rfl rfl (fun W => run_and ((and_i64 (m := a) (n := 1) (by omega) (by decide)).trans (by rw [and_oneN])) W) ?_
    simp only [Z7,Z0]
    refine Z15 (v := .bool false) (by rfl) rfl rfl rfl (fun W => (run_eqlN (a % 2) 1 _ _ W).trans (by rw [hg30])) ?_
    simp only [Z7,Z0]
    refine Z16 (v := .bool false) (by rfl) rfl rfl ?_
    simp only [Z7,Z0]
    refine Z16 (v := .int .i64 ((a : Nat) : Int)) (by rfl) rfl rfl ?_
    simp only [Z7,Z0]
    refine Z16 (v := .int .i64 ((l : Nat) : Int)) (by rfl) rfl rfl ?_
    simp only [Z7,Z0]
    refine Z15 (v := .bool (decide (a = l))) (by rfl) rfl rfl rfl (fun W => run_eqlN a l _ _ W) ?_
    simp only [Z7,Z0]
    refine wpV_pick (v := .bool (decide (a = l))) (by rfl) rfl rfl rfl ?_
    simp only [Z7,Z0]
    refine Z14 (hLk _ (fun w32 Sw32 => ?_))
    clear hLk Lk
    simp only [Z1,Z2]
    replace M := M.sees Sw32
    refine Z13 (v := .bool (decide (a = l))) (by rfl) (by rfl) (by rfl) ?_
    simp only [Z7,Z0]
    refine Z9 (Z10 ?_)
    refine hK29 _ _ ?_
    cases hc33 : (decide (a = l))
    ·
     have hal : ¬ a = l := of_decide_eq_false hc33
     have hno : ¬ (a % 2 = 1 ∨ a = l) := fun q9 => q9.elim ho hal
     refine Z6 rfl ?_
     refine Z8 ?_
     refine Z12 (v := .func (.func 102) #[] #[.pointer (some ⟨g, 0, none⟩), .pointer (some ⟨h, 0, none⟩)]) (by rfl) (by rfl) (by rfl) ?_
     simp only [Z7,Z0]
     refine Z12 (v := .string (bs (ps.getD k []))) (by rfl) (by rfl) (by rfl) ?_
     simp only [Z7,Z0]
     refine wpL_callMc (f := 102) (args := #[.bool false, .string (bs (ps.getD k []))]) (caps := #[.pointer (some ⟨g, 0, none⟩), .pointer (some ⟨h, 0, none⟩)]) (all := #[.bool false, .string (bs (ps.getD k [])), .pointer (some ⟨g, 0, none⟩), .pointer (some ⟨h, 0, none⟩)]) (R := fun v9 W9 => v9 = .tuple #[] ∧ Mem [g, h] w32 W9 [⟨g, 1, [(0, [.string (bs (nodeS sb (ps.getD k [])))])]⟩, ⟨h, 1, [(0, [.string (bs sa)])]⟩]) (by simp) (by rfl) (by rfl) (by rfl) rfl Tryd.func102 (by kernel_rfl) (by kernel_rfl) (fol1_f (x := ps.getD k []) (sa := sa) (sb := sb) (h32k hk) hsa hsb hg0 hh0 (M.oldL L0) (M.oldG R0_0 L0 (by simp; omega)) (M.some (l' := [⟨g, 1, [(0, [.string (bs sb)])]⟩, ⟨h, 1, [(0, [.string (bs sa)])]⟩]) [0, 1] (by decide) rfl)) (fun v9 w35 h9 => ?_)
     obtain ⟨rfl, M9⟩ := h9
     replace M := (show Mem [g, h] w w32 ([⟨g, 1, [(0, [.string (bs sb)])]⟩, ⟨h, 1, [(0, [.string (bs sa)])]⟩] ++ []) from M.pick [0, 1] (by decide) rfl).frame M9
     simp only [List.cons_append, List.nil_append] at M
     simp only [Z7,Z0]
     refine Z9 (Z10 ?_)
     refine hK24 _ _ ?_
     refine Z8 ?_
     refine Z12 (v := .int .i64 ((a : Nat) : Int)) (by rfl) (by rfl) (by rfl) ?_
     simp only [Z7,Z0]
     refine Z11 3 (by rfl) (fun Lk hLk => ?_)
     simp only [Z1,Z2]
     refine Z15 (v := .int .i64 ((a / 2 ^ 1 : Nat) : Int)) (by rfl) rfl rfl rfl (fun W => run_shr (n := 1) (by decide) rfl W) ?_
     simp only [Z7,Z0]
     refine Z16 (v := .int .i64 ((l : Nat) : Int)) (by rfl) rfl rfl ?_
     simp only [Z7,Z0]
     refine Z15 (v := .int .i64 ((l / 2 ^ 1 : Nat) : Int)) (by rfl) rfl rfl rfl (fun W => run_shr (n := 1) (by decide) rfl W) ?_
     simp only [Z7,Z0]
     refine Z14 (hLk _ (fun w37 Sw37 => ?_))
     clear hLk Lk
     simp only [Z1,Z2]
     replace M := M.sees Sw37
     refine Z13 (v := .int .i64 ((a / 2 ^ 1 : Nat) : Int)) (by rfl) (by rfl) (by rfl) ?_
     simp only [Z7,Z0]
     refine Z13 (v := .int .i64 ((l / 2 ^ 1 : Nat) : Int)) (by rfl) (by rfl) (by rfl) ?_
     simp only [Z7,Z0]
     refine Z9 (Z10 ?_)
     refine hK20 _ _ ?_
     refine Z8 ?_
     refine Z11 1 (by rfl) (fun Lk hLk => ?_)
     simp only [Z1,Z2]
     refine Z15 (v := .int .i64 ((k + 1 : Nat) : Int)) (by rfl) rfl rfl rfl (fun W => run_add (by simp only [IntKind.wrap_i64]; omega) W) ?_
     simp only [Z7,Z0]
     refine Z14 (hLk _ (fun w39 Sw39 => ?_))
     clear hLk Lk
     simp only [Z1,Z2]
     replace M := M.sees Sw39
     refine Z12 (v := .int .i64 ((k + 1 : Nat) : Int)) (by rfl) (by rfl) (by rfl) ?_
     simp only [Z7,Z0]
     refine Z9 (Z10 ?_)
     refine Exists.intro _ ⟨?_, (k + 1), (a / 2 ^ 1), (l / 2 ^ 1), sa, (nodeS sb (ps.getD k [])), (fun q9 => (#[Z3, Z3, Z3, Z3, Z3, Z3, Z3, Z3, Z3, Z3, Z3, .string (bs (ps.getD k [])), Z3, Z3, Z3, .bool true, .pointer (ap.map (·.add k)), .string (bs (ps.getD k [])), .func (.func 102) #[] #[.pointer (some ⟨g, 0, none⟩), .pointer (some ⟨h, 0, none⟩)], .string (bs (ps.getD k [])), .tuple #[], .bool false, .int .i64 ((l : Nat) : Int), .bool false, .bool false, .int .i64 ((a : Nat) : Int), .int .i64 ((a % 2 : Nat) : Int), .bool false, .bool false, .int .i64 ((a : Nat) : Int), .int .i64 ((l : Nat) : Int), .bool false, .bool false, u10 33, u10 34, u10 35, u10 36, u10 37, u10 38, u10 39, u10 40, u10 41, u10 42, u10 43, u10 44, u10 45, u10 46, .int .i64 ((a : Nat) : Int), .int .i64 ((a / 2 ^ 1 : Nat) : Int), .int .i64 ((l : Nat) : Int), .int .i64 ((l / 2 ^ 1 : Nat) : Int), .int .i64 ((k + 1 : Nat) : Int)] : Array Value).getD q9 Z3), rfl, rfl, M, (by omega), (by omega), (by omega), hsa, (nodeS_len _ _), (walkG_no hk hl0 hno hW)⟩
     omega
    ·
     have hal : a = l := of_decide_eq_true hc33
     have hys : a % 2 = 1 ∨ a = l := .inr hal
     refine Z5 rfl ?_
     refine Z4 (fun K40 hK40 => ?_)
     refine Z8 ?_
     refine Z12 (v := .func (.func 102) #[] #[.pointer (some ⟨g, 0, none⟩), .pointer (some ⟨h, 0, none⟩)]) (by rfl) (by rfl) (by rfl) ?_
     simp only [Z7,Z0]
     refine Z12 (v := .string (bs (ps.getD k []))) (by rfl) (by rfl) (by rfl) ?_
     simp only [Z7,Z0]
     refine wpL_callMc (f := 102) (args := #[.bool true, .string (bs (ps.getD k []))]) (caps := #[.pointer (some ⟨g, 0, none⟩), .pointer (some ⟨h, 0, none⟩)]) (all := #[.bool true, .string (bs (ps.getD k [])), .pointer (some ⟨g, 0, none⟩), .pointer (some ⟨h, 0, none⟩)]) (R := fun v9 W9 => v9 = .tuple #[] ∧ Mem [g, h] w32 W9 [⟨g, 1, [(0, [.string (bs (nodeS (ps.getD k []) sb))])]⟩, ⟨h, 1, [(0, [.string (bs (nodeS (ps.getD k []) sa))])]⟩]) (by simp) (by rfl) (by rfl) (by rfl) rfl Tryd.func102 (by kernel_rfl) (by kernel_rfl) (fol1_t (x := ps.getD k []) (sa := sa) (sb := sb) (h32k hk) hsa hsb hg0 hh0 (M.oldL L0) (M.oldG R0_0 L0 (by simp; omega)) (M.some (l' := [⟨g, 1, [(0, [.string (bs sb)])]⟩, ⟨h, 1, [(0, [.string (bs sa)])]⟩]) [0, 1] (by decide) rfl)) (fun v9 w42 h9 => ?_)
     obtain ⟨rfl, M9⟩ := h9
     replace M := (show Mem [g, h] w w32 ([⟨g, 1, [(0, [.string (bs sb)])]⟩, ⟨h, 1, [(0, [.string (bs sa)])]⟩] ++ []) from M.pick [0, 1] (by decide) rfl).frame M9
     simp only [List.cons_append, List.nil_append] at M
     simp only [Z7,Z0]
     refine Z9 (Z10 ?_)
     refine hK40 _ _ ?_
     refine wp_block ?_
     refine wp_loop_ghost (fun n9 a9 W9 => ∃ (a2 : Nat) (l2 : Nat) (u43 : Nat → Value), n9 = 2 * a2 ∧ a9 = { tmps := #[.int .i64 ((a2 : Nat) : Int), .int .i64 ((l2 : Nat) : Int), .slice ap ps.length cp, .func (.func 102) #[] #[.pointer (some ⟨g, 0, none⟩), .pointer (some ⟨h, 0, none⟩)], Z3, Z3, Z3, Z3, .bool false, .bool true, Z3, .string (bs (ps.getD k [])), .slice ap ps.length cp, .int .i64 ((ps.length : Nat) : Int), .int .i64 ((k : Nat) : Int), .bool true, .pointer (ap.map (·.add k)), .string (bs (ps.getD k [])), u10 18, u10 19, u10 20, .bool false, .int .i64 ((l : Nat) : Int), .bool false, .bool true, .int .i64 ((a : Nat) : Int), .int .i64 ((a % 2 : Nat) : Int), .bool false, .bool false, .int .i64 ((a : Nat) : Int), .int .i64 ((l : Nat) : Int), .bool true, .bool true, .func (.func 102) #[] #[.pointer (some ⟨g, 0, none⟩), .pointer (some ⟨h, 0, none⟩)], .string (bs (ps.getD k [])), .tuple #[], u43 36, u43 37, u43 38, u43 39, u43 40, u43 41, u43 42, u43 43, u43 44, u43 45, u43 46, u10 47, u10 48, u10 49, u10 50, u10 51, Z3, Z3, Z3, Z3, Z3], defers := [] } ∧ Mem [g, h] w W9 [⟨g, 1, [(0, [.string (bs (nodeS (ps.getD k []) sb))])]⟩, ⟨h, 1, [(0, [.string (bs (nodeS (ps.getD k []) sa))])]⟩] ∧ (a2 ≤ a) ∧ (l2 ≤ l) ∧ (skipZ a2 l2 = skipZ a l)) (2 * (a)) ?_ (fun n9 a9 W9 hI => ?_)
     ·
      exact ⟨a, l, (fun q9 => (#[Z3, Z3, Z3, Z3, Z3, Z3, Z3, Z3, Z3, Z3, Z3, Z3, Z3, Z3, Z3, Z3, Z3, Z3, Z3, Z3, Z3, Z3, Z3, Z3, Z3, Z3, Z3, Z3, Z3, Z3, Z3, Z3, Z3, Z3, Z3, Z3, u10 36, u10 37, u10 38, u10 39, u10 40, u10 41, u10 42, u10 43, u10 44, u10 45, u10 46] : Array Value).getD q9 Z3), rfl, rfl, M, (Nat.le_refl _), (Nat.le_refl _), rfl⟩
     clear M
     obtain ⟨a2, l2, u43, rfl, rfl, M, ha2, hl2, hz⟩ := hI
     obtain ⟨w44, rfl⟩ : ∃ W8, W8 = W9 := ⟨_, rfl⟩
     refine Z4 (fun K45 hK45 => ?_)
     refine Z4 (fun K46 hK46 => ?_)
     cases hg47 : (decide (a2 ≠ 0))
     ·
      have hnz : ¬ a2 ≠ 0 := of_decide_eq_false hg47
      have hzz : skipZ a2 l2 = (a2, l2) := by rw [skipZ, dif_neg (fun q9 => hnz q9.1)]
      refine Z8 ?_
      refine Z12 (v := .int .i64 ((a2 : Nat) : Int)) (by rfl) (by rfl) (by rfl) ?_
      simp only [Z7,Z0]
      refine Z11 6 (by rfl) (fun Lk hLk => ?_)
      simp only [Z1,Z2]
      refine Z15 (v := .bool false) (by rfl) rfl rfl rfl (fun W => (run_neqN a2 0 _ _ W).trans (by rw [hg47])) ?_
      simp only [Z7,Z0]
      refine Z16 (v := .bool false) (by rfl) rfl rfl ?_
      simp only [Z7,Z0]
      refine wpV_skip (by rfl) (by rfl) ?_
      simp only [Z7,Z0]
      refine wpV_skip (by rfl) (by rfl) ?_
      simp only [Z7,Z0]
      refine wpV_skip (by rfl) (by rfl) ?_
      simp only [Z7,Z0]
      refine wpV_pick (v := .bool false) (by rfl) rfl rfl rfl ?_
      simp only [Z7,Z0]
      refine Z14 (hLk _ (fun w49 Sw49 => ?_))
      clear hLk Lk
      simp only [Z1,Z2]
      replace M := M.sees Sw49
      refine Z9 (Z10 ?_)
      refine hK46 _ _ ?_
      refine Z6 rfl ?_
      refine wp_exit ?_
      refine hK24 _ _ ?_
      refine Z8 ?_
      refine Z12 (v := .int .i64 ((a2 : Nat) : Int)) (by rfl) (by rfl) (by rfl) ?_
      simp only [Z7,Z0]
      refine Z11 3 (by rfl) (fun Lk hLk => ?_)
      simp only [Z1,Z2]
      refine Z15 (v := .int .i64 ((a2 / 2 ^ 1 : Nat) : Int)) (by rfl) rfl rfl rfl (fun W => run_shr (n := 1) (by decide) rfl W) ?_
      simp only [Z7,Z0]
      refine Z16 (v := .int .i64 ((l2 : Nat) : Int)) (by rfl) rfl rfl ?_
      simp only [Z7,Z0]
      refine Z15 (v := .int .i64 ((l2 / 2 ^ 1 : Nat) : Int)) (by rfl) rfl rfl rfl (fun W => run_shr (n := 1) (by decide) rfl W) ?_
      simp only [Z7,Z0]
      refine Z14 (hLk _ (fun w51 Sw51 => ?_))
      clear hLk Lk
      simp only [Z1,Z2]
      replace M := M.sees Sw51
      refine Z13 (v := .int .i64 ((a2 / 2 ^ 1 : Nat) : Int)) (by rfl) (by rfl) (by rfl) ?_
      simp only [Z7,Z0]
      refine Z13 (v := .int .i64 ((l2 / 2 ^ 1 : Nat) : Int)) (by rfl) (by rfl) (by rfl) ?_
      simp only [Z7,Z0]
      refine Z9 (Z10 ?_)
      refine hK20 _ _ ?_
      refine Z8 ?_
      refine Z11 1 (by rfl) (fun Lk hLk => ?_)
      simp only [Z1,Z2]
      refine Z15 (v := .int .i64 ((k + 1 : Nat) : Int)) (by rfl) rfl rfl rfl (fun W => run_add (by simp only [IntKind.wrap_i64]; omega) W) ?_
      simp only [Z7,Z0]
      refine Z14 (hLk _ (fun w53 Sw53 => ?_))
      clear hLk Lk
      simp only [Z1,Z2]
      replace M := M.sees Sw53
      refine Z12 (v := .int .i64 ((k + 1 : Nat) : Int)) (by rfl) (by rfl) (by rfl) ?_
      simp only [Z7,Z0]
      refine Z9 (Z10 ?_)
      refine Exists.intro _ ⟨?_, (k + 1), (a2 / 2 ^ 1), (l2 / 2 ^ 1), (nodeS (ps.getD k []) sa), (nodeS (ps.getD k []) sb), (fun q9 => (#[Z3, Z3, Z3, Z3, Z3, Z3, Z3, Z3, Z3, Z3, Z3, .string (bs (ps.getD k [])), Z3, Z3, Z3, .bool true, .pointer (ap.map (·.add k)), .string (bs (ps.getD k [])), u10 18, u10 19, u10 20, .bool false, .int .i64 ((l : Nat) : Int), .bool false, .bool true, .int .i64 ((a : Nat) : Int), .int .i64 ((a % 2 : Nat) : Int), .bool false, .bool false, .int .i64 ((a : Nat) : Int), .int .i64 ((l : Nat) : Int), .bool true, .bool true, .func (.func 102) #[] #[.pointer (some ⟨g, 0, none⟩), .pointer (some ⟨h, 0, none⟩)], .string (bs (ps.getD k [])), .tuple #[], .int .i64 ((a2 : Nat) : Int), .bool false, .bool false, Z3, Z3, Z3, .bool false, u43 43, u43 44, u43 45, u43 46, .int .i64 ((a2 : Nat) : Int), .int .i64 ((a2 / 2 ^ 1 : Nat) : Int), .int .i64 ((l2 : Nat) : Int), .int .i64 ((l2 / 2 ^ 1 : Nat) : Int), .int .i64 ((k + 1 : Nat) : Int)] : Array Value).getD q9 Z3), rfl, rfl, M, (by omega), (by omega), (by omega), (nodeS_len _ _), (nodeS_len _ _), (walkG_yes hk hl0 hys hz hzz hW)⟩
      omega
     ·
      have hnz : a2 ≠ 0 := of_decide_eq_true hg47
      refine Z8 ?_
      refine Z12 (v := .int .i64 ((a2 : Nat) : Int)) (by rfl) (by rfl) (by rfl) ?_
      simp only [Z7,Z0]
      refine Z11 6 (by rfl) (fun Lk hLk => ?_)
      simp only [Z1,Z2]
      refine Z15 (v := .bool true) (by rfl) rfl rfl rfl (fun W => (run_neqN a2 0 _ _ W).trans (by rw [hg47])) ?_
      simp only [Z7,Z0]
      refine Z16 (v := .bool true) (by rfl) rfl rfl ?_
      simp only [Z7,Z0]
      refine Z16 (v := .int .i64 ((a2 : Nat) : Int)) (by rfl) rfl rfl ?_
      simp only [Z7,Z0]
      refine Z15 (v := .int .i64 ((a2 % 2 : Nat) : Int)) (by rfl) rfl rfl rfl (fun W => run_and ((and_i64 (m := a2) (n := 1) (by omega) (by decide)).trans (by rw [and_oneN])) W) ?_
      simp only [Z7,Z0]
      refine Z15 (v := .bool (decide (a2 % 2 = 0))) (by rfl) rfl rfl rfl (fun W => run_eqlN (a2 % 2) 0 _ _ W) ?_
      simp only [Z7,Z0]
      refine wpV_pick (v := .bool (decide (a2 % 2 = 0))) (by rfl) rfl rfl rfl ?_
      simp only [Z7,Z0]
      refine Z14 (hLk _ (fun w55 Sw55 => ?_))
      clear hLk Lk
      simp only [Z1,Z2]
      replace M := M.sees Sw55
      refine Z9 (Z10 ?_)
      refine hK46 _ _ ?_
      cases hc56 : (decide (a2 % 2 = 0))
      ·
       have hev : ¬ a2 % 2 = 0 := of_decide_eq_false hc56
       have hzz : skipZ a2 l2 = (a2, l2) := by rw [skipZ, dif_neg (fun q9 => hev q9.2)]
       refine Z6 rfl ?_
       refine wp_exit ?_
       refine hK24 _ _ ?_
       refine Z8 ?_
       refine Z12 (v := .int .i64 ((a2 : Nat) : Int)) (by rfl) (by rfl) (by rfl) ?_
       simp only [Z7,Z0]
       refine Z11 3 (by rfl) (fun Lk hLk => ?_)
       simp only [Z1,Z2]
       refine Z15 (v := .int .i64 ((a2 / 2 ^ 1 : Nat) : Int)) (by rfl) rfl rfl rfl (fun W => run_shr (n := 1) (by decide) rfl W) ?_
       simp only [Z7,Z0]
       refine Z16 (v := .int .i64 ((l2 : Nat) : Int)) (by rfl) rfl rfl ?_
       simp only [Z7,Z0]
       refine Z15 (v := .int .i64 ((l2 / 2 ^ 1 : Nat) : Int)) (by rfl) rfl rfl rfl (fun W => run_shr (n := 1) (by decide) rfl W) ?_
       simp only [Z7,Z0]
       refine Z14 (hLk _ (fun w58 Sw58 => ?_))
       clear hLk Lk
       simp only [Z1,Z2]
       replace M := M.sees Sw58
       refine Z13 (v := .int .i64 ((a2 / 2 ^ 1 : Nat) : Int)) (by rfl) (by rfl) (by rfl) ?_
       simp only [Z7,Z0]
       refine Z13 (v := .int .i64 ((l2 / 2 ^ 1 : Nat) : Int)) (by rfl) (by rfl) (by rfl) ?_
       simp only [Z7,Z0]
       refine Z9 (Z10 ?_)
       refine hK20 _ _ ?_
       refine Z8 ?_
       refine Z11 1 (by rfl) (fun Lk hLk => ?_)
       simp only [Z1,Z2]
       refine Z15 (v := .int .i64 ((k + 1 : Nat) : Int)) (by rfl) rfl rfl rfl (fun W => run_add (by simp only [IntKind.wrap_i64]; omega) W) ?_
       simp only [Z7,Z0]
       refine Z14 (hLk _ (fun w60 Sw60 => ?_))
       clear hLk Lk
       simp only [Z1,Z2]
       replace M := M.sees Sw60
       refine Z12 (v := .int .i64 ((k + 1 : Nat) : Int)) (by rfl) (by rfl) (by rfl) ?_
       simp only [Z7,Z0]
       refine Z9 (Z10 ?_)
       refine Exists.intro _ ⟨?_, (k + 1), (a2 / 2 ^ 1), (l2 / 2 ^ 1), (nodeS (ps.getD k []) sa), (nodeS (ps.getD k []) sb), (fun q9 => (#[Z3, Z3, Z3, Z3, Z3, Z3, Z3, Z3, Z3, Z3, Z3, .string (bs (ps.getD k [])), Z3, Z3, Z3, .bool true, .pointer (ap.map (·.add k)), .string (bs (ps.getD k [])), u10 18, u10 19, u10 20, .bool false, .int .i64 ((l : Nat) : Int), .bool false, .bool true, .int .i64 ((a : Nat) : Int), .int .i64 ((a % 2 : Nat) : Int), .bool false, .bool false, .int .i64 ((a : Nat) : Int), .int .i64 ((l : Nat) : Int), .bool true, .bool true, .func (.func 102) #[] #[.pointer (some ⟨g, 0, none⟩), .pointer (some ⟨h, 0, none⟩)], .string (bs (ps.getD k [])), .tuple #[], .int .i64 ((a2 : Nat) : Int), .bool true, .bool true, .int .i64 ((a2 : Nat) : Int), .int .i64 ((a2 % 2 : Nat) : Int), .bool false, .bool false, u43 43, u43 44, u43 45, u43 46, .int .i64 ((a2 : Nat) : Int), .int .i64 ((a2 / 2 ^ 1 : Nat) : Int), .int .i64 ((l2 : Nat) : Int), .int .i64 ((l2 / 2 ^ 1 : Nat) : Int), .int .i64 ((k + 1 : Nat) : Int)] : Array Value).getD q9 Z3), rfl, rfl, M, (by omega), (by omega), (by omega), (nodeS_len _ _), (nodeS_len _ _), (walkG_yes hk hl0 hys hz hzz hW)⟩
       omega
      ·
       have hev : a2 % 2 = 0 := of_decide_eq_true hc56
       refine Z5 rfl ?_
       refine wp_skip ?_
       refine hK45 _ _ ?_
       refine wp_block ?_
       refine Z8 ?_
       refine Z12 (v := .int .i64 ((a2 : Nat) : Int)) (by rfl) (by rfl) (by rfl) ?_
       simp only [Z7,Z0]
       refine Z11 3 (by rfl) (fun Lk hLk => ?_)
       simp only [Z1,Z2]
       refine Z15 (v := .int .i64 ((a2 / 2 ^ 1 : Nat) : Int)) (by rfl) rfl rfl rfl (fun W => run_shr (n := 1) (by decide) rfl W) ?_
       simp only [Z7,Z0]
       refine Z16 (v := .int .i64 ((l2 : Nat) : Int)) (by rfl) rfl rfl ?_
       simp only [Z7,Z0]
       refine Z15 (v := .int .i64 ((l2 / 2 ^ 1 : Nat) : Int)) (by rfl) rfl rfl rfl (fun W => run_shr (n := 1) (by decide) rfl W) ?_
       simp only [Z7,Z0]
       refine Z14 (hLk _ (fun w62 Sw62 => ?_))
       clear hLk Lk
       simp only [Z1,Z2]
       replace M := M.sees Sw62
       refine Z13 (v := .int .i64 ((a2 / 2 ^ 1 : Nat) : Int)) (by rfl) (by rfl) (by rfl) ?_
       simp only [Z7,Z0]
       refine Z13 (v := .int .i64 ((l2 / 2 ^ 1 : Nat) : Int)) (by rfl) (by rfl) (by rfl) ?_
       simp only [Z7,Z0]
       refine Z9 (Z10 ?_)
       refine Exists.intro _ ⟨?_, (a2 / 2 ^ 1), (l2 / 2 ^ 1), (fun q9 => (#[Z3, Z3, Z3, Z3, Z3, Z3, Z3, Z3, Z3, Z3, Z3, Z3, Z3, Z3, Z3, Z3, Z3, Z3, Z3, Z3, Z3, Z3, Z3, Z3, Z3, Z3, Z3, Z3, Z3, Z3, Z3, Z3, Z3, Z3, Z3, Z3, .int .i64 ((a2 : Nat) : Int), .bool true, .bool true, .int .i64 ((a2 : Nat) : Int), .int .i64 ((a2 % 2 : Nat) : Int), .bool true, .bool true, .int .i64 ((a2 : Nat) : Int), .int .i64 ((a2 / 2 ^ 1 : Nat) : Int), .int .i64 ((l2 : Nat) : Int), .int .i64 ((l2 / 2 ^ 1 : Nat) : Int)] : Array Value).getD q9 Z3), rfl, rfl, M, (by omega), (by omega), ((skipZ_go hnz hev).symm.trans hz)⟩
       omega
   ·
    have ho : a % 2 = 1 := of_decide_eq_true hg30
    have hys : a % 2 = 1 ∨ a = l := .inl ho
    refine Z8 ?_
    refine Z12 (v := .int .i64 ((a : Nat) : Int)) (by rfl) (by rfl) (by rfl) ?_
    simp only [Z7,Z0]
    refine Z11 7 (by rfl) (fun Lk hLk => ?_)
    simp only [Z1,Z2]
    refine Z15 (v := .int .i64 ((a % 2 : Nat) : Int)) (by rfl) rfl rfl rfl (fun W => run_and ((and_i64 (m := a) (n := 1) (by omega) (by decide)).trans (by rw [and_oneN])) W) ?_
    simp only [Z7,Z0]
    refine Z15 (v := .bool true) (by rfl) rfl rfl rfl (fun W => (run_eqlN (a % 2) 1 _ _ W).trans (by rw [hg30])) ?_
    simp only [Z7,Z0]
    refine Z16 (v := .bool true) (by rfl) rfl rfl ?_
    simp only [Z7,Z0]
    refine wpV_skip (by rfl) (by rfl) ?_
    simp only [Z7,Z0]
    refine wpV_skip (by rfl) (by rfl) ?_
    simp only [Z7,Z0]
    refine wpV_skip (by rfl) (by rfl) ?_
    simp only [Z7,Z0]
    refine wpV_pick (v := .bool true) (by rfl) rfl rfl rfl ?_
    simp only [Z7,Z0]
    refine Z14 (hLk _ (fun w64 Sw64 => ?_))
    clear hLk Lk
    simp only [Z1,Z2]
    replace M := M.sees Sw64
    refine Z13 (v := .bool true) (by rfl) (by rfl) (by rfl) ?_
    simp only [Z7,Z0]
    refine Z9 (Z10 ?_)
    refine hK29 _ _ ?_
    refine Z5 rfl ?_
    refine Z4 (fun K65 hK65 => ?_)
    refine Z8 ?_
    refine Z12 (v := .func (.func 102) #[] #[.pointer (some ⟨g, 0, none⟩), .pointer (some ⟨h, 0, none⟩)]) (by rfl) (by rfl) (by rfl) ?_
    simp only [Z7,Z0]
    refine Z12 (v := .string (bs (ps.getD k []))) (by rfl) (by rfl) (by rfl) ?_
    simp only [Z7,Z0]
    refine wpL_callMc (f := 102) (args := #[.bool true, .string (bs (ps.getD k []))]) (caps := #[.pointer (some ⟨g, 0, none⟩), .pointer (some ⟨h, 0, none⟩)]) (all := #[.bool true, .string (bs (ps.getD k [])), .pointer (some ⟨g, 0, none⟩), .pointer (some ⟨h, 0, none⟩)]) (R := fun v9 W9 => v9 = .tuple #[] ∧ Mem [g, h] w64 W9 [⟨g, 1, [(0, [.string (bs (nodeS (ps.getD k []) sb))])]⟩, ⟨h, 1, [(0, [.string (bs (nodeS (ps.getD k []) sa))])]⟩]) (by simp) (by rfl) (by rfl) (by rfl) rfl Tryd.func102 (by kernel_rfl) (by kernel_rfl) (fol1_t (x := ps.getD k []) (sa := sa) (sb := sb) (h32k hk) hsa hsb hg0 hh0 (M.oldL L0) (M.oldG R0_0 L0 (by simp; omega)) (M.some (l' := [⟨g, 1, [(0, [.string (bs sb)])]⟩, ⟨h, 1, [(0, [.string (bs sa)])]⟩]) [0, 1] (by decide) rfl)) (fun v9 w67 h9 => ?_)
    obtain ⟨rfl, M9⟩ := h9
    replace M := (show Mem [g, h] w w64 ([⟨g, 1, [(0, [.string (bs sb)])]⟩, ⟨h, 1, [(0, [.string (bs sa)])]⟩] ++ []) from M.pick [0, 1] (by decide) rfl).frame M9
    simp only [List.cons_append, List.nil_append] at M
    simp only [Z7,Z0]
    refine Z9 (Z10 ?_)
    refine hK65 _ _ ?_
    refine wp_block ?_
    refine wp_loop_ghost (fun n9 a9 W9 => ∃ (a2 : Nat) (l2 : Nat) (u68 : Nat → Value), n9 = 2 * a2 ∧ a9 = { tmps := #[.int .i64 ((a2 : Nat) : Int), .int .i64 ((l2 : Nat) : Int), .slice ap ps.length cp, .func (.func 102) #[] #[.pointer (some ⟨g, 0, none⟩), .pointer (some ⟨h, 0, none⟩)], Z3, Z3, Z3, Z3, .bool false, .bool true, Z3, .string (bs (ps.getD k [])), .slice ap ps.length cp, .int .i64 ((ps.length : Nat) : Int), .int .i64 ((k : Nat) : Int), .bool true, .pointer (ap.map (·.add k)), .string (bs (ps.getD k [])), u10 18, u10 19, u10 20, .bool false, .int .i64 ((l : Nat) : Int), .bool false, .bool true, .int .i64 ((a : Nat) : Int), .int .i64 ((a % 2 : Nat) : Int), .bool true, .bool true, Z3, Z3, Z3, .bool true, .func (.func 102) #[] #[.pointer (some ⟨g, 0, none⟩), .pointer (some ⟨h, 0, none⟩)], .string (bs (ps.getD k [])), .tuple #[], u68 36, u68 37, u68 38, u68 39, u68 40, u68 41, u68 42, u68 43, u68 44, u68 45, u68 46, u10 47, u10 48, u10 49, u10 50, u10 51, Z3, Z3, Z3, Z3, Z3], defers := [] } ∧ Mem [g, h] w W9 [⟨g, 1, [(0, [.string (bs (nodeS (ps.getD k []) sb))])]⟩, ⟨h, 1, [(0, [.string (bs (nodeS (ps.getD k []) sa))])]⟩] ∧ (a2 ≤ a) ∧ (l2 ≤ l) ∧ (skipZ a2 l2 = skipZ a l)) (2 * (a)) ?_ (fun n9 a9 W9 hI => ?_)
    ·
     exact ⟨a, l, (fun q9 => (#[Z3, Z3, Z3, Z3, Z3, Z3, Z3, Z3, Z3, Z3, Z3, Z3, Z3, Z3, Z3, Z3, Z3, Z3, Z3, Z3, Z3, Z3, Z3, Z3, Z3, Z3, Z3, Z3, Z3, Z3, Z3, Z3, Z3, Z3, Z3, Z3, u10 36, u10 37, u10 38, u10 39, u10 40, u10 41, u10 42, u10 43, u10 44, u10 45, u10 46] : Array Value).getD q9 Z3), rfl, rfl, M, (Nat.le_refl _), (Nat.le_refl _), rfl⟩
    clear M
    obtain ⟨a2, l2, u68, rfl, rfl, M, ha2, hl2, hz⟩ := hI
    obtain ⟨w69, rfl⟩ : ∃ W8, W8 = W9 := ⟨_, rfl⟩
    refine Z4 (fun K70 hK70 => ?_)
    refine Z4 (fun K71 hK71 => ?_)
    cases hg72 : (decide (a2 ≠ 0))
    ·
     have hnz : ¬ a2 ≠ 0 := of_decide_eq_false hg72
     have hzz : skipZ a2 l2 = (a2, l2) := by rw [skipZ, dif_neg (fun q9 => hnz q9.1)]
     refine Z8 ?_
     refine Z12 (v := .int .i64 ((a2 : Nat) : Int)) (by rfl) (by rfl) (by rfl) ?_
     simp only [Z7,Z0]
     refine Z11 6 (by rfl) (fun Lk hLk => ?_)
     simp only [Z1,Z2]
     refine Z15 (v := .bool false) (by rfl) rfl rfl rfl (fun W => (run_neqN a2 0 _ _ W).trans (by rw [hg72])) ?_
     simp only [Z7,Z0]
     refine Z16 (v := .bool false) (by rfl) rfl rfl ?_
     simp only [Z7,Z0]
     refine wpV_skip (by rfl) (by rfl) ?_
     simp only [Z7,Z0]
     refine wpV_skip (by rfl) (by rfl) ?_
     simp only [Z7,Z0]
     refine wpV_skip (by rfl) (by rfl) ?_
     simp only [Z7,Z0]
     refine wpV_pick (v := .bool false) (by rfl) rfl rfl rfl ?_
     simp only [Z7,Z0]
     refine Z14 (hLk _ (fun w74 Sw74 => ?_))
     clear hLk Lk
     simp only [Z1,Z2]
     replace M := M.sees Sw74
     refine Z9 (Z10 ?_)
     refine hK71 _ _ ?_
     refine Z6 rfl ?_
     refine wp_exit ?_
     refine hK24 _ _ ?_
     refine Z8 ?_
     refine Z12 (v := .int .i64 ((a2 : Nat) : Int)) (by rfl) (by rfl) (by rfl) ?_
     simp only [Z7,Z0]
     refine Z11 3 (by rfl) (fun Lk hLk => ?_)
     simp only [Z1,Z2]
     refine Z15 (v := .int .i64 ((a2 / 2 ^ 1 : Nat) : Int)) (by rfl) rfl rfl rfl (fun W => run_shr (n := 1) (by decide) rfl W) ?_
     simp only [Z7,Z0]
     refine Z16 (v := .int .i64 ((l2 : Nat) : Int)) (by rfl) rfl rfl ?_
     simp only [Z7,Z0]
     refine Z15 (v := .int .i64 ((l2 / 2 ^ 1 : Nat) : Int)) (by rfl) rfl rfl rfl (fun W => run_shr (n := 1) (by decide) rfl W) ?_
     simp only [Z7,Z0]
     refine Z14 (hLk _ (fun w76 Sw76 => ?_))
     clear hLk Lk
     simp only [Z1,Z2]
     replace M := M.sees Sw76
     refine Z13 (v := .int .i64 ((a2 / 2 ^ 1 : Nat) : Int)) (by rfl) (by rfl) (by rfl) ?_
     simp only [Z7,Z0]
     refine Z13 (v := .int .i64 ((l2 / 2 ^ 1 : Nat) : Int)) (by rfl) (by rfl) (by rfl) ?_
     simp only [Z7,Z0]
     refine Z9 (Z10 ?_)
     refine hK20 _ _ ?_
     refine Z8 ?_
     refine Z11 1 (by rfl) (fun Lk hLk => ?_)
     simp only [Z1,Z2]
     refine Z15 (v := .int .i64 ((k + 1 : Nat) : Int)) (by rfl) rfl rfl rfl (fun W => run_add (by simp only [IntKind.wrap_i64]; omega) W) ?_
     simp only [Z7,Z0]
     refine Z14 (hLk _ (fun w78 Sw78 => ?_))
     clear hLk Lk
     simp only [Z1,Z2]
     replace M := M.sees Sw78
     refine Z12 (v := .int .i64 ((k + 1 : Nat) : Int)) (by rfl) (by rfl) (by rfl) ?_
     simp only [Z7,Z0]
     refine Z9 (Z10 ?_)
     refine Exists.intro _ ⟨?_, (k + 1), (a2 / 2 ^ 1), (l2 / 2 ^ 1), (nodeS (ps.getD k []) sa), (nodeS (ps.getD k []) sb), (fun q9 => (#[Z3, Z3, Z3, Z3, Z3, Z3, Z3, Z3, Z3, Z3, Z3, .string (bs (ps.getD k [])), Z3, Z3, Z3, .bool true, .pointer (ap.map (·.add k)), .string (bs (ps.getD k [])), u10 18, u10 19, u10 20, .bool false, .int .i64 ((l : Nat) : Int), .bool false, .bool true, .int .i64 ((a : Nat) : Int), .int .i64 ((a % 2 : Nat) : Int), .bool true, .bool true, Z3, Z3, Z3, .bool true, .func (.func 102) #[] #[.pointer (some ⟨g, 0, none⟩), .pointer (some ⟨h, 0, none⟩)], .string (bs (ps.getD k [])), .tuple #[], .int .i64 ((a2 : Nat) : Int), .bool false, .bool false, Z3, Z3, Z3, .bool false, u68 43, u68 44, u68 45, u68 46, .int .i64 ((a2 : Nat) : Int), .int .i64 ((a2 / 2 ^ 1 : Nat) : Int), .int .i64 ((l2 : Nat) : Int), .int .i64 ((l2 / 2 ^ 1 : Nat) : Int), .int .i64 ((k + 1 : Nat) : Int)] : Array Value).getD q9 Z3), rfl, rfl, M, (by omega), (by omega), (by omega), (nodeS_len _ _), (nodeS_len _ _), (walkG_yes hk hl0 hys hz hzz hW)⟩
     omega
    ·
     have hnz : a2 ≠ 0 := of_decide_eq_true hg72
     refine Z8 ?_
     refine Z12 (v := .int .i64 ((a2 : Nat) : Int)) (by rfl) (by rfl) (by rfl) ?_
     simp only [Z7,Z0]
     refine Z11 6 (by rfl) (fun Lk hLk => ?_)
     simp only [Z1,Z2]
     refine Z15 (v := .bool true) (by rfl) rfl rfl rfl (fun W => (run_neqN a2 0 _ _ W).trans (by rw [hg72])) ?_
     simp only [Z7,Z0]
     refine Z16 (v := .bool true) (by rfl) rfl rfl ?_
     simp only [Z7,Z0]
     refine Z16 (v := .int .i64 ((a2 : Nat) : Int)) (by rfl) rfl rfl ?_
     simp only [Z7,Z0]
     refine Z15 (v := .int .i64 ((a2 % 2 : Nat) : Int)) (by rfl) rfl rfl rfl (fun W => run_and ((and_i64 (m := a2) (n := 1) (by omega) (by decide)).trans (by rw [and_oneN])) W) ?_
     simp only [Z7,Z0]
     refine Z15 (v := .bool (decide (a2 % 2 = 0))) (by rfl) rfl rfl rfl (fun W => run_eqlN (a2 % 2) 0 _ _ W) ?_
     simp only [Z7,Z0]
     refine wpV_pick (v := .bool (decide (a2 % 2 = 0))) (by rfl) rfl rfl rfl ?_
     simp only [Z7,Z0]
     refine Z14 (hLk _ (fun w80 Sw80 => ?_))
     clear hLk Lk
     simp only [Z1,Z2]
     replace M := M.sees Sw80
     refine Z9 (Z10 ?_)
     refine hK71 _ _ ?_
     cases hc81 : (decide (a2 % 2 = 0))
     ·
      have hev : ¬ a2 % 2 = 0 := of_decide_eq_false hc81
      have hzz : skipZ a2 l2 = (a2, l2) := by rw [skipZ, dif_neg (fun q9 => hev q9.2)]
      refine Z6 rfl ?_
      refine wp_exit ?_
      refine hK24 _ _ ?_
      refine Z8 ?_
      refine Z12 (v := .int .i64 ((a2 : Nat) : Int)) (by rfl) (by rfl) (by rfl) ?_
      simp only [Z7,Z0]
      refine Z11 3 (by rfl) (fun Lk hLk => ?_)
      simp only [Z1,Z2]
      refine Z15 (v := .int .i64 ((a2 / 2 ^ 1 : Nat) : Int)) (by rfl) rfl rfl rfl (fun W => run_shr (n := 1) (by decide) rfl W) ?_
      simp only [Z7,Z0]
      refine Z16 (v := .int .i64 ((l2 : Nat) : Int)) (by rfl) rfl rfl ?_
      simp only [Z7,Z0]
      refine Z15 (v := .int .i64 ((l2 / 2 ^ 1 : Nat) : Int)) (by rfl) rfl rfl rfl (fun W => run_shr (n := 1) (by decide) rfl W) ?_
      simp only [Z7,Z0]
      refine Z14 (hLk _ (fun w83 Sw83 => ?_))
      clear hLk Lk
      simp only [Z1,Z2]
      replace M := M.sees Sw83
      refine Z13 (v := .int .i64 ((a2 / 2 ^ 1 : Nat) : Int)) (by rfl) (by rfl) (by rfl) ?_
      simp only [Z7,Z0]
      refine Z13 (v := .int .i64 ((l2 / 2 ^ 1 : Nat) : Int)) (by rfl) (by rfl) (by rfl) ?_
      simp only [Z7,Z0]
      refine Z9 (Z10 ?_)
      refine hK20 _ _ ?_
      refine Z8 ?_
      refine Z11 1 (by rfl) (fun Lk hLk => ?_)
      simp only [Z1,Z2]
      refine Z15 (v := .int .i64 ((k + 1 : Nat) : Int)) (by rfl) rfl rfl rfl (fun W => run_add (by simp only [IntKind.wrap_i64]; omega) W) ?_
      simp only [Z7,Z0]
      refine Z14 (hLk _ (fun w85 Sw85 => ?_))
      clear hLk Lk
      simp only [Z1,Z2]
      replace M := M.sees Sw85
      refine Z12 (v := .int .i64 ((k + 1 : Nat) : Int)) (by rfl) (by rfl) (by rfl) ?_
      simp only [Z7,Z0]
      refine Z9 (Z10 ?_)
      refine Exists.intro _ ⟨?_, (k + 1), (a2 / 2 ^ 1), (l2 / 2 ^ 1), (nodeS (ps.getD k []) sa), (nodeS (ps.getD k []) sb), (fun q9 => (#[Z3, Z3, Z3, Z3, Z3, Z3, Z3, Z3, Z3, Z3, Z3, .string (bs (ps.getD k [])), Z3, Z3, Z3, .bool true, .pointer (ap.map (·.add k)), .string (bs (ps.getD k [])), u10 18, u10 19, u10 20, .bool false, .int .i64 ((l : Nat) : Int), .bool false, .bool true, .int .i64 ((a : Nat) : Int), .int .i64 ((a % 2 : Nat) : Int), .bool true, .bool true, Z3, Z3, Z3, .bool true, .func (.func 102) #[] #[.pointer (some ⟨g, 0, none⟩), .pointer (some ⟨h, 0, none⟩)], .string (bs (ps.getD k [])), .tuple #[], .int .i64 ((a2 : Nat) : Int), .bool true, .bool true, .int .i64 ((a2 : Nat) : Int), .int .i64 ((a2 % 2 : Nat) : Int), .bool false, .bool false, u68 43, u68 44, u68 45, u68 46, .int .i64 ((a2 : Nat) : Int), .int .i64 ((a2 / 2 ^ 1 : Nat) : Int), .int .i64 ((l2 : Nat) : Int), .int .i64 ((l2 / 2 ^ 1 : Nat) : Int), .int .i64 ((k + 1 : Nat) : Int)] : Array Value).getD q9 Z3), rfl, rfl, M, (by omega), (by omega), (by omega), (nodeS_len _ _), (nodeS_len _ _), (walkG_yes hk hl0 hys hz hzz hW)⟩
      omega
     ·
      have hev : a2 % 2 = 0 := of_decide_eq_true hc81
      refine Z5 rfl ?_
      refine wp_skip ?_
      refine hK70 _ _ ?_
      refine wp_block ?_
      refine Z8 ?_
      refine Z12 (v := .int .i64 ((a2 : Nat) : Int)) (by rfl) (by rfl) (by rfl) ?_
      simp only [Z7,Z0]
      refine Z11 3 (by rfl) (fun Lk hLk => ?_)
      simp only [Z1,Z2]
      refine Z15 (v := .int .i64 ((a2 / 2 ^ 1 : Nat) : Int)) (by rfl) rfl rfl rfl (fun W => run_shr (n := 1) (by decide) rfl W) ?_
      simp only [Z7,Z0]
      refine Z16 (v := .int .i64 ((l2 : Nat) : Int)) (by rfl) rfl rfl ?_
      simp only [Z7,Z0]
      refine Z15 (v := .int .i64 ((l2 / 2 ^ 1 : Nat) : Int)) (by rfl) rfl rfl rfl (fun W => run_shr (n := 1) (by decide) rfl W) ?_
      simp only [Z7,Z0]
      refine Z14 (hLk _ (fun w87 Sw87 => ?_))
      clear hLk Lk
      simp only [Z1,Z2]
      replace M := M.sees Sw87
      refine Z13 (v := .int .i64 ((a2 / 2 ^ 1 : Nat) : Int)) (by rfl) (by rfl) (by rfl) ?_
      simp only [Z7,Z0]
      refine Z13 (v := .int .i64 ((l2 / 2 ^ 1 : Nat) : Int)) (by rfl) (by rfl) (by rfl) ?_
      simp only [Z7,Z0]
      refine Z9 (Z10 ?_)
      refine Exists.intro _ ⟨?_, (a2 / 2 ^ 1), (l2 / 2 ^ 1), (fun q9 => (#[Z3, Z3, Z3, Z3, Z3, Z3, Z3, Z3, Z3, Z3, Z3, Z3, Z3, Z3, Z3, Z3, Z3, Z3, Z3, Z3, Z3, Z3, Z3, Z3, Z3, Z3, Z3, Z3, Z3, Z3, Z3, Z3, Z3, Z3, Z3, Z3, .int .i64 ((a2 : Nat) : Int), .bool true, .bool true, .int .i64 ((a2 : Nat) : Int), .int .i64 ((a2 % 2 : Nat) : Int), .bool true, .bool true, .int .i64 ((a2 : Nat) : Int), .int .i64 ((a2 / 2 ^ 1 : Nat) : Int), .int .i64 ((l2 : Nat) : Int), .int .i64 ((l2 / 2 ^ 1 : Nat) : Int)] : Array Value).getD q9 Z3), rfl, rfl, M, (by omega), (by omega), ((skipZ_go hnz hev).symm.trans hz)⟩
      omega
  ·
   have hl0 : l = 0 := of_decide_eq_true hc28
   refine Z5 rfl ?_
   refine Z4 (fun K88 hK88 => ?_)
   refine Z8 ?_
   refine Z13 (v := .bool false) (by rfl) (by rfl) (by rfl) ?_
   simp only [Z7,Z0]
   refine Z9 (Z10 ?_)
   refine hK88 _ _ ?_
   refine wp_exit ?_
   refine hK6 _ _ ?_
   refine Z4 (fun K90 hK90 => ?_)
   refine Z8 ?_
   refine Z12 (v := .bool false) (by rfl) (by rfl) (by rfl) ?_
   simp only [Z7,Z0]
   refine Z12 (v := .bool false) (by rfl) (by rfl) (by rfl) ?_
   simp only [Z7,Z0]
   refine Z11 3 (by rfl) (fun Lk hLk => ?_)
   simp only [Z1,Z2]
   refine wpV_skip (by rfl) (by rfl) ?_
   simp only [Z7,Z0]
   refine wpV_skip (by rfl) (by rfl) ?_
   simp only [Z7,Z0]
   refine wpV_pick (v := .bool false) (by rfl) rfl rfl rfl ?_
   simp only [Z7,Z0]
   refine Z14 (hLk _ (fun w92 Sw92 => ?_))
   clear hLk Lk
   simp only [Z1,Z2]
   replace M := M.sees Sw92
   refine Z13 (v := .bool false) (by rfl) (by rfl) (by rfl) ?_
   simp only [Z7,Z0]
   refine Z9 (Z10 ?_)
   refine hK90 _ _ ?_
   refine wp_ret ?_
   repeat (first | with_reducible refine then_ret ?_ | with_reducible refine inblock_ret ?_ | with_reducible refine nogoto_ret ?_)
   refine bodyPost_ret (v := .bool false) (res1 rfl (.tmp (by rfl))) rfl ?_
   exact ⟨_, rfl, by rw [hW, walkG_stop hk hl0], by rw [hW, walkG_stop hk hl0]; exact M⟩
end Go.Proofs.Yb

