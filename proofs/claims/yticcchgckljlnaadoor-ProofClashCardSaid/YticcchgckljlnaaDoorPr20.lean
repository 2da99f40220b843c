import Derived.WalkKit
import Derived.WalkSpells
import Derived.Laws.Pointers
import Derived.RowKit3
import Derived.Below
import Derived.Outline
import Derived.LoopN
import Derived.Lib.Hide
import Derived.Handy
import Derived.Laws.Bits64b
import Derived.Test.YticcchgckljlnaaDoorPr12
import Derived.Test.YticcchgckljlnaaDoorPrC
set_option linter.unusedSimpArgs false
set_option linter.unusedVariables false
namespace Go.Proofs.Yb
open Go Go.RowKit Go.Proofs.Num
attribute [local irreducible] wpV wpN wpList
theorem scells_more9 {l : List (List UInt8)} {r : List UInt8} : scells l ++ [.string (bs r)] = scells (l ++ [r]) := by
 simp only [scells, List.map_append, List.map_cons, List.map_nil]
theorem mem_ne0G {G : List Nat} {w0 w : World} {l : List Bk} {b : Bk} (h : Mem G w0 w l) (k : Nat) (hk : l[k]? = some b) (L0 : 0 < w0.heap.size) (hG : 0 ∉ G) : b.g ≠ 0 := fun e => by
 rcases (h.ok b (mem_of hk)).own with e9 | e9
 ·
  omega
 ·
  rw [e] at e9; exact hG e9
set_option maxHeartbeats 1000000 in
theorem tx1_nt {g h : Nat} {x s0 : List UInt8} {w : World} (hx : x.length = 32) (hs : s0.length = 32) (hg0 : g ≠ 0) (hh0 : h ≠ 0) (L0 : 0 < w.heap.size) (R0_0 : w.rangeAt 0 0 kcells) (hM : Mem [g, h] w w [⟨g, 1, [(0, [.string (bs s0)])]⟩, ⟨h, 1, [(0, [.slice none 0 0])]⟩]) :
  Calls Tryd.prog 100 #[.bool true, .string (bs x), .pointer (some ⟨g, 0, none⟩), .pointer (some ⟨h, 0, none⟩)] w fun e w' => ∃ v, e = .returned v ∧ ∃ r9 c9, v = .tuple #[] ∧ 1 ≤ c9 ∧ Mem [g, h] w w' [⟨g, 1, [(0, [.string (bs (nodeS x s0))])]⟩, ⟨h, 1, [(0, [.slice (some ⟨r9, 0, none⟩) 1 c9])]⟩, ⟨r9, c9, [(0, scells ([[1] ++ x ++ s0]))]⟩] := by
 go_enter Tryd.func100, Tryd.ntmps100
 have M := hM
 refine wp_seq_k (fun K1 hK1 => ?_)
 refine wp_region_seq ?_
 refine wpL_chunk 4 (by rfl) (fun Lk hLk => ?_)
 simp only [List.take, List.drop]
 refine wpV_load1 (v := .string (bs s0)) (by rfl) rfl rfl (range_one (M.r 0 0 rfl rfl)) (M.lt 0 rfl) Tryd.underlying9 rfl ?_
 simp only [putT, List.set]
 refine wpV_binS (v := .string (bs (([1]) ++ s0))) (by rfl) rfl rfl rfl (run_add_bs _ _ _ (by simp only [List.length_append, List.length_singleton, List.length_cons, List.length_nil]; omega)) ?_
 simp only [putT, List.set]
 refine wpV_move (v := .string (bs x)) (by rfl) rfl rfl ?_
 simp only [putT, List.set]
 refine wpV_binS (v := .string (bs ((([1]) ++ s0) ++ x))) (by rfl) rfl rfl rfl (run_add_bs _ _ _ (by simp only [List.length_append, List.length_singleton, List.length_cons, List.length_nil]; omega)) ?_
 simp only [putT, List.set]
 refine wpV_nil (hLk _ (fun w3 Sw3 => ?_))
 clear hLk Lk
 simp only [List.take, List.drop]
 replace M := M.sees Sw3
 refine wpL_assign (v := .string (bs ((([1]) ++ s0) ++ x))) (by rfl) (by rfl) (by rfl) ?_
 simp only [putT, List.set]
 refine wpL_nil (no_panic ?_)
 refine hK1 _ _ ?_
 refine wp_seq_k (fun K4 hK4 => ?_)
 refine wp_seq_k (fun K5 hK5 => ?_)
 refine wp_region_seq ?_
 refine wpL_move (v := .bool true) (by rfl) (by rfl) (by rfl) ?_
 simp only [putT, List.set]
 refine wpL_nil (no_panic ?_)
 refine hK5 _ _ ?_
 refine wp_cond_true rfl ?_
 refine wp_region_seq ?_
 refine wpL_move (v := .string (bs x)) (by rfl) (by rfl) (by rfl) ?_
 simp only [putT, List.set]
 refine wpL_chunk 3 (by rfl) (fun Lk hLk => ?_)
 simp only [List.take, List.drop]
 refine wpV_binS (v := .string (bs (([1]) ++ x))) (by rfl) rfl rfl rfl (run_add_bs _ _ _ (by simp only [List.length_append, List.length_singleton, List.length_cons, List.length_nil]; omega)) ?_
 simp only [putT, List.set]
 refine wpV_load1 (v := .string (bs s0)) (by rfl) rfl rfl (range_one (M.r 0 0 rfl rfl)) (M.lt 0 rfl) Tryd.underlying9 rfl ?_
 simp only [putT, List.set]
 refine wpV_binS (v := .string (bs ((([1]) ++ x) ++ s0))) (by rfl) rfl rfl rfl (run_add_bs _ _ _ (by simp only [List.length_append, List.length_singleton, List.length_cons, List.length_nil]; omega)) ?_
 simp only [putT, List.set]
 refine wpV_nil (hLk _ (fun w8 Sw8 => ?_))
 clear hLk Lk
 simp only [List.take, List.drop]
 replace M := M.sees Sw8
 refine wpL_assign (v := .string (bs ((([1]) ++ x) ++ s0))) (by rfl) (by rfl) (by rfl) ?_
 simp only [putT, List.set]
 refine wpL_nil (no_panic ?_)
 refine hK4 _ _ ?_
 refine wp_region_treeN (by kernel_rfl) (fun w10 Sw10 => ?_)
 replace M := M.sees Sw10
 refine any_first 1 (v := .string (bs ((([1]) ++ x) ++ s0))) (by rfl) (by kernel_rfl) nopanic_not (by rfl) (by exact yl_move rfl rfl) ?_
 simp only [putT, List.set]
 refine any_first 4 (v := .bool true) (by rfl) (by kernel_rfl) nopanic_not (by rfl) (by exact yl_move rfl rfl) ?_
 simp only [putT, List.set]
 refine any_first 5 (v := .string (bs x)) (by rfl) (by kernel_rfl) nopanic_not (by rfl) (by exact yl_move rfl rfl) ?_
 simp only [putT, List.set]
 refine any_step [0, 2, 6] (by kernel_rfl) rfl (any_two ?_ (any_two ?_ (any_one ?_)))
 ·
  refine any_opL 0 (by rfl) ?_
  simp only [List.take, List.drop]
  refine wpL_chunk 1 (by rfl) (fun Lk hLk => ?_)
  simp only [List.take, List.drop]
  refine wpV_load1 (v := .slice none 0 0) (by rfl) rfl rfl (range_one (M.r 1 0 rfl rfl)) (M.lt 1 rfl) Tryd.underlying48 rfl ?_
  simp only [putT, List.set]
  refine wpV_nil (hLk _ (fun w11 Sw11 => ?_))
  clear hLk Lk
  simp only [List.take, List.drop]
  replace M := M.sees Sw11
  refine wpL_nil (then_normal ?_)
  refine any_step [2, 6] (by kernel_rfl) rfl (any_two ?_ (any_one ?_))
  ·
   refine any_opL 2 (by rfl) ?_
   simp only [List.take, List.drop]
   refine wpL_rowN (vs := [.string (bs ((([1]) ++ x) ++ s0))]) (z := .string { data := #[] }) (bytes := 16) (by rfl) (by rfl) Tryd.underlying48 (by kernel_rfl) (by decide) (by kernel_rfl) (fun g12 w13 Sw13 Hg12 Bg12 => ?_)
   replace M := ((M.sees Sw13).add (N := 1) (cs := [.string (bs ((([1]) ++ x) ++ s0))]) (M.ge Hg12) (M.fresh Hg12) Bg12 (by simp [flen]))
   clear Bg12
   simp only [putT, List.set]
   refine wpL_nil (then_normal ?_)
   refine any_step [3, 6] (by kernel_rfl) rfl (any_two ?_ (any_one ?_))
   ·
    refine any_opL 3 (by rfl) ?_
    simp only [List.take, List.drop]
    refine wpL_append0 (m := 1) (news := [.string (bs ((([1]) ++ x) ++ s0))]) (z := .string { data := #[] }) (bytes := 16) (by rfl) (by rfl) (by rfl) (by rfl) Tryd.underlying48 (by kernel_rfl) rfl rfl (by decide) (M.r 0 0 rfl rfl) (by decide) (by decide) (fun g14 g14c w15 Sw15 Hg14 Cg14 R T L => ?_)
    replace M := (M.sees Sw15).addR (M.ge Hg14) (M.fresh Hg14) T R L
    clear T R L
    simp only [putT, List.set]
    refine wpL_nil (then_normal ?_)
    refine any_step [6] (by kernel_rfl) rfl (any_one ?_)
    refine any_opL 6 (by rfl) ?_
    simp only [List.take, List.drop]
    refine wpL_chunk 1 (by rfl) (fun Lk hLk => ?_)
    simp only [List.take, List.drop]
    refine wpV_load1 (v := .string (bs s0)) (by rfl) rfl rfl (range_one (M.r 2 0 rfl rfl)) (M.lt 2 rfl) Tryd.underlying9 rfl ?_
    simp only [putT, List.set]
    refine wpV_nil (hLk _ (fun w16 Sw16 => ?_))
    clear hLk Lk
    simp only [List.take, List.drop]
    replace M := M.sees Sw16
    refine wpL_nil (then_normal ?_)
    refine any_step [7] (by kernel_rfl) rfl (any_one ?_)
    refine any_opL 7 (by rfl) ?_
    simp only [List.take, List.drop]
    refine wpL_chunk 1 (by rfl) (fun Lk hLk => ?_)
    simp only [List.take, List.drop]
    refine wpV_callf (v := .string (bs (nodeS x s0))) (args := #[.bool true, .string (bs x), .string (bs s0)]) (by rfl) rfl Tryd.func101 (by kernel_rfl) (by kernel_rfl) rfl (fun W hW => by with_reducible exact joined_t (x := x) (s0 := s0) hx hs ((M.sees hW).oldL L0) ((M.sees hW).oldG R0_0 L0 (by simp; omega))) ?_
    simp only [putT, List.set]
    refine wpV_nil (hLk _ (fun w17 Sw17 => ?_))
    clear hLk Lk
    simp only [List.take, List.drop]
    replace M := M.sees Sw17
    refine wpL_nil (then_normal ?_)
    refine any_step [8] (by kernel_rfl) rfl (any_one ?_)
    refine any_opL 8 (by rfl) ?_
    simp only [List.take, List.drop]
    refine wpL_store1 (g := h) (off := 0) (n := 1) (v := .slice (some ⟨g14, 0, none⟩) 1 g14c) (by rfl) (by rfl) (by rfl) (by rfl) (by rfl) (M.t 3 rfl) (by decide) info48 rfl (fun w18 P R T => ?_)
    replace M := M.putS (new := [.slice (some ⟨g14, 0, none⟩) 1 g14c]) 3 0 rfl P R T rfl ⟨.inl rfl, trivial⟩
    simp only [List.set] at M
    refine wpL_nil (then_normal ?_)
    refine any_step [9] (by kernel_rfl) rfl (any_one ?_)
    refine any_opL 9 (by rfl) ?_
    simp only [List.take, List.drop]
    refine wpL_store1 (g := g) (off := 0) (n := 1) (v := .string (bs (nodeS x s0))) (by rfl) (by rfl) (by rfl) (by rfl) (by rfl) (M.t 2 rfl) (by decide) info9 rfl (fun w19 P R T => ?_)
    replace M := M.putS (new := [.string (bs (nodeS x s0))]) 2 0 rfl P R T rfl ⟨.inl rfl, trivial⟩
    simp only [List.set] at M
    refine wpL_nil (then_normal ?_)
    refine any_end (by kernel_rfl) (no_panic ?_)
    repeat (first | with_reducible refine then_exit ?_ | with_reducible refine inblock_exit ?_)
    refine bodyPost_end (v := .tuple #[]) (results_none rfl _ _ _) rfl ?_
    exact ⟨_, rfl, g14, g14c, rfl, Cg14, (M.pick [2, 3, 0] (by decide) rfl)⟩
   ·
    refine any_opL 6 (by rfl) ?_
    simp only [List.take, List.drop]
    refine wpL_chunk 1 (by rfl) (fun Lk hLk => ?_)
    simp only [List.take, List.drop]
    refine wpV_load1 (v := .string (bs s0)) (by rfl) rfl rfl (range_one (M.r 1 0 rfl rfl)) (M.lt 1 rfl) Tryd.underlying9 rfl ?_
    simp only [putT, List.set]
    refine wpV_nil (hLk _ (fun w20 Sw20 => ?_))
    clear hLk Lk
    simp only [List.take, List.drop]
    replace M := M.sees Sw20
    refine wpL_nil (then_normal ?_)
    refine any_step [3] (by kernel_rfl) rfl (any_one ?_)
    refine any_opL 3 (by rfl) ?_
    simp only [List.take, List.drop]
    refine wpL_append0 (m := 1) (news := [.string (bs ((([1]) ++ x) ++ s0))]) (z := .string { data := #[] }) (bytes := 16) (by rfl) (by rfl) (by rfl) (by rfl) Tryd.underlying48 (by kernel_rfl) rfl rfl (by decide) (M.r 0 0 rfl rfl) (by decide) (by decide) (fun g21 g21c w22 Sw22 Hg21 Cg21 R T L => ?_)
    replace M := (M.sees Sw22).addR (M.ge Hg21) (M.fresh Hg21) T R L
    clear T R L
    simp only [putT, List.set]
    refine wpL_nil (then_normal ?_)
    refine any_step [7] (by kernel_rfl) rfl (any_one ?_)
    refine any_opL 7 (by rfl) ?_
    simp only [List.take, List.drop]
    refine wpL_chunk 1 (by rfl) (fun Lk hLk => ?_)
    simp only [List.take, List.drop]
    refine wpV_callf (v := .string (bs (nodeS x s0))) (args := #[.bool true, .string (bs x), .string (bs s0)]) (by rfl) rfl Tryd.func101 (by kernel_rfl) (by kernel_rfl) rfl (fun W hW => by with_reducible exact joined_t (x := x) (s0 := s0) hx hs ((M.sees hW).oldL L0) ((M.sees hW).oldG R0_0 L0 (by simp; omega))) ?_
    simp only [putT, List.set]
    refine wpV_nil (hLk _ (fun w23 Sw23 => ?_))
    clear hLk Lk
    simp only [List.take, List.drop]
    replace M := M.sees Sw23
    refine wpL_nil (then_normal ?_)
    refine any_step [8] (by kernel_rfl) rfl (any_one ?_)
    refine any_opL 8 (by rfl) ?_
    simp only [List.take, List.drop]
    refine wpL_store1 (g := h) (off := 0) (n := 1) (v := .slice (some ⟨g21, 0, none⟩) 1 g21c) (by rfl) (by rfl) (by rfl) (by rfl) (by rfl) (M.t 3 rfl) (by decide) info48 rfl (fun w24 P R T => ?_)
    replace M := M.putS (new := [.slice (some ⟨g21, 0, none⟩) 1 g21c]) 3 0 rfl P R T rfl ⟨.inl rfl, trivial⟩
    simp only [List.set] at M
    refine wpL_nil (then_normal ?_)
    refine any_step [9] (by kernel_rfl) rfl (any_one ?_)
    refine any_opL 9 (by rfl) ?_
    simp only [List.take, List.drop]
    refine wpL_store1 (g := g) (off := 0) (n := 1) (v := .string (bs (nodeS x s0))) (by rfl) (by rfl) (by rfl) (by rfl) (by rfl) (M.t 2 rfl) (by decide) info9 rfl (fun w25 P R T => ?_)
    replace M := M.putS (new := [.string (bs (nodeS x s0))]) 2 0 rfl P R T rfl ⟨.inl rfl, trivial⟩
    simp only [List.set] at M
    refine wpL_nil (then_normal ?_)
    refine any_end (by kernel_rfl) (no_panic ?_)
    repeat (first | with_reducible refine then_exit ?_ | with_reducible refine inblock_exit ?_)
    refine bodyPost_end (v := .tuple #[]) (results_none rfl _ _ _) rfl ?_
    exact ⟨_, rfl, g21, g21c, rfl, Cg21, (M.pick [2, 3, 0] (by decide) rfl)⟩
  ·
   refine any_opL 6 (by rfl) ?_
   simp only [List.take, List.drop]
   refine wpL_chunk 1 (by rfl) (fun Lk hLk => ?_)
   simp only [List.take, List.drop]
   refine wpV_load1 (v := .string (bs s0)) (by rfl) rfl rfl (range_one (M.r 0 0 rfl rfl)) (M.lt 0 rfl) Tryd.underlying9 rfl ?_
   simp only [putT, List.set]
   refine wpV_nil (hLk _ (fun w26 Sw26 => ?_))
   clear hLk Lk
   simp only [List.take, List.drop]
   replace M := M.sees Sw26
   refine wpL_nil (then_normal ?_)
   refine any_step [2] (by kernel_rfl) rfl (any_one ?_)
   refine any_opL 2 (by rfl) ?_
   simp only [List.take, List.drop]
   refine wpL_rowN (vs := [.string (bs ((([1]) ++ x) ++ s0))]) (z := .string { data := #[] }) (bytes := 16) (by rfl) (by rfl) Tryd.underlying48 (by kernel_rfl) (by decide) (by kernel_rfl) (fun g27 w28 Sw28 Hg27 Bg27 => ?_)
   replace M := ((M.sees Sw28).add (N := 1) (cs := [.string (bs ((([1]) ++ x) ++ s0))]) (M.ge Hg27) (M.fresh Hg27) Bg27 (by simp [flen]))
   clear Bg27
   simp only [putT, List.set]
   refine wpL_nil (then_normal ?_)
   refine any_step [3] (by kernel_rfl) rfl (any_one ?_)
   refine any_opL 3 (by rfl) ?_
   simp only [List.take, List.drop]
   refine wpL_append0 (m := 1) (news := [.string (bs ((([1]) ++ x) ++ s0))]) (z := .string { data := #[] }) (bytes := 16) (by rfl) (by rfl) (by rfl) (by rfl) Tryd.underlying48 (by kernel_rfl) rfl rfl (by decide) (M.r 0 0 rfl rfl) (by decide) (by decide) (fun g29 g29c w30 Sw30 Hg29 Cg29 R T L => ?_)
   replace M := (M.sees Sw30).addR (M.ge Hg29) (M.fresh Hg29) T R L
   clear T R L
   simp only [putT, List.set]
   refine wpL_nil (then_normal ?_)
   refine any_step [7] (by kernel_rfl) rfl (any_one ?_)
   refine any_opL 7 (by rfl) ?_
   simp only [List.take, List.drop]
   refine wpL_chunk 1 (by rfl) (fun Lk hLk => ?_)
   simp only [List.take, List.drop]
   refine wpV_callf (v := .string (bs (nodeS x s0))) (args := #[.bool true, .string (bs x), .string (bs s0)]) (by rfl) rfl Tryd.func101 (by kernel_rfl) (by kernel_rfl) rfl (fun W hW => by with_reducible exact joined_t (x := x) (s0 := s0) hx hs ((M.sees hW).oldL L0) ((M.sees hW).oldG R0_0 L0 (by simp; omega))) ?_
   simp only [putT, List.set]
   refine wpV_nil (hLk _ (fun w31 Sw31 => ?_))
   clear hLk Lk
   simp only [List.take, List.drop]
   replace M := M.sees Sw31
   refine wpL_nil (then_normal ?_)
   refine any_step [8] (by kernel_rfl) rfl (any_one ?_)
   refine any_opL 8 (by rfl) ?_
   simp only [List.take, List.drop]
   refine wpL_store1 (g := h) (off := 0) (n := 1) (v := .slice (some ⟨g29, 0, none⟩) 1 g29c) (by rfl) (by rfl) (by rfl) (by rfl) (by rfl) (M.t 3 rfl) (by decide) info48 rfl (fun w32 P R T => ?_)
   replace M := M.putS (new := [.slice (some ⟨g29, 0, none⟩) 1 g29c]) 3 0 rfl P R T rfl ⟨.inl rfl, trivial⟩
   simp only [List.set] at M
   refine wpL_nil (then_normal ?_)
   refine any_step [9] (by kernel_rfl) rfl (any_one ?_)
   refine any_opL 9 (by rfl) ?_
   simp only [List.take, List.drop]
   refine wpL_store1 (g := g) (off := 0) (n := 1) (v := .string (bs (nodeS x s0))) (by rfl) (by rfl) (by rfl) (by rfl) (by rfl) (M.t 2 rfl) (by decide) info9 rfl (fun w33 P R T => ?_)
   replace M := M.putS (new := [.string (bs (nodeS x s0))]) 2 0 rfl P R T rfl ⟨.inl rfl, trivial⟩
   simp only [List.set] at M
   refine wpL_nil (then_normal ?_)
   refine any_end (by kernel_rfl) (no_panic ?_)
   repeat (first | with_reducible refine then_exit ?_ | with_reducible refine inblock_exit ?_)
   refine bodyPost_end (v := .tuple #[]) (results_none rfl _ _ _) rfl ?_
   exact ⟨_, rfl, g29, g29c, rfl, Cg29, (M.pick [2, 3, 0] (by decide) rfl)⟩
 ·
  refine any_opL 2 (by rfl) ?_
  simp only [List.take, List.drop]
  refine wpL_rowN (vs := [.string (bs ((([1]) ++ x) ++ s0))]) (z := .string { data := #[] }) (bytes := 16) (by rfl) (by rfl) Tryd.underlying48 (by kernel_rfl) (by decide) (by kernel_rfl) (fun g34 w35 Sw35 Hg34 Bg34 => ?_)
  replace M := ((M.sees Sw35).add (N := 1) (cs := [.string (bs ((([1]) ++ x) ++ s0))]) (M.ge Hg34) (M.fresh Hg34) Bg34 (by simp [flen]))
  clear Bg34
  simp only [putT, List.set]
  refine wpL_nil (then_normal ?_)
  refine any_step [0, 6] (by kernel_rfl) rfl (any_two ?_ (any_one ?_))
  ·
   refine any_opL 0 (by rfl) ?_
   simp only [List.take, List.drop]
   refine wpL_chunk 1 (by rfl) (fun Lk hLk => ?_)
   simp only [List.take, List.drop]
   refine wpV_load1 (v := .slice none 0 0) (by rfl) rfl rfl (range_one (M.r 2 0 rfl rfl)) (M.lt 2 rfl) Tryd.underlying48 rfl ?_
   simp only [putT, List.set]
   refine wpV_nil (hLk _ (fun w36 Sw36 => ?_))
   clear hLk Lk
   simp only [List.take, List.drop]
   replace M := M.sees Sw36
   refine wpL_nil (then_normal ?_)
   refine any_step [3, 6] (by kernel_rfl) rfl (any_two ?_ (any_one ?_))
   ·
    refine any_opL 3 (by rfl) ?_
    simp only [List.take, List.drop]
    refine wpL_append0 (m := 1) (news := [.string (bs ((([1]) ++ x) ++ s0))]) (z := .string { data := #[] }) (bytes := 16) (by rfl) (by rfl) (by rfl) (by rfl) Tryd.underlying48 (by kernel_rfl) rfl rfl (by decide) (M.r 0 0 rfl rfl) (by decide) (by decide) (fun g37 g37c w38 Sw38 Hg37 Cg37 R T L => ?_)
    replace M := (M.sees Sw38).addR (M.ge Hg37) (M.fresh Hg37) T R L
    clear T R L
    simp only [putT, List.set]
    refine wpL_nil (then_normal ?_)
    refine any_step [6] (by kernel_rfl) rfl (any_one ?_)
    refine any_opL 6 (by rfl) ?_
    simp only [List.take, List.drop]
    refine wpL_chunk 1 (by rfl) (fun Lk hLk => ?_)
    simp only [List.take, List.drop]
    refine wpV_load1 (v := .string (bs s0)) (by rfl) rfl rfl (range_one (M.r 2 0 rfl rfl)) (M.lt 2 rfl) Tryd.underlying9 rfl ?_
    simp only [putT, List.set]
    refine wpV_nil (hLk _ (fun w39 Sw39 => ?_))
    clear hLk Lk
    simp only [List.take, List.drop]
    replace M := M.sees Sw39
    refine wpL_nil (then_normal ?_)
    refine any_step [7] (by kernel_rfl) rfl (any_one ?_)
    refine any_opL 7 (by rfl) ?_
    simp only [List.take, List.drop]
    refine wpL_chunk 1 (by rfl) (fun Lk hLk => ?_)
    simp only [List.take, List.drop]
    refine wpV_callf (v := .string (bs (nodeS x s0))) (args := #[.bool true, .string (bs x), .string (bs s0)]) (by rfl) rfl Tryd.func101 (by kernel_rfl) (by kernel_rfl) rfl (fun W hW => by with_reducible exact joined_t (x := x) (s0 := s0) hx hs ((M.sees hW).oldL L0) ((M.sees hW).oldG R0_0 L0 (by simp; omega))) ?_
    simp only [putT, List.set]
    refine wpV_nil (hLk _ (fun w40 Sw40 => ?_))
    clear hLk Lk
    simp only [List.take, List.drop]
    replace M := M.sees Sw40
    refine wpL_nil (then_normal ?_)
    refine any_step [8] (by kernel_rfl) rfl (any_one ?_)
    refine any_opL 8 (by rfl) ?_
    simp only [List.take, List.drop]
    refine wpL_store1 (g := h) (off := 0) (n := 1) (v := .slice (some ⟨g37, 0, none⟩) 1 g37c) (by rfl) (by rfl) (by rfl) (by rfl) (by rfl) (M.t 3 rfl) (by decide) info48 rfl (fun w41 P R T => ?_)
    replace M := M.putS (new := [.slice (some ⟨g37, 0, none⟩) 1 g37c]) 3 0 rfl P R T rfl ⟨.inl rfl, trivial⟩
    simp only [List.set] at M
    refine wpL_nil (then_normal ?_)
    refine any_step [9] (by kernel_rfl) rfl (any_one ?_)
    refine any_opL 9 (by rfl) ?_
    simp only [List.take, List.drop]
    refine wpL_store1 (g := g) (off := 0) (n := 1) (v := .string (bs (nodeS x s0))) (by rfl) (by rfl) (by rfl) (by rfl) (by rfl) (M.t 2 rfl) (by decide) info9 rfl (fun w42 P R T => ?_)
    replace M := M.putS (new := [.string (bs (nodeS x s0))]) 2 0 rfl P R T rfl ⟨.inl rfl, trivial⟩
    simp only [List.set] at M
    refine wpL_nil (then_normal ?_)
    refine any_end (by kernel_rfl) (no_panic ?_)
    repeat (first | with_reducible refine then_exit ?_ | with_reducible refine inblock_exit ?_)
    refine bodyPost_end (v := .tuple #[]) (results_none rfl _ _ _) rfl ?_
    exact ⟨_, rfl, g37, g37c, rfl, Cg37, (M.pick [2, 3, 0] (by decide) rfl)⟩
   ·
    refine any_opL 6 (by rfl) ?_
    simp only [List.take, List.drop]
    refine wpL_chunk 1 (by rfl) (fun Lk hLk => ?_)
    simp only [List.take, List.drop]
    refine wpV_load1 (v := .string (bs s0)) (by rfl) rfl rfl (range_one (M.r 1 0 rfl rfl)) (M.lt 1 rfl) Tryd.underlying9 rfl ?_
    simp only [putT, List.set]
    refine wpV_nil (hLk _ (fun w43 Sw43 => ?_))
    clear hLk Lk
    simp only [List.take, List.drop]
    replace M := M.sees Sw43
    refine wpL_nil (then_normal ?_)
    refine any_step [3] (by kernel_rfl) rfl (any_one ?_)
    refine any_opL 3 (by rfl) ?_
    simp only [List.take, List.drop]
    refine wpL_append0 (m := 1) (news := [.string (bs ((([1]) ++ x) ++ s0))]) (z := .string { data := #[] }) (bytes := 16) (by rfl) (by rfl) (by rfl) (by rfl) Tryd.underlying48 (by kernel_rfl) rfl rfl (by decide) (M.r 0 0 rfl rfl) (by decide) (by decide) (fun g44 g44c w45 Sw45 Hg44 Cg44 R T L => ?_)
    replace M := (M.sees Sw45).addR (M.ge Hg44) (M.fresh Hg44) T R L
    clear T R L
    simp only [putT, List.set]
    refine wpL_nil (then_normal ?_)
    refine any_step [7] (by kernel_rfl) rfl (any_one ?_)
    refine any_opL 7 (by rfl) ?_
    simp only [List.take, List.drop]
    refine wpL_chunk 1 (by rfl) (fun Lk hLk => ?_)
    simp only [List.take, List.drop]
    refine wpV_callf (v := .string (bs (nodeS x s0))) (args := #[.bool true, .string (bs x), .string (bs s0)]) (by rfl) rfl Tryd.func101 (by kernel_rfl) (by kernel_rfl) rfl (fun W hW => by with_reducible exact joined_t (x := x) (s0 := s0) hx hs ((M.sees hW).oldL L0) ((M.sees hW).oldG R0_0 L0 (by simp; omega))) ?_
    simp only [putT, List.set]
    refine wpV_nil (hLk _ (fun w46 Sw46 => ?_))
    clear hLk Lk
    simp only [List.take, List.drop]
    replace M := M.sees Sw46
    refine wpL_nil (then_normal ?_)
    refine any_step [8] (by kernel_rfl) rfl (any_one ?_)
    refine any_opL 8 (by rfl) ?_
    simp only [List.take, List.drop]
    refine wpL_store1 (g := h) (off := 0) (n := 1) (v := .slice (some ⟨g44, 0, none⟩) 1 g44c) (by rfl) (by rfl) (by rfl) (by rfl) (by rfl) (M.t 3 rfl) (by decide) info48 rfl (fun w47 P R T => ?_)
    replace M := M.putS (new := [.slice (some ⟨g44, 0, none⟩) 1 g44c]) 3 0 rfl P R T rfl ⟨.inl rfl, trivial⟩
    simp only [List.set] at M
    refine wpL_nil (then_normal ?_)
    refine any_step [9] (by kernel_rfl) rfl (any_one ?_)
    refine any_opL 9 (by rfl) ?_
    simp only [List.take, List.drop]
    refine wpL_store1 (g := g) (off := 0) (n := 1) (v := .string (bs (nodeS x s0))) (by rfl) (by rfl) (by rfl) (by rfl) (by rfl) (M.t 2 rfl) (by decide) info9 rfl (fun w48 P R T => ?_)
    replace M := M.putS (new := [.string (bs (nodeS x s0))]) 2 0 rfl P R T rfl ⟨.inl rfl, trivial⟩
    simp only [List.set] at M
    refine wpL_nil (then_normal ?_)
    refine any_end (by kernel_rfl) (no_panic ?_)
    repeat (first | with_reducible refine then_exit ?_ | with_reducible refine inblock_exit ?_)
    refine bodyPost_end (v := .tuple #[]) (results_none rfl _ _ _) rfl ?_
    exact ⟨_, rfl, g44, g44c, rfl, Cg44, (M.pick [2, 3, 0] (by decide) rfl)⟩
  ·
   refine any_opL 6 (by rfl) ?_
   simp only [List.take, List.drop]
   refine wpL_chunk 1 (by rfl) (fun Lk hLk => ?_)
   simp only [List.take, List.drop]
   refine wpV_load1 (v := .string (bs s0)) (by rfl) rfl rfl (range_one (M.r 1 0 rfl rfl)) (M.lt 1 rfl) Tryd.underlying9 rfl ?_
   simp only [putT, List.set]
   refine wpV_nil (hLk _ (fun w49 Sw49 => ?_))
   clear hLk Lk
   simp only [List.take, List.drop]
   replace M := M.sees Sw49
   refine wpL_nil (then_normal ?_)
   refine any_step [0] (by kernel_rfl) rfl (any_one ?_)
   refine any_opL 0 (by rfl) ?_
   simp only [List.take, List.drop]
   refine wpL_chunk 1 (by rfl) (fun Lk hLk => ?_)
   simp only [List.take, List.drop]
   refine wpV_load1 (v := .slice none 0 0) (by rfl) rfl rfl (range_one (M.r 2 0 rfl rfl)) (M.lt 2 rfl) Tryd.underlying48 rfl ?_
   simp only [putT, List.set]
   refine wpV_nil (hLk _ (fun w50 Sw50 => ?_))
   clear hLk Lk
   simp only [List.take, List.drop]
   replace M := M.sees Sw50
   refine wpL_nil (then_normal ?_)
   refine any_step [3] (by kernel_rfl) rfl (any_one ?_)
   refine any_opL 3 (by rfl) ?_
   simp only [List.take, List.drop]
   refine wpL_append0 (m := 1) (news := [.string (bs ((([1]) ++ x) ++ s0))]) (z := .string { data := #[] }) (bytes := 16) (by rfl) (by rfl) (by rfl) (by rfl) Tryd.underlying48 (by kernel_rfl) rfl rfl (by decide) (M.r 0 0 rfl rfl) (by decide) (by decide) (fun g51 g51c w52 Sw52 Hg51 Cg51 R T L => ?_)
   replace M := (M.sees Sw52).addR (M.ge Hg51) (M.fresh Hg51) T R L
   clear T R L
   simp only [putT, List.set]
   refine wpL_nil (then_normal ?_)
   refine any_step [7] (by kernel_rfl) rfl (any_one ?_)
   refine any_opL 7 (by rfl) ?_
   simp only [List.take, List.drop]
   refine wpL_chunk 1 (by rfl) (fun Lk hLk => ?_)
   simp only [List.take, List.drop]
   refine wpV_callf (v := .string (bs (nodeS x s0))) (args := #[.bool true, .string (bs x), .string (bs s0)]) (by rfl) rfl Tryd.func101 (by kernel_rfl) (by kernel_rfl) rfl (fun W hW => by with_reducible exact joined_t (x := x) (s0 := s0) hx hs ((M.sees hW).oldL L0) ((M.sees hW).oldG R0_0 L0 (by simp; omega))) ?_
   simp only [putT, List.set]
   refine wpV_nil (hLk _ (fun w53 Sw53 => ?_))
   clear hLk Lk
   simp only [List.take, List.drop]
   replace M := M.sees Sw53
   refine wpL_nil (then_normal ?_)
   refine any_step [8] (by kernel_rfl) rfl (any_one ?_)
   refine any_opL 8 (by rfl) ?_
   simp only [List.take, List.drop]
   refine wpL_store1 (g := h) (off := 0) (n := 1) (v := .slice (some ⟨g51, 0, none⟩) 1 g51c) (by rfl) (by rfl) (by rfl) (by rfl) (by rfl) (M.t 3 rfl) (by decide) info48 rfl (fun w54 P R T => ?_)
   replace M := M.putS (new := [.slice (some ⟨g51, 0, none⟩) 1 g51c]) 3 0 rfl P R T rfl ⟨.inl rfl, trivial⟩
   simp only [List.set] at M
   refine wpL_nil (then_normal ?_)
   refine any_step [9] (by kernel_rfl) rfl (any_one ?_)
   refine any_opL 9 (by rfl) ?_
   simp only [List.take, List.drop]
   refine wpL_store1 (g := g) (off := 0) (n := 1) (v := .string (bs (nodeS x s0))) (by rfl) (by rfl) (by rfl) (by rfl) (by rfl) (M.t 2 rfl) (by decide) info9 rfl (fun w55 P R T => ?_)
   replace M := M.putS (new := [.string (bs (nodeS x s0))]) 2 0 rfl P R T rfl ⟨.inl rfl, trivial⟩
   simp only [List.set] at M
   refine wpL_nil (then_normal ?_)
   refine any_end (by kernel_rfl) (no_panic ?_)
   repeat (first | with_reducible refine then_exit ?_ | with_reducible refine inblock_exit ?_)
   refine bodyPost_end (v := .tuple #[]) (results_none rfl _ _ _) rfl ?_
   exact ⟨_, rfl, g51, g51c, rfl, Cg51, (M.pick [2, 3, 0] (by decide) rfl)⟩
 ·
  refine any_opL 6 (by rfl) ?_
  simp only [List.take, List.drop]
  refine wpL_chunk 1 (by rfl) (fun Lk hLk => ?_)
  simp only [List.take, List.drop]
  refine wpV_load1 (v := .string (bs s0)) (by rfl) rfl rfl (range_one (M.r 0 0 rfl rfl)) (M.lt 0 rfl) Tryd.underlying9 rfl ?_
  simp only [putT, List.set]
  refine wpV_nil (hLk _ (fun w56 Sw56 => ?_))
  clear hLk Lk
  simp only [List.take, List.drop]
  replace M := M.sees Sw56
  refine wpL_nil (then_normal ?_)
  refine any_step [0, 2] (by kernel_rfl) rfl (any_two ?_ (any_one ?_))
  ·
   refine any_opL 0 (by rfl) ?_
   simp only [List.take, List.drop]
   refine wpL_chunk 1 (by rfl) (fun Lk hLk => ?_)
   simp only [List.take, List.drop]
   refine wpV_load1 (v := .slice none 0 0) (by rfl) rfl rfl (range_one (M.r 1 0 rfl rfl)) (M.lt 1 rfl) Tryd.underlying48 rfl ?_
   simp only [putT, List.set]
   refine wpV_nil (hLk _ (fun w57 Sw57 => ?_))
   clear hLk Lk
   simp only [List.take, List.drop]
   replace M := M.sees Sw57
   refine wpL_nil (then_normal ?_)
   refine any_step [2] (by kernel_rfl) rfl (any_one ?_)
   refine any_opL 2 (by rfl) ?_
   simp only [List.take, List.drop]
   refine wpL_rowN (vs := [.string (bs ((([1]) ++ x) ++ s0))]) (z := .string { data := #[] }) (bytes := 16) (by rfl) (by rfl) Tryd.underlying48 (by kernel_rfl) (by decide) (by kernel_rfl) (fun g58 w59 Sw59 Hg58 Bg58 => ?_)
   replace M := ((M.sees Sw59).add (N := 1) (cs := [.string (bs ((([1]) ++ x) ++ s0))]) (M.ge Hg58) (M.fresh Hg58) Bg58 (by simp [flen]))
   clear Bg58
   simp only [putT, List.set]
   refine wpL_nil (then_normal ?_)
   refine any_step [3] (by kernel_rfl) rfl (any_one ?_)
   refine any_opL 3 (by rfl) ?_
   simp only [List.take, List.drop]
   refine wpL_append0 (m := 1) (news := [.string (bs ((([1]) ++ x) ++ s0))]) (z := .string { data := #[] }) (bytes := 16) (by rfl) (by rfl) (by rfl) (by rfl) Tryd.underlying48 (by kernel_rfl) rfl rfl (by decide) (M.r 0 0 rfl rfl) (by decide) (by decide) (fun g60 g60c w61 Sw61 Hg60 Cg60 R T L => ?_)
   replace M := (M.sees Sw61).addR (M.ge Hg60) (M.fresh Hg60) T R L
   clear T R L
   simp only [putT, List.set]
   refine wpL_nil (then_normal ?_)
   refine any_step [7] (by kernel_rfl) rfl (any_one ?_)
   refine any_opL 7 (by rfl) ?_
   simp only [List.take, List.drop]
   refine wpL_chunk 1 (by rfl) (fun Lk hLk => ?_)
   simp only [List.take, List.drop]
   refine wpV_callf (v := .string (bs (nodeS x s0))) (args := #[.bool true, .string (bs x), .string (bs s0)]) (by rfl) rfl Tryd.func101 (by kernel_rfl) (by kernel_rfl) rfl (fun W hW => by with_reducible exact joined_t (x := x) (s0 := s0) hx hs ((M.sees hW).oldL L0) ((M.sees hW).oldG R0_0 L0 (by simp; omega))) ?_
   simp only [putT, List.set]
   refine wpV_nil (hLk _ (fun w62 Sw62 => ?_))
   clear hLk Lk
   simp only [List.take, List.drop]
   replace M := M.sees Sw62
   refine wpL_nil (then_normal ?_)
   refine any_step [8] (by kernel_rfl) rfl (any_one ?_)
   refine any_opL 8 (by rfl) ?_
   simp only [List.take, List.drop]
   refine wpL_store1 (g := h) (off := 0) (n := 1) (v := .slice (some ⟨g60, 0, none⟩) 1 g60c) (by rfl) (by rfl) (by rfl) (by rfl) (by rfl) (M.t 3 rfl) (by decide) info48 rfl (fun w63 P R T => ?_)
   replace M := M.putS (new := [.slice (some ⟨g60, 0, none⟩) 1 g60c]) 3 0 rfl P R T rfl ⟨.inl rfl, trivial⟩
   simp only [List.set] at M
   refine wpL_nil (then_normal ?_)
   refine any_step [9] (by kernel_rfl) rfl (any_one ?_)
   refine any_opL 9 (by rfl) ?_
   simp only [List.take, List.drop]
   refine wpL_store1 (g := g) (off := 0) (n := 1) (v := .string (bs (nodeS x s0))) (by rfl) (by rfl) (by rfl) (by rfl) (by rfl) (M.t 2 rfl) (by decide) info9 rfl (fun w64 P R T => ?_)
   replace M := M.putS (new := [.string (bs (nodeS x s0))]) 2 0 rfl P R T rfl ⟨.inl rfl, trivial⟩
   simp only [List.set] at M
   refine wpL_nil (then_normal ?_)
   refine any_end (by kernel_rfl) (no_panic ?_)
   repeat (first | with_reducible refine then_exit ?_ | with_reducible refine inblock_exit ?_)
   refine bodyPost_end (v := .tuple #[]) (results_none rfl _ _ _) rfl ?_
   exact ⟨_, rfl, g60, g60c, rfl, Cg60, (M.pick [2, 3, 0] (by decide) rfl)⟩
  ·
   refine any_opL 2 (by rfl) ?_
   simp only [List.take, List.drop]
   refine wpL_rowN (vs := [.string (bs ((([1]) ++ x) ++ s0))]) (z := .string { data := #[] }) (bytes := 16) (by rfl) (by rfl) Tryd.underlying48 (by kernel_rfl) (by decide) (by kernel_rfl) (fun g65 w66 Sw66 Hg65 Bg65 => ?_)
   replace M := ((M.sees Sw66).add (N := 1) (cs := [.string (bs ((([1]) ++ x) ++ s0))]) (M.ge Hg65) (M.fresh Hg65) Bg65 (by simp [flen]))
   clear Bg65
   simp only [putT, List.set]
   refine wpL_nil (then_normal ?_)
   refine any_step [0] (by kernel_rfl) rfl (any_one ?_)
   refine any_opL 0 (by rfl) ?_
   simp only [List.take, List.drop]
   refine wpL_chunk 1 (by rfl) (fun Lk hLk => ?_)
   simp only [List.take, List.drop]
   refine wpV_load1 (v := .slice none 0 0) (by rfl) rfl rfl (range_one (M.r 2 0 rfl rfl)) (M.lt 2 rfl) Tryd.underlying48 rfl ?_
   simp only [putT, List.set]
   refine wpV_nil (hLk _ (fun w67 Sw67 => ?_))
   clear hLk Lk
   simp only [List.take, List.drop]
   replace M := M.sees Sw67
   refine wpL_nil (then_normal ?_)
   refine any_step [3] (by kernel_rfl) rfl (any_one ?_)
   refine any_opL 3 (by rfl) ?_
   simp only [List.take, List.drop]
   refine wpL_append0 (m := 1) (news := [.string (bs ((([1]) ++ x) ++ s0))]) (z := .string { data := #[] }) (bytes := 16) (by rfl) (by rfl) (by rfl) (by rfl) Tryd.underlying48 (by kernel_rfl) rfl rfl (by decide) (M.r 0 0 rfl rfl) (by decide) (by decide) (fun g68 g68c w69 Sw69 Hg68 Cg68 R T L => ?_)
   replace M := (M.sees Sw69).addR (M.ge Hg68) (M.fresh Hg68) T R L
   clear T R L
   simp only [putT, List.set]
   refine wpL_nil (then_normal ?_)
   refine any_step [7] (by kernel_rfl) rfl (any_one ?_)
   refine any_opL 7 (by rfl) ?_
   simp only [List.take, List.drop]
   refine wpL_chunk 1 (by rfl) (fun Lk hLk => ?_)
   simp only [List.take, List.drop]
   refine wpV_callf (v := .string (bs (nodeS x s0))) (args := #[.bool true, .string (bs x), .string (bs s0)]) (by rfl) rfl Tryd.func101 (by kernel_rfl) (by kernel_rfl) rfl (fun W hW => by with_reducible exact joined_t (x := x) (s0 := s0) hx hs ((M.sees hW).oldL L0) ((M.sees hW).oldG R0_0 L0 (by simp; omega))) ?_
   simp only [putT, List.set]
   refine wpV_nil (hLk _ (fun w70 Sw70 => ?_))
   clear hLk Lk
   simp only [List.take, List.drop]
   replace M := M.sees Sw70
   refine wpL_nil (then_normal ?_)
   refine any_step [8] (by kernel_rfl) rfl (any_one ?_)
   refine any_opL 8 (by rfl) ?_
   simp only [List.take, List.drop]
   refine wpL_store1 (g := h) (off := 0) (n := 1) (v := .slice (some ⟨g68, 0, none⟩) 1 g68c) (by rfl) (by rfl) (by rfl) (by rfl) (by rfl) (M.t 3 rfl) (by decide) info48 rfl (fun w71 P R T => ?_)
   replace M := M.putS (new := [.slice (some ⟨g68, 0, none⟩) 1 g68c]) 3 0 rfl P R T rfl ⟨.inl rfl, trivial⟩
   simp only [List.set] at M
   refine wpL_nil (then_normal ?_)
   refine any_step [9] (by kernel_rfl) rfl (any_one ?_)
   refine any_opL 9 (by rfl) ?_
   simp only [List.take, List.drop]
   refine wpL_store1 (g := g) (off := 0) (n := 1) (v := .string (bs (nodeS x s0))) (by rfl) (by rfl) (by rfl) (by rfl) (by rfl) (M.t 2 rfl) (by decide) info9 rfl (fun w72 P R T => ?_)
   replace M := M.putS (new := [.string (bs (nodeS x s0))]) 2 0 rfl P R T rfl ⟨.inl rfl, trivial⟩
   simp only [List.set] at M
   refine wpL_nil (then_normal ?_)
   refine any_end (by kernel_rfl) (no_panic ?_)
   repeat (first | with_reducible refine then_exit ?_ | with_reducible refine inblock_exit ?_)
   refine bodyPost_end (v := .tuple #[]) (results_none rfl _ _ _) rfl ?_
   exact ⟨_, rfl, g68, g68c, rfl, Cg68, (M.pick [2, 3, 0] (by decide) rfl)⟩
set_option maxHeartbeats 1000000 in
theorem tx1_nf {g h : Nat} {x s0 : List UInt8} {w : World} (hx : x.length = 32) (hs : s0.length = 32) (hg0 : g ≠ 0) (hh0 : h ≠ 0) (L0 : 0 < w.heap.size) (R0_0 : w.rangeAt 0 0 kcells) (hM : Mem [g, h] w w [⟨g, 1, [(0, [.string (bs s0)])]⟩, ⟨h, 1, [(0, [.slice none 0 0])]⟩]) :
  Calls Tryd.prog 100 #[.bool false, .string (bs x), .pointer (some ⟨g, 0, none⟩), .pointer (some ⟨h, 0, none⟩)] w fun e w' => ∃ v, e = .returned v ∧ ∃ r9 c9, v = .tuple #[] ∧ 1 ≤ c9 ∧ Mem [g, h] w w' [⟨g, 1, [(0, [.string (bs (nodeS s0 x))])]⟩, ⟨h, 1, [(0, [.slice (some ⟨r9, 0, none⟩) 1 c9])]⟩, ⟨r9, c9, [(0, scells ([[1] ++ s0 ++ x]))]⟩] := by
 go_enter Tryd.func100, Tryd.ntmps100
 have M := hM
 refine wp_seq_k (fun K1 hK1 => ?_)
 refine wp_region_seq ?_
 refine wpL_chunk 4 (by rfl) (fun Lk hLk => ?_)
 simp only [List.take, List.drop]
 refine wpV_load1 (v := .string (bs s0)) (by rfl) rfl rfl (range_one (M.r 0 0 rfl rfl)) (M.lt 0 rfl) Tryd.underlying9 rfl ?_
 simp only [putT, List.set]
 refine wpV_binS (v := .string (bs (([1]) ++ s0))) (by rfl) rfl rfl rfl (run_add_bs _ _ _ (by simp only [List.length_append, List.length_singleton, List.length_cons, List.length_nil]; omega)) ?_
 simp only [putT, List.set]
 refine wpV_move (v := .string (bs x)) (by rfl) rfl rfl ?_
 simp only [putT, List.set]
 refine wpV_binS (v := .string (bs ((([1]) ++ s0) ++ x))) (by rfl) rfl rfl rfl (run_add_bs _ _ _ (by simp only [List.length_append, List.length_singleton, List.length_cons, List.length_nil]; omega)) ?_
 simp only [putT, List.set]
 refine wpV_nil (hLk _ (fun w3 Sw3 => ?_))
 clear hLk Lk
 simp only [List.take, List.drop]
 replace M := M.sees Sw3
 refine wpL_assign (v := .string (bs ((([1]) ++ s0) ++ x))) (by rfl) (by rfl) (by rfl) ?_
 simp only [putT, List.set]
 refine wpL_nil (no_panic ?_)
 refine hK1 _ _ ?_
 refine wp_seq_k (fun K4 hK4 => ?_)
 refine wp_seq_k (fun K5 hK5 => ?_)
 refine wp_region_seq ?_
 refine wpL_move (v := .bool false) (by rfl) (by rfl) (by rfl) ?_
 simp only [putT, List.set]
 refine wpL_nil (no_panic ?_)
 refine hK5 _ _ ?_
 refine wp_cond_false rfl ?_
 refine wp_skip ?_
 refine hK4 _ _ ?_
 refine wp_region_treeN (by kernel_rfl) (fun w8 Sw8 => ?_)
 replace M := M.sees Sw8
 refine any_first 1 (v := .string (bs ((([1]) ++ s0) ++ x))) (by rfl) (by kernel_rfl) nopanic_not (by rfl) (by exact yl_move rfl rfl) ?_
 simp only [putT, List.set]
 refine any_first 4 (v := .bool false) (by rfl) (by kernel_rfl) nopanic_not (by rfl) (by exact yl_move rfl rfl) ?_
 simp only [putT, List.set]
 refine any_first 5 (v := .string (bs x)) (by rfl) (by kernel_rfl) nopanic_not (by rfl) (by exact yl_move rfl rfl) ?_
 simp only [putT, List.set]
 refine any_step [0, 2, 6] (by kernel_rfl) rfl (any_two ?_ (any_two ?_ (any_one ?_)))
 ·
  refine any_opL 0 (by rfl) ?_
  simp only [List.take, List.drop]
  refine wpL_chunk 1 (by rfl) (fun Lk hLk => ?_)
  simp only [List.take, List.drop]
  refine wpV_load1 (v := .slice none 0 0) (by rfl) rfl rfl (range_one (M.r 1 0 rfl rfl)) (M.lt 1 rfl) Tryd.underlying48 rfl ?_
  simp only [putT, List.set]
  refine wpV_nil (hLk _ (fun w9 Sw9 => ?_))
  clear hLk Lk
  simp only [List.take, List.drop]
  replace M := M.sees Sw9
  refine wpL_nil (then_normal ?_)
  refine any_step [2, 6] (by kernel_rfl) rfl (any_two ?_ (any_one ?_))
  ·
   refine any_opL 2 (by rfl) ?_
   simp only [List.take, List.drop]
   refine wpL_rowN (vs := [.string (bs ((([1]) ++ s0) ++ x))]) (z := .string { data := #[] }) (bytes := 16) (by rfl) (by rfl) Tryd.underlying48 (by kernel_rfl) (by decide) (by kernel_rfl) (fun g10 w11 Sw11 Hg10 Bg10 => ?_)
   replace M := ((M.sees Sw11).add (N := 1) (cs := [.string (bs ((([1]) ++ s0) ++ x))]) (M.ge Hg10) (M.fresh Hg10) Bg10 (by simp [flen]))
   clear Bg10
   simp only [putT, List.set]
   refine wpL_nil (then_normal ?_)
   refine any_step [3, 6] (by kernel_rfl) rfl (any_two ?_ (any_one ?_))
   ·
    refine any_opL 3 (by rfl) ?_
    simp only [List.take, List.drop]
    refine wpL_append0 (m := 1) (news := [.string (bs ((([1]) ++ s0) ++ x))]) (z := .string { data := #[] }) (bytes := 16) (by rfl) (by rfl) (by rfl) (by rfl) Tryd.underlying48 (by kernel_rfl) rfl rfl (by decide) (M.r 0 0 rfl rfl) (by decide) (by decide) (fun g12 g12c w13 Sw13 Hg12 Cg12 R T L => ?_)
    replace M := (M.sees Sw13).addR (M.ge Hg12) (M.fresh Hg12) T R L
    clear T R L
    simp only [putT, List.set]
    refine wpL_nil (then_normal ?_)
    refine any_step [6] (by kernel_rfl) rfl (any_one ?_)
    refine any_opL 6 (by rfl) ?_
    simp only [List.take, List.drop]
    refine wpL_chunk 1 (by rfl) (fun Lk hLk => ?_)
    simp only [List.take, List.drop]
    refine wpV_load1 (v := .string (bs s0)) (by rfl) rfl rfl (range_one (M.r 2 0 rfl rfl)) (M.lt 2 rfl) Tryd.underlying9 rfl ?_
    simp only [putT, List.set]
    refine wpV_nil (hLk _ (fun w14 Sw14 => ?_))
    clear hLk Lk
    simp only [List.take, List.drop]
    replace M := M.sees Sw14
    refine wpL_nil (then_normal ?_)
    refine any_step [7] (by kernel_rfl) rfl (any_one ?_)
    refine any_opL 7 (by rfl) ?_
    simp only [List.take, List.drop]
    refine wpL_chunk 1 (by rfl) (fun Lk hLk => ?_)
    simp only [List.take, List.drop]
    refine wpV_callf (v := .string (bs (nodeS s0 x))) (args := #[.bool false, .string (bs x), .string (bs s0)]) (by rfl) rfl Tryd.func101 (by kernel_rfl) (by kernel_rfl) rfl (fun W hW => by with_reducible exact joined_f (x := x) (s0 := s0) hx hs ((M.sees hW).oldL L0) ((M.sees hW).oldG R0_0 L0 (by simp; omega))) ?_
    simp only [putT, List.set]
    refine wpV_nil (hLk _ (fun w15 Sw15 => ?_))
    clear hLk Lk
    simp only [List.take, List.drop]
    replace M := M.sees Sw15
    refine wpL_nil (then_normal ?_)
    refine any_step [8] (by kernel_rfl) rfl (any_one ?_)
    refine any_opL 8 (by rfl) ?_
    simp only [List.take, List.drop]
    refine wpL_store1 (g := h) (off := 0) (n := 1) (v := .slice (some ⟨g12, 0, none⟩) 1 g12c) (by rfl) (by rfl) (by rfl) (by rfl) (by rfl) (M.t 3 rfl) (by decide) info48 rfl (fun w16 P R T => ?_)
    replace M := M.putS (new := [.slice (some ⟨g12, 0, none⟩) 1 g12c]) 3 0 rfl P R T rfl ⟨.inl rfl, trivial⟩
    simp only [List.set] at M
    refine wpL_nil (then_normal ?_)
    refine any_step [9] (by kernel_rfl) rfl (any_one ?_)
    refine any_opL 9 (by rfl) ?_
    simp only [List.take, List.drop]
    refine wpL_store1 (g := g) (off := 0) (n := 1) (v := .string (bs (nodeS s0 x))) (by rfl) (by rfl) (by rfl) (by rfl) (by rfl) (M.t 2 rfl) (by decide) info9 rfl (fun w17 P R T => ?_)
    replace M := M.putS (new := [.string (bs (nodeS s0 x))]) 2 0 rfl P R T rfl ⟨.inl rfl, trivial⟩
    simp only [List.set] at M
    refine wpL_nil (then_normal ?_)
    refine any_end (by kernel_rfl) (no_panic ?_)
    repeat (first | with_reducible refine then_exit ?_ | with_reducible refine inblock_exit ?_)
    refine bodyPost_end (v := .tuple #[]) (results_none rfl _ _ _) rfl ?_
    exact ⟨_, rfl, g12, g12c, rfl, Cg12, (M.pick [2, 3, 0] (by decide) rfl)⟩
   ·
    refine any_opL 6 (by rfl) ?_
    simp only [List.take, List.drop]
    refine wpL_chunk 1 (by rfl) (fun Lk hLk => ?_)
    simp only [List.take, List.drop]
    refine wpV_load1 (v := .string (bs s0)) (by rfl) rfl rfl (range_one (M.r 1 0 rfl rfl)) (M.lt 1 rfl) Tryd.underlying9 rfl ?_
    simp only [putT, List.set]
    refine wpV_nil (hLk _ (fun w18 Sw18 => ?_))
    clear hLk Lk
    simp only [List.take, List.drop]
    replace M := M.sees Sw18
    refine wpL_nil (then_normal ?_)
    refine any_step [3] (by kernel_rfl) rfl (any_one ?_)
    refine any_opL 3 (by rfl) ?_
    simp only [List.take, List.drop]
    refine wpL_append0 (m := 1) (news := [.string (bs ((([1]) ++ s0) ++ x))]) (z := .string { data := #[] }) (bytes := 16) (by rfl) (by rfl) (by rfl) (by rfl) Tryd.underlying48 (by kernel_rfl) rfl rfl (by decide) (M.r 0 0 rfl rfl) (by decide) (by decide) (fun g19 g19c w20 Sw20 Hg19 Cg19 R T L => ?_)
    replace M := (M.sees Sw20).addR (M.ge Hg19) (M.fresh Hg19) T R L
    clear T R L
    simp only [putT, List.set]
    refine wpL_nil (then_normal ?_)
    refine any_step [7] (by kernel_rfl) rfl (any_one ?_)
    refine any_opL 7 (by rfl) ?_
    simp only [List.take, List.drop]
    refine wpL_chunk 1 (by rfl) (fun Lk hLk => ?_)
    simp only [List.take, List.drop]
    refine wpV_callf (v := .string (bs (nodeS s0 x))) (args := #[.bool false, .string (bs x), .string (bs s0)]) (by rfl) rfl Tryd.func101 (by kernel_rfl) (by kernel_rfl) rfl (fun W hW => by with_reducible exact joined_f (x := x) (s0 := s0) hx hs ((M.sees hW).oldL L0) ((M.sees hW).oldG R0_0 L0 (by simp; omega))) ?_
    simp only [putT, List.set]
    refine wpV_nil (hLk _ (fun w21 Sw21 => ?_))
    clear hLk Lk
    simp only [List.take, List.drop]
    replace M := M.sees Sw21
    refine wpL_nil (then_normal ?_)
    refine any_step [8] (by kernel_rfl) rfl (any_one ?_)
    refine any_opL 8 (by rfl) ?_
    simp only [List.take, List.drop]
    refine wpL_store1 (g := h) (off := 0) (n := 1) (v := .slice (some ⟨g19, 0, none⟩) 1 g19c) (by rfl) (by rfl) (by rfl) (by rfl) (by rfl) (M.t 3 rfl) (by decide) info48 rfl (fun w22 P R T => ?_)
    replace M := M.putS (new := [.slice (some ⟨g19, 0, none⟩) 1 g19c]) 3 0 rfl P R T rfl ⟨.inl rfl, trivial⟩
    simp only [List.set] at M
    refine wpL_nil (then_normal ?_)
    refine any_step [9] (by kernel_rfl) rfl (any_one ?_)
    refine any_opL 9 (by rfl) ?_
    simp only [List.take, List.drop]
    refine wpL_store1 (g := g) (off := 0) (n := 1) (v := .string (bs (nodeS s0 x))) (by rfl) (by rfl) (by rfl) (by rfl) (by rfl) (M.t 2 rfl) (by decide) info9 rfl (fun w23 P R T => ?_)
    replace M := M.putS (new := [.string (bs (nodeS s0 x))]) 2 0 rfl P R T rfl ⟨.inl rfl, trivial⟩
    simp only [List.set] at M
    refine wpL_nil (then_normal ?_)
    refine any_end (by kernel_rfl) (no_panic ?_)
    repeat (first | with_reducible refine then_exit ?_ | with_reducible refine inblock_exit ?_)
    refine bodyPost_end (v := .tuple #[]) (results_none rfl _ _ _) rfl ?_
    exact ⟨_, rfl, g19, g19c, rfl, Cg19, (M.pick [2, 3, 0] (by decide) rfl)⟩
  ·
   refine any_opL 6 (by rfl) ?_
   simp only [List.take, List.drop]
   refine wpL_chunk 1 (by rfl) (fun Lk hLk => ?_)
   simp only [List.take, List.drop]
   refine wpV_load1 (v := .string (bs s0)) (by rfl) rfl rfl (range_one (M.r 0 0 rfl rfl)) (M.lt 0 rfl) Tryd.underlying9 rfl ?_
   simp only [putT, List.set]
   refine wpV_nil (hLk _ (fun w24 Sw24 => ?_))
   clear hLk Lk
   simp only [List.take, List.drop]
   replace M := M.sees Sw24
   refine wpL_nil (then_normal ?_)
   refine any_step [2] (by kernel_rfl) rfl (any_one ?_)
   refine any_opL 2 (by rfl) ?_
   simp only [List.take, List.drop]
   refine wpL_rowN (vs := [.string (bs ((([1]) ++ s0) ++ x))]) (z := .string { data := #[] }) (bytes := 16) (by rfl) (by rfl) Tryd.underlying48 (by kernel_rfl) (by decide) (by kernel_rfl) (fun g25 w26 Sw26 Hg25 Bg25 => ?_)
   replace M := ((M.sees Sw26).add (N := 1) (cs := [.string (bs ((([1]) ++ s0) ++ x))]) (M.ge Hg25) (M.fresh Hg25) Bg25 (by simp [flen]))
   clear Bg25
   simp only [putT, List.set]
   refine wpL_nil (then_normal ?_)
   refine any_step [3] (by kernel_rfl) rfl (any_one ?_)
   refine any_opL 3 (by rfl) ?_
   simp only [List.take, List.drop]
   refine wpL_append0 (m := 1) (news := [.string (bs ((([1]) ++ s0) ++ x))]) (z := .string { data := #[] }) (bytes := 16) (by rfl) (by rfl) (by rfl) (by rfl) Tryd.underlying48 (by kernel_rfl) rfl rfl (by decide) (M.r 0 0 rfl rfl) (by decide) (by decide) (fun g27 g27c w28 Sw28 Hg27 Cg27 R T L => ?_)
   replace M := (M.sees Sw28).addR (M.ge Hg27) (M.fresh Hg27) T R L
   clear T R L
   simp only [putT, List.set]
   refine wpL_nil (then_normal ?_)
   refine any_step [7] (by kernel_rfl) rfl (any_one ?_)
   refine any_opL 7 (by rfl) ?_
   simp only [List.take, List.drop]
   refine wpL_chunk 1 (by rfl) (fun Lk hLk => ?_)
   simp only [List.take, List.drop]
   refine wpV_callf (v := .string (bs (nodeS s0 x))) (args := #[.bool false, .string (bs x), .string (bs s0)]) (by rfl) rfl Tryd.func101 (by kernel_rfl) (by kernel_rfl) rfl (fun W hW => by with_reducible exact joined_f (x := x) (s0 := s0) hx hs ((M.sees hW).oldL L0) ((M.sees hW).oldG R0_0 L0 (by simp; omega))) ?_
   simp only [putT, List.set]
   refine wpV_nil (hLk _ (fun w29 Sw29 => ?_))
   clear hLk Lk
   simp only [List.take, List.drop]
   replace M := M.sees Sw29
   refine wpL_nil (then_normal ?_)
   refine any_step [8] (by kernel_rfl) rfl (any_one ?_)
   refine any_opL 8 (by rfl) ?_
   simp only [List.take, List.drop]
   refine wpL_store1 (g := h) (off := 0) (n := 1) (v := .slice (some ⟨g27, 0, none⟩) 1 g27c) (by rfl) (by rfl) (by rfl) (by rfl) (by rfl) (M.t 3 rfl) (by decide) info48 rfl (fun w30 P R T => ?_)
   replace M := M.putS (new := [.slice (some ⟨g27, 0, none⟩) 1 g27c]) 3 0 rfl P R T rfl ⟨.inl rfl, trivial⟩
   simp only [List.set] at M
   refine wpL_nil (then_normal ?_)
   refine any_step [9] (by kernel_rfl) rfl (any_one ?_)
   refine any_opL 9 (by rfl) ?_
   simp only [List.take, List.drop]
   refine wpL_store1 (g := g) (off := 0) (n := 1) (v := .string (bs (nodeS s0 x))) (by rfl) (by rfl) (by rfl) (by rfl) (by rfl) (M.t 2 rfl) (by decide) info9 rfl (fun w31 P R T => ?_)
   replace M := M.putS (new := [.string (bs (nodeS s0 x))]) 2 0 rfl P R T rfl ⟨.inl rfl, trivial⟩
   simp only [List.set] at M
   refine wpL_nil (then_normal ?_)
   refine any_end (by kernel_rfl) (no_panic ?_)
   repeat (first | with_reducible refine then_exit ?_ | with_reducible refine inblock_exit ?_)
   refine bodyPost_end (v := .tuple #[]) (results_none rfl _ _ _) rfl ?_
   exact ⟨_, rfl, g27, g27c, rfl, Cg27, (M.pick [2, 3, 0] (by decide) rfl)⟩
 ·
  refine any_opL 2 (by rfl) ?_
  simp only [List.take, List.drop]
  refine wpL_rowN (vs := [.string (bs ((([1]) ++ s0) ++ x))]) (z := .string { data := #[] }) (bytes := 16) (by rfl) (by rfl) Tryd.underlying48 (by kernel_rfl) (by decide) (by kernel_rfl) (fun g32 w33 Sw33 Hg32 Bg32 => ?_)
  replace M := ((M.sees Sw33).add (N := 1) (cs := [.string (bs ((([1]) ++ s0) ++ x))]) (M.ge Hg32) (M.fresh Hg32) Bg32 (by simp [flen]))
  clear Bg32
  simp only [putT, List.set]
  refine wpL_nil (then_normal ?_)
  refine any_step [0, 6] (by kernel_rfl) rfl (any_two ?_ (any_one ?_))
  ·
   refine any_opL 0 (by rfl) ?_
   simp only [List.take, List.drop]
   refine wpL_chunk 1 (by rfl) (fun Lk hLk => ?_)
   simp only [List.take, List.drop]
   refine wpV_load1 (v := .slice none 0 0) (by rfl) rfl rfl (range_one (M.r 2 0 rfl rfl)) (M.lt 2 rfl) Tryd.underlying48 rfl ?_
   simp only [putT, List.set]
   refine wpV_nil (hLk _ (fun w34 Sw34 => ?_))
   clear hLk Lk
   simp only [List.take, List.drop]
   replace M := M.sees Sw34
   refine wpL_nil (then_normal ?_)
   refine any_step [3, 6] (by kernel_rfl) rfl (any_two ?_ (any_one ?_))
   ·
    refine any_opL 3 (by rfl) ?_
    simp only [List.take, List.drop]
    refine wpL_append0 (m := 1) (news := [.string (bs ((([1]) ++ s0) ++ x))]) (z := .string { data := #[] }) (bytes := 16) (by rfl) (by rfl) (by rfl) (by rfl) Tryd.underlying48 (by kernel_rfl) rfl rfl (by decide) (M.r 0 0 rfl rfl) (by decide) (by decide) (fun g35 g35c w36 Sw36 Hg35 Cg35 R T L => ?_)
    replace M := (M.sees Sw36).addR (M.ge Hg35) (M.fresh Hg35) T R L
    clear T R L
    simp only [putT, List.set]
    refine wpL_nil (then_normal ?_)
    refine any_step [6] (by kernel_rfl) rfl (any_one ?_)
    refine any_opL 6 (by rfl) ?_
    simp only [List.take, List.drop]
    refine wpL_chunk 1 (by rfl) (fun Lk hLk => ?_)
    simp only [List.take, List.drop]
    refine wpV_load1 (v := .string (bs s0)) (by rfl) rfl rfl (range_one (M.r 2 0 rfl rfl)) (M.lt 2 rfl) Tryd.underlying9 rfl ?_
    simp only [putT, List.set]
    refine wpV_nil (hLk _ (fun w37 Sw37 => ?_))
    clear hLk Lk
    simp only [List.take, List.drop]
    replace M := M.sees Sw37
    refine wpL_nil (then_normal ?_)
    refine any_step [7] (by kernel_rfl) rfl (any_one ?_)
    refine any_opL 7 (by rfl) ?_
    simp only [List.take, List.drop]
    refine wpL_chunk 1 (by rfl) (fun Lk hLk => ?_)
    simp only [List.take, List.drop]
    refine wpV_callf (v := .string (bs (nodeS s0 x))) (args := #[.bool false, .string (bs x), .string (bs s0)]) (by rfl) rfl Tryd.func101 (by kernel_rfl) (by kernel_rfl) rfl (fun W hW => by with_reducible exact joined_f (x := x) (s0 := s0) hx hs ((M.sees hW).oldL L0) ((M.sees hW).oldG R0_0 L0 (by simp; omega))) ?_
    simp only [putT, List.set]
    refine wpV_nil (hLk _ (fun w38 Sw38 => ?_))
    clear hLk Lk
    simp only [List.take, List.drop]
    replace M := M.sees Sw38
    refine wpL_nil (then_normal ?_)
    refine any_step [8] (by kernel_rfl) rfl (any_one ?_)
    refine any_opL 8 (by rfl) ?_
    simp only [List.take, List.drop]
    refine wpL_store1 (g := h) (off := 0) (n := 1) (v := .slice (some ⟨g35, 0, none⟩) 1 g35c) (by rfl) (by rfl) (by rfl) (by rfl) (by rfl) (M.t 3 rfl) (by decide) info48 rfl (fun w39 P R T => ?_)
    replace M := M.putS (new := [.slice (some ⟨g35, 0, none⟩) 1 g35c]) 3 0 rfl P R T rfl ⟨.inl rfl, trivial⟩
    simp only [List.set] at M
    refine wpL_nil (then_normal ?_)
    refine any_step [9] (by kernel_rfl) rfl (any_one ?_)
    refine any_opL 9 (by rfl) ?_
    simp only [List.take, List.drop]
    refine wpL_store1 (g := g) (off := 0) (n := 1) (v := .string (bs (nodeS s0 x))) (by rfl) (by rfl) (by rfl) (by rfl) (by rfl) (M.t 2 rfl) (by decide) info9 rfl (fun w40 P R T => ?_)
    replace M := M.putS (new := [.string (bs (nodeS s0 x))]) 2 0 rfl P R T rfl ⟨.inl rfl, trivial⟩
    simp only [List.set] at M
    refine wpL_nil (then_normal ?_)
    refine any_end (by kernel_rfl) (no_panic ?_)
    repeat (first | with_reducible refine then_exit ?_ | with_reducible refine inblock_exit ?_)
    refine bodyPost_end (v := .tuple #[]) (results_none rfl _ _ _) rfl ?_
    exact ⟨_, rfl, g35, g35c, rfl, Cg35, (M.pick [2, 3, 0] (by decide) rfl)⟩
   ·
    refine any_opL 6 (by rfl) ?_
    simp only [List.take, List.drop]
    refine wpL_chunk 1 (by rfl) (fun Lk hLk => ?_)
    simp only [List.take, List.drop]
    refine wpV_load1 (v := .string (bs s0)) (by rfl) rfl rfl (range_one (M.r 1 0 rfl rfl)) (M.lt 1 rfl) Tryd.underlying9 rfl ?_
    simp only [putT, List.set]
    refine wpV_nil (hLk _ (fun w41 Sw41 => ?_))
    clear hLk Lk
    simp only [List.take, List.drop]
    replace M := M.sees Sw41
    refine wpL_nil (then_normal ?_)
    refine any_step [3] (by kernel_rfl) rfl (any_one ?_)
    refine any_opL 3 (by rfl) ?_
    simp only [List.take, List.drop]
    refine wpL_append0 (m := 1) (news := [.string (bs ((([1]) ++ s0) ++ x))]) (z := .string { data := #[] }) (bytes := 16) (by rfl) (by rfl) (by rfl) (by rfl) Tryd.underlying48 (by kernel_rfl) rfl rfl (by decide) (M.r 0 0 rfl rfl) (by decide) (by decide) (fun g42 g42c w43 Sw43 Hg42 Cg42 R T L => ?_)
    replace M := (M.sees Sw43).addR (M.ge Hg42) (M.fresh Hg42) T R L
    clear T R L
    simp only [putT, List.set]
    refine wpL_nil (then_normal ?_)
    refine any_step [7] (by kernel_rfl) rfl (any_one ?_)
    refine any_opL 7 (by rfl) ?_
    simp only [List.take, List.drop]
    refine wpL_chunk 1 (by rfl) (fun Lk hLk => ?_)
    simp only [List.take, List.drop]
    refine wpV_callf (v := .string (bs (nodeS s0 x))) (args := #[.bool false, .string (bs x), .string (bs s0)]) (by rfl) rfl Tryd.func101 (by kernel_rfl) (by kernel_rfl) rfl (fun W hW => by with_reducible exact joined_f (x := x) (s0 := s0) hx hs ((M.sees hW).oldL L0) ((M.sees hW).oldG R0_0 L0 (by simp; omega))) ?_
    simp only [putT, List.set]
    refine wpV_nil (hLk _ (fun w44 Sw44 => ?_))
    clear hLk Lk
    simp only [List.take, List.drop]
    replace M := M.sees Sw44
    refine wpL_nil (then_normal ?_)
    refine any_step [8] (by kernel_rfl) rfl (any_one ?_)
    refine any_opL 8 (by rfl) ?_
    simp only [List.take, List.drop]
    refine wpL_store1 (g := h) (off := 0) (n := 1) (v := .slice (some ⟨g42, 0, none⟩) 1 g42c) (by rfl) (by rfl) (by rfl) (by rfl) (by rfl) (M.t 3 rfl) (by decide) info48 rfl (fun w45 P R T => ?_)
    replace M := M.putS (new := [.slice (some ⟨g42, 0, none⟩) 1 g42c]) 3 0 rfl P R T rfl ⟨.inl rfl, trivial⟩
    simp only [List.set] at M
    refine wpL_nil (then_normal ?_)
    refine any_step [9] (by kernel_rfl) rfl (any_one ?_)
    refine any_opL 9 (by rfl) ?_
    simp only [List.take, List.drop]
    refine wpL_store1 (g := g) (off := 0) (n := 1) (v := .string (bs (nodeS s0 x))) (by rfl) (by rfl) (by rfl) (by rfl) (by rfl) (M.t 2 rfl) (by decide) info9 rfl (fun w46 P R T => ?_)
    replace M := M.putS (new := [.string (bs (nodeS s0 x))]) 2 0 rfl P R T rfl ⟨.inl rfl, trivial⟩
    simp only [List.set] at M
    refine wpL_nil (then_normal ?_)
    refine any_end (by kernel_rfl) (no_panic ?_)
    repeat (first | with_reducible refine then_exit ?_ | with_reducible refine inblock_exit ?_)
    refine bodyPost_end (v := .tuple #[]) (results_none rfl _ _ _) rfl ?_
    exact ⟨_, rfl, g42, g42c, rfl, Cg42, (M.pick [2, 3, 0] (by decide) rfl)⟩
  ·
   refine any_opL 6 (by rfl) ?_
   simp only [List.take, List.drop]
   refine wpL_chunk 1 (by rfl) (fun Lk hLk => ?_)
   simp only [List.take, List.drop]
   refine wpV_load1 (v := .string (bs s0)) (by rfl) rfl rfl (range_one (M.r 1 0 rfl rfl)) (M.lt 1 rfl) Tryd.underlying9 rfl ?_
   simp only [putT, List.set]
   refine wpV_nil (hLk _ (fun w47 Sw47 => ?_))
   clear hLk Lk
   simp only [List.take, List.drop]
   replace M := M.sees Sw47
   refine wpL_nil (then_normal ?_)
   refine any_step [0] (by kernel_rfl) rfl (any_one ?_)
   refine any_opL 0 (by rfl) ?_
   simp only [List.take, List.drop]
   refine wpL_chunk 1 (by rfl) (fun Lk hLk => ?_)
   simp only [List.take, List.drop]
   refine wpV_load1 (v := .slice none 0 0) (by rfl) rfl rfl (range_one (M.r 2 0 rfl rfl)) (M.lt 2 rfl) Tryd.underlying48 rfl ?_
   simp only [putT, List.set]
   refine wpV_nil (hLk _ (fun w48 Sw48 => ?_))
   clear hLk Lk
   simp only [List.take, List.drop]
   replace M := M.sees Sw48
   refine wpL_nil (then_normal ?_)
   refine any_step [3] (by kernel_rfl) rfl (any_one ?_)
   refine any_opL 3 (by rfl) ?_
   simp only [List.take, List.drop]
   refine wpL_append0 (m := 1) (news := [.string (bs ((([1]) ++ s0) ++ x))]) (z := .string { data := #[] }) (bytes := 16) (by rfl) (by rfl) (by rfl) (by rfl) Tryd.underlying48 (by kernel_rfl) rfl rfl (by decide) (M.r 0 0 rfl rfl) (by decide) (by decide) (fun g49 g49c w50 Sw50 Hg49 Cg49 R T L => ?_)
   replace M := (M.sees Sw50).addR (M.ge Hg49) (M.fresh Hg49) T R L
   clear T R L
   simp only [putT, List.set]
   refine wpL_nil (then_normal ?_)
   refine any_step [7] (by kernel_rfl) rfl (any_one ?_)
   refine any_opL 7 (by rfl) ?_
   simp only [List.take, List.drop]
   refine wpL_chunk 1 (by rfl) (fun Lk hLk => ?_)
   simp only [List.take, List.drop]
   refine wpV_callf (v := .string (bs (nodeS s0 x))) (args := #[.bool false, .string (bs x), .string (bs s0)]) (by rfl) rfl Tryd.func101 (by kernel_rfl) (by kernel_rfl) rfl (fun W hW => by with_reducible exact joined_f (x := x) (s0 := s0) hx hs ((M.sees hW).oldL L0) ((M.sees hW).oldG R0_0 L0 (by simp; omega))) ?_
   simp only [putT, List.set]
   refine wpV_nil (hLk _ (fun w51 Sw51 => ?_))
   clear hLk Lk
   simp only [List.take, List.drop]
   replace M := M.sees Sw51
   refine wpL_nil (then_normal ?_)
   refine any_step [8] (by kernel_rfl) rfl (any_one ?_)
   refine any_opL 8 (by rfl) ?_
   simp only [List.take, List.drop]
   refine wpL_store1 (g := h) (off := 0) (n := 1) (v := .slice (some ⟨g49, 0, none⟩) 1 g49c) (by rfl) (by rfl) (by rfl) (by rfl) (by rfl) (M.t 3 rfl) (by decide) info48 rfl (fun w52 P R T => ?_)
   replace M := M.putS (new := [.slice (some ⟨g49, 0, none⟩) 1 g49c]) 3 0 rfl P R T rfl ⟨.inl rfl, trivial⟩
   simp only [List.set] at M
   refine wpL_nil (then_normal ?_)
   refine any_step [9] (by kernel_rfl) rfl (any_one ?_)
   refine any_opL 9 (by rfl) ?_
   simp only [List.take, List.drop]
   refine wpL_store1 (g := g) (off := 0) (n := 1) (v := .string (bs (nodeS s0 x))) (by rfl) (by rfl) (by rfl) (by rfl) (by rfl) (M.t 2 rfl) (by decide) info9 rfl (fun w53 P R T => ?_)
   replace M := M.putS (new := [.string (bs (nodeS s0 x))]) 2 0 rfl P R T rfl ⟨.inl rfl, trivial⟩
   simp only [List.set] at M
   refine wpL_nil (then_normal ?_)
   refine any_end (by kernel_rfl) (no_panic ?_)
   repeat (first | with_reducible refine then_exit ?_ | with_reducible refine inblock_exit ?_)
   refine bodyPost_end (v := .tuple #[]) (results_none rfl _ _ _) rfl ?_
   exact ⟨_, rfl, g49, g49c, rfl, Cg49, (M.pick [2, 3, 0] (by decide) rfl)⟩
 ·
  refine any_opL 6 (by rfl) ?_
  simp only [List.take, List.drop]
  refine wpL_chunk 1 (by rfl) (fun Lk hLk => ?_)
  simp only [List.take, List.drop]
  refine wpV_load1 (v := .string (bs s0)) (by rfl) rfl rfl (range_one (M.r 0 0 rfl rfl)) (M.lt 0 rfl) Tryd.underlying9 rfl ?_
  simp only [putT, List.set]
  refine wpV_nil (hLk _ (fun w54 Sw54 => ?_))
  clear hLk Lk
  simp only [List.take, List.drop]
  replace M := M.sees Sw54
  refine wpL_nil (then_normal ?_)
  refine any_step [0, 2] (by kernel_rfl) rfl (any_two ?_ (any_one ?_))
  ·
   refine any_opL 0 (by rfl) ?_
   simp only [List.take, List.drop]
   refine wpL_chunk 1 (by rfl) (fun Lk hLk => ?_)
   simp only [List.take, List.drop]
   refine wpV_load1 (v := .slice none 0 0) (by rfl) rfl rfl (range_one (M.r 1 0 rfl rfl)) (M.lt 1 rfl) Tryd.underlying48 rfl ?_
   simp only [putT, List.set]
   refine wpV_nil (hLk _ (fun w55 Sw55 => ?_))
   clear hLk Lk
   simp only [List.take, List.drop]
   replace M := M.sees Sw55
   refine wpL_nil (then_normal ?_)
   refine any_step [2] (by kernel_rfl) rfl (any_one ?_)
   refine any_opL 2 (by rfl) ?_
   simp only [List.take, List.drop]
   refine wpL_rowN (vs := [.string (bs ((([1]) ++ s0) ++ x))]) (z := .string { data := #[] }) (bytes := 16) (by rfl) (by rfl) Tryd.underlying48 (by kernel_rfl) (by decide) (by kernel_rfl) (fun g56 w57 Sw57 Hg56 Bg56 => ?_)
   replace M := ((M.sees Sw57).add (N := 1) (cs := [.string (bs ((([1]) ++ s0) ++ x))]) (M.ge Hg56) (M.fresh Hg56) Bg56 (by simp [flen]))
   clear Bg56
   simp only [putT, List.set]
   refine wpL_nil (then_normal ?_)
   refine any_step [3] (by kernel_rfl) rfl (any_one ?_)
   refine any_opL 3 (by rfl) ?_
   simp only [List.take, List.drop]
   refine wpL_append0 (m := 1) (news := [.string (bs ((([1]) ++ s0) ++ x))]) (z := .string { data := #[] }) (bytes := 16) (by rfl) (by rfl) (by rfl) (by rfl) Tryd.underlying48 (by kernel_rfl) rfl rfl (by decide) (M.r 0 0 rfl rfl) (by decide) (by decide) (fun g58 g58c w59 Sw59 Hg58 Cg58 R T L => ?_)
   replace M := (M.sees Sw59).addR (M.ge Hg58) (M.fresh Hg58) T R L
   clear T R L
   simp only [putT, List.set]
   refine wpL_nil (then_normal ?_)
   refine any_step [7] (by kernel_rfl) rfl (any_one ?_)
   refine any_opL 7 (by rfl) ?_
   simp only [List.take, List.drop]
   refine wpL_chunk 1 (by rfl) (fun Lk hLk => ?_)
   simp only [List.take, List.drop]
   refine wpV_callf (v := .string (bs (nodeS s0 x))) (args := #[.bool false, .string (bs x), .string (bs s0)]) (by rfl) rfl Tryd.func101 (by kernel_rfl) (by kernel_rfl) rfl (fun W hW => by with_reducible exact joined_f (x := x) (s0 := s0) hx hs ((M.sees hW).oldL L0) ((M.sees hW).oldG R0_0 L0 (by simp; omega))) ?_
   simp only [putT, List.set]
   refine wpV_nil (hLk _ (fun w60 Sw60 => ?_))
   clear hLk Lk
   simp only [List.take, List.drop]
   replace M := M.sees Sw60
   refine wpL_nil (then_normal ?_)
   refine any_step [8] (by kernel_rfl) rfl (any_one ?_)
   refine any_opL 8 (by rfl) ?_
   simp only [List.take, List.drop]
   refine wpL_store1 (g := h) (off := 0) (n := 1) (v := .slice (some ⟨g58, 0, none⟩) 1 g58c) (by rfl) (by rfl) (by rfl) (by rfl) (by rfl) (M.t 3 rfl) (by decide) info48 rfl (fun w61 P R T => ?_)
   replace M := M.putS (new := [.slice (some ⟨g58, 0, none⟩) 1 g58c]) 3 0 rfl P R T rfl ⟨.inl rfl, trivial⟩
   simp only [List.set] at M
   refine wpL_nil (then_normal ?_)
   refine any_step [9] (by kernel_rfl) rfl (any_one ?_)
   refine any_opL 9 (by rfl) ?_
   simp only [List.take, List.drop]
   refine wpL_store1 (g := g) (off := 0) (n := 1) (v := .string (bs (nodeS s0 x))) (by rfl) (by rfl) (by rfl) (by rfl) (by rfl) (M.t 2 rfl) (by decide) info9 rfl (fun w62 P R T => ?_)
   replace M := M.putS (new := [.string (bs (nodeS s0 x))]) 2 0 rfl P R T rfl ⟨.inl rfl, trivial⟩
   simp only [List.set] at M
   refine wpL_nil (then_normal ?_)
   refine any_end (by kernel_rfl) (no_panic ?_)
   repeat (first | with_reducible refine then_exit ?_ | with_reducible refine inblock_exit ?_)
   refine bodyPost_end (v := .tuple #[]) (results_none rfl _ _ _) rfl ?_
   exact ⟨_, rfl, g58, g58c, rfl, Cg58, (M.pick [2, 3, 0] (by decide) rfl)⟩
  ·
   refine any_opL 2 (by rfl) ?_
   simp only [List.take, List.drop]
   refine wpL_rowN (vs := [.string (bs ((([1]) ++ s0) ++ x))]) (z := .string { data := #[] }) (bytes := 16) (by rfl) (by rfl) Tryd.underlying48 (by kernel_rfl) (by decide) (by kernel_rfl) (fun g63 w64 Sw64 Hg63 Bg63 => ?_)
   replace M := ((M.sees Sw64).add (N := 1) (cs := [.string (bs ((([1]) ++ s0) ++ x))]) (M.ge Hg63) (M.fresh Hg63) Bg63 (by simp [flen]))
   clear Bg63
   simp only [putT, List.set]
   refine wpL_nil (then_normal ?_)
   refine any_step [0] (by kernel_rfl) rfl (any_one ?_)
   refine any_opL 0 (by rfl) ?_
   simp only [List.take, List.drop]
   refine wpL_chunk 1 (by rfl) (fun Lk hLk => ?_)
   simp only [List.take, List.drop]
   refine wpV_load1 (v := .slice none 0 0) (by rfl) rfl rfl (range_one (M.r 2 0 rfl rfl)) (M.lt 2 rfl) Tryd.underlying48 rfl ?_
   simp only [putT, List.set]
   refine wpV_nil (hLk _ (fun w65 Sw65 => ?_))
   clear hLk Lk
   simp only [List.take, List.drop]
   replace M := M.sees Sw65
   refine wpL_nil (then_normal ?_)
   refine any_step [3] (by kernel_rfl) rfl (any_one ?_)
   refine any_opL 3 (by rfl) ?_
   simp only [List.take, List.drop]
   refine wpL_append0 (m := 1) (news := [.string (bs ((([1]) ++ s0) ++ x))]) (z := .string { data := #[] }) (bytes := 16) (by rfl) (by rfl) (by rfl) (by rfl) Tryd.underlying48 (by kernel_rfl) rfl rfl (by decide) (M.r 0 0 rfl rfl) (by decide) (by decide) (fun g66 g66c w67 Sw67 Hg66 Cg66 R T L => ?_)
   replace M := (M.sees Sw67).addR (M.ge Hg66) (M.fresh Hg66) T R L
   clear T R L
   simp only [putT, List.set]
   refine wpL_nil (then_normal ?_)
   refine any_step [7] (by kernel_rfl) rfl (any_one ?_)
   refine any_opL 7 (by rfl) ?_
   simp only [List.take, List.drop]
   refine wpL_chunk 1 (by rfl) (fun Lk hLk => ?_)
   simp only [List.take, List.drop]
   refine wpV_callf (v := .string (bs (nodeS s0 x))) (args := #[.bool false, .string (bs x), .string (bs s0)]) (by rfl) rfl Tryd.func101 (by kernel_rfl) (by kernel_rfl) rfl (fun W hW => by with_reducible exact joined_f (x := x) (s0 := s0) hx hs ((M.sees hW).oldL L0) ((M.sees hW).oldG R0_0 L0 (by simp; omega))) ?_
   simp only [putT, List.set]
   refine wpV_nil (hLk _ (fun w68 Sw68 => ?_))
   clear hLk Lk
   simp only [List.take, List.drop]
   replace M := M.sees Sw68
   refine wpL_nil (then_normal ?_)
   refine any_step [8] (by kernel_rfl) rfl (any_one ?_)
   refine any_opL 8 (by rfl) ?_
   simp only [List.take, List.drop]
   refine wpL_store1 (g := h) (off := 0) (n := 1) (v := .slice (some ⟨g66, 0, none⟩) 1 g66c) (by rfl) (by rfl) (by rfl) (by rfl) (by rfl) (M.t 3 rfl) (by decide) info48 rfl (fun w69 P R T => ?_)
   replace M := M.putS (new := [.slice (some ⟨g66, 0, none⟩) 1 g66c]) 3 0 rfl P R T rfl ⟨.inl rfl, trivial⟩
   simp only [List.set] at M
   refine wpL_nil (then_normal ?_)
   refine any_step [9] (by kernel_rfl) rfl (any_one ?_)
   refine any_opL 9 (by rfl) ?_
   simp only [List.take, List.drop]
   refine wpL_store1 (g := g) (off := 0) (n := 1) (v := .string (bs (nodeS s0 x))) (by rfl) (by rfl) (by rfl) (by rfl) (by rfl) (M.t 2 rfl) (by decide) info9 rfl (fun w70 P R T => ?_)
   replace M := M.putS (new := [.string (bs (nodeS s0 x))]) 2 0 rfl P R T rfl ⟨.inl rfl, trivial⟩
   simp only [List.set] at M
   refine wpL_nil (then_normal ?_)
   refine any_end (by kernel_rfl) (no_panic ?_)
   repeat (first | with_reducible refine then_exit ?_ | with_reducible refine inblock_exit ?_)
   refine bodyPost_end (v := .tuple #[]) (results_none rfl _ _ _) rfl ?_
   exact ⟨_, rfl, g66, g66c, rfl, Cg66, (M.pick [2, 3, 0] (by decide) rfl)⟩
set_option maxHeartbeats 1000000 in
theorem tx1_rt {g h : Nat} {x s0 : List UInt8} {r rc : Nat} {o : List (List UInt8)} {w : World} (hx : x.length = 32) (hs : s0.length = 32) (hg0 : g ≠ 0) (hh0 : h ≠ 0) (hr0 : r ≠ 0) (hrc : o.length ≤ rc) (ho : o.length ≤ 4096) (L0 : 0 < w.heap.size) (R0_0 : w.rangeAt 0 0 kcells) (hM : Mem [g, h, r] w w [⟨g, 1, [(0, [.string (bs s0)])]⟩, ⟨h, 1, [(0, [.slice (some ⟨r, 0, none⟩) o.length rc])]⟩, ⟨r, rc, [(0, scells o)]⟩]) :
  Calls Tryd.prog 100 #[.bool true, .string (bs x), .pointer (some ⟨g, 0, none⟩), .pointer (some ⟨h, 0, none⟩)] w fun e w' => ∃ v, e = .returned v ∧ ∃ r9 c9, v = .tuple #[] ∧ (o ++ [[1] ++ x ++ s0]).length ≤ c9 ∧ Mem [g, h, r] w w' [⟨g, 1, [(0, [.string (bs (nodeS x s0))])]⟩, ⟨h, 1, [(0, [.slice (some ⟨r9, 0, none⟩) (o ++ [[1] ++ x ++ s0]).length c9])]⟩, ⟨r9, c9, [(0, scells (o ++ [[1] ++ x ++ s0]))]⟩] := by
 go_enter Tryd.func100, Tryd.ntmps100
 have M := hM
 refine wp_seq_k (fun K1 hK1 => ?_)
 refine wp_region_seq ?_
 refine wpL_chunk 4 (by rfl) (fun Lk hLk => ?_)
 simp only [List.take, List.drop]
 refine wpV_load1 (v := .string (bs s0)) (by rfl) rfl rfl (range_one (M.r 0 0 rfl rfl)) (M.lt 0 rfl) Tryd.underlying9 rfl ?_
 simp only [putT, List.set]
 refine wpV_binS (v := .string (bs (([1]) ++ s0))) (by rfl) rfl rfl rfl (run_add_bs _ _ _ (by simp only [List.length_append, List.length_singleton, List.length_cons, List.length_nil]; omega)) ?_
 simp only [putT, List.set]
 refine wpV_move (v := .string (bs x)) (by rfl) rfl rfl ?_
 simp only [putT, List.set]
 refine wpV_binS (v := .string (bs ((([1]) ++ s0) ++ x))) (by rfl) rfl rfl rfl (run_add_bs _ _ _ (by simp only [List.length_append, List.length_singleton, List.length_cons, List.length_nil]; omega)) ?_
 simp only [putT, List.set]
 refine wpV_nil (hLk _ (fun w3 Sw3 => ?_))
 clear hLk Lk
 simp only [List.take, List.drop]
 replace M := M.sees Sw3
 refine wpL_assign (v := .string (bs ((([1]) ++ s0) ++ x))) (by rfl) (by rfl) (by rfl) ?_
 simp only [putT, List.set]
 refine wpL_nil (no_panic ?_)
 refine hK1 _ _ ?_
 refine wp_seq_k (fun K4 hK4 => ?_)
 refine wp_seq_k (fun K5 hK5 => ?_)
 refine wp_region_seq ?_
 refine wpL_move (v := .bool true) (by rfl) (by rfl) (by rfl) ?_
 simp only [putT, List.set]
 refine wpL_nil (no_panic ?_)
 refine hK5 _ _ ?_
 refine wp_cond_true rfl ?_
 refine wp_region_seq ?_
 refine wpL_move (v := .string (bs x)) (by rfl) (by rfl) (by rfl) ?_
 simp only [putT, List.set]
 refine wpL_chunk 3 (by rfl) (fun Lk hLk => ?_)
 simp only [List.take, List.drop]
 refine wpV_binS (v := .string (bs (([1]) ++ x))) (by rfl) rfl rfl rfl (run_add_bs _ _ _ (by simp only [List.length_append, List.length_singleton, List.length_cons, List.length_nil]; omega)) ?_
 simp only [putT, List.set]
 refine wpV_load1 (v := .string (bs s0)) (by rfl) rfl rfl (range_one (M.r 0 0 rfl rfl)) (M.lt 0 rfl) Tryd.underlying9 rfl ?_
 simp only [putT, List.set]
 refine wpV_binS (v := .string (bs ((([1]) ++ x) ++ s0))) (by rfl) rfl rfl rfl (run_add_bs _ _ _ (by simp only [List.length_append, List.length_singleton, List.length_cons, List.length_nil]; omega)) ?_
 simp only [putT, List.set]
 refine wpV_nil (hLk _ (fun w8 Sw8 => ?_))
 clear hLk Lk
 simp only [List.take, List.drop]
 replace M := M.sees Sw8
 refine wpL_assign (v := .string (bs ((([1]) ++ x) ++ s0))) (by rfl) (by rfl) (by rfl) ?_
 simp only [putT, List.set]
 refine wpL_nil (no_panic ?_)
 refine hK4 _ _ ?_
 refine wp_region_treeN (by kernel_rfl) (fun w10 Sw10 => ?_)
 replace M := M.sees Sw10
 refine any_first 1 (v := .string (bs ((([1]) ++ x) ++ s0))) (by rfl) (by kernel_rfl) nopanic_not (by rfl) (by exact yl_move rfl rfl) ?_
 simp only [putT, List.set]
 refine any_first 4 (v := .bool true) (by rfl) (by kernel_rfl) nopanic_not (by rfl) (by exact yl_move rfl rfl) ?_
 simp only [putT, List.set]
 refine any_first 5 (v := .string (bs x)) (by rfl) (by kernel_rfl) nopanic_not (by rfl) (by exact yl_move rfl rfl) ?_
 simp only [putT, List.set]
 refine any_step [0, 2, 6] (by kernel_rfl) rfl (any_two ?_ (any_two ?_ (any_one ?_)))
 ·
  refine any_opL 0 (by rfl) ?_
  simp only [List.take, List.drop]
  refine wpL_chunk 1 (by rfl) (fun Lk hLk => ?_)
  simp only [List.take, List.drop]
  refine wpV_load1 (v := .slice (some ⟨r, 0, none⟩) o.length rc) (by rfl) rfl rfl (range_one (M.r 1 0 rfl rfl)) (M.lt 1 rfl) Tryd.underlying48 rfl ?_
  simp only [putT, List.set]
  refine wpV_nil (hLk _ (fun w11 Sw11 => ?_))
  clear hLk Lk
  simp only [List.take, List.drop]
  replace M := M.sees Sw11
  refine wpL_nil (then_normal ?_)
  refine any_step [2, 6] (by kernel_rfl) rfl (any_two ?_ (any_one ?_))
  ·
   refine any_opL 2 (by rfl) ?_
   simp only [List.take, List.drop]
   refine wpL_rowN (vs := [.string (bs ((([1]) ++ x) ++ s0))]) (z := .string { data := #[] }) (bytes := 16) (by rfl) (by rfl) Tryd.underlying48 (by kernel_rfl) (by decide) (by kernel_rfl) (fun g12 w13 Sw13 Hg12 Bg12 => ?_)
   replace M := ((M.sees Sw13).add (N := 1) (cs := [.string (bs ((([1]) ++ x) ++ s0))]) (M.ge Hg12) (M.fresh Hg12) Bg12 (by simp [flen]))
   clear Bg12
   simp only [putT, List.set]
   refine wpL_nil (then_normal ?_)
   refine any_step [3, 6] (by kernel_rfl) rfl (any_two ?_ (any_one ?_))
   ·
    refine any_opL 3 (by rfl) ?_
    simp only [List.take, List.drop]
    refine wpL_append (n := o.length) (m := 1) (olds := scells o) (news := [.string (bs ((([1]) ++ x) ++ s0))]) (z := .string { data := #[] }) (bytes := 16) (by rfl) (by rfl) (by rfl) (by rfl) Tryd.underlying48 (by kernel_rfl) rfl rfl (scells_len _) rfl (M.r 3 0 rfl rfl) (M.t 3 rfl) (M.lt 3 rfl) (M.r 0 0 rfl rfl) (by intro u hu; rw [List.mem_singleton.1 hu]; rfl) (by omega) (by simp only [maxLen]; omega) (fun g14 g14c w15 Sw15 Q Cg14 R T L => ?_)
    replace M := M.grow 3 rfl Sw15 Q R T L
    simp only [List.set] at M
    clear Q R T L
    rw [scells_more9] at M
    simp only [putT, List.set]
    refine wpL_nil (then_normal ?_)
    refine any_step [6] (by kernel_rfl) rfl (any_one ?_)
    refine any_opL 6 (by rfl) ?_
    simp only [List.take, List.drop]
    refine wpL_chunk 1 (by rfl) (fun Lk hLk => ?_)
    simp only [List.take, List.drop]
    refine wpV_load1 (v := .string (bs s0)) (by rfl) rfl rfl (range_one (M.r 1 0 rfl rfl)) (M.lt 1 rfl) Tryd.underlying9 rfl ?_
    simp only [putT, List.set]
    refine wpV_nil (hLk _ (fun w16 Sw16 => ?_))
    clear hLk Lk
    simp only [List.take, List.drop]
    replace M := M.sees Sw16
    refine wpL_nil (then_normal ?_)
    refine any_step [7] (by kernel_rfl) rfl (any_one ?_)
    refine any_opL 7 (by rfl) ?_
    simp only [List.take, List.drop]
    refine wpL_chunk 1 (by rfl) (fun Lk hLk => ?_)
    simp only [List.take, List.drop]
    refine wpV_callf (v := .string (bs (nodeS x s0))) (args := #[.bool true, .string (bs x), .string (bs s0)]) (by rfl) rfl Tryd.func101 (by kernel_rfl) (by kernel_rfl) rfl (fun W hW => by with_reducible exact joined_t (x := x) (s0 := s0) hx hs ((M.sees hW).oldL L0) ((M.sees hW).oldG R0_0 L0 (by simp; omega))) ?_
    simp only [putT, List.set]
    refine wpV_nil (hLk _ (fun w17 Sw17 => ?_))
    clear hLk Lk
    simp only [List.take, List.drop]
    replace M := M.sees Sw17
    refine wpL_nil (then_normal ?_)
    refine any_step [8] (by kernel_rfl) rfl (any_one ?_)
    refine any_opL 8 (by rfl) ?_
    simp only [List.take, List.drop]
    refine wpL_store1 (g := h) (off := 0) (n := 1) (v := .slice (some ⟨g14, 0, none⟩) (o.length + 1) g14c) (by rfl) (by rfl) (by rfl) (by rfl) (by rfl) (M.t 2 rfl) (by decide) info48 rfl (fun w18 P R T => ?_)
    replace M := M.putS (new := [.slice (some ⟨g14, 0, none⟩) (o.length + 1) g14c]) 2 0 rfl P R T rfl ⟨.inl rfl, trivial⟩
    simp only [List.set] at M
    refine wpL_nil (then_normal ?_)
    refine any_step [9] (by kernel_rfl) rfl (any_one ?_)
    refine any_opL 9 (by rfl) ?_
    simp only [List.take, List.drop]
    refine wpL_store1 (g := g) (off := 0) (n := 1) (v := .string (bs (nodeS x s0))) (by rfl) (by rfl) (by rfl) (by rfl) (by rfl) (M.t 1 rfl) (by decide) info9 rfl (fun w19 P R T => ?_)
    replace M := M.putS (new := [.string (bs (nodeS x s0))]) 1 0 rfl P R T rfl ⟨.inl rfl, trivial⟩
    simp only [List.set] at M
    refine wpL_nil (then_normal ?_)
    refine any_end (by kernel_rfl) (no_panic ?_)
    repeat (first | with_reducible refine then_exit ?_ | with_reducible refine inblock_exit ?_)
    refine bodyPost_end (v := .tuple #[]) (results_none rfl _ _ _) rfl ?_
    simp only [List.length_append, List.length_singleton]
    exact ⟨_, rfl, g14, g14c, rfl, Cg14, (M.pick [1, 2, 3] (by decide) rfl)⟩
   ·
    refine any_opL 6 (by rfl) ?_
    simp only [List.take, List.drop]
    refine wpL_chunk 1 (by rfl) (fun Lk hLk => ?_)
    simp only [List.take, List.drop]
    refine wpV_load1 (v := .string (bs s0)) (by rfl) rfl rfl (range_one (M.r 1 0 rfl rfl)) (M.lt 1 rfl) Tryd.underlying9 rfl ?_
    simp only [putT, List.set]
    refine wpV_nil (hLk _ (fun w20 Sw20 => ?_))
    clear hLk Lk
    simp only [List.take, List.drop]
    replace M := M.sees Sw20
    refine wpL_nil (then_normal ?_)
    refine any_step [3] (by kernel_rfl) rfl (any_one ?_)
    refine any_opL 3 (by rfl) ?_
    simp only [List.take, List.drop]
    refine wpL_append (n := o.length) (m := 1) (olds := scells o) (news := [.string (bs ((([1]) ++ x) ++ s0))]) (z := .string { data := #[] }) (bytes := 16) (by rfl) (by rfl) (by rfl) (by rfl) Tryd.underlying48 (by kernel_rfl) rfl rfl (scells_len _) rfl (M.r 3 0 rfl rfl) (M.t 3 rfl) (M.lt 3 rfl) (M.r 0 0 rfl rfl) (by intro u hu; rw [List.mem_singleton.1 hu]; rfl) (by omega) (by simp only [maxLen]; omega) (fun g21 g21c w22 Sw22 Q Cg21 R T L => ?_)
    replace M := M.grow 3 rfl Sw22 Q R T L
    simp only [List.set] at M
    clear Q R T L
    rw [scells_more9] at M
    simp only [putT, List.set]
    refine wpL_nil (then_normal ?_)
    refine any_step [7] (by kernel_rfl) rfl (any_one ?_)
    refine any_opL 7 (by rfl) ?_
    simp only [List.take, List.drop]
    refine wpL_chunk 1 (by rfl) (fun Lk hLk => ?_)
    simp only [List.take, List.drop]
    refine wpV_callf (v := .string (bs (nodeS x s0))) (args := #[.bool true, .string (bs x), .string (bs s0)]) (by rfl) rfl Tryd.func101 (by kernel_rfl) (by kernel_rfl) rfl (fun W hW => by with_reducible exact joined_t (x := x) (s0 := s0) hx hs ((M.sees hW).oldL L0) ((M.sees hW).oldG R0_0 L0 (by simp; omega))) ?_
    simp only [putT, List.set]
    refine wpV_nil (hLk _ (fun w23 Sw23 => ?_))
    clear hLk Lk
    simp only [List.take, List.drop]
    replace M := M.sees Sw23
    refine wpL_nil (then_normal ?_)
    refine any_step [8] (by kernel_rfl) rfl (any_one ?_)
    refine any_opL 8 (by rfl) ?_
    simp only [List.take, List.drop]
    refine wpL_store1 (g := h) (off := 0) (n := 1) (v := .slice (some ⟨g21, 0, none⟩) (o.length + 1) g21c) (by rfl) (by rfl) (by rfl) (by rfl) (by rfl) (M.t 2 rfl) (by decide) info48 rfl (fun w24 P R T => ?_)
    replace M := M.putS (new := [.slice (some ⟨g21, 0, none⟩) (o.length + 1) g21c]) 2 0 rfl P R T rfl ⟨.inl rfl, trivial⟩
    simp only [List.set] at M
    refine wpL_nil (then_normal ?_)
    refine any_step [9] (by kernel_rfl) rfl (any_one ?_)
    refine any_opL 9 (by rfl) ?_
    simp only [List.take, List.drop]
    refine wpL_store1 (g := g) (off := 0) (n := 1) (v := .string (bs (nodeS x s0))) (by rfl) (by rfl) (by rfl) (by rfl) (by rfl) (M.t 1 rfl) (by decide) info9 rfl (fun w25 P R T => ?_)
    replace M := M.putS (new := [.string (bs (nodeS x s0))]) 1 0 rfl P R T rfl ⟨.inl rfl, trivial⟩
    simp only [List.set] at M
    refine wpL_nil (then_normal ?_)
    refine any_end (by kernel_rfl) (no_panic ?_)
    repeat (first | with_reducible refine then_exit ?_ | with_reducible refine inblock_exit ?_)
    refine bodyPost_end (v := .tuple #[]) (results_none rfl _ _ _) rfl ?_
    simp only [List.length_append, List.length_singleton]
    exact ⟨_, rfl, g21, g21c, rfl, Cg21, (M.pick [1, 2, 3] (by decide) rfl)⟩
  ·
   refine any_opL 6 (by rfl) ?_
   simp only [List.take, List.drop]
   refine wpL_chunk 1 (by rfl) (fun Lk hLk => ?_)
   simp only [List.take, List.drop]
   refine wpV_load1 (v := .string (bs s0)) (by rfl) rfl rfl (range_one (M.r 0 0 rfl rfl)) (M.lt 0 rfl) Tryd.underlying9 rfl ?_
   simp only [putT, List.set]
   refine wpV_nil (hLk _ (fun w26 Sw26 => ?_))
   clear hLk Lk
   simp only [List.take, List.drop]
   replace M := M.sees Sw26
   refine wpL_nil (then_normal ?_)
   refine any_step [2] (by kernel_rfl) rfl (any_one ?_)
   refine any_opL 2 (by rfl) ?_
   simp only [List.take, List.drop]
   refine wpL_rowN (vs := [.string (bs ((([1]) ++ x) ++ s0))]) (z := .string { data := #[] }) (bytes := 16) (by rfl) (by rfl) Tryd.underlying48 (by kernel_rfl) (by decide) (by kernel_rfl) (fun g27 w28 Sw28 Hg27 Bg27 => ?_)
   replace M := ((M.sees Sw28).add (N := 1) (cs := [.string (bs ((([1]) ++ x) ++ s0))]) (M.ge Hg27) (M.fresh Hg27) Bg27 (by simp [flen]))
   clear Bg27
   simp only [putT, List.set]
   refine wpL_nil (then_normal ?_)
   refine any_step [3] (by kernel_rfl) rfl (any_one ?_)
   refine any_opL 3 (by rfl) ?_
   simp only [List.take, List.drop]
   refine wpL_append (n := o.length) (m := 1) (olds := scells o) (news := [.string (bs ((([1]) ++ x) ++ s0))]) (z := .string { data := #[] }) (bytes := 16) (by rfl) (by rfl) (by rfl) (by rfl) Tryd.underlying48 (by kernel_rfl) rfl rfl (scells_len _) rfl (M.r 3 0 rfl rfl) (M.t 3 rfl) (M.lt 3 rfl) (M.r 0 0 rfl rfl) (by intro u hu; rw [List.mem_singleton.1 hu]; rfl) (by omega) (by simp only [maxLen]; omega) (fun g29 g29c w30 Sw30 Q Cg29 R T L => ?_)
   replace M := M.grow 3 rfl Sw30 Q R T L
   simp only [List.set] at M
   clear Q R T L
   rw [scells_more9] at M
   simp only [putT, List.set]
   refine wpL_nil (then_normal ?_)
   refine any_step [7] (by kernel_rfl) rfl (any_one ?_)
   refine any_opL 7 (by rfl) ?_
   simp only [List.take, List.drop]
   refine wpL_chunk 1 (by rfl) (fun Lk hLk => ?_)
   simp only [List.take, List.drop]
   refine wpV_callf (v := .string (bs (nodeS x s0))) (args := #[.bool true, .string (bs x), .string (bs s0)]) (by rfl) rfl Tryd.func101 (by kernel_rfl) (by kernel_rfl) rfl (fun W hW => by with_reducible exact joined_t (x := x) (s0 := s0) hx hs ((M.sees hW).oldL L0) ((M.sees hW).oldG R0_0 L0 (by simp; omega))) ?_
   simp only [putT, List.set]
   refine wpV_nil (hLk _ (fun w31 Sw31 => ?_))
   clear hLk Lk
   simp only [List.take, List.drop]
   replace M := M.sees Sw31
   refine wpL_nil (then_normal ?_)
   refine any_step [8] (by kernel_rfl) rfl (any_one ?_)
   refine any_opL 8 (by rfl) ?_
   simp only [List.take, List.drop]
   refine wpL_store1 (g := h) (off := 0) (n := 1) (v := .slice (some ⟨g29, 0, none⟩) (o.length + 1) g29c) (by rfl) (by rfl) (by rfl) (by rfl) (by rfl) (M.t 2 rfl) (by decide) info48 rfl (fun w32 P R T => ?_)
   replace M := M.putS (new := [.slice (some ⟨g29, 0, none⟩) (o.length + 1) g29c]) 2 0 rfl P R T rfl ⟨.inl rfl, trivial⟩
   simp only [List.set] at M
   refine wpL_nil (then_normal ?_)
   refine any_step [9] (by kernel_rfl) rfl (any_one ?_)
   refine any_opL 9 (by rfl) ?_
   simp only [List.take, List.drop]
   refine wpL_store1 (g := g) (off := 0) (n := 1) (v := .string (bs (nodeS x s0))) (by rfl) (by rfl) (by rfl) (by rfl) (by rfl) (M.t 1 rfl) (by decide) info9 rfl (fun w33 P R T => ?_)
   replace M := M.putS (new := [.string (bs (nodeS x s0))]) 1 0 rfl P R T rfl ⟨.inl rfl, trivial⟩
   simp only [List.set] at M
   refine wpL_nil (then_normal ?_)
   refine any_end (by kernel_rfl) (no_panic ?_)
   repeat (first | with_reducible refine then_exit ?_ | with_reducible refine inblock_exit ?_)
   refine bodyPost_end (v := .tuple #[]) (results_none rfl _ _ _) rfl ?_
   simp only [List.length_append, List.length_singleton]
   exact ⟨_, rfl, g29, g29c, rfl, Cg29, (M.pick [1, 2, 3] (by decide) rfl)⟩
 ·
  refine any_opL 2 (by rfl) ?_
  simp only [List.take, List.drop]
  refine wpL_rowN (vs := [.string (bs ((([1]) ++ x) ++ s0))]) (z := .string { data := #[] }) (bytes := 16) (by rfl) (by rfl) Tryd.underlying48 (by kernel_rfl) (by decide) (by kernel_rfl) (fun g34 w35 Sw35 Hg34 Bg34 => ?_)
  replace M := ((M.sees Sw35).add (N := 1) (cs := [.string (bs ((([1]) ++ x) ++ s0))]) (M.ge Hg34) (M.fresh Hg34) Bg34 (by simp [flen]))
  clear Bg34
  simp only [putT, List.set]
  refine wpL_nil (then_normal ?_)
  refine any_step [0, 6] (by kernel_rfl) rfl (any_two ?_ (any_one ?_))
  ·
   refine any_opL 0 (by rfl) ?_
   simp only [List.take, List.drop]
   refine wpL_chunk 1 (by rfl) (fun Lk hLk => ?_)
   simp only [List.take, List.drop]
   refine wpV_load1 (v := .slice (some ⟨r, 0, none⟩) o.length rc) (by rfl) rfl rfl (range_one (M.r 2 0 rfl rfl)) (M.lt 2 rfl) Tryd.underlying48 rfl ?_
   simp only [putT, List.set]
   refine wpV_nil (hLk _ (fun w36 Sw36 => ?_))
   clear hLk Lk
   simp only [List.take, List.drop]
   replace M := M.sees Sw36
   refine wpL_nil (then_normal ?_)
   refine any_step [3, 6] (by kernel_rfl) rfl (any_two ?_ (any_one ?_))
   ·
    refine any_opL 3 (by rfl) ?_
    simp only [List.take, List.drop]
    refine wpL_append (n := o.length) (m := 1) (olds := scells o) (news := [.string (bs ((([1]) ++ x) ++ s0))]) (z := .string { data := #[] }) (bytes := 16) (by rfl) (by rfl) (by rfl) (by rfl) Tryd.underlying48 (by kernel_rfl) rfl rfl (scells_len _) rfl (M.r 3 0 rfl rfl) (M.t 3 rfl) (M.lt 3 rfl) (M.r 0 0 rfl rfl) (by intro u hu; rw [List.mem_singleton.1 hu]; rfl) (by omega) (by simp only [maxLen]; omega) (fun g37 g37c w38 Sw38 Q Cg37 R T L => ?_)
    replace M := M.grow 3 rfl Sw38 Q R T L
    simp only [List.set] at M
    clear Q R T L
    rw [scells_more9] at M
    simp only [putT, List.set]
    refine wpL_nil (then_normal ?_)
    refine any_step [6] (by kernel_rfl) rfl (any_one ?_)
    refine any_opL 6 (by rfl) ?_
    simp only [List.take, List.drop]
    refine wpL_chunk 1 (by rfl) (fun Lk hLk => ?_)
    simp only [List.take, List.drop]
    refine wpV_load1 (v := .string (bs s0)) (by rfl) rfl rfl (range_one (M.r 1 0 rfl rfl)) (M.lt 1 rfl) Tryd.underlying9 rfl ?_
    simp only [putT, List.set]
    refine wpV_nil (hLk _ (fun w39 Sw39 => ?_))
    clear hLk Lk
    simp only [List.take, List.drop]
    replace M := M.sees Sw39
    refine wpL_nil (then_normal ?_)
    refine any_step [7] (by kernel_rfl) rfl (any_one ?_)
    refine any_opL 7 (by rfl) ?_
    simp only [List.take, List.drop]
    refine wpL_chunk 1 (by rfl) (fun Lk hLk => ?_)
    simp only [List.take, List.drop]
    refine wpV_callf (v := .string (bs (nodeS x s0))) (args := #[.bool true, .string (bs x), .string (bs s0)]) (by rfl) rfl Tryd.func101 (by kernel_rfl) (by kernel_rfl) rfl (fun W hW => by with_reducible exact joined_t (x := x) (s0 := s0) hx hs ((M.sees hW).oldL L0) ((M.sees hW).oldG R0_0 L0 (by simp; omega))) ?_
    simp only [putT, List.set]
    refine wpV_nil (hLk _ (fun w40 Sw40 => ?_))
    clear hLk Lk
    simp only [List.take, List.drop]
    replace M := M.sees Sw40
    refine wpL_nil (then_normal ?_)
    refine any_step [8] (by kernel_rfl) rfl (any_one ?_)
    refine any_opL 8 (by rfl) ?_
    simp only [List.take, List.drop]
    refine wpL_store1 (g := h) (off := 0) (n := 1) (v := .slice (some ⟨g37, 0, none⟩) (o.length + 1) g37c) (by rfl) (by rfl) (by rfl) (by rfl) (by rfl) (M.t 2 rfl) (by decide) info48 rfl (fun w41 P R T => ?_)
    replace M := M.putS (new := [.slice (some ⟨g37, 0, none⟩) (o.length + 1) g37c]) 2 0 rfl P R T rfl ⟨.inl rfl, trivial⟩
    simp only [List.set] at M
    refine wpL_nil (then_normal ?_)
    refine any_step [9] (by kernel_rfl) rfl (any_one ?_)
    refine any_opL 9 (by rfl) ?_
    simp only [List.take, List.drop]
    refine wpL_store1 (g := g) (off := 0) (n := 1) (v := .string (bs (nodeS x s0))) (by rfl) (by rfl) (by rfl) (by rfl) (by rfl) (M.t 1 rfl) (by decide) info9 rfl (fun w42 P R T => ?_)
    replace M := M.putS (new := [.string (bs (nodeS x s0))]) 1 0 rfl P R T rfl ⟨.inl rfl, trivial⟩
    simp only [List.set] at M
    refine wpL_nil (then_normal ?_)
    refine any_end (by kernel_rfl) (no_panic ?_)
    repeat (first | with_reducible refine then_exit ?_ | with_reducible refine inblock_exit ?_)
    refine bodyPost_end (v := .tuple #[]) (results_none rfl _ _ _) rfl ?_
    simp only [List.length_append, List.length_singleton]
    exact ⟨_, rfl, g37, g37c, rfl, Cg37, (M.pick [1, 2, 3] (by decide) rfl)⟩
   ·
    refine any_opL 6 (by rfl) ?_
    simp only [List.take, List.drop]
    refine wpL_chunk 1 (by rfl) (fun Lk hLk => ?_)
    simp only [List.take, List.drop]
    refine wpV_load1 (v := .string (bs s0)) (by rfl) rfl rfl (range_one (M.r 1 0 rfl rfl)) (M.lt 1 rfl) Tryd.underlying9 rfl ?_
    simp only [putT, List.set]
    refine wpV_nil (hLk _ (fun w43 Sw43 => ?_))
    clear hLk Lk
    simp only [List.take, List.drop]
    replace M := M.sees Sw43
    refine wpL_nil (then_normal ?_)
    refine any_step [3] (by kernel_rfl) rfl (any_one ?_)
    refine any_opL 3 (by rfl) ?_
    simp only [List.take, List.drop]
    refine wpL_append (n := o.length) (m := 1) (olds := scells o) (news := [.string (bs ((([1]) ++ x) ++ s0))]) (z := .string { data := #[] }) (bytes := 16) (by rfl) (by rfl) (by rfl) (by rfl) Tryd.underlying48 (by kernel_rfl) rfl rfl (scells_len _) rfl (M.r 3 0 rfl rfl) (M.t 3 rfl) (M.lt 3 rfl) (M.r 0 0 rfl rfl) (by intro u hu; rw [List.mem_singleton.1 hu]; rfl) (by omega) (by simp only [maxLen]; omega) (fun g44 g44c w45 Sw45 Q Cg44 R T L => ?_)
    replace M := M.grow 3 rfl Sw45 Q R T L
    simp only [List.set] at M
    clear Q R T L
    rw [scells_more9] at M
    simp only [putT, List.set]
    refine wpL_nil (then_normal ?_)
    refine any_step [7] (by kernel_rfl) rfl (any_one ?_)
    refine any_opL 7 (by rfl) ?_
    simp only [List.take, List.drop]
    refine wpL_chunk 1 (by rfl) (fun Lk hLk => ?_)
    simp only [List.take, List.drop]
    refine wpV_callf (v := .string (bs (nodeS x s0))) (args := #[.bool true, .string (bs x), .string (bs s0)]) (by rfl) rfl Tryd.func101 (by kernel_rfl) (by kernel_rfl) rfl (fun W hW => by with_reducible exact joined_t (x := x) (s0 := s0) hx hs ((M.sees hW).oldL L0) ((M.sees hW).oldG R0_0 L0 (by simp; omega))) ?_
    simp only [putT, List.set]
    refine wpV_nil (hLk _ (fun w46 Sw46 => ?_))
    clear hLk Lk
    simp only [List.take, List.drop]
    replace M := M.sees Sw46
    refine wpL_nil (then_normal ?_)
    refine any_step [8] (by kernel_rfl) rfl (any_one ?_)
    refine any_opL 8 (by rfl) ?_
    simp only [List.take, List.drop]
    refine wpL_store1 (g := h) (off := 0) (n := 1) (v := .slice (some ⟨g44, 0, none⟩) (o.length + 1) g44c) (by rfl) (by rfl) (by rfl) (by rfl) (by rfl) (M.t 2 rfl) (by decide) info48 rfl (fun w47 P R T => ?_)
    replace M := M.putS (new := [.slice (some ⟨g44, 0, none⟩) (o.length + 1) g44c]) 2 0 rfl P R T rfl ⟨.inl rfl, trivial⟩
    simp only [List.set] at M
    refine wpL_nil (then_normal ?_)
    refine any_step [9] (by kernel_rfl) rfl (any_one ?_)
    refine any_opL 9 (by rfl) ?_
    simp only [List.take, List.drop]
    refine wpL_store1 (g := g) (off := 0) (n := 1) (v := .string (bs (nodeS x s0))) (by rfl) (by rfl) (by rfl) (by rfl) (by rfl) (M.t 1 rfl) (by decide) info9 rfl (fun w48 P R T => ?_)
    replace M := M.putS (new := [.string (bs (nodeS x s0))]) 1 0 rfl P R T rfl ⟨.inl rfl, trivial⟩
    simp only [List.set] at M
    refine wpL_nil (then_normal ?_)
    refine any_end (by kernel_rfl) (no_panic ?_)
    repeat (first | with_reducible refine then_exit ?_ | with_reducible refine inblock_exit ?_)
    refine bodyPost_end (v := .tuple #[]) (results_none rfl _ _ _) rfl ?_
    simp only [List.length_append, List.length_singleton]
    exact ⟨_, rfl, g44, g44c, rfl, Cg44, (M.pick [1, 2, 3] (by decide) rfl)⟩
  ·
   refine any_opL 6 (by rfl) ?_
   simp only [List.take, List.drop]
   refine wpL_chunk 1 (by rfl) (fun Lk hLk => ?_)
   simp only [List.take, List.drop]
   refine wpV_load1 (v := .string (bs s0)) (by rfl) rfl rfl (range_one (M.r 1 0 rfl rfl)) (M.lt 1 rfl) Tryd.underlying9 rfl ?_
   simp only [putT, List.set]
   refine wpV_nil (hLk _ (fun w49 Sw49 => ?_))
   clear hLk Lk
   simp only [List.take, List.drop]
   replace M := M.sees Sw49
   refine wpL_nil (then_normal ?_)
   refine any_step [0] (by kernel_rfl) rfl (any_one ?_)
   refine any_opL 0 (by rfl) ?_
   simp only [List.take, List.drop]
   refine wpL_chunk 1 (by rfl) (fun Lk hLk => ?_)
   simp only [List.take, List.drop]
   refine wpV_load1 (v := .slice (some ⟨r, 0, none⟩) o.length rc) (by rfl) rfl rfl (range_one (M.r 2 0 rfl rfl)) (M.lt 2 rfl) Tryd.underlying48 rfl ?_
   simp only [putT, List.set]
   refine wpV_nil (hLk _ (fun w50 Sw50 => ?_))
   clear hLk Lk
   simp only [List.take, List.drop]
   replace M := M.sees Sw50
   refine wpL_nil (then_normal ?_)
   refine any_step [3] (by kernel_rfl) rfl (any_one ?_)
   refine any_opL 3 (by rfl) ?_
   simp only [List.take, List.drop]
   refine wpL_append (n := o.length) (m := 1) (olds := scells o) (news := [.string (bs ((([1]) ++ x) ++ s0))]) (z := .string { data := #[] }) (bytes := 16) (by rfl) (by rfl) (by rfl) (by rfl) Tryd.underlying48 (by kernel_rfl) rfl rfl (scells_len _) rfl (M.r 3 0 rfl rfl) (M.t 3 rfl) (M.lt 3 rfl) (M.r 0 0 rfl rfl) (by intro u hu; rw [List.mem_singleton.1 hu]; rfl) (by omega) (by simp only [maxLen]; omega) (fun g51 g51c w52 Sw52 Q Cg51 R T L => ?_)
   replace M := M.grow 3 rfl Sw52 Q R T L
   simp only [List.set] at M
   clear Q R T L
   rw [scells_more9] at M
   simp only [putT, List.set]
   refine wpL_nil (then_normal ?_)
   refine any_step [7] (by kernel_rfl) rfl (any_one ?_)
   refine any_opL 7 (by rfl) ?_
   simp only [List.take, List.drop]
   refine wpL_chunk 1 (by rfl) (fun Lk hLk => ?_)
   simp only [List.take, List.drop]
   refine wpV_callf (v := .string (bs (nodeS x s0))) (args := #[.bool true, .string (bs x), .string (bs s0)]) (by rfl) rfl Tryd.func101 (by kernel_rfl) (by kernel_rfl) rfl (fun W hW => by with_reducible exact joined_t (x := x) (s0 := s0) hx hs ((M.sees hW).oldL L0) ((M.sees hW).oldG R0_0 L0 (by simp; omega))) ?_
   simp only [putT, List.set]
   refine wpV_nil (hLk _ (fun w53 Sw53 => ?_))
   clear hLk Lk
   simp only [List.take, List.drop]
   replace M := M.sees Sw53
   refine wpL_nil (then_normal ?_)
   refine any_step [8] (by kernel_rfl) rfl (any_one ?_)
   refine any_opL 8 (by rfl) ?_
   simp only [List.take, List.drop]
   refine wpL_store1 (g := h) (off := 0) (n := 1) (v := .slice (some ⟨g51, 0, none⟩) (o.length + 1) g51c) (by rfl) (by rfl) (by rfl) (by rfl) (by rfl) (M.t 2 rfl) (by decide) info48 rfl (fun w54 P R T => ?_)
   replace M := M.putS (new := [.slice (some ⟨g51, 0, none⟩) (o.length + 1) g51c]) 2 0 rfl P R T rfl ⟨.inl rfl, trivial⟩
   simp only [List.set] at M
   refine wpL_nil (then_normal ?_)
   refine any_step [9] (by kernel_rfl) rfl (any_one ?_)
   refine any_opL 9 (by rfl) ?_
   simp only [List.take, List.drop]
   refine wpL_store1 (g := g) (off := 0) (n := 1) (v := .string (bs (nodeS x s0))) (by rfl) (by rfl) (by rfl) (by rfl) (by rfl) (M.t 1 rfl) (by decide) info9 rfl (fun w55 P R T => ?_)
   replace M := M.putS (new := [.string (bs (nodeS x s0))]) 1 0 rfl P R T rfl ⟨.inl rfl, trivial⟩
   simp only [List.set] at M
   refine wpL_nil (then_normal ?_)
   refine any_end (by kernel_rfl) (no_panic ?_)
   repeat (first | with_reducible refine then_exit ?_ | with_reducible refine inblock_exit ?_)
   refine bodyPost_end (v := .tuple #[]) (results_none rfl _ _ _) rfl ?_
   simp only [List.length_append, List.length_singleton]
   exact ⟨_, rfl, g51, g51c, rfl, Cg51, (M.pick [1, 2, 3] (by decide) rfl)⟩
 ·
  refine any_opL 6 (by rfl) ?_
  simp only [List.take, List.drop]
  refine wpL_chunk 1 (by rfl) (fun Lk hLk => ?_)
  simp only [List.take, List.drop]
  refine wpV_load1 (v := .string (bs s0)) (by rfl) rfl rfl (range_one (M.r 0 0 rfl rfl)) (M.lt 0 rfl) Tryd.underlying9 rfl ?_
  simp only [putT, List.set]
  refine wpV_nil (hLk _ (fun w56 Sw56 => ?_))
  clear hLk Lk
  simp only [List.take, List.drop]
  replace M := M.sees Sw56
  refine wpL_nil (then_normal ?_)
  refine any_step [0, 2] (by kernel_rfl) rfl (any_two ?_ (any_one ?_))
  ·
   refine any_opL 0 (by rfl) ?_
   simp only [List.take, List.drop]
   refine wpL_chunk 1 (by rfl) (fun Lk hLk => ?_)
   simp only [List.take, List.drop]
   refine wpV_load1 (v := .slice (some ⟨r, 0, none⟩) o.length rc) (by rfl) rfl rfl (range_one (M.r 1 0 rfl rfl)) (M.lt 1 rfl) Tryd.underlying48 rfl ?_
   simp only [putT, List.set]
   refine wpV_nil (hLk _ (fun w57 Sw57 => ?_))
   clear hLk Lk
   simp only [List.take, List.drop]
   replace M := M.sees Sw57
   refine wpL_nil (then_normal ?_)
   refine any_step [2] (by kernel_rfl) rfl (any_one ?_)
   refine any_opL 2 (by rfl) ?_
   simp only [List.take, List.drop]
   refine wpL_rowN (vs := [.string (bs ((([1]) ++ x) ++ s0))]) (z := .string { data := #[] }) (bytes := 16) (by rfl) (by rfl) Tryd.underlying48 (by kernel_rfl) (by decide) (by kernel_rfl) (fun g58 w59 Sw59 Hg58 Bg58 => ?_)
   replace M := ((M.sees Sw59).add (N := 1) (cs := [.string (bs ((([1]) ++ x) ++ s0))]) (M.ge Hg58) (M.fresh Hg58) Bg58 (by simp [flen]))
   clear Bg58
   simp only [putT, List.set]
   refine wpL_nil (then_normal ?_)
   refine any_step [3] (by kernel_rfl) rfl (any_one ?_)
   refine any_opL 3 (by rfl) ?_
   simp only [List.take, List.drop]
   refine wpL_append (n := o.length) (m := 1) (olds := scells o) (news := [.string (bs ((([1]) ++ x) ++ s0))]) (z := .string { data := #[] }) (bytes := 16) (by rfl) (by rfl) (by rfl) (by rfl) Tryd.underlying48 (by kernel_rfl) rfl rfl (scells_len _) rfl (M.r 3 0 rfl rfl) (M.t 3 rfl) (M.lt 3 rfl) (M.r 0 0 rfl rfl) (by intro u hu; rw [List.mem_singleton.1 hu]; rfl) (by omega) (by simp only [maxLen]; omega) (fun g60 g60c w61 Sw61 Q Cg60 R T L => ?_)
   replace M := M.grow 3 rfl Sw61 Q R T L
   simp only [List.set] at M
   clear Q R T L
   rw [scells_more9] at M
   simp only [putT, List.set]
   refine wpL_nil (then_normal ?_)
   refine any_step [7] (by kernel_rfl) rfl (any_one ?_)
   refine any_opL 7 (by rfl) ?_
   simp only [List.take, List.drop]
   refine wpL_chunk 1 (by rfl) (fun Lk hLk => ?_)
   simp only [List.take, List.drop]
   refine wpV_callf (v := .string (bs (nodeS x s0))) (args := #[.bool true, .string (bs x), .string (bs s0)]) (by rfl) rfl Tryd.func101 (by kernel_rfl) (by kernel_rfl) rfl (fun W hW => by with_reducible exact joined_t (x := x) (s0 := s0) hx hs ((M.sees hW).oldL L0) ((M.sees hW).oldG R0_0 L0 (by simp; omega))) ?_
   simp only [putT, List.set]
   refine wpV_nil (hLk _ (fun w62 Sw62 => ?_))
   clear hLk Lk
   simp only [List.take, List.drop]
   replace M := M.sees Sw62
   refine wpL_nil (then_normal ?_)
   refine any_step [8] (by kernel_rfl) rfl (any_one ?_)
   refine any_opL 8 (by rfl) ?_
   simp only [List.take, List.drop]
   refine wpL_store1 (g := h) (off := 0) (n := 1) (v := .slice (some ⟨g60, 0, none⟩) (o.length + 1) g60c) (by rfl) (by rfl) (by rfl) (by rfl) (by rfl) (M.t 2 rfl) (by decide) info48 rfl (fun w63 P R T => ?_)
   replace M := M.putS (new := [.slice (some ⟨g60, 0, none⟩) (o.length + 1) g60c]) 2 0 rfl P R T rfl ⟨.inl rfl, trivial⟩
   simp only [List.set] at M
   refine wpL_nil (then_normal ?_)
   refine any_step [9] (by kernel_rfl) rfl (any_one ?_)
   refine any_opL 9 (by rfl) ?_
   simp only [List.take, List.drop]
   refine wpL_store1 (g := g) (off := 0) (n := 1) (v := .string (bs (nodeS x s0))) (by rfl) (by rfl) (by rfl) (by rfl) (by rfl) (M.t 1 rfl) (by decide) info9 rfl (fun w64 P R T => ?_)
   replace M := M.putS (new := [.string (bs (nodeS x s0))]) 1 0 rfl P R T rfl ⟨.inl rfl, trivial⟩
   simp only [List.set] at M
   refine wpL_nil (then_normal ?_)
   refine any_end (by kernel_rfl) (no_panic ?_)
   repeat (first | with_reducible refine then_exit ?_ | with_reducible refine inblock_exit ?_)
   refine bodyPost_end (v := .tuple #[]) (results_none rfl _ _ _) rfl ?_
   simp only [List.length_append, List.length_singleton]
   exact ⟨_, rfl, g60, g60c, rfl, Cg60, (M.pick [1, 2, 3] (by decide) rfl)⟩
  ·
   refine any_opL 2 (by rfl) ?_
   simp only [List.take, List.drop]
   refine wpL_rowN (vs := [.string (bs ((([1]) ++ x) ++ s0))]) (z := .string { data := #[] }) (bytes := 16) (by rfl) (by rfl) Tryd.underlying48 (by kernel_rfl) (by decide) (by kernel_rfl) (fun g65 w66 Sw66 Hg65 Bg65 => ?_)
   replace M := ((M.sees Sw66).add (N := 1) (cs := [.string (bs ((([1]) ++ x) ++ s0))]) (M.ge Hg65) (M.fresh Hg65) Bg65 (by simp [flen]))
   clear Bg65
   simp only [putT, List.set]
   refine wpL_nil (then_normal ?_)
   refine any_step [0] (by kernel_rfl) rfl (any_one ?_)
   refine any_opL 0 (by rfl) ?_
   simp only [List.take, List.drop]
   refine wpL_chunk 1 (by rfl) (fun Lk hLk => ?_)
   simp only [List.take, List.drop]
   refine wpV_load1 (v := .slice (some ⟨r, 0, none⟩) o.length rc) (by rfl) rfl rfl (range_one (M.r 2 0 rfl rfl)) (M.lt 2 rfl) Tryd.underlying48 rfl ?_
   simp only [putT, List.set]
   refine wpV_nil (hLk _ (fun w67 Sw67 => ?_))
   clear hLk Lk
   simp only [List.take, List.drop]
   replace M := M.sees Sw67
   refine wpL_nil (then_normal ?_)
   refine any_step [3] (by kernel_rfl) rfl (any_one ?_)
   refine any_opL 3 (by rfl) ?_
   simp only [List.take, List.drop]
   refine wpL_append (n := o.length) (m := 1) (olds := scells o) (news := [.string (bs ((([1]) ++ x) ++ s0))]) (z := .string { data := #[] }) (bytes := 16) (by rfl) (by rfl) (by rfl) (by rfl) Tryd.underlying48 (by kernel_rfl) rfl rfl (scells_len _) rfl (M.r 3 0 rfl rfl) (M.t 3 rfl) (M.lt 3 rfl) (M.r 0 0 rfl rfl) (by intro u hu; rw [List.mem_singleton.1 hu]; rfl) (by omega) (by simp only [maxLen]; omega) (fun g68 g68c w69 Sw69 Q Cg68 R T L => ?_)
   replace M := M.grow 3 rfl Sw69 Q R T L
   simp only [List.set] at M
   clear Q R T L
   rw [scells_more9] at M
   simp only [putT, List.set]
   refine wpL_nil (then_normal ?_)
   refine any_step [7] (by kernel_rfl) rfl (any_one ?_)
   refine any_opL 7 (by rfl) ?_
   simp only [List.take, List.drop]
   refine wpL_chunk 1 (by rfl) (fun Lk hLk => ?_)
   simp only [List.take, List.drop]
   refine wpV_callf (v := .string (bs (nodeS x s0))) (args := #[.bool true, .string (bs x), .string (bs s0)]) (by rfl) rfl Tryd.func101 (by kernel_rfl) (by kernel_rfl) rfl (fun W hW => by with_reducible exact joined_t (x := x) (s0 := s0) hx hs ((M.sees hW).oldL L0) ((M.sees hW).oldG R0_0 L0 (by simp; omega))) ?_
   simp only [putT, List.set]
   refine wpV_nil (hLk _ (fun w70 Sw70 => ?_))
   clear hLk Lk
   simp only [List.take, List.drop]
   replace M := M.sees Sw70
   refine wpL_nil (then_normal ?_)
   refine any_step [8] (by kernel_rfl) rfl (any_one ?_)
   refine any_opL 8 (by rfl) ?_
   simp only [List.take, List.drop]
   refine wpL_store1 (g := h) (off := 0) (n := 1) (v := .slice (some ⟨g68, 0, none⟩) (o.length + 1) g68c) (by rfl) (by rfl) (by rfl) (by rfl) (by rfl) (M.t 2 rfl) (by decide) info48 rfl (fun w71 P R T => ?_)
   replace M := M.putS (new := [.slice (some ⟨g68, 0, none⟩) (o.length + 1) g68c]) 2 0 rfl P R T rfl ⟨.inl rfl, trivial⟩
   simp only [List.set] at M
   refine wpL_nil (then_normal ?_)
   refine any_step [9] (by kernel_rfl) rfl (any_one ?_)
   refine any_opL 9 (by rfl) ?_
   simp only [List.take, List.drop]
   refine wpL_store1 (g := g) (off := 0) (n := 1) (v := .string (bs (nodeS x s0))) (by rfl) (by rfl) (by rfl) (by rfl) (by rfl) (M.t 1 rfl) (by decide) info9 rfl (fun w72 P R T => ?_)
   replace M := M.putS (new := [.string (bs (nodeS x s0))]) 1 0 rfl P R T rfl ⟨.inl rfl, trivial⟩
   simp only [List.set] at M
   refine wpL_nil (then_normal ?_)
   refine any_end (by kernel_rfl) (no_panic ?_)
   repeat (first | with_reducible refine then_exit ?_ | with_reducible refine inblock_exit ?_)
   refine bodyPost_end (v := .tuple #[]) (results_none rfl _ _ _) rfl ?_
   simp only [List.length_append, List.length_singleton]
   exact ⟨_, rfl, g68, g68c, rfl, Cg68, (M.pick [1, 2, 3] (by decide) rfl)⟩
set_option maxHeartbeats 1000000 in
theorem tx1_rf {g h : Nat} {x s0 : List UInt8} {r rc : Nat} {o : List (List UInt8)} {w : World} (hx : x.length = 32) (hs : s0.length = 32) (hg0 : g ≠ 0) (hh0 : h ≠ 0) (hr0 : r ≠ 0) (hrc : o.length ≤ rc) (ho : o.length ≤ 4096) (L0 : 0 < w.heap.size) (R0_0 : w.rangeAt 0 0 kcells) (hM : Mem [g, h, r] w w [⟨g, 1, [(0, [.string (bs s0)])]⟩, ⟨h, 1, [(0, [.slice (some ⟨r, 0, none⟩) o.length rc])]⟩, ⟨r, rc, [(0, scells o)]⟩]) :
  Calls Tryd.prog 100 #[.bool false, .string (bs x), .pointer (some ⟨g, 0, none⟩), .pointer (some ⟨h, 0, none⟩)] w fun e w' => ∃ v, e = .returned v ∧ ∃ r9 c9, v = .tuple #[] ∧ (o ++ [[1] ++ s0 ++ x]).length ≤ c9 ∧ Mem [g, h, r] w w' [⟨g, 1, [(0, [.string (bs (nodeS s0 x))])]⟩, ⟨h, 1, [(0, [.slice (some ⟨r9, 0, none⟩) (o ++ [[1] ++ s0 ++ x]).length c9])]⟩, ⟨r9, c9, [(0, scells (o ++ [[1] ++ s0 ++ x]))]⟩] := by
 go_enter Tryd.func100, Tryd.ntmps100
 have M := hM
 refine wp_seq_k (fun K1 hK1 => ?_)
 refine wp_region_seq ?_
 refine wpL_chunk 4 (by rfl) (fun Lk hLk => ?_)
 simp only [List.take, List.drop]
 refine wpV_load1 (v := .string (bs s0)) (by rfl) rfl rfl (range_one (M.r 0 0 rfl rfl)) (M.lt 0 rfl) Tryd.underlying9 rfl ?_
 simp only [putT, List.set]
 refine wpV_binS (v := .string (bs (([1]) ++ s0))) (by rfl) rfl rfl rfl (run_add_bs _ _ _ (by simp only [List.length_append, List.length_singleton, List.length_cons, List.length_nil]; omega)) ?_
 simp only [putT, List.set]
 refine wpV_move (v := .string (bs x)) (by rfl) rfl rfl ?_
 simp only [putT, List.set]
 refine wpV_binS (v := .string (bs ((([1]) ++ s0) ++ x))) (by rfl) rfl rfl rfl (run_add_bs _ _ _ (by simp only [List.length_append, List.length_singleton, List.length_cons, List.length_nil]; omega)) ?_
 simp only [putT, List.set]
 refine wpV_nil (hLk _ (fun w3 Sw3 => ?_))
 clear hLk Lk
 simp only [List.take, List.drop]
 replace M := M.sees Sw3
 refine wpL_assign (v := .string (bs ((([1]) ++ s0) ++ x))) (by rfl) (by rfl) (by rfl) ?_
 simp only [putT, List.set]
 refine wpL_nil (no_panic ?_)
 refine hK1 _ _ ?_
 refine wp_seq_k (fun K4 hK4 => ?_)
 refine wp_seq_k (fun K5 hK5 => ?_)
 refine wp_region_seq ?_
 refine wpL_move (v := .bool false) (by rfl) (by rfl) (by rfl) ?_
 simp only [putT, List.set]
 refine wpL_nil (no_panic ?_)
 refine hK5 _ _ ?_
 refine wp_cond_false rfl ?_
 refine wp_skip ?_
 refine hK4 _ _ ?_
 refine wp_region_treeN (by kernel_rfl) (fun w8 Sw8 => ?_)
 replace M := M.sees Sw8
 refine any_first 1 (v := .string (bs ((([1]) ++ s0) ++ x))) (by rfl) (by kernel_rfl) nopanic_not (by rfl) (by exact yl_move rfl rfl) ?_
 simp only [putT, List.set]
 refine any_first 4 (v := .bool false) (by rfl) (by kernel_rfl) nopanic_not (by rfl) (by exact yl_move rfl rfl) ?_
 simp only [putT, List.set]
 refine any_first 5 (v := .string (bs x)) (by rfl) (by kernel_rfl) nopanic_not (by rfl) (by exact yl_move rfl rfl) ?_
 simp only [putT, List.set]
 refine any_step [0, 2, 6] (by kernel_rfl) rfl (any_two ?_ (any_two ?_ (any_one ?_)))
 ·
  refine any_opL 0 (by rfl) ?_
  simp only [List.take, List.drop]
  refine wpL_chunk 1 (by rfl) (fun Lk hLk => ?_)
  simp only [List.take, List.drop]
  refine wpV_load1 (v := .slice (some ⟨r, 0, none⟩) o.length rc) (by rfl) rfl rfl (range_one (M.r 1 0 rfl rfl)) (M.lt 1 rfl) Tryd.underlying48 rfl ?_
  simp only [putT, List.set]
  refine wpV_nil (hLk _ (fun w9 Sw9 => ?_))
  clear hLk Lk
  simp only [List.take, List.drop]
  replace M := M.sees Sw9
  refine wpL_nil (then_normal ?_)
  refine any_step [2, 6] (by kernel_rfl) rfl (any_two ?_ (any_one ?_))
  ·
   refine any_opL 2 (by rfl) ?_
   simp only [List.take, List.drop]
   refine wpL_rowN (vs := [.string (bs ((([1]) ++ s0) ++ x))]) (z := .string { data := #[] }) (bytes := 16) (by rfl) (by rfl) Tryd.underlying48 (by kernel_rfl) (by decide) (by kernel_rfl) (fun g10 w11 Sw11 Hg10 Bg10 => ?_)
   replace M := ((M.sees Sw11).add (N := 1) (cs := [.string (bs ((([1]) ++ s0) ++ x))]) (M.ge Hg10) (M.fresh Hg10) Bg10 (by simp [flen]))
   clear Bg10
   simp only [putT, List.set]
   refine wpL_nil (then_normal ?_)
   refine any_step [3, 6] (by kernel_rfl) rfl (any_two ?_ (any_one ?_))
   ·
    refine any_opL 3 (by rfl) ?_
    simp only [List.take, List.drop]
    refine wpL_append (n := o.length) (m := 1) (olds := scells o) (news := [.string (bs ((([1]) ++ s0) ++ x))]) (z := .string { data := #[] }) (bytes := 16) (by rfl) (by rfl) (by rfl) (by rfl) Tryd.underlying48 (by kernel_rfl) rfl rfl (scells_len _) rfl (M.r 3 0 rfl rfl) (M.t 3 rfl) (M.lt 3 rfl) (M.r 0 0 rfl rfl) (by intro u hu; rw [List.mem_singleton.1 hu]; rfl) (by omega) (by simp only [maxLen]; omega) (fun g12 g12c w13 Sw13 Q Cg12 R T L => ?_)
    replace M := M.grow 3 rfl Sw13 Q R T L
    simp only [List.set] at M
    clear Q R T L
    rw [scells_more9] at M
    simp only [putT, List.set]
    refine wpL_nil (then_normal ?_)
    refine any_step [6] (by kernel_rfl) rfl (any_one ?_)
    refine any_opL 6 (by rfl) ?_
    simp only [List.take, List.drop]
    refine wpL_chunk 1 (by rfl) (fun Lk hLk => ?_)
    simp only [List.take, List.drop]
    refine wpV_load1 (v := .string (bs s0)) (by rfl) rfl rfl (range_one (M.r 1 0 rfl rfl)) (M.lt 1 rfl) Tryd.underlying9 rfl ?_
    simp only [putT, List.set]
    refine wpV_nil (hLk _ (fun w14 Sw14 => ?_))
    clear hLk Lk
    simp only [List.take, List.drop]
    replace M := M.sees Sw14
    refine wpL_nil (then_normal ?_)
    refine any_step [7] (by kernel_rfl) rfl (any_one ?_)
    refine any_opL 7 (by rfl) ?_
    simp only [List.take, List.drop]
    refine wpL_chunk 1 (by rfl) (fun Lk hLk => ?_)
    simp only [List.take, List.drop]
    refine wpV_callf (v := .string (bs (nodeS s0 x))) (args := #[.bool false, .string (bs x), .string (bs s0)]) (by rfl) rfl Tryd.func101 (by kernel_rfl) (by kernel_rfl) rfl (fun W hW => by with_reducible exact joined_f (x := x) (s0 := s0) hx hs ((M.sees hW).oldL L0) ((M.sees hW).oldG R0_0 L0 (by simp; omega))) ?_
    simp only [putT, List.set]
    refine wpV_nil (hLk _ (fun w15 Sw15 => ?_))
    clear hLk Lk
    simp only [List.take, List.drop]
    replace M := M.sees Sw15
    refine wpL_nil (then_normal ?_)
    refine any_step [8] (by kernel_rfl) rfl (any_one ?_)
    refine any_opL 8 (by rfl) ?_
    simp only [List.take, List.drop]
    refine wpL_store1 (g := h) (off := 0) (n := 1) (v := .slice (some ⟨g12, 0, none⟩) (o.length + 1) g12c) (by rfl) (by rfl) (by rfl) (by rfl) (by rfl) (M.t 2 rfl) (by decide) info48 rfl (fun w16 P R T => ?_)
    replace M := M.putS (new := [.slice (some ⟨g12, 0, none⟩) (o.length + 1) g12c]) 2 0 rfl P R T rfl ⟨.inl rfl, trivial⟩
    simp only [List.set] at M
    refine wpL_nil (then_normal ?_)
    refine any_step [9] (by kernel_rfl) rfl (any_one ?_)
    refine any_opL 9 (by rfl) ?_
    simp only [List.take, List.drop]
    refine wpL_store1 (g := g) (off := 0) (n := 1) (v := .string (bs (nodeS s0 x))) (by rfl) (by rfl) (by rfl) (by rfl) (by rfl) (M.t 1 rfl) (by decide) info9 rfl (fun w17 P R T => ?_)
    replace M := M.putS (new := [.string (bs (nodeS s0 x))]) 1 0 rfl P R T rfl ⟨.inl rfl, trivial⟩
    simp only [List.set] at M
    refine wpL_nil (then_normal ?_)
    refine any_end (by kernel_rfl) (no_panic ?_)
    repeat (first | with_reducible refine then_exit ?_ | with_reducible refine inblock_exit ?_)
    refine bodyPost_end (v := .tuple #[]) (results_none rfl _ _ _) rfl ?_
    simp only [List.length_append, List.length_singleton]
    exact ⟨_, rfl, g12, g12c, rfl, Cg12, (M.pick [1, 2, 3] (by decide) rfl)⟩
   ·
    refine any_opL 6 (by rfl) ?_
    simp only [List.take, List.drop]
    refine wpL_chunk 1 (by rfl) (fun Lk hLk => ?_)
    simp only [List.take, List.drop]
    refine wpV_load1 (v := .string (bs s0)) (by rfl) rfl rfl (range_one (M.r 1 0 rfl rfl)) (M.lt 1 rfl) Tryd.underlying9 rfl ?_
    simp only [putT, List.set]
    refine wpV_nil (hLk _ (fun w18 Sw18 => ?_))
    clear hLk Lk
    simp only [List.take, List.drop]
    replace M := M.sees Sw18
    refine wpL_nil (then_normal ?_)
    refine any_step [3] (by kernel_rfl) rfl (any_one ?_)
    refine any_opL 3 (by rfl) ?_
    simp only [List.take, List.drop]
    refine wpL_append (n := o.length) (m := 1) (olds := scells o) (news := [.string (bs ((([1]) ++ s0) ++ x))]) (z := .string { data := #[] }) (bytes := 16) (by rfl) (by rfl) (by rfl) (by rfl) Tryd.underlying48 (by kernel_rfl) rfl rfl (scells_len _) rfl (M.r 3 0 rfl rfl) (M.t 3 rfl) (M.lt 3 rfl) (M.r 0 0 rfl rfl) (by intro u hu; rw [List.mem_singleton.1 hu]; rfl) (by omega) (by simp only [maxLen]; omega) (fun g19 g19c w20 Sw20 Q Cg19 R T L => ?_)
    replace M := M.grow 3 rfl Sw20 Q R T L
    simp only [List.set] at M
    clear Q R T L
    rw [scells_more9] at M
    simp only [putT, List.set]
    refine wpL_nil (then_normal ?_)
    refine any_step [7] (by kernel_rfl) rfl (any_one ?_)
    refine any_opL 7 (by rfl) ?_
    simp only [List.take, List.drop]
    refine wpL_chunk 1 (by rfl) (fun Lk hLk => ?_)
    simp only [List.take, List.drop]
    refine wpV_callf (v := .string (bs (nodeS s0 x))) (args := #[.bool false, .string (bs x), .string (bs s0)]) (by rfl) rfl Tryd.func101 (by kernel_rfl) (by kernel_rfl) rfl (fun W hW => by with_reducible exact joined_f (x := x) (s0 := s0) hx hs ((M.sees hW).oldL L0) ((M.sees hW).oldG R0_0 L0 (by simp; omega))) ?_
    simp only [putT, List.set]
    refine wpV_nil (hLk _ (fun w21 Sw21 => ?_))
    clear hLk Lk
    simp only [List.take, List.drop]
    replace M := M.sees Sw21
    refine wpL_nil (then_normal ?_)
    refine any_step [8] (by kernel_rfl) rfl (any_one ?_)
    refine any_opL 8 (by rfl) ?_
    simp only [List.take, List.drop]
    refine wpL_store1 (g := h) (off := 0) (n := 1) (v := .slice (some ⟨g19, 0, none⟩) (o.length + 1) g19c) (by rfl) (by rfl) (by rfl) (by rfl) (by rfl) (M.t 2 rfl) (by decide) info48 rfl (fun w22 P R T => ?_)
    replace M := M.putS (new := [.slice (some ⟨g19, 0, none⟩) (o.length + 1) g19c]) 2 0 rfl P R T rfl ⟨.inl rfl, trivial⟩
    simp only [List.set] at M
    refine wpL_nil (then_normal ?_)
    refine any_step [9] (by kernel_rfl) rfl (any_one ?_)
    refine any_opL 9 (by rfl) ?_
    simp only [List.take, List.drop]
    refine wpL_store1 (g := g) (off := 0) (n := 1) (v := .string (bs (nodeS s0 x))) (by rfl) (by rfl) (by rfl) (by rfl) (by rfl) (M.t 1 rfl) (by decide) info9 rfl (fun w23 P R T => ?_)
    replace M := M.putS (new := [.string (bs (nodeS s0 x))]) 1 0 rfl P R T rfl ⟨.inl rfl, trivial⟩
    simp only [List.set] at M
    refine wpL_nil (then_normal ?_)
    refine any_end (by kernel_rfl) (no_panic ?_)
    repeat (first | with_reducible refine then_exit ?_ | with_reducible refine inblock_exit ?_)
    refine bodyPost_end (v := .tuple #[]) (results_none rfl _ _ _) rfl ?_
    simp only [List.length_append, List.length_singleton]
    exact ⟨_, rfl, g19, g19c, rfl, Cg19, (M.pick [1, 2, 3] (by decide) rfl)⟩
  ·
   refine any_opL 6 (by rfl) ?_
   simp only [List.take, List.drop]
   refine wpL_chunk 1 (by rfl) (fun Lk hLk => ?_)
   simp only [List.take, List.drop]
   refine wpV_load1 (v := .string (bs s0)) (by rfl) rfl rfl (range_one (M.r 0 0 rfl rfl)) (M.lt 0 rfl) Tryd.underlying9 rfl ?_
   simp only [putT, List.set]
   refine wpV_nil (hLk _ (fun w24 Sw24 => ?_))
   clear hLk Lk
   simp only [List.take, List.drop]
   replace M := M.sees Sw24
   refine wpL_nil (then_normal ?_)
   refine any_step [2] (by kernel_rfl) rfl (any_one ?_)
   refine any_opL 2 (by rfl) ?_
   simp only [List.take, List.drop]
   refine wpL_rowN (vs := [.string (bs ((([1]) ++ s0) ++ x))]) (z := .string { data := #[] }) (bytes := 16) (by rfl) (by rfl) Tryd.underlying48 (by kernel_rfl) (by decide) (by kernel_rfl) (fun g25 w26 Sw26 Hg25 Bg25 => ?_)
   replace M := ((M.sees Sw26).add (N := 1) (cs := [.string (bs ((([1]) ++ s0) ++ x))]) (M.ge Hg25) (M.fresh Hg25) Bg25 (by simp [flen]))
   clear Bg25
   simp only [putT, List.set]
   refine wpL_nil (then_normal ?_)
   refine any_step [3] (by kernel_rfl) rfl (any_one ?_)
   refine any_opL 3 (by rfl) ?_
   simp only [List.take, List.drop]
   refine wpL_append (n := o.length) (m := 1) (olds := scells o) (news := [.string (bs ((([1]) ++ s0) ++ x))]) (z := .string { data := #[] }) (bytes := 16) (by rfl) (by rfl) (by rfl) (by rfl) Tryd.underlying48 (by kernel_rfl) rfl rfl (scells_len _) rfl (M.r 3 0 rfl rfl) (M.t 3 rfl) (M.lt 3 rfl) (M.r 0 0 rfl rfl) (by intro u hu; rw [List.mem_singleton.1 hu]; rfl) (by omega) (by simp only [maxLen]; omega) (fun g27 g27c w28 Sw28 Q Cg27 R T L => ?_)
   replace M := M.grow 3 rfl Sw28 Q R T L
   simp only [List.set] at M
   clear Q R T L
   rw [scells_more9] at M
   simp only [putT, List.set]
   refine wpL_nil (then_normal ?_)
   refine any_step [7] (by kernel_rfl) rfl (any_one ?_)
   refine any_opL 7 (by rfl) ?_
   simp only [List.take, List.drop]
   refine wpL_chunk 1 (by rfl) (fun Lk hLk => ?_)
   simp only [List.take, List.drop]
   refine wpV_callf (v := .string (bs (nodeS s0 x))) (args := #[.bool false, .string (bs x), .string (bs s0)]) (by rfl) rfl Tryd.func101 (by kernel_rfl) (by kernel_rfl) rfl (fun W hW => by with_reducible exact joined_f (x := x) (s0 := s0) hx hs ((M.sees hW).oldL L0) ((M.sees hW).oldG R0_0 L0 (by simp; omega))) ?_
   simp only [putT, List.set]
   refine wpV_nil (hLk _ (fun w29 Sw29 => ?_))
   clear hLk Lk
   simp only [List.take, List.drop]
   replace M := M.sees Sw29
   refine wpL_nil (then_normal ?_)
   refine any_step [8] (by kernel_rfl) rfl (any_one ?_)
   refine any_opL 8 (by rfl) ?_
   simp only [List.take, List.drop]
   refine wpL_store1 (g := h) (off := 0) (n := 1) (v := .slice (some ⟨g27, 0, none⟩) (o.length + 1) g27c) (by rfl) (by rfl) (by rfl) (by rfl) (by rfl) (M.t 2 rfl) (by decide) info48 rfl (fun w30 P R T => ?_)
   replace M := M.putS (new := [.slice (some ⟨g27, 0, none⟩) (o.length + 1) g27c]) 2 0 rfl P R T rfl ⟨.inl rfl, trivial⟩
   simp only [List.set] at M
   refine wpL_nil (then_normal ?_)
   refine any_step [9] (by kernel_rfl) rfl (any_one ?_)
   refine any_opL 9 (by rfl) ?_
   simp only [List.take, List.drop]
   refine wpL_store1 (g := g) (off := 0) (n := 1) (v := .string (bs (nodeS s0 x))) (by rfl) (by rfl) (by rfl) (by rfl) (by rfl) (M.t 1 rfl) (by decide) info9 rfl (fun w31 P R T => ?_)
   replace M := M.putS (new := [.string (bs (nodeS s0 x))]) 1 0 rfl P R T rfl ⟨.inl rfl, trivial⟩
   simp only [List.set] at M
   refine wpL_nil (then_normal ?_)
   refine any_end (by kernel_rfl) (no_panic ?_)
   repeat (first | with_reducible refine then_exit ?_ | with_reducible refine inblock_exit ?_)
   refine bodyPost_end (v := .tuple #[]) (results_none rfl _ _ _) rfl ?_
   simp only [List.length_append, List.length_singleton]
   exact ⟨_, rfl, g27, g27c, rfl, Cg27, (M.pick [1, 2, 3] (by decide) rfl)⟩
 ·
  refine any_opL 2 (by rfl) ?_
  simp only [List.take, List.drop]
  refine wpL_rowN (vs := [.string (bs ((([1]) ++ s0) ++ x))]) (z := .string { data := #[] }) (bytes := 16) (by rfl) (by rfl) Tryd.underlying48 (by kernel_rfl) (by decide) (by kernel_rfl) (fun g32 w33 Sw33 Hg32 Bg32 => ?_)
  replace M := ((M.sees Sw33).add (N := 1) (cs := [.string (bs ((([1]) ++ s0) ++ x))]) (M.ge Hg32) (M.fresh Hg32) Bg32 (by simp [flen]))
  clear Bg32
  simp only [putT, List.set]
  refine wpL_nil (then_normal ?_)
  refine any_step [0, 6] (by kernel_rfl) rfl (any_two ?_ (any_one ?_))
  ·
   refine any_opL 0 (by rfl) ?_
   simp only [List.take, List.drop]
   refine wpL_chunk 1 (by rfl) (fun Lk hLk => ?_)
   simp only [List.take, List.drop]
   refine wpV_load1 (v := .slice (some ⟨r, 0, none⟩) o.length rc) (by rfl) rfl rfl (range_one (M.r 2 0 rfl rfl)) (M.lt 2 rfl) Tryd.underlying48 rfl ?_
   simp only [putT, List.set]
   refine wpV_nil (hLk _ (fun w34 Sw34 => ?_))
   clear hLk Lk
   simp only [List.take, List.drop]
   replace M := M.sees Sw34
   refine wpL_nil (then_normal ?_)
   refine any_step [3, 6] (by kernel_rfl) rfl (any_two ?_ (any_one ?_))
   ·
    refine any_opL 3 (by rfl) ?_
    simp only [List.take, List.drop]
    refine wpL_append (n := o.length) (m := 1) (olds := scells o) (news := [.string (bs ((([1]) ++ s0) ++ x))]) (z := .string { data := #[] }) (bytes := 16) (by rfl) (by rfl) (by rfl) (by rfl) Tryd.underlying48 (by kernel_rfl) rfl rfl (scells_len _) rfl (M.r 3 0 rfl rfl) (M.t 3 rfl) (M.lt 3 rfl) (M.r 0 0 rfl rfl) (by intro u hu; rw [List.mem_singleton.1 hu]; rfl) (by omega) (by simp only [maxLen]; omega) (fun g35 g35c w36 Sw36 Q Cg35 R T L => ?_)
    replace M := M.grow 3 rfl Sw36 Q R T L
    simp only [List.set] at M
    clear Q R T L
    rw [scells_more9] at M
    simp only [putT, List.set]
    refine wpL_nil (then_normal ?_)
    refine any_step [6] (by kernel_rfl) rfl (any_one ?_)
    refine any_opL 6 (by rfl) ?_
    simp only [List.take, List.drop]
    refine wpL_chunk 1 (by rfl) (fun Lk hLk => ?_)
    simp only [List.take, List.drop]
    refine wpV_load1 (v := .string (bs s0)) (by rfl) rfl rfl (range_one (M.r 1 0 rfl rfl)) (M.lt 1 rfl) Tryd.underlying9 rfl ?_
    simp only [putT, List.set]
    refine wpV_nil (hLk _ (fun w37 Sw37 => ?_))
    clear hLk Lk
    simp only [List.take, List.drop]
    replace M := M.sees Sw37
    refine wpL_nil (then_normal ?_)
    refine any_step [7] (by kernel_rfl) rfl (any_one ?_)
    refine any_opL 7 (by rfl) ?_
    simp only [List.take, List.drop]
    refine wpL_chunk 1 (by rfl) (fun Lk hLk => ?_)
    simp only [List.take, List.drop]
    refine wpV_callf (v := .string (bs (nodeS s0 x))) (args := #[.bool false, .string (bs x), .string (bs s0)]) (by rfl) rfl Tryd.func101 (by kernel_rfl) (by kernel_rfl) rfl (fun W hW => by with_reducible exact joined_f (x := x) (s0 := s0) hx hs ((M.sees hW).oldL L0) ((M.sees hW).oldG R0_0 L0 (by simp; omega))) ?_
    simp only [putT, List.set]
    refine wpV_nil (hLk _ (fun w38 Sw38 => ?_))
    clear hLk Lk
    simp only [List.take, List.drop]
    replace M := M.sees Sw38
    refine wpL_nil (then_normal ?_)
    refine any_step [8] (by kernel_rfl) rfl (any_one ?_)
    refine any_opL 8 (by rfl) ?_
    simp only [List.take, List.drop]
    refine wpL_store1 (g := h) (off := 0) (n := 1) (v := .slice (some ⟨g35, 0, none⟩) (o.length + 1) g35c) (by rfl) (by rfl) (by rfl) (by rfl) (by rfl) (M.t 2 rfl) (by decide) info48 rfl (fun w39 P R T => ?_)
    replace M := M.putS (new := [.slice (some ⟨g35, 0, none⟩) (o.length + 1) g35c]) 2 0 rfl P R T rfl ⟨.inl rfl, trivial⟩
    simp only [List.set] at M
    refine wpL_nil (then_normal ?_)
    refine any_step [9] (by kernel_rfl) rfl (any_one ?_)
    refine any_opL 9 (by rfl) ?_
    simp only [List.take, List.drop]
    refine wpL_store1 (g := g) (off := 0) (n := 1) (v := .string (bs (nodeS s0 x))) (by rfl) (by rfl) (by rfl) (by rfl) (by rfl) (M.t 1 rfl) (by decide) info9 rfl (fun w40 P R T => ?_)
    replace M := M.putS (new := [.string (bs (nodeS s0 x))]) 1 0 rfl P R T rfl ⟨.inl rfl, trivial⟩
    simp only [List.set] at M
    refine wpL_nil (then_normal ?_)
    refine any_end (by kernel_rfl) (no_panic ?_)
    repeat (first | with_reducible refine then_exit ?_ | with_reducible refine inblock_exit ?_)
    refine bodyPost_end (v := .tuple #[]) (results_none rfl _ _ _) rfl ?_
    simp only [List.length_append, List.length_singleton]
    exact ⟨_, rfl, g35, g35c, rfl, Cg35, (M.pick [1, 2, 3] (by decide) rfl)⟩
   ·
    refine any_opL 6 (by rfl) ?_
    simp only [List.take, List.drop]
    refine wpL_chunk 1 (by rfl) (fun Lk hLk => ?_)
    simp only [List.take, List.drop]
    refine wpV_load1 (v := .string (bs s0)) (by rfl) rfl rfl (range_one (M.r 1 0 rfl rfl)) (M.lt 1 rfl) Tryd.underlying9 rfl ?_
    simp only [putT, List.set]
    refine wpV_nil (hLk _ (fun w41 Sw41 => ?_))
    clear hLk Lk
    simp only [List.take, List.drop]
    replace M := M.sees Sw41
    refine wpL_nil (then_normal ?_)
    refine any_step [3] (by kernel_rfl) rfl (any_one ?_)
    refine any_opL 3 (by rfl) ?_
    simp only [List.take, List.drop]
    refine wpL_append (n := o.length) (m := 1) (olds := scells o) (news := [.string (bs ((([1]) ++ s0) ++ x))]) (z := .string { data := #[] }) (bytes := 16) (by rfl) (by rfl) (by rfl) (by rfl) Tryd.underlying48 (by kernel_rfl) rfl rfl (scells_len _) rfl (M.r 3 0 rfl rfl) (M.t 3 rfl) (M.lt 3 rfl) (M.r 0 0 rfl rfl) (by intro u hu; rw [List.mem_singleton.1 hu]; rfl) (by omega) (by simp only [maxLen]; omega) (fun g42 g42c w43 Sw43 Q Cg42 R T L => ?_)
    replace M := M.grow 3 rfl Sw43 Q R T L
    simp only [List.set] at M
    clear Q R T L
    rw [scells_more9] at M
    simp only [putT, List.set]
    refine wpL_nil (then_normal ?_)
    refine any_step [7] (by kernel_rfl) rfl (any_one ?_)
    refine any_opL 7 (by rfl) ?_
    simp only [List.take, List.drop]
    refine wpL_chunk 1 (by rfl) (fun Lk hLk => ?_)
    simp only [List.take, List.drop]
    refine wpV_callf (v := .string (bs (nodeS s0 x))) (args := #[.bool false, .string (bs x), .string (bs s0)]) (by rfl) rfl Tryd.func101 (by kernel_rfl) (by kernel_rfl) rfl (fun W hW => by with_reducible exact joined_f (x := x) (s0 := s0) hx hs ((M.sees hW).oldL L0) ((M.sees hW).oldG R0_0 L0 (by simp; omega))) ?_
    simp only [putT, List.set]
    refine wpV_nil (hLk _ (fun w44 Sw44 => ?_))
    clear hLk Lk
    simp only [List.take, List.drop]
    replace M := M.sees Sw44
    refine wpL_nil (then_normal ?_)
    refine any_step [8] (by kernel_rfl) rfl (any_one ?_)
    refine any_opL 8 (by rfl) ?_
    simp only [List.take, List.drop]
    refine wpL_store1 (g := h) (off := 0) (n := 1) (v := .slice (some ⟨g42, 0, none⟩) (o.length + 1) g42c) (by rfl) (by rfl) (by rfl) (by rfl) (by rfl) (M.t 2 rfl) (by decide) info48 rfl (fun w45 P R T => ?_)
    replace M := M.putS (new := [.slice (some ⟨g42, 0, none⟩) (o.length + 1) g42c]) 2 0 rfl P R T rfl ⟨.inl rfl, trivial⟩
    simp only [List.set] at M
    refine wpL_nil (then_normal ?_)
    refine any_step [9] (by kernel_rfl) rfl (any_one ?_)
    refine any_opL 9 (by rfl) ?_
    simp only [List.take, List.drop]
    refine wpL_store1 (g := g) (off := 0) (n := 1) (v := .string (bs (nodeS s0 x))) (by rfl) (by rfl) (by rfl) (by rfl) (by rfl) (M.t 1 rfl) (by decide) info9 rfl (fun w46 P R T => ?_)
    replace M := M.putS (new := [.string (bs (nodeS s0 x))]) 1 0 rfl P R T rfl ⟨.inl rfl, trivial⟩
    simp only [List.set] at M
    refine wpL_nil (then_normal ?_)
    refine any_end (by kernel_rfl) (no_panic ?_)
    repeat (first | with_reducible refine then_exit ?_ | with_reducible refine inblock_exit ?_)
    refine bodyPost_end (v := .tuple #[]) (results_none rfl _ _ _) rfl ?_
    simp only [List.length_append, List.length_singleton]
    exact ⟨_, rfl, g42, g42c, rfl, Cg42, (M.pick [1, 2, 3] (by decide) rfl)⟩
  ·
   refine any_opL 6 (by rfl) ?_
   simp only [List.take, List.drop]
   refine wpL_chunk 1 (by rfl) (fun Lk hLk => ?_)
   simp only [List.take, List.drop]
   refine wpV_load1 (v := .string (bs s0)) (by rfl) rfl rfl (range_one (M.r 1 0 rfl rfl)) (M.lt 1 rfl) Tryd.underlying9 rfl ?_
   simp only [putT, List.set]
   refine wpV_nil (hLk _ (fun w47 Sw47 => ?_))
   clear hLk Lk
   simp only [List.take, List.drop]
   replace M := M.sees Sw47
   refine wpL_nil (then_normal ?_)
   refine any_step [0] (by kernel_rfl) rfl (any_one ?_)
   refine any_opL 0 (by rfl) ?_
   simp only [List.take, List.drop]
   refine wpL_chunk 1 (by rfl) (fun Lk hLk => ?_)
   simp only [List.take, List.drop]
   refine wpV_load1 (v := .slice (some ⟨r, 0, none⟩) o.length rc) (by rfl) rfl rfl (range_one (M.r 2 0 rfl rfl)) (M.lt 2 rfl) Tryd.underlying48 rfl ?_
   simp only [putT, List.set]
   refine wpV_nil (hLk _ (fun w48 Sw48 => ?_))
   clear hLk Lk
   simp only [List.take, List.drop]
   replace M := M.sees Sw48
   refine wpL_nil (then_normal ?_)
   refine any_step [3] (by kernel_rfl) rfl (any_one ?_)
   refine any_opL 3 (by rfl) ?_
   simp only [List.take, List.drop]
   refine wpL_append (n := o.length) (m := 1) (olds := scells o) (news := [.string (bs ((([1]) ++ s0) ++ x))]) (z := .string { data := #[] }) (bytes := 16) (by rfl) (by rfl) (by rfl) (by rfl) Tryd.underlying48 (by kernel_rfl) rfl rfl (scells_len _) rfl (M.r 3 0 rfl rfl) (M.t 3 rfl) (M.lt 3 rfl) (M.r 0 0 rfl rfl) (by intro u hu; rw [List.mem_singleton.1 hu]; rfl) (by omega) (by simp only [maxLen]; omega) (fun g49 g49c w50 Sw50 Q Cg49 R T L => ?_)
   replace M := M.grow 3 rfl Sw50 Q R T L
   simp only [List.set] at M
   clear Q R T L
   rw [scells_more9] at M
   simp only [putT, List.set]
   refine wpL_nil (then_normal ?_)
   refine any_step [7] (by kernel_rfl) rfl (any_one ?_)
   refine any_opL 7 (by rfl) ?_
   simp only [List.take, List.drop]
   refine wpL_chunk 1 (by rfl) (fun Lk hLk => ?_)
   simp only [List.take, List.drop]
   refine wpV_callf (v := .string (bs (nodeS s0 x))) (args := #[.bool false, .string (bs x), .string (bs s0)]) (by rfl) rfl Tryd.func101 (by kernel_rfl) (by kernel_rfl) rfl (fun W hW => by with_reducible exact joined_f (x := x) (s0 := s0) hx hs ((M.sees hW).oldL L0) ((M.sees hW).oldG R0_0 L0 (by simp; omega))) ?_
   simp only [putT, List.set]
   refine wpV_nil (hLk _ (fun w51 Sw51 => ?_))
   clear hLk Lk
   simp only [List.take, List.drop]
   replace M := M.sees Sw51
   refine wpL_nil (then_normal ?_)
   refine any_step [8] (by kernel_rfl) rfl (any_one ?_)
   refine any_opL 8 (by rfl) ?_
   simp only [List.take, List.drop]
   refine wpL_store1 (g := h) (off := 0) (n := 1) (v := .slice (some ⟨g49, 0, none⟩) (o.length + 1) g49c) (by rfl) (by rfl) (by rfl) (by rfl) (by rfl) (M.t 2 rfl) (by decide) info48 rfl (fun w52 P R T => ?_)
   replace M := M.putS (new := [.slice (some ⟨g49, 0, none⟩) (o.length + 1) g49c]) 2 0 rfl P R T rfl ⟨.inl rfl, trivial⟩
   simp only [List.set] at M
   refine wpL_nil (then_normal ?_)
   refine any_step [9] (by kernel_rfl) rfl (any_one ?_)
   refine any_opL 9 (by rfl) ?_
   simp only [List.take, List.drop]
   refine wpL_store1 (g := g) (off := 0) (n := 1) (v := .string (bs (nodeS s0 x))) (by rfl) (by rfl) (by rfl) (by rfl) (by rfl) (M.t 1 rfl) (by decide) info9 rfl (fun w53 P R T => ?_)
   replace M := M.putS (new := [.string (bs (nodeS s0 x))]) 1 0 rfl P R T rfl ⟨.inl rfl, trivial⟩
   simp only [List.set] at M
   refine wpL_nil (then_normal ?_)
   refine any_end (by kernel_rfl) (no_panic ?_)
   repeat (first | with_reducible refine then_exit ?_ | with_reducible refine inblock_exit ?_)
   refine bodyPost_end (v := .tuple #[]) (results_none rfl _ _ _) rfl ?_
   simp only [List.length_append, List.length_singleton]
   exact ⟨_, rfl, g49, g49c, rfl, Cg49, (M.pick [1, 2, 3] (by decide) rfl)⟩
 ·
  refine any_opL 6 (by rfl) ?_
  simp only [List.take, List.drop]
  refine wpL_chunk 1 (by rfl) (fun Lk hLk => ?_)
  simp only [List.take, List.drop]
  refine wpV_load1 (v := .string (bs s0)) (by rfl) rfl rfl (range_one (M.r 0 0 rfl rfl)) (M.lt 0 rfl) Tryd.underlying9 rfl ?_
  simp only [putT, List.set]
  refine wpV_nil (hLk _ (fun w54 Sw54 => ?_))
  clear hLk Lk
  simp only [List.take, List.drop]
  replace M := M.sees Sw54
  refine wpL_nil (then_normal ?_)
  refine any_step [0, 2] (by kernel_rfl) rfl (any_two ?_ (any_one ?_))
  ·
   refine any_opL 0 (by rfl) ?_
   simp only [List.take, List.drop]
   refine wpL_chunk 1 (by rfl) (fun Lk hLk => ?_)
   simp only [List.take, List.drop]
   refine wpV_load1 (v := .slice (some ⟨r, 0, none⟩) o.length rc) (by rfl) rfl rfl (range_one (M.r 1 0 rfl rfl)) (M.lt 1 rfl) Tryd.underlying48 rfl ?_
   simp only [putT, List.set]
   refine wpV_nil (hLk _ (fun w55 Sw55 => ?_))
   clear hLk Lk
   simp only [List.take, List.drop]
   replace M := M.sees Sw55
   refine wpL_nil (then_normal ?_)
   refine any_step [2] (by kernel_rfl) rfl (any_one ?_)
   refine any_opL 2 (by rfl) ?_
   simp only [List.take, List.drop]
   refine wpL_rowN (vs := [.string (bs ((([1]) ++ s0) ++ x))]) (z := .string { data := #[] }) (bytes := 16) (by rfl) (by rfl) Tryd.underlying48 (by kernel_rfl) (by decide) (by kernel_rfl) (fun g56 w57 Sw57 Hg56 Bg56 => ?_)
   replace M := ((M.sees Sw57).add (N := 1) (cs := [.string (bs ((([1]) ++ s0) ++ x))]) (M.ge Hg56) (M.fresh Hg56) Bg56 (by simp [flen]))
   clear Bg56
   simp only [putT, List.set]
   refine wpL_nil (then_normal ?_)
   refine any_step [3] (by kernel_rfl) rfl (any_one ?_)
   refine any_opL 3 (by rfl) ?_
   simp only [List.take, List.drop]
   refine wpL_append (n := o.length) (m := 1) (olds := scells o) (news := [.string (bs ((([1]) ++ s0) ++ x))]) (z := .string { data := #[] }) (bytes := 16) (by rfl) (by rfl) (by rfl) (by rfl) Tryd.underlying48 (by kernel_rfl) rfl rfl (scells_len _) rfl (M.r 3 0 rfl rfl) (M.t 3 rfl) (M.lt 3 rfl) (M.r 0 0 rfl rfl) (by intro u hu; rw [List.mem_singleton.1 hu]; rfl) (by omega) (by simp only [maxLen]; omega) (fun g58 g58c w59 Sw59 Q Cg58 R T L => ?_)
   replace M := M.grow 3 rfl Sw59 Q R T L
   simp only [List.set] at M
   clear Q R T L
   rw [scells_more9] at M
   simp only [putT, List.set]
   refine wpL_nil (then_normal ?_)
   refine any_step [7] (by kernel_rfl) rfl (any_one ?_)
   refine any_opL 7 (by rfl) ?_
   simp only [List.take, List.drop]
   refine wpL_chunk 1 (by rfl) (fun Lk hLk => ?_)
   simp only [List.take, List.drop]
   refine wpV_callf (v := .string (bs (nodeS s0 x))) (args := #[.bool false, .string (bs x), .string (bs s0)]) (by rfl) rfl Tryd.func101 (by kernel_rfl) (by kernel_rfl) rfl (fun W hW => by with_reducible exact joined_f (x := x) (s0 := s0) hx hs ((M.sees hW).oldL L0) ((M.sees hW).oldG R0_0 L0 (by simp; omega))) ?_
   simp only [putT, List.set]
   refine wpV_nil (hLk _ (fun w60 Sw60 => ?_))
   clear hLk Lk
   simp only [List.take, List.drop]
   replace M := M.sees Sw60
   refine wpL_nil (then_normal ?_)
   refine any_step [8] (by kernel_rfl) rfl (any_one ?_)
   refine any_opL 8 (by rfl) ?_
   simp only [List.take, List.drop]
   refine wpL_store1 (g := h) (off := 0) (n := 1) (v := .slice (some ⟨g58, 0, none⟩) (o.length + 1) g58c) (by rfl) (by rfl) (by rfl) (by rfl) (by rfl) (M.t 2 rfl) (by decide) info48 rfl (fun w61 P R T => ?_)
   replace M := M.putS (new := [.slice (some ⟨g58, 0, none⟩) (o.length + 1) g58c]) 2 0 rfl P R T rfl ⟨.inl rfl, trivial⟩
   simp only [List.set] at M
   refine wpL_nil (then_normal ?_)
   refine any_step [9] (by kernel_rfl) rfl (any_one ?_)
   refine any_opL 9 (by rfl) ?_
   simp only [List.take, List.drop]
   refine wpL_store1 (g := g) (off := 0) (n := 1) (v := .string (bs (nodeS s0 x))) (by rfl) (by rfl) (by rfl) (by rfl) (by rfl) (M.t 1 rfl) (by decide) info9 rfl (fun w62 P R T => ?_)
   replace M := M.putS (new := [.string (bs (nodeS s0 x))]) 1 0 rfl P R T rfl ⟨.inl rfl, trivial⟩
   simp only [List.set] at M
   refine wpL_nil (then_normal ?_)
   refine any_end (by kernel_rfl) (no_panic ?_)
   repeat (first | with_reducible refine then_exit ?_ | with_reducible refine inblock_exit ?_)
   refine bodyPost_end (v := .tuple #[]) (results_none rfl _ _ _) rfl ?_
   simp only [List.length_append, List.length_singleton]
   exact ⟨_, rfl, g58, g58c, rfl, Cg58, (M.pick [1, 2, 3] (by decide) rfl)⟩
  ·
   refine any_opL 2 (by rfl) ?_
   simp only [List.take, List.drop]
   refine wpL_rowN (vs := [.string (bs ((([1]) ++ s0) ++ x))]) (z := .string { data := #[] }) (bytes := 16) (by rfl) (by rfl) Tryd.underlying48 (by kernel_rfl) (by decide) (by kernel_rfl) (fun g63 w64 Sw64 Hg63 Bg63 => ?_)
   replace M := ((M.sees Sw64).add (N := 1) (cs := [.string (bs ((([1]) ++ s0) ++ x))]) (M.ge Hg63) (M.fresh Hg63) Bg63 (by simp [flen]))
   clear Bg63
   simp only [putT, List.set]
   refine wpL_nil (then_normal ?_)
   refine any_step [0] (by kernel_rfl) rfl (any_one ?_)
   refine any_opL 0 (by rfl) ?_
   simp only [List.take, List.drop]
   refine wpL_chunk 1 (by rfl) (fun Lk hLk => ?_)
   simp only [List.take, List.drop]
   refine wpV_load1 (v := .slice (some ⟨r, 0, none⟩) o.length rc) (by rfl) rfl rfl (range_one (M.r 2 0 rfl rfl)) (M.lt 2 rfl) Tryd.underlying48 rfl ?_
   simp only [putT, List.set]
   refine wpV_nil (hLk _ (fun w65 Sw65 => ?_))
   clear hLk Lk
   simp only [List.take, List.drop]
   replace M := M.sees Sw65
   refine wpL_nil (then_normal ?_)
   refine any_step [3] (by kernel_rfl) rfl (any_one ?_)
   refine any_opL 3 (by rfl) ?_
   simp only [List.take, List.drop]
   refine wpL_append (n := o.length) (m := 1) (olds := scells o) (news := [.string (bs ((([1]) ++ s0) ++ x))]) (z := .string { data := #[] }) (bytes := 16) (by rfl) (by rfl) (by rfl) (by rfl) Tryd.underlying48 (by kernel_rfl) rfl rfl (scells_len _) rfl (M.r 3 0 rfl rfl) (M.t 3 rfl) (M.lt 3 rfl) (M.r 0 0 rfl rfl) (by intro u hu; rw [List.mem_singleton.1 hu]; rfl) (by omega) (by simp only [maxLen]; omega) (fun g66 g66c w67 Sw67 Q Cg66 R T L => ?_)
   replace M := M.grow 3 rfl Sw67 Q R T L
   simp only [List.set] at M
   clear Q R T L
   rw [scells_more9] at M
   simp only [putT, List.set]
   refine wpL_nil (then_normal ?_)
   refine any_step [7] (by kernel_rfl) rfl (any_one ?_)
   refine any_opL 7 (by rfl) ?_
   simp only [List.take, List.drop]
   refine wpL_chunk 1 (by rfl) (fun Lk hLk => ?_)
   simp only [List.take, List.drop]
   refine wpV_callf (v := .string (bs (nodeS s0 x))) (args := #[.bool false, .string (bs x), .string (bs s0)]) (by rfl) rfl Tryd.func101 (by kernel_rfl) (by kernel_rfl) rfl (fun W hW => by with_reducible exact joined_f (x := x) (s0 := s0) hx hs ((M.sees hW).oldL L0) ((M.sees hW).oldG R0_0 L0 (by simp; omega))) ?_
   simp only [putT, List.set]
   refine wpV_nil (hLk _ (fun w68 Sw68 => ?_))
   clear hLk Lk
   simp only [List.take, List.drop]
   replace M := M.sees Sw68
   refine wpL_nil (then_normal ?_)
   refine any_step [8] (by kernel_rfl) rfl (any_one ?_)
   refine any_opL 8 (by rfl) ?_
   simp only [List.take, List.drop]
   refine wpL_store1 (g := h) (off := 0) (n := 1) (v := .slice (some ⟨g66, 0, none⟩) (o.length + 1) g66c) (by rfl) (by rfl) (by rfl) (by rfl) (by rfl) (M.t 2 rfl) (by decide) info48 rfl (fun w69 P R T => ?_)
   replace M := M.putS (new := [.slice (some ⟨g66, 0, none⟩) (o.length + 1) g66c]) 2 0 rfl P R T rfl ⟨.inl rfl, trivial⟩
   simp only [List.set] at M
   refine wpL_nil (then_normal ?_)
   refine any_step [9] (by kernel_rfl) rfl (any_one ?_)
   refine any_opL 9 (by rfl) ?_
   simp only [List.take, List.drop]
   refine wpL_store1 (g := g) (off := 0) (n := 1) (v := .string (bs (nodeS s0 x))) (by rfl) (by rfl) (by rfl) (by rfl) (by rfl) (M.t 1 rfl) (by decide) info9 rfl (fun w70 P R T => ?_)
   replace M := M.putS (new := [.string (bs (nodeS s0 x))]) 1 0 rfl P R T rfl ⟨.inl rfl, trivial⟩
   simp only [List.set] at M
   refine wpL_nil (then_normal ?_)
   refine any_end (by kernel_rfl) (no_panic ?_)
   repeat (first | with_reducible refine then_exit ?_ | with_reducible refine inblock_exit ?_)
   refine bodyPost_end (v := .tuple #[]) (results_none rfl _ _ _) rfl ?_
   simp only [List.length_append, List.length_singleton]
   exact ⟨_, rfl, g66, g66c, rfl, Cg66, (M.pick [1, 2, 3] (by decide) rfl)⟩
end Go.Proofs.Yb

