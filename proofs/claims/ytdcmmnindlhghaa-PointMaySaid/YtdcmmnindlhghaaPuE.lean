import Derived.WalkKit
import Derived.WalkSpells
import Derived.Laws.Pointers
import Derived.RowKit3
import Derived.Below
import Derived.Outline
import Derived.LoopN
import Derived.Lib.Hide
import Derived.Handy
import Derived.Laws.Bits64b
import Derived.Test.YtdcmmnindlhghaaNumH
import Derived.Test.YtdcmmnindlhghaaPtN
import Derived.Test.YtdcmmnindlhghaaPtR
import Derived.Test.YtdcmmnindlhghaaPtP
import Derived.Test.YtdcmmnindlhghaaPtQ
import Derived.Test.YtdcmmnindlhghaaAdds3
set_option linter.unusedSimpArgs false
set_option linter.unusedVariables false
namespace Go.Proofs.Yc
open Go Go.RowKit Go.Proofs.Num
open List renaming set → Z0, take → Z1, drop → Z2
open Go renaming undef → Z3, wp_seq_k → Z4, wp_cond_true → Z5, wp_cond_false → Z6
open Go.Proofs.Num renaming putT → Z7, wp_region_seq → Z8, wpL_nil → Z9, no_panic → Z10, wpL_chunk → Z11, wpL_move → Z12, wpL_assign → Z13, wpV_nil → Z14, wpV_bin → Z15, then_normal → Z17, wpV_val → Z19, wpV_callf → Z20
attribute [local irreducible] wpV wpN wpList
open Go.Proofs.Ya
def NewRel0 (w0 : World) (f : Nat → Nat → Value) (n : Nat) (segs : List (Nat × List Value)) : Rel := fun _ v g W => ∃ c, v = f g c ∧ n ≤ c ∧ Bk.Ok [] w0 W ⟨g, 0, segs⟩
theorem keep_new0 {w0 : World} {f : Nat → Nat → Value} {n : Nat} {segs : List (Nat × List Value)} : Keeps (NewRel0 w0 f n segs) := fun _ _ _ _ _ ⟨c, h1, h2, h3⟩ hS => ⟨c, h1, h2, h3.mono hS⟩
theorem free_new0 {w0 : World} {f : Nat → Nat → Value} {n : Nat} {segs : List (Nat × List Value)} : Free (NewRel0 w0 f n segs) := fun _ _ _ _ _ h => h
theorem own_new0 {w0 : World} {f : Nat → Nat → Value} {n : Nat} {segs : List (Nat × List Value)} : Owns (NewRel0 w0 f n segs) := fun _ _ _ _ ⟨_, _, _, h⟩ => h.lt
theorem dlen_16 {x : Nat} (h : x < 65536 ^ 16) (h' : ¬ x < 65536 ^ 15) : dlen x = 16 := by
 have h1 : dlen x ≤ 16 := (dlen_le _ _).2 h
 have h2 : ¬ dlen x ≤ 15 := fun q => h' ((dlen_le _ _).1 q)
 omega
theorem plus04_3 {g0 c0 g1 cg1 : Nat} {w : World} (hcg0 : 16 ≤ c0) (Lg0 : g0 < w.heap.size) (Rg0_0 : w.rangeAt g0 0 (dl 16 pF)) (hcg1 : 1 ≤ cg1) (Lg1 : g1 < w.heap.size) (Rg1_0 : w.rangeAt g1 0 [.int .i64 3]) :
  Calls Try.prog 73 #[.slice (some ⟨g0, 0, none⟩) 16 c0, .slice (some ⟨g1, 0, none⟩) 1 cg1] w fun e w' => ∃ v, e = .returned v ∧ (∃ g c, v = .slice (some ⟨g, 0, none⟩) 16 c ∧ 16 ≤ c ∧ Mem [] w w' [⟨g, 0, [(0, dl 16 (pF + 3))]⟩]) ∧ Below w.heap.size w w' := by
 have h9 := plus04_c (n := 16) (x := pF) (m := 1) (y := 3) (by decide) (by decide) (by decide) (by decide) hcg0 Lg0 Rg0_0 hcg1 Lg1 (by rw [dl_one (by decide)]; exact Rg1_0)
 rw [dlen_16 (x := pF + 3) (by decide) (by decide)] at h9
 exact h9.mono fun e w' ⟨v, he, h1, h2⟩ => ⟨v, he, new0 h1 h2, h2⟩
theorem minus04_1 {g0 c0 g1 cg1 : Nat} {w : World} (hcg0 : 16 ≤ c0) (Lg0 : g0 < w.heap.size) (Rg0_0 : w.rangeAt g0 0 (dl 16 pF)) (hcg1 : 1 ≤ cg1) (Lg1 : g1 < w.heap.size) (Rg1_0 : w.rangeAt g1 0 [.int .i64 1]) :
  Calls Try.prog 70 #[.slice (some ⟨g0, 0, none⟩) 16 c0, .slice (some ⟨g1, 0, none⟩) 1 cg1] w fun e w' => ∃ v, e = .returned v ∧ (∃ g c, v = .slice (some ⟨g, 0, none⟩) 16 c ∧ 16 ≤ c ∧ Mem [] w w' [⟨g, 0, [(0, dl 16 (pF - 1))]⟩]) ∧ Below w.heap.size w w' := by
 have h9 := minus04_c (n := 16) (x := pF) (m := 1) (y := 1) (by decide) (by decide) (by decide) (by decide) (by decide) hcg0 Lg0 Rg0_0 hcg1 Lg1 (by rw [dl_one (by decide)]; exact Rg1_0)
 rw [dlen_16 (x := pF - 1) (by decide) (by decide)] at h9
 exact h9.mono fun e w' ⟨v, he, h1, h2⟩ => ⟨v, he, new0 h1 h2, h2⟩
theorem times04_2 {g0 c0 g1 cg1 : Nat} {w : World} (hcg0 : 16 ≤ c0) (Lg0 : g0 < w.heap.size) (Rg0_0 : w.rangeAt g0 0 (dl 16 (pF - 1))) (hcg1 : 1 ≤ cg1) (Lg1 : g1 < w.heap.size) (Rg1_0 : w.rangeAt g1 0 [.int .i64 2]) :
  Calls Try.prog 77 #[.slice (some ⟨g0, 0, none⟩) 16 c0, .slice (some ⟨g1, 0, none⟩) 1 cg1] w fun e w' => ∃ v, e = .returned v ∧ (∃ g c, v = .slice (some ⟨g, 0, none⟩) 16 c ∧ 16 ≤ c ∧ Mem [] w w' [⟨g, 0, [(0, dl 16 ((pF - 1) * 2))]⟩]) ∧ Below w.heap.size w w' := by
 have h9 := times04_c (n := 16) (x := pF - 1) (m := 1) (y := 2) (by decide) (by decide) (by decide) (by decide) hcg0 Lg0 Rg0_0 hcg1 Lg1 (by rw [dl_one (by decide)]; exact Rg1_0)
 rw [dlen_16 (x := (pF - 1) * 2) (by decide) (by decide)] at h9
 exact h9.mono fun e w' ⟨v, he, h1, h2⟩ => ⟨v, he, new0 h1 h2, h2⟩
theorem root_a {x : Nat} (hl : leastF x = x) (h : fmul (fpow x ((pF + 3) / 8)) (fpow x ((pF + 3) / 8)) = x) : root2 x = fpow x ((pF + 3) / 8) := by
 have e : root1 x = fpow x ((pF + 3) / 8) := by unfold root1; rw [hl]; rfl
 unfold root2
 rw [hl, e, if_pos h]
theorem root_b {x : Nat} (hl : leastF x = x) (h : ¬ fmul (fpow x ((pF + 3) / 8)) (fpow x ((pF + 3) / 8)) = x) : root2 x = fmul (fpow x ((pF + 3) / 8)) (fpow 2 ((pF - 1) * 2 / 8)) := by
 have e : root1 x = fpow x ((pF + 3) / 8) := by unfold root1; rw [hl]; rfl
 unfold root2
 rw [hl, e, if_neg h]
 rfl
set_option maxHeartbeats 4000000 in
theorem rRoot_c {x : Nat} {w : World} (hp : x < pF) :
  Calls Try.prog 69 #[fe x] w fun e w' => e = .returned (.tuple #[fe (fsqrt x).1, .bool (fsqrt x).2]) ∧ Below w.heap.size w w' := by
 have hl : leastF x = x := leastF_of_lt hp
 have hx : x < 2 ^ 256 := Nat.lt_trans hp (by decide)
 go_enter Try.func69, Try.ntmps69
 have M := Mem.start w
 refine Z4 (fun K1 hK1 => ?_)
 refine Z8 ?_
 refine wpL_var (t := 24) (cs := fel x) (by rfl) (fun W => ?_) (fun g3 w4 Sw4 Hg3 Bg3 => ?_)
 ·
  (first | rfl | go_simp)
 replace M := ((M.sees Sw4).add (N := 4) (cs := fel x) (M.ge Hg3) (M.fresh Hg3) Bg3 rfl)
 clear Bg3
 simp only [Z7,Z0]
 refine wpL_var (t := 24) (cs := [.int .u64 0, .int .u64 0, .int .u64 0, .int .u64 0]) (by rfl) (fun W => ?_) (fun g5 w6 Sw6 Hg5 Bg5 => ?_)
 ·
  go_simp
 replace M := ((M.sees Sw6).add (N := 4) (cs := [.int .u64 0, .int .u64 0, .int .u64 0, .int .u64 0]) (M.ge Hg5) (M.fresh Hg5) Bg5 rfl)
 clear Bg5
 simp only [Z7,Z0]
 refine Z13 (v := .bool false) (by rfl) (by rfl) (by rfl) ?_
 simp only [Z7,Z0]
 refine Z9 (Z10 ?_)
 refine hK1 _ _ ?_
 refine Z4 (fun K7 hK7 => ?_)
 refine Z8 ?_
 refine wpL_callE (f := 68) (args := #[]) (R := fun v9 W9 => ∃ g10 g10c, v9 = .slice (some ⟨g10, 0, none⟩) 16 g10c ∧ 16 ≤ g10c ∧ Mem [] w6 W9 [⟨g10, 0, [(0, dl 16 pF)]⟩]) (by rfl) (by rfl) rfl Try.func68 (by kernel_rfl) (by kernel_rfl) (prime04_o) (fun v9 w9 hv9 Sw9 => ?_)
 obtain ⟨g10, g10c, rfl, Cg10, M9⟩ := hv9
 replace M := M.call1 M9
 clear Sw9
 simp only [Z7,Z0]
 refine Z13 (v := .slice (some ⟨g10, 0, none⟩) 16 g10c) (by rfl) (by rfl) (by rfl) ?_
 simp only [Z7,Z0]
 refine Z9 (Z10 ?_)
 refine hK7 _ _ ?_
 refine Z4 (fun K11 hK11 => ?_)
 refine Z8 ?_
 refine Z12 (v := .slice (some ⟨g10, 0, none⟩) 16 g10c) (by rfl) (by rfl) (by rfl) ?_
 simp only [Z7,Z0]
 refine wpL_rowN (vs := [.int .i64 3]) (z := .int .i64 0) (bytes := 8) (by rfl) (by rfl) Try.underlying100 (by kernel_rfl) (by decide) (by kernel_rfl) (fun g13 w14 Sw14 Hg13 Bg13 => ?_)
 replace M := ((M.sees Sw14).add (N := 1) (cs := [.int .i64 3]) (M.ge Hg13) (M.fresh Hg13) Bg13 rfl)
 replace M := M.read1 (cs := dl 1 3) 0 rfl (by rw [dl_one (v := 3) (by omega)]; exact M.r 0 0 rfl rfl)
 simp only [Z0] at M
 clear Bg13
 simp only [Z7,Z0]
 refine wpL_callE (f := 73) (args := #[.slice (some ⟨g10, 0, none⟩) 16 g10c, .slice (some ⟨g13, 0, none⟩) 1 1]) (R := fun v9 W9 => ∃ g16 g16c, v9 = .slice (some ⟨g16, 0, none⟩) 16 g16c ∧ 16 ≤ g16c ∧ Mem [] w14 W9 [⟨g16, 0, [(0, dl 16 (pF + 3))]⟩]) (by rfl) (by rfl) rfl Try.func73 (by kernel_rfl) (by kernel_rfl) (plus04_3 Cg10 (M.lt 1 rfl) (M.r 1 0 rfl rfl) (Nat.le_refl _) (M.lt 0 rfl) (M.r 0 0 rfl rfl)) (fun v9 w15 hv9 Sw15 => ?_)
 obtain ⟨g16, g16c, rfl, Cg16, M9⟩ := hv9
 replace M := M.call1 M9
 clear Sw15
 simp only [Z7,Z0]
 refine Z13 (v := .slice (some ⟨g16, 0, none⟩) 16 g16c) (by rfl) (by rfl) (by rfl) ?_
 simp only [Z7,Z0]
 refine Z9 (Z10 ?_)
 refine hK11 _ _ ?_
 refine Z4 (fun K17 hK17 => ?_)
 refine wp_region_addsF 5 [] [2, 4] [ValRel (fe x), ValRel (.slice (some ⟨g16, 0, none⟩) 16 g16c), NewRel w15 (fun gA gAc => .slice (some ⟨gA, 0, none⟩) 16 gAc) 16 [(0, dl 16 ((pF + 3) / 8))], ValRel (fe (fpow x ((pF + 3) / 8))), BoxRel w15 (fun gA => .pointer (some ⟨gA, 0, none⟩)) 4 [(0, [.int .u64 0, .int .u64 0, .int .u64 0, .int .u64 0])]] [[], [], [1], [0, 2], []] (fun vs => { tmps := #[fe x, .pointer (some ⟨g3, 0, none⟩), .pointer (some ⟨g5, 0, none⟩), .bool false, .slice (some ⟨g10, 0, none⟩) 16 g10c, .slice (some ⟨g16, 0, none⟩) 16 g16c, vs 4, .slice (some ⟨g10, 0, none⟩) 16 g10c, .slice (some ⟨g10, 0, none⟩) 16 g10c, .slice (some ⟨g13, 0, none⟩) 1 1, .slice (some ⟨g16, 0, none⟩) 16 g16c, vs 0, vs 1, vs 2, vs 3, Z3, Z3, Z3, Z3, Z3, Z3, Z3, Z3, Z3, Z3, Z3, Z3, Z3, Z3, Z3, Z3, Z3, Z3, Z3, Z3, Z3, Z3, Z3, Z3, Z3, Z3, Z3, Z3, Z3], defers := [] }) (by kernel_rfl) (by kernel_rfl) (by kernel_rfl) (by kernel_rfl) (.cons keep_val (.cons keep_val (.cons keep_new (.cons keep_val (.cons keep_box AllKeep.nil))))) (.free free_val (.free free_val (.free free_new (.free free_val (.free free_box AllLoc.nil))))) (.cons own_new (.cons own_box AllOwn.nil)) (by kernel_rfl) ?_ ?_
 ·
  simp only [Z1]
  refine RulesL.cons (fun vs => { tmps := #[fe x, .pointer (some ⟨g3, 0, none⟩), .pointer (some ⟨g5, 0, none⟩), .bool false, .slice (some ⟨g10, 0, none⟩) 16 g10c, .slice (some ⟨g16, 0, none⟩) 16 g16c, Z3, .slice (some ⟨g10, 0, none⟩) 16 g10c, .slice (some ⟨g10, 0, none⟩) 16 g10c, .slice (some ⟨g13, 0, none⟩) 1 1, .slice (some ⟨g16, 0, none⟩) 16 g16c, Z3, Z3, Z3, Z3, Z3, Z3, Z3, Z3, Z3, Z3, Z3, Z3, Z3, Z3, Z3, Z3, Z3, Z3, Z3, Z3, Z3, Z3, Z3, Z3, Z3, Z3, Z3, Z3, Z3, Z3, Z3, Z3, Z3], defers := [] }) (by kernel_rfl) ?_ ?_
  ·
   intro vs gs W20 SW20 D K9 hK9
   replace M := M.sees SW20
   dsimp only at hK9
   dsimp only
   refine Z11 1 (by rfl) (fun Lk hLk => ?_)
   simp only [Z1,Z2]
   refine wpV_load (cs := fel x) (by rfl) rfl rfl (M.r 4 0 rfl rfl) (M.lt 4 rfl) Try.underlying24 rfl info24 ?_
   simp only [Z7,Z0]
   refine Z14 (hLk _ (fun w21 Sw21 => ?_))
   clear hLk Lk
   simp only [Z1,Z2]
   replace M := M.sees Sw21
   refine Z9 (Z17 ?_)
   have h8 := hK9 (fe x)
   have h9 := h8 0 _ Sw21 rfl (fun h => absurd h (by decide))
   simp only [Z7,Z0] at h9
   exact h9
  refine RulesL.cons (fun vs => { tmps := #[fe x, .pointer (some ⟨g3, 0, none⟩), .pointer (some ⟨g5, 0, none⟩), .bool false, .slice (some ⟨g10, 0, none⟩) 16 g10c, .slice (some ⟨g16, 0, none⟩) 16 g16c, Z3, .slice (some ⟨g10, 0, none⟩) 16 g10c, .slice (some ⟨g10, 0, none⟩) 16 g10c, .slice (some ⟨g13, 0, none⟩) 1 1, .slice (some ⟨g16, 0, none⟩) 16 g16c, Z3, Z3, Z3, Z3, Z3, Z3, Z3, Z3, Z3, Z3, Z3, Z3, Z3, Z3, Z3, Z3, Z3, Z3, Z3, Z3, Z3, Z3, Z3, Z3, Z3, Z3, Z3, Z3, Z3, Z3, Z3, Z3, Z3], defers := [] }) (by kernel_rfl) ?_ ?_
  ·
   intro vs gs W22 SW22 D K9 hK9
   replace M := M.sees SW22
   dsimp only at hK9
   dsimp only
   refine Z12 (v := .slice (some ⟨g16, 0, none⟩) 16 g16c) (by rfl) (by rfl) (by rfl) ?_
   simp only [Z7,Z0]
   refine Z9 (Z17 ?_)
   have h8 := hK9 (.slice (some ⟨g16, 0, none⟩) 16 g16c)
   have h9 := h8 0 _ (sees_refl _) rfl (fun h => absurd h (by decide))
   simp only [Z7,Z0] at h9
   exact h9
  refine RulesL.cons (fun vs => { tmps := #[fe x, .pointer (some ⟨g3, 0, none⟩), .pointer (some ⟨g5, 0, none⟩), .bool false, .slice (some ⟨g10, 0, none⟩) 16 g10c, .slice (some ⟨g16, 0, none⟩) 16 g16c, Z3, .slice (some ⟨g10, 0, none⟩) 16 g10c, .slice (some ⟨g10, 0, none⟩) 16 g10c, .slice (some ⟨g13, 0, none⟩) 1 1, .slice (some ⟨g16, 0, none⟩) 16 g16c, Z3, vs 1, Z3, Z3, Z3, Z3, Z3, Z3, Z3, Z3, Z3, Z3, Z3, Z3, Z3, Z3, Z3, Z3, Z3, Z3, Z3, Z3, Z3, Z3, Z3, Z3, Z3, Z3, Z3, Z3, Z3, Z3, Z3], defers := [] }) (by kernel_rfl) ?_ ?_
  ·
   intro vs gs W23 SW23 D K9 hK9
   replace M := M.sees SW23
   have Rg16_0 := M.r 0 0 rfl rfl
   have Lg16 := M.lt 0 rfl
   have Rg13_0 := M.r 1 0 rfl rfl
   have Lg13 := M.lt 1 rfl
   have Rg10_0 := M.r 2 0 rfl rfl
   have Lg10 := M.lt 2 rfl
   have Rg5_0 := M.r 3 0 rfl rfl
   have Lg5 := M.lt 3 rfl
   have Rg3_0 := M.r 4 0 rfl rfl
   have Lg3 := M.lt 4 rfl
   have BB := M.below
   replace M := Mem.start W23
   obtain ⟨D1, _⟩ := D
   have e1 : vs 1 = .slice (some ⟨g16, 0, none⟩) 16 g16c := D1
   dsimp only at hK9
   dsimp only
   rw [e1] at hK9 ⊢
   refine wpL_callE (f := 88) (args := #[.slice (some ⟨g16, 0, none⟩) 16 g16c]) (R := fun v9 W9 => ∃ g25 g25c, v9 = .slice (some ⟨g25, 0, none⟩) 16 g25c ∧ 16 ≤ g25c ∧ Mem [] W23 W9 [⟨g25, g25c, [(0, dl 16 ((pF + 3) / 8))]⟩]) (by rfl) (by rfl) rfl Try.func88 (by kernel_rfl) (by kernel_rfl) (eighth_c (m := (pF + 3)) (by decide) (by decide) (RowA.of (M.oldR Rg16_0 Lg16) (M.oldL Lg16) (dl_len _ _).symm Cg16)) (fun v9 w24 hv9 Sw24 => ?_)
   obtain ⟨g25, g25c, rfl, Cg25, M9⟩ := hv9
   replace M := M.call1 M9
   clear Sw24
   simp only [Z7,Z0]
   refine Z9 (Z17 ?_)
   have h8 := hK9 (.slice (some ⟨g25, 0, none⟩) 16 g25c)
   have h9 := h8 g25 _ M.seesAll ⟨g25c, rfl, Cg25, (M.ok _ (.head _)).up SW23⟩ (fun _ => (M.ok _ (.head _)).ge)
   simp only [Z7,Z0] at h9
   exact h9
  refine RulesL.cons (fun vs => { tmps := #[fe x, .pointer (some ⟨g3, 0, none⟩), .pointer (some ⟨g5, 0, none⟩), .bool false, .slice (some ⟨g10, 0, none⟩) 16 g10c, .slice (some ⟨g16, 0, none⟩) 16 g16c, Z3, .slice (some ⟨g10, 0, none⟩) 16 g10c, .slice (some ⟨g10, 0, none⟩) 16 g10c, .slice (some ⟨g13, 0, none⟩) 1 1, .slice (some ⟨g16, 0, none⟩) 16 g16c, vs 0, Z3, vs 2, Z3, Z3, Z3, Z3, Z3, Z3, Z3, Z3, Z3, Z3, Z3, Z3, Z3, Z3, Z3, Z3, Z3, Z3, Z3, Z3, Z3, Z3, Z3, Z3, Z3, Z3, Z3, Z3, Z3, Z3], defers := [] }) (by kernel_rfl) ?_ ?_
  ·
   intro vs gs W26 SW26 D K9 hK9
   replace M := M.sees SW26
   have Rg16_0 := M.r 0 0 rfl rfl
   have Lg16 := M.lt 0 rfl
   have Rg13_0 := M.r 1 0 rfl rfl
   have Lg13 := M.lt 1 rfl
   have Rg10_0 := M.r 2 0 rfl rfl
   have Lg10 := M.lt 2 rfl
   have Rg5_0 := M.r 3 0 rfl rfl
   have Lg5 := M.lt 3 rfl
   have Rg3_0 := M.r 4 0 rfl rfl
   have Lg3 := M.lt 4 rfl
   have BB := M.below
   replace M := Mem.start W26
   obtain ⟨D0, D2, _⟩ := D
   have e0 : vs 0 = fe x := D0
   obtain ⟨g27c, e2, Cg27, Og27⟩ := D2
   generalize gs 2 = g27 at *
   replace e2 : vs 2 = .slice (some ⟨g27, 0, none⟩) 16 g27c := e2
   have Rg27_0 := Og27.range (0, dl 16 ((pF + 3) / 8)) (by simp only [List.mem_cons, true_or, or_true])
   have Lg27 := Og27.lt
   dsimp only at hK9
   dsimp only
   rw [e0, e2] at hK9 ⊢
   refine Z11 1 (by rfl) (fun Lk hLk => ?_)
   simp only [Z1,Z2]
   refine Z20 (v := fe (fpow x ((pF + 3) / 8))) (args := #[fe x, .slice (some ⟨g27, 0, none⟩) 16 g27c]) (by rfl) rfl Try.func79 (by kernel_rfl) (by kernel_rfl) rfl (fun W hW => rpower_c hx (by decide) (by decide) (RowA.of ((M.sees hW).oldR Rg27_0 Lg27) ((M.sees hW).oldL Lg27) (dl_len _ _).symm Cg27)) ?_
   simp only [Z7,Z0]
   refine Z14 (hLk _ (fun w28 Sw28 => ?_))
   clear hLk Lk
   simp only [Z1,Z2]
   replace M := M.sees Sw28
   refine Z9 (Z17 ?_)
   have h8 := hK9 (fe (fpow x ((pF + 3) / 8)))
   have h9 := h8 0 _ M.seesAll rfl (fun h => absurd h (by decide))
   simp only [Z7,Z0] at h9
   exact h9
  refine RulesL.cons (fun vs => { tmps := #[fe x, .pointer (some ⟨g3, 0, none⟩), .pointer (some ⟨g5, 0, none⟩), .bool false, .slice (some ⟨g10, 0, none⟩) 16 g10c, .slice (some ⟨g16, 0, none⟩) 16 g16c, Z3, .slice (some ⟨g10, 0, none⟩) 16 g10c, .slice (some ⟨g10, 0, none⟩) 16 g10c, .slice (some ⟨g13, 0, none⟩) 1 1, .slice (some ⟨g16, 0, none⟩) 16 g16c, Z3, Z3, Z3, Z3, Z3, Z3, Z3, Z3, Z3, Z3, Z3, Z3, Z3, Z3, Z3, Z3, Z3, Z3, Z3, Z3, Z3, Z3, Z3, Z3, Z3, Z3, Z3, Z3, Z3, Z3, Z3, Z3, Z3], defers := [] }) (by kernel_rfl) ?_ ?_
  ·
   intro vs gs W29 SW29 D K9 hK9
   replace M := M.sees SW29
   have Rg16_0 := M.r 0 0 rfl rfl
   have Lg16 := M.lt 0 rfl
   have Rg13_0 := M.r 1 0 rfl rfl
   have Lg13 := M.lt 1 rfl
   have Rg10_0 := M.r 2 0 rfl rfl
   have Lg10 := M.lt 2 rfl
   have Rg5_0 := M.r 3 0 rfl rfl
   have Lg5 := M.lt 3 rfl
   have Rg3_0 := M.r 4 0 rfl rfl
   have Lg3 := M.lt 4 rfl
   have BB := M.below
   replace M := Mem.start W29
   dsimp only at hK9
   dsimp only
   refine wpL_var (t := 24) (cs := [.int .u64 0, .int .u64 0, .int .u64 0, .int .u64 0]) (by rfl) (fun W => ?_) (fun g30 w31 Sw31 Hg30 Bg30 => ?_)
   ·
    go_simp
   replace M := ((M.sees Sw31).add (N := 4) (cs := [.int .u64 0, .int .u64 0, .int .u64 0, .int .u64 0]) (M.ge Hg30) (M.fresh Hg30) Bg30 rfl)
   clear Bg30
   simp only [Z7,Z0]
   refine Z9 (Z17 ?_)
   have h8 := hK9 (.pointer (some ⟨g30, 0, none⟩))
   have h9 := h8 g30 _ M.seesAll ⟨rfl, (M.ok _ (.head _)).up SW29⟩ (fun _ => (M.ok _ (.head _)).ge)
   simp only [Z7,Z0] at h9
   exact h9
  exact RulesL.nil
 intro vs gs W32 SW32 D A9
 obtain ⟨D0, D1, D2, D3, D4, _⟩ := (show DepRel _ vs gs W32 [0, 1, 2, 3, 4] from D)
 have n2_4 : gs 2 ≠ gs 4 := A9 2 4 (by decide) (by decide) (by decide) (by decide) (by decide)
 clear A9 D
 have e0 : vs 0 = fe x := D0
 have e1 : vs 1 = .slice (some ⟨g16, 0, none⟩) 16 g16c := D1
 obtain ⟨g33c, e2, Cg33, Og33⟩ := D2
 generalize gs 2 = g33 at *
 replace e2 : vs 2 = .slice (some ⟨g33, 0, none⟩) 16 g33c := e2
 have e3 : vs 3 = fe (fpow x ((pF + 3) / 8)) := D3
 obtain ⟨e4, Og34⟩ := D4
 generalize gs 4 = g34 at *
 replace e4 : vs 4 = .pointer (some ⟨g34, 0, none⟩) := e4
 replace M := M.addOks SW32 [⟨g33, g33c, [(0, dl 16 ((pF + 3) / 8))]⟩, ⟨g34, 4, [(0, [.int .u64 0, .int .u64 0, .int .u64 0, .int .u64 0])]⟩] (List.forall_mem_cons.2 ⟨Og33, (List.forall_mem_cons.2 ⟨Og34, (fun _ h => nomatch h)⟩)⟩) (.cons (List.forall_mem_cons.2 ⟨n2_4, (fun _ h => nomatch h)⟩) (.cons (fun _ h => nomatch h) .nil))
 simp only [List.cons_append, List.nil_append] at M
 dsimp only
 simp only [e0, e1, e2, e3, e4, Z2]
 refine wpL_store (g := g34) (off := 0) (n := 4) (cs := fel (fpow x ((pF + 3) / 8))) (by rfl) (by rfl) (by rfl) (by rfl) (by rfl) (M.t 1 rfl) (by simp [flen]) info24 (fel_one _) (fun w35 P R T => ?_)
 replace M := M.putS 1 0 rfl P R T rfl ⟨.inl rfl, trivial⟩
 simp only [Z0] at M
 refine Z9 (Z10 ?_)
 refine hK17 _ _ ?_
 refine Z4 (fun K36 hK36 => ?_)
 refine Z4 (fun K37 hK37 => ?_)
 refine wp_region_grow 5 [] (by kernel_rfl) (by kernel_rfl) (by kernel_rfl) (fun Lk hLk => ?_)
 simp only [Z1,Z2]
 refine wpV_load (cs := fel (fpow x ((pF + 3) / 8))) (by rfl) rfl rfl (M.r 1 0 rfl rfl) (M.lt 1 rfl) Try.underlying24 rfl info24 ?_
 simp only [Z7,Z0]
 refine wpV_load (cs := fel (fpow x ((pF + 3) / 8))) (by rfl) rfl rfl (M.r 1 0 rfl rfl) (M.lt 1 rfl) Try.underlying24 rfl info24 ?_
 simp only [Z7,Z0]
 refine Z20 (v := fe (fmul (fpow x ((pF + 3) / 8)) (fpow x ((pF + 3) / 8)))) (args := #[fe (fpow x ((pF + 3) / 8)), fe (fpow x ((pF + 3) / 8))]) (by rfl) rfl Try.func42 (by kernel_rfl) (by kernel_rfl) rfl (fun W hW => rmul04_c (fpow_lt ..) (fpow_lt ..)) ?_
 simp only [Z7,Z0]
 refine wpV_load (cs := fel x) (by rfl) rfl rfl (M.r 6 0 rfl rfl) (M.lt 6 rfl) Try.underlying24 rfl info24 ?_
 simp only [Z7,Z0]
 refine Z19 (v := .bool (decide (fmul (fpow x ((pF + 3) / 8)) (fpow x ((pF + 3) / 8)) ≠ x))) (by rfl) (by rfl) (fun W hW => ?_) ?_
 ·
  exact run_neq_fe (fmul_lt ..) hx Try.underlying24 Try.underlying22 info22 (by kernel_rfl) rfl rfl rfl W
 simp only [Z7,Z0]
 refine Z14 (hLk.out _ ?_)
 clear hLk Lk
 simp only [Z1,Z2]
 iterate 5 refine wpN_skip (by rfl) ?_
 refine wpN_nil (fun w39 Sw39 hbs => ?_)
 clear hbs
 replace M := M.sees Sw39
 refine Z9 (Z10 ?_)
 refine hK37 _ _ ?_
 cases hc40 : (decide (fmul (fpow x ((pF + 3) / 8)) (fpow x ((pF + 3) / 8)) ≠ x))
 ·
  have q41 : fmul (fpow x ((pF + 3) / 8)) (fpow x ((pF + 3) / 8)) = x := Decidable.not_not.1 (of_decide_eq_false hc40)
  have hr2 := root_a hl q41
  refine Z6 rfl ?_
  refine wp_skip ?_
  refine hK36 _ _ ?_
  refine Z4 (fun K42 hK42 => ?_)
  refine Z4 (fun K43 hK43 => ?_)
  refine wp_region_grow 5 [] (by kernel_rfl) (by kernel_rfl) (by kernel_rfl) (fun Lk hLk => ?_)
  simp only [Z1,Z2]
  refine wpV_load (cs := fel (fpow x ((pF + 3) / 8))) (by rfl) rfl rfl (M.r 1 0 rfl rfl) (M.lt 1 rfl) Try.underlying24 rfl info24 ?_
  simp only [Z7,Z0]
  refine wpV_load (cs := fel (fpow x ((pF + 3) / 8))) (by rfl) rfl rfl (M.r 1 0 rfl rfl) (M.lt 1 rfl) Try.underlying24 rfl info24 ?_
  simp only [Z7,Z0]
  refine Z20 (v := fe (fmul (fpow x ((pF + 3) / 8)) (fpow x ((pF + 3) / 8)))) (args := #[fe (fpow x ((pF + 3) / 8)), fe (fpow x ((pF + 3) / 8))]) (by rfl) rfl Try.func42 (by kernel_rfl) (by kernel_rfl) rfl (fun W hW => rmul04_c (fpow_lt ..) (fpow_lt ..)) ?_
  simp only [Z7,Z0]
  refine wpV_load (cs := fel x) (by rfl) rfl rfl (M.r 6 0 rfl rfl) (M.lt 6 rfl) Try.underlying24 rfl info24 ?_
  simp only [Z7,Z0]
  refine Z19 (v := .bool false) (by rfl) (by rfl) (fun W hW => ?_) ?_
  ·
   exact hc40 ▸ run_neq_fe (fmul_lt ..) hx Try.underlying24 Try.underlying22 info22 (by kernel_rfl) rfl rfl rfl W
  simp only [Z7,Z0]
  refine Z14 (hLk.out _ ?_)
  clear hLk Lk
  simp only [Z1,Z2]
  iterate 5 refine wpN_skip (by rfl) ?_
  refine wpN_nil (fun w45 Sw45 hbs => ?_)
  clear hbs
  replace M := M.sees Sw45
  refine Z9 (Z10 ?_)
  refine hK43 _ _ ?_
  refine Z6 rfl ?_
  refine wp_skip ?_
  refine hK42 _ _ ?_
  refine Z4 (fun K46 hK46 => ?_)
  refine Z4 (fun K47 hK47 => ?_)
  refine Z8 ?_
  refine Z11 4 (by rfl) (fun Lk hLk => ?_)
  simp only [Z1,Z2]
  refine Z19 (v := .pointer (some ⟨g34, 0, none⟩)) (by rfl) (by rfl) (fun W hW => ?_) ?_
  ·
   (go_simp; exact rfl)
  simp only [Z7,Z0]
  refine wpV_load1 (v := .int .u64 (limb (fpow x ((pF + 3) / 8)) 0)) (by rfl) rfl rfl (range_one (range_sub (M.r 1 0 rfl rfl) 0 1 0 (xs := [.int .u64 (limb (fpow x ((pF + 3) / 8)) 0)]) rfl rfl)) (M.lt 1 rfl) Try.underlying22 rfl ?_
  simp only [Z7,Z0]
  refine Z15 (v := .int .u64 (((fpow x ((pF + 3) / 8)) % 2 : Nat) : Int)) (by rfl) rfl rfl rfl (fun W => rem_limb0 _ W) ?_
  simp only [Z7,Z0]
  refine Z15 (v := .bool (decide ((fpow x ((pF + 3) / 8)) % 2 = 1))) (by rfl) rfl rfl rfl (fun W => run_eqlN ((fpow x ((pF + 3) / 8)) % 2) 1 _ _ W) ?_
  simp only [Z7,Z0]
  refine Z14 (hLk _ (fun w49 Sw49 => ?_))
  clear hLk Lk
  simp only [Z1,Z2]
  replace M := M.sees Sw49
  refine Z9 (Z10 ?_)
  refine hK47 _ _ ?_
  cases hc50 : (decide ((fpow x ((pF + 3) / 8)) % 2 = 1))
  ·
   have q51 : ¬ ((fpow x ((pF + 3) / 8)) % 2 = 1) := of_decide_eq_false hc50
   refine Z6 rfl ?_
   refine wp_skip ?_
   refine hK46 _ _ ?_
   refine Z4 (fun K52 hK52 => ?_)
   refine Z8 ?_
   refine Z11 1 (by rfl) (fun Lk hLk => ?_)
   simp only [Z1,Z2]
   refine wpV_load (cs := fel (fpow x ((pF + 3) / 8))) (by rfl) rfl rfl (M.r 1 0 rfl rfl) (M.lt 1 rfl) Try.underlying24 rfl info24 ?_
   simp only [Z7,Z0]
   refine Z14 (hLk _ (fun w54 Sw54 => ?_))
   clear hLk Lk
   simp only [Z1,Z2]
   replace M := M.sees Sw54
   refine wpL_store (g := g5) (off := 0) (n := 4) (cs := fel (fpow x ((pF + 3) / 8))) (by rfl) (by rfl) (by rfl) (by rfl) (by rfl) (M.t 5 rfl) (by simp [flen]) info24 (fel_one _) (fun w55 P R T => ?_)
   replace M := M.putS 5 0 rfl P R T rfl ⟨.inl rfl, trivial⟩
   simp only [Z0] at M
   refine Z13 (v := .bool true) (by rfl) (by rfl) (by rfl) ?_
   simp only [Z7,Z0]
   refine Z9 (Z10 ?_)
   refine hK52 _ _ ?_
   refine wp_ret ?_
   repeat (first | with_reducible refine then_ret ?_ | with_reducible refine inblock_ret ?_)
   refine bodyPost_ret (v := .tuple #[fe (fpow x ((pF + 3) / 8)), .bool true]) (res2 rfl (.cell (by rfl) (run_loadVar_mid _ _ _ _ (fel (fpow x ((pF + 3) / 8))) _ (M.r 5 0 rfl rfl) Try.underlying24 rfl info24)) (.tmp (by rfl))) rfl ?_
   have BE := M.below
   exact ⟨by rw [sqrt_even (x := x) (by rw [hr2, hl]; exact q41) (by rw [hr2]; exact q51), hr2], BE⟩
  ·
   have q56 : ((fpow x ((pF + 3) / 8)) % 2 = 1) := of_decide_eq_true hc50
   refine Z5 rfl ?_
   refine Z4 (fun K57 hK57 => ?_)
   refine Z8 ?_
   refine Z11 3 (by rfl) (fun Lk hLk => ?_)
   simp only [Z1,Z2]
   refine Z19 (v := fe 0) (by rfl) (by rfl) (fun W hW => ?_) ?_
   ·
    rw [show fe 0 = .agg ([.int .u64 0, .int .u64 0, .int .u64 0, .int .u64 0]).toArray from (by kernel_rfl)]; unfold RunsVal; kernel_rfl
   simp only [Z7,Z0]
   refine wpV_load (cs := fel (fpow x ((pF + 3) / 8))) (by rfl) rfl rfl (M.r 1 0 rfl rfl) (M.lt 1 rfl) Try.underlying24 rfl info24 ?_
   simp only [Z7,Z0]
   refine Z20 (v := fe (fsub 0 (fpow x ((pF + 3) / 8)))) (args := #[fe 0, fe (fpow x ((pF + 3) / 8))]) (by rfl) rfl Try.func37 (by kernel_rfl) (by kernel_rfl) rfl (fun W hW => rsub04_c (by decide) (fpow_lt ..)) ?_
   simp only [Z7,Z0]
   refine Z14 (hLk _ (fun w59 Sw59 => ?_))
   clear hLk Lk
   simp only [Z1,Z2]
   replace M := M.sees Sw59
   refine wpL_store (g := g5) (off := 0) (n := 4) (cs := fel (fsub 0 (fpow x ((pF + 3) / 8)))) (by rfl) (by rfl) (by rfl) (by rfl) (by rfl) (M.t 5 rfl) (by simp [flen]) info24 (fel_one _) (fun w60 P R T => ?_)
   replace M := M.putS 5 0 rfl P R T rfl ⟨.inl rfl, trivial⟩
   simp only [Z0] at M
   refine Z13 (v := .bool true) (by rfl) (by rfl) (by rfl) ?_
   simp only [Z7,Z0]
   refine Z9 (Z10 ?_)
   refine hK57 _ _ ?_
   refine wp_ret ?_
   repeat (first | with_reducible refine then_ret ?_ | with_reducible refine inblock_ret ?_)
   refine bodyPost_ret (v := .tuple #[fe (fsub 0 (fpow x ((pF + 3) / 8))), .bool true]) (res2 rfl (.cell (by rfl) (run_loadVar_mid _ _ _ _ (fel (fsub 0 (fpow x ((pF + 3) / 8)))) _ (M.r 5 0 rfl rfl) Try.underlying24 rfl info24)) (.tmp (by rfl))) rfl ?_
   have BE := M.below
   exact ⟨by rw [sqrt_odd (x := x) (by rw [hr2, hl]; exact q41) (by rw [hr2]; exact q56), hr2], BE⟩
 ·
  have q61 : (fmul (fpow x ((pF + 3) / 8)) (fpow x ((pF + 3) / 8)) ≠ x) := of_decide_eq_true hc40
  have hr2 := root_b hl q61
  refine Z5 rfl ?_
  refine wp_region_addsF 10 [] [3, 4, 5, 6, 7] [ValRel (fe (fpow x ((pF + 3) / 8))), ValRel (fe 2), ValRel (.slice (some ⟨g10, 0, none⟩) 16 g10c), BoxRel w39 (fun gA => .slice (some ⟨gA, 0, none⟩) 1 1) 1 [(0, dl 1 1)], NewRel0 w39 (fun gA gAc => .slice (some ⟨gA, 0, none⟩) 16 gAc) 16 [(0, dl 16 (pF - 1))], BoxRel w39 (fun gA => .slice (some ⟨gA, 0, none⟩) 1 1) 1 [(0, dl 1 2)], NewRel0 w39 (fun gA gAc => .slice (some ⟨gA, 0, none⟩) 16 gAc) 16 [(0, dl 16 ((pF - 1) * 2))], NewRel w39 (fun gA gAc => .slice (some ⟨gA, 0, none⟩) 16 gAc) 16 [(0, dl 16 (((pF - 1) * 2) / 8))], ValRel (fe (fpow 2 (((pF - 1) * 2) / 8))), ValRel (fe (fmul (fpow x ((pF + 3) / 8)) (fpow 2 (((pF - 1) * 2) / 8))))] [[], [], [], [], [2, 3], [], [4, 5], [6], [1, 7], [0, 8]] (fun vs => { tmps := #[fe x, .pointer (some ⟨g3, 0, none⟩), .pointer (some ⟨g5, 0, none⟩), .bool false, .slice (some ⟨g10, 0, none⟩) 16 g10c, .slice (some ⟨g16, 0, none⟩) 16 g16c, .pointer (some ⟨g34, 0, none⟩), .slice (some ⟨g10, 0, none⟩) 16 g10c, .slice (some ⟨g10, 0, none⟩) 16 g10c, .slice (some ⟨g13, 0, none⟩) 1 1, .slice (some ⟨g16, 0, none⟩) 16 g16c, fe x, .slice (some ⟨g16, 0, none⟩) 16 g16c, .slice (some ⟨g33, 0, none⟩) 16 g33c, fe (fpow x ((pF + 3) / 8)), fe (fpow x ((pF + 3) / 8)), fe (fpow x ((pF + 3) / 8)), fe (fmul (fpow x ((pF + 3) / 8)) (fpow x ((pF + 3) / 8))), fe x, .bool true, vs 0, vs 1, vs 2, vs 3, vs 4, vs 5, vs 6, vs 7, vs 8, vs 9, Z3, Z3, Z3, Z3, Z3, Z3, Z3, Z3, Z3, Z3, Z3, Z3, Z3, Z3], defers := [] }) (by kernel_rfl) (by kernel_rfl) (by kernel_rfl) (by kernel_rfl) (.cons keep_val (.cons keep_val (.cons keep_val (.cons keep_box (.cons keep_new0 (.cons keep_box (.cons keep_new0 (.cons keep_new (.cons keep_val (.cons keep_val AllKeep.nil)))))))))) (.free free_val (.free free_val (.free free_val (.free free_box (.free free_new0 (.free free_box (.free free_new0 (.free free_new (.free free_val (.free free_val AllLoc.nil)))))))))) (.cons own_box (.cons own_new0 (.cons own_box (.cons own_new0 (.cons own_new AllOwn.nil))))) (by kernel_rfl) ?_ ?_
  ·
   simp only [Z1]
   refine RulesL.cons (fun vs => { tmps := #[fe x, .pointer (some ⟨g3, 0, none⟩), .pointer (some ⟨g5, 0, none⟩), .bool false, .slice (some ⟨g10, 0, none⟩) 16 g10c, .slice (some ⟨g16, 0, none⟩) 16 g16c, .pointer (some ⟨g34, 0, none⟩), .slice (some ⟨g10, 0, none⟩) 16 g10c, .slice (some ⟨g10, 0, none⟩) 16 g10c, .slice (some ⟨g13, 0, none⟩) 1 1, .slice (some ⟨g16, 0, none⟩) 16 g16c, fe x, .slice (some ⟨g16, 0, none⟩) 16 g16c, .slice (some ⟨g33, 0, none⟩) 16 g33c, fe (fpow x ((pF + 3) / 8)), fe (fpow x ((pF + 3) / 8)), fe (fpow x ((pF + 3) / 8)), fe (fmul (fpow x ((pF + 3) / 8)) (fpow x ((pF + 3) / 8))), fe x, .bool true, Z3, Z3, Z3, Z3, Z3, Z3, Z3, Z3, Z3, Z3, Z3, Z3, Z3, Z3, Z3, Z3, Z3, Z3, Z3, Z3, Z3, Z3, Z3, Z3], defers := [] }) (by kernel_rfl) ?_ ?_
   ·
    intro vs gs W64 SW64 D K9 hK9
    replace M := M.sees SW64
    dsimp only at hK9
    dsimp only
    refine Z11 1 (by rfl) (fun Lk hLk => ?_)
    simp only [Z1,Z2]
    refine wpV_load (cs := fel (fpow x ((pF + 3) / 8))) (by rfl) rfl rfl (M.r 1 0 rfl rfl) (M.lt 1 rfl) Try.underlying24 rfl info24 ?_
    simp only [Z7,Z0]
    refine Z14 (hLk _ (fun w65 Sw65 => ?_))
    clear hLk Lk
    simp only [Z1,Z2]
    replace M := M.sees Sw65
    refine Z9 (Z17 ?_)
    have h8 := hK9 (fe (fpow x ((pF + 3) / 8)))
    have h9 := h8 0 _ Sw65 rfl (fun h => absurd h (by decide))
    simp only [Z7,Z0] at h9
    exact h9
   refine RulesL.cons (fun vs => { tmps := #[fe x, .pointer (some ⟨g3, 0, none⟩), .pointer (some ⟨g5, 0, none⟩), .bool false, .slice (some ⟨g10, 0, none⟩) 16 g10c, .slice (some ⟨g16, 0, none⟩) 16 g16c, .pointer (some ⟨g34, 0, none⟩), .slice (some ⟨g10, 0, none⟩) 16 g10c, .slice (some ⟨g10, 0, none⟩) 16 g10c, .slice (some ⟨g13, 0, none⟩) 1 1, .slice (some ⟨g16, 0, none⟩) 16 g16c, fe x, .slice (some ⟨g16, 0, none⟩) 16 g16c, .slice (some ⟨g33, 0, none⟩) 16 g33c, fe (fpow x ((pF + 3) / 8)), fe (fpow x ((pF + 3) / 8)), fe (fpow x ((pF + 3) / 8)), fe (fmul (fpow x ((pF + 3) / 8)) (fpow x ((pF + 3) / 8))), fe x, .bool true, Z3, Z3, Z3, Z3, Z3, Z3, Z3, Z3, Z3, Z3, Z3, Z3, Z3, Z3, Z3, Z3, Z3, Z3, Z3, Z3, Z3, Z3, Z3, Z3], defers := [] }) (by kernel_rfl) ?_ ?_
   ·
    intro vs gs W66 SW66 D K9 hK9
    replace M := M.sees SW66
    dsimp only at hK9
    dsimp only
    refine Z11 1 (by rfl) (fun Lk hLk => ?_)
    simp only [Z1,Z2]
    refine Z19 (v := fe 2) (by rfl) (by rfl) (fun W hW => ?_) ?_
    ·
     rw [show fe 2 = .agg ([.int .u64 2, .int .u64 0, .int .u64 0, .int .u64 0]).toArray from (by kernel_rfl)]; unfold RunsVal; kernel_rfl
    simp only [Z7,Z0]
    refine Z14 (hLk _ (fun w67 Sw67 => ?_))
    clear hLk Lk
    simp only [Z1,Z2]
    replace M := M.sees Sw67
    refine Z9 (Z17 ?_)
    have h8 := hK9 (fe 2)
    have h9 := h8 0 _ Sw67 rfl (fun h => absurd h (by decide))
    simp only [Z7,Z0] at h9
    exact h9
   refine RulesL.cons (fun vs => { tmps := #[fe x, .pointer (some ⟨g3, 0, none⟩), .pointer (some ⟨g5, 0, none⟩), .bool false, .slice (some ⟨g10, 0, none⟩) 16 g10c, .slice (some ⟨g16, 0, none⟩) 16 g16c, .pointer (some ⟨g34, 0, none⟩), .slice (some ⟨g10, 0, none⟩) 16 g10c, .slice (some ⟨g10, 0, none⟩) 16 g10c, .slice (some ⟨g13, 0, none⟩) 1 1, .slice (some ⟨g16, 0, none⟩) 16 g16c, fe x, .slice (some ⟨g16, 0, none⟩) 16 g16c, .slice (some ⟨g33, 0, none⟩) 16 g33c, fe (fpow x ((pF + 3) / 8)), fe (fpow x ((pF + 3) / 8)), fe (fpow x ((pF + 3) / 8)), fe (fmul (fpow x ((pF + 3) / 8)) (fpow x ((pF + 3) / 8))), fe x, .bool true, Z3, Z3, Z3, Z3, Z3, Z3, Z3, Z3, Z3, Z3, Z3, Z3, Z3, Z3, Z3, Z3, Z3, Z3, Z3, Z3, Z3, Z3, Z3, Z3], defers := [] }) (by kernel_rfl) ?_ ?_
   ·
    intro vs gs W68 SW68 D K9 hK9
    replace M := M.sees SW68
    dsimp only at hK9
    dsimp only
    refine Z12 (v := .slice (some ⟨g10, 0, none⟩) 16 g10c) (by rfl) (by rfl) (by rfl) ?_
    simp only [Z7,Z0]
    refine Z9 (Z17 ?_)
    have h8 := hK9 (.slice (some ⟨g10, 0, none⟩) 16 g10c)
    have h9 := h8 0 _ (sees_refl _) rfl (fun h => absurd h (by decide))
    simp only [Z7,Z0] at h9
    exact h9
   refine RulesL.cons (fun vs => { tmps := #[fe x, .pointer (some ⟨g3, 0, none⟩), .pointer (some ⟨g5, 0, none⟩), .bool false, .slice (some ⟨g10, 0, none⟩) 16 g10c, .slice (some ⟨g16, 0, none⟩) 16 g16c, .pointer (some ⟨g34, 0, none⟩), .slice (some ⟨g10, 0, none⟩) 16 g10c, .slice (some ⟨g10, 0, none⟩) 16 g10c, .slice (some ⟨g13, 0, none⟩) 1 1, .slice (some ⟨g16, 0, none⟩) 16 g16c, fe x, .slice (some ⟨g16, 0, none⟩) 16 g16c, .slice (some ⟨g33, 0, none⟩) 16 g33c, fe (fpow x ((pF + 3) / 8)), fe (fpow x ((pF + 3) / 8)), fe (fpow x ((pF + 3) / 8)), fe (fmul (fpow x ((pF + 3) / 8)) (fpow x ((pF + 3) / 8))), fe x, .bool true, Z3, Z3, Z3, Z3, Z3, Z3, Z3, Z3, Z3, Z3, Z3, Z3, Z3, Z3, Z3, Z3, Z3, Z3, Z3, Z3, Z3, Z3, Z3, Z3], defers := [] }) (by kernel_rfl) ?_ ?_
   ·
    intro vs gs W69 SW69 D K9 hK9
    replace M := M.sees SW69
    have Rg33_0 := M.r 0 0 rfl rfl
    have Lg33 := M.lt 0 rfl
    have Rg34_0 := M.r 1 0 rfl rfl
    have Lg34 := M.lt 1 rfl
    have Rg16_0 := M.r 2 0 rfl rfl
    have Lg16 := M.lt 2 rfl
    have Rg13_0 := M.r 3 0 rfl rfl
    have Lg13 := M.lt 3 rfl
    have Rg10_0 := M.r 4 0 rfl rfl
    have Lg10 := M.lt 4 rfl
    have Rg5_0 := M.r 5 0 rfl rfl
    have Lg5 := M.lt 5 rfl
    have Rg3_0 := M.r 6 0 rfl rfl
    have Lg3 := M.lt 6 rfl
    have BB := M.below
    replace M := Mem.start W69
    dsimp only at hK9
    dsimp only
    refine wpL_rowN (vs := [.int .i64 1]) (z := .int .i64 0) (bytes := 8) (by rfl) (by rfl) Try.underlying100 (by kernel_rfl) (by decide) (by kernel_rfl) (fun g70 w71 Sw71 Hg70 Bg70 => ?_)
    replace M := ((M.sees Sw71).add (N := 1) (cs := [.int .i64 1]) (M.ge Hg70) (M.fresh Hg70) Bg70 rfl)
    replace M := M.read1 (cs := dl 1 1) 0 rfl (by rw [dl_one (v := 1) (by omega)]; exact M.r 0 0 rfl rfl)
    simp only [Z0] at M
    clear Bg70
    simp only [Z7,Z0]
    refine Z9 (Z17 ?_)
    have h8 := hK9 (.slice (some ⟨g70, 0, none⟩) 1 1)
    have h9 := h8 g70 _ M.seesAll ⟨rfl, (M.ok _ (.head _)).up SW69⟩ (fun _ => (M.ok _ (.head _)).ge)
    simp only [Z7,Z0] at h9
    exact h9
   refine RulesL.cons (fun vs => { tmps := #[fe x, .pointer (some ⟨g3, 0, none⟩), .pointer (some ⟨g5, 0, none⟩), .bool false, .slice (some ⟨g10, 0, none⟩) 16 g10c, .slice (some ⟨g16, 0, none⟩) 16 g16c, .pointer (some ⟨g34, 0, none⟩), .slice (some ⟨g10, 0, none⟩) 16 g10c, .slice (some ⟨g10, 0, none⟩) 16 g10c, .slice (some ⟨g13, 0, none⟩) 1 1, .slice (some ⟨g16, 0, none⟩) 16 g16c, fe x, .slice (some ⟨g16, 0, none⟩) 16 g16c, .slice (some ⟨g33, 0, none⟩) 16 g33c, fe (fpow x ((pF + 3) / 8)), fe (fpow x ((pF + 3) / 8)), fe (fpow x ((pF + 3) / 8)), fe (fmul (fpow x ((pF + 3) / 8)) (fpow x ((pF + 3) / 8))), fe x, .bool true, Z3, Z3, vs 2, vs 3, Z3, Z3, Z3, Z3, Z3, Z3, Z3, Z3, Z3, Z3, Z3, Z3, Z3, Z3, Z3, Z3, Z3, Z3, Z3, Z3], defers := [] }) (by kernel_rfl) ?_ ?_
   ·
    intro vs gs W72 SW72 D K9 hK9
    replace M := M.sees SW72
    have Rg33_0 := M.r 0 0 rfl rfl
    have Lg33 := M.lt 0 rfl
    have Rg34_0 := M.r 1 0 rfl rfl
    have Lg34 := M.lt 1 rfl
    have Rg16_0 := M.r 2 0 rfl rfl
    have Lg16 := M.lt 2 rfl
    have Rg13_0 := M.r 3 0 rfl rfl
    have Lg13 := M.lt 3 rfl
    have Rg10_0 := M.r 4 0 rfl rfl
    have Lg10 := M.lt 4 rfl
    have Rg5_0 := M.r 5 0 rfl rfl
    have Lg5 := M.lt 5 rfl
    have Rg3_0 := M.r 6 0 rfl rfl
    have Lg3 := M.lt 6 rfl
    have BB := M.below
    replace M := Mem.start W72
    obtain ⟨D2, D3, _⟩ := D
    have e2 : vs 2 = .slice (some ⟨g10, 0, none⟩) 16 g10c := D2
    obtain ⟨e3, Og73⟩ := D3
    generalize gs 3 = g73 at *
    replace e3 : vs 3 = .slice (some ⟨g73, 0, none⟩) 1 1 := e3
    have Rg73_0 := Og73.range (0, dl 1 1) (by simp only [List.mem_cons, true_or, or_true])
    have Lg73 := Og73.lt
    dsimp only at hK9
    dsimp only
    rw [e2, e3] at hK9 ⊢
    refine wpL_callE (f := 70) (args := #[.slice (some ⟨g10, 0, none⟩) 16 g10c, .slice (some ⟨g73, 0, none⟩) 1 1]) (R := fun v9 W9 => ∃ g75 g75c, v9 = .slice (some ⟨g75, 0, none⟩) 16 g75c ∧ 16 ≤ g75c ∧ Mem [] W72 W9 [⟨g75, 0, [(0, dl 16 (pF - 1))]⟩]) (by rfl) (by rfl) rfl Try.func70 (by kernel_rfl) (by kernel_rfl) (minus04_1 Cg10 (M.oldL Lg10) (M.oldR Rg10_0 Lg10) (Nat.le_refl _) (M.oldL Lg73) (M.oldR Rg73_0 Lg73)) (fun v9 w74 hv9 Sw74 => ?_)
    obtain ⟨g75, g75c, rfl, Cg75, M9⟩ := hv9
    replace M := M.call1 M9
    clear Sw74
    simp only [Z7,Z0]
    refine Z9 (Z17 ?_)
    have h8 := hK9 (.slice (some ⟨g75, 0, none⟩) 16 g75c)
    have h9 := h8 g75 _ M.seesAll ⟨g75c, rfl, Cg75, (M.ok _ (.head _)).up SW72⟩ (fun _ => (M.ok _ (.head _)).ge)
    simp only [Z7,Z0] at h9
    exact h9
   refine RulesL.cons (fun vs => { tmps := #[fe x, .pointer (some ⟨g3, 0, none⟩), .pointer (some ⟨g5, 0, none⟩), .bool false, .slice (some ⟨g10, 0, none⟩) 16 g10c, .slice (some ⟨g16, 0, none⟩) 16 g16c, .pointer (some ⟨g34, 0, none⟩), .slice (some ⟨g10, 0, none⟩) 16 g10c, .slice (some ⟨g10, 0, none⟩) 16 g10c, .slice (some ⟨g13, 0, none⟩) 1 1, .slice (some ⟨g16, 0, none⟩) 16 g16c, fe x, .slice (some ⟨g16, 0, none⟩) 16 g16c, .slice (some ⟨g33, 0, none⟩) 16 g33c, fe (fpow x ((pF + 3) / 8)), fe (fpow x ((pF + 3) / 8)), fe (fpow x ((pF + 3) / 8)), fe (fmul (fpow x ((pF + 3) / 8)) (fpow x ((pF + 3) / 8))), fe x, .bool true, Z3, Z3, Z3, Z3, Z3, Z3, Z3, Z3, Z3, Z3, Z3, Z3, Z3, Z3, Z3, Z3, Z3, Z3, Z3, Z3, Z3, Z3, Z3, Z3], defers := [] }) (by kernel_rfl) ?_ ?_
   ·
    intro vs gs W76 SW76 D K9 hK9
    replace M := M.sees SW76
    have Rg33_0 := M.r 0 0 rfl rfl
    have Lg33 := M.lt 0 rfl
    have Rg34_0 := M.r 1 0 rfl rfl
    have Lg34 := M.lt 1 rfl
    have Rg16_0 := M.r 2 0 rfl rfl
    have Lg16 := M.lt 2 rfl
    have Rg13_0 := M.r 3 0 rfl rfl
    have Lg13 := M.lt 3 rfl
    have Rg10_0 := M.r 4 0 rfl rfl
    have Lg10 := M.lt 4 rfl
    have Rg5_0 := M.r 5 0 rfl rfl
    have Lg5 := M.lt 5 rfl
    have Rg3_0 := M.r 6 0 rfl rfl
    have Lg3 := M.lt 6 rfl
    have BB := M.below
    replace M := Mem.start W76
    dsimp only at hK9
    dsimp only
    refine wpL_rowN (vs := [.int .i64 2]) (z := .int .i64 0) (bytes := 8) (by rfl) (by rfl) Try.underlying100 (by kernel_rfl) (by decide) (by kernel_rfl) (fun g77 w78 Sw78 Hg77 Bg77 => ?_)
    replace M := ((M.sees Sw78).add (N := 1) (cs := [.int .i64 2]) (M.ge Hg77) (M.fresh Hg77) Bg77 rfl)
    replace M := M.read1 (cs := dl 1 2) 0 rfl (by rw [dl_one (v := 2) (by omega)]; exact M.r 0 0 rfl rfl)
    simp only [Z0] at M
    clear Bg77
    simp only [Z7,Z0]
    refine Z9 (Z17 ?_)
    have h8 := hK9 (.slice (some ⟨g77, 0, none⟩) 1 1)
    have h9 := h8 g77 _ M.seesAll ⟨rfl, (M.ok _ (.head _)).up SW76⟩ (fun _ => (M.ok _ (.head _)).ge)
    simp only [Z7,Z0] at h9
    exact h9
   refine RulesL.cons (fun vs => { tmps := #[fe x, .pointer (some ⟨g3, 0, none⟩), .pointer (some ⟨g5, 0, none⟩), .bool false, .slice (some ⟨g10, 0, none⟩) 16 g10c, .slice (some ⟨g16, 0, none⟩) 16 g16c, .pointer (some ⟨g34, 0, none⟩), .slice (some ⟨g10, 0, none⟩) 16 g10c, .slice (some ⟨g10, 0, none⟩) 16 g10c, .slice (some ⟨g13, 0, none⟩) 1 1, .slice (some ⟨g16, 0, none⟩) 16 g16c, fe x, .slice (some ⟨g16, 0, none⟩) 16 g16c, .slice (some ⟨g33, 0, none⟩) 16 g33c, fe (fpow x ((pF + 3) / 8)), fe (fpow x ((pF + 3) / 8)), fe (fpow x ((pF + 3) / 8)), fe (fmul (fpow x ((pF + 3) / 8)) (fpow x ((pF + 3) / 8))), fe x, .bool true, Z3, Z3, Z3, Z3, vs 4, vs 5, Z3, Z3, Z3, Z3, Z3, Z3, Z3, Z3, Z3, Z3, Z3, Z3, Z3, Z3, Z3, Z3, Z3, Z3], defers := [] }) (by kernel_rfl) ?_ ?_
   ·
    intro vs gs W79 SW79 D K9 hK9
    replace M := M.sees SW79
    have Rg33_0 := M.r 0 0 rfl rfl
    have Lg33 := M.lt 0 rfl
    have Rg34_0 := M.r 1 0 rfl rfl
    have Lg34 := M.lt 1 rfl
    have Rg16_0 := M.r 2 0 rfl rfl
    have Lg16 := M.lt 2 rfl
    have Rg13_0 := M.r 3 0 rfl rfl
    have Lg13 := M.lt 3 rfl
    have Rg10_0 := M.r 4 0 rfl rfl
    have Lg10 := M.lt 4 rfl
    have Rg5_0 := M.r 5 0 rfl rfl
    have Lg5 := M.lt 5 rfl
    have Rg3_0 := M.r 6 0 rfl rfl
    have Lg3 := M.lt 6 rfl
    have BB := M.below
    replace M := Mem.start W79
    obtain ⟨D4, D5, _⟩ := D
    obtain ⟨g80c, e4, Cg80, Og80⟩ := D4
    generalize gs 4 = g80 at *
    replace e4 : vs 4 = .slice (some ⟨g80, 0, none⟩) 16 g80c := e4
    have Rg80_0 := Og80.range (0, dl 16 (pF - 1)) (by simp only [List.mem_cons, true_or, or_true])
    have Lg80 := Og80.lt
    obtain ⟨e5, Og81⟩ := D5
    generalize gs 5 = g81 at *
    replace e5 : vs 5 = .slice (some ⟨g81, 0, none⟩) 1 1 := e5
    have Rg81_0 := Og81.range (0, dl 1 2) (by simp only [List.mem_cons, true_or, or_true])
    have Lg81 := Og81.lt
    dsimp only at hK9
    dsimp only
    rw [e4, e5] at hK9 ⊢
    refine wpL_callE (f := 77) (args := #[.slice (some ⟨g80, 0, none⟩) 16 g80c, .slice (some ⟨g81, 0, none⟩) 1 1]) (R := fun v9 W9 => ∃ g83 g83c, v9 = .slice (some ⟨g83, 0, none⟩) 16 g83c ∧ 16 ≤ g83c ∧ Mem [] W79 W9 [⟨g83, 0, [(0, dl 16 ((pF - 1) * 2))]⟩]) (by rfl) (by rfl) rfl Try.func77 (by kernel_rfl) (by kernel_rfl) (times04_2 Cg80 (M.oldL Lg80) (M.oldR Rg80_0 Lg80) (Nat.le_refl _) (M.oldL Lg81) (M.oldR Rg81_0 Lg81)) (fun v9 w82 hv9 Sw82 => ?_)
    obtain ⟨g83, g83c, rfl, Cg83, M9⟩ := hv9
    replace M := M.call1 M9
    clear Sw82
    simp only [Z7,Z0]
    refine Z9 (Z17 ?_)
    have h8 := hK9 (.slice (some ⟨g83, 0, none⟩) 16 g83c)
    have h9 := h8 g83 _ M.seesAll ⟨g83c, rfl, Cg83, (M.ok _ (.head _)).up SW79⟩ (fun _ => (M.ok _ (.head _)).ge)
    simp only [Z7,Z0] at h9
    exact h9
   refine RulesL.cons (fun vs => { tmps := #[fe x, .pointer (some ⟨g3, 0, none⟩), .pointer (some ⟨g5, 0, none⟩), .bool false, .slice (some ⟨g10, 0, none⟩) 16 g10c, .slice (some ⟨g16, 0, none⟩) 16 g16c, .pointer (some ⟨g34, 0, none⟩), .slice (some ⟨g10, 0, none⟩) 16 g10c, .slice (some ⟨g10, 0, none⟩) 16 g10c, .slice (some ⟨g13, 0, none⟩) 1 1, .slice (some ⟨g16, 0, none⟩) 16 g16c, fe x, .slice (some ⟨g16, 0, none⟩) 16 g16c, .slice (some ⟨g33, 0, none⟩) 16 g33c, fe (fpow x ((pF + 3) / 8)), fe (fpow x ((pF + 3) / 8)), fe (fpow x ((pF + 3) / 8)), fe (fmul (fpow x ((pF + 3) / 8)) (fpow x ((pF + 3) / 8))), fe x, .bool true, Z3, Z3, Z3, Z3, Z3, Z3, vs 6, Z3, Z3, Z3, Z3, Z3, Z3, Z3, Z3, Z3, Z3, Z3, Z3, Z3, Z3, Z3, Z3, Z3], defers := [] }) (by kernel_rfl) ?_ ?_
   ·
    intro vs gs W84 SW84 D K9 hK9
    replace M := M.sees SW84
    have Rg33_0 := M.r 0 0 rfl rfl
    have Lg33 := M.lt 0 rfl
    have Rg34_0 := M.r 1 0 rfl rfl
    have Lg34 := M.lt 1 rfl
    have Rg16_0 := M.r 2 0 rfl rfl
    have Lg16 := M.lt 2 rfl
    have Rg13_0 := M.r 3 0 rfl rfl
    have Lg13 := M.lt 3 rfl
    have Rg10_0 := M.r 4 0 rfl rfl
    have Lg10 := M.lt 4 rfl
    have Rg5_0 := M.r 5 0 rfl rfl
    have Lg5 := M.lt 5 rfl
    have Rg3_0 := M.r 6 0 rfl rfl
    have Lg3 := M.lt 6 rfl
    have BB := M.below
    replace M := Mem.start W84
    obtain ⟨D6, _⟩ := D
    obtain ⟨g85c, e6, Cg85, Og85⟩ := D6
    generalize gs 6 = g85 at *
    replace e6 : vs 6 = .slice (some ⟨g85, 0, none⟩) 16 g85c := e6
    have Rg85_0 := Og85.range (0, dl 16 ((pF - 1) * 2)) (by simp only [List.mem_cons, true_or, or_true])
    have Lg85 := Og85.lt
    dsimp only at hK9
    dsimp only
    rw [e6] at hK9 ⊢
    refine wpL_callE (f := 88) (args := #[.slice (some ⟨g85, 0, none⟩) 16 g85c]) (R := fun v9 W9 => ∃ g87 g87c, v9 = .slice (some ⟨g87, 0, none⟩) 16 g87c ∧ 16 ≤ g87c ∧ Mem [] W84 W9 [⟨g87, g87c, [(0, dl 16 (((pF - 1) * 2) / 8))]⟩]) (by rfl) (by rfl) rfl Try.func88 (by kernel_rfl) (by kernel_rfl) (eighth_c (m := ((pF - 1) * 2)) (by decide) (by decide) (RowA.of (M.oldR Rg85_0 Lg85) (M.oldL Lg85) (dl_len _ _).symm Cg85)) (fun v9 w86 hv9 Sw86 => ?_)
    obtain ⟨g87, g87c, rfl, Cg87, M9⟩ := hv9
    replace M := M.call1 M9
    clear Sw86
    simp only [Z7,Z0]
    refine Z9 (Z17 ?_)
    have h8 := hK9 (.slice (some ⟨g87, 0, none⟩) 16 g87c)
    have h9 := h8 g87 _ M.seesAll ⟨g87c, rfl, Cg87, (M.ok _ (.head _)).up SW84⟩ (fun _ => (M.ok _ (.head _)).ge)
    simp only [Z7,Z0] at h9
    exact h9
   refine RulesL.cons (fun vs => { tmps := #[fe x, .pointer (some ⟨g3, 0, none⟩), .pointer (some ⟨g5, 0, none⟩), .bool false, .slice (some ⟨g10, 0, none⟩) 16 g10c, .slice (some ⟨g16, 0, none⟩) 16 g16c, .pointer (some ⟨g34, 0, none⟩), .slice (some ⟨g10, 0, none⟩) 16 g10c, .slice (some ⟨g10, 0, none⟩) 16 g10c, .slice (some ⟨g13, 0, none⟩) 1 1, .slice (some ⟨g16, 0, none⟩) 16 g16c, fe x, .slice (some ⟨g16, 0, none⟩) 16 g16c, .slice (some ⟨g33, 0, none⟩) 16 g33c, fe (fpow x ((pF + 3) / 8)), fe (fpow x ((pF + 3) / 8)), fe (fpow x ((pF + 3) / 8)), fe (fmul (fpow x ((pF + 3) / 8)) (fpow x ((pF + 3) / 8))), fe x, .bool true, Z3, vs 1, Z3, Z3, Z3, Z3, Z3, vs 7, Z3, Z3, Z3, Z3, Z3, Z3, Z3, Z3, Z3, Z3, Z3, Z3, Z3, Z3, Z3, Z3], defers := [] }) (by kernel_rfl) ?_ ?_
   ·
    intro vs gs W88 SW88 D K9 hK9
    replace M := M.sees SW88
    have Rg33_0 := M.r 0 0 rfl rfl
    have Lg33 := M.lt 0 rfl
    have Rg34_0 := M.r 1 0 rfl rfl
    have Lg34 := M.lt 1 rfl
    have Rg16_0 := M.r 2 0 rfl rfl
    have Lg16 := M.lt 2 rfl
    have Rg13_0 := M.r 3 0 rfl rfl
    have Lg13 := M.lt 3 rfl
    have Rg10_0 := M.r 4 0 rfl rfl
    have Lg10 := M.lt 4 rfl
    have Rg5_0 := M.r 5 0 rfl rfl
    have Lg5 := M.lt 5 rfl
    have Rg3_0 := M.r 6 0 rfl rfl
    have Lg3 := M.lt 6 rfl
    have BB := M.below
    replace M := Mem.start W88
    obtain ⟨D1, D7, _⟩ := D
    have e1 : vs 1 = fe 2 := D1
    obtain ⟨g89c, e7, Cg89, Og89⟩ := D7
    generalize gs 7 = g89 at *
    replace e7 : vs 7 = .slice (some ⟨g89, 0, none⟩) 16 g89c := e7
    have Rg89_0 := Og89.range (0, dl 16 (((pF - 1) * 2) / 8)) (by simp only [List.mem_cons, true_or, or_true])
    have Lg89 := Og89.lt
    dsimp only at hK9
    dsimp only
    rw [e1, e7] at hK9 ⊢
    refine Z11 1 (by rfl) (fun Lk hLk => ?_)
    simp only [Z1,Z2]
    refine Z20 (v := fe (fpow 2 (((pF - 1) * 2) / 8))) (args := #[fe 2, .slice (some ⟨g89, 0, none⟩) 16 g89c]) (by rfl) rfl Try.func79 (by kernel_rfl) (by kernel_rfl) rfl (fun W hW => rpower_c (by decide) (by decide) (by decide) (RowA.of ((M.sees hW).oldR Rg89_0 Lg89) ((M.sees hW).oldL Lg89) (dl_len _ _).symm Cg89)) ?_
    simp only [Z7,Z0]
    refine Z14 (hLk _ (fun w90 Sw90 => ?_))
    clear hLk Lk
    simp only [Z1,Z2]
    replace M := M.sees Sw90
    refine Z9 (Z17 ?_)
    have h8 := hK9 (fe (fpow 2 (((pF - 1) * 2) / 8)))
    have h9 := h8 0 _ M.seesAll rfl (fun h => absurd h (by decide))
    simp only [Z7,Z0] at h9
    exact h9
   refine RulesL.cons (fun vs => { tmps := #[fe x, .pointer (some ⟨g3, 0, none⟩), .pointer (some ⟨g5, 0, none⟩), .bool false, .slice (some ⟨g10, 0, none⟩) 16 g10c, .slice (some ⟨g16, 0, none⟩) 16 g16c, .pointer (some ⟨g34, 0, none⟩), .slice (some ⟨g10, 0, none⟩) 16 g10c, .slice (some ⟨g10, 0, none⟩) 16 g10c, .slice (some ⟨g13, 0, none⟩) 1 1, .slice (some ⟨g16, 0, none⟩) 16 g16c, fe x, .slice (some ⟨g16, 0, none⟩) 16 g16c, .slice (some ⟨g33, 0, none⟩) 16 g33c, fe (fpow x ((pF + 3) / 8)), fe (fpow x ((pF + 3) / 8)), fe (fpow x ((pF + 3) / 8)), fe (fmul (fpow x ((pF + 3) / 8)) (fpow x ((pF + 3) / 8))), fe x, .bool true, vs 0, Z3, Z3, Z3, Z3, Z3, Z3, Z3, vs 8, Z3, Z3, Z3, Z3, Z3, Z3, Z3, Z3, Z3, Z3, Z3, Z3, Z3, Z3, Z3], defers := [] }) (by kernel_rfl) ?_ ?_
   ·
    intro vs gs W91 SW91 D K9 hK9
    replace M := M.sees SW91
    obtain ⟨D0, D8, _⟩ := D
    have e0 : vs 0 = fe (fpow x ((pF + 3) / 8)) := D0
    have e8 : vs 8 = fe (fpow 2 (((pF - 1) * 2) / 8)) := D8
    dsimp only at hK9
    dsimp only
    rw [e0, e8] at hK9 ⊢
    refine Z11 1 (by rfl) (fun Lk hLk => ?_)
    simp only [Z1,Z2]
    refine Z20 (v := fe (fmul (fpow x ((pF + 3) / 8)) (fpow 2 (((pF - 1) * 2) / 8)))) (args := #[fe (fpow x ((pF + 3) / 8)), fe (fpow 2 (((pF - 1) * 2) / 8))]) (by rfl) rfl Try.func42 (by kernel_rfl) (by kernel_rfl) rfl (fun W hW => rmul04_c (fpow_lt ..) (fpow_lt ..)) ?_
    simp only [Z7,Z0]
    refine Z14 (hLk _ (fun w92 Sw92 => ?_))
    clear hLk Lk
    simp only [Z1,Z2]
    replace M := M.sees Sw92
    refine Z9 (Z17 ?_)
    have h8 := hK9 (fe (fmul (fpow x ((pF + 3) / 8)) (fpow 2 (((pF - 1) * 2) / 8))))
    have h9 := h8 0 _ Sw92 rfl (fun h => absurd h (by decide))
    simp only [Z7,Z0] at h9
    exact h9
   exact RulesL.nil
  intro vs gs W93 SW93 D A9
  obtain ⟨D0, D1, D2, D3, D4, D5, D6, D7, D8, D9, _⟩ := (show DepRel _ vs gs W93 [0, 1, 2, 3, 4, 5, 6, 7, 8, 9] from D)
  have n3_4 : gs 3 ≠ gs 4 := A9 3 4 (by decide) (by decide) (by decide) (by decide) (by decide)
  have n3_5 : gs 3 ≠ gs 5 := A9 3 5 (by decide) (by decide) (by decide) (by decide) (by decide)
  have n3_6 : gs 3 ≠ gs 6 := A9 3 6 (by decide) (by decide) (by decide) (by decide) (by decide)
  have n3_7 : gs 3 ≠ gs 7 := A9 3 7 (by decide) (by decide) (by decide) (by decide) (by decide)
  have n4_5 : gs 4 ≠ gs 5 := A9 4 5 (by decide) (by decide) (by decide) (by decide) (by decide)
  have n4_6 : gs 4 ≠ gs 6 := A9 4 6 (by decide) (by decide) (by decide) (by decide) (by decide)
  have n4_7 : gs 4 ≠ gs 7 := A9 4 7 (by decide) (by decide) (by decide) (by decide) (by decide)
  have n5_6 : gs 5 ≠ gs 6 := A9 5 6 (by decide) (by decide) (by decide) (by decide) (by decide)
  have n5_7 : gs 5 ≠ gs 7 := A9 5 7 (by decide) (by decide) (by decide) (by decide) (by decide)
  have n6_7 : gs 6 ≠ gs 7 := A9 6 7 (by decide) (by decide) (by decide) (by decide) (by decide)
  clear A9 D
  have e0 : vs 0 = fe (fpow x ((pF + 3) / 8)) := D0
  have e1 : vs 1 = fe 2 := D1
  have e2 : vs 2 = .slice (some ⟨g10, 0, none⟩) 16 g10c := D2
  obtain ⟨e3, Og94⟩ := D3
  generalize gs 3 = g94 at *
  replace e3 : vs 3 = .slice (some ⟨g94, 0, none⟩) 1 1 := e3
  obtain ⟨g95c, e4, Cg95, Og95⟩ := D4
  generalize gs 4 = g95 at *
  replace e4 : vs 4 = .slice (some ⟨g95, 0, none⟩) 16 g95c := e4
  obtain ⟨e5, Og96⟩ := D5
  generalize gs 5 = g96 at *
  replace e5 : vs 5 = .slice (some ⟨g96, 0, none⟩) 1 1 := e5
  obtain ⟨g97c, e6, Cg97, Og97⟩ := D6
  generalize gs 6 = g97 at *
  replace e6 : vs 6 = .slice (some ⟨g97, 0, none⟩) 16 g97c := e6
  obtain ⟨g98c, e7, Cg98, Og98⟩ := D7
  generalize gs 7 = g98 at *
  replace e7 : vs 7 = .slice (some ⟨g98, 0, none⟩) 16 g98c := e7
  have e8 : vs 8 = fe (fpow 2 (((pF - 1) * 2) / 8)) := D8
  have e9 : vs 9 = fe (fmul (fpow x ((pF + 3) / 8)) (fpow 2 (((pF - 1) * 2) / 8))) := D9
  replace M := M.addOks SW93 [⟨g94, 1, [(0, dl 1 1)]⟩, ⟨g95, 0, [(0, dl 16 (pF - 1))]⟩, ⟨g96, 1, [(0, dl 1 2)]⟩, ⟨g97, 0, [(0, dl 16 ((pF - 1) * 2))]⟩, ⟨g98, g98c, [(0, dl 16 (((pF - 1) * 2) / 8))]⟩] (List.forall_mem_cons.2 ⟨Og94, (List.forall_mem_cons.2 ⟨Og95, (List.forall_mem_cons.2 ⟨Og96, (List.forall_mem_cons.2 ⟨Og97, (List.forall_mem_cons.2 ⟨Og98, (fun _ h => nomatch h)⟩)⟩)⟩)⟩)⟩) (.cons (List.forall_mem_cons.2 ⟨n3_4, (List.forall_mem_cons.2 ⟨n3_5, (List.forall_mem_cons.2 ⟨n3_6, (List.forall_mem_cons.2 ⟨n3_7, (fun _ h => nomatch h)⟩)⟩)⟩)⟩) (.cons (List.forall_mem_cons.2 ⟨n4_5, (List.forall_mem_cons.2 ⟨n4_6, (List.forall_mem_cons.2 ⟨n4_7, (fun _ h => nomatch h)⟩)⟩)⟩) (.cons (List.forall_mem_cons.2 ⟨n5_6, (List.forall_mem_cons.2 ⟨n5_7, (fun _ h => nomatch h)⟩)⟩) (.cons (List.forall_mem_cons.2 ⟨n6_7, (fun _ h => nomatch h)⟩) (.cons (fun _ h => nomatch h) .nil)))))
  simp only [List.cons_append, List.nil_append] at M
  dsimp only
  simp only [e0, e1, e2, e3, e4, e5, e6, e7, e8, e9, Z2]
  refine wpL_store (g := g34) (off := 0) (n := 4) (cs := fel (fmul (fpow x ((pF + 3) / 8)) (fpow 2 (((pF - 1) * 2) / 8)))) (by rfl) (by rfl) (by rfl) (by rfl) (by rfl) (M.t 6 rfl) (by simp [flen]) info24 (fel_one _) (fun w99 P R T => ?_)
  replace M := M.putS 6 0 rfl P R T rfl ⟨.inl rfl, trivial⟩
  simp only [Z0] at M
  refine Z9 (Z10 ?_)
  refine hK36 _ _ ?_
  refine Z4 (fun K100 hK100 => ?_)
  refine Z4 (fun K101 hK101 => ?_)
  refine wp_region_grow 5 [] (by kernel_rfl) (by kernel_rfl) (by kernel_rfl) (fun Lk hLk => ?_)
  simp only [Z1,Z2]
  refine wpV_load (cs := fel (fmul (fpow x ((pF + 3) / 8)) (fpow 2 (((pF - 1) * 2) / 8)))) (by rfl) rfl rfl (M.r 6 0 rfl rfl) (M.lt 6 rfl) Try.underlying24 rfl info24 ?_
  simp only [Z7,Z0]
  refine wpV_load (cs := fel (fmul (fpow x ((pF + 3) / 8)) (fpow 2 (((pF - 1) * 2) / 8)))) (by rfl) rfl rfl (M.r 6 0 rfl rfl) (M.lt 6 rfl) Try.underlying24 rfl info24 ?_
  simp only [Z7,Z0]
  refine Z20 (v := fe (fmul (fmul (fpow x ((pF + 3) / 8)) (fpow 2 (((pF - 1) * 2) / 8))) (fmul (fpow x ((pF + 3) / 8)) (fpow 2 (((pF - 1) * 2) / 8))))) (args := #[fe (fmul (fpow x ((pF + 3) / 8)) (fpow 2 (((pF - 1) * 2) / 8))), fe (fmul (fpow x ((pF + 3) / 8)) (fpow 2 (((pF - 1) * 2) / 8)))]) (by rfl) rfl Try.func42 (by kernel_rfl) (by kernel_rfl) rfl (fun W hW => rmul04_c (fmul_lt ..) (fmul_lt ..)) ?_
  simp only [Z7,Z0]
  refine wpV_load (cs := fel x) (by rfl) rfl rfl (M.r 11 0 rfl rfl) (M.lt 11 rfl) Try.underlying24 rfl info24 ?_
  simp only [Z7,Z0]
  refine Z19 (v := .bool (decide (fmul (fmul (fpow x ((pF + 3) / 8)) (fpow 2 (((pF - 1) * 2) / 8))) (fmul (fpow x ((pF + 3) / 8)) (fpow 2 (((pF - 1) * 2) / 8))) ≠ x))) (by rfl) (by rfl) (fun W hW => ?_) ?_
  ·
   exact run_neq_fe (fmul_lt ..) hx Try.underlying24 Try.underlying22 info22 (by kernel_rfl) rfl rfl rfl W
  simp only [Z7,Z0]
  refine Z14 (hLk.out _ ?_)
  clear hLk Lk
  simp only [Z1,Z2]
  iterate 5 refine wpN_skip (by rfl) ?_
  refine wpN_nil (fun w103 Sw103 hbs => ?_)
  clear hbs
  replace M := M.sees Sw103
  refine Z9 (Z10 ?_)
  refine hK101 _ _ ?_
  cases hc104 : (decide (fmul (fmul (fpow x ((pF + 3) / 8)) (fpow 2 (((pF - 1) * 2) / 8))) (fmul (fpow x ((pF + 3) / 8)) (fpow 2 (((pF - 1) * 2) / 8))) ≠ x))
  ·
   have q105 : fmul (fmul (fpow x ((pF + 3) / 8)) (fpow 2 (((pF - 1) * 2) / 8))) (fmul (fpow x ((pF + 3) / 8)) (fpow 2 (((pF - 1) * 2) / 8))) = x := Decidable.not_not.1 (of_decide_eq_false hc104)
   refine Z6 rfl ?_
   refine wp_skip ?_
   refine hK100 _ _ ?_
   refine Z4 (fun K106 hK106 => ?_)
   refine Z4 (fun K107 hK107 => ?_)
   refine Z8 ?_
   refine Z11 4 (by rfl) (fun Lk hLk => ?_)
   simp only [Z1,Z2]
   refine Z19 (v := .pointer (some ⟨g34, 0, none⟩)) (by rfl) (by rfl) (fun W hW => ?_) ?_
   ·
    (go_simp; exact rfl)
   simp only [Z7,Z0]
   refine wpV_load1 (v := .int .u64 (limb (fmul (fpow x ((pF + 3) / 8)) (fpow 2 (((pF - 1) * 2) / 8))) 0)) (by rfl) rfl rfl (range_one (range_sub (M.r 6 0 rfl rfl) 0 1 0 (xs := [.int .u64 (limb (fmul (fpow x ((pF + 3) / 8)) (fpow 2 (((pF - 1) * 2) / 8))) 0)]) rfl rfl)) (M.lt 6 rfl) Try.underlying22 rfl ?_
   simp only [Z7,Z0]
   refine Z15 (v := .int .u64 (((fmul (fpow x ((pF + 3) / 8)) (fpow 2 ((pF - 1) * 2 / 8))) % 2 : Nat) : Int)) (by rfl) rfl rfl rfl (fun W => rem_limb0 _ W) ?_
   simp only [Z7,Z0]
   refine Z15 (v := .bool (decide ((fmul (fpow x ((pF + 3) / 8)) (fpow 2 ((pF - 1) * 2 / 8))) % 2 = 1))) (by rfl) rfl rfl rfl (fun W => run_eqlN ((fmul (fpow x ((pF + 3) / 8)) (fpow 2 ((pF - 1) * 2 / 8))) % 2) 1 _ _ W) ?_
   simp only [Z7,Z0]
   refine Z14 (hLk _ (fun w109 Sw109 => ?_))
   clear hLk Lk
   simp only [Z1,Z2]
   replace M := M.sees Sw109
   refine Z9 (Z10 ?_)
   refine hK107 _ _ ?_
   cases hc110 : (decide ((fmul (fpow x ((pF + 3) / 8)) (fpow 2 ((pF - 1) * 2 / 8))) % 2 = 1))
   ·
    have q111 : ¬ ((fmul (fpow x ((pF + 3) / 8)) (fpow 2 ((pF - 1) * 2 / 8))) % 2 = 1) := of_decide_eq_false hc110
    refine Z6 rfl ?_
    refine wp_skip ?_
    refine hK106 _ _ ?_
    refine Z4 (fun K112 hK112 => ?_)
    refine Z8 ?_
    refine Z11 1 (by rfl) (fun Lk hLk => ?_)
    simp only [Z1,Z2]
    refine wpV_load (cs := fel (fmul (fpow x ((pF + 3) / 8)) (fpow 2 (((pF - 1) * 2) / 8)))) (by rfl) rfl rfl (M.r 6 0 rfl rfl) (M.lt 6 rfl) Try.underlying24 rfl info24 ?_
    simp only [Z7,Z0]
    refine Z14 (hLk _ (fun w114 Sw114 => ?_))
    clear hLk Lk
    simp only [Z1,Z2]
    replace M := M.sees Sw114
    refine wpL_store (g := g5) (off := 0) (n := 4) (cs := fel (fmul (fpow x ((pF + 3) / 8)) (fpow 2 (((pF - 1) * 2) / 8)))) (by rfl) (by rfl) (by rfl) (by rfl) (by rfl) (M.t 10 rfl) (by simp [flen]) info24 (fel_one _) (fun w115 P R T => ?_)
    replace M := M.putS 10 0 rfl P R T rfl ⟨.inl rfl, trivial⟩
    simp only [Z0] at M
    refine Z13 (v := .bool true) (by rfl) (by rfl) (by rfl) ?_
    simp only [Z7,Z0]
    refine Z9 (Z10 ?_)
    refine hK112 _ _ ?_
    refine wp_ret ?_
    repeat (first | with_reducible refine then_ret ?_ | with_reducible refine inblock_ret ?_)
    refine bodyPost_ret (v := .tuple #[fe (fmul (fpow x ((pF + 3) / 8)) (fpow 2 (((pF - 1) * 2) / 8))), .bool true]) (res2 rfl (.cell (by rfl) (run_loadVar_mid _ _ _ _ (fel (fmul (fpow x ((pF + 3) / 8)) (fpow 2 (((pF - 1) * 2) / 8)))) _ (M.r 10 0 rfl rfl) Try.underlying24 rfl info24)) (.tmp (by rfl))) rfl ?_
    have BE := M.below
    exact ⟨by rw [sqrt_even (x := x) (by rw [hr2, hl]; exact q105) (by rw [hr2]; exact q111), hr2], BE⟩
   ·
    have q116 : ((fmul (fpow x ((pF + 3) / 8)) (fpow 2 ((pF - 1) * 2 / 8))) % 2 = 1) := of_decide_eq_true hc110
    refine Z5 rfl ?_
    refine Z4 (fun K117 hK117 => ?_)
    refine Z8 ?_
    refine Z11 3 (by rfl) (fun Lk hLk => ?_)
    simp only [Z1,Z2]
    refine Z19 (v := fe 0) (by rfl) (by rfl) (fun W hW => ?_) ?_
    ·
     rw [show fe 0 = .agg ([.int .u64 0, .int .u64 0, .int .u64 0, .int .u64 0]).toArray from (by kernel_rfl)]; unfold RunsVal; kernel_rfl
    simp only [Z7,Z0]
    refine wpV_load (cs := fel (fmul (fpow x ((pF + 3) / 8)) (fpow 2 (((pF - 1) * 2) / 8)))) (by rfl) rfl rfl (M.r 6 0 rfl rfl) (M.lt 6 rfl) Try.underlying24 rfl info24 ?_
    simp only [Z7,Z0]
    refine Z20 (v := fe (fsub 0 (fmul (fpow x ((pF + 3) / 8)) (fpow 2 (((pF - 1) * 2) / 8))))) (args := #[fe 0, fe (fmul (fpow x ((pF + 3) / 8)) (fpow 2 (((pF - 1) * 2) / 8)))]) (by rfl) rfl Try.func37 (by kernel_rfl) (by kernel_rfl) rfl (fun W hW => rsub04_c (by decide) (fmul_lt ..)) ?_
    simp only [Z7,Z0]
    refine Z14 (hLk _ (fun w119 Sw119 => ?_))
    clear hLk Lk
    simp only [Z1,Z2]
    replace M := M.sees Sw119
    refine wpL_store (g := g5) (off := 0) (n := 4) (cs := fel (fsub 0 (fmul (fpow x ((pF + 3) / 8)) (fpow 2 (((pF - 1) * 2) / 8))))) (by rfl) (by rfl) (by rfl) (by rfl) (by rfl) (M.t 10 rfl) (by simp [flen]) info24 (fel_one _) (fun w120 P R T => ?_)
    replace M := M.putS 10 0 rfl P R T rfl ⟨.inl rfl, trivial⟩
    simp only [Z0] at M
    refine Z13 (v := .bool true) (by rfl) (by rfl) (by rfl) ?_
    simp only [Z7,Z0]
    refine Z9 (Z10 ?_)
    refine hK117 _ _ ?_
    refine wp_ret ?_
    repeat (first | with_reducible refine then_ret ?_ | with_reducible refine inblock_ret ?_)
    refine bodyPost_ret (v := .tuple #[fe (fsub 0 (fmul (fpow x ((pF + 3) / 8)) (fpow 2 (((pF - 1) * 2) / 8)))), .bool true]) (res2 rfl (.cell (by rfl) (run_loadVar_mid _ _ _ _ (fel (fsub 0 (fmul (fpow x ((pF + 3) / 8)) (fpow 2 (((pF - 1) * 2) / 8))))) _ (M.r 10 0 rfl rfl) Try.underlying24 rfl info24)) (.tmp (by rfl))) rfl ?_
    have BE := M.below
    exact ⟨by rw [sqrt_odd (x := x) (by rw [hr2, hl]; exact q105) (by rw [hr2]; exact q116), hr2], BE⟩
  ·
   have q121 : (fmul (fmul (fpow x ((pF + 3) / 8)) (fpow 2 (((pF - 1) * 2) / 8))) (fmul (fpow x ((pF + 3) / 8)) (fpow 2 (((pF - 1) * 2) / 8))) ≠ x) := of_decide_eq_true hc104
   refine Z5 rfl ?_
   refine Z4 (fun K122 hK122 => ?_)
   refine Z8 ?_
   refine Z11 1 (by rfl) (fun Lk hLk => ?_)
   simp only [Z1,Z2]
   refine Z19 (v := fe 0) (by rfl) (by rfl) (fun W hW => ?_) ?_
   ·
    rw [show fe 0 = .agg ([.int .u64 0, .int .u64 0, .int .u64 0, .int .u64 0]).toArray from (by kernel_rfl)]; unfold RunsVal; kernel_rfl
   simp only [Z7,Z0]
   refine Z14 (hLk _ (fun w124 Sw124 => ?_))
   clear hLk Lk
   simp only [Z1,Z2]
   replace M := M.sees Sw124
   refine wpL_store (g := g5) (off := 0) (n := 4) (cs := fel 0) (by rfl) (by rfl) (by rfl) (by rfl) (by rfl) (M.t 10 rfl) (by simp [flen]) info24 (fel_one _) (fun w125 P R T => ?_)
   replace M := M.putS 10 0 rfl P R T rfl ⟨.inl rfl, trivial⟩
   simp only [Z0] at M
   refine Z13 (v := .bool false) (by rfl) (by rfl) (by rfl) ?_
   simp only [Z7,Z0]
   refine Z9 (Z10 ?_)
   refine hK122 _ _ ?_
   refine wp_ret ?_
   repeat (first | with_reducible refine then_ret ?_ | with_reducible refine inblock_ret ?_)
   refine bodyPost_ret (v := .tuple #[fe 0, .bool false]) (res2 rfl (.cell (by rfl) (run_loadVar_mid _ _ _ _ (fel 0) _ (M.r 10 0 rfl rfl) Try.underlying24 rfl info24)) (.tmp (by rfl))) rfl ?_
   have BE := M.below
   exact ⟨by rw [sqrt_no (x := x) (by rw [hr2, hl]; exact q121)], BE⟩
end Go.Proofs.Yc

namespace Go.Proofs.Yc
open Go Go.RowKit Go.Proofs.Num
open List renaming set → Z0, take → Z1, drop → Z2
open Go renaming wp_seq_k → Z4
open Go.Proofs.Num renaming putT → Z7, wp_region_seq → Z8, wpL_nil → Z9, no_panic → Z10, wpL_chunk → Z11, wpL_assign → Z13, wpV_nil → Z14, wpV_move → Z16, wpV_val → Z19, wpV_callf → Z20
attribute [local irreducible] wpV wpN wpList
open Go.Proofs.Ya
theorem rootX_r (y : Nat) : fsqrt (fmul (fsub (fmul y y) 1) (finv (fadd (fmul dR (fmul y y)) 1))) = rootX y := by
 unfold rootX
 rw [dR_dF, show fmul dF (fmul y y) = fmul (fmul y y) dF from by unfold fmul; rw [Nat.mul_comm]]
set_option maxHeartbeats 2000000 in
theorem rX_c {y : Nat} {w : World} (hy : y < 2 ^ 256) :
  Calls Try.prog 36 #[fe y] w fun e w' => e = .returned (.tuple #[fe (rootX y).1, .bool (rootX y).2]) ∧ Below w.heap.size w w' := by
 go_enter Try.func36, Try.ntmps36
 have M := Mem.start w
 refine Z4 (fun K1 hK1 => ?_)
 refine Z8 ?_
 refine wpL_var (t := 24) (cs := fel y) (by rfl) (fun W => ?_) (fun g3 w4 Sw4 Hg3 Bg3 => ?_)
 ·
  (first | rfl | go_simp)
 replace M := ((M.sees Sw4).add (N := 4) (cs := fel y) (M.ge Hg3) (M.fresh Hg3) Bg3 rfl)
 clear Bg3
 simp only [Z7,Z0]
 refine wpL_var (t := 24) (cs := [.int .u64 0, .int .u64 0, .int .u64 0, .int .u64 0]) (by rfl) (fun W => ?_) (fun g5 w6 Sw6 Hg5 Bg5 => ?_)
 ·
  go_simp
 replace M := ((M.sees Sw6).add (N := 4) (cs := [.int .u64 0, .int .u64 0, .int .u64 0, .int .u64 0]) (M.ge Hg5) (M.fresh Hg5) Bg5 rfl)
 clear Bg5
 simp only [Z7,Z0]
 refine Z13 (v := .bool false) (by rfl) (by rfl) (by rfl) ?_
 simp only [Z7,Z0]
 refine Z9 (Z10 ?_)
 refine hK1 _ _ ?_
 refine Z4 (fun K7 hK7 => ?_)
 refine Z8 ?_
 refine Z11 3 (by rfl) (fun Lk hLk => ?_)
 simp only [Z1,Z2]
 refine wpV_load (cs := fel y) (by rfl) rfl rfl (M.r 1 0 rfl rfl) (M.lt 1 rfl) Try.underlying24 rfl info24 ?_
 simp only [Z7,Z0]
 refine wpV_load (cs := fel y) (by rfl) rfl rfl (M.r 1 0 rfl rfl) (M.lt 1 rfl) Try.underlying24 rfl info24 ?_
 simp only [Z7,Z0]
 refine Z20 (v := fe (fmul y y)) (args := #[fe y, fe y]) (by rfl) rfl Try.func42 (by kernel_rfl) (by kernel_rfl) rfl (fun W hW => rmul04_c hy hy) ?_
 simp only [Z7,Z0]
 refine Z14 (hLk _ (fun w9 Sw9 => ?_))
 clear hLk Lk
 simp only [Z1,Z2]
 replace M := M.sees Sw9
 refine wpL_var (t := 24) (cs := [.int .u64 0, .int .u64 0, .int .u64 0, .int .u64 0]) (by rfl) (fun W => ?_) (fun g10 w11 Sw11 Hg10 Bg10 => ?_)
 ·
  go_simp
 replace M := ((M.sees Sw11).add (N := 4) (cs := [.int .u64 0, .int .u64 0, .int .u64 0, .int .u64 0]) (M.ge Hg10) (M.fresh Hg10) Bg10 rfl)
 clear Bg10
 simp only [Z7,Z0]
 refine wpL_store (g := g10) (off := 0) (n := 4) (cs := fel (fmul y y)) (by rfl) (by rfl) (by rfl) (by rfl) (by rfl) (M.t 0 rfl) (by simp [flen]) info24 (fel_one _) (fun w12 P R T => ?_)
 replace M := M.putS 0 0 rfl P R T rfl ⟨.inl rfl, trivial⟩
 simp only [Z0] at M
 refine Z9 (Z10 ?_)
 refine hK7 _ _ ?_
 refine Z4 (fun K13 hK13 => ?_)
 refine wp_region_grow 6 [] (by kernel_rfl) (by kernel_rfl) (by kernel_rfl) (fun Lk hLk => ?_)
 simp only [Z1,Z2]
 refine Z20 (v := fe dR) (args := #[]) (by rfl) rfl Try.func44 (by kernel_rfl) (by kernel_rfl) rfl (fun W hW => rD_c) ?_
 simp only [Z7,Z0]
 refine wpV_load (cs := fel (fmul y y)) (by rfl) rfl rfl (M.r 0 0 rfl rfl) (M.lt 0 rfl) Try.underlying24 rfl info24 ?_
 simp only [Z7,Z0]
 refine Z20 (v := fe (fmul dR (fmul y y))) (args := #[fe dR, fe (fmul y y)]) (by rfl) rfl Try.func42 (by kernel_rfl) (by kernel_rfl) rfl (fun W hW => rmul04_c dR_lt (fmul_lt ..)) ?_
 simp only [Z7,Z0]
 refine Z19 (v := fe 1) (by rfl) (by rfl) (fun W hW => ?_) ?_
 ·
  rw [show fe 1 = .agg ([.int .u64 1, .int .u64 0, .int .u64 0, .int .u64 0]).toArray from (by kernel_rfl)]; unfold RunsVal; kernel_rfl
 simp only [Z7,Z0]
 refine Z20 (v := fe (fadd (fmul dR (fmul y y)) 1)) (args := #[fe (fmul dR (fmul y y)), fe 1]) (by rfl) rfl Try.func50 (by kernel_rfl) (by kernel_rfl) rfl (fun W hW => radd04_c (fmul_lt ..) (by decide)) ?_
 simp only [Z7,Z0]
 refine wpV_alloc (by rfl) ?_
 refine Z14 (hLk.out _ ?_)
 clear hLk Lk
 simp only [Z1,Z2]
 iterate 5 refine wpN_skip (by rfl) ?_
 refine wpN_new (t := 24) (cs := ([.int .u64 0, .int .u64 0, .int .u64 0, .int .u64 0]).toArray) (by rfl) (fun W => ?_) (fun g15 Hg15 ng15 => ?_)
 ·
  go_simp
 simp only [Z7,Z0]
 refine wpN_nil (fun w16 Sw16 hbs => ?_)
 replace M := ((M.sees Sw16).add (N := 4) (cs := [.int .u64 0, .int .u64 0, .int .u64 0, .int .u64 0]) (M.ge Hg15) (M.fresh Hg15) (hbs _ (.head _)) rfl)
 clear hbs ng15
 refine wpL_store (g := g15) (off := 0) (n := 4) (cs := fel (fadd (fmul dR (fmul y y)) 1)) (by rfl) (by rfl) (by rfl) (by rfl) (by rfl) (M.t 0 rfl) (by simp [flen]) info24 (fel_one _) (fun w17 P R T => ?_)
 replace M := M.putS 0 0 rfl P R T rfl ⟨.inl rfl, trivial⟩
 simp only [Z0] at M
 refine Z9 (Z10 ?_)
 refine hK13 _ _ ?_
 refine Z4 (fun K18 hK18 => ?_)
 refine wp_region_grow 9 [] (by kernel_rfl) (by kernel_rfl) (by kernel_rfl) (fun Lk hLk => ?_)
 simp only [Z1,Z2]
 refine wpV_load (cs := fel (fmul y y)) (by rfl) rfl rfl (M.r 1 0 rfl rfl) (M.lt 1 rfl) Try.underlying24 rfl info24 ?_
 simp only [Z7,Z0]
 refine Z19 (v := fe 1) (by rfl) (by rfl) (fun W hW => ?_) ?_
 ·
  rw [show fe 1 = .agg ([.int .u64 1, .int .u64 0, .int .u64 0, .int .u64 0]).toArray from (by kernel_rfl)]; unfold RunsVal; kernel_rfl
 simp only [Z7,Z0]
 refine Z20 (v := fe (fsub (fmul y y) 1)) (args := #[fe (fmul y y), fe 1]) (by rfl) rfl Try.func37 (by kernel_rfl) (by kernel_rfl) rfl (fun W hW => rsub04_c (fmul_lt ..) (by decide)) ?_
 simp only [Z7,Z0]
 refine wpV_load (cs := fel (fadd (fmul dR (fmul y y)) 1)) (by rfl) rfl rfl (M.r 0 0 rfl rfl) (M.lt 0 rfl) Try.underlying24 rfl info24 ?_
 simp only [Z7,Z0]
 refine Z20 (v := fe (finv (fadd (fmul dR (fmul y y)) 1))) (args := #[fe (fadd (fmul dR (fmul y y)) 1)]) (by rfl) rfl Try.func48 (by kernel_rfl) (by kernel_rfl) rfl (fun W hW => rinv_c (fadd_lt ..)) ?_
 simp only [Z7,Z0]
 refine Z20 (v := fe (fmul (fsub (fmul y y) 1) (finv (fadd (fmul dR (fmul y y)) 1)))) (args := #[fe (fsub (fmul y y) 1), fe (finv (fadd (fmul dR (fmul y y)) 1))]) (by rfl) rfl Try.func42 (by kernel_rfl) (by kernel_rfl) rfl (fun W hW => rmul04_c (fsub_lt ..) (finv_lt _)) ?_
 simp only [Z7,Z0]
 refine Z20 (v := .tuple #[fe ((rootX y).1), .bool ((rootX y).2)]) (args := #[fe (fmul (fsub (fmul y y) 1) (finv (fadd (fmul dR (fmul y y)) 1)))]) (by rfl) rfl Try.func69 (by kernel_rfl) (by kernel_rfl) rfl (fun W hW => (by have h9 := rRoot_c (x := fmul (fsub (fmul y y) 1) (finv (fadd (fmul dR (fmul y y)) 1))) (w := W) (fmul_ltp ..); rw [rootX_r] at h9; exact h9)) ?_
 simp only [Z7,Z0]
 refine wpV_extract (v := fe ((rootX y).1)) (by rfl) rfl rfl rfl ?_
 simp only [Z7,Z0]
 refine wpV_extract (v := .bool ((rootX y).2)) (by rfl) rfl rfl rfl ?_
 simp only [Z7,Z0]
 refine Z14 (hLk.out _ ?_)
 clear hLk Lk
 simp only [Z1,Z2]
 iterate 9 refine wpN_skip (by rfl) ?_
 refine wpN_nil (fun w20 Sw20 hbs => ?_)
 clear hbs
 replace M := M.sees Sw20
 refine wpL_store (g := g5) (off := 0) (n := 4) (cs := fel ((rootX y).1)) (by rfl) (by rfl) (by rfl) (by rfl) (by rfl) (M.t 2 rfl) (by simp [flen]) info24 (fel_one _) (fun w21 P R T => ?_)
 replace M := M.putS 2 0 rfl P R T rfl ⟨.inl rfl, trivial⟩
 simp only [Z0] at M
 refine Z13 (v := .bool ((rootX y).2)) (by rfl) (by rfl) (by rfl) ?_
 simp only [Z7,Z0]
 refine Z9 (Z10 ?_)
 refine hK18 _ _ ?_
 refine wp_ret ?_
 repeat (first | with_reducible refine then_ret ?_ | with_reducible refine inblock_ret ?_)
 refine bodyPost_ret (v := .tuple #[fe ((rootX y).1), .bool ((rootX y).2)]) (res2 rfl (.cell (by rfl) (run_loadVar_mid _ _ _ _ (fel ((rootX y).1)) _ (M.r 2 0 rfl rfl) Try.underlying24 rfl info24)) (.tmp (by rfl))) rfl ?_
 have BE := M.below
 exact ⟨rfl, BE⟩
set_option maxHeartbeats 2000000 in
theorem rBase_c  {w : World}  :
  Calls Try.prog 19 #[] w fun e w' => e = .returned (.agg (fel baseX ++ fel baseY : List Value).toArray) ∧ Below w.heap.size w w' := by
 go_enter Try.func19, Try.ntmps19
 have M := Mem.start w
 refine Z4 (fun K1 hK1 => ?_)
 refine Z8 ?_
 refine wpL_var (t := 32) (cs := [.int .u64 0, .int .u64 0, .int .u64 0, .int .u64 0, .int .u64 0, .int .u64 0, .int .u64 0, .int .u64 0]) (by rfl) (fun W => ?_) (fun g3 w4 Sw4 Hg3 Bg3 => ?_)
 ·
  go_simp
 replace M := ((M.sees Sw4).addS (N := 8) (cs := [.int .u64 0, .int .u64 0, .int .u64 0, .int .u64 0, .int .u64 0, .int .u64 0, .int .u64 0, .int .u64 0]) (segs := [(0, [.int .u64 0, .int .u64 0, .int .u64 0, .int .u64 0]), (4, [.int .u64 0, .int .u64 0, .int .u64 0, .int .u64 0])]) (M.ge Hg3) (M.fresh Hg3) Bg3 rfl ⟨rfl, rfl, trivial⟩)
 clear Bg3
 simp only [Z7,Z0]
 refine Z9 (Z10 ?_)
 refine hK1 _ _ ?_
 refine Z4 (fun K5 hK5 => ?_)
 refine Z8 ?_
 refine Z11 4 (by rfl) (fun Lk hLk => ?_)
 simp only [Z1,Z2]
 refine Z19 (v := fe 4) (by rfl) (by rfl) (fun W hW => ?_) ?_
 ·
  rw [show fe 4 = .agg ([.int .u64 4, .int .u64 0, .int .u64 0, .int .u64 0]).toArray from (by kernel_rfl)]; unfold RunsVal; kernel_rfl
 simp only [Z7,Z0]
 refine Z19 (v := fe 5) (by rfl) (by rfl) (fun W hW => ?_) ?_
 ·
  rw [show fe 5 = .agg ([.int .u64 5, .int .u64 0, .int .u64 0, .int .u64 0]).toArray from (by kernel_rfl)]; unfold RunsVal; kernel_rfl
 simp only [Z7,Z0]
 refine Z20 (v := fe (finv 5)) (args := #[fe 5]) (by rfl) rfl Try.func48 (by kernel_rfl) (by kernel_rfl) rfl (fun W hW => rinv_c (by decide)) ?_
 simp only [Z7,Z0]
 refine Z20 (v := fe (fmul 4 (finv 5))) (args := #[fe 4, fe (finv 5)]) (by rfl) rfl Try.func42 (by kernel_rfl) (by kernel_rfl) rfl (fun W hW => rmul04_c (by decide) (finv_lt _)) ?_
 simp only [Z7,Z0]
 refine Z14 (hLk _ (fun w7 Sw7 => ?_))
 clear hLk Lk
 simp only [Z1,Z2]
 replace M := M.sees Sw7
 refine wpL_var (t := 24) (cs := [.int .u64 0, .int .u64 0, .int .u64 0, .int .u64 0]) (by rfl) (fun W => ?_) (fun g8 w9 Sw9 Hg8 Bg8 => ?_)
 ·
  go_simp
 replace M := ((M.sees Sw9).add (N := 4) (cs := [.int .u64 0, .int .u64 0, .int .u64 0, .int .u64 0]) (M.ge Hg8) (M.fresh Hg8) Bg8 rfl)
 clear Bg8
 simp only [Z7,Z0]
 refine wpL_store (g := g8) (off := 0) (n := 4) (cs := fel (fmul 4 (finv 5))) (by rfl) (by rfl) (by rfl) (by rfl) (by rfl) (M.t 0 rfl) (by simp [flen]) info24 (fel_one _) (fun w10 P R T => ?_)
 replace M := M.putS 0 0 rfl P R T rfl ⟨.inl rfl, trivial⟩
 simp only [Z0] at M
 refine Z9 (Z10 ?_)
 refine hK5 _ _ ?_
 refine Z4 (fun K11 hK11 => ?_)
 refine Z8 ?_
 refine Z11 5 (by rfl) (fun Lk hLk => ?_)
 simp only [Z1,Z2]
 refine wpV_load (cs := fel (fmul 4 (finv 5))) (by rfl) rfl rfl (M.r 0 0 rfl rfl) (M.lt 0 rfl) Try.underlying24 rfl info24 ?_
 simp only [Z7,Z0]
 refine Z20 (v := .tuple #[fe baseX, .bool true]) (args := #[fe (fmul 4 (finv 5))]) (by rfl) rfl Try.func36 (by kernel_rfl) (by kernel_rfl) rfl (fun W hW => (by have h9 := rX_c (y := fmul 4 (finv 5)) (w := W) (fmul_lt ..); rw [finv_five, rootX_base] at h9; rw [finv_five]; exact h9)) ?_
 simp only [Z7,Z0]
 refine Z16 (v := .tuple #[fe baseX, .bool true]) (by rfl) rfl rfl ?_
 simp only [Z7,Z0]
 refine wpV_extract (v := fe baseX) (by rfl) rfl rfl rfl ?_
 simp only [Z7,Z0]
 refine wpV_extract (v := .bool true) (by rfl) rfl rfl rfl ?_
 simp only [Z7,Z0]
 refine Z14 (hLk _ (fun w13 Sw13 => ?_))
 clear hLk Lk
 simp only [Z1,Z2]
 replace M := M.sees Sw13
 refine wpL_var (t := 24) (cs := [.int .u64 0, .int .u64 0, .int .u64 0, .int .u64 0]) (by rfl) (fun W => ?_) (fun g14 w15 Sw15 Hg14 Bg14 => ?_)
 ·
  go_simp
 replace M := ((M.sees Sw15).add (N := 4) (cs := [.int .u64 0, .int .u64 0, .int .u64 0, .int .u64 0]) (M.ge Hg14) (M.fresh Hg14) Bg14 rfl)
 clear Bg14
 simp only [Z7,Z0]
 refine wpL_store (g := g14) (off := 0) (n := 4) (cs := fel baseX) (by rfl) (by rfl) (by rfl) (by rfl) (by rfl) (M.t 0 rfl) (by simp [flen]) info24 (fel_one _) (fun w16 P R T => ?_)
 replace M := M.putS 0 0 rfl P R T rfl ⟨.inl rfl, trivial⟩
 simp only [Z0] at M
 refine Z13 (v := .bool true) (by rfl) (by rfl) (by rfl) ?_
 simp only [Z7,Z0]
 refine Z9 (Z10 ?_)
 refine hK11 _ _ ?_
 refine Z4 (fun K17 hK17 => ?_)
 refine Z8 ?_
 refine Z11 3 (by rfl) (fun Lk hLk => ?_)
 simp only [Z1,Z2]
 refine wpV_load (cs := fel baseX) (by rfl) rfl rfl (M.r 0 0 rfl rfl) (M.lt 0 rfl) Try.underlying24 rfl info24 ?_
 simp only [Z7,Z0]
 refine wpV_load (cs := fel (fmul 4 (finv 5))) (by rfl) rfl rfl (M.r 1 0 rfl rfl) (M.lt 1 rfl) Try.underlying24 rfl info24 ?_
 simp only [Z7,Z0]
 refine Z19 (v := .agg ((fel baseX) ++ (fel (fmul 4 (finv 5))) : List Value).toArray) (by rfl) (by rfl) (fun W hW => ?_) ?_
 ·
  (unfold RunsVal; kernel_rfl)
 simp only [Z7,Z0]
 refine Z14 (hLk _ (fun w19 Sw19 => ?_))
 clear hLk Lk
 simp only [Z1,Z2]
 replace M := M.sees Sw19
 refine wpL_store (g := g3) (off := 0) (n := 8) (cs := (fel baseX) ++ (fel (fmul 4 (finv 5)))) (by rfl) (by rfl) (by rfl) (by rfl) (by rfl) (M.t 2 rfl) (by simp [flen]) info32 (two4 _ _) (fun w20 P R T => ?_)
 replace M := M.put (segs' := [(0, fel baseX), (4, fel (fmul 4 (finv 5)))]) 2 rfl P T (SegsOf.at R ⟨rfl, rfl, trivial⟩)
 simp only [Z0] at M
 refine Z9 (Z10 ?_)
 refine hK17 _ _ ?_
 refine wp_ret ?_
 repeat (first | with_reducible refine then_ret ?_ | with_reducible refine inblock_ret ?_)
 refine bodyPost_ret (v := .agg (fel baseX ++ (fel (fmul 4 (finv 5))) : List Value).toArray) (res1 rfl (.cell (by rfl) (run_loadVar_mid _ _ _ _ (fel baseX ++ (fel (fmul 4 (finv 5)))) _ (range_join (M.r 2 0 rfl rfl) (M.r 2 1 rfl rfl) (by simp [flen])) Try.underlying32 rfl info32))) rfl ?_
 have BE := M.below
 exact ⟨by rw [finv_five], BE⟩
end Go.Proofs.Yc

namespace Go.Proofs.Yc
open Go Go.RowKit Go.Proofs.Num

attribute [local irreducible] wpV wpN wpList
open Go.Proofs.Ya
theorem eq_z16 : EqD Try.prog 3 26 (.agg ([.int .u64 0, .int .u64 0, .int .u64 0, .int .u64 0, .int .u64 0, .int .u64 0, .int .u64 0, .int .u64 0, .int .u64 0, .int .u64 0, .int .u64 0, .int .u64 0, .int .u64 0, .int .u64 0, .int .u64 0, .int .u64 0] : List Value).toArray) (.agg ([.int .u64 0, .int .u64 0, .int .u64 0, .int .u64 0, .int .u64 0, .int .u64 0, .int .u64 0, .int .u64 0, .int .u64 0, .int .u64 0, .int .u64 0, .int .u64 0, .int .u64 0, .int .u64 0, .int .u64 0, .int .u64 0] : List Value).toArray) true :=
 (eq_struct (k := 2) (xs := [.int .u64 0, .int .u64 0, .int .u64 0, .int .u64 0, .int .u64 0, .int .u64 0, .int .u64 0, .int .u64 0, .int .u64 0, .int .u64 0, .int .u64 0, .int .u64 0, .int .u64 0, .int .u64 0, .int .u64 0, .int .u64 0]) (ys := [.int .u64 0, .int .u64 0, .int .u64 0, .int .u64 0, .int .u64 0, .int .u64 0, .int .u64 0, .int .u64 0, .int .u64 0, .int .u64 0, .int .u64 0, .int .u64 0, .int .u64 0, .int .u64 0, .int .u64 0, .int .u64 0]) (fs := [(false, 24, 0), (false, 24, 4), (false, 24, 8), (false, 24, 12)]) (bs := [true, true, true, true]) Try.underlying26 (by kernel_rfl) (by rfl) ⟨rfl, ⟨.agg ([.int .u64 0, .int .u64 0, .int .u64 0, .int .u64 0] : List Value).toArray, .agg ([.int .u64 0, .int .u64 0, .int .u64 0, .int .u64 0] : List Value).toArray, (fun W => run_part_row Try.underlying24 rfl info24 rfl W), (fun W => run_part_row Try.underlying24 rfl info24 rfl W), ((eq_arr Try.underlying24 Try.underlying22 info22 [0, 0, 0, 0] [0, 0, 0, 0] rfl rfl).bool (decide_eq_true rfl))⟩, rfl, ⟨.agg ([.int .u64 0, .int .u64 0, .int .u64 0, .int .u64 0] : List Value).toArray, .agg ([.int .u64 0, .int .u64 0, .int .u64 0, .int .u64 0] : List Value).toArray, (fun W => run_part_row Try.underlying24 rfl info24 rfl W), (fun W => run_part_row Try.underlying24 rfl info24 rfl W), ((eq_arr Try.underlying24 Try.underlying22 info22 [0, 0, 0, 0] [0, 0, 0, 0] rfl rfl).bool (decide_eq_true rfl))⟩, rfl, ⟨.agg ([.int .u64 0, .int .u64 0, .int .u64 0, .int .u64 0] : List Value).toArray, .agg ([.int .u64 0, .int .u64 0, .int .u64 0, .int .u64 0] : List Value).toArray, (fun W => run_part_row Try.underlying24 rfl info24 rfl W), (fun W => run_part_row Try.underlying24 rfl info24 rfl W), ((eq_arr Try.underlying24 Try.underlying22 info22 [0, 0, 0, 0] [0, 0, 0, 0] rfl rfl).bool (decide_eq_true rfl))⟩, rfl, ⟨.agg ([.int .u64 0, .int .u64 0, .int .u64 0, .int .u64 0] : List Value).toArray, .agg ([.int .u64 0, .int .u64 0, .int .u64 0, .int .u64 0] : List Value).toArray, (fun W => run_part_row Try.underlying24 rfl info24 rfl W), (fun W => run_part_row Try.underlying24 rfl info24 rfl W), ((eq_arr Try.underlying24 Try.underlying22 info22 [0, 0, 0, 0] [0, 0, 0, 0] rfl rfl).bool (decide_eq_true rfl))⟩, trivial⟩).bool (by rfl)
theorem noneP_cells : (fel noneP.x ++ fel noneP.y ++ fel noneP.z ++ fel noneP.t : List Value) = [.int .u64 0, .int .u64 0, .int .u64 0, .int .u64 0, .int .u64 0, .int .u64 0, .int .u64 0, .int .u64 0, .int .u64 0, .int .u64 0, .int .u64 0, .int .u64 0, .int .u64 0, .int .u64 0, .int .u64 0, .int .u64 0] := by kernel_rfl
end Go.Proofs.Yc

namespace Go.Proofs.Yc
open Go Go.RowKit Go.Proofs.Num
open List renaming set → Z0, take → Z1, drop → Z2
open Go renaming wp_seq_k → Z4, wp_cond_true → Z5, wp_cond_false → Z6
open Go.Proofs.Num renaming putT → Z7, wp_region_seq → Z8, wpL_nil → Z9, no_panic → Z10, wpL_chunk → Z11, wpL_move → Z12, wpL_assign → Z13, wpV_nil → Z14, wpV_bin → Z15, wpV_move → Z16, wpV_val → Z19, wpV_callf → Z20
attribute [local irreducible] wpV wpN wpList
open Go.Proofs.Ya
theorem same_no1 {p q : P4} (h : rightP p = false) : sameP p q = false := by unfold sameP; rw [h]; rfl
theorem same_no2 {p q : P4} (h : rightP q = false) : sameP p q = false := by unfold sameP; rw [h, Bool.and_false]; rfl
set_option maxRecDepth 100000 in
set_option maxHeartbeats 4000000 in
theorem pmay_yes {p : P4} {n : Nat} {w : World} (hp : p.Ok) (hn : n < 2 ^ 256) (hr : rightP p = true) :
  Calls Try.prog 4 #[.agg (fel p.x ++ fel p.y ++ fel p.z ++ fel p.t : List Value).toArray, fe n] w fun e w' => e = .returned (.bool true) ∧ Below w.heap.size w w' := by
 go_enter Try.func4, Try.ntmps4
 have M := Mem.start w
 refine Z4 (fun K1 hK1 => ?_)
 refine Z8 ?_
 refine wpL_var (t := 26) (cs := fel p.x ++ fel p.y ++ fel p.z ++ fel p.t) (by rfl) (fun W => ?_) (fun g3 w4 Sw4 Hg3 Bg3 => ?_)
 ·
  (first | rfl | go_simp)
 replace M := ((M.sees Sw4).addS (N := 16) (cs := fel p.x ++ fel p.y ++ fel p.z ++ fel p.t) (segs := [(0, fel p.x), (4, fel p.y), (8, fel p.z), (12, fel p.t)]) (M.ge Hg3) (M.fresh Hg3) Bg3 (by simp [flen]) ⟨rfl, rfl, rfl, rfl, trivial⟩)
 clear Bg3
 simp only [Z7,Z0]
 refine wpL_var (t := 39) (cs := fel n) (by rfl) (fun W => ?_) (fun g5 w6 Sw6 Hg5 Bg5 => ?_)
 ·
  (first | rfl | go_simp)
 replace M := ((M.sees Sw6).add (N := 4) (cs := fel n) (M.ge Hg5) (M.fresh Hg5) Bg5 rfl)
 clear Bg5
 simp only [Z7,Z0]
 refine Z13 (v := .bool false) (by rfl) (by rfl) (by rfl) ?_
 simp only [Z7,Z0]
 refine Z9 (Z10 ?_)
 refine hK1 _ _ ?_
 refine Z4 (fun K7 hK7 => ?_)
 refine Z8 ?_
 refine Z11 2 (by rfl) (fun Lk hLk => ?_)
 simp only [Z1,Z2]
 refine Z20 (v := .agg (fel zeroP.x ++ fel zeroP.y ++ fel zeroP.z ++ fel zeroP.t : List Value).toArray) (args := #[]) (by rfl) rfl Try.func15 (by kernel_rfl) (by kernel_rfl) rfl (fun W hW => zero_c) ?_
 simp only [Z7,Z0]
 refine Z20 (v := .agg (fel baseP.x ++ fel baseP.y ++ fel baseP.z ++ fel baseP.t : List Value).toArray) (args := #[]) (by rfl) rfl Try.func16 (by kernel_rfl) (by kernel_rfl) rfl (fun W hW => Base_c) ?_
 simp only [Z7,Z0]
 refine Z14 (hLk _ (fun w9 Sw9 => ?_))
 clear hLk Lk
 simp only [Z1,Z2]
 replace M := M.sees Sw9
 refine wpL_var (t := 26) (cs := [.int .u64 0, .int .u64 0, .int .u64 0, .int .u64 0, .int .u64 0, .int .u64 0, .int .u64 0, .int .u64 0, .int .u64 0, .int .u64 0, .int .u64 0, .int .u64 0, .int .u64 0, .int .u64 0, .int .u64 0, .int .u64 0]) (by rfl) (fun W => ?_) (fun g10 w11 Sw11 Hg10 Bg10 => ?_)
 ·
  go_simp
 replace M := ((M.sees Sw11).addS (N := 16) (cs := [.int .u64 0, .int .u64 0, .int .u64 0, .int .u64 0, .int .u64 0, .int .u64 0, .int .u64 0, .int .u64 0, .int .u64 0, .int .u64 0, .int .u64 0, .int .u64 0, .int .u64 0, .int .u64 0, .int .u64 0, .int .u64 0]) (segs := [(0, [.int .u64 0, .int .u64 0, .int .u64 0, .int .u64 0]), (4, [.int .u64 0, .int .u64 0, .int .u64 0, .int .u64 0]), (8, [.int .u64 0, .int .u64 0, .int .u64 0, .int .u64 0]), (12, [.int .u64 0, .int .u64 0, .int .u64 0, .int .u64 0])]) (M.ge Hg10) (M.fresh Hg10) Bg10 rfl ⟨rfl, rfl, rfl, rfl, trivial⟩)
 clear Bg10
 simp only [Z7,Z0]
 refine wpL_var (t := 26) (cs := [.int .u64 0, .int .u64 0, .int .u64 0, .int .u64 0, .int .u64 0, .int .u64 0, .int .u64 0, .int .u64 0, .int .u64 0, .int .u64 0, .int .u64 0, .int .u64 0, .int .u64 0, .int .u64 0, .int .u64 0, .int .u64 0]) (by rfl) (fun W => ?_) (fun g12 w13 Sw13 Hg12 Bg12 => ?_)
 ·
  go_simp
 replace M := ((M.sees Sw13).addS (N := 16) (cs := [.int .u64 0, .int .u64 0, .int .u64 0, .int .u64 0, .int .u64 0, .int .u64 0, .int .u64 0, .int .u64 0, .int .u64 0, .int .u64 0, .int .u64 0, .int .u64 0, .int .u64 0, .int .u64 0, .int .u64 0, .int .u64 0]) (segs := [(0, [.int .u64 0, .int .u64 0, .int .u64 0, .int .u64 0]), (4, [.int .u64 0, .int .u64 0, .int .u64 0, .int .u64 0]), (8, [.int .u64 0, .int .u64 0, .int .u64 0, .int .u64 0]), (12, [.int .u64 0, .int .u64 0, .int .u64 0, .int .u64 0])]) (M.ge Hg12) (M.fresh Hg12) Bg12 rfl ⟨rfl, rfl, rfl, rfl, trivial⟩)
 clear Bg12
 simp only [Z7,Z0]
 refine wpL_store (g := g10) (off := 0) (n := 16) (cs := fel zeroP.x ++ fel zeroP.y ++ fel zeroP.z ++ fel zeroP.t) (by rfl) (by rfl) (by rfl) (by rfl) (by rfl) (M.t 1 rfl) (by simp [flen]) info26 (one4 _ _ _ _) (fun w14 P R T => ?_)
 replace M := M.put (segs' := [(0, fel zeroP.x), (4, fel zeroP.y), (8, fel zeroP.z), (12, fel zeroP.t)]) 1 rfl P T (SegsOf.at R ⟨rfl, rfl, rfl, rfl, trivial⟩)
 simp only [Z0] at M
 refine wpL_store (g := g12) (off := 0) (n := 16) (cs := fel baseP.x ++ fel baseP.y ++ fel baseP.z ++ fel baseP.t) (by rfl) (by rfl) (by rfl) (by rfl) (by rfl) (M.t 0 rfl) (by simp [flen]) info26 (one4 _ _ _ _) (fun w15 P R T => ?_)
 replace M := M.put (segs' := [(0, fel baseP.x), (4, fel baseP.y), (8, fel baseP.z), (12, fel baseP.t)]) 0 rfl P T (SegsOf.at R ⟨rfl, rfl, rfl, rfl, trivial⟩)
 simp only [Z0] at M
 refine Z9 (Z10 ?_)
 refine hK7 _ _ ?_
 refine Z4 (fun K16 hK16 => ?_)
 refine Z4 (fun K17 hK17 => ?_)
 refine wp_region_grow 32 [] (by kernel_rfl) (by kernel_rfl) (by kernel_rfl) (fun Lk hLk => ?_)
 simp only [Z1,Z2]
 refine wpV_load (cs := fel p.x ++ (fel p.y) ++ (fel p.z) ++ (fel p.t)) (by rfl) rfl rfl (range_join (range_join (range_join (M.r 3 0 rfl rfl) (M.r 3 1 rfl rfl) (by simp [flen])) (M.r 3 2 rfl rfl) (by simp [flen])) (M.r 3 3 rfl rfl) (by simp [flen])) (M.lt 3 rfl) Try.underlying26 rfl info26 ?_
 simp only [Z7,Z0]
 refine Z20 (v := .bool true) (args := #[.agg (fel p.x ++ (fel p.y) ++ (fel p.z) ++ (fel p.t) : List Value).toArray]) (by rfl) rfl Try.func17 (by kernel_rfl) (by kernel_rfl) rfl (fun W hW => (by have h9 := right_c (p := p) (w := W) hp; rw [hr] at h9; exact h9)) ?_
 simp only [Z7,Z0]
 refine wpV_load (cs := fel p.x ++ (fel p.y) ++ (fel p.z) ++ (fel p.t)) (by rfl) rfl rfl (range_join (range_join (range_join (M.r 3 0 rfl rfl) (M.r 3 1 rfl rfl) (by simp [flen])) (M.r 3 2 rfl rfl) (by simp [flen])) (M.r 3 3 rfl rfl) (by simp [flen])) (M.lt 3 rfl) Try.underlying26 rfl info26 ?_
 simp only [Z7,Z0]
 refine Z20 (v := .bool true) (args := #[.agg (fel p.x ++ (fel p.y) ++ (fel p.z) ++ (fel p.t) : List Value).toArray]) (by rfl) rfl Try.func14 (by kernel_rfl) (by kernel_rfl) rfl (fun W hW => (by have h9 := rRight_c (p := p) (w := W) hp; rw [right_rRight, hr] at h9; exact h9)) ?_
 simp only [Z7,Z0]
 refine Z19 (v := .bool false) (by rfl) (by rfl) (fun W hW => ?_) ?_
 ·
  (go_simp; exact rfl)
 simp only [Z7,Z0]
 refine Z16 (v := .bool false) (by rfl) rfl rfl ?_
 simp only [Z7,Z0]
 refine wpV_load (cs := fel zeroP.x ++ (fel zeroP.y) ++ (fel zeroP.z) ++ (fel zeroP.t)) (by rfl) rfl rfl (range_join (range_join (range_join (M.r 1 0 rfl rfl) (M.r 1 1 rfl rfl) (by simp [flen])) (M.r 1 2 rfl rfl) (by simp [flen])) (M.r 1 3 rfl rfl) (by simp [flen])) (M.lt 1 rfl) Try.underlying26 rfl info26 ?_
 simp only [Z7,Z0]
 refine Z20 (v := .bool true) (args := #[.agg (fel zeroP.x ++ (fel zeroP.y) ++ (fel zeroP.z) ++ (fel zeroP.t) : List Value).toArray]) (by rfl) rfl Try.func14 (by kernel_rfl) (by kernel_rfl) rfl (fun W hW => (by have h9 := rRight_c (p := zeroP) (w := W) zeroP_ok; rw [right_rRight, right_zero] at h9; exact h9)) ?_
 simp only [Z7,Z0]
 refine wpV_not (b := true) (by rfl) rfl rfl ?_
 simp only [Bool.not_true, Bool.not_false]
 simp only [Z7,Z0]
 refine wpV_pick (v := .bool false) (by rfl) rfl rfl rfl ?_
 simp only [Z7,Z0]
 refine Z16 (v := .bool false) (by rfl) rfl rfl ?_
 simp only [Z7,Z0]
 refine wpV_load (cs := fel baseP.x ++ (fel baseP.y) ++ (fel baseP.z) ++ (fel baseP.t)) (by rfl) rfl rfl (range_join (range_join (range_join (M.r 0 0 rfl rfl) (M.r 0 1 rfl rfl) (by simp [flen])) (M.r 0 2 rfl rfl) (by simp [flen])) (M.r 0 3 rfl rfl) (by simp [flen])) (M.lt 0 rfl) Try.underlying26 rfl info26 ?_
 simp only [Z7,Z0]
 refine Z20 (v := .bool true) (args := #[.agg (fel baseP.x ++ (fel baseP.y) ++ (fel baseP.z) ++ (fel baseP.t) : List Value).toArray]) (by rfl) rfl Try.func14 (by kernel_rfl) (by kernel_rfl) rfl (fun W hW => (by have h9 := rRight_c (p := baseP) (w := W) baseP_ok; rw [right_rRight, rightP_base] at h9; exact h9)) ?_
 simp only [Z7,Z0]
 refine wpV_not (b := true) (by rfl) rfl rfl ?_
 simp only [Bool.not_true, Bool.not_false]
 simp only [Z7,Z0]
 refine wpV_pick (v := .bool false) (by rfl) rfl rfl rfl ?_
 simp only [Z7,Z0]
 refine Z16 (v := .bool false) (by rfl) rfl rfl ?_
 simp only [Z7,Z0]
 refine wpV_load (cs := fel zeroP.x ++ (fel zeroP.y) ++ (fel zeroP.z) ++ (fel zeroP.t)) (by rfl) rfl rfl (range_join (range_join (range_join (M.r 1 0 rfl rfl) (M.r 1 1 rfl rfl) (by simp [flen])) (M.r 1 2 rfl rfl) (by simp [flen])) (M.r 1 3 rfl rfl) (by simp [flen])) (M.lt 1 rfl) Try.underlying26 rfl info26 ?_
 simp only [Z7,Z0]
 refine Z20 (v := .agg (fel 0 ++ fel 1 : List Value).toArray) (args := #[.agg (fel zeroP.x ++ (fel zeroP.y) ++ (fel zeroP.z) ++ (fel zeroP.t) : List Value).toArray]) (by rfl) rfl Try.func18 (by kernel_rfl) (by kernel_rfl) rfl (fun W hW => (by have h9 := rAffine_c (p := zeroP) (w := W) zeroP_ok; rw [zero_x, zero_y] at h9; exact h9)) ?_
 simp only [Z7,Z0]
 refine Z19 (v := fe 1) (by rfl) (by rfl) (fun W hW => ?_) ?_
 ·
  rw [show fe 1 = .agg ([.int .u64 1, .int .u64 0, .int .u64 0, .int .u64 0]).toArray from (by kernel_rfl)]; unfold RunsVal; kernel_rfl
 simp only [Z7,Z0]
 refine Z19 (v := .agg (fel 0 ++ fel 1 : List Value).toArray) (by rfl) (by rfl) (fun W hW => ?_) ?_
 ·
  unfold RunsVal; kernel_rfl
 simp only [Z7,Z0]
 refine wpV_neqT (k := 3) (u := fel 0 ++ fel 1) (v := fel 0 ++ fel 1) (b := true) (by rfl) rfl rfl rfl (by kernel_rfl) ((eq_struct (k := 2) (xs := fel 0 ++ fel 1) (ys := fel 0 ++ fel 1) (fs := [(false, 24, 0), (false, 24, 4)]) (bs := [true, true]) Try.underlying32 (by kernel_rfl) (by rfl) ⟨rfl, ⟨.agg (fel 0).toArray, .agg (fel 0).toArray, (fun W => run_part_row Try.underlying24 rfl info24 rfl W), (fun W => run_part_row Try.underlying24 rfl info24 rfl W), ((eq_fe Try.underlying24 Try.underlying22 info22 (by decide) (by decide)).bool (decide_eq_true rfl))⟩, rfl, ⟨.agg (fel 1).toArray, .agg (fel 1).toArray, (fun W => run_part_row Try.underlying24 rfl info24 rfl W), (fun W => run_part_row Try.underlying24 rfl info24 rfl W), ((eq_fe Try.underlying24 Try.underlying22 info22 (by decide) (by decide)).bool (decide_eq_true rfl))⟩, trivial⟩).bool (by simp only [List.all_cons, List.all_nil, id, Bool.and_true, Bool.true_and])) (by decide) ?_
 simp only [Bool.not_true, Bool.not_false]
 simp only [Z7,Z0]
 refine wpV_pick (v := .bool false) (by rfl) rfl rfl rfl ?_
 simp only [Z7,Z0]
 refine Z16 (v := .bool false) (by rfl) rfl rfl ?_
 simp only [Z7,Z0]
 refine wpV_load (cs := fel baseP.x ++ (fel baseP.y) ++ (fel baseP.z) ++ (fel baseP.t)) (by rfl) rfl rfl (range_join (range_join (range_join (M.r 0 0 rfl rfl) (M.r 0 1 rfl rfl) (by simp [flen])) (M.r 0 2 rfl rfl) (by simp [flen])) (M.r 0 3 rfl rfl) (by simp [flen])) (M.lt 0 rfl) Try.underlying26 rfl info26 ?_
 simp only [Z7,Z0]
 refine Z20 (v := .agg (fel baseX ++ fel baseY : List Value).toArray) (args := #[.agg (fel baseP.x ++ (fel baseP.y) ++ (fel baseP.z) ++ (fel baseP.t) : List Value).toArray]) (by rfl) rfl Try.func18 (by kernel_rfl) (by kernel_rfl) rfl (fun W hW => (by have h9 := rAffine_c (p := baseP) (w := W) baseP_ok; rw [affX_base, affY_base] at h9; exact h9)) ?_
 simp only [Z7,Z0]
 refine Z20 (v := .agg (fel baseX ++ fel baseY : List Value).toArray) (args := #[]) (by rfl) rfl Try.func19 (by kernel_rfl) (by kernel_rfl) rfl (fun W hW => rBase_c) ?_
 simp only [Z7,Z0]
 refine wpV_neqT (k := 3) (u := fel baseX ++ fel baseY) (v := fel baseX ++ fel baseY) (b := true) (by rfl) rfl rfl rfl (by kernel_rfl) ((eq_struct (k := 2) (xs := fel baseX ++ fel baseY) (ys := fel baseX ++ fel baseY) (fs := [(false, 24, 0), (false, 24, 4)]) (bs := [true, true]) Try.underlying32 (by kernel_rfl) (by rfl) ⟨rfl, ⟨.agg (fel baseX).toArray, .agg (fel baseX).toArray, (fun W => run_part_row Try.underlying24 rfl info24 rfl W), (fun W => run_part_row Try.underlying24 rfl info24 rfl W), ((eq_fe Try.underlying24 Try.underlying22 info22 (show _ < 2 ^ 256 by decide) (show _ < 2 ^ 256 by decide)).bool (decide_eq_true rfl))⟩, rfl, ⟨.agg (fel baseY).toArray, .agg (fel baseY).toArray, (fun W => run_part_row Try.underlying24 rfl info24 rfl W), (fun W => run_part_row Try.underlying24 rfl info24 rfl W), ((eq_fe Try.underlying24 Try.underlying22 info22 (show _ < 2 ^ 256 by decide) (show _ < 2 ^ 256 by decide)).bool (decide_eq_true rfl))⟩, trivial⟩).bool (by simp only [List.all_cons, List.all_nil, id, Bool.and_true, Bool.true_and])) (by decide) ?_
 simp only [Bool.not_true, Bool.not_false]
 simp only [Z7,Z0]
 refine wpV_pick (v := .bool false) (by rfl) rfl rfl rfl ?_
 simp only [Z7,Z0]
 refine Z16 (v := .bool false) (by rfl) rfl rfl ?_
 simp only [Z7,Z0]
 refine Z20 (v := .bool true) (args := #[]) (by rfl) rfl Try.func11 (by kernel_rfl) (by kernel_rfl) rfl (fun W hW => alive06_c) ?_
 simp only [Z7,Z0]
 refine wpV_not (b := true) (by rfl) rfl rfl ?_
 simp only [Bool.not_true, Bool.not_false]
 simp only [Z7,Z0]
 refine wpV_pick (v := .bool false) (by rfl) rfl rfl rfl ?_
 simp only [Z7,Z0]
 refine Z14 (hLk.out _ ?_)
 clear hLk Lk
 simp only [Z1,Z2]
 iterate 32 refine wpN_skip (by rfl) ?_
 refine wpN_nil (fun w19 Sw19 hbs => ?_)
 clear hbs
 replace M := M.sees Sw19
 refine Z9 (Z10 ?_)
 refine hK17 _ _ ?_
 refine Z6 rfl ?_
 refine wp_skip ?_
 refine hK16 _ _ ?_
 refine Z4 (fun K20 hK20 => ?_)
 refine Z4 (fun K21 hK21 => ?_)
 refine Z8 ?_
 refine Z11 2 (by rfl) (fun Lk hLk => ?_)
 simp only [Z1,Z2]
 refine wpV_load (cs := fel p.x ++ (fel p.y) ++ (fel p.z) ++ (fel p.t)) (by rfl) rfl rfl (range_join (range_join (range_join (M.r 3 0 rfl rfl) (M.r 3 1 rfl rfl) (by simp [flen])) (M.r 3 2 rfl rfl) (by simp [flen])) (M.r 3 3 rfl rfl) (by simp [flen])) (M.lt 3 rfl) Try.underlying26 rfl info26 ?_
 simp only [Z7,Z0]
 refine Z20 (v := .bool true) (args := #[.agg (fel p.x ++ (fel p.y) ++ (fel p.z) ++ (fel p.t) : List Value).toArray]) (by rfl) rfl Try.func14 (by kernel_rfl) (by kernel_rfl) rfl (fun W hW => (by have h9 := rRight_c (p := p) (w := W) hp; rw [right_rRight, hr] at h9; exact h9)) ?_
 simp only [Z7,Z0]
 refine Z14 (hLk _ (fun w23 Sw23 => ?_))
 clear hLk Lk
 simp only [Z1,Z2]
 replace M := M.sees Sw23
 refine Z9 (Z10 ?_)
 refine hK21 _ _ ?_
 refine Z5 rfl ?_
 refine Z4 (fun K24 hK24 => ?_)
 refine Z8 ?_
 refine Z11 3 (by rfl) (fun Lk hLk => ?_)
 simp only [Z1,Z2]
 refine wpV_load (cs := fel p.x ++ (fel p.y) ++ (fel p.z) ++ (fel p.t)) (by rfl) rfl rfl (range_join (range_join (range_join (M.r 3 0 rfl rfl) (M.r 3 1 rfl rfl) (by simp [flen])) (M.r 3 2 rfl rfl) (by simp [flen])) (M.r 3 3 rfl rfl) (by simp [flen])) (M.lt 3 rfl) Try.underlying26 rfl info26 ?_
 simp only [Z7,Z0]
 refine wpV_load (cs := fel p.x ++ (fel p.y) ++ (fel p.z) ++ (fel p.t)) (by rfl) rfl rfl (range_join (range_join (range_join (M.r 3 0 rfl rfl) (M.r 3 1 rfl rfl) (by simp [flen])) (M.r 3 2 rfl rfl) (by simp [flen])) (M.r 3 3 rfl rfl) (by simp [flen])) (M.lt 3 rfl) Try.underlying26 rfl info26 ?_
 simp only [Z7,Z0]
 refine Z20 (v := .bool true) (args := #[.agg (fel p.x ++ (fel p.y) ++ (fel p.z) ++ (fel p.t) : List Value).toArray, .agg (fel p.x ++ (fel p.y) ++ (fel p.z) ++ (fel p.t) : List Value).toArray]) (by rfl) rfl Try.func20 (by kernel_rfl) (by kernel_rfl) rfl (fun W hW => (by have h9 := same_c (w := W) hp hp; rw [same_self hr] at h9; exact h9)) ?_
 simp only [Z7,Z0]
 refine Z14 (hLk _ (fun w26 Sw26 => ?_))
 clear hLk Lk
 simp only [Z1,Z2]
 replace M := M.sees Sw26
 refine Z13 (v := .bool true) (by rfl) (by rfl) (by rfl) ?_
 simp only [Z7,Z0]
 refine Z9 (Z10 ?_)
 refine hK24 _ _ ?_
 refine wp_ret ?_
 repeat (first | with_reducible refine then_ret ?_ | with_reducible refine inblock_ret ?_)
 refine bodyPost_ret (v := .bool true) (res1 rfl (.tmp (by rfl))) rfl ?_
 have BE := M.below
 exact ⟨rfl, BE⟩
set_option maxRecDepth 100000 in
set_option maxHeartbeats 4000000 in
theorem pmay_no {p : P4} {n : Nat} {w : World} (hp : p.Ok) (hn : n < 2 ^ 256) (hr : rightP p = false) :
  Calls Try.prog 4 #[.agg (fel p.x ++ fel p.y ++ fel p.z ++ fel p.t : List Value).toArray, fe n] w fun e w' => e = .returned (.bool true) ∧ Below w.heap.size w w' := by
 go_enter Try.func4, Try.ntmps4
 have M := Mem.start w
 refine Z4 (fun K1 hK1 => ?_)
 refine Z8 ?_
 refine wpL_var (t := 26) (cs := fel p.x ++ fel p.y ++ fel p.z ++ fel p.t) (by rfl) (fun W => ?_) (fun g3 w4 Sw4 Hg3 Bg3 => ?_)
 ·
  (first | rfl | go_simp)
 replace M := ((M.sees Sw4).addS (N := 16) (cs := fel p.x ++ fel p.y ++ fel p.z ++ fel p.t) (segs := [(0, fel p.x), (4, fel p.y), (8, fel p.z), (12, fel p.t)]) (M.ge Hg3) (M.fresh Hg3) Bg3 (by simp [flen]) ⟨rfl, rfl, rfl, rfl, trivial⟩)
 clear Bg3
 simp only [Z7,Z0]
 refine wpL_var (t := 39) (cs := fel n) (by rfl) (fun W => ?_) (fun g5 w6 Sw6 Hg5 Bg5 => ?_)
 ·
  (first | rfl | go_simp)
 replace M := ((M.sees Sw6).add (N := 4) (cs := fel n) (M.ge Hg5) (M.fresh Hg5) Bg5 rfl)
 clear Bg5
 simp only [Z7,Z0]
 refine Z13 (v := .bool false) (by rfl) (by rfl) (by rfl) ?_
 simp only [Z7,Z0]
 refine Z9 (Z10 ?_)
 refine hK1 _ _ ?_
 refine Z4 (fun K7 hK7 => ?_)
 refine Z8 ?_
 refine Z11 2 (by rfl) (fun Lk hLk => ?_)
 simp only [Z1,Z2]
 refine Z20 (v := .agg (fel zeroP.x ++ fel zeroP.y ++ fel zeroP.z ++ fel zeroP.t : List Value).toArray) (args := #[]) (by rfl) rfl Try.func15 (by kernel_rfl) (by kernel_rfl) rfl (fun W hW => zero_c) ?_
 simp only [Z7,Z0]
 refine Z20 (v := .agg (fel baseP.x ++ fel baseP.y ++ fel baseP.z ++ fel baseP.t : List Value).toArray) (args := #[]) (by rfl) rfl Try.func16 (by kernel_rfl) (by kernel_rfl) rfl (fun W hW => Base_c) ?_
 simp only [Z7,Z0]
 refine Z14 (hLk _ (fun w9 Sw9 => ?_))
 clear hLk Lk
 simp only [Z1,Z2]
 replace M := M.sees Sw9
 refine wpL_var (t := 26) (cs := [.int .u64 0, .int .u64 0, .int .u64 0, .int .u64 0, .int .u64 0, .int .u64 0, .int .u64 0, .int .u64 0, .int .u64 0, .int .u64 0, .int .u64 0, .int .u64 0, .int .u64 0, .int .u64 0, .int .u64 0, .int .u64 0]) (by rfl) (fun W => ?_) (fun g10 w11 Sw11 Hg10 Bg10 => ?_)
 ·
  go_simp
 replace M := ((M.sees Sw11).addS (N := 16) (cs := [.int .u64 0, .int .u64 0, .int .u64 0, .int .u64 0, .int .u64 0, .int .u64 0, .int .u64 0, .int .u64 0, .int .u64 0, .int .u64 0, .int .u64 0, .int .u64 0, .int .u64 0, .int .u64 0, .int .u64 0, .int .u64 0]) (segs := [(0, [.int .u64 0, .int .u64 0, .int .u64 0, .int .u64 0]), (4, [.int .u64 0, .int .u64 0, .int .u64 0, .int .u64 0]), (8, [.int .u64 0, .int .u64 0, .int .u64 0, .int .u64 0]), (12, [.int .u64 0, .int .u64 0, .int .u64 0, .int .u64 0])]) (M.ge Hg10) (M.fresh Hg10) Bg10 rfl ⟨rfl, rfl, rfl, rfl, trivial⟩)
 clear Bg10
 simp only [Z7,Z0]
 refine wpL_var (t := 26) (cs := [.int .u64 0, .int .u64 0, .int .u64 0, .int .u64 0, .int .u64 0, .int .u64 0, .int .u64 0, .int .u64 0, .int .u64 0, .int .u64 0, .int .u64 0, .int .u64 0, .int .u64 0, .int .u64 0, .int .u64 0, .int .u64 0]) (by rfl) (fun W => ?_) (fun g12 w13 Sw13 Hg12 Bg12 => ?_)
 ·
  go_simp
 replace M := ((M.sees Sw13).addS (N := 16) (cs := [.int .u64 0, .int .u64 0, .int .u64 0, .int .u64 0, .int .u64 0, .int .u64 0, .int .u64 0, .int .u64 0, .int .u64 0, .int .u64 0, .int .u64 0, .int .u64 0, .int .u64 0, .int .u64 0, .int .u64 0, .int .u64 0]) (segs := [(0, [.int .u64 0, .int .u64 0, .int .u64 0, .int .u64 0]), (4, [.int .u64 0, .int .u64 0, .int .u64 0, .int .u64 0]), (8, [.int .u64 0, .int .u64 0, .int .u64 0, .int .u64 0]), (12, [.int .u64 0, .int .u64 0, .int .u64 0, .int .u64 0])]) (M.ge Hg12) (M.fresh Hg12) Bg12 rfl ⟨rfl, rfl, rfl, rfl, trivial⟩)
 clear Bg12
 simp only [Z7,Z0]
 refine wpL_store (g := g10) (off := 0) (n := 16) (cs := fel zeroP.x ++ fel zeroP.y ++ fel zeroP.z ++ fel zeroP.t) (by rfl) (by rfl) (by rfl) (by rfl) (by rfl) (M.t 1 rfl) (by simp [flen]) info26 (one4 _ _ _ _) (fun w14 P R T => ?_)
 replace M := M.put (segs' := [(0, fel zeroP.x), (4, fel zeroP.y), (8, fel zeroP.z), (12, fel zeroP.t)]) 1 rfl P T (SegsOf.at R ⟨rfl, rfl, rfl, rfl, trivial⟩)
 simp only [Z0] at M
 refine wpL_store (g := g12) (off := 0) (n := 16) (cs := fel baseP.x ++ fel baseP.y ++ fel baseP.z ++ fel baseP.t) (by rfl) (by rfl) (by rfl) (by rfl) (by rfl) (M.t 0 rfl) (by simp [flen]) info26 (one4 _ _ _ _) (fun w15 P R T => ?_)
 replace M := M.put (segs' := [(0, fel baseP.x), (4, fel baseP.y), (8, fel baseP.z), (12, fel baseP.t)]) 0 rfl P T (SegsOf.at R ⟨rfl, rfl, rfl, rfl, trivial⟩)
 simp only [Z0] at M
 refine Z9 (Z10 ?_)
 refine hK7 _ _ ?_
 refine Z4 (fun K16 hK16 => ?_)
 refine Z4 (fun K17 hK17 => ?_)
 refine wp_region_grow 32 [] (by kernel_rfl) (by kernel_rfl) (by kernel_rfl) (fun Lk hLk => ?_)
 simp only [Z1,Z2]
 refine wpV_load (cs := fel p.x ++ (fel p.y) ++ (fel p.z) ++ (fel p.t)) (by rfl) rfl rfl (range_join (range_join (range_join (M.r 3 0 rfl rfl) (M.r 3 1 rfl rfl) (by simp [flen])) (M.r 3 2 rfl rfl) (by simp [flen])) (M.r 3 3 rfl rfl) (by simp [flen])) (M.lt 3 rfl) Try.underlying26 rfl info26 ?_
 simp only [Z7,Z0]
 refine Z20 (v := .bool false) (args := #[.agg (fel p.x ++ (fel p.y) ++ (fel p.z) ++ (fel p.t) : List Value).toArray]) (by rfl) rfl Try.func17 (by kernel_rfl) (by kernel_rfl) rfl (fun W hW => (by have h9 := right_c (p := p) (w := W) hp; rw [hr] at h9; exact h9)) ?_
 simp only [Z7,Z0]
 refine wpV_load (cs := fel p.x ++ (fel p.y) ++ (fel p.z) ++ (fel p.t)) (by rfl) rfl rfl (range_join (range_join (range_join (M.r 3 0 rfl rfl) (M.r 3 1 rfl rfl) (by simp [flen])) (M.r 3 2 rfl rfl) (by simp [flen])) (M.r 3 3 rfl rfl) (by simp [flen])) (M.lt 3 rfl) Try.underlying26 rfl info26 ?_
 simp only [Z7,Z0]
 refine Z20 (v := .bool false) (args := #[.agg (fel p.x ++ (fel p.y) ++ (fel p.z) ++ (fel p.t) : List Value).toArray]) (by rfl) rfl Try.func14 (by kernel_rfl) (by kernel_rfl) rfl (fun W hW => (by have h9 := rRight_c (p := p) (w := W) hp; rw [right_rRight, hr] at h9; exact h9)) ?_
 simp only [Z7,Z0]
 refine Z19 (v := .bool false) (by rfl) (by rfl) (fun W hW => ?_) ?_
 ·
  (go_simp; exact rfl)
 simp only [Z7,Z0]
 refine Z16 (v := .bool false) (by rfl) rfl rfl ?_
 simp only [Z7,Z0]
 refine wpV_load (cs := fel zeroP.x ++ (fel zeroP.y) ++ (fel zeroP.z) ++ (fel zeroP.t)) (by rfl) rfl rfl (range_join (range_join (range_join (M.r 1 0 rfl rfl) (M.r 1 1 rfl rfl) (by simp [flen])) (M.r 1 2 rfl rfl) (by simp [flen])) (M.r 1 3 rfl rfl) (by simp [flen])) (M.lt 1 rfl) Try.underlying26 rfl info26 ?_
 simp only [Z7,Z0]
 refine Z20 (v := .bool true) (args := #[.agg (fel zeroP.x ++ (fel zeroP.y) ++ (fel zeroP.z) ++ (fel zeroP.t) : List Value).toArray]) (by rfl) rfl Try.func14 (by kernel_rfl) (by kernel_rfl) rfl (fun W hW => (by have h9 := rRight_c (p := zeroP) (w := W) zeroP_ok; rw [right_rRight, right_zero] at h9; exact h9)) ?_
 simp only [Z7,Z0]
 refine wpV_not (b := true) (by rfl) rfl rfl ?_
 simp only [Bool.not_true, Bool.not_false]
 simp only [Z7,Z0]
 refine wpV_pick (v := .bool false) (by rfl) rfl rfl rfl ?_
 simp only [Z7,Z0]
 refine Z16 (v := .bool false) (by rfl) rfl rfl ?_
 simp only [Z7,Z0]
 refine wpV_load (cs := fel baseP.x ++ (fel baseP.y) ++ (fel baseP.z) ++ (fel baseP.t)) (by rfl) rfl rfl (range_join (range_join (range_join (M.r 0 0 rfl rfl) (M.r 0 1 rfl rfl) (by simp [flen])) (M.r 0 2 rfl rfl) (by simp [flen])) (M.r 0 3 rfl rfl) (by simp [flen])) (M.lt 0 rfl) Try.underlying26 rfl info26 ?_
 simp only [Z7,Z0]
 refine Z20 (v := .bool true) (args := #[.agg (fel baseP.x ++ (fel baseP.y) ++ (fel baseP.z) ++ (fel baseP.t) : List Value).toArray]) (by rfl) rfl Try.func14 (by kernel_rfl) (by kernel_rfl) rfl (fun W hW => (by have h9 := rRight_c (p := baseP) (w := W) baseP_ok; rw [right_rRight, rightP_base] at h9; exact h9)) ?_
 simp only [Z7,Z0]
 refine wpV_not (b := true) (by rfl) rfl rfl ?_
 simp only [Bool.not_true, Bool.not_false]
 simp only [Z7,Z0]
 refine wpV_pick (v := .bool false) (by rfl) rfl rfl rfl ?_
 simp only [Z7,Z0]
 refine Z16 (v := .bool false) (by rfl) rfl rfl ?_
 simp only [Z7,Z0]
 refine wpV_load (cs := fel zeroP.x ++ (fel zeroP.y) ++ (fel zeroP.z) ++ (fel zeroP.t)) (by rfl) rfl rfl (range_join (range_join (range_join (M.r 1 0 rfl rfl) (M.r 1 1 rfl rfl) (by simp [flen])) (M.r 1 2 rfl rfl) (by simp [flen])) (M.r 1 3 rfl rfl) (by simp [flen])) (M.lt 1 rfl) Try.underlying26 rfl info26 ?_
 simp only [Z7,Z0]
 refine Z20 (v := .agg (fel 0 ++ fel 1 : List Value).toArray) (args := #[.agg (fel zeroP.x ++ (fel zeroP.y) ++ (fel zeroP.z) ++ (fel zeroP.t) : List Value).toArray]) (by rfl) rfl Try.func18 (by kernel_rfl) (by kernel_rfl) rfl (fun W hW => (by have h9 := rAffine_c (p := zeroP) (w := W) zeroP_ok; rw [zero_x, zero_y] at h9; exact h9)) ?_
 simp only [Z7,Z0]
 refine Z19 (v := fe 1) (by rfl) (by rfl) (fun W hW => ?_) ?_
 ·
  rw [show fe 1 = .agg ([.int .u64 1, .int .u64 0, .int .u64 0, .int .u64 0]).toArray from (by kernel_rfl)]; unfold RunsVal; kernel_rfl
 simp only [Z7,Z0]
 refine Z19 (v := .agg (fel 0 ++ fel 1 : List Value).toArray) (by rfl) (by rfl) (fun W hW => ?_) ?_
 ·
  unfold RunsVal; kernel_rfl
 simp only [Z7,Z0]
 refine wpV_neqT (k := 3) (u := fel 0 ++ fel 1) (v := fel 0 ++ fel 1) (b := true) (by rfl) rfl rfl rfl (by kernel_rfl) ((eq_struct (k := 2) (xs := fel 0 ++ fel 1) (ys := fel 0 ++ fel 1) (fs := [(false, 24, 0), (false, 24, 4)]) (bs := [true, true]) Try.underlying32 (by kernel_rfl) (by rfl) ⟨rfl, ⟨.agg (fel 0).toArray, .agg (fel 0).toArray, (fun W => run_part_row Try.underlying24 rfl info24 rfl W), (fun W => run_part_row Try.underlying24 rfl info24 rfl W), ((eq_fe Try.underlying24 Try.underlying22 info22 (by decide) (by decide)).bool (decide_eq_true rfl))⟩, rfl, ⟨.agg (fel 1).toArray, .agg (fel 1).toArray, (fun W => run_part_row Try.underlying24 rfl info24 rfl W), (fun W => run_part_row Try.underlying24 rfl info24 rfl W), ((eq_fe Try.underlying24 Try.underlying22 info22 (by decide) (by decide)).bool (decide_eq_true rfl))⟩, trivial⟩).bool (by simp only [List.all_cons, List.all_nil, id, Bool.and_true, Bool.true_and])) (by decide) ?_
 simp only [Bool.not_true, Bool.not_false]
 simp only [Z7,Z0]
 refine wpV_pick (v := .bool false) (by rfl) rfl rfl rfl ?_
 simp only [Z7,Z0]
 refine Z16 (v := .bool false) (by rfl) rfl rfl ?_
 simp only [Z7,Z0]
 refine wpV_load (cs := fel baseP.x ++ (fel baseP.y) ++ (fel baseP.z) ++ (fel baseP.t)) (by rfl) rfl rfl (range_join (range_join (range_join (M.r 0 0 rfl rfl) (M.r 0 1 rfl rfl) (by simp [flen])) (M.r 0 2 rfl rfl) (by simp [flen])) (M.r 0 3 rfl rfl) (by simp [flen])) (M.lt 0 rfl) Try.underlying26 rfl info26 ?_
 simp only [Z7,Z0]
 refine Z20 (v := .agg (fel baseX ++ fel baseY : List Value).toArray) (args := #[.agg (fel baseP.x ++ (fel baseP.y) ++ (fel baseP.z) ++ (fel baseP.t) : List Value).toArray]) (by rfl) rfl Try.func18 (by kernel_rfl) (by kernel_rfl) rfl (fun W hW => (by have h9 := rAffine_c (p := baseP) (w := W) baseP_ok; rw [affX_base, affY_base] at h9; exact h9)) ?_
 simp only [Z7,Z0]
 refine Z20 (v := .agg (fel baseX ++ fel baseY : List Value).toArray) (args := #[]) (by rfl) rfl Try.func19 (by kernel_rfl) (by kernel_rfl) rfl (fun W hW => rBase_c) ?_
 simp only [Z7,Z0]
 refine wpV_neqT (k := 3) (u := fel baseX ++ fel baseY) (v := fel baseX ++ fel baseY) (b := true) (by rfl) rfl rfl rfl (by kernel_rfl) ((eq_struct (k := 2) (xs := fel baseX ++ fel baseY) (ys := fel baseX ++ fel baseY) (fs := [(false, 24, 0), (false, 24, 4)]) (bs := [true, true]) Try.underlying32 (by kernel_rfl) (by rfl) ⟨rfl, ⟨.agg (fel baseX).toArray, .agg (fel baseX).toArray, (fun W => run_part_row Try.underlying24 rfl info24 rfl W), (fun W => run_part_row Try.underlying24 rfl info24 rfl W), ((eq_fe Try.underlying24 Try.underlying22 info22 (show _ < 2 ^ 256 by decide) (show _ < 2 ^ 256 by decide)).bool (decide_eq_true rfl))⟩, rfl, ⟨.agg (fel baseY).toArray, .agg (fel baseY).toArray, (fun W => run_part_row Try.underlying24 rfl info24 rfl W), (fun W => run_part_row Try.underlying24 rfl info24 rfl W), ((eq_fe Try.underlying24 Try.underlying22 info22 (show _ < 2 ^ 256 by decide) (show _ < 2 ^ 256 by decide)).bool (decide_eq_true rfl))⟩, trivial⟩).bool (by simp only [List.all_cons, List.all_nil, id, Bool.and_true, Bool.true_and])) (by decide) ?_
 simp only [Bool.not_true, Bool.not_false]
 simp only [Z7,Z0]
 refine wpV_pick (v := .bool false) (by rfl) rfl rfl rfl ?_
 simp only [Z7,Z0]
 refine Z16 (v := .bool false) (by rfl) rfl rfl ?_
 simp only [Z7,Z0]
 refine Z20 (v := .bool true) (args := #[]) (by rfl) rfl Try.func11 (by kernel_rfl) (by kernel_rfl) rfl (fun W hW => alive06_c) ?_
 simp only [Z7,Z0]
 refine wpV_not (b := true) (by rfl) rfl rfl ?_
 simp only [Bool.not_true, Bool.not_false]
 simp only [Z7,Z0]
 refine wpV_pick (v := .bool false) (by rfl) rfl rfl rfl ?_
 simp only [Z7,Z0]
 refine Z14 (hLk.out _ ?_)
 clear hLk Lk
 simp only [Z1,Z2]
 iterate 32 refine wpN_skip (by rfl) ?_
 refine wpN_nil (fun w19 Sw19 hbs => ?_)
 clear hbs
 replace M := M.sees Sw19
 refine Z9 (Z10 ?_)
 refine hK17 _ _ ?_
 refine Z6 rfl ?_
 refine wp_skip ?_
 refine hK16 _ _ ?_
 refine Z4 (fun K20 hK20 => ?_)
 refine Z4 (fun K21 hK21 => ?_)
 refine Z8 ?_
 refine Z11 2 (by rfl) (fun Lk hLk => ?_)
 simp only [Z1,Z2]
 refine wpV_load (cs := fel p.x ++ (fel p.y) ++ (fel p.z) ++ (fel p.t)) (by rfl) rfl rfl (range_join (range_join (range_join (M.r 3 0 rfl rfl) (M.r 3 1 rfl rfl) (by simp [flen])) (M.r 3 2 rfl rfl) (by simp [flen])) (M.r 3 3 rfl rfl) (by simp [flen])) (M.lt 3 rfl) Try.underlying26 rfl info26 ?_
 simp only [Z7,Z0]
 refine Z20 (v := .bool false) (args := #[.agg (fel p.x ++ (fel p.y) ++ (fel p.z) ++ (fel p.t) : List Value).toArray]) (by rfl) rfl Try.func14 (by kernel_rfl) (by kernel_rfl) rfl (fun W hW => (by have h9 := rRight_c (p := p) (w := W) hp; rw [right_rRight, hr] at h9; exact h9)) ?_
 simp only [Z7,Z0]
 refine Z14 (hLk _ (fun w23 Sw23 => ?_))
 clear hLk Lk
 simp only [Z1,Z2]
 replace M := M.sees Sw23
 refine Z9 (Z10 ?_)
 refine hK21 _ _ ?_
 refine Z6 rfl ?_
 refine wp_skip ?_
 refine hK20 _ _ ?_
 refine Z4 (fun K24 hK24 => ?_)
 refine Z8 ?_
 refine Z11 6 (by rfl) (fun Lk hLk => ?_)
 simp only [Z1,Z2]
 refine wpV_load (cs := fel p.x ++ (fel p.y) ++ (fel p.z) ++ (fel p.t)) (by rfl) rfl rfl (range_join (range_join (range_join (M.r 3 0 rfl rfl) (M.r 3 1 rfl rfl) (by simp [flen])) (M.r 3 2 rfl rfl) (by simp [flen])) (M.r 3 3 rfl rfl) (by simp [flen])) (M.lt 3 rfl) Try.underlying26 rfl info26 ?_
 simp only [Z7,Z0]
 refine wpV_load (cs := fel baseP.x ++ (fel baseP.y) ++ (fel baseP.z) ++ (fel baseP.t)) (by rfl) rfl rfl (range_join (range_join (range_join (M.r 0 0 rfl rfl) (M.r 0 1 rfl rfl) (by simp [flen])) (M.r 0 2 rfl rfl) (by simp [flen])) (M.r 0 3 rfl rfl) (by simp [flen])) (M.lt 0 rfl) Try.underlying26 rfl info26 ?_
 simp only [Z7,Z0]
 refine Z20 (v := .tuple #[.agg ([.int .u64 0, .int .u64 0, .int .u64 0, .int .u64 0, .int .u64 0, .int .u64 0, .int .u64 0, .int .u64 0, .int .u64 0, .int .u64 0, .int .u64 0, .int .u64 0, .int .u64 0, .int .u64 0, .int .u64 0, .int .u64 0]).toArray, .int .i64 1]) (args := #[.agg (fel p.x ++ (fel p.y) ++ (fel p.z) ++ (fel p.t) : List Value).toArray, .agg (fel baseP.x ++ (fel baseP.y) ++ (fel baseP.z) ++ (fel baseP.t) : List Value).toArray]) (by rfl) rfl Try.func21 (by kernel_rfl) (by kernel_rfl) rfl (fun W hW => (by have h9 := Add_no1 (w := W) hp baseP_ok hr; rw [noneP_cells] at h9; exact h9)) ?_
 simp only [Z7,Z0]
 refine Z16 (v := .tuple #[.agg ([.int .u64 0, .int .u64 0, .int .u64 0, .int .u64 0, .int .u64 0, .int .u64 0, .int .u64 0, .int .u64 0, .int .u64 0, .int .u64 0, .int .u64 0, .int .u64 0, .int .u64 0, .int .u64 0, .int .u64 0, .int .u64 0]).toArray, .int .i64 1]) (by rfl) rfl rfl ?_
 simp only [Z7,Z0]
 refine wpV_extract (v := .agg ([.int .u64 0, .int .u64 0, .int .u64 0, .int .u64 0, .int .u64 0, .int .u64 0, .int .u64 0, .int .u64 0, .int .u64 0, .int .u64 0, .int .u64 0, .int .u64 0, .int .u64 0, .int .u64 0, .int .u64 0, .int .u64 0]).toArray) (by rfl) rfl rfl rfl ?_
 simp only [Z7,Z0]
 refine wpV_extract (v := .int .i64 1) (by rfl) rfl rfl rfl ?_
 simp only [Z7,Z0]
 refine Z14 (hLk _ (fun w26 Sw26 => ?_))
 clear hLk Lk
 simp only [Z1,Z2]
 replace M := M.sees Sw26
 refine wpL_var (t := 26) (cs := [.int .u64 0, .int .u64 0, .int .u64 0, .int .u64 0, .int .u64 0, .int .u64 0, .int .u64 0, .int .u64 0, .int .u64 0, .int .u64 0, .int .u64 0, .int .u64 0, .int .u64 0, .int .u64 0, .int .u64 0, .int .u64 0]) (by rfl) (fun W => ?_) (fun g27 w28 Sw28 Hg27 Bg27 => ?_)
 ·
  go_simp
 replace M := ((M.sees Sw28).addS (N := 16) (cs := [.int .u64 0, .int .u64 0, .int .u64 0, .int .u64 0, .int .u64 0, .int .u64 0, .int .u64 0, .int .u64 0, .int .u64 0, .int .u64 0, .int .u64 0, .int .u64 0, .int .u64 0, .int .u64 0, .int .u64 0, .int .u64 0]) (segs := [(0, [.int .u64 0, .int .u64 0, .int .u64 0, .int .u64 0]), (4, [.int .u64 0, .int .u64 0, .int .u64 0, .int .u64 0]), (8, [.int .u64 0, .int .u64 0, .int .u64 0, .int .u64 0]), (12, [.int .u64 0, .int .u64 0, .int .u64 0, .int .u64 0])]) (M.ge Hg27) (M.fresh Hg27) Bg27 rfl ⟨rfl, rfl, rfl, rfl, trivial⟩)
 clear Bg27
 simp only [Z7,Z0]
 refine wpL_store (g := g27) (off := 0) (n := 16) (cs := [.int .u64 0, .int .u64 0, .int .u64 0, .int .u64 0, .int .u64 0, .int .u64 0, .int .u64 0, .int .u64 0, .int .u64 0, .int .u64 0, .int .u64 0, .int .u64 0, .int .u64 0, .int .u64 0, .int .u64 0, .int .u64 0]) (by rfl) (by rfl) (by rfl) (by rfl) (by rfl) (M.t 0 rfl) (by simp [flen]) info26 (by simp [fone, Value.oneCell']) (fun w29 P R T => ?_)
 replace M := M.put (segs' := [(0, [.int .u64 0, .int .u64 0, .int .u64 0, .int .u64 0]), (4, [.int .u64 0, .int .u64 0, .int .u64 0, .int .u64 0]), (8, [.int .u64 0, .int .u64 0, .int .u64 0, .int .u64 0]), (12, [.int .u64 0, .int .u64 0, .int .u64 0, .int .u64 0])]) 0 rfl P T (SegsOf.at R ⟨rfl, rfl, rfl, rfl, trivial⟩)
 simp only [Z0] at M
 refine Z13 (v := .int .i64 1) (by rfl) (by rfl) (by rfl) ?_
 simp only [Z7,Z0]
 refine Z9 (Z10 ?_)
 refine hK24 _ _ ?_
 refine Z4 (fun K30 hK30 => ?_)
 refine Z8 ?_
 refine Z11 6 (by rfl) (fun Lk hLk => ?_)
 simp only [Z1,Z2]
 refine wpV_load (cs := fel baseP.x ++ (fel baseP.y) ++ (fel baseP.z) ++ (fel baseP.t)) (by rfl) rfl rfl (range_join (range_join (range_join (M.r 1 0 rfl rfl) (M.r 1 1 rfl rfl) (by simp [flen])) (M.r 1 2 rfl rfl) (by simp [flen])) (M.r 1 3 rfl rfl) (by simp [flen])) (M.lt 1 rfl) Try.underlying26 rfl info26 ?_
 simp only [Z7,Z0]
 refine wpV_load (cs := fel p.x ++ (fel p.y) ++ (fel p.z) ++ (fel p.t)) (by rfl) rfl rfl (range_join (range_join (range_join (M.r 4 0 rfl rfl) (M.r 4 1 rfl rfl) (by simp [flen])) (M.r 4 2 rfl rfl) (by simp [flen])) (M.r 4 3 rfl rfl) (by simp [flen])) (M.lt 4 rfl) Try.underlying26 rfl info26 ?_
 simp only [Z7,Z0]
 refine Z20 (v := .tuple #[.agg ([.int .u64 0, .int .u64 0, .int .u64 0, .int .u64 0, .int .u64 0, .int .u64 0, .int .u64 0, .int .u64 0, .int .u64 0, .int .u64 0, .int .u64 0, .int .u64 0, .int .u64 0, .int .u64 0, .int .u64 0, .int .u64 0]).toArray, .int .i64 1]) (args := #[.agg (fel baseP.x ++ (fel baseP.y) ++ (fel baseP.z) ++ (fel baseP.t) : List Value).toArray, .agg (fel p.x ++ (fel p.y) ++ (fel p.z) ++ (fel p.t) : List Value).toArray]) (by rfl) rfl Try.func21 (by kernel_rfl) (by kernel_rfl) rfl (fun W hW => (by have h9 := Add_no2 (w := W) baseP_ok hp rightP_base hr; rw [noneP_cells] at h9; exact h9)) ?_
 simp only [Z7,Z0]
 refine Z16 (v := .tuple #[.agg ([.int .u64 0, .int .u64 0, .int .u64 0, .int .u64 0, .int .u64 0, .int .u64 0, .int .u64 0, .int .u64 0, .int .u64 0, .int .u64 0, .int .u64 0, .int .u64 0, .int .u64 0, .int .u64 0, .int .u64 0, .int .u64 0]).toArray, .int .i64 1]) (by rfl) rfl rfl ?_
 simp only [Z7,Z0]
 refine wpV_extract (v := .agg ([.int .u64 0, .int .u64 0, .int .u64 0, .int .u64 0, .int .u64 0, .int .u64 0, .int .u64 0, .int .u64 0, .int .u64 0, .int .u64 0, .int .u64 0, .int .u64 0, .int .u64 0, .int .u64 0, .int .u64 0, .int .u64 0]).toArray) (by rfl) rfl rfl rfl ?_
 simp only [Z7,Z0]
 refine wpV_extract (v := .int .i64 1) (by rfl) rfl rfl rfl ?_
 simp only [Z7,Z0]
 refine Z14 (hLk _ (fun w32 Sw32 => ?_))
 clear hLk Lk
 simp only [Z1,Z2]
 replace M := M.sees Sw32
 refine wpL_var (t := 26) (cs := [.int .u64 0, .int .u64 0, .int .u64 0, .int .u64 0, .int .u64 0, .int .u64 0, .int .u64 0, .int .u64 0, .int .u64 0, .int .u64 0, .int .u64 0, .int .u64 0, .int .u64 0, .int .u64 0, .int .u64 0, .int .u64 0]) (by rfl) (fun W => ?_) (fun g33 w34 Sw34 Hg33 Bg33 => ?_)
 ·
  go_simp
 replace M := ((M.sees Sw34).addS (N := 16) (cs := [.int .u64 0, .int .u64 0, .int .u64 0, .int .u64 0, .int .u64 0, .int .u64 0, .int .u64 0, .int .u64 0, .int .u64 0, .int .u64 0, .int .u64 0, .int .u64 0, .int .u64 0, .int .u64 0, .int .u64 0, .int .u64 0]) (segs := [(0, [.int .u64 0, .int .u64 0, .int .u64 0, .int .u64 0]), (4, [.int .u64 0, .int .u64 0, .int .u64 0, .int .u64 0]), (8, [.int .u64 0, .int .u64 0, .int .u64 0, .int .u64 0]), (12, [.int .u64 0, .int .u64 0, .int .u64 0, .int .u64 0])]) (M.ge Hg33) (M.fresh Hg33) Bg33 rfl ⟨rfl, rfl, rfl, rfl, trivial⟩)
 clear Bg33
 simp only [Z7,Z0]
 refine wpL_store (g := g33) (off := 0) (n := 16) (cs := [.int .u64 0, .int .u64 0, .int .u64 0, .int .u64 0, .int .u64 0, .int .u64 0, .int .u64 0, .int .u64 0, .int .u64 0, .int .u64 0, .int .u64 0, .int .u64 0, .int .u64 0, .int .u64 0, .int .u64 0, .int .u64 0]) (by rfl) (by rfl) (by rfl) (by rfl) (by rfl) (M.t 0 rfl) (by simp [flen]) info26 (by simp [fone, Value.oneCell']) (fun w35 P R T => ?_)
 replace M := M.put (segs' := [(0, [.int .u64 0, .int .u64 0, .int .u64 0, .int .u64 0]), (4, [.int .u64 0, .int .u64 0, .int .u64 0, .int .u64 0]), (8, [.int .u64 0, .int .u64 0, .int .u64 0, .int .u64 0]), (12, [.int .u64 0, .int .u64 0, .int .u64 0, .int .u64 0])]) 0 rfl P T (SegsOf.at R ⟨rfl, rfl, rfl, rfl, trivial⟩)
 simp only [Z0] at M
 refine Z13 (v := .int .i64 1) (by rfl) (by rfl) (by rfl) ?_
 simp only [Z7,Z0]
 refine Z9 (Z10 ?_)
 refine hK30 _ _ ?_
 refine Z4 (fun K36 hK36 => ?_)
 refine Z8 ?_
 refine Z11 5 (by rfl) (fun Lk hLk => ?_)
 simp only [Z1,Z2]
 refine wpV_load (cs := fel p.x ++ (fel p.y) ++ (fel p.z) ++ (fel p.t)) (by rfl) rfl rfl (range_join (range_join (range_join (M.r 5 0 rfl rfl) (M.r 5 1 rfl rfl) (by simp [flen])) (M.r 5 2 rfl rfl) (by simp [flen])) (M.r 5 3 rfl rfl) (by simp [flen])) (M.lt 5 rfl) Try.underlying26 rfl info26 ?_
 simp only [Z7,Z0]
 refine Z20 (v := .tuple #[.agg ([.int .u64 0, .int .u64 0, .int .u64 0, .int .u64 0, .int .u64 0, .int .u64 0, .int .u64 0, .int .u64 0, .int .u64 0, .int .u64 0, .int .u64 0, .int .u64 0, .int .u64 0, .int .u64 0, .int .u64 0, .int .u64 0]).toArray, .int .i64 1]) (args := #[.agg (fel p.x ++ (fel p.y) ++ (fel p.z) ++ (fel p.t) : List Value).toArray]) (by rfl) rfl Try.func22 (by kernel_rfl) (by kernel_rfl) rfl (fun W hW => (by have h9 := Neg_no (w := W) hp hr; rw [noneP_cells] at h9; exact h9)) ?_
 simp only [Z7,Z0]
 refine Z16 (v := .tuple #[.agg ([.int .u64 0, .int .u64 0, .int .u64 0, .int .u64 0, .int .u64 0, .int .u64 0, .int .u64 0, .int .u64 0, .int .u64 0, .int .u64 0, .int .u64 0, .int .u64 0, .int .u64 0, .int .u64 0, .int .u64 0, .int .u64 0]).toArray, .int .i64 1]) (by rfl) rfl rfl ?_
 simp only [Z7,Z0]
 refine wpV_extract (v := .agg ([.int .u64 0, .int .u64 0, .int .u64 0, .int .u64 0, .int .u64 0, .int .u64 0, .int .u64 0, .int .u64 0, .int .u64 0, .int .u64 0, .int .u64 0, .int .u64 0, .int .u64 0, .int .u64 0, .int .u64 0, .int .u64 0]).toArray) (by rfl) rfl rfl rfl ?_
 simp only [Z7,Z0]
 refine wpV_extract (v := .int .i64 1) (by rfl) rfl rfl rfl ?_
 simp only [Z7,Z0]
 refine Z14 (hLk _ (fun w38 Sw38 => ?_))
 clear hLk Lk
 simp only [Z1,Z2]
 replace M := M.sees Sw38
 refine wpL_var (t := 26) (cs := [.int .u64 0, .int .u64 0, .int .u64 0, .int .u64 0, .int .u64 0, .int .u64 0, .int .u64 0, .int .u64 0, .int .u64 0, .int .u64 0, .int .u64 0, .int .u64 0, .int .u64 0, .int .u64 0, .int .u64 0, .int .u64 0]) (by rfl) (fun W => ?_) (fun g39 w40 Sw40 Hg39 Bg39 => ?_)
 ·
  go_simp
 replace M := ((M.sees Sw40).addS (N := 16) (cs := [.int .u64 0, .int .u64 0, .int .u64 0, .int .u64 0, .int .u64 0, .int .u64 0, .int .u64 0, .int .u64 0, .int .u64 0, .int .u64 0, .int .u64 0, .int .u64 0, .int .u64 0, .int .u64 0, .int .u64 0, .int .u64 0]) (segs := [(0, [.int .u64 0, .int .u64 0, .int .u64 0, .int .u64 0]), (4, [.int .u64 0, .int .u64 0, .int .u64 0, .int .u64 0]), (8, [.int .u64 0, .int .u64 0, .int .u64 0, .int .u64 0]), (12, [.int .u64 0, .int .u64 0, .int .u64 0, .int .u64 0])]) (M.ge Hg39) (M.fresh Hg39) Bg39 rfl ⟨rfl, rfl, rfl, rfl, trivial⟩)
 clear Bg39
 simp only [Z7,Z0]
 refine wpL_store (g := g39) (off := 0) (n := 16) (cs := [.int .u64 0, .int .u64 0, .int .u64 0, .int .u64 0, .int .u64 0, .int .u64 0, .int .u64 0, .int .u64 0, .int .u64 0, .int .u64 0, .int .u64 0, .int .u64 0, .int .u64 0, .int .u64 0, .int .u64 0, .int .u64 0]) (by rfl) (by rfl) (by rfl) (by rfl) (by rfl) (M.t 0 rfl) (by simp [flen]) info26 (by simp [fone, Value.oneCell']) (fun w41 P R T => ?_)
 replace M := M.put (segs' := [(0, [.int .u64 0, .int .u64 0, .int .u64 0, .int .u64 0]), (4, [.int .u64 0, .int .u64 0, .int .u64 0, .int .u64 0]), (8, [.int .u64 0, .int .u64 0, .int .u64 0, .int .u64 0]), (12, [.int .u64 0, .int .u64 0, .int .u64 0, .int .u64 0])]) 0 rfl P T (SegsOf.at R ⟨rfl, rfl, rfl, rfl, trivial⟩)
 simp only [Z0] at M
 refine Z13 (v := .int .i64 1) (by rfl) (by rfl) (by rfl) ?_
 simp only [Z7,Z0]
 refine Z9 (Z10 ?_)
 refine hK36 _ _ ?_
 refine Z4 (fun K42 hK42 => ?_)
 refine Z8 ?_
 refine Z11 6 (by rfl) (fun Lk hLk => ?_)
 simp only [Z1,Z2]
 refine wpV_load (cs := fel n) (by rfl) rfl rfl (M.r 5 0 rfl rfl) (M.lt 5 rfl) Try.underlying39 rfl info39 ?_
 simp only [Z7,Z0]
 refine wpV_load (cs := fel p.x ++ (fel p.y) ++ (fel p.z) ++ (fel p.t)) (by rfl) rfl rfl (range_join (range_join (range_join (M.r 6 0 rfl rfl) (M.r 6 1 rfl rfl) (by simp [flen])) (M.r 6 2 rfl rfl) (by simp [flen])) (M.r 6 3 rfl rfl) (by simp [flen])) (M.lt 6 rfl) Try.underlying26 rfl info26 ?_
 simp only [Z7,Z0]
 refine Z20 (v := .tuple #[.agg ([.int .u64 0, .int .u64 0, .int .u64 0, .int .u64 0, .int .u64 0, .int .u64 0, .int .u64 0, .int .u64 0, .int .u64 0, .int .u64 0, .int .u64 0, .int .u64 0, .int .u64 0, .int .u64 0, .int .u64 0, .int .u64 0]).toArray, .int .i64 1]) (args := #[fe n, .agg (fel p.x ++ (fel p.y) ++ (fel p.z) ++ (fel p.t) : List Value).toArray]) (by rfl) rfl Try.func23 (by kernel_rfl) (by kernel_rfl) rfl (fun W hW => (by have h9 := Mul_no (w := W) hn hp hr; rw [noneP_cells] at h9; exact h9)) ?_
 simp only [Z7,Z0]
 refine Z16 (v := .tuple #[.agg ([.int .u64 0, .int .u64 0, .int .u64 0, .int .u64 0, .int .u64 0, .int .u64 0, .int .u64 0, .int .u64 0, .int .u64 0, .int .u64 0, .int .u64 0, .int .u64 0, .int .u64 0, .int .u64 0, .int .u64 0, .int .u64 0]).toArray, .int .i64 1]) (by rfl) rfl rfl ?_
 simp only [Z7,Z0]
 refine wpV_extract (v := .agg ([.int .u64 0, .int .u64 0, .int .u64 0, .int .u64 0, .int .u64 0, .int .u64 0, .int .u64 0, .int .u64 0, .int .u64 0, .int .u64 0, .int .u64 0, .int .u64 0, .int .u64 0, .int .u64 0, .int .u64 0, .int .u64 0]).toArray) (by rfl) rfl rfl rfl ?_
 simp only [Z7,Z0]
 refine wpV_extract (v := .int .i64 1) (by rfl) rfl rfl rfl ?_
 simp only [Z7,Z0]
 refine Z14 (hLk _ (fun w44 Sw44 => ?_))
 clear hLk Lk
 simp only [Z1,Z2]
 replace M := M.sees Sw44
 refine wpL_var (t := 26) (cs := [.int .u64 0, .int .u64 0, .int .u64 0, .int .u64 0, .int .u64 0, .int .u64 0, .int .u64 0, .int .u64 0, .int .u64 0, .int .u64 0, .int .u64 0, .int .u64 0, .int .u64 0, .int .u64 0, .int .u64 0, .int .u64 0]) (by rfl) (fun W => ?_) (fun g45 w46 Sw46 Hg45 Bg45 => ?_)
 ·
  go_simp
 replace M := ((M.sees Sw46).addS (N := 16) (cs := [.int .u64 0, .int .u64 0, .int .u64 0, .int .u64 0, .int .u64 0, .int .u64 0, .int .u64 0, .int .u64 0, .int .u64 0, .int .u64 0, .int .u64 0, .int .u64 0, .int .u64 0, .int .u64 0, .int .u64 0, .int .u64 0]) (segs := [(0, [.int .u64 0, .int .u64 0, .int .u64 0, .int .u64 0]), (4, [.int .u64 0, .int .u64 0, .int .u64 0, .int .u64 0]), (8, [.int .u64 0, .int .u64 0, .int .u64 0, .int .u64 0]), (12, [.int .u64 0, .int .u64 0, .int .u64 0, .int .u64 0])]) (M.ge Hg45) (M.fresh Hg45) Bg45 rfl ⟨rfl, rfl, rfl, rfl, trivial⟩)
 clear Bg45
 simp only [Z7,Z0]
 refine wpL_store (g := g45) (off := 0) (n := 16) (cs := [.int .u64 0, .int .u64 0, .int .u64 0, .int .u64 0, .int .u64 0, .int .u64 0, .int .u64 0, .int .u64 0, .int .u64 0, .int .u64 0, .int .u64 0, .int .u64 0, .int .u64 0, .int .u64 0, .int .u64 0, .int .u64 0]) (by rfl) (by rfl) (by rfl) (by rfl) (by rfl) (M.t 0 rfl) (by simp [flen]) info26 (by simp [fone, Value.oneCell']) (fun w47 P R T => ?_)
 replace M := M.put (segs' := [(0, [.int .u64 0, .int .u64 0, .int .u64 0, .int .u64 0]), (4, [.int .u64 0, .int .u64 0, .int .u64 0, .int .u64 0]), (8, [.int .u64 0, .int .u64 0, .int .u64 0, .int .u64 0]), (12, [.int .u64 0, .int .u64 0, .int .u64 0, .int .u64 0])]) 0 rfl P T (SegsOf.at R ⟨rfl, rfl, rfl, rfl, trivial⟩)
 simp only [Z0] at M
 refine Z13 (v := .int .i64 1) (by rfl) (by rfl) (by rfl) ?_
 simp only [Z7,Z0]
 refine Z9 (Z10 ?_)
 refine hK42 _ _ ?_
 refine Z4 (fun K48 hK48 => ?_)
 refine Z8 ?_
 refine Z11 5 (by rfl) (fun Lk hLk => ?_)
 simp only [Z1,Z2]
 refine wpV_load (cs := fel p.x ++ (fel p.y) ++ (fel p.z) ++ (fel p.t)) (by rfl) rfl rfl (range_join (range_join (range_join (M.r 7 0 rfl rfl) (M.r 7 1 rfl rfl) (by simp [flen])) (M.r 7 2 rfl rfl) (by simp [flen])) (M.r 7 3 rfl rfl) (by simp [flen])) (M.lt 7 rfl) Try.underlying26 rfl info26 ?_
 simp only [Z7,Z0]
 refine Z20 (v := .tuple #[.string (bs ([])), .int .i64 1]) (args := #[.agg (fel p.x ++ (fel p.y) ++ (fel p.z) ++ (fel p.t) : List Value).toArray]) (by rfl) rfl Try.func13 (by kernel_rfl) (by kernel_rfl) rfl (fun W hW => (by have h9 := Bytes_no (w := W) hp hr; exact h9)) ?_
 simp only [Z7,Z0]
 refine Z16 (v := .tuple #[.string (bs ([])), .int .i64 1]) (by rfl) rfl rfl ?_
 simp only [Z7,Z0]
 refine wpV_extract (v := .string (bs ([]))) (by rfl) rfl rfl rfl ?_
 simp only [Z7,Z0]
 refine wpV_extract (v := .int .i64 1) (by rfl) rfl rfl rfl ?_
 simp only [Z7,Z0]
 refine Z14 (hLk _ (fun w50 Sw50 => ?_))
 clear hLk Lk
 simp only [Z1,Z2]
 replace M := M.sees Sw50
 refine Z13 (v := .string (bs ([]))) (by rfl) (by rfl) (by rfl) ?_
 simp only [Z7,Z0]
 refine Z13 (v := .int .i64 1) (by rfl) (by rfl) (by rfl) ?_
 simp only [Z7,Z0]
 refine Z9 (Z10 ?_)
 refine hK48 _ _ ?_
 refine Z4 (fun K51 hK51 => ?_)
 refine Z8 ?_
 refine Z11 1 (by rfl) (fun Lk hLk => ?_)
 simp only [Z1,Z2]
 refine Z19 (v := .agg ([.int .u64 0, .int .u64 0, .int .u64 0, .int .u64 0, .int .u64 0, .int .u64 0, .int .u64 0, .int .u64 0, .int .u64 0, .int .u64 0, .int .u64 0, .int .u64 0, .int .u64 0, .int .u64 0, .int .u64 0, .int .u64 0]).toArray) (by rfl) (by rfl) (fun W hW => ?_) ?_
 ·
  (unfold RunsVal; kernel_rfl)
 simp only [Z7,Z0]
 refine Z14 (hLk _ (fun w53 Sw53 => ?_))
 clear hLk Lk
 simp only [Z1,Z2]
 replace M := M.sees Sw53
 refine wpL_var (t := 26) (cs := [.int .u64 0, .int .u64 0, .int .u64 0, .int .u64 0, .int .u64 0, .int .u64 0, .int .u64 0, .int .u64 0, .int .u64 0, .int .u64 0, .int .u64 0, .int .u64 0, .int .u64 0, .int .u64 0, .int .u64 0, .int .u64 0]) (by rfl) (fun W => ?_) (fun g54 w55 Sw55 Hg54 Bg54 => ?_)
 ·
  go_simp
 replace M := ((M.sees Sw55).addS (N := 16) (cs := [.int .u64 0, .int .u64 0, .int .u64 0, .int .u64 0, .int .u64 0, .int .u64 0, .int .u64 0, .int .u64 0, .int .u64 0, .int .u64 0, .int .u64 0, .int .u64 0, .int .u64 0, .int .u64 0, .int .u64 0, .int .u64 0]) (segs := [(0, [.int .u64 0, .int .u64 0, .int .u64 0, .int .u64 0]), (4, [.int .u64 0, .int .u64 0, .int .u64 0, .int .u64 0]), (8, [.int .u64 0, .int .u64 0, .int .u64 0, .int .u64 0]), (12, [.int .u64 0, .int .u64 0, .int .u64 0, .int .u64 0])]) (M.ge Hg54) (M.fresh Hg54) Bg54 rfl ⟨rfl, rfl, rfl, rfl, trivial⟩)
 clear Bg54
 simp only [Z7,Z0]
 refine Z13 (v := .int .i64 1) (by rfl) (by rfl) (by rfl) ?_
 simp only [Z7,Z0]
 refine wpL_store (g := g54) (off := 0) (n := 16) (cs := [.int .u64 0, .int .u64 0, .int .u64 0, .int .u64 0, .int .u64 0, .int .u64 0, .int .u64 0, .int .u64 0, .int .u64 0, .int .u64 0, .int .u64 0, .int .u64 0, .int .u64 0, .int .u64 0, .int .u64 0, .int .u64 0]) (by rfl) (by rfl) (by rfl) (by rfl) (by rfl) (M.t 0 rfl) (by simp [flen]) info26 (by simp [fone, Value.oneCell']) (fun w56 P R T => ?_)
 replace M := M.put (segs' := [(0, [.int .u64 0, .int .u64 0, .int .u64 0, .int .u64 0]), (4, [.int .u64 0, .int .u64 0, .int .u64 0, .int .u64 0]), (8, [.int .u64 0, .int .u64 0, .int .u64 0, .int .u64 0]), (12, [.int .u64 0, .int .u64 0, .int .u64 0, .int .u64 0])]) 0 rfl P T (SegsOf.at R ⟨rfl, rfl, rfl, rfl, trivial⟩)
 simp only [Z0] at M
 refine Z9 (Z10 ?_)
 refine hK51 _ _ ?_
 refine Z4 (fun K57 hK57 => ?_)
 refine Z8 ?_
 refine Z12 (v := .int .i64 1) (by rfl) (by rfl) (by rfl) ?_
 simp only [Z7,Z0]
 refine Z12 (v := .int .i64 1) (by rfl) (by rfl) (by rfl) ?_
 simp only [Z7,Z0]
 refine Z11 57 (by rfl) (fun Lk hLk => ?_)
 simp only [Z1,Z2]
 refine Z15 (v := .bool true) (by rfl) rfl rfl rfl (fun W => run_eql _ _ _ _ W) ?_
 simp only [Z7,Z0]
 refine Z16 (v := .bool true) (by rfl) rfl rfl ?_
 simp only [Z7,Z0]
 refine Z16 (v := .int .i64 1) (by rfl) rfl rfl ?_
 simp only [Z7,Z0]
 refine Z16 (v := .int .i64 1) (by rfl) rfl rfl ?_
 simp only [Z7,Z0]
 refine Z15 (v := .bool true) (by rfl) rfl rfl rfl (fun W => run_eql _ _ _ _ W) ?_
 simp only [Z7,Z0]
 refine wpV_pick (v := .bool true) (by rfl) rfl rfl rfl ?_
 simp only [Z7,Z0]
 refine Z16 (v := .bool true) (by rfl) rfl rfl ?_
 simp only [Z7,Z0]
 refine Z16 (v := .int .i64 1) (by rfl) rfl rfl ?_
 simp only [Z7,Z0]
 refine Z16 (v := .int .i64 1) (by rfl) rfl rfl ?_
 simp only [Z7,Z0]
 refine Z15 (v := .bool true) (by rfl) rfl rfl rfl (fun W => run_eql _ _ _ _ W) ?_
 simp only [Z7,Z0]
 refine wpV_pick (v := .bool true) (by rfl) rfl rfl rfl ?_
 simp only [Z7,Z0]
 refine Z16 (v := .bool true) (by rfl) rfl rfl ?_
 simp only [Z7,Z0]
 refine Z16 (v := .int .i64 1) (by rfl) rfl rfl ?_
 simp only [Z7,Z0]
 refine Z16 (v := .int .i64 1) (by rfl) rfl rfl ?_
 simp only [Z7,Z0]
 refine Z15 (v := .bool true) (by rfl) rfl rfl rfl (fun W => run_eql _ _ _ _ W) ?_
 simp only [Z7,Z0]
 refine wpV_pick (v := .bool true) (by rfl) rfl rfl rfl ?_
 simp only [Z7,Z0]
 refine Z16 (v := .bool true) (by rfl) rfl rfl ?_
 simp only [Z7,Z0]
 refine Z16 (v := .int .i64 1) (by rfl) rfl rfl ?_
 simp only [Z7,Z0]
 refine Z16 (v := .int .i64 1) (by rfl) rfl rfl ?_
 simp only [Z7,Z0]
 refine Z15 (v := .bool true) (by rfl) rfl rfl rfl (fun W => run_eql _ _ _ _ W) ?_
 simp only [Z7,Z0]
 refine wpV_pick (v := .bool true) (by rfl) rfl rfl rfl ?_
 simp only [Z7,Z0]
 refine Z16 (v := .bool true) (by rfl) rfl rfl ?_
 simp only [Z7,Z0]
 refine wpV_load (cs := [.int .u64 0, .int .u64 0, .int .u64 0, .int .u64 0] ++ [.int .u64 0, .int .u64 0, .int .u64 0, .int .u64 0] ++ [.int .u64 0, .int .u64 0, .int .u64 0, .int .u64 0] ++ [.int .u64 0, .int .u64 0, .int .u64 0, .int .u64 0]) (by rfl) rfl rfl (range_join (range_join (range_join (M.r 4 0 rfl rfl) (M.r 4 1 rfl rfl) (by simp [flen])) (M.r 4 2 rfl rfl) (by simp [flen])) (M.r 4 3 rfl rfl) (by simp [flen])) (M.lt 4 rfl) Try.underlying26 rfl info26 ?_
 simp only [Z7,Z0]
 refine wpV_load (cs := [.int .u64 0, .int .u64 0, .int .u64 0, .int .u64 0] ++ [.int .u64 0, .int .u64 0, .int .u64 0, .int .u64 0] ++ [.int .u64 0, .int .u64 0, .int .u64 0, .int .u64 0] ++ [.int .u64 0, .int .u64 0, .int .u64 0, .int .u64 0]) (by rfl) rfl rfl (range_join (range_join (range_join (M.r 0 0 rfl rfl) (M.r 0 1 rfl rfl) (by simp [flen])) (M.r 0 2 rfl rfl) (by simp [flen])) (M.r 0 3 rfl rfl) (by simp [flen])) (M.lt 0 rfl) Try.underlying26 rfl info26 ?_
 simp only [Z7,Z0]
 refine wpV_eqlT (k := 3) (u := [Value.int .u64 0, Value.int .u64 0, Value.int .u64 0, Value.int .u64 0] ++ [Value.int .u64 0, Value.int .u64 0, Value.int .u64 0, Value.int .u64 0] ++ [Value.int .u64 0, Value.int .u64 0, Value.int .u64 0, Value.int .u64 0] ++ [Value.int .u64 0, Value.int .u64 0, Value.int .u64 0, Value.int .u64 0]) (v := [Value.int .u64 0, Value.int .u64 0, Value.int .u64 0, Value.int .u64 0] ++ [Value.int .u64 0, Value.int .u64 0, Value.int .u64 0, Value.int .u64 0] ++ [Value.int .u64 0, Value.int .u64 0, Value.int .u64 0, Value.int .u64 0] ++ [Value.int .u64 0, Value.int .u64 0, Value.int .u64 0, Value.int .u64 0]) (b := true) (by rfl) rfl rfl rfl (by kernel_rfl) (by exact eq_z16) (by decide) ?_
 simp only [Z7,Z0]
 refine wpV_pick (v := .bool true) (by rfl) rfl rfl rfl ?_
 simp only [Z7,Z0]
 refine Z16 (v := .bool true) (by rfl) rfl rfl ?_
 simp only [Z7,Z0]
 refine wpV_load (cs := [.int .u64 0, .int .u64 0, .int .u64 0, .int .u64 0] ++ [.int .u64 0, .int .u64 0, .int .u64 0, .int .u64 0] ++ [.int .u64 0, .int .u64 0, .int .u64 0, .int .u64 0] ++ [.int .u64 0, .int .u64 0, .int .u64 0, .int .u64 0]) (by rfl) rfl rfl (range_join (range_join (range_join (M.r 3 0 rfl rfl) (M.r 3 1 rfl rfl) (by simp [flen])) (M.r 3 2 rfl rfl) (by simp [flen])) (M.r 3 3 rfl rfl) (by simp [flen])) (M.lt 3 rfl) Try.underlying26 rfl info26 ?_
 simp only [Z7,Z0]
 refine wpV_load (cs := [.int .u64 0, .int .u64 0, .int .u64 0, .int .u64 0] ++ [.int .u64 0, .int .u64 0, .int .u64 0, .int .u64 0] ++ [.int .u64 0, .int .u64 0, .int .u64 0, .int .u64 0] ++ [.int .u64 0, .int .u64 0, .int .u64 0, .int .u64 0]) (by rfl) rfl rfl (range_join (range_join (range_join (M.r 0 0 rfl rfl) (M.r 0 1 rfl rfl) (by simp [flen])) (M.r 0 2 rfl rfl) (by simp [flen])) (M.r 0 3 rfl rfl) (by simp [flen])) (M.lt 0 rfl) Try.underlying26 rfl info26 ?_
 simp only [Z7,Z0]
 refine wpV_eqlT (k := 3) (u := [Value.int .u64 0, Value.int .u64 0, Value.int .u64 0, Value.int .u64 0] ++ [Value.int .u64 0, Value.int .u64 0, Value.int .u64 0, Value.int .u64 0] ++ [Value.int .u64 0, Value.int .u64 0, Value.int .u64 0, Value.int .u64 0] ++ [Value.int .u64 0, Value.int .u64 0, Value.int .u64 0, Value.int .u64 0]) (v := [Value.int .u64 0, Value.int .u64 0, Value.int .u64 0, Value.int .u64 0] ++ [Value.int .u64 0, Value.int .u64 0, Value.int .u64 0, Value.int .u64 0] ++ [Value.int .u64 0, Value.int .u64 0, Value.int .u64 0, Value.int .u64 0] ++ [Value.int .u64 0, Value.int .u64 0, Value.int .u64 0, Value.int .u64 0]) (b := true) (by rfl) rfl rfl rfl (by kernel_rfl) (by exact eq_z16) (by decide) ?_
 simp only [Z7,Z0]
 refine wpV_pick (v := .bool true) (by rfl) rfl rfl rfl ?_
 simp only [Z7,Z0]
 refine Z16 (v := .bool true) (by rfl) rfl rfl ?_
 simp only [Z7,Z0]
 refine wpV_load (cs := [.int .u64 0, .int .u64 0, .int .u64 0, .int .u64 0] ++ [.int .u64 0, .int .u64 0, .int .u64 0, .int .u64 0] ++ [.int .u64 0, .int .u64 0, .int .u64 0, .int .u64 0] ++ [.int .u64 0, .int .u64 0, .int .u64 0, .int .u64 0]) (by rfl) rfl rfl (range_join (range_join (range_join (M.r 2 0 rfl rfl) (M.r 2 1 rfl rfl) (by simp [flen])) (M.r 2 2 rfl rfl) (by simp [flen])) (M.r 2 3 rfl rfl) (by simp [flen])) (M.lt 2 rfl) Try.underlying26 rfl info26 ?_
 simp only [Z7,Z0]
 refine wpV_load (cs := [.int .u64 0, .int .u64 0, .int .u64 0, .int .u64 0] ++ [.int .u64 0, .int .u64 0, .int .u64 0, .int .u64 0] ++ [.int .u64 0, .int .u64 0, .int .u64 0, .int .u64 0] ++ [.int .u64 0, .int .u64 0, .int .u64 0, .int .u64 0]) (by rfl) rfl rfl (range_join (range_join (range_join (M.r 0 0 rfl rfl) (M.r 0 1 rfl rfl) (by simp [flen])) (M.r 0 2 rfl rfl) (by simp [flen])) (M.r 0 3 rfl rfl) (by simp [flen])) (M.lt 0 rfl) Try.underlying26 rfl info26 ?_
 simp only [Z7,Z0]
 refine wpV_eqlT (k := 3) (u := [Value.int .u64 0, Value.int .u64 0, Value.int .u64 0, Value.int .u64 0] ++ [Value.int .u64 0, Value.int .u64 0, Value.int .u64 0, Value.int .u64 0] ++ [Value.int .u64 0, Value.int .u64 0, Value.int .u64 0, Value.int .u64 0] ++ [Value.int .u64 0, Value.int .u64 0, Value.int .u64 0, Value.int .u64 0]) (v := [Value.int .u64 0, Value.int .u64 0, Value.int .u64 0, Value.int .u64 0] ++ [Value.int .u64 0, Value.int .u64 0, Value.int .u64 0, Value.int .u64 0] ++ [Value.int .u64 0, Value.int .u64 0, Value.int .u64 0, Value.int .u64 0] ++ [Value.int .u64 0, Value.int .u64 0, Value.int .u64 0, Value.int .u64 0]) (b := true) (by rfl) rfl rfl rfl (by kernel_rfl) (by exact eq_z16) (by decide) ?_
 simp only [Z7,Z0]
 refine wpV_pick (v := .bool true) (by rfl) rfl rfl rfl ?_
 simp only [Z7,Z0]
 refine Z16 (v := .bool true) (by rfl) rfl rfl ?_
 simp only [Z7,Z0]
 refine wpV_load (cs := [.int .u64 0, .int .u64 0, .int .u64 0, .int .u64 0] ++ [.int .u64 0, .int .u64 0, .int .u64 0, .int .u64 0] ++ [.int .u64 0, .int .u64 0, .int .u64 0, .int .u64 0] ++ [.int .u64 0, .int .u64 0, .int .u64 0, .int .u64 0]) (by rfl) rfl rfl (range_join (range_join (range_join (M.r 1 0 rfl rfl) (M.r 1 1 rfl rfl) (by simp [flen])) (M.r 1 2 rfl rfl) (by simp [flen])) (M.r 1 3 rfl rfl) (by simp [flen])) (M.lt 1 rfl) Try.underlying26 rfl info26 ?_
 simp only [Z7,Z0]
 refine wpV_load (cs := [.int .u64 0, .int .u64 0, .int .u64 0, .int .u64 0] ++ [.int .u64 0, .int .u64 0, .int .u64 0, .int .u64 0] ++ [.int .u64 0, .int .u64 0, .int .u64 0, .int .u64 0] ++ [.int .u64 0, .int .u64 0, .int .u64 0, .int .u64 0]) (by rfl) rfl rfl (range_join (range_join (range_join (M.r 0 0 rfl rfl) (M.r 0 1 rfl rfl) (by simp [flen])) (M.r 0 2 rfl rfl) (by simp [flen])) (M.r 0 3 rfl rfl) (by simp [flen])) (M.lt 0 rfl) Try.underlying26 rfl info26 ?_
 simp only [Z7,Z0]
 refine wpV_eqlT (k := 3) (u := [Value.int .u64 0, Value.int .u64 0, Value.int .u64 0, Value.int .u64 0] ++ [Value.int .u64 0, Value.int .u64 0, Value.int .u64 0, Value.int .u64 0] ++ [Value.int .u64 0, Value.int .u64 0, Value.int .u64 0, Value.int .u64 0] ++ [Value.int .u64 0, Value.int .u64 0, Value.int .u64 0, Value.int .u64 0]) (v := [Value.int .u64 0, Value.int .u64 0, Value.int .u64 0, Value.int .u64 0] ++ [Value.int .u64 0, Value.int .u64 0, Value.int .u64 0, Value.int .u64 0] ++ [Value.int .u64 0, Value.int .u64 0, Value.int .u64 0, Value.int .u64 0] ++ [Value.int .u64 0, Value.int .u64 0, Value.int .u64 0, Value.int .u64 0]) (b := true) (by rfl) rfl rfl rfl (by kernel_rfl) (by exact eq_z16) (by decide) ?_
 simp only [Z7,Z0]
 refine wpV_pick (v := .bool true) (by rfl) rfl rfl rfl ?_
 simp only [Z7,Z0]
 refine Z16 (v := .bool true) (by rfl) rfl rfl ?_
 simp only [Z7,Z0]
 refine Z16 (v := .string (bs ([]))) (by rfl) rfl rfl ?_
 simp only [Z7,Z0]
 refine wpV_binS (v := .bool true) (by rfl) rfl rfl rfl (fun W => (run_eql_bs _ _ _ W).trans (by rw [show decide ([] = []) = true from (decide_eq_true rfl)])) ?_
 simp only [Z7,Z0]
 refine wpV_pick (v := .bool true) (by rfl) rfl rfl rfl ?_
 simp only [Z7,Z0]
 refine Z16 (v := .bool true) (by rfl) rfl rfl ?_
 simp only [Z7,Z0]
 refine wpV_load (cs := fel p.x ++ (fel p.y) ++ (fel p.z) ++ (fel p.t)) (by rfl) rfl rfl (range_join (range_join (range_join (M.r 8 0 rfl rfl) (M.r 8 1 rfl rfl) (by simp [flen])) (M.r 8 2 rfl rfl) (by simp [flen])) (M.r 8 3 rfl rfl) (by simp [flen])) (M.lt 8 rfl) Try.underlying26 rfl info26 ?_
 simp only [Z7,Z0]
 refine wpV_load (cs := fel baseP.x ++ (fel baseP.y) ++ (fel baseP.z) ++ (fel baseP.t)) (by rfl) rfl rfl (range_join (range_join (range_join (M.r 5 0 rfl rfl) (M.r 5 1 rfl rfl) (by simp [flen])) (M.r 5 2 rfl rfl) (by simp [flen])) (M.r 5 3 rfl rfl) (by simp [flen])) (M.lt 5 rfl) Try.underlying26 rfl info26 ?_
 simp only [Z7,Z0]
 refine Z20 (v := .bool false) (args := #[.agg (fel p.x ++ (fel p.y) ++ (fel p.z) ++ (fel p.t) : List Value).toArray, .agg (fel baseP.x ++ (fel baseP.y) ++ (fel baseP.z) ++ (fel baseP.t) : List Value).toArray]) (by rfl) rfl Try.func20 (by kernel_rfl) (by kernel_rfl) rfl (fun W hW => (by have h9 := same_c (p := p) (q := baseP) (w := W) hp baseP_ok; rw [same_no1 hr] at h9; exact h9)) ?_
 simp only [Z7,Z0]
 refine wpV_not (b := false) (by rfl) rfl rfl ?_
 simp only [Bool.not_true, Bool.not_false]
 simp only [Z7,Z0]
 refine wpV_pick (v := .bool true) (by rfl) rfl rfl rfl ?_
 simp only [Z7,Z0]
 refine Z16 (v := .bool true) (by rfl) rfl rfl ?_
 simp only [Z7,Z0]
 refine wpV_load (cs := fel baseP.x ++ (fel baseP.y) ++ (fel baseP.z) ++ (fel baseP.t)) (by rfl) rfl rfl (range_join (range_join (range_join (M.r 5 0 rfl rfl) (M.r 5 1 rfl rfl) (by simp [flen])) (M.r 5 2 rfl rfl) (by simp [flen])) (M.r 5 3 rfl rfl) (by simp [flen])) (M.lt 5 rfl) Try.underlying26 rfl info26 ?_
 simp only [Z7,Z0]
 refine wpV_load (cs := fel p.x ++ (fel p.y) ++ (fel p.z) ++ (fel p.t)) (by rfl) rfl rfl (range_join (range_join (range_join (M.r 8 0 rfl rfl) (M.r 8 1 rfl rfl) (by simp [flen])) (M.r 8 2 rfl rfl) (by simp [flen])) (M.r 8 3 rfl rfl) (by simp [flen])) (M.lt 8 rfl) Try.underlying26 rfl info26 ?_
 simp only [Z7,Z0]
 refine Z20 (v := .bool false) (args := #[.agg (fel baseP.x ++ (fel baseP.y) ++ (fel baseP.z) ++ (fel baseP.t) : List Value).toArray, .agg (fel p.x ++ (fel p.y) ++ (fel p.z) ++ (fel p.t) : List Value).toArray]) (by rfl) rfl Try.func20 (by kernel_rfl) (by kernel_rfl) rfl (fun W hW => (by have h9 := same_c (p := baseP) (q := p) (w := W) baseP_ok hp; rw [same_no2 hr] at h9; exact h9)) ?_
 simp only [Z7,Z0]
 refine wpV_not (b := false) (by rfl) rfl rfl ?_
 simp only [Bool.not_true, Bool.not_false]
 simp only [Z7,Z0]
 refine wpV_pick (v := .bool true) (by rfl) rfl rfl rfl ?_
 simp only [Z7,Z0]
 refine Z14 (hLk _ (fun w59 Sw59 => ?_))
 clear hLk Lk
 simp only [Z1,Z2]
 replace M := M.sees Sw59
 refine Z13 (v := .bool true) (by rfl) (by rfl) (by rfl) ?_
 simp only [Z7,Z0]
 refine Z9 (Z10 ?_)
 refine hK57 _ _ ?_
 refine wp_ret ?_
 repeat (first | with_reducible refine then_ret ?_ | with_reducible refine inblock_ret ?_)
 refine bodyPost_ret (v := .bool true) (res1 rfl (.tmp (by rfl))) rfl ?_
 have BE := M.below
 exact ⟨rfl, BE⟩
theorem pmay_c {p : P4} {n : Nat} {w : World} (hp : p.Ok) (hn : n < 2 ^ 256) :
  Calls Try.prog 4 #[.agg (fel p.x ++ fel p.y ++ fel p.z ++ fel p.t : List Value).toArray, fe n] w fun e w' => e = .returned (.bool true) ∧ Below w.heap.size w w' := by
 cases hr : rightP p
 ·
  exact pmay_no hp hn hr
 ·
  exact pmay_yes hp hn hr
end Go.Proofs.Yc

