import Derived.WalkKit
import Derived.WalkSpells
import Derived.Laws.Pointers
import Derived.RowKit3
import Derived.Below
import Derived.Outline
import Derived.LoopN
import Derived.Lib.Hide
import Derived.Handy
import Derived.Laws.Bits64b
import Derived.Test.YtdcmmnindlhghaaNumG
import Derived.Test.YtdcmmnindlhghaaPtW
import Derived.Test.YtdcmmnindlhghaaPtV
import Derived.Test.YtdcmmnindlhghaaPtQ
import Derived.Test.YtdcmmnindlhghaaPtO
import Derived.Test.YtdcmmnindlhghaaAdds3
set_option linter.unusedSimpArgs false
set_option linter.unusedVariables false
namespace Go.Proofs.Yc
open Go Go.RowKit Go.Proofs.Num
open List renaming set → Z0, take → Z1, drop → Z2
open Go renaming undef → Z3, wp_seq_k → Z4, wp_cond_true → Z5, wp_cond_false → Z6
open Go.Proofs.Num renaming putT → Z7, wp_region_seq → Z8, wpL_nil → Z9, no_panic → Z10, wpL_chunk → Z11, wpL_move → Z12, wpL_assign → Z13, wpV_nil → Z14, wpV_bin → Z15, then_normal → Z17, wpV_val → Z19, wpV_callf → Z20
attribute [local irreducible] wpV wpN wpList
open Go.Proofs.Ya
def NewRel0 (w0 : World) (f : Nat → Nat → Value) (n : Nat) (segs : List (Nat × List Value)) : Rel := fun _ v g W => ∃ c, v = f g c ∧ n ≤ c ∧ Bk.Ok [] w0 W ⟨g, 0, segs⟩
theorem keep_new0 {w0 : World} {f : Nat → Nat → Value} {n : Nat} {segs : List (Nat × List Value)} : Keeps (NewRel0 w0 f n segs) := fun _ _ _ _ _ ⟨c, h1, h2, h3⟩ hS => ⟨c, h1, h2, h3.mono hS⟩
theorem free_new0 {w0 : World} {f : Nat → Nat → Value} {n : Nat} {segs : List (Nat × List Value)} : Free (NewRel0 w0 f n segs) := fun _ _ _ _ _ h => h
theorem own_new0 {w0 : World} {f : Nat → Nat → Value} {n : Nat} {segs : List (Nat × List Value)} : Owns (NewRel0 w0 f n segs) := fun _ _ _ _ ⟨_, _, _, h⟩ => h.lt
theorem dlen_16 {x : Nat} (h : x < 65536 ^ 16) (h' : ¬ x < 65536 ^ 15) : dlen x = 16 := by
 have h1 : dlen x ≤ 16 := (dlen_le _ _).2 h
 have h2 : ¬ dlen x ≤ 15 := fun q => h' ((dlen_le _ _).1 q)
 omega
theorem plus04_3 {g0 c0 g1 cg1 : Nat} {w : World} (hcg0 : 16 ≤ c0) (Lg0 : g0 < w.heap.size) (Rg0_0 : w.rangeAt g0 0 (dl 16 pF)) (hcg1 : 1 ≤ cg1) (Lg1 : g1 < w.heap.size) (Rg1_0 : w.rangeAt g1 0 [.int .i64 3]) :
  Calls Try.prog 73 #[.slice (some ⟨g0, 0, none⟩) 16 c0, .slice (some ⟨g1, 0, none⟩) 1 cg1] w fun e w' => ∃ v, e = .returned v ∧ (∃ g c, v = .slice (some ⟨g, 0, none⟩) 16 c ∧ 16 ≤ c ∧ Mem [] w w' [⟨g, 0, [(0, dl 16 (pF + 3))]⟩]) ∧ Below w.heap.size w w' := by
 have h9 := plus04_c (n := 16) (x := pF) (m := 1) (y := 3) (by decide) (by decide) (by decide) (by decide) hcg0 Lg0 Rg0_0 hcg1 Lg1 (by rw [dl_one (by decide)]; exact Rg1_0)
 rw [dlen_16 (x := pF + 3) (by decide) (by decide)] at h9
 exact h9.mono fun e w' ⟨v, he, h1, h2⟩ => ⟨v, he, new0 h1 h2, h2⟩
theorem minus04_1 {g0 c0 g1 cg1 : Nat} {w : World} (hcg0 : 16 ≤ c0) (Lg0 : g0 < w.heap.size) (Rg0_0 : w.rangeAt g0 0 (dl 16 pF)) (hcg1 : 1 ≤ cg1) (Lg1 : g1 < w.heap.size) (Rg1_0 : w.rangeAt g1 0 [.int .i64 1]) :
  Calls Try.prog 70 #[.slice (some ⟨g0, 0, none⟩) 16 c0, .slice (some ⟨g1, 0, none⟩) 1 cg1] w fun e w' => ∃ v, e = .returned v ∧ (∃ g c, v = .slice (some ⟨g, 0, none⟩) 16 c ∧ 16 ≤ c ∧ Mem [] w w' [⟨g, 0, [(0, dl 16 (pF - 1))]⟩]) ∧ Below w.heap.size w w' := by
 have h9 := minus04_c (n := 16) (x := pF) (m := 1) (y := 1) (by decide) (by decide) (by decide) (by decide) (by decide) hcg0 Lg0 Rg0_0 hcg1 Lg1 (by rw [dl_one (by decide)]; exact Rg1_0)
 rw [dlen_16 (x := pF - 1) (by decide) (by decide)] at h9
 exact h9.mono fun e w' ⟨v, he, h1, h2⟩ => ⟨v, he, new0 h1 h2, h2⟩
theorem times04_2 {g0 c0 g1 cg1 : Nat} {w : World} (hcg0 : 16 ≤ c0) (Lg0 : g0 < w.heap.size) (Rg0_0 : w.rangeAt g0 0 (dl 16 (pF - 1))) (hcg1 : 1 ≤ cg1) (Lg1 : g1 < w.heap.size) (Rg1_0 : w.rangeAt g1 0 [.int .i64 2]) :
  Calls Try.prog 77 #[.slice (some ⟨g0, 0, none⟩) 16 c0, .slice (some ⟨g1, 0, none⟩) 1 cg1] w fun e w' => ∃ v, e = .returned v ∧ (∃ g c, v = .slice (some ⟨g, 0, none⟩) 16 c ∧ 16 ≤ c ∧ Mem [] w w' [⟨g, 0, [(0, dl 16 ((pF - 1) * 2))]⟩]) ∧ Below w.heap.size w w' := by
 have h9 := times04_c (n := 16) (x := pF - 1) (m := 1) (y := 2) (by decide) (by decide) (by decide) (by decide) hcg0 Lg0 Rg0_0 hcg1 Lg1 (by rw [dl_one (by decide)]; exact Rg1_0)
 rw [dlen_16 (x := (pF - 1) * 2) (by decide) (by decide)] at h9
 exact h9.mono fun e w' ⟨v, he, h1, h2⟩ => ⟨v, he, new0 h1 h2, h2⟩
theorem root_a {x : Nat} (hl : leastF x = x) (h : fmul (fpow x ((pF + 3) / 8)) (fpow x ((pF + 3) / 8)) = x) : root2 x = fpow x ((pF + 3) / 8) := by
 have e : root1 x = fpow x ((pF + 3) / 8) := by unfold root1; rw [hl]; rfl
 unfold root2
 rw [hl, e, if_pos h]
theorem root_b {x : Nat} (hl : leastF x = x) (h : ¬ fmul (fpow x ((pF + 3) / 8)) (fpow x ((pF + 3) / 8)) = x) : root2 x = fmul (fpow x ((pF + 3) / 8)) (fpow 2 ((pF - 1) * 2 / 8)) := by
 have e : root1 x = fpow x ((pF + 3) / 8) := by unfold root1; rw [hl]; rfl
 unfold root2
 rw [hl, e, if_neg h]
 rfl
set_option maxHeartbeats 4000000 in
theorem rRoot_c {x : Nat} {w : World} (hp : x < pF) :
  Calls Try.prog 69 #[fe x] w fun e w' => e = .returned (.tuple #[fe (fsqrt x).1, .bool (fsqrt x).2]) ∧ Below w.heap.size w w' := by
 have hl : leastF x = x := leastF_of_lt hp
 have hx : x < 2 ^ 256 := Nat.lt_trans hp (by decide)
 go_enter Try.func69, Try.ntmps69
 have M := Mem.start w
 refine Z4 (fun K1 hK1 => ?_)
 refine Z8 ?_
 refine wpL_var (t := 24) (cs := fel x) (by rfl) (fun W => ?_) (fun g3 w4 Sw4 Hg3 Bg3 => ?_)
 ·
  (first | rfl | go_simp)
 replace M := ((M.sees Sw4).add (N := 4) (cs := fel x) (M.ge Hg3) (M.fresh Hg3) Bg3 rfl)
 clear Bg3
 simp only [Z7,Z0]
 refine wpL_var (t := 24) (cs := [.int .u64 0, .int .u64 0, .int .u64 0, .int .u64 0]) (by rfl) (fun W => ?_) (fun g5 w6 Sw6 Hg5 Bg5 => ?_)
 ·
  go_simp
 replace M := ((M.sees Sw6).add (N := 4) (cs := [.int .u64 0, .int .u64 0, .int .u64 0, .int .u64 0]) (M.ge Hg5) (M.fresh Hg5) Bg5 rfl)
 clear Bg5
 simp only [Z7,Z0]
 refine Z13 (v := .bool false) (by rfl) (by rfl) (by rfl) ?_
 simp only [Z7,Z0]
 refine Z9 (Z10 ?_)
 refine hK1 _ _ ?_
 refine Z4 (fun K7 hK7 => ?_)
 refine Z8 ?_
 refine wpL_callE (f := 68) (args := #[]) (R := fun v9 W9 => ∃ g10 g10c, v9 = .slice (some ⟨g10, 0, none⟩) 16 g10c ∧ 16 ≤ g10c ∧ Mem [] w6 W9 [⟨g10, 0, [(0, dl 16 pF)]⟩]) (by rfl) (by rfl) rfl Try.func68 (by kernel_rfl) (by kernel_rfl) (prime04_o) (fun v9 w9 hv9 Sw9 => ?_)
 obtain ⟨g10, g10c, rfl, Cg10, M9⟩ := hv9
 replace M := M.call1 M9
 clear Sw9
 simp only [Z7,Z0]
 refine Z13 (v := .slice (some ⟨g10, 0, none⟩) 16 g10c) (by rfl) (by rfl) (by rfl) ?_
 simp only [Z7,Z0]
 refine Z9 (Z10 ?_)
 refine hK7 _ _ ?_
 refine Z4 (fun K11 hK11 => ?_)
 refine Z8 ?_
 refine Z12 (v := .slice (some ⟨g10, 0, none⟩) 16 g10c) (by rfl) (by rfl) (by rfl) ?_
 simp only [Z7,Z0]
 refine wpL_rowN (vs := [.int .i64 3]) (z := .int .i64 0) (bytes := 8) (by rfl) (by rfl) Try.underlying100 (by kernel_rfl) (by decide) (by kernel_rfl) (fun g13 w14 Sw14 Hg13 Bg13 => ?_)
 replace M := ((M.sees Sw14).add (N := 1) (cs := [.int .i64 3]) (M.ge Hg13) (M.fresh Hg13) Bg13 rfl)
 replace M := M.read1 (cs := dl 1 3) 0 rfl (by rw [dl_one (v := 3) (by omega)]; exact M.r 0 0 rfl rfl)
 simp only [Z0] at M
 clear Bg13
 simp only [Z7,Z0]
 refine wpL_callE (f := 73) (args := #[.slice (some ⟨g10, 0, none⟩) 16 g10c, .slice (some ⟨g13, 0, none⟩) 1 1]) (R := fun v9 W9 => ∃ g16 g16c, v9 = .slice (some ⟨g16, 0, none⟩) 16 g16c ∧ 16 ≤ g16c ∧ Mem [] w14 W9 [⟨g16, 0, [(0, dl 16 (pF + 3))]⟩]) (by rfl) (by rfl) rfl Try.func73 (by kernel_rfl) (by kernel_rfl) (plus04_3 Cg10 (M.lt 1 rfl) (M.r 1 0 rfl rfl) (Nat.le_refl _) (M.lt 0 rfl) (M.r 0 0 rfl rfl)) (fun v9 w15 hv9 Sw15 => ?_)
 obtain ⟨g16, g16c, rfl, Cg16, M9⟩ := hv9
 replace M := M.call1 M9
 clear Sw15
 simp only [Z7,Z0]
 refine Z13 (v := .slice (some ⟨g16, 0, none⟩) 16 g16c) (by rfl) (by rfl) (by rfl) ?_
 simp only [Z7,Z0]
 refine Z9 (Z10 ?_)
 refine hK11 _ _ ?_
 refine Z4 (fun K17 hK17 => ?_)
 refine wp_region_addsF 5 [] [2, 4] [ValRel (fe x), ValRel (.slice (some ⟨g16, 0, none⟩) 16 g16c), NewRel w15 (fun gA gAc => .slice (some ⟨gA, 0, none⟩) 16 gAc) 16 [(0, dl 16 ((pF + 3) / 8))], ValRel (fe (fpow x ((pF + 3) / 8))), BoxRel w15 (fun gA => .pointer (some ⟨gA, 0, none⟩)) 4 [(0, [.int .u64 0, .int .u64 0, .int .u64 0, .int .u64 0])]] [[], [], [1], [0, 2], []] (fun vs => { tmps := #[fe x, .pointer (some ⟨g3, 0, none⟩), .pointer (some ⟨g5, 0, none⟩), .bool false, .slice (some ⟨g10, 0, none⟩) 16 g10c, .slice (some ⟨g16, 0, none⟩) 16 g16c, vs 4, .slice (some ⟨g10, 0, none⟩) 16 g10c, .slice (some ⟨g10, 0, none⟩) 16 g10c, .slice (some ⟨g13, 0, none⟩) 1 1, .slice (some ⟨g16, 0, none⟩) 16 g16c, vs 0, vs 1, vs 2, vs 3, Z3, Z3, Z3, Z3, Z3, Z3, Z3, Z3, Z3, Z3, Z3, Z3, Z3, Z3, Z3, Z3, Z3, Z3, Z3, Z3, Z3, Z3, Z3, Z3, Z3, Z3, Z3, Z3, Z3], defers := [] }) (by kernel_rfl) (by kernel_rfl) (by kernel_rfl) (by kernel_rfl) (.cons keep_val (.cons keep_val (.cons keep_new (.cons keep_val (.cons keep_box AllKeep.nil))))) (.free free_val (.free free_val (.free free_new (.free free_val (.free free_box AllLoc.nil))))) (.cons own_new (.cons own_box AllOwn.nil)) (by kernel_rfl) ?_ ?_
 ·
  simp only [Z1]
  refine RulesL.cons (fun vs => { tmps := #[fe x, .pointer (some ⟨g3, 0, none⟩), .pointer (some ⟨g5, 0, none⟩), .bool false, .slice (some ⟨g10, 0, none⟩) 16 g10c, .slice (some ⟨g16, 0, none⟩) 16 g16c, Z3, .slice (some ⟨g10, 0, none⟩) 16 g10c, .slice (some ⟨g10, 0, none⟩) 16 g10c, .slice (some ⟨g13, 0, none⟩) 1 1, .slice (some ⟨g16, 0, none⟩) 16 g16c, Z3, Z3, Z3, Z3, Z3, Z3, Z3, Z3, Z3, Z3, Z3, Z3, Z3, Z3, Z3, Z3, Z3, Z3, Z3, Z3, Z3, Z3, Z3, Z3, Z3, Z3, Z3, Z3, Z3, Z3, Z3, Z3, Z3], defers := [] }) (by kernel_rfl) ?_ ?_
  ·
   intro vs gs W20 SW20 D K9 hK9
   replace M := M.sees SW20
   dsimp only at hK9
   dsimp only
   refine Z11 1 (by rfl) (fun Lk hLk => ?_)
   simp only [Z1,Z2]
   refine wpV_load (cs := fel x) (by rfl) rfl rfl (M.r 4 0 rfl rfl) (M.lt 4 rfl) Try.underlying24 rfl info24 ?_
   simp only [Z7,Z0]
   refine Z14 (hLk _ (fun w21 Sw21 => ?_))
   clear hLk Lk
   simp only [Z1,Z2]
   replace M := M.sees Sw21
   refine Z9 (Z17 ?_)
   have h8 := hK9 (fe x)
   have h9 := h8 0 _ Sw21 rfl (fun h => absurd h (by decide))
   simp only [Z7,Z0] at h9
   exact h9
  refine RulesL.cons (fun vs => { tmps := #[fe x, .pointer (some ⟨g3, 0, none⟩), .pointer (some ⟨g5, 0, none⟩), .bool false, .slice (some ⟨g10, 0, none⟩) 16 g10c, .slice (some ⟨g16, 0, none⟩) 16 g16c, Z3, .slice (some ⟨g10, 0, none⟩) 16 g10c, .slice (some ⟨g10, 0, none⟩) 16 g10c, .slice (some ⟨g13, 0, none⟩) 1 1, .slice (some ⟨g16, 0, none⟩) 16 g16c, Z3, Z3, Z3, Z3, Z3, Z3, Z3, Z3, Z3, Z3, Z3, Z3, Z3, Z3, Z3, Z3, Z3, Z3, Z3, Z3, Z3, Z3, Z3, Z3, Z3, Z3, Z3, Z3, Z3, Z3, Z3, Z3, Z3], defers := [] }) (by kernel_rfl) ?_ ?_
  ·
   intro vs gs W22 SW22 D K9 hK9
   replace M := M.sees SW22
   dsimp only at hK9
   dsimp only
   refine Z12 (v := .slice (some ⟨g16, 0, none⟩) 16 g16c) (by rfl) (by rfl) (by rfl) ?_
   simp only [Z7,Z0]
   refine Z9 (Z17 ?_)
   have h8 := hK9 (.slice (some ⟨g16, 0, none⟩) 16 g16c)
   have h9 := h8 0 _ (sees_refl _) rfl (fun h => absurd h (by decide))
   simp only [Z7,Z0] at h9
   exact h9
  refine RulesL.cons (fun vs => { tmps := #[fe x, .pointer (some ⟨g3, 0, none⟩), .pointer (some ⟨g5, 0, none⟩), .bool false, .slice (some ⟨g10, 0, none⟩) 16 g10c, .slice (some ⟨g16, 0, none⟩) 16 g16c, Z3, .slice (some ⟨g10, 0, none⟩) 16 g10c, .slice (some ⟨g10, 0, none⟩) 16 g10c, .slice (some ⟨g13, 0, none⟩) 1 1, .slice (some ⟨g16, 0, none⟩) 16 g16c, Z3, vs 1, Z3, Z3, Z3, Z3, Z3, Z3, Z3, Z3, Z3, Z3, Z3, Z3, Z3, Z3, Z3, Z3, Z3, Z3, Z3, Z3, Z3, Z3, Z3, Z3, Z3, Z3, Z3, Z3, Z3, Z3, Z3], defers := [] }) (by kernel_rfl) ?_ ?_
  ·
   intro vs gs W23 SW23 D K9 hK9
   replace M := M.sees SW23
   have Rg16_0 := M.r 0 0 rfl rfl
   have Lg16 := M.lt 0 rfl
   have Rg13_0 := M.r 1 0 rfl rfl
   have Lg13 := M.lt 1 rfl
   have Rg10_0 := M.r 2 0 rfl rfl
   have Lg10 := M.lt 2 rfl
   have Rg5_0 := M.r 3 0 rfl rfl
   have Lg5 := M.lt 3 rfl
   have Rg3_0 := M.r 4 0 rfl rfl
   have Lg3 := M.lt 4 rfl
   have BB := M.below
   replace M := Mem.start W23
   obtain ⟨D1, _⟩ := D
   have e1 : vs 1 = .slice (some ⟨g16, 0, none⟩) 16 g16c := D1
   dsimp only at hK9
   dsimp only
   rw [e1] at hK9 ⊢
   refine wpL_callE (f := 88) (args := #[.slice (some ⟨g16, 0, none⟩) 16 g16c]) (R := fun v9 W9 => ∃ g25 g25c, v9 = .slice (some ⟨g25, 0, none⟩) 16 g25c ∧ 16 ≤ g25c ∧ Mem [] W23 W9 [⟨g25, g25c, [(0, dl 16 ((pF + 3) / 8))]⟩]) (by rfl) (by rfl) rfl Try.func88 (by kernel_rfl) (by kernel_rfl) (eighth_c (m := (pF + 3)) (by decide) (by decide) (RowA.of (M.oldR Rg16_0 Lg16) (M.oldL Lg16) (dl_len _ _).symm Cg16)) (fun v9 w24 hv9 Sw24 => ?_)
   obtain ⟨g25, g25c, rfl, Cg25, M9⟩ := hv9
   replace M := M.call1 M9
   clear Sw24
   simp only [Z7,Z0]
   refine Z9 (Z17 ?_)
   have h8 := hK9 (.slice (some ⟨g25, 0, none⟩) 16 g25c)
   have h9 := h8 g25 _ M.seesAll ⟨g25c, rfl, Cg25, (M.ok _ (.head _)).up SW23⟩ (fun _ => (M.ok _ (.head _)).ge)
   simp only [Z7,Z0] at h9
   exact h9
  refine RulesL.cons (fun vs => { tmps := #[fe x, .pointer (some ⟨g3, 0, none⟩), .pointer (some ⟨g5, 0, none⟩), .bool false, .slice (some ⟨g10, 0, none⟩) 16 g10c, .slice (some ⟨g16, 0, none⟩) 16 g16c, Z3, .slice (some ⟨g10, 0, none⟩) 16 g10c, .slice (some ⟨g10, 0, none⟩) 16 g10c, .slice (some ⟨g13, 0, none⟩) 1 1, .slice (some ⟨g16, 0, none⟩) 16 g16c, vs 0, Z3, vs 2, Z3, Z3, Z3, Z3, Z3, Z3, Z3, Z3, Z3, Z3, Z3, Z3, Z3, Z3, Z3, Z3, Z3, Z3, Z3, Z3, Z3, Z3, Z3, Z3, Z3, Z3, Z3, Z3, Z3, Z3], defers := [] }) (by kernel_rfl) ?_ ?_
  ·
   intro vs gs W26 SW26 D K9 hK9
   replace M := M.sees SW26
   have Rg16_0 := M.r 0 0 rfl rfl
   have Lg16 := M.lt 0 rfl
   have Rg13_0 := M.r 1 0 rfl rfl
   have Lg13 := M.lt 1 rfl
   have Rg10_0 := M.r 2 0 rfl rfl
   have Lg10 := M.lt 2 rfl
   have Rg5_0 := M.r 3 0 rfl rfl
   have Lg5 := M.lt 3 rfl
   have Rg3_0 := M.r 4 0 rfl rfl
   have Lg3 := M.lt 4 rfl
   have BB := M.below
   replace M := Mem.start W26
   obtain ⟨D0, D2, _⟩ := D
   have e0 : vs 0 = fe x := D0
   obtain ⟨g27c, e2, Cg27, Og27⟩ := D2
   generalize gs 2 = g27 at *
   replace e2 : vs 2 = .slice (some ⟨g27, 0, none⟩) 16 g27c := e2
   have Rg27_0 := Og27.range (0, dl 16 ((pF + 3) / 8)) (by simp only [List.mem_cons, true_or, or_true])
   have Lg27 := Og27.lt
   dsimp only at hK9
   dsimp only
   rw [e0, e2] at hK9 ⊢
   refine Z11 1 (by rfl) (fun Lk hLk => ?_)
   simp only [Z1,Z2]
   refine Z20 (v := fe (fpow x ((pF + 3) / 8))) (args := #[fe x, .slice (some ⟨g27, 0, none⟩) 16 g27c]) (by rfl) rfl Try.func79 (by kernel_rfl) (by kernel_rfl) rfl (fun W hW => rpower_c hx (by decide) (by decide) (RowA.of ((M.sees hW).oldR Rg27_0 Lg27) ((M.sees hW).oldL Lg27) (dl_len _ _).symm Cg27)) ?_
   simp only [Z7,Z0]
   refine Z14 (hLk _ (fun w28 Sw28 => ?_))
   clear hLk Lk
   simp only [Z1,Z2]
   replace M := M.sees Sw28
   refine Z9 (Z17 ?_)
   have h8 := hK9 (fe (fpow x ((pF + 3) / 8)))
   have h9 := h8 0 _ M.seesAll rfl (fun h => absurd h (by decide))
   simp only [Z7,Z0] at h9
   exact h9
  refine RulesL.cons (fun vs => { tmps := #[fe x, .pointer (some ⟨g3, 0, none⟩), .pointer (some ⟨g5, 0, none⟩), .bool false, .slice (some ⟨g10, 0, none⟩) 16 g10c, .slice (some ⟨g16, 0, none⟩) 16 g16c, Z3, .slice (some ⟨g10, 0, none⟩) 16 g10c, .slice (some ⟨g10, 0, none⟩) 16 g10c, .slice (some ⟨g13, 0, none⟩) 1 1, .slice (some ⟨g16, 0, none⟩) 16 g16c, Z3, Z3, Z3, Z3, Z3, Z3, Z3, Z3, Z3, Z3, Z3, Z3, Z3, Z3, Z3, Z3, Z3, Z3, Z3, Z3, Z3, Z3, Z3, Z3, Z3, Z3, Z3, Z3, Z3, Z3, Z3, Z3, Z3], defers := [] }) (by kernel_rfl) ?_ ?_
  ·
   intro vs gs W29 SW29 D K9 hK9
   replace M := M.sees SW29
   have Rg16_0 := M.r 0 0 rfl rfl
   have Lg16 := M.lt 0 rfl
   have Rg13_0 := M.r 1 0 rfl rfl
   have Lg13 := M.lt 1 rfl
   have Rg10_0 := M.r 2 0 rfl rfl
   have Lg10 := M.lt 2 rfl
   have Rg5_0 := M.r 3 0 rfl rfl
   have Lg5 := M.lt 3 rfl
   have Rg3_0 := M.r 4 0 rfl rfl
   have Lg3 := M.lt 4 rfl
   have BB := M.below
   replace M := Mem.start W29
   dsimp only at hK9
   dsimp only
   refine wpL_var (t := 24) (cs := [.int .u64 0, .int .u64 0, .int .u64 0, .int .u64 0]) (by rfl) (fun W => ?_) (fun g30 w31 Sw31 Hg30 Bg30 => ?_)
   ·
    go_simp
   replace M := ((M.sees Sw31).add (N := 4) (cs := [.int .u64 0, .int .u64 0, .int .u64 0, .int .u64 0]) (M.ge Hg30) (M.fresh Hg30) Bg30 rfl)
   clear Bg30
   simp only [Z7,Z0]
   refine Z9 (Z17 ?_)
   have h8 := hK9 (.pointer (some ⟨g30, 0, none⟩))
   have h9 := h8 g30 _ M.seesAll ⟨rfl, (M.ok _ (.head _)).up SW29⟩ (fun _ => (M.ok _ (.head _)).ge)
   simp only [Z7,Z0] at h9
   exact h9
  exact RulesL.nil
 intro vs gs W32 SW32 D A9
 obtain ⟨D0, D1, D2, D3, D4, _⟩ := (show DepRel _ vs gs W32 [0, 1, 2, 3, 4] from D)
 have n2_4 : gs 2 ≠ gs 4 := A9 2 4 (by decide) (by decide) (by decide) (by decide) (by decide)
 clear A9 D
 have e0 : vs 0 = fe x := D0
 have e1 : vs 1 = .slice (some ⟨g16, 0, none⟩) 16 g16c := D1
 obtain ⟨g33c, e2, Cg33, Og33⟩ := D2
 generalize gs 2 = g33 at *
 replace e2 : vs 2 = .slice (some ⟨g33, 0, none⟩) 16 g33c := e2
 have e3 : vs 3 = fe (fpow x ((pF + 3) / 8)) := D3
 obtain ⟨e4, Og34⟩ := D4
 generalize gs 4 = g34 at *
 replace e4 : vs 4 = .pointer (some ⟨g34, 0, none⟩) := e4
 replace M := M.addOks SW32 [⟨g33, g33c, [(0, dl 16 ((pF + 3) / 8))]⟩, ⟨g34, 4, [(0, [.int .u64 0, .int .u64 0, .int .u64 0, .int .u64 0])]⟩] (List.forall_mem_cons.2 ⟨Og33, (List.forall_mem_cons.2 ⟨Og34, (fun _ h => nomatch h)⟩)⟩) (.cons (List.forall_mem_cons.2 ⟨n2_4, (fun _ h => nomatch h)⟩) (.cons (fun _ h => nomatch h) .nil))
 simp only [List.cons_append, List.nil_append] at M
 dsimp only
 simp only [e0, e1, e2, e3, e4, Z2]
 refine wpL_store (g := g34) (off := 0) (n := 4) (cs := fel (fpow x ((pF + 3) / 8))) (by rfl) (by rfl) (by rfl) (by rfl) (by rfl) (M.t 1 rfl) (by simp [flen]) info24 (fel_one _) (fun w35 P R T => ?_)
 replace M := M.putS 1 0 rfl P R T rfl ⟨.inl rfl, trivial⟩
 simp only [Z0] at M
 refine Z9 (Z10 ?_)
 refine hK17 _ _ ?_
 refine Z4 (fun K36 hK36 => ?_)
 refine Z4 (fun K37 hK37 => ?_)
 refine wp_region_grow 5 [] (by kernel_rfl) (by kernel_rfl) (by kernel_rfl) (fun Lk hLk => ?_)
 simp only [Z1,Z2]
 refine wpV_load (cs := fel (fpow x ((pF + 3) / 8))) (by rfl) rfl rfl (M.r 1 0 rfl rfl) (M.lt 1 rfl) Try.underlying24 rfl info24 ?_
 simp only [Z7,Z0]
 refine wpV_load (cs := fel (fpow x ((pF + 3) / 8))) (by rfl) rfl rfl (M.r 1 0 rfl rfl) (M.lt 1 rfl) Try.underlying24 rfl info24 ?_
 simp only [Z7,Z0]
 refine Z20 (v := fe (fmul (fpow x ((pF + 3) / 8)) (fpow x ((pF + 3) / 8)))) (args := #[fe (fpow x ((pF + 3) / 8)), fe (fpow x ((pF + 3) / 8))]) (by rfl) rfl Try.func42 (by kernel_rfl) (by kernel_rfl) rfl (fun W hW => rmul04_c (fpow_lt ..) (fpow_lt ..)) ?_
 simp only [Z7,Z0]
 refine wpV_load (cs := fel x) (by rfl) rfl rfl (M.r 6 0 rfl rfl) (M.lt 6 rfl) Try.underlying24 rfl info24 ?_
 simp only [Z7,Z0]
 refine Z19 (v := .bool (decide (fmul (fpow x ((pF + 3) / 8)) (fpow x ((pF + 3) / 8)) ≠ x))) (by rfl) (by rfl) (fun W hW => ?_) ?_
 ·
  exact run_neq_fe (fmul_lt ..) hx Try.underlying24 Try.underlying22 info22 (by kernel_rfl) rfl rfl rfl W
 simp only [Z7,Z0]
 refine Z14 (hLk.out _ ?_)
 clear hLk Lk
 simp only [Z1,Z2]
 iterate 5 refine wpN_skip (by rfl) ?_
 refine wpN_nil (fun w39 Sw39 hbs => ?_)
 clear hbs
 replace M := M.sees Sw39
 refine Z9 (Z10 ?_)
 refine hK37 _ _ ?_
 cases hc40 : (decide (fmul (fpow x ((pF + 3) / 8)) (fpow x ((pF + 3) / 8)) ≠ x))
 ·
  have q41 : fmul (fpow x ((pF + 3) / 8)) (fpow x ((pF + 3) / 8)) = x := Decidable.not_not.1 (of_decide_eq_false hc40)
  have hr2 := root_a hl q41
  refine Z6 rfl ?_
  refine wp_skip ?_
  refine hK36 _ _ ?_
  refine Z4 (fun K42 hK42 => ?_)
  refine Z4 (fun K43 hK43 => ?_)
  refine wp_region_grow 5 [] (by kernel_rfl) (by kernel_rfl) (by kernel_rfl) (fun Lk hLk => ?_)
  simp only [Z1,Z2]
  refine wpV_load (cs := fel (fpow x ((pF + 3) / 8))) (by rfl) rfl rfl (M.r 1 0 rfl rfl) (M.lt 1 rfl) Try.underlying24 rfl info24 ?_
  simp only [Z7,Z0]
  refine wpV_load (cs := fel (fpow x ((pF + 3) / 8))) (by rfl) rfl rfl (M.r 1 0 rfl rfl) (M.lt 1 rfl) Try.underlying24 rfl info24 ?_
  simp only [Z7,Z0]
  refine Z20 (v := fe (fmul (fpow x ((pF + 3) / 8)) (fpow x ((pF + 3) / 8)))) (args := #[fe (fpow x ((pF + 3) / 8)), fe (fpow x ((pF + 3) / 8))]) (by rfl) rfl Try.func42 (by kernel_rfl) (by kernel_rfl) rfl (fun W hW => rmul04_c (fpow_lt ..) (fpow_lt ..)) ?_
  simp only [Z7,Z0]
  refine wpV_load (cs := fel x) (by rfl) rfl rfl (M.r 6 0 rfl rfl) (M.lt 6 rfl) Try.underlying24 rfl info24 ?_
  simp only [Z7,Z0]
  refine Z19 (v := .bool false) (by rfl) (by rfl) (fun W hW => ?_) ?_
  ·
   exact hc40 ▸ run_neq_fe (fmul_lt ..) hx Try.underlying24 Try.underlying22 info22 (by kernel_rfl) rfl rfl rfl W
  simp only [Z7,Z0]
  refine Z14 (hLk.out _ ?_)
  clear hLk Lk
  simp only [Z1,Z2]
  iterate 5 refine wpN_skip (by rfl) ?_
  refine wpN_nil (fun w45 Sw45 hbs => ?_)
  clear hbs
  replace M := M.sees Sw45
  refine Z9 (Z10 ?_)
  refine hK43 _ _ ?_
  refine Z6 rfl ?_
  refine wp_skip ?_
  refine hK42 _ _ ?_
  refine Z4 (fun K46 hK46 => ?_)
  refine Z4 (fun K47 hK47 => ?_)
  refine Z8 ?_
  refine Z11 4 (by rfl) (fun Lk hLk => ?_)
  simp only [Z1,Z2]
  refine Z19 (v := .pointer (some ⟨g34, 0, none⟩)) (by rfl) (by rfl) (fun W hW => ?_) ?_
  ·
   (go_simp; exact rfl)
  simp only [Z7,Z0]
  refine wpV_load1 (v := .int .u64 (limb (fpow x ((pF + 3) / 8)) 0)) (by rfl) rfl rfl (range_one (range_sub (M.r 1 0 rfl rfl) 0 1 0 (xs := [.int .u64 (limb (fpow x ((pF + 3) / 8)) 0)]) rfl rfl)) (M.lt 1 rfl) Try.underlying22 rfl ?_
  simp only [Z7,Z0]
  refine Z15 (v := .int .u64 (((fpow x ((pF + 3) / 8)) % 2 : Nat) : Int)) (by rfl) rfl rfl rfl (fun W => rem_limb0 _ W) ?_
  simp only [Z7,Z0]
  refine Z15 (v := .bool (decide ((fpow x ((pF + 3) / 8)) % 2 = 1))) (by rfl) rfl rfl rfl (fun W => run_eqlN ((fpow x ((pF + 3) / 8)) % 2) 1 _ _ W) ?_
  simp only [Z7,Z0]
  refine Z14 (hLk _ (fun w49 Sw49 => ?_))
  clear hLk Lk
  simp only [Z1,Z2]
  replace M := M.sees Sw49
  refine Z9 (Z10 ?_)
  refine hK47 _ _ ?_
  cases hc50 : (decide ((fpow x ((pF + 3) / 8)) % 2 = 1))
  ·
   have q51 : ¬ ((fpow x ((pF + 3) / 8)) % 2 = 1) := of_decide_eq_false hc50
   refine Z6 rfl ?_
   refine wp_skip ?_
   refine hK46 _ _ ?_
   refine Z4 (fun K52 hK52 => ?_)
   refine Z8 ?_
   refine Z11 1 (by rfl) (fun Lk hLk => ?_)
   simp only [Z1,Z2]
   refine wpV_load (cs := fel (fpow x ((pF + 3) / 8))) (by rfl) rfl rfl (M.r 1 0 rfl rfl) (M.lt 1 rfl) Try.underlying24 rfl info24 ?_
   simp only [Z7,Z0]
   refine Z14 (hLk _ (fun w54 Sw54 => ?_))
   clear hLk Lk
   simp only [Z1,Z2]
   replace M := M.sees Sw54
   refine wpL_store (g := g5) (off := 0) (n := 4) (cs := fel (fpow x ((pF + 3) / 8))) (by rfl) (by rfl) (by rfl) (by rfl) (by rfl) (M.t 5 rfl) (by simp [flen]) info24 (fel_one _) (fun w55 P R T => ?_)
   replace M := M.putS 5 0 rfl P R T rfl ⟨.inl rfl, trivial⟩
   simp only [Z0] at M
   refine Z13 (v := .bool true) (by rfl) (by rfl) (by rfl) ?_
   simp only [Z7,Z0]
   refine Z9 (Z10 ?_)
   refine hK52 _ _ ?_
   refine wp_ret ?_
   repeat (first | with_reducible refine then_ret ?_ | with_reducible refine inblock_ret ?_)
   refine bodyPost_ret (v := .tuple #[fe (fpow x ((pF + 3) / 8)), .bool true]) (res2 rfl (.cell (by rfl) (run_loadVar_mid _ _ _ _ (fel (fpow x ((pF + 3) / 8))) _ (M.r 5 0 rfl rfl) Try.underlying24 rfl info24)) (.tmp (by rfl))) rfl ?_
   have BE := M.below
   exact ⟨by rw [sqrt_even (x := x) (by rw [hr2, hl]; exact q41) (by rw [hr2]; exact q51), hr2], BE⟩
  ·
   have q56 : ((fpow x ((pF + 3) / 8)) % 2 = 1) := of_decide_eq_true hc50
   refine Z5 rfl ?_
   refine Z4 (fun K57 hK57 => ?_)
   refine Z8 ?_
   refine Z11 3 (by rfl) (fun Lk hLk => ?_)
   simp only [Z1,Z2]
   refine Z19 (v := fe 0) (by rfl) (by rfl) (fun W hW => ?_) ?_
   ·
    rw [show fe 0 = .agg ([.int .u64 0, .int .u64 0, .int .u64 0, .int .u64 0]).toArray from (by kernel_rfl)]; unfold RunsVal; kernel_rfl
   simp only [Z7,Z0]
   refine wpV_load (cs := fel (fpow x ((pF + 3) / 8))) (by rfl) rfl rfl (M.r 1 0 rfl rfl) (M.lt 1 rfl) Try.underlying24 rfl info24 ?_
   simp only [Z7,Z0]
   refine Z20 (v := fe (fsub 0 (fpow x ((pF + 3) / 8)))) (args := #[fe 0, fe (fpow x ((pF + 3) / 8))]) (by rfl) rfl Try.func37 (by kernel_rfl) (by kernel_rfl) rfl (fun W hW => rsub04_c (by decide) (fpow_lt ..)) ?_
   simp only [Z7,Z0]
   refine Z14 (hLk _ (fun w59 Sw59 => ?_))
   clear hLk Lk
   simp only [Z1,Z2]
   replace M := M.sees Sw59
   refine wpL_store (g := g5) (off := 0) (n := 4) (cs := fel (fsub 0 (fpow x ((pF + 3) / 8)))) (by rfl) (by rfl) (by rfl) (by rfl) (by rfl) (M.t 5 rfl) (by simp [flen]) info24 (fel_one _) (fun w60 P R T => ?_)
   replace M := M.putS 5 0 rfl P R T rfl ⟨.inl rfl, trivial⟩
   simp only [Z0] at M
   refine Z13 (v := .bool true) (by rfl) (by rfl) (by rfl) ?_
   simp only [Z7,Z0]
   refine Z9 (Z10 ?_)
   refine hK57 _ _ ?_
   refine wp_ret ?_
   repeat (first | with_reducible refine then_ret ?_ | with_reducible refine inblock_ret ?_)
   refine bodyPost_ret (v := .tuple #[fe (fsub 0 (fpow x ((pF + 3) / 8))), .bool true]) (res2 rfl (.cell (by rfl) (run_loadVar_mid _ _ _ _ (fel (fsub 0 (fpow x ((pF + 3) / 8)))) _ (M.r 5 0 rfl rfl) Try.underlying24 rfl info24)) (.tmp (by rfl))) rfl ?_
   have BE := M.below
   exact ⟨by rw [sqrt_odd (x := x) (by rw [hr2, hl]; exact q41) (by rw [hr2]; exact q56), hr2], BE⟩
 ·
  have q61 : (fmul (fpow x ((pF + 3) / 8)) (fpow x ((pF + 3) / 8)) ≠ x) := of_decide_eq_true hc40
  have hr2 := root_b hl q61
  refine Z5 rfl ?_
  refine wp_region_addsF 10 [] [3, 4, 5, 6, 7] [ValRel (fe (fpow x ((pF + 3) / 8))), ValRel (fe 2), ValRel (.slice (some ⟨g10, 0, none⟩) 16 g10c), BoxRel w39 (fun gA => .slice (some ⟨gA, 0, none⟩) 1 1) 1 [(0, dl 1 1)], NewRel0 w39 (fun gA gAc => .slice (some ⟨gA, 0, none⟩) 16 gAc) 16 [(0, dl 16 (pF - 1))], BoxRel w39 (fun gA => .slice (some ⟨gA, 0, none⟩) 1 1) 1 [(0, dl 1 2)], NewRel0 w39 (fun gA gAc => .slice (some ⟨gA, 0, none⟩) 16 gAc) 16 [(0, dl 16 ((pF - 1) * 2))], NewRel w39 (fun gA gAc => .slice (some ⟨gA, 0, none⟩) 16 gAc) 16 [(0, dl 16 (((pF - 1) * 2) / 8))], ValRel (fe (fpow 2 (((pF - 1) * 2) / 8))), ValRel (fe (fmul (fpow x ((pF + 3) / 8)) (fpow 2 (((pF - 1) * 2) / 8))))] [[], [], [], [], [2, 3], [], [4, 5], [6], [1, 7], [0, 8]] (fun vs => { tmps := #[fe x, .pointer (some ⟨g3, 0, none⟩), .pointer (some ⟨g5, 0, none⟩), .bool false, .slice (some ⟨g10, 0, none⟩) 16 g10c, .slice (some ⟨g16, 0, none⟩) 16 g16c, .pointer (some ⟨g34, 0, none⟩), .slice (some ⟨g10, 0, none⟩) 16 g10c, .slice (some ⟨g10, 0, none⟩) 16 g10c, .slice (some ⟨g13, 0, none⟩) 1 1, .slice (some ⟨g16, 0, none⟩) 16 g16c, fe x, .slice (some ⟨g16, 0, none⟩) 16 g16c, .slice (some ⟨g33, 0, none⟩) 16 g33c, fe (fpow x ((pF + 3) / 8)), fe (fpow x ((pF + 3) / 8)), fe (fpow x ((pF + 3) / 8)), fe (fmul (fpow x ((pF + 3) / 8)) (fpow x ((pF + 3) / 8))), fe x, .bool true, vs 0, vs 1, vs 2, vs 3, vs 4, vs 5, vs 6, vs 7, vs 8, vs 9, Z3, Z3, Z3, Z3, Z3, Z3, Z3, Z3, Z3, Z3, Z3, Z3, Z3, Z3], defers := [] }) (by kernel_rfl) (by kernel_rfl) (by kernel_rfl) (by kernel_rfl) (.cons keep_val (.cons keep_val (.cons keep_val (.cons keep_box (.cons keep_new0 (.cons keep_box (.cons keep_new0 (.cons keep_new (.cons keep_val (.cons keep_val AllKeep.nil)))))))))) (.free free_val (.free free_val (.free free_val (.free free_box (.free free_new0 (.free free_box (.free free_new0 (.free free_new (.free free_val (.free free_val AllLoc.nil)))))))))) (.cons own_box (.cons own_new0 (.cons own_box (.cons own_new0 (.cons own_new AllOwn.nil))))) (by kernel_rfl) ?_ ?_
  ·
   simp only [Z1]
   refine RulesL.cons (fun vs => { tmps := #[fe x, .pointer (some ⟨g3, 0, none⟩), .pointer (some ⟨g5, 0, none⟩), .bool false, .slice (some ⟨g10, 0, none⟩) 16 g10c, .slice (some ⟨g16, 0, none⟩) 16 g16c, .pointer (some ⟨g34, 0, none⟩), .slice (some ⟨g10, 0, none⟩) 16 g10c, .slice (some ⟨g10, 0, none⟩) 16 g10c, .slice (some ⟨g13, 0, none⟩) 1 1, .slice (some ⟨g16, 0, none⟩) 16 g16c, fe x, .slice (some ⟨g16, 0, none⟩) 16 g16c, .slice (some ⟨g33, 0, none⟩) 16 g33c, fe (fpow x ((pF + 3) / 8)), fe (fpow x ((pF + 3) / 8)), fe (fpow x ((pF + 3) / 8)), fe (fmul (fpow x ((pF + 3) / 8)) (fpow x ((pF + 3) / 8))), fe x, .bool true, Z3, Z3, Z3, Z3, Z3, Z3, Z3, Z3, Z3, Z3, Z3, Z3, Z3, Z3, Z3, Z3, Z3, Z3, Z3, Z3, Z3, Z3, Z3, Z3], defers := [] }) (by kernel_rfl) ?_ ?_
   ·
    intro vs gs W64 SW64 D K9 hK9
    replace M := M.sees SW64
    dsimp only at hK9
    dsimp only
    refine Z11 1 (by rfl) (fun Lk hLk => ?_)
    simp only [Z1,Z2]
    refine wpV_load (cs := fel (fpow x ((pF + 3) / 8))) (by rfl) rfl rfl (M.r 1 0 rfl rfl) (M.lt 1 rfl) Try.underlying24 rfl info24 ?_
    simp only [Z7,Z0]
    refine Z14 (hLk _ (fun w65 Sw65 => ?_))
    clear hLk Lk
    simp only [Z1,Z2]
    replace M := M.sees Sw65
    refine Z9 (Z17 ?_)
    have h8 := hK9 (fe (fpow x ((pF + 3) / 8)))
    have h9 := h8 0 _ Sw65 rfl (fun h => absurd h (by decide))
    simp only [Z7,Z0] at h9
    exact h9
   refine RulesL.cons (fun vs => { tmps := #[fe x, .pointer (some ⟨g3, 0, none⟩), .pointer (some ⟨g5, 0, none⟩), .bool false, .slice (some ⟨g10, 0, none⟩) 16 g10c, .slice (some ⟨g16, 0, none⟩) 16 g16c, .pointer (some ⟨g34, 0, none⟩), .slice (some ⟨g10, 0, none⟩) 16 g10c, .slice (some ⟨g10, 0, none⟩) 16 g10c, .slice (some ⟨g13, 0, none⟩) 1 1, .slice (some ⟨g16, 0, none⟩) 16 g16c, fe x, .slice (some ⟨g16, 0, none⟩) 16 g16c, .slice (some ⟨g33, 0, none⟩) 16 g33c, fe (fpow x ((pF + 3) / 8)), fe (fpow x ((pF + 3) / 8)), fe (fpow x ((pF + 3) / 8)), fe (fmul (fpow x ((pF + 3) / 8)) (fpow x ((pF + 3) / 8))), fe x, .bool true, Z3, Z3, Z3, Z3, Z3, Z3, Z3, Z3, Z3, Z3, Z3, Z3, Z3, Z3, Z3, Z3, Z3, Z3, Z3, Z3, Z3, Z3, Z3, Z3], defers := [] }) (by kernel_rfl) ?_ ?_
   ·
    intro vs gs W66 SW66 D K9 hK9
    replace M := M.sees SW66
    dsimp only at hK9
    dsimp only
    refine Z11 1 (by rfl) (fun Lk hLk => ?_)
    simp only [Z1,Z2]
    refine Z19 (v := fe 2) (by rfl) (by rfl) (fun W hW => ?_) ?_
    ·
     rw [show fe 2 = .agg ([.int .u64 2, .int .u64 0, .int .u64 0, .int .u64 0]).toArray from (by kernel_rfl)]; unfold RunsVal; kernel_rfl
    simp only [Z7,Z0]
    refine Z14 (hLk _ (fun w67 Sw67 => ?_))
    clear hLk Lk
    simp only [Z1,Z2]
    replace M := M.sees Sw67
    refine Z9 (Z17 ?_)
    have h8 := hK9 (fe 2)
    have h9 := h8 0 _ Sw67 rfl (fun h => absurd h (by decide))
    simp only [Z7,Z0] at h9
    exact h9
   refine RulesL.cons (fun vs => { tmps := #[fe x, .pointer (some ⟨g3, 0, none⟩), .pointer (some ⟨g5, 0, none⟩), .bool false, .slice (some ⟨g10, 0, none⟩) 16 g10c, .slice (some ⟨g16, 0, none⟩) 16 g16c, .pointer (some ⟨g34, 0, none⟩), .slice (some ⟨g10, 0, none⟩) 16 g10c, .slice (some ⟨g10, 0, none⟩) 16 g10c, .slice (some ⟨g13, 0, none⟩) 1 1, .slice (some ⟨g16, 0, none⟩) 16 g16c, fe x, .slice (some ⟨g16, 0, none⟩) 16 g16c, .slice (some ⟨g33, 0, none⟩) 16 g33c, fe (fpow x ((pF + 3) / 8)), fe (fpow x ((pF + 3) / 8)), fe (fpow x ((pF + 3) / 8)), fe (fmul (fpow x ((pF + 3) / 8)) (fpow x ((pF + 3) / 8))), fe x, .bool true, Z3, Z3, Z3, Z3, Z3, Z3, Z3, Z3, Z3, Z3, Z3, Z3, Z3, Z3, Z3, Z3, Z3, Z3, Z3, Z3, Z3, Z3, Z3, Z3], defers := [] }) (by kernel_rfl) ?_ ?_
   ·
    intro vs gs W68 SW68 D K9 hK9
    replace M := M.sees SW68
    dsimp only at hK9
    dsimp only
    refine Z12 (v := .slice (some ⟨g10, 0, none⟩) 16 g10c) (by rfl) (by rfl) (by rfl) ?_
    simp only [Z7,Z0]
    refine Z9 (Z17 ?_)
    have h8 := hK9 (.slice (some ⟨g10, 0, none⟩) 16 g10c)
    have h9 := h8 0 _ (sees_refl _) rfl (fun h => absurd h (by decide))
    simp only [Z7,Z0] at h9
    exact h9
   refine RulesL.cons (fun vs => { tmps := #[fe x, .pointer (some ⟨g3, 0, none⟩), .pointer (some ⟨g5, 0, none⟩), .bool false, .slice (some ⟨g10, 0, none⟩) 16 g10c, .slice (some ⟨g16, 0, none⟩) 16 g16c, .pointer (some ⟨g34, 0, none⟩), .slice (some ⟨g10, 0, none⟩) 16 g10c, .slice (some ⟨g10, 0, none⟩) 16 g10c, .slice (some ⟨g13, 0, none⟩) 1 1, .slice (some ⟨g16, 0, none⟩) 16 g16c, fe x, .slice (some ⟨g16, 0, none⟩) 16 g16c, .slice (some ⟨g33, 0, none⟩) 16 g33c, fe (fpow x ((pF + 3) / 8)), fe (fpow x ((pF + 3) / 8)), fe (fpow x ((pF + 3) / 8)), fe (fmul (fpow x ((pF + 3) / 8)) (fpow x ((pF + 3) / 8))), fe x, .bool true, Z3, Z3, Z3, Z3, Z3, Z3, Z3, Z3, Z3, Z3, Z3, Z3, Z3, Z3, Z3, Z3, Z3, Z3, Z3, Z3, Z3, Z3, Z3, Z3], defers := [] }) (by kernel_rfl) ?_ ?_
   ·
    intro vs gs W69 SW69 D K9 hK9
    replace M := M.sees SW69
    have Rg33_0 := M.r 0 0 rfl rfl
    have Lg33 := M.lt 0 rfl
    have Rg34_0 := M.r 1 0 rfl rfl
    have Lg34 := M.lt 1 rfl
    have Rg16_0 := M.r 2 0 rfl rfl
    have Lg16 := M.lt 2 rfl
    have Rg13_0 := M.r 3 0 rfl rfl
    have Lg13 := M.lt 3 rfl
    have Rg10_0 := M.r 4 0 rfl rfl
    have Lg10 := M.lt 4 rfl
    have Rg5_0 := M.r 5 0 rfl rfl
    have Lg5 := M.lt 5 rfl
    have Rg3_0 := M.r 6 0 rfl rfl
    have Lg3 := M.lt 6 rfl
    have BB := M.below
    replace M := Mem.start W69
    dsimp only at hK9
    dsimp only
    refine wpL_rowN (vs := [.int .i64 1]) (z := .int .i64 0) (bytes := 8) (by rfl) (by rfl) Try.underlying100 (by kernel_rfl) (by decide) (by kernel_rfl) (fun g70 w71 Sw71 Hg70 Bg70 => ?_)
    replace M := ((M.sees Sw71).add (N := 1) (cs := [.int .i64 1]) (M.ge Hg70) (M.fresh Hg70) Bg70 rfl)
    replace M := M.read1 (cs := dl 1 1) 0 rfl (by rw [dl_one (v := 1) (by omega)]; exact M.r 0 0 rfl rfl)
    simp only [Z0] at M
    clear Bg70
    simp only [Z7,Z0]
    refine Z9 (Z17 ?_)
    have h8 := hK9 (.slice (some ⟨g70, 0, none⟩) 1 1)
    have h9 := h8 g70 _ M.seesAll ⟨rfl, (M.ok _ (.head _)).up SW69⟩ (fun _ => (M.ok _ (.head _)).ge)
    simp only [Z7,Z0] at h9
    exact h9
   refine RulesL.cons (fun vs => { tmps := #[fe x, .pointer (some ⟨g3, 0, none⟩), .pointer (some ⟨g5, 0, none⟩), .bool false, .slice (some ⟨g10, 0, none⟩) 16 g10c, .slice (some ⟨g16, 0, none⟩) 16 g16c, .pointer (some ⟨g34, 0, none⟩), .slice (some ⟨g10, 0, none⟩) 16 g10c, .slice (some ⟨g10, 0, none⟩) 16 g10c, .slice (some ⟨g13, 0, none⟩) 1 1, .slice (some ⟨g16, 0, none⟩) 16 g16c, fe x, .slice (some ⟨g16, 0, none⟩) 16 g16c, .slice (some ⟨g33, 0, none⟩) 16 g33c, fe (fpow x ((pF + 3) / 8)), fe (fpow x ((pF + 3) / 8)), fe (fpow x ((pF + 3) / 8)), fe (fmul (fpow x ((pF + 3) / 8)) (fpow x ((pF + 3) / 8))), fe x, .bool true, Z3, Z3, vs 2, vs 3, Z3, Z3, Z3, Z3, Z3, Z3, Z3, Z3, Z3, Z3, Z3, Z3, Z3, Z3, Z3, Z3, Z3, Z3, Z3, Z3], defers := [] }) (by kernel_rfl) ?_ ?_
   ·
    intro vs gs W72 SW72 D K9 hK9
    replace M := M.sees SW72
    have Rg33_0 := M.r 0 0 rfl rfl
    have Lg33 := M.lt 0 rfl
    have Rg34_0 := M.r 1 0 rfl rfl
    have Lg34 := M.lt 1 rfl
    have Rg16_0 := M.r 2 0 rfl rfl
    have Lg16 := M.lt 2 rfl
    have Rg13_0 := M.r 3 0 rfl rfl
    have Lg13 := M.lt 3 rfl
    have Rg10_0 := M.r 4 0 rfl rfl
    have Lg10 := M.lt 4 rfl
    have Rg5_0 := M.r 5 0 rfl rfl
    have Lg5 := M.lt 5 rfl
    have Rg3_0 := M.r 6 0 rfl rfl
    have Lg3 := M.lt 6 rfl
    have BB := M.below
    replace M := Mem.start W72
    obtain ⟨D2, D3, _⟩ := D
    have e2 : vs 2 = .slice (some ⟨g10, 0, none⟩) 16 g10c := D2
    obtain ⟨e3, Og73⟩ := D3
    generalize gs 3 = g73 at *
    replace e3 : vs 3 = .slice (some ⟨g73, 0, none⟩) 1 1 := e3
    have Rg73_0 := Og73.range (0, dl 1 1) (by simp only [List.mem_cons, true_or, or_true])
    have Lg73 := Og73.lt
    dsimp only at hK9
    dsimp only
    rw [e2, e3] at hK9 ⊢
    refine wpL_callE (f := 70) (args := #[.slice (some ⟨g10, 0, none⟩) 16 g10c, .slice (some ⟨g73, 0, none⟩) 1 1]) (R := fun v9 W9 => ∃ g75 g75c, v9 = .slice (some ⟨g75, 0, none⟩) 16 g75c ∧ 16 ≤ g75c ∧ Mem [] W72 W9 [⟨g75, 0, [(0, dl 16 (pF - 1))]⟩]) (by rfl) (by rfl) rfl Try.func70 (by kernel_rfl) (by kernel_rfl) (minus04_1 Cg10 (M.oldL Lg10) (M.oldR Rg10_0 Lg10) (Nat.le_refl _) (M.oldL Lg73) (M.oldR Rg73_0 Lg73)) (fun v9 w74 hv9 Sw74 => ?_)
    obtain ⟨g75, g75c, rfl, Cg75, M9⟩ := hv9
    replace M := M.call1 M9
    clear Sw74
    simp only [Z7,Z0]
    refine Z9 (Z17 ?_)
    have h8 := hK9 (.slice (some ⟨g75, 0, none⟩) 16 g75c)
    have h9 := h8 g75 _ M.seesAll ⟨g75c, rfl, Cg75, (M.ok _ (.head _)).up SW72⟩ (fun _ => (M.ok _ (.head _)).ge)
    simp only [Z7,Z0] at h9
    exact h9
   refine RulesL.cons (fun vs => { tmps := #[fe x, .pointer (some ⟨g3, 0, none⟩), .pointer (some ⟨g5, 0, none⟩), .bool false, .slice (some ⟨g10, 0, none⟩) 16 g10c, .slice (some ⟨g16, 0, none⟩) 16 g16c, .pointer (some ⟨g34, 0, none⟩), .slice (some ⟨g10, 0, none⟩) 16 g10c, .slice (some ⟨g10, 0, none⟩) 16 g10c, .slice (some ⟨g13, 0, none⟩) 1 1, .slice (some ⟨g16, 0, none⟩) 16 g16c, fe x, .slice (some ⟨g16, 0, none⟩) 16 g16c, .slice (some ⟨g33, 0, none⟩) 16 g33c, fe (fpow x ((pF + 3) / 8)), fe (fpow x ((pF + 3) / 8)), fe (fpow x ((pF + 3) / 8)), fe (fmul (fpow x ((pF + 3) / 8)) (fpow x ((pF + 3) / 8))), fe x, .bool true, Z3, Z3, Z3, Z3, Z3, Z3, Z3, Z3, Z3, Z3, Z3, Z3, Z3, Z3, Z3, Z3, Z3, Z3, Z3, Z3, Z3, Z3, Z3, Z3], defers := [] }) (by kernel_rfl) ?_ ?_
   ·
    intro vs gs W76 SW76 D K9 hK9
    replace M := M.sees SW76
    have Rg33_0 := M.r 0 0 rfl rfl
    have Lg33 := M.lt 0 rfl
    have Rg34_0 := M.r 1 0 rfl rfl
    have Lg34 := M.lt 1 rfl
    have Rg16_0 := M.r 2 0 rfl rfl
    have Lg16 := M.lt 2 rfl
    have Rg13_0 := M.r 3 0 rfl rfl
    have Lg13 := M.lt 3 rfl
    have Rg10_0 := M.r 4 0 rfl rfl
    have Lg10 := M.lt 4 rfl
    have Rg5_0 := M.r 5 0 rfl rfl
    have Lg5 := M.lt 5 rfl
    have Rg3_0 := M.r 6 0 rfl rfl
    have Lg3 := M.lt 6 rfl
    have BB := M.below
    replace M := Mem.start W76
    dsimp only at hK9
    dsimp only
    refine wpL_rowN (vs := [.int .i64 2]) (z := .int .i64 0) (bytes := 8) (by rfl) (by rfl) Try.underlying100 (by kernel_rfl) (by decide) (by kernel_rfl) (fun g77 w78 Sw78 Hg77 Bg77 => ?_)
    replace M := ((M.sees Sw78).add (N := 1) (cs := [.int .i64 2]) (M.ge Hg77) (M.fresh Hg77) Bg77 rfl)
    replace M := M.read1 (cs := dl 1 2) 0 rfl (by rw [dl_one (v := 2) (by omega)]; exact M.r 0 0 rfl rfl)
    simp only [Z0] at M
    clear Bg77
    simp only [Z7,Z0]
    refine Z9 (Z17 ?_)
    have h8 := hK9 (.slice (some ⟨g77, 0, none⟩) 1 1)
    have h9 := h8 g77 _ M.seesAll ⟨rfl, (M.ok _ (.head _)).up SW76⟩ (fun _ => (M.ok _ (.head _)).ge)
    simp only [Z7,Z0] at h9
    exact h9
   refine RulesL.cons (fun vs => { tmps := #[fe x, .pointer (some ⟨g3, 0, none⟩), .pointer (some ⟨g5, 0, none⟩), .bool false, .slice (some ⟨g10, 0, none⟩) 16 g10c, .slice (some ⟨g16, 0, none⟩) 16 g16c, .pointer (some ⟨g34, 0, none⟩), .slice (some ⟨g10, 0, none⟩) 16 g10c, .slice (some ⟨g10, 0, none⟩) 16 g10c, .slice (some ⟨g13, 0, none⟩) 1 1, .slice (some ⟨g16, 0, none⟩) 16 g16c, fe x, .slice (some ⟨g16, 0, none⟩) 16 g16c, .slice (some ⟨g33, 0, none⟩) 16 g33c, fe (fpow x ((pF + 3) / 8)), fe (fpow x ((pF + 3) / 8)), fe (fpow x ((pF + 3) / 8)), fe (fmul (fpow x ((pF + 3) / 8)) (fpow x ((pF + 3) / 8))), fe x, .bool true, Z3, Z3, Z3, Z3, vs 4, vs 5, Z3, Z3, Z3, Z3, Z3, Z3, Z3, Z3, Z3, Z3, Z3, Z3, Z3, Z3, Z3, Z3, Z3, Z3], defers := [] }) (by kernel_rfl) ?_ ?_
   ·
    intro vs gs W79 SW79 D K9 hK9
    replace M := M.sees SW79
    have Rg33_0 := M.r 0 0 rfl rfl
    have Lg33 := M.lt 0 rfl
    have Rg34_0 := M.r 1 0 rfl rfl
    have Lg34 := M.lt 1 rfl
    have Rg16_0 := M.r 2 0 rfl rfl
    have Lg16 := M.lt 2 rfl
    have Rg13_0 := M.r 3 0 rfl rfl
    have Lg13 := M.lt 3 rfl
    have Rg10_0 := M.r 4 0 rfl rfl
    have Lg10 := M.lt 4 rfl
    have Rg5_0 := M.r 5 0 rfl rfl
    have Lg5 := M.lt 5 rfl
    have Rg3_0 := M.r 6 0 rfl rfl
    have Lg3 := M.lt 6 rfl
    have BB := M.below
    replace M := Mem.start W79
    obtain ⟨D4, D5, _⟩ := D
    obtain ⟨g80c, e4, Cg80, Og80⟩ := D4
    generalize gs 4 = g80 at *
    replace e4 : vs 4 = .slice (some ⟨g80, 0, none⟩) 16 g80c := e4
    have Rg80_0 := Og80.range (0, dl 16 (pF - 1)) (by simp only [List.mem_cons, true_or, or_true])
    have Lg80 := Og80.lt
    obtain ⟨e5, Og81⟩ := D5
    generalize gs 5 = g81 at *
    replace e5 : vs 5 = .slice (some ⟨g81, 0, none⟩) 1 1 := e5
    have Rg81_0 := Og81.range (0, dl 1 2) (by simp only [List.mem_cons, true_or, or_true])
    have Lg81 := Og81.lt
    dsimp only at hK9
    dsimp only
    rw [e4, e5] at hK9 ⊢
    refine wpL_callE (f := 77) (args := #[.slice (some ⟨g80, 0, none⟩) 16 g80c, .slice (some ⟨g81, 0, none⟩) 1 1]) (R := fun v9 W9 => ∃ g83 g83c, v9 = .slice (some ⟨g83, 0, none⟩) 16 g83c ∧ 16 ≤ g83c ∧ Mem [] W79 W9 [⟨g83, 0, [(0, dl 16 ((pF - 1) * 2))]⟩]) (by rfl) (by rfl) rfl Try.func77 (by kernel_rfl) (by kernel_rfl) (times04_2 Cg80 (M.oldL Lg80) (M.oldR Rg80_0 Lg80) (Nat.le_refl _) (M.oldL Lg81) (M.oldR Rg81_0 Lg81)) (fun v9 w82 hv9 Sw82 => ?_)
    obtain ⟨g83, g83c, rfl, Cg83, M9⟩ := hv9
    replace M := M.call1 M9
    clear Sw82
    simp only [Z7,Z0]
    refine Z9 (Z17 ?_)
    have h8 := hK9 (.slice (some ⟨g83, 0, none⟩) 16 g83c)
    have h9 := h8 g83 _ M.seesAll ⟨g83c, rfl, Cg83, (M.ok _ (.head _)).up SW79⟩ (fun _ => (M.ok _ (.head _)).ge)
    simp only [Z7,Z0] at h9
    exact h9
   refine RulesL.cons (fun vs => { tmps := #[fe x, .pointer (some ⟨g3, 0, none⟩), .pointer (some ⟨g5, 0, none⟩), .bool false, .slice (some ⟨g10, 0, none⟩) 16 g10c, .slice (some ⟨g16, 0, none⟩) 16 g16c, .pointer (some ⟨g34, 0, none⟩), .slice (some ⟨g10, 0, none⟩) 16 g10c, .slice (some ⟨g10, 0, none⟩) 16 g10c, .slice (some ⟨g13, 0, none⟩) 1 1, .slice (some ⟨g16, 0, none⟩) 16 g16c, fe x, .slice (some ⟨g16, 0, none⟩) 16 g16c, .slice (some ⟨g33, 0, none⟩) 16 g33c, fe (fpow x ((pF + 3) / 8)), fe (fpow x ((pF + 3) / 8)), fe (fpow x ((pF + 3) / 8)), fe (fmul (fpow x ((pF + 3) / 8)) (fpow x ((pF + 3) / 8))), fe x, .bool true, Z3, Z3, Z3, Z3, Z3, Z3, vs 6, Z3, Z3, Z3, Z3, Z3, Z3, Z3, Z3, Z3, Z3, Z3, Z3, Z3, Z3, Z3, Z3, Z3], defers := [] }) (by kernel_rfl) ?_ ?_
   ·
    intro vs gs W84 SW84 D K9 hK9
    replace M := M.sees SW84
    have Rg33_0 := M.r 0 0 rfl rfl
    have Lg33 := M.lt 0 rfl
    have Rg34_0 := M.r 1 0 rfl rfl
    have Lg34 := M.lt 1 rfl
    have Rg16_0 := M.r 2 0 rfl rfl
    have Lg16 := M.lt 2 rfl
    have Rg13_0 := M.r 3 0 rfl rfl
    have Lg13 := M.lt 3 rfl
    have Rg10_0 := M.r 4 0 rfl rfl
    have Lg10 := M.lt 4 rfl
    have Rg5_0 := M.r 5 0 rfl rfl
    have Lg5 := M.lt 5 rfl
    have Rg3_0 := M.r 6 0 rfl rfl
    have Lg3 := M.lt 6 rfl
    have BB := M.below
    replace M := Mem.start W84
    obtain ⟨D6, _⟩ := D
    obtain ⟨g85c, e6, Cg85, Og85⟩ := D6
    generalize gs 6 = g85 at *
    replace e6 : vs 6 = .slice (some ⟨g85, 0, none⟩) 16 g85c := e6
    have Rg85_0 := Og85.range (0, dl 16 ((pF - 1) * 2)) (by simp only [List.mem_cons, true_or, or_true])
    have Lg85 := Og85.lt
    dsimp only at hK9
    dsimp only
    rw [e6] at hK9 ⊢
    refine wpL_callE (f := 88) (args := #[.slice (some ⟨g85, 0, none⟩) 16 g85c]) (R := fun v9 W9 => ∃ g87 g87c, v9 = .slice (some ⟨g87, 0, none⟩) 16 g87c ∧ 16 ≤ g87c ∧ Mem [] W84 W9 [⟨g87, g87c, [(0, dl 16 (((pF - 1) * 2) / 8))]⟩]) (by rfl) (by rfl) rfl Try.func88 (by kernel_rfl) (by kernel_rfl) (eighth_c (m := ((pF - 1) * 2)) (by decide) (by decide) (RowA.of (M.oldR Rg85_0 Lg85) (M.oldL Lg85) (dl_len _ _).symm Cg85)) (fun v9 w86 hv9 Sw86 => ?_)
    obtain ⟨g87, g87c, rfl, Cg87, M9⟩ := hv9
    replace M := M.call1 M9
    clear Sw86
    simp only [Z7,Z0]
    refine Z9 (Z17 ?_)
    have h8 := hK9 (.slice (some ⟨g87, 0, none⟩) 16 g87c)
    have h9 := h8 g87 _ M.seesAll ⟨g87c, rfl, Cg87, (M.ok _ (.head _)).up SW84⟩ (fun _ => (M.ok _ (.head _)).ge)
    simp only [Z7,Z0] at h9
    exact h9
   refine RulesL.cons (fun vs => { tmps := #[fe x, .pointer (some ⟨g3, 0, none⟩), .pointer (some ⟨g5, 0, none⟩), .bool false, .slice (some ⟨g10, 0, none⟩) 16 g10c, .slice (some ⟨g16, 0, none⟩) 16 g16c, .pointer (some ⟨g34, 0, none⟩), .slice (some ⟨g10, 0, none⟩) 16 g10c, .slice (some ⟨g10, 0, none⟩) 16 g10c, .slice (some ⟨g13, 0, none⟩) 1 1, .slice (some ⟨g16, 0, none⟩) 16 g16c, fe x, .slice (some ⟨g16, 0, none⟩) 16 g16c, .slice (some ⟨g33, 0, none⟩) 16 g33c, fe (fpow x ((pF + 3) / 8)), fe (fpow x ((pF + 3) / 8)), fe (fpow x ((pF + 3) / 8)), fe (fmul (fpow x ((pF + 3) / 8)) (fpow x ((pF + 3) / 8))), fe x, .bool true, Z3, vs 1, Z3, Z3, Z3, Z3, Z3, vs 7, Z3, Z3, Z3, Z3, Z3, Z3, Z3, Z3, Z3, Z3, Z3, Z3, Z3, Z3, Z3, Z3], defers := [] }) (by kernel_rfl) ?_ ?_
   ·
    intro vs gs W88 SW88 D K9 hK9
    replace M := M.sees SW88
    have Rg33_0 := M.r 0 0 rfl rfl
    have Lg33 := M.lt 0 rfl
    have Rg34_0 := M.r 1 0 rfl rfl
    have Lg34 := M.lt 1 rfl
    have Rg16_0 := M.r 2 0 rfl rfl
    have Lg16 := M.lt 2 rfl
    have Rg13_0 := M.r 3 0 rfl rfl
    have Lg13 := M.lt 3 rfl
    have Rg10_0 := M.r 4 0 rfl rfl
    have Lg10 := M.lt 4 rfl
    have Rg5_0 := M.r 5 0 rfl rfl
    have Lg5 := M.lt 5 rfl
    have Rg3_0 := M.r 6 0 rfl rfl
    have Lg3 := M.lt 6 rfl
    have BB := M.below
    replace M := Mem.start W88
    obtain ⟨D1, D7, _⟩ := D
    have e1 : vs 1 = fe 2 := D1
    obtain ⟨g89c, e7, Cg89, Og89⟩ := D7
    generalize gs 7 = g89 at *
    replace e7 : vs 7 = .slice (some ⟨g89, 0, none⟩) 16 g89c := e7
    have Rg89_0 := Og89.range (0, dl 16 (((pF - 1) * 2) / 8)) (by simp only [List.mem_cons, true_or, or_true])
    have Lg89 := Og89.lt
    dsimp only at hK9
    dsimp only
    rw [e1, e7] at hK9 ⊢
    refine Z11 1 (by rfl) (fun Lk hLk => ?_)
    simp only [Z1,Z2]
    refine Z20 (v := fe (fpow 2 (((pF - 1) * 2) / 8))) (args := #[fe 2, .slice (some ⟨g89, 0, none⟩) 16 g89c]) (by rfl) rfl Try.func79 (by kernel_rfl) (by kernel_rfl) rfl (fun W hW => rpower_c (by decide) (by decide) (by decide) (RowA.of ((M.sees hW).oldR Rg89_0 Lg89) ((M.sees hW).oldL Lg89) (dl_len _ _).symm Cg89)) ?_
    simp only [Z7,Z0]
    refine Z14 (hLk _ (fun w90 Sw90 => ?_))
    clear hLk Lk
    simp only [Z1,Z2]
    replace M := M.sees Sw90
    refine Z9 (Z17 ?_)
    have h8 := hK9 (fe (fpow 2 (((pF - 1) * 2) / 8)))
    have h9 := h8 0 _ M.seesAll rfl (fun h => absurd h (by decide))
    simp only [Z7,Z0] at h9
    exact h9
   refine RulesL.cons (fun vs => { tmps := #[fe x, .pointer (some ⟨g3, 0, none⟩), .pointer (some ⟨g5, 0, none⟩), .bool false, .slice (some ⟨g10, 0, none⟩) 16 g10c, .slice (some ⟨g16, 0, none⟩) 16 g16c, .pointer (some ⟨g34, 0, none⟩), .slice (some ⟨g10, 0, none⟩) 16 g10c, .slice (some ⟨g10, 0, none⟩) 16 g10c, .slice (some ⟨g13, 0, none⟩) 1 1, .slice (some ⟨g16, 0, none⟩) 16 g16c, fe x, .slice (some ⟨g16, 0, none⟩) 16 g16c, .slice (some ⟨g33, 0, none⟩) 16 g33c, fe (fpow x ((pF + 3) / 8)), fe (fpow x ((pF + 3) / 8)), fe (fpow x ((pF + 3) / 8)), fe (fmul (fpow x ((pF + 3) / 8)) (fpow x ((pF + 3) / 8))), fe x, .bool true, vs 0, Z3, Z3, Z3, Z3, Z3, Z3, Z3, vs 8, Z3, Z3, Z3, Z3, Z3, Z3, Z3, Z3, Z3, Z3, Z3, Z3, Z3, Z3, Z3], defers := [] }) (by kernel_rfl) ?_ ?_
   ·
    intro vs gs W91 SW91 D K9 hK9
    replace M := M.sees SW91
    obtain ⟨D0, D8, _⟩ := D
    have e0 : vs 0 = fe (fpow x ((pF + 3) / 8)) := D0
    have e8 : vs 8 = fe (fpow 2 (((pF - 1) * 2) / 8)) := D8
    dsimp only at hK9
    dsimp only
    rw [e0, e8] at hK9 ⊢
    refine Z11 1 (by rfl) (fun Lk hLk => ?_)
    simp only [Z1,Z2]
    refine Z20 (v := fe (fmul (fpow x ((pF + 3) / 8)) (fpow 2 (((pF - 1) * 2) / 8)))) (args := #[fe (fpow x ((pF + 3) / 8)), fe (fpow 2 (((pF - 1) * 2) / 8))]) (by rfl) rfl Try.func42 (by kernel_rfl) (by kernel_rfl) rfl (fun W hW => rmul04_c (fpow_lt ..) (fpow_lt ..)) ?_
    simp only [Z7,Z0]
    refine Z14 (hLk _ (fun w92 Sw92 => ?_))
    clear hLk Lk
    simp only [Z1,Z2]
    replace M := M.sees Sw92
    refine Z9 (Z17 ?_)
    have h8 := hK9 (fe (fmul (fpow x ((pF + 3) / 8)) (fpow 2 (((pF - 1) * 2) / 8))))
    have h9 := h8 0 _ Sw92 rfl (fun h => absurd h (by decide))
    simp only [Z7,Z0] at h9
    exact h9
   exact RulesL.nil
  intro vs gs W93 SW93 D A9
  obtain ⟨D0, D1, D2, D3, D4, D5, D6, D7, D8, D9, _⟩ := (show DepRel _ vs gs W93 [0, 1, 2, 3, 4, 5, 6, 7, 8, 9] from D)
  have n3_4 : gs 3 ≠ gs 4 := A9 3 4 (by decide) (by decide) (by decide) (by decide) (by decide)
  have n3_5 : gs 3 ≠ gs 5 := A9 3 5 (by decide) (by decide) (by decide) (by decide) (by decide)
  have n3_6 : gs 3 ≠ gs 6 := A9 3 6 (by decide) (by decide) (by decide) (by decide) (by decide)
  have n3_7 : gs 3 ≠ gs 7 := A9 3 7 (by decide) (by decide) (by decide) (by decide) (by decide)
  have n4_5 : gs 4 ≠ gs 5 := A9 4 5 (by decide) (by decide) (by decide) (by decide) (by decide)
  have n4_6 : gs 4 ≠ gs 6 := A9 4 6 (by decide) (by decide) (by decide) (by decide) (by decide)
  have n4_7 : gs 4 ≠ gs 7 := A9 4 7 (by decide) (by decide) (by decide) (by decide) (by decide)
  have n5_6 : gs 5 ≠ gs 6 := A9 5 6 (by decide) (by decide) (by decide) (by decide) (by decide)
  have n5_7 : gs 5 ≠ gs 7 := A9 5 7 (by decide) (by decide) (by decide) (by decide) (by decide)
  have n6_7 : gs 6 ≠ gs 7 := A9 6 7 (by decide) (by decide) (by decide) (by decide) (by decide)
  clear A9 D
  have e0 : vs 0 = fe (fpow x ((pF + 3) / 8)) := D0
  have e1 : vs 1 = fe 2 := D1
  have e2 : vs 2 = .slice (some ⟨g10, 0, none⟩) 16 g10c := D2
  obtain ⟨e3, Og94⟩ := D3
  generalize gs 3 = g94 at *
  replace e3 : vs 3 = .slice (some ⟨g94, 0, none⟩) 1 1 := e3
  obtain ⟨g95c, e4, Cg95, Og95⟩ := D4
  generalize gs 4 = g95 at *
  replace e4 : vs 4 = .slice (some ⟨g95, 0, none⟩) 16 g95c := e4
  obtain ⟨e5, Og96⟩ := D5
  generalize gs 5 = g96 at *
  replace e5 : vs 5 = .slice (some ⟨g96, 0, none⟩) 1 1 := e5
  obtain ⟨g97c, e6, Cg97, Og97⟩ := D6
  generalize gs 6 = g97 at *
  replace e6 : vs 6 = .slice (some ⟨g97, 0, none⟩) 16 g97c := e6
  obtain ⟨g98c, e7, Cg98, Og98⟩ := D7
  generalize gs 7 = g98 at *
  replace e7 : vs 7 = .slice (some ⟨g98, 0, none⟩) 16 g98c := e7
  have e8 : vs 8 = fe (fpow 2 (((pF - 1) * 2) / 8)) := D8
  have e9 : vs 9 = fe (fmul (fpow x ((pF + 3) / 8)) (fpow 2 (((pF - 1) * 2) / 8))) := D9
  replace M := M.addOks SW93 [⟨g94, 1, [(0, dl 1 1)]⟩, ⟨g95, 0, [(0, dl 16 (pF - 1))]⟩, ⟨g96, 1, [(0, dl 1 2)]⟩, ⟨g97, 0, [(0, dl 16 ((pF - 1) * 2))]⟩, ⟨g98, g98c, [(0, dl 16 (((pF - 1) * 2) / 8))]⟩] (List.forall_mem_cons.2 ⟨Og94, (List.forall_mem_cons.2 ⟨Og95, (List.forall_mem_cons.2 ⟨Og96, (List.forall_mem_cons.2 ⟨Og97, (List.forall_mem_cons.2 ⟨Og98, (fun _ h => nomatch h)⟩)⟩)⟩)⟩)⟩) (.cons (List.forall_mem_cons.2 ⟨n3_4, (List.forall_mem_cons.2 ⟨n3_5, (List.forall_mem_cons.2 ⟨n3_6, (List.forall_mem_cons.2 ⟨n3_7, (fun _ h => nomatch h)⟩)⟩)⟩)⟩) (.cons (List.forall_mem_cons.2 ⟨n4_5, (List.forall_mem_cons.2 ⟨n4_6, (List.forall_mem_cons.2 ⟨n4_7, (fun _ h => nomatch h)⟩)⟩)⟩) (.cons (List.forall_mem_cons.2 ⟨n5_6, (List.forall_mem_cons.2 ⟨n5_7, (fun _ h => nomatch h)⟩)⟩) (.cons (List.forall_mem_cons.2 ⟨n6_7, (fun _ h => nomatch h)⟩) (.cons (fun _ h => nomatch h) .nil)))))
  simp only [List.cons_append, List.nil_append] at M
  dsimp only
  simp only [e0, e1, e2, e3, e4, e5, e6, e7, e8, e9, Z2]
  refine wpL_store (g := g34) (off := 0) (n := 4) (cs := fel (fmul (fpow x ((pF + 3) / 8)) (fpow 2 (((pF - 1) * 2) / 8)))) (by rfl) (by rfl) (by rfl) (by rfl) (by rfl) (M.t 6 rfl) (by simp [flen]) info24 (fel_one _) (fun w99 P R T => ?_)
  replace M := M.putS 6 0 rfl P R T rfl ⟨.inl rfl, trivial⟩
  simp only [Z0] at M
  refine Z9 (Z10 ?_)
  refine hK36 _ _ ?_
  refine Z4 (fun K100 hK100 => ?_)
  refine Z4 (fun K101 hK101 => ?_)
  refine wp_region_grow 5 [] (by kernel_rfl) (by kernel_rfl) (by kernel_rfl) (fun Lk hLk => ?_)
  simp only [Z1,Z2]
  refine wpV_load (cs := fel (fmul (fpow x ((pF + 3) / 8)) (fpow 2 (((pF - 1) * 2) / 8)))) (by rfl) rfl rfl (M.r 6 0 rfl rfl) (M.lt 6 rfl) Try.underlying24 rfl info24 ?_
  simp only [Z7,Z0]
  refine wpV_load (cs := fel (fmul (fpow x ((pF + 3) / 8)) (fpow 2 (((pF - 1) * 2) / 8)))) (by rfl) rfl rfl (M.r 6 0 rfl rfl) (M.lt 6 rfl) Try.underlying24 rfl info24 ?_
  simp only [Z7,Z0]
  refine Z20 (v := fe (fmul (fmul (fpow x ((pF + 3) / 8)) (fpow 2 (((pF - 1) * 2) / 8))) (fmul (fpow x ((pF + 3) / 8)) (fpow 2 (((pF - 1) * 2) / 8))))) (args := #[fe (fmul (fpow x ((pF + 3) / 8)) (fpow 2 (((pF - 1) * 2) / 8))), fe (fmul (fpow x ((pF + 3) / 8)) (fpow 2 (((pF - 1) * 2) / 8)))]) (by rfl) rfl Try.func42 (by kernel_rfl) (by kernel_rfl) rfl (fun W hW => rmul04_c (fmul_lt ..) (fmul_lt ..)) ?_
  simp only [Z7,Z0]
  refine wpV_load (cs := fel x) (by rfl) rfl rfl (M.r 11 0 rfl rfl) (M.lt 11 rfl) Try.underlying24 rfl info24 ?_
  simp only [Z7,Z0]
  refine Z19 (v := .bool (decide (fmul (fmul (fpow x ((pF + 3) / 8)) (fpow 2 (((pF - 1) * 2) / 8))) (fmul (fpow x ((pF + 3) / 8)) (fpow 2 (((pF - 1) * 2) / 8))) ≠ x))) (by rfl) (by rfl) (fun W hW => ?_) ?_
  ·
   exact run_neq_fe (fmul_lt ..) hx Try.underlying24 Try.underlying22 info22 (by kernel_rfl) rfl rfl rfl W
  simp only [Z7,Z0]
  refine Z14 (hLk.out _ ?_)
  clear hLk Lk
  simp only [Z1,Z2]
  iterate 5 refine wpN_skip (by rfl) ?_
  refine wpN_nil (fun w103 Sw103 hbs => ?_)
  clear hbs
  replace M := M.sees Sw103
  refine Z9 (Z10 ?_)
  refine hK101 _ _ ?_
  cases hc104 : (decide (fmul (fmul (fpow x ((pF + 3) / 8)) (fpow 2 (((pF - 1) * 2) / 8))) (fmul (fpow x ((pF + 3) / 8)) (fpow 2 (((pF - 1) * 2) / 8))) ≠ x))
  ·
   have q105 : fmul (fmul (fpow x ((pF + 3) / 8)) (fpow 2 (((pF - 1) * 2) / 8))) (fmul (fpow x ((pF + 3) / 8)) (fpow 2 (((pF - 1) * 2) / 8))) = x := Decidable.not_not.1 (of_decide_eq_false hc104)
   refine Z6 rfl ?_
   refine wp_skip ?_
   refine hK100 _ _ ?_
   refine Z4 (fun K106 hK106 => ?_)
   refine Z4 (fun K107 hK107 => ?_)
   refine Z8 ?_
   refine Z11 4 (by rfl) (fun Lk hLk => ?_)
   simp only [Z1,Z2]
   refine Z19 (v := .pointer (some ⟨g34, 0, none⟩)) (by rfl) (by rfl) (fun W hW => ?_) ?_
   ·
    (go_simp; exact rfl)
   simp only [Z7,Z0]
   refine wpV_load1 (v := .int .u64 (limb (fmul (fpow x ((pF + 3) / 8)) (fpow 2 (((pF - 1) * 2) / 8))) 0)) (by rfl) rfl rfl (range_one (range_sub (M.r 6 0 rfl rfl) 0 1 0 (xs := [.int .u64 (limb (fmul (fpow x ((pF + 3) / 8)) (fpow 2 (((pF - 1) * 2) / 8))) 0)]) rfl rfl)) (M.lt 6 rfl) Try.underlying22 rfl ?_
   simp only [Z7,Z0]
   refine Z15 (v := .int .u64 (((fmul (fpow x ((pF + 3) / 8)) (fpow 2 ((pF - 1) * 2 / 8))) % 2 : Nat) : Int)) (by rfl) rfl rfl rfl (fun W => rem_limb0 _ W) ?_
   simp only [Z7,Z0]
   refine Z15 (v := .bool (decide ((fmul (fpow x ((pF + 3) / 8)) (fpow 2 ((pF - 1) * 2 / 8))) % 2 = 1))) (by rfl) rfl rfl rfl (fun W => run_eqlN ((fmul (fpow x ((pF + 3) / 8)) (fpow 2 ((pF - 1) * 2 / 8))) % 2) 1 _ _ W) ?_
   simp only [Z7,Z0]
   refine Z14 (hLk _ (fun w109 Sw109 => ?_))
   clear hLk Lk
   simp only [Z1,Z2]
   replace M := M.sees Sw109
   refine Z9 (Z10 ?_)
   refine hK107 _ _ ?_
   cases hc110 : (decide ((fmul (fpow x ((pF + 3) / 8)) (fpow 2 ((pF - 1) * 2 / 8))) % 2 = 1))
   ·
    have q111 : ¬ ((fmul (fpow x ((pF + 3) / 8)) (fpow 2 ((pF - 1) * 2 / 8))) % 2 = 1) := of_decide_eq_false hc110
    refine Z6 rfl ?_
    refine wp_skip ?_
    refine hK106 _ _ ?_
    refine Z4 (fun K112 hK112 => ?_)
    refine Z8 ?_
    refine Z11 1 (by rfl) (fun Lk hLk => ?_)
    simp only [Z1,Z2]
    refine wpV_load (cs := fel (fmul (fpow x ((pF + 3) / 8)) (fpow 2 (((pF - 1) * 2) / 8)))) (by rfl) rfl rfl (M.r 6 0 rfl rfl) (M.lt 6 rfl) Try.underlying24 rfl info24 ?_
    simp only [Z7,Z0]
    refine Z14 (hLk _ (fun w114 Sw114 => ?_))
    clear hLk Lk
    simp only [Z1,Z2]
    replace M := M.sees Sw114
    refine wpL_store (g := g5) (off := 0) (n := 4) (cs := fel (fmul (fpow x ((pF + 3) / 8)) (fpow 2 (((pF - 1) * 2) / 8)))) (by rfl) (by rfl) (by rfl) (by rfl) (by rfl) (M.t 10 rfl) (by simp [flen]) info24 (fel_one _) (fun w115 P R T => ?_)
    replace M := M.putS 10 0 rfl P R T rfl ⟨.inl rfl, trivial⟩
    simp only [Z0] at M
    refine Z13 (v := .bool true) (by rfl) (by rfl) (by rfl) ?_
    simp only [Z7,Z0]
    refine Z9 (Z10 ?_)
    refine hK112 _ _ ?_
    refine wp_ret ?_
    repeat (first | with_reducible refine then_ret ?_ | with_reducible refine inblock_ret ?_)
    refine bodyPost_ret (v := .tuple #[fe (fmul (fpow x ((pF + 3) / 8)) (fpow 2 (((pF - 1) * 2) / 8))), .bool true]) (res2 rfl (.cell (by rfl) (run_loadVar_mid _ _ _ _ (fel (fmul (fpow x ((pF + 3) / 8)) (fpow 2 (((pF - 1) * 2) / 8)))) _ (M.r 10 0 rfl rfl) Try.underlying24 rfl info24)) (.tmp (by rfl))) rfl ?_
    have BE := M.below
    exact ⟨by rw [sqrt_even (x := x) (by rw [hr2, hl]; exact q105) (by rw [hr2]; exact q111), hr2], BE⟩
   ·
    have q116 : ((fmul (fpow x ((pF + 3) / 8)) (fpow 2 ((pF - 1) * 2 / 8))) % 2 = 1) := of_decide_eq_true hc110
    refine Z5 rfl ?_
    refine Z4 (fun K117 hK117 => ?_)
    refine Z8 ?_
    refine Z11 3 (by rfl) (fun Lk hLk => ?_)
    simp only [Z1,Z2]
    refine Z19 (v := fe 0) (by rfl) (by rfl) (fun W hW => ?_) ?_
    ·
     rw [show fe 0 = .agg ([.int .u64 0, .int .u64 0, .int .u64 0, .int .u64 0]).toArray from (by kernel_rfl)]; unfold RunsVal; kernel_rfl
    simp only [Z7,Z0]
    refine wpV_load (cs := fel (fmul (fpow x ((pF + 3) / 8)) (fpow 2 (((pF - 1) * 2) / 8)))) (by rfl) rfl rfl (M.r 6 0 rfl rfl) (M.lt 6 rfl) Try.underlying24 rfl info24 ?_
    simp only [Z7,Z0]
    refine Z20 (v := fe (fsub 0 (fmul (fpow x ((pF + 3) / 8)) (fpow 2 (((pF - 1) * 2) / 8))))) (args := #[fe 0, fe (fmul (fpow x ((pF + 3) / 8)) (fpow 2 (((pF - 1) * 2) / 8)))]) (by rfl) rfl Try.func37 (by kernel_rfl) (by kernel_rfl) rfl (fun W hW => rsub04_c (by decide) (fmul_lt ..)) ?_
    simp only [Z7,Z0]
    refine Z14 (hLk _ (fun w119 Sw119 => ?_))
    clear hLk Lk
    simp only [Z1,Z2]
    replace M := M.sees Sw119
    refine wpL_store (g := g5) (off := 0) (n := 4) (cs := fel (fsub 0 (fmul (fpow x ((pF + 3) / 8)) (fpow 2 (((pF - 1) * 2) / 8))))) (by rfl) (by rfl) (by rfl) (by rfl) (by rfl) (M.t 10 rfl) (by simp [flen]) info24 (fel_one _) (fun w120 P R T => ?_)
    replace M := M.putS 10 0 rfl P R T rfl ⟨.inl rfl, trivial⟩
    simp only [Z0] at M
    refine Z13 (v := .bool true) (by rfl) (by rfl) (by rfl) ?_
    simp only [Z7,Z0]
    refine Z9 (Z10 ?_)
    refine hK117 _ _ ?_
    refine wp_ret ?_
    repeat (first | with_reducible refine then_ret ?_ | with_reducible refine inblock_ret ?_)
    refine bodyPost_ret (v := .tuple #[fe (fsub 0 (fmul (fpow x ((pF + 3) / 8)) (fpow 2 (((pF - 1) * 2) / 8)))), .bool true]) (res2 rfl (.cell (by rfl) (run_loadVar_mid _ _ _ _ (fel (fsub 0 (fmul (fpow x ((pF + 3) / 8)) (fpow 2 (((pF - 1) * 2) / 8))))) _ (M.r 10 0 rfl rfl) Try.underlying24 rfl info24)) (.tmp (by rfl))) rfl ?_
    have BE := M.below
    exact ⟨by rw [sqrt_odd (x := x) (by rw [hr2, hl]; exact q105) (by rw [hr2]; exact q116), hr2], BE⟩
  ·
   have q121 : (fmul (fmul (fpow x ((pF + 3) / 8)) (fpow 2 (((pF - 1) * 2) / 8))) (fmul (fpow x ((pF + 3) / 8)) (fpow 2 (((pF - 1) * 2) / 8))) ≠ x) := of_decide_eq_true hc104
   refine Z5 rfl ?_
   refine Z4 (fun K122 hK122 => ?_)
   refine Z8 ?_
   refine Z11 1 (by rfl) (fun Lk hLk => ?_)
   simp only [Z1,Z2]
   refine Z19 (v := fe 0) (by rfl) (by rfl) (fun W hW => ?_) ?_
   ·
    rw [show fe 0 = .agg ([.int .u64 0, .int .u64 0, .int .u64 0, .int .u64 0]).toArray from (by kernel_rfl)]; unfold RunsVal; kernel_rfl
   simp only [Z7,Z0]
   refine Z14 (hLk _ (fun w124 Sw124 => ?_))
   clear hLk Lk
   simp only [Z1,Z2]
   replace M := M.sees Sw124
   refine wpL_store (g := g5) (off := 0) (n := 4) (cs := fel 0) (by rfl) (by rfl) (by rfl) (by rfl) (by rfl) (M.t 10 rfl) (by simp [flen]) info24 (fel_one _) (fun w125 P R T => ?_)
   replace M := M.putS 10 0 rfl P R T rfl ⟨.inl rfl, trivial⟩
   simp only [Z0] at M
   refine Z13 (v := .bool false) (by rfl) (by rfl) (by rfl) ?_
   simp only [Z7,Z0]
   refine Z9 (Z10 ?_)
   refine hK122 _ _ ?_
   refine wp_ret ?_
   repeat (first | with_reducible refine then_ret ?_ | with_reducible refine inblock_ret ?_)
   refine bodyPost_ret (v := .tuple #[fe 0, .bool false]) (res2 rfl (.cell (by rfl) (run_loadVar_mid _ _ _ _ (fel 0) _ (M.r 10 0 rfl rfl) Try.underlying24 rfl info24)) (.tmp (by rfl))) rfl ?_
   have BE := M.below
   exact ⟨by rw [sqrt_no (x := x) (by rw [hr2, hl]; exact q121)], BE⟩
end Go.Proofs.Yc

namespace Go.Proofs.Yc
open Go Go.RowKit Go.Proofs.Num
open List renaming set → Z0, take → Z1, drop → Z2
open Go renaming undef → Z3, wp_seq_k → Z4, wp_cond_true → Z5, wp_cond_false → Z6
open Go.Proofs.Num renaming putT → Z7, wp_region_seq → Z8, wpL_nil → Z9, no_panic → Z10, wpL_chunk → Z11, wpL_move → Z12, wpL_assign → Z13, wpV_nil → Z14, wpV_bin → Z15, wpV_move → Z16, then_normal → Z17, wpV_val → Z19, wpV_callf → Z20
attribute [local irreducible] wpV wpN wpList
open Go.Proofs.Ya
theorem rootX_r (y : Nat) : fsqrt (fmul (fsub (fmul y y) 1) (finv (fadd (fmul dR (fmul y y)) 1))) = rootX y := by
 unfold rootX
 rw [dR_dF, show fmul dF (fmul y y) = fmul (fmul y y) dF from by unfold fmul; rw [Nat.mul_comm]]
theorem yT_len {l : List UInt8} (h : l.length = 32) : (yT l).length = 32 := by
 unfold yT
 rw [List.length_append, List.length_take, h]
 rfl
def rparX (x : Nat) (b o : Bool) : Nat := if parsY x b o then (if o then fsub 0 x else x) else 0
def rparY (x y : Nat) (b o : Bool) : Nat := if parsY x b o then y else 0
set_option maxHeartbeats 2000000 in
theorem rX_c {y : Nat} {w : World} (hy : y < 2 ^ 256) :
  Calls Try.prog 36 #[fe y] w fun e w' => e = .returned (.tuple #[fe (rootX y).1, .bool (rootX y).2]) ∧ Below w.heap.size w w' := by
 go_enter Try.func36, Try.ntmps36
 have M := Mem.start w
 refine Z4 (fun K1 hK1 => ?_)
 refine Z8 ?_
 refine wpL_var (t := 24) (cs := fel y) (by rfl) (fun W => ?_) (fun g3 w4 Sw4 Hg3 Bg3 => ?_)
 ·
  (first | rfl | go_simp)
 replace M := ((M.sees Sw4).add (N := 4) (cs := fel y) (M.ge Hg3) (M.fresh Hg3) Bg3 rfl)
 clear Bg3
 simp only [Z7,Z0]
 refine wpL_var (t := 24) (cs := [.int .u64 0, .int .u64 0, .int .u64 0, .int .u64 0]) (by rfl) (fun W => ?_) (fun g5 w6 Sw6 Hg5 Bg5 => ?_)
 ·
  go_simp
 replace M := ((M.sees Sw6).add (N := 4) (cs := [.int .u64 0, .int .u64 0, .int .u64 0, .int .u64 0]) (M.ge Hg5) (M.fresh Hg5) Bg5 rfl)
 clear Bg5
 simp only [Z7,Z0]
 refine Z13 (v := .bool false) (by rfl) (by rfl) (by rfl) ?_
 simp only [Z7,Z0]
 refine Z9 (Z10 ?_)
 refine hK1 _ _ ?_
 refine Z4 (fun K7 hK7 => ?_)
 refine Z8 ?_
 refine Z11 3 (by rfl) (fun Lk hLk => ?_)
 simp only [Z1,Z2]
 refine wpV_load (cs := fel y) (by rfl) rfl rfl (M.r 1 0 rfl rfl) (M.lt 1 rfl) Try.underlying24 rfl info24 ?_
 simp only [Z7,Z0]
 refine wpV_load (cs := fel y) (by rfl) rfl rfl (M.r 1 0 rfl rfl) (M.lt 1 rfl) Try.underlying24 rfl info24 ?_
 simp only [Z7,Z0]
 refine Z20 (v := fe (fmul y y)) (args := #[fe y, fe y]) (by rfl) rfl Try.func42 (by kernel_rfl) (by kernel_rfl) rfl (fun W hW => rmul04_c hy hy) ?_
 simp only [Z7,Z0]
 refine Z14 (hLk _ (fun w9 Sw9 => ?_))
 clear hLk Lk
 simp only [Z1,Z2]
 replace M := M.sees Sw9
 refine wpL_var (t := 24) (cs := [.int .u64 0, .int .u64 0, .int .u64 0, .int .u64 0]) (by rfl) (fun W => ?_) (fun g10 w11 Sw11 Hg10 Bg10 => ?_)
 ·
  go_simp
 replace M := ((M.sees Sw11).add (N := 4) (cs := [.int .u64 0, .int .u64 0, .int .u64 0, .int .u64 0]) (M.ge Hg10) (M.fresh Hg10) Bg10 rfl)
 clear Bg10
 simp only [Z7,Z0]
 refine wpL_store (g := g10) (off := 0) (n := 4) (cs := fel (fmul y y)) (by rfl) (by rfl) (by rfl) (by rfl) (by rfl) (M.t 0 rfl) (by simp [flen]) info24 (fel_one _) (fun w12 P R T => ?_)
 replace M := M.putS 0 0 rfl P R T rfl ⟨.inl rfl, trivial⟩
 simp only [Z0] at M
 refine Z9 (Z10 ?_)
 refine hK7 _ _ ?_
 refine Z4 (fun K13 hK13 => ?_)
 refine wp_region_grow 6 [] (by kernel_rfl) (by kernel_rfl) (by kernel_rfl) (fun Lk hLk => ?_)
 simp only [Z1,Z2]
 refine Z20 (v := fe dR) (args := #[]) (by rfl) rfl Try.func44 (by kernel_rfl) (by kernel_rfl) rfl (fun W hW => rD_c) ?_
 simp only [Z7,Z0]
 refine wpV_load (cs := fel (fmul y y)) (by rfl) rfl rfl (M.r 0 0 rfl rfl) (M.lt 0 rfl) Try.underlying24 rfl info24 ?_
 simp only [Z7,Z0]
 refine Z20 (v := fe (fmul dR (fmul y y))) (args := #[fe dR, fe (fmul y y)]) (by rfl) rfl Try.func42 (by kernel_rfl) (by kernel_rfl) rfl (fun W hW => rmul04_c dR_lt (fmul_lt ..)) ?_
 simp only [Z7,Z0]
 refine Z19 (v := fe 1) (by rfl) (by rfl) (fun W hW => ?_) ?_
 ·
  rw [show fe 1 = .agg ([.int .u64 1, .int .u64 0, .int .u64 0, .int .u64 0]).toArray from (by kernel_rfl)]; unfold RunsVal; kernel_rfl
 simp only [Z7,Z0]
 refine Z20 (v := fe (fadd (fmul dR (fmul y y)) 1)) (args := #[fe (fmul dR (fmul y y)), fe 1]) (by rfl) rfl Try.func50 (by kernel_rfl) (by kernel_rfl) rfl (fun W hW => radd04_c (fmul_lt ..) (by decide)) ?_
 simp only [Z7,Z0]
 refine wpV_alloc (by rfl) ?_
 refine Z14 (hLk.out _ ?_)
 clear hLk Lk
 simp only [Z1,Z2]
 iterate 5 refine wpN_skip (by rfl) ?_
 refine wpN_new (t := 24) (cs := ([.int .u64 0, .int .u64 0, .int .u64 0, .int .u64 0]).toArray) (by rfl) (fun W => ?_) (fun g15 Hg15 ng15 => ?_)
 ·
  go_simp
 simp only [Z7,Z0]
 refine wpN_nil (fun w16 Sw16 hbs => ?_)
 replace M := ((M.sees Sw16).add (N := 4) (cs := [.int .u64 0, .int .u64 0, .int .u64 0, .int .u64 0]) (M.ge Hg15) (M.fresh Hg15) (hbs _ (.head _)) rfl)
 clear hbs ng15
 refine wpL_store (g := g15) (off := 0) (n := 4) (cs := fel (fadd (fmul dR (fmul y y)) 1)) (by rfl) (by rfl) (by rfl) (by rfl) (by rfl) (M.t 0 rfl) (by simp [flen]) info24 (fel_one _) (fun w17 P R T => ?_)
 replace M := M.putS 0 0 rfl P R T rfl ⟨.inl rfl, trivial⟩
 simp only [Z0] at M
 refine Z9 (Z10 ?_)
 refine hK13 _ _ ?_
 refine Z4 (fun K18 hK18 => ?_)
 refine wp_region_grow 9 [] (by kernel_rfl) (by kernel_rfl) (by kernel_rfl) (fun Lk hLk => ?_)
 simp only [Z1,Z2]
 refine wpV_load (cs := fel (fmul y y)) (by rfl) rfl rfl (M.r 1 0 rfl rfl) (M.lt 1 rfl) Try.underlying24 rfl info24 ?_
 simp only [Z7,Z0]
 refine Z19 (v := fe 1) (by rfl) (by rfl) (fun W hW => ?_) ?_
 ·
  rw [show fe 1 = .agg ([.int .u64 1, .int .u64 0, .int .u64 0, .int .u64 0]).toArray from (by kernel_rfl)]; unfold RunsVal; kernel_rfl
 simp only [Z7,Z0]
 refine Z20 (v := fe (fsub (fmul y y) 1)) (args := #[fe (fmul y y), fe 1]) (by rfl) rfl Try.func37 (by kernel_rfl) (by kernel_rfl) rfl (fun W hW => rsub04_c (fmul_lt ..) (by decide)) ?_
 simp only [Z7,Z0]
 refine wpV_load (cs := fel (fadd (fmul dR (fmul y y)) 1)) (by rfl) rfl rfl (M.r 0 0 rfl rfl) (M.lt 0 rfl) Try.underlying24 rfl info24 ?_
 simp only [Z7,Z0]
 refine Z20 (v := fe (finv (fadd (fmul dR (fmul y y)) 1))) (args := #[fe (fadd (fmul dR (fmul y y)) 1)]) (by rfl) rfl Try.func48 (by kernel_rfl) (by kernel_rfl) rfl (fun W hW => rinv_c (fadd_lt ..)) ?_
 simp only [Z7,Z0]
 refine Z20 (v := fe (fmul (fsub (fmul y y) 1) (finv (fadd (fmul dR (fmul y y)) 1)))) (args := #[fe (fsub (fmul y y) 1), fe (finv (fadd (fmul dR (fmul y y)) 1))]) (by rfl) rfl Try.func42 (by kernel_rfl) (by kernel_rfl) rfl (fun W hW => rmul04_c (fsub_lt ..) (finv_lt _)) ?_
 simp only [Z7,Z0]
 refine Z20 (v := .tuple #[fe ((rootX y).1), .bool ((rootX y).2)]) (args := #[fe (fmul (fsub (fmul y y) 1) (finv (fadd (fmul dR (fmul y y)) 1)))]) (by rfl) rfl Try.func69 (by kernel_rfl) (by kernel_rfl) rfl (fun W hW => (by have h9 := rRoot_c (x := fmul (fsub (fmul y y) 1) (finv (fadd (fmul dR (fmul y y)) 1))) (w := W) (fmul_ltp ..); rw [rootX_r] at h9; exact h9)) ?_
 simp only [Z7,Z0]
 refine wpV_extract (v := fe ((rootX y).1)) (by rfl) rfl rfl rfl ?_
 simp only [Z7,Z0]
 refine wpV_extract (v := .bool ((rootX y).2)) (by rfl) rfl rfl rfl ?_
 simp only [Z7,Z0]
 refine Z14 (hLk.out _ ?_)
 clear hLk Lk
 simp only [Z1,Z2]
 iterate 9 refine wpN_skip (by rfl) ?_
 refine wpN_nil (fun w20 Sw20 hbs => ?_)
 clear hbs
 replace M := M.sees Sw20
 refine wpL_store (g := g5) (off := 0) (n := 4) (cs := fel ((rootX y).1)) (by rfl) (by rfl) (by rfl) (by rfl) (by rfl) (M.t 2 rfl) (by simp [flen]) info24 (fel_one _) (fun w21 P R T => ?_)
 replace M := M.putS 2 0 rfl P R T rfl ⟨.inl rfl, trivial⟩
 simp only [Z0] at M
 refine Z13 (v := .bool ((rootX y).2)) (by rfl) (by rfl) (by rfl) ?_
 simp only [Z7,Z0]
 refine Z9 (Z10 ?_)
 refine hK18 _ _ ?_
 refine wp_ret ?_
 repeat (first | with_reducible refine then_ret ?_ | with_reducible refine inblock_ret ?_)
 refine bodyPost_ret (v := .tuple #[fe ((rootX y).1), .bool ((rootX y).2)]) (res2 rfl (.cell (by rfl) (run_loadVar_mid _ _ _ _ (fel ((rootX y).1)) _ (M.r 2 0 rfl rfl) Try.underlying24 rfl info24)) (.tmp (by rfl))) rfl ?_
 have BE := M.below
 exact ⟨rfl, BE⟩
set_option maxHeartbeats 2000000 in
theorem rParse_bad {l : List UInt8} {y : Nat} {w : World} (hl : l.length = 32) (hN : leN (yT l) = y) (hy : y < 2 ^ 256) (hp : ¬ y < pF) :
  Calls Try.prog 12 #[.string (bs l)] w fun e w' => e = .returned (.tuple #[.agg (fel 0 ++ fel 0 : List Value).toArray, .bool false]) ∧ Below w.heap.size w w' := by
 go_enter Try.func12, Try.ntmps12
 have M := Mem.start w
 refine Z4 (fun K1 hK1 => ?_)
 refine Z8 ?_
 refine wpL_var (t := 32) (cs := [.int .u64 0, .int .u64 0, .int .u64 0, .int .u64 0, .int .u64 0, .int .u64 0, .int .u64 0, .int .u64 0]) (by rfl) (fun W => ?_) (fun g3 w4 Sw4 Hg3 Bg3 => ?_)
 ·
  go_simp
 replace M := ((M.sees Sw4).addS (N := 8) (cs := [.int .u64 0, .int .u64 0, .int .u64 0, .int .u64 0, .int .u64 0, .int .u64 0, .int .u64 0, .int .u64 0]) (segs := [(0, [.int .u64 0, .int .u64 0, .int .u64 0, .int .u64 0]), (4, [.int .u64 0, .int .u64 0, .int .u64 0, .int .u64 0])]) (M.ge Hg3) (M.fresh Hg3) Bg3 rfl ⟨rfl, rfl, trivial⟩)
 clear Bg3
 simp only [Z7,Z0]
 refine Z13 (v := .bool false) (by rfl) (by rfl) (by rfl) ?_
 simp only [Z7,Z0]
 refine Z9 (Z10 ?_)
 refine hK1 _ _ ?_
 refine Z4 (fun K5 hK5 => ?_)
 refine Z8 ?_
 refine Z12 (v := .string (bs l)) (by rfl) (by rfl) (by rfl) ?_
 simp only [Z7,Z0]
 refine Z11 2 (by rfl) (fun Lk hLk => ?_)
 simp only [Z1,Z2]
 refine wpV_indexb (n := 31) (by omega) (by rfl) rfl rfl rfl Try.underlying9 ?_
 simp only [Z7,Z0]
 refine Z15 (v := .bool (decide (128 ≤ byteN l 31))) (by rfl) rfl rfl rfl (fun W => run_geqN (byteN l 31) 128 _ _ W) ?_
 simp only [Z7,Z0]
 refine Z14 (hLk _ (fun w7 Sw7 => ?_))
 clear hLk Lk
 simp only [Z1,Z2]
 replace M := M.sees Sw7
 refine Z13 (v := .bool (decide (128 ≤ byteN l 31))) (by rfl) (by rfl) (by rfl) ?_
 simp only [Z7,Z0]
 refine Z9 (Z10 ?_)
 refine hK5 _ _ ?_
 refine Z4 (fun K8 hK8 => ?_)
 refine wp_region_addsF 13 [11] [5, 12] [ValRel (.string (bs l)), ValRel (.string (bs (l.take 31))), ValRel (.string (bs l)), ValRel (.int .u8 ((byteN l 31 : Nat) : Int)), ValRel (.int .u8 ((byteN l 31 % 128 : Nat) : Int)), BoxRel w7 (fun gA => .slice (some ⟨gA, 0, none⟩) 1 1) 1 [(0, [.int .u8 ((byteN l 31 % 128 : Nat) : Int)])], ValRel (.string (bs ([UInt8.ofNat (byteN l 31 % 128)]))), ValRel (.string (bs ((l.take 31) ++ ([UInt8.ofNat (byteN l 31 % 128)])))), ValRel (.tuple #[fe y, .bool false]), ValRel (.tuple #[fe y, .bool false]), ValRel (fe y), ValRel (.bool false), BoxRel w7 (fun gA => .pointer (some ⟨gA, 0, none⟩)) 4 [(0, [.int .u64 0, .int .u64 0, .int .u64 0, .int .u64 0])]] [[], [0], [], [2], [3], [4], [5], [1, 6], [7], [8], [9], [9], []] (fun vs => { tmps := #[.string (bs l), Z3, .pointer (some ⟨g3, 0, none⟩), .bool false, .bool (decide (128 ≤ byteN l 31)), vs 12, Z3, Z3, Z3, Z3, .string (bs l), .int .u8 ((byteN l 31 : Nat) : Int), .bool (decide (128 ≤ byteN l 31)), vs 9, vs 0, vs 1, vs 2, vs 3, vs 4, vs 5, vs 6, vs 7, vs 8, vs 10, vs 11, Z3, Z3, Z3, Z3, Z3, Z3, Z3, Z3, Z3, Z3, Z3, Z3, Z3, Z3, Z3, Z3, Z3, Z3, Z3, Z3, Z3, Z3, Z3, Z3, Z3, Z3, Z3], defers := [] }) (by kernel_rfl) (by kernel_rfl) (by kernel_rfl) (by kernel_rfl) (.cons keep_val (.cons keep_val (.cons keep_val (.cons keep_val (.cons keep_val (.cons keep_box (.cons keep_val (.cons keep_val (.cons keep_val (.cons keep_val (.cons keep_val (.cons keep_val (.cons keep_box AllKeep.nil))))))))))))) (.free free_val (.free free_val (.free free_val (.free free_val (.free free_val (.free free_box (.free free_val (.free free_val (.free free_val (.free free_val (.free free_val (.free free_val (.free free_box AllLoc.nil))))))))))))) (.cons own_box (.cons own_box AllOwn.nil)) (by kernel_rfl) ?_ ?_
 ·
  simp only [Z1]
  refine RulesL.cons (fun vs => { tmps := #[.string (bs l), Z3, .pointer (some ⟨g3, 0, none⟩), .bool false, .bool (decide (128 ≤ byteN l 31)), Z3, Z3, Z3, Z3, Z3, .string (bs l), .int .u8 ((byteN l 31 : Nat) : Int), .bool (decide (128 ≤ byteN l 31)), Z3, Z3, Z3, Z3, Z3, Z3, Z3, Z3, Z3, Z3, Z3, Z3, Z3, Z3, Z3, Z3, Z3, Z3, Z3, Z3, Z3, Z3, Z3, Z3, Z3, Z3, Z3, Z3, Z3, Z3, Z3, Z3, Z3, Z3, Z3, Z3, Z3, Z3, Z3], defers := [] }) (by kernel_rfl) ?_ ?_
  ·
   intro vs gs W11 SW11 D K9 hK9
   replace M := M.sees SW11
   dsimp only at hK9
   dsimp only
   refine Z12 (v := .string (bs l)) (by rfl) (by rfl) (by rfl) ?_
   simp only [Z7,Z0]
   refine Z9 (Z17 ?_)
   have h8 := hK9 (.string (bs l))
   have h9 := h8 0 _ (sees_refl _) rfl (fun h => absurd h (by decide))
   simp only [Z7,Z0] at h9
   exact h9
  refine RulesL.cons (fun vs => { tmps := #[.string (bs l), Z3, .pointer (some ⟨g3, 0, none⟩), .bool false, .bool (decide (128 ≤ byteN l 31)), Z3, Z3, Z3, Z3, Z3, .string (bs l), .int .u8 ((byteN l 31 : Nat) : Int), .bool (decide (128 ≤ byteN l 31)), Z3, vs 0, Z3, Z3, Z3, Z3, Z3, Z3, Z3, Z3, Z3, Z3, Z3, Z3, Z3, Z3, Z3, Z3, Z3, Z3, Z3, Z3, Z3, Z3, Z3, Z3, Z3, Z3, Z3, Z3, Z3, Z3, Z3, Z3, Z3, Z3, Z3, Z3, Z3], defers := [] }) (by kernel_rfl) ?_ ?_
  ·
   intro vs gs W12 SW12 D K9 hK9
   replace M := M.sees SW12
   obtain ⟨D0, _⟩ := D
   have e0 : vs 0 = .string (bs l) := D0
   dsimp only at hK9
   dsimp only
   rw [e0] at hK9 ⊢
   refine Z11 1 (by rfl) (fun Lk hLk => ?_)
   simp only [Z1,Z2]
   refine wpV_takeS (l := l) (hi := 31) (by rfl) rfl rfl rfl Try.underlying9 (by omega) ?_
   simp only [Z7,Z0]
   refine Z14 (hLk _ (fun w13 Sw13 => ?_))
   clear hLk Lk
   simp only [Z1,Z2]
   replace M := M.sees Sw13
   refine Z9 (Z17 ?_)
   have h8 := hK9 (.string (bs (l.take 31)))
   have h9 := h8 0 _ Sw13 rfl (fun h => absurd h (by decide))
   simp only [Z7,Z0] at h9
   exact h9
  refine RulesL.cons (fun vs => { tmps := #[.string (bs l), Z3, .pointer (some ⟨g3, 0, none⟩), .bool false, .bool (decide (128 ≤ byteN l 31)), Z3, Z3, Z3, Z3, Z3, .string (bs l), .int .u8 ((byteN l 31 : Nat) : Int), .bool (decide (128 ≤ byteN l 31)), Z3, Z3, Z3, Z3, Z3, Z3, Z3, Z3, Z3, Z3, Z3, Z3, Z3, Z3, Z3, Z3, Z3, Z3, Z3, Z3, Z3, Z3, Z3, Z3, Z3, Z3, Z3, Z3, Z3, Z3, Z3, Z3, Z3, Z3, Z3, Z3, Z3, Z3, Z3], defers := [] }) (by kernel_rfl) ?_ ?_
  ·
   intro vs gs W14 SW14 D K9 hK9
   replace M := M.sees SW14
   dsimp only at hK9
   dsimp only
   refine Z12 (v := .string (bs l)) (by rfl) (by rfl) (by rfl) ?_
   simp only [Z7,Z0]
   refine Z9 (Z17 ?_)
   have h8 := hK9 (.string (bs l))
   have h9 := h8 0 _ (sees_refl _) rfl (fun h => absurd h (by decide))
   simp only [Z7,Z0] at h9
   exact h9
  refine RulesL.cons (fun vs => { tmps := #[.string (bs l), Z3, .pointer (some ⟨g3, 0, none⟩), .bool false, .bool (decide (128 ≤ byteN l 31)), Z3, Z3, Z3, Z3, Z3, .string (bs l), .int .u8 ((byteN l 31 : Nat) : Int), .bool (decide (128 ≤ byteN l 31)), Z3, Z3, Z3, vs 2, Z3, Z3, Z3, Z3, Z3, Z3, Z3, Z3, Z3, Z3, Z3, Z3, Z3, Z3, Z3, Z3, Z3, Z3, Z3, Z3, Z3, Z3, Z3, Z3, Z3, Z3, Z3, Z3, Z3, Z3, Z3, Z3, Z3, Z3, Z3], defers := [] }) (by kernel_rfl) ?_ ?_
  ·
   intro vs gs W15 SW15 D K9 hK9
   replace M := M.sees SW15
   obtain ⟨D2, _⟩ := D
   have e2 : vs 2 = .string (bs l) := D2
   dsimp only at hK9
   dsimp only
   rw [e2] at hK9 ⊢
   refine Z11 1 (by rfl) (fun Lk hLk => ?_)
   simp only [Z1,Z2]
   refine wpV_indexb (n := 31) (by omega) (by rfl) rfl rfl rfl Try.underlying9 ?_
   simp only [Z7,Z0]
   refine Z14 (hLk _ (fun w16 Sw16 => ?_))
   clear hLk Lk
   simp only [Z1,Z2]
   replace M := M.sees Sw16
   refine Z9 (Z17 ?_)
   have h8 := hK9 (.int .u8 ((byteN l 31 : Nat) : Int))
   have h9 := h8 0 _ Sw16 rfl (fun h => absurd h (by decide))
   simp only [Z7,Z0] at h9
   exact h9
  refine RulesL.cons (fun vs => { tmps := #[.string (bs l), Z3, .pointer (some ⟨g3, 0, none⟩), .bool false, .bool (decide (128 ≤ byteN l 31)), Z3, Z3, Z3, Z3, Z3, .string (bs l), .int .u8 ((byteN l 31 : Nat) : Int), .bool (decide (128 ≤ byteN l 31)), Z3, Z3, Z3, Z3, vs 3, Z3, Z3, Z3, Z3, Z3, Z3, Z3, Z3, Z3, Z3, Z3, Z3, Z3, Z3, Z3, Z3, Z3, Z3, Z3, Z3, Z3, Z3, Z3, Z3, Z3, Z3, Z3, Z3, Z3, Z3, Z3, Z3, Z3, Z3], defers := [] }) (by kernel_rfl) ?_ ?_
  ·
   intro vs gs W17 SW17 D K9 hK9
   replace M := M.sees SW17
   obtain ⟨D3, _⟩ := D
   have e3 : vs 3 = .int .u8 ((byteN l 31 : Nat) : Int) := D3
   dsimp only at hK9
   dsimp only
   rw [e3] at hK9 ⊢
   refine Z11 1 (by rfl) (fun Lk hLk => ?_)
   simp only [Z1,Z2]
   refine Z15 (v := .int .u8 ((byteN l 31 % 128 : Nat) : Int)) (by rfl) rfl rfl rfl (fun W => run_rem (by decide) (by exact (tmod_nat _ _)) W) ?_
   simp only [Z7,Z0]
   refine Z14 (hLk _ (fun w18 Sw18 => ?_))
   clear hLk Lk
   simp only [Z1,Z2]
   replace M := M.sees Sw18
   refine Z9 (Z17 ?_)
   have h8 := hK9 (.int .u8 ((byteN l 31 % 128 : Nat) : Int))
   have h9 := h8 0 _ Sw18 rfl (fun h => absurd h (by decide))
   simp only [Z7,Z0] at h9
   exact h9
  refine RulesL.cons (fun vs => { tmps := #[.string (bs l), Z3, .pointer (some ⟨g3, 0, none⟩), .bool false, .bool (decide (128 ≤ byteN l 31)), Z3, Z3, Z3, Z3, Z3, .string (bs l), .int .u8 ((byteN l 31 : Nat) : Int), .bool (decide (128 ≤ byteN l 31)), Z3, Z3, Z3, Z3, Z3, vs 4, Z3, Z3, Z3, Z3, Z3, Z3, Z3, Z3, Z3, Z3, Z3, Z3, Z3, Z3, Z3, Z3, Z3, Z3, Z3, Z3, Z3, Z3, Z3, Z3, Z3, Z3, Z3, Z3, Z3, Z3, Z3, Z3, Z3], defers := [] }) (by kernel_rfl) ?_ ?_
  ·
   intro vs gs W19 SW19 D K9 hK9
   replace M := M.sees SW19
   have Rg3_0 := M.r 0 0 rfl rfl
   have Rg3_4 := M.r 0 1 rfl rfl
   have Lg3 := M.lt 0 rfl
   have BB := M.below
   replace M := Mem.start W19
   obtain ⟨D4, _⟩ := D
   have e4 : vs 4 = .int .u8 ((byteN l 31 % 128 : Nat) : Int) := D4
   dsimp only at hK9
   dsimp only
   rw [e4] at hK9 ⊢
   refine wpL_rowN (vs := [.int .u8 ((byteN l 31 % 128 : Nat) : Int)]) (z := .int .u8 0) (bytes := 1) (by rfl) (by rfl) Try.underlying62 (by kernel_rfl) (by decide) (by kernel_rfl) (fun g20 w21 Sw21 Hg20 Bg20 => ?_)
   replace M := ((M.sees Sw21).add (N := 1) (cs := [.int .u8 ((byteN l 31 % 128 : Nat) : Int)]) (M.ge Hg20) (M.fresh Hg20) Bg20 rfl)
   clear Bg20
   simp only [Z7,Z0]
   refine Z9 (Z17 ?_)
   have h8 := hK9 (.slice (some ⟨g20, 0, none⟩) 1 1)
   have h9 := h8 g20 _ M.seesAll ⟨rfl, (M.ok _ (.head _)).up SW19⟩ (fun _ => (M.ok _ (.head _)).ge)
   simp only [Z7,Z0] at h9
   exact h9
  refine RulesL.cons (fun vs => { tmps := #[.string (bs l), Z3, .pointer (some ⟨g3, 0, none⟩), .bool false, .bool (decide (128 ≤ byteN l 31)), Z3, Z3, Z3, Z3, Z3, .string (bs l), .int .u8 ((byteN l 31 : Nat) : Int), .bool (decide (128 ≤ byteN l 31)), Z3, Z3, Z3, Z3, Z3, Z3, vs 5, Z3, Z3, Z3, Z3, Z3, Z3, Z3, Z3, Z3, Z3, Z3, Z3, Z3, Z3, Z3, Z3, Z3, Z3, Z3, Z3, Z3, Z3, Z3, Z3, Z3, Z3, Z3, Z3, Z3, Z3, Z3, Z3], defers := [] }) (by kernel_rfl) ?_ ?_
  ·
   intro vs gs W22 SW22 D K9 hK9
   replace M := M.sees SW22
   have Rg3_0 := M.r 0 0 rfl rfl
   have Rg3_4 := M.r 0 1 rfl rfl
   have Lg3 := M.lt 0 rfl
   have BB := M.below
   replace M := Mem.start W22
   obtain ⟨D5, _⟩ := D
   obtain ⟨e5, Og23⟩ := D5
   generalize gs 5 = g23 at *
   replace e5 : vs 5 = .slice (some ⟨g23, 0, none⟩) 1 1 := e5
   have Rg23_0 := Og23.range (0, [.int .u8 ((byteN l 31 % 128 : Nat) : Int)]) (by simp only [List.mem_cons, true_or, or_true])
   have Lg23 := Og23.lt
   dsimp only at hK9
   dsimp only
   rw [e5] at hK9 ⊢
   refine Z11 1 (by rfl) (fun Lk hLk => ?_)
   simp only [Z1,Z2]
   rw [← bcells_one9 (v := byteN l 31 % 128) (by have := byteN_lt l 31; omega)] at Rg23_0
   refine wpV_b2s (l := [UInt8.ofNat (byteN l 31 % 128)]) (by rfl) rfl rfl rfl Try.underlying62 Try.underlying5 Try.underlying9 (M.oldR Rg23_0 Lg23) (M.oldL Lg23) ?_
   simp only [Z7,Z0]
   refine Z14 (hLk _ (fun w24 Sw24 => ?_))
   clear hLk Lk
   simp only [Z1,Z2]
   replace M := M.sees Sw24
   refine Z9 (Z17 ?_)
   have h8 := hK9 (.string (bs ([UInt8.ofNat (byteN l 31 % 128)])))
   have h9 := h8 0 _ M.seesAll rfl (fun h => absurd h (by decide))
   simp only [Z7,Z0] at h9
   exact h9
  refine RulesL.cons (fun vs => { tmps := #[.string (bs l), Z3, .pointer (some ⟨g3, 0, none⟩), .bool false, .bool (decide (128 ≤ byteN l 31)), Z3, Z3, Z3, Z3, Z3, .string (bs l), .int .u8 ((byteN l 31 : Nat) : Int), .bool (decide (128 ≤ byteN l 31)), Z3, Z3, vs 1, Z3, Z3, Z3, Z3, vs 6, Z3, Z3, Z3, Z3, Z3, Z3, Z3, Z3, Z3, Z3, Z3, Z3, Z3, Z3, Z3, Z3, Z3, Z3, Z3, Z3, Z3, Z3, Z3, Z3, Z3, Z3, Z3, Z3, Z3, Z3, Z3], defers := [] }) (by kernel_rfl) ?_ ?_
  ·
   intro vs gs W25 SW25 D K9 hK9
   replace M := M.sees SW25
   obtain ⟨D1, D6, _⟩ := D
   have e1 : vs 1 = .string (bs (l.take 31)) := D1
   have e6 : vs 6 = .string (bs ([UInt8.ofNat (byteN l 31 % 128)])) := D6
   dsimp only at hK9
   dsimp only
   rw [e1, e6] at hK9 ⊢
   refine Z11 1 (by rfl) (fun Lk hLk => ?_)
   simp only [Z1,Z2]
   refine wpV_binS (v := .string (bs ((l.take 31) ++ ([UInt8.ofNat (byteN l 31 % 128)])))) (by rfl) rfl rfl rfl (run_add_bs _ _ _ (by simp [List.length_take, hl])) ?_
   simp only [Z7,Z0]
   refine Z14 (hLk _ (fun w26 Sw26 => ?_))
   clear hLk Lk
   simp only [Z1,Z2]
   replace M := M.sees Sw26
   refine Z9 (Z17 ?_)
   have h8 := hK9 (.string (bs ((l.take 31) ++ ([UInt8.ofNat (byteN l 31 % 128)]))))
   have h9 := h8 0 _ Sw26 rfl (fun h => absurd h (by decide))
   simp only [Z7,Z0] at h9
   exact h9
  refine RulesL.cons (fun vs => { tmps := #[.string (bs l), Z3, .pointer (some ⟨g3, 0, none⟩), .bool false, .bool (decide (128 ≤ byteN l 31)), Z3, Z3, Z3, Z3, Z3, .string (bs l), .int .u8 ((byteN l 31 : Nat) : Int), .bool (decide (128 ≤ byteN l 31)), Z3, Z3, Z3, Z3, Z3, Z3, Z3, Z3, vs 7, Z3, Z3, Z3, Z3, Z3, Z3, Z3, Z3, Z3, Z3, Z3, Z3, Z3, Z3, Z3, Z3, Z3, Z3, Z3, Z3, Z3, Z3, Z3, Z3, Z3, Z3, Z3, Z3, Z3, Z3], defers := [] }) (by kernel_rfl) ?_ ?_
  ·
   intro vs gs W27 SW27 D K9 hK9
   replace M := M.sees SW27
   obtain ⟨D7, _⟩ := D
   have e7 : vs 7 = .string (bs ((l.take 31) ++ ([UInt8.ofNat (byteN l 31 % 128)]))) := D7
   dsimp only at hK9
   dsimp only
   rw [e7] at hK9 ⊢
   refine Z11 1 (by rfl) (fun Lk hLk => ?_)
   simp only [Z1,Z2]
   refine Z20 (v := .tuple #[fe y, .bool false]) (args := #[.string (bs ((l.take 31) ++ ([UInt8.ofNat (byteN l 31 % 128)])))]) (by rfl) rfl Try.func35 (by kernel_rfl) (by kernel_rfl) rfl (fun W hW => (by have h9 := rparse04_c (l := yT l) (w := W) (by rw [yT_len hl]; decide); rw [hN, decide_eq_false hp] at h9; exact h9)) ?_
   simp only [Z7,Z0]
   refine Z14 (hLk _ (fun w28 Sw28 => ?_))
   clear hLk Lk
   simp only [Z1,Z2]
   replace M := M.sees Sw28
   refine Z9 (Z17 ?_)
   have h8 := hK9 (.tuple #[fe y, .bool false])
   have h9 := h8 0 _ Sw28 rfl (fun h => absurd h (by decide))
   simp only [Z7,Z0] at h9
   exact h9
  refine RulesL.cons (fun vs => { tmps := #[.string (bs l), Z3, .pointer (some ⟨g3, 0, none⟩), .bool false, .bool (decide (128 ≤ byteN l 31)), Z3, Z3, Z3, Z3, Z3, .string (bs l), .int .u8 ((byteN l 31 : Nat) : Int), .bool (decide (128 ≤ byteN l 31)), Z3, Z3, Z3, Z3, Z3, Z3, Z3, Z3, Z3, vs 8, Z3, Z3, Z3, Z3, Z3, Z3, Z3, Z3, Z3, Z3, Z3, Z3, Z3, Z3, Z3, Z3, Z3, Z3, Z3, Z3, Z3, Z3, Z3, Z3, Z3, Z3, Z3, Z3, Z3], defers := [] }) (by kernel_rfl) ?_ ?_
  ·
   intro vs gs W29 SW29 D K9 hK9
   replace M := M.sees SW29
   obtain ⟨D8, _⟩ := D
   have e8 : vs 8 = .tuple #[fe y, .bool false] := D8
   dsimp only at hK9
   dsimp only
   rw [e8] at hK9 ⊢
   refine Z12 (v := .tuple #[fe y, .bool false]) (by rfl) (by rfl) (by rfl) ?_
   simp only [Z7,Z0]
   refine Z9 (Z17 ?_)
   have h8 := hK9 (.tuple #[fe y, .bool false])
   have h9 := h8 0 _ (sees_refl _) rfl (fun h => absurd h (by decide))
   simp only [Z7,Z0] at h9
   exact h9
  refine RulesL.cons (fun vs => { tmps := #[.string (bs l), Z3, .pointer (some ⟨g3, 0, none⟩), .bool false, .bool (decide (128 ≤ byteN l 31)), Z3, Z3, Z3, Z3, Z3, .string (bs l), .int .u8 ((byteN l 31 : Nat) : Int), .bool (decide (128 ≤ byteN l 31)), vs 9, Z3, Z3, Z3, Z3, Z3, Z3, Z3, Z3, Z3, Z3, Z3, Z3, Z3, Z3, Z3, Z3, Z3, Z3, Z3, Z3, Z3, Z3, Z3, Z3, Z3, Z3, Z3, Z3, Z3, Z3, Z3, Z3, Z3, Z3, Z3, Z3, Z3, Z3], defers := [] }) (by kernel_rfl) ?_ ?_
  ·
   intro vs gs W30 SW30 D K9 hK9
   replace M := M.sees SW30
   obtain ⟨D9, _⟩ := D
   have e9 : vs 9 = .tuple #[fe y, .bool false] := D9
   dsimp only at hK9
   dsimp only
   rw [e9] at hK9 ⊢
   refine Z11 1 (by rfl) (fun Lk hLk => ?_)
   simp only [Z1,Z2]
   refine wpV_extract (v := fe y) (by rfl) rfl rfl rfl ?_
   simp only [Z7,Z0]
   refine Z14 (hLk _ (fun w31 Sw31 => ?_))
   clear hLk Lk
   simp only [Z1,Z2]
   replace M := M.sees Sw31
   refine Z9 (Z17 ?_)
   have h8 := hK9 (fe y)
   have h9 := h8 0 _ Sw31 rfl (fun h => absurd h (by decide))
   simp only [Z7,Z0] at h9
   exact h9
  refine RulesL.cons (fun vs => { tmps := #[.string (bs l), Z3, .pointer (some ⟨g3, 0, none⟩), .bool false, .bool (decide (128 ≤ byteN l 31)), Z3, Z3, Z3, Z3, Z3, .string (bs l), .int .u8 ((byteN l 31 : Nat) : Int), .bool (decide (128 ≤ byteN l 31)), vs 9, Z3, Z3, Z3, Z3, Z3, Z3, Z3, Z3, Z3, Z3, Z3, Z3, Z3, Z3, Z3, Z3, Z3, Z3, Z3, Z3, Z3, Z3, Z3, Z3, Z3, Z3, Z3, Z3, Z3, Z3, Z3, Z3, Z3, Z3, Z3, Z3, Z3, Z3], defers := [] }) (by kernel_rfl) ?_ ?_
  ·
   intro vs gs W32 SW32 D K9 hK9
   replace M := M.sees SW32
   obtain ⟨D9, _⟩ := D
   have e9 : vs 9 = .tuple #[fe y, .bool false] := D9
   dsimp only at hK9
   dsimp only
   rw [e9] at hK9 ⊢
   refine Z11 1 (by rfl) (fun Lk hLk => ?_)
   simp only [Z1,Z2]
   refine wpV_extract (v := .bool false) (by rfl) rfl rfl rfl ?_
   simp only [Z7,Z0]
   refine Z14 (hLk _ (fun w33 Sw33 => ?_))
   clear hLk Lk
   simp only [Z1,Z2]
   replace M := M.sees Sw33
   refine Z9 (Z17 ?_)
   have h8 := hK9 (.bool false)
   have h9 := h8 0 _ Sw33 rfl (fun h => absurd h (by decide))
   simp only [Z7,Z0] at h9
   exact h9
  refine RulesL.cons (fun vs => { tmps := #[.string (bs l), Z3, .pointer (some ⟨g3, 0, none⟩), .bool false, .bool (decide (128 ≤ byteN l 31)), Z3, Z3, Z3, Z3, Z3, .string (bs l), .int .u8 ((byteN l 31 : Nat) : Int), .bool (decide (128 ≤ byteN l 31)), Z3, Z3, Z3, Z3, Z3, Z3, Z3, Z3, Z3, Z3, Z3, Z3, Z3, Z3, Z3, Z3, Z3, Z3, Z3, Z3, Z3, Z3, Z3, Z3, Z3, Z3, Z3, Z3, Z3, Z3, Z3, Z3, Z3, Z3, Z3, Z3, Z3, Z3, Z3], defers := [] }) (by kernel_rfl) ?_ ?_
  ·
   intro vs gs W34 SW34 D K9 hK9
   replace M := M.sees SW34
   have Rg3_0 := M.r 0 0 rfl rfl
   have Rg3_4 := M.r 0 1 rfl rfl
   have Lg3 := M.lt 0 rfl
   have BB := M.below
   replace M := Mem.start W34
   dsimp only at hK9
   dsimp only
   refine wpL_var (t := 24) (cs := [.int .u64 0, .int .u64 0, .int .u64 0, .int .u64 0]) (by rfl) (fun W => ?_) (fun g35 w36 Sw36 Hg35 Bg35 => ?_)
   ·
    go_simp
   replace M := ((M.sees Sw36).add (N := 4) (cs := [.int .u64 0, .int .u64 0, .int .u64 0, .int .u64 0]) (M.ge Hg35) (M.fresh Hg35) Bg35 rfl)
   clear Bg35
   simp only [Z7,Z0]
   refine Z9 (Z17 ?_)
   have h8 := hK9 (.pointer (some ⟨g35, 0, none⟩))
   have h9 := h8 g35 _ M.seesAll ⟨rfl, (M.ok _ (.head _)).up SW34⟩ (fun _ => (M.ok _ (.head _)).ge)
   simp only [Z7,Z0] at h9
   exact h9
  exact RulesL.nil
 intro vs gs W37 SW37 D A9
 obtain ⟨D0, D1, D2, D3, D4, D5, D6, D7, D8, D9, D10, D11, D12, _⟩ := (show DepRel _ vs gs W37 [0, 1, 2, 3, 4, 5, 6, 7, 8, 9, 10, 11, 12] from D)
 have n5_12 : gs 5 ≠ gs 12 := A9 5 12 (by decide) (by decide) (by decide) (by decide) (by decide)
 clear A9 D
 have e0 : vs 0 = .string (bs l) := D0
 have e1 : vs 1 = .string (bs (l.take 31)) := D1
 have e2 : vs 2 = .string (bs l) := D2
 have e3 : vs 3 = .int .u8 ((byteN l 31 : Nat) : Int) := D3
 have e4 : vs 4 = .int .u8 ((byteN l 31 % 128 : Nat) : Int) := D4
 obtain ⟨e5, Og38⟩ := D5
 generalize gs 5 = g38 at *
 replace e5 : vs 5 = .slice (some ⟨g38, 0, none⟩) 1 1 := e5
 have e6 : vs 6 = .string (bs ([UInt8.ofNat (byteN l 31 % 128)])) := D6
 have e7 : vs 7 = .string (bs ((l.take 31) ++ ([UInt8.ofNat (byteN l 31 % 128)]))) := D7
 have e8 : vs 8 = .tuple #[fe y, .bool false] := D8
 have e9 : vs 9 = .tuple #[fe y, .bool false] := D9
 have e10 : vs 10 = fe y := D10
 have e11 : vs 11 = .bool false := D11
 obtain ⟨e12, Og39⟩ := D12
 generalize gs 12 = g39 at *
 replace e12 : vs 12 = .pointer (some ⟨g39, 0, none⟩) := e12
 replace M := M.addOks SW37 [⟨g38, 1, [(0, [.int .u8 ((byteN l 31 % 128 : Nat) : Int)])]⟩, ⟨g39, 4, [(0, [.int .u64 0, .int .u64 0, .int .u64 0, .int .u64 0])]⟩] (List.forall_mem_cons.2 ⟨Og38, (List.forall_mem_cons.2 ⟨Og39, (fun _ h => nomatch h)⟩)⟩) (.cons (List.forall_mem_cons.2 ⟨n5_12, (fun _ h => nomatch h)⟩) (.cons (fun _ h => nomatch h) .nil))
 simp only [List.cons_append, List.nil_append] at M
 dsimp only
 simp only [e0, e1, e2, e3, e4, e5, e6, e7, e8, e9, e10, e11, e12, Z2]
 refine wpL_store (g := g39) (off := 0) (n := 4) (cs := fel y) (by rfl) (by rfl) (by rfl) (by rfl) (by rfl) (M.t 1 rfl) (by simp [flen]) info24 (fel_one _) (fun w40 P R T => ?_)
 replace M := M.putS 1 0 rfl P R T rfl ⟨.inl rfl, trivial⟩
 simp only [Z0] at M
 refine Z13 (v := .bool false) (by rfl) (by rfl) (by rfl) ?_
 simp only [Z7,Z0]
 refine Z9 (Z10 ?_)
 refine hK8 _ _ ?_
 refine Z4 (fun K41 hK41 => ?_)
 refine Z4 (fun K42 hK42 => ?_)
 refine Z8 ?_
 refine Z12 (v := .bool false) (by rfl) (by rfl) (by rfl) ?_
 simp only [Z7,Z0]
 refine Z11 1 (by rfl) (fun Lk hLk => ?_)
 simp only [Z1,Z2]
 refine wpV_not (b := false) (by rfl) rfl rfl ?_
 simp only [Bool.not_true, Bool.not_false]
 simp only [Z7,Z0]
 refine Z14 (hLk _ (fun w44 Sw44 => ?_))
 clear hLk Lk
 simp only [Z1,Z2]
 replace M := M.sees Sw44
 refine Z9 (Z10 ?_)
 refine hK42 _ _ ?_
 refine Z5 rfl ?_
 refine Z4 (fun K45 hK45 => ?_)
 refine Z8 ?_
 refine Z11 1 (by rfl) (fun Lk hLk => ?_)
 simp only [Z1,Z2]
 refine Z19 (v := .agg ([.int .u64 0, .int .u64 0, .int .u64 0, .int .u64 0, .int .u64 0, .int .u64 0, .int .u64 0, .int .u64 0]).toArray) (by rfl) (by rfl) (fun W hW => ?_) ?_
 ·
  (unfold RunsVal; kernel_rfl)
 simp only [Z7,Z0]
 refine Z14 (hLk _ (fun w47 Sw47 => ?_))
 clear hLk Lk
 simp only [Z1,Z2]
 replace M := M.sees Sw47
 refine wpL_store (g := g3) (off := 0) (n := 8) (cs := [.int .u64 0, .int .u64 0, .int .u64 0, .int .u64 0, .int .u64 0, .int .u64 0, .int .u64 0, .int .u64 0]) (by rfl) (by rfl) (by rfl) (by rfl) (by rfl) (M.t 2 rfl) (by simp [flen]) info32 (by simp [fone, Value.oneCell']) (fun w48 P R T => ?_)
 replace M := M.put (segs' := [(0, [.int .u64 0, .int .u64 0, .int .u64 0, .int .u64 0]), (4, [.int .u64 0, .int .u64 0, .int .u64 0, .int .u64 0])]) 2 rfl P T (SegsOf.at R ⟨rfl, rfl, trivial⟩)
 simp only [Z0] at M
 refine Z13 (v := .bool false) (by rfl) (by rfl) (by rfl) ?_
 simp only [Z7,Z0]
 refine Z9 (Z10 ?_)
 refine hK45 _ _ ?_
 refine wp_ret ?_
 repeat (first | with_reducible refine then_ret ?_ | with_reducible refine inblock_ret ?_)
 refine bodyPost_ret (v := .tuple #[.agg ([.int .u64 0, .int .u64 0, .int .u64 0, .int .u64 0] ++ [.int .u64 0, .int .u64 0, .int .u64 0, .int .u64 0] : List Value).toArray, .bool false]) (res2 rfl (.cell (by rfl) (run_loadVar_mid _ _ _ _ ([.int .u64 0, .int .u64 0, .int .u64 0, .int .u64 0] ++ [.int .u64 0, .int .u64 0, .int .u64 0, .int .u64 0]) _ (range_join (M.r 2 0 rfl rfl) (M.r 2 1 rfl rfl) (by simp [flen])) Try.underlying32 rfl info32)) (.tmp (by rfl))) rfl ?_
 have BE := M.below
 exact ⟨rfl, BE⟩
set_option maxHeartbeats 2000000 in
theorem rParse_go {l : List UInt8} {y : Nat} {x : Nat} {b : Bool} {w : World} (hl : l.length = 32) (hN : leN (yT l) = y) (hy : y < 2 ^ 256) (hp : y < pF) (hx : x < 2 ^ 256) (hr : rootX y = (x, b)) :
  Calls Try.prog 12 #[.string (bs l)] w fun e w' => e = .returned (.tuple #[.agg (fel (rparX x b (decide (128 ≤ byteN l 31))) ++ fel (rparY x y b (decide (128 ≤ byteN l 31))) : List Value).toArray, .bool (parsY x b (decide (128 ≤ byteN l 31)))]) ∧ Below w.heap.size w w' := by
 go_enter Try.func12, Try.ntmps12
 have M := Mem.start w
 refine Z4 (fun K1 hK1 => ?_)
 refine Z8 ?_
 refine wpL_var (t := 32) (cs := [.int .u64 0, .int .u64 0, .int .u64 0, .int .u64 0, .int .u64 0, .int .u64 0, .int .u64 0, .int .u64 0]) (by rfl) (fun W => ?_) (fun g3 w4 Sw4 Hg3 Bg3 => ?_)
 ·
  go_simp
 replace M := ((M.sees Sw4).addS (N := 8) (cs := [.int .u64 0, .int .u64 0, .int .u64 0, .int .u64 0, .int .u64 0, .int .u64 0, .int .u64 0, .int .u64 0]) (segs := [(0, [.int .u64 0, .int .u64 0, .int .u64 0, .int .u64 0]), (4, [.int .u64 0, .int .u64 0, .int .u64 0, .int .u64 0])]) (M.ge Hg3) (M.fresh Hg3) Bg3 rfl ⟨rfl, rfl, trivial⟩)
 clear Bg3
 simp only [Z7,Z0]
 refine Z13 (v := .bool false) (by rfl) (by rfl) (by rfl) ?_
 simp only [Z7,Z0]
 refine Z9 (Z10 ?_)
 refine hK1 _ _ ?_
 refine Z4 (fun K5 hK5 => ?_)
 refine Z8 ?_
 refine Z12 (v := .string (bs l)) (by rfl) (by rfl) (by rfl) ?_
 simp only [Z7,Z0]
 refine Z11 2 (by rfl) (fun Lk hLk => ?_)
 simp only [Z1,Z2]
 refine wpV_indexb (n := 31) (by omega) (by rfl) rfl rfl rfl Try.underlying9 ?_
 simp only [Z7,Z0]
 refine Z15 (v := .bool (decide (128 ≤ byteN l 31))) (by rfl) rfl rfl rfl (fun W => run_geqN (byteN l 31) 128 _ _ W) ?_
 simp only [Z7,Z0]
 refine Z14 (hLk _ (fun w7 Sw7 => ?_))
 clear hLk Lk
 simp only [Z1,Z2]
 replace M := M.sees Sw7
 refine Z13 (v := .bool (decide (128 ≤ byteN l 31))) (by rfl) (by rfl) (by rfl) ?_
 simp only [Z7,Z0]
 refine Z9 (Z10 ?_)
 refine hK5 _ _ ?_
 refine Z4 (fun K8 hK8 => ?_)
 refine wp_region_addsF 13 [11] [5, 12] [ValRel (.string (bs l)), ValRel (.string (bs (l.take 31))), ValRel (.string (bs l)), ValRel (.int .u8 ((byteN l 31 : Nat) : Int)), ValRel (.int .u8 ((byteN l 31 % 128 : Nat) : Int)), BoxRel w7 (fun gA => .slice (some ⟨gA, 0, none⟩) 1 1) 1 [(0, [.int .u8 ((byteN l 31 % 128 : Nat) : Int)])], ValRel (.string (bs ([UInt8.ofNat (byteN l 31 % 128)]))), ValRel (.string (bs ((l.take 31) ++ ([UInt8.ofNat (byteN l 31 % 128)])))), ValRel (.tuple #[fe y, .bool true]), ValRel (.tuple #[fe y, .bool true]), ValRel (fe y), ValRel (.bool true), BoxRel w7 (fun gA => .pointer (some ⟨gA, 0, none⟩)) 4 [(0, [.int .u64 0, .int .u64 0, .int .u64 0, .int .u64 0])]] [[], [0], [], [2], [3], [4], [5], [1, 6], [7], [8], [9], [9], []] (fun vs => { tmps := #[.string (bs l), Z3, .pointer (some ⟨g3, 0, none⟩), .bool false, .bool (decide (128 ≤ byteN l 31)), vs 12, Z3, Z3, Z3, Z3, .string (bs l), .int .u8 ((byteN l 31 : Nat) : Int), .bool (decide (128 ≤ byteN l 31)), vs 9, vs 0, vs 1, vs 2, vs 3, vs 4, vs 5, vs 6, vs 7, vs 8, vs 10, vs 11, Z3, Z3, Z3, Z3, Z3, Z3, Z3, Z3, Z3, Z3, Z3, Z3, Z3, Z3, Z3, Z3, Z3, Z3, Z3, Z3, Z3, Z3, Z3, Z3, Z3, Z3, Z3], defers := [] }) (by kernel_rfl) (by kernel_rfl) (by kernel_rfl) (by kernel_rfl) (.cons keep_val (.cons keep_val (.cons keep_val (.cons keep_val (.cons keep_val (.cons keep_box (.cons keep_val (.cons keep_val (.cons keep_val (.cons keep_val (.cons keep_val (.cons keep_val (.cons keep_box AllKeep.nil))))))))))))) (.free free_val (.free free_val (.free free_val (.free free_val (.free free_val (.free free_box (.free free_val (.free free_val (.free free_val (.free free_val (.free free_val (.free free_val (.free free_box AllLoc.nil))))))))))))) (.cons own_box (.cons own_box AllOwn.nil)) (by kernel_rfl) ?_ ?_
 ·
  simp only [Z1]
  refine RulesL.cons (fun vs => { tmps := #[.string (bs l), Z3, .pointer (some ⟨g3, 0, none⟩), .bool false, .bool (decide (128 ≤ byteN l 31)), Z3, Z3, Z3, Z3, Z3, .string (bs l), .int .u8 ((byteN l 31 : Nat) : Int), .bool (decide (128 ≤ byteN l 31)), Z3, Z3, Z3, Z3, Z3, Z3, Z3, Z3, Z3, Z3, Z3, Z3, Z3, Z3, Z3, Z3, Z3, Z3, Z3, Z3, Z3, Z3, Z3, Z3, Z3, Z3, Z3, Z3, Z3, Z3, Z3, Z3, Z3, Z3, Z3, Z3, Z3, Z3, Z3], defers := [] }) (by kernel_rfl) ?_ ?_
  ·
   intro vs gs W11 SW11 D K9 hK9
   replace M := M.sees SW11
   dsimp only at hK9
   dsimp only
   refine Z12 (v := .string (bs l)) (by rfl) (by rfl) (by rfl) ?_
   simp only [Z7,Z0]
   refine Z9 (Z17 ?_)
   have h8 := hK9 (.string (bs l))
   have h9 := h8 0 _ (sees_refl _) rfl (fun h => absurd h (by decide))
   simp only [Z7,Z0] at h9
   exact h9
  refine RulesL.cons (fun vs => { tmps := #[.string (bs l), Z3, .pointer (some ⟨g3, 0, none⟩), .bool false, .bool (decide (128 ≤ byteN l 31)), Z3, Z3, Z3, Z3, Z3, .string (bs l), .int .u8 ((byteN l 31 : Nat) : Int), .bool (decide (128 ≤ byteN l 31)), Z3, vs 0, Z3, Z3, Z3, Z3, Z3, Z3, Z3, Z3, Z3, Z3, Z3, Z3, Z3, Z3, Z3, Z3, Z3, Z3, Z3, Z3, Z3, Z3, Z3, Z3, Z3, Z3, Z3, Z3, Z3, Z3, Z3, Z3, Z3, Z3, Z3, Z3, Z3], defers := [] }) (by kernel_rfl) ?_ ?_
  ·
   intro vs gs W12 SW12 D K9 hK9
   replace M := M.sees SW12
   obtain ⟨D0, _⟩ := D
   have e0 : vs 0 = .string (bs l) := D0
   dsimp only at hK9
   dsimp only
   rw [e0] at hK9 ⊢
   refine Z11 1 (by rfl) (fun Lk hLk => ?_)
   simp only [Z1,Z2]
   refine wpV_takeS (l := l) (hi := 31) (by rfl) rfl rfl rfl Try.underlying9 (by omega) ?_
   simp only [Z7,Z0]
   refine Z14 (hLk _ (fun w13 Sw13 => ?_))
   clear hLk Lk
   simp only [Z1,Z2]
   replace M := M.sees Sw13
   refine Z9 (Z17 ?_)
   have h8 := hK9 (.string (bs (l.take 31)))
   have h9 := h8 0 _ Sw13 rfl (fun h => absurd h (by decide))
   simp only [Z7,Z0] at h9
   exact h9
  refine RulesL.cons (fun vs => { tmps := #[.string (bs l), Z3, .pointer (some ⟨g3, 0, none⟩), .bool false, .bool (decide (128 ≤ byteN l 31)), Z3, Z3, Z3, Z3, Z3, .string (bs l), .int .u8 ((byteN l 31 : Nat) : Int), .bool (decide (128 ≤ byteN l 31)), Z3, Z3, Z3, Z3, Z3, Z3, Z3, Z3, Z3, Z3, Z3, Z3, Z3, Z3, Z3, Z3, Z3, Z3, Z3, Z3, Z3, Z3, Z3, Z3, Z3, Z3, Z3, Z3, Z3, Z3, Z3, Z3, Z3, Z3, Z3, Z3, Z3, Z3, Z3], defers := [] }) (by kernel_rfl) ?_ ?_
  ·
   intro vs gs W14 SW14 D K9 hK9
   replace M := M.sees SW14
   dsimp only at hK9
   dsimp only
   refine Z12 (v := .string (bs l)) (by rfl) (by rfl) (by rfl) ?_
   simp only [Z7,Z0]
   refine Z9 (Z17 ?_)
   have h8 := hK9 (.string (bs l))
   have h9 := h8 0 _ (sees_refl _) rfl (fun h => absurd h (by decide))
   simp only [Z7,Z0] at h9
   exact h9
  refine RulesL.cons (fun vs => { tmps := #[.string (bs l), Z3, .pointer (some ⟨g3, 0, none⟩), .bool false, .bool (decide (128 ≤ byteN l 31)), Z3, Z3, Z3, Z3, Z3, .string (bs l), .int .u8 ((byteN l 31 : Nat) : Int), .bool (decide (128 ≤ byteN l 31)), Z3, Z3, Z3, vs 2, Z3, Z3, Z3, Z3, Z3, Z3, Z3, Z3, Z3, Z3, Z3, Z3, Z3, Z3, Z3, Z3, Z3, Z3, Z3, Z3, Z3, Z3, Z3, Z3, Z3, Z3, Z3, Z3, Z3, Z3, Z3, Z3, Z3, Z3, Z3], defers := [] }) (by kernel_rfl) ?_ ?_
  ·
   intro vs gs W15 SW15 D K9 hK9
   replace M := M.sees SW15
   obtain ⟨D2, _⟩ := D
   have e2 : vs 2 = .string (bs l) := D2
   dsimp only at hK9
   dsimp only
   rw [e2] at hK9 ⊢
   refine Z11 1 (by rfl) (fun Lk hLk => ?_)
   simp only [Z1,Z2]
   refine wpV_indexb (n := 31) (by omega) (by rfl) rfl rfl rfl Try.underlying9 ?_
   simp only [Z7,Z0]
   refine Z14 (hLk _ (fun w16 Sw16 => ?_))
   clear hLk Lk
   simp only [Z1,Z2]
   replace M := M.sees Sw16
   refine Z9 (Z17 ?_)
   have h8 := hK9 (.int .u8 ((byteN l 31 : Nat) : Int))
   have h9 := h8 0 _ Sw16 rfl (fun h => absurd h (by decide))
   simp only [Z7,Z0] at h9
   exact h9
  refine RulesL.cons (fun vs => { tmps := #[.string (bs l), Z3, .pointer (some ⟨g3, 0, none⟩), .bool false, .bool (decide (128 ≤ byteN l 31)), Z3, Z3, Z3, Z3, Z3, .string (bs l), .int .u8 ((byteN l 31 : Nat) : Int), .bool (decide (128 ≤ byteN l 31)), Z3, Z3, Z3, Z3, vs 3, Z3, Z3, Z3, Z3, Z3, Z3, Z3, Z3, Z3, Z3, Z3, Z3, Z3, Z3, Z3, Z3, Z3, Z3, Z3, Z3, Z3, Z3, Z3, Z3, Z3, Z3, Z3, Z3, Z3, Z3, Z3, Z3, Z3, Z3], defers := [] }) (by kernel_rfl) ?_ ?_
  ·
   intro vs gs W17 SW17 D K9 hK9
   replace M := M.sees SW17
   obtain ⟨D3, _⟩ := D
   have e3 : vs 3 = .int .u8 ((byteN l 31 : Nat) : Int) := D3
   dsimp only at hK9
   dsimp only
   rw [e3] at hK9 ⊢
   refine Z11 1 (by rfl) (fun Lk hLk => ?_)
   simp only [Z1,Z2]
   refine Z15 (v := .int .u8 ((byteN l 31 % 128 : Nat) : Int)) (by rfl) rfl rfl rfl (fun W => run_rem (by decide) (by exact (tmod_nat _ _)) W) ?_
   simp only [Z7,Z0]
   refine Z14 (hLk _ (fun w18 Sw18 => ?_))
   clear hLk Lk
   simp only [Z1,Z2]
   replace M := M.sees Sw18
   refine Z9 (Z17 ?_)
   have h8 := hK9 (.int .u8 ((byteN l 31 % 128 : Nat) : Int))
   have h9 := h8 0 _ Sw18 rfl (fun h => absurd h (by decide))
   simp only [Z7,Z0] at h9
   exact h9
  refine RulesL.cons (fun vs => { tmps := #[.string (bs l), Z3, .pointer (some ⟨g3, 0, none⟩), .bool false, .bool (decide (128 ≤ byteN l 31)), Z3, Z3, Z3, Z3, Z3, .string (bs l), .int .u8 ((byteN l 31 : Nat) : Int), .bool (decide (128 ≤ byteN l 31)), Z3, Z3, Z3, Z3, Z3, vs 4, Z3, Z3, Z3, Z3, Z3, Z3, Z3, Z3, Z3, Z3, Z3, Z3, Z3, Z3, Z3, Z3, Z3, Z3, Z3, Z3, Z3, Z3, Z3, Z3, Z3, Z3, Z3, Z3, Z3, Z3, Z3, Z3, Z3], defers := [] }) (by kernel_rfl) ?_ ?_
  ·
   intro vs gs W19 SW19 D K9 hK9
   replace M := M.sees SW19
   have Rg3_0 := M.r 0 0 rfl rfl
   have Rg3_4 := M.r 0 1 rfl rfl
   have Lg3 := M.lt 0 rfl
   have BB := M.below
   replace M := Mem.start W19
   obtain ⟨D4, _⟩ := D
   have e4 : vs 4 = .int .u8 ((byteN l 31 % 128 : Nat) : Int) := D4
   dsimp only at hK9
   dsimp only
   rw [e4] at hK9 ⊢
   refine wpL_rowN (vs := [.int .u8 ((byteN l 31 % 128 : Nat) : Int)]) (z := .int .u8 0) (bytes := 1) (by rfl) (by rfl) Try.underlying62 (by kernel_rfl) (by decide) (by kernel_rfl) (fun g20 w21 Sw21 Hg20 Bg20 => ?_)
   replace M := ((M.sees Sw21).add (N := 1) (cs := [.int .u8 ((byteN l 31 % 128 : Nat) : Int)]) (M.ge Hg20) (M.fresh Hg20) Bg20 rfl)
   clear Bg20
   simp only [Z7,Z0]
   refine Z9 (Z17 ?_)
   have h8 := hK9 (.slice (some ⟨g20, 0, none⟩) 1 1)
   have h9 := h8 g20 _ M.seesAll ⟨rfl, (M.ok _ (.head _)).up SW19⟩ (fun _ => (M.ok _ (.head _)).ge)
   simp only [Z7,Z0] at h9
   exact h9
  refine RulesL.cons (fun vs => { tmps := #[.string (bs l), Z3, .pointer (some ⟨g3, 0, none⟩), .bool false, .bool (decide (128 ≤ byteN l 31)), Z3, Z3, Z3, Z3, Z3, .string (bs l), .int .u8 ((byteN l 31 : Nat) : Int), .bool (decide (128 ≤ byteN l 31)), Z3, Z3, Z3, Z3, Z3, Z3, vs 5, Z3, Z3, Z3, Z3, Z3, Z3, Z3, Z3, Z3, Z3, Z3, Z3, Z3, Z3, Z3, Z3, Z3, Z3, Z3, Z3, Z3, Z3, Z3, Z3, Z3, Z3, Z3, Z3, Z3, Z3, Z3, Z3], defers := [] }) (by kernel_rfl) ?_ ?_
  ·
   intro vs gs W22 SW22 D K9 hK9
   replace M := M.sees SW22
   have Rg3_0 := M.r 0 0 rfl rfl
   have Rg3_4 := M.r 0 1 rfl rfl
   have Lg3 := M.lt 0 rfl
   have BB := M.below
   replace M := Mem.start W22
   obtain ⟨D5, _⟩ := D
   obtain ⟨e5, Og23⟩ := D5
   generalize gs 5 = g23 at *
   replace e5 : vs 5 = .slice (some ⟨g23, 0, none⟩) 1 1 := e5
   have Rg23_0 := Og23.range (0, [.int .u8 ((byteN l 31 % 128 : Nat) : Int)]) (by simp only [List.mem_cons, true_or, or_true])
   have Lg23 := Og23.lt
   dsimp only at hK9
   dsimp only
   rw [e5] at hK9 ⊢
   refine Z11 1 (by rfl) (fun Lk hLk => ?_)
   simp only [Z1,Z2]
   rw [← bcells_one9 (v := byteN l 31 % 128) (by have := byteN_lt l 31; omega)] at Rg23_0
   refine wpV_b2s (l := [UInt8.ofNat (byteN l 31 % 128)]) (by rfl) rfl rfl rfl Try.underlying62 Try.underlying5 Try.underlying9 (M.oldR Rg23_0 Lg23) (M.oldL Lg23) ?_
   simp only [Z7,Z0]
   refine Z14 (hLk _ (fun w24 Sw24 => ?_))
   clear hLk Lk
   simp only [Z1,Z2]
   replace M := M.sees Sw24
   refine Z9 (Z17 ?_)
   have h8 := hK9 (.string (bs ([UInt8.ofNat (byteN l 31 % 128)])))
   have h9 := h8 0 _ M.seesAll rfl (fun h => absurd h (by decide))
   simp only [Z7,Z0] at h9
   exact h9
  refine RulesL.cons (fun vs => { tmps := #[.string (bs l), Z3, .pointer (some ⟨g3, 0, none⟩), .bool false, .bool (decide (128 ≤ byteN l 31)), Z3, Z3, Z3, Z3, Z3, .string (bs l), .int .u8 ((byteN l 31 : Nat) : Int), .bool (decide (128 ≤ byteN l 31)), Z3, Z3, vs 1, Z3, Z3, Z3, Z3, vs 6, Z3, Z3, Z3, Z3, Z3, Z3, Z3, Z3, Z3, Z3, Z3, Z3, Z3, Z3, Z3, Z3, Z3, Z3, Z3, Z3, Z3, Z3, Z3, Z3, Z3, Z3, Z3, Z3, Z3, Z3, Z3], defers := [] }) (by kernel_rfl) ?_ ?_
  ·
   intro vs gs W25 SW25 D K9 hK9
   replace M := M.sees SW25
   obtain ⟨D1, D6, _⟩ := D
   have e1 : vs 1 = .string (bs (l.take 31)) := D1
   have e6 : vs 6 = .string (bs ([UInt8.ofNat (byteN l 31 % 128)])) := D6
   dsimp only at hK9
   dsimp only
   rw [e1, e6] at hK9 ⊢
   refine Z11 1 (by rfl) (fun Lk hLk => ?_)
   simp only [Z1,Z2]
   refine wpV_binS (v := .string (bs ((l.take 31) ++ ([UInt8.ofNat (byteN l 31 % 128)])))) (by rfl) rfl rfl rfl (run_add_bs _ _ _ (by simp [List.length_take, hl])) ?_
   simp only [Z7,Z0]
   refine Z14 (hLk _ (fun w26 Sw26 => ?_))
   clear hLk Lk
   simp only [Z1,Z2]
   replace M := M.sees Sw26
   refine Z9 (Z17 ?_)
   have h8 := hK9 (.string (bs ((l.take 31) ++ ([UInt8.ofNat (byteN l 31 % 128)]))))
   have h9 := h8 0 _ Sw26 rfl (fun h => absurd h (by decide))
   simp only [Z7,Z0] at h9
   exact h9
  refine RulesL.cons (fun vs => { tmps := #[.string (bs l), Z3, .pointer (some ⟨g3, 0, none⟩), .bool false, .bool (decide (128 ≤ byteN l 31)), Z3, Z3, Z3, Z3, Z3, .string (bs l), .int .u8 ((byteN l 31 : Nat) : Int), .bool (decide (128 ≤ byteN l 31)), Z3, Z3, Z3, Z3, Z3, Z3, Z3, Z3, vs 7, Z3, Z3, Z3, Z3, Z3, Z3, Z3, Z3, Z3, Z3, Z3, Z3, Z3, Z3, Z3, Z3, Z3, Z3, Z3, Z3, Z3, Z3, Z3, Z3, Z3, Z3, Z3, Z3, Z3, Z3], defers := [] }) (by kernel_rfl) ?_ ?_
  ·
   intro vs gs W27 SW27 D K9 hK9
   replace M := M.sees SW27
   obtain ⟨D7, _⟩ := D
   have e7 : vs 7 = .string (bs ((l.take 31) ++ ([UInt8.ofNat (byteN l 31 % 128)]))) := D7
   dsimp only at hK9
   dsimp only
   rw [e7] at hK9 ⊢
   refine Z11 1 (by rfl) (fun Lk hLk => ?_)
   simp only [Z1,Z2]
   refine Z20 (v := .tuple #[fe y, .bool true]) (args := #[.string (bs ((l.take 31) ++ ([UInt8.ofNat (byteN l 31 % 128)])))]) (by rfl) rfl Try.func35 (by kernel_rfl) (by kernel_rfl) rfl (fun W hW => (by have h9 := rparse04_c (l := yT l) (w := W) (by rw [yT_len hl]; decide); rw [hN, decide_eq_true hp] at h9; exact h9)) ?_
   simp only [Z7,Z0]
   refine Z14 (hLk _ (fun w28 Sw28 => ?_))
   clear hLk Lk
   simp only [Z1,Z2]
   replace M := M.sees Sw28
   refine Z9 (Z17 ?_)
   have h8 := hK9 (.tuple #[fe y, .bool true])
   have h9 := h8 0 _ Sw28 rfl (fun h => absurd h (by decide))
   simp only [Z7,Z0] at h9
   exact h9
  refine RulesL.cons (fun vs => { tmps := #[.string (bs l), Z3, .pointer (some ⟨g3, 0, none⟩), .bool false, .bool (decide (128 ≤ byteN l 31)), Z3, Z3, Z3, Z3, Z3, .string (bs l), .int .u8 ((byteN l 31 : Nat) : Int), .bool (decide (128 ≤ byteN l 31)), Z3, Z3, Z3, Z3, Z3, Z3, Z3, Z3, Z3, vs 8, Z3, Z3, Z3, Z3, Z3, Z3, Z3, Z3, Z3, Z3, Z3, Z3, Z3, Z3, Z3, Z3, Z3, Z3, Z3, Z3, Z3, Z3, Z3, Z3, Z3, Z3, Z3, Z3, Z3], defers := [] }) (by kernel_rfl) ?_ ?_
  ·
   intro vs gs W29 SW29 D K9 hK9
   replace M := M.sees SW29
   obtain ⟨D8, _⟩ := D
   have e8 : vs 8 = .tuple #[fe y, .bool true] := D8
   dsimp only at hK9
   dsimp only
   rw [e8] at hK9 ⊢
   refine Z12 (v := .tuple #[fe y, .bool true]) (by rfl) (by rfl) (by rfl) ?_
   simp only [Z7,Z0]
   refine Z9 (Z17 ?_)
   have h8 := hK9 (.tuple #[fe y, .bool true])
   have h9 := h8 0 _ (sees_refl _) rfl (fun h => absurd h (by decide))
   simp only [Z7,Z0] at h9
   exact h9
  refine RulesL.cons (fun vs => { tmps := #[.string (bs l), Z3, .pointer (some ⟨g3, 0, none⟩), .bool false, .bool (decide (128 ≤ byteN l 31)), Z3, Z3, Z3, Z3, Z3, .string (bs l), .int .u8 ((byteN l 31 : Nat) : Int), .bool (decide (128 ≤ byteN l 31)), vs 9, Z3, Z3, Z3, Z3, Z3, Z3, Z3, Z3, Z3, Z3, Z3, Z3, Z3, Z3, Z3, Z3, Z3, Z3, Z3, Z3, Z3, Z3, Z3, Z3, Z3, Z3, Z3, Z3, Z3, Z3, Z3, Z3, Z3, Z3, Z3, Z3, Z3, Z3], defers := [] }) (by kernel_rfl) ?_ ?_
  ·
   intro vs gs W30 SW30 D K9 hK9
   replace M := M.sees SW30
   obtain ⟨D9, _⟩ := D
   have e9 : vs 9 = .tuple #[fe y, .bool true] := D9
   dsimp only at hK9
   dsimp only
   rw [e9] at hK9 ⊢
   refine Z11 1 (by rfl) (fun Lk hLk => ?_)
   simp only [Z1,Z2]
   refine wpV_extract (v := fe y) (by rfl) rfl rfl rfl ?_
   simp only [Z7,Z0]
   refine Z14 (hLk _ (fun w31 Sw31 => ?_))
   clear hLk Lk
   simp only [Z1,Z2]
   replace M := M.sees Sw31
   refine Z9 (Z17 ?_)
   have h8 := hK9 (fe y)
   have h9 := h8 0 _ Sw31 rfl (fun h => absurd h (by decide))
   simp only [Z7,Z0] at h9
   exact h9
  refine RulesL.cons (fun vs => { tmps := #[.string (bs l), Z3, .pointer (some ⟨g3, 0, none⟩), .bool false, .bool (decide (128 ≤ byteN l 31)), Z3, Z3, Z3, Z3, Z3, .string (bs l), .int .u8 ((byteN l 31 : Nat) : Int), .bool (decide (128 ≤ byteN l 31)), vs 9, Z3, Z3, Z3, Z3, Z3, Z3, Z3, Z3, Z3, Z3, Z3, Z3, Z3, Z3, Z3, Z3, Z3, Z3, Z3, Z3, Z3, Z3, Z3, Z3, Z3, Z3, Z3, Z3, Z3, Z3, Z3, Z3, Z3, Z3, Z3, Z3, Z3, Z3], defers := [] }) (by kernel_rfl) ?_ ?_
  ·
   intro vs gs W32 SW32 D K9 hK9
   replace M := M.sees SW32
   obtain ⟨D9, _⟩ := D
   have e9 : vs 9 = .tuple #[fe y, .bool true] := D9
   dsimp only at hK9
   dsimp only
   rw [e9] at hK9 ⊢
   refine Z11 1 (by rfl) (fun Lk hLk => ?_)
   simp only [Z1,Z2]
   refine wpV_extract (v := .bool true) (by rfl) rfl rfl rfl ?_
   simp only [Z7,Z0]
   refine Z14 (hLk _ (fun w33 Sw33 => ?_))
   clear hLk Lk
   simp only [Z1,Z2]
   replace M := M.sees Sw33
   refine Z9 (Z17 ?_)
   have h8 := hK9 (.bool true)
   have h9 := h8 0 _ Sw33 rfl (fun h => absurd h (by decide))
   simp only [Z7,Z0] at h9
   exact h9
  refine RulesL.cons (fun vs => { tmps := #[.string (bs l), Z3, .pointer (some ⟨g3, 0, none⟩), .bool false, .bool (decide (128 ≤ byteN l 31)), Z3, Z3, Z3, Z3, Z3, .string (bs l), .int .u8 ((byteN l 31 : Nat) : Int), .bool (decide (128 ≤ byteN l 31)), Z3, Z3, Z3, Z3, Z3, Z3, Z3, Z3, Z3, Z3, Z3, Z3, Z3, Z3, Z3, Z3, Z3, Z3, Z3, Z3, Z3, Z3, Z3, Z3, Z3, Z3, Z3, Z3, Z3, Z3, Z3, Z3, Z3, Z3, Z3, Z3, Z3, Z3, Z3], defers := [] }) (by kernel_rfl) ?_ ?_
  ·
   intro vs gs W34 SW34 D K9 hK9
   replace M := M.sees SW34
   have Rg3_0 := M.r 0 0 rfl rfl
   have Rg3_4 := M.r 0 1 rfl rfl
   have Lg3 := M.lt 0 rfl
   have BB := M.below
   replace M := Mem.start W34
   dsimp only at hK9
   dsimp only
   refine wpL_var (t := 24) (cs := [.int .u64 0, .int .u64 0, .int .u64 0, .int .u64 0]) (by rfl) (fun W => ?_) (fun g35 w36 Sw36 Hg35 Bg35 => ?_)
   ·
    go_simp
   replace M := ((M.sees Sw36).add (N := 4) (cs := [.int .u64 0, .int .u64 0, .int .u64 0, .int .u64 0]) (M.ge Hg35) (M.fresh Hg35) Bg35 rfl)
   clear Bg35
   simp only [Z7,Z0]
   refine Z9 (Z17 ?_)
   have h8 := hK9 (.pointer (some ⟨g35, 0, none⟩))
   have h9 := h8 g35 _ M.seesAll ⟨rfl, (M.ok _ (.head _)).up SW34⟩ (fun _ => (M.ok _ (.head _)).ge)
   simp only [Z7,Z0] at h9
   exact h9
  exact RulesL.nil
 intro vs gs W37 SW37 D A9
 obtain ⟨D0, D1, D2, D3, D4, D5, D6, D7, D8, D9, D10, D11, D12, _⟩ := (show DepRel _ vs gs W37 [0, 1, 2, 3, 4, 5, 6, 7, 8, 9, 10, 11, 12] from D)
 have n5_12 : gs 5 ≠ gs 12 := A9 5 12 (by decide) (by decide) (by decide) (by decide) (by decide)
 clear A9 D
 have e0 : vs 0 = .string (bs l) := D0
 have e1 : vs 1 = .string (bs (l.take 31)) := D1
 have e2 : vs 2 = .string (bs l) := D2
 have e3 : vs 3 = .int .u8 ((byteN l 31 : Nat) : Int) := D3
 have e4 : vs 4 = .int .u8 ((byteN l 31 % 128 : Nat) : Int) := D4
 obtain ⟨e5, Og38⟩ := D5
 generalize gs 5 = g38 at *
 replace e5 : vs 5 = .slice (some ⟨g38, 0, none⟩) 1 1 := e5
 have e6 : vs 6 = .string (bs ([UInt8.ofNat (byteN l 31 % 128)])) := D6
 have e7 : vs 7 = .string (bs ((l.take 31) ++ ([UInt8.ofNat (byteN l 31 % 128)]))) := D7
 have e8 : vs 8 = .tuple #[fe y, .bool true] := D8
 have e9 : vs 9 = .tuple #[fe y, .bool true] := D9
 have e10 : vs 10 = fe y := D10
 have e11 : vs 11 = .bool true := D11
 obtain ⟨e12, Og39⟩ := D12
 generalize gs 12 = g39 at *
 replace e12 : vs 12 = .pointer (some ⟨g39, 0, none⟩) := e12
 replace M := M.addOks SW37 [⟨g38, 1, [(0, [.int .u8 ((byteN l 31 % 128 : Nat) : Int)])]⟩, ⟨g39, 4, [(0, [.int .u64 0, .int .u64 0, .int .u64 0, .int .u64 0])]⟩] (List.forall_mem_cons.2 ⟨Og38, (List.forall_mem_cons.2 ⟨Og39, (fun _ h => nomatch h)⟩)⟩) (.cons (List.forall_mem_cons.2 ⟨n5_12, (fun _ h => nomatch h)⟩) (.cons (fun _ h => nomatch h) .nil))
 simp only [List.cons_append, List.nil_append] at M
 dsimp only
 simp only [e0, e1, e2, e3, e4, e5, e6, e7, e8, e9, e10, e11, e12, Z2]
 refine wpL_store (g := g39) (off := 0) (n := 4) (cs := fel y) (by rfl) (by rfl) (by rfl) (by rfl) (by rfl) (M.t 1 rfl) (by simp [flen]) info24 (fel_one _) (fun w40 P R T => ?_)
 replace M := M.putS 1 0 rfl P R T rfl ⟨.inl rfl, trivial⟩
 simp only [Z0] at M
 refine Z13 (v := .bool true) (by rfl) (by rfl) (by rfl) ?_
 simp only [Z7,Z0]
 refine Z9 (Z10 ?_)
 refine hK8 _ _ ?_
 refine Z4 (fun K41 hK41 => ?_)
 refine Z4 (fun K42 hK42 => ?_)
 refine Z8 ?_
 refine Z12 (v := .bool true) (by rfl) (by rfl) (by rfl) ?_
 simp only [Z7,Z0]
 refine Z11 1 (by rfl) (fun Lk hLk => ?_)
 simp only [Z1,Z2]
 refine wpV_not (b := true) (by rfl) rfl rfl ?_
 simp only [Bool.not_true, Bool.not_false]
 simp only [Z7,Z0]
 refine Z14 (hLk _ (fun w44 Sw44 => ?_))
 clear hLk Lk
 simp only [Z1,Z2]
 replace M := M.sees Sw44
 refine Z9 (Z10 ?_)
 refine hK42 _ _ ?_
 refine Z6 rfl ?_
 refine wp_skip ?_
 refine hK41 _ _ ?_
 refine Z4 (fun K45 hK45 => ?_)
 refine Z8 ?_
 refine Z11 5 (by rfl) (fun Lk hLk => ?_)
 simp only [Z1,Z2]
 refine wpV_load (cs := fel y) (by rfl) rfl rfl (M.r 1 0 rfl rfl) (M.lt 1 rfl) Try.underlying24 rfl info24 ?_
 simp only [Z7,Z0]
 refine Z20 (v := .tuple #[fe x, .bool b]) (args := #[fe y]) (by rfl) rfl Try.func36 (by kernel_rfl) (by kernel_rfl) rfl (fun W hW => (by have h9 := rX_c (y := y) (w := W) hy; rw [hr] at h9; exact h9)) ?_
 simp only [Z7,Z0]
 refine Z16 (v := .tuple #[fe x, .bool b]) (by rfl) rfl rfl ?_
 simp only [Z7,Z0]
 refine wpV_extract (v := fe x) (by rfl) rfl rfl rfl ?_
 simp only [Z7,Z0]
 refine wpV_extract (v := .bool b) (by rfl) rfl rfl rfl ?_
 simp only [Z7,Z0]
 refine Z14 (hLk _ (fun w47 Sw47 => ?_))
 clear hLk Lk
 simp only [Z1,Z2]
 replace M := M.sees Sw47
 refine wpL_var (t := 24) (cs := [.int .u64 0, .int .u64 0, .int .u64 0, .int .u64 0]) (by rfl) (fun W => ?_) (fun g48 w49 Sw49 Hg48 Bg48 => ?_)
 ·
  go_simp
 replace M := ((M.sees Sw49).add (N := 4) (cs := [.int .u64 0, .int .u64 0, .int .u64 0, .int .u64 0]) (M.ge Hg48) (M.fresh Hg48) Bg48 rfl)
 clear Bg48
 simp only [Z7,Z0]
 refine wpL_store (g := g48) (off := 0) (n := 4) (cs := fel x) (by rfl) (by rfl) (by rfl) (by rfl) (by rfl) (M.t 0 rfl) (by simp [flen]) info24 (fel_one _) (fun w50 P R T => ?_)
 replace M := M.putS 0 0 rfl P R T rfl ⟨.inl rfl, trivial⟩
 simp only [Z0] at M
 refine Z13 (v := .bool b) (by rfl) (by rfl) (by rfl) ?_
 simp only [Z7,Z0]
 refine Z9 (Z10 ?_)
 refine hK45 _ _ ?_
 refine Z4 (fun K51 hK51 => ?_)
 refine Z8 ?_
 refine Z11 1 (by rfl) (fun Lk hLk => ?_)
 simp only [Z1,Z2]
 refine Z19 (v := fe 0) (by rfl) (by rfl) (fun W hW => ?_) ?_
 ·
  rw [show fe 0 = .agg ([.int .u64 0, .int .u64 0, .int .u64 0, .int .u64 0]).toArray from (by kernel_rfl)]; unfold RunsVal; kernel_rfl
 simp only [Z7,Z0]
 refine Z14 (hLk _ (fun w53 Sw53 => ?_))
 clear hLk Lk
 simp only [Z1,Z2]
 replace M := M.sees Sw53
 refine wpL_var (t := 24) (cs := [.int .u64 0, .int .u64 0, .int .u64 0, .int .u64 0]) (by rfl) (fun W => ?_) (fun g54 w55 Sw55 Hg54 Bg54 => ?_)
 ·
  go_simp
 replace M := ((M.sees Sw55).add (N := 4) (cs := [.int .u64 0, .int .u64 0, .int .u64 0, .int .u64 0]) (M.ge Hg54) (M.fresh Hg54) Bg54 rfl)
 clear Bg54
 simp only [Z7,Z0]
 refine wpL_store (g := g54) (off := 0) (n := 4) (cs := fel 0) (by rfl) (by rfl) (by rfl) (by rfl) (by rfl) (M.t 0 rfl) (by simp [flen]) info24 (fel_one _) (fun w56 P R T => ?_)
 replace M := M.putS 0 0 rfl P R T rfl ⟨.inl rfl, trivial⟩
 simp only [Z0] at M
 refine Z9 (Z10 ?_)
 refine hK51 _ _ ?_
 refine Z4 (fun K57 hK57 => ?_)
 refine Z4 (fun K58 hK58 => ?_)
 cases hg59 : (b)
 ·
  refine Z8 ?_
  refine Z12 (v := .bool false) (by rfl) (by rfl) (by rfl) ?_
  simp only [Z7,Z0]
  refine Z11 9 (by rfl) (fun Lk hLk => ?_)
  simp only [Z1,Z2]
  refine wpV_not (b := false) (by rfl) rfl rfl ?_
  simp only [Bool.not_true, Bool.not_false]
  simp only [Z7,Z0]
  refine Z16 (v := .bool true) (by rfl) rfl rfl ?_
  simp only [Z7,Z0]
  refine wpV_skip (by rfl) (by rfl) ?_
  simp only [Z7,Z0]
  refine wpV_skip (by rfl) (by rfl) ?_
  simp only [Z7,Z0]
  refine wpV_skip (by rfl) (by rfl) ?_
  simp only [Z7,Z0]
  refine wpV_skip (by rfl) (by rfl) ?_
  simp only [Z7,Z0]
  refine wpV_skip (by rfl) (by rfl) ?_
  simp only [Z7,Z0]
  refine wpV_skip (by rfl) (by rfl) ?_
  simp only [Z7,Z0]
  refine wpV_pick (v := .bool true) (by rfl) rfl rfl rfl ?_
  simp only [Z7,Z0]
  refine Z14 (hLk _ (fun w61 Sw61 => ?_))
  clear hLk Lk
  simp only [Z1,Z2]
  replace M := M.sees Sw61
  refine Z9 (Z10 ?_)
  refine hK58 _ _ ?_
  refine Z5 rfl ?_
  refine Z4 (fun K62 hK62 => ?_)
  refine Z8 ?_
  refine Z11 1 (by rfl) (fun Lk hLk => ?_)
  simp only [Z1,Z2]
  refine Z19 (v := .agg ([.int .u64 0, .int .u64 0, .int .u64 0, .int .u64 0, .int .u64 0, .int .u64 0, .int .u64 0, .int .u64 0]).toArray) (by rfl) (by rfl) (fun W hW => ?_) ?_
  ·
   (unfold RunsVal; kernel_rfl)
  simp only [Z7,Z0]
  refine Z14 (hLk _ (fun w64 Sw64 => ?_))
  clear hLk Lk
  simp only [Z1,Z2]
  replace M := M.sees Sw64
  refine wpL_store (g := g3) (off := 0) (n := 8) (cs := [.int .u64 0, .int .u64 0, .int .u64 0, .int .u64 0, .int .u64 0, .int .u64 0, .int .u64 0, .int .u64 0]) (by rfl) (by rfl) (by rfl) (by rfl) (by rfl) (M.t 4 rfl) (by simp [flen]) info32 (by simp [fone, Value.oneCell']) (fun w65 P R T => ?_)
  replace M := M.put (segs' := [(0, [.int .u64 0, .int .u64 0, .int .u64 0, .int .u64 0]), (4, [.int .u64 0, .int .u64 0, .int .u64 0, .int .u64 0])]) 4 rfl P T (SegsOf.at R ⟨rfl, rfl, trivial⟩)
  simp only [Z0] at M
  refine Z13 (v := .bool false) (by rfl) (by rfl) (by rfl) ?_
  simp only [Z7,Z0]
  refine Z9 (Z10 ?_)
  refine hK62 _ _ ?_
  refine wp_ret ?_
  repeat (first | with_reducible refine then_ret ?_ | with_reducible refine inblock_ret ?_)
  refine bodyPost_ret (v := .tuple #[.agg ([.int .u64 0, .int .u64 0, .int .u64 0, .int .u64 0] ++ [.int .u64 0, .int .u64 0, .int .u64 0, .int .u64 0] : List Value).toArray, .bool false]) (res2 rfl (.cell (by rfl) (run_loadVar_mid _ _ _ _ ([.int .u64 0, .int .u64 0, .int .u64 0, .int .u64 0] ++ [.int .u64 0, .int .u64 0, .int .u64 0, .int .u64 0]) _ (range_join (M.r 4 0 rfl rfl) (M.r 4 1 rfl rfl) (by simp [flen])) Try.underlying32 rfl info32)) (.tmp (by rfl))) rfl ?_
  have BE := M.below
  have hv : rparX x b (decide (128 ≤ byteN l 31)) = 0 ∧ rparY x y b (decide (128 ≤ byteN l 31)) = 0 ∧ parsY x b (decide (128 ≤ byteN l 31)) = false := by unfold rparX rparY parsY; simp [hg59]
  exact ⟨by rw [hv.1, hv.2.1, hv.2.2] <;> rfl, BE⟩
 ·
  cases hg66 : (decide (128 ≤ byteN l 31))
  ·
   refine Z8 ?_
   refine Z12 (v := .bool true) (by rfl) (by rfl) (by rfl) ?_
   simp only [Z7,Z0]
   refine Z11 9 (by rfl) (fun Lk hLk => ?_)
   simp only [Z1,Z2]
   refine wpV_not (b := true) (by rfl) rfl rfl ?_
   simp only [Bool.not_true, Bool.not_false]
   simp only [Z7,Z0]
   refine Z16 (v := .bool false) (by rfl) rfl rfl ?_
   simp only [Z7,Z0]
   refine Z16 (v := .bool false) (by rfl) rfl rfl ?_
   simp only [Z7,Z0]
   refine Z16 (v := .bool false) (by rfl) rfl rfl ?_
   simp only [Z7,Z0]
   refine wpV_skip (by rfl) (by rfl) ?_
   simp only [Z7,Z0]
   refine wpV_skip (by rfl) (by rfl) ?_
   simp only [Z7,Z0]
   refine wpV_skip (by rfl) (by rfl) ?_
   simp only [Z7,Z0]
   refine wpV_pick (v := .bool false) (by rfl) rfl rfl rfl ?_
   simp only [Z7,Z0]
   refine wpV_pick (v := .bool false) (by rfl) rfl rfl rfl ?_
   simp only [Z7,Z0]
   refine Z14 (hLk _ (fun w68 Sw68 => ?_))
   clear hLk Lk
   simp only [Z1,Z2]
   replace M := M.sees Sw68
   refine Z9 (Z10 ?_)
   refine hK58 _ _ ?_
   refine Z6 rfl ?_
   refine wp_skip ?_
   refine hK57 _ _ ?_
   refine Z4 (fun K69 hK69 => ?_)
   refine Z4 (fun K70 hK70 => ?_)
   refine Z8 ?_
   refine Z12 (v := .bool false) (by rfl) (by rfl) (by rfl) ?_
   simp only [Z7,Z0]
   refine Z9 (Z10 ?_)
   refine hK70 _ _ ?_
   refine Z6 rfl ?_
   refine wp_skip ?_
   refine hK69 _ _ ?_
   refine Z4 (fun K72 hK72 => ?_)
   refine Z8 ?_
   refine Z11 3 (by rfl) (fun Lk hLk => ?_)
   simp only [Z1,Z2]
   refine wpV_load (cs := fel x) (by rfl) rfl rfl (M.r 1 0 rfl rfl) (M.lt 1 rfl) Try.underlying24 rfl info24 ?_
   simp only [Z7,Z0]
   refine wpV_load (cs := fel y) (by rfl) rfl rfl (M.r 3 0 rfl rfl) (M.lt 3 rfl) Try.underlying24 rfl info24 ?_
   simp only [Z7,Z0]
   refine Z19 (v := .agg ((fel x) ++ (fel y) : List Value).toArray) (by rfl) (by rfl) (fun W hW => ?_) ?_
   ·
    (unfold RunsVal; kernel_rfl)
   simp only [Z7,Z0]
   refine Z14 (hLk _ (fun w74 Sw74 => ?_))
   clear hLk Lk
   simp only [Z1,Z2]
   replace M := M.sees Sw74
   refine wpL_store (g := g3) (off := 0) (n := 8) (cs := (fel x) ++ (fel y)) (by rfl) (by rfl) (by rfl) (by rfl) (by rfl) (M.t 4 rfl) (by simp [flen]) info32 (two4 _ _) (fun w75 P R T => ?_)
   replace M := M.put (segs' := [(0, fel x), (4, fel y)]) 4 rfl P T (SegsOf.at R ⟨rfl, rfl, trivial⟩)
   simp only [Z0] at M
   refine Z13 (v := .bool true) (by rfl) (by rfl) (by rfl) ?_
   simp only [Z7,Z0]
   refine Z9 (Z10 ?_)
   refine hK72 _ _ ?_
   refine wp_ret ?_
   repeat (first | with_reducible refine then_ret ?_ | with_reducible refine inblock_ret ?_)
   refine bodyPost_ret (v := .tuple #[.agg (fel x ++ (fel y) : List Value).toArray, .bool true]) (res2 rfl (.cell (by rfl) (run_loadVar_mid _ _ _ _ (fel x ++ (fel y)) _ (range_join (M.r 4 0 rfl rfl) (M.r 4 1 rfl rfl) (by simp [flen])) Try.underlying32 rfl info32)) (.tmp (by rfl))) rfl ?_
   have BE := M.below
   have hv : rparX x b (decide (128 ≤ byteN l 31)) = x ∧ rparY x y b (decide (128 ≤ byteN l 31)) = y ∧ parsY x b (decide (128 ≤ byteN l 31)) = true := by unfold rparX rparY parsY; simp [hg59, hg66]
   exact ⟨by rw [hv.1, hv.2.1, hv.2.2] <;> rfl, BE⟩
  ·
   refine Z8 ?_
   refine Z12 (v := .bool true) (by rfl) (by rfl) (by rfl) ?_
   simp only [Z7,Z0]
   refine Z11 9 (by rfl) (fun Lk hLk => ?_)
   simp only [Z1,Z2]
   refine wpV_not (b := true) (by rfl) rfl rfl ?_
   simp only [Bool.not_true, Bool.not_false]
   simp only [Z7,Z0]
   refine Z16 (v := .bool false) (by rfl) rfl rfl ?_
   simp only [Z7,Z0]
   refine Z16 (v := .bool true) (by rfl) rfl rfl ?_
   simp only [Z7,Z0]
   refine Z16 (v := .bool true) (by rfl) rfl rfl ?_
   simp only [Z7,Z0]
   refine wpV_load (cs := fel x) (by rfl) rfl rfl (M.r 1 0 rfl rfl) (M.lt 1 rfl) Try.underlying24 rfl info24 ?_
   simp only [Z7,Z0]
   refine wpV_load (cs := fel 0) (by rfl) rfl rfl (M.r 0 0 rfl rfl) (M.lt 0 rfl) Try.underlying24 rfl info24 ?_
   simp only [Z7,Z0]
   refine Z19 (v := .bool (decide (x = 0))) (by rfl) (by rfl) (fun W hW => ?_) ?_
   ·
    exact run_eql_fe hx (by decide) Try.underlying24 Try.underlying22 info22 (by kernel_rfl) rfl rfl rfl W
   simp only [Z7,Z0]
   refine wpV_pick (v := .bool (decide (x = 0))) (by rfl) rfl rfl rfl ?_
   simp only [Z7,Z0]
   refine wpV_pick (v := .bool (decide (x = 0))) (by rfl) rfl rfl rfl ?_
   simp only [Z7,Z0]
   refine Z14 (hLk _ (fun w77 Sw77 => ?_))
   clear hLk Lk
   simp only [Z1,Z2]
   replace M := M.sees Sw77
   refine Z9 (Z10 ?_)
   refine hK58 _ _ ?_
   cases hc78 : (decide (x = 0))
   ·
    refine Z6 rfl ?_
    refine wp_skip ?_
    refine hK57 _ _ ?_
    refine Z4 (fun K79 hK79 => ?_)
    refine Z4 (fun K80 hK80 => ?_)
    refine Z8 ?_
    refine Z12 (v := .bool true) (by rfl) (by rfl) (by rfl) ?_
    simp only [Z7,Z0]
    refine Z9 (Z10 ?_)
    refine hK80 _ _ ?_
    refine Z5 rfl ?_
    refine Z8 ?_
    refine Z11 3 (by rfl) (fun Lk hLk => ?_)
    simp only [Z1,Z2]
    refine wpV_load (cs := fel 0) (by rfl) rfl rfl (M.r 0 0 rfl rfl) (M.lt 0 rfl) Try.underlying24 rfl info24 ?_
    simp only [Z7,Z0]
    refine wpV_load (cs := fel x) (by rfl) rfl rfl (M.r 1 0 rfl rfl) (M.lt 1 rfl) Try.underlying24 rfl info24 ?_
    simp only [Z7,Z0]
    refine Z20 (v := fe (fsub 0 x)) (args := #[fe 0, fe x]) (by rfl) rfl Try.func37 (by kernel_rfl) (by kernel_rfl) rfl (fun W hW => rsub04_c (by decide) hx) ?_
    simp only [Z7,Z0]
    refine Z14 (hLk _ (fun w83 Sw83 => ?_))
    clear hLk Lk
    simp only [Z1,Z2]
    replace M := M.sees Sw83
    refine wpL_store (g := g48) (off := 0) (n := 4) (cs := fel (fsub 0 x)) (by rfl) (by rfl) (by rfl) (by rfl) (by rfl) (M.t 1 rfl) (by simp [flen]) info24 (fel_one _) (fun w84 P R T => ?_)
    replace M := M.putS 1 0 rfl P R T rfl ⟨.inl rfl, trivial⟩
    simp only [Z0] at M
    refine Z9 (Z10 ?_)
    refine hK79 _ _ ?_
    refine Z4 (fun K85 hK85 => ?_)
    refine Z8 ?_
    refine Z11 3 (by rfl) (fun Lk hLk => ?_)
    simp only [Z1,Z2]
    refine wpV_load (cs := fel (fsub 0 x)) (by rfl) rfl rfl (M.r 1 0 rfl rfl) (M.lt 1 rfl) Try.underlying24 rfl info24 ?_
    simp only [Z7,Z0]
    refine wpV_load (cs := fel y) (by rfl) rfl rfl (M.r 3 0 rfl rfl) (M.lt 3 rfl) Try.underlying24 rfl info24 ?_
    simp only [Z7,Z0]
    refine Z19 (v := .agg ((fel (fsub 0 x)) ++ (fel y) : List Value).toArray) (by rfl) (by rfl) (fun W hW => ?_) ?_
    ·
     (unfold RunsVal; kernel_rfl)
    simp only [Z7,Z0]
    refine Z14 (hLk _ (fun w87 Sw87 => ?_))
    clear hLk Lk
    simp only [Z1,Z2]
    replace M := M.sees Sw87
    refine wpL_store (g := g3) (off := 0) (n := 8) (cs := (fel (fsub 0 x)) ++ (fel y)) (by rfl) (by rfl) (by rfl) (by rfl) (by rfl) (M.t 4 rfl) (by simp [flen]) info32 (two4 _ _) (fun w88 P R T => ?_)
    replace M := M.put (segs' := [(0, fel (fsub 0 x)), (4, fel y)]) 4 rfl P T (SegsOf.at R ⟨rfl, rfl, trivial⟩)
    simp only [Z0] at M
    refine Z13 (v := .bool true) (by rfl) (by rfl) (by rfl) ?_
    simp only [Z7,Z0]
    refine Z9 (Z10 ?_)
    refine hK85 _ _ ?_
    refine wp_ret ?_
    repeat (first | with_reducible refine then_ret ?_ | with_reducible refine inblock_ret ?_)
    refine bodyPost_ret (v := .tuple #[.agg (fel (fsub 0 x) ++ (fel y) : List Value).toArray, .bool true]) (res2 rfl (.cell (by rfl) (run_loadVar_mid _ _ _ _ (fel (fsub 0 x) ++ (fel y)) _ (range_join (M.r 4 0 rfl rfl) (M.r 4 1 rfl rfl) (by simp [flen])) Try.underlying32 rfl info32)) (.tmp (by rfl))) rfl ?_
    have BE := M.below
    have hv : rparX x b (decide (128 ≤ byteN l 31)) = fsub 0 x ∧ rparY x y b (decide (128 ≤ byteN l 31)) = y ∧ parsY x b (decide (128 ≤ byteN l 31)) = true := by unfold rparX rparY parsY; simp [hg59, hg66, hc78]
    exact ⟨by rw [hv.1, hv.2.1, hv.2.2] <;> rfl, BE⟩
   ·
    refine Z5 rfl ?_
    refine Z4 (fun K89 hK89 => ?_)
    refine Z8 ?_
    refine Z11 1 (by rfl) (fun Lk hLk => ?_)
    simp only [Z1,Z2]
    refine Z19 (v := .agg ([.int .u64 0, .int .u64 0, .int .u64 0, .int .u64 0, .int .u64 0, .int .u64 0, .int .u64 0, .int .u64 0]).toArray) (by rfl) (by rfl) (fun W hW => ?_) ?_
    ·
     (unfold RunsVal; kernel_rfl)
    simp only [Z7,Z0]
    refine Z14 (hLk _ (fun w91 Sw91 => ?_))
    clear hLk Lk
    simp only [Z1,Z2]
    replace M := M.sees Sw91
    refine wpL_store (g := g3) (off := 0) (n := 8) (cs := [.int .u64 0, .int .u64 0, .int .u64 0, .int .u64 0, .int .u64 0, .int .u64 0, .int .u64 0, .int .u64 0]) (by rfl) (by rfl) (by rfl) (by rfl) (by rfl) (M.t 4 rfl) (by simp [flen]) info32 (by simp [fone, Value.oneCell']) (fun w92 P R T => ?_)
    replace M := M.put (segs' := [(0, [.int .u64 0, .int .u64 0, .int .u64 0, .int .u64 0]), (4, [.int .u64 0, .int .u64 0, .int .u64 0, .int .u64 0])]) 4 rfl P T (SegsOf.at R ⟨rfl, rfl, trivial⟩)
    simp only [Z0] at M
    refine Z13 (v := .bool false) (by rfl) (by rfl) (by rfl) ?_
    simp only [Z7,Z0]
    refine Z9 (Z10 ?_)
    refine hK89 _ _ ?_
    refine wp_ret ?_
    repeat (first | with_reducible refine then_ret ?_ | with_reducible refine inblock_ret ?_)
    refine bodyPost_ret (v := .tuple #[.agg ([.int .u64 0, .int .u64 0, .int .u64 0, .int .u64 0] ++ [.int .u64 0, .int .u64 0, .int .u64 0, .int .u64 0] : List Value).toArray, .bool false]) (res2 rfl (.cell (by rfl) (run_loadVar_mid _ _ _ _ ([.int .u64 0, .int .u64 0, .int .u64 0, .int .u64 0] ++ [.int .u64 0, .int .u64 0, .int .u64 0, .int .u64 0]) _ (range_join (M.r 4 0 rfl rfl) (M.r 4 1 rfl rfl) (by simp [flen])) Try.underlying32 rfl info32)) (.tmp (by rfl))) rfl ?_
    have BE := M.below
    have hv : rparX x b (decide (128 ≤ byteN l 31)) = 0 ∧ rparY x y b (decide (128 ≤ byteN l 31)) = 0 ∧ parsY x b (decide (128 ≤ byteN l 31)) = false := by unfold rparX rparY parsY; simp [hg59, hg66, hc78]
    exact ⟨by rw [hv.1, hv.2.1, hv.2.2] <;> rfl, BE⟩
theorem rParse_none {l : List UInt8} {y x : Nat} {w : World} (hl : l.length = 32) (hN : leN (yT l) = y) (hy : y < 2 ^ 256) (hp : y < pF) (hx : x < 2 ^ 256) (hr : rootX y = (x, false)) :
  Calls Try.prog 12 #[.string (bs l)] w fun e w' => e = .returned (.tuple #[.agg (fel 0 ++ fel 0 : List Value).toArray, .bool false]) ∧ Below w.heap.size w w' := by
 have h9 := rParse_go (w := w) hl hN hy hp hx hr
 rw [show rparX x false (decide (128 ≤ byteN l 31)) = 0 by unfold rparX parsY; simp, show rparY x y false (decide (128 ≤ byteN l 31)) = 0 by unfold rparY parsY; simp, show parsY x false (decide (128 ≤ byteN l 31)) = false by unfold parsY; simp] at h9
 exact h9
theorem rParse_zero {l : List UInt8} {y x : Nat} {w : World} (hl : l.length = 32) (hN : leN (yT l) = y) (hy : y < 2 ^ 256) (hp : y < pF) (hx : x < 2 ^ 256) (hr : rootX y = (x, true)) (hb : decide (128 ≤ byteN l 31) = true) (h0 : decide (x = 0) = true) :
  Calls Try.prog 12 #[.string (bs l)] w fun e w' => e = .returned (.tuple #[.agg (fel 0 ++ fel 0 : List Value).toArray, .bool false]) ∧ Below w.heap.size w w' := by
 have h9 := rParse_go (w := w) hl hN hy hp hx hr
 rw [show rparX x true (decide (128 ≤ byteN l 31)) = 0 by unfold rparX parsY; rw [hb, h0]; simp, show rparY x y true (decide (128 ≤ byteN l 31)) = 0 by unfold rparY parsY; rw [hb, h0]; simp, show parsY x true (decide (128 ≤ byteN l 31)) = false by unfold parsY; rw [hb, h0]; simp] at h9
 exact h9
theorem rParse_odd {l : List UInt8} {y x : Nat} {w : World} (hl : l.length = 32) (hN : leN (yT l) = y) (hy : y < 2 ^ 256) (hp : y < pF) (hx : x < 2 ^ 256) (hr : rootX y = (x, true)) (hb : decide (128 ≤ byteN l 31) = true) (h0 : decide (x = 0) = false) :
  Calls Try.prog 12 #[.string (bs l)] w fun e w' => e = .returned (.tuple #[.agg (fel (fsub 0 x) ++ fel y : List Value).toArray, .bool true]) ∧ Below w.heap.size w w' := by
 have h9 := rParse_go (w := w) hl hN hy hp hx hr
 rw [show rparX x true (decide (128 ≤ byteN l 31)) = fsub 0 x by unfold rparX parsY; rw [hb, h0]; simp, show rparY x y true (decide (128 ≤ byteN l 31)) = y by unfold rparY parsY; rw [hb, h0]; simp, show parsY x true (decide (128 ≤ byteN l 31)) = true by unfold parsY; rw [hb, h0]; simp] at h9
 exact h9
theorem rParse_even {l : List UInt8} {y x : Nat} {w : World} (hl : l.length = 32) (hN : leN (yT l) = y) (hy : y < 2 ^ 256) (hp : y < pF) (hx : x < 2 ^ 256) (hr : rootX y = (x, true)) (hb : decide (128 ≤ byteN l 31) = false) :
  Calls Try.prog 12 #[.string (bs l)] w fun e w' => e = .returned (.tuple #[.agg (fel x ++ fel y : List Value).toArray, .bool true]) ∧ Below w.heap.size w w' := by
 have h9 := rParse_go (w := w) hl hN hy hp hx hr
 rw [show rparX x true (decide (128 ≤ byteN l 31)) = x by unfold rparX parsY; rw [hb]; simp, show rparY x y true (decide (128 ≤ byteN l 31)) = y by unfold rparY parsY; rw [hb]; simp, show parsY x true (decide (128 ≤ byteN l 31)) = true by unfold parsY; rw [hb]; simp] at h9
 exact h9
end Go.Proofs.Yc

