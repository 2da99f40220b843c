import Derived.WalkKit
import Derived.WalkSpells
import Derived.Laws.Pointers
import Derived.RowKit3
import Derived.Below
import Derived.Outline
import Derived.LoopN
import Derived.Lib.Hide
import Derived.Handy
import Derived.Laws.Bits64b
import Derived.Test.YtdcmmnindlhghaaPtE
import Derived.Test.YtdcmmnindlhghaaAdds2
set_option linter.unusedSimpArgs false
set_option linter.unusedVariables false
namespace Go.Proofs.Yc
open Go Go.RowKit Go.Proofs.Num
open List renaming set → Z0, take → Z1, drop → Z2
open Go renaming wp_seq_k → Z4
open Go.Proofs.Num renaming putT → Z7, wp_region_seq → Z8, wpL_nil → Z9, no_panic → Z10, wpL_chunk → Z11, wpV_nil → Z14, then_normal → Z17, wpV_callf → Z20
attribute [local irreducible] wpV wpN wpList
open Go.Proofs.Ya
theorem new0 {w W : World} {n : Nat} {cs : List Value} {v : Value} (h : NewRow w n cs v W) (hb : Below w.heap.size w W) : ∃ g c, v = .slice (some ⟨g, 0, none⟩) n c ∧ n ≤ c ∧ Mem [] w W [⟨g, 0, [(0, cs)]⟩] := by
 obtain ⟨g, c, h0, h1, h2, h3, h4⟩ := h
 exact ⟨g, c, h0, h1, ((Mem.start w).sees (sees_of hb)).addR h2 (fun b hb9 => nomatch hb9) (fun k hk => absurd hk (Nat.not_lt_zero _)) h4 h3⟩
theorem prime04_o {w : World} : Calls Try.prog 68 #[] w fun e w' => ∃ v, e = .returned v ∧ (∃ g c, v = .slice (some ⟨g, 0, none⟩) 16 c ∧ 16 ≤ c ∧ Mem [] w w' [⟨g, 0, [(0, dl 16 pF)]⟩]) ∧ Below w.heap.size w w' :=
 prime04_c.mono fun e w' ⟨v, he, h1, h2⟩ => ⟨v, he, new0 h1 h2, h2⟩
theorem dlen_p2 : dlen (pF - 2) = 16 := by
 have h1 : dlen (pF - 2) ≤ 16 := (dlen_le _ _).2 (by decide)
 have h2 : ¬ dlen (pF - 2) ≤ 15 := fun h => absurd ((dlen_le _ _).1 h) (by decide)
 omega
theorem minus04_2 {g0 c0 g1 cg1 : Nat} {w : World} (hcg0 : 16 ≤ c0) (Lg0 : g0 < w.heap.size) (Rg0_0 : w.rangeAt g0 0 (dl 16 pF)) (hcg1 : 1 ≤ cg1) (Lg1 : g1 < w.heap.size) (Rg1_0 : w.rangeAt g1 0 [.int .i64 2]) :
  Calls Try.prog 70 #[.slice (some ⟨g0, 0, none⟩) 16 c0, .slice (some ⟨g1, 0, none⟩) 1 cg1] w fun e w' => ∃ v, e = .returned v ∧ (∃ g c, v = .slice (some ⟨g, 0, none⟩) 16 c ∧ 16 ≤ c ∧ Mem [] w w' [⟨g, 0, [(0, dl 16 (pF - 2))]⟩]) ∧ Below w.heap.size w w' := by
 have h9 := minus04_c (n := 16) (x := pF) (m := 1) (y := 2) (by decide) (by decide) (by decide) (by decide) (by decide) hcg0 Lg0 Rg0_0 hcg1 Lg1 (by rw [dl_one (by decide)]; exact Rg1_0)
 rw [dlen_p2] at h9
 exact h9.mono fun e w' ⟨v, he, h1, h2⟩ => ⟨v, he, new0 h1 h2, h2⟩
set_option maxHeartbeats 2000000 in
theorem rinv_c {x : Nat} {w : World} (hx : x < 2 ^ 256) :
  Calls Try.prog 48 #[fe x] w fun e w' => e = .returned (fe (finv x)) ∧ Below w.heap.size w w' := by
 go_enter Try.func48, Try.ntmps48
 have M := Mem.start w
 refine Z4 (fun K1 hK1 => ?_)
 refine Z8 ?_
 refine wpL_var (t := 24) (cs := fel x) (by rfl) (fun W => ?_) (fun g3 w4 Sw4 Hg3 Bg3 => ?_)
 ·
  (first | rfl | go_simp)
 replace M := ((M.sees Sw4).add (N := 4) (cs := fel x) (M.ge Hg3) (M.fresh Hg3) Bg3 rfl)
 clear Bg3
 simp only [Z7,Z0]
 refine wpL_var (t := 24) (cs := [.int .u64 0, .int .u64 0, .int .u64 0, .int .u64 0]) (by rfl) (fun W => ?_) (fun g5 w6 Sw6 Hg5 Bg5 => ?_)
 ·
  go_simp
 replace M := ((M.sees Sw6).add (N := 4) (cs := [.int .u64 0, .int .u64 0, .int .u64 0, .int .u64 0]) (M.ge Hg5) (M.fresh Hg5) Bg5 rfl)
 clear Bg5
 simp only [Z7,Z0]
 refine Z9 (Z10 ?_)
 refine hK1 _ _ ?_
 refine Z4 (fun K7 hK7 => ?_)
 refine wp_region_treeN (by kernel_rfl) (fun w9 Sw9 => ?_)
 replace M := M.sees Sw9
 refine any_step [0, 1, 2] (by kernel_rfl) rfl (any_two ?_ (any_two ?_ (any_one ?_)))
 ·
  refine any_opL 0 (by rfl) ?_
  simp only [Z1,Z2]
  refine Z11 1 (by rfl) (fun Lk hLk => ?_)
  simp only [Z1,Z2]
  refine wpV_load (cs := fel x) (by rfl) rfl rfl (M.r 1 0 rfl rfl) (M.lt 1 rfl) Try.underlying24 rfl info24 ?_
  simp only [Z7,Z0]
  refine Z14 (hLk _ (fun w10 Sw10 => ?_))
  clear hLk Lk
  simp only [Z1,Z2]
  replace M := M.sees Sw10
  refine Z9 (Z17 ?_)
  refine any_step [1, 2] (by kernel_rfl) rfl (any_two ?_ (any_one ?_))
  ·
   refine any_opL 1 (by rfl) ?_
   simp only [Z1,Z2]
   refine wpL_callE (f := 68) (args := #[]) (R := fun v9 W9 => ∃ g12 g12c, v9 = .slice (some ⟨g12, 0, none⟩) 16 g12c ∧ 16 ≤ g12c ∧ Mem [] w10 W9 [⟨g12, 0, [(0, dl 16 pF)]⟩]) (by rfl) (by rfl) rfl Try.func68 (by kernel_rfl) (by kernel_rfl) (prime04_o) (fun v9 w11 hv9 Sw11 => ?_)
   obtain ⟨g12, g12c, rfl, Cg12, M9⟩ := hv9
   replace M := M.call1 M9
   clear Sw11
   simp only [Z7,Z0]
   refine Z9 (Z17 ?_)
   refine any_step [2] (by kernel_rfl) rfl (any_one ?_)
   refine any_opL 2 (by rfl) ?_
   simp only [Z1,Z2]
   refine wpL_rowN (vs := [.int .i64 2]) (z := .int .i64 0) (bytes := 8) (by rfl) (by rfl) Try.underlying100 (by kernel_rfl) (by decide) (by kernel_rfl) (fun g13 w14 Sw14 Hg13 Bg13 => ?_)
   replace M := ((M.sees Sw14).add (N := 1) (cs := [.int .i64 2]) (M.ge Hg13) (M.fresh Hg13) Bg13 rfl)
   replace M := M.read1 (cs := dl 1 2) 0 rfl (by rw [dl_one (v := 2) (by omega)]; exact M.r 0 0 rfl rfl)
   simp only [Z0] at M
   clear Bg13
   simp only [Z7,Z0]
   refine Z9 (Z17 ?_)
   refine any_step [3] (by kernel_rfl) rfl (any_one ?_)
   refine any_opL 3 (by rfl) ?_
   simp only [Z1,Z2]
   refine wpL_callE (f := 70) (args := #[.slice (some ⟨g12, 0, none⟩) 16 g12c, .slice (some ⟨g13, 0, none⟩) 1 1]) (R := fun v9 W9 => ∃ g16 g16c, v9 = .slice (some ⟨g16, 0, none⟩) 16 g16c ∧ 16 ≤ g16c ∧ Mem [] w14 W9 [⟨g16, 0, [(0, dl 16 (pF - 2))]⟩]) (by rfl) (by rfl) rfl Try.func70 (by kernel_rfl) (by kernel_rfl) (minus04_2 Cg12 (M.lt 1 rfl) (M.r 1 0 rfl rfl) (Nat.le_refl _) (M.lt 0 rfl) (M.r 0 0 rfl rfl)) (fun v9 w15 hv9 Sw15 => ?_)
   obtain ⟨g16, g16c, rfl, Cg16, M9⟩ := hv9
   replace M := M.call1 M9
   clear Sw15
   simp only [Z7,Z0]
   refine Z9 (Z17 ?_)
   refine any_step [4] (by kernel_rfl) rfl (any_one ?_)
   refine any_opL 4 (by rfl) ?_
   simp only [Z1,Z2]
   refine Z11 1 (by rfl) (fun Lk hLk => ?_)
   simp only [Z1,Z2]
   refine Z20 (v := fe (fpow x (pF - 2))) (args := #[fe x, .slice (some ⟨g16, 0, none⟩) 16 g16c]) (by rfl) rfl Try.func79 (by kernel_rfl) (by kernel_rfl) rfl (fun W hW => rpower_c hx (by decide) (by decide) (RowA.of ((M.sees hW).r 0 0 rfl rfl) ((M.sees hW).lt 0 rfl) (dl_len _ _).symm Cg16)) ?_
   simp only [Z7,Z0]
   refine Z14 (hLk _ (fun w17 Sw17 => ?_))
   clear hLk Lk
   simp only [Z1,Z2]
   replace M := M.sees Sw17
   refine Z9 (Z17 ?_)
   refine any_step [5] (by kernel_rfl) rfl (any_one ?_)
   refine any_opL 5 (by rfl) ?_
   simp only [Z1,Z2]
   refine wpL_store (g := g5) (off := 0) (n := 4) (cs := fel (fpow x (pF - 2))) (by rfl) (by rfl) (by rfl) (by rfl) (by rfl) (M.t 3 rfl) (by simp [flen]) info24 (fel_one _) (fun w18 P R T => ?_)
   replace M := M.putS 3 0 rfl P R T rfl ⟨.inl rfl, trivial⟩
   simp only [Z0] at M
   refine Z9 (Z17 ?_)
   refine any_end (by kernel_rfl) (Z10 ?_)
   refine hK7 _ _ ?_
   refine wp_ret ?_
   repeat (first | with_reducible refine then_ret ?_ | with_reducible refine inblock_ret ?_)
   refine bodyPost_ret (v := fe (fpow x (pF - 2))) (res1 rfl (.cell (by rfl) (run_loadVar_mid _ _ _ _ (fel (fpow x (pF - 2))) _ (M.r 3 0 rfl rfl) Try.underlying24 rfl info24))) rfl ?_
   have BE := M.below
   exact ⟨rfl, BE⟩
  ·
   refine any_opL 2 (by rfl) ?_
   simp only [Z1,Z2]
   refine wpL_rowN (vs := [.int .i64 2]) (z := .int .i64 0) (bytes := 8) (by rfl) (by rfl) Try.underlying100 (by kernel_rfl) (by decide) (by kernel_rfl) (fun g19 w20 Sw20 Hg19 Bg19 => ?_)
   replace M := ((M.sees Sw20).add (N := 1) (cs := [.int .i64 2]) (M.ge Hg19) (M.fresh Hg19) Bg19 rfl)
   replace M := M.read1 (cs := dl 1 2) 0 rfl (by rw [dl_one (v := 2) (by omega)]; exact M.r 0 0 rfl rfl)
   simp only [Z0] at M
   clear Bg19
   simp only [Z7,Z0]
   refine Z9 (Z17 ?_)
   refine any_step [1] (by kernel_rfl) rfl (any_one ?_)
   refine any_opL 1 (by rfl) ?_
   simp only [Z1,Z2]
   refine wpL_callE (f := 68) (args := #[]) (R := fun v9 W9 => ∃ g22 g22c, v9 = .slice (some ⟨g22, 0, none⟩) 16 g22c ∧ 16 ≤ g22c ∧ Mem [] w20 W9 [⟨g22, 0, [(0, dl 16 pF)]⟩]) (by rfl) (by rfl) rfl Try.func68 (by kernel_rfl) (by kernel_rfl) (prime04_o) (fun v9 w21 hv9 Sw21 => ?_)
   obtain ⟨g22, g22c, rfl, Cg22, M9⟩ := hv9
   replace M := M.call1 M9
   clear Sw21
   simp only [Z7,Z0]
   refine Z9 (Z17 ?_)
   refine any_step [3] (by kernel_rfl) rfl (any_one ?_)
   refine any_opL 3 (by rfl) ?_
   simp only [Z1,Z2]
   refine wpL_callE (f := 70) (args := #[.slice (some ⟨g22, 0, none⟩) 16 g22c, .slice (some ⟨g19, 0, none⟩) 1 1]) (R := fun v9 W9 => ∃ g24 g24c, v9 = .slice (some ⟨g24, 0, none⟩) 16 g24c ∧ 16 ≤ g24c ∧ Mem [] w21 W9 [⟨g24, 0, [(0, dl 16 (pF - 2))]⟩]) (by rfl) (by rfl) rfl Try.func70 (by kernel_rfl) (by kernel_rfl) (minus04_2 Cg22 (M.lt 0 rfl) (M.r 0 0 rfl rfl) (Nat.le_refl _) (M.lt 1 rfl) (M.r 1 0 rfl rfl)) (fun v9 w23 hv9 Sw23 => ?_)
   obtain ⟨g24, g24c, rfl, Cg24, M9⟩ := hv9
   replace M := M.call1 M9
   clear Sw23
   simp only [Z7,Z0]
   refine Z9 (Z17 ?_)
   refine any_step [4] (by kernel_rfl) rfl (any_one ?_)
   refine any_opL 4 (by rfl) ?_
   simp only [Z1,Z2]
   refine Z11 1 (by rfl) (fun Lk hLk => ?_)
   simp only [Z1,Z2]
   refine Z20 (v := fe (fpow x (pF - 2))) (args := #[fe x, .slice (some ⟨g24, 0, none⟩) 16 g24c]) (by rfl) rfl Try.func79 (by kernel_rfl) (by kernel_rfl) rfl (fun W hW => rpower_c hx (by decide) (by decide) (RowA.of ((M.sees hW).r 0 0 rfl rfl) ((M.sees hW).lt 0 rfl) (dl_len _ _).symm Cg24)) ?_
   simp only [Z7,Z0]
   refine Z14 (hLk _ (fun w25 Sw25 => ?_))
   clear hLk Lk
   simp only [Z1,Z2]
   replace M := M.sees Sw25
   refine Z9 (Z17 ?_)
   refine any_step [5] (by kernel_rfl) rfl (any_one ?_)
   refine any_opL 5 (by rfl) ?_
   simp only [Z1,Z2]
   refine wpL_store (g := g5) (off := 0) (n := 4) (cs := fel (fpow x (pF - 2))) (by rfl) (by rfl) (by rfl) (by rfl) (by rfl) (M.t 3 rfl) (by simp [flen]) info24 (fel_one _) (fun w26 P R T => ?_)
   replace M := M.putS 3 0 rfl P R T rfl ⟨.inl rfl, trivial⟩
   simp only [Z0] at M
   refine Z9 (Z17 ?_)
   refine any_end (by kernel_rfl) (Z10 ?_)
   refine hK7 _ _ ?_
   refine wp_ret ?_
   repeat (first | with_reducible refine then_ret ?_ | with_reducible refine inblock_ret ?_)
   refine bodyPost_ret (v := fe (fpow x (pF - 2))) (res1 rfl (.cell (by rfl) (run_loadVar_mid _ _ _ _ (fel (fpow x (pF - 2))) _ (M.r 3 0 rfl rfl) Try.underlying24 rfl info24))) rfl ?_
   have BE := M.below
   exact ⟨rfl, BE⟩
 ·
  refine any_opL 1 (by rfl) ?_
  simp only [Z1,Z2]
  refine wpL_callE (f := 68) (args := #[]) (R := fun v9 W9 => ∃ g28 g28c, v9 = .slice (some ⟨g28, 0, none⟩) 16 g28c ∧ 16 ≤ g28c ∧ Mem [] w9 W9 [⟨g28, 0, [(0, dl 16 pF)]⟩]) (by rfl) (by rfl) rfl Try.func68 (by kernel_rfl) (by kernel_rfl) (prime04_o) (fun v9 w27 hv9 Sw27 => ?_)
  obtain ⟨g28, g28c, rfl, Cg28, M9⟩ := hv9
  replace M := M.call1 M9
  clear Sw27
  simp only [Z7,Z0]
  refine Z9 (Z17 ?_)
  refine any_step [0, 2] (by kernel_rfl) rfl (any_two ?_ (any_one ?_))
  ·
   refine any_opL 0 (by rfl) ?_
   simp only [Z1,Z2]
   refine Z11 1 (by rfl) (fun Lk hLk => ?_)
   simp only [Z1,Z2]
   refine wpV_load (cs := fel x) (by rfl) rfl rfl (M.r 2 0 rfl rfl) (M.lt 2 rfl) Try.underlying24 rfl info24 ?_
   simp only [Z7,Z0]
   refine Z14 (hLk _ (fun w29 Sw29 => ?_))
   clear hLk Lk
   simp only [Z1,Z2]
   replace M := M.sees Sw29
   refine Z9 (Z17 ?_)
   refine any_step [2] (by kernel_rfl) rfl (any_one ?_)
   refine any_opL 2 (by rfl) ?_
   simp only [Z1,Z2]
   refine wpL_rowN (vs := [.int .i64 2]) (z := .int .i64 0) (bytes := 8) (by rfl) (by rfl) Try.underlying100 (by kernel_rfl) (by decide) (by kernel_rfl) (fun g30 w31 Sw31 Hg30 Bg30 => ?_)
   replace M := ((M.sees Sw31).add (N := 1) (cs := [.int .i64 2]) (M.ge Hg30) (M.fresh Hg30) Bg30 rfl)
   replace M := M.read1 (cs := dl 1 2) 0 rfl (by rw [dl_one (v := 2) (by omega)]; exact M.r 0 0 rfl rfl)
   simp only [Z0] at M
   clear Bg30
   simp only [Z7,Z0]
   refine Z9 (Z17 ?_)
   refine any_step [3] (by kernel_rfl) rfl (any_one ?_)
   refine any_opL 3 (by rfl) ?_
   simp only [Z1,Z2]
   refine wpL_callE (f := 70) (args := #[.slice (some ⟨g28, 0, none⟩) 16 g28c, .slice (some ⟨g30, 0, none⟩) 1 1]) (R := fun v9 W9 => ∃ g33 g33c, v9 = .slice (some ⟨g33, 0, none⟩) 16 g33c ∧ 16 ≤ g33c ∧ Mem [] w31 W9 [⟨g33, 0, [(0, dl 16 (pF - 2))]⟩]) (by rfl) (by rfl) rfl Try.func70 (by kernel_rfl) (by kernel_rfl) (minus04_2 Cg28 (M.lt 1 rfl) (M.r 1 0 rfl rfl) (Nat.le_refl _) (M.lt 0 rfl) (M.r 0 0 rfl rfl)) (fun v9 w32 hv9 Sw32 => ?_)
   obtain ⟨g33, g33c, rfl, Cg33, M9⟩ := hv9
   replace M := M.call1 M9
   clear Sw32
   simp only [Z7,Z0]
   refine Z9 (Z17 ?_)
   refine any_step [4] (by kernel_rfl) rfl (any_one ?_)
   refine any_opL 4 (by rfl) ?_
   simp only [Z1,Z2]
   refine Z11 1 (by rfl) (fun Lk hLk => ?_)
   simp only [Z1,Z2]
   refine Z20 (v := fe (fpow x (pF - 2))) (args := #[fe x, .slice (some ⟨g33, 0, none⟩) 16 g33c]) (by rfl) rfl Try.func79 (by kernel_rfl) (by kernel_rfl) rfl (fun W hW => rpower_c hx (by decide) (by decide) (RowA.of ((M.sees hW).r 0 0 rfl rfl) ((M.sees hW).lt 0 rfl) (dl_len _ _).symm Cg33)) ?_
   simp only [Z7,Z0]
   refine Z14 (hLk _ (fun w34 Sw34 => ?_))
   clear hLk Lk
   simp only [Z1,Z2]
   replace M := M.sees Sw34
   refine Z9 (Z17 ?_)
   refine any_step [5] (by kernel_rfl) rfl (any_one ?_)
   refine any_opL 5 (by rfl) ?_
   simp only [Z1,Z2]
   refine wpL_store (g := g5) (off := 0) (n := 4) (cs := fel (fpow x (pF - 2))) (by rfl) (by rfl) (by rfl) (by rfl) (by rfl) (M.t 3 rfl) (by simp [flen]) info24 (fel_one _) (fun w35 P R T => ?_)
   replace M := M.putS 3 0 rfl P R T rfl ⟨.inl rfl, trivial⟩
   simp only [Z0] at M
   refine Z9 (Z17 ?_)
   refine any_end (by kernel_rfl) (Z10 ?_)
   refine hK7 _ _ ?_
   refine wp_ret ?_
   repeat (first | with_reducible refine then_ret ?_ | with_reducible refine inblock_ret ?_)
   refine bodyPost_ret (v := fe (fpow x (pF - 2))) (res1 rfl (.cell (by rfl) (run_loadVar_mid _ _ _ _ (fel (fpow x (pF - 2))) _ (M.r 3 0 rfl rfl) Try.underlying24 rfl info24))) rfl ?_
   have BE := M.below
   exact ⟨rfl, BE⟩
  ·
   refine any_opL 2 (by rfl) ?_
   simp only [Z1,Z2]
   refine wpL_rowN (vs := [.int .i64 2]) (z := .int .i64 0) (bytes := 8) (by rfl) (by rfl) Try.underlying100 (by kernel_rfl) (by decide) (by kernel_rfl) (fun g36 w37 Sw37 Hg36 Bg36 => ?_)
   replace M := ((M.sees Sw37).add (N := 1) (cs := [.int .i64 2]) (M.ge Hg36) (M.fresh Hg36) Bg36 rfl)
   replace M := M.read1 (cs := dl 1 2) 0 rfl (by rw [dl_one (v := 2) (by omega)]; exact M.r 0 0 rfl rfl)
   simp only [Z0] at M
   clear Bg36
   simp only [Z7,Z0]
   refine Z9 (Z17 ?_)
   refine any_step [0, 3] (by kernel_rfl) rfl (any_two ?_ (any_one ?_))
   ·
    refine any_opL 0 (by rfl) ?_
    simp only [Z1,Z2]
    refine Z11 1 (by rfl) (fun Lk hLk => ?_)
    simp only [Z1,Z2]
    refine wpV_load (cs := fel x) (by rfl) rfl rfl (M.r 3 0 rfl rfl) (M.lt 3 rfl) Try.underlying24 rfl info24 ?_
    simp only [Z7,Z0]
    refine Z14 (hLk _ (fun w38 Sw38 => ?_))
    clear hLk Lk
    simp only [Z1,Z2]
    replace M := M.sees Sw38
    refine Z9 (Z17 ?_)
    refine any_step [3] (by kernel_rfl) rfl (any_one ?_)
    refine any_opL 3 (by rfl) ?_
    simp only [Z1,Z2]
    refine wpL_callE (f := 70) (args := #[.slice (some ⟨g28, 0, none⟩) 16 g28c, .slice (some ⟨g36, 0, none⟩) 1 1]) (R := fun v9 W9 => ∃ g40 g40c, v9 = .slice (some ⟨g40, 0, none⟩) 16 g40c ∧ 16 ≤ g40c ∧ Mem [] w38 W9 [⟨g40, 0, [(0, dl 16 (pF - 2))]⟩]) (by rfl) (by rfl) rfl Try.func70 (by kernel_rfl) (by kernel_rfl) (minus04_2 Cg28 (M.lt 1 rfl) (M.r 1 0 rfl rfl) (Nat.le_refl _) (M.lt 0 rfl) (M.r 0 0 rfl rfl)) (fun v9 w39 hv9 Sw39 => ?_)
    obtain ⟨g40, g40c, rfl, Cg40, M9⟩ := hv9
    replace M := M.call1 M9
    clear Sw39
    simp only [Z7,Z0]
    refine Z9 (Z17 ?_)
    refine any_step [4] (by kernel_rfl) rfl (any_one ?_)
    refine any_opL 4 (by rfl) ?_
    simp only [Z1,Z2]
    refine Z11 1 (by rfl) (fun Lk hLk => ?_)
    simp only [Z1,Z2]
    refine Z20 (v := fe (fpow x (pF - 2))) (args := #[fe x, .slice (some ⟨g40, 0, none⟩) 16 g40c]) (by rfl) rfl Try.func79 (by kernel_rfl) (by kernel_rfl) rfl (fun W hW => rpower_c hx (by decide) (by decide) (RowA.of ((M.sees hW).r 0 0 rfl rfl) ((M.sees hW).lt 0 rfl) (dl_len _ _).symm Cg40)) ?_
    simp only [Z7,Z0]
    refine Z14 (hLk _ (fun w41 Sw41 => ?_))
    clear hLk Lk
    simp only [Z1,Z2]
    replace M := M.sees Sw41
    refine Z9 (Z17 ?_)
    refine any_step [5] (by kernel_rfl) rfl (any_one ?_)
    refine any_opL 5 (by rfl) ?_
    simp only [Z1,Z2]
    refine wpL_store (g := g5) (off := 0) (n := 4) (cs := fel (fpow x (pF - 2))) (by rfl) (by rfl) (by rfl) (by rfl) (by rfl) (M.t 3 rfl) (by simp [flen]) info24 (fel_one _) (fun w42 P R T => ?_)
    replace M := M.putS 3 0 rfl P R T rfl ⟨.inl rfl, trivial⟩
    simp only [Z0] at M
    refine Z9 (Z17 ?_)
    refine any_end (by kernel_rfl) (Z10 ?_)
    refine hK7 _ _ ?_
    refine wp_ret ?_
    repeat (first | with_reducible refine then_ret ?_ | with_reducible refine inblock_ret ?_)
    refine bodyPost_ret (v := fe (fpow x (pF - 2))) (res1 rfl (.cell (by rfl) (run_loadVar_mid _ _ _ _ (fel (fpow x (pF - 2))) _ (M.r 3 0 rfl rfl) Try.underlying24 rfl info24))) rfl ?_
    have BE := M.below
    exact ⟨rfl, BE⟩
   ·
    refine any_opL 3 (by rfl) ?_
    simp only [Z1,Z2]
    refine wpL_callE (f := 70) (args := #[.slice (some ⟨g28, 0, none⟩) 16 g28c, .slice (some ⟨g36, 0, none⟩) 1 1]) (R := fun v9 W9 => ∃ g44 g44c, v9 = .slice (some ⟨g44, 0, none⟩) 16 g44c ∧ 16 ≤ g44c ∧ Mem [] w37 W9 [⟨g44, 0, [(0, dl 16 (pF - 2))]⟩]) (by rfl) (by rfl) rfl Try.func70 (by kernel_rfl) (by kernel_rfl) (minus04_2 Cg28 (M.lt 1 rfl) (M.r 1 0 rfl rfl) (Nat.le_refl _) (M.lt 0 rfl) (M.r 0 0 rfl rfl)) (fun v9 w43 hv9 Sw43 => ?_)
    obtain ⟨g44, g44c, rfl, Cg44, M9⟩ := hv9
    replace M := M.call1 M9
    clear Sw43
    simp only [Z7,Z0]
    refine Z9 (Z17 ?_)
    refine any_step [0] (by kernel_rfl) rfl (any_one ?_)
    refine any_opL 0 (by rfl) ?_
    simp only [Z1,Z2]
    refine Z11 1 (by rfl) (fun Lk hLk => ?_)
    simp only [Z1,Z2]
    refine wpV_load (cs := fel x) (by rfl) rfl rfl (M.r 4 0 rfl rfl) (M.lt 4 rfl) Try.underlying24 rfl info24 ?_
    simp only [Z7,Z0]
    refine Z14 (hLk _ (fun w45 Sw45 => ?_))
    clear hLk Lk
    simp only [Z1,Z2]
    replace M := M.sees Sw45
    refine Z9 (Z17 ?_)
    refine any_step [4] (by kernel_rfl) rfl (any_one ?_)
    refine any_opL 4 (by rfl) ?_
    simp only [Z1,Z2]
    refine Z11 1 (by rfl) (fun Lk hLk => ?_)
    simp only [Z1,Z2]
    refine Z20 (v := fe (fpow x (pF - 2))) (args := #[fe x, .slice (some ⟨g44, 0, none⟩) 16 g44c]) (by rfl) rfl Try.func79 (by kernel_rfl) (by kernel_rfl) rfl (fun W hW => rpower_c hx (by decide) (by decide) (RowA.of ((M.sees hW).r 0 0 rfl rfl) ((M.sees hW).lt 0 rfl) (dl_len _ _).symm Cg44)) ?_
    simp only [Z7,Z0]
    refine Z14 (hLk _ (fun w46 Sw46 => ?_))
    clear hLk Lk
    simp only [Z1,Z2]
    replace M := M.sees Sw46
    refine Z9 (Z17 ?_)
    refine any_step [5] (by kernel_rfl) rfl (any_one ?_)
    refine any_opL 5 (by rfl) ?_
    simp only [Z1,Z2]
    refine wpL_store (g := g5) (off := 0) (n := 4) (cs := fel (fpow x (pF - 2))) (by rfl) (by rfl) (by rfl) (by rfl) (by rfl) (M.t 3 rfl) (by simp [flen]) info24 (fel_one _) (fun w47 P R T => ?_)
    replace M := M.putS 3 0 rfl P R T rfl ⟨.inl rfl, trivial⟩
    simp only [Z0] at M
    refine Z9 (Z17 ?_)
    refine any_end (by kernel_rfl) (Z10 ?_)
    refine hK7 _ _ ?_
    refine wp_ret ?_
    repeat (first | with_reducible refine then_ret ?_ | with_reducible refine inblock_ret ?_)
    refine bodyPost_ret (v := fe (fpow x (pF - 2))) (res1 rfl (.cell (by rfl) (run_loadVar_mid _ _ _ _ (fel (fpow x (pF - 2))) _ (M.r 3 0 rfl rfl) Try.underlying24 rfl info24))) rfl ?_
    have BE := M.below
    exact ⟨rfl, BE⟩
 ·
  refine any_opL 2 (by rfl) ?_
  simp only [Z1,Z2]
  refine wpL_rowN (vs := [.int .i64 2]) (z := .int .i64 0) (bytes := 8) (by rfl) (by rfl) Try.underlying100 (by kernel_rfl) (by decide) (by kernel_rfl) (fun g48 w49 Sw49 Hg48 Bg48 => ?_)
  replace M := ((M.sees Sw49).add (N := 1) (cs := [.int .i64 2]) (M.ge Hg48) (M.fresh Hg48) Bg48 rfl)
  replace M := M.read1 (cs := dl 1 2) 0 rfl (by rw [dl_one (v := 2) (by omega)]; exact M.r 0 0 rfl rfl)
  simp only [Z0] at M
  clear Bg48
  simp only [Z7,Z0]
  refine Z9 (Z17 ?_)
  refine any_step [0, 1] (by kernel_rfl) rfl (any_two ?_ (any_one ?_))
  ·
   refine any_opL 0 (by rfl) ?_
   simp only [Z1,Z2]
   refine Z11 1 (by rfl) (fun Lk hLk => ?_)
   simp only [Z1,Z2]
   refine wpV_load (cs := fel x) (by rfl) rfl rfl (M.r 2 0 rfl rfl) (M.lt 2 rfl) Try.underlying24 rfl info24 ?_
   simp only [Z7,Z0]
   refine Z14 (hLk _ (fun w50 Sw50 => ?_))
   clear hLk Lk
   simp only [Z1,Z2]
   replace M := M.sees Sw50
   refine Z9 (Z17 ?_)
   refine any_step [1] (by kernel_rfl) rfl (any_one ?_)
   refine any_opL 1 (by rfl) ?_
   simp only [Z1,Z2]
   refine wpL_callE (f := 68) (args := #[]) (R := fun v9 W9 => ∃ g52 g52c, v9 = .slice (some ⟨g52, 0, none⟩) 16 g52c ∧ 16 ≤ g52c ∧ Mem [] w50 W9 [⟨g52, 0, [(0, dl 16 pF)]⟩]) (by rfl) (by rfl) rfl Try.func68 (by kernel_rfl) (by kernel_rfl) (prime04_o) (fun v9 w51 hv9 Sw51 => ?_)
   obtain ⟨g52, g52c, rfl, Cg52, M9⟩ := hv9
   replace M := M.call1 M9
   clear Sw51
   simp only [Z7,Z0]
   refine Z9 (Z17 ?_)
   refine any_step [3] (by kernel_rfl) rfl (any_one ?_)
   refine any_opL 3 (by rfl) ?_
   simp only [Z1,Z2]
   refine wpL_callE (f := 70) (args := #[.slice (some ⟨g52, 0, none⟩) 16 g52c, .slice (some ⟨g48, 0, none⟩) 1 1]) (R := fun v9 W9 => ∃ g54 g54c, v9 = .slice (some ⟨g54, 0, none⟩) 16 g54c ∧ 16 ≤ g54c ∧ Mem [] w51 W9 [⟨g54, 0, [(0, dl 16 (pF - 2))]⟩]) (by rfl) (by rfl) rfl Try.func70 (by kernel_rfl) (by kernel_rfl) (minus04_2 Cg52 (M.lt 0 rfl) (M.r 0 0 rfl rfl) (Nat.le_refl _) (M.lt 1 rfl) (M.r 1 0 rfl rfl)) (fun v9 w53 hv9 Sw53 => ?_)
   obtain ⟨g54, g54c, rfl, Cg54, M9⟩ := hv9
   replace M := M.call1 M9
   clear Sw53
   simp only [Z7,Z0]
   refine Z9 (Z17 ?_)
   refine any_step [4] (by kernel_rfl) rfl (any_one ?_)
   refine any_opL 4 (by rfl) ?_
   simp only [Z1,Z2]
   refine Z11 1 (by rfl) (fun Lk hLk => ?_)
   simp only [Z1,Z2]
   refine Z20 (v := fe (fpow x (pF - 2))) (args := #[fe x, .slice (some ⟨g54, 0, none⟩) 16 g54c]) (by rfl) rfl Try.func79 (by kernel_rfl) (by kernel_rfl) rfl (fun W hW => rpower_c hx (by decide) (by decide) (RowA.of ((M.sees hW).r 0 0 rfl rfl) ((M.sees hW).lt 0 rfl) (dl_len _ _).symm Cg54)) ?_
   simp only [Z7,Z0]
   refine Z14 (hLk _ (fun w55 Sw55 => ?_))
   clear hLk Lk
   simp only [Z1,Z2]
   replace M := M.sees Sw55
   refine Z9 (Z17 ?_)
   refine any_step [5] (by kernel_rfl) rfl (any_one ?_)
   refine any_opL 5 (by rfl) ?_
   simp only [Z1,Z2]
   refine wpL_store (g := g5) (off := 0) (n := 4) (cs := fel (fpow x (pF - 2))) (by rfl) (by rfl) (by rfl) (by rfl) (by rfl) (M.t 3 rfl) (by simp [flen]) info24 (fel_one _) (fun w56 P R T => ?_)
   replace M := M.putS 3 0 rfl P R T rfl ⟨.inl rfl, trivial⟩
   simp only [Z0] at M
   refine Z9 (Z17 ?_)
   refine any_end (by kernel_rfl) (Z10 ?_)
   refine hK7 _ _ ?_
   refine wp_ret ?_
   repeat (first | with_reducible refine then_ret ?_ | with_reducible refine inblock_ret ?_)
   refine bodyPost_ret (v := fe (fpow x (pF - 2))) (res1 rfl (.cell (by rfl) (run_loadVar_mid _ _ _ _ (fel (fpow x (pF - 2))) _ (M.r 3 0 rfl rfl) Try.underlying24 rfl info24))) rfl ?_
   have BE := M.below
   exact ⟨rfl, BE⟩
  ·
   refine any_opL 1 (by rfl) ?_
   simp only [Z1,Z2]
   refine wpL_callE (f := 68) (args := #[]) (R := fun v9 W9 => ∃ g58 g58c, v9 = .slice (some ⟨g58, 0, none⟩) 16 g58c ∧ 16 ≤ g58c ∧ Mem [] w49 W9 [⟨g58, 0, [(0, dl 16 pF)]⟩]) (by rfl) (by rfl) rfl Try.func68 (by kernel_rfl) (by kernel_rfl) (prime04_o) (fun v9 w57 hv9 Sw57 => ?_)
   obtain ⟨g58, g58c, rfl, Cg58, M9⟩ := hv9
   replace M := M.call1 M9
   clear Sw57
   simp only [Z7,Z0]
   refine Z9 (Z17 ?_)
   refine any_step [0, 3] (by kernel_rfl) rfl (any_two ?_ (any_one ?_))
   ·
    refine any_opL 0 (by rfl) ?_
    simp only [Z1,Z2]
    refine Z11 1 (by rfl) (fun Lk hLk => ?_)
    simp only [Z1,Z2]
    refine wpV_load (cs := fel x) (by rfl) rfl rfl (M.r 3 0 rfl rfl) (M.lt 3 rfl) Try.underlying24 rfl info24 ?_
    simp only [Z7,Z0]
    refine Z14 (hLk _ (fun w59 Sw59 => ?_))
    clear hLk Lk
    simp only [Z1,Z2]
    replace M := M.sees Sw59
    refine Z9 (Z17 ?_)
    refine any_step [3] (by kernel_rfl) rfl (any_one ?_)
    refine any_opL 3 (by rfl) ?_
    simp only [Z1,Z2]
    refine wpL_callE (f := 70) (args := #[.slice (some ⟨g58, 0, none⟩) 16 g58c, .slice (some ⟨g48, 0, none⟩) 1 1]) (R := fun v9 W9 => ∃ g61 g61c, v9 = .slice (some ⟨g61, 0, none⟩) 16 g61c ∧ 16 ≤ g61c ∧ Mem [] w59 W9 [⟨g61, 0, [(0, dl 16 (pF - 2))]⟩]) (by rfl) (by rfl) rfl Try.func70 (by kernel_rfl) (by kernel_rfl) (minus04_2 Cg58 (M.lt 0 rfl) (M.r 0 0 rfl rfl) (Nat.le_refl _) (M.lt 1 rfl) (M.r 1 0 rfl rfl)) (fun v9 w60 hv9 Sw60 => ?_)
    obtain ⟨g61, g61c, rfl, Cg61, M9⟩ := hv9
    replace M := M.call1 M9
    clear Sw60
    simp only [Z7,Z0]
    refine Z9 (Z17 ?_)
    refine any_step [4] (by kernel_rfl) rfl (any_one ?_)
    refine any_opL 4 (by rfl) ?_
    simp only [Z1,Z2]
    refine Z11 1 (by rfl) (fun Lk hLk => ?_)
    simp only [Z1,Z2]
    refine Z20 (v := fe (fpow x (pF - 2))) (args := #[fe x, .slice (some ⟨g61, 0, none⟩) 16 g61c]) (by rfl) rfl Try.func79 (by kernel_rfl) (by kernel_rfl) rfl (fun W hW => rpower_c hx (by decide) (by decide) (RowA.of ((M.sees hW).r 0 0 rfl rfl) ((M.sees hW).lt 0 rfl) (dl_len _ _).symm Cg61)) ?_
    simp only [Z7,Z0]
    refine Z14 (hLk _ (fun w62 Sw62 => ?_))
    clear hLk Lk
    simp only [Z1,Z2]
    replace M := M.sees Sw62
    refine Z9 (Z17 ?_)
    refine any_step [5] (by kernel_rfl) rfl (any_one ?_)
    refine any_opL 5 (by rfl) ?_
    simp only [Z1,Z2]
    refine wpL_store (g := g5) (off := 0) (n := 4) (cs := fel (fpow x (pF - 2))) (by rfl) (by rfl) (by rfl) (by rfl) (by rfl) (M.t 3 rfl) (by simp [flen]) info24 (fel_one _) (fun w63 P R T => ?_)
    replace M := M.putS 3 0 rfl P R T rfl ⟨.inl rfl, trivial⟩
    simp only [Z0] at M
    refine Z9 (Z17 ?_)
    refine any_end (by kernel_rfl) (Z10 ?_)
    refine hK7 _ _ ?_
    refine wp_ret ?_
    repeat (first | with_reducible refine then_ret ?_ | with_reducible refine inblock_ret ?_)
    refine bodyPost_ret (v := fe (fpow x (pF - 2))) (res1 rfl (.cell (by rfl) (run_loadVar_mid _ _ _ _ (fel (fpow x (pF - 2))) _ (M.r 3 0 rfl rfl) Try.underlying24 rfl info24))) rfl ?_
    have BE := M.below
    exact ⟨rfl, BE⟩
   ·
    refine any_opL 3 (by rfl) ?_
    simp only [Z1,Z2]
    refine wpL_callE (f := 70) (args := #[.slice (some ⟨g58, 0, none⟩) 16 g58c, .slice (some ⟨g48, 0, none⟩) 1 1]) (R := fun v9 W9 => ∃ g65 g65c, v9 = .slice (some ⟨g65, 0, none⟩) 16 g65c ∧ 16 ≤ g65c ∧ Mem [] w57 W9 [⟨g65, 0, [(0, dl 16 (pF - 2))]⟩]) (by rfl) (by rfl) rfl Try.func70 (by kernel_rfl) (by kernel_rfl) (minus04_2 Cg58 (M.lt 0 rfl) (M.r 0 0 rfl rfl) (Nat.le_refl _) (M.lt 1 rfl) (M.r 1 0 rfl rfl)) (fun v9 w64 hv9 Sw64 => ?_)
    obtain ⟨g65, g65c, rfl, Cg65, M9⟩ := hv9
    replace M := M.call1 M9
    clear Sw64
    simp only [Z7,Z0]
    refine Z9 (Z17 ?_)
    refine any_step [0] (by kernel_rfl) rfl (any_one ?_)
    refine any_opL 0 (by rfl) ?_
    simp only [Z1,Z2]
    refine Z11 1 (by rfl) (fun Lk hLk => ?_)
    simp only [Z1,Z2]
    refine wpV_load (cs := fel x) (by rfl) rfl rfl (M.r 4 0 rfl rfl) (M.lt 4 rfl) Try.underlying24 rfl info24 ?_
    simp only [Z7,Z0]
    refine Z14 (hLk _ (fun w66 Sw66 => ?_))
    clear hLk Lk
    simp only [Z1,Z2]
    replace M := M.sees Sw66
    refine Z9 (Z17 ?_)
    refine any_step [4] (by kernel_rfl) rfl (any_one ?_)
    refine any_opL 4 (by rfl) ?_
    simp only [Z1,Z2]
    refine Z11 1 (by rfl) (fun Lk hLk => ?_)
    simp only [Z1,Z2]
    refine Z20 (v := fe (fpow x (pF - 2))) (args := #[fe x, .slice (some ⟨g65, 0, none⟩) 16 g65c]) (by rfl) rfl Try.func79 (by kernel_rfl) (by kernel_rfl) rfl (fun W hW => rpower_c hx (by decide) (by decide) (RowA.of ((M.sees hW).r 0 0 rfl rfl) ((M.sees hW).lt 0 rfl) (dl_len _ _).symm Cg65)) ?_
    simp only [Z7,Z0]
    refine Z14 (hLk _ (fun w67 Sw67 => ?_))
    clear hLk Lk
    simp only [Z1,Z2]
    replace M := M.sees Sw67
    refine Z9 (Z17 ?_)
    refine any_step [5] (by kernel_rfl) rfl (any_one ?_)
    refine any_opL 5 (by rfl) ?_
    simp only [Z1,Z2]
    refine wpL_store (g := g5) (off := 0) (n := 4) (cs := fel (fpow x (pF - 2))) (by rfl) (by rfl) (by rfl) (by rfl) (by rfl) (M.t 3 rfl) (by simp [flen]) info24 (fel_one _) (fun w68 P R T => ?_)
    replace M := M.putS 3 0 rfl P R T rfl ⟨.inl rfl, trivial⟩
    simp only [Z0] at M
    refine Z9 (Z17 ?_)
    refine any_end (by kernel_rfl) (Z10 ?_)
    refine hK7 _ _ ?_
    refine wp_ret ?_
    repeat (first | with_reducible refine then_ret ?_ | with_reducible refine inblock_ret ?_)
    refine bodyPost_ret (v := fe (fpow x (pF - 2))) (res1 rfl (.cell (by rfl) (run_loadVar_mid _ _ _ _ (fel (fpow x (pF - 2))) _ (M.r 3 0 rfl rfl) Try.underlying24 rfl info24))) rfl ?_
    have BE := M.below
    exact ⟨rfl, BE⟩
end Go.Proofs.Yc

