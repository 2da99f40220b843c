import Derived.WalkKit
import Derived.WalkSpells
import Derived.Laws.Pointers
import Derived.RowKit3
import Derived.Below
import Derived.Outline
import Derived.LoopN
import Derived.Lib.Hide
import Derived.Handy
import Derived.Laws.Bits64b
import Derived.Test.YtpgpjoldelobdaaDoorHeadB
import Derived.Test.YtpgpjoldelobdaaDoorMacR
import Derived.Test.YtpgpjoldelobdaaDoorF3
import Derived.Test.YtpgpjoldelobdaaDoorShq
set_option linter.unusedSimpArgs false
set_option linter.unusedVariables false
namespace Go.Proofs.Yc
open Go Go.RowKit Go.Proofs.Num
open Tryd renaming func24 → G924, func26 → G926, func29 → G929, ntmps26 → T926, ntmps29 → T929, underlying3 → U93, underlying33 → U933, underlying40 → U940, underlying9 → U99
open Go.Proofs.Num  renaming putT → Z0
open Nat renaming lt_of_lt_of_le → Z1, le_trans → Z3
open List renaming set → Z6, take → Z7, drop → Z8
open Go renaming undef → Z9
open Go.Proofs.Num renaming wp_region_seq → Z13, wpL_nil → Z14, no_panic → Z15, wpV_nil → Z19, then_normal → Z22, wpL_var → Z36
attribute [local irreducible] wpV wpN wpList
open Go.Proofs.Ya
theorem number_x {l : List UInt8} {w : World} : Calls Tryd.prog 25 #[.string (bs l)] w fun e w' => e = .returned (.tuple #[.int .u64 (numX l : Nat), .int .i64 (numE l)]) ∧ Below w.heap.size w w' := by
 unfold numX numE
 by_cases h : l.length ≤ 8
 ·
  have h9 := number_c (w := w) h
  rw [if_pos h, if_pos h]; exact h9
 have h9 := number_no (w := w) (l := l) (by omega)
 rw [if_neg h, if_neg h]; exact h9
theorem unpack_any {l : List UInt8} {w : World} (hl : l.length ≤ 65536) :
  Calls Tryd.prog 24 #[.string (bs l)] w fun e w' => ∃ v, e = .returned v ∧ (∃ a c x, v = .tuple #[.slice a (unpV l).length c, .int .i64 x] ∧ RowA w' a (unpV l).length c (scells (unpV l))) ∧ Below w.heap.size w w' :=
 (unpack_c hl).mono fun e w' ⟨v, he, ⟨a, c, x, hv, hR, _⟩, hb⟩ => ⟨v, he, ⟨a, c, x, hv, hR⟩, hb⟩
set_option maxHeartbeats 4000000 in
theorem HParse_ok {l : List UInt8} {w : World} (hl : l.length ≤ 65536) (h0 : rightH (parZ l) (parR l) (parT l) (parG l) = true) (he : texL (parZ l).toNat (parT l).toNat (parR l) (parG l) = l) :
  Calls Tryd.prog 26 #[.string (bs l)] w fun e w' => e = .returned (.tuple #[.agg ([.int .i64 (parZ l), .string (bs (parR l)), .int .i64 (parT l), .string (bs (parG l))]).toArray, .int .i64 0]) ∧ Below w.heap.size w w' := by
 have hin : ∀ i, ((unpV l).getD i []).length ≤ 65536 := unpV_part hl
 obtain ⟨z9, hz9⟩ : ∃ z, z = parZ l := ⟨_, rfl⟩
 obtain ⟨t9, ht9⟩ : ∃ z, z = parT l := ⟨_, rfl⟩
 obtain ⟨a, b, ea, eb, ha, hb, hr, hg⟩ := rightH_parts h0
 rw [← hz9] at ea; rw [← ht9] at eb
 have hne : texL a b ((unpV ((unpV l).getD 0 [])).getD 3 []) ((unpV l).getD 1 []) = l := by have h9 := he; rw [← hz9, ← ht9, ea, eb] at h9; exact h9
 go_enter G926, T926
 have M := Mem.start w
 refine qS fun _ k1 => ?_
 refine nV 4 fun g3 w4 M => ?_
 refine lg ?_; refine lZ k1 ?_
 refine qS fun _ k5 => ?_
 refine lM ?_
 refine wpL_callE (f := 24) (args := #[.string (bs l)]) (R := fun v9 W9 => ∃ a8 c8 x8, v9 = .tuple #[.slice a8 ((unpV l).length) c8, .int .i64 x8] ∧ RowA W9 a8 (unpV l).length c8 (scells (unpV l))) (by rfl) (by rfl) rfl G924 (by kernel_rfl) (by kernel_rfl) (unpack_any (l := l) hl) (fun v9 w7 hv9 Sw7 => ?_)
 obtain ⟨a8, c8, x8, rfl, H8_0⟩ := hv9
 replace M := M.sees Sw7
 simp only [Z0, Z6]
 refine lM ?_
 refine lCh 2 (fun Lk hLk => ?_)
 refine vE ?_; refine vE ?_
 refine Z19 (hLk _ (fun w9 Sw9 => ?_))
 simp only [Z7, Z8]
 replace M := M.sees Sw9
 replace H8_0 := H8_0.sees Sw9
 refine lg ?_; refine lg ?_; refine lZ k5 ?_
 refine qS fun _ k10 => ?_
 refine lM ?_
 refine lCh 1 (fun Lk hLk => ?_)
 refine vCh (fun W hW => (part_c (i := 0) (H8_0.sees hW))) ?_
 refine Z19 (hLk _ (fun w12 Sw12 => ?_))
 simp only [Z7, Z8]
 replace M := M.sees Sw12
 replace H8_0 := H8_0.sees Sw12
 refine wpL_callE (f := 24) (args := #[.string (bs ((unpV l).getD 0 []))]) (R := fun v9 W9 => ∃ a14 c14 x14, v9 = .tuple #[.slice a14 ((unpV ((unpV l).getD 0 [])).length) c14, .int .i64 x14] ∧ RowA W9 a14 (unpV ((unpV l).getD 0 [])).length c14 (scells (unpV ((unpV l).getD 0 [])))) (by rfl) (by rfl) rfl G924 (by kernel_rfl) (by kernel_rfl) (unpack_any (l := (unpV l).getD 0 []) (hin _)) (fun v9 w13 hv9 Sw13 => ?_)
 obtain ⟨a14, c14, x14, rfl, H14_0⟩ := hv9
 replace M := M.sees Sw13
 simp only [Z0, Z6]
 replace H8_0 := H8_0.sees Sw13
 refine lM ?_
 refine lCh 2 (fun Lk hLk => ?_)
 refine vE ?_; refine vE ?_
 refine Z19 (hLk _ (fun w15 Sw15 => ?_))
 simp only [Z7, Z8]
 replace M := M.sees Sw15
 replace H8_0 := H8_0.sees Sw15
 replace H14_0 := H14_0.sees Sw15
 refine lg ?_; refine lg ?_; refine lZ k10 ?_
 refine qS fun _ k16 => ?_
 refine lM ?_
 refine lCh 5 (fun Lk hLk => ?_)
 refine vCh (fun W hW => (part_c (i := 1) (H14_0.sees hW))) ?_
 refine vC (fun W => (number_x (l := (unpV ((unpV l).getD 0 [])).getD 1 []))) ?_
 refine vM ?_; refine vE ?_; refine vE ?_
 refine Z19 (hLk _ (fun w18 Sw18 => ?_))
 simp only [Z7, Z8]
 replace M := M.sees Sw18
 replace H8_0 := H8_0.sees Sw18
 replace H14_0 := H14_0.sees Sw18
 refine lg ?_; refine lg ?_; refine lZ k16 ?_
 refine qS fun _ k19 => ?_
 refine lM ?_
 refine lCh 5 (fun Lk hLk => ?_)
 refine vCh (fun W hW => (part_c (i := 2) (H14_0.sees hW))) ?_
 refine vC (fun W => (number_x (l := (unpV ((unpV l).getD 0 [])).getD 2 []))) ?_
 refine vM ?_; refine vE ?_; refine vE ?_
 refine Z19 (hLk _ (fun w21 Sw21 => ?_))
 simp only [Z7, Z8]
 replace M := M.sees Sw21
 replace H8_0 := H8_0.sees Sw21
 replace H14_0 := H14_0.sees Sw21
 refine lg ?_; refine lg ?_; refine lZ k19 ?_
 refine qS fun _ k22 => ?_
 refine lM ?_
 refine lCh 8 (fun Lk hLk => ?_)
 refine wpV_conv (d := .bool) (e := z9) (by rfl) rfl rfl (run_conv_int U940 U93 hz9.symm) ?_
 simp only [Z0, Z6]
 refine vM ?_
 refine wpV_conv (d := .bool) (e := t9) (by rfl) rfl rfl (run_conv_int U940 U93 ht9.symm) ?_
 simp only [Z0, Z6]
 refine vM ?_
 refine vCh (fun W hW => (part_c (i := 3) (H14_0.sees hW))) ?_
 refine vM ?_
 refine vCh (fun W hW => (part_c (i := 1) (H8_0.sees hW))) ?_
 refine vGk (v := .agg ([.int .i64 z9, .string (bs ((unpV ((unpV l).getD 0 [])).getD 3 [])), .int .i64 t9, .string (bs ((unpV l).getD 1 []))]).toArray) ?_
 simp only [Z0, Z6]
 refine Z19 (hLk _ (fun w24 Sw24 => ?_))
 simp only [Z7, Z8]
 replace M := M.sees Sw24
 replace H8_0 := H8_0.sees Sw24
 replace H14_0 := H14_0.sees Sw24
 refine Z36 (t := 33) (cs := [.int .i64 0, .string { data := #[] }, .int .i64 0, .string { data := #[] }]) (by rfl) (fun W => ?_) (fun g25 w26 Sw26 Hg25 Bg25 => ?_)
 ·
  go_simp
 replace M := ((M.sees Sw26).add (N := 4) (cs := [.int .i64 0, .string { data := #[] }, .int .i64 0, .string { data := #[] }]) (M.ge Hg25) (M.fresh Hg25) Bg25 rfl)
 replace H8_0 := H8_0.sees Sw26
 replace H14_0 := H14_0.sees Sw26
 clear Bg25
 simp only [Z0, Z6]
 refine sT 0 0 fun w27 M => ?_
 refine lZ k22 ?_
 refine sk fun _ k28 => ?_
 refine qS fun _ k29 => ?_
 refine lL ?_
 refine cM 4 fun Lk hLk => ?_
 refine vC (v := .tuple #[.string (bs (texL a b ((unpV ((unpV l).getD 0 [])).getD 3 []) ((unpV l).getD 1 []))), .int .i64 0]) (args := #[.agg ([.int .i64 z9, .string (bs ((unpV ((unpV l).getD 0 [])).getD 3 [])), .int .i64 t9, .string (bs ((unpV l).getD 1 []))]).toArray]) (fun W => (by have h9 := Print_ok (a := a) (b := b) (r := (unpV ((unpV l).getD 0 [])).getD 3 []) (g := (unpV l).getD 1 []) (w := W) ha hb hr hg; rw [← ea, ← eb] at h9; exact h9)) ?_
 refine vM ?_; refine vE ?_; refine vE ?_
 refine hLk _ fun w31 M => ?_
 refine lg ?_; refine lg ?_; refine lZ k29 ?_
 refine qS fun _ k32 => ?_
 refine lM ?_
 refine cM 6 fun Lk hLk => ?_
 refine vB (v := .bool false) (hr := run_neq _ _ _ _) ?_
 refine vM ?_; refine vM ?_; refine vM ?_
 refine wpV_binS (v := .bool false) (by rfl) rfl rfl rfl (fun W => (run_neq_bs _ _ _ W).trans (by rw [(decide_eq_false (fun h => h hne))])) ?_
 simp only [Z0, Z6]
 refine vK ?_
 refine hLk _ fun w34 M => ?_
 refine lZ k32 ?_; refine cF ?_; refine sZ k28 ?_
 refine qS fun _ k35 => ?_
 refine lL ?_
 refine sT 1 0 fun w38 M => ?_
 refine lg ?_; refine lZ k35 ?_; refine rt ?_
 refine bodyPost_ret (v := .tuple #[.agg ([.int .i64 z9, .string (bs ((unpV ((unpV l).getD 0 [])).getD 3 [])), .int .i64 t9, .string (bs ((unpV l).getD 1 []))]).toArray, .int .i64 0]) (res2 rfl (.cell (by rfl) (run_loadVar_mid _ _ _ _ ([.int .i64 z9, .string (bs ((unpV ((unpV l).getD 0 [])).getD 3 [])), .int .i64 t9, .string (bs ((unpV l).getD 1 []))]) _ (M.r 1 0 rfl rfl) U933 rfl info33)) (.tmp (by rfl))) rfl ?_
 have BE := M.below
 exact ⟨by rw [hz9, ht9]; rfl, BE⟩
set_option maxHeartbeats 4000000 in
theorem HParse_bad {l : List UInt8} {w : World} (hl : l.length ≤ 65536) (h0 : rightH (parZ l) (parR l) (parT l) (parG l) = false) :
  Calls Tryd.prog 26 #[.string (bs l)] w fun e w' => e = .returned (.tuple #[.agg ([.int .i64 0, .string (bs ([])), .int .i64 0, .string (bs ([]))]).toArray, .int .i64 14]) ∧ Below w.heap.size w w' := by
 have hin : ∀ i, ((unpV l).getD i []).length ≤ 65536 := unpV_part hl
 obtain ⟨z9, hz9⟩ : ∃ z, z = parZ l := ⟨_, rfl⟩
 obtain ⟨t9, ht9⟩ : ∃ z, z = parT l := ⟨_, rfl⟩
 have h0 : rightH z9 ((unpV ((unpV l).getD 0 [])).getD 3 []) t9 ((unpV l).getD 1 []) = false := by rw [hz9, ht9]; exact h0
 go_enter G926, T926
 have M := Mem.start w
 refine qS fun _ k1 => ?_
 refine nV 4 fun g3 w4 M => ?_
 refine lg ?_; refine lZ k1 ?_
 refine qS fun _ k5 => ?_
 refine lM ?_
 refine wpL_callE (f := 24) (args := #[.string (bs l)]) (R := fun v9 W9 => ∃ a8 c8 x8, v9 = .tuple #[.slice a8 ((unpV l).length) c8, .int .i64 x8] ∧ RowA W9 a8 (unpV l).length c8 (scells (unpV l))) (by rfl) (by rfl) rfl G924 (by kernel_rfl) (by kernel_rfl) (unpack_any (l := l) hl) (fun v9 w7 hv9 Sw7 => ?_)
 obtain ⟨a8, c8, x8, rfl, H8_0⟩ := hv9
 replace M := M.sees Sw7
 simp only [Z0, Z6]
 refine lM ?_
 refine lCh 2 (fun Lk hLk => ?_)
 refine vE ?_; refine vE ?_
 refine Z19 (hLk _ (fun w9 Sw9 => ?_))
 simp only [Z7, Z8]
 replace M := M.sees Sw9
 replace H8_0 := H8_0.sees Sw9
 refine lg ?_; refine lg ?_; refine lZ k5 ?_
 refine qS fun _ k10 => ?_
 refine lM ?_
 refine lCh 1 (fun Lk hLk => ?_)
 refine vCh (fun W hW => (part_c (i := 0) (H8_0.sees hW))) ?_
 refine Z19 (hLk _ (fun w12 Sw12 => ?_))
 simp only [Z7, Z8]
 replace M := M.sees Sw12
 replace H8_0 := H8_0.sees Sw12
 refine wpL_callE (f := 24) (args := #[.string (bs ((unpV l).getD 0 []))]) (R := fun v9 W9 => ∃ a14 c14 x14, v9 = .tuple #[.slice a14 ((unpV ((unpV l).getD 0 [])).length) c14, .int .i64 x14] ∧ RowA W9 a14 (unpV ((unpV l).getD 0 [])).length c14 (scells (unpV ((unpV l).getD 0 [])))) (by rfl) (by rfl) rfl G924 (by kernel_rfl) (by kernel_rfl) (unpack_any (l := (unpV l).getD 0 []) (hin _)) (fun v9 w13 hv9 Sw13 => ?_)
 obtain ⟨a14, c14, x14, rfl, H14_0⟩ := hv9
 replace M := M.sees Sw13
 simp only [Z0, Z6]
 replace H8_0 := H8_0.sees Sw13
 refine lM ?_
 refine lCh 2 (fun Lk hLk => ?_)
 refine vE ?_; refine vE ?_
 refine Z19 (hLk _ (fun w15 Sw15 => ?_))
 simp only [Z7, Z8]
 replace M := M.sees Sw15
 replace H8_0 := H8_0.sees Sw15
 replace H14_0 := H14_0.sees Sw15
 refine lg ?_; refine lg ?_; refine lZ k10 ?_
 refine qS fun _ k16 => ?_
 refine lM ?_
 refine lCh 5 (fun Lk hLk => ?_)
 refine vCh (fun W hW => (part_c (i := 1) (H14_0.sees hW))) ?_
 refine vC (fun W => (number_x (l := (unpV ((unpV l).getD 0 [])).getD 1 []))) ?_
 refine vM ?_; refine vE ?_; refine vE ?_
 refine Z19 (hLk _ (fun w18 Sw18 => ?_))
 simp only [Z7, Z8]
 replace M := M.sees Sw18
 replace H8_0 := H8_0.sees Sw18
 replace H14_0 := H14_0.sees Sw18
 refine lg ?_; refine lg ?_; refine lZ k16 ?_
 refine qS fun _ k19 => ?_
 refine lM ?_
 refine lCh 5 (fun Lk hLk => ?_)
 refine vCh (fun W hW => (part_c (i := 2) (H14_0.sees hW))) ?_
 refine vC (fun W => (number_x (l := (unpV ((unpV l).getD 0 [])).getD 2 []))) ?_
 refine vM ?_; refine vE ?_; refine vE ?_
 refine Z19 (hLk _ (fun w21 Sw21 => ?_))
 simp only [Z7, Z8]
 replace M := M.sees Sw21
 replace H8_0 := H8_0.sees Sw21
 replace H14_0 := H14_0.sees Sw21
 refine lg ?_; refine lg ?_; refine lZ k19 ?_
 refine qS fun _ k22 => ?_
 refine lM ?_
 refine lCh 8 (fun Lk hLk => ?_)
 refine wpV_conv (d := .bool) (e := z9) (by rfl) rfl rfl (run_conv_int U940 U93 hz9.symm) ?_
 simp only [Z0, Z6]
 refine vM ?_
 refine wpV_conv (d := .bool) (e := t9) (by rfl) rfl rfl (run_conv_int U940 U93 ht9.symm) ?_
 simp only [Z0, Z6]
 refine vM ?_
 refine vCh (fun W hW => (part_c (i := 3) (H14_0.sees hW))) ?_
 refine vM ?_
 refine vCh (fun W hW => (part_c (i := 1) (H8_0.sees hW))) ?_
 refine vGk (v := .agg ([.int .i64 z9, .string (bs ((unpV ((unpV l).getD 0 [])).getD 3 [])), .int .i64 t9, .string (bs ((unpV l).getD 1 []))]).toArray) ?_
 simp only [Z0, Z6]
 refine Z19 (hLk _ (fun w24 Sw24 => ?_))
 simp only [Z7, Z8]
 replace M := M.sees Sw24
 replace H8_0 := H8_0.sees Sw24
 replace H14_0 := H14_0.sees Sw24
 refine Z36 (t := 33) (cs := [.int .i64 0, .string { data := #[] }, .int .i64 0, .string { data := #[] }]) (by rfl) (fun W => ?_) (fun g25 w26 Sw26 Hg25 Bg25 => ?_)
 ·
  go_simp
 replace M := ((M.sees Sw26).add (N := 4) (cs := [.int .i64 0, .string { data := #[] }, .int .i64 0, .string { data := #[] }]) (M.ge Hg25) (M.fresh Hg25) Bg25 rfl)
 replace H8_0 := H8_0.sees Sw26
 replace H14_0 := H14_0.sees Sw26
 clear Bg25
 simp only [Z0, Z6]
 refine sT 0 0 fun w27 M => ?_
 refine lZ k22 ?_
 refine sk fun _ _ => ?_
 refine qS fun _ k29 => ?_
 refine lL ?_
 refine cM 4 fun Lk hLk => ?_
 refine vC (v := .tuple #[.string (bs ([])), .int .i64 1]) (args := #[.agg ([.int .i64 z9, .string (bs ((unpV ((unpV l).getD 0 [])).getD 3 [])), .int .i64 t9, .string (bs ((unpV l).getD 1 []))]).toArray]) (fun W => (by have h9 := Print_no (z := z9) (r := (unpV ((unpV l).getD 0 [])).getD 3 []) (t := t9) (g := (unpV l).getD 1 []) (w := W) h0; exact h9)) ?_
 refine vM ?_; refine vE ?_; refine vE ?_
 refine hLk _ fun w31 M => ?_
 refine lg ?_; refine lg ?_; refine lZ k29 ?_
 refine qS fun _ k32 => ?_
 refine lM ?_
 refine cM 6 fun Lk hLk => ?_
 refine vB (v := .bool true) (hr := run_neq _ _ _ _) ?_
 refine vM ?_; refine vS ?_; refine vS ?_; refine vS ?_; refine vK ?_
 refine hLk _ fun w34 M => ?_
 refine lZ k32 ?_; refine cT ?_
 refine qS fun _ k35 => ?_
 refine cM 1 fun Lk hLk => ?_
 refine vGk (v := .agg ([.int .i64 0, .string { data := #[] }, .int .i64 0, .string { data := #[] }]).toArray) ?_
 simp only [Z0, Z6]
 refine hLk _ fun w37 M => ?_
 refine sT 1 0 fun w38 M => ?_
 refine lg ?_; refine lZ k35 ?_; refine rt ?_
 refine bodyPost_ret (v := .tuple #[.agg ([.int .i64 0, .string { data := #[] }, .int .i64 0, .string { data := #[] }]).toArray, .int .i64 14]) (res2 rfl (.cell (by rfl) (run_loadVar_mid _ _ _ _ ([.int .i64 0, .string { data := #[] }, .int .i64 0, .string { data := #[] }]) _ (M.r 1 0 rfl rfl) U933 rfl info33)) (.tmp (by rfl))) rfl ?_
 exact ⟨rfl, M.below⟩
set_option maxHeartbeats 4000000 in
theorem HParse_ne {l : List UInt8} {w : World} (hl : l.length ≤ 65536) (h0 : rightH (parZ l) (parR l) (parT l) (parG l) = true) (hne : texL (parZ l).toNat (parT l).toNat (parR l) (parG l) ≠ l) :
  Calls Tryd.prog 26 #[.string (bs l)] w fun e w' => e = .returned (.tuple #[.agg ([.int .i64 0, .string (bs ([])), .int .i64 0, .string (bs ([]))]).toArray, .int .i64 14]) ∧ Below w.heap.size w w' := by
 have hin : ∀ i, ((unpV l).getD i []).length ≤ 65536 := unpV_part hl
 obtain ⟨z9, hz9⟩ : ∃ z, z = parZ l := ⟨_, rfl⟩
 obtain ⟨t9, ht9⟩ : ∃ z, z = parT l := ⟨_, rfl⟩
 obtain ⟨a, b, ea, eb, ha, hb, hr, hg⟩ := rightH_parts h0
 rw [← hz9] at ea; rw [← ht9] at eb
 have hne : texL a b ((unpV ((unpV l).getD 0 [])).getD 3 []) ((unpV l).getD 1 []) ≠ l := by have h9 := hne; rw [← hz9, ← ht9, ea, eb] at h9; exact h9
 go_enter G926, T926
 have M := Mem.start w
 refine qS fun _ k1 => ?_
 refine nV 4 fun g3 w4 M => ?_
 refine lg ?_; refine lZ k1 ?_
 refine qS fun _ k5 => ?_
 refine lM ?_
 refine wpL_callE (f := 24) (args := #[.string (bs l)]) (R := fun v9 W9 => ∃ a8 c8 x8, v9 = .tuple #[.slice a8 ((unpV l).length) c8, .int .i64 x8] ∧ RowA W9 a8 (unpV l).length c8 (scells (unpV l))) (by rfl) (by rfl) rfl G924 (by kernel_rfl) (by kernel_rfl) (unpack_any (l := l) hl) (fun v9 w7 hv9 Sw7 => ?_)
 obtain ⟨a8, c8, x8, rfl, H8_0⟩ := hv9
 replace M := M.sees Sw7
 simp only [Z0, Z6]
 refine lM ?_
 refine lCh 2 (fun Lk hLk => ?_)
 refine vE ?_; refine vE ?_
 refine Z19 (hLk _ (fun w9 Sw9 => ?_))
 simp only [Z7, Z8]
 replace M := M.sees Sw9
 replace H8_0 := H8_0.sees Sw9
 refine lg ?_; refine lg ?_; refine lZ k5 ?_
 refine qS fun _ k10 => ?_
 refine lM ?_
 refine lCh 1 (fun Lk hLk => ?_)
 refine vCh (fun W hW => (part_c (i := 0) (H8_0.sees hW))) ?_
 refine Z19 (hLk _ (fun w12 Sw12 => ?_))
 simp only [Z7, Z8]
 replace M := M.sees Sw12
 replace H8_0 := H8_0.sees Sw12
 refine wpL_callE (f := 24) (args := #[.string (bs ((unpV l).getD 0 []))]) (R := fun v9 W9 => ∃ a14 c14 x14, v9 = .tuple #[.slice a14 ((unpV ((unpV l).getD 0 [])).length) c14, .int .i64 x14] ∧ RowA W9 a14 (unpV ((unpV l).getD 0 [])).length c14 (scells (unpV ((unpV l).getD 0 [])))) (by rfl) (by rfl) rfl G924 (by kernel_rfl) (by kernel_rfl) (unpack_any (l := (unpV l).getD 0 []) (hin _)) (fun v9 w13 hv9 Sw13 => ?_)
 obtain ⟨a14, c14, x14, rfl, H14_0⟩ := hv9
 replace M := M.sees Sw13
 simp only [Z0, Z6]
 replace H8_0 := H8_0.sees Sw13
 refine lM ?_
 refine lCh 2 (fun Lk hLk => ?_)
 refine vE ?_; refine vE ?_
 refine Z19 (hLk _ (fun w15 Sw15 => ?_))
 simp only [Z7, Z8]
 replace M := M.sees Sw15
 replace H8_0 := H8_0.sees Sw15
 replace H14_0 := H14_0.sees Sw15
 refine lg ?_; refine lg ?_; refine lZ k10 ?_
 refine qS fun _ k16 => ?_
 refine lM ?_
 refine lCh 5 (fun Lk hLk => ?_)
 refine vCh (fun W hW => (part_c (i := 1) (H14_0.sees hW))) ?_
 refine vC (fun W => (number_x (l := (unpV ((unpV l).getD 0 [])).getD 1 []))) ?_
 refine vM ?_; refine vE ?_; refine vE ?_
 refine Z19 (hLk _ (fun w18 Sw18 => ?_))
 simp only [Z7, Z8]
 replace M := M.sees Sw18
 replace H8_0 := H8_0.sees Sw18
 replace H14_0 := H14_0.sees Sw18
 refine lg ?_; refine lg ?_; refine lZ k16 ?_
 refine qS fun _ k19 => ?_
 refine lM ?_
 refine lCh 5 (fun Lk hLk => ?_)
 refine vCh (fun W hW => (part_c (i := 2) (H14_0.sees hW))) ?_
 refine vC (fun W => (number_x (l := (unpV ((unpV l).getD 0 [])).getD 2 []))) ?_
 refine vM ?_; refine vE ?_; refine vE ?_
 refine Z19 (hLk _ (fun w21 Sw21 => ?_))
 simp only [Z7, Z8]
 replace M := M.sees Sw21
 replace H8_0 := H8_0.sees Sw21
 replace H14_0 := H14_0.sees Sw21
 refine lg ?_; refine lg ?_; refine lZ k19 ?_
 refine qS fun _ k22 => ?_
 refine lM ?_
 refine lCh 8 (fun Lk hLk => ?_)
 refine wpV_conv (d := .bool) (e := z9) (by rfl) rfl rfl (run_conv_int U940 U93 hz9.symm) ?_
 simp only [Z0, Z6]
 refine vM ?_
 refine wpV_conv (d := .bool) (e := t9) (by rfl) rfl rfl (run_conv_int U940 U93 ht9.symm) ?_
 simp only [Z0, Z6]
 refine vM ?_
 refine vCh (fun W hW => (part_c (i := 3) (H14_0.sees hW))) ?_
 refine vM ?_
 refine vCh (fun W hW => (part_c (i := 1) (H8_0.sees hW))) ?_
 refine vGk (v := .agg ([.int .i64 z9, .string (bs ((unpV ((unpV l).getD 0 [])).getD 3 [])), .int .i64 t9, .string (bs ((unpV l).getD 1 []))]).toArray) ?_
 simp only [Z0, Z6]
 refine Z19 (hLk _ (fun w24 Sw24 => ?_))
 simp only [Z7, Z8]
 replace M := M.sees Sw24
 replace H8_0 := H8_0.sees Sw24
 replace H14_0 := H14_0.sees Sw24
 refine Z36 (t := 33) (cs := [.int .i64 0, .string { data := #[] }, .int .i64 0, .string { data := #[] }]) (by rfl) (fun W => ?_) (fun g25 w26 Sw26 Hg25 Bg25 => ?_)
 ·
  go_simp
 replace M := ((M.sees Sw26).add (N := 4) (cs := [.int .i64 0, .string { data := #[] }, .int .i64 0, .string { data := #[] }]) (M.ge Hg25) (M.fresh Hg25) Bg25 rfl)
 replace H8_0 := H8_0.sees Sw26
 replace H14_0 := H14_0.sees Sw26
 clear Bg25
 simp only [Z0, Z6]
 refine sT 0 0 fun w27 M => ?_
 refine lZ k22 ?_
 refine sk fun _ _ => ?_
 refine qS fun _ k29 => ?_
 refine lL ?_
 refine cM 4 fun Lk hLk => ?_
 refine vC (v := .tuple #[.string (bs (texL a b ((unpV ((unpV l).getD 0 [])).getD 3 []) ((unpV l).getD 1 []))), .int .i64 0]) (args := #[.agg ([.int .i64 z9, .string (bs ((unpV ((unpV l).getD 0 [])).getD 3 [])), .int .i64 t9, .string (bs ((unpV l).getD 1 []))]).toArray]) (fun W => (by have h9 := Print_ok (a := a) (b := b) (r := (unpV ((unpV l).getD 0 [])).getD 3 []) (g := (unpV l).getD 1 []) (w := W) ha hb hr hg; rw [← ea, ← eb] at h9; exact h9)) ?_
 refine vM ?_; refine vE ?_; refine vE ?_
 refine hLk _ fun w31 M => ?_
 refine lg ?_; refine lg ?_; refine lZ k29 ?_
 refine qS fun _ k32 => ?_
 refine lM ?_
 refine cM 6 fun Lk hLk => ?_
 refine vB (v := .bool false) (hr := run_neq _ _ _ _) ?_
 refine vM ?_; refine vM ?_; refine vM ?_
 refine wpV_binS (v := .bool true) (by rfl) rfl rfl rfl (fun W => (run_neq_bs _ _ _ W).trans (by rw [(decide_eq_true hne)])) ?_
 simp only [Z0, Z6]
 refine vK ?_
 refine hLk _ fun w34 M => ?_
 refine lZ k32 ?_; refine cT ?_
 refine qS fun _ k35 => ?_
 refine cM 1 fun Lk hLk => ?_
 refine vGk (v := .agg ([.int .i64 0, .string { data := #[] }, .int .i64 0, .string { data := #[] }]).toArray) ?_
 simp only [Z0, Z6]
 refine hLk _ fun w37 M => ?_
 refine sT 1 0 fun w38 M => ?_
 refine lg ?_; refine lZ k35 ?_; refine rt ?_
 refine bodyPost_ret (v := .tuple #[.agg ([.int .i64 0, .string { data := #[] }, .int .i64 0, .string { data := #[] }]).toArray, .int .i64 14]) (res2 rfl (.cell (by rfl) (run_loadVar_mid _ _ _ _ ([.int .i64 0, .string { data := #[] }, .int .i64 0, .string { data := #[] }]) _ (M.r 1 0 rfl rfl) U933 rfl info33)) (.tmp (by rfl))) rfl ?_
 exact ⟨rfl, M.below⟩
set_option maxHeartbeats 2000000 in
theorem rnumber_c {l : List UInt8} {w : World} (hl : l.length ≤ 8) :
  Calls Tryd.prog 65 #[.string (bs l)] w fun e w' => e = .returned (.int .u64 (numN l : Nat)) ∧ Below w.heap.size w w' := by
 go_enter Tryd.func65, Tryd.ntmps65
 have M := Mem.start w
 refine qS fun _ k1 => ?_
 refine lg ?_; refine lZ k1 ?_
 refine qS fun _ k3 => ?_
 refine lg ?_; refine lZ k3 ?_
 refine sk fun _ k5 => ?_
 refine qS fun _ k6 => ?_
 refine lg ?_; refine lZ k6 ?_; refine wp_block ?_
 refine wp_loop_ghost (fun n9 a9 W9 => ∃ (i : Nat) (u8_5 u8_6 u8_7 u8_8 u8_9 u8_10 u8_11 u8_12 u8_13 u8_14 u8_15 u8_16 u8_17 : Value), n9 = 2 * (l.length - i) ∧ a9 = { tmps := #[.string (bs l), Z9, .int .u64 0, .int .u64 (numN (l.take i) : Nat), .int .i64 i, u8_5, u8_6, u8_7, u8_8, u8_9, u8_10, u8_11, u8_12, u8_13, u8_14, u8_15, u8_16, u8_17, Z9], defers := [] } ∧ Mem [] w W9 [] ∧ (i ≤ l.length)) (2 * (l.length - (0))) ?_ (fun n9 a9 W9 hI => ?_)
 ·
  exact ⟨0, _, _, _, _, _, _, _, _, _, _, _, _, _, rfl, rfl, M, (Nat.zero_le _)⟩
 clear M
 obtain ⟨i, u8_5, u8_6, u8_7, u8_8, u8_9, u8_10, u8_11, u8_12, u8_13, u8_14, u8_15, u8_16, u8_17, rfl, rfl, M, hi4⟩ := hI
 obtain ⟨w9, rfl⟩ : ∃ W8, W8 = W9 := ⟨_, rfl⟩
 refine sk fun _ k10 => ?_
 refine qS fun _ k11 => ?_
 refine lM ?_; refine lM ?_
 refine cM 2 fun Lk hLk => ?_
 refine wpV_lenS (by rfl) rfl rfl rfl U99 ?_
 simp only [Z0, Z6]
 refine vB (v := .bool (decide (i < l.length))) (hr := run_lssN i l.length _ _) ?_
 refine hLk _ fun w13 M => ?_
 refine lZ k11 ?_
 cases hc14 : (decide (i < l.length))
 ·
  have ei : i = l.length := by have := of_decide_eq_false hc14; omega
  subst ei
  refine cF ?_; refine eZ k5 ?_
  refine qS fun _ k15 => ?_
  refine lM ?_; refine lg ?_; refine lZ k15 ?_; refine rt1 ?_
  have BE := M.below
  exact ⟨by (rw [List.take_length]; try rfl), BE⟩
 have hi : i < l.length := of_decide_eq_true hc14
 have hb9 := byteN_lt l i
 have hN9 : numN (l.take i) < 72057594037927936 := Z1 (numN_lt _) (by rw [List.length_take]; exact Z3 (Nat.pow_le_pow_right (by decide) (show min i l.length ≤ 7 by omega)) (by decide))
 refine cT ?_; refine sZ k10 ?_
 refine sk fun _ k17 => ?_
 refine wp_block ?_; refine Z13 ?_; refine lM ?_
 refine cM 6 fun Lk hLk => ?_
 refine vB (v := .int .u64 (256 * numN (l.take i) : Nat)) (hr := run_mul (by rw [wrap_u64]; omega)) ?_
 refine vM ?_; refine vM ?_
 refine wpV_indexb (n := i) (by omega) (by rfl) rfl rfl rfl U99 ?_
 simp only [Z0, Z6]
 refine wpV_conv (d := .bool) (e := ((byteN l i : Nat) : Int)) (by rfl) rfl rfl (run_conv_int Tryd.underlying5 U940 (by have := (byteN_lt l i); rw [wrap_u64]; omega)) ?_
 simp only [Z0, Z6]
 refine vB (v := .int .u64 (numN (l.take (i + 1)) : Nat)) (hr := run_add (by rw [wrap_u64, numN_take l hi]; omega)) ?_
 refine hLk _ fun w19 M => ?_
 refine lg ?_; refine lZ k17 ?_; refine Z13 ?_; refine lM ?_
 refine cM 1 fun Lk hLk => ?_
 refine vB (v := .int .i64 (i + 1 : Nat)) (hr := run_add (by simp only [IntKind.wrap_i64]; omega)) ?_
 refine hLk _ fun w21 M => ?_
 refine lg ?_
 refine Z14 (Z15 ?_)
 refine Exists.intro _ ⟨?_, (i + 1), _, _, _, _, _, _, _, _, _, _, _, _, _, rfl, rfl, M, (by omega)⟩
 omega
set_option maxHeartbeats 2000000 in
theorem rtext_c {a b : Nat} {r g : List UInt8} {w : World} (ha : a ≤ 4096) (hb : b ≤ 1099511627776) (hr : r.length = 32) (hg : g.length = 64) :
  Calls Tryd.prog 28 #[.agg ([.int .i64 a, .string (bs r), .int .i64 b, .string (bs g)]).toArray] w fun e w' => e = .returned (.string (bs (texL a b r g))) ∧ Below w.heap.size w w' := by
 go_enter Tryd.func28, Tryd.ntmps28
 have M := Mem.start w
 refine qS fun _ k1 => ?_
 refine nVs (segs := [(0, [.int .i64 a]), (1, [.string (bs r)]), (2, [.int .i64 b]), (3, [.string (bs g)])]) 4 fun g3 w4 M => ?_
 refine lg ?_; refine lZ k1 ?_
 refine sk fun _ k5 => ?_
 refine wp_region_addsF 9 [8] [4] [ValRel (.agg ([.int .i64 a] ++ [.string (bs r)] ++ [.int .i64 b] ++ [.string (bs g)] : List Value).toArray), ValRel (.string (bs (sgnL a b r))), ValRel (.pointer (some ⟨g3, 3, none⟩)), ValRel (.string (bs g)), BoxRel w4 (fun gA => .slice (some ⟨gA, 0, none⟩) 2 2) 2 [(0, [.string (bs (sgnL a b r)), .string (bs g)])], ValRel (.tuple #[.string (bs (texL a b r g)), .int .i64 0]), ValRel (.tuple #[.string (bs (texL a b r g)), .int .i64 0]), ValRel (.string (bs (texL a b r g))), ValRel (.int .i64 0)] [[], [0], [], [2], [1, 3], [4], [5], [6], [6]] (fun vs => { tmps := #[.agg ([.int .i64 a, .string (bs r), .int .i64 b, .string (bs g)]).toArray, .pointer (some ⟨g3, 0, none⟩), .string (bs ([])), Z9, Z9, vs 6, vs 0, vs 1, vs 2, vs 3, vs 4, vs 5, vs 7, vs 8, Z9], defers := [] }) (by kernel_rfl) (by kernel_rfl) (by kernel_rfl) (by kernel_rfl) (.cons keep_val (.cons keep_val (.cons keep_val (.cons keep_val (.cons keep_box (.cons keep_val (.cons keep_val (.cons keep_val (.cons keep_val AllKeep.nil))))))))) (.free free_val (.free free_val (.free free_val (.free free_val (.free free_box (.free free_val (.free free_val (.free free_val (.free free_val AllLoc.nil))))))))) (.cons own_box AllOwn.nil) (by kernel_rfl) ?_ ?_
 ·
  simp only [Z7]
  refine RulesL.cons (fun vs => { tmps := #[.agg ([.int .i64 a, .string (bs r), .int .i64 b, .string (bs g)]).toArray, .pointer (some ⟨g3, 0, none⟩), .string (bs ([])), Z9, Z9, Z9, Z9, Z9, Z9, Z9, Z9, Z9, Z9, Z9, Z9], defers := [] }) (by kernel_rfl) ?_ ?_
  ·
   intro vs gs W8 SW8 D K9 k9
   replace M := M.sees SW8
   dsimp only at k9
   try dsimp only
   refine lCh 1 (fun Lk hLk => ?_)
   refine vP (pvLf (cs := [.int .i64 a] ++ [.string (bs r)] ++ [.int .i64 b] ++ [.string (bs g)]) (range_join (range_join (range_join (M.r 0 0 rfl rfl) (M.r 0 1 rfl rfl) (by simp [flen])) (M.r 0 2 rfl rfl) (by simp [flen])) (M.r 0 3 rfl rfl) (by simp [flen])) (M.lt 0 rfl)) ?_
   refine Z19 (hLk _ (fun w9 Sw9 => ?_))
   simp only [Z7, Z8]
   replace M := M.sees Sw9
   refine Z14 (Z22 ?_)
   have h8 := k9 (.agg ([.int .i64 a] ++ [.string (bs r)] ++ [.int .i64 b] ++ [.string (bs g)] : List Value).toArray)
   have h9 := h8 0 _ Sw9 rfl (fun h => absurd h (by decide))
   simp only [Z0, Z6] at h9
   exact h9
  refine RulesL.cons (fun vs => { tmps := #[.agg ([.int .i64 a, .string (bs r), .int .i64 b, .string (bs g)]).toArray, .pointer (some ⟨g3, 0, none⟩), .string (bs ([])), Z9, Z9, Z9, vs 0, Z9, Z9, Z9, Z9, Z9, Z9, Z9, Z9], defers := [] }) (by kernel_rfl) ?_ ?_
  ·
   intro vs gs W10 SW10 D K9 k9
   replace M := M.sees SW10
   obtain ⟨D0, _⟩ := D
   have e0 : vs 0 = .agg ([.int .i64 a] ++ [.string (bs r)] ++ [.int .i64 b] ++ [.string (bs g)] : List Value).toArray := D0
   dsimp only at k9
   try dsimp only
   rw [e0] at k9 ⊢
   refine lCh 1 (fun Lk hLk => ?_)
   refine vC (v := .string (bs (sgnL a b r))) (args := #[.agg ([.int .i64 a] ++ [.string (bs r)] ++ [.int .i64 b] ++ [.string (bs g)] : List Value).toArray]) (fun W => (by have h9 := rsigned_c (a := a) (b := b) (r := r) (g := g) (w := W) ha hb hr; exact h9)) ?_
   refine Z19 (hLk _ (fun w11 Sw11 => ?_))
   simp only [Z7, Z8]
   replace M := M.sees Sw11
   refine Z14 (Z22 ?_)
   have h8 := k9 (.string (bs (sgnL a b r)))
   have h9 := h8 0 _ Sw11 rfl (fun h => absurd h (by decide))
   simp only [Z0, Z6] at h9
   exact h9
  refine RulesL.cons (fun vs => { tmps := #[.agg ([.int .i64 a, .string (bs r), .int .i64 b, .string (bs g)]).toArray, .pointer (some ⟨g3, 0, none⟩), .string (bs ([])), Z9, Z9, Z9, Z9, Z9, Z9, Z9, Z9, Z9, Z9, Z9, Z9], defers := [] }) (by kernel_rfl) ?_ ?_
  ·
   intro vs gs W12 SW12 D K9 k9
   replace M := M.sees SW12
   dsimp only at k9
   try dsimp only
   refine lCh 1 (fun Lk hLk => ?_)
   refine vF ?_
   refine Z19 (hLk _ (fun w13 Sw13 => ?_))
   simp only [Z7, Z8]
   replace M := M.sees Sw13
   refine Z14 (Z22 ?_)
   have h8 := k9 (.pointer (some ⟨g3, 3, none⟩))
   have h9 := h8 0 _ Sw13 rfl (fun h => absurd h (by decide))
   simp only [Z0, Z6] at h9
   exact h9
  refine RulesL.cons (fun vs => { tmps := #[.agg ([.int .i64 a, .string (bs r), .int .i64 b, .string (bs g)]).toArray, .pointer (some ⟨g3, 0, none⟩), .string (bs ([])), Z9, Z9, Z9, Z9, Z9, vs 2, Z9, Z9, Z9, Z9, Z9, Z9], defers := [] }) (by kernel_rfl) ?_ ?_
  ·
   intro vs gs W14 SW14 D K9 k9
   replace M := M.sees SW14
   obtain ⟨D2, _⟩ := D
   have e2 : vs 2 = .pointer (some ⟨g3, 3, none⟩) := D2
   dsimp only at k9
   try dsimp only
   rw [e2] at k9 ⊢
   refine lCh 1 (fun Lk hLk => ?_)
   refine vc ?_
   refine Z19 (hLk _ (fun w15 Sw15 => ?_))
   simp only [Z7, Z8]
   replace M := M.sees Sw15
   refine Z14 (Z22 ?_)
   have h8 := k9 (.string (bs g))
   have h9 := h8 0 _ Sw15 rfl (fun h => absurd h (by decide))
   simp only [Z0, Z6] at h9
   exact h9
  refine RulesL.cons (fun vs => { tmps := #[.agg ([.int .i64 a, .string (bs r), .int .i64 b, .string (bs g)]).toArray, .pointer (some ⟨g3, 0, none⟩), .string (bs ([])), Z9, Z9, Z9, Z9, vs 1, Z9, vs 3, Z9, Z9, Z9, Z9, Z9], defers := [] }) (by kernel_rfl) ?_ ?_
  ·
   intro vs gs W16 SW16 D K9 k9
   replace M := M.sees SW16
   have Rg3_0 := M.r 0 0 rfl rfl
   have Rg3_1 := M.r 0 1 rfl rfl
   have Rg3_2 := M.r 0 2 rfl rfl
   have Rg3_3 := M.r 0 3 rfl rfl
   have Lg3 := M.lt 0 rfl
   have BB := M.below
   replace M := Mem.start W16
   obtain ⟨D1, D3, _⟩ := D
   have e1 : vs 1 = .string (bs (sgnL a b r)) := D1
   have e3 : vs 3 = .string (bs g) := D3
   dsimp only at k9
   try dsimp only
   rw [e1, e3] at k9 ⊢
   refine wpL_rowN (vs := [.string (bs (sgnL a b r)), .string (bs g)]) (z := .string { data := #[] }) (bytes := 16) (by rfl) (by rfl) Tryd.underlying37 (by kernel_rfl) (by decide) (by kernel_rfl) (fun g17 w18 Sw18 Hg17 Bg17 => ?_)
   replace M := ((M.sees Sw18).add (N := 2) (cs := [.string (bs (sgnL a b r)), .string (bs g)]) (M.ge Hg17) (M.fresh Hg17) Bg17 rfl)
   clear Bg17
   simp only [Z0, Z6]
   refine Z14 (Z22 ?_)
   have h8 := k9 (.slice (some ⟨g17, 0, none⟩) 2 2)
   have h9 := h8 g17 _ M.seesAll ⟨rfl, (M.ok _ (.head _)).up SW16⟩ (fun _ => (M.ok _ (.head _)).ge)
   simp only [Z0, Z6] at h9
   exact h9
  refine RulesL.cons (fun vs => { tmps := #[.agg ([.int .i64 a, .string (bs r), .int .i64 b, .string (bs g)]).toArray, .pointer (some ⟨g3, 0, none⟩), .string (bs ([])), Z9, Z9, Z9, Z9, Z9, Z9, Z9, vs 4, Z9, Z9, Z9, Z9], defers := [] }) (by kernel_rfl) ?_ ?_
  ·
   intro vs gs W19 SW19 D K9 k9
   replace M := M.sees SW19
   have Rg3_0 := M.r 0 0 rfl rfl
   have Rg3_1 := M.r 0 1 rfl rfl
   have Rg3_2 := M.r 0 2 rfl rfl
   have Rg3_3 := M.r 0 3 rfl rfl
   have Lg3 := M.lt 0 rfl
   have BB := M.below
   replace M := Mem.start W19
   obtain ⟨D4, _⟩ := D
   obtain ⟨e4, Og20⟩ := D4
   generalize gs 4 = g20 at *
   replace e4 : vs 4 = .slice (some ⟨g20, 0, none⟩) 2 2 := e4
   have Rg20_0 := Og20.range (0, [.string (bs (sgnL a b r)), .string (bs g)]) (by simp only [List.mem_cons, true_or, or_true])
   have Lg20 := Og20.lt
   dsimp only at k9
   try dsimp only
   rw [e4] at k9 ⊢
   refine cM 1 fun Lk hLk => ?_
   refine vCh (v := .tuple #[.string (bs (texL a b r g)), .int .i64 0]) (args := #[.slice (some ⟨g20, 0, none⟩) 2 2]) (fun W hW => (by have h9 := rpack_c (ps := [sgnL a b r, g]) (w := W) (by simp) (by rw [packN_tex a b hr hg]; decide) (Nat.le_refl _) ((M.sees hW).oldL Lg20) ((M.sees hW).oldR Rg20_0 Lg20); exact h9)) ?_
   refine hLk _ fun w21 M => ?_
   refine Z14 (Z22 ?_)
   have h8 := k9 (.tuple #[.string (bs (texL a b r g)), .int .i64 0])
   have h9 := h8 0 _ M.seesAll rfl (fun h => absurd h (by decide))
   simp only [Z0, Z6] at h9
   exact h9
  refine RulesL.cons (fun vs => { tmps := #[.agg ([.int .i64 a, .string (bs r), .int .i64 b, .string (bs g)]).toArray, .pointer (some ⟨g3, 0, none⟩), .string (bs ([])), Z9, Z9, Z9, Z9, Z9, Z9, Z9, Z9, vs 5, Z9, Z9, Z9], defers := [] }) (by kernel_rfl) ?_ ?_
  ·
   intro vs gs W22 SW22 D K9 k9
   replace M := M.sees SW22
   obtain ⟨D5, _⟩ := D
   have e5 : vs 5 = .tuple #[.string (bs (texL a b r g)), .int .i64 0] := D5
   dsimp only at k9
   try dsimp only
   rw [e5] at k9 ⊢
   refine lM ?_
   refine Z14 (Z22 ?_)
   have h8 := k9 (.tuple #[.string (bs (texL a b r g)), .int .i64 0])
   have h9 := h8 0 _ (sees_refl _) rfl (fun h => absurd h (by decide))
   simp only [Z0, Z6] at h9
   exact h9
  refine RulesL.cons (fun vs => { tmps := #[.agg ([.int .i64 a, .string (bs r), .int .i64 b, .string (bs g)]).toArray, .pointer (some ⟨g3, 0, none⟩), .string (bs ([])), Z9, Z9, vs 6, Z9, Z9, Z9, Z9, Z9, Z9, Z9, Z9, Z9], defers := [] }) (by kernel_rfl) ?_ ?_
  ·
   intro vs gs W23 SW23 D K9 k9
   replace M := M.sees SW23
   obtain ⟨D6, _⟩ := D
   have e6 : vs 6 = .tuple #[.string (bs (texL a b r g)), .int .i64 0] := D6
   dsimp only at k9
   try dsimp only
   rw [e6] at k9 ⊢
   refine lCh 1 (fun Lk hLk => ?_)
   refine vE ?_
   refine Z19 (hLk _ (fun w24 Sw24 => ?_))
   simp only [Z7, Z8]
   replace M := M.sees Sw24
   refine Z14 (Z22 ?_)
   have h8 := k9 (.string (bs (texL a b r g)))
   have h9 := h8 0 _ Sw24 rfl (fun h => absurd h (by decide))
   simp only [Z0, Z6] at h9
   exact h9
  refine RulesL.cons (fun vs => { tmps := #[.agg ([.int .i64 a, .string (bs r), .int .i64 b, .string (bs g)]).toArray, .pointer (some ⟨g3, 0, none⟩), .string (bs ([])), Z9, Z9, vs 6, Z9, Z9, Z9, Z9, Z9, Z9, Z9, Z9, Z9], defers := [] }) (by kernel_rfl) ?_ ?_
  ·
   intro vs gs W25 SW25 D K9 k9
   replace M := M.sees SW25
   obtain ⟨D6, _⟩ := D
   have e6 : vs 6 = .tuple #[.string (bs (texL a b r g)), .int .i64 0] := D6
   dsimp only at k9
   try dsimp only
   rw [e6] at k9 ⊢
   refine lCh 1 (fun Lk hLk => ?_)
   refine vE ?_
   refine Z19 (hLk _ (fun w26 Sw26 => ?_))
   simp only [Z7, Z8]
   replace M := M.sees Sw26
   refine Z14 (Z22 ?_)
   have h8 := k9 (.int .i64 0)
   have h9 := h8 0 _ Sw26 rfl (fun h => absurd h (by decide))
   simp only [Z0, Z6] at h9
   exact h9
  exact RulesL.nil
 intro vs gs W27 SW27 D A9
 obtain ⟨D0, D1, D2, D3, D4, D5, D6, D7, D8, _⟩ := (show DepRel _ vs gs W27 [0, 1, 2, 3, 4, 5, 6, 7, 8] from D)
 clear A9 D
 have e0 : vs 0 = .agg ([.int .i64 a] ++ [.string (bs r)] ++ [.int .i64 b] ++ [.string (bs g)] : List Value).toArray := D0
 have e1 : vs 1 = .string (bs (sgnL a b r)) := D1
 have e2 : vs 2 = .pointer (some ⟨g3, 3, none⟩) := D2
 have e3 : vs 3 = .string (bs g) := D3
 obtain ⟨e4, Og28⟩ := D4
 generalize gs 4 = g28 at *
 replace e4 : vs 4 = .slice (some ⟨g28, 0, none⟩) 2 2 := e4
 have e5 : vs 5 = .tuple #[.string (bs (texL a b r g)), .int .i64 0] := D5
 have e6 : vs 6 = .tuple #[.string (bs (texL a b r g)), .int .i64 0] := D6
 have e7 : vs 7 = .string (bs (texL a b r g)) := D7
 have e8 : vs 8 = .int .i64 0 := D8
 replace M := M.addOks SW27 [⟨g28, 2, [(0, [.string (bs (sgnL a b r)), .string (bs g)])]⟩] (List.forall_mem_cons.2 ⟨Og28, (fun _ h => nomatch h)⟩) (.cons (fun _ h => nomatch h) .nil)
 simp only [List.cons_append, List.nil_append] at M
 try dsimp only
 simp only [e0, e1, e2, e3, e4, e5, e6, e7, e8, Z8]
 refine lg ?_; refine lg ?_; refine lZ k5 ?_
 refine qS fun _ k29 => ?_
 refine lM ?_; refine lg ?_; refine lZ k29 ?_; refine rt1 ?_
 exact ⟨rfl, M.below⟩
set_option maxHeartbeats 4000000 in
theorem rparse_len {l : List UInt8} {w : World} (h140 : l.length ≠ 140) :
  Calls Tryd.prog 29 #[.string (bs l)] w fun e w' => e = .returned (.tuple #[.agg ([.int .i64 0, .string (bs ([])), .int .i64 0, .string (bs ([]))]).toArray, .bool false]) ∧ Below w.heap.size w w' := by
 go_enter G929, T929
 have M := Mem.start w
 refine qS fun _ k1 => ?_
 refine nV 4 fun g3 w4 M => ?_
 refine lg ?_; refine lZ k1 ?_
 refine sk fun _ _ => ?_
 refine qS fun _ k6 => ?_
 refine lM ?_
 refine cM 2 fun Lk hLk => ?_
 refine wpV_lenS (by rfl) rfl rfl rfl U99 ?_
 simp only [Z0, Z6]
 refine vB (v := .bool true) (hr := fun W => (run_neqN l.length 140 _ _ W).trans (by rw [(decide_eq_true h140)])) ?_
 refine hLk _ fun w8 M => ?_
 refine lZ k6 ?_; refine cT ?_
 refine qS fun _ k9 => ?_
 refine cM 1 fun Lk hLk => ?_
 refine vGk (v := .agg ([.int .i64 0, .string { data := #[] }, .int .i64 0, .string { data := #[] }]).toArray) ?_
 simp only [Z0, Z6]
 refine hLk _ fun w11 M => ?_
 refine sT 0 0 fun w12 M => ?_
 refine lg ?_; refine lZ k9 ?_; refine rt ?_
 refine bodyPost_ret (v := .tuple #[.agg ([.int .i64 0, .string { data := #[] }, .int .i64 0, .string { data := #[] }]).toArray, .bool false]) (res2 rfl (.cell (by rfl) (run_loadVar_mid _ _ _ _ ([.int .i64 0, .string { data := #[] }, .int .i64 0, .string { data := #[] }]) _ (M.r 0 0 rfl rfl) U933 rfl info33)) (.tmp (by rfl))) rfl ?_
 exact ⟨rfl, M.below⟩
set_option maxHeartbeats 4000000 in
theorem rparse_big {l : List UInt8} {w : World} (h140 : l.length = 140) (hbig : 4096 < plN l ∨ 1099511627776 < plT l) :
  Calls Tryd.prog 29 #[.string (bs l)] w fun e w' => e = .returned (.tuple #[.agg ([.int .i64 0, .string (bs ([])), .int .i64 0, .string (bs ([]))]).toArray, .bool false]) ∧ Below w.heap.size w w' := by
 go_enter G929, T929
 have M := Mem.start w
 refine qS fun _ k1 => ?_
 refine nV 4 fun g3 w4 M => ?_
 refine lg ?_; refine lZ k1 ?_
 refine sk fun _ k5 => ?_
 refine qS fun _ k6 => ?_
 refine lM ?_
 refine cM 2 fun Lk hLk => ?_
 refine wpV_lenS (by rfl) rfl rfl rfl U99 ?_
 simp only [Z0, Z6]
 refine vB (v := .bool false) (hr := fun W => (run_neqN l.length 140 _ _ W).trans (by rw [(decide_eq_false (fun h => h h140))])) ?_
 refine hLk _ fun w8 M => ?_
 refine lZ k6 ?_; refine cF ?_; refine sZ k5 ?_
 refine sk fun _ k9 => ?_
 refine rH 6 [] fun Lk hLk => ?_
 refine vM ?_
 refine wpV_subS (l := l) (lo := 40) (hi := 72) (by rfl) rfl rfl rfl rfl U99 (by omega) (by omega) ?_
 simp only [Z0, Z6]
 refine vM ?_
 refine wpV_drop (l := l) (lo := 76) (by rfl) rfl rfl rfl U99 (by omega) ?_
 simp only [Z0, Z6]
 refine vGk (v := .agg ([.int .i64 0, .string (bs ((l.take 72).drop 40)), .int .i64 0, .string (bs (l.drop 76))]).toArray) ?_
 simp only [Z0, Z6]
 refine vW ?_; refine hLk _ ?_; refine nA ?_
 refine n1 4 fun g11 w12 M => ?_
 refine sT 0 0 fun w13 M => ?_
 refine lZ k9 ?_
 refine qS fun _ k14 => ?_
 refine lM ?_
 refine cM 2 fun Lk hLk => ?_
 refine wpV_subS (l := l) (lo := 16) (hi := 24) (by rfl) rfl rfl rfl rfl U99 (by omega) (by omega) ?_
 simp only [Z0, Z6]
 refine vC (v := .int .u64 (plN l : Nat)) (args := #[.string (bs ((l.take 24).drop 16))]) (fun W => (by have h9 := rnumber_c (l := (l.take 24).drop 16) (w := W) (by simp only [List.length_drop, List.length_take]; omega); exact h9)) ?_
 refine hLk _ fun w16 M => ?_
 refine lg ?_; refine lZ k14 ?_
 refine qS fun _ k17 => ?_
 refine lM ?_
 refine cM 2 fun Lk hLk => ?_
 refine wpV_subS (l := l) (lo := 28) (hi := 36) (by rfl) rfl rfl rfl rfl U99 (by omega) (by omega) ?_
 simp only [Z0, Z6]
 refine vC (v := .int .u64 (plT l : Nat)) (args := #[.string (bs ((l.take 36).drop 28))]) (fun W => (by have h9 := rnumber_c (l := (l.take 36).drop 28) (w := W) (by simp only [List.length_drop, List.length_take]; omega); exact h9)) ?_
 refine hLk _ fun w19 M => ?_
 refine lg ?_; refine lZ k17 ?_
 refine sk fun _ _ => ?_
 refine sk fun _ k21 => ?_
 cases hg22 : (decide (4096 < plN l))
 ·
  have hq9 : ¬ 4096 < plN l := of_decide_eq_false hg22
  refine Z13 ?_; refine lM ?_
  refine cM 5 fun Lk hLk => ?_
  refine vB (v := .bool false) (hr := fun W => (run_gtrN (plN l) 4096 _ _ W).trans (by rw [hg22])) ?_
  refine vM ?_; refine vM ?_
  refine vB (v := .bool true) (hr := fun W => (run_gtrN (plT l) 1099511627776 _ _ W).trans (by rw [(decide_eq_true (by omega))])) ?_
  refine vK ?_
  refine hLk _ fun w24 M => ?_
  refine lZ k21 ?_; refine cT ?_
  refine qS fun _ k25 => ?_
  refine cM 1 fun Lk hLk => ?_
  refine vGk (v := .agg ([.int .i64 0, .string { data := #[] }, .int .i64 0, .string { data := #[] }]).toArray) ?_
  simp only [Z0, Z6]
  refine hLk _ fun w27 M => ?_
  refine sT 1 0 fun w28 M => ?_
  refine lg ?_; refine lZ k25 ?_; refine rt ?_
  refine bodyPost_ret (v := .tuple #[.agg ([.int .i64 0, .string { data := #[] }, .int .i64 0, .string { data := #[] }]).toArray, .bool false]) (res2 rfl (.cell (by rfl) (run_loadVar_mid _ _ _ _ ([.int .i64 0, .string { data := #[] }, .int .i64 0, .string { data := #[] }]) _ (M.r 1 0 rfl rfl) U933 rfl info33)) (.tmp (by rfl))) rfl ?_
  exact ⟨rfl, M.below⟩
 have hq9 : 4096 < plN l := of_decide_eq_true hg22
 refine Z13 ?_; refine lM ?_
 refine cM 5 fun Lk hLk => ?_
 refine vB (v := .bool true) (hr := fun W => (run_gtrN (plN l) 4096 _ _ W).trans (by rw [hg22])) ?_
 refine vM ?_; refine vS ?_; refine vS ?_; refine vK ?_
 refine hLk _ fun w30 M => ?_
 refine lZ k21 ?_; refine cT ?_
 refine qS fun _ k31 => ?_
 refine cM 1 fun Lk hLk => ?_
 refine vGk (v := .agg ([.int .i64 0, .string { data := #[] }, .int .i64 0, .string { data := #[] }]).toArray) ?_
 simp only [Z0, Z6]
 refine hLk _ fun w33 M => ?_
 refine sT 1 0 fun w34 M => ?_
 refine lg ?_; refine lZ k31 ?_; refine rt ?_
 refine bodyPost_ret (v := .tuple #[.agg ([.int .i64 0, .string { data := #[] }, .int .i64 0, .string { data := #[] }]).toArray, .bool false]) (res2 rfl (.cell (by rfl) (run_loadVar_mid _ _ _ _ ([.int .i64 0, .string { data := #[] }, .int .i64 0, .string { data := #[] }]) _ (M.r 1 0 rfl rfl) U933 rfl info33)) (.tmp (by rfl))) rfl ?_
 exact ⟨rfl, M.below⟩
set_option maxHeartbeats 4000000 in
theorem rparse_go {l : List UInt8} {w : World} (h140 : l.length = 140) (h1 : plN l ≤ 4096) (h2 : plT l ≤ 1099511627776) :
  Calls Tryd.prog 29 #[.string (bs l)] w fun e w' => e = .returned (.tuple #[.agg ([.int .i64 (plN l : Nat), .string (bs (plR l)), .int .i64 (plT l : Nat), .string (bs (plG l))]).toArray, .bool (decide (texL (plN l) (plT l) (plR l) (plG l) = l))]) ∧ Below w.heap.size w w' := by
 obtain ⟨hr, hg⟩ := pl_lens h140
 go_enter G929, T929
 have M := Mem.start w
 refine qS fun _ k1 => ?_
 refine nV 4 fun g3 w4 M => ?_
 refine lg ?_; refine lZ k1 ?_
 refine sk fun _ k5 => ?_
 refine qS fun _ k6 => ?_
 refine lM ?_
 refine cM 2 fun Lk hLk => ?_
 refine wpV_lenS (by rfl) rfl rfl rfl U99 ?_
 simp only [Z0, Z6]
 refine vB (v := .bool false) (hr := fun W => (run_neqN l.length 140 _ _ W).trans (by rw [(decide_eq_false (fun h => h h140))])) ?_
 refine hLk _ fun w8 M => ?_
 refine lZ k6 ?_; refine cF ?_; refine sZ k5 ?_
 refine sk fun _ k9 => ?_
 refine rH 6 [] fun Lk hLk => ?_
 refine vM ?_
 refine wpV_subS (l := l) (lo := 40) (hi := 72) (by rfl) rfl rfl rfl rfl U99 (by omega) (by omega) ?_
 simp only [Z0, Z6]
 refine vM ?_
 refine wpV_drop (l := l) (lo := 76) (by rfl) rfl rfl rfl U99 (by omega) ?_
 simp only [Z0, Z6]
 refine vGk (v := .agg ([.int .i64 0, .string (bs ((l.take 72).drop 40)), .int .i64 0, .string (bs (l.drop 76))]).toArray) ?_
 simp only [Z0, Z6]
 refine vW ?_; refine hLk _ ?_; refine nA ?_
 refine n1 4 fun g11 w12 M => ?_
 refine sT 0 0 fun w13 M => ?_
 refine lZ k9 ?_
 refine qS fun _ k14 => ?_
 refine lM ?_
 refine cM 2 fun Lk hLk => ?_
 refine wpV_subS (l := l) (lo := 16) (hi := 24) (by rfl) rfl rfl rfl rfl U99 (by omega) (by omega) ?_
 simp only [Z0, Z6]
 refine vC (v := .int .u64 (plN l : Nat)) (args := #[.string (bs ((l.take 24).drop 16))]) (fun W => (by have h9 := rnumber_c (l := (l.take 24).drop 16) (w := W) (by simp only [List.length_drop, List.length_take]; omega); exact h9)) ?_
 refine hLk _ fun w16 M => ?_
 refine lg ?_; refine lZ k14 ?_
 refine qS fun _ k17 => ?_
 refine lM ?_
 refine cM 2 fun Lk hLk => ?_
 refine wpV_subS (l := l) (lo := 28) (hi := 36) (by rfl) rfl rfl rfl rfl U99 (by omega) (by omega) ?_
 simp only [Z0, Z6]
 refine vC (v := .int .u64 (plT l : Nat)) (args := #[.string (bs ((l.take 36).drop 28))]) (fun W => (by have h9 := rnumber_c (l := (l.take 36).drop 28) (w := W) (by simp only [List.length_drop, List.length_take]; omega); exact h9)) ?_
 refine hLk _ fun w19 M => ?_
 refine lg ?_; refine lZ k17 ?_
 refine sk fun _ k20 => ?_
 refine qS fun _ k21 => ?_
 refine lM ?_
 refine cM 5 fun Lk hLk => ?_
 refine vB (v := .bool false) (hr := fun W => (run_gtrN (plN l) 4096 _ _ W).trans (by rw [(decide_eq_false (by omega))])) ?_
 refine vM ?_; refine vM ?_
 refine vB (v := .bool false) (hr := fun W => (run_gtrN (plT l) 1099511627776 _ _ W).trans (by rw [(decide_eq_false (by omega))])) ?_
 refine vK ?_
 refine hLk _ fun w23 M => ?_
 refine lZ k21 ?_; refine cF ?_; refine sZ k20 ?_
 refine qS fun _ k24 => ?_
 refine lM ?_
 refine cM 2 fun Lk hLk => ?_
 refine wpV_conv (d := .bool) (e := ((plN l : Nat) : Int)) (by rfl) rfl rfl (run_conv_int U940 U93 (wrap_small (by omega))) ?_
 simp only [Z0, Z6]
 refine vF ?_
 refine hLk _ fun w26 M => ?_
 refine lS1 (g := g11) (off := 0) (n := 4) (v := .int .i64 (plN l : Nat)) (M.t 0 rfl) (by decide) info3 rfl (fun w27 P R T => ?_)
 replace M := M.put1 (j := 0) 0 rfl P R T rfl
 simp only [Z6] at M
 refine lZ k24 ?_
 refine qS fun _ k28 => ?_
 refine lM ?_
 refine cM 2 fun Lk hLk => ?_
 refine wpV_conv (d := .bool) (e := ((plT l : Nat) : Int)) (by rfl) rfl rfl (run_conv_int U940 U93 (wrap_small (by omega))) ?_
 simp only [Z0, Z6]
 refine vF ?_
 refine hLk _ fun w30 M => ?_
 refine lS1 (g := g11) (off := 2) (n := 4) (v := .int .i64 (plT l : Nat)) (M.t 0 rfl) (by decide) info3 rfl (fun w31 P R T => ?_)
 replace M := M.put1 (j := 2) 0 rfl P R T rfl
 simp only [Z6] at M
 refine lZ k28 ?_
 refine sk fun _ k32 => ?_
 refine wp_region_treeN (by kernel_rfl) (fun w34 Sw34 => ?_)
 replace M := M.sees Sw34
 refine any_step [0, 1] (by kernel_rfl) rfl (any_two ?_ (any_one ?_))
 ·
  refine any_opL 0 (by rfl) ?_
  simp only [Z7, Z8]
  refine lL ?_
  refine Z14 (Z22 ?_)
  refine any_step [1] (by kernel_rfl) rfl (any_one ?_)
  refine any_opL 1 (by rfl) ?_
  simp only [Z7, Z8]
  refine lL ?_
  refine Z14 (Z22 ?_)
  refine any_step [2] (by kernel_rfl) rfl (any_one ?_)
  refine any_opL 2 (by rfl) ?_
  simp only [Z7, Z8]
  refine cM 1 fun Lk hLk => ?_
  refine vC (v := .bool true) (args := #[.agg ([.int .i64 (plN l : Nat), .string (bs ((l.take 72).drop 40)), .int .i64 (plT l : Nat), .string (bs (l.drop 76))]).toArray]) (fun W => (by have h9 := rhright_c (z := (plN l : Int)) (r := plR l) (t := (plT l : Int)) (g := plG l) (w := W); rw [rightH_of h1 h2 hr hg] at h9; exact h9)) ?_
  refine hLk _ fun w37 M => ?_
  refine Z14 (Z22 ?_)
  refine any_firstW 3 (v := .bool true) (hv := (by exact yl_move rfl rfl)) ?_
  simp only [Z0, Z6]
  refine any_firstW 6 (v := .string (bs l)) (hv := (by exact yl_move rfl rfl)) ?_
  simp only [Z0, Z6]
  refine any_step [4] (by kernel_rfl) rfl (any_one ?_)
  refine any_opL 4 (by rfl) ?_
  simp only [Z7, Z8]
  refine wpL_guard (by rfl) ?_
  refine lL ?_
  refine Z14 (Z22 ?_)
  refine any_step [5] (by kernel_rfl) rfl (any_one ?_)
  refine any_opL 5 (by rfl) ?_
  simp only [Z7, Z8]
  refine wpL_guard (by rfl) ?_
  refine cM 1 fun Lk hLk => ?_
  refine vC (v := .string (bs (texL (plN l) (plT l) (plR l) (plG l)))) (args := #[.agg ([.int .i64 (plN l : Nat), .string (bs ((l.take 72).drop 40)), .int .i64 (plT l : Nat), .string (bs (l.drop 76))]).toArray]) (fun W => (by have h9 := rtext_c (a := plN l) (b := plT l) (r := plR l) (g := plG l) (w := W) h1 h2 hr hg; exact h9)) ?_
  refine hLk _ fun w39 M => ?_
  refine Z14 (Z22 ?_)
  refine any_firstW 7 (v := .bool (decide (texL (plN l) (plT l) (plR l) (plG l) = l))) (hv := (by exact yl_binS rfl rfl rfl (run_eql_bs _ _ _))) ?_
  simp only [Z0, Z6]
  refine any_firstW 8 (v := .bool (decide (texL (plN l) (plT l) (plR l) (plG l) = l))) (hv := (by exact yl_pick rfl rfl rfl)) ?_
  simp only [Z0, Z6]
  refine any_step [9] (by kernel_rfl) rfl (any_one ?_)
  refine any_opL 9 (by rfl) ?_
  simp only [Z7, Z8]
  refine sT 1 0 fun w40 M => ?_
  refine Z14 (Z22 ?_)
  refine any_firstW 10 (v := .bool (decide (texL (plN l) (plT l) (plR l) (plG l) = l))) (hv := (by exact yl_assign rfl rfl)) ?_
  simp only [Z0, Z6]
  refine any_end (by kernel_rfl) (Z15 ?_)
  refine k32 _ _ ?_; refine rt ?_
  refine bodyPost_ret (v := .tuple #[.agg ([.int .i64 (plN l : Nat), .string (bs ((l.take 72).drop 40)), .int .i64 (plT l : Nat), .string (bs (l.drop 76))]).toArray, .bool (decide (texL (plN l) (plT l) (plR l) (plG l) = l))]) (res2 rfl (.cell (by rfl) (run_loadVar_mid _ _ _ _ ([.int .i64 (plN l : Nat), .string (bs ((l.take 72).drop 40)), .int .i64 (plT l : Nat), .string (bs (l.drop 76))]) _ (M.r 1 0 rfl rfl) U933 rfl info33)) (.tmp (by rfl))) rfl ?_
  exact ⟨rfl, M.below⟩
 refine any_opL 1 (by rfl) ?_
 simp only [Z7, Z8]
 refine lL ?_
 refine Z14 (Z22 ?_)
 refine any_step [0, 2] (by kernel_rfl) rfl (any_two ?_ (any_one ?_))
 ·
  refine any_opL 0 (by rfl) ?_
  simp only [Z7, Z8]
  refine lL ?_
  refine Z14 (Z22 ?_)
  refine any_step [2] (by kernel_rfl) rfl (any_one ?_)
  refine any_opL 2 (by rfl) ?_
  simp only [Z7, Z8]
  refine cM 1 fun Lk hLk => ?_
  refine vC (v := .bool true) (args := #[.agg ([.int .i64 (plN l : Nat), .string (bs ((l.take 72).drop 40)), .int .i64 (plT l : Nat), .string (bs (l.drop 76))]).toArray]) (fun W => (by have h9 := rhright_c (z := (plN l : Int)) (r := plR l) (t := (plT l : Int)) (g := plG l) (w := W); rw [rightH_of h1 h2 hr hg] at h9; exact h9)) ?_
  refine hLk _ fun w43 M => ?_
  refine Z14 (Z22 ?_)
  refine any_firstW 3 (v := .bool true) (hv := (by exact yl_move rfl rfl)) ?_
  simp only [Z0, Z6]
  refine any_firstW 6 (v := .string (bs l)) (hv := (by exact yl_move rfl rfl)) ?_
  simp only [Z0, Z6]
  refine any_step [4] (by kernel_rfl) rfl (any_one ?_)
  refine any_opL 4 (by rfl) ?_
  simp only [Z7, Z8]
  refine wpL_guard (by rfl) ?_
  refine lL ?_
  refine Z14 (Z22 ?_)
  refine any_step [5] (by kernel_rfl) rfl (any_one ?_)
  refine any_opL 5 (by rfl) ?_
  simp only [Z7, Z8]
  refine wpL_guard (by rfl) ?_
  refine cM 1 fun Lk hLk => ?_
  refine vC (v := .string (bs (texL (plN l) (plT l) (plR l) (plG l)))) (args := #[.agg ([.int .i64 (plN l : Nat), .string (bs ((l.take 72).drop 40)), .int .i64 (plT l : Nat), .string (bs (l.drop 76))]).toArray]) (fun W => (by have h9 := rtext_c (a := plN l) (b := plT l) (r := plR l) (g := plG l) (w := W) h1 h2 hr hg; exact h9)) ?_
  refine hLk _ fun w45 M => ?_
  refine Z14 (Z22 ?_)
  refine any_firstW 7 (v := .bool (decide (texL (plN l) (plT l) (plR l) (plG l) = l))) (hv := (by exact yl_binS rfl rfl rfl (run_eql_bs _ _ _))) ?_
  simp only [Z0, Z6]
  refine any_firstW 8 (v := .bool (decide (texL (plN l) (plT l) (plR l) (plG l) = l))) (hv := (by exact yl_pick rfl rfl rfl)) ?_
  simp only [Z0, Z6]
  refine any_step [9] (by kernel_rfl) rfl (any_one ?_)
  refine any_opL 9 (by rfl) ?_
  simp only [Z7, Z8]
  refine sT 1 0 fun w46 M => ?_
  refine Z14 (Z22 ?_)
  refine any_firstW 10 (v := .bool (decide (texL (plN l) (plT l) (plR l) (plG l) = l))) (hv := (by exact yl_assign rfl rfl)) ?_
  simp only [Z0, Z6]
  refine any_end (by kernel_rfl) (Z15 ?_)
  refine k32 _ _ ?_; refine rt ?_
  refine bodyPost_ret (v := .tuple #[.agg ([.int .i64 (plN l : Nat), .string (bs ((l.take 72).drop 40)), .int .i64 (plT l : Nat), .string (bs (l.drop 76))]).toArray, .bool (decide (texL (plN l) (plT l) (plR l) (plG l) = l))]) (res2 rfl (.cell (by rfl) (run_loadVar_mid _ _ _ _ ([.int .i64 (plN l : Nat), .string (bs ((l.take 72).drop 40)), .int .i64 (plT l : Nat), .string (bs (l.drop 76))]) _ (M.r 1 0 rfl rfl) U933 rfl info33)) (.tmp (by rfl))) rfl ?_
  exact ⟨rfl, M.below⟩
 refine any_opL 2 (by rfl) ?_
 simp only [Z7, Z8]
 refine cM 1 fun Lk hLk => ?_
 refine vC (v := .bool true) (args := #[.agg ([.int .i64 (plN l : Nat), .string (bs ((l.take 72).drop 40)), .int .i64 (plT l : Nat), .string (bs (l.drop 76))]).toArray]) (fun W => (by have h9 := rhright_c (z := (plN l : Int)) (r := plR l) (t := (plT l : Int)) (g := plG l) (w := W); rw [rightH_of h1 h2 hr hg] at h9; exact h9)) ?_
 refine hLk _ fun w47 M => ?_
 refine Z14 (Z22 ?_)
 refine any_firstW 3 (v := .bool true) (hv := (by exact yl_move rfl rfl)) ?_
 simp only [Z0, Z6]
 refine any_firstW 6 (v := .string (bs l)) (hv := (by exact yl_move rfl rfl)) ?_
 simp only [Z0, Z6]
 refine any_step [0, 4] (by kernel_rfl) rfl (any_two ?_ (any_one ?_))
 ·
  refine any_opL 0 (by rfl) ?_
  simp only [Z7, Z8]
  refine lL ?_
  refine Z14 (Z22 ?_)
  refine any_step [4] (by kernel_rfl) rfl (any_one ?_)
  refine any_opL 4 (by rfl) ?_
  simp only [Z7, Z8]
  refine wpL_guard (by rfl) ?_
  refine lL ?_
  refine Z14 (Z22 ?_)
  refine any_step [5] (by kernel_rfl) rfl (any_one ?_)
  refine any_opL 5 (by rfl) ?_
  simp only [Z7, Z8]
  refine wpL_guard (by rfl) ?_
  refine cM 1 fun Lk hLk => ?_
  refine vC (v := .string (bs (texL (plN l) (plT l) (plR l) (plG l)))) (args := #[.agg ([.int .i64 (plN l : Nat), .string (bs ((l.take 72).drop 40)), .int .i64 (plT l : Nat), .string (bs (l.drop 76))]).toArray]) (fun W => (by have h9 := rtext_c (a := plN l) (b := plT l) (r := plR l) (g := plG l) (w := W) h1 h2 hr hg; exact h9)) ?_
  refine hLk _ fun w50 M => ?_
  refine Z14 (Z22 ?_)
  refine any_firstW 7 (v := .bool (decide (texL (plN l) (plT l) (plR l) (plG l) = l))) (hv := (by exact yl_binS rfl rfl rfl (run_eql_bs _ _ _))) ?_
  simp only [Z0, Z6]
  refine any_firstW 8 (v := .bool (decide (texL (plN l) (plT l) (plR l) (plG l) = l))) (hv := (by exact yl_pick rfl rfl rfl)) ?_
  simp only [Z0, Z6]
  refine any_step [9] (by kernel_rfl) rfl (any_one ?_)
  refine any_opL 9 (by rfl) ?_
  simp only [Z7, Z8]
  refine sT 1 0 fun w51 M => ?_
  refine Z14 (Z22 ?_)
  refine any_firstW 10 (v := .bool (decide (texL (plN l) (plT l) (plR l) (plG l) = l))) (hv := (by exact yl_assign rfl rfl)) ?_
  simp only [Z0, Z6]
  refine any_end (by kernel_rfl) (Z15 ?_)
  refine k32 _ _ ?_; refine rt ?_
  refine bodyPost_ret (v := .tuple #[.agg ([.int .i64 (plN l : Nat), .string (bs ((l.take 72).drop 40)), .int .i64 (plT l : Nat), .string (bs (l.drop 76))]).toArray, .bool (decide (texL (plN l) (plT l) (plR l) (plG l) = l))]) (res2 rfl (.cell (by rfl) (run_loadVar_mid _ _ _ _ ([.int .i64 (plN l : Nat), .string (bs ((l.take 72).drop 40)), .int .i64 (plT l : Nat), .string (bs (l.drop 76))]) _ (M.r 1 0 rfl rfl) U933 rfl info33)) (.tmp (by rfl))) rfl ?_
  exact ⟨rfl, M.below⟩
 refine any_opL 4 (by rfl) ?_
 simp only [Z7, Z8]
 refine wpL_guard (by rfl) ?_
 refine lL ?_
 refine Z14 (Z22 ?_)
 refine any_step [0, 5] (by kernel_rfl) rfl (any_two ?_ (any_one ?_))
 ·
  refine any_opL 0 (by rfl) ?_
  simp only [Z7, Z8]
  refine lL ?_
  refine Z14 (Z22 ?_)
  refine any_step [5] (by kernel_rfl) rfl (any_one ?_)
  refine any_opL 5 (by rfl) ?_
  simp only [Z7, Z8]
  refine wpL_guard (by rfl) ?_
  refine cM 1 fun Lk hLk => ?_
  refine vC (v := .string (bs (texL (plN l) (plT l) (plR l) (plG l)))) (args := #[.agg ([.int .i64 (plN l : Nat), .string (bs ((l.take 72).drop 40)), .int .i64 (plT l : Nat), .string (bs (l.drop 76))]).toArray]) (fun W => (by have h9 := rtext_c (a := plN l) (b := plT l) (r := plR l) (g := plG l) (w := W) h1 h2 hr hg; exact h9)) ?_
  refine hLk _ fun w54 M => ?_
  refine Z14 (Z22 ?_)
  refine any_firstW 7 (v := .bool (decide (texL (plN l) (plT l) (plR l) (plG l) = l))) (hv := (by exact yl_binS rfl rfl rfl (run_eql_bs _ _ _))) ?_
  simp only [Z0, Z6]
  refine any_firstW 8 (v := .bool (decide (texL (plN l) (plT l) (plR l) (plG l) = l))) (hv := (by exact yl_pick rfl rfl rfl)) ?_
  simp only [Z0, Z6]
  refine any_step [9] (by kernel_rfl) rfl (any_one ?_)
  refine any_opL 9 (by rfl) ?_
  simp only [Z7, Z8]
  refine sT 1 0 fun w55 M => ?_
  refine Z14 (Z22 ?_)
  refine any_firstW 10 (v := .bool (decide (texL (plN l) (plT l) (plR l) (plG l) = l))) (hv := (by exact yl_assign rfl rfl)) ?_
  simp only [Z0, Z6]
  refine any_end (by kernel_rfl) (Z15 ?_)
  refine k32 _ _ ?_; refine rt ?_
  refine bodyPost_ret (v := .tuple #[.agg ([.int .i64 (plN l : Nat), .string (bs ((l.take 72).drop 40)), .int .i64 (plT l : Nat), .string (bs (l.drop 76))]).toArray, .bool (decide (texL (plN l) (plT l) (plR l) (plG l) = l))]) (res2 rfl (.cell (by rfl) (run_loadVar_mid _ _ _ _ ([.int .i64 (plN l : Nat), .string (bs ((l.take 72).drop 40)), .int .i64 (plT l : Nat), .string (bs (l.drop 76))]) _ (M.r 1 0 rfl rfl) U933 rfl info33)) (.tmp (by rfl))) rfl ?_
  exact ⟨rfl, M.below⟩
 refine any_opL 5 (by rfl) ?_
 simp only [Z7, Z8]
 refine wpL_guard (by rfl) ?_
 refine cM 1 fun Lk hLk => ?_
 refine vC (v := .string (bs (texL (plN l) (plT l) (plR l) (plG l)))) (args := #[.agg ([.int .i64 (plN l : Nat), .string (bs ((l.take 72).drop 40)), .int .i64 (plT l : Nat), .string (bs (l.drop 76))]).toArray]) (fun W => (by have h9 := rtext_c (a := plN l) (b := plT l) (r := plR l) (g := plG l) (w := W) h1 h2 hr hg; exact h9)) ?_
 refine hLk _ fun w56 M => ?_
 refine Z14 (Z22 ?_)
 refine any_firstW 7 (v := .bool (decide (texL (plN l) (plT l) (plR l) (plG l) = l))) (hv := (by exact yl_binS rfl rfl rfl (run_eql_bs _ _ _))) ?_
 simp only [Z0, Z6]
 refine any_firstW 8 (v := .bool (decide (texL (plN l) (plT l) (plR l) (plG l) = l))) (hv := (by exact yl_pick rfl rfl rfl)) ?_
 simp only [Z0, Z6]
 refine any_step [0] (by kernel_rfl) rfl (any_one ?_)
 refine any_opL 0 (by rfl) ?_
 simp only [Z7, Z8]
 refine lL ?_
 refine Z14 (Z22 ?_)
 refine any_step [9] (by kernel_rfl) rfl (any_one ?_)
 refine any_opL 9 (by rfl) ?_
 simp only [Z7, Z8]
 refine sT 1 0 fun w58 M => ?_
 refine Z14 (Z22 ?_)
 refine any_firstW 10 (v := .bool (decide (texL (plN l) (plT l) (plR l) (plG l) = l))) (hv := (by exact yl_assign rfl rfl)) ?_
 simp only [Z0, Z6]
 refine any_end (by kernel_rfl) (Z15 ?_)
 refine k32 _ _ ?_; refine rt ?_
 refine bodyPost_ret (v := .tuple #[.agg ([.int .i64 (plN l : Nat), .string (bs ((l.take 72).drop 40)), .int .i64 (plT l : Nat), .string (bs (l.drop 76))]).toArray, .bool (decide (texL (plN l) (plT l) (plR l) (plG l) = l))]) (res2 rfl (.cell (by rfl) (run_loadVar_mid _ _ _ _ ([.int .i64 (plN l : Nat), .string (bs ((l.take 72).drop 40)), .int .i64 (plT l : Nat), .string (bs (l.drop 76))]) _ (M.r 1 0 rfl rfl) U933 rfl info33)) (.tmp (by rfl))) rfl ?_
 exact ⟨rfl, M.below⟩
end Go.Proofs.Yc

namespace Go.Proofs.Yc
open Go Go.RowKit Go.Proofs.Num
open Tryd renaming func5 → G95, ntmps5 → T95, underlying3 → U93, underlying33 → U933, underlying9 → U99
open Go.Proofs.Num  renaming putT → Z0
open List renaming set → Z6, take → Z7, drop → Z8
open Go.Proofs.Num renaming wpL_nil → Z14, no_panic → Z15, then_normal → Z22
attribute [local irreducible] wpV wpN wpList
open Go.Proofs.Ya
theorem Parse_tex {a b : Nat} {r g : List UInt8} {w : World} (ha : a ≤ 4096) (hb : b ≤ 1099511627776) (hr : r.length = 32) (hg : g.length = 64) :
  Calls Tryd.prog 26 #[.string (bs (texL a b r g))] w fun e w' => e = .returned (.tuple #[.agg ([.int .i64 a, .string (bs r), .int .i64 b, .string (bs g)]).toArray, .int .i64 0]) ∧ Below w.heap.size w w' := by
 obtain ⟨e1, e2, e3, e4⟩ := par_tex ha hb hr hg
 have h9 := HParse_ok (w := w) (l := texL a b r g) (by rw [texL_len a b hr hg]; decide) (by rw [e1, e2, e3, e4]; exact rightH_of ha hb hr hg) (by rw [e1, e2, e3, e4]; rfl)
 rw [e1, e2, e3, e4] at h9
 exact h9
theorem Parse_nn {l : List UInt8} {w : World} (hl : l.length ≤ 65536) (hno : ¬ IsTex l) :
  Calls Tryd.prog 26 #[.string (bs l)] w fun e w' => e = .returned (.tuple #[.agg ([.int .i64 0, .string (bs ([])), .int .i64 0, .string (bs ([]))]).toArray, .int .i64 14]) ∧ Below w.heap.size w w' := by
 cases h : rightH (parZ l) (parR l) (parT l) (parG l)
 ·
  exact HParse_bad hl h
 refine HParse_ne hl h fun e => hno ?_
 obtain ⟨a, b, ea, eb, ha, hb, hr, hg⟩ := rightH_parts h
 rw [ea, eb] at e
 exact ⟨a, b, _, _, ha, hb, hr, hg, e⟩
theorem rParse_tex {a b : Nat} {r g : List UInt8} {w : World} (ha : a ≤ 4096) (hb : b ≤ 1099511627776) (hr : r.length = 32) (hg : g.length = 64) :
  Calls Tryd.prog 29 #[.string (bs (texL a b r g))] w fun e w' => e = .returned (.tuple #[.agg ([.int .i64 a, .string (bs r), .int .i64 b, .string (bs g)]).toArray, .bool true]) ∧ Below w.heap.size w w' := by
 obtain ⟨e1, e2, e3, e4⟩ := pl_tex a b hr hg (by omega) (by omega)
 have h9 := rparse_go (w := w) (l := texL a b r g) (texL_len a b hr hg) (by rw [e1]; exact ha) (by rw [e2]; exact hb)
 rw [e1, e2, e3, e4, decide_eq_true rfl] at h9
 exact h9
theorem rParse_nn {l : List UInt8} {w : World} (hno : ¬ IsTex l) :
  Calls Tryd.prog 29 #[.string (bs l)] w fun e w' => e = .returned (.tuple #[.agg ([.int .i64 (plz l), .string (bs (plr l)), .int .i64 (plt l), .string (bs (plg l))]).toArray, .bool false]) ∧ Below w.heap.size w w' := by
 unfold plz plr plt plg
 cases h : plOk l
 ·
  rcases plOk_not h with h1 | ⟨h1, h2⟩
  ·
   exact rparse_len h1
  exact rparse_big h1 h2
 obtain ⟨h1, h2, h3⟩ := plOk_parts h
 obtain ⟨hr, hg⟩ := pl_lens h1
 have h9 := rparse_go (w := w) h1 h2 h3
 rw [decide_eq_false (fun e => hno ⟨_, _, _, _, h2, h3, hr, hg, e⟩)] at h9
 exact h9
set_option maxHeartbeats 4000000 in
theorem texts_yy {a2 b2 : Nat} {r2 g2 s : List UInt8} {a b : Nat} {r g rr gg : List UInt8} {w : World} (hrr : rr = cut r 40) (hgg : gg = cut g 70) (hss : cut s 200 = texL a2 b2 r2 g2) (ha2 : a2 ≤ 4096) (hb2 : b2 ≤ 1099511627776) (hr2 : r2.length = 32) (hg2 : g2.length = 64) (ha : a ≤ 4096) (hb : b ≤ 1099511627776) (hr : rr.length = 32) (hg : gg.length = 64) (L1 : 1 < w.heap.size) (R1_0 : w.rangeAt 1 0 kcells) (L2 : 2 < w.heap.size) (R2_0 : w.rangeAt 2 0 kcellsq) :
  Calls Tryd.prog 5 #[.agg ([.int .i64 a, .string (bs r), .int .i64 b, .string (bs g)]).toArray, .string (bs s)] w fun e w' => e = .returned (.bool true) ∧ Below w.heap.size w w' := by
 go_enter G95, T95
 have M := Mem.start w
 refine qS fun _ k1 => ?_
 refine nVs (segs := [(0, [.int .i64 a]), (1, [.string (bs r)]), (2, [.int .i64 b]), (3, [.string (bs g)])]) 4 fun g3 w4 M => ?_
 refine lg ?_; refine lZ k1 ?_
 refine sk fun _ k5 => ?_
 refine wp_region_treeN (by kernel_rfl) (fun w7 Sw7 => ?_)
 replace M := M.sees Sw7
 refine any_firstW 2 (v := .string (bs s)) (hv := (by exact yl_move rfl rfl)) ?_
 simp only [Z0, Z6]
 refine any_firstW 3 (v := .string (bs s)) (hv := (by exact yl_move rfl rfl)) ?_
 simp only [Z0, Z6]
 refine any_firstW 4 (v := .int .i64 s.length) (hv := (by exact yl_lenS rfl rfl rfl U99)) ?_
 simp only [Z0, Z6]
 refine any_firstW 5 (v := .int .i64 (min s.length 200 : Nat)) (hv := (by exact yl_min (n := s.length) (m := 200) rfl rfl rfl)) ?_
 simp only [Z0, Z6]
 refine any_firstW 6 (v := .string (bs (cut s 200))) (hv := (by exact yl_cut (l := s) (m := 200) rfl rfl rfl U99)) ?_
 simp only [Z0, Z6]
 refine any_step [0] (by kernel_rfl) rfl (any_one ?_)
 refine any_opL 0 (by rfl) ?_
 simp only [Z7, Z8]
 refine cM 1 fun Lk hLk => ?_
 refine vP (pvLf (cs := [.int .i64 a] ++ [.string (bs r)] ++ [.int .i64 b] ++ [.string (bs g)]) (range_join (range_join (range_join (M.r 0 0 rfl rfl) (M.r 0 1 rfl rfl) (by simp [flen])) (M.r 0 2 rfl rfl) (by simp [flen])) (M.r 0 3 rfl rfl) (by simp [flen])) (M.lt 0 rfl)) ?_
 refine hLk _ fun w8 M => ?_
 refine Z14 (Z22 ?_)
 refine any_step [1] (by kernel_rfl) rfl (any_one ?_)
 refine any_opL 1 (by rfl) ?_
 simp only [Z7, Z8]
 refine cM 1 fun Lk hLk => ?_
 refine vC (v := .agg ([.int .i64 a, .string (bs rr), .int .i64 b, .string (bs gg)]).toArray) (args := #[.agg ([.int .i64 a] ++ [.string (bs r)] ++ [.int .i64 b] ++ [.string (bs g)] : List Value).toArray]) (fun W => (by have h9 := few10_c (z := ((a : Nat) : Int)) (r := r) (t := ((b : Nat) : Int)) (g := g) (w := W); rw [← hrr, ← hgg] at h9; exact h9)) ?_
 refine hLk _ fun w9 M => ?_
 refine Z14 (Z22 ?_)
 refine any_step [7] (by kernel_rfl) rfl (any_one ?_)
 refine any_opL 7 (by rfl) ?_
 simp only [Z7, Z8]
 refine sTs (segs' := [(0, [.int .i64 a]), (1, [.string (bs rr)]), (2, [.int .i64 b]), (3, [.string (bs gg)])]) 0 fun w10 M => ?_
 refine Z14 (Z22 ?_)
 refine any_firstW 8 (v := .string (bs (cut s 200))) (hv := (by exact yl_assign rfl rfl)) ?_
 simp only [Z0, Z6]
 refine any_end (by kernel_rfl) (Z15 ?_)
 simp only [hss]
 refine k5 _ _ ?_
 refine qS fun _ k11 => ?_
 refine cM 5 fun Lk hLk => ?_
 refine vP (pvLf (cs := [.int .i64 a] ++ [.string (bs rr)] ++ [.int .i64 b] ++ [.string (bs gg)]) (range_join (range_join (range_join (M.r 0 0 rfl rfl) (M.r 0 1 rfl rfl) (by simp [flen])) (M.r 0 2 rfl rfl) (by simp [flen])) (M.r 0 3 rfl rfl) (by simp [flen])) (M.lt 0 rfl)) ?_
 refine vC (v := .tuple #[.string (bs (texL a b rr gg)), .int .i64 0]) (args := #[.agg ([.int .i64 a] ++ [.string (bs rr)] ++ [.int .i64 b] ++ [.string (bs gg)] : List Value).toArray]) (fun W => (by have h9 := Print_ok (a := a) (b := b) (r := rr) (g := gg) (w := W) ha hb hr hg; exact h9)) ?_
 refine vM ?_; refine vE ?_; refine vE ?_
 refine hLk _ fun w13 M => ?_
 refine lg ?_; refine lg ?_; refine lZ k11 ?_
 refine qS fun _ k14 => ?_
 refine lM ?_
 refine cM 4 fun Lk hLk => ?_
 refine vC (fun W => (Parse_tex ha2 hb2 hr2 hg2)) ?_
 refine vM ?_; refine vE ?_; refine vE ?_
 refine hLk _ fun w16 M => ?_
 refine nV 4 fun g17 w18 M => ?_
 refine sTs (segs' := [(0, [.int .i64 a2]), (1, [.string (bs r2)]), (2, [.int .i64 b2]), (3, [.string (bs g2)])]) 0 fun w19 M => ?_
 refine lg ?_; refine lZ k14 ?_
 refine sk fun _ k20 => ?_
 refine sk fun _ k21 => ?_
 refine rG 9 [] fun Lk hLk => ?_
 refine vP (pvLf (cs := [.int .i64 a] ++ [.string (bs rr)] ++ [.int .i64 b] ++ [.string (bs gg)]) (range_join (range_join (range_join (M.r 1 0 rfl rfl) (M.r 1 1 rfl rfl) (by simp [flen])) (M.r 1 2 rfl rfl) (by simp [flen])) (M.r 1 3 rfl rfl) (by simp [flen])) (M.lt 1 rfl)) ?_
 refine vC (v := .bool true) (args := #[.agg ([.int .i64 a] ++ [.string (bs rr)] ++ [.int .i64 b] ++ [.string (bs gg)] : List Value).toArray]) (fun W => (by have h9 := hright_c (z := (a : Int)) (r := rr) (t := (b : Int)) (g := gg) (w := W); rw [rightH_of ha hb hr hg] at h9; exact h9)) ?_
 refine vP (pvLf (cs := [.int .i64 a] ++ [.string (bs rr)] ++ [.int .i64 b] ++ [.string (bs gg)]) (range_join (range_join (range_join (M.r 1 0 rfl rfl) (M.r 1 1 rfl rfl) (by simp [flen])) (M.r 1 2 rfl rfl) (by simp [flen])) (M.r 1 3 rfl rfl) (by simp [flen])) (M.lt 1 rfl)) ?_
 refine vC (v := .bool true) (args := #[.agg ([.int .i64 a] ++ [.string (bs rr)] ++ [.int .i64 b] ++ [.string (bs gg)] : List Value).toArray]) (fun W => (by have h9 := rhright_c (z := (a : Int)) (r := rr) (t := (b : Int)) (g := gg) (w := W); rw [rightH_of ha hb hr hg] at h9; exact h9)) ?_
 refine vGo (v := .bool false) ?_
 simp only [Z0, Z6]
 refine vM ?_
 refine vCh (fun W hW => (alive10_c ((M.sees hW).oldL L1) ((M.sees hW).oldR R1_0 L1) ((M.sees hW).oldL L2) ((M.sees hW).oldR R2_0 L2))) ?_
 refine vt ?_; refine vK ?_
 refine hLk _ fun w23 M => ?_
 refine lZ k21 ?_; refine cF ?_; refine sZ k20 ?_
 refine sk fun _ k24 => ?_
 refine qS fun _ k25 => ?_
 refine cM 3 fun Lk hLk => ?_
 refine vP (pvLf (cs := [.int .i64 a] ++ [.string (bs rr)] ++ [.int .i64 b] ++ [.string (bs gg)]) (range_join (range_join (range_join (M.r 1 0 rfl rfl) (M.r 1 1 rfl rfl) (by simp [flen])) (M.r 1 2 rfl rfl) (by simp [flen])) (M.r 1 3 rfl rfl) (by simp [flen])) (M.lt 1 rfl)) ?_
 refine vC (v := .bool true) (args := #[.agg ([.int .i64 a] ++ [.string (bs rr)] ++ [.int .i64 b] ++ [.string (bs gg)] : List Value).toArray]) (fun W => (by have h9 := rhright_c (z := (a : Int)) (r := rr) (t := (b : Int)) (g := gg) (w := W); rw [rightH_of ha hb hr hg] at h9; exact h9)) ?_
 refine vt ?_
 refine hLk _ fun w27 M => ?_
 refine lZ k25 ?_; refine cF ?_
 refine qS fun _ k28 => ?_
 refine lM ?_
 refine cM 4 fun Lk hLk => ?_
 refine vC (fun W => (Parse_tex ha hb hr hg)) ?_
 refine vM ?_; refine vE ?_; refine vE ?_
 refine hLk _ fun w30 M => ?_
 refine nV 4 fun g31 w32 M => ?_
 refine sTs (segs' := [(0, [.int .i64 a]), (1, [.string (bs rr)]), (2, [.int .i64 b]), (3, [.string (bs gg)])]) 0 fun w33 M => ?_
 refine lg ?_; refine lZ k28 ?_
 refine qS fun _ k34 => ?_
 refine lM ?_
 refine cM 16 fun Lk hLk => ?_
 refine vB (v := .bool false) (hr := run_neq _ _ _ _) ?_
 refine vM ?_; refine vM ?_
 refine vP (pvLf (cs := [.int .i64 a] ++ [.string (bs rr)] ++ [.int .i64 b] ++ [.string (bs gg)]) (range_join (range_join (range_join (M.r 2 0 rfl rfl) (M.r 2 1 rfl rfl) (by simp [flen])) (M.r 2 2 rfl rfl) (by simp [flen])) (M.r 2 3 rfl rfl) (by simp [flen])) (M.lt 2 rfl)) ?_
 refine vC (v := .string (bs (texL a b rr gg))) (args := #[.agg ([.int .i64 a] ++ [.string (bs rr)] ++ [.int .i64 b] ++ [.string (bs gg)] : List Value).toArray]) (fun W => (by have h9 := rtext_c (a := a) (b := b) (r := rr) (g := gg) (w := W) ha hb hr hg; exact h9)) ?_
 refine wpV_binS (v := .bool false) (by rfl) rfl rfl rfl (fun W => (run_neq_bs _ _ _ W).trans (by first | rw [show decide (texL a b rr gg ≠ texL a b rr gg) = false from (decide_eq_false (fun h9 => h9 rfl))] | (show Result.ok (Value.bool (decide (texL a b rr gg ≠ texL a b rr gg))) W = _; rw [show decide (texL a b rr gg ≠ texL a b rr gg) = false from (decide_eq_false (fun h9 => h9 rfl))]))) ?_
 simp only [Z0, Z6]
 refine vK ?_; refine vM ?_; refine vM ?_
 refine vB (v := .bool false) (hr := run_neq _ _ _ _) ?_
 refine vK ?_; refine vM ?_
 refine vP (pvLf (cs := [.int .i64 a] ++ [.string (bs rr)] ++ [.int .i64 b] ++ [.string (bs gg)]) (range_join (range_join (range_join (M.r 0 0 rfl rfl) (M.r 0 1 rfl rfl) (by simp [flen])) (M.r 0 2 rfl rfl) (by simp [flen])) (M.r 0 3 rfl rfl) (by simp [flen])) (M.lt 0 rfl)) ?_
 refine vP (pvLf (cs := [.int .i64 a] ++ [.string (bs rr)] ++ [.int .i64 b] ++ [.string (bs gg)]) (range_join (range_join (range_join (M.r 2 0 rfl rfl) (M.r 2 1 rfl rfl) (by simp [flen])) (M.r 2 2 rfl rfl) (by simp [flen])) (M.r 2 3 rfl rfl) (by simp [flen])) (M.lt 2 rfl)) ?_
 have fE36 : FieldsEq Tryd.prog 1 ([Value.int .i64 a] ++ [Value.string (bs rr)] ++ [Value.int .i64 b] ++ [Value.string (bs gg)]).toArray ([Value.int .i64 a] ++ [Value.string (bs rr)] ++ [Value.int .i64 b] ++ [Value.string (bs gg)]).toArray [(false, 3, 0), (false, 9, 1), (false, 3, 2), (false, 9, 3)] [true, true, true, true] := ⟨rfl, ⟨_, _, (fun W => run_part_one U93 rfl rfl W), (fun W => run_part_one U93 rfl rfl W), ((eq_int U93 a a).bool (decide_eq_true rfl))⟩, rfl, ⟨_, _, (fun W => run_part_one U99 rfl rfl W), (fun W => run_part_one U99 rfl rfl W), ((eq_str U99 rr rr).bool (decide_eq_true rfl))⟩, rfl, ⟨_, _, (fun W => run_part_one U93 rfl rfl W), (fun W => run_part_one U93 rfl rfl W), ((eq_int U93 b b).bool (decide_eq_true rfl))⟩, rfl, ⟨_, _, (fun W => run_part_one U99 rfl rfl W), (fun W => run_part_one U99 rfl rfl W), ((eq_str U99 gg gg).bool (decide_eq_true rfl))⟩, trivial⟩
 have fT37 : EqD Tryd.prog 2 33 (.agg ([Value.int .i64 a] ++ [Value.string (bs rr)] ++ [Value.int .i64 b] ++ [Value.string (bs gg)]).toArray) (.agg ([Value.int .i64 a] ++ [Value.string (bs rr)] ++ [Value.int .i64 b] ++ [Value.string (bs gg)]).toArray) true := (eq_struct (k := 1) (P := Tryd.prog) (T := 33) (xs := [Value.int .i64 a] ++ [Value.string (bs rr)] ++ [Value.int .i64 b] ++ [Value.string (bs gg)]) (ys := [Value.int .i64 a] ++ [Value.string (bs rr)] ++ [Value.int .i64 b] ++ [Value.string (bs gg)]) (fs := [(false, 3, 0), (false, 9, 1), (false, 3, 2), (false, 9, 3)]) (bs := [true, true, true, true]) U933 (by kernel_rfl) (by kernel_rfl) fE36).bool (by simp only [List.all_cons, List.all_nil, id, Bool.and_true, Bool.true_and])
 refine wpV_neqT (k := 2) (u := [Value.int .i64 a] ++ [Value.string (bs rr)] ++ [Value.int .i64 b] ++ [Value.string (bs gg)]) (v := [Value.int .i64 a] ++ [Value.string (bs rr)] ++ [Value.int .i64 b] ++ [Value.string (bs gg)]) (b := true) (by rfl) rfl rfl rfl (by kernel_rfl) fT37 (by decide) ?_
 simp only [Bool.not_true, Bool.not_false]
 simp only [Z0, Z6]
 refine vK ?_
 refine hLk _ fun w38 M => ?_
 refine lZ k34 ?_; refine cF ?_; refine sZ k24 ?_
 refine qS fun _ k39 => ?_
 refine lM ?_
 refine cM 4 fun Lk hLk => ?_
 refine vC (fun W => (rParse_tex ha2 hb2 hr2 hg2)) ?_
 refine vM ?_; refine vE ?_; refine vE ?_
 refine hLk _ fun w41 M => ?_
 refine nV 4 fun g42 w43 M => ?_
 refine sTs (segs' := [(0, [.int .i64 a2]), (1, [.string (bs r2)]), (2, [.int .i64 b2]), (3, [.string (bs g2)])]) 0 fun w44 M => ?_
 refine lg ?_; refine lZ k39 ?_
 refine sk fun _ k45 => ?_
 refine qS fun _ k46 => ?_
 refine lM ?_; refine lt ?_; refine lZ k46 ?_; refine cF ?_; refine sZ k45 ?_
 refine qS fun _ k49 => ?_
 refine lM ?_
 refine cM 6 fun Lk hLk => ?_
 refine vB (v := .bool true) (hr := run_eql _ _ _ _) ?_
 refine vM ?_
 refine vP (pvLf (cs := [.int .i64 a2] ++ [.string (bs r2)] ++ [.int .i64 b2] ++ [.string (bs g2)]) (range_join (range_join (range_join (M.r 2 0 rfl rfl) (M.r 2 1 rfl rfl) (by simp [flen])) (M.r 2 2 rfl rfl) (by simp [flen])) (M.r 2 3 rfl rfl) (by simp [flen])) (M.lt 2 rfl)) ?_
 refine vP (pvLf (cs := [.int .i64 a2] ++ [.string (bs r2)] ++ [.int .i64 b2] ++ [.string (bs g2)]) (range_join (range_join (range_join (M.r 0 0 rfl rfl) (M.r 0 1 rfl rfl) (by simp [flen])) (M.r 0 2 rfl rfl) (by simp [flen])) (M.r 0 3 rfl rfl) (by simp [flen])) (M.lt 0 rfl)) ?_
 have fE51 : FieldsEq Tryd.prog 1 ([Value.int .i64 a2] ++ [Value.string (bs r2)] ++ [Value.int .i64 b2] ++ [Value.string (bs g2)]).toArray ([Value.int .i64 a2] ++ [Value.string (bs r2)] ++ [Value.int .i64 b2] ++ [Value.string (bs g2)]).toArray [(false, 3, 0), (false, 9, 1), (false, 3, 2), (false, 9, 3)] [true, true, true, true] := ⟨rfl, ⟨_, _, (fun W => run_part_one U93 rfl rfl W), (fun W => run_part_one U93 rfl rfl W), ((eq_int U93 a2 a2).bool (decide_eq_true rfl))⟩, rfl, ⟨_, _, (fun W => run_part_one U99 rfl rfl W), (fun W => run_part_one U99 rfl rfl W), ((eq_str U99 r2 r2).bool (decide_eq_true rfl))⟩, rfl, ⟨_, _, (fun W => run_part_one U93 rfl rfl W), (fun W => run_part_one U93 rfl rfl W), ((eq_int U93 b2 b2).bool (decide_eq_true rfl))⟩, rfl, ⟨_, _, (fun W => run_part_one U99 rfl rfl W), (fun W => run_part_one U99 rfl rfl W), ((eq_str U99 g2 g2).bool (decide_eq_true rfl))⟩, trivial⟩
 have fT52 : EqD Tryd.prog 2 33 (.agg ([Value.int .i64 a2] ++ [Value.string (bs r2)] ++ [Value.int .i64 b2] ++ [Value.string (bs g2)]).toArray) (.agg ([Value.int .i64 a2] ++ [Value.string (bs r2)] ++ [Value.int .i64 b2] ++ [Value.string (bs g2)]).toArray) true := (eq_struct (k := 1) (P := Tryd.prog) (T := 33) (xs := [Value.int .i64 a2] ++ [Value.string (bs r2)] ++ [Value.int .i64 b2] ++ [Value.string (bs g2)]) (ys := [Value.int .i64 a2] ++ [Value.string (bs r2)] ++ [Value.int .i64 b2] ++ [Value.string (bs g2)]) (fs := [(false, 3, 0), (false, 9, 1), (false, 3, 2), (false, 9, 3)]) (bs := [true, true, true, true]) U933 (by kernel_rfl) (by kernel_rfl) fE51).bool (by simp only [List.all_cons, List.all_nil, id, Bool.and_true, Bool.true_and])
 refine wpV_eqlT (k := 2) (u := [Value.int .i64 a2] ++ [Value.string (bs r2)] ++ [Value.int .i64 b2] ++ [Value.string (bs g2)]) (v := [Value.int .i64 a2] ++ [Value.string (bs r2)] ++ [Value.int .i64 b2] ++ [Value.string (bs g2)]) (b := true) (by rfl) rfl rfl rfl (by kernel_rfl) fT52 (by decide) ?_
 simp only [Z0, Z6]
 refine vK ?_
 refine hLk _ fun w53 M => ?_
 refine lg ?_; refine lZ k49 ?_; refine rt1 ?_
 exact ⟨rfl, M.below⟩
set_option maxHeartbeats 4000000 in
theorem texts_yn {s ss : List UInt8} {a b : Nat} {r g rr gg : List UInt8} {w : World} (hrr : rr = cut r 40) (hgg : gg = cut g 70) (hss : cut s 200 = ss) (hl9 : ss.length ≤ 65536) (hno : ¬ IsTex ss) (ha : a ≤ 4096) (hb : b ≤ 1099511627776) (hr : rr.length = 32) (hg : gg.length = 64) (L1 : 1 < w.heap.size) (R1_0 : w.rangeAt 1 0 kcells) (L2 : 2 < w.heap.size) (R2_0 : w.rangeAt 2 0 kcellsq) :
  Calls Tryd.prog 5 #[.agg ([.int .i64 a, .string (bs r), .int .i64 b, .string (bs g)]).toArray, .string (bs s)] w fun e w' => e = .returned (.bool true) ∧ Below w.heap.size w w' := by
 go_enter G95, T95
 have M := Mem.start w
 refine qS fun _ k1 => ?_
 refine nVs (segs := [(0, [.int .i64 a]), (1, [.string (bs r)]), (2, [.int .i64 b]), (3, [.string (bs g)])]) 4 fun g3 w4 M => ?_
 refine lg ?_; refine lZ k1 ?_
 refine sk fun _ k5 => ?_
 refine wp_region_treeN (by kernel_rfl) (fun w7 Sw7 => ?_)
 replace M := M.sees Sw7
 refine any_firstW 2 (v := .string (bs s)) (hv := (by exact yl_move rfl rfl)) ?_
 simp only [Z0, Z6]
 refine any_firstW 3 (v := .string (bs s)) (hv := (by exact yl_move rfl rfl)) ?_
 simp only [Z0, Z6]
 refine any_firstW 4 (v := .int .i64 s.length) (hv := (by exact yl_lenS rfl rfl rfl U99)) ?_
 simp only [Z0, Z6]
 refine any_firstW 5 (v := .int .i64 (min s.length 200 : Nat)) (hv := (by exact yl_min (n := s.length) (m := 200) rfl rfl rfl)) ?_
 simp only [Z0, Z6]
 refine any_firstW 6 (v := .string (bs (cut s 200))) (hv := (by exact yl_cut (l := s) (m := 200) rfl rfl rfl U99)) ?_
 simp only [Z0, Z6]
 refine any_step [0] (by kernel_rfl) rfl (any_one ?_)
 refine any_opL 0 (by rfl) ?_
 simp only [Z7, Z8]
 refine cM 1 fun Lk hLk => ?_
 refine vP (pvLf (cs := [.int .i64 a] ++ [.string (bs r)] ++ [.int .i64 b] ++ [.string (bs g)]) (range_join (range_join (range_join (M.r 0 0 rfl rfl) (M.r 0 1 rfl rfl) (by simp [flen])) (M.r 0 2 rfl rfl) (by simp [flen])) (M.r 0 3 rfl rfl) (by simp [flen])) (M.lt 0 rfl)) ?_
 refine hLk _ fun w8 M => ?_
 refine Z14 (Z22 ?_)
 refine any_step [1] (by kernel_rfl) rfl (any_one ?_)
 refine any_opL 1 (by rfl) ?_
 simp only [Z7, Z8]
 refine cM 1 fun Lk hLk => ?_
 refine vC (v := .agg ([.int .i64 a, .string (bs rr), .int .i64 b, .string (bs gg)]).toArray) (args := #[.agg ([.int .i64 a] ++ [.string (bs r)] ++ [.int .i64 b] ++ [.string (bs g)] : List Value).toArray]) (fun W => (by have h9 := few10_c (z := ((a : Nat) : Int)) (r := r) (t := ((b : Nat) : Int)) (g := g) (w := W); rw [← hrr, ← hgg] at h9; exact h9)) ?_
 refine hLk _ fun w9 M => ?_
 refine Z14 (Z22 ?_)
 refine any_step [7] (by kernel_rfl) rfl (any_one ?_)
 refine any_opL 7 (by rfl) ?_
 simp only [Z7, Z8]
 refine sTs (segs' := [(0, [.int .i64 a]), (1, [.string (bs rr)]), (2, [.int .i64 b]), (3, [.string (bs gg)])]) 0 fun w10 M => ?_
 refine Z14 (Z22 ?_)
 refine any_firstW 8 (v := .string (bs (cut s 200))) (hv := (by exact yl_assign rfl rfl)) ?_
 simp only [Z0, Z6]
 refine any_end (by kernel_rfl) (Z15 ?_)
 simp only [hss]
 refine k5 _ _ ?_
 refine qS fun _ k11 => ?_
 refine cM 5 fun Lk hLk => ?_
 refine vP (pvLf (cs := [.int .i64 a] ++ [.string (bs rr)] ++ [.int .i64 b] ++ [.string (bs gg)]) (range_join (range_join (range_join (M.r 0 0 rfl rfl) (M.r 0 1 rfl rfl) (by simp [flen])) (M.r 0 2 rfl rfl) (by simp [flen])) (M.r 0 3 rfl rfl) (by simp [flen])) (M.lt 0 rfl)) ?_
 refine vC (v := .tuple #[.string (bs (texL a b rr gg)), .int .i64 0]) (args := #[.agg ([.int .i64 a] ++ [.string (bs rr)] ++ [.int .i64 b] ++ [.string (bs gg)] : List Value).toArray]) (fun W => (by have h9 := Print_ok (a := a) (b := b) (r := rr) (g := gg) (w := W) ha hb hr hg; exact h9)) ?_
 refine vM ?_; refine vE ?_; refine vE ?_
 refine hLk _ fun w13 M => ?_
 refine lg ?_; refine lg ?_; refine lZ k11 ?_
 refine qS fun _ k14 => ?_
 refine lM ?_
 refine cM 4 fun Lk hLk => ?_
 refine vC (fun W => (Parse_nn hl9 hno)) ?_
 refine vM ?_; refine vE ?_; refine vE ?_
 refine hLk _ fun w16 M => ?_
 refine nV 4 fun g17 w18 M => ?_
 refine sTs (segs' := [(0, [.int .i64 0]), (1, [.string (bs ([]))]), (2, [.int .i64 0]), (3, [.string (bs ([]))])]) 0 fun w19 M => ?_
 refine lg ?_; refine lZ k14 ?_
 refine sk fun _ k20 => ?_
 refine sk fun _ k21 => ?_
 refine rG 9 [] fun Lk hLk => ?_
 refine vP (pvLf (cs := [.int .i64 a] ++ [.string (bs rr)] ++ [.int .i64 b] ++ [.string (bs gg)]) (range_join (range_join (range_join (M.r 1 0 rfl rfl) (M.r 1 1 rfl rfl) (by simp [flen])) (M.r 1 2 rfl rfl) (by simp [flen])) (M.r 1 3 rfl rfl) (by simp [flen])) (M.lt 1 rfl)) ?_
 refine vC (v := .bool true) (args := #[.agg ([.int .i64 a] ++ [.string (bs rr)] ++ [.int .i64 b] ++ [.string (bs gg)] : List Value).toArray]) (fun W => (by have h9 := hright_c (z := (a : Int)) (r := rr) (t := (b : Int)) (g := gg) (w := W); rw [rightH_of ha hb hr hg] at h9; exact h9)) ?_
 refine vP (pvLf (cs := [.int .i64 a] ++ [.string (bs rr)] ++ [.int .i64 b] ++ [.string (bs gg)]) (range_join (range_join (range_join (M.r 1 0 rfl rfl) (M.r 1 1 rfl rfl) (by simp [flen])) (M.r 1 2 rfl rfl) (by simp [flen])) (M.r 1 3 rfl rfl) (by simp [flen])) (M.lt 1 rfl)) ?_
 refine vC (v := .bool true) (args := #[.agg ([.int .i64 a] ++ [.string (bs rr)] ++ [.int .i64 b] ++ [.string (bs gg)] : List Value).toArray]) (fun W => (by have h9 := rhright_c (z := (a : Int)) (r := rr) (t := (b : Int)) (g := gg) (w := W); rw [rightH_of ha hb hr hg] at h9; exact h9)) ?_
 refine vGo (v := .bool false) ?_
 simp only [Z0, Z6]
 refine vM ?_
 refine vCh (fun W hW => (alive10_c ((M.sees hW).oldL L1) ((M.sees hW).oldR R1_0 L1) ((M.sees hW).oldL L2) ((M.sees hW).oldR R2_0 L2))) ?_
 refine vt ?_; refine vK ?_
 refine hLk _ fun w23 M => ?_
 refine lZ k21 ?_; refine cF ?_; refine sZ k20 ?_
 refine sk fun _ k24 => ?_
 refine qS fun _ k25 => ?_
 refine cM 3 fun Lk hLk => ?_
 refine vP (pvLf (cs := [.int .i64 a] ++ [.string (bs rr)] ++ [.int .i64 b] ++ [.string (bs gg)]) (range_join (range_join (range_join (M.r 1 0 rfl rfl) (M.r 1 1 rfl rfl) (by simp [flen])) (M.r 1 2 rfl rfl) (by simp [flen])) (M.r 1 3 rfl rfl) (by simp [flen])) (M.lt 1 rfl)) ?_
 refine vC (v := .bool true) (args := #[.agg ([.int .i64 a] ++ [.string (bs rr)] ++ [.int .i64 b] ++ [.string (bs gg)] : List Value).toArray]) (fun W => (by have h9 := rhright_c (z := (a : Int)) (r := rr) (t := (b : Int)) (g := gg) (w := W); rw [rightH_of ha hb hr hg] at h9; exact h9)) ?_
 refine vt ?_
 refine hLk _ fun w27 M => ?_
 refine lZ k25 ?_; refine cF ?_
 refine qS fun _ k28 => ?_
 refine lM ?_
 refine cM 4 fun Lk hLk => ?_
 refine vC (fun W => (Parse_tex ha hb hr hg)) ?_
 refine vM ?_; refine vE ?_; refine vE ?_
 refine hLk _ fun w30 M => ?_
 refine nV 4 fun g31 w32 M => ?_
 refine sTs (segs' := [(0, [.int .i64 a]), (1, [.string (bs rr)]), (2, [.int .i64 b]), (3, [.string (bs gg)])]) 0 fun w33 M => ?_
 refine lg ?_; refine lZ k28 ?_
 refine qS fun _ k34 => ?_
 refine lM ?_
 refine cM 16 fun Lk hLk => ?_
 refine vB (v := .bool false) (hr := run_neq _ _ _ _) ?_
 refine vM ?_; refine vM ?_
 refine vP (pvLf (cs := [.int .i64 a] ++ [.string (bs rr)] ++ [.int .i64 b] ++ [.string (bs gg)]) (range_join (range_join (range_join (M.r 2 0 rfl rfl) (M.r 2 1 rfl rfl) (by simp [flen])) (M.r 2 2 rfl rfl) (by simp [flen])) (M.r 2 3 rfl rfl) (by simp [flen])) (M.lt 2 rfl)) ?_
 refine vC (v := .string (bs (texL a b rr gg))) (args := #[.agg ([.int .i64 a] ++ [.string (bs rr)] ++ [.int .i64 b] ++ [.string (bs gg)] : List Value).toArray]) (fun W => (by have h9 := rtext_c (a := a) (b := b) (r := rr) (g := gg) (w := W) ha hb hr hg; exact h9)) ?_
 refine wpV_binS (v := .bool false) (by rfl) rfl rfl rfl (fun W => (run_neq_bs _ _ _ W).trans (by first | rw [show decide (texL a b rr gg ≠ texL a b rr gg) = false from (decide_eq_false (fun h9 => h9 rfl))] | (show Result.ok (Value.bool (decide (texL a b rr gg ≠ texL a b rr gg))) W = _; rw [show decide (texL a b rr gg ≠ texL a b rr gg) = false from (decide_eq_false (fun h9 => h9 rfl))]))) ?_
 simp only [Z0, Z6]
 refine vK ?_; refine vM ?_; refine vM ?_
 refine vB (v := .bool false) (hr := run_neq _ _ _ _) ?_
 refine vK ?_; refine vM ?_
 refine vP (pvLf (cs := [.int .i64 a] ++ [.string (bs rr)] ++ [.int .i64 b] ++ [.string (bs gg)]) (range_join (range_join (range_join (M.r 0 0 rfl rfl) (M.r 0 1 rfl rfl) (by simp [flen])) (M.r 0 2 rfl rfl) (by simp [flen])) (M.r 0 3 rfl rfl) (by simp [flen])) (M.lt 0 rfl)) ?_
 refine vP (pvLf (cs := [.int .i64 a] ++ [.string (bs rr)] ++ [.int .i64 b] ++ [.string (bs gg)]) (range_join (range_join (range_join (M.r 2 0 rfl rfl) (M.r 2 1 rfl rfl) (by simp [flen])) (M.r 2 2 rfl rfl) (by simp [flen])) (M.r 2 3 rfl rfl) (by simp [flen])) (M.lt 2 rfl)) ?_
 have fE36 : FieldsEq Tryd.prog 1 ([Value.int .i64 a] ++ [Value.string (bs rr)] ++ [Value.int .i64 b] ++ [Value.string (bs gg)]).toArray ([Value.int .i64 a] ++ [Value.string (bs rr)] ++ [Value.int .i64 b] ++ [Value.string (bs gg)]).toArray [(false, 3, 0), (false, 9, 1), (false, 3, 2), (false, 9, 3)] [true, true, true, true] := ⟨rfl, ⟨_, _, (fun W => run_part_one U93 rfl rfl W), (fun W => run_part_one U93 rfl rfl W), ((eq_int U93 a a).bool (decide_eq_true rfl))⟩, rfl, ⟨_, _, (fun W => run_part_one U99 rfl rfl W), (fun W => run_part_one U99 rfl rfl W), ((eq_str U99 rr rr).bool (decide_eq_true rfl))⟩, rfl, ⟨_, _, (fun W => run_part_one U93 rfl rfl W), (fun W => run_part_one U93 rfl rfl W), ((eq_int U93 b b).bool (decide_eq_true rfl))⟩, rfl, ⟨_, _, (fun W => run_part_one U99 rfl rfl W), (fun W => run_part_one U99 rfl rfl W), ((eq_str U99 gg gg).bool (decide_eq_true rfl))⟩, trivial⟩
 have fT37 : EqD Tryd.prog 2 33 (.agg ([Value.int .i64 a] ++ [Value.string (bs rr)] ++ [Value.int .i64 b] ++ [Value.string (bs gg)]).toArray) (.agg ([Value.int .i64 a] ++ [Value.string (bs rr)] ++ [Value.int .i64 b] ++ [Value.string (bs gg)]).toArray) true := (eq_struct (k := 1) (P := Tryd.prog) (T := 33) (xs := [Value.int .i64 a] ++ [Value.string (bs rr)] ++ [Value.int .i64 b] ++ [Value.string (bs gg)]) (ys := [Value.int .i64 a] ++ [Value.string (bs rr)] ++ [Value.int .i64 b] ++ [Value.string (bs gg)]) (fs := [(false, 3, 0), (false, 9, 1), (false, 3, 2), (false, 9, 3)]) (bs := [true, true, true, true]) U933 (by kernel_rfl) (by kernel_rfl) fE36).bool (by simp only [List.all_cons, List.all_nil, id, Bool.and_true, Bool.true_and])
 refine wpV_neqT (k := 2) (u := [Value.int .i64 a] ++ [Value.string (bs rr)] ++ [Value.int .i64 b] ++ [Value.string (bs gg)]) (v := [Value.int .i64 a] ++ [Value.string (bs rr)] ++ [Value.int .i64 b] ++ [Value.string (bs gg)]) (b := true) (by rfl) rfl rfl rfl (by kernel_rfl) fT37 (by decide) ?_
 simp only [Bool.not_true, Bool.not_false]
 simp only [Z0, Z6]
 refine vK ?_
 refine hLk _ fun w38 M => ?_
 refine lZ k34 ?_; refine cF ?_; refine sZ k24 ?_
 refine qS fun _ k39 => ?_
 refine lM ?_
 refine cM 4 fun Lk hLk => ?_
 refine vC (fun W => (rParse_nn hno)) ?_
 refine vM ?_; refine vE ?_; refine vE ?_
 refine hLk _ fun w41 M => ?_
 refine nV 4 fun g42 w43 M => ?_
 refine sTs (segs' := [(0, [.int .i64 (plz ss)]), (1, [.string (bs (plr ss))]), (2, [.int .i64 (plt ss)]), (3, [.string (bs (plg ss))])]) 0 fun w44 M => ?_
 refine lg ?_; refine lZ k39 ?_
 refine sk fun _ _ => ?_
 refine qS fun _ k46 => ?_
 refine lM ?_; refine lu ?_; refine lZ k46 ?_; refine cT ?_
 refine qS fun _ k49 => ?_
 refine lM ?_
 refine cM 6 fun Lk hLk => ?_
 refine vB (v := .bool true) (hr := run_eql _ _ _ _) ?_
 refine vM ?_
 refine vP (pvLf (cs := [.int .i64 0] ++ [.string (bs ([]))] ++ [.int .i64 0] ++ [.string (bs ([]))]) (range_join (range_join (range_join (M.r 2 0 rfl rfl) (M.r 2 1 rfl rfl) (by simp [flen])) (M.r 2 2 rfl rfl) (by simp [flen])) (M.r 2 3 rfl rfl) (by simp [flen])) (M.lt 2 rfl)) ?_
 refine vGk (v := .agg ([.int .i64 0, .string { data := #[] }, .int .i64 0, .string { data := #[] }]).toArray) ?_
 simp only [Z0, Z6]
 have fE51 : FieldsEq Tryd.prog 1 ([Value.int .i64 0] ++ [Value.string (bs ([]))] ++ [Value.int .i64 0] ++ [Value.string (bs ([]))]).toArray ([Value.int .i64 0, Value.string { data := #[] }, Value.int .i64 0, Value.string { data := #[] }]).toArray [(false, 3, 0), (false, 9, 1), (false, 3, 2), (false, 9, 3)] [true, true, true, true] := ⟨rfl, ⟨_, _, (fun W => run_part_one U93 rfl rfl W), (fun W => run_part_one U93 rfl rfl W), ((eq_int U93 0 0).bool (decide_eq_true rfl))⟩, rfl, ⟨_, _, (fun W => run_part_one U99 rfl rfl W), (fun W => run_part_one U99 rfl rfl W), ((eq_str U99 ([]) ([])).bool (decide_eq_true rfl))⟩, rfl, ⟨_, _, (fun W => run_part_one U93 rfl rfl W), (fun W => run_part_one U93 rfl rfl W), ((eq_int U93 0 0).bool (decide_eq_true rfl))⟩, rfl, ⟨_, _, (fun W => run_part_one U99 rfl rfl W), (fun W => run_part_one U99 rfl rfl W), ((eq_str U99 ([]) ([])).bool (decide_eq_true rfl))⟩, trivial⟩
 have fT52 : EqD Tryd.prog 2 33 (.agg ([Value.int .i64 0] ++ [Value.string (bs ([]))] ++ [Value.int .i64 0] ++ [Value.string (bs ([]))]).toArray) (.agg ([Value.int .i64 0, Value.string { data := #[] }, Value.int .i64 0, Value.string { data := #[] }]).toArray) true := (eq_struct (k := 1) (P := Tryd.prog) (T := 33) (xs := [Value.int .i64 0] ++ [Value.string (bs ([]))] ++ [Value.int .i64 0] ++ [Value.string (bs ([]))]) (ys := [Value.int .i64 0, Value.string { data := #[] }, Value.int .i64 0, Value.string { data := #[] }]) (fs := [(false, 3, 0), (false, 9, 1), (false, 3, 2), (false, 9, 3)]) (bs := [true, true, true, true]) U933 (by kernel_rfl) (by kernel_rfl) fE51).bool (by simp only [List.all_cons, List.all_nil, id, Bool.and_true, Bool.true_and])
 refine wpV_eqlT (k := 2) (u := [Value.int .i64 0] ++ [Value.string (bs ([]))] ++ [Value.int .i64 0] ++ [Value.string (bs ([]))]) (v := [Value.int .i64 0, Value.string { data := #[] }, Value.int .i64 0, Value.string { data := #[] }]) (b := true) (by rfl) rfl rfl rfl (by kernel_rfl) fT52 (by decide) ?_
 simp only [Z0, Z6]
 refine vK ?_
 refine hLk _ fun w53 M => ?_
 refine lg ?_; refine lZ k49 ?_; refine rt1 ?_
 exact ⟨rfl, M.below⟩
set_option maxHeartbeats 4000000 in
theorem texts_ny {a2 b2 : Nat} {r2 g2 s : List UInt8} {z t : Int} {r g rr gg : List UInt8} {w : World} (hrr : rr = cut r 40) (hgg : gg = cut g 70) (hss : cut s 200 = texL a2 b2 r2 g2) (ha2 : a2 ≤ 4096) (hb2 : b2 ≤ 1099511627776) (hr2 : r2.length = 32) (hg2 : g2.length = 64) (h0 : rightH z rr t gg = false) (L1 : 1 < w.heap.size) (R1_0 : w.rangeAt 1 0 kcells) (L2 : 2 < w.heap.size) (R2_0 : w.rangeAt 2 0 kcellsq) :
  Calls Tryd.prog 5 #[.agg ([.int .i64 z, .string (bs r), .int .i64 t, .string (bs g)]).toArray, .string (bs s)] w fun e w' => e = .returned (.bool true) ∧ Below w.heap.size w w' := by
 go_enter G95, T95
 have M := Mem.start w
 refine qS fun _ k1 => ?_
 refine nVs (segs := [(0, [.int .i64 z]), (1, [.string (bs r)]), (2, [.int .i64 t]), (3, [.string (bs g)])]) 4 fun g3 w4 M => ?_
 refine lg ?_; refine lZ k1 ?_
 refine sk fun _ k5 => ?_
 refine wp_region_treeN (by kernel_rfl) (fun w7 Sw7 => ?_)
 replace M := M.sees Sw7
 refine any_firstW 2 (v := .string (bs s)) (hv := (by exact yl_move rfl rfl)) ?_
 simp only [Z0, Z6]
 refine any_firstW 3 (v := .string (bs s)) (hv := (by exact yl_move rfl rfl)) ?_
 simp only [Z0, Z6]
 refine any_firstW 4 (v := .int .i64 s.length) (hv := (by exact yl_lenS rfl rfl rfl U99)) ?_
 simp only [Z0, Z6]
 refine any_firstW 5 (v := .int .i64 (min s.length 200 : Nat)) (hv := (by exact yl_min (n := s.length) (m := 200) rfl rfl rfl)) ?_
 simp only [Z0, Z6]
 refine any_firstW 6 (v := .string (bs (cut s 200))) (hv := (by exact yl_cut (l := s) (m := 200) rfl rfl rfl U99)) ?_
 simp only [Z0, Z6]
 refine any_step [0] (by kernel_rfl) rfl (any_one ?_)
 refine any_opL 0 (by rfl) ?_
 simp only [Z7, Z8]
 refine cM 1 fun Lk hLk => ?_
 refine vP (pvLf (cs := [.int .i64 z] ++ [.string (bs r)] ++ [.int .i64 t] ++ [.string (bs g)]) (range_join (range_join (range_join (M.r 0 0 rfl rfl) (M.r 0 1 rfl rfl) (by simp [flen])) (M.r 0 2 rfl rfl) (by simp [flen])) (M.r 0 3 rfl rfl) (by simp [flen])) (M.lt 0 rfl)) ?_
 refine hLk _ fun w8 M => ?_
 refine Z14 (Z22 ?_)
 refine any_step [1] (by kernel_rfl) rfl (any_one ?_)
 refine any_opL 1 (by rfl) ?_
 simp only [Z7, Z8]
 refine cM 1 fun Lk hLk => ?_
 refine vC (v := .agg ([.int .i64 z, .string (bs rr), .int .i64 t, .string (bs gg)]).toArray) (args := #[.agg ([.int .i64 z] ++ [.string (bs r)] ++ [.int .i64 t] ++ [.string (bs g)] : List Value).toArray]) (fun W => (by have h9 := few10_c (z := z) (r := r) (t := t) (g := g) (w := W); rw [← hrr, ← hgg] at h9; exact h9)) ?_
 refine hLk _ fun w9 M => ?_
 refine Z14 (Z22 ?_)
 refine any_step [7] (by kernel_rfl) rfl (any_one ?_)
 refine any_opL 7 (by rfl) ?_
 simp only [Z7, Z8]
 refine sTs (segs' := [(0, [.int .i64 z]), (1, [.string (bs rr)]), (2, [.int .i64 t]), (3, [.string (bs gg)])]) 0 fun w10 M => ?_
 refine Z14 (Z22 ?_)
 refine any_firstW 8 (v := .string (bs (cut s 200))) (hv := (by exact yl_assign rfl rfl)) ?_
 simp only [Z0, Z6]
 refine any_end (by kernel_rfl) (Z15 ?_)
 simp only [hss]
 refine k5 _ _ ?_
 refine qS fun _ k11 => ?_
 refine cM 5 fun Lk hLk => ?_
 refine vP (pvLf (cs := [.int .i64 z] ++ [.string (bs rr)] ++ [.int .i64 t] ++ [.string (bs gg)]) (range_join (range_join (range_join (M.r 0 0 rfl rfl) (M.r 0 1 rfl rfl) (by simp [flen])) (M.r 0 2 rfl rfl) (by simp [flen])) (M.r 0 3 rfl rfl) (by simp [flen])) (M.lt 0 rfl)) ?_
 refine vC (v := .tuple #[.string (bs ([])), .int .i64 1]) (args := #[.agg ([.int .i64 z] ++ [.string (bs rr)] ++ [.int .i64 t] ++ [.string (bs gg)] : List Value).toArray]) (fun W => (by have h9 := Print_no (z := z) (r := rr) (t := t) (g := gg) (w := W) h0; exact h9)) ?_
 refine vM ?_; refine vE ?_; refine vE ?_
 refine hLk _ fun w13 M => ?_
 refine lg ?_; refine lg ?_; refine lZ k11 ?_
 refine qS fun _ k14 => ?_
 refine lM ?_
 refine cM 4 fun Lk hLk => ?_
 refine vC (fun W => (Parse_tex ha2 hb2 hr2 hg2)) ?_
 refine vM ?_; refine vE ?_; refine vE ?_
 refine hLk _ fun w16 M => ?_
 refine nV 4 fun g17 w18 M => ?_
 refine sTs (segs' := [(0, [.int .i64 a2]), (1, [.string (bs r2)]), (2, [.int .i64 b2]), (3, [.string (bs g2)])]) 0 fun w19 M => ?_
 refine lg ?_; refine lZ k14 ?_
 refine sk fun _ k20 => ?_
 refine sk fun _ k21 => ?_
 refine rG 9 [] fun Lk hLk => ?_
 refine vP (pvLf (cs := [.int .i64 z] ++ [.string (bs rr)] ++ [.int .i64 t] ++ [.string (bs gg)]) (range_join (range_join (range_join (M.r 1 0 rfl rfl) (M.r 1 1 rfl rfl) (by simp [flen])) (M.r 1 2 rfl rfl) (by simp [flen])) (M.r 1 3 rfl rfl) (by simp [flen])) (M.lt 1 rfl)) ?_
 refine vC (v := .bool false) (args := #[.agg ([.int .i64 z] ++ [.string (bs rr)] ++ [.int .i64 t] ++ [.string (bs gg)] : List Value).toArray]) (fun W => (by have h9 := hright_c (z := z) (r := rr) (t := t) (g := gg) (w := W); rw [h0] at h9; exact h9)) ?_
 refine vP (pvLf (cs := [.int .i64 z] ++ [.string (bs rr)] ++ [.int .i64 t] ++ [.string (bs gg)]) (range_join (range_join (range_join (M.r 1 0 rfl rfl) (M.r 1 1 rfl rfl) (by simp [flen])) (M.r 1 2 rfl rfl) (by simp [flen])) (M.r 1 3 rfl rfl) (by simp [flen])) (M.lt 1 rfl)) ?_
 refine vC (v := .bool false) (args := #[.agg ([.int .i64 z] ++ [.string (bs rr)] ++ [.int .i64 t] ++ [.string (bs gg)] : List Value).toArray]) (fun W => (by have h9 := rhright_c (z := z) (r := rr) (t := t) (g := gg) (w := W); rw [h0] at h9; exact h9)) ?_
 refine vGo (v := .bool false) ?_
 simp only [Z0, Z6]
 refine vM ?_
 refine vCh (fun W hW => (alive10_c ((M.sees hW).oldL L1) ((M.sees hW).oldR R1_0 L1) ((M.sees hW).oldL L2) ((M.sees hW).oldR R2_0 L2))) ?_
 refine vt ?_; refine vK ?_
 refine hLk _ fun w23 M => ?_
 refine lZ k21 ?_; refine cF ?_; refine sZ k20 ?_
 refine sk fun _ k24 => ?_
 refine qS fun _ k25 => ?_
 refine cM 3 fun Lk hLk => ?_
 refine vP (pvLf (cs := [.int .i64 z] ++ [.string (bs rr)] ++ [.int .i64 t] ++ [.string (bs gg)]) (range_join (range_join (range_join (M.r 1 0 rfl rfl) (M.r 1 1 rfl rfl) (by simp [flen])) (M.r 1 2 rfl rfl) (by simp [flen])) (M.r 1 3 rfl rfl) (by simp [flen])) (M.lt 1 rfl)) ?_
 refine vC (v := .bool false) (args := #[.agg ([.int .i64 z] ++ [.string (bs rr)] ++ [.int .i64 t] ++ [.string (bs gg)] : List Value).toArray]) (fun W => (by have h9 := rhright_c (z := z) (r := rr) (t := t) (g := gg) (w := W); rw [h0] at h9; exact h9)) ?_
 refine vu ?_
 refine hLk _ fun w27 M => ?_
 refine lZ k25 ?_; refine cT ?_
 refine qS fun _ k28 => ?_
 refine lM ?_
 refine cM 5 fun Lk hLk => ?_
 refine vB (v := .bool false) (hr := run_neq _ _ _ _) ?_
 refine vM ?_; refine vM ?_
 refine wpV_binS (v := .bool false) (by rfl) rfl rfl rfl (fun W => (run_neq_bs _ _ _ W).trans (by first | rw [show decide ([] ≠ []) = false from (decide_eq_false (fun h9 => h9 rfl))] | (show Result.ok (Value.bool (decide ([] ≠ []))) W = _; rw [show decide ([] ≠ []) = false from (decide_eq_false (fun h9 => h9 rfl))]))) ?_
 simp only [Z0, Z6]
 refine vK ?_
 refine hLk _ fun w30 M => ?_
 refine lZ k28 ?_; refine cF ?_; refine sZ k24 ?_
 refine qS fun _ k31 => ?_
 refine lM ?_
 refine cM 4 fun Lk hLk => ?_
 refine vC (fun W => (rParse_tex ha2 hb2 hr2 hg2)) ?_
 refine vM ?_; refine vE ?_; refine vE ?_
 refine hLk _ fun w33 M => ?_
 refine nV 4 fun g34 w35 M => ?_
 refine sTs (segs' := [(0, [.int .i64 a2]), (1, [.string (bs r2)]), (2, [.int .i64 b2]), (3, [.string (bs g2)])]) 0 fun w36 M => ?_
 refine lg ?_; refine lZ k31 ?_
 refine sk fun _ k37 => ?_
 refine qS fun _ k38 => ?_
 refine lM ?_; refine lt ?_; refine lZ k38 ?_; refine cF ?_; refine sZ k37 ?_
 refine qS fun _ k41 => ?_
 refine lM ?_
 refine cM 6 fun Lk hLk => ?_
 refine vB (v := .bool true) (hr := run_eql _ _ _ _) ?_
 refine vM ?_
 refine vP (pvLf (cs := [.int .i64 a2] ++ [.string (bs r2)] ++ [.int .i64 b2] ++ [.string (bs g2)]) (range_join (range_join (range_join (M.r 1 0 rfl rfl) (M.r 1 1 rfl rfl) (by simp [flen])) (M.r 1 2 rfl rfl) (by simp [flen])) (M.r 1 3 rfl rfl) (by simp [flen])) (M.lt 1 rfl)) ?_
 refine vP (pvLf (cs := [.int .i64 a2] ++ [.string (bs r2)] ++ [.int .i64 b2] ++ [.string (bs g2)]) (range_join (range_join (range_join (M.r 0 0 rfl rfl) (M.r 0 1 rfl rfl) (by simp [flen])) (M.r 0 2 rfl rfl) (by simp [flen])) (M.r 0 3 rfl rfl) (by simp [flen])) (M.lt 0 rfl)) ?_
 have fE43 : FieldsEq Tryd.prog 1 ([Value.int .i64 a2] ++ [Value.string (bs r2)] ++ [Value.int .i64 b2] ++ [Value.string (bs g2)]).toArray ([Value.int .i64 a2] ++ [Value.string (bs r2)] ++ [Value.int .i64 b2] ++ [Value.string (bs g2)]).toArray [(false, 3, 0), (false, 9, 1), (false, 3, 2), (false, 9, 3)] [true, true, true, true] := ⟨rfl, ⟨_, _, (fun W => run_part_one U93 rfl rfl W), (fun W => run_part_one U93 rfl rfl W), ((eq_int U93 a2 a2).bool (decide_eq_true rfl))⟩, rfl, ⟨_, _, (fun W => run_part_one U99 rfl rfl W), (fun W => run_part_one U99 rfl rfl W), ((eq_str U99 r2 r2).bool (decide_eq_true rfl))⟩, rfl, ⟨_, _, (fun W => run_part_one U93 rfl rfl W), (fun W => run_part_one U93 rfl rfl W), ((eq_int U93 b2 b2).bool (decide_eq_true rfl))⟩, rfl, ⟨_, _, (fun W => run_part_one U99 rfl rfl W), (fun W => run_part_one U99 rfl rfl W), ((eq_str U99 g2 g2).bool (decide_eq_true rfl))⟩, trivial⟩
 have fT44 : EqD Tryd.prog 2 33 (.agg ([Value.int .i64 a2] ++ [Value.string (bs r2)] ++ [Value.int .i64 b2] ++ [Value.string (bs g2)]).toArray) (.agg ([Value.int .i64 a2] ++ [Value.string (bs r2)] ++ [Value.int .i64 b2] ++ [Value.string (bs g2)]).toArray) true := (eq_struct (k := 1) (P := Tryd.prog) (T := 33) (xs := [Value.int .i64 a2] ++ [Value.string (bs r2)] ++ [Value.int .i64 b2] ++ [Value.string (bs g2)]) (ys := [Value.int .i64 a2] ++ [Value.string (bs r2)] ++ [Value.int .i64 b2] ++ [Value.string (bs g2)]) (fs := [(false, 3, 0), (false, 9, 1), (false, 3, 2), (false, 9, 3)]) (bs := [true, true, true, true]) U933 (by kernel_rfl) (by kernel_rfl) fE43).bool (by simp only [List.all_cons, List.all_nil, id, Bool.and_true, Bool.true_and])
 refine wpV_eqlT (k := 2) (u := [Value.int .i64 a2] ++ [Value.string (bs r2)] ++ [Value.int .i64 b2] ++ [Value.string (bs g2)]) (v := [Value.int .i64 a2] ++ [Value.string (bs r2)] ++ [Value.int .i64 b2] ++ [Value.string (bs g2)]) (b := true) (by rfl) rfl rfl rfl (by kernel_rfl) fT44 (by decide) ?_
 simp only [Z0, Z6]
 refine vK ?_
 refine hLk _ fun w45 M => ?_
 refine lg ?_; refine lZ k41 ?_; refine rt1 ?_
 exact ⟨rfl, M.below⟩
set_option maxHeartbeats 4000000 in
theorem texts_nn {s ss : List UInt8} {z t : Int} {r g rr gg : List UInt8} {w : World} (hrr : rr = cut r 40) (hgg : gg = cut g 70) (hss : cut s 200 = ss) (hl9 : ss.length ≤ 65536) (hno : ¬ IsTex ss) (h0 : rightH z rr t gg = false) (L1 : 1 < w.heap.size) (R1_0 : w.rangeAt 1 0 kcells) (L2 : 2 < w.heap.size) (R2_0 : w.rangeAt 2 0 kcellsq) :
  Calls Tryd.prog 5 #[.agg ([.int .i64 z, .string (bs r), .int .i64 t, .string (bs g)]).toArray, .string (bs s)] w fun e w' => e = .returned (.bool true) ∧ Below w.heap.size w w' := by
 go_enter G95, T95
 have M := Mem.start w
 refine qS fun _ k1 => ?_
 refine nVs (segs := [(0, [.int .i64 z]), (1, [.string (bs r)]), (2, [.int .i64 t]), (3, [.string (bs g)])]) 4 fun g3 w4 M => ?_
 refine lg ?_; refine lZ k1 ?_
 refine sk fun _ k5 => ?_
 refine wp_region_treeN (by kernel_rfl) (fun w7 Sw7 => ?_)
 replace M := M.sees Sw7
 refine any_firstW 2 (v := .string (bs s)) (hv := (by exact yl_move rfl rfl)) ?_
 simp only [Z0, Z6]
 refine any_firstW 3 (v := .string (bs s)) (hv := (by exact yl_move rfl rfl)) ?_
 simp only [Z0, Z6]
 refine any_firstW 4 (v := .int .i64 s.length) (hv := (by exact yl_lenS rfl rfl rfl U99)) ?_
 simp only [Z0, Z6]
 refine any_firstW 5 (v := .int .i64 (min s.length 200 : Nat)) (hv := (by exact yl_min (n := s.length) (m := 200) rfl rfl rfl)) ?_
 simp only [Z0, Z6]
 refine any_firstW 6 (v := .string (bs (cut s 200))) (hv := (by exact yl_cut (l := s) (m := 200) rfl rfl rfl U99)) ?_
 simp only [Z0, Z6]
 refine any_step [0] (by kernel_rfl) rfl (any_one ?_)
 refine any_opL 0 (by rfl) ?_
 simp only [Z7, Z8]
 refine cM 1 fun Lk hLk => ?_
 refine vP (pvLf (cs := [.int .i64 z] ++ [.string (bs r)] ++ [.int .i64 t] ++ [.string (bs g)]) (range_join (range_join (range_join (M.r 0 0 rfl rfl) (M.r 0 1 rfl rfl) (by simp [flen])) (M.r 0 2 rfl rfl) (by simp [flen])) (M.r 0 3 rfl rfl) (by simp [flen])) (M.lt 0 rfl)) ?_
 refine hLk _ fun w8 M => ?_
 refine Z14 (Z22 ?_)
 refine any_step [1] (by kernel_rfl) rfl (any_one ?_)
 refine any_opL 1 (by rfl) ?_
 simp only [Z7, Z8]
 refine cM 1 fun Lk hLk => ?_
 refine vC (v := .agg ([.int .i64 z, .string (bs rr), .int .i64 t, .string (bs gg)]).toArray) (args := #[.agg ([.int .i64 z] ++ [.string (bs r)] ++ [.int .i64 t] ++ [.string (bs g)] : List Value).toArray]) (fun W => (by have h9 := few10_c (z := z) (r := r) (t := t) (g := g) (w := W); rw [← hrr, ← hgg] at h9; exact h9)) ?_
 refine hLk _ fun w9 M => ?_
 refine Z14 (Z22 ?_)
 refine any_step [7] (by kernel_rfl) rfl (any_one ?_)
 refine any_opL 7 (by rfl) ?_
 simp only [Z7, Z8]
 refine sTs (segs' := [(0, [.int .i64 z]), (1, [.string (bs rr)]), (2, [.int .i64 t]), (3, [.string (bs gg)])]) 0 fun w10 M => ?_
 refine Z14 (Z22 ?_)
 refine any_firstW 8 (v := .string (bs (cut s 200))) (hv := (by exact yl_assign rfl rfl)) ?_
 simp only [Z0, Z6]
 refine any_end (by kernel_rfl) (Z15 ?_)
 simp only [hss]
 refine k5 _ _ ?_
 refine qS fun _ k11 => ?_
 refine cM 5 fun Lk hLk => ?_
 refine vP (pvLf (cs := [.int .i64 z] ++ [.string (bs rr)] ++ [.int .i64 t] ++ [.string (bs gg)]) (range_join (range_join (range_join (M.r 0 0 rfl rfl) (M.r 0 1 rfl rfl) (by simp [flen])) (M.r 0 2 rfl rfl) (by simp [flen])) (M.r 0 3 rfl rfl) (by simp [flen])) (M.lt 0 rfl)) ?_
 refine vC (v := .tuple #[.string (bs ([])), .int .i64 1]) (args := #[.agg ([.int .i64 z] ++ [.string (bs rr)] ++ [.int .i64 t] ++ [.string (bs gg)] : List Value).toArray]) (fun W => (by have h9 := Print_no (z := z) (r := rr) (t := t) (g := gg) (w := W) h0; exact h9)) ?_
 refine vM ?_; refine vE ?_; refine vE ?_
 refine hLk _ fun w13 M => ?_
 refine lg ?_; refine lg ?_; refine lZ k11 ?_
 refine qS fun _ k14 => ?_
 refine lM ?_
 refine cM 4 fun Lk hLk => ?_
 refine vC (fun W => (Parse_nn hl9 hno)) ?_
 refine vM ?_; refine vE ?_; refine vE ?_
 refine hLk _ fun w16 M => ?_
 refine nV 4 fun g17 w18 M => ?_
 refine sTs (segs' := [(0, [.int .i64 0]), (1, [.string (bs ([]))]), (2, [.int .i64 0]), (3, [.string (bs ([]))])]) 0 fun w19 M => ?_
 refine lg ?_; refine lZ k14 ?_
 refine sk fun _ k20 => ?_
 refine sk fun _ k21 => ?_
 refine rG 9 [] fun Lk hLk => ?_
 refine vP (pvLf (cs := [.int .i64 z] ++ [.string (bs rr)] ++ [.int .i64 t] ++ [.string (bs gg)]) (range_join (range_join (range_join (M.r 1 0 rfl rfl) (M.r 1 1 rfl rfl) (by simp [flen])) (M.r 1 2 rfl rfl) (by simp [flen])) (M.r 1 3 rfl rfl) (by simp [flen])) (M.lt 1 rfl)) ?_
 refine vC (v := .bool false) (args := #[.agg ([.int .i64 z] ++ [.string (bs rr)] ++ [.int .i64 t] ++ [.string (bs gg)] : List Value).toArray]) (fun W => (by have h9 := hright_c (z := z) (r := rr) (t := t) (g := gg) (w := W); rw [h0] at h9; exact h9)) ?_
 refine vP (pvLf (cs := [.int .i64 z] ++ [.string (bs rr)] ++ [.int .i64 t] ++ [.string (bs gg)]) (range_join (range_join (range_join (M.r 1 0 rfl rfl) (M.r 1 1 rfl rfl) (by simp [flen])) (M.r 1 2 rfl rfl) (by simp [flen])) (M.r 1 3 rfl rfl) (by simp [flen])) (M.lt 1 rfl)) ?_
 refine vC (v := .bool false) (args := #[.agg ([.int .i64 z] ++ [.string (bs rr)] ++ [.int .i64 t] ++ [.string (bs gg)] : List Value).toArray]) (fun W => (by have h9 := rhright_c (z := z) (r := rr) (t := t) (g := gg) (w := W); rw [h0] at h9; exact h9)) ?_
 refine vGo (v := .bool false) ?_
 simp only [Z0, Z6]
 refine vM ?_
 refine vCh (fun W hW => (alive10_c ((M.sees hW).oldL L1) ((M.sees hW).oldR R1_0 L1) ((M.sees hW).oldL L2) ((M.sees hW).oldR R2_0 L2))) ?_
 refine vt ?_; refine vK ?_
 refine hLk _ fun w23 M => ?_
 refine lZ k21 ?_; refine cF ?_; refine sZ k20 ?_
 refine sk fun _ k24 => ?_
 refine qS fun _ k25 => ?_
 refine cM 3 fun Lk hLk => ?_
 refine vP (pvLf (cs := [.int .i64 z] ++ [.string (bs rr)] ++ [.int .i64 t] ++ [.string (bs gg)]) (range_join (range_join (range_join (M.r 1 0 rfl rfl) (M.r 1 1 rfl rfl) (by simp [flen])) (M.r 1 2 rfl rfl) (by simp [flen])) (M.r 1 3 rfl rfl) (by simp [flen])) (M.lt 1 rfl)) ?_
 refine vC (v := .bool false) (args := #[.agg ([.int .i64 z] ++ [.string (bs rr)] ++ [.int .i64 t] ++ [.string (bs gg)] : List Value).toArray]) (fun W => (by have h9 := rhright_c (z := z) (r := rr) (t := t) (g := gg) (w := W); rw [h0] at h9; exact h9)) ?_
 refine vu ?_
 refine hLk _ fun w27 M => ?_
 refine lZ k25 ?_; refine cT ?_
 refine qS fun _ k28 => ?_
 refine lM ?_
 refine cM 5 fun Lk hLk => ?_
 refine vB (v := .bool false) (hr := run_neq _ _ _ _) ?_
 refine vM ?_; refine vM ?_
 refine wpV_binS (v := .bool false) (by rfl) rfl rfl rfl (fun W => (run_neq_bs _ _ _ W).trans (by first | rw [show decide ([] ≠ []) = false from (decide_eq_false (fun h9 => h9 rfl))] | (show Result.ok (Value.bool (decide ([] ≠ []))) W = _; rw [show decide ([] ≠ []) = false from (decide_eq_false (fun h9 => h9 rfl))]))) ?_
 simp only [Z0, Z6]
 refine vK ?_
 refine hLk _ fun w30 M => ?_
 refine lZ k28 ?_; refine cF ?_; refine sZ k24 ?_
 refine qS fun _ k31 => ?_
 refine lM ?_
 refine cM 4 fun Lk hLk => ?_
 refine vC (fun W => (rParse_nn hno)) ?_
 refine vM ?_; refine vE ?_; refine vE ?_
 refine hLk _ fun w33 M => ?_
 refine nV 4 fun g34 w35 M => ?_
 refine sTs (segs' := [(0, [.int .i64 (plz ss)]), (1, [.string (bs (plr ss))]), (2, [.int .i64 (plt ss)]), (3, [.string (bs (plg ss))])]) 0 fun w36 M => ?_
 refine lg ?_; refine lZ k31 ?_
 refine sk fun _ _ => ?_
 refine qS fun _ k38 => ?_
 refine lM ?_; refine lu ?_; refine lZ k38 ?_; refine cT ?_
 refine qS fun _ k41 => ?_
 refine lM ?_
 refine cM 6 fun Lk hLk => ?_
 refine vB (v := .bool true) (hr := run_eql _ _ _ _) ?_
 refine vM ?_
 refine vP (pvLf (cs := [.int .i64 0] ++ [.string (bs ([]))] ++ [.int .i64 0] ++ [.string (bs ([]))]) (range_join (range_join (range_join (M.r 1 0 rfl rfl) (M.r 1 1 rfl rfl) (by simp [flen])) (M.r 1 2 rfl rfl) (by simp [flen])) (M.r 1 3 rfl rfl) (by simp [flen])) (M.lt 1 rfl)) ?_
 refine vGk (v := .agg ([.int .i64 0, .string { data := #[] }, .int .i64 0, .string { data := #[] }]).toArray) ?_
 simp only [Z0, Z6]
 have fE43 : FieldsEq Tryd.prog 1 ([Value.int .i64 0] ++ [Value.string (bs ([]))] ++ [Value.int .i64 0] ++ [Value.string (bs ([]))]).toArray ([Value.int .i64 0, Value.string { data := #[] }, Value.int .i64 0, Value.string { data := #[] }]).toArray [(false, 3, 0), (false, 9, 1), (false, 3, 2), (false, 9, 3)] [true, true, true, true] := ⟨rfl, ⟨_, _, (fun W => run_part_one U93 rfl rfl W), (fun W => run_part_one U93 rfl rfl W), ((eq_int U93 0 0).bool (decide_eq_true rfl))⟩, rfl, ⟨_, _, (fun W => run_part_one U99 rfl rfl W), (fun W => run_part_one U99 rfl rfl W), ((eq_str U99 ([]) ([])).bool (decide_eq_true rfl))⟩, rfl, ⟨_, _, (fun W => run_part_one U93 rfl rfl W), (fun W => run_part_one U93 rfl rfl W), ((eq_int U93 0 0).bool (decide_eq_true rfl))⟩, rfl, ⟨_, _, (fun W => run_part_one U99 rfl rfl W), (fun W => run_part_one U99 rfl rfl W), ((eq_str U99 ([]) ([])).bool (decide_eq_true rfl))⟩, trivial⟩
 have fT44 : EqD Tryd.prog 2 33 (.agg ([Value.int .i64 0] ++ [Value.string (bs ([]))] ++ [Value.int .i64 0] ++ [Value.string (bs ([]))]).toArray) (.agg ([Value.int .i64 0, Value.string { data := #[] }, Value.int .i64 0, Value.string { data := #[] }]).toArray) true := (eq_struct (k := 1) (P := Tryd.prog) (T := 33) (xs := [Value.int .i64 0] ++ [Value.string (bs ([]))] ++ [Value.int .i64 0] ++ [Value.string (bs ([]))]) (ys := [Value.int .i64 0, Value.string { data := #[] }, Value.int .i64 0, Value.string { data := #[] }]) (fs := [(false, 3, 0), (false, 9, 1), (false, 3, 2), (false, 9, 3)]) (bs := [true, true, true, true]) U933 (by kernel_rfl) (by kernel_rfl) fE43).bool (by simp only [List.all_cons, List.all_nil, id, Bool.and_true, Bool.true_and])
 refine wpV_eqlT (k := 2) (u := [Value.int .i64 0] ++ [Value.string (bs ([]))] ++ [Value.int .i64 0] ++ [Value.string (bs ([]))]) (v := [Value.int .i64 0, Value.string { data := #[] }, Value.int .i64 0, Value.string { data := #[] }]) (b := true) (by rfl) rfl rfl rfl (by kernel_rfl) fT44 (by decide) ?_
 simp only [Z0, Z6]
 refine vK ?_
 refine hLk _ fun w45 M => ?_
 refine lg ?_; refine lZ k41 ?_; refine rt1 ?_
 exact ⟨rfl, M.below⟩
theorem texts_c {z t : Int} {r g : List UInt8} {s : List UInt8} {w : World} (L1 : 1 < w.heap.size) (R1_0 : w.rangeAt 1 0 kcells) (L2 : 2 < w.heap.size) (R2_0 : w.rangeAt 2 0 kcellsq) :
  Calls Tryd.prog 5 #[.agg ([.int .i64 z, .string (bs r), .int .i64 t, .string (bs g)]).toArray, .string (bs s)] w fun e w' => e = .returned (.bool true) ∧ Below w.heap.size w w' := by
 have hl : (cut s 200).length ≤ 65536 := by simp [cut]; omega
 cases h : rightH z (cut r 40) t (cut g 70)
 ·
  by_cases hs : IsTex (cut s 200)
  ·
   obtain ⟨a2, b2, r2, g2, ha2, hb2, hr2, hg2, e⟩ := hs
   exact texts_ny rfl rfl e.symm ha2 hb2 hr2 hg2 h L1 R1_0 L2 R2_0
  exact texts_nn rfl rfl rfl hl hs h L1 R1_0 L2 R2_0
 obtain ⟨a, b, rfl, rfl, ha, hb, hr, hg⟩ := rightH_parts h
 by_cases hs : IsTex (cut s 200)
 ·
  obtain ⟨a2, b2, r2, g2, ha2, hb2, hr2, hg2, e⟩ := hs
  exact texts_yy rfl rfl e.symm ha2 hb2 hr2 hg2 ha hb hr hg L1 R1_0 L2 R2_0
 exact texts_yn rfl rfl rfl hl hs ha hb hr hg L1 R1_0 L2 R2_0
end Go.Proofs.Yc

