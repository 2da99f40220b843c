import Derived.WalkKit
import Derived.WalkSpells
import Derived.Laws.Pointers
import Derived.RowKit3
import Derived.Below
import Derived.Outline
import Derived.LoopN
import Derived.Lib.Hide
import Derived.Handy
import Derived.Laws.Bits64b
import Derived.Test.YticcchgckljlnaaDoorPr17
import Derived.Test.YticcchgckljlnaaDoorAdds3
set_option linter.unusedSimpArgs false
set_option linter.unusedVariables false
namespace Go.Proofs.Yb
open Go Go.RowKit Go.Proofs.Num
open List renaming set → Z0, take → Z1, drop → Z2
open Go renaming undef → Z3, wp_seq_k → Z4, wp_cond_true → Z5, wp_cond_false → Z6
open Go.Proofs.Num renaming putT → Z7, wp_region_seq → Z8, wpL_nil → Z9, no_panic → Z10, wpL_chunk → Z11, wpL_move → Z12, wpL_assign → Z13, wpV_nil → Z14, wpV_bin → Z15, wpV_move → Z16, then_normal → Z17, wpL_store1 → Z18, wpV_val → Z19, wpV_callf → Z20
attribute [local irreducible] wpV wpN wpList
theorem drop1_ne {l : List (List UInt8)} (h : 0 < l.length) : (l.drop 1).length ≠ l.length := by
 rw [List.length_drop]
 omega
theorem drop1_32 {l : List (List UInt8)} (h : ∀ s ∈ l, s.length = 32) : ∀ s ∈ l.drop 1, s.length = 32 := fun s hs => h s (List.mem_of_mem_drop hs)
theorem drop1_le {l : List (List UInt8)} {n : Nat} (h : l.length ≤ n) : (l.drop 1).length ≤ n := by
 rw [List.length_drop]
 omega
theorem more_ne {l : List (List UInt8)} {r : List UInt8} : (l ++ [r]).length ≠ l.length := by
 rw [List.length_append, List.length_singleton]
 omega
theorem more_32 {l : List (List UInt8)} {r : List UInt8} (h : ∀ s ∈ l, s.length = 32) (hr : r.length = 32) : ∀ s ∈ l ++ [r], s.length = 32 := fun s hs => by
 rcases List.mem_append.1 hs with e | e
 ·
  exact h s e
 ·
  rw [List.mem_singleton.1 e]; exact hr
theorem more_le {l : List (List UInt8)} {r : List UInt8} (h : l.length ≤ 50) : (l ++ [r]).length ≤ 4611686018427387904 := by
 rw [List.length_append, List.length_singleton]
 omega
theorem scells_more {l : List (List UInt8)} {r : List UInt8} : scells l ++ [.string (bs r)] = scells (l ++ [r]) := by
 simp only [scells, List.map_append, List.map_cons, List.map_nil]
theorem path_50 {l : List (List UInt8)} {i : Nat} (hl : l.length ≤ 50) (hi : i < l.length) : (pathS l i).length ≤ 50 := by
 rw [pathS_len]
 exact Nat.le_trans (depthN_lt (by omega)) (by omega)
theorem step_50 {l : List (List UInt8)} {m : Nat} (hl : l.length ≤ 50) (h1 : 1 ≤ l.length) : (stepP l m).length ≤ 50 := Nat.le_trans (stepP_le h1) hl
theorem FollowsB0 {L st : List (List UInt8)} {ap : Option Addr} {np cp : Nat} {n : Nat} {w : World} (hn : L.length = n) (h1 : 1 ≤ n) (hle : n ≤ 4096) (h32 : ∀ s ∈ L, s.length = 32) (hst : st = stepP L 0) (L0 : 0 < w.heap.size) (R0_0 : w.rangeAt 0 0 kcells) (Hp : RowA w ap np cp (scells st)) :
  Calls Tryd.prog 67 #[.int .i64 0, .int .i64 ((n : Nat) : Int), .string (bs (rootS (L.take 0))), .string (bs (rootS L)), .slice ap np cp] w fun e w' => e = .returned (.int .i64 0) ∧ Below w.heap.size w w' := FollowsB (m := 0) hn h1 (Nat.zero_le _) hle h32 hst L0 R0_0 Hp
set_option maxRecDepth 100000 in
set_option maxHeartbeats 4000000 in
theorem back_nil {ds : List (List UInt8)} {ap : Option Addr} {np cp : Nat} {x y : Int} {L : List (List UInt8)} {w : World} (hds : ds.length ≤ 9223372036854775807) (hL : L = lvD 50 ds (min ds.length 50)) (hz : L.length = 0) (L0 : 0 < w.heap.size) (R0_0 : w.rangeAt 0 0 kcells) (Hp : RowA w ap np cp (scells ds)) :
  Calls Tryd.prog 18 #[.slice ap np cp, .int .i64 x, .int .i64 y] w fun e w' => e = .returned (.bool true) ∧ Below w.heap.size w w' := by
 obtain rfl : np = ds.length := by have := Hp.len; rwa [scells_len] at this
 go_enter Tryd.func18, Tryd.ntmps18
 have M := Mem.start w
 refine Z4 (fun K1 hK1 => ?_)
 refine Z8 ?_
 refine Z13 (v := .bool false) (by rfl) (by rfl) (by rfl) ?_
 simp only [Z7,Z0]
 refine Z9 (Z10 ?_)
 refine hK1 _ _ ?_
 refine Z4 (fun K3 hK3 => ?_)
 refine Z8 ?_
 refine Z12 (v := .slice ap ds.length cp) (by rfl) (by rfl) (by rfl) ?_
 simp only [Z7,Z0]
 refine wpL_callE (f := 53) (args := #[.slice ap ds.length cp]) (R := fun v9 W9 => ∃ a6 c6, v9 = .slice a6 ((lvD 50 ds (min ds.length 50)).length) c6 ∧ RowA W9 a6 (lvD 50 ds (min ds.length 50)).length c6 (scells (lvD 50 ds (min ds.length 50)))) (by rfl) (by rfl) rfl Tryd.func53 (by kernel_rfl) (by kernel_rfl) (sums09_c (ds := ds) hds (M.oldL L0) (M.oldR R0_0 L0) (M.oldA Hp)) (fun v9 w5 hv9 Sw5 => ?_)
 obtain ⟨a6, c6, rfl, H6_0⟩ := hv9
 replace M := M.sees Sw5
 replace R0_0 := M.oldR R0_0 L0
 replace L0 := M.oldL L0
 replace Hp := M.oldA Hp
 have BB := M.below
 replace M := Mem.start w5
 simp only [Z7,Z0]
 refine Z13 (v := .slice a6 ((lvD 50 ds (min ds.length 50)).length) c6) (by rfl) (by rfl) (by rfl) ?_
 simp only [Z7,Z0]
 refine Z9 (Z10 ?_)
 have hL50 : L.length ≤ 50 := by rw [hL, lvD_len (by omega)]; omega
 have hL4 : L.length ≤ 4096 := by omega
 have hL32 : ∀ s ∈ L, s.length = 32 := hL ▸ lvD_32 _ _ _
 have hok : rightB L = true := right_of hL32 (by omega)
 have hr32 : (rootS L).length = 32 := rootS_len hL32
 rw [← hL] at H6_0
 rw [← hL]
 refine hK3 _ _ ?_
 refine Z4 (fun K7 hK7 => ?_)
 refine Z4 (fun K8 hK8 => ?_)
 refine Z8 ?_
 refine Z12 (v := .slice a6 L.length c6) (by rfl) (by rfl) (by rfl) ?_
 simp only [Z7,Z0]
 refine Z11 2 (by rfl) (fun Lk hLk => ?_)
 simp only [Z1,Z2]
 refine wpV_lenA (n := L.length) (by rfl) rfl rfl rfl Tryd.underlying48 ?_
 simp only [Z7,Z0]
 refine Z15 (v := .bool true) (by rfl) rfl rfl rfl (fun W => (run_eqlN L.length 0 _ _ W).trans (by rw [(decide_eq_true hz)])) ?_
 simp only [Z7,Z0]
 refine Z14 (hLk _ (fun w10 Sw10 => ?_))
 clear hLk Lk
 simp only [Z1,Z2]
 replace M := M.sees Sw10
 refine Z9 (Z10 ?_)
 refine hK8 _ _ ?_
 refine Z5 rfl ?_
 refine Z4 (fun K11 hK11 => ?_)
 refine Z8 ?_
 refine Z11 1 (by rfl) (fun Lk hLk => ?_)
 simp only [Z1,Z2]
 refine Z20 (v := .bool true) (args := #[]) (by rfl) rfl Tryd.func49 (by kernel_rfl) (by kernel_rfl) rfl (fun W hW => alive09_c ((M.sees hW).oldL L0) ((M.sees hW).oldR R0_0 L0)) ?_
 simp only [Z7,Z0]
 refine Z14 (hLk _ (fun w13 Sw13 => ?_))
 clear hLk Lk
 simp only [Z1,Z2]
 replace M := M.sees Sw13
 refine Z13 (v := .bool true) (by rfl) (by rfl) (by rfl) ?_
 simp only [Z7,Z0]
 refine Z9 (Z10 ?_)
 refine hK11 _ _ ?_
 refine wp_ret ?_
 repeat (first | with_reducible refine then_ret ?_ | with_reducible refine inblock_ret ?_)
 refine bodyPost_ret (v := .bool true) (res1 rfl (.tmp (by rfl))) rfl ?_
 have BE := M.below
 exact ⟨rfl, BB.trans (BE.mono BB.size)⟩
set_option maxRecDepth 100000 in
set_option maxHeartbeats 4000000 in
theorem back_z {ds : List (List UInt8)} {ap : Option Addr} {np cp : Nat} {x y : Int} {L : List (List UInt8)} {w : World} (hds : ds.length ≤ 9223372036854775807) (hL : L = lvD 50 ds (min ds.length 50)) (hz : ¬ L.length = 0) (hm0 : ((y.tmod ((L.length + 1 : Nat) : Int) + ((L.length + 1 : Nat) : Int)).tmod ((L.length + 1 : Nat) : Int)) = 0) (L0 : 0 < w.heap.size) (R0_0 : w.rangeAt 0 0 kcells) (Hp : RowA w ap np cp (scells ds)) :
  Calls Tryd.prog 18 #[.slice ap np cp, .int .i64 x, .int .i64 y] w fun e w' => e = .returned (.bool true) ∧ Below w.heap.size w w' := by
 obtain rfl : np = ds.length := by have := Hp.len; rwa [scells_len] at this
 have hL1 : 1 ≤ L.length := by omega
 go_enter Tryd.func18, Tryd.ntmps18
 have M := Mem.start w
 refine Z4 (fun K1 hK1 => ?_)
 refine Z8 ?_
 refine Z13 (v := .bool false) (by rfl) (by rfl) (by rfl) ?_
 simp only [Z7,Z0]
 refine Z9 (Z10 ?_)
 refine hK1 _ _ ?_
 refine Z4 (fun K3 hK3 => ?_)
 refine Z8 ?_
 refine Z12 (v := .slice ap ds.length cp) (by rfl) (by rfl) (by rfl) ?_
 simp only [Z7,Z0]
 refine wpL_callE (f := 53) (args := #[.slice ap ds.length cp]) (R := fun v9 W9 => ∃ a6 c6, v9 = .slice a6 ((lvD 50 ds (min ds.length 50)).length) c6 ∧ RowA W9 a6 (lvD 50 ds (min ds.length 50)).length c6 (scells (lvD 50 ds (min ds.length 50)))) (by rfl) (by rfl) rfl Tryd.func53 (by kernel_rfl) (by kernel_rfl) (sums09_c (ds := ds) hds (M.oldL L0) (M.oldR R0_0 L0) (M.oldA Hp)) (fun v9 w5 hv9 Sw5 => ?_)
 obtain ⟨a6, c6, rfl, H6_0⟩ := hv9
 replace M := M.sees Sw5
 replace R0_0 := M.oldR R0_0 L0
 replace L0 := M.oldL L0
 replace Hp := M.oldA Hp
 have BB := M.below
 replace M := Mem.start w5
 simp only [Z7,Z0]
 refine Z13 (v := .slice a6 ((lvD 50 ds (min ds.length 50)).length) c6) (by rfl) (by rfl) (by rfl) ?_
 simp only [Z7,Z0]
 refine Z9 (Z10 ?_)
 have hL50 : L.length ≤ 50 := by rw [hL, lvD_len (by omega)]; omega
 have hL4 : L.length ≤ 4096 := by omega
 have hL32 : ∀ s ∈ L, s.length = 32 := hL ▸ lvD_32 _ _ _
 have hok : rightB L = true := right_of hL32 (by omega)
 have hr32 : (rootS L).length = 32 := rootS_len hL32
 rw [← hL] at H6_0
 rw [← hL]
 refine hK3 _ _ ?_
 refine Z4 (fun K7 hK7 => ?_)
 refine Z4 (fun K8 hK8 => ?_)
 refine Z8 ?_
 refine Z12 (v := .slice a6 L.length c6) (by rfl) (by rfl) (by rfl) ?_
 simp only [Z7,Z0]
 refine Z11 2 (by rfl) (fun Lk hLk => ?_)
 simp only [Z1,Z2]
 refine wpV_lenA (n := L.length) (by rfl) rfl rfl rfl Tryd.underlying48 ?_
 simp only [Z7,Z0]
 refine Z15 (v := .bool false) (by rfl) rfl rfl rfl (fun W => (run_eqlN L.length 0 _ _ W).trans (by rw [(decide_eq_false (by omega))])) ?_
 simp only [Z7,Z0]
 refine Z14 (hLk _ (fun w10 Sw10 => ?_))
 clear hLk Lk
 simp only [Z1,Z2]
 replace M := M.sees Sw10
 refine Z9 (Z10 ?_)
 refine hK8 _ _ ?_
 refine Z6 rfl ?_
 refine wp_skip ?_
 refine hK7 _ _ ?_
 refine Z4 (fun K11 hK11 => ?_)
 refine Z8 ?_
 refine Z12 (v := .slice a6 L.length c6) (by rfl) (by rfl) (by rfl) ?_
 simp only [Z7,Z0]
 refine Z11 1 (by rfl) (fun Lk hLk => ?_)
 simp only [Z1,Z2]
 refine wpV_lenA (n := L.length) (by rfl) rfl rfl rfl Tryd.underlying48 ?_
 simp only [Z7,Z0]
 refine Z14 (hLk _ (fun w13 Sw13 => ?_))
 clear hLk Lk
 simp only [Z1,Z2]
 replace M := M.sees Sw13
 refine Z13 (v := .int .i64 ((L.length : Nat) : Int)) (by rfl) (by rfl) (by rfl) ?_
 simp only [Z7,Z0]
 refine Z9 (Z10 ?_)
 refine hK11 _ _ ?_
 refine Z4 (fun K14 hK14 => ?_)
 obtain ⟨⟨hx1, hx2⟩, i, hi, hi2⟩ := modN x (show 0 < L.length by omega)
 obtain ⟨⟨hy1, hy2⟩, m, hm, hm2⟩ := modN y (show 0 < L.length + 1 by omega)
 have hp32 : ∀ s ∈ pathS L i, s.length = 32 := pathS_32 _ L i rfl hL32
 have hp50 : (pathS L i).length ≤ 50 := path_50 hL50 hi2
 have hpq : (pathS L i).length ≤ 4611686018427387904 := by omega
 refine wp_region_grow 19 [] (by kernel_rfl) (by kernel_rfl) (by kernel_rfl) (fun Lk hLk => ?_)
 simp only [Z1,Z2]
 refine Z16 (v := .int .i64 x) (by rfl) rfl rfl ?_
 simp only [Z7,Z0]
 refine Z16 (v := .int .i64 ((L.length : Nat) : Int)) (by rfl) rfl rfl ?_
 simp only [Z7,Z0]
 refine Z15 (v := .int .i64 (x.tmod ((L.length : Nat) : Int))) (by rfl) rfl rfl rfl (fun W => run_rem (by omega) rfl W) ?_
 simp only [Z7,Z0]
 refine Z16 (v := .int .i64 ((L.length : Nat) : Int)) (by rfl) rfl rfl ?_
 simp only [Z7,Z0]
 refine Z15 (v := .int .i64 ((x.tmod ((L.length : Nat) : Int)) + ((L.length : Nat) : Int))) (by rfl) rfl rfl rfl (fun W => run_add (by simp only [IntKind.wrap_i64]; omega) W) ?_
 simp only [Z7,Z0]
 refine Z16 (v := .int .i64 ((L.length : Nat) : Int)) (by rfl) rfl rfl ?_
 simp only [Z7,Z0]
 refine Z15 (v := .int .i64 ((i : Nat) : Int)) (by rfl) rfl rfl rfl (fun W => run_rem (by omega) hi W) ?_
 simp only [Z7,Z0]
 refine Z16 (v := .int .i64 y) (by rfl) rfl rfl ?_
 simp only [Z7,Z0]
 refine Z16 (v := .int .i64 ((L.length : Nat) : Int)) (by rfl) rfl rfl ?_
 simp only [Z7,Z0]
 refine Z15 (v := .int .i64 ((L.length + 1 : Nat) : Int)) (by rfl) rfl rfl rfl (fun W => run_add (by simp only [IntKind.wrap_i64]; omega) W) ?_
 simp only [Z7,Z0]
 refine Z15 (v := .int .i64 (y.tmod ((L.length + 1 : Nat) : Int))) (by rfl) rfl rfl rfl (fun W => run_rem (by omega) rfl W) ?_
 simp only [Z7,Z0]
 refine Z16 (v := .int .i64 ((L.length : Nat) : Int)) (by rfl) rfl rfl ?_
 simp only [Z7,Z0]
 refine Z15 (v := .int .i64 ((y.tmod ((L.length + 1 : Nat) : Int)) + ((L.length : Nat) : Int))) (by rfl) rfl rfl rfl (fun W => run_add (by simp only [IntKind.wrap_i64]; omega) W) ?_
 simp only [Z7,Z0]
 refine Z15 (v := .int .i64 ((y.tmod ((L.length + 1 : Nat) : Int)) + ((L.length + 1 : Nat) : Int))) (by rfl) rfl rfl rfl (fun W => run_add (by simp only [IntKind.wrap_i64]; omega) W) ?_
 simp only [Z7,Z0]
 refine Z16 (v := .int .i64 ((L.length : Nat) : Int)) (by rfl) rfl rfl ?_
 simp only [Z7,Z0]
 refine Z15 (v := .int .i64 ((L.length + 1 : Nat) : Int)) (by rfl) rfl rfl rfl (fun W => run_add (by simp only [IntKind.wrap_i64]; omega) W) ?_
 simp only [Z7,Z0]
 refine Z15 (v := .int .i64 ((m : Nat) : Int)) (by rfl) rfl rfl rfl (fun W => run_rem (by omega) hm W) ?_
 simp only [Z7,Z0]
 refine wpV_assign (v := .int .i64 ((i : Nat) : Int)) (by rfl) rfl rfl ?_
 simp only [Z7,Z0]
 refine wpV_assign (v := .int .i64 ((m : Nat) : Int)) (by rfl) rfl rfl ?_
 simp only [Z7,Z0]
 refine Z14 (hLk.out _ ?_)
 clear hLk Lk
 simp only [Z1,Z2]
 iterate 19 refine wpN_skip (by rfl) ?_
 refine wpN_nil (fun w16 Sw16 hbs => ?_)
 clear hbs
 replace M := M.sees Sw16
 refine Z9 (Z10 ?_)
 obtain rfl : m = 0 := by omega
 simp only [show ((0 : Nat) : Int) = 0 from rfl]
 refine hK14 _ _ ?_
 refine Z4 (fun K17 hK17 => ?_)
 refine wp_region_grow 6 [] (by kernel_rfl) (by kernel_rfl) (by kernel_rfl) (fun Lk hLk => ?_)
 simp only [Z1,Z2]
 refine Z16 (v := .slice a6 L.length c6) (by rfl) rfl rfl ?_
 simp only [Z7,Z0]
 refine Z20 (v := .string (bs (rootS L))) (args := #[.slice a6 L.length c6]) (by rfl) rfl Tryd.func45 (by kernel_rfl) (by kernel_rfl) rfl (fun W hW => by with_reducible exact rroot_r _ (ps := L) rfl (by omega) hL32  ((M.sees hW).oldA H6_0)) ?_
 simp only [Z7,Z0]
 refine Z16 (v := .slice a6 L.length c6) (by rfl) rfl rfl ?_
 simp only [Z7,Z0]
 refine Z16 (v := .int .i64 0) (by rfl) rfl rfl ?_
 simp only [Z7,Z0]
 refine wpV_slcH (hi := 0) (by rfl) rfl rfl rfl Tryd.underlying48 info9 (Nat.le_trans (by omega) (M.oldA H6_0).cap) ?_
 simp only [Z7,Z0]
 refine Z20 (v := .string (bs (rootS (L.take 0)))) (args := #[.slice a6 0 c6]) (by rfl) rfl Tryd.func45 (by kernel_rfl) (by kernel_rfl) rfl (fun W hW => by with_reducible exact rroot_r _ (ps := L.take 0) rfl (by rw [List.length_take]; omega) (fun s hs => hL32 s (List.mem_of_mem_take hs))  ((((M.sees hW).oldA H6_0).take (by omega)).eq (scells_take2 _ _))) ?_
 simp only [Z7,Z0]
 refine Z14 (hLk.out _ ?_)
 clear hLk Lk
 simp only [Z1,Z2]
 iterate 6 refine wpN_skip (by rfl) ?_
 refine wpN_nil (fun w19 Sw19 hbs => ?_)
 clear hbs
 replace M := M.sees Sw19
 refine Z13 (v := .string (bs (rootS L))) (by rfl) (by rfl) (by rfl) ?_
 simp only [Z7,Z0]
 refine Z13 (v := .string (bs (rootS (L.take 0)))) (by rfl) (by rfl) (by rfl) ?_
 simp only [Z7,Z0]
 refine Z9 (Z10 ?_)
 refine hK17 _ _ ?_
 refine Z4 (fun K20 hK20 => ?_)
 refine Z8 ?_
 refine Z12 (v := .slice a6 L.length c6) (by rfl) (by rfl) (by rfl) ?_
 simp only [Z7,Z0]
 refine Z12 (v := .int .i64 ((i : Nat) : Int)) (by rfl) (by rfl) (by rfl) ?_
 simp only [Z7,Z0]
 refine wpL_callE (f := 47) (args := #[.slice a6 L.length c6, .int .i64 ((i : Nat) : Int)]) (R := fun v9 W9 => ∃ a23 c23, v9 = .tuple #[.slice a23 ((pathS L i).length) c23, .int .i64 0] ∧ RowA W9 a23 (pathS L i).length c23 (scells (pathS L i))) (by rfl) (by rfl) rfl Tryd.func47 (by kernel_rfl) (by kernel_rfl) (Path_n (l := L) (i0 := i) hok hi2 (M.oldL L0) (M.oldR R0_0 L0) (M.oldA H6_0)) (fun v9 w22 hv9 Sw22 => ?_)
 obtain ⟨a23, c23, rfl, H23_0⟩ := hv9
 replace M := M.sees Sw22
 replace R0_0 := M.oldR R0_0 L0
 replace L0 := M.oldL L0
 replace Hp := M.oldA Hp
 replace H6_0 := M.oldA H6_0
 replace BB := BB.trans (M.below.mono BB.size)
 replace M := Mem.start w22
 simp only [Z7,Z0]
 refine Z12 (v := .tuple #[.slice a23 ((pathS L i).length) c23, .int .i64 0]) (by rfl) (by rfl) (by rfl) ?_
 simp only [Z7,Z0]
 refine Z11 2 (by rfl) (fun Lk hLk => ?_)
 simp only [Z1,Z2]
 refine wpV_extract (v := .slice a23 ((pathS L i).length) c23) (by rfl) rfl rfl rfl ?_
 simp only [Z7,Z0]
 refine wpV_extract (v := .int .i64 0) (by rfl) rfl rfl rfl ?_
 simp only [Z7,Z0]
 refine Z14 (hLk _ (fun w24 Sw24 => ?_))
 clear hLk Lk
 simp only [Z1,Z2]
 replace M := M.sees Sw24
 refine Z13 (v := .slice a23 ((pathS L i).length) c23) (by rfl) (by rfl) (by rfl) ?_
 simp only [Z7,Z0]
 refine Z13 (v := .int .i64 0) (by rfl) (by rfl) (by rfl) ?_
 simp only [Z7,Z0]
 refine Z9 (Z10 ?_)
 refine hK20 _ _ ?_
 refine Z4 (fun K25 hK25 => ?_)
 refine Z8 ?_
 refine Z12 (v := .slice a6 L.length c6) (by rfl) (by rfl) (by rfl) ?_
 simp only [Z7,Z0]
 refine Z12 (v := .int .i64 0) (by rfl) (by rfl) (by rfl) ?_
 simp only [Z7,Z0]
 refine wpL_callE (f := 48) (args := #[.slice a6 L.length c6, .int .i64 0]) (R := fun v9 W9 => ∃ a28 c28, v9 = .tuple #[.slice a28 ((stepP L 0).length) c28, .int .i64 0] ∧ RowA W9 a28 (stepP L 0).length c28 (scells (stepP L 0))) (by rfl) (by rfl) rfl Tryd.func48 (by kernel_rfl) (by kernel_rfl) (Step_any (l := L) (m := 0) hok (by omega) (M.oldL L0) (M.oldR R0_0 L0) (M.oldA H6_0)) (fun v9 w27 hv9 Sw27 => ?_)
 obtain ⟨a28, c28, rfl, H28_0⟩ := hv9
 replace M := M.sees Sw27
 replace R0_0 := M.oldR R0_0 L0
 replace L0 := M.oldL L0
 replace Hp := M.oldA Hp
 replace H6_0 := M.oldA H6_0
 replace H23_0 := M.oldA H23_0
 replace BB := BB.trans (M.below.mono BB.size)
 replace M := Mem.start w27
 simp only [Z7,Z0]
 refine Z12 (v := .tuple #[.slice a28 ((stepP L 0).length) c28, .int .i64 0]) (by rfl) (by rfl) (by rfl) ?_
 simp only [Z7,Z0]
 refine Z11 2 (by rfl) (fun Lk hLk => ?_)
 simp only [Z1,Z2]
 refine wpV_extract (v := .slice a28 ((stepP L 0).length) c28) (by rfl) rfl rfl rfl ?_
 simp only [Z7,Z0]
 refine wpV_extract (v := .int .i64 0) (by rfl) rfl rfl rfl ?_
 simp only [Z7,Z0]
 refine Z14 (hLk _ (fun w29 Sw29 => ?_))
 clear hLk Lk
 simp only [Z1,Z2]
 replace M := M.sees Sw29
 refine Z13 (v := .slice a28 ((stepP L 0).length) c28) (by rfl) (by rfl) (by rfl) ?_
 simp only [Z7,Z0]
 refine Z13 (v := .int .i64 0) (by rfl) (by rfl) (by rfl) ?_
 simp only [Z7,Z0]
 refine Z9 (Z10 ?_)
 refine hK25 _ _ ?_
 refine Z4 (fun K30 hK30 => ?_)
 refine Z4 (fun K31 hK31 => ?_)
 refine Z8 ?_
 refine Z12 (v := .int .i64 0) (by rfl) (by rfl) (by rfl) ?_
 simp only [Z7,Z0]
 refine Z11 30 (by rfl) (fun Lk hLk => ?_)
 simp only [Z1,Z2]
 refine Z15 (v := .bool false) (by rfl) rfl rfl rfl (fun W => run_neq _ _ _ _ W) ?_
 simp only [Z7,Z0]
 refine Z16 (v := .bool false) (by rfl) rfl rfl ?_
 simp only [Z7,Z0]
 refine Z16 (v := .int .i64 0) (by rfl) rfl rfl ?_
 simp only [Z7,Z0]
 refine Z15 (v := .bool false) (by rfl) rfl rfl rfl (fun W => run_neq _ _ _ _ W) ?_
 simp only [Z7,Z0]
 refine wpV_pick (v := .bool false) (by rfl) rfl rfl rfl ?_
 simp only [Z7,Z0]
 refine Z16 (v := .bool false) (by rfl) rfl rfl ?_
 simp only [Z7,Z0]
 refine Z16 (v := .slice a6 L.length c6) (by rfl) rfl rfl ?_
 simp only [Z7,Z0]
 refine Z16 (v := .int .i64 ((i : Nat) : Int)) (by rfl) rfl rfl ?_
 simp only [Z7,Z0]
 refine wpV_idxA (i := i) (by rfl) rfl rfl rfl Tryd.underlying48 info9 (M.oldA H6_0) (by omega) ?_
 simp only [Z7,Z0]
 refine wpV_loadA (i := i) (v := .string (bs (L.getD i []))) (by rfl) rfl rfl (M.oldA H6_0) (scells_get (ps := L) (by omega)) Tryd.underlying9 rfl ?_
 simp only [Z7,Z0]
 refine Z16 (v := .int .i64 ((i : Nat) : Int)) (by rfl) rfl rfl ?_
 simp only [Z7,Z0]
 refine Z16 (v := .int .i64 ((L.length : Nat) : Int)) (by rfl) rfl rfl ?_
 simp only [Z7,Z0]
 refine Z16 (v := .slice a23 ((pathS L i).length) c23) (by rfl) rfl rfl ?_
 simp only [Z7,Z0]
 refine Z16 (v := .string (bs (rootS L))) (by rfl) rfl rfl ?_
 simp only [Z7,Z0]
 refine Z20 (v := .int .i64 0) (args := #[.string (bs (L.getD i [])), .int .i64 ((i : Nat) : Int), .int .i64 ((L.length : Nat) : Int), .slice a23 ((pathS L i).length) c23, .string (bs (rootS L))]) (by rfl) rfl Tryd.func56 (by kernel_rfl) (by kernel_rfl) rfl (fun W hW => by with_reducible exact HoldsB rfl hi2 hL4 hL32 rfl ((M.sees hW).oldL L0) ((M.sees hW).oldR R0_0 L0) ((M.sees hW).oldA H23_0)) ?_
 simp only [Z7,Z0]
 refine Z15 (v := .bool false) (by rfl) rfl rfl rfl (fun W => run_neq _ _ _ _ W) ?_
 simp only [Z7,Z0]
 refine wpV_pick (v := .bool false) (by rfl) rfl rfl rfl ?_
 simp only [Z7,Z0]
 refine Z16 (v := .bool false) (by rfl) rfl rfl ?_
 simp only [Z7,Z0]
 refine Z16 (v := .int .i64 0) (by rfl) rfl rfl ?_
 simp only [Z7,Z0]
 refine Z16 (v := .int .i64 ((L.length : Nat) : Int)) (by rfl) rfl rfl ?_
 simp only [Z7,Z0]
 refine Z16 (v := .string (bs (rootS (L.take 0)))) (by rfl) rfl rfl ?_
 simp only [Z7,Z0]
 refine Z16 (v := .string (bs (rootS L))) (by rfl) rfl rfl ?_
 simp only [Z7,Z0]
 refine Z16 (v := .slice a28 ((stepP L 0).length) c28) (by rfl) rfl rfl ?_
 simp only [Z7,Z0]
 refine Z20 (v := .int .i64 0) (args := #[.int .i64 0, .int .i64 ((L.length : Nat) : Int), .string (bs (rootS (L.take 0))), .string (bs (rootS L)), .slice a28 ((stepP L 0).length) c28]) (by rfl) rfl Tryd.func67 (by kernel_rfl) (by kernel_rfl) rfl (fun W hW => by with_reducible exact FollowsB0 rfl hL1  hL4 hL32 rfl ((M.sees hW).oldL L0) ((M.sees hW).oldR R0_0 L0) ((M.sees hW).oldA H28_0)) ?_
 simp only [Z7,Z0]
 refine Z15 (v := .bool false) (by rfl) rfl rfl rfl (fun W => run_neq _ _ _ _ W) ?_
 simp only [Z7,Z0]
 refine wpV_pick (v := .bool false) (by rfl) rfl rfl rfl ?_
 simp only [Z7,Z0]
 refine Z16 (v := .bool false) (by rfl) rfl rfl ?_
 simp only [Z7,Z0]
 refine Z20 (v := .bool true) (args := #[]) (by rfl) rfl Tryd.func49 (by kernel_rfl) (by kernel_rfl) rfl (fun W hW => alive09_c ((M.sees hW).oldL L0) ((M.sees hW).oldR R0_0 L0)) ?_
 simp only [Z7,Z0]
 refine wpV_not (b := true) (by rfl) rfl rfl ?_
 simp only [Bool.not_true, Bool.not_false]
 simp only [Z7,Z0]
 refine wpV_pick (v := .bool false) (by rfl) rfl rfl rfl ?_
 simp only [Z7,Z0]
 refine Z14 (hLk _ (fun w33 Sw33 => ?_))
 clear hLk Lk
 simp only [Z1,Z2]
 replace M := M.sees Sw33
 refine Z9 (Z10 ?_)
 refine hK31 _ _ ?_
 refine Z6 rfl ?_
 refine wp_skip ?_
 refine hK30 _ _ ?_
 refine Z4 (fun K34 hK34 => ?_)
 refine Z4 (fun K35 hK35 => ?_)
 have HK35 : ∀  (u35 : Nat → Value) (W9 : World), Mem [] w27 W9 [] → K35 { tmps := #[u35 0, .int .i64 ((i : Nat) : Int), .int .i64 0, Z3, Z3, Z3, .bool false, .slice a6 L.length c6, .int .i64 ((L.length : Nat) : Int), .string (bs (rootS L)), .string (bs (rootS (L.take 0))), .slice a23 ((pathS L i).length) c23, .int .i64 0, .slice a28 ((stepP L 0).length) c28, .int .i64 0, u35 15, u35 16, u35 17, u35 18, u35 19, u35 20, u35 21, u35 22, u35 23, u35 24, u35 25, u35 26, u35 27, u35 28, u35 29, u35 30, u35 31, u35 32, u35 33, u35 34, u35 35, u35 36, u35 37, u35 38, u35 39, u35 40, u35 41, u35 42, u35 43, u35 44, u35 45, u35 46, u35 47, u35 48, u35 49, u35 50, u35 51, u35 52, u35 53, u35 54, u35 55, u35 56, u35 57, u35 58, u35 59, u35 60, u35 61, u35 62, u35 63, u35 64, u35 65, u35 66, u35 67, u35 68, u35 69, u35 70, u35 71, u35 72, u35 73, u35 74, u35 75, u35 76, u35 77, u35 78, u35 79, u35 80, u35 81, u35 82, u35 83, u35 84, u35 85, u35 86, u35 87, u35 88, u35 89, u35 90, u35 91, u35 92, u35 93, u35 94, u35 95, u35 96, u35 97, u35 98, u35 99, u35 100, u35 101, u35 102, u35 103, u35 104, u35 105, u35 106, u35 107, u35 108, u35 109, u35 110, u35 111, u35 112, u35 113, u35 114, u35 115, u35 116, u35 117, u35 118, .bool false, Z3, Z3, Z3, Z3, Z3, Z3, Z3, Z3, Z3, Z3, Z3, Z3, Z3, Z3, Z3, Z3, Z3, Z3, Z3, Z3, Z3, Z3, Z3, Z3, Z3, Z3, Z3, Z3, Z3, Z3, Z3, Z3, Z3], defers := [] } W9 := by
  clear M
  intro u35 W9 M
  obtain ⟨w36, rfl⟩ : ∃ W8, W8 = W9 := ⟨_, rfl⟩
  refine hK35 _ _ ?_
  refine Z6 rfl ?_
  refine wp_skip ?_
  refine hK34 _ _ ?_
  refine Z4 (fun K37 hK37 => ?_)
  obtain ⟨A39, hA39⟩ : ∃ A9 : Act, A9 = { tmps := #[u35 0, .int .i64 ((i : Nat) : Int), .int .i64 0, Z3, Z3, Z3, .bool false, .slice a6 L.length c6, .int .i64 ((L.length : Nat) : Int), .string (bs (rootS L)), .string (bs (rootS (L.take 0))), .slice a23 ((pathS L i).length) c23, .int .i64 0, .slice a28 ((stepP L 0).length) c28, .int .i64 0, u35 15, u35 16, u35 17, u35 18, u35 19, u35 20, u35 21, u35 22, u35 23, u35 24, u35 25, u35 26, u35 27, u35 28, u35 29, u35 30, u35 31, u35 32, u35 33, u35 34, u35 35, u35 36, u35 37, u35 38, u35 39, u35 40, u35 41, u35 42, u35 43, u35 44, u35 45, u35 46, u35 47, u35 48, u35 49, u35 50, u35 51, u35 52, u35 53, u35 54, u35 55, u35 56, u35 57, u35 58, u35 59, u35 60, u35 61, u35 62, u35 63, u35 64, u35 65, u35 66, u35 67, u35 68, u35 69, u35 70, u35 71, u35 72, u35 73, u35 74, u35 75, u35 76, u35 77, u35 78, u35 79, u35 80, u35 81, u35 82, u35 83, u35 84, u35 85, u35 86, u35 87, u35 88, u35 89, u35 90, u35 91, u35 92, u35 93, u35 94, u35 95, u35 96, u35 97, u35 98, u35 99, u35 100, u35 101, u35 102, u35 103, u35 104, u35 105, u35 106, u35 107, u35 108, u35 109, u35 110, u35 111, u35 112, u35 113, u35 114, u35 115, u35 116, u35 117, u35 118, .bool false, Z3, Z3, Z3, Z3, Z3, Z3, Z3, Z3, Z3, Z3, Z3, Z3, Z3, Z3, Z3, Z3, Z3, Z3, Z3, Z3, Z3, Z3, Z3, Z3, Z3, Z3, Z3, Z3, Z3, Z3, Z3, Z3, Z3], defers := [] } := ⟨_, rfl⟩
  refine wp_region_addsFK 33 [] [6, 8, 10, 11] [ValRel (.slice a6 L.length c6), ValRel (.int .i64 ((i : Nat) : Int)), ValRel (.pointer (a6.map (·.add i))), ValRel (.string (bs (L.getD i []))), ValRel (.int .i64 ((i : Nat) : Int)), ValRel (.int .i64 ((L.length : Nat) : Int)), BoxRel w36 (fun gA => .slice (some ⟨gA, 0, none⟩) 0 0) 0 [(0, scells [])], ValRel (.slice a23 ((pathS L i).length) c23), NewRel w36 (fun gA gAc => .slice (some ⟨gA, 0, none⟩) ((pathS L i).length) gAc) ((pathS L i).length) [(0, scells (pathS L i))], ValRel (.string (bs (rootS L))), BoxRel w36 (fun gA => .slice (some ⟨gA, 0, none⟩) 1 1) 1 [(0, [.string (bs (rootS L))])], NewRel w36 (fun gA gAc => .slice (some ⟨gA, 0, none⟩) ((pathS L i).length + 1) gAc) ((pathS L i).length + 1) [(0, scells (pathS L i ++ [rootS L]))], ValRel (.string (bs (rootS L))), ValRel (.int .i64 13), ValRel (.bool true), ValRel (.bool true), ValRel (.int .i64 0), ValRel (.bool true), ValRel (.bool true), ValRel (Z3), ValRel (Z3), ValRel (Z3), ValRel (Z3), ValRel (Z3), ValRel (Z3), ValRel (Z3), ValRel (Z3), ValRel (Z3), ValRel (Z3), ValRel (Z3), ValRel (Z3), ValRel (.bool true), ValRel (.bool true)] [[], [], [0, 1], [2], [], [], [], [], [6, 7], [], [9], [8, 10], [], [3, 4, 5, 11, 12], [13], [14], [15], [15, 16], [15, 17], [18], [18], [18], [18], [18], [18], [18, 23, 24], [18], [18, 26], [18, 25, 27], [18, 19, 20, 21, 22, 28], [18, 29], [15, 18, 30], [15, 31]] [(8, 6), (11, 8)] [0, 1, 2, 3, 4, 5, 7, 9, 10, 11, 12, 13, 14, 15, 16, 17, 18, 19, 20, 21, 22, 23, 24, 25, 26, 27, 28, 29, 30, 31, 32] (by kernel_rfl) (by kernel_rfl) rfl ⟨ge_box, ⟨ge_new, trivial⟩⟩ (.val (by kernel_rfl) still_val (.val (by kernel_rfl) still_val (.val (by kernel_rfl) still_val (.val (by kernel_rfl) still_val (.val (by kernel_rfl) still_val (.val (by kernel_rfl) still_val (.block (by kernel_rfl) keepB_box (.val (by kernel_rfl) still_val (.block (by kernel_rfl) keepB_new (.val (by kernel_rfl) still_val (.block (by kernel_rfl) keepB_box (.block (by kernel_rfl) keepB_new (.val (by kernel_rfl) still_val (.val (by kernel_rfl) still_val (.val (by kernel_rfl) still_val (.val (by kernel_rfl) still_val (.val (by kernel_rfl) still_val (.val (by kernel_rfl) still_val (.val (by kernel_rfl) still_val (.val (by kernel_rfl) still_val (.val (by kernel_rfl) still_val (.val (by kernel_rfl) still_val (.val (by kernel_rfl) still_val (.val (by kernel_rfl) still_val (.val (by kernel_rfl) still_val (.val (by kernel_rfl) still_val (.val (by kernel_rfl) still_val (.val (by kernel_rfl) still_val (.val (by kernel_rfl) still_val (.val (by kernel_rfl) still_val (.val (by kernel_rfl) still_val (.val (by kernel_rfl) still_val (.val (by kernel_rfl) still_val AllStill.nil))))))))))))))))))))))))))))))))) (fun vs => { tmps := #[u35 0, .int .i64 ((i : Nat) : Int), .int .i64 0, Z3, Z3, Z3, .bool false, .slice a6 L.length c6, .int .i64 ((L.length : Nat) : Int), .string (bs (rootS L)), .string (bs (rootS (L.take 0))), .slice a23 ((pathS L i).length) c23, .int .i64 0, .slice a28 ((stepP L 0).length) c28, .int .i64 0, u35 15, u35 16, u35 17, u35 18, u35 19, u35 20, u35 21, u35 22, u35 23, u35 24, u35 25, u35 26, u35 27, u35 28, u35 29, u35 30, u35 31, u35 32, u35 33, u35 34, u35 35, u35 36, u35 37, u35 38, u35 39, u35 40, u35 41, u35 42, u35 43, u35 44, u35 45, u35 46, u35 47, u35 48, u35 49, u35 50, u35 51, u35 52, u35 53, u35 54, u35 55, u35 56, u35 57, u35 58, u35 59, u35 60, u35 61, u35 62, u35 63, u35 64, u35 65, u35 66, u35 67, u35 68, u35 69, u35 70, u35 71, u35 72, u35 73, u35 74, u35 75, u35 76, u35 77, u35 78, u35 79, u35 80, u35 81, u35 82, u35 83, u35 84, u35 85, u35 86, u35 87, u35 88, u35 89, u35 90, u35 91, u35 92, u35 93, u35 94, u35 95, u35 96, u35 97, u35 98, u35 99, u35 100, u35 101, u35 102, u35 103, u35 104, u35 105, u35 106, u35 107, u35 108, u35 109, u35 110, u35 111, u35 112, u35 113, u35 114, u35 115, u35 116, u35 117, u35 118, .bool false, vs 0, vs 1, vs 2, vs 3, vs 4, vs 5, vs 6, vs 7, vs 8, vs 9, vs 10, vs 11, vs 12, vs 13, vs 14, vs 15, vs 16, vs 17, vs 18, vs 19, vs 20, vs 21, vs 22, vs 23, vs 24, vs 25, vs 26, vs 27, vs 28, vs 29, vs 30, vs 31, vs 32], defers := [] }) (by kernel_rfl) (by kernel_rfl) (by kernel_rfl) (by kernel_rfl) (.free free_val (.free free_val (.free free_val (.free free_val (.free free_val (.free free_val (.free free_box (.free free_val (.free free_new (.free free_val (.free free_box (.free free_new (.free free_val (.free free_val (.free free_val (.free free_val (.free free_val (.free free_val (.free free_val (.free free_val (.free free_val (.free free_val (.free free_val (.free free_val (.free free_val (.free free_val (.free free_val (.free free_val (.free free_val (.free free_val (.free free_val (.free free_val (.free free_val AllLoc.nil))))))))))))))))))))))))))))))))) (.cons own_box (.cons own_new (.cons own_box (.cons own_new AllOwn.nil)))) (by kernel_rfl) ?_ ?_
  ·
   simp only [Z1]
   refine RulesK.cons (fun vs => A39) (by kernel_rfl) (by subst hA39; kernel_rfl) ?_ ?_
   ·
    subst hA39
    intro vs gs W40 SW40 D K9 hK9
    replace M := M.sees SW40
    dsimp only at hK9
    dsimp only
    refine Z12 (v := .slice a6 L.length c6) (by rfl) (by rfl) (by rfl) ?_
    simp only [Z7,Z0]
    refine Z9 (Z17 ?_)
    have h8 := hK9 (.slice a6 L.length c6)
    have h9 := h8 0 _ (sees_refl _) rfl (fun h => absurd h (by decide))
    simp only [Z7,Z0] at h9
    exact h9
   refine RulesK.cons (fun vs => A39) (by kernel_rfl) (by subst hA39; kernel_rfl) ?_ ?_
   ·
    subst hA39
    intro vs gs W41 SW41 D K9 hK9
    replace M := M.sees SW41
    dsimp only at hK9
    dsimp only
    refine Z12 (v := .int .i64 ((i : Nat) : Int)) (by rfl) (by rfl) (by rfl) ?_
    simp only [Z7,Z0]
    refine Z9 (Z17 ?_)
    have h8 := hK9 (.int .i64 ((i : Nat) : Int))
    have h9 := h8 0 _ (sees_refl _) rfl (fun h => absurd h (by decide))
    simp only [Z7,Z0] at h9
    exact h9
   refine RulesK.cons (fun vs => ((A39.put (some 121) (vs 1)).put (some 120) (vs 0))) (by kernel_rfl) (by subst hA39; kernel_rfl) ?_ ?_
   ·
    subst hA39
    intro vs gs W42 SW42 D K9 hK9
    replace M := M.sees SW42
    obtain ⟨D0, D1, _⟩ := D
    have e0 : vs 0 = .slice a6 L.length c6 := D0
    have e1 : vs 1 = .int .i64 ((i : Nat) : Int) := D1
    dsimp only at hK9
    dsimp only
    simp only [Z7,Z0]
    rw [e0, e1] at hK9 ⊢
    refine Z11 1 (by rfl) (fun Lk hLk => ?_)
    simp only [Z1,Z2]
    refine wpV_idxA (i := i) (by rfl) rfl rfl rfl Tryd.underlying48 info9 (M.oldA H6_0) (by omega) ?_
    simp only [Z7,Z0]
    refine Z14 (hLk _ (fun w43 Sw43 => ?_))
    clear hLk Lk
    simp only [Z1,Z2]
    replace M := M.sees Sw43
    refine Z9 (Z17 ?_)
    have h8 := hK9 (.pointer (a6.map (·.add i)))
    have h9 := h8 0 _ Sw43 rfl (fun h => absurd h (by decide))
    simp only [Z7,Z0] at h9
    exact h9
   refine RulesK.cons (fun vs => (A39.put (some 122) (vs 2))) (by kernel_rfl) (by subst hA39; kernel_rfl) ?_ ?_
   ·
    subst hA39
    intro vs gs W44 SW44 D K9 hK9
    replace M := M.sees SW44
    obtain ⟨D2, _⟩ := D
    have e2 : vs 2 = .pointer (a6.map (·.add i)) := D2
    dsimp only at hK9
    dsimp only
    simp only [Z7,Z0]
    rw [e2] at hK9 ⊢
    refine Z11 1 (by rfl) (fun Lk hLk => ?_)
    simp only [Z1,Z2]
    refine wpV_loadA (i := i) (v := .string (bs (L.getD i []))) (by rfl) rfl rfl (M.oldA H6_0) (scells_get (ps := L) (by omega)) Tryd.underlying9 rfl ?_
    simp only [Z7,Z0]
    refine Z14 (hLk _ (fun w45 Sw45 => ?_))
    clear hLk Lk
    simp only [Z1,Z2]
    replace M := M.sees Sw45
    refine Z9 (Z17 ?_)
    have h8 := hK9 (.string (bs (L.getD i [])))
    have h9 := h8 0 _ Sw45 rfl (fun h => absurd h (by decide))
    simp only [Z7,Z0] at h9
    exact h9
   refine RulesK.cons (fun vs => A39) (by kernel_rfl) (by subst hA39; kernel_rfl) ?_ ?_
   ·
    subst hA39
    intro vs gs W46 SW46 D K9 hK9
    replace M := M.sees SW46
    dsimp only at hK9
    dsimp only
    refine Z12 (v := .int .i64 ((i : Nat) : Int)) (by rfl) (by rfl) (by rfl) ?_
    simp only [Z7,Z0]
    refine Z9 (Z17 ?_)
    have h8 := hK9 (.int .i64 ((i : Nat) : Int))
    have h9 := h8 0 _ (sees_refl _) rfl (fun h => absurd h (by decide))
    simp only [Z7,Z0] at h9
    exact h9
   refine RulesK.cons (fun vs => A39) (by kernel_rfl) (by subst hA39; kernel_rfl) ?_ ?_
   ·
    subst hA39
    intro vs gs W47 SW47 D K9 hK9
    replace M := M.sees SW47
    dsimp only at hK9
    dsimp only
    refine Z12 (v := .int .i64 ((L.length : Nat) : Int)) (by rfl) (by rfl) (by rfl) ?_
    simp only [Z7,Z0]
    refine Z9 (Z17 ?_)
    have h8 := hK9 (.int .i64 ((L.length : Nat) : Int))
    have h9 := h8 0 _ (sees_refl _) rfl (fun h => absurd h (by decide))
    simp only [Z7,Z0] at h9
    exact h9
   refine RulesK.cons (fun vs => A39) (by kernel_rfl) (by subst hA39; kernel_rfl) ?_ ?_
   ·
    subst hA39
    intro vs gs W48 SW48 D K9 hK9
    replace M := M.sees SW48
    replace R0_0 := M.oldR R0_0 L0
    replace L0 := M.oldL L0
    replace Hp := M.oldA Hp
    replace H6_0 := M.oldA H6_0
    replace H23_0 := M.oldA H23_0
    replace H28_0 := M.oldA H28_0
    replace BB := BB.trans (M.below.mono BB.size)
    replace M := Mem.start W48
    dsimp only at hK9
    dsimp only
    refine wpL_row0 (by rfl) (by rfl) Tryd.underlying48 info9 (fun g49 w50 Sw50 Hg49 Bg49 => ?_)
    replace M := ((M.sees Sw50).add (N := 0) (cs := scells []) (M.ge Hg49) (M.fresh Hg49) Bg49 rfl)
    clear Bg49
    simp only [Z7,Z0]
    refine Z9 (Z17 ?_)
    have h8 := hK9 (.slice (some ⟨g49, 0, none⟩) 0 0)
    have h9 := h8 g49 _ M.seesAll ⟨rfl, (M.ok _ (.head _)).up SW48⟩ (fun _ => (M.ok _ (.head _)).ge)
    simp only [Z7,Z0] at h9
    exact h9
   refine RulesK.cons (fun vs => A39) (by kernel_rfl) (by subst hA39; kernel_rfl) ?_ ?_
   ·
    subst hA39
    intro vs gs W51 SW51 D K9 hK9
    replace M := M.sees SW51
    dsimp only at hK9
    dsimp only
    refine Z12 (v := .slice a23 ((pathS L i).length) c23) (by rfl) (by rfl) (by rfl) ?_
    simp only [Z7,Z0]
    refine Z9 (Z17 ?_)
    have h8 := hK9 (.slice a23 ((pathS L i).length) c23)
    have h9 := h8 0 _ (sees_refl _) rfl (fun h => absurd h (by decide))
    simp only [Z7,Z0] at h9
    exact h9
   refine RulesK.consK (fun vs => ((A39.put (some 127) (vs 7)).put (some 126) (vs 6))) 6 (by kernel_rfl) (by subst hA39; kernel_rfl) ?_ ?_
   ·
    subst hA39
    intro vs gs W52 SW52 D K9 hK9
    replace M := M.sees SW52
    replace R0_0 := M.oldR R0_0 L0
    replace L0 := M.oldL L0
    replace Hp := M.oldA Hp
    replace H6_0 := M.oldA H6_0
    replace H23_0 := M.oldA H23_0
    replace H28_0 := M.oldA H28_0
    replace BB := BB.trans (M.below.mono BB.size)
    replace M := Mem.start W52
    obtain ⟨D6, D7, _⟩ := D
    obtain ⟨e6, Og53⟩ := D6
    generalize gs 6 = g53 at *
    replace e6 : vs 6 = .slice (some ⟨g53, 0, none⟩) 0 0 := e6
    have Rg53_0 := Og53.range (0, scells []) (by simp only [List.mem_cons, true_or, or_true])
    have Lg53 := Og53.lt
    have e7 : vs 7 = .slice a23 ((pathS L i).length) c23 := D7
    dsimp only at hK9
    dsimp only
    simp only [Z7,Z0]
    rw [e6, e7] at hK9 ⊢
    replace M := Og53.startB
    refine wpL_appendA (n := 0) (m := (pathS L i).length) (olds := scells []) (news := scells (pathS L i)) (z := .string { data := #[] }) (bytes := 16) (by rfl) (by rfl) (by rfl) (by rfl) Tryd.underlying48 (by kernel_rfl) rfl rfl (by rfl) (Nat.le_refl _) (M.r 0 0 rfl rfl) (M.t 0 rfl) (M.lt 0 rfl) H23_0 (scells_one _) (by omega) (by simp only [maxLen]; omega) (fun g54 g54c w55 Sw55 Q Cg54 R T L => ?_)
    replace M := M.grow 0 rfl Sw55 Q R T L
    simp only [Z0] at M
    clear Q R T L
    rw [show scells [] ++ scells (pathS L i) = scells (pathS L i) from rfl] at M
    rw [Nat.zero_add] at Cg54
    rw [Nat.zero_add]
    simp only [Z7,Z0]
    refine Z9 (Z17 ?_)
    have h8 := hK9 (.slice (some ⟨g54, 0, none⟩) ((pathS L i).length) g54c)
    have h9 := h8 g54 _ M.seesB ⟨g54c, rfl, Cg54, (M.ok _ (.head _)).upB SW52 Og53.ge⟩ (M.ok _ (.head _)).orB
    simp only [Z7,Z0] at h9
    exact h9
   refine RulesK.cons (fun vs => A39) (by kernel_rfl) (by subst hA39; kernel_rfl) ?_ ?_
   ·
    subst hA39
    intro vs gs W56 SW56 D K9 hK9
    replace M := M.sees SW56
    dsimp only at hK9
    dsimp only
    refine Z12 (v := .string (bs (rootS L))) (by rfl) (by rfl) (by rfl) ?_
    simp only [Z7,Z0]
    refine Z9 (Z17 ?_)
    have h8 := hK9 (.string (bs (rootS L)))
    have h9 := h8 0 _ (sees_refl _) rfl (fun h => absurd h (by decide))
    simp only [Z7,Z0] at h9
    exact h9
   refine RulesK.cons (fun vs => (A39.put (some 129) (vs 9))) (by kernel_rfl) (by subst hA39; kernel_rfl) ?_ ?_
   ·
    subst hA39
    intro vs gs W57 SW57 D K9 hK9
    replace M := M.sees SW57
    replace R0_0 := M.oldR R0_0 L0
    replace L0 := M.oldL L0
    replace Hp := M.oldA Hp
    replace H6_0 := M.oldA H6_0
    replace H23_0 := M.oldA H23_0
    replace H28_0 := M.oldA H28_0
    replace BB := BB.trans (M.below.mono BB.size)
    replace M := Mem.start W57
    obtain ⟨D9, _⟩ := D
    have e9 : vs 9 = .string (bs (rootS L)) := D9
    dsimp only at hK9
    dsimp only
    simp only [Z7,Z0]
    rw [e9] at hK9 ⊢
    refine wpL_rowN (vs := [.string (bs (rootS L))]) (z := .string { data := #[] }) (bytes := 16) (by rfl) (by rfl) Tryd.underlying48 (by kernel_rfl) (by decide) (by kernel_rfl) (fun g58 w59 Sw59 Hg58 Bg58 => ?_)
    replace M := ((M.sees Sw59).add (N := 1) (cs := [.string (bs (rootS L))]) (M.ge Hg58) (M.fresh Hg58) Bg58 rfl)
    clear Bg58
    simp only [Z7,Z0]
    refine Z9 (Z17 ?_)
    have h8 := hK9 (.slice (some ⟨g58, 0, none⟩) 1 1)
    have h9 := h8 g58 _ M.seesAll ⟨rfl, (M.ok _ (.head _)).up SW57⟩ (fun _ => (M.ok _ (.head _)).ge)
    simp only [Z7,Z0] at h9
    exact h9
   refine RulesK.consK (fun vs => ((A39.put (some 130) (vs 10)).put (some 128) (vs 8))) 8 (by kernel_rfl) (by subst hA39; kernel_rfl) ?_ ?_
   ·
    subst hA39
    intro vs gs W60 SW60 D K9 hK9
    replace M := M.sees SW60
    replace R0_0 := M.oldR R0_0 L0
    replace L0 := M.oldL L0
    replace Hp := M.oldA Hp
    replace H6_0 := M.oldA H6_0
    replace H23_0 := M.oldA H23_0
    replace H28_0 := M.oldA H28_0
    replace BB := BB.trans (M.below.mono BB.size)
    replace M := Mem.start W60
    obtain ⟨D8, D10, _⟩ := D
    obtain ⟨g61c, e8, Cg61, Og61⟩ := D8
    generalize gs 8 = g61 at *
    replace e8 : vs 8 = .slice (some ⟨g61, 0, none⟩) ((pathS L i).length) g61c := e8
    have Rg61_0 := Og61.range (0, scells (pathS L i)) (by simp only [List.mem_cons, true_or, or_true])
    have Lg61 := Og61.lt
    obtain ⟨e10, Og62⟩ := D10
    generalize gs 10 = g62 at *
    replace e10 : vs 10 = .slice (some ⟨g62, 0, none⟩) 1 1 := e10
    have Rg62_0 := Og62.range (0, [.string (bs (rootS L))]) (by simp only [List.mem_cons, true_or, or_true])
    have Lg62 := Og62.lt
    dsimp only at hK9
    dsimp only
    simp only [Z7,Z0]
    rw [e8, e10] at hK9 ⊢
    replace M := Og61.startB
    refine wpL_append (n := (pathS L i).length) (m := 1) (olds := scells (pathS L i)) (news := [.string (bs (rootS L))]) (z := .string { data := #[] }) (bytes := 16) (by rfl) (by rfl) (by rfl) (by rfl) Tryd.underlying48 (by kernel_rfl) rfl rfl (by rw [scells_len]) rfl (M.r 0 0 rfl rfl) (M.t 0 rfl) (M.lt 0 rfl) Rg62_0 (by intro u hu; rw [List.mem_singleton.1 hu]; rfl) (by omega) (by simp only [maxLen]; omega) (fun g63 g63c w64 Sw64 Q Cg63 R T L => ?_)
    replace M := M.grow 0 rfl Sw64 Q R T L
    simp only [Z0] at M
    clear Q R T L
    rw [scells_more] at M
    simp only [Z7,Z0]
    refine Z9 (Z17 ?_)
    have h8 := hK9 (.slice (some ⟨g63, 0, none⟩) ((pathS L i).length + 1) g63c)
    have h9 := h8 g63 _ M.seesB ⟨g63c, rfl, Cg63, (M.ok _ (.head _)).upB SW60 Og61.ge⟩ (M.ok _ (.head _)).orB
    simp only [Z7,Z0] at h9
    exact h9
   refine RulesK.cons (fun vs => A39) (by kernel_rfl) (by subst hA39; kernel_rfl) ?_ ?_
   ·
    subst hA39
    intro vs gs W65 SW65 D K9 hK9
    replace M := M.sees SW65
    dsimp only at hK9
    dsimp only
    refine Z12 (v := .string (bs (rootS L))) (by rfl) (by rfl) (by rfl) ?_
    simp only [Z7,Z0]
    refine Z9 (Z17 ?_)
    have h8 := hK9 (.string (bs (rootS L)))
    have h9 := h8 0 _ (sees_refl _) rfl (fun h => absurd h (by decide))
    simp only [Z7,Z0] at h9
    exact h9
   refine RulesK.cons (fun vs => (((((A39.put (some 132) (vs 12)).put (some 131) (vs 11)).put (some 125) (vs 5)).put (some 124) (vs 4)).put (some 123) (vs 3))) (by kernel_rfl) (by subst hA39; kernel_rfl) ?_ ?_
   ·
    subst hA39
    intro vs gs W66 SW66 D K9 hK9
    replace M := M.sees SW66
    replace R0_0 := M.oldR R0_0 L0
    replace L0 := M.oldL L0
    replace Hp := M.oldA Hp
    replace H6_0 := M.oldA H6_0
    replace H23_0 := M.oldA H23_0
    replace H28_0 := M.oldA H28_0
    replace BB := BB.trans (M.below.mono BB.size)
    replace M := Mem.start W66
    obtain ⟨D3, D4, D5, D11, D12, _⟩ := D
    have e3 : vs 3 = .string (bs (L.getD i [])) := D3
    have e4 : vs 4 = .int .i64 ((i : Nat) : Int) := D4
    have e5 : vs 5 = .int .i64 ((L.length : Nat) : Int) := D5
    obtain ⟨g67c, e11, Cg67, Og67⟩ := D11
    generalize gs 11 = g67 at *
    replace e11 : vs 11 = .slice (some ⟨g67, 0, none⟩) ((pathS L i).length + 1) g67c := e11
    have Rg67_0 := Og67.range (0, scells (pathS L i ++ [rootS L])) (by simp only [List.mem_cons, true_or, or_true])
    have Lg67 := Og67.lt
    have e12 : vs 12 = .string (bs (rootS L)) := D12
    dsimp only at hK9
    dsimp only
    simp only [Z7,Z0]
    rw [e3, e4, e5, e11, e12] at hK9 ⊢
    refine Z11 1 (by rfl) (fun Lk hLk => ?_)
    simp only [Z1,Z2]
    refine Z20 (v := .int .i64 13) (args := #[.string (bs (L.getD i [])), .int .i64 ((i : Nat) : Int), .int .i64 ((L.length : Nat) : Int), .slice (some ⟨g67, 0, none⟩) ((pathS L i).length + 1) g67c, .string (bs (rootS L))]) (by rfl) rfl Tryd.func56 (by kernel_rfl) (by kernel_rfl) rfl (fun W hW => by with_reducible exact HoldsX rfl hi2 hL4 hL32 (more_32 hp32 hr32) (more_le hp50) more_ne ((M.sees hW).oldL L0) ((M.sees hW).oldR R0_0 L0) (RowA.of ((M.sees hW).oldR Rg67_0 Lg67) ((M.sees hW).oldL Lg67) (by rw [scells_len, List.length_append, List.length_singleton]) Cg67)) ?_
    simp only [Z7,Z0]
    refine Z14 (hLk _ (fun w68 Sw68 => ?_))
    clear hLk Lk
    simp only [Z1,Z2]
    replace M := M.sees Sw68
    refine Z9 (Z17 ?_)
    have h8 := hK9 (.int .i64 13)
    have h9 := h8 0 _ M.seesAll rfl (fun h => absurd h (by decide))
    simp only [Z7,Z0] at h9
    exact h9
   refine RulesK.cons (fun vs => (A39.put (some 133) (vs 13))) (by kernel_rfl) (by subst hA39; kernel_rfl) ?_ ?_
   ·
    subst hA39
    intro vs gs W69 SW69 D K9 hK9
    replace M := M.sees SW69
    obtain ⟨D13, _⟩ := D
    have e13 : vs 13 = .int .i64 13 := D13
    dsimp only at hK9
    dsimp only
    simp only [Z7,Z0]
    rw [e13] at hK9 ⊢
    refine Z11 1 (by rfl) (fun Lk hLk => ?_)
    simp only [Z1,Z2]
    refine Z15 (v := .bool true) (by rfl) rfl rfl rfl (fun W => run_eql _ _ _ _ W) ?_
    simp only [Z7,Z0]
    refine Z14 (hLk _ (fun w70 Sw70 => ?_))
    clear hLk Lk
    simp only [Z1,Z2]
    replace M := M.sees Sw70
    refine Z9 (Z17 ?_)
    have h8 := hK9 (.bool true)
    have h9 := h8 0 _ Sw70 rfl (fun h => absurd h (by decide))
    simp only [Z7,Z0] at h9
    exact h9
   refine RulesK.cons (fun vs => (A39.put (some 134) (vs 14))) (by kernel_rfl) (by subst hA39; kernel_rfl) ?_ ?_
   ·
    subst hA39
    intro vs gs W71 SW71 D K9 hK9
    replace M := M.sees SW71
    obtain ⟨D14, _⟩ := D
    have e14 : vs 14 = .bool true := D14
    dsimp only at hK9
    dsimp only
    simp only [Z7,Z0]
    rw [e14] at hK9 ⊢
    refine Z12 (v := .bool true) (by rfl) (by rfl) (by rfl) ?_
    simp only [Z7,Z0]
    refine Z9 (Z17 ?_)
    have h8 := hK9 (.bool true)
    have h9 := h8 0 _ (sees_refl _) rfl (fun h => absurd h (by decide))
    simp only [Z7,Z0] at h9
    exact h9
   refine RulesK.cons (fun vs => (A39.put (some 135) (vs 15))) (by kernel_rfl) (by subst hA39; kernel_rfl) ?_ ?_
   ·
    subst hA39
    intro vs gs W72 SW72 D K9 hK9
    replace M := M.sees SW72
    obtain ⟨D15, _⟩ := D
    have e15 : vs 15 = .bool true := D15
    dsimp only at hK9
    dsimp only
    simp only [Z7,Z0]
    rw [e15] at hK9 ⊢
    refine Z11 1 (by rfl) (fun Lk hLk => ?_)
    simp only [Z1,Z2]
    refine Z16 (v := .int .i64 0) (by rfl) rfl rfl ?_
    simp only [Z7,Z0]
    refine Z14 (hLk _ (fun w73 Sw73 => ?_))
    clear hLk Lk
    simp only [Z1,Z2]
    replace M := M.sees Sw73
    refine Z9 (Z17 ?_)
    have h8 := hK9 (.int .i64 0)
    have h9 := h8 0 _ Sw73 rfl (fun h => absurd h (by decide))
    simp only [Z7,Z0] at h9
    exact h9
   refine RulesK.cons (fun vs => ((A39.put (some 136) (vs 16)).put (some 135) (vs 15))) (by kernel_rfl) (by subst hA39; kernel_rfl) ?_ ?_
   ·
    subst hA39
    intro vs gs W74 SW74 D K9 hK9
    replace M := M.sees SW74
    obtain ⟨D15, D16, _⟩ := D
    have e15 : vs 15 = .bool true := D15
    have e16 : vs 16 = .int .i64 0 := D16
    dsimp only at hK9
    dsimp only
    simp only [Z7,Z0]
    rw [e15, e16] at hK9 ⊢
    refine Z11 1 (by rfl) (fun Lk hLk => ?_)
    simp only [Z1,Z2]
    refine Z15 (v := .bool true) (by rfl) rfl rfl rfl (fun W => run_eql _ _ _ _ W) ?_
    simp only [Z7,Z0]
    refine Z14 (hLk _ (fun w75 Sw75 => ?_))
    clear hLk Lk
    simp only [Z1,Z2]
    replace M := M.sees Sw75
    refine Z9 (Z17 ?_)
    have h8 := hK9 (.bool true)
    have h9 := h8 0 _ Sw75 rfl (fun h => absurd h (by decide))
    simp only [Z7,Z0] at h9
    exact h9
   refine RulesK.cons (fun vs => ((A39.put (some 137) (vs 17)).put (some 135) (vs 15))) (by kernel_rfl) (by subst hA39; kernel_rfl) ?_ ?_
   ·
    subst hA39
    intro vs gs W76 SW76 D K9 hK9
    replace M := M.sees SW76
    obtain ⟨D15, D17, _⟩ := D
    have e15 : vs 15 = .bool true := D15
    have e17 : vs 17 = .bool true := D17
    dsimp only at hK9
    dsimp only
    simp only [Z7,Z0]
    rw [e15, e17] at hK9 ⊢
    refine Z11 1 (by rfl) (fun Lk hLk => ?_)
    simp only [Z1,Z2]
    refine Z16 (v := .bool true) (by rfl) rfl rfl ?_
    simp only [Z7,Z0]
    refine Z14 (hLk _ (fun w77 Sw77 => ?_))
    clear hLk Lk
    simp only [Z1,Z2]
    replace M := M.sees Sw77
    refine Z9 (Z17 ?_)
    have h8 := hK9 (.bool true)
    have h9 := h8 0 _ Sw77 rfl (fun h => absurd h (by decide))
    simp only [Z7,Z0] at h9
    exact h9
   refine RulesK.cons (fun vs => (A39.put (some 138) (vs 18))) (by kernel_rfl) (by subst hA39; kernel_rfl) ?_ ?_
   ·
    subst hA39
    intro vs gs W78 SW78 D K9 hK9
    replace M := M.sees SW78
    obtain ⟨D18, _⟩ := D
    have e18 : vs 18 = .bool true := D18
    dsimp only at hK9
    dsimp only
    simp only [Z7,Z0]
    rw [e18] at hK9 ⊢
    refine Z11 1 (by rfl) (fun Lk hLk => ?_)
    simp only [Z1,Z2]
    refine wpV_skip (by rfl) (by rfl) ?_
    simp only [Z7,Z0]
    refine Z14 (hLk _ (fun w79 Sw79 => ?_))
    clear hLk Lk
    simp only [Z1,Z2]
    replace M := M.sees Sw79
    refine Z9 (Z17 ?_)
    have h8 := hK9 (Z3)
    have h9 := h8 0 _ Sw79 rfl (fun h => absurd h (by decide))
    simp only [Z7,Z0] at h9
    exact h9
   refine RulesK.cons (fun vs => (A39.put (some 138) (vs 18))) (by kernel_rfl) (by subst hA39; kernel_rfl) ?_ ?_
   ·
    subst hA39
    intro vs gs W80 SW80 D K9 hK9
    replace M := M.sees SW80
    obtain ⟨D18, _⟩ := D
    have e18 : vs 18 = .bool true := D18
    dsimp only at hK9
    dsimp only
    simp only [Z7,Z0]
    rw [e18] at hK9 ⊢
    refine Z11 1 (by rfl) (fun Lk hLk => ?_)
    simp only [Z1,Z2]
    refine wpV_skip (by rfl) (by rfl) ?_
    simp only [Z7,Z0]
    refine Z14 (hLk _ (fun w81 Sw81 => ?_))
    clear hLk Lk
    simp only [Z1,Z2]
    replace M := M.sees Sw81
    refine Z9 (Z17 ?_)
    have h8 := hK9 (Z3)
    have h9 := h8 0 _ Sw81 rfl (fun h => absurd h (by decide))
    simp only [Z7,Z0] at h9
    exact h9
   refine RulesK.cons (fun vs => (A39.put (some 138) (vs 18))) (by kernel_rfl) (by subst hA39; kernel_rfl) ?_ ?_
   ·
    subst hA39
    intro vs gs W82 SW82 D K9 hK9
    replace M := M.sees SW82
    obtain ⟨D18, _⟩ := D
    have e18 : vs 18 = .bool true := D18
    dsimp only at hK9
    dsimp only
    simp only [Z7,Z0]
    rw [e18] at hK9 ⊢
    refine Z11 1 (by rfl) (fun Lk hLk => ?_)
    simp only [Z1,Z2]
    refine wpV_skip (by rfl) (by rfl) ?_
    simp only [Z7,Z0]
    refine Z14 (hLk _ (fun w83 Sw83 => ?_))
    clear hLk Lk
    simp only [Z1,Z2]
    replace M := M.sees Sw83
    refine Z9 (Z17 ?_)
    have h8 := hK9 (Z3)
    have h9 := h8 0 _ Sw83 rfl (fun h => absurd h (by decide))
    simp only [Z7,Z0] at h9
    exact h9
   refine RulesK.cons (fun vs => (A39.put (some 138) (vs 18))) (by kernel_rfl) (by subst hA39; kernel_rfl) ?_ ?_
   ·
    subst hA39
    intro vs gs W84 SW84 D K9 hK9
    replace M := M.sees SW84
    obtain ⟨D18, _⟩ := D
    have e18 : vs 18 = .bool true := D18
    dsimp only at hK9
    dsimp only
    simp only [Z7,Z0]
    rw [e18] at hK9 ⊢
    refine Z11 1 (by rfl) (fun Lk hLk => ?_)
    simp only [Z1,Z2]
    refine wpV_skip (by rfl) (by rfl) ?_
    simp only [Z7,Z0]
    refine Z14 (hLk _ (fun w85 Sw85 => ?_))
    clear hLk Lk
    simp only [Z1,Z2]
    replace M := M.sees Sw85
    refine Z9 (Z17 ?_)
    have h8 := hK9 (Z3)
    have h9 := h8 0 _ Sw85 rfl (fun h => absurd h (by decide))
    simp only [Z7,Z0] at h9
    exact h9
   refine RulesK.cons (fun vs => (A39.put (some 138) (vs 18))) (by kernel_rfl) (by subst hA39; kernel_rfl) ?_ ?_
   ·
    subst hA39
    intro vs gs W86 SW86 D K9 hK9
    replace M := M.sees SW86
    replace R0_0 := M.oldR R0_0 L0
    replace L0 := M.oldL L0
    replace Hp := M.oldA Hp
    replace H6_0 := M.oldA H6_0
    replace H23_0 := M.oldA H23_0
    replace H28_0 := M.oldA H28_0
    replace BB := BB.trans (M.below.mono BB.size)
    replace M := Mem.start W86
    obtain ⟨D18, _⟩ := D
    have e18 : vs 18 = .bool true := D18
    dsimp only at hK9
    dsimp only
    simp only [Z7,Z0]
    rw [e18] at hK9 ⊢
    refine Z11 1 (by rfl) (fun Lk hLk => ?_)
    simp only [Z1,Z2]
    refine wpV_skip (by rfl) (by rfl) ?_
    simp only [Z7,Z0]
    refine Z14 (hLk _ (fun w87 Sw87 => ?_))
    clear hLk Lk
    simp only [Z1,Z2]
    replace M := M.sees Sw87
    refine Z9 (Z17 ?_)
    have h8 := hK9 (Z3)
    have h9 := h8 0 _ M.seesAll rfl (fun h => absurd h (by decide))
    simp only [Z7,Z0] at h9
    exact h9
   refine RulesK.cons (fun vs => (A39.put (some 138) (vs 18))) (by kernel_rfl) (by subst hA39; kernel_rfl) ?_ ?_
   ·
    subst hA39
    intro vs gs W88 SW88 D K9 hK9
    replace M := M.sees SW88
    obtain ⟨D18, _⟩ := D
    have e18 : vs 18 = .bool true := D18
    dsimp only at hK9
    dsimp only
    simp only [Z7,Z0]
    rw [e18] at hK9 ⊢
    refine Z11 1 (by rfl) (fun Lk hLk => ?_)
    simp only [Z1,Z2]
    refine wpV_skip (by rfl) (by rfl) ?_
    simp only [Z7,Z0]
    refine Z14 (hLk _ (fun w89 Sw89 => ?_))
    clear hLk Lk
    simp only [Z1,Z2]
    replace M := M.sees Sw89
    refine Z9 (Z17 ?_)
    have h8 := hK9 (Z3)
    have h9 := h8 0 _ Sw89 rfl (fun h => absurd h (by decide))
    simp only [Z7,Z0] at h9
    exact h9
   refine RulesK.cons (fun vs => (((A39.put (some 144) (vs 24)).put (some 143) (vs 23)).put (some 138) (vs 18))) (by kernel_rfl) (by subst hA39; kernel_rfl) ?_ ?_
   ·
    subst hA39
    intro vs gs W90 SW90 D K9 hK9
    replace M := M.sees SW90
    replace R0_0 := M.oldR R0_0 L0
    replace L0 := M.oldL L0
    replace Hp := M.oldA Hp
    replace H6_0 := M.oldA H6_0
    replace H23_0 := M.oldA H23_0
    replace H28_0 := M.oldA H28_0
    replace BB := BB.trans (M.below.mono BB.size)
    replace M := Mem.start W90
    obtain ⟨D18, D23, D24, _⟩ := D
    have e18 : vs 18 = .bool true := D18
    have e23 : vs 23 = Z3 := D23
    have e24 : vs 24 = Z3 := D24
    dsimp only at hK9
    dsimp only
    simp only [Z7,Z0]
    rw [e18, e23, e24] at hK9 ⊢
    refine Z11 1 (by rfl) (fun Lk hLk => ?_)
    simp only [Z1,Z2]
    refine wpV_skip (by rfl) (by rfl) ?_
    simp only [Z7,Z0]
    refine Z14 (hLk _ (fun w91 Sw91 => ?_))
    clear hLk Lk
    simp only [Z1,Z2]
    replace M := M.sees Sw91
    refine Z9 (Z17 ?_)
    have h8 := hK9 (Z3)
    have h9 := h8 0 _ M.seesAll rfl (fun h => absurd h (by decide))
    simp only [Z7,Z0] at h9
    exact h9
   refine RulesK.cons (fun vs => (A39.put (some 138) (vs 18))) (by kernel_rfl) (by subst hA39; kernel_rfl) ?_ ?_
   ·
    subst hA39
    intro vs gs W92 SW92 D K9 hK9
    replace M := M.sees SW92
    obtain ⟨D18, _⟩ := D
    have e18 : vs 18 = .bool true := D18
    dsimp only at hK9
    dsimp only
    simp only [Z7,Z0]
    rw [e18] at hK9 ⊢
    refine Z11 1 (by rfl) (fun Lk hLk => ?_)
    simp only [Z1,Z2]
    refine wpV_skip (by rfl) (by rfl) ?_
    simp only [Z7,Z0]
    refine Z14 (hLk _ (fun w93 Sw93 => ?_))
    clear hLk Lk
    simp only [Z1,Z2]
    replace M := M.sees Sw93
    refine Z9 (Z17 ?_)
    have h8 := hK9 (Z3)
    have h9 := h8 0 _ Sw93 rfl (fun h => absurd h (by decide))
    simp only [Z7,Z0] at h9
    exact h9
   refine RulesK.cons (fun vs => ((A39.put (some 146) (vs 26)).put (some 138) (vs 18))) (by kernel_rfl) (by subst hA39; kernel_rfl) ?_ ?_
   ·
    subst hA39
    intro vs gs W94 SW94 D K9 hK9
    replace M := M.sees SW94
    replace R0_0 := M.oldR R0_0 L0
    replace L0 := M.oldL L0
    replace Hp := M.oldA Hp
    replace H6_0 := M.oldA H6_0
    replace H23_0 := M.oldA H23_0
    replace H28_0 := M.oldA H28_0
    replace BB := BB.trans (M.below.mono BB.size)
    replace M := Mem.start W94
    obtain ⟨D18, D26, _⟩ := D
    have e18 : vs 18 = .bool true := D18
    have e26 : vs 26 = Z3 := D26
    dsimp only at hK9
    dsimp only
    simp only [Z7,Z0]
    rw [e18, e26] at hK9 ⊢
    refine Z11 1 (by rfl) (fun Lk hLk => ?_)
    simp only [Z1,Z2]
    refine wpV_skip (by rfl) (by rfl) ?_
    simp only [Z7,Z0]
    refine Z14 (hLk _ (fun w95 Sw95 => ?_))
    clear hLk Lk
    simp only [Z1,Z2]
    replace M := M.sees Sw95
    refine Z9 (Z17 ?_)
    have h8 := hK9 (Z3)
    have h9 := h8 0 _ M.seesAll rfl (fun h => absurd h (by decide))
    simp only [Z7,Z0] at h9
    exact h9
   refine RulesK.cons (fun vs => (((A39.put (some 147) (vs 27)).put (some 145) (vs 25)).put (some 138) (vs 18))) (by kernel_rfl) (by subst hA39; kernel_rfl) ?_ ?_
   ·
    subst hA39
    intro vs gs W96 SW96 D K9 hK9
    replace M := M.sees SW96
    replace R0_0 := M.oldR R0_0 L0
    replace L0 := M.oldL L0
    replace Hp := M.oldA Hp
    replace H6_0 := M.oldA H6_0
    replace H23_0 := M.oldA H23_0
    replace H28_0 := M.oldA H28_0
    replace BB := BB.trans (M.below.mono BB.size)
    replace M := Mem.start W96
    obtain ⟨D18, D25, D27, _⟩ := D
    have e18 : vs 18 = .bool true := D18
    have e25 : vs 25 = Z3 := D25
    have e27 : vs 27 = Z3 := D27
    dsimp only at hK9
    dsimp only
    simp only [Z7,Z0]
    rw [e18, e25, e27] at hK9 ⊢
    refine Z11 1 (by rfl) (fun Lk hLk => ?_)
    simp only [Z1,Z2]
    refine wpV_skip (by rfl) (by rfl) ?_
    simp only [Z7,Z0]
    refine Z14 (hLk _ (fun w97 Sw97 => ?_))
    clear hLk Lk
    simp only [Z1,Z2]
    replace M := M.sees Sw97
    refine Z9 (Z17 ?_)
    have h8 := hK9 (Z3)
    have h9 := h8 0 _ M.seesAll rfl (fun h => absurd h (by decide))
    simp only [Z7,Z0] at h9
    exact h9
   refine RulesK.cons (fun vs => ((((((A39.put (some 148) (vs 28)).put (some 142) (vs 22)).put (some 141) (vs 21)).put (some 140) (vs 20)).put (some 139) (vs 19)).put (some 138) (vs 18))) (by kernel_rfl) (by subst hA39; kernel_rfl) ?_ ?_
   ·
    subst hA39
    intro vs gs W98 SW98 D K9 hK9
    replace M := M.sees SW98
    obtain ⟨D18, D19, D20, D21, D22, D28, _⟩ := D
    have e18 : vs 18 = .bool true := D18
    have e19 : vs 19 = Z3 := D19
    have e20 : vs 20 = Z3 := D20
    have e21 : vs 21 = Z3 := D21
    have e22 : vs 22 = Z3 := D22
    have e28 : vs 28 = Z3 := D28
    dsimp only at hK9
    dsimp only
    simp only [Z7,Z0]
    rw [e18, e19, e20, e21, e22, e28] at hK9 ⊢
    refine Z11 1 (by rfl) (fun Lk hLk => ?_)
    simp only [Z1,Z2]
    refine wpV_skip (by rfl) (by rfl) ?_
    simp only [Z7,Z0]
    refine Z14 (hLk _ (fun w99 Sw99 => ?_))
    clear hLk Lk
    simp only [Z1,Z2]
    replace M := M.sees Sw99
    refine Z9 (Z17 ?_)
    have h8 := hK9 (Z3)
    have h9 := h8 0 _ Sw99 rfl (fun h => absurd h (by decide))
    simp only [Z7,Z0] at h9
    exact h9
   refine RulesK.cons (fun vs => ((A39.put (some 149) (vs 29)).put (some 138) (vs 18))) (by kernel_rfl) (by subst hA39; kernel_rfl) ?_ ?_
   ·
    subst hA39
    intro vs gs W100 SW100 D K9 hK9
    replace M := M.sees SW100
    obtain ⟨D18, D29, _⟩ := D
    have e18 : vs 18 = .bool true := D18
    have e29 : vs 29 = Z3 := D29
    dsimp only at hK9
    dsimp only
    simp only [Z7,Z0]
    rw [e18, e29] at hK9 ⊢
    refine Z11 1 (by rfl) (fun Lk hLk => ?_)
    simp only [Z1,Z2]
    refine wpV_skip (by rfl) (by rfl) ?_
    simp only [Z7,Z0]
    refine Z14 (hLk _ (fun w101 Sw101 => ?_))
    clear hLk Lk
    simp only [Z1,Z2]
    replace M := M.sees Sw101
    refine Z9 (Z17 ?_)
    have h8 := hK9 (Z3)
    have h9 := h8 0 _ Sw101 rfl (fun h => absurd h (by decide))
    simp only [Z7,Z0] at h9
    exact h9
   refine RulesK.cons (fun vs => (((A39.put (some 150) (vs 30)).put (some 138) (vs 18)).put (some 135) (vs 15))) (by kernel_rfl) (by subst hA39; kernel_rfl) ?_ ?_
   ·
    subst hA39
    intro vs gs W102 SW102 D K9 hK9
    replace M := M.sees SW102
    obtain ⟨D15, D18, D30, _⟩ := D
    have e15 : vs 15 = .bool true := D15
    have e18 : vs 18 = .bool true := D18
    have e30 : vs 30 = Z3 := D30
    dsimp only at hK9
    dsimp only
    simp only [Z7,Z0]
    rw [e15, e18, e30] at hK9 ⊢
    refine Z11 1 (by rfl) (fun Lk hLk => ?_)
    simp only [Z1,Z2]
    refine wpV_pick (v := .bool true) (by rfl) rfl rfl rfl ?_
    simp only [Z7,Z0]
    refine Z14 (hLk _ (fun w103 Sw103 => ?_))
    clear hLk Lk
    simp only [Z1,Z2]
    replace M := M.sees Sw103
    refine Z9 (Z17 ?_)
    have h8 := hK9 (.bool true)
    have h9 := h8 0 _ Sw103 rfl (fun h => absurd h (by decide))
    simp only [Z7,Z0] at h9
    exact h9
   refine RulesK.cons (fun vs => ((A39.put (some 151) (vs 31)).put (some 135) (vs 15))) (by kernel_rfl) (by subst hA39; kernel_rfl) ?_ ?_
   ·
    subst hA39
    intro vs gs W104 SW104 D K9 hK9
    replace M := M.sees SW104
    obtain ⟨D15, D31, _⟩ := D
    have e15 : vs 15 = .bool true := D15
    have e31 : vs 31 = .bool true := D31
    dsimp only at hK9
    dsimp only
    simp only [Z7,Z0]
    rw [e15, e31] at hK9 ⊢
    refine Z11 1 (by rfl) (fun Lk hLk => ?_)
    simp only [Z1,Z2]
    refine wpV_pick (v := .bool true) (by rfl) rfl rfl rfl ?_
    simp only [Z7,Z0]
    refine Z14 (hLk _ (fun w105 Sw105 => ?_))
    clear hLk Lk
    simp only [Z1,Z2]
    replace M := M.sees Sw105
    refine Z9 (Z17 ?_)
    have h8 := hK9 (.bool true)
    have h9 := h8 0 _ Sw105 rfl (fun h => absurd h (by decide))
    simp only [Z7,Z0] at h9
    exact h9
   exact RulesK.nil
  intro vs gs W106 SW106 D A9
  obtain ⟨D0, D1, D2, D3, D4, D5, D7, D9, D10, D11, D12, D13, D14, D15, D16, D17, D18, D19, D20, D21, D22, D23, D24, D25, D26, D27, D28, D29, D30, D31, D32, _⟩ := (show DepRel _ vs gs W106 [0, 1, 2, 3, 4, 5, 7, 9, 10, 11, 12, 13, 14, 15, 16, 17, 18, 19, 20, 21, 22, 23, 24, 25, 26, 27, 28, 29, 30, 31, 32] from D)
  have n10_11 : gs 10 ≠ gs 11 := A9 10 11 (by decide) (by decide) (by decide) (by decide) (by decide)
  clear A9 D
  have e0 : vs 0 = .slice a6 L.length c6 := D0
  have e1 : vs 1 = .int .i64 ((i : Nat) : Int) := D1
  have e2 : vs 2 = .pointer (a6.map (·.add i)) := D2
  have e3 : vs 3 = .string (bs (L.getD i [])) := D3
  have e4 : vs 4 = .int .i64 ((i : Nat) : Int) := D4
  have e5 : vs 5 = .int .i64 ((L.length : Nat) : Int) := D5
  have e7 : vs 7 = .slice a23 ((pathS L i).length) c23 := D7
  have e9 : vs 9 = .string (bs (rootS L)) := D9
  obtain ⟨e10, Og107⟩ := D10
  generalize gs 10 = g107 at *
  replace e10 : vs 10 = .slice (some ⟨g107, 0, none⟩) 1 1 := e10
  obtain ⟨g108c, e11, Cg108, Og108⟩ := D11
  generalize gs 11 = g108 at *
  replace e11 : vs 11 = .slice (some ⟨g108, 0, none⟩) ((pathS L i).length + 1) g108c := e11
  have e12 : vs 12 = .string (bs (rootS L)) := D12
  have e13 : vs 13 = .int .i64 13 := D13
  have e14 : vs 14 = .bool true := D14
  have e15 : vs 15 = .bool true := D15
  have e16 : vs 16 = .int .i64 0 := D16
  have e17 : vs 17 = .bool true := D17
  have e18 : vs 18 = .bool true := D18
  have e19 : vs 19 = Z3 := D19
  have e20 : vs 20 = Z3 := D20
  have e21 : vs 21 = Z3 := D21
  have e22 : vs 22 = Z3 := D22
  have e23 : vs 23 = Z3 := D23
  have e24 : vs 24 = Z3 := D24
  have e25 : vs 25 = Z3 := D25
  have e26 : vs 26 = Z3 := D26
  have e27 : vs 27 = Z3 := D27
  have e28 : vs 28 = Z3 := D28
  have e29 : vs 29 = Z3 := D29
  have e30 : vs 30 = Z3 := D30
  have e31 : vs 31 = .bool true := D31
  have e32 : vs 32 = .bool true := D32
  replace M := M.addOks SW106 [⟨g107, 1, [(0, [.string (bs (rootS L))])]⟩, ⟨g108, g108c, [(0, scells (pathS L i ++ [rootS L]))]⟩] (List.forall_mem_cons.2 ⟨Og107, (List.forall_mem_cons.2 ⟨Og108, (fun _ h => nomatch h)⟩)⟩) (.cons (List.forall_mem_cons.2 ⟨n10_11, (fun _ h => nomatch h)⟩) (.cons (fun _ h => nomatch h) .nil))
  simp only [List.cons_append, List.nil_append] at M
  dsimp only
  simp only [e0, e1, e2, e3, e4, e5, e7, e9, e10, e11, e12, e13, e14, e15, e16, e17, e18, e19, e20, e21, e22, e23, e24, e25, e26, e27, e28, e29, e30, e31, e32, Z2]
  refine Z13 (v := .bool true) (by rfl) (by rfl) (by rfl) ?_
  simp only [Z7,Z0]
  refine Z9 (Z10 ?_)
  refine hK37 _ _ ?_
  refine wp_ret ?_
  repeat (first | with_reducible refine then_ret ?_ | with_reducible refine inblock_ret ?_)
  refine bodyPost_ret (v := .bool true) (res1 rfl (.tmp (by rfl))) rfl ?_
  have BE := M.below
  exact ⟨rfl, BB.trans (BE.mono BB.size)⟩
 cases hg109 : (decide (0 < (pathS L i).length))
 ·
  have hp0 : ¬ 0 < (pathS L i).length := of_decide_eq_false hg109
  refine wp_region_grow 31 [] (by kernel_rfl) (by kernel_rfl) (by kernel_rfl) (fun Lk hLk => ?_)
  simp only [Z1,Z2]
  refine Z16 (v := .slice a23 ((pathS L i).length) c23) (by rfl) rfl rfl ?_
  simp only [Z7,Z0]
  refine wpV_lenA (n := (pathS L i).length) (by rfl) rfl rfl rfl Tryd.underlying48 ?_
  simp only [Z7,Z0]
  refine Z15 (v := .bool false) (by rfl) rfl rfl rfl (fun W => (run_gtrN ((pathS L i).length) 0 _ _ W).trans (by rw [hg109])) ?_
  simp only [Z7,Z0]
  refine Z16 (v := .bool false) (by rfl) rfl rfl ?_
  simp only [Z7,Z0]
  refine wpV_skip (by rfl) (by rfl) ?_
  simp only [Z7,Z0]
  refine wpV_skip (by rfl) (by rfl) ?_
  simp only [Z7,Z0]
  refine wpV_skip (by rfl) (by rfl) ?_
  simp only [Z7,Z0]
  refine wpV_skip (by rfl) (by rfl) ?_
  simp only [Z7,Z0]
  refine wpV_skip (by rfl) (by rfl) ?_
  simp only [Z7,Z0]
  refine wpV_skip (by rfl) (by rfl) ?_
  simp only [Z7,Z0]
  refine wpV_skip (by rfl) (by rfl) ?_
  simp only [Z7,Z0]
  refine wpV_skip (by rfl) (by rfl) ?_
  simp only [Z7,Z0]
  refine wpV_skip (by rfl) (by rfl) ?_
  simp only [Z7,Z0]
  refine wpV_skip (by rfl) (by rfl) ?_
  simp only [Z7,Z0]
  refine wpV_skip (by rfl) (by rfl) ?_
  simp only [Z7,Z0]
  refine wpV_pick (v := .bool false) (by rfl) rfl rfl rfl ?_
  simp only [Z7,Z0]
  refine Z16 (v := .bool false) (by rfl) rfl rfl ?_
  simp only [Z7,Z0]
  refine Z16 (v := .slice a28 ((stepP L 0).length) c28) (by rfl) rfl rfl ?_
  simp only [Z7,Z0]
  refine wpV_lenA (n := (stepP L 0).length) (by rfl) rfl rfl rfl Tryd.underlying48 ?_
  simp only [Z7,Z0]
  refine Z15 (v := .bool false) (by rfl) rfl rfl rfl (fun W => (run_gtrN ((stepP L 0).length) 0 _ _ W).trans (by rw [(show decide (0 < (stepP L 0).length) = false from rfl)])) ?_
  simp only [Z7,Z0]
  refine Z16 (v := .bool false) (by rfl) rfl rfl ?_
  simp only [Z7,Z0]
  refine wpV_skip (by rfl) (by rfl) ?_
  simp only [Z7,Z0]
  refine wpV_skip (by rfl) (by rfl) ?_
  simp only [Z7,Z0]
  refine wpV_skip (by rfl) (by rfl) ?_
  simp only [Z7,Z0]
  refine wpV_skip (by rfl) (by rfl) ?_
  simp only [Z7,Z0]
  refine wpV_skip (by rfl) (by rfl) ?_
  simp only [Z7,Z0]
  refine wpV_skip (by rfl) (by rfl) ?_
  simp only [Z7,Z0]
  refine wpV_skip (by rfl) (by rfl) ?_
  simp only [Z7,Z0]
  refine wpV_skip (by rfl) (by rfl) ?_
  simp only [Z7,Z0]
  refine wpV_pick (v := .bool false) (by rfl) rfl rfl rfl ?_
  simp only [Z7,Z0]
  refine wpV_pick (v := .bool false) (by rfl) rfl rfl rfl ?_
  simp only [Z7,Z0]
  refine Z14 (hLk.out _ ?_)
  clear hLk Lk
  simp only [Z1,Z2]
  iterate 31 refine wpN_skip (by rfl) ?_
  refine wpN_nil (fun w111 Sw111 hbs => ?_)
  clear hbs
  replace M := M.sees Sw111
  refine Z9 (Z10 ?_)
  exact HK35  (fun q9 => (#[.slice ap ds.length cp, Z3, Z3, Z3, Z3, Z3, Z3, Z3, Z3, Z3, Z3, Z3, Z3, Z3, Z3, .slice ap ds.length cp, .slice a6 L.length c6, .slice a6 L.length c6, .int .i64 ((L.length : Nat) : Int), .bool false, Z3, .slice a6 L.length c6, .int .i64 ((L.length : Nat) : Int), .int .i64 x, .int .i64 ((L.length : Nat) : Int), .int .i64 (x.tmod ((L.length : Nat) : Int)), .int .i64 ((L.length : Nat) : Int), .int .i64 ((x.tmod ((L.length : Nat) : Int)) + ((L.length : Nat) : Int)), .int .i64 ((L.length : Nat) : Int), .int .i64 ((i : Nat) : Int), .int .i64 y, .int .i64 ((L.length : Nat) : Int), .int .i64 ((L.length + 1 : Nat) : Int), .int .i64 (y.tmod ((L.length + 1 : Nat) : Int)), .int .i64 ((L.length : Nat) : Int), .int .i64 ((y.tmod ((L.length + 1 : Nat) : Int)) + ((L.length : Nat) : Int)), .int .i64 ((y.tmod ((L.length + 1 : Nat) : Int)) + ((L.length + 1 : Nat) : Int)), .int .i64 ((L.length : Nat) : Int), .int .i64 ((L.length + 1 : Nat) : Int), .int .i64 0, .slice a6 L.length c6, .string (bs (rootS L)), .slice a6 L.length c6, .int .i64 0, .slice a6 0 c6, .string (bs (rootS (L.take 0))), .tuple #[.slice a23 ((pathS L i).length) c23, .int .i64 0], .slice a6 L.length c6, .int .i64 ((i : Nat) : Int), .tuple #[.slice a23 ((pathS L i).length) c23, .int .i64 0], .slice a23 ((pathS L i).length) c23, .int .i64 0, .tuple #[.slice a28 ((stepP L 0).length) c28, .int .i64 0], .slice a6 L.length c6, .int .i64 0, .tuple #[.slice a28 ((stepP L 0).length) c28, .int .i64 0], .slice a28 ((stepP L 0).length) c28, .int .i64 0, .int .i64 0, .bool false, .bool false, .int .i64 0, .bool false, .bool false, .bool false, .slice a6 L.length c6, .int .i64 ((i : Nat) : Int), .pointer (a6.map (·.add i)), .string (bs (L.getD i [])), .int .i64 ((i : Nat) : Int), .int .i64 ((L.length : Nat) : Int), .slice a23 ((pathS L i).length) c23, .string (bs (rootS L)), .int .i64 0, .bool false, .bool false, .bool false, .int .i64 0, .int .i64 ((L.length : Nat) : Int), .string (bs (rootS (L.take 0))), .string (bs (rootS L)), .slice a28 ((stepP L 0).length) c28, .int .i64 0, .bool false, .bool false, .bool false, .bool true, .bool false, .bool false, .slice a23 ((pathS L i).length) c23, .int .i64 (((pathS L i).length : Nat) : Int), .bool false, .bool false, Z3, Z3, Z3, Z3, Z3, Z3, Z3, Z3, Z3, Z3, Z3, .bool false, .bool false, .slice a28 ((stepP L 0).length) c28, .int .i64 (((stepP L 0).length : Nat) : Int), .bool false, .bool false, Z3, Z3, Z3, Z3, Z3, Z3, Z3, Z3, .bool false] : Array Value).getD q9 Z3) _  M 
 ·
  have hp0 : 0 < (pathS L i).length := of_decide_eq_true hg109
  refine wp_region_grow 31 [] (by kernel_rfl) (by kernel_rfl) (by kernel_rfl) (fun Lk hLk => ?_)
  simp only [Z1,Z2]
  refine Z16 (v := .slice a23 ((pathS L i).length) c23) (by rfl) rfl rfl ?_
  simp only [Z7,Z0]
  refine wpV_lenA (n := (pathS L i).length) (by rfl) rfl rfl rfl Tryd.underlying48 ?_
  simp only [Z7,Z0]
  refine Z15 (v := .bool true) (by rfl) rfl rfl rfl (fun W => (run_gtrN ((pathS L i).length) 0 _ _ W).trans (by rw [hg109])) ?_
  simp only [Z7,Z0]
  refine Z16 (v := .bool true) (by rfl) rfl rfl ?_
  simp only [Z7,Z0]
  refine Z16 (v := .slice a6 L.length c6) (by rfl) rfl rfl ?_
  simp only [Z7,Z0]
  refine Z16 (v := .int .i64 ((i : Nat) : Int)) (by rfl) rfl rfl ?_
  simp only [Z7,Z0]
  refine wpV_idxA (i := i) (by rfl) rfl rfl rfl Tryd.underlying48 info9 (M.oldA H6_0) (by omega) ?_
  simp only [Z7,Z0]
  refine wpV_loadA (i := i) (v := .string (bs (L.getD i []))) (by rfl) rfl rfl (M.oldA H6_0) (scells_get (ps := L) (by omega)) Tryd.underlying9 rfl ?_
  simp only [Z7,Z0]
  refine Z16 (v := .int .i64 ((i : Nat) : Int)) (by rfl) rfl rfl ?_
  simp only [Z7,Z0]
  refine Z16 (v := .int .i64 ((L.length : Nat) : Int)) (by rfl) rfl rfl ?_
  simp only [Z7,Z0]
  refine Z16 (v := .slice a23 ((pathS L i).length) c23) (by rfl) rfl rfl ?_
  simp only [Z7,Z0]
  refine wpV_slcL (lo := 1) (by rfl) rfl rfl rfl Tryd.underlying48 info9 (by omega) ?_
  simp only [Z7,Z0]
  refine Z16 (v := .string (bs (rootS L))) (by rfl) rfl rfl ?_
  simp only [Z7,Z0]
  refine Z20 (v := .int .i64 13) (args := #[.string (bs (L.getD i [])), .int .i64 ((i : Nat) : Int), .int .i64 ((L.length : Nat) : Int), .slice (slA a23 1 c23) (((pathS L i).length) - 1) (c23 - 1), .string (bs (rootS L))]) (by rfl) rfl Tryd.func56 (by kernel_rfl) (by kernel_rfl) rfl (fun W hW => by with_reducible exact HoldsX rfl hi2 hL4 hL32 (drop1_32 hp32) (drop1_le hpq) (drop1_ne hp0) ((M.sees hW).oldL L0) ((M.sees hW).oldR R0_0 L0) ((((M.sees hW).oldA H23_0).drop (by omega)).eq (scells_drop2 _ _))) ?_
  simp only [Z7,Z0]
  refine Z15 (v := .bool false) (by rfl) rfl rfl rfl (fun W => run_neq _ _ _ _ W) ?_
  simp only [Z7,Z0]
  refine wpV_pick (v := .bool false) (by rfl) rfl rfl rfl ?_
  simp only [Z7,Z0]
  refine Z16 (v := .bool false) (by rfl) rfl rfl ?_
  simp only [Z7,Z0]
  refine Z16 (v := .slice a28 ((stepP L 0).length) c28) (by rfl) rfl rfl ?_
  simp only [Z7,Z0]
  refine wpV_lenA (n := (stepP L 0).length) (by rfl) rfl rfl rfl Tryd.underlying48 ?_
  simp only [Z7,Z0]
  refine Z15 (v := .bool false) (by rfl) rfl rfl rfl (fun W => (run_gtrN ((stepP L 0).length) 0 _ _ W).trans (by rw [(show decide (0 < (stepP L 0).length) = false from rfl)])) ?_
  simp only [Z7,Z0]
  refine Z16 (v := .bool false) (by rfl) rfl rfl ?_
  simp only [Z7,Z0]
  refine wpV_skip (by rfl) (by rfl) ?_
  simp only [Z7,Z0]
  refine wpV_skip (by rfl) (by rfl) ?_
  simp only [Z7,Z0]
  refine wpV_skip (by rfl) (by rfl) ?_
  simp only [Z7,Z0]
  refine wpV_skip (by rfl) (by rfl) ?_
  simp only [Z7,Z0]
  refine wpV_skip (by rfl) (by rfl) ?_
  simp only [Z7,Z0]
  refine wpV_skip (by rfl) (by rfl) ?_
  simp only [Z7,Z0]
  refine wpV_skip (by rfl) (by rfl) ?_
  simp only [Z7,Z0]
  refine wpV_skip (by rfl) (by rfl) ?_
  simp only [Z7,Z0]
  refine wpV_pick (v := .bool false) (by rfl) rfl rfl rfl ?_
  simp only [Z7,Z0]
  refine wpV_pick (v := .bool false) (by rfl) rfl rfl rfl ?_
  simp only [Z7,Z0]
  refine Z14 (hLk.out _ ?_)
  clear hLk Lk
  simp only [Z1,Z2]
  iterate 31 refine wpN_skip (by rfl) ?_
  refine wpN_nil (fun w113 Sw113 hbs => ?_)
  clear hbs
  replace M := M.sees Sw113
  refine Z9 (Z10 ?_)
  exact HK35  (fun q9 => (#[.slice ap ds.length cp, Z3, Z3, Z3, Z3, Z3, Z3, Z3, Z3, Z3, Z3, Z3, Z3, Z3, Z3, .slice ap ds.length cp, .slice a6 L.length c6, .slice a6 L.length c6, .int .i64 ((L.length : Nat) : Int), .bool false, Z3, .slice a6 L.length c6, .int .i64 ((L.length : Nat) : Int), .int .i64 x, .int .i64 ((L.length : Nat) : Int), .int .i64 (x.tmod ((L.length : Nat) : Int)), .int .i64 ((L.length : Nat) : Int), .int .i64 ((x.tmod ((L.length : Nat) : Int)) + ((L.length : Nat) : Int)), .int .i64 ((L.length : Nat) : Int), .int .i64 ((i : Nat) : Int), .int .i64 y, .int .i64 ((L.length : Nat) : Int), .int .i64 ((L.length + 1 : Nat) : Int), .int .i64 (y.tmod ((L.length + 1 : Nat) : Int)), .int .i64 ((L.length : Nat) : Int), .int .i64 ((y.tmod ((L.length + 1 : Nat) : Int)) + ((L.length : Nat) : Int)), .int .i64 ((y.tmod ((L.length + 1 : Nat) : Int)) + ((L.length + 1 : Nat) : Int)), .int .i64 ((L.length : Nat) : Int), .int .i64 ((L.length + 1 : Nat) : Int), .int .i64 0, .slice a6 L.length c6, .string (bs (rootS L)), .slice a6 L.length c6, .int .i64 0, .slice a6 0 c6, .string (bs (rootS (L.take 0))), .tuple #[.slice a23 ((pathS L i).length) c23, .int .i64 0], .slice a6 L.length c6, .int .i64 ((i : Nat) : Int), .tuple #[.slice a23 ((pathS L i).length) c23, .int .i64 0], .slice a23 ((pathS L i).length) c23, .int .i64 0, .tuple #[.slice a28 ((stepP L 0).length) c28, .int .i64 0], .slice a6 L.length c6, .int .i64 0, .tuple #[.slice a28 ((stepP L 0).length) c28, .int .i64 0], .slice a28 ((stepP L 0).length) c28, .int .i64 0, .int .i64 0, .bool false, .bool false, .int .i64 0, .bool false, .bool false, .bool false, .slice a6 L.length c6, .int .i64 ((i : Nat) : Int), .pointer (a6.map (·.add i)), .string (bs (L.getD i [])), .int .i64 ((i : Nat) : Int), .int .i64 ((L.length : Nat) : Int), .slice a23 ((pathS L i).length) c23, .string (bs (rootS L)), .int .i64 0, .bool false, .bool false, .bool false, .int .i64 0, .int .i64 ((L.length : Nat) : Int), .string (bs (rootS (L.take 0))), .string (bs (rootS L)), .slice a28 ((stepP L 0).length) c28, .int .i64 0, .bool false, .bool false, .bool false, .bool true, .bool false, .bool false, .slice a23 ((pathS L i).length) c23, .int .i64 (((pathS L i).length : Nat) : Int), .bool true, .bool true, .slice a6 L.length c6, .int .i64 ((i : Nat) : Int), .pointer (a6.map (·.add i)), .string (bs (L.getD i [])), .int .i64 ((i : Nat) : Int), .int .i64 ((L.length : Nat) : Int), .slice a23 ((pathS L i).length) c23, .slice (slA a23 1 c23) (((pathS L i).length) - 1) (c23 - 1), .string (bs (rootS L)), .int .i64 13, .bool false, .bool false, .bool false, .slice a28 ((stepP L 0).length) c28, .int .i64 (((stepP L 0).length : Nat) : Int), .bool false, .bool false, Z3, Z3, Z3, Z3, Z3, Z3, Z3, Z3, .bool false] : Array Value).getD q9 Z3) _  M 
end Go.Proofs.Yb

