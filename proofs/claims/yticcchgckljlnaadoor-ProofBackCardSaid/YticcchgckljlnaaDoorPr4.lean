/- A row of texts, turned round in place. -/
import Derived.Test.YticcchgckljlnaaDoorTrS
import Derived.Test.YticcchgckljlnaaDoorBld
import Derived.WalkSmall
import Derived.WalkKit
import Derived.WalkSpells
import Derived.Laws.Pointers
import Derived.RowKit3
import Derived.Below
import Derived.Outline
import Derived.LoopN
import Derived.Lib.Hide
import Derived.Handy
import Derived.Laws.Bits64b
import Derived.Test.YticcchgckljlnaaDoorTr14
import Derived.Test.YticcchgckljlnaaDoorPrP
import Derived.Test.YticcchgckljlnaaDoorTrP
import Derived.Test.YticcchgckljlnaaDoorJoinB
import Derived.Test.YticcchgckljlnaaDoorTr3
import Derived.Test.YticcchgckljlnaaDoorTr2
import Derived.Test.YticcchgckljlnaaDoorTr7
set_option linter.unusedSimpArgs false
set_option linter.unusedVariables false
namespace Go.Proofs.Yb
open Go Go.RowKit Go.Lib Go.Sort Go.Proofs.Num
open List renaming set → Z0, take → Z1, drop → Z2
open Go renaming undef → Z3, wp_seq_k → Z4, wp_cond_true → Z5, wp_cond_false → Z6
open Go.Proofs.Num renaming putT → Z7, wp_region_seq → Z8, wpL_nil → Z9, no_panic → Z10, wpL_chunk → Z11, wpL_move → Z12, wpL_assign → Z13, wpV_nil → Z14, wpV_bin → Z15, wpV_move → Z16, then_normal → Z17, wpL_store1 → Z18, wpV_val → Z19, wpV_callf → Z20
theorem sees_drewN (w : World) (q : Nat) : Sees w (w.drewN q) := sees_of (below_drewN (Below.refl _ _) q)
theorem rev_cells (ps : List (List UInt8)) : ((Lib.strsOf (fun i => bs (ps.getD i [])) ps.length).reverse.map encStr) = scells ps.reverse := by
 have e : Lib.strsOf (fun i => bs (ps.getD i [])) ps.length = ps := by
  unfold Lib.strsOf
  refine List.ext_getElem (by simp) fun i h1 h2 => ?_
  simp [bs, List.getD_eq_getElem?_getD, h2]
 rw [e]
 simp [scells, encStr, bs]
theorem rev_c {g N c : Nat} {ps : List (List UInt8)} {w : World} (hq : ps.length ≤ 4611686018427387904) (hN : ps.length ≤ N) (hM : Mem [g] w w [⟨g, N, [(0, scells ps)]⟩]) :
  Calls Tryd.prog 79 #[.slice (some ⟨g, 0, none⟩) ps.length c] w fun e w' => ∃ v, e = .returned v ∧ v = .tuple #[] ∧ Mem [g] w w' [⟨g, N, [(0, scells ps.reverse)]⟩] := by
 have hR := hM.r 0 0 rfl rfl
 have hT := hM.t 0 rfl
 refine (Tryd.slices_Reverse_string_cells g 0 ps.length c (fun i => bs (ps.getD i [])) w (by omega) (fun i hi => hR i _ (scells_get hi)) (fun j hj => (hT j (by simp only; omega)).2)).mono fun e w' ⟨he, q, hw⟩ => ?_
 rw [rev_cells] at hw
 subst hw
 have M := hM.sees (sees_drewN w q)
 have hT2 := M.t 0 rfl
 have hp := puts_cells g (scells ps.reverse) 0 (w.drewN q)
 have hcells := World.rangeAt_setCells_same (w.drewN q) g 0 (scells ps.reverse) (fun j hj => by
  rw [scells_len, List.length_reverse] at hj
  exact hT2 j (by simp only; omega))
 refine ⟨_, he, rfl, ?_⟩
 exact M.put (segs' := [(0, scells ps.reverse)]) 0 rfl hp (hp.there hT2 fun _ j hj => by rw [hcells j (scells ps.reverse)[j] (by simp [hj])]; rfl) (fun s hs => by rw [List.mem_singleton.1 hs]; exact hcells)
end Go.Proofs.Yb

namespace Go.Proofs.Yb
open Go Go.RowKit Go.Proofs.Num
open List renaming set → Z0, take → Z1, drop → Z2
open Go renaming undef → Z3, wp_seq_k → Z4, wp_cond_true → Z5, wp_cond_false → Z6
open Go.Proofs.Num renaming putT → Z7, wp_region_seq → Z8, wpL_nil → Z9, no_panic → Z10, wpL_chunk → Z11, wpL_move → Z12, wpL_assign → Z13, wpV_nil → Z14, wpV_bin → Z15, wpV_move → Z16, then_normal → Z17, wpL_store1 → Z18, wpV_val → Z19, wpV_callf → Z20
attribute [local irreducible] wpV wpN wpList
set_option maxHeartbeats 1000000 in
theorem psplit_c {n : Nat} {w : World} (h2 : 2 ≤ n) (hn : n ≤ 4096) :
  Calls Tryd.prog 77 #[.int .i64 ((n : Nat) : Int)] w fun e w' => e = .returned (.int .i64 ((splitN n : Nat) : Int)) ∧ Below w.heap.size w w' := by
 go_enter Tryd.func77, Tryd.ntmps77
 have M := Mem.start w
 refine Z4 (fun K1 hK1 => ?_)
 refine Z8 ?_
 refine Z13 (v := .int .i64 0) (by rfl) (by rfl) (by rfl) ?_
 simp only [Z7,Z0]
 refine Z9 (Z10 ?_)
 refine hK1 _ _ ?_
 refine Z4 (fun K3 hK3 => ?_)
 refine Z8 ?_
 refine Z13 (v := .int .i64 1) (by rfl) (by rfl) (by rfl) ?_
 simp only [Z7,Z0]
 refine Z9 (Z10 ?_)
 refine hK3 _ _ ?_
 refine Z4 (fun K5 hK5 => ?_)
 refine wp_block ?_
 refine wp_loop_ghost (fun n9 a9 W9 => ∃ (k : Nat) (j : Nat) (u6 : Nat → Value), n9 = 2 * (n - k) ∧ a9 = { tmps := #[.int .i64 ((n : Nat) : Int), Z3, .int .i64 0, .int .i64 ((k : Nat) : Int), u6 4, u6 5, u6 6, u6 7, u6 8, u6 9, Z3], defers := [] } ∧ Mem [] w W9 [] ∧ (k = 2 ^ j) ∧ (k < n)) (2 * (n - (1))) ?_ (fun n9 a9 W9 hI => ?_)
 ·
  exact ⟨1, 0, (fun q9 => (#[Z3, Z3, Z3, Z3, Z3, Z3, Z3, Z3, Z3, Z3] : Array Value).getD q9 Z3), rfl, rfl, M, rfl, (by omega)⟩
 clear M
 obtain ⟨k, j, u6, rfl, rfl, M, hk, hkn⟩ := hI
 obtain ⟨w7, rfl⟩ : ∃ W8, W8 = W9 := ⟨_, rfl⟩
 have hkp : 0 < k := hk ▸ Nat.two_pow_pos j
 refine Z4 (fun K8 hK8 => ?_)
 refine Z4 (fun K9 hK9 => ?_)
 refine Z8 ?_
 refine Z12 (v := .int .i64 ((k : Nat) : Int)) (by rfl) (by rfl) (by rfl) ?_
 simp only [Z7,Z0]
 refine Z11 3 (by rfl) (fun Lk hLk => ?_)
 simp only [Z1,Z2]
 refine Z15 (v := .int .i64 ((2 * k : Nat) : Int)) (by rfl) rfl rfl rfl (fun W => run_shl (m := k) (n := 1) (by show _ ≤ 64; omega) (by simp only [IntKind.wrap_i64]; omega) W) ?_
 simp only [Z7,Z0]
 refine Z16 (v := .int .i64 ((n : Nat) : Int)) (by rfl) rfl rfl ?_
 simp only [Z7,Z0]
 refine Z15 (v := .bool (decide (2 * k < n))) (by rfl) rfl rfl rfl (fun W => run_lssN (2 * k) n _ _ W) ?_
 simp only [Z7,Z0]
 refine Z14 (hLk _ (fun w11 Sw11 => ?_))
 clear hLk Lk
 simp only [Z1,Z2]
 replace M := M.sees Sw11
 refine Z9 (Z10 ?_)
 refine hK9 _ _ ?_
 cases hc12 : (decide (2 * k < n))
 ·
  have h2k : ¬ 2 * k < n := of_decide_eq_false hc12
  refine Z6 rfl ?_
  refine wp_exit ?_
  refine hK5 _ _ ?_
  refine Z4 (fun K13 hK13 => ?_)
  refine Z8 ?_
  refine Z12 (v := .int .i64 ((k : Nat) : Int)) (by rfl) (by rfl) (by rfl) ?_
  simp only [Z7,Z0]
  refine Z13 (v := .int .i64 ((k : Nat) : Int)) (by rfl) (by rfl) (by rfl) ?_
  simp only [Z7,Z0]
  refine Z9 (Z10 ?_)
  refine hK13 _ _ ?_
  refine wp_ret ?_
  repeat (first | with_reducible refine then_ret ?_ | with_reducible refine inblock_ret ?_)
  refine bodyPost_ret (v := .int .i64 ((k : Nat) : Int)) (res1 rfl (.tmp (by rfl))) rfl ?_
  have BE := M.below
  exact ⟨by rw [splitN_of (j := j) (by omega) (by omega), hk], BE⟩
 ·
  have h2k : 2 * k < n := of_decide_eq_true hc12
  refine Z5 rfl ?_
  refine wp_skip ?_
  refine hK8 _ _ ?_
  refine wp_block ?_
  refine Z8 ?_
  refine Z12 (v := .int .i64 ((k : Nat) : Int)) (by rfl) (by rfl) (by rfl) ?_
  simp only [Z7,Z0]
  refine Z11 1 (by rfl) (fun Lk hLk => ?_)
  simp only [Z1,Z2]
  refine Z15 (v := .int .i64 ((2 * k : Nat) : Int)) (by rfl) rfl rfl rfl (fun W => run_shl (m := k) (n := 1) (by show _ ≤ 64; omega) (by simp only [IntKind.wrap_i64]; omega) W) ?_
  simp only [Z7,Z0]
  refine Z14 (hLk _ (fun w16 Sw16 => ?_))
  clear hLk Lk
  simp only [Z1,Z2]
  replace M := M.sees Sw16
  refine Z13 (v := .int .i64 ((2 * k : Nat) : Int)) (by rfl) (by rfl) (by rfl) ?_
  simp only [Z7,Z0]
  refine Z9 (Z10 ?_)
  refine Exists.intro _ ⟨?_, (2 * k), (j + 1), (fun q9 => (#[Z3, Z3, Z3, Z3, .int .i64 ((k : Nat) : Int), .int .i64 ((2 * k : Nat) : Int), .int .i64 ((n : Nat) : Int), .bool true, .int .i64 ((k : Nat) : Int), .int .i64 ((2 * k : Nat) : Int)] : Array Value).getD q9 Z3), rfl, rfl, M, (by rw [hk, Nat.pow_succ, Nat.mul_comm]), h2k⟩
  omega
set_option maxHeartbeats 1000000 in
theorem proot_c {ps : List (List UInt8)} {ap : Option Addr} {np cp : Nat} {w : World} (hok : rightB ps = true) (L0 : 0 < w.heap.size) (R0_0 : w.rangeAt 0 0 kcells) (Hp : RowA w ap np cp (scells ps)) :
  Calls Tryd.prog 78 #[.slice ap np cp] w fun e w' => e = .returned (.string (bs (rootS ps))) ∧ Below w.heap.size w w' := by
 obtain rfl : np = ps.length := by have := Hp.len; rwa [scells_len] at this
 go_enter Tryd.func78, Tryd.ntmps78
 have M := Mem.start w
 refine Z4 (fun K1 hK1 => ?_)
 refine Z8 ?_
 refine Z13 (v := .string (bs ([]))) (by rfl) (by rfl) (by rfl) ?_
 simp only [Z7,Z0]
 refine Z9 (Z10 ?_)
 refine hK1 _ _ ?_
 refine Z4 (fun K3 hK3 => ?_)
 refine Z8 ?_
 refine Z12 (v := .slice ap ps.length cp) (by rfl) (by rfl) (by rfl) ?_
 simp only [Z7,Z0]
 refine Z11 4 (by rfl) (fun Lk hLk => ?_)
 simp only [Z1,Z2]
 refine Z20 (v := .tuple #[.string (bs (rootS ps)), .int .i64 0]) (args := #[.slice ap ps.length cp]) (by rfl) rfl Tryd.func37 (by kernel_rfl) (by kernel_rfl) rfl (fun W hW => by with_reducible exact Root_r (ps := ps) hok ((M.sees hW).oldL L0) ((M.sees hW).oldR R0_0 L0) ((M.sees hW).oldA Hp)) ?_
 simp only [Z7,Z0]
 refine Z16 (v := .tuple #[.string (bs (rootS ps)), .int .i64 0]) (by rfl) rfl rfl ?_
 simp only [Z7,Z0]
 refine wpV_extract (v := .string (bs (rootS ps))) (by rfl) rfl rfl rfl ?_
 simp only [Z7,Z0]
 refine wpV_extract (v := .int .i64 0) (by rfl) rfl rfl rfl ?_
 simp only [Z7,Z0]
 refine Z14 (hLk _ (fun w5 Sw5 => ?_))
 clear hLk Lk
 simp only [Z1,Z2]
 replace M := M.sees Sw5
 refine Z13 (v := .string (bs (rootS ps))) (by rfl) (by rfl) (by rfl) ?_
 simp only [Z7,Z0]
 refine Z13 (v := .int .i64 0) (by rfl) (by rfl) (by rfl) ?_
 simp only [Z7,Z0]
 refine Z9 (Z10 ?_)
 refine hK3 _ _ ?_
 refine Z4 (fun K6 hK6 => ?_)
 refine Z8 ?_
 refine Z12 (v := .string (bs (rootS ps))) (by rfl) (by rfl) (by rfl) ?_
 simp only [Z7,Z0]
 refine Z13 (v := .string (bs (rootS ps))) (by rfl) (by rfl) (by rfl) ?_
 simp only [Z7,Z0]
 refine Z9 (Z10 ?_)
 refine hK6 _ _ ?_
 refine wp_ret ?_
 repeat (first | with_reducible refine then_ret ?_ | with_reducible refine inblock_ret ?_)
 refine bodyPost_ret (v := .string (bs (rootS ps))) (res1 rfl (.tmp (by rfl))) rfl ?_
 have BE := M.below
 exact ⟨rfl, BE⟩
set_option maxHeartbeats 4000000 in
theorem Path_go {l : List (List UInt8)} {ap : Option Addr} {np cp : Nat} {i0 : Nat} {w : World} (hok : rightB l = true) (hx : i0 < l.length) (L0 : 0 < w.heap.size) (R0_0 : w.rangeAt 0 0 kcells) (Hp : RowA w ap np cp (scells l)) :
  Calls Tryd.prog 47 #[.slice ap np cp, .int .i64 ((i0 : Nat) : Int)] w fun e w' => ∃ a n c, e = .returned (.tuple #[.slice a n c, .int .i64 0]) ∧ RowA w' a n c (scells (pathS l i0)) ∧ Below w.heap.size w w' := by
 obtain rfl : np = l.length := by have := Hp.len; rwa [scells_len] at this
 have h4 := of_right_len hok
 have h32 := all32_mem (of_right hok)
 go_enter Tryd.func47, Tryd.ntmps47
 have M := Mem.start w
 refine Z4 (fun K1 hK1 => ?_)
 refine Z8 ?_
 refine Z13 (v := (.slice none 0 0)) (by rfl) (by rfl) (by rfl) ?_
 simp only [Z7,Z0]
 refine Z13 (v := .int .i64 0) (by rfl) (by rfl) (by rfl) ?_
 simp only [Z7,Z0]
 refine Z9 (Z10 ?_)
 refine hK1 _ _ ?_
 refine Z4 (fun K3 hK3 => ?_)
 refine Z4 (fun K4 hK4 => ?_)
 refine Z8 ?_
 refine Z12 (v := .slice ap l.length cp) (by rfl) (by rfl) (by rfl) ?_
 simp only [Z7,Z0]
 refine Z11 12 (by rfl) (fun Lk hLk => ?_)
 simp only [Z1,Z2]
 refine Z20 (v := .bool true) (args := #[.slice ap l.length cp]) (by rfl) rfl Tryd.func42 (by kernel_rfl) (by kernel_rfl) rfl (fun W hW => by have h9 : Calls Tryd.prog _ _ W _ := right_r (ps := l)  ((M.sees hW).oldA Hp); rw [hok] at h9; exact h9) ?_
 simp only [Z7,Z0]
 refine wpV_not (b := true) (by rfl) rfl rfl ?_
 simp only [Bool.not_true, Bool.not_false]
 simp only [Z7,Z0]
 refine Z16 (v := .bool false) (by rfl) rfl rfl ?_
 simp only [Z7,Z0]
 refine Z16 (v := .int .i64 ((i0 : Nat) : Int)) (by rfl) rfl rfl ?_
 simp only [Z7,Z0]
 refine Z15 (v := .bool false) (by rfl) rfl rfl rfl (fun W => (run_lssN i0 0 _ _ W).trans (by rw [(decide_eq_false (Nat.not_lt_zero i0))])) ?_
 simp only [Z7,Z0]
 refine wpV_pick (v := .bool false) (by rfl) rfl rfl rfl ?_
 simp only [Z7,Z0]
 refine Z16 (v := .bool false) (by rfl) rfl rfl ?_
 simp only [Z7,Z0]
 refine Z16 (v := .int .i64 ((i0 : Nat) : Int)) (by rfl) rfl rfl ?_
 simp only [Z7,Z0]
 refine Z16 (v := .slice ap l.length cp) (by rfl) rfl rfl ?_
 simp only [Z7,Z0]
 refine wpV_lenA (n := l.length) (by rfl) rfl rfl rfl Tryd.underlying48 ?_
 simp only [Z7,Z0]
 refine Z15 (v := .bool false) (by rfl) rfl rfl rfl (fun W => (run_geqN i0 l.length _ _ W).trans (by rw [(decide_eq_false (Nat.not_le.2 hx))])) ?_
 simp only [Z7,Z0]
 refine wpV_pick (v := .bool false) (by rfl) rfl rfl rfl ?_
 simp only [Z7,Z0]
 refine Z14 (hLk _ (fun w6 Sw6 => ?_))
 clear hLk Lk
 simp only [Z1,Z2]
 replace M := M.sees Sw6
 refine Z9 (Z10 ?_)
 refine hK4 _ _ ?_
 refine Z6 rfl ?_
 refine wp_skip ?_
 refine hK3 _ _ ?_
 refine Z4 (fun K7 hK7 => ?_)
 refine Z8 ?_
 refine Z13 (v := (.slice none 0 0)) (by rfl) (by rfl) (by rfl) ?_
 simp only [Z7,Z0]
 refine Z9 (Z10 ?_)
 refine hK7 _ _ ?_
 refine Z4 (fun K9 hK9 => ?_)
 refine Z4 (fun K10 hK10 => ?_)
 refine Z8 ?_
 refine Z12 (v := .slice ap l.length cp) (by rfl) (by rfl) (by rfl) ?_
 simp only [Z7,Z0]
 refine Z13 (v := .slice ap l.length cp) (by rfl) (by rfl) (by rfl) ?_
 simp only [Z7,Z0]
 refine Z9 (Z10 ?_)
 refine hK10 _ _ ?_
 refine wp_block ?_
 refine wp_loop_peel (fun n9 a9 W9 => ∃ (cur : List (List UInt8)) (i2 : Nat) (q : Nat) (Ps : List (List UInt8)) (o : Nat) (oc : Nat) (ar : Option Addr) (nr : Nat) (cr : Nat) (u12 : Nat → Value), n9 = 2 * cur.length ∧ a9 = { tmps := #[.slice ap l.length cp, .int .i64 ((i2 : Nat) : Int), Z3, Z3, (.slice none 0 0), .int .i64 0, .slice (some ⟨o, 0, none⟩) q oc, .slice ar nr cr, u12 8, .slice ap l.length cp, .bool true, .bool false, .bool false, .int .i64 ((i0 : Nat) : Int), .bool false, .bool false, .bool false, .int .i64 ((i0 : Nat) : Int), .slice ap l.length cp, .int .i64 ((l.length : Nat) : Int), .bool false, .bool false, .slice ap l.length cp, u12 23, u12 24, u12 25, u12 26, u12 27, u12 28, u12 29, u12 30, u12 31, u12 32, u12 33, u12 34, u12 35, u12 36, u12 37, u12 38, u12 39, u12 40, u12 41, u12 42, u12 43, u12 44, u12 45, u12 46, u12 47, u12 48, u12 49, u12 50, u12 51, u12 52, u12 53, u12 54, Z3, Z3, Z3], defers := [] } ∧ Mem [] w W9 [⟨o, oc, [(0, scells Ps)]⟩] ∧ q ≤ oc ∧ (1 ≤ cur.length) ∧ (∀ s ∈ cur, s.length = 32) ∧ (i2 < cur.length) ∧ (pathS l i0 = pathS cur i2 ++ Ps.reverse) ∧ (Ps.length = q) ∧ (q + cur.length ≤ 4096) ∧ RowN [o] W9 ar nr cr (scells cur)) (2 * (l).length + 1) ?_ (fun n9 a9 W9 hI => ?_)
 ·
  refine Z4 (fun K13 hK13 => ?_)
  refine Z4 (fun K14 hK14 => ?_)
  refine Z8 ?_
  refine Z12 (v := .slice ap l.length cp) (by rfl) (by rfl) (by rfl) ?_
  simp only [Z7,Z0]
  refine Z11 2 (by rfl) (fun Lk hLk => ?_)
  simp only [Z1,Z2]
  refine wpV_lenA (n := l.length) (by rfl) rfl rfl rfl Tryd.underlying48 ?_
  simp only [Z7,Z0]
  refine Z15 (v := .bool (decide (1 < l.length))) (by rfl) rfl rfl rfl (fun W => run_gtrN l.length 1 _ _ W) ?_
  simp only [Z7,Z0]
  refine Z14 (hLk _ (fun w16 Sw16 => ?_))
  clear hLk Lk
  simp only [Z1,Z2]
  replace M := M.sees Sw16
  refine Z9 (Z10 ?_)
  refine hK14 _ _ ?_
  cases hc17 : (decide (1 < l.length))
  ·
   have h2 : ¬ 1 < l.length := of_decide_eq_false hc17
   refine Z6 rfl ?_
   refine wp_exit ?_
   refine hK9 _ _ ?_
   refine Z4 (fun K18 hK18 => ?_)
   refine Z8 ?_
   refine Z12 (v := (.slice none 0 0)) (by rfl) (by rfl) (by rfl) ?_
   simp only [Z7,Z0]
   refine Z11 1 (by rfl) (fun Lk hLk => ?_)
   simp only [Z1,Z2]
   refine Z20 (v := .tuple #[]) (args := #[(.slice none 0 0)]) (by rfl) rfl Tryd.func79 (by kernel_rfl) (by kernel_rfl) rfl (fun W hW => ((Tryd.slices_Reverse_string_empty none 0 W).mono fun e w' h => ⟨h.1, h.2 ▸ Below.refl _ _⟩)) ?_
   simp only [Z7,Z0]
   refine Z14 (hLk _ (fun w20 Sw20 => ?_))
   clear hLk Lk
   simp only [Z1,Z2]
   replace M := M.sees Sw20
   refine Z9 (Z10 ?_)
   refine hK18 _ _ ?_
   refine Z4 (fun K21 hK21 => ?_)
   refine Z8 ?_
   refine Z12 (v := (.slice none 0 0)) (by rfl) (by rfl) (by rfl) ?_
   simp only [Z7,Z0]
   refine Z13 (v := (.slice none 0 0)) (by rfl) (by rfl) (by rfl) ?_
   simp only [Z7,Z0]
   refine Z13 (v := .int .i64 0) (by rfl) (by rfl) (by rfl) ?_
   simp only [Z7,Z0]
   refine Z9 (Z10 ?_)
   refine hK21 _ _ ?_
   refine wp_ret ?_
   repeat (first | with_reducible refine then_ret ?_ | with_reducible refine inblock_ret ?_)
   refine bodyPost_ret (v := .tuple #[(.slice none 0 0), .int .i64 0]) (res2 rfl (.tmp (by rfl)) (.tmp (by rfl))) rfl ?_
   have BE := M.below
   exact ⟨_, _, _, rfl, RowA.nil.eq (by rw [pathS_one (by omega)]; rfl), BE⟩
  ·
   have h2 : 1 < l.length := of_decide_eq_true hc17
   have hsl := splitN_lt (n := l.length) h2
   have hsp := splitN_pos l.length
   refine Z5 rfl ?_
   refine wp_skip ?_
   refine hK13 _ _ ?_
   refine wp_block ?_
   refine Z4 (fun K23 hK23 => ?_)
   refine Z8 ?_
   refine Z12 (v := .slice ap l.length cp) (by rfl) (by rfl) (by rfl) ?_
   simp only [Z7,Z0]
   refine Z11 2 (by rfl) (fun Lk hLk => ?_)
   simp only [Z1,Z2]
   refine wpV_lenA (n := l.length) (by rfl) rfl rfl rfl Tryd.underlying48 ?_
   simp only [Z7,Z0]
   refine Z20 (v := .int .i64 ((splitN l.length : Nat) : Int)) (args := #[.int .i64 ((l.length : Nat) : Int)]) (by rfl) rfl Tryd.func77 (by kernel_rfl) (by kernel_rfl) rfl (fun W hW => psplit_c (n := l.length) (by omega) (by omega)) ?_
   simp only [Z7,Z0]
   refine Z14 (hLk _ (fun w25 Sw25 => ?_))
   clear hLk Lk
   simp only [Z1,Z2]
   replace M := M.sees Sw25
   refine Z13 (v := .int .i64 ((splitN l.length : Nat) : Int)) (by rfl) (by rfl) (by rfl) ?_
   simp only [Z7,Z0]
   refine Z9 (Z10 ?_)
   refine hK23 _ _ ?_
   refine Z4 (fun K26 hK26 => ?_)
   refine Z8 ?_
   refine Z12 (v := .int .i64 ((i0 : Nat) : Int)) (by rfl) (by rfl) (by rfl) ?_
   simp only [Z7,Z0]
   refine Z12 (v := .int .i64 ((splitN l.length : Nat) : Int)) (by rfl) (by rfl) (by rfl) ?_
   simp only [Z7,Z0]
   refine Z11 1 (by rfl) (fun Lk hLk => ?_)
   simp only [Z1,Z2]
   refine Z15 (v := .bool (decide (i0 < splitN l.length))) (by rfl) rfl rfl rfl (fun W => run_lssN i0 (splitN l.length) _ _ W) ?_
   simp only [Z7,Z0]
   refine Z14 (hLk _ (fun w28 Sw28 => ?_))
   clear hLk Lk
   simp only [Z1,Z2]
   replace M := M.sees Sw28
   refine Z9 (Z10 ?_)
   refine hK26 _ _ ?_
   cases hc29 : (decide (i0 < splitN l.length))
   ·
    have hi : ¬ i0 < splitN l.length := of_decide_eq_false hc29
    refine Z6 rfl ?_
    refine wp_region_treeN (by kernel_rfl) (fun w31 Sw31 => ?_)
    replace M := M.sees Sw31
    refine any_first 0 (v := (.slice none 0 0)) (by rfl) (by kernel_rfl) nopanic_not (by rfl) (by exact yl_move rfl rfl) ?_
    simp only [Z7,Z0]
    refine any_first 1 (v := .slice ap l.length cp) (by rfl) (by kernel_rfl) nopanic_not (by rfl) (by exact yl_move rfl rfl) ?_
    simp only [Z7,Z0]
    refine any_first 2 (v := .int .i64 ((splitN l.length : Nat) : Int)) (by rfl) (by kernel_rfl) nopanic_not (by rfl) (by exact yl_move rfl rfl) ?_
    simp only [Z7,Z0]
    refine any_first 3 (v := .slice ap (splitN l.length) cp) (by rfl) (by kernel_rfl) nopanic_not (by rfl) (by exact yl_slcH (hi := splitN l.length) rfl rfl rfl Tryd.underlying48 info9 (Nat.le_trans (Nat.le_of_lt hsl) (M.oldA Hp).cap)) ?_
    simp only [Z7,Z0]
    refine any_first 7 (v := .slice ap l.length cp) (by rfl) (by kernel_rfl) nopanic_not (by rfl) (by exact yl_move rfl rfl) ?_
    simp only [Z7,Z0]
    refine any_first 8 (v := .int .i64 ((splitN l.length : Nat) : Int)) (by rfl) (by kernel_rfl) nopanic_not (by rfl) (by exact yl_move rfl rfl) ?_
    simp only [Z7,Z0]
    refine any_first 9 (v := .slice (slA ap (splitN l.length) cp) (l.length - (splitN l.length)) (cp - (splitN l.length))) (by rfl) (by kernel_rfl) nopanic_not (by rfl) (by exact yl_slcL (lo := splitN l.length) rfl rfl rfl Tryd.underlying48 info9 (Nat.le_of_lt hsl)) ?_
    simp only [Z7,Z0]
    refine any_first 10 (v := .int .i64 ((i0 : Nat) : Int)) (by rfl) (by kernel_rfl) nopanic_not (by rfl) (by exact yl_move rfl rfl) ?_
    simp only [Z7,Z0]
    refine any_first 11 (v := .int .i64 ((splitN l.length : Nat) : Int)) (by rfl) (by kernel_rfl) nopanic_not (by rfl) (by exact yl_move rfl rfl) ?_
    simp only [Z7,Z0]
    refine any_first 12 (v := .int .i64 ((i0 - (splitN l.length) : Nat) : Int)) (by rfl) (by kernel_rfl) nopanic_not (by rfl) (fun W => yl_bin rfl rfl rfl (fun W => run_sub (by simp only [IntKind.wrap_i64]; omega) W) W) ?_
    simp only [Z7,Z0]
    refine any_step [4] (by kernel_rfl) rfl (any_one ?_)
    refine any_opL 4 (by rfl) ?_
    simp only [Z1,Z2]
    refine Z11 1 (by rfl) (fun Lk hLk => ?_)
    simp only [Z1,Z2]
    refine Z20 (v := .string (bs (rootS (l.take (splitN l.length))))) (args := #[.slice ap (splitN l.length) cp]) (by rfl) rfl Tryd.func78 (by kernel_rfl) (by kernel_rfl) rfl (fun W hW => by with_reducible exact proot_c (ps := l.take (splitN l.length)) (right_of (fun s9 h9 => h32 s9 (List.mem_of_mem_take h9)) (by rw [List.length_take]; omega)) ((M.sees hW).oldL L0) ((M.sees hW).oldR R0_0 L0) ((((M.sees hW).oldA Hp).take (Nat.le_of_lt hsl)).eq (scells_take2 _ _))) ?_
    simp only [Z7,Z0]
    refine Z14 (hLk _ (fun w32 Sw32 => ?_))
    clear hLk Lk
    simp only [Z1,Z2]
    replace M := M.sees Sw32
    refine Z9 (Z17 ?_)
    refine any_step [5] (by kernel_rfl) rfl (any_one ?_)
    refine any_opL 5 (by rfl) ?_
    simp only [Z1,Z2]
    refine wpL_rowN (vs := [.string (bs (rootS (l.take (splitN l.length))))]) (z := .string { data := #[] }) (bytes := 16) (by rfl) (by rfl) Tryd.underlying48 (by kernel_rfl) (by decide) (by kernel_rfl) (fun g33 w34 Sw34 Hg33 Bg33 => ?_)
    replace M := ((M.sees Sw34).add (N := 1) (cs := [.string (bs (rootS (l.take (splitN l.length))))]) (M.ge Hg33) (M.fresh Hg33) Bg33 rfl)
    clear Bg33
    simp only [Z7,Z0]
    refine Z9 (Z17 ?_)
    refine any_step [6] (by kernel_rfl) rfl (any_one ?_)
    refine any_opL 6 (by rfl) ?_
    simp only [Z1,Z2]
    refine wpL_append0 (m := 1) (news := [.string (bs (rootS (l.take (splitN l.length))))]) (z := .string { data := #[] }) (bytes := 16) (by rfl) (by rfl) (by rfl) (by rfl) Tryd.underlying48 (by kernel_rfl) rfl rfl (by decide) (M.r 0 0 rfl rfl) (by decide) (by decide) (fun g35 g35c w36 Sw36 Hg35 Cg35 R T L => ?_)
    replace M := (M.sees Sw36).addR (M.ge Hg35) (M.fresh Hg35) T R L
    clear T R L
    rw [show [.string (bs (rootS (l.take (splitN l.length))))] = scells [rootS (l.take (splitN l.length))] from rfl] at M
    simp only [Z7,Z0]
    refine Z9 (Z17 ?_)
    refine any_first 13 (v := .slice (some ⟨g35, 0, none⟩) 1 g35c) (by rfl) (by kernel_rfl) nopanic_not (by rfl) (by exact yl_assign rfl rfl) ?_
    simp only [Z7,Z0]
    refine any_first 14 (v := .slice (slA ap (splitN l.length) cp) (l.length - (splitN l.length)) (cp - (splitN l.length))) (by rfl) (by kernel_rfl) nopanic_not (by rfl) (by exact yl_assign rfl rfl) ?_
    simp only [Z7,Z0]
    refine any_first 15 (v := .int .i64 ((i0 - (splitN l.length) : Nat) : Int)) (by rfl) (by kernel_rfl) nopanic_not (by rfl) (by exact yl_assign rfl rfl) ?_
    simp only [Z7,Z0]
    refine any_end (by kernel_rfl) (Z10 ?_)
    refine Exists.intro _ ⟨?_, (l.drop (splitN l.length)), (i0 - (splitN l.length)), 1, ([rootS (l.take (splitN l.length))]), g35, g35c, (slA ap (splitN l.length) cp), (l.length - (splitN l.length)), (cp - (splitN l.length)), (fun q9 => (#[Z3, Z3, Z3, Z3, Z3, Z3, Z3, Z3, .int .i64 ((splitN l.length : Nat) : Int), Z3, Z3, Z3, Z3, Z3, Z3, Z3, Z3, Z3, Z3, Z3, Z3, Z3, Z3, .slice ap l.length cp, .int .i64 ((l.length : Nat) : Int), .bool true, .slice ap l.length cp, .int .i64 ((l.length : Nat) : Int), .int .i64 ((splitN l.length : Nat) : Int), .int .i64 ((i0 : Nat) : Int), .int .i64 ((splitN l.length : Nat) : Int), .bool false, Z3, Z3, Z3, Z3, Z3, Z3, Z3, Z3, Z3, Z3, (.slice none 0 0), .slice ap l.length cp, .int .i64 ((splitN l.length : Nat) : Int), .slice ap (splitN l.length) cp, .string (bs (rootS (l.take (splitN l.length)))), .slice (some ⟨g33, 0, none⟩) 1 1, .slice (some ⟨g35, 0, none⟩) 1 g35c, .slice ap l.length cp, .int .i64 ((splitN l.length : Nat) : Int), .slice (slA ap (splitN l.length) cp) (l.length - (splitN l.length)) (cp - (splitN l.length)), .int .i64 ((i0 : Nat) : Int), .int .i64 ((splitN l.length : Nat) : Int), .int .i64 ((i0 - (splitN l.length) : Nat) : Int)] : Array Value).getD q9 Z3), rfl, rfl, (M.pick [0] (by decide) rfl), Cg35, (by rw [List.length_drop]; omega), (fun s9 h9 => h32 s9 (List.mem_of_mem_drop h9)), (by rw [List.length_drop]; omega), (path_go_right (Ps := []) (by omega) hi (List.append_nil _).symm), rfl, (by rw [List.length_drop]; omega), ((((M.notins Hp).drop (Nat.le_of_lt hsl)).eq (scells_drop2 _ _)).sub (show ∀ x ∈ [g35], x ∈ [g35, g33] from (by intro x hx; simp only [List.mem_cons, List.not_mem_nil, or_false] at hx ⊢; omega)))⟩
    rw [List.length_drop]; omega
   ·
    have hi : i0 < splitN l.length := of_decide_eq_true hc29
    refine Z5 rfl ?_
    refine wp_region_treeN (by kernel_rfl) (fun w38 Sw38 => ?_)
    replace M := M.sees Sw38
    refine any_first 0 (v := (.slice none 0 0)) (by rfl) (by kernel_rfl) nopanic_not (by rfl) (by exact yl_move rfl rfl) ?_
    simp only [Z7,Z0]
    refine any_first 1 (v := .slice ap l.length cp) (by rfl) (by kernel_rfl) nopanic_not (by rfl) (by exact yl_move rfl rfl) ?_
    simp only [Z7,Z0]
    refine any_first 2 (v := .int .i64 ((splitN l.length : Nat) : Int)) (by rfl) (by kernel_rfl) nopanic_not (by rfl) (by exact yl_move rfl rfl) ?_
    simp only [Z7,Z0]
    refine any_first 3 (v := .slice (slA ap (splitN l.length) cp) (l.length - (splitN l.length)) (cp - (splitN l.length))) (by rfl) (by kernel_rfl) nopanic_not (by rfl) (by exact yl_slcL (lo := splitN l.length) rfl rfl rfl Tryd.underlying48 info9 (Nat.le_of_lt hsl)) ?_
    simp only [Z7,Z0]
    refine any_first 7 (v := .slice ap l.length cp) (by rfl) (by kernel_rfl) nopanic_not (by rfl) (by exact yl_move rfl rfl) ?_
    simp only [Z7,Z0]
    refine any_first 8 (v := .int .i64 ((splitN l.length : Nat) : Int)) (by rfl) (by kernel_rfl) nopanic_not (by rfl) (by exact yl_move rfl rfl) ?_
    simp only [Z7,Z0]
    refine any_first 9 (v := .slice ap (splitN l.length) cp) (by rfl) (by kernel_rfl) nopanic_not (by rfl) (by exact yl_slcH (hi := splitN l.length) rfl rfl rfl Tryd.underlying48 info9 (Nat.le_trans (Nat.le_of_lt hsl) (M.oldA Hp).cap)) ?_
    simp only [Z7,Z0]
    refine any_step [4] (by kernel_rfl) rfl (any_one ?_)
    refine any_opL 4 (by rfl) ?_
    simp only [Z1,Z2]
    refine Z11 1 (by rfl) (fun Lk hLk => ?_)
    simp only [Z1,Z2]
    refine Z20 (v := .string (bs (rootS (l.drop (splitN l.length))))) (args := #[.slice (slA ap (splitN l.length) cp) (l.length - (splitN l.length)) (cp - (splitN l.length))]) (by rfl) rfl Tryd.func78 (by kernel_rfl) (by kernel_rfl) rfl (fun W hW => by with_reducible exact proot_c (ps := l.drop (splitN l.length)) (right_of (fun s9 h9 => h32 s9 (List.mem_of_mem_drop h9)) (by rw [List.length_drop]; omega)) ((M.sees hW).oldL L0) ((M.sees hW).oldR R0_0 L0) ((((M.sees hW).oldA Hp).drop (Nat.le_of_lt hsl)).eq (scells_drop2 _ _))) ?_
    simp only [Z7,Z0]
    refine Z14 (hLk _ (fun w39 Sw39 => ?_))
    clear hLk Lk
    simp only [Z1,Z2]
    replace M := M.sees Sw39
    refine Z9 (Z17 ?_)
    refine any_step [5] (by kernel_rfl) rfl (any_one ?_)
    refine any_opL 5 (by rfl) ?_
    simp only [Z1,Z2]
    refine wpL_rowN (vs := [.string (bs (rootS (l.drop (splitN l.length))))]) (z := .string { data := #[] }) (bytes := 16) (by rfl) (by rfl) Tryd.underlying48 (by kernel_rfl) (by decide) (by kernel_rfl) (fun g40 w41 Sw41 Hg40 Bg40 => ?_)
    replace M := ((M.sees Sw41).add (N := 1) (cs := [.string (bs (rootS (l.drop (splitN l.length))))]) (M.ge Hg40) (M.fresh Hg40) Bg40 rfl)
    clear Bg40
    simp only [Z7,Z0]
    refine Z9 (Z17 ?_)
    refine any_step [6] (by kernel_rfl) rfl (any_one ?_)
    refine any_opL 6 (by rfl) ?_
    simp only [Z1,Z2]
    refine wpL_append0 (m := 1) (news := [.string (bs (rootS (l.drop (splitN l.length))))]) (z := .string { data := #[] }) (bytes := 16) (by rfl) (by rfl) (by rfl) (by rfl) Tryd.underlying48 (by kernel_rfl) rfl rfl (by decide) (M.r 0 0 rfl rfl) (by decide) (by decide) (fun g42 g42c w43 Sw43 Hg42 Cg42 R T L => ?_)
    replace M := (M.sees Sw43).addR (M.ge Hg42) (M.fresh Hg42) T R L
    clear T R L
    rw [show [.string (bs (rootS (l.drop (splitN l.length))))] = scells [rootS (l.drop (splitN l.length))] from rfl] at M
    simp only [Z7,Z0]
    refine Z9 (Z17 ?_)
    refine any_first 10 (v := .slice (some ⟨g42, 0, none⟩) 1 g42c) (by rfl) (by kernel_rfl) nopanic_not (by rfl) (by exact yl_assign rfl rfl) ?_
    simp only [Z7,Z0]
    refine any_first 11 (v := .slice ap (splitN l.length) cp) (by rfl) (by kernel_rfl) nopanic_not (by rfl) (by exact yl_assign rfl rfl) ?_
    simp only [Z7,Z0]
    refine any_end (by kernel_rfl) (Z10 ?_)
    refine Exists.intro _ ⟨?_, (l.take (splitN l.length)), i0, 1, ([rootS (l.drop (splitN l.length))]), g42, g42c, ap, (splitN l.length), cp, (fun q9 => (#[Z3, Z3, Z3, Z3, Z3, Z3, Z3, Z3, .int .i64 ((splitN l.length : Nat) : Int), Z3, Z3, Z3, Z3, Z3, Z3, Z3, Z3, Z3, Z3, Z3, Z3, Z3, Z3, .slice ap l.length cp, .int .i64 ((l.length : Nat) : Int), .bool true, .slice ap l.length cp, .int .i64 ((l.length : Nat) : Int), .int .i64 ((splitN l.length : Nat) : Int), .int .i64 ((i0 : Nat) : Int), .int .i64 ((splitN l.length : Nat) : Int), .bool true, (.slice none 0 0), .slice ap l.length cp, .int .i64 ((splitN l.length : Nat) : Int), .slice (slA ap (splitN l.length) cp) (l.length - (splitN l.length)) (cp - (splitN l.length)), .string (bs (rootS (l.drop (splitN l.length)))), .slice (some ⟨g40, 0, none⟩) 1 1, .slice (some ⟨g42, 0, none⟩) 1 g42c, .slice ap l.length cp, .int .i64 ((splitN l.length : Nat) : Int), .slice ap (splitN l.length) cp, Z3, Z3, Z3, Z3, Z3, Z3, Z3, Z3, Z3, Z3, Z3, Z3, Z3] : Array Value).getD q9 Z3), rfl, rfl, (M.pick [0] (by decide) rfl), Cg42, (by rw [List.length_take]; omega), (fun s9 h9 => h32 s9 (List.mem_of_mem_take h9)), (by rw [List.length_take]; omega), (path_go_left (Ps := []) (by omega) hi (List.append_nil _).symm), rfl, (by rw [List.length_take]; omega), ((((M.notins Hp).take (Nat.le_of_lt hsl)).eq (scells_take2 _ _)).sub (show ∀ x ∈ [g42], x ∈ [g42, g40] from (by intro x hx; simp only [List.mem_cons, List.not_mem_nil, or_false] at hx ⊢; omega)))⟩
    rw [List.length_take]; omega
 clear M
 obtain ⟨cur, i2, q, Ps, o, oc, ar, nr, cr, u12, rfl, rfl, M, Co, hc1, hc32, hi2, hP, hPl, hq, Hr⟩ := hI
 obtain ⟨w44, rfl⟩ : ∃ W8, W8 = W9 := ⟨_, rfl⟩
 have Mx45 := M
 replace R0_0 := (M.oldR R0_0 L0)
 have NI0 : 0 ∉ [o] := Mx45.oldNe L0 List.not_mem_nil
 replace L0 := Mx45.oldL L0
 replace Hp := Mx45.notins Hp
 simp only [List.map_cons, List.map_nil] at Hp
 replace M : Mem [o] w44 w44 [⟨o, oc, [(0, scells Ps)]⟩] := Mx45.again
 obtain rfl : nr = cur.length := by have h9 := Hr.row.len; rwa [scells_len] at h9
 have hcl : cur.length ≤ 4096 := by omega
 refine Z4 (fun K46 hK46 => ?_)
 refine Z4 (fun K47 hK47 => ?_)
 refine Z8 ?_
 refine Z12 (v := .slice ar cur.length cr) (by rfl) (by rfl) (by rfl) ?_
 simp only [Z7,Z0]
 refine Z11 2 (by rfl) (fun Lk hLk => ?_)
 simp only [Z1,Z2]
 refine wpV_lenA (n := cur.length) (by rfl) rfl rfl rfl Tryd.underlying48 ?_
 simp only [Z7,Z0]
 refine Z15 (v := .bool (decide (1 < cur.length))) (by rfl) rfl rfl rfl (fun W => run_gtrN cur.length 1 _ _ W) ?_
 simp only [Z7,Z0]
 refine Z14 (hLk _ (fun w49 Sw49 => ?_))
 clear hLk Lk
 simp only [Z1,Z2]
 replace M := M.sees Sw49
 refine Z9 (Z10 ?_)
 refine hK47 _ _ ?_
 cases hc50 : (decide (1 < cur.length))
 ·
  have h2 : ¬ 1 < cur.length := of_decide_eq_false hc50
  refine Z6 rfl ?_
  refine wp_exit ?_
  refine hK9 _ _ ?_
  refine Z4 (fun K51 hK51 => ?_)
  refine Z8 ?_
  refine Z12 (v := .slice (some ⟨o, 0, none⟩) q oc) (by rfl) (by rfl) (by rfl) ?_
  simp only [Z7,Z0]
  refine wpL_callM (f := 79) (args := #[.slice (some ⟨o, 0, none⟩) q oc]) (R := fun v9 W9 => v9 = .tuple #[] ∧ Mem [o] w49 W9 [⟨o, oc, [(0, scells Ps.reverse)]⟩]) (by rfl) (by rfl) rfl Tryd.func79 (by kernel_rfl) (by kernel_rfl) (by have h9 := rev_c (ps := Ps) (c := oc) (by omega) (by rw [hPl]; exact Co) (M.one 0 rfl); rw [hPl] at h9; exact h9) (fun v9 w53 h9 => ?_)
  obtain ⟨rfl, M9⟩ := h9
  replace M := M.callM1 0 rfl M9
  simp only [Z0] at M
  simp only [Z7,Z0]
  refine Z9 (Z10 ?_)
  refine hK51 _ _ ?_
  refine Z4 (fun K54 hK54 => ?_)
  refine Z8 ?_
  refine Z12 (v := .slice (some ⟨o, 0, none⟩) q oc) (by rfl) (by rfl) (by rfl) ?_
  simp only [Z7,Z0]
  refine Z13 (v := .slice (some ⟨o, 0, none⟩) q oc) (by rfl) (by rfl) (by rfl) ?_
  simp only [Z7,Z0]
  refine Z13 (v := .int .i64 0) (by rfl) (by rfl) (by rfl) ?_
  simp only [Z7,Z0]
  refine Z9 (Z10 ?_)
  refine hK54 _ _ ?_
  refine wp_ret ?_
  repeat (first | with_reducible refine then_ret ?_ | with_reducible refine inblock_ret ?_)
  replace M := Mx45.comp M
  refine bodyPost_ret (v := .tuple #[.slice (some ⟨o, 0, none⟩) q oc, .int .i64 0]) (res2 rfl (.tmp (by rfl)) (.tmp (by rfl))) rfl ?_
  have BE := M.below
  exact ⟨_, _, _, rfl, (RowA.of (M.r 0 0 rfl rfl) (M.lt 0 rfl) (by rw [scells_len, List.length_reverse, hPl]) Co).eq (by rw [hP, pathS_one (by omega)]; rfl), BE⟩
 ·
  have h2 : 1 < cur.length := of_decide_eq_true hc50
  have hsl := splitN_lt (n := cur.length) h2
  have hsp := splitN_pos cur.length
  refine Z5 rfl ?_
  refine wp_skip ?_
  refine hK46 _ _ ?_
  refine wp_block ?_
  refine Z4 (fun K56 hK56 => ?_)
  refine Z8 ?_
  refine Z12 (v := .slice ar cur.length cr) (by rfl) (by rfl) (by rfl) ?_
  simp only [Z7,Z0]
  refine Z11 2 (by rfl) (fun Lk hLk => ?_)
  simp only [Z1,Z2]
  refine wpV_lenA (n := cur.length) (by rfl) rfl rfl rfl Tryd.underlying48 ?_
  simp only [Z7,Z0]
  refine Z20 (v := .int .i64 ((splitN cur.length : Nat) : Int)) (args := #[.int .i64 ((cur.length : Nat) : Int)]) (by rfl) rfl Tryd.func77 (by kernel_rfl) (by kernel_rfl) rfl (fun W hW => psplit_c (n := cur.length) (by omega) (by omega)) ?_
  simp only [Z7,Z0]
  refine Z14 (hLk _ (fun w58 Sw58 => ?_))
  clear hLk Lk
  simp only [Z1,Z2]
  replace M := M.sees Sw58
  refine Z13 (v := .int .i64 ((splitN cur.length : Nat) : Int)) (by rfl) (by rfl) (by rfl) ?_
  simp only [Z7,Z0]
  refine Z9 (Z10 ?_)
  refine hK56 _ _ ?_
  refine Z4 (fun K59 hK59 => ?_)
  refine Z8 ?_
  refine Z12 (v := .int .i64 ((i2 : Nat) : Int)) (by rfl) (by rfl) (by rfl) ?_
  simp only [Z7,Z0]
  refine Z12 (v := .int .i64 ((splitN cur.length : Nat) : Int)) (by rfl) (by rfl) (by rfl) ?_
  simp only [Z7,Z0]
  refine Z11 1 (by rfl) (fun Lk hLk => ?_)
  simp only [Z1,Z2]
  refine Z15 (v := .bool (decide (i2 < splitN cur.length))) (by rfl) rfl rfl rfl (fun W => run_lssN i2 (splitN cur.length) _ _ W) ?_
  simp only [Z7,Z0]
  refine Z14 (hLk _ (fun w61 Sw61 => ?_))
  clear hLk Lk
  simp only [Z1,Z2]
  replace M := M.sees Sw61
  refine Z9 (Z10 ?_)
  refine hK59 _ _ ?_
  cases hc62 : (decide (i2 < splitN cur.length))
  ·
   have hi : ¬ i2 < splitN cur.length := of_decide_eq_false hc62
   refine Z6 rfl ?_
   refine wp_region_treeN (by kernel_rfl) (fun w64 Sw64 => ?_)
   replace M := M.sees Sw64
   refine any_first 0 (v := .slice (some ⟨o, 0, none⟩) q oc) (by rfl) (by kernel_rfl) nopanic_not (by rfl) (by exact yl_move rfl rfl) ?_
   simp only [Z7,Z0]
   refine any_first 1 (v := .slice ar cur.length cr) (by rfl) (by kernel_rfl) nopanic_not (by rfl) (by exact yl_move rfl rfl) ?_
   simp only [Z7,Z0]
   refine any_first 2 (v := .int .i64 ((splitN cur.length : Nat) : Int)) (by rfl) (by kernel_rfl) nopanic_not (by rfl) (by exact yl_move rfl rfl) ?_
   simp only [Z7,Z0]
   refine any_first 3 (v := .slice ar (splitN cur.length) cr) (by rfl) (by kernel_rfl) nopanic_not (by rfl) (by exact yl_slcH (hi := splitN cur.length) rfl rfl rfl Tryd.underlying48 info9 (Nat.le_trans (Nat.le_of_lt hsl) (M.oldN Hr).cap)) ?_
   simp only [Z7,Z0]
   refine any_first 7 (v := .slice ar cur.length cr) (by rfl) (by kernel_rfl) nopanic_not (by rfl) (by exact yl_move rfl rfl) ?_
   simp only [Z7,Z0]
   refine any_first 8 (v := .int .i64 ((splitN cur.length : Nat) : Int)) (by rfl) (by kernel_rfl) nopanic_not (by rfl) (by exact yl_move rfl rfl) ?_
   simp only [Z7,Z0]
   refine any_first 9 (v := .slice (slA ar (splitN cur.length) cr) (cur.length - (splitN cur.length)) (cr - (splitN cur.length))) (by rfl) (by kernel_rfl) nopanic_not (by rfl) (by exact yl_slcL (lo := splitN cur.length) rfl rfl rfl Tryd.underlying48 info9 (Nat.le_of_lt hsl)) ?_
   simp only [Z7,Z0]
   refine any_first 10 (v := .int .i64 ((i2 : Nat) : Int)) (by rfl) (by kernel_rfl) nopanic_not (by rfl) (by exact yl_move rfl rfl) ?_
   simp only [Z7,Z0]
   refine any_first 11 (v := .int .i64 ((splitN cur.length : Nat) : Int)) (by rfl) (by kernel_rfl) nopanic_not (by rfl) (by exact yl_move rfl rfl) ?_
   simp only [Z7,Z0]
   refine any_first 12 (v := .int .i64 ((i2 - (splitN cur.length) : Nat) : Int)) (by rfl) (by kernel_rfl) nopanic_not (by rfl) (fun W => yl_bin rfl rfl rfl (fun W => run_sub (by simp only [IntKind.wrap_i64]; omega) W) W) ?_
   simp only [Z7,Z0]
   refine any_step [4] (by kernel_rfl) rfl (any_one ?_)
   refine any_opL 4 (by rfl) ?_
   simp only [Z1,Z2]
   refine Z11 1 (by rfl) (fun Lk hLk => ?_)
   simp only [Z1,Z2]
   refine Z20 (v := .string (bs (rootS (cur.take (splitN cur.length))))) (args := #[.slice ar (splitN cur.length) cr]) (by rfl) rfl Tryd.func78 (by kernel_rfl) (by kernel_rfl) rfl (fun W hW => by with_reducible exact proot_c (ps := cur.take (splitN cur.length)) (right_of (fun s9 h9 => hc32 s9 (List.mem_of_mem_take h9)) (by rw [List.length_take]; omega)) ((M.sees hW).oldL L0) ((M.sees hW).oldG R0_0 L0 NI0) ((((M.sees hW).oldN Hr).take (Nat.le_of_lt hsl)).eq (scells_take2 _ _))) ?_
   simp only [Z7,Z0]
   refine Z14 (hLk _ (fun w65 Sw65 => ?_))
   clear hLk Lk
   simp only [Z1,Z2]
   replace M := M.sees Sw65
   refine Z9 (Z17 ?_)
   refine any_step [5] (by kernel_rfl) rfl (any_one ?_)
   refine any_opL 5 (by rfl) ?_
   simp only [Z1,Z2]
   refine wpL_rowN (vs := [.string (bs (rootS (cur.take (splitN cur.length))))]) (z := .string { data := #[] }) (bytes := 16) (by rfl) (by rfl) Tryd.underlying48 (by kernel_rfl) (by decide) (by kernel_rfl) (fun g66 w67 Sw67 Hg66 Bg66 => ?_)
   replace M := ((M.sees Sw67).add (N := 1) (cs := [.string (bs (rootS (cur.take (splitN cur.length))))]) (M.ge Hg66) (M.fresh Hg66) Bg66 rfl)
   clear Bg66
   simp only [Z7,Z0]
   refine Z9 (Z17 ?_)
   refine any_step [6] (by kernel_rfl) rfl (any_one ?_)
   refine any_opL 6 (by rfl) ?_
   simp only [Z1,Z2]
   refine wpL_append (n := q) (m := 1) (olds := scells Ps) (news := [.string (bs (rootS (cur.take (splitN cur.length))))]) (z := .string { data := #[] }) (bytes := 16) (by rfl) (by rfl) (by rfl) (by rfl) Tryd.underlying48 (by kernel_rfl) rfl rfl (by rw [scells_len, hPl]) rfl (M.r 1 0 rfl rfl) (M.t 1 rfl) (M.lt 1 rfl) (M.r 0 0 rfl rfl) (by intro u hu; rw [List.mem_singleton.1 hu]; rfl) (by omega) (by simp only [maxLen]; omega) (fun g68 g68c w69 Sw69 Q Cg68 R T L => ?_)
   replace M := M.grow 1 rfl Sw69 Q R T L
   simp only [Z0] at M
   clear Q R T L
   rw [show scells Ps ++ [.string (bs (rootS (cur.take (splitN cur.length))))] = scells (Ps ++ [rootS (cur.take (splitN cur.length))]) from scells_app Ps [_]] at M
   simp only [Z7,Z0]
   refine Z9 (Z17 ?_)
   refine any_first 13 (v := .slice (some ⟨g68, 0, none⟩) (q + 1) g68c) (by rfl) (by kernel_rfl) nopanic_not (by rfl) (by exact yl_assign rfl rfl) ?_
   simp only [Z7,Z0]
   refine any_first 14 (v := .slice (slA ar (splitN cur.length) cr) (cur.length - (splitN cur.length)) (cr - (splitN cur.length))) (by rfl) (by kernel_rfl) nopanic_not (by rfl) (by exact yl_assign rfl rfl) ?_
   simp only [Z7,Z0]
   refine any_first 15 (v := .int .i64 ((i2 - (splitN cur.length) : Nat) : Int)) (by rfl) (by kernel_rfl) nopanic_not (by rfl) (by exact yl_assign rfl rfl) ?_
   simp only [Z7,Z0]
   refine any_end (by kernel_rfl) (Z10 ?_)
   have HX70 := ((((M.notinsG Hr).drop (Nat.le_of_lt hsl)).eq (scells_drop2 _ _)).sub (show ∀ x ∈ [g68], x ∈ [g66, g68] from (by intro x hx; simp only [List.mem_cons, List.not_mem_nil, or_false] at hx ⊢; omega)))
   replace M := Mx45.comp M
   refine Exists.intro _ ⟨?_, (cur.drop (splitN cur.length)), (i2 - (splitN cur.length)), (q + 1), (Ps ++ [rootS (cur.take (splitN cur.length))]), g68, g68c, (slA ar (splitN cur.length) cr), (cur.length - (splitN cur.length)), (cr - (splitN cur.length)), (fun q9 => (#[Z3, Z3, Z3, Z3, Z3, Z3, Z3, Z3, .int .i64 ((splitN cur.length : Nat) : Int), Z3, Z3, Z3, Z3, Z3, Z3, Z3, Z3, Z3, Z3, Z3, Z3, Z3, Z3, .slice ar cur.length cr, .int .i64 ((cur.length : Nat) : Int), .bool true, .slice ar cur.length cr, .int .i64 ((cur.length : Nat) : Int), .int .i64 ((splitN cur.length : Nat) : Int), .int .i64 ((i2 : Nat) : Int), .int .i64 ((splitN cur.length : Nat) : Int), .bool false, u12 32, u12 33, u12 34, u12 35, u12 36, u12 37, u12 38, u12 39, u12 40, u12 41, .slice (some ⟨o, 0, none⟩) q oc, .slice ar cur.length cr, .int .i64 ((splitN cur.length : Nat) : Int), .slice ar (splitN cur.length) cr, .string (bs (rootS (cur.take (splitN cur.length)))), .slice (some ⟨g66, 0, none⟩) 1 1, .slice (some ⟨g68, 0, none⟩) (q + 1) g68c, .slice ar cur.length cr, .int .i64 ((splitN cur.length : Nat) : Int), .slice (slA ar (splitN cur.length) cr) (cur.length - (splitN cur.length)) (cr - (splitN cur.length)), .int .i64 ((i2 : Nat) : Int), .int .i64 ((splitN cur.length : Nat) : Int), .int .i64 ((i2 - (splitN cur.length) : Nat) : Int)] : Array Value).getD q9 Z3), rfl, rfl, (M.pick [1] (by decide) rfl), Cg68, (by rw [List.length_drop]; omega), (fun s9 h9 => hc32 s9 (List.mem_of_mem_drop h9)), (by rw [List.length_drop]; omega), (path_go_right (by omega) hi hP), (by rw [List.length_append, hPl]; rfl), (by rw [List.length_drop]; omega), HX70⟩
   rw [List.length_drop]; omega
  ·
   have hi : i2 < splitN cur.length := of_decide_eq_true hc62
   refine Z5 rfl ?_
   refine wp_region_treeN (by kernel_rfl) (fun w72 Sw72 => ?_)
   replace M := M.sees Sw72
   refine any_first 0 (v := .slice (some ⟨o, 0, none⟩) q oc) (by rfl) (by kernel_rfl) nopanic_not (by rfl) (by exact yl_move rfl rfl) ?_
   simp only [Z7,Z0]
   refine any_first 1 (v := .slice ar cur.length cr) (by rfl) (by kernel_rfl) nopanic_not (by rfl) (by exact yl_move rfl rfl) ?_
   simp only [Z7,Z0]
   refine any_first 2 (v := .int .i64 ((splitN cur.length : Nat) : Int)) (by rfl) (by kernel_rfl) nopanic_not (by rfl) (by exact yl_move rfl rfl) ?_
   simp only [Z7,Z0]
   refine any_first 3 (v := .slice (slA ar (splitN cur.length) cr) (cur.length - (splitN cur.length)) (cr - (splitN cur.length))) (by rfl) (by kernel_rfl) nopanic_not (by rfl) (by exact yl_slcL (lo := splitN cur.length) rfl rfl rfl Tryd.underlying48 info9 (Nat.le_of_lt hsl)) ?_
   simp only [Z7,Z0]
   refine any_first 7 (v := .slice ar cur.length cr) (by rfl) (by kernel_rfl) nopanic_not (by rfl) (by exact yl_move rfl rfl) ?_
   simp only [Z7,Z0]
   refine any_first 8 (v := .int .i64 ((splitN cur.length : Nat) : Int)) (by rfl) (by kernel_rfl) nopanic_not (by rfl) (by exact yl_move rfl rfl) ?_
   simp only [Z7,Z0]
   refine any_first 9 (v := .slice ar (splitN cur.length) cr) (by rfl) (by kernel_rfl) nopanic_not (by rfl) (by exact yl_slcH (hi := splitN cur.length) rfl rfl rfl Tryd.underlying48 info9 (Nat.le_trans (Nat.le_of_lt hsl) (M.oldN Hr).cap)) ?_
   simp only [Z7,Z0]
   refine any_step [4] (by kernel_rfl) rfl (any_one ?_)
   refine any_opL 4 (by rfl) ?_
   simp only [Z1,Z2]
   refine Z11 1 (by rfl) (fun Lk hLk => ?_)
   simp only [Z1,Z2]
   refine Z20 (v := .string (bs (rootS (cur.drop (splitN cur.length))))) (args := #[.slice (slA ar (splitN cur.length) cr) (cur.length - (splitN cur.length)) (cr - (splitN cur.length))]) (by rfl) rfl Tryd.func78 (by kernel_rfl) (by kernel_rfl) rfl (fun W hW => by with_reducible exact proot_c (ps := cur.drop (splitN cur.length)) (right_of (fun s9 h9 => hc32 s9 (List.mem_of_mem_drop h9)) (by rw [List.length_drop]; omega)) ((M.sees hW).oldL L0) ((M.sees hW).oldG R0_0 L0 NI0) ((((M.sees hW).oldN Hr).drop (Nat.le_of_lt hsl)).eq (scells_drop2 _ _))) ?_
   simp only [Z7,Z0]
   refine Z14 (hLk _ (fun w73 Sw73 => ?_))
   clear hLk Lk
   simp only [Z1,Z2]
   replace M := M.sees Sw73
   refine Z9 (Z17 ?_)
   refine any_step [5] (by kernel_rfl) rfl (any_one ?_)
   refine any_opL 5 (by rfl) ?_
   simp only [Z1,Z2]
   refine wpL_rowN (vs := [.string (bs (rootS (cur.drop (splitN cur.length))))]) (z := .string { data := #[] }) (bytes := 16) (by rfl) (by rfl) Tryd.underlying48 (by kernel_rfl) (by decide) (by kernel_rfl) (fun g74 w75 Sw75 Hg74 Bg74 => ?_)
   replace M := ((M.sees Sw75).add (N := 1) (cs := [.string (bs (rootS (cur.drop (splitN cur.length))))]) (M.ge Hg74) (M.fresh Hg74) Bg74 rfl)
   clear Bg74
   simp only [Z7,Z0]
   refine Z9 (Z17 ?_)
   refine any_step [6] (by kernel_rfl) rfl (any_one ?_)
   refine any_opL 6 (by rfl) ?_
   simp only [Z1,Z2]
   refine wpL_append (n := q) (m := 1) (olds := scells Ps) (news := [.string (bs (rootS (cur.drop (splitN cur.length))))]) (z := .string { data := #[] }) (bytes := 16) (by rfl) (by rfl) (by rfl) (by rfl) Tryd.underlying48 (by kernel_rfl) rfl rfl (by rw [scells_len, hPl]) rfl (M.r 1 0 rfl rfl) (M.t 1 rfl) (M.lt 1 rfl) (M.r 0 0 rfl rfl) (by intro u hu; rw [List.mem_singleton.1 hu]; rfl) (by omega) (by simp only [maxLen]; omega) (fun g76 g76c w77 Sw77 Q Cg76 R T L => ?_)
   replace M := M.grow 1 rfl Sw77 Q R T L
   simp only [Z0] at M
   clear Q R T L
   rw [show scells Ps ++ [.string (bs (rootS (cur.drop (splitN cur.length))))] = scells (Ps ++ [rootS (cur.drop (splitN cur.length))]) from scells_app Ps [_]] at M
   simp only [Z7,Z0]
   refine Z9 (Z17 ?_)
   refine any_first 10 (v := .slice (some ⟨g76, 0, none⟩) (q + 1) g76c) (by rfl) (by kernel_rfl) nopanic_not (by rfl) (by exact yl_assign rfl rfl) ?_
   simp only [Z7,Z0]
   refine any_first 11 (v := .slice ar (splitN cur.length) cr) (by rfl) (by kernel_rfl) nopanic_not (by rfl) (by exact yl_assign rfl rfl) ?_
   simp only [Z7,Z0]
   refine any_end (by kernel_rfl) (Z10 ?_)
   have HX78 := ((((M.notinsG Hr).take (Nat.le_of_lt hsl)).eq (scells_take2 _ _)).sub (show ∀ x ∈ [g76], x ∈ [g74, g76] from (by intro x hx; simp only [List.mem_cons, List.not_mem_nil, or_false] at hx ⊢; omega)))
   replace M := Mx45.comp M
   refine Exists.intro _ ⟨?_, (cur.take (splitN cur.length)), i2, (q + 1), (Ps ++ [rootS (cur.drop (splitN cur.length))]), g76, g76c, ar, (splitN cur.length), cr, (fun q9 => (#[Z3, Z3, Z3, Z3, Z3, Z3, Z3, Z3, .int .i64 ((splitN cur.length : Nat) : Int), Z3, Z3, Z3, Z3, Z3, Z3, Z3, Z3, Z3, Z3, Z3, Z3, Z3, Z3, .slice ar cur.length cr, .int .i64 ((cur.length : Nat) : Int), .bool true, .slice ar cur.length cr, .int .i64 ((cur.length : Nat) : Int), .int .i64 ((splitN cur.length : Nat) : Int), .int .i64 ((i2 : Nat) : Int), .int .i64 ((splitN cur.length : Nat) : Int), .bool true, .slice (some ⟨o, 0, none⟩) q oc, .slice ar cur.length cr, .int .i64 ((splitN cur.length : Nat) : Int), .slice (slA ar (splitN cur.length) cr) (cur.length - (splitN cur.length)) (cr - (splitN cur.length)), .string (bs (rootS (cur.drop (splitN cur.length)))), .slice (some ⟨g74, 0, none⟩) 1 1, .slice (some ⟨g76, 0, none⟩) (q + 1) g76c, .slice ar cur.length cr, .int .i64 ((splitN cur.length : Nat) : Int), .slice ar (splitN cur.length) cr, u12 42, u12 43, u12 44, u12 45, u12 46, u12 47, u12 48, u12 49, u12 50, u12 51, u12 52, u12 53, u12 54] : Array Value).getD q9 Z3), rfl, rfl, (M.pick [1] (by decide) rfl), Cg76, (by rw [List.length_take]; omega), (fun s9 h9 => hc32 s9 (List.mem_of_mem_take h9)), (by rw [List.length_take]; omega), (path_go_left (by omega) hi hP), (by rw [List.length_append, hPl]; rfl), (by rw [List.length_take]; omega), HX78⟩
   rw [List.length_take]; omega
end Go.Proofs.Yb

namespace Go.Proofs.Yb
open Go Go.RowKit Go.Proofs.Num
open List renaming set → Z0, take → Z1, drop → Z2
open Go renaming undef → Z3, wp_seq_k → Z4, wp_cond_true → Z5, wp_cond_false → Z6
open Go.Proofs.Num renaming putT → Z7, wp_region_seq → Z8, wpL_nil → Z9, no_panic → Z10, wpL_chunk → Z11, wpL_move → Z12, wpL_assign → Z13, wpV_nil → Z14, wpV_bin → Z15, wpV_move → Z16, then_normal → Z17, wpL_store1 → Z18, wpV_val → Z19, wpV_callf → Z20
attribute [local irreducible] wpV wpN wpList
set_option maxHeartbeats 1000000 in
theorem Step_zero {l : List (List UInt8)} {ap : Option Addr} {np cp : Nat} {w : World} (hok : rightB l = true) (Hp : RowA w ap np cp (scells l)) :
  Calls Tryd.prog 48 #[.slice ap np cp, .int .i64 0] w fun e w' => e = .returned (.tuple #[.slice none 0 0, .int .i64 0]) ∧ Below w.heap.size w w' := by
 obtain rfl : np = l.length := by have := Hp.len; rwa [scells_len] at this
 go_enter Tryd.func48, Tryd.ntmps48
 have M := Mem.start w
 refine Z4 (fun K1 hK1 => ?_)
 refine Z8 ?_
 refine Z13 (v := (.slice none 0 0)) (by rfl) (by rfl) (by rfl) ?_
 simp only [Z7,Z0]
 refine Z13 (v := .int .i64 0) (by rfl) (by rfl) (by rfl) ?_
 simp only [Z7,Z0]
 refine Z9 (Z10 ?_)
 refine hK1 _ _ ?_
 refine Z4 (fun K3 hK3 => ?_)
 refine Z4 (fun K4 hK4 => ?_)
 refine Z8 ?_
 refine Z12 (v := .slice ap l.length cp) (by rfl) (by rfl) (by rfl) ?_
 simp only [Z7,Z0]
 refine Z11 12 (by rfl) (fun Lk hLk => ?_)
 simp only [Z1,Z2]
 refine Z20 (v := .bool true) (args := #[.slice ap l.length cp]) (by rfl) rfl Tryd.func42 (by kernel_rfl) (by kernel_rfl) rfl (fun W hW => by have h9 : Calls Tryd.prog _ _ W _ := right_r (ps := l)  ((M.sees hW).oldA Hp); rw [hok] at h9; exact h9) ?_
 simp only [Z7,Z0]
 refine wpV_not (b := true) (by rfl) rfl rfl ?_
 simp only [Bool.not_true, Bool.not_false]
 simp only [Z7,Z0]
 refine Z16 (v := .bool false) (by rfl) rfl rfl ?_
 simp only [Z7,Z0]
 refine Z16 (v := .int .i64 0) (by rfl) rfl rfl ?_
 simp only [Z7,Z0]
 refine Z15 (v := .bool false) (by rfl) rfl rfl rfl (fun W => run_lss _ _ _ _ W) ?_
 simp only [Z7,Z0]
 refine wpV_pick (v := .bool false) (by rfl) rfl rfl rfl ?_
 simp only [Z7,Z0]
 refine Z16 (v := .bool false) (by rfl) rfl rfl ?_
 simp only [Z7,Z0]
 refine Z16 (v := .int .i64 0) (by rfl) rfl rfl ?_
 simp only [Z7,Z0]
 refine Z16 (v := .slice ap l.length cp) (by rfl) rfl rfl ?_
 simp only [Z7,Z0]
 refine wpV_lenA (n := l.length) (by rfl) rfl rfl rfl Tryd.underlying48 ?_
 simp only [Z7,Z0]
 refine Z15 (v := .bool false) (by rfl) rfl rfl rfl (fun W => (run_gtrN 0 l.length _ _ W).trans (by rw [(decide_eq_false (Nat.not_lt_zero _))])) ?_
 simp only [Z7,Z0]
 refine wpV_pick (v := .bool false) (by rfl) rfl rfl rfl ?_
 simp only [Z7,Z0]
 refine Z14 (hLk _ (fun w6 Sw6 => ?_))
 clear hLk Lk
 simp only [Z1,Z2]
 replace M := M.sees Sw6
 refine Z9 (Z10 ?_)
 refine hK4 _ _ ?_
 refine Z6 rfl ?_
 refine wp_skip ?_
 refine hK3 _ _ ?_
 refine Z4 (fun K7 hK7 => ?_)
 refine Z8 ?_
 refine Z13 (v := (.slice none 0 0)) (by rfl) (by rfl) (by rfl) ?_
 simp only [Z7,Z0]
 refine Z9 (Z10 ?_)
 refine hK7 _ _ ?_
 refine Z4 (fun K9 hK9 => ?_)
 refine Z4 (fun K10 hK10 => ?_)
 refine Z8 ?_
 refine Z12 (v := .int .i64 0) (by rfl) (by rfl) (by rfl) ?_
 simp only [Z7,Z0]
 refine Z11 1 (by rfl) (fun Lk hLk => ?_)
 simp only [Z1,Z2]
 refine Z15 (v := .bool true) (by rfl) rfl rfl rfl (fun W => run_eql _ _ _ _ W) ?_
 simp only [Z7,Z0]
 refine Z14 (hLk _ (fun w12 Sw12 => ?_))
 clear hLk Lk
 simp only [Z1,Z2]
 replace M := M.sees Sw12
 refine Z9 (Z10 ?_)
 refine hK10 _ _ ?_
 refine Z5 rfl ?_
 refine Z4 (fun K13 hK13 => ?_)
 refine Z8 ?_
 refine Z12 (v := (.slice none 0 0)) (by rfl) (by rfl) (by rfl) ?_
 simp only [Z7,Z0]
 refine Z13 (v := (.slice none 0 0)) (by rfl) (by rfl) (by rfl) ?_
 simp only [Z7,Z0]
 refine Z13 (v := .int .i64 0) (by rfl) (by rfl) (by rfl) ?_
 simp only [Z7,Z0]
 refine Z9 (Z10 ?_)
 refine hK13 _ _ ?_
 refine wp_ret ?_
 repeat (first | with_reducible refine then_ret ?_ | with_reducible refine inblock_ret ?_)
 refine bodyPost_ret (v := .tuple #[(.slice none 0 0), .int .i64 0]) (res2 rfl (.tmp (by rfl)) (.tmp (by rfl))) rfl ?_
 have BE := M.below
 exact ⟨rfl, BE⟩
set_option maxHeartbeats 1000000 in
theorem Step_all {l : List (List UInt8)} {ap : Option Addr} {np cp : Nat} {m : Nat} {w : World} (hok : rightB l = true) (hm1 : 1 ≤ m) (hx : m = l.length) (Hp : RowA w ap np cp (scells l)) :
  Calls Tryd.prog 48 #[.slice ap np cp, .int .i64 ((m : Nat) : Int)] w fun e w' => e = .returned (.tuple #[.slice none 0 0, .int .i64 0]) ∧ Below w.heap.size w w' := by
 obtain rfl : np = l.length := by have := Hp.len; rwa [scells_len] at this
 go_enter Tryd.func48, Tryd.ntmps48
 have M := Mem.start w
 refine Z4 (fun K1 hK1 => ?_)
 refine Z8 ?_
 refine Z13 (v := (.slice none 0 0)) (by rfl) (by rfl) (by rfl) ?_
 simp only [Z7,Z0]
 refine Z13 (v := .int .i64 0) (by rfl) (by rfl) (by rfl) ?_
 simp only [Z7,Z0]
 refine Z9 (Z10 ?_)
 refine hK1 _ _ ?_
 refine Z4 (fun K3 hK3 => ?_)
 refine Z4 (fun K4 hK4 => ?_)
 refine Z8 ?_
 refine Z12 (v := .slice ap l.length cp) (by rfl) (by rfl) (by rfl) ?_
 simp only [Z7,Z0]
 refine Z11 12 (by rfl) (fun Lk hLk => ?_)
 simp only [Z1,Z2]
 refine Z20 (v := .bool true) (args := #[.slice ap l.length cp]) (by rfl) rfl Tryd.func42 (by kernel_rfl) (by kernel_rfl) rfl (fun W hW => by have h9 : Calls Tryd.prog _ _ W _ := right_r (ps := l)  ((M.sees hW).oldA Hp); rw [hok] at h9; exact h9) ?_
 simp only [Z7,Z0]
 refine wpV_not (b := true) (by rfl) rfl rfl ?_
 simp only [Bool.not_true, Bool.not_false]
 simp only [Z7,Z0]
 refine Z16 (v := .bool false) (by rfl) rfl rfl ?_
 simp only [Z7,Z0]
 refine Z16 (v := .int .i64 ((m : Nat) : Int)) (by rfl) rfl rfl ?_
 simp only [Z7,Z0]
 refine Z15 (v := .bool false) (by rfl) rfl rfl rfl (fun W => (run_lssN m 0 _ _ W).trans (by rw [(decide_eq_false (Nat.not_lt_zero m))])) ?_
 simp only [Z7,Z0]
 refine wpV_pick (v := .bool false) (by rfl) rfl rfl rfl ?_
 simp only [Z7,Z0]
 refine Z16 (v := .bool false) (by rfl) rfl rfl ?_
 simp only [Z7,Z0]
 refine Z16 (v := .int .i64 ((m : Nat) : Int)) (by rfl) rfl rfl ?_
 simp only [Z7,Z0]
 refine Z16 (v := .slice ap l.length cp) (by rfl) rfl rfl ?_
 simp only [Z7,Z0]
 refine wpV_lenA (n := l.length) (by rfl) rfl rfl rfl Tryd.underlying48 ?_
 simp only [Z7,Z0]
 refine Z15 (v := .bool false) (by rfl) rfl rfl rfl (fun W => (run_gtrN m l.length _ _ W).trans (by rw [(decide_eq_false (by omega))])) ?_
 simp only [Z7,Z0]
 refine wpV_pick (v := .bool false) (by rfl) rfl rfl rfl ?_
 simp only [Z7,Z0]
 refine Z14 (hLk _ (fun w6 Sw6 => ?_))
 clear hLk Lk
 simp only [Z1,Z2]
 replace M := M.sees Sw6
 refine Z9 (Z10 ?_)
 refine hK4 _ _ ?_
 refine Z6 rfl ?_
 refine wp_skip ?_
 refine hK3 _ _ ?_
 refine Z4 (fun K7 hK7 => ?_)
 refine Z8 ?_
 refine Z13 (v := (.slice none 0 0)) (by rfl) (by rfl) (by rfl) ?_
 simp only [Z7,Z0]
 refine Z9 (Z10 ?_)
 refine hK7 _ _ ?_
 refine Z4 (fun K9 hK9 => ?_)
 refine Z4 (fun K10 hK10 => ?_)
 refine Z8 ?_
 refine Z12 (v := .int .i64 ((m : Nat) : Int)) (by rfl) (by rfl) (by rfl) ?_
 simp only [Z7,Z0]
 refine Z11 1 (by rfl) (fun Lk hLk => ?_)
 simp only [Z1,Z2]
 refine Z15 (v := .bool false) (by rfl) rfl rfl rfl (fun W => (run_eqlN m 0 _ _ W).trans (by rw [(decide_eq_false (by omega))])) ?_
 simp only [Z7,Z0]
 refine Z14 (hLk _ (fun w12 Sw12 => ?_))
 clear hLk Lk
 simp only [Z1,Z2]
 replace M := M.sees Sw12
 refine Z9 (Z10 ?_)
 refine hK10 _ _ ?_
 refine Z6 rfl ?_
 refine wp_skip ?_
 refine hK9 _ _ ?_
 refine Z4 (fun K13 hK13 => ?_)
 refine Z8 ?_
 refine Z12 (v := .slice ap l.length cp) (by rfl) (by rfl) (by rfl) ?_
 simp only [Z7,Z0]
 refine Z13 (v := .bool true) (by rfl) (by rfl) (by rfl) ?_
 simp only [Z7,Z0]
 refine Z13 (v := .slice ap l.length cp) (by rfl) (by rfl) (by rfl) ?_
 simp only [Z7,Z0]
 refine Z9 (Z10 ?_)
 refine hK13 _ _ ?_
 refine Z4 (fun K15 hK15 => ?_)
 refine wp_block ?_
 refine wp_loop_rounds 2 ?_
 rw [rounds_succ]
 refine Z4 (fun K16 hK16 => ?_)
 refine Z4 (fun K17 hK17 => ?_)
 refine Z8 ?_
 refine Z12 (v := .int .i64 ((m : Nat) : Int)) (by rfl) (by rfl) (by rfl) ?_
 simp only [Z7,Z0]
 refine Z12 (v := .slice ap l.length cp) (by rfl) (by rfl) (by rfl) ?_
 simp only [Z7,Z0]
 refine Z11 2 (by rfl) (fun Lk hLk => ?_)
 simp only [Z1,Z2]
 refine wpV_lenA (n := l.length) (by rfl) rfl rfl rfl Tryd.underlying48 ?_
 simp only [Z7,Z0]
 refine Z15 (v := .bool false) (by rfl) rfl rfl rfl (fun W => (run_lssN m l.length _ _ W).trans (by rw [(decide_eq_false (by omega))])) ?_
 simp only [Z7,Z0]
 refine Z14 (hLk _ (fun w19 Sw19 => ?_))
 clear hLk Lk
 simp only [Z1,Z2]
 replace M := M.sees Sw19
 refine Z9 (Z10 ?_)
 refine hK17 _ _ ?_
 refine Z6 rfl ?_
 refine wp_exit ?_
 refine hK15 _ _ ?_
 refine Z4 (fun K20 hK20 => ?_)
 refine Z4 (fun K21 hK21 => ?_)
 refine Z8 ?_
 refine Z12 (v := .bool true) (by rfl) (by rfl) (by rfl) ?_
 simp only [Z7,Z0]
 refine Z11 1 (by rfl) (fun Lk hLk => ?_)
 simp only [Z1,Z2]
 refine wpV_not (b := true) (by rfl) rfl rfl ?_
 simp only [Bool.not_true, Bool.not_false]
 simp only [Z7,Z0]
 refine Z14 (hLk _ (fun w23 Sw23 => ?_))
 clear hLk Lk
 simp only [Z1,Z2]
 replace M := M.sees Sw23
 refine Z9 (Z10 ?_)
 refine hK21 _ _ ?_
 refine Z6 rfl ?_
 refine wp_skip ?_
 refine hK20 _ _ ?_
 refine Z4 (fun K24 hK24 => ?_)
 refine Z8 ?_
 refine Z12 (v := (.slice none 0 0)) (by rfl) (by rfl) (by rfl) ?_
 simp only [Z7,Z0]
 refine Z11 1 (by rfl) (fun Lk hLk => ?_)
 simp only [Z1,Z2]
 refine Z20 (v := .tuple #[]) (args := #[(.slice none 0 0)]) (by rfl) rfl Tryd.func79 (by kernel_rfl) (by kernel_rfl) rfl (fun W hW => ((Tryd.slices_Reverse_string_empty none 0 W).mono fun e w' h => ⟨h.1, h.2 ▸ Below.refl _ _⟩)) ?_
 simp only [Z7,Z0]
 refine Z14 (hLk _ (fun w26 Sw26 => ?_))
 clear hLk Lk
 simp only [Z1,Z2]
 replace M := M.sees Sw26
 refine Z9 (Z10 ?_)
 refine hK24 _ _ ?_
 refine Z4 (fun K27 hK27 => ?_)
 refine Z8 ?_
 refine Z12 (v := (.slice none 0 0)) (by rfl) (by rfl) (by rfl) ?_
 simp only [Z7,Z0]
 refine Z13 (v := (.slice none 0 0)) (by rfl) (by rfl) (by rfl) ?_
 simp only [Z7,Z0]
 refine Z13 (v := .int .i64 0) (by rfl) (by rfl) (by rfl) ?_
 simp only [Z7,Z0]
 refine Z9 (Z10 ?_)
 refine hK27 _ _ ?_
 refine wp_ret ?_
 repeat (first | with_reducible refine then_ret ?_ | with_reducible refine inblock_ret ?_)
 refine bodyPost_ret (v := .tuple #[(.slice none 0 0), .int .i64 0]) (res2 rfl (.tmp (by rfl)) (.tmp (by rfl))) rfl ?_
 have BE := M.below
 exact ⟨rfl, BE⟩
set_option maxHeartbeats 4000000 in
theorem Step_go {l : List (List UInt8)} {ap : Option Addr} {np cp : Nat} {m : Nat} {w : World} (hok : rightB l = true) (hm1 : 1 ≤ m) (hx : m < l.length) (L0 : 0 < w.heap.size) (R0_0 : w.rangeAt 0 0 kcells) (Hp : RowA w ap np cp (scells l)) :
  Calls Tryd.prog 48 #[.slice ap np cp, .int .i64 ((m : Nat) : Int)] w fun e w' => ∃ a n c, e = .returned (.tuple #[.slice a n c, .int .i64 0]) ∧ RowA w' a n c (scells (stepS l m true)) ∧ Below w.heap.size w w' := by
 obtain rfl : np = l.length := by have := Hp.len; rwa [scells_len] at this
 have h4 := of_right_len hok
 have h32 := all32_mem (of_right hok)
 have hsl := splitN_lt (n := l.length) (by omega)
 have hsp := splitN_pos l.length
 go_enter Tryd.func48, Tryd.ntmps48
 have M := Mem.start w
 refine Z4 (fun K1 hK1 => ?_)
 refine Z8 ?_
 refine Z13 (v := (.slice none 0 0)) (by rfl) (by rfl) (by rfl) ?_
 simp only [Z7,Z0]
 refine Z13 (v := .int .i64 0) (by rfl) (by rfl) (by rfl) ?_
 simp only [Z7,Z0]
 refine Z9 (Z10 ?_)
 refine hK1 _ _ ?_
 refine Z4 (fun K3 hK3 => ?_)
 refine Z4 (fun K4 hK4 => ?_)
 refine Z8 ?_
 refine Z12 (v := .slice ap l.length cp) (by rfl) (by rfl) (by rfl) ?_
 simp only [Z7,Z0]
 refine Z11 12 (by rfl) (fun Lk hLk => ?_)
 simp only [Z1,Z2]
 refine Z20 (v := .bool true) (args := #[.slice ap l.length cp]) (by rfl) rfl Tryd.func42 (by kernel_rfl) (by kernel_rfl) rfl (fun W hW => by have h9 : Calls Tryd.prog _ _ W _ := right_r (ps := l)  ((M.sees hW).oldA Hp); rw [hok] at h9; exact h9) ?_
 simp only [Z7,Z0]
 refine wpV_not (b := true) (by rfl) rfl rfl ?_
 simp only [Bool.not_true, Bool.not_false]
 simp only [Z7,Z0]
 refine Z16 (v := .bool false) (by rfl) rfl rfl ?_
 simp only [Z7,Z0]
 refine Z16 (v := .int .i64 ((m : Nat) : Int)) (by rfl) rfl rfl ?_
 simp only [Z7,Z0]
 refine Z15 (v := .bool false) (by rfl) rfl rfl rfl (fun W => (run_lssN m 0 _ _ W).trans (by rw [(decide_eq_false (Nat.not_lt_zero m))])) ?_
 simp only [Z7,Z0]
 refine wpV_pick (v := .bool false) (by rfl) rfl rfl rfl ?_
 simp only [Z7,Z0]
 refine Z16 (v := .bool false) (by rfl) rfl rfl ?_
 simp only [Z7,Z0]
 refine Z16 (v := .int .i64 ((m : Nat) : Int)) (by rfl) rfl rfl ?_
 simp only [Z7,Z0]
 refine Z16 (v := .slice ap l.length cp) (by rfl) rfl rfl ?_
 simp only [Z7,Z0]
 refine wpV_lenA (n := l.length) (by rfl) rfl rfl rfl Tryd.underlying48 ?_
 simp only [Z7,Z0]
 refine Z15 (v := .bool false) (by rfl) rfl rfl rfl (fun W => (run_gtrN m l.length _ _ W).trans (by rw [(decide_eq_false (by omega))])) ?_
 simp only [Z7,Z0]
 refine wpV_pick (v := .bool false) (by rfl) rfl rfl rfl ?_
 simp only [Z7,Z0]
 refine Z14 (hLk _ (fun w6 Sw6 => ?_))
 clear hLk Lk
 simp only [Z1,Z2]
 replace M := M.sees Sw6
 refine Z9 (Z10 ?_)
 refine hK4 _ _ ?_
 refine Z6 rfl ?_
 refine wp_skip ?_
 refine hK3 _ _ ?_
 refine Z4 (fun K7 hK7 => ?_)
 refine Z8 ?_
 refine Z13 (v := (.slice none 0 0)) (by rfl) (by rfl) (by rfl) ?_
 simp only [Z7,Z0]
 refine Z9 (Z10 ?_)
 refine hK7 _ _ ?_
 refine Z4 (fun K9 hK9 => ?_)
 refine Z4 (fun K10 hK10 => ?_)
 refine Z8 ?_
 refine Z12 (v := .int .i64 ((m : Nat) : Int)) (by rfl) (by rfl) (by rfl) ?_
 simp only [Z7,Z0]
 refine Z11 1 (by rfl) (fun Lk hLk => ?_)
 simp only [Z1,Z2]
 refine Z15 (v := .bool false) (by rfl) rfl rfl rfl (fun W => (run_eqlN m 0 _ _ W).trans (by rw [(decide_eq_false (by omega))])) ?_
 simp only [Z7,Z0]
 refine Z14 (hLk _ (fun w12 Sw12 => ?_))
 clear hLk Lk
 simp only [Z1,Z2]
 replace M := M.sees Sw12
 refine Z9 (Z10 ?_)
 refine hK10 _ _ ?_
 refine Z6 rfl ?_
 refine wp_skip ?_
 refine hK9 _ _ ?_
 refine Z4 (fun K13 hK13 => ?_)
 refine Z8 ?_
 refine Z12 (v := .slice ap l.length cp) (by rfl) (by rfl) (by rfl) ?_
 simp only [Z7,Z0]
 refine Z13 (v := .bool true) (by rfl) (by rfl) (by rfl) ?_
 simp only [Z7,Z0]
 refine Z13 (v := .slice ap l.length cp) (by rfl) (by rfl) (by rfl) ?_
 simp only [Z7,Z0]
 refine Z9 (Z10 ?_)
 refine hK13 _ _ ?_
 refine Z4 (fun K15 hK15 => ?_)
 refine wp_block ?_
 refine wp_loop_peel (fun n9 a9 W9 => ∃ (cur : List (List UInt8)) (j : Nat) (wh : Bool) (q : Nat) (Ps : List (List UInt8)) (o : Nat) (oc : Nat) (ar : Option Addr) (nr : Nat) (cr : Nat) (u16 : Nat → Value), n9 = 2 * cur.length ∧ a9 = { tmps := #[.slice ap l.length cp, .int .i64 ((j : Nat) : Int), Z3, Z3, (.slice none 0 0), .int .i64 0, .slice (some ⟨o, 0, none⟩) q oc, .bool wh, .slice ar nr cr, u16 9, .slice ap l.length cp, .bool true, .bool false, .bool false, .int .i64 ((m : Nat) : Int), .bool false, .bool false, .bool false, .int .i64 ((m : Nat) : Int), .slice ap l.length cp, .int .i64 ((l.length : Nat) : Int), .bool false, .bool false, .int .i64 ((m : Nat) : Int), .bool false, Z3, .slice ap l.length cp, u16 27, u16 28, u16 29, u16 30, u16 31, u16 32, u16 33, u16 34, u16 35, u16 36, u16 37, u16 38, u16 39, u16 40, u16 41, u16 42, u16 43, u16 44, u16 45, u16 46, u16 47, u16 48, u16 49, u16 50, u16 51, u16 52, u16 53, u16 54, u16 55, u16 56, u16 57, u16 58, u16 59, Z3, Z3, Z3, Z3, Z3, Z3, Z3, Z3, Z3, Z3], defers := [] } ∧ Mem [] w W9 [⟨o, oc, [(0, scells Ps)]⟩] ∧ q ≤ oc ∧ (1 ≤ cur.length) ∧ (∀ s ∈ cur, s.length = 32) ∧ (1 ≤ j) ∧ (j ≤ cur.length) ∧ (stepS l m true = stepS cur j wh ++ Ps.reverse) ∧ (Ps.length = q) ∧ (q + cur.length ≤ 4096) ∧ RowN [o] W9 ar nr cr (scells cur)) (2 * (l).length + 1) ?_ (fun n9 a9 W9 hI => ?_)
 ·
  refine Z4 (fun K17 hK17 => ?_)
  refine Z4 (fun K18 hK18 => ?_)
  refine Z8 ?_
  refine Z12 (v := .int .i64 ((m : Nat) : Int)) (by rfl) (by rfl) (by rfl) ?_
  simp only [Z7,Z0]
  refine Z12 (v := .slice ap l.length cp) (by rfl) (by rfl) (by rfl) ?_
  simp only [Z7,Z0]
  refine Z11 2 (by rfl) (fun Lk hLk => ?_)
  simp only [Z1,Z2]
  refine wpV_lenA (n := l.length) (by rfl) rfl rfl rfl Tryd.underlying48 ?_
  simp only [Z7,Z0]
  refine Z15 (v := .bool true) (by rfl) rfl rfl rfl (fun W => (run_lssN m l.length _ _ W).trans (by rw [(decide_eq_true hx)])) ?_
  simp only [Z7,Z0]
  refine Z14 (hLk _ (fun w20 Sw20 => ?_))
  clear hLk Lk
  simp only [Z1,Z2]
  replace M := M.sees Sw20
  refine Z9 (Z10 ?_)
  refine hK18 _ _ ?_
  refine Z5 rfl ?_
  refine wp_skip ?_
  refine hK17 _ _ ?_
  refine wp_block ?_
  refine Z4 (fun K21 hK21 => ?_)
  refine Z8 ?_
  refine Z12 (v := .slice ap l.length cp) (by rfl) (by rfl) (by rfl) ?_
  simp only [Z7,Z0]
  refine Z11 2 (by rfl) (fun Lk hLk => ?_)
  simp only [Z1,Z2]
  refine wpV_lenA (n := l.length) (by rfl) rfl rfl rfl Tryd.underlying48 ?_
  simp only [Z7,Z0]
  refine Z20 (v := .int .i64 ((splitN l.length : Nat) : Int)) (args := #[.int .i64 ((l.length : Nat) : Int)]) (by rfl) rfl Tryd.func77 (by kernel_rfl) (by kernel_rfl) rfl (fun W hW => psplit_c (n := l.length) (by omega) (by omega)) ?_
  simp only [Z7,Z0]
  refine Z14 (hLk _ (fun w23 Sw23 => ?_))
  clear hLk Lk
  simp only [Z1,Z2]
  replace M := M.sees Sw23
  refine Z13 (v := .int .i64 ((splitN l.length : Nat) : Int)) (by rfl) (by rfl) (by rfl) ?_
  simp only [Z7,Z0]
  refine Z9 (Z10 ?_)
  refine hK21 _ _ ?_
  refine Z4 (fun K24 hK24 => ?_)
  refine Z8 ?_
  refine Z12 (v := .int .i64 ((m : Nat) : Int)) (by rfl) (by rfl) (by rfl) ?_
  simp only [Z7,Z0]
  refine Z12 (v := .int .i64 ((splitN l.length : Nat) : Int)) (by rfl) (by rfl) (by rfl) ?_
  simp only [Z7,Z0]
  refine Z11 1 (by rfl) (fun Lk hLk => ?_)
  simp only [Z1,Z2]
  refine Z15 (v := .bool (decide (m ≤ splitN l.length))) (by rfl) rfl rfl rfl (fun W => run_leqN m (splitN l.length) _ _ W) ?_
  simp only [Z7,Z0]
  refine Z14 (hLk _ (fun w26 Sw26 => ?_))
  clear hLk Lk
  simp only [Z1,Z2]
  replace M := M.sees Sw26
  refine Z9 (Z10 ?_)
  refine hK24 _ _ ?_
  cases hc27 : (decide (m ≤ splitN l.length))
  ·
   have hi : ¬ m ≤ splitN l.length := of_decide_eq_false hc27
   refine Z6 rfl ?_
   refine Z4 (fun K28 hK28 => ?_)
   refine wp_region_treeN (by kernel_rfl) (fun w30 Sw30 => ?_)
   replace M := M.sees Sw30
   refine any_first 0 (v := (.slice none 0 0)) (by rfl) (by kernel_rfl) nopanic_not (by rfl) (by exact yl_move rfl rfl) ?_
   simp only [Z7,Z0]
   refine any_first 1 (v := .slice ap l.length cp) (by rfl) (by kernel_rfl) nopanic_not (by rfl) (by exact yl_move rfl rfl) ?_
   simp only [Z7,Z0]
   refine any_first 2 (v := .int .i64 ((splitN l.length : Nat) : Int)) (by rfl) (by kernel_rfl) nopanic_not (by rfl) (by exact yl_move rfl rfl) ?_
   simp only [Z7,Z0]
   refine any_first 3 (v := .slice ap (splitN l.length) cp) (by rfl) (by kernel_rfl) nopanic_not (by rfl) (by exact yl_slcH (hi := splitN l.length) rfl rfl rfl Tryd.underlying48 info9 (Nat.le_trans (Nat.le_of_lt hsl) (M.oldA Hp).cap)) ?_
   simp only [Z7,Z0]
   refine any_first 7 (v := .slice ap l.length cp) (by rfl) (by kernel_rfl) nopanic_not (by rfl) (by exact yl_move rfl rfl) ?_
   simp only [Z7,Z0]
   refine any_first 8 (v := .int .i64 ((splitN l.length : Nat) : Int)) (by rfl) (by kernel_rfl) nopanic_not (by rfl) (by exact yl_move rfl rfl) ?_
   simp only [Z7,Z0]
   refine any_first 9 (v := .slice (slA ap (splitN l.length) cp) (l.length - (splitN l.length)) (cp - (splitN l.length))) (by rfl) (by kernel_rfl) nopanic_not (by rfl) (by exact yl_slcL (lo := splitN l.length) rfl rfl rfl Tryd.underlying48 info9 (Nat.le_of_lt hsl)) ?_
   simp only [Z7,Z0]
   refine any_step [4] (by kernel_rfl) rfl (any_one ?_)
   refine any_opL 4 (by rfl) ?_
   simp only [Z1,Z2]
   refine Z11 1 (by rfl) (fun Lk hLk => ?_)
   simp only [Z1,Z2]
   refine Z20 (v := .string (bs (rootS (l.take (splitN l.length))))) (args := #[.slice ap (splitN l.length) cp]) (by rfl) rfl Tryd.func78 (by kernel_rfl) (by kernel_rfl) rfl (fun W hW => by with_reducible exact proot_c (ps := l.take (splitN l.length)) (right_of (fun s9 h9 => h32 s9 (List.mem_of_mem_take h9)) (by rw [List.length_take]; omega)) ((M.sees hW).oldL L0) ((M.sees hW).oldR R0_0 L0) ((((M.sees hW).oldA Hp).take (Nat.le_of_lt hsl)).eq (scells_take2 _ _))) ?_
   simp only [Z7,Z0]
   refine Z14 (hLk _ (fun w31 Sw31 => ?_))
   clear hLk Lk
   simp only [Z1,Z2]
   replace M := M.sees Sw31
   refine Z9 (Z17 ?_)
   refine any_step [5] (by kernel_rfl) rfl (any_one ?_)
   refine any_opL 5 (by rfl) ?_
   simp only [Z1,Z2]
   refine wpL_rowN (vs := [.string (bs (rootS (l.take (splitN l.length))))]) (z := .string { data := #[] }) (bytes := 16) (by rfl) (by rfl) Tryd.underlying48 (by kernel_rfl) (by decide) (by kernel_rfl) (fun g32 w33 Sw33 Hg32 Bg32 => ?_)
   replace M := ((M.sees Sw33).add (N := 1) (cs := [.string (bs (rootS (l.take (splitN l.length))))]) (M.ge Hg32) (M.fresh Hg32) Bg32 rfl)
   clear Bg32
   simp only [Z7,Z0]
   refine Z9 (Z17 ?_)
   refine any_step [6] (by kernel_rfl) rfl (any_one ?_)
   refine any_opL 6 (by rfl) ?_
   simp only [Z1,Z2]
   refine wpL_append0 (m := 1) (news := [.string (bs (rootS (l.take (splitN l.length))))]) (z := .string { data := #[] }) (bytes := 16) (by rfl) (by rfl) (by rfl) (by rfl) Tryd.underlying48 (by kernel_rfl) rfl rfl (by decide) (M.r 0 0 rfl rfl) (by decide) (by decide) (fun g34 g34c w35 Sw35 Hg34 Cg34 R T L => ?_)
   replace M := (M.sees Sw35).addR (M.ge Hg34) (M.fresh Hg34) T R L
   clear T R L
   rw [show [.string (bs (rootS (l.take (splitN l.length))))] = scells [rootS (l.take (splitN l.length))] from rfl] at M
   simp only [Z7,Z0]
   refine Z9 (Z17 ?_)
   refine any_first 10 (v := .slice (some ⟨g34, 0, none⟩) 1 g34c) (by rfl) (by kernel_rfl) nopanic_not (by rfl) (by exact yl_assign rfl rfl) ?_
   simp only [Z7,Z0]
   refine any_first 11 (v := .slice (slA ap (splitN l.length) cp) (l.length - (splitN l.length)) (cp - (splitN l.length))) (by rfl) (by kernel_rfl) nopanic_not (by rfl) (by exact yl_assign rfl rfl) ?_
   simp only [Z7,Z0]
   refine any_end (by kernel_rfl) (Z10 ?_)
   refine hK28 _ _ ?_
   refine Z8 ?_
   refine Z12 (v := .int .i64 ((m : Nat) : Int)) (by rfl) (by rfl) (by rfl) ?_
   simp only [Z7,Z0]
   refine Z12 (v := .int .i64 ((splitN l.length : Nat) : Int)) (by rfl) (by rfl) (by rfl) ?_
   simp only [Z7,Z0]
   refine Z11 1 (by rfl) (fun Lk hLk => ?_)
   simp only [Z1,Z2]
   refine Z15 (v := .int .i64 ((m - (splitN l.length) : Nat) : Int)) (by rfl) rfl rfl rfl (fun W => run_sub (by simp only [IntKind.wrap_i64]; omega) W) ?_
   simp only [Z7,Z0]
   refine Z14 (hLk _ (fun w37 Sw37 => ?_))
   clear hLk Lk
   simp only [Z1,Z2]
   replace M := M.sees Sw37
   refine Z13 (v := .int .i64 ((m - (splitN l.length) : Nat) : Int)) (by rfl) (by rfl) (by rfl) ?_
   simp only [Z7,Z0]
   refine Z13 (v := .bool false) (by rfl) (by rfl) (by rfl) ?_
   simp only [Z7,Z0]
   refine Z9 (Z10 ?_)
   refine Exists.intro _ ⟨?_, (l.drop (splitN l.length)), (m - (splitN l.length)), false, 1, ([rootS (l.take (splitN l.length))]), g34, g34c, (slA ap (splitN l.length) cp), (l.length - (splitN l.length)), (cp - (splitN l.length)), (fun q9 => (#[Z3, Z3, Z3, Z3, Z3, Z3, Z3, Z3, Z3, .int .i64 ((splitN l.length : Nat) : Int), Z3, Z3, Z3, Z3, Z3, Z3, Z3, Z3, Z3, Z3, Z3, Z3, Z3, Z3, Z3, Z3, Z3, .int .i64 ((m : Nat) : Int), .slice ap l.length cp, .int .i64 ((l.length : Nat) : Int), .bool true, .slice ap l.length cp, .int .i64 ((l.length : Nat) : Int), .int .i64 ((splitN l.length : Nat) : Int), .int .i64 ((m : Nat) : Int), .int .i64 ((splitN l.length : Nat) : Int), .bool false, Z3, Z3, Z3, Z3, Z3, Z3, Z3, Z3, Z3, Z3, (.slice none 0 0), .slice ap l.length cp, .int .i64 ((splitN l.length : Nat) : Int), .slice ap (splitN l.length) cp, .string (bs (rootS (l.take (splitN l.length)))), .slice (some ⟨g32, 0, none⟩) 1 1, .slice (some ⟨g34, 0, none⟩) 1 g34c, .slice ap l.length cp, .int .i64 ((splitN l.length : Nat) : Int), .slice (slA ap (splitN l.length) cp) (l.length - (splitN l.length)) (cp - (splitN l.length)), .int .i64 ((m : Nat) : Int), .int .i64 ((splitN l.length : Nat) : Int), .int .i64 ((m - (splitN l.length) : Nat) : Int)] : Array Value).getD q9 Z3), rfl, rfl, (M.pick [0] (by decide) rfl), Cg34, (by rw [List.length_drop]; omega), (fun s9 h9 => h32 s9 (List.mem_of_mem_drop h9)), (by omega), (by rw [List.length_drop]; omega), (step_go_right (Ps := []) (by omega) hx hi (List.append_nil _).symm), rfl, (by rw [List.length_drop]; omega), ((((M.notins Hp).drop (Nat.le_of_lt hsl)).eq (scells_drop2 _ _)).sub (show ∀ x ∈ [g34], x ∈ [g34, g32] from (by intro x hx; simp only [List.mem_cons, List.not_mem_nil, or_false] at hx ⊢; omega)))⟩
   rw [List.length_drop]; omega
  ·
   have hi : m ≤ splitN l.length := of_decide_eq_true hc27
   refine Z5 rfl ?_
   refine wp_region_treeN (by kernel_rfl) (fun w39 Sw39 => ?_)
   replace M := M.sees Sw39
   refine any_first 0 (v := (.slice none 0 0)) (by rfl) (by kernel_rfl) nopanic_not (by rfl) (by exact yl_move rfl rfl) ?_
   simp only [Z7,Z0]
   refine any_first 1 (v := .slice ap l.length cp) (by rfl) (by kernel_rfl) nopanic_not (by rfl) (by exact yl_move rfl rfl) ?_
   simp only [Z7,Z0]
   refine any_first 2 (v := .int .i64 ((splitN l.length : Nat) : Int)) (by rfl) (by kernel_rfl) nopanic_not (by rfl) (by exact yl_move rfl rfl) ?_
   simp only [Z7,Z0]
   refine any_first 3 (v := .slice (slA ap (splitN l.length) cp) (l.length - (splitN l.length)) (cp - (splitN l.length))) (by rfl) (by kernel_rfl) nopanic_not (by rfl) (by exact yl_slcL (lo := splitN l.length) rfl rfl rfl Tryd.underlying48 info9 (Nat.le_of_lt hsl)) ?_
   simp only [Z7,Z0]
   refine any_first 7 (v := .slice ap l.length cp) (by rfl) (by kernel_rfl) nopanic_not (by rfl) (by exact yl_move rfl rfl) ?_
   simp only [Z7,Z0]
   refine any_first 8 (v := .int .i64 ((splitN l.length : Nat) : Int)) (by rfl) (by kernel_rfl) nopanic_not (by rfl) (by exact yl_move rfl rfl) ?_
   simp only [Z7,Z0]
   refine any_first 9 (v := .slice ap (splitN l.length) cp) (by rfl) (by kernel_rfl) nopanic_not (by rfl) (by exact yl_slcH (hi := splitN l.length) rfl rfl rfl Tryd.underlying48 info9 (Nat.le_trans (Nat.le_of_lt hsl) (M.oldA Hp).cap)) ?_
   simp only [Z7,Z0]
   refine any_step [4] (by kernel_rfl) rfl (any_one ?_)
   refine any_opL 4 (by rfl) ?_
   simp only [Z1,Z2]
   refine Z11 1 (by rfl) (fun Lk hLk => ?_)
   simp only [Z1,Z2]
   refine Z20 (v := .string (bs (rootS (l.drop (splitN l.length))))) (args := #[.slice (slA ap (splitN l.length) cp) (l.length - (splitN l.length)) (cp - (splitN l.length))]) (by rfl) rfl Tryd.func78 (by kernel_rfl) (by kernel_rfl) rfl (fun W hW => by with_reducible exact proot_c (ps := l.drop (splitN l.length)) (right_of (fun s9 h9 => h32 s9 (List.mem_of_mem_drop h9)) (by rw [List.length_drop]; omega)) ((M.sees hW).oldL L0) ((M.sees hW).oldR R0_0 L0) ((((M.sees hW).oldA Hp).drop (Nat.le_of_lt hsl)).eq (scells_drop2 _ _))) ?_
   simp only [Z7,Z0]
   refine Z14 (hLk _ (fun w40 Sw40 => ?_))
   clear hLk Lk
   simp only [Z1,Z2]
   replace M := M.sees Sw40
   refine Z9 (Z17 ?_)
   refine any_step [5] (by kernel_rfl) rfl (any_one ?_)
   refine any_opL 5 (by rfl) ?_
   simp only [Z1,Z2]
   refine wpL_rowN (vs := [.string (bs (rootS (l.drop (splitN l.length))))]) (z := .string { data := #[] }) (bytes := 16) (by rfl) (by rfl) Tryd.underlying48 (by kernel_rfl) (by decide) (by kernel_rfl) (fun g41 w42 Sw42 Hg41 Bg41 => ?_)
   replace M := ((M.sees Sw42).add (N := 1) (cs := [.string (bs (rootS (l.drop (splitN l.length))))]) (M.ge Hg41) (M.fresh Hg41) Bg41 rfl)
   clear Bg41
   simp only [Z7,Z0]
   refine Z9 (Z17 ?_)
   refine any_step [6] (by kernel_rfl) rfl (any_one ?_)
   refine any_opL 6 (by rfl) ?_
   simp only [Z1,Z2]
   refine wpL_append0 (m := 1) (news := [.string (bs (rootS (l.drop (splitN l.length))))]) (z := .string { data := #[] }) (bytes := 16) (by rfl) (by rfl) (by rfl) (by rfl) Tryd.underlying48 (by kernel_rfl) rfl rfl (by decide) (M.r 0 0 rfl rfl) (by decide) (by decide) (fun g43 g43c w44 Sw44 Hg43 Cg43 R T L => ?_)
   replace M := (M.sees Sw44).addR (M.ge Hg43) (M.fresh Hg43) T R L
   clear T R L
   rw [show [.string (bs (rootS (l.drop (splitN l.length))))] = scells [rootS (l.drop (splitN l.length))] from rfl] at M
   simp only [Z7,Z0]
   refine Z9 (Z17 ?_)
   refine any_first 10 (v := .slice (some ⟨g43, 0, none⟩) 1 g43c) (by rfl) (by kernel_rfl) nopanic_not (by rfl) (by exact yl_assign rfl rfl) ?_
   simp only [Z7,Z0]
   refine any_first 11 (v := .slice ap (splitN l.length) cp) (by rfl) (by kernel_rfl) nopanic_not (by rfl) (by exact yl_assign rfl rfl) ?_
   simp only [Z7,Z0]
   refine any_end (by kernel_rfl) (Z10 ?_)
   refine Exists.intro _ ⟨?_, (l.take (splitN l.length)), m, true, 1, ([rootS (l.drop (splitN l.length))]), g43, g43c, ap, (splitN l.length), cp, (fun q9 => (#[Z3, Z3, Z3, Z3, Z3, Z3, Z3, Z3, Z3, .int .i64 ((splitN l.length : Nat) : Int), Z3, Z3, Z3, Z3, Z3, Z3, Z3, Z3, Z3, Z3, Z3, Z3, Z3, Z3, Z3, Z3, Z3, .int .i64 ((m : Nat) : Int), .slice ap l.length cp, .int .i64 ((l.length : Nat) : Int), .bool true, .slice ap l.length cp, .int .i64 ((l.length : Nat) : Int), .int .i64 ((splitN l.length : Nat) : Int), .int .i64 ((m : Nat) : Int), .int .i64 ((splitN l.length : Nat) : Int), .bool true, (.slice none 0 0), .slice ap l.length cp, .int .i64 ((splitN l.length : Nat) : Int), .slice (slA ap (splitN l.length) cp) (l.length - (splitN l.length)) (cp - (splitN l.length)), .string (bs (rootS (l.drop (splitN l.length)))), .slice (some ⟨g41, 0, none⟩) 1 1, .slice (some ⟨g43, 0, none⟩) 1 g43c, .slice ap l.length cp, .int .i64 ((splitN l.length : Nat) : Int), .slice ap (splitN l.length) cp, Z3, Z3, Z3, Z3, Z3, Z3, Z3, Z3, Z3, Z3, Z3, Z3, Z3] : Array Value).getD q9 Z3), rfl, rfl, (M.pick [0] (by decide) rfl), Cg43, (by rw [List.length_take]; omega), (fun s9 h9 => h32 s9 (List.mem_of_mem_take h9)), (by omega), (by rw [List.length_take]; omega), (step_go_left (Ps := []) (by omega) hx hi (List.append_nil _).symm), rfl, (by rw [List.length_take]; omega), ((((M.notins Hp).take (Nat.le_of_lt hsl)).eq (scells_take2 _ _)).sub (show ∀ x ∈ [g43], x ∈ [g43, g41] from (by intro x hx; simp only [List.mem_cons, List.not_mem_nil, or_false] at hx ⊢; omega)))⟩
   rw [List.length_take]; omega
 clear M
 obtain ⟨cur, j, wh, q, Ps, o, oc, ar, nr, cr, u16, rfl, rfl, M, Co, hc1, hc32, hj1, hj2, hP, hPl, hq, Hr⟩ := hI
 obtain ⟨w45, rfl⟩ : ∃ W8, W8 = W9 := ⟨_, rfl⟩
 have Mx46 := M
 replace R0_0 := (M.oldR R0_0 L0)
 have NI0 : 0 ∉ [o] := Mx46.oldNe L0 List.not_mem_nil
 replace L0 := Mx46.oldL L0
 replace Hp := Mx46.notins Hp
 simp only [List.map_cons, List.map_nil] at Hp
 replace M : Mem [o] w45 w45 [⟨o, oc, [(0, scells Ps)]⟩] := Mx46.again
 obtain rfl : nr = cur.length := by have h9 := Hr.row.len; rwa [scells_len] at h9
 have hcl : cur.length ≤ 4096 := by omega
 refine Z4 (fun K47 hK47 => ?_)
 refine Z4 (fun K48 hK48 => ?_)
 refine Z8 ?_
 refine Z12 (v := .int .i64 ((j : Nat) : Int)) (by rfl) (by rfl) (by rfl) ?_
 simp only [Z7,Z0]
 refine Z12 (v := .slice ar cur.length cr) (by rfl) (by rfl) (by rfl) ?_
 simp only [Z7,Z0]
 refine Z11 2 (by rfl) (fun Lk hLk => ?_)
 simp only [Z1,Z2]
 refine wpV_lenA (n := cur.length) (by rfl) rfl rfl rfl Tryd.underlying48 ?_
 simp only [Z7,Z0]
 refine Z15 (v := .bool (decide (j < cur.length))) (by rfl) rfl rfl rfl (fun W => run_lssN j cur.length _ _ W) ?_
 simp only [Z7,Z0]
 refine Z14 (hLk _ (fun w50 Sw50 => ?_))
 clear hLk Lk
 simp only [Z1,Z2]
 replace M := M.sees Sw50
 refine Z9 (Z10 ?_)
 refine hK48 _ _ ?_
 cases hc51 : (decide (j < cur.length))
 ·
  have hjc : ¬ j < cur.length := of_decide_eq_false hc51
  refine Z6 rfl ?_
  refine wp_exit ?_
  refine hK15 _ _ ?_
  refine Z4 (fun K52 hK52 => ?_)
  refine Z4 (fun K53 hK53 => ?_)
  refine Z8 ?_
  refine Z12 (v := .bool wh) (by rfl) (by rfl) (by rfl) ?_
  simp only [Z7,Z0]
  refine Z11 1 (by rfl) (fun Lk hLk => ?_)
  simp only [Z1,Z2]
  refine wpV_not (b := wh) (by rfl) rfl rfl ?_
  simp only [Z7,Z0]
  refine Z14 (hLk _ (fun w55 Sw55 => ?_))
  clear hLk Lk
  simp only [Z1,Z2]
  replace M := M.sees Sw55
  refine Z9 (Z10 ?_)
  refine hK53 _ _ ?_
  cases hc56 : (!wh)
  ·
   have ewh : wh = true := by simpa using hc56
   refine Z6 rfl ?_
   refine wp_skip ?_
   refine hK52 _ _ ?_
   refine Z4 (fun K57 hK57 => ?_)
   refine Z8 ?_
   refine Z12 (v := .slice (some ⟨o, 0, none⟩) q oc) (by rfl) (by rfl) (by rfl) ?_
   simp only [Z7,Z0]
   refine wpL_callM (f := 79) (args := #[.slice (some ⟨o, 0, none⟩) q oc]) (R := fun v9 W9 => v9 = .tuple #[] ∧ Mem [o] w55 W9 [⟨o, oc, [(0, scells Ps.reverse)]⟩]) (by rfl) (by rfl) rfl Tryd.func79 (by kernel_rfl) (by kernel_rfl) (by have h9 := rev_c (ps := Ps) (c := oc) (by omega) (by rw [hPl]; exact Co) (M.one 0 rfl); rw [hPl] at h9; exact h9) (fun v9 w59 h9 => ?_)
   obtain ⟨rfl, M9⟩ := h9
   replace M := M.callM1 0 rfl M9
   simp only [Z0] at M
   simp only [Z7,Z0]
   refine Z9 (Z10 ?_)
   refine hK57 _ _ ?_
   refine Z4 (fun K60 hK60 => ?_)
   refine Z8 ?_
   refine Z12 (v := .slice (some ⟨o, 0, none⟩) q oc) (by rfl) (by rfl) (by rfl) ?_
   simp only [Z7,Z0]
   refine Z13 (v := .slice (some ⟨o, 0, none⟩) q oc) (by rfl) (by rfl) (by rfl) ?_
   simp only [Z7,Z0]
   refine Z13 (v := .int .i64 0) (by rfl) (by rfl) (by rfl) ?_
   simp only [Z7,Z0]
   refine Z9 (Z10 ?_)
   refine hK60 _ _ ?_
   refine wp_ret ?_
   repeat (first | with_reducible refine then_ret ?_ | with_reducible refine inblock_ret ?_)
   replace M := Mx46.comp M
   refine bodyPost_ret (v := .tuple #[.slice (some ⟨o, 0, none⟩) q oc, .int .i64 0]) (res2 rfl (.tmp (by rfl)) (.tmp (by rfl))) rfl ?_
   have BE := M.below
   exact ⟨_, _, _, rfl, (RowA.of (M.r 0 0 rfl rfl) (M.lt 0 rfl) (by rw [scells_len, List.length_reverse, hPl]) Co).eq (congrArg scells ((stepS_end (cur := cur) (by omega) hP).1 ewh).symm), BE⟩
  ·
   have ewh : wh = false := by simpa using hc56
   refine Z5 rfl ?_
   refine Z8 ?_
   refine Z12 (v := .slice (some ⟨o, 0, none⟩) q oc) (by rfl) (by rfl) (by rfl) ?_
   simp only [Z7,Z0]
   refine Z12 (v := .slice ar cur.length cr) (by rfl) (by rfl) (by rfl) ?_
   simp only [Z7,Z0]
   refine Z11 1 (by rfl) (fun Lk hLk => ?_)
   simp only [Z1,Z2]
   refine Z20 (v := .string (bs (rootS cur))) (args := #[.slice ar cur.length cr]) (by rfl) rfl Tryd.func78 (by kernel_rfl) (by kernel_rfl) rfl (fun W hW => by with_reducible exact proot_c (ps := cur) (right_of hc32 hcl) ((M.sees hW).oldL L0) ((M.sees hW).oldG R0_0 L0 NI0) ((M.sees hW).oldN Hr)) ?_
   simp only [Z7,Z0]
   refine Z14 (hLk _ (fun w63 Sw63 => ?_))
   clear hLk Lk
   simp only [Z1,Z2]
   replace M := M.sees Sw63
   refine wpL_rowN (vs := [.string (bs (rootS cur))]) (z := .string { data := #[] }) (bytes := 16) (by rfl) (by rfl) Tryd.underlying48 (by kernel_rfl) (by decide) (by kernel_rfl) (fun g64 w65 Sw65 Hg64 Bg64 => ?_)
   replace M := ((M.sees Sw65).add (N := 1) (cs := [.string (bs (rootS cur))]) (M.ge Hg64) (M.fresh Hg64) Bg64 rfl)
   clear Bg64
   simp only [Z7,Z0]
   refine wpL_append (n := q) (m := 1) (olds := scells Ps) (news := [.string (bs (rootS cur))]) (z := .string { data := #[] }) (bytes := 16) (by rfl) (by rfl) (by rfl) (by rfl) Tryd.underlying48 (by kernel_rfl) rfl rfl (by rw [scells_len, hPl]) rfl (M.r 1 0 rfl rfl) (M.t 1 rfl) (M.lt 1 rfl) (M.r 0 0 rfl rfl) (by intro u hu; rw [List.mem_singleton.1 hu]; rfl) (by omega) (by simp only [maxLen]; omega) (fun g66 g66c w67 Sw67 Q Cg66 R T L => ?_)
   replace M := M.grow 1 rfl Sw67 Q R T L
   simp only [Z0] at M
   clear Q R T L
   rw [show scells Ps ++ [.string (bs (rootS cur))] = scells (Ps ++ [rootS cur]) from scells_app Ps [_]] at M
   simp only [Z7,Z0]
   refine Z13 (v := .slice (some ⟨g66, 0, none⟩) (q + 1) g66c) (by rfl) (by rfl) (by rfl) ?_
   simp only [Z7,Z0]
   refine Z9 (Z10 ?_)
   refine hK52 _ _ ?_
   refine Z4 (fun K68 hK68 => ?_)
   refine Z8 ?_
   refine Z12 (v := .slice (some ⟨g66, 0, none⟩) (q + 1) g66c) (by rfl) (by rfl) (by rfl) ?_
   simp only [Z7,Z0]
   refine wpL_callM (f := 79) (args := #[.slice (some ⟨g66, 0, none⟩) (q + 1) g66c]) (R := fun v9 W9 => v9 = .tuple #[] ∧ Mem [g66] w67 W9 [⟨g66, g66c, [(0, scells (Ps ++ [rootS cur]).reverse)]⟩]) (by rfl) (by rfl) rfl Tryd.func79 (by kernel_rfl) (by kernel_rfl) (by have h9 := rev_c (ps := Ps ++ [rootS cur]) (c := g66c) (by rw [(show (Ps ++ [rootS cur]).length = q + 1 by rw [List.length_append, hPl]; rfl)]; omega) (by rw [(show (Ps ++ [rootS cur]).length = q + 1 by rw [List.length_append, hPl]; rfl)]; exact Cg66) (M.one 1 rfl); rw [(show (Ps ++ [rootS cur]).length = q + 1 by rw [List.length_append, hPl]; rfl)] at h9; exact h9) (fun v9 w70 h9 => ?_)
   obtain ⟨rfl, M9⟩ := h9
   replace M := M.callM1 1 rfl M9
   simp only [Z0] at M
   simp only [Z7,Z0]
   refine Z9 (Z10 ?_)
   refine hK68 _ _ ?_
   refine Z4 (fun K71 hK71 => ?_)
   refine Z8 ?_
   refine Z12 (v := .slice (some ⟨g66, 0, none⟩) (q + 1) g66c) (by rfl) (by rfl) (by rfl) ?_
   simp only [Z7,Z0]
   refine Z13 (v := .slice (some ⟨g66, 0, none⟩) (q + 1) g66c) (by rfl) (by rfl) (by rfl) ?_
   simp only [Z7,Z0]
   refine Z13 (v := .int .i64 0) (by rfl) (by rfl) (by rfl) ?_
   simp only [Z7,Z0]
   refine Z9 (Z10 ?_)
   refine hK71 _ _ ?_
   refine wp_ret ?_
   repeat (first | with_reducible refine then_ret ?_ | with_reducible refine inblock_ret ?_)
   replace M := Mx46.comp M
   refine bodyPost_ret (v := .tuple #[.slice (some ⟨g66, 0, none⟩) (q + 1) g66c, .int .i64 0]) (res2 rfl (.tmp (by rfl)) (.tmp (by rfl))) rfl ?_
   have BE := M.below
   exact ⟨_, _, _, rfl, (RowA.of (M.r 1 0 rfl rfl) (M.lt 1 rfl) (by rw [scells_len, List.length_reverse, (show (Ps ++ [rootS cur]).length = q + 1 by rw [List.length_append, hPl]; rfl)]) Cg66).eq (congrArg scells ((stepS_end (cur := cur) (by omega) hP).2 ewh).symm), BE⟩
 ·
  have hjc : j < cur.length := of_decide_eq_true hc51
  have hsl := splitN_lt (n := cur.length) (by omega)
  have hsp := splitN_pos cur.length
  refine Z5 rfl ?_
  refine wp_skip ?_
  refine hK47 _ _ ?_
  refine wp_block ?_
  refine Z4 (fun K73 hK73 => ?_)
  refine Z8 ?_
  refine Z12 (v := .slice ar cur.length cr) (by rfl) (by rfl) (by rfl) ?_
  simp only [Z7,Z0]
  refine Z11 2 (by rfl) (fun Lk hLk => ?_)
  simp only [Z1,Z2]
  refine wpV_lenA (n := cur.length) (by rfl) rfl rfl rfl Tryd.underlying48 ?_
  simp only [Z7,Z0]
  refine Z20 (v := .int .i64 ((splitN cur.length : Nat) : Int)) (args := #[.int .i64 ((cur.length : Nat) : Int)]) (by rfl) rfl Tryd.func77 (by kernel_rfl) (by kernel_rfl) rfl (fun W hW => psplit_c (n := cur.length) (by omega) (by omega)) ?_
  simp only [Z7,Z0]
  refine Z14 (hLk _ (fun w75 Sw75 => ?_))
  clear hLk Lk
  simp only [Z1,Z2]
  replace M := M.sees Sw75
  refine Z13 (v := .int .i64 ((splitN cur.length : Nat) : Int)) (by rfl) (by rfl) (by rfl) ?_
  simp only [Z7,Z0]
  refine Z9 (Z10 ?_)
  refine hK73 _ _ ?_
  refine Z4 (fun K76 hK76 => ?_)
  refine Z8 ?_
  refine Z12 (v := .int .i64 ((j : Nat) : Int)) (by rfl) (by rfl) (by rfl) ?_
  simp only [Z7,Z0]
  refine Z12 (v := .int .i64 ((splitN cur.length : Nat) : Int)) (by rfl) (by rfl) (by rfl) ?_
  simp only [Z7,Z0]
  refine Z11 1 (by rfl) (fun Lk hLk => ?_)
  simp only [Z1,Z2]
  refine Z15 (v := .bool (decide (j ≤ splitN cur.length))) (by rfl) rfl rfl rfl (fun W => run_leqN j (splitN cur.length) _ _ W) ?_
  simp only [Z7,Z0]
  refine Z14 (hLk _ (fun w78 Sw78 => ?_))
  clear hLk Lk
  simp only [Z1,Z2]
  replace M := M.sees Sw78
  refine Z9 (Z10 ?_)
  refine hK76 _ _ ?_
  cases hc79 : (decide (j ≤ splitN cur.length))
  ·
   have hi : ¬ j ≤ splitN cur.length := of_decide_eq_false hc79
   refine Z6 rfl ?_
   refine Z4 (fun K80 hK80 => ?_)
   refine wp_region_treeN (by kernel_rfl) (fun w82 Sw82 => ?_)
   replace M := M.sees Sw82
   refine any_first 0 (v := .slice (some ⟨o, 0, none⟩) q oc) (by rfl) (by kernel_rfl) nopanic_not (by rfl) (by exact yl_move rfl rfl) ?_
   simp only [Z7,Z0]
   refine any_first 1 (v := .slice ar cur.length cr) (by rfl) (by kernel_rfl) nopanic_not (by rfl) (by exact yl_move rfl rfl) ?_
   simp only [Z7,Z0]
   refine any_first 2 (v := .int .i64 ((splitN cur.length : Nat) : Int)) (by rfl) (by kernel_rfl) nopanic_not (by rfl) (by exact yl_move rfl rfl) ?_
   simp only [Z7,Z0]
   refine any_first 3 (v := .slice ar (splitN cur.length) cr) (by rfl) (by kernel_rfl) nopanic_not (by rfl) (by exact yl_slcH (hi := splitN cur.length) rfl rfl rfl Tryd.underlying48 info9 (Nat.le_trans (Nat.le_of_lt hsl) (M.oldN Hr).cap)) ?_
   simp only [Z7,Z0]
   refine any_first 7 (v := .slice ar cur.length cr) (by rfl) (by kernel_rfl) nopanic_not (by rfl) (by exact yl_move rfl rfl) ?_
   simp only [Z7,Z0]
   refine any_first 8 (v := .int .i64 ((splitN cur.length : Nat) : Int)) (by rfl) (by kernel_rfl) nopanic_not (by rfl) (by exact yl_move rfl rfl) ?_
   simp only [Z7,Z0]
   refine any_first 9 (v := .slice (slA ar (splitN cur.length) cr) (cur.length - (splitN cur.length)) (cr - (splitN cur.length))) (by rfl) (by kernel_rfl) nopanic_not (by rfl) (by exact yl_slcL (lo := splitN cur.length) rfl rfl rfl Tryd.underlying48 info9 (Nat.le_of_lt hsl)) ?_
   simp only [Z7,Z0]
   refine any_step [4] (by kernel_rfl) rfl (any_one ?_)
   refine any_opL 4 (by rfl) ?_
   simp only [Z1,Z2]
   refine Z11 1 (by rfl) (fun Lk hLk => ?_)
   simp only [Z1,Z2]
   refine Z20 (v := .string (bs (rootS (cur.take (splitN cur.length))))) (args := #[.slice ar (splitN cur.length) cr]) (by rfl) rfl Tryd.func78 (by kernel_rfl) (by kernel_rfl) rfl (fun W hW => by with_reducible exact proot_c (ps := cur.take (splitN cur.length)) (right_of (fun s9 h9 => hc32 s9 (List.mem_of_mem_take h9)) (by rw [List.length_take]; omega)) ((M.sees hW).oldL L0) ((M.sees hW).oldG R0_0 L0 NI0) ((((M.sees hW).oldN Hr).take (Nat.le_of_lt hsl)).eq (scells_take2 _ _))) ?_
   simp only [Z7,Z0]
   refine Z14 (hLk _ (fun w83 Sw83 => ?_))
   clear hLk Lk
   simp only [Z1,Z2]
   replace M := M.sees Sw83
   refine Z9 (Z17 ?_)
   refine any_step [5] (by kernel_rfl) rfl (any_one ?_)
   refine any_opL 5 (by rfl) ?_
   simp only [Z1,Z2]
   refine wpL_rowN (vs := [.string (bs (rootS (cur.take (splitN cur.length))))]) (z := .string { data := #[] }) (bytes := 16) (by rfl) (by rfl) Tryd.underlying48 (by kernel_rfl) (by decide) (by kernel_rfl) (fun g84 w85 Sw85 Hg84 Bg84 => ?_)
   replace M := ((M.sees Sw85).add (N := 1) (cs := [.string (bs (rootS (cur.take (splitN cur.length))))]) (M.ge Hg84) (M.fresh Hg84) Bg84 rfl)
   clear Bg84
   simp only [Z7,Z0]
   refine Z9 (Z17 ?_)
   refine any_step [6] (by kernel_rfl) rfl (any_one ?_)
   refine any_opL 6 (by rfl) ?_
   simp only [Z1,Z2]
   refine wpL_append (n := q) (m := 1) (olds := scells Ps) (news := [.string (bs (rootS (cur.take (splitN cur.length))))]) (z := .string { data := #[] }) (bytes := 16) (by rfl) (by rfl) (by rfl) (by rfl) Tryd.underlying48 (by kernel_rfl) rfl rfl (by rw [scells_len, hPl]) rfl (M.r 1 0 rfl rfl) (M.t 1 rfl) (M.lt 1 rfl) (M.r 0 0 rfl rfl) (by intro u hu; rw [List.mem_singleton.1 hu]; rfl) (by omega) (by simp only [maxLen]; omega) (fun g86 g86c w87 Sw87 Q Cg86 R T L => ?_)
   replace M := M.grow 1 rfl Sw87 Q R T L
   simp only [Z0] at M
   clear Q R T L
   rw [show scells Ps ++ [.string (bs (rootS (cur.take (splitN cur.length))))] = scells (Ps ++ [rootS (cur.take (splitN cur.length))]) from scells_app Ps [_]] at M
   simp only [Z7,Z0]
   refine Z9 (Z17 ?_)
   refine any_first 10 (v := .slice (some ⟨g86, 0, none⟩) (q + 1) g86c) (by rfl) (by kernel_rfl) nopanic_not (by rfl) (by exact yl_assign rfl rfl) ?_
   simp only [Z7,Z0]
   refine any_first 11 (v := .slice (slA ar (splitN cur.length) cr) (cur.length - (splitN cur.length)) (cr - (splitN cur.length))) (by rfl) (by kernel_rfl) nopanic_not (by rfl) (by exact yl_assign rfl rfl) ?_
   simp only [Z7,Z0]
   refine any_end (by kernel_rfl) (Z10 ?_)
   refine hK80 _ _ ?_
   refine Z8 ?_
   refine Z12 (v := .int .i64 ((j : Nat) : Int)) (by rfl) (by rfl) (by rfl) ?_
   simp only [Z7,Z0]
   refine Z12 (v := .int .i64 ((splitN cur.length : Nat) : Int)) (by rfl) (by rfl) (by rfl) ?_
   simp only [Z7,Z0]
   refine Z11 1 (by rfl) (fun Lk hLk => ?_)
   simp only [Z1,Z2]
   refine Z15 (v := .int .i64 ((j - (splitN cur.length) : Nat) : Int)) (by rfl) rfl rfl rfl (fun W => run_sub (by simp only [IntKind.wrap_i64]; omega) W) ?_
   simp only [Z7,Z0]
   refine Z14 (hLk _ (fun w89 Sw89 => ?_))
   clear hLk Lk
   simp only [Z1,Z2]
   replace M := M.sees Sw89
   refine Z13 (v := .int .i64 ((j - (splitN cur.length) : Nat) : Int)) (by rfl) (by rfl) (by rfl) ?_
   simp only [Z7,Z0]
   refine Z13 (v := .bool false) (by rfl) (by rfl) (by rfl) ?_
   simp only [Z7,Z0]
   refine Z9 (Z10 ?_)
   have HX90 := ((((M.notinsG Hr).drop (Nat.le_of_lt hsl)).eq (scells_drop2 _ _)).sub (show ∀ x ∈ [g86], x ∈ [g84, g86] from (by intro x hx; simp only [List.mem_cons, List.not_mem_nil, or_false] at hx ⊢; omega)))
   replace M := Mx46.comp M
   refine Exists.intro _ ⟨?_, (cur.drop (splitN cur.length)), (j - (splitN cur.length)), false, (q + 1), (Ps ++ [rootS (cur.take (splitN cur.length))]), g86, g86c, (slA ar (splitN cur.length) cr), (cur.length - (splitN cur.length)), (cr - (splitN cur.length)), (fun q9 => (#[Z3, Z3, Z3, Z3, Z3, Z3, Z3, Z3, Z3, .int .i64 ((splitN cur.length : Nat) : Int), Z3, Z3, Z3, Z3, Z3, Z3, Z3, Z3, Z3, Z3, Z3, Z3, Z3, Z3, Z3, Z3, Z3, .int .i64 ((j : Nat) : Int), .slice ar cur.length cr, .int .i64 ((cur.length : Nat) : Int), .bool true, .slice ar cur.length cr, .int .i64 ((cur.length : Nat) : Int), .int .i64 ((splitN cur.length : Nat) : Int), .int .i64 ((j : Nat) : Int), .int .i64 ((splitN cur.length : Nat) : Int), .bool false, u16 37, u16 38, u16 39, u16 40, u16 41, u16 42, u16 43, u16 44, u16 45, u16 46, .slice (some ⟨o, 0, none⟩) q oc, .slice ar cur.length cr, .int .i64 ((splitN cur.length : Nat) : Int), .slice ar (splitN cur.length) cr, .string (bs (rootS (cur.take (splitN cur.length)))), .slice (some ⟨g84, 0, none⟩) 1 1, .slice (some ⟨g86, 0, none⟩) (q + 1) g86c, .slice ar cur.length cr, .int .i64 ((splitN cur.length : Nat) : Int), .slice (slA ar (splitN cur.length) cr) (cur.length - (splitN cur.length)) (cr - (splitN cur.length)), .int .i64 ((j : Nat) : Int), .int .i64 ((splitN cur.length : Nat) : Int), .int .i64 ((j - (splitN cur.length) : Nat) : Int)] : Array Value).getD q9 Z3), rfl, rfl, (M.pick [1] (by decide) rfl), Cg86, (by rw [List.length_drop]; omega), (fun s9 h9 => hc32 s9 (List.mem_of_mem_drop h9)), (by omega), (by rw [List.length_drop]; omega), (step_go_right (by omega) hjc hi hP), (by rw [List.length_append, hPl]; rfl), (by rw [List.length_drop]; omega), HX90⟩
   rw [List.length_drop]; omega
  ·
   have hi : j ≤ splitN cur.length := of_decide_eq_true hc79
   refine Z5 rfl ?_
   refine wp_region_treeN (by kernel_rfl) (fun w92 Sw92 => ?_)
   replace M := M.sees Sw92
   refine any_first 0 (v := .slice (some ⟨o, 0, none⟩) q oc) (by rfl) (by kernel_rfl) nopanic_not (by rfl) (by exact yl_move rfl rfl) ?_
   simp only [Z7,Z0]
   refine any_first 1 (v := .slice ar cur.length cr) (by rfl) (by kernel_rfl) nopanic_not (by rfl) (by exact yl_move rfl rfl) ?_
   simp only [Z7,Z0]
   refine any_first 2 (v := .int .i64 ((splitN cur.length : Nat) : Int)) (by rfl) (by kernel_rfl) nopanic_not (by rfl) (by exact yl_move rfl rfl) ?_
   simp only [Z7,Z0]
   refine any_first 3 (v := .slice (slA ar (splitN cur.length) cr) (cur.length - (splitN cur.length)) (cr - (splitN cur.length))) (by rfl) (by kernel_rfl) nopanic_not (by rfl) (by exact yl_slcL (lo := splitN cur.length) rfl rfl rfl Tryd.underlying48 info9 (Nat.le_of_lt hsl)) ?_
   simp only [Z7,Z0]
   refine any_first 7 (v := .slice ar cur.length cr) (by rfl) (by kernel_rfl) nopanic_not (by rfl) (by exact yl_move rfl rfl) ?_
   simp only [Z7,Z0]
   refine any_first 8 (v := .int .i64 ((splitN cur.length : Nat) : Int)) (by rfl) (by kernel_rfl) nopanic_not (by rfl) (by exact yl_move rfl rfl) ?_
   simp only [Z7,Z0]
   refine any_first 9 (v := .slice ar (splitN cur.length) cr) (by rfl) (by kernel_rfl) nopanic_not (by rfl) (by exact yl_slcH (hi := splitN cur.length) rfl rfl rfl Tryd.underlying48 info9 (Nat.le_trans (Nat.le_of_lt hsl) (M.oldN Hr).cap)) ?_
   simp only [Z7,Z0]
   refine any_step [4] (by kernel_rfl) rfl (any_one ?_)
   refine any_opL 4 (by rfl) ?_
   simp only [Z1,Z2]
   refine Z11 1 (by rfl) (fun Lk hLk => ?_)
   simp only [Z1,Z2]
   refine Z20 (v := .string (bs (rootS (cur.drop (splitN cur.length))))) (args := #[.slice (slA ar (splitN cur.length) cr) (cur.length - (splitN cur.length)) (cr - (splitN cur.length))]) (by rfl) rfl Tryd.func78 (by kernel_rfl) (by kernel_rfl) rfl (fun W hW => by with_reducible exact proot_c (ps := cur.drop (splitN cur.length)) (right_of (fun s9 h9 => hc32 s9 (List.mem_of_mem_drop h9)) (by rw [List.length_drop]; omega)) ((M.sees hW).oldL L0) ((M.sees hW).oldG R0_0 L0 NI0) ((((M.sees hW).oldN Hr).drop (Nat.le_of_lt hsl)).eq (scells_drop2 _ _))) ?_
   simp only [Z7,Z0]
   refine Z14 (hLk _ (fun w93 Sw93 => ?_))
   clear hLk Lk
   simp only [Z1,Z2]
   replace M := M.sees Sw93
   refine Z9 (Z17 ?_)
   refine any_step [5] (by kernel_rfl) rfl (any_one ?_)
   refine any_opL 5 (by rfl) ?_
   simp only [Z1,Z2]
   refine wpL_rowN (vs := [.string (bs (rootS (cur.drop (splitN cur.length))))]) (z := .string { data := #[] }) (bytes := 16) (by rfl) (by rfl) Tryd.underlying48 (by kernel_rfl) (by decide) (by kernel_rfl) (fun g94 w95 Sw95 Hg94 Bg94 => ?_)
   replace M := ((M.sees Sw95).add (N := 1) (cs := [.string (bs (rootS (cur.drop (splitN cur.length))))]) (M.ge Hg94) (M.fresh Hg94) Bg94 rfl)
   clear Bg94
   simp only [Z7,Z0]
   refine Z9 (Z17 ?_)
   refine any_step [6] (by kernel_rfl) rfl (any_one ?_)
   refine any_opL 6 (by rfl) ?_
   simp only [Z1,Z2]
   refine wpL_append (n := q) (m := 1) (olds := scells Ps) (news := [.string (bs (rootS (cur.drop (splitN cur.length))))]) (z := .string { data := #[] }) (bytes := 16) (by rfl) (by rfl) (by rfl) (by rfl) Tryd.underlying48 (by kernel_rfl) rfl rfl (by rw [scells_len, hPl]) rfl (M.r 1 0 rfl rfl) (M.t 1 rfl) (M.lt 1 rfl) (M.r 0 0 rfl rfl) (by intro u hu; rw [List.mem_singleton.1 hu]; rfl) (by omega) (by simp only [maxLen]; omega) (fun g96 g96c w97 Sw97 Q Cg96 R T L => ?_)
   replace M := M.grow 1 rfl Sw97 Q R T L
   simp only [Z0] at M
   clear Q R T L
   rw [show scells Ps ++ [.string (bs (rootS (cur.drop (splitN cur.length))))] = scells (Ps ++ [rootS (cur.drop (splitN cur.length))]) from scells_app Ps [_]] at M
   simp only [Z7,Z0]
   refine Z9 (Z17 ?_)
   refine any_first 10 (v := .slice (some ⟨g96, 0, none⟩) (q + 1) g96c) (by rfl) (by kernel_rfl) nopanic_not (by rfl) (by exact yl_assign rfl rfl) ?_
   simp only [Z7,Z0]
   refine any_first 11 (v := .slice ar (splitN cur.length) cr) (by rfl) (by kernel_rfl) nopanic_not (by rfl) (by exact yl_assign rfl rfl) ?_
   simp only [Z7,Z0]
   refine any_end (by kernel_rfl) (Z10 ?_)
   have HX98 := ((((M.notinsG Hr).take (Nat.le_of_lt hsl)).eq (scells_take2 _ _)).sub (show ∀ x ∈ [g96], x ∈ [g94, g96] from (by intro x hx; simp only [List.mem_cons, List.not_mem_nil, or_false] at hx ⊢; omega)))
   replace M := Mx46.comp M
   refine Exists.intro _ ⟨?_, (cur.take (splitN cur.length)), j, wh, (q + 1), (Ps ++ [rootS (cur.drop (splitN cur.length))]), g96, g96c, ar, (splitN cur.length), cr, (fun q9 => (#[Z3, Z3, Z3, Z3, Z3, Z3, Z3, Z3, Z3, .int .i64 ((splitN cur.length : Nat) : Int), Z3, Z3, Z3, Z3, Z3, Z3, Z3, Z3, Z3, Z3, Z3, Z3, Z3, Z3, Z3, Z3, Z3, .int .i64 ((j : Nat) : Int), .slice ar cur.length cr, .int .i64 ((cur.length : Nat) : Int), .bool true, .slice ar cur.length cr, .int .i64 ((cur.length : Nat) : Int), .int .i64 ((splitN cur.length : Nat) : Int), .int .i64 ((j : Nat) : Int), .int .i64 ((splitN cur.length : Nat) : Int), .bool true, .slice (some ⟨o, 0, none⟩) q oc, .slice ar cur.length cr, .int .i64 ((splitN cur.length : Nat) : Int), .slice (slA ar (splitN cur.length) cr) (cur.length - (splitN cur.length)) (cr - (splitN cur.length)), .string (bs (rootS (cur.drop (splitN cur.length)))), .slice (some ⟨g94, 0, none⟩) 1 1, .slice (some ⟨g96, 0, none⟩) (q + 1) g96c, .slice ar cur.length cr, .int .i64 ((splitN cur.length : Nat) : Int), .slice ar (splitN cur.length) cr, u16 47, u16 48, u16 49, u16 50, u16 51, u16 52, u16 53, u16 54, u16 55, u16 56, u16 57, u16 58, u16 59] : Array Value).getD q9 Z3), rfl, rfl, (M.pick [1] (by decide) rfl), Cg96, (by rw [List.length_take]; omega), (fun s9 h9 => hc32 s9 (List.mem_of_mem_take h9)), (by omega), (by rw [List.length_take]; omega), (step_go_left (by omega) hjc hi hP), (by rw [List.length_append, hPl]; rfl), (by rw [List.length_take]; omega), HX98⟩
   rw [List.length_take]; omega
end Go.Proofs.Yb

namespace Go.Proofs.Yb
open Go Go.RowKit Go.Proofs.Num
open List renaming set → Z0, take → Z1, drop → Z2
open Go renaming undef → Z3, wp_seq_k → Z4, wp_cond_true → Z5, wp_cond_false → Z6
open Go.Proofs.Num renaming putT → Z7, wp_region_seq → Z8, wpL_nil → Z9, no_panic → Z10, wpL_chunk → Z11, wpL_move → Z12, wpL_assign → Z13, wpV_nil → Z14, wpV_bin → Z15, wpV_move → Z16, then_normal → Z17, wpL_store1 → Z18, wpV_val → Z19, wpV_callf → Z20
attribute [local irreducible] wpV wpN wpList
/-- The leaves' sums of the first of some texts. -/
def lvD (m : Nat) (ds : List (List UInt8)) (k : Nat) : List (List UInt8) := (ds.take k).map fun s => leafS (cut s m)
theorem lvD_len {m : Nat} {ds : List (List UInt8)} {k : Nat} (h : k ≤ ds.length) : (lvD m ds k).length = k := by
 unfold lvD
 rw [List.length_map, List.length_take]; omega
theorem lvD_32 (m : Nat) (ds : List (List UInt8)) (k : Nat) : ∀ s ∈ lvD m ds k, s.length = 32 := fun s h => by
 obtain ⟨x, _, rfl⟩ := List.mem_map.1 h
 exact leafS_len _
theorem lvD_step {m : Nat} {ds : List (List UInt8)} {k : Nat} (h : k < ds.length) : lvD m ds k ++ [leafS (cut (ds.getD k []) m)] = lvD m ds (k + 1) := by
 unfold lvD
 rw [List.take_add_one, List.getD_eq_getElem?_getD, List.getElem?_eq_getElem h, List.map_append]
 rfl
theorem leaf32_2 {a b : List UInt8} : ∀ s ∈ [leafS a, leafS b], s.length = 32 := fun s h => by
 rcases List.mem_cons.1 h with e | e
 ·
  rw [e]; exact leafS_len _
 ·
  rw [List.mem_singleton.1 e]; exact leafS_len _
end Go.Proofs.Yb

namespace Go.Proofs.Yb
open Go Go.RowKit Go.Proofs.Num
open List renaming set → Z0, take → Z1, drop → Z2
open Go renaming undef → Z3, wp_seq_k → Z4, wp_cond_true → Z5, wp_cond_false → Z6
open Go.Proofs.Num renaming putT → Z7, wp_region_seq → Z8, wpL_nil → Z9, no_panic → Z10, wpL_chunk → Z11, wpL_move → Z12, wpL_assign → Z13, wpV_nil → Z14, wpV_bin → Z15, wpV_move → Z16, then_normal → Z17, wpL_store1 → Z18, wpV_val → Z19, wpV_callf → Z20
theorem gs_step {ds : List (List UInt8)} {j k m : Nat} (e : j = k) (hk : k < ds.length) : scells (lvD m ds j) ++ [.string (bs (leafS (cut (ds.getD k []) m)))] = scells (lvD m ds (j + 1)) := by
 subst e
 rw [← lvD_step hk]
 exact scells_app _ [_]
theorem gs_step0 {ds : List (List UInt8)} {m : Nat} (hk : 0 < ds.length) : [.string (bs (leafS (cut (ds.getD 0 []) m)))] = scells (lvD m ds 1) := gs_step (k := 0) rfl hk
end Go.Proofs.Yb

namespace Go.Proofs.Yb
open Go Go.RowKit Go.Proofs.Num
open List renaming set → Z0, take → Z1, drop → Z2
open Go renaming undef → Z3, wp_seq_k → Z4, wp_cond_true → Z5, wp_cond_false → Z6
open Go.Proofs.Num renaming putT → Z7, wp_region_seq → Z8, wpL_nil → Z9, no_panic → Z10, wpL_chunk → Z11, wpL_move → Z12, wpL_assign → Z13, wpV_nil → Z14, wpV_bin → Z15, wpV_move → Z16, then_normal → Z17, wpL_store1 → Z18, wpV_val → Z19, wpV_callf → Z20
attribute [local irreducible] wpV wpN wpList
theorem sums_nil {ds : List (List UInt8)} (h : ¬ 0 < ds.length) : lvD 50 ds (min ds.length 50) = [] := by
 rw [List.length_eq_zero_iff.1 (Nat.eq_zero_of_not_pos h)]
 rfl
theorem Path_n {l : List (List UInt8)} {ap : Option Addr} {np cp : Nat} {i0 : Nat} {w : World} (hok : rightB l = true) (hx : i0 < l.length) (L0 : 0 < w.heap.size) (R0_0 : w.rangeAt 0 0 kcells) (Hp : RowA w ap np cp (scells l)) :
  Calls Tryd.prog 47 #[.slice ap np cp, .int .i64 ((i0 : Nat) : Int)] w fun e w' => ∃ v, e = .returned v ∧ (∃ a c, v = .tuple #[.slice a (pathS l i0).length c, .int .i64 0] ∧ RowA w' a (pathS l i0).length c (scells (pathS l i0))) ∧ Below w.heap.size w w' :=
 (Path_go hok hx L0 R0_0 Hp).mono fun e w' ⟨a, n, c, he, hR, hb⟩ => by
  have hn := hR.len
  rw [scells_len] at hn
  subst hn
  exact ⟨_, he, ⟨a, c, rfl, hR⟩, hb⟩
theorem Step_n {l : List (List UInt8)} {ap : Option Addr} {np cp : Nat} {m : Nat} {w : World} (hok : rightB l = true) (hm1 : 1 ≤ m) (hx : m < l.length) (L0 : 0 < w.heap.size) (R0_0 : w.rangeAt 0 0 kcells) (Hp : RowA w ap np cp (scells l)) :
  Calls Tryd.prog 48 #[.slice ap np cp, .int .i64 ((m : Nat) : Int)] w fun e w' => ∃ v, e = .returned v ∧ (∃ a c, v = .tuple #[.slice a (stepS l m true).length c, .int .i64 0] ∧ RowA w' a (stepS l m true).length c (scells (stepS l m true))) ∧ Below w.heap.size w w' :=
 (Step_go hok hm1 hx L0 R0_0 Hp).mono fun e w' ⟨a, n, c, he, hR, hb⟩ => by
  have hn := hR.len
  rw [scells_len] at hn
  subst hn
  exact ⟨_, he, ⟨a, c, rfl, hR⟩, hb⟩
theorem path_ab (a b : List UInt8) : pathS [a, b] 1 = [a] := by
 have e : splitN 2 = 1 := by decide
 rw [pathS_right (by simp) (by show ¬ 1 < splitN 2; rw [e]; decide)]
 show pathS (Z2 (splitN 2) [a, b]) (1 - splitN 2) ++ [rootS (Z1 (splitN 2) [a, b])] = [a]
 rw [e]
 show pathS [b] 0 ++ [rootS [a]] = [a]
 rw [pathS_one (by simp), rootS_1 rfl]
 rfl
theorem modN (x : Int) {n : Nat} (h : 0 < n) : (-(n : Int) < x.tmod n ∧ x.tmod n < (n : Int)) ∧ ∃ i : Nat, (x.tmod n + n).tmod n = (i : Int) ∧ i < n := by
 have h1 : x.tmod n < (n : Int) := Int.tmod_lt_of_pos x (by omega)
 have h2 : -(n : Int) < x.tmod n := by
  have := Int.lt_tmod_of_pos x (show (0 : Int) < n by omega)
  omega
 refine ⟨⟨h2, h1⟩, ((x.tmod n + n).tmod n).toNat, ?_, ?_⟩
 ·
  have h3 : 0 ≤ (x.tmod n + n).tmod n := Int.tmod_nonneg _ (by omega)
  omega
 ·
  have h3 : 0 ≤ (x.tmod n + n).tmod n := Int.tmod_nonneg _ (by omega)
  have h4 := Int.tmod_lt_of_pos (x.tmod n + n) (show (0 : Int) < n by omega)
  omega
theorem leaf_ne (a : List UInt8) : leafS a ≠ [] := fun e => by
 have := leafS_len a
 rw [e] at this
 cases this
set_option maxHeartbeats 2000000 in
theorem sums09_c {ds : List (List UInt8)} {ap : Option Addr} {np cp : Nat} {w : World} (hds : ds.length ≤ 9223372036854775807) (L0 : 0 < w.heap.size) (R0_0 : w.rangeAt 0 0 kcells) (Hp : RowA w ap np cp (scells ds)) :
  Calls Tryd.prog 53 #[.slice ap np cp] w fun e w' => ∃ v, e = .returned v ∧ (∃ a c, v = .slice a (lvD 50 ds (min ds.length 50)).length c ∧ RowA w' a (lvD 50 ds (min ds.length 50)).length c (scells (lvD 50 ds (min ds.length 50)))) ∧ Below w.heap.size w w' := by
 obtain rfl : np = ds.length := by have := Hp.len; rwa [scells_len] at this
 go_enter Tryd.func53, Tryd.ntmps53
 have M := Mem.start w
 refine Z4 (fun K1 hK1 => ?_)
 refine Z8 ?_
 refine Z13 (v := (.slice none 0 0)) (by rfl) (by rfl) (by rfl) ?_
 simp only [Z7,Z0]
 refine Z9 (Z10 ?_)
 refine hK1 _ _ ?_
 refine Z4 (fun K3 hK3 => ?_)
 refine Z8 ?_
 refine Z13 (v := (.slice none 0 0)) (by rfl) (by rfl) (by rfl) ?_
 simp only [Z7,Z0]
 refine Z9 (Z10 ?_)
 refine hK3 _ _ ?_
 refine Z4 (fun K5 hK5 => ?_)
 refine Z4 (fun K6 hK6 => ?_)
 refine Z8 ?_
 refine Z12 (v := .slice ap ds.length cp) (by rfl) (by rfl) (by rfl) ?_
 simp only [Z7,Z0]
 refine Z11 1 (by rfl) (fun Lk hLk => ?_)
 simp only [Z1,Z2]
 refine wpV_lenA (n := ds.length) (by rfl) rfl rfl rfl Tryd.underlying48 ?_
 simp only [Z7,Z0]
 refine Z14 (hLk _ (fun w8 Sw8 => ?_))
 clear hLk Lk
 simp only [Z1,Z2]
 replace M := M.sees Sw8
 refine Z12 (v := .int .i64 0) (by rfl) (by rfl) (by rfl) ?_
 simp only [Z7,Z0]
 refine Z9 (Z10 ?_)
 refine hK6 _ _ ?_
 refine wp_block ?_
 refine wp_loop_peel (fun n9 a9 W9 => ∃ (k : Nat) (j : Nat) (r : Nat) (rc : Nat) (u9 : Nat → Value), n9 = 2 * (ds.length - k) ∧ a9 = { tmps := #[.slice ap ds.length cp, Z3, (.slice none 0 0), .slice (some ⟨r, 0, none⟩) j rc, u9 4, u9 5, .slice ap ds.length cp, .int .i64 ((ds.length : Nat) : Int), .int .i64 ((k : Nat) : Int), u9 9, u9 10, u9 11, u9 12, u9 13, u9 14, u9 15, u9 16, u9 17, u9 18, u9 19, u9 20, u9 21, u9 22, u9 23, u9 24, Z3], defers := [] } ∧ Mem [] w W9 [⟨r, rc, [(0, scells (lvD 50 ds j))]⟩] ∧ j ≤ rc ∧ (1 ≤ k) ∧ (k ≤ ds.length) ∧ (j = min k 50)) (2 * (ds.length - (1)) + 1) ?_ (fun n9 a9 W9 hI => ?_)
 ·
  refine Z4 (fun K10 hK10 => ?_)
  refine Z8 ?_
  refine Z11 1 (by rfl) (fun Lk hLk => ?_)
  simp only [Z1,Z2]
  refine Z15 (v := .bool (decide (0 < ds.length))) (by rfl) rfl rfl rfl (fun W => run_lssN 0 ds.length _ _ W) ?_
  simp only [Z7,Z0]
  refine Z14 (hLk _ (fun w12 Sw12 => ?_))
  clear hLk Lk
  simp only [Z1,Z2]
  replace M := M.sees Sw12
  refine Z9 (Z10 ?_)
  refine hK10 _ _ ?_
  refine Z4 (fun K13 hK13 => ?_)
  cases hc14 : (decide (0 < ds.length))
  ·
   have h0d : ¬ 0 < ds.length := of_decide_eq_false hc14
   refine Z6 rfl ?_
   refine wp_exit ?_
   refine hK5 _ _ ?_
   refine Z4 (fun K15 hK15 => ?_)
   refine Z8 ?_
   refine Z12 (v := (.slice none 0 0)) (by rfl) (by rfl) (by rfl) ?_
   simp only [Z7,Z0]
   refine Z13 (v := (.slice none 0 0)) (by rfl) (by rfl) (by rfl) ?_
   simp only [Z7,Z0]
   refine Z9 (Z10 ?_)
   refine hK15 _ _ ?_
   refine wp_ret ?_
   repeat (first | with_reducible refine then_ret ?_ | with_reducible refine inblock_ret ?_)
   refine bodyPost_ret (v := (.slice none 0 0)) (res1 rfl (.tmp (by rfl))) rfl ?_
   have BE := M.below
   exact ⟨_, rfl, ⟨none, 0, by rw [sums_nil h0d]; rfl, by rw [sums_nil h0d]; exact RowA.nil⟩, BE⟩
  ·
   have h0d : 0 < ds.length := of_decide_eq_true hc14
   refine Z5 rfl ?_
   refine wp_skip ?_
   refine hK13 _ _ ?_
   refine Z4 (fun K17 hK17 => ?_)
   refine wp_block ?_
   refine Z4 (fun K18 hK18 => ?_)
   refine Z8 ?_
   refine Z12 (v := .int .i64 0) (by rfl) (by rfl) (by rfl) ?_
   simp only [Z7,Z0]
   refine Z11 2 (by rfl) (fun Lk hLk => ?_)
   simp only [Z1,Z2]
   refine wpV_idxA (i := 0) (by rfl) rfl rfl rfl Tryd.underlying48 info9 (M.oldA Hp) (by omega) ?_
   simp only [Z7,Z0]
   refine wpV_loadA (i := 0) (v := .string (bs (ds.getD 0 []))) (by rfl) rfl rfl (M.oldA Hp) (scells_get (ps := ds) (by omega)) Tryd.underlying9 rfl ?_
   simp only [Z7,Z0]
   refine Z14 (hLk _ (fun w20 Sw20 => ?_))
   clear hLk Lk
   simp only [Z1,Z2]
   replace M := M.sees Sw20
   refine Z13 (v := .int .i64 0) (by rfl) (by rfl) (by rfl) ?_
   simp only [Z7,Z0]
   refine Z13 (v := .string (bs (ds.getD 0 []))) (by rfl) (by rfl) (by rfl) ?_
   simp only [Z7,Z0]
   refine Z9 (Z10 ?_)
   refine hK18 _ _ ?_
   refine Z4 (fun K21 hK21 => ?_)
   refine Z8 ?_
   refine Z12 (v := .int .i64 0) (by rfl) (by rfl) (by rfl) ?_
   simp only [Z7,Z0]
   refine Z11 1 (by rfl) (fun Lk hLk => ?_)
   simp only [Z1,Z2]
   refine Z15 (v := .bool true) (by rfl) rfl rfl rfl (fun W => run_lss _ _ _ _ W) ?_
   simp only [Z7,Z0]
   refine Z14 (hLk _ (fun w23 Sw23 => ?_))
   clear hLk Lk
   simp only [Z1,Z2]
   replace M := M.sees Sw23
   refine Z9 (Z10 ?_)
   refine hK21 _ _ ?_
   refine Z5 rfl ?_
   refine Z8 ?_
   refine Z12 (v := (.slice none 0 0)) (by rfl) (by rfl) (by rfl) ?_
   simp only [Z7,Z0]
   refine Z12 (v := .string (bs (ds.getD 0 []))) (by rfl) (by rfl) (by rfl) ?_
   simp only [Z7,Z0]
   refine Z12 (v := .string (bs (ds.getD 0 []))) (by rfl) (by rfl) (by rfl) ?_
   simp only [Z7,Z0]
   refine Z11 4 (by rfl) (fun Lk hLk => ?_)
   simp only [Z1,Z2]
   refine wpV_lenS (by rfl) rfl rfl rfl Tryd.underlying9 ?_
   simp only [Z7,Z0]
   refine wpV_min (n := (ds.getD 0 []).length) (m := 50) (by rfl) rfl rfl rfl ?_
   simp only [Z7,Z0]
   refine wpV_cut (l := ds.getD 0 []) (m := 50) (by rfl) rfl rfl rfl Tryd.underlying9 ?_
   simp only [Z7,Z0]
   refine Z20 (v := .string (bs (leafS (cut (ds.getD 0 []) 50)))) (args := #[.string (bs (cut (ds.getD 0 []) 50))]) (by rfl) rfl Tryd.func38 (by kernel_rfl) (by kernel_rfl) rfl (fun W hW => leaf_c (d := cut (ds.getD 0 []) 50) (by have := cut_len (ds.getD 0 []) 50; omega) ((M.sees hW).oldL L0) ((M.sees hW).oldR R0_0 L0)) ?_
   simp only [Z7,Z0]
   refine Z14 (hLk _ (fun w25 Sw25 => ?_))
   clear hLk Lk
   simp only [Z1,Z2]
   replace M := M.sees Sw25
   refine wpL_rowN (vs := [.string (bs (leafS (cut (ds.getD 0 []) 50)))]) (z := .string { data := #[] }) (bytes := 16) (by rfl) (by rfl) Tryd.underlying48 (by kernel_rfl) (by decide) (by kernel_rfl) (fun g26 w27 Sw27 Hg26 Bg26 => ?_)
   replace M := ((M.sees Sw27).add (N := 1) (cs := [.string (bs (leafS (cut (ds.getD 0 []) 50)))]) (M.ge Hg26) (M.fresh Hg26) Bg26 rfl)
   clear Bg26
   simp only [Z7,Z0]
   refine wpL_append0 (m := 1) (news := [.string (bs (leafS (cut (ds.getD 0 []) 50)))]) (z := .string { data := #[] }) (bytes := 16) (by rfl) (by rfl) (by rfl) (by rfl) Tryd.underlying48 (by kernel_rfl) rfl rfl (by decide) (M.r 0 0 rfl rfl) (by decide) (by decide) (fun g28 g28c w29 Sw29 Hg28 Cg28 R T L => ?_)
   replace M := (M.sees Sw29).addR (M.ge Hg28) (M.fresh Hg28) T R L
   clear T R L
   rw [show [.string (bs (leafS (cut (ds.getD 0 []) 50)))] = scells (lvD 50 ds 1) from gs_step0 h0d] at M
   simp only [Z7,Z0]
   refine Z13 (v := .slice (some ⟨g28, 0, none⟩) 1 g28c) (by rfl) (by rfl) (by rfl) ?_
   simp only [Z7,Z0]
   refine Z9 (Z10 ?_)
   refine hK17 _ _ ?_
   refine Z8 ?_
   refine Z11 1 (by rfl) (fun Lk hLk => ?_)
   simp only [Z1,Z2]
   refine Z15 (v := .int .i64 1) (by rfl) rfl rfl rfl (fun W => run_add (by decide) W) ?_
   simp only [Z7,Z0]
   refine Z14 (hLk _ (fun w31 Sw31 => ?_))
   clear hLk Lk
   simp only [Z1,Z2]
   replace M := M.sees Sw31
   refine Z12 (v := .int .i64 1) (by rfl) (by rfl) (by rfl) ?_
   simp only [Z7,Z0]
   refine Z9 (Z10 ?_)
   refine Exists.intro _ ⟨Nat.lt_succ_self _, 1, 1, g28, g28c, (fun q9 => (#[Z3, Z3, Z3, Z3, .int .i64 0, .string (bs (ds.getD 0 [])), Z3, Z3, Z3, .bool true, .int .i64 0, .pointer (ap.map (·.add 0)), .string (bs (ds.getD 0 [])), .int .i64 0, .bool true, (.slice none 0 0), .string (bs (ds.getD 0 [])), .string (bs (ds.getD 0 [])), .int .i64 (((ds.getD 0 []).length : Nat) : Int), .int .i64 ((min ((ds.getD 0 []).length) 50 : Nat) : Int), .string (bs (cut (ds.getD 0 []) 50)), .string (bs (leafS (cut (ds.getD 0 []) 50))), .slice (some ⟨g26, 0, none⟩) 1 1, .slice (some ⟨g28, 0, none⟩) 1 g28c, .int .i64 1] : Array Value).getD q9 Z3), rfl, rfl, (M.pick [0] (by decide) rfl), Cg28, (Nat.le_refl _), (by omega), (by decide)⟩
 clear M
 obtain ⟨k, j, r, rc, u9, rfl, rfl, M, Cr, hk1, hkl, hjk⟩ := hI
 obtain ⟨w32, rfl⟩ : ∃ W8, W8 = W9 := ⟨_, rfl⟩
 refine Z4 (fun K33 hK33 => ?_)
 refine Z8 ?_
 refine Z11 1 (by rfl) (fun Lk hLk => ?_)
 simp only [Z1,Z2]
 refine Z15 (v := .bool (decide (k < ds.length))) (by rfl) rfl rfl rfl (fun W => run_lssN k ds.length _ _ W) ?_
 simp only [Z7,Z0]
 refine Z14 (hLk _ (fun w35 Sw35 => ?_))
 clear hLk Lk
 simp only [Z1,Z2]
 replace M := M.sees Sw35
 refine Z9 (Z10 ?_)
 refine hK33 _ _ ?_
 refine Z4 (fun K36 hK36 => ?_)
 cases hc37 : (decide (k < ds.length))
 ·
  have hk : ¬ k < ds.length := of_decide_eq_false hc37
  refine Z6 rfl ?_
  refine wp_exit ?_
  refine hK5 _ _ ?_
  refine Z4 (fun K38 hK38 => ?_)
  refine Z8 ?_
  refine Z12 (v := .slice (some ⟨r, 0, none⟩) j rc) (by rfl) (by rfl) (by rfl) ?_
  simp only [Z7,Z0]
  refine Z13 (v := .slice (some ⟨r, 0, none⟩) j rc) (by rfl) (by rfl) (by rfl) ?_
  simp only [Z7,Z0]
  refine Z9 (Z10 ?_)
  refine hK38 _ _ ?_
  refine wp_ret ?_
  repeat (first | with_reducible refine then_ret ?_ | with_reducible refine inblock_ret ?_)
  refine bodyPost_ret (v := .slice (some ⟨r, 0, none⟩) j rc) (res1 rfl (.tmp (by rfl))) rfl ?_
  have BE := M.below
  have ej : j = min ds.length 50 := by omega
  have en : j = (lvD 50 ds (min ds.length 50)).length := by rw [lvD_len (by omega)]; exact ej
  exact ⟨_, rfl, ⟨_, _, by rw [← en], by rw [← en, ← ej]; exact (RowA.of (M.r 0 0 rfl rfl) (M.lt 0 rfl) (by rw [scells_len, lvD_len (by omega)]) Cr)⟩, BE⟩
 ·
  have hk : k < ds.length := of_decide_eq_true hc37
  refine Z5 rfl ?_
  refine wp_skip ?_
  refine hK36 _ _ ?_
  refine Z4 (fun K40 hK40 => ?_)
  refine wp_block ?_
  refine Z4 (fun K41 hK41 => ?_)
  refine Z8 ?_
  refine Z12 (v := .int .i64 ((k : Nat) : Int)) (by rfl) (by rfl) (by rfl) ?_
  simp only [Z7,Z0]
  refine Z11 2 (by rfl) (fun Lk hLk => ?_)
  simp only [Z1,Z2]
  refine wpV_idxA (i := k) (by rfl) rfl rfl rfl Tryd.underlying48 info9 (M.oldA Hp) (by omega) ?_
  simp only [Z7,Z0]
  refine wpV_loadA (i := k) (v := .string (bs (ds.getD k []))) (by rfl) rfl rfl (M.oldA Hp) (scells_get (ps := ds) (by omega)) Tryd.underlying9 rfl ?_
  simp only [Z7,Z0]
  refine Z14 (hLk _ (fun w43 Sw43 => ?_))
  clear hLk Lk
  simp only [Z1,Z2]
  replace M := M.sees Sw43
  refine Z13 (v := .int .i64 ((k : Nat) : Int)) (by rfl) (by rfl) (by rfl) ?_
  simp only [Z7,Z0]
  refine Z13 (v := .string (bs (ds.getD k []))) (by rfl) (by rfl) (by rfl) ?_
  simp only [Z7,Z0]
  refine Z9 (Z10 ?_)
  refine hK41 _ _ ?_
  refine Z4 (fun K44 hK44 => ?_)
  refine Z8 ?_
  refine Z12 (v := .int .i64 ((k : Nat) : Int)) (by rfl) (by rfl) (by rfl) ?_
  simp only [Z7,Z0]
  refine Z11 1 (by rfl) (fun Lk hLk => ?_)
  simp only [Z1,Z2]
  refine Z15 (v := .bool (decide (k < 50))) (by rfl) rfl rfl rfl (fun W => run_lssN k 50 _ _ W) ?_
  simp only [Z7,Z0]
  refine Z14 (hLk _ (fun w46 Sw46 => ?_))
  clear hLk Lk
  simp only [Z1,Z2]
  replace M := M.sees Sw46
  refine Z9 (Z10 ?_)
  refine hK44 _ _ ?_
  cases hc47 : (decide (k < 50))
  ·
   have hk50 : ¬ k < 50 := of_decide_eq_false hc47
   refine Z6 rfl ?_
   refine wp_skip ?_
   refine hK40 _ _ ?_
   refine Z8 ?_
   refine Z11 1 (by rfl) (fun Lk hLk => ?_)
   simp only [Z1,Z2]
   refine Z15 (v := .int .i64 ((k + 1 : Nat) : Int)) (by rfl) rfl rfl rfl (fun W => run_add (by simp only [IntKind.wrap_i64]; omega) W) ?_
   simp only [Z7,Z0]
   refine Z14 (hLk _ (fun w49 Sw49 => ?_))
   clear hLk Lk
   simp only [Z1,Z2]
   replace M := M.sees Sw49
   refine Z12 (v := .int .i64 ((k + 1 : Nat) : Int)) (by rfl) (by rfl) (by rfl) ?_
   simp only [Z7,Z0]
   refine Z9 (Z10 ?_)
   refine Exists.intro _ ⟨?_, (k + 1), j, r, rc, (fun q9 => (#[Z3, Z3, Z3, Z3, .int .i64 ((k : Nat) : Int), .string (bs (ds.getD k [])), Z3, Z3, Z3, .bool true, .int .i64 ((k : Nat) : Int), .pointer (ap.map (·.add k)), .string (bs (ds.getD k [])), .int .i64 ((k : Nat) : Int), .bool false, u9 15, u9 16, u9 17, u9 18, u9 19, u9 20, u9 21, u9 22, u9 23, .int .i64 ((k + 1 : Nat) : Int)] : Array Value).getD q9 Z3), rfl, rfl, M, Cr, (by omega), (by omega), (by omega)⟩
   omega
  ·
   have hk50 : k < 50 := of_decide_eq_true hc47
   have ejk : j = k := by omega
   refine Z5 rfl ?_
   refine Z8 ?_
   refine Z12 (v := .slice (some ⟨r, 0, none⟩) j rc) (by rfl) (by rfl) (by rfl) ?_
   simp only [Z7,Z0]
   refine Z12 (v := .string (bs (ds.getD k []))) (by rfl) (by rfl) (by rfl) ?_
   simp only [Z7,Z0]
   refine Z12 (v := .string (bs (ds.getD k []))) (by rfl) (by rfl) (by rfl) ?_
   simp only [Z7,Z0]
   refine Z11 4 (by rfl) (fun Lk hLk => ?_)
   simp only [Z1,Z2]
   refine wpV_lenS (by rfl) rfl rfl rfl Tryd.underlying9 ?_
   simp only [Z7,Z0]
   refine wpV_min (n := (ds.getD k []).length) (m := 50) (by rfl) rfl rfl rfl ?_
   simp only [Z7,Z0]
   refine wpV_cut (l := ds.getD k []) (m := 50) (by rfl) rfl rfl rfl Tryd.underlying9 ?_
   simp only [Z7,Z0]
   refine Z20 (v := .string (bs (leafS (cut (ds.getD k []) 50)))) (args := #[.string (bs (cut (ds.getD k []) 50))]) (by rfl) rfl Tryd.func38 (by kernel_rfl) (by kernel_rfl) rfl (fun W hW => leaf_c (d := cut (ds.getD k []) 50) (by have := cut_len (ds.getD k []) 50; omega) ((M.sees hW).oldL L0) ((M.sees hW).oldR R0_0 L0)) ?_
   simp only [Z7,Z0]
   refine Z14 (hLk _ (fun w51 Sw51 => ?_))
   clear hLk Lk
   simp only [Z1,Z2]
   replace M := M.sees Sw51
   refine wpL_rowN (vs := [.string (bs (leafS (cut (ds.getD k []) 50)))]) (z := .string { data := #[] }) (bytes := 16) (by rfl) (by rfl) Tryd.underlying48 (by kernel_rfl) (by decide) (by kernel_rfl) (fun g52 w53 Sw53 Hg52 Bg52 => ?_)
   replace M := ((M.sees Sw53).add (N := 1) (cs := [.string (bs (leafS (cut (ds.getD k []) 50)))]) (M.ge Hg52) (M.fresh Hg52) Bg52 rfl)
   clear Bg52
   simp only [Z7,Z0]
   refine wpL_append (n := j) (m := 1) (olds := scells (lvD 50 ds j)) (news := [.string (bs (leafS (cut (ds.getD k []) 50)))]) (z := .string { data := #[] }) (bytes := 16) (by rfl) (by rfl) (by rfl) (by rfl) Tryd.underlying48 (by kernel_rfl) rfl rfl (by rw [scells_len, lvD_len (by omega)]) rfl (M.r 1 0 rfl rfl) (M.t 1 rfl) (M.lt 1 rfl) (M.r 0 0 rfl rfl) (by intro u hu; rw [List.mem_singleton.1 hu]; rfl) (by omega) (by simp only [maxLen]; omega) (fun g54 g54c w55 Sw55 Q Cg54 R T L => ?_)
   replace M := M.grow 1 rfl Sw55 Q R T L
   simp only [Z0] at M
   clear Q R T L
   rw [show scells (lvD 50 ds j) ++ [.string (bs (leafS (cut (ds.getD k []) 50)))] = scells (lvD 50 ds (j + 1)) from gs_step ejk hk] at M
   simp only [Z7,Z0]
   refine Z13 (v := .slice (some ⟨g54, 0, none⟩) (j + 1) g54c) (by rfl) (by rfl) (by rfl) ?_
   simp only [Z7,Z0]
   refine Z9 (Z10 ?_)
   refine hK40 _ _ ?_
   refine Z8 ?_
   refine Z11 1 (by rfl) (fun Lk hLk => ?_)
   simp only [Z1,Z2]
   refine Z15 (v := .int .i64 ((k + 1 : Nat) : Int)) (by rfl) rfl rfl rfl (fun W => run_add (by simp only [IntKind.wrap_i64]; omega) W) ?_
   simp only [Z7,Z0]
   refine Z14 (hLk _ (fun w57 Sw57 => ?_))
   clear hLk Lk
   simp only [Z1,Z2]
   replace M := M.sees Sw57
   refine Z12 (v := .int .i64 ((k + 1 : Nat) : Int)) (by rfl) (by rfl) (by rfl) ?_
   simp only [Z7,Z0]
   refine Z9 (Z10 ?_)
   refine Exists.intro _ ⟨?_, (k + 1), (j + 1), g54, g54c, (fun q9 => (#[Z3, Z3, Z3, Z3, .int .i64 ((k : Nat) : Int), .string (bs (ds.getD k [])), Z3, Z3, Z3, .bool true, .int .i64 ((k : Nat) : Int), .pointer (ap.map (·.add k)), .string (bs (ds.getD k [])), .int .i64 ((k : Nat) : Int), .bool true, .slice (some ⟨r, 0, none⟩) j rc, .string (bs (ds.getD k [])), .string (bs (ds.getD k [])), .int .i64 (((ds.getD k []).length : Nat) : Int), .int .i64 ((min ((ds.getD k []).length) 50 : Nat) : Int), .string (bs (cut (ds.getD k []) 50)), .string (bs (leafS (cut (ds.getD k []) 50))), .slice (some ⟨g52, 0, none⟩) 1 1, .slice (some ⟨g54, 0, none⟩) (j + 1) g54c, .int .i64 ((k + 1 : Nat) : Int)] : Array Value).getD q9 Z3), rfl, rfl, (M.pick [1] (by decide) rfl), Cg54, (by omega), (by omega), (by omega)⟩
   omega
set_option maxHeartbeats 1000000 in
theorem alive09_c  {w : World} (L0 : 0 < w.heap.size) (R0_0 : w.rangeAt 0 0 kcells) :
  Calls Tryd.prog 49 #[] w fun e w' => e = .returned (.bool true) ∧ Below w.heap.size w w' := by
 go_enter Tryd.func49, Tryd.ntmps49
 have M := Mem.start w
 refine Z4 (fun K1 hK1 => ?_)
 refine Z8 ?_
 refine Z13 (v := .bool false) (by rfl) (by rfl) (by rfl) ?_
 simp only [Z7,Z0]
 refine Z9 (Z10 ?_)
 refine hK1 _ _ ?_
 refine Z4 (fun K3 hK3 => ?_)
 refine Z8 ?_
 refine Z11 2 (by rfl) (fun Lk hLk => ?_)
 simp only [Z1,Z2]
 refine Z20 (v := .string (bs (leafS ([97])))) (args := #[.string (bs ([97]))]) (by rfl) rfl Tryd.func38 (by kernel_rfl) (by kernel_rfl) rfl (fun W hW => leaf_c (d := [97]) (by decide) ((M.sees hW).oldL L0) ((M.sees hW).oldR R0_0 L0)) ?_
 simp only [Z7,Z0]
 refine Z20 (v := .string (bs (leafS ([98])))) (args := #[.string (bs ([98]))]) (by rfl) rfl Tryd.func38 (by kernel_rfl) (by kernel_rfl) rfl (fun W hW => leaf_c (d := [98]) (by decide) ((M.sees hW).oldL L0) ((M.sees hW).oldR R0_0 L0)) ?_
 simp only [Z7,Z0]
 refine Z14 (hLk _ (fun w5 Sw5 => ?_))
 clear hLk Lk
 simp only [Z1,Z2]
 replace M := M.sees Sw5
 refine Z13 (v := .string (bs (leafS ([97])))) (by rfl) (by rfl) (by rfl) ?_
 simp only [Z7,Z0]
 refine Z13 (v := .string (bs (leafS ([98])))) (by rfl) (by rfl) (by rfl) ?_
 simp only [Z7,Z0]
 refine Z9 (Z10 ?_)
 refine hK3 _ _ ?_
 refine Z4 (fun K6 hK6 => ?_)
 refine Z8 ?_
 refine Z12 (v := .string (bs (leafS ([97])))) (by rfl) (by rfl) (by rfl) ?_
 simp only [Z7,Z0]
 refine Z12 (v := .string (bs (leafS ([98])))) (by rfl) (by rfl) (by rfl) ?_
 simp only [Z7,Z0]
 refine wpL_rowN (vs := [.string (bs (leafS ([97]))), .string (bs (leafS ([98])))]) (z := .string { data := #[] }) (bytes := 16) (by rfl) (by rfl) Tryd.underlying48 (by kernel_rfl) (by decide) (by kernel_rfl) (fun g8 w9 Sw9 Hg8 Bg8 => ?_)
 replace M := ((M.sees Sw9).add (N := 2) (cs := [.string (bs (leafS ([97]))), .string (bs (leafS ([98])))]) (M.ge Hg8) (M.fresh Hg8) Bg8 rfl)
 clear Bg8
 simp only [Z7,Z0]
 refine wpL_callE (f := 47) (args := #[.slice (some ⟨g8, 0, none⟩) 2 2, .int .i64 1]) (R := fun v9 W9 => ∃ a11 c11, v9 = .tuple #[.slice a11 (([leafS ([97])]).length) c11, .int .i64 0] ∧ RowA W9 a11 ([leafS ([97])]).length c11 (scells ([leafS ([97])]))) (by rfl) (by rfl) rfl Tryd.func47 (by kernel_rfl) (by kernel_rfl) (by have h9 := Path_n (l := [leafS ([97]), leafS ([98])]) (i0 := 1) (right_of leaf32_2 (by decide)) (by decide) (M.oldL L0) (M.oldR R0_0 L0) (RowA.of (M.r 0 0 rfl rfl) (M.lt 0 rfl) rfl (Nat.le_refl _)); rw [path_ab] at h9; exact h9) (fun v9 w10 hv9 Sw10 => ?_)
 obtain ⟨a11, c11, rfl, H11_0⟩ := hv9
 replace M := M.sees Sw10
 replace R0_0 := M.oldR R0_0 L0
 replace L0 := M.oldL L0
 have Rg8_0 := M.r 0 0 rfl rfl
 have Lg8 := M.lt 0 rfl
 have BB := M.below
 replace M := Mem.start w10
 simp only [Z7,Z0]
 refine Z12 (v := .tuple #[.slice a11 (([leafS ([97])]).length) c11, .int .i64 0]) (by rfl) (by rfl) (by rfl) ?_
 simp only [Z7,Z0]
 refine Z11 2 (by rfl) (fun Lk hLk => ?_)
 simp only [Z1,Z2]
 refine wpV_extract (v := .slice a11 (([leafS ([97])]).length) c11) (by rfl) rfl rfl rfl ?_
 simp only [Z7,Z0]
 refine wpV_extract (v := .int .i64 0) (by rfl) rfl rfl rfl ?_
 simp only [Z7,Z0]
 refine Z14 (hLk _ (fun w12 Sw12 => ?_))
 clear hLk Lk
 simp only [Z1,Z2]
 replace M := M.sees Sw12
 refine Z13 (v := .slice a11 (([leafS ([97])]).length) c11) (by rfl) (by rfl) (by rfl) ?_
 simp only [Z7,Z0]
 refine Z13 (v := .int .i64 0) (by rfl) (by rfl) (by rfl) ?_
 simp only [Z7,Z0]
 refine Z9 (Z10 ?_)
 refine hK6 _ _ ?_
 refine Z4 (fun K13 hK13 => ?_)
 refine Z8 ?_
 refine Z12 (v := .int .i64 0) (by rfl) (by rfl) (by rfl) ?_
 simp only [Z7,Z0]
 refine Z11 17 (by rfl) (fun Lk hLk => ?_)
 simp only [Z1,Z2]
 refine Z15 (v := .bool true) (by rfl) rfl rfl rfl (fun W => run_eql _ _ _ _ W) ?_
 simp only [Z7,Z0]
 refine Z16 (v := .bool true) (by rfl) rfl rfl ?_
 simp only [Z7,Z0]
 refine Z16 (v := .slice a11 (([leafS ([97])]).length) c11) (by rfl) rfl rfl ?_
 simp only [Z7,Z0]
 refine wpV_lenA (n := ([leafS ([97])]).length) (by rfl) rfl rfl rfl Tryd.underlying48 ?_
 simp only [Z7,Z0]
 refine Z15 (v := .bool true) (by rfl) rfl rfl rfl (fun W => (run_eqlN (([leafS ([97])]).length) 1 _ _ W).trans (by rw [(show decide ([leafS [97]].length = 1) = true from rfl)])) ?_
 simp only [Z7,Z0]
 refine wpV_pick (v := .bool true) (by rfl) rfl rfl rfl ?_
 simp only [Z7,Z0]
 refine Z16 (v := .bool true) (by rfl) rfl rfl ?_
 simp only [Z7,Z0]
 refine Z16 (v := .slice a11 (([leafS ([97])]).length) c11) (by rfl) rfl rfl ?_
 simp only [Z7,Z0]
 refine wpV_idxA (i := 0) (by rfl) rfl rfl rfl Tryd.underlying48 info9 (M.oldA H11_0) Nat.zero_lt_one ?_
 simp only [Z7,Z0]
 refine wpV_loadA (i := 0) (v := .string (bs (leafS ([97])))) (by rfl) rfl rfl (M.oldA H11_0) rfl Tryd.underlying9 rfl ?_
 simp only [Z7,Z0]
 refine Z16 (v := .string (bs (leafS ([97])))) (by rfl) rfl rfl ?_
 simp only [Z7,Z0]
 refine wpV_binS (v := .bool true) (by rfl) rfl rfl rfl (fun W => (run_eql_bs _ _ _ W).trans (by rw [show decide (leafS ([97]) = leafS ([97])) = true from (decide_eq_true rfl)])) ?_
 simp only [Z7,Z0]
 refine wpV_pick (v := .bool true) (by rfl) rfl rfl rfl ?_
 simp only [Z7,Z0]
 refine Z16 (v := .bool true) (by rfl) rfl rfl ?_
 simp only [Z7,Z0]
 refine Z16 (v := .string (bs (leafS ([97])))) (by rfl) rfl rfl ?_
 simp only [Z7,Z0]
 refine wpV_binS (v := .bool true) (by rfl) rfl rfl rfl (fun W => (run_neq_bs _ _ _ W).trans (by rw [(decide_eq_true (leaf_ne _))])) ?_
 simp only [Z7,Z0]
 refine wpV_pick (v := .bool true) (by rfl) rfl rfl rfl ?_
 simp only [Z7,Z0]
 refine Z14 (hLk _ (fun w15 Sw15 => ?_))
 clear hLk Lk
 simp only [Z1,Z2]
 replace M := M.sees Sw15
 refine Z13 (v := .bool true) (by rfl) (by rfl) (by rfl) ?_
 simp only [Z7,Z0]
 refine Z9 (Z10 ?_)
 refine hK13 _ _ ?_
 refine wp_ret ?_
 repeat (first | with_reducible refine then_ret ?_ | with_reducible refine inblock_ret ?_)
 refine bodyPost_ret (v := .bool true) (res1 rfl (.tmp (by rfl))) rfl ?_
 have BE := M.below
 exact ⟨rfl, BB.trans (BE.mono BB.size)⟩
end Go.Proofs.Yb

