import Derived.WalkKit
import Derived.WalkSpells
import Derived.Laws.Pointers
import Derived.RowKit3
import Derived.Below
import Derived.Outline
import Derived.LoopN
import Derived.Lib.Hide
import Derived.Handy
import Derived.Laws.Bits64b
import Derived.Test.YticcchgckljlnaaDoorPr4
import Derived.Test.YticcchgckljlnaaDoorSteps10
import Derived.Test.YticcchgckljlnaaDoorTr7
set_option linter.unusedSimpArgs false
set_option linter.unusedVariables false
namespace Go.Proofs.Yb
open Go Go.RowKit Go.Proofs.Num
attribute [local irreducible] wpV wpN wpList
theorem drop_get {ps : List (List UInt8)} {k : Nat} (hk : k < ps.length) : ps.drop k = ps.getD k [] :: ps.drop (k + 1) := by
 rw [List.drop_eq_getElem_cons hk, List.getD_eq_getElem?_getD, List.getElem?_eq_getElem hk]; rfl
end Go.Proofs.Yb

namespace Go.Proofs.Yb
open Go Go.RowKit Go.Proofs.Num
attribute [local irreducible] wpV wpN wpList
theorem all32_yes {ps : List (List UInt8)} (h : ∀ j, j < ps.length → (ps.getD j []).length = 32) : all32 ps = true := by
 unfold all32
 rw [List.all_eq_true]
 intro s hs
 obtain ⟨j, hj, e⟩ := List.getElem_of_mem hs
 have := h j hj
 rw [List.getD_eq_getElem?_getD, List.getElem?_eq_getElem hj, Option.getD_some, e] at this
 simpa using this
theorem all32_no {ps : List (List UInt8)} {k : Nat} (hk : k < ps.length) (h : (ps.getD k []).length ≠ 32) : all32 ps = false := by
 cases ha : all32 ps with
 | false => rfl
 | true => exact absurd (getD_32 (all32_mem ha) hk) h
theorem last_split {ps : List (List UInt8)} (h : 1 ≤ ps.length) : ps = ps.take (ps.length - 1) ++ [ps.getD (ps.length - 1) []] := by
 have e := List.take_length (l := ps)
 have h2 : ps.length = ps.length - 1 + 1 := by omega
 conv => lhs; rw [← e, h2, List.take_add_one]
 rw [List.getD_eq_getElem?_getD, List.getElem?_eq_getElem (by omega)]
 rfl
theorem foldZ_le : ∀ (bs : List Bool) (ps : List (List UInt8)) (s : List UInt8), s.length = 32 → (foldZ nodeF bs ps s).length = 32
 | [], ps, s, h => by cases ps <;> exact h
 | b :: bs, [], s, h => h
 | b :: bs, x :: ps, s, h => foldZ_le bs ps _ (by unfold nodeF; split <;> exact nodeS_len _ _)
theorem makesT_le {leaf : List UInt8} {a n : Nat} {ps : List (List UInt8)} (h : leaf.length = 32) : (makesT leaf a n ps).length ≤ 32 := by
 unfold makesT
 split
 ·
  exact Nat.le_of_eq (foldZ_le _ _ _ h)
 ·
  exact Nat.zero_le _
set_option maxHeartbeats 1000000 in
theorem rall_r {ps : List (List UInt8)} {ap : Option Addr} {np cp : Nat} {w : World} (hq : ps.length ≤ 4611686018427387904) (Hp : RowA w ap np cp (scells ps)) :
  Calls Tryd.prog 57 #[.slice ap np cp] w fun e w' => e = .returned (.bool (all32 ps)) ∧ Below w.heap.size w w' := by
 obtain rfl : np = ps.length := by have := Hp.len; rwa [scells_len] at this
 go_enter Tryd.func57, Tryd.ntmps57
 have M := Mem.start w
 refine wp_seq_k (fun K1 hK1 => ?_)
 refine wp_region_seq ?_
 refine wpL_assign (v := .bool false) (by rfl) (by rfl) (by rfl) ?_
 simp only [putT, List.set]
 refine wpL_nil (no_panic ?_)
 refine hK1 _ _ ?_
 refine wp_seq_k (fun K3 hK3 => ?_)
 refine wp_seq_k (fun K4 hK4 => ?_)
 refine wp_region_seq ?_
 refine wpL_move (v := .slice ap ps.length cp) (by rfl) (by rfl) (by rfl) ?_
 simp only [putT, List.set]
 refine wpL_chunk 1 (by rfl) (fun Lk hLk => ?_)
 simp only [List.take, List.drop]
 refine wpV_lenA (n := ps.length) (by rfl) rfl rfl rfl Tryd.underlying48 ?_
 simp only [putT, List.set]
 refine wpV_nil (hLk _ (fun w6 Sw6 => ?_))
 clear hLk Lk
 simp only [List.take, List.drop]
 replace M := M.sees Sw6
 refine wpL_move (v := .int .i64 0) (by rfl) (by rfl) (by rfl) ?_
 simp only [putT, List.set]
 refine wpL_nil (no_panic ?_)
 refine hK4 _ _ ?_
 refine wp_block ?_
 refine wp_loop_ghost (fun n9 a9 W9 => ∃ (k : Nat) (u7 : Nat → Value), n9 = 2 * (ps.length - k) ∧ a9 = { tmps := #[.slice ap ps.length cp, undef, u7 2, undef, u7 4, .slice ap ps.length cp, .int .i64 ((ps.length : Nat) : Int), .int .i64 ((k : Nat) : Int), u7 8, u7 9, u7 10, u7 11, u7 12, u7 13, u7 14], defers := [] } ∧ Mem [] w W9 [] ∧ (k ≤ ps.length) ∧ (∀ j, j < k → (ps.getD j []).length = 32)) (2 * (ps.length - (0))) ?_ (fun n9 a9 W9 hI => ?_)
 ·
  exact ⟨0, (fun q9 => (#[undef, undef, .bool false, undef, undef, undef, undef, undef, undef, undef, undef, undef, undef, undef, undef] : Array Value).getD q9 undef), rfl, rfl, M, (by omega), (fun j hj => absurd hj (Nat.not_lt_zero _))⟩
 clear M
 obtain ⟨k, u7, rfl, rfl, M, hk4, hall⟩ := hI
 obtain ⟨w8, rfl⟩ : ∃ W8, W8 = W9 := ⟨_, rfl⟩
 refine wp_seq_k (fun K9 hK9 => ?_)
 refine wp_region_seq ?_
 refine wpL_chunk 1 (by rfl) (fun Lk hLk => ?_)
 simp only [List.take, List.drop]
 refine wpV_bin (v := .bool (decide (k < ps.length))) (by rfl) rfl rfl rfl (fun W => run_lssN k ps.length _ _ W) ?_
 simp only [putT, List.set]
 refine wpV_nil (hLk _ (fun w11 Sw11 => ?_))
 clear hLk Lk
 simp only [List.take, List.drop]
 replace M := M.sees Sw11
 refine wpL_nil (no_panic ?_)
 refine hK9 _ _ ?_
 refine wp_seq_k (fun K12 hK12 => ?_)
 cases hc13 : (decide (k < ps.length))
 ·
  have ek : k = ps.length := by have := of_decide_eq_false hc13; omega
  subst ek
  refine wp_cond_false rfl ?_
  refine wp_exit ?_
  refine hK3 _ _ ?_
  refine wp_seq_k (fun K14 hK14 => ?_)
  refine wp_region_seq ?_
  refine wpL_assign (v := .bool true) (by rfl) (by rfl) (by rfl) ?_
  simp only [putT, List.set]
  refine wpL_nil (no_panic ?_)
  refine hK14 _ _ ?_
  refine wp_ret ?_
  repeat (first | with_reducible refine then_ret ?_ | with_reducible refine inblock_ret ?_)
  refine bodyPost_ret (v := .bool true) (res1 rfl (.tmp (by rfl))) rfl ?_
  have BE := M.below
  exact ⟨by rw [all32_yes hall], BE⟩
 ·
  have hk : k < ps.length := of_decide_eq_true hc13
  refine wp_cond_true rfl ?_
  refine wp_skip ?_
  refine hK12 _ _ ?_
  refine wp_seq_k (fun K16 hK16 => ?_)
  refine wp_block ?_
  refine wp_seq_k (fun K17 hK17 => ?_)
  refine wp_region_seq ?_
  refine wpL_chunk 2 (by rfl) (fun Lk hLk => ?_)
  simp only [List.take, List.drop]
  refine wpV_idxA (i := k) (by rfl) rfl rfl rfl Tryd.underlying48 info9 (M.oldA Hp) (by omega) ?_
  simp only [putT, List.set]
  refine wpV_loadA (i := k) (v := .string (bs (ps.getD k []))) (by rfl) rfl rfl (M.oldA Hp) (scells_get (ps := ps) (by omega)) Tryd.underlying9 rfl ?_
  simp only [putT, List.set]
  refine wpV_nil (hLk _ (fun w19 Sw19 => ?_))
  clear hLk Lk
  simp only [List.take, List.drop]
  replace M := M.sees Sw19
  refine wpL_assign (v := .string (bs (ps.getD k []))) (by rfl) (by rfl) (by rfl) ?_
  simp only [putT, List.set]
  refine wpL_nil (no_panic ?_)
  refine hK17 _ _ ?_
  refine wp_seq_k (fun K20 hK20 => ?_)
  refine wp_region_seq ?_
  refine wpL_move (v := .string (bs (ps.getD k []))) (by rfl) (by rfl) (by rfl) ?_
  simp only [putT, List.set]
  refine wpL_chunk 2 (by rfl) (fun Lk hLk => ?_)
  simp only [List.take, List.drop]
  refine wpV_lenS (by rfl) rfl rfl rfl Tryd.underlying9 ?_
  simp only [putT, List.set]
  refine wpV_bin (v := .bool (decide ((ps.getD k []).length ≠ 32))) (by rfl) rfl rfl rfl (fun W => run_neqN ((ps.getD k []).length) 32 _ _ W) ?_
  simp only [putT, List.set]
  refine wpV_nil (hLk _ (fun w22 Sw22 => ?_))
  clear hLk Lk
  simp only [List.take, List.drop]
  replace M := M.sees Sw22
  refine wpL_nil (no_panic ?_)
  refine hK20 _ _ ?_
  cases hc23 : (decide ((ps.getD k []).length ≠ 32))
  ·
   have hgood : (ps.getD k []).length = 32 := Decidable.not_not.1 (of_decide_eq_false hc23)
   refine wp_cond_false rfl ?_
   refine wp_skip ?_
   refine hK16 _ _ ?_
   refine wp_region_seq ?_
   refine wpL_chunk 1 (by rfl) (fun Lk hLk => ?_)
   simp only [List.take, List.drop]
   refine wpV_bin (v := .int .i64 ((k + 1 : Nat) : Int)) (by rfl) rfl rfl rfl (fun W => run_add (by simp only [IntKind.wrap_i64]; omega) W) ?_
   simp only [putT, List.set]
   refine wpV_nil (hLk _ (fun w25 Sw25 => ?_))
   clear hLk Lk
   simp only [List.take, List.drop]
   replace M := M.sees Sw25
   refine wpL_move (v := .int .i64 ((k + 1 : Nat) : Int)) (by rfl) (by rfl) (by rfl) ?_
   simp only [putT, List.set]
   refine wpL_nil (no_panic ?_)
   refine Exists.intro _ ⟨?_, (k + 1), (fun q9 => (#[undef, undef, u7 2, undef, .string (bs (ps.getD k [])), undef, undef, undef, .bool true, .pointer (ap.map (·.add k)), .string (bs (ps.getD k [])), .string (bs (ps.getD k [])), .int .i64 (((ps.getD k []).length : Nat) : Int), .bool false, .int .i64 ((k + 1 : Nat) : Int)] : Array Value).getD q9 undef), rfl, rfl, M, (by omega), (fun j hj => (Nat.lt_succ_iff_lt_or_eq.1 hj).elim (hall j) (fun e => e ▸ hgood))⟩
   omega
  ·
   have hgood : (ps.getD k []).length ≠ 32 := of_decide_eq_true hc23
   refine wp_cond_true rfl ?_
   refine wp_seq_k (fun K26 hK26 => ?_)
   refine wp_region_seq ?_
   refine wpL_assign (v := .bool false) (by rfl) (by rfl) (by rfl) ?_
   simp only [putT, List.set]
   refine wpL_nil (no_panic ?_)
   refine hK26 _ _ ?_
   refine wp_ret ?_
   repeat (first | with_reducible refine then_ret ?_ | with_reducible refine inblock_ret ?_)
   refine bodyPost_ret (v := .bool false) (res1 rfl (.tmp (by rfl))) rfl ?_
   have BE := M.below
   exact ⟨by rw [all32_no hk hgood], BE⟩
set_option maxHeartbeats 4000000 in
theorem rmakes_c : ∀ (N : Nat) {ps : List (List UInt8)} {ap : Option Addr} {np cp : Nat} {leaf : List UInt8} {i n : Nat} {w : World} (hN : n = N) (h1 : 1 ≤ n) (hn : n ≤ 4096) (hi : i < n) (hlf : leaf.length = 32) (hq : ps.length ≤ 4611686018427387904) (h32 : ∀ s ∈ ps, s.length = 32) (Hp : RowA w ap np cp (scells ps)),
  Calls Tryd.prog 58 #[.string (bs leaf), .int .i64 ((i : Nat) : Int), .int .i64 ((n : Nat) : Int), .slice ap np cp] w fun e w' => e = .returned (.string (bs (makesT leaf i n ps))) ∧ Below w.heap.size w w' := by
 intro N
 induction N using Nat.strongRecOn with
 | _ N ih =>
  intro ps ap np cp leaf i n w hN h1 hn hi hlf hq h32 Hp
  subst hN
  obtain rfl : np = ps.length := by have := Hp.len; rwa [scells_len] at this
  have hlne : leaf ≠ [] := fun e9 => by rw [e9] at hlf; cases hlf
  go_enter Tryd.func58, Tryd.ntmps58
  have M := Mem.start w
  refine wp_seq_k (fun K1 hK1 => ?_)
  refine wp_region_seq ?_
  refine wpL_assign (v := .string (bs ([]))) (by rfl) (by rfl) (by rfl) ?_
  simp only [putT, List.set]
  refine wpL_nil (no_panic ?_)
  refine hK1 _ _ ?_
  refine wp_seq_k (fun K3 hK3 => ?_)
  refine wp_seq_k (fun K4 hK4 => ?_)
  refine wp_region_seq ?_
  refine wpL_move (v := .int .i64 ((n : Nat) : Int)) (by rfl) (by rfl) (by rfl) ?_
  simp only [putT, List.set]
  refine wpL_chunk 1 (by rfl) (fun Lk hLk => ?_)
  simp only [List.take, List.drop]
  refine wpV_bin (v := .bool (decide (n = 1))) (by rfl) rfl rfl rfl (fun W => run_eqlN n 1 _ _ W) ?_
  simp only [putT, List.set]
  refine wpV_nil (hLk _ (fun w6 Sw6 => ?_))
  clear hLk Lk
  simp only [List.take, List.drop]
  replace M := M.sees Sw6
  refine wpL_nil (no_panic ?_)
  refine hK4 _ _ ?_
  cases hc7 : (decide (n = 1))
  ·
   have hn1 : ¬ n = 1 := of_decide_eq_false hc7
   have h2 : 2 ≤ n := by omega
   have hsl := splitN_lt h2
   have hsp := splitN_pos n
   refine wp_cond_false rfl ?_
   refine wp_skip ?_
   refine hK3 _ _ ?_
   refine wp_seq_k (fun K8 hK8 => ?_)
   refine wp_seq_k (fun K9 hK9 => ?_)
   refine wp_region_seq ?_
   refine wpL_move (v := .slice ap ps.length cp) (by rfl) (by rfl) (by rfl) ?_
   simp only [putT, List.set]
   refine wpL_chunk 2 (by rfl) (fun Lk hLk => ?_)
   simp only [List.take, List.drop]
   refine wpV_lenA (n := ps.length) (by rfl) rfl rfl rfl Tryd.underlying48 ?_
   simp only [putT, List.set]
   refine wpV_bin (v := .bool (decide (ps.length = 0))) (by rfl) rfl rfl rfl (fun W => run_eqlN ps.length 0 _ _ W) ?_
   simp only [putT, List.set]
   refine wpV_nil (hLk _ (fun w11 Sw11 => ?_))
   clear hLk Lk
   simp only [List.take, List.drop]
   replace M := M.sees Sw11
   refine wpL_nil (no_panic ?_)
   refine hK9 _ _ ?_
   cases hc12 : (decide (ps.length = 0))
   ·
    have hp0 : ¬ ps.length = 0 := of_decide_eq_false hc12
    have eps := last_split (by omega : 1 ≤ ps.length)
    refine wp_cond_false rfl ?_
    refine wp_skip ?_
    refine hK8 _ _ ?_
    refine wp_seq_k (fun K13 hK13 => ?_)
    refine wp_region_seq ?_
    refine wpL_move (v := .slice ap ps.length cp) (by rfl) (by rfl) (by rfl) ?_
    simp only [putT, List.set]
    refine wpL_move (v := .slice ap ps.length cp) (by rfl) (by rfl) (by rfl) ?_
    simp only [putT, List.set]
    refine wpL_chunk 4 (by rfl) (fun Lk hLk => ?_)
    simp only [List.take, List.drop]
    refine wpV_lenA (n := ps.length) (by rfl) rfl rfl rfl Tryd.underlying48 ?_
    simp only [putT, List.set]
    refine wpV_bin (v := .int .i64 ((ps.length - 1 : Nat) : Int)) (by rfl) rfl rfl rfl (fun W => run_sub (by simp only [IntKind.wrap_i64]; omega) W) ?_
    simp only [putT, List.set]
    refine wpV_idxA (i := ps.length - 1) (by rfl) rfl rfl rfl Tryd.underlying48 info9 (M.oldA Hp) (by omega) ?_
    simp only [putT, List.set]
    refine wpV_loadA (i := ps.length - 1) (v := .string (bs (ps.getD (ps.length - 1) []))) (by rfl) rfl rfl (M.oldA Hp) (scells_get (ps := ps) (by omega)) Tryd.underlying9 rfl ?_
    simp only [putT, List.set]
    refine wpV_nil (hLk _ (fun w15 Sw15 => ?_))
    clear hLk Lk
    simp only [List.take, List.drop]
    replace M := M.sees Sw15
    refine wpL_assign (v := .string (bs (ps.getD (ps.length - 1) []))) (by rfl) (by rfl) (by rfl) ?_
    simp only [putT, List.set]
    refine wpL_nil (no_panic ?_)
    refine hK13 _ _ ?_
    refine wp_seq_k (fun K16 hK16 => ?_)
    refine wp_region_seq ?_
    refine wpL_move (v := .slice ap ps.length cp) (by rfl) (by rfl) (by rfl) ?_
    simp only [putT, List.set]
    refine wpL_move (v := .slice ap ps.length cp) (by rfl) (by rfl) (by rfl) ?_
    simp only [putT, List.set]
    refine wpL_chunk 3 (by rfl) (fun Lk hLk => ?_)
    simp only [List.take, List.drop]
    refine wpV_lenA (n := ps.length) (by rfl) rfl rfl rfl Tryd.underlying48 ?_
    simp only [putT, List.set]
    refine wpV_bin (v := .int .i64 ((ps.length - 1 : Nat) : Int)) (by rfl) rfl rfl rfl (fun W => run_sub (by simp only [IntKind.wrap_i64]; omega) W) ?_
    simp only [putT, List.set]
    refine wpV_slcH (hi := ps.length - 1) (by rfl) rfl rfl rfl Tryd.underlying48 info9 (Nat.le_trans (Nat.sub_le _ _) (M.oldA Hp).cap) ?_
    simp only [putT, List.set]
    refine wpV_nil (hLk _ (fun w18 Sw18 => ?_))
    clear hLk Lk
    simp only [List.take, List.drop]
    replace M := M.sees Sw18
    refine wpL_assign (v := .slice ap (ps.length - 1) cp) (by rfl) (by rfl) (by rfl) ?_
    simp only [putT, List.set]
    refine wpL_nil (no_panic ?_)
    refine hK16 _ _ ?_
    refine wp_seq_k (fun K19 hK19 => ?_)
    refine wp_region_seq ?_
    refine wpL_move (v := .int .i64 ((n : Nat) : Int)) (by rfl) (by rfl) (by rfl) ?_
    simp only [putT, List.set]
    refine wpL_chunk 1 (by rfl) (fun Lk hLk => ?_)
    simp only [List.take, List.drop]
    refine wpV_callf (v := .int .i64 ((splitN n : Nat) : Int)) (args := #[.int .i64 ((n : Nat) : Int)]) (by rfl) rfl Tryd.func54 (by kernel_rfl) (by kernel_rfl) rfl (fun W hW => rsplit_c (n := n) h2 (by omega)) ?_
    simp only [putT, List.set]
    refine wpV_nil (hLk _ (fun w21 Sw21 => ?_))
    clear hLk Lk
    simp only [List.take, List.drop]
    replace M := M.sees Sw21
    refine wpL_assign (v := .int .i64 ((splitN n : Nat) : Int)) (by rfl) (by rfl) (by rfl) ?_
    simp only [putT, List.set]
    refine wpL_nil (no_panic ?_)
    refine hK19 _ _ ?_
    refine wp_seq_k (fun K22 hK22 => ?_)
    refine wp_seq_k (fun K23 hK23 => ?_)
    refine wp_region_seq ?_
    refine wpL_move (v := .int .i64 ((i : Nat) : Int)) (by rfl) (by rfl) (by rfl) ?_
    simp only [putT, List.set]
    refine wpL_move (v := .int .i64 ((splitN n : Nat) : Int)) (by rfl) (by rfl) (by rfl) ?_
    simp only [putT, List.set]
    refine wpL_chunk 1 (by rfl) (fun Lk hLk => ?_)
    simp only [List.take, List.drop]
    refine wpV_bin (v := .bool (decide (i < splitN n))) (by rfl) rfl rfl rfl (fun W => run_lssN i (splitN n) _ _ W) ?_
    simp only [putT, List.set]
    refine wpV_nil (hLk _ (fun w25 Sw25 => ?_))
    clear hLk Lk
    simp only [List.take, List.drop]
    replace M := M.sees Sw25
    refine wpL_nil (no_panic ?_)
    refine hK23 _ _ ?_
    cases hc26 : (decide (i < splitN n))
    ·
     have hik : ¬ i < splitN n := of_decide_eq_false hc26
     refine wp_cond_false rfl ?_
     refine wp_skip ?_
     refine hK22 _ _ ?_
     refine wp_seq_k (fun K27 hK27 => ?_)
     refine wp_region_seq ?_
     refine wpL_move (v := .string (bs leaf)) (by rfl) (by rfl) (by rfl) ?_
     simp only [putT, List.set]
     refine wpL_move (v := .int .i64 ((i : Nat) : Int)) (by rfl) (by rfl) (by rfl) ?_
     simp only [putT, List.set]
     refine wpL_move (v := .int .i64 ((splitN n : Nat) : Int)) (by rfl) (by rfl) (by rfl) ?_
     simp only [putT, List.set]
     refine wpL_chunk 6 (by rfl) (fun Lk hLk => ?_)
     simp only [List.take, List.drop]
     refine wpV_bin (v := .int .i64 ((i - (splitN n) : Nat) : Int)) (by rfl) rfl rfl rfl (fun W => run_sub (by simp only [IntKind.wrap_i64]; omega) W) ?_
     simp only [putT, List.set]
     refine wpV_move (v := .int .i64 ((n : Nat) : Int)) (by rfl) rfl rfl ?_
     simp only [putT, List.set]
     refine wpV_move (v := .int .i64 ((splitN n : Nat) : Int)) (by rfl) rfl rfl ?_
     simp only [putT, List.set]
     refine wpV_bin (v := .int .i64 ((n - (splitN n) : Nat) : Int)) (by rfl) rfl rfl rfl (fun W => run_sub (by simp only [IntKind.wrap_i64]; omega) W) ?_
     simp only [putT, List.set]
     refine wpV_move (v := .slice ap (ps.length - 1) cp) (by rfl) rfl rfl ?_
     simp only [putT, List.set]
     refine wpV_callf (v := .string (bs (makesT leaf (i - (splitN n)) (n - (splitN n)) (ps.take (ps.length - 1))))) (args := #[.string (bs leaf), .int .i64 ((i - (splitN n) : Nat) : Int), .int .i64 ((n - (splitN n) : Nat) : Int), .slice ap (ps.length - 1) cp]) (by rfl) rfl Tryd.func58 (by kernel_rfl) (by kernel_rfl) rfl (fun W hW => ih (n - (splitN n)) (by omega) (ps := ps.take (ps.length - 1)) (leaf := leaf) (i := i - (splitN n)) rfl (by omega) (by omega) (by omega) hlf (by rw [List.length_take]; omega) (fun s9 h9 => h32 s9 (List.mem_of_mem_take h9)) ((((M.sees hW).oldA Hp).take (Nat.sub_le _ _)).eq (scells_take2 _ _))) ?_
     simp only [putT, List.set]
     refine wpV_nil (hLk _ (fun w29 Sw29 => ?_))
     clear hLk Lk
     simp only [List.take, List.drop]
     replace M := M.sees Sw29
     refine wpL_assign (v := .string (bs (makesT leaf (i - (splitN n)) (n - (splitN n)) (ps.take (ps.length - 1))))) (by rfl) (by rfl) (by rfl) ?_
     simp only [putT, List.set]
     refine wpL_nil (no_panic ?_)
     refine hK27 _ _ ?_
     refine wp_seq_k (fun K30 hK30 => ?_)
     refine wp_seq_k (fun K31 hK31 => ?_)
     refine wp_region_seq ?_
     refine wpL_move (v := .string (bs (makesT leaf (i - (splitN n)) (n - (splitN n)) (ps.take (ps.length - 1))))) (by rfl) (by rfl) (by rfl) ?_
     simp only [putT, List.set]
     refine wpL_chunk 1 (by rfl) (fun Lk hLk => ?_)
     simp only [List.take, List.drop]
     refine wpV_binS (v := .bool (decide (makesT leaf (i - (splitN n)) (n - (splitN n)) (ps.take (ps.length - 1)) = []))) (by rfl) rfl rfl rfl (run_eql_bs _ _ _) ?_
     simp only [putT, List.set]
     refine wpV_nil (hLk _ (fun w33 Sw33 => ?_))
     clear hLk Lk
     simp only [List.take, List.drop]
     replace M := M.sees Sw33
     refine wpL_nil (no_panic ?_)
     refine hK31 _ _ ?_
     cases hc34 : (decide (makesT leaf (i - (splitN n)) (n - (splitN n)) (ps.take (ps.length - 1)) = []))
     ·
      have hem : ¬ makesT leaf (i - (splitN n)) (n - (splitN n)) (ps.take (ps.length - 1)) = [] := of_decide_eq_false hc34
      refine wp_cond_false rfl ?_
      refine wp_skip ?_
      refine hK30 _ _ ?_
      refine wp_seq_k (fun K35 hK35 => ?_)
      refine wp_region_seq ?_
      refine wpL_move (v := .string (bs (ps.getD (ps.length - 1) []))) (by rfl) (by rfl) (by rfl) ?_
      simp only [putT, List.set]
      refine wpL_move (v := .string (bs (makesT leaf (i - (splitN n)) (n - (splitN n)) (ps.take (ps.length - 1))))) (by rfl) (by rfl) (by rfl) ?_
      simp only [putT, List.set]
      refine wpL_chunk 1 (by rfl) (fun Lk hLk => ?_)
      simp only [List.take, List.drop]
      refine wpV_callf (v := .string (bs (nodeS (ps.getD (ps.length - 1) []) (makesT leaf (i - (splitN n)) (n - (splitN n)) (ps.take (ps.length - 1)))))) (args := #[.string (bs (ps.getD (ps.length - 1) [])), .string (bs (makesT leaf (i - (splitN n)) (n - (splitN n)) (ps.take (ps.length - 1))))]) (by rfl) rfl Tryd.func41 (by kernel_rfl) (by kernel_rfl) rfl (fun W hW => rnode_c (a := ps.getD (ps.length - 1) []) (b := makesT leaf (i - (splitN n)) (n - (splitN n)) (ps.take (ps.length - 1))) (by rw [getD_32 h32 (by omega)]; decide) (Nat.le_trans (makesT_le hlf) (by decide))) ?_
      simp only [putT, List.set]
      refine wpV_nil (hLk _ (fun w37 Sw37 => ?_))
      clear hLk Lk
      simp only [List.take, List.drop]
      replace M := M.sees Sw37
      refine wpL_assign (v := .string (bs (nodeS (ps.getD (ps.length - 1) []) (makesT leaf (i - (splitN n)) (n - (splitN n)) (ps.take (ps.length - 1)))))) (by rfl) (by rfl) (by rfl) ?_
      simp only [putT, List.set]
      refine wpL_nil (no_panic ?_)
      refine hK35 _ _ ?_
      refine wp_ret ?_
      repeat (first | with_reducible refine then_ret ?_ | with_reducible refine inblock_ret ?_)
      refine bodyPost_ret (v := .string (bs (nodeS (ps.getD (ps.length - 1) []) (makesT leaf (i - (splitN n)) (n - (splitN n)) (ps.take (ps.length - 1)))))) (res1 rfl (.tmp (by rfl))) rfl ?_
      have BE := M.below
      have e9 : makesT leaf i n ps = _ := (congrArg (makesT leaf i n) eps).trans ((makesT_right h2 hik hlne).trans (if_neg hem))
      exact ⟨by rw [e9], BE⟩
     ·
      have hem : makesT leaf (i - (splitN n)) (n - (splitN n)) (ps.take (ps.length - 1)) = [] := of_decide_eq_true hc34
      refine wp_cond_true rfl ?_
      refine wp_seq_k (fun K38 hK38 => ?_)
      refine wp_region_seq ?_
      refine wpL_assign (v := .string (bs ([]))) (by rfl) (by rfl) (by rfl) ?_
      simp only [putT, List.set]
      refine wpL_nil (no_panic ?_)
      refine hK38 _ _ ?_
      refine wp_ret ?_
      repeat (first | with_reducible refine then_ret ?_ | with_reducible refine inblock_ret ?_)
      refine bodyPost_ret (v := .string (bs ([]))) (res1 rfl (.tmp (by rfl))) rfl ?_
      have BE := M.below
      have e9 : makesT leaf i n ps = [] := (congrArg (makesT leaf i n) eps).trans ((makesT_right h2 hik hlne).trans (if_pos hem))
      exact ⟨by rw [e9], BE⟩
    ·
     have hik : i < splitN n := of_decide_eq_true hc26
     refine wp_cond_true rfl ?_
     refine wp_seq_k (fun K40 hK40 => ?_)
     refine wp_region_seq ?_
     refine wpL_move (v := .string (bs leaf)) (by rfl) (by rfl) (by rfl) ?_
     simp only [putT, List.set]
     refine wpL_move (v := .int .i64 ((i : Nat) : Int)) (by rfl) (by rfl) (by rfl) ?_
     simp only [putT, List.set]
     refine wpL_move (v := .int .i64 ((splitN n : Nat) : Int)) (by rfl) (by rfl) (by rfl) ?_
     simp only [putT, List.set]
     refine wpL_move (v := .slice ap (ps.length - 1) cp) (by rfl) (by rfl) (by rfl) ?_
     simp only [putT, List.set]
     refine wpL_chunk 1 (by rfl) (fun Lk hLk => ?_)
     simp only [List.take, List.drop]
     refine wpV_callf (v := .string (bs (makesT leaf i (splitN n) (ps.take (ps.length - 1))))) (args := #[.string (bs leaf), .int .i64 ((i : Nat) : Int), .int .i64 ((splitN n : Nat) : Int), .slice ap (ps.length - 1) cp]) (by rfl) rfl Tryd.func58 (by kernel_rfl) (by kernel_rfl) rfl (fun W hW => ih (splitN n) (by omega) (ps := ps.take (ps.length - 1)) (leaf := leaf) (i := i) rfl (by omega) (by omega) (by omega) hlf (by rw [List.length_take]; omega) (fun s9 h9 => h32 s9 (List.mem_of_mem_take h9)) ((((M.sees hW).oldA Hp).take (Nat.sub_le _ _)).eq (scells_take2 _ _))) ?_
     simp only [putT, List.set]
     refine wpV_nil (hLk _ (fun w42 Sw42 => ?_))
     clear hLk Lk
     simp only [List.take, List.drop]
     replace M := M.sees Sw42
     refine wpL_assign (v := .string (bs (makesT leaf i (splitN n) (ps.take (ps.length - 1))))) (by rfl) (by rfl) (by rfl) ?_
     simp only [putT, List.set]
     refine wpL_nil (no_panic ?_)
     refine hK40 _ _ ?_
     refine wp_seq_k (fun K43 hK43 => ?_)
     refine wp_seq_k (fun K44 hK44 => ?_)
     refine wp_region_seq ?_
     refine wpL_move (v := .string (bs (makesT leaf i (splitN n) (ps.take (ps.length - 1))))) (by rfl) (by rfl) (by rfl) ?_
     simp only [putT, List.set]
     refine wpL_chunk 1 (by rfl) (fun Lk hLk => ?_)
     simp only [List.take, List.drop]
     refine wpV_binS (v := .bool (decide (makesT leaf i (splitN n) (ps.take (ps.length - 1)) = []))) (by rfl) rfl rfl rfl (run_eql_bs _ _ _) ?_
     simp only [putT, List.set]
     refine wpV_nil (hLk _ (fun w46 Sw46 => ?_))
     clear hLk Lk
     simp only [List.take, List.drop]
     replace M := M.sees Sw46
     refine wpL_nil (no_panic ?_)
     refine hK44 _ _ ?_
     cases hc47 : (decide (makesT leaf i (splitN n) (ps.take (ps.length - 1)) = []))
     ·
      have hem : ¬ makesT leaf i (splitN n) (ps.take (ps.length - 1)) = [] := of_decide_eq_false hc47
      refine wp_cond_false rfl ?_
      refine wp_skip ?_
      refine hK43 _ _ ?_
      refine wp_seq_k (fun K48 hK48 => ?_)
      refine wp_region_seq ?_
      refine wpL_move (v := .string (bs (makesT leaf i (splitN n) (ps.take (ps.length - 1))))) (by rfl) (by rfl) (by rfl) ?_
      simp only [putT, List.set]
      refine wpL_move (v := .string (bs (ps.getD (ps.length - 1) []))) (by rfl) (by rfl) (by rfl) ?_
      simp only [putT, List.set]
      refine wpL_chunk 1 (by rfl) (fun Lk hLk => ?_)
      simp only [List.take, List.drop]
      refine wpV_callf (v := .string (bs (nodeS (makesT leaf i (splitN n) (ps.take (ps.length - 1))) (ps.getD (ps.length - 1) [])))) (args := #[.string (bs (makesT leaf i (splitN n) (ps.take (ps.length - 1)))), .string (bs (ps.getD (ps.length - 1) []))]) (by rfl) rfl Tryd.func41 (by kernel_rfl) (by kernel_rfl) rfl (fun W hW => rnode_c (a := makesT leaf i (splitN n) (ps.take (ps.length - 1))) (b := ps.getD (ps.length - 1) []) (Nat.le_trans (makesT_le hlf) (by decide)) (by rw [getD_32 h32 (by omega)]; decide)) ?_
      simp only [putT, List.set]
      refine wpV_nil (hLk _ (fun w50 Sw50 => ?_))
      clear hLk Lk
      simp only [List.take, List.drop]
      replace M := M.sees Sw50
      refine wpL_assign (v := .string (bs (nodeS (makesT leaf i (splitN n) (ps.take (ps.length - 1))) (ps.getD (ps.length - 1) [])))) (by rfl) (by rfl) (by rfl) ?_
      simp only [putT, List.set]
      refine wpL_nil (no_panic ?_)
      refine hK48 _ _ ?_
      refine wp_ret ?_
      repeat (first | with_reducible refine then_ret ?_ | with_reducible refine inblock_ret ?_)
      refine bodyPost_ret (v := .string (bs (nodeS (makesT leaf i (splitN n) (ps.take (ps.length - 1))) (ps.getD (ps.length - 1) [])))) (res1 rfl (.tmp (by rfl))) rfl ?_
      have BE := M.below
      have e9 : makesT leaf i n ps = _ := (congrArg (makesT leaf i n) eps).trans ((makesT_left h2 hik hlne).trans (if_neg hem))
      exact ⟨by rw [e9], BE⟩
     ·
      have hem : makesT leaf i (splitN n) (ps.take (ps.length - 1)) = [] := of_decide_eq_true hc47
      refine wp_cond_true rfl ?_
      refine wp_seq_k (fun K51 hK51 => ?_)
      refine wp_region_seq ?_
      refine wpL_assign (v := .string (bs ([]))) (by rfl) (by rfl) (by rfl) ?_
      simp only [putT, List.set]
      refine wpL_nil (no_panic ?_)
      refine hK51 _ _ ?_
      refine wp_ret ?_
      repeat (first | with_reducible refine then_ret ?_ | with_reducible refine inblock_ret ?_)
      refine bodyPost_ret (v := .string (bs ([]))) (res1 rfl (.tmp (by rfl))) rfl ?_
      have BE := M.below
      have e9 : makesT leaf i n ps = [] := (congrArg (makesT leaf i n) eps).trans ((makesT_left h2 hik hlne).trans (if_pos hem))
      exact ⟨by rw [e9], BE⟩
   ·
    have hp0 : ps.length = 0 := of_decide_eq_true hc12
    refine wp_cond_true rfl ?_
    refine wp_seq_k (fun K53 hK53 => ?_)
    refine wp_region_seq ?_
    refine wpL_assign (v := .string (bs ([]))) (by rfl) (by rfl) (by rfl) ?_
    simp only [putT, List.set]
    refine wpL_nil (no_panic ?_)
    refine hK53 _ _ ?_
    refine wp_ret ?_
    repeat (first | with_reducible refine then_ret ?_ | with_reducible refine inblock_ret ?_)
    refine bodyPost_ret (v := .string (bs ([]))) (res1 rfl (.tmp (by rfl))) rfl ?_
    have BE := M.below
    exact ⟨by rw [List.length_eq_zero_iff.1 hp0, makesT_0 h2], BE⟩
  ·
   have hn1 : n = 1 := of_decide_eq_true hc7
   refine wp_cond_true rfl ?_
   refine wp_seq_k (fun K55 hK55 => ?_)
   refine wp_seq_k (fun K56 hK56 => ?_)
   refine wp_region_seq ?_
   refine wpL_move (v := .slice ap ps.length cp) (by rfl) (by rfl) (by rfl) ?_
   simp only [putT, List.set]
   refine wpL_chunk 2 (by rfl) (fun Lk hLk => ?_)
   simp only [List.take, List.drop]
   refine wpV_lenA (n := ps.length) (by rfl) rfl rfl rfl Tryd.underlying48 ?_
   simp only [putT, List.set]
   refine wpV_bin (v := .bool (decide (0 < ps.length))) (by rfl) rfl rfl rfl (fun W => run_gtrN ps.length 0 _ _ W) ?_
   simp only [putT, List.set]
   refine wpV_nil (hLk _ (fun w58 Sw58 => ?_))
   clear hLk Lk
   simp only [List.take, List.drop]
   replace M := M.sees Sw58
   refine wpL_nil (no_panic ?_)
   refine hK56 _ _ ?_
   cases hc59 : (decide (0 < ps.length))
   ·
    have hp0 : ¬ 0 < ps.length := of_decide_eq_false hc59
    refine wp_cond_false rfl ?_
    refine wp_skip ?_
    refine hK55 _ _ ?_
    refine wp_seq_k (fun K60 hK60 => ?_)
    refine wp_region_seq ?_
    refine wpL_move (v := .string (bs leaf)) (by rfl) (by rfl) (by rfl) ?_
    simp only [putT, List.set]
    refine wpL_assign (v := .string (bs leaf)) (by rfl) (by rfl) (by rfl) ?_
    simp only [putT, List.set]
    refine wpL_nil (no_panic ?_)
    refine hK60 _ _ ?_
    refine wp_ret ?_
    repeat (first | with_reducible refine then_ret ?_ | with_reducible refine inblock_ret ?_)
    refine bodyPost_ret (v := .string (bs leaf)) (res1 rfl (.tmp (by rfl))) rfl ?_
    have BE := M.below
    exact ⟨by rw [makesT_1 (by omega), if_pos (by omega)], BE⟩
   ·
    have hp0 : 0 < ps.length := of_decide_eq_true hc59
    refine wp_cond_true rfl ?_
    refine wp_seq_k (fun K62 hK62 => ?_)
    refine wp_region_seq ?_
    refine wpL_assign (v := .string (bs ([]))) (by rfl) (by rfl) (by rfl) ?_
    simp only [putT, List.set]
    refine wpL_nil (no_panic ?_)
    refine hK62 _ _ ?_
    refine wp_ret ?_
    repeat (first | with_reducible refine then_ret ?_ | with_reducible refine inblock_ret ?_)
    refine bodyPost_ret (v := .string (bs ([]))) (res1 rfl (.tmp (by rfl))) rfl ?_
    have BE := M.below
    exact ⟨by rw [makesT_1 (by omega), if_neg (by omega)], BE⟩
set_option maxHeartbeats 1000000 in
theorem wellPF_c {l : List UInt8} {w : World}  :
  Calls Tryd.prog 99 #[.string (bs l)] w fun e w' => e = .returned (.bool (decide (l.length ≠ 32))) ∧ Below w.heap.size w w' := by
 go_enter Tryd.func99, Tryd.ntmps99
 have M := Mem.start w
 refine wp_seq_k (fun K1 hK1 => ?_)
 refine wp_region_seq ?_
 refine wpL_assign (v := .bool false) (by rfl) (by rfl) (by rfl) ?_
 simp only [putT, List.set]
 refine wpL_nil (no_panic ?_)
 refine hK1 _ _ ?_
 refine wp_seq_k (fun K3 hK3 => ?_)
 refine wp_region_seq ?_
 refine wpL_move (v := .string (bs l)) (by rfl) (by rfl) (by rfl) ?_
 simp only [putT, List.set]
 refine wpL_chunk 2 (by rfl) (fun Lk hLk => ?_)
 simp only [List.take, List.drop]
 refine wpV_lenS (by rfl) rfl rfl rfl Tryd.underlying9 ?_
 simp only [putT, List.set]
 refine wpV_bin (v := .bool (decide (l.length ≠ 32))) (by rfl) rfl rfl rfl (fun W => run_neqN l.length 32 _ _ W) ?_
 simp only [putT, List.set]
 refine wpV_nil (hLk _ (fun w5 Sw5 => ?_))
 clear hLk Lk
 simp only [List.take, List.drop]
 replace M := M.sees Sw5
 refine wpL_assign (v := .bool (decide (l.length ≠ 32))) (by rfl) (by rfl) (by rfl) ?_
 simp only [putT, List.set]
 refine wpL_nil (no_panic ?_)
 refine hK3 _ _ ?_
 refine wp_ret ?_
 repeat (first | with_reducible refine then_ret ?_ | with_reducible refine inblock_ret ?_)
 refine bodyPost_ret (v := .bool (decide (l.length ≠ 32))) (res1 rfl (.tmp (by rfl))) rfl ?_
 have BE := M.below
 exact ⟨rfl, BE⟩
set_option maxHeartbeats 2000000 in
theorem idxp_r {ps : List (List UInt8)} {ap : Option Addr} {np cp : Nat} {w : World} (hq : ps.length ≤ 4611686018427387904) (Hp : RowA w ap np cp (scells ps)) :
  Calls Tryd.prog 109 #[.slice ap np cp, .func (.func 99) #[] #[]] w fun e w' => e = .returned (.int .i64 (badI ps)) ∧ Below w.heap.size w w' := by
 obtain rfl : np = ps.length := by have := Hp.len; rwa [scells_len] at this
 go_enter Tryd.func109, Tryd.ntmps109
 have M := Mem.start w
 refine wp_seq_k (fun K1 hK1 => ?_)
 refine wp_region_seq ?_
 refine wpL_assign (v := .int .i64 0) (by rfl) (by rfl) (by rfl) ?_
 simp only [putT, List.set]
 refine wpL_nil (no_panic ?_)
 refine hK1 _ _ ?_
 refine wp_seq_k (fun K3 hK3 => ?_)
 refine wp_seq_k (fun K4 hK4 => ?_)
 refine wp_region_seq ?_
 refine wpL_move (v := .slice ap ps.length cp) (by rfl) (by rfl) (by rfl) ?_
 simp only [putT, List.set]
 refine wpL_chunk 1 (by rfl) (fun Lk hLk => ?_)
 simp only [List.take, List.drop]
 refine wpV_lenA (n := ps.length) (by rfl) rfl rfl rfl Tryd.underlying48 ?_
 simp only [putT, List.set]
 refine wpV_nil (hLk _ (fun w6 Sw6 => ?_))
 clear hLk Lk
 simp only [List.take, List.drop]
 replace M := M.sees Sw6
 refine wpL_move (v := .int .i64 0) (by rfl) (by rfl) (by rfl) ?_
 simp only [putT, List.set]
 refine wpL_nil (no_panic ?_)
 refine hK4 _ _ ?_
 refine wp_block ?_
 refine wp_loop_ghost (fun n9 a9 W9 => ∃ (k : Nat) (u7 : Nat → Value), n9 = ps.length - k ∧ a9 = { tmps := #[.slice ap ps.length cp, .func (.func 99) #[] #[], undef, undef, u7 4, u7 5, .slice ap ps.length cp, .int .i64 ((ps.length : Nat) : Int), .int .i64 ((k : Nat) : Int), u7 9, u7 10, u7 11, u7 12, u7 13, u7 14, u7 15, u7 16, u7 17, u7 18], defers := [] } ∧ Mem [] w W9 [] ∧ (k ≤ ps.length) ∧ (∀ j, j < k → (ps.getD j []).length = 32)) (ps.length - (0)) ?_ (fun n9 a9 W9 hI => ?_)
 ·
  exact ⟨0, (fun q9 => (#[undef, undef, undef, undef, .int .i64 0, undef, undef, undef, undef, undef, undef, undef, undef, undef, undef, undef, undef, undef, undef] : Array Value).getD q9 undef), rfl, rfl, M, (by omega), (fun j hj => absurd hj (Nat.not_lt_zero _))⟩
 clear M
 obtain ⟨k, u7, rfl, rfl, M, hk4, hall⟩ := hI
 obtain ⟨w8, rfl⟩ : ∃ W8, W8 = W9 := ⟨_, rfl⟩
 refine wp_seq_k (fun K9 hK9 => ?_)
 refine wp_region_seq ?_
 refine wpL_chunk 1 (by rfl) (fun Lk hLk => ?_)
 simp only [List.take, List.drop]
 refine wpV_bin (v := .bool (decide (k < ps.length))) (by rfl) rfl rfl rfl (fun W => run_lssN k ps.length _ _ W) ?_
 simp only [putT, List.set]
 refine wpV_nil (hLk _ (fun w11 Sw11 => ?_))
 clear hLk Lk
 simp only [List.take, List.drop]
 replace M := M.sees Sw11
 refine wpL_nil (no_panic ?_)
 refine hK9 _ _ ?_
 refine wp_seq_k (fun K12 hK12 => ?_)
 cases hc13 : (decide (k < ps.length))
 ·
  have ek : k = ps.length := by have := of_decide_eq_false hc13; omega
  subst ek
  refine wp_cond_false rfl ?_
  refine wp_exit ?_
  refine hK3 _ _ ?_
  refine wp_seq_k (fun K14 hK14 => ?_)
  refine wp_region_seq ?_
  refine wpL_assign (v := .int .i64 (-1)) (by rfl) (by rfl) (by rfl) ?_
  simp only [putT, List.set]
  refine wpL_nil (no_panic ?_)
  refine hK14 _ _ ?_
  refine wp_ret ?_
  repeat (first | with_reducible refine then_ret ?_ | with_reducible refine inblock_ret ?_)
  refine bodyPost_ret (v := .int .i64 (-1)) (res1 rfl (.tmp (by rfl))) rfl ?_
  have BE := M.below
  exact ⟨by rw [badI_none hall], BE⟩
 ·
  have hk : k < ps.length := of_decide_eq_true hc13
  refine wp_cond_true rfl ?_
  refine wp_skip ?_
  refine hK12 _ _ ?_
  refine wp_seq_k (fun K16 hK16 => ?_)
  refine wp_block ?_
  refine wp_seq_k (fun K17 hK17 => ?_)
  refine wp_region_seq ?_
  refine wpL_move (v := .int .i64 ((k : Nat) : Int)) (by rfl) (by rfl) (by rfl) ?_
  simp only [putT, List.set]
  refine wpL_assign (v := .int .i64 ((k : Nat) : Int)) (by rfl) (by rfl) (by rfl) ?_
  simp only [putT, List.set]
  refine wpL_nil (no_panic ?_)
  refine hK17 _ _ ?_
  refine wp_seq_k (fun K19 hK19 => ?_)
  refine wp_region_seq ?_
  refine wpL_move (v := .func (.func 99) #[] #[]) (by rfl) (by rfl) (by rfl) ?_
  simp only [putT, List.set]
  refine wpL_move (v := .slice ap ps.length cp) (by rfl) (by rfl) (by rfl) ?_
  simp only [putT, List.set]
  refine wpL_move (v := .int .i64 ((k : Nat) : Int)) (by rfl) (by rfl) (by rfl) ?_
  simp only [putT, List.set]
  refine wpL_chunk 3 (by rfl) (fun Lk hLk => ?_)
  simp only [List.take, List.drop]
  refine wpV_idxA (i := k) (by rfl) rfl rfl rfl Tryd.underlying48 info9 (M.oldA Hp) (by omega) ?_
  simp only [putT, List.set]
  refine wpV_loadA (i := k) (v := .string (bs (ps.getD k []))) (by rfl) rfl rfl (M.oldA Hp) (scells_get (ps := ps) (by omega)) Tryd.underlying9 rfl ?_
  simp only [putT, List.set]
  refine wpV_callv (v := .bool (decide ((ps.getD k []).length ≠ 32))) (args := #[.string (bs (ps.getD k []))]) (by rfl) rfl rfl Tryd.func99 (by kernel_rfl) (by kernel_rfl) rfl (fun W hW => wellPF_c) ?_
  simp only [putT, List.set]
  refine wpV_nil (hLk _ (fun w21 Sw21 => ?_))
  clear hLk Lk
  simp only [List.take, List.drop]
  replace M := M.sees Sw21
  refine wpL_nil (no_panic ?_)
  refine hK19 _ _ ?_
  cases hc22 : (decide ((ps.getD k []).length ≠ 32))
  ·
   have hgood : (ps.getD k []).length = 32 := Decidable.not_not.1 (of_decide_eq_false hc22)
   refine wp_cond_false rfl ?_
   refine wp_skip ?_
   refine hK16 _ _ ?_
   refine wp_region_seq ?_
   refine wpL_chunk 1 (by rfl) (fun Lk hLk => ?_)
   simp only [List.take, List.drop]
   refine wpV_bin (v := .int .i64 ((k + 1 : Nat) : Int)) (by rfl) rfl rfl rfl (fun W => run_add (by simp only [IntKind.wrap_i64]; omega) W) ?_
   simp only [putT, List.set]
   refine wpV_nil (hLk _ (fun w24 Sw24 => ?_))
   clear hLk Lk
   simp only [List.take, List.drop]
   replace M := M.sees Sw24
   refine wpL_move (v := .int .i64 ((k + 1 : Nat) : Int)) (by rfl) (by rfl) (by rfl) ?_
   simp only [putT, List.set]
   refine wpL_nil (no_panic ?_)
   refine Exists.intro _ ⟨?_, (k + 1), (fun q9 => (#[undef, undef, undef, undef, u7 4, .int .i64 ((k : Nat) : Int), undef, undef, undef, .bool true, .int .i64 ((k : Nat) : Int), .func (.func 99) #[] #[], .slice ap ps.length cp, .int .i64 ((k : Nat) : Int), .pointer (ap.map (·.add k)), .string (bs (ps.getD k [])), .bool false, u7 17, .int .i64 ((k + 1 : Nat) : Int)] : Array Value).getD q9 undef), rfl, rfl, M, (by omega), (fun j hj => (Nat.lt_succ_iff_lt_or_eq.1 hj).elim (hall j) (fun e => e ▸ hgood))⟩
   omega
  ·
   have hgood : (ps.getD k []).length ≠ 32 := of_decide_eq_true hc22
   refine wp_cond_true rfl ?_
   refine wp_seq_k (fun K25 hK25 => ?_)
   refine wp_region_seq ?_
   refine wpL_move (v := .int .i64 ((k : Nat) : Int)) (by rfl) (by rfl) (by rfl) ?_
   simp only [putT, List.set]
   refine wpL_assign (v := .int .i64 ((k : Nat) : Int)) (by rfl) (by rfl) (by rfl) ?_
   simp only [putT, List.set]
   refine wpL_nil (no_panic ?_)
   refine hK25 _ _ ?_
   refine wp_ret ?_
   repeat (first | with_reducible refine then_ret ?_ | with_reducible refine inblock_ret ?_)
   refine bodyPost_ret (v := .int .i64 ((k : Nat) : Int)) (res1 rfl (.tmp (by rfl))) rfl ?_
   have BE := M.below
   exact ⟨by rw [badI_some hk hall hgood], BE⟩
set_option maxHeartbeats 1000000 in
theorem contp_r {ps : List (List UInt8)} {ap : Option Addr} {np cp : Nat} {w : World} (hq : ps.length ≤ 4611686018427387904) (Hp : RowA w ap np cp (scells ps)) :
  Calls Tryd.prog 96 #[.slice ap np cp, .func (.func 99) #[] #[]] w fun e w' => e = .returned (.bool (!all32 ps)) ∧ Below w.heap.size w w' := by
 obtain rfl : np = ps.length := by have := Hp.len; rwa [scells_len] at this
 go_enter Tryd.func96, Tryd.ntmps96
 have M := Mem.start w
 refine wp_seq_k (fun K1 hK1 => ?_)
 refine wp_region_seq ?_
 refine wpL_assign (v := .bool false) (by rfl) (by rfl) (by rfl) ?_
 simp only [putT, List.set]
 refine wpL_nil (no_panic ?_)
 refine hK1 _ _ ?_
 refine wp_seq_k (fun K3 hK3 => ?_)
 refine wp_region_seq ?_
 refine wpL_move (v := .slice ap ps.length cp) (by rfl) (by rfl) (by rfl) ?_
 simp only [putT, List.set]
 refine wpL_move (v := .func (.func 99) #[] #[]) (by rfl) (by rfl) (by rfl) ?_
 simp only [putT, List.set]
 refine wpL_chunk 2 (by rfl) (fun Lk hLk => ?_)
 simp only [List.take, List.drop]
 refine wpV_callf (v := .int .i64 (badI ps)) (args := #[.slice ap ps.length cp, .func (.func 99) #[] #[]]) (by rfl) rfl Tryd.func109 (by kernel_rfl) (by kernel_rfl) rfl (fun W hW => by with_reducible exact idxp_r (ps := ps) hq ((M.sees hW).oldA Hp)) ?_
 simp only [putT, List.set]
 refine wpV_bin (v := .bool (decide (0 ≤ badI ps))) (by rfl) rfl rfl rfl (fun W => run_geq _ _ _ _ W) ?_
 simp only [putT, List.set]
 refine wpV_nil (hLk _ (fun w5 Sw5 => ?_))
 clear hLk Lk
 simp only [List.take, List.drop]
 replace M := M.sees Sw5
 refine wpL_assign (v := .bool (decide (0 ≤ badI ps))) (by rfl) (by rfl) (by rfl) ?_
 simp only [putT, List.set]
 refine wpL_nil (no_panic ?_)
 refine hK3 _ _ ?_
 refine wp_ret ?_
 repeat (first | with_reducible refine then_ret ?_ | with_reducible refine inblock_ret ?_)
 refine bodyPost_ret (v := .bool (decide (0 ≤ badI ps))) (res1 rfl (.tmp (by rfl))) rfl ?_
 have BE := M.below
 exact ⟨by rw [badI_ge], BE⟩
set_option maxHeartbeats 1000000 in
theorem wellp_r {ps : List (List UInt8)} {ap : Option Addr} {np cp : Nat} {w : World} (hq : ps.length ≤ 4611686018427387904) (Hp : RowA w ap np cp (scells ps)) :
  Calls Tryd.prog 82 #[.slice ap np cp] w fun e w' => e = .returned (.bool (all32 ps)) ∧ Below w.heap.size w w' := by
 obtain rfl : np = ps.length := by have := Hp.len; rwa [scells_len] at this
 go_enter Tryd.func82, Tryd.ntmps82
 have M := Mem.start w
 refine wp_seq_k (fun K1 hK1 => ?_)
 refine wp_region_seq ?_
 refine wpL_assign (v := .bool false) (by rfl) (by rfl) (by rfl) ?_
 simp only [putT, List.set]
 refine wpL_nil (no_panic ?_)
 refine hK1 _ _ ?_
 refine wp_seq_k (fun K3 hK3 => ?_)
 refine wp_region_seq ?_
 refine wpL_move (v := .slice ap ps.length cp) (by rfl) (by rfl) (by rfl) ?_
 simp only [putT, List.set]
 refine wpL_chunk 2 (by rfl) (fun Lk hLk => ?_)
 simp only [List.take, List.drop]
 refine wpV_callf (v := .bool (!all32 ps)) (args := #[.slice ap ps.length cp, .func (.func 99) #[] #[]]) (by rfl) rfl Tryd.func96 (by kernel_rfl) (by kernel_rfl) rfl (fun W hW => by with_reducible exact contp_r (ps := ps) hq ((M.sees hW).oldA Hp)) ?_
 simp only [putT, List.set]
 refine wpV_not (b := !all32 ps) (by rfl) rfl rfl ?_
 simp only [putT, List.set]
 refine wpV_nil (hLk _ (fun w5 Sw5 => ?_))
 clear hLk Lk
 simp only [List.take, List.drop]
 replace M := M.sees Sw5
 refine wpL_assign (v := .bool (!(!all32 ps))) (by rfl) (by rfl) (by rfl) ?_
 simp only [putT, List.set]
 refine wpL_nil (no_panic ?_)
 refine hK3 _ _ ?_
 refine wp_ret ?_
 repeat (first | with_reducible refine then_ret ?_ | with_reducible refine inblock_ret ?_)
 refine bodyPost_ret (v := .bool (!(!all32 ps))) (res1 rfl (.tmp (by rfl))) rfl ?_
 have BE := M.below
 exact ⟨by rw [Bool.not_not], BE⟩
end Go.Proofs.Yb

