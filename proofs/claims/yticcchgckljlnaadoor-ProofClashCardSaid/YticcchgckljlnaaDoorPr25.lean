import Derived.WalkKit
import Derived.WalkSpells
import Derived.Laws.Pointers
import Derived.RowKit3
import Derived.Below
import Derived.Outline
import Derived.LoopN
import Derived.Lib.Hide
import Derived.Handy
import Derived.Laws.Bits64b
import Derived.Test.YticcchgckljlnaaDoorPr24
import Derived.Test.YticcchgckljlnaaDoorPr11
set_option linter.unusedSimpArgs false
set_option linter.unusedVariables false
namespace Go.Proofs.Yb
open Go Go.RowKit Go.Proofs.Num
attribute [local irreducible] wpV wpN wpList
theorem flat1 (a : List UInt8) : [a].flatten = a := by simp
theorem getD_le1 {a : List UInt8} {B : Nat} (ha : a.length ≤ B) (k : Nat) : (([a] : List (List UInt8)).getD k []).length ≤ B := by
 match k with
 | 0 => exact ha
 | k + 1 => exact Nat.zero_le _
theorem clashT_mem : ∀ {p q : List (List UInt8)} {x y : List UInt8}, clashT p q = some (x, y) → x ∈ p ∧ y ∈ q
 | a :: p, b :: q, x, y, h => by
  rw [clashT] at h
  by_cases hab : a ≠ b
  ·
   rw [if_pos hab] at h
   cases h
   exact ⟨List.mem_cons_self .., List.mem_cons_self ..⟩
  ·
   rw [if_neg hab] at h
   have := clashT_mem h
   exact ⟨List.mem_cons_of_mem _ this.1, List.mem_cons_of_mem _ this.2⟩
 | [], q, x, y, h => by cases q <;> cases h
 | a :: p, [], x, y, h => by cases h
theorem upT_le {bs : List Bool} {ps : List (List UInt8)} {s : List UInt8} {n : Nat} (h : ps.length ≤ n) : (upT bs ps s).length ≤ n := by
 induction bs generalizing ps s n with
 | nil => cases ps <;> exact Nat.zero_le _
 | cons b bs ih =>
  cases ps with
  | nil => exact Nat.zero_le _
  | cons x ps =>
   simp only [upT, List.length_cons] at h ⊢
   have := ih (s := nodeF b x s) (show ps.length ≤ n - 1 by omega)
   omega
theorem Clash_no {ps qs : List (List UInt8)} {ap aq : Option Addr} {np cp nq cq : Nat} {la lb : List UInt8} {i n : Nat} {w : World} (h4 : ps.length ≤ 4096) (h4q : qs.length ≤ 4096) (hi : i < n) (hn : n ≤ 4096) (h1 : la.length = 32) (h2 : lb.length = 32) (hp : all32 ps = true) (hq2 : all32 qs = true)
  (hno : ¬ (la ≠ lb ∧ makesT la i n ps ≠ [] ∧ makesT la i n ps = makesT lb i n qs)) (L0 : 0 < w.heap.size) (R0_0 : w.rangeAt 0 0 kcells) (Hp : RowA w ap np cp (scells ps)) (Hq : RowA w aq nq cq (scells qs)) :
  Calls Tryd.prog 65 #[.string (bs la), .string (bs lb), .int .i64 ((i : Nat) : Int), .int .i64 ((n : Nat) : Int), .slice ap np cp, .slice aq nq cq] w fun e w' => e = .returned (.tuple #[.string (bs []), .string (bs []), .int .i64 37]) ∧ Below w.heap.size w w' := by
 have hn1 : 1 ≤ n := by omega
 have w1 := (walk_clash (leaf := la) (ps := ps) hn1 hi).symm
 have w2 := (walk_clash (leaf := lb) (ps := qs) hn1 hi).symm
 have hlne : la ≠ [] := fun e9 => by rw [e9] at h1; cases h1
 by_cases d1 : ps.length = (sideT i n).length
 ·
  by_cases d2 : qs.length = (sideT i n).length
  ·
   rw [decide_eq_true d1] at w1
   rw [decide_eq_true d2] at w2
   refine Clash_none2 h4 h4q hi hn (two_yes' h1 h2) hp hq2 w1 w2 (upT_le h4) (fun h => hno ⟨h.2, ?_, ?_⟩) L0 R0_0 Hp Hq
   ·
    rw [makes_fold d1]; exact foldZ_ne hlne
   ·
    rw [makes_fold d1, makes_fold d2]; exact h.1
  ·
   rw [decide_eq_true d1] at w1
   rw [decide_eq_false d2] at w2
   exact Clash_none1 h4 h4q hi hn (two_yes' h1 h2) hp hq2 w1 w2 (upT_le h4) L0 R0_0 Hp Hq
 ·
  rw [decide_eq_false d1] at w1
  exact Clash_none0 h4 h4q hi hn (two_yes' h1 h2) hp hq2 w1 w2 (upT_le h4) L0 R0_0 Hp Hq
theorem Clash_yes {ps qs : List (List UInt8)} {ap aq : Option Addr} {np cp nq cq : Nat} {la lb fx fy : List UInt8} {i n : Nat} {w : World} (h4 : ps.length ≤ 4096) (h4q : qs.length ≤ 4096) (hi : i < n) (hn : n ≤ 4096) (h1 : la.length = 32) (h2 : lb.length = 32) (hp : all32 ps = true) (hq2 : all32 qs = true)
  (hne : la ≠ lb) (hm : makesT la i n ps ≠ []) (he : makesT la i n ps = makesT lb i n qs) (hc : clashT (downT la i n ps) (downT lb i n qs) = some (fx, fy)) (L0 : 0 < w.heap.size) (R0_0 : w.rangeAt 0 0 kcells) (Hp : RowA w ap np cp (scells ps)) (Hq : RowA w aq nq cq (scells qs)) :
  Calls Tryd.prog 65 #[.string (bs la), .string (bs lb), .int .i64 ((i : Nat) : Int), .int .i64 ((n : Nat) : Int), .slice ap np cp, .slice aq nq cq] w fun e w' => e = .returned (.tuple #[.string (bs fx), .string (bs fy), .int .i64 0]) ∧ Below w.heap.size w w' := by
 have hn1 : 1 ≤ n := by omega
 have w1 := (walk_clash (leaf := la) (ps := ps) hn1 hi).symm
 have w2 := (walk_clash (leaf := lb) (ps := qs) hn1 hi).symm
 have d1 := makes_len hm
 have d2 := makes_len (he ▸ hm)
 rw [decide_eq_true d1] at w1
 rw [decide_eq_true d2] at w2
 rw [makes_fold d1, makes_fold d2] at he
 exact Clash_found h4 h4q hi hn (two_yes' h1 h2) hp hq2 w1 w2 (upT_le h4) (by rw [upT_len _ _ _ d1.symm, upT_len _ _ _ d2.symm]; omega) he hne hc L0 R0_0 Hp Hq
theorem rtexts_P {ps P : List (List UInt8)} {ap : Option Addr} {np cp : Nat} {leaf : List UInt8} {i n : Nat} {w : World} (hn : n ≤ 4096) (hi : i < n) (hlf : leaf.length = 32) (hq : ps.length ≤ 4096) (h32 : ∀ s ∈ ps, s.length = 32) (hm : makesT leaf i n ps ≠ []) (hP : downT leaf i n ps = P) (Hp : RowA w ap np cp (scells ps)) :
  Calls Tryd.prog 66 #[.string (bs leaf), .int .i64 ((i : Nat) : Int), .int .i64 ((n : Nat) : Int), .slice ap np cp] w fun e w' => ∃ v, e = .returned v ∧ (∃ a c, v = .slice a P.length c ∧ RowA w' a P.length c (scells P)) ∧ Below w.heap.size w w' := by
 subst hP
 exact rtexts_c _ rfl (by omega) hn hi hlf hq h32 (makes_len hm) Hp
set_option maxRecDepth 100000 in
set_option maxHeartbeats 4000000 in
theorem lclash_neg {vls vms : Value} {ls ms Pl Ql : List (List UInt8)} {ra rb la lb : List UInt8} {x y : Int} {w : World} (hQ1 : cutsS 50 40 ls = Pl) (hQ2 : cutsS 50 40 ms = Ql) (hPL : Pl.length ≤ 50) (hQL : Ql.length ≤ 50) (hL : cut ra 40 = la) (hR : cut rb 40 = lb) (hx : x < 0) (L0 : 0 < w.heap.size) (R0_0 : w.rangeAt 0 0 kcells) (hvls : RowS w vls ls) (hvms : RowS w vms ms) :
  Calls Tryd.prog 16 #[.string (bs ra), .string (bs rb), .int .i64 x, .int .i64 y, vls, vms] w fun e w' => e = .returned (.bool true) ∧ Below w.heap.size w w' := by
 have h4 : Pl.length ≤ 4096 := by omega
 have h4q : Ql.length ≤ 4096 := by omega
 go_enter Tryd.func16, Tryd.ntmps16
 have M := Mem.start w
 refine wp_seq_k (fun K1 hK1 => ?_)
 refine wp_region_seq ?_
 refine wpL_assign (v := .bool false) (by rfl) (by rfl) (by rfl) ?_
 simp only [putT, List.set]
 refine wpL_nil (no_panic ?_)
 refine hK1 _ _ ?_
 refine wp_seq_k (fun K3 hK3 => ?_)
 refine wp_region_seq ?_
 refine wpL_move (v := vls) (by rfl) (by rfl) (by rfl) ?_
 simp only [putT, List.set]
 refine wpL_callE (f := 46) (args := #[vls]) (R := MemRow w ((cutsS 50 40 ls).length) (scells (cutsS 50 40 ls))) (by rfl) (by rfl) rfl Tryd.func46 (by kernel_rfl) (by kernel_rfl) (few9_c (hvls.mem M)) (fun v9 w6 hv9 Sw6 => ?_)
 obtain ⟨g5, g5c, rfl, Cg5, M9⟩ := hv9
 replace M := M.call1 M9
 simp only [putT, List.set]
 refine wpL_move (v := vms) (by rfl) (by rfl) (by rfl) ?_
 simp only [putT, List.set]
 refine wpL_callE (f := 46) (args := #[vms]) (R := MemRow w6 ((cutsS 50 40 ms).length) (scells (cutsS 50 40 ms))) (by rfl) (by rfl) rfl Tryd.func46 (by kernel_rfl) (by kernel_rfl) (few9_c (hvms.mem M)) (fun v9 w8 hv9 Sw8 => ?_)
 obtain ⟨g7, g7c, rfl, Cg7, M9⟩ := hv9
 replace M := M.call1 M9
 simp only [putT, List.set]
 refine wpL_assign (v := .slice (some ⟨g5, 0, none⟩) ((cutsS 50 40 ls).length) g5c) (by rfl) (by rfl) (by rfl) ?_
 simp only [putT, List.set]
 refine wpL_assign (v := .slice (some ⟨g7, 0, none⟩) ((cutsS 50 40 ms).length) g7c) (by rfl) (by rfl) (by rfl) ?_
 simp only [putT, List.set]
 refine wpL_nil (no_panic ?_)
 simp only [hQ1, hQ2] at M
 simp only [hQ1, hQ2]
 rw [hQ2] at Cg7
 rw [hQ1] at Cg5
 refine hK3 _ _ ?_
 refine wp_seq_k (fun K9 hK9 => ?_)
 refine wp_region_grow 12 [] (by kernel_rfl) (by kernel_rfl) (by kernel_rfl) (fun Lk hLk => ?_)
 simp only [List.take, List.drop]
 refine wpV_move (v := .string (bs ra)) (by rfl) rfl rfl ?_
 simp only [putT, List.set]
 refine wpV_move (v := .string (bs ra)) (by rfl) rfl rfl ?_
 simp only [putT, List.set]
 refine wpV_lenS (by rfl) rfl rfl rfl Tryd.underlying9 ?_
 simp only [putT, List.set]
 refine wpV_min (n := ra.length) (m := 40) (by rfl) rfl rfl rfl ?_
 simp only [putT, List.set]
 refine wpV_cut (l := ra) (m := 40) (by rfl) rfl rfl rfl Tryd.underlying9 ?_
 simp only [putT, List.set]
 refine wpV_move (v := .string (bs rb)) (by rfl) rfl rfl ?_
 simp only [putT, List.set]
 refine wpV_move (v := .string (bs rb)) (by rfl) rfl rfl ?_
 simp only [putT, List.set]
 refine wpV_lenS (by rfl) rfl rfl rfl Tryd.underlying9 ?_
 simp only [putT, List.set]
 refine wpV_min (n := rb.length) (m := 40) (by rfl) rfl rfl rfl ?_
 simp only [putT, List.set]
 refine wpV_cut (l := rb) (m := 40) (by rfl) rfl rfl rfl Tryd.underlying9 ?_
 simp only [putT, List.set]
 refine wpV_assign (v := .string (bs (cut ra 40))) (by rfl) rfl rfl ?_
 simp only [putT, List.set]
 refine wpV_assign (v := .string (bs (cut rb 40))) (by rfl) rfl rfl ?_
 simp only [putT, List.set]
 refine wpV_nil (hLk.out _ ?_)
 clear hLk Lk
 simp only [List.take, List.drop]
 iterate 12 refine wpN_skip (by rfl) ?_
 refine wpN_nil (fun w11 Sw11 hbs => ?_)
 clear hbs
 replace M := M.sees Sw11
 refine wpL_nil (no_panic ?_)
 simp only [hL, hR]
 refine hK9 _ _ ?_
 refine wp_seq_k (fun K12 hK12 => ?_)
 refine wp_region_seq ?_
 refine wpL_move (v := .string (bs la)) (by rfl) (by rfl) (by rfl) ?_
 simp only [putT, List.set]
 refine wpL_move (v := .string (bs lb)) (by rfl) (by rfl) (by rfl) ?_
 simp only [putT, List.set]
 refine wpL_move (v := .int .i64 x) (by rfl) (by rfl) (by rfl) ?_
 simp only [putT, List.set]
 refine wpL_move (v := .int .i64 y) (by rfl) (by rfl) (by rfl) ?_
 simp only [putT, List.set]
 refine wpL_move (v := .slice (some ⟨g5, 0, none⟩) Pl.length g5c) (by rfl) (by rfl) (by rfl) ?_
 simp only [putT, List.set]
 refine wpL_move (v := .slice (some ⟨g7, 0, none⟩) Ql.length g7c) (by rfl) (by rfl) (by rfl) ?_
 simp only [putT, List.set]
 refine wpL_chunk 5 (by rfl) (fun Lk hLk => ?_)
 simp only [List.take, List.drop]
 refine wpV_callf (v := .tuple #[.string (bs ([])), .string (bs ([])), .int .i64 1]) (args := #[.string (bs la), .string (bs lb), .int .i64 x, .int .i64 y, .slice (some ⟨g5, 0, none⟩) Pl.length g5c, .slice (some ⟨g7, 0, none⟩) Ql.length g7c]) (by rfl) rfl Tryd.func65 (by kernel_rfl) (by kernel_rfl) rfl (fun W hW => by with_reducible exact Clash_neg h4 h4q hx ((M.sees hW).oldL L0) ((M.sees hW).oldR R0_0 L0) (RowA.of ((M.sees hW).r 1 0 rfl rfl) ((M.sees hW).lt 1 rfl) (scells_len _).symm Cg5) (RowA.of ((M.sees hW).r 0 0 rfl rfl) ((M.sees hW).lt 0 rfl) (scells_len _).symm Cg7)) ?_
 simp only [putT, List.set]
 refine wpV_move (v := .tuple #[.string (bs ([])), .string (bs ([])), .int .i64 1]) (by rfl) rfl rfl ?_
 simp only [putT, List.set]
 refine wpV_extract (v := .string (bs ([]))) (by rfl) rfl rfl rfl ?_
 simp only [putT, List.set]
 refine wpV_extract (v := .string (bs ([]))) (by rfl) rfl rfl rfl ?_
 simp only [putT, List.set]
 refine wpV_extract (v := .int .i64 1) (by rfl) rfl rfl rfl ?_
 simp only [putT, List.set]
 refine wpV_nil (hLk _ (fun w14 Sw14 => ?_))
 clear hLk Lk
 simp only [List.take, List.drop]
 replace M := M.sees Sw14
 refine wpL_assign (v := .string (bs ([]))) (by rfl) (by rfl) (by rfl) ?_
 simp only [putT, List.set]
 refine wpL_assign (v := .string (bs ([]))) (by rfl) (by rfl) (by rfl) ?_
 simp only [putT, List.set]
 refine wpL_assign (v := .int .i64 1) (by rfl) (by rfl) (by rfl) ?_
 simp only [putT, List.set]
 refine wpL_nil (no_panic ?_)
 refine hK12 _ _ ?_
 refine wp_seq_k (fun K15 hK15 => ?_)
 refine wp_seq_k (fun K16 hK16 => ?_)
 refine wp_region_seq ?_
 refine wpL_move (v := .int .i64 x) (by rfl) (by rfl) (by rfl) ?_
 simp only [putT, List.set]
 refine wpL_chunk 30 (by rfl) (fun Lk hLk => ?_)
 simp only [List.take, List.drop]
 refine wpV_bin (v := .bool true) (by rfl) rfl rfl rfl (fun W => (run_lss _ _ _ _ W).trans (by rw [(decide_eq_true hx)])) ?_
 simp only [putT, List.set]
 refine wpV_move (v := .bool true) (by rfl) rfl rfl ?_
 simp only [putT, List.set]
 refine wpV_skip (by rfl) (by rfl) ?_
 simp only [putT, List.set]
 refine wpV_skip (by rfl) (by rfl) ?_
 simp only [putT, List.set]
 refine wpV_skip (by rfl) (by rfl) ?_
 simp only [putT, List.set]
 refine wpV_pick (v := .bool true) (by rfl) rfl rfl rfl ?_
 simp only [putT, List.set]
 refine wpV_move (v := .bool true) (by rfl) rfl rfl ?_
 simp only [putT, List.set]
 refine wpV_skip (by rfl) (by rfl) ?_
 simp only [putT, List.set]
 refine wpV_skip (by rfl) (by rfl) ?_
 simp only [putT, List.set]
 refine wpV_pick (v := .bool true) (by rfl) rfl rfl rfl ?_
 simp only [putT, List.set]
 refine wpV_move (v := .bool true) (by rfl) rfl rfl ?_
 simp only [putT, List.set]
 refine wpV_skip (by rfl) (by rfl) ?_
 simp only [putT, List.set]
 refine wpV_skip (by rfl) (by rfl) ?_
 simp only [putT, List.set]
 refine wpV_skip (by rfl) (by rfl) ?_
 simp only [putT, List.set]
 refine wpV_pick (v := .bool true) (by rfl) rfl rfl rfl ?_
 simp only [putT, List.set]
 refine wpV_move (v := .bool true) (by rfl) rfl rfl ?_
 simp only [putT, List.set]
 refine wpV_skip (by rfl) (by rfl) ?_
 simp only [putT, List.set]
 refine wpV_skip (by rfl) (by rfl) ?_
 simp only [putT, List.set]
 refine wpV_skip (by rfl) (by rfl) ?_
 simp only [putT, List.set]
 refine wpV_pick (v := .bool true) (by rfl) rfl rfl rfl ?_
 simp only [putT, List.set]
 refine wpV_move (v := .bool true) (by rfl) rfl rfl ?_
 simp only [putT, List.set]
 refine wpV_skip (by rfl) (by rfl) ?_
 simp only [putT, List.set]
 refine wpV_skip (by rfl) (by rfl) ?_
 simp only [putT, List.set]
 refine wpV_skip (by rfl) (by rfl) ?_
 simp only [putT, List.set]
 refine wpV_pick (v := .bool true) (by rfl) rfl rfl rfl ?_
 simp only [putT, List.set]
 refine wpV_move (v := .bool true) (by rfl) rfl rfl ?_
 simp only [putT, List.set]
 refine wpV_skip (by rfl) (by rfl) ?_
 simp only [putT, List.set]
 refine wpV_skip (by rfl) (by rfl) ?_
 simp only [putT, List.set]
 refine wpV_skip (by rfl) (by rfl) ?_
 simp only [putT, List.set]
 refine wpV_pick (v := .bool true) (by rfl) rfl rfl rfl ?_
 simp only [putT, List.set]
 refine wpV_nil (hLk _ (fun w18 Sw18 => ?_))
 clear hLk Lk
 simp only [List.take, List.drop]
 replace M := M.sees Sw18
 refine wpL_nil (no_panic ?_)
 refine hK16 _ _ ?_
 refine wp_cond_true rfl ?_
 refine wp_seq_k (fun K19 hK19 => ?_)
 refine wp_region_seq ?_
 refine wpL_chunk 13 (by rfl) (fun Lk hLk => ?_)
 simp only [List.take, List.drop]
 refine wpV_callf (v := .bool true) (args := #[]) (by rfl) rfl Tryd.func49 (by kernel_rfl) (by kernel_rfl) rfl (fun W hW => alive09_c ((M.sees hW).oldL L0) ((M.sees hW).oldR R0_0 L0)) ?_
 simp only [putT, List.set]
 refine wpV_move (v := .bool true) (by rfl) rfl rfl ?_
 simp only [putT, List.set]
 refine wpV_move (v := .int .i64 1) (by rfl) rfl rfl ?_
 simp only [putT, List.set]
 refine wpV_bin (v := .bool true) (by rfl) rfl rfl rfl (fun W => run_eql _ _ _ _ W) ?_
 simp only [putT, List.set]
 refine wpV_pick (v := .bool true) (by rfl) rfl rfl rfl ?_
 simp only [putT, List.set]
 refine wpV_move (v := .bool true) (by rfl) rfl rfl ?_
 simp only [putT, List.set]
 refine wpV_move (v := .string (bs ([]))) (by rfl) rfl rfl ?_
 simp only [putT, List.set]
 refine wpV_binS (v := .bool true) (by rfl) rfl rfl rfl (fun W => (run_eql_bs _ _ _ W).trans (by rw [show decide ([] = []) = true from (decide_eq_true rfl)])) ?_
 simp only [putT, List.set]
 refine wpV_pick (v := .bool true) (by rfl) rfl rfl rfl ?_
 simp only [putT, List.set]
 refine wpV_move (v := .bool true) (by rfl) rfl rfl ?_
 simp only [putT, List.set]
 refine wpV_move (v := .string (bs ([]))) (by rfl) rfl rfl ?_
 simp only [putT, List.set]
 refine wpV_binS (v := .bool true) (by rfl) rfl rfl rfl (fun W => (run_eql_bs _ _ _ W).trans (by rw [show decide ([] = []) = true from (decide_eq_true rfl)])) ?_
 simp only [putT, List.set]
 refine wpV_pick (v := .bool true) (by rfl) rfl rfl rfl ?_
 simp only [putT, List.set]
 refine wpV_nil (hLk _ (fun w21 Sw21 => ?_))
 clear hLk Lk
 simp only [List.take, List.drop]
 replace M := M.sees Sw21
 refine wpL_assign (v := .bool true) (by rfl) (by rfl) (by rfl) ?_
 simp only [putT, List.set]
 refine wpL_nil (no_panic ?_)
 refine hK19 _ _ ?_
 refine wp_ret ?_
 repeat (first | with_reducible refine then_ret ?_ | with_reducible refine inblock_ret ?_)
 refine bodyPost_ret (v := .bool true) (res1 rfl (.tmp (by rfl))) rfl ?_
 have BE := M.below
 exact ⟨rfl, BE⟩
set_option maxRecDepth 100000 in
set_option maxHeartbeats 4000000 in
theorem lclash_far {vls vms : Value} {ls ms Pl Ql : List (List UInt8)} {ra rb la lb : List UInt8} {x y : Int} {w : World} (hQ1 : cutsS 50 40 ls = Pl) (hQ2 : cutsS 50 40 ms = Ql) (hPL : Pl.length ≤ 50) (hQL : Ql.length ≤ 50) (hL : cut ra 40 = la) (hR : cut rb 40 = lb) (hx : ¬ x < 0) (hy : y ≤ x) (L0 : 0 < w.heap.size) (R0_0 : w.rangeAt 0 0 kcells) (hvls : RowS w vls ls) (hvms : RowS w vms ms) :
  Calls Tryd.prog 16 #[.string (bs ra), .string (bs rb), .int .i64 x, .int .i64 y, vls, vms] w fun e w' => e = .returned (.bool true) ∧ Below w.heap.size w w' := by
 have h4 : Pl.length ≤ 4096 := by omega
 have h4q : Ql.length ≤ 4096 := by omega
 go_enter Tryd.func16, Tryd.ntmps16
 have M := Mem.start w
 refine wp_seq_k (fun K1 hK1 => ?_)
 refine wp_region_seq ?_
 refine wpL_assign (v := .bool false) (by rfl) (by rfl) (by rfl) ?_
 simp only [putT, List.set]
 refine wpL_nil (no_panic ?_)
 refine hK1 _ _ ?_
 refine wp_seq_k (fun K3 hK3 => ?_)
 refine wp_region_seq ?_
 refine wpL_move (v := vls) (by rfl) (by rfl) (by rfl) ?_
 simp only [putT, List.set]
 refine wpL_callE (f := 46) (args := #[vls]) (R := MemRow w ((cutsS 50 40 ls).length) (scells (cutsS 50 40 ls))) (by rfl) (by rfl) rfl Tryd.func46 (by kernel_rfl) (by kernel_rfl) (few9_c (hvls.mem M)) (fun v9 w6 hv9 Sw6 => ?_)
 obtain ⟨g5, g5c, rfl, Cg5, M9⟩ := hv9
 replace M := M.call1 M9
 simp only [putT, List.set]
 refine wpL_move (v := vms) (by rfl) (by rfl) (by rfl) ?_
 simp only [putT, List.set]
 refine wpL_callE (f := 46) (args := #[vms]) (R := MemRow w6 ((cutsS 50 40 ms).length) (scells (cutsS 50 40 ms))) (by rfl) (by rfl) rfl Tryd.func46 (by kernel_rfl) (by kernel_rfl) (few9_c (hvms.mem M)) (fun v9 w8 hv9 Sw8 => ?_)
 obtain ⟨g7, g7c, rfl, Cg7, M9⟩ := hv9
 replace M := M.call1 M9
 simp only [putT, List.set]
 refine wpL_assign (v := .slice (some ⟨g5, 0, none⟩) ((cutsS 50 40 ls).length) g5c) (by rfl) (by rfl) (by rfl) ?_
 simp only [putT, List.set]
 refine wpL_assign (v := .slice (some ⟨g7, 0, none⟩) ((cutsS 50 40 ms).length) g7c) (by rfl) (by rfl) (by rfl) ?_
 simp only [putT, List.set]
 refine wpL_nil (no_panic ?_)
 simp only [hQ1, hQ2] at M
 simp only [hQ1, hQ2]
 rw [hQ2] at Cg7
 rw [hQ1] at Cg5
 refine hK3 _ _ ?_
 refine wp_seq_k (fun K9 hK9 => ?_)
 refine wp_region_grow 12 [] (by kernel_rfl) (by kernel_rfl) (by kernel_rfl) (fun Lk hLk => ?_)
 simp only [List.take, List.drop]
 refine wpV_move (v := .string (bs ra)) (by rfl) rfl rfl ?_
 simp only [putT, List.set]
 refine wpV_move (v := .string (bs ra)) (by rfl) rfl rfl ?_
 simp only [putT, List.set]
 refine wpV_lenS (by rfl) rfl rfl rfl Tryd.underlying9 ?_
 simp only [putT, List.set]
 refine wpV_min (n := ra.length) (m := 40) (by rfl) rfl rfl rfl ?_
 simp only [putT, List.set]
 refine wpV_cut (l := ra) (m := 40) (by rfl) rfl rfl rfl Tryd.underlying9 ?_
 simp only [putT, List.set]
 refine wpV_move (v := .string (bs rb)) (by rfl) rfl rfl ?_
 simp only [putT, List.set]
 refine wpV_move (v := .string (bs rb)) (by rfl) rfl rfl ?_
 simp only [putT, List.set]
 refine wpV_lenS (by rfl) rfl rfl rfl Tryd.underlying9 ?_
 simp only [putT, List.set]
 refine wpV_min (n := rb.length) (m := 40) (by rfl) rfl rfl rfl ?_
 simp only [putT, List.set]
 refine wpV_cut (l := rb) (m := 40) (by rfl) rfl rfl rfl Tryd.underlying9 ?_
 simp only [putT, List.set]
 refine wpV_assign (v := .string (bs (cut ra 40))) (by rfl) rfl rfl ?_
 simp only [putT, List.set]
 refine wpV_assign (v := .string (bs (cut rb 40))) (by rfl) rfl rfl ?_
 simp only [putT, List.set]
 refine wpV_nil (hLk.out _ ?_)
 clear hLk Lk
 simp only [List.take, List.drop]
 iterate 12 refine wpN_skip (by rfl) ?_
 refine wpN_nil (fun w11 Sw11 hbs => ?_)
 clear hbs
 replace M := M.sees Sw11
 refine wpL_nil (no_panic ?_)
 simp only [hL, hR]
 refine hK9 _ _ ?_
 refine wp_seq_k (fun K12 hK12 => ?_)
 refine wp_region_seq ?_
 refine wpL_move (v := .string (bs la)) (by rfl) (by rfl) (by rfl) ?_
 simp only [putT, List.set]
 refine wpL_move (v := .string (bs lb)) (by rfl) (by rfl) (by rfl) ?_
 simp only [putT, List.set]
 refine wpL_move (v := .int .i64 x) (by rfl) (by rfl) (by rfl) ?_
 simp only [putT, List.set]
 refine wpL_move (v := .int .i64 y) (by rfl) (by rfl) (by rfl) ?_
 simp only [putT, List.set]
 refine wpL_move (v := .slice (some ⟨g5, 0, none⟩) Pl.length g5c) (by rfl) (by rfl) (by rfl) ?_
 simp only [putT, List.set]
 refine wpL_move (v := .slice (some ⟨g7, 0, none⟩) Ql.length g7c) (by rfl) (by rfl) (by rfl) ?_
 simp only [putT, List.set]
 refine wpL_chunk 5 (by rfl) (fun Lk hLk => ?_)
 simp only [List.take, List.drop]
 refine wpV_callf (v := .tuple #[.string (bs ([])), .string (bs ([])), .int .i64 1]) (args := #[.string (bs la), .string (bs lb), .int .i64 x, .int .i64 y, .slice (some ⟨g5, 0, none⟩) Pl.length g5c, .slice (some ⟨g7, 0, none⟩) Ql.length g7c]) (by rfl) rfl Tryd.func65 (by kernel_rfl) (by kernel_rfl) rfl (fun W hW => by with_reducible exact Clash_far h4 h4q hx hy ((M.sees hW).oldL L0) ((M.sees hW).oldR R0_0 L0) (RowA.of ((M.sees hW).r 1 0 rfl rfl) ((M.sees hW).lt 1 rfl) (scells_len _).symm Cg5) (RowA.of ((M.sees hW).r 0 0 rfl rfl) ((M.sees hW).lt 0 rfl) (scells_len _).symm Cg7)) ?_
 simp only [putT, List.set]
 refine wpV_move (v := .tuple #[.string (bs ([])), .string (bs ([])), .int .i64 1]) (by rfl) rfl rfl ?_
 simp only [putT, List.set]
 refine wpV_extract (v := .string (bs ([]))) (by rfl) rfl rfl rfl ?_
 simp only [putT, List.set]
 refine wpV_extract (v := .string (bs ([]))) (by rfl) rfl rfl rfl ?_
 simp only [putT, List.set]
 refine wpV_extract (v := .int .i64 1) (by rfl) rfl rfl rfl ?_
 simp only [putT, List.set]
 refine wpV_nil (hLk _ (fun w14 Sw14 => ?_))
 clear hLk Lk
 simp only [List.take, List.drop]
 replace M := M.sees Sw14
 refine wpL_assign (v := .string (bs ([]))) (by rfl) (by rfl) (by rfl) ?_
 simp only [putT, List.set]
 refine wpL_assign (v := .string (bs ([]))) (by rfl) (by rfl) (by rfl) ?_
 simp only [putT, List.set]
 refine wpL_assign (v := .int .i64 1) (by rfl) (by rfl) (by rfl) ?_
 simp only [putT, List.set]
 refine wpL_nil (no_panic ?_)
 refine hK12 _ _ ?_
 refine wp_seq_k (fun K15 hK15 => ?_)
 refine wp_seq_k (fun K16 hK16 => ?_)
 refine wp_region_seq ?_
 refine wpL_move (v := .int .i64 x) (by rfl) (by rfl) (by rfl) ?_
 simp only [putT, List.set]
 refine wpL_chunk 30 (by rfl) (fun Lk hLk => ?_)
 simp only [List.take, List.drop]
 refine wpV_bin (v := .bool false) (by rfl) rfl rfl rfl (fun W => (run_lss _ _ _ _ W).trans (by rw [(decide_eq_false hx)])) ?_
 simp only [putT, List.set]
 refine wpV_move (v := .bool false) (by rfl) rfl rfl ?_
 simp only [putT, List.set]
 refine wpV_move (v := .int .i64 x) (by rfl) rfl rfl ?_
 simp only [putT, List.set]
 refine wpV_move (v := .int .i64 y) (by rfl) rfl rfl ?_
 simp only [putT, List.set]
 refine wpV_bin (v := .bool true) (by rfl) rfl rfl rfl (fun W => (run_geq _ _ _ _ W).trans (by rw [(decide_eq_true hy)])) ?_
 simp only [putT, List.set]
 refine wpV_pick (v := .bool true) (by rfl) rfl rfl rfl ?_
 simp only [putT, List.set]
 refine wpV_move (v := .bool true) (by rfl) rfl rfl ?_
 simp only [putT, List.set]
 refine wpV_skip (by rfl) (by rfl) ?_
 simp only [putT, List.set]
 refine wpV_skip (by rfl) (by rfl) ?_
 simp only [putT, List.set]
 refine wpV_pick (v := .bool true) (by rfl) rfl rfl rfl ?_
 simp only [putT, List.set]
 refine wpV_move (v := .bool true) (by rfl) rfl rfl ?_
 simp only [putT, List.set]
 refine wpV_skip (by rfl) (by rfl) ?_
 simp only [putT, List.set]
 refine wpV_skip (by rfl) (by rfl) ?_
 simp only [putT, List.set]
 refine wpV_skip (by rfl) (by rfl) ?_
 simp only [putT, List.set]
 refine wpV_pick (v := .bool true) (by rfl) rfl rfl rfl ?_
 simp only [putT, List.set]
 refine wpV_move (v := .bool true) (by rfl) rfl rfl ?_
 simp only [putT, List.set]
 refine wpV_skip (by rfl) (by rfl) ?_
 simp only [putT, List.set]
 refine wpV_skip (by rfl) (by rfl) ?_
 simp only [putT, List.set]
 refine wpV_skip (by rfl) (by rfl) ?_
 simp only [putT, List.set]
 refine wpV_pick (v := .bool true) (by rfl) rfl rfl rfl ?_
 simp only [putT, List.set]
 refine wpV_move (v := .bool true) (by rfl) rfl rfl ?_
 simp only [putT, List.set]
 refine wpV_skip (by rfl) (by rfl) ?_
 simp only [putT, List.set]
 refine wpV_skip (by rfl) (by rfl) ?_
 simp only [putT, List.set]
 refine wpV_skip (by rfl) (by rfl) ?_
 simp only [putT, List.set]
 refine wpV_pick (v := .bool true) (by rfl) rfl rfl rfl ?_
 simp only [putT, List.set]
 refine wpV_move (v := .bool true) (by rfl) rfl rfl ?_
 simp only [putT, List.set]
 refine wpV_skip (by rfl) (by rfl) ?_
 simp only [putT, List.set]
 refine wpV_skip (by rfl) (by rfl) ?_
 simp only [putT, List.set]
 refine wpV_skip (by rfl) (by rfl) ?_
 simp only [putT, List.set]
 refine wpV_pick (v := .bool true) (by rfl) rfl rfl rfl ?_
 simp only [putT, List.set]
 refine wpV_nil (hLk _ (fun w18 Sw18 => ?_))
 clear hLk Lk
 simp only [List.take, List.drop]
 replace M := M.sees Sw18
 refine wpL_nil (no_panic ?_)
 refine hK16 _ _ ?_
 refine wp_cond_true rfl ?_
 refine wp_seq_k (fun K19 hK19 => ?_)
 refine wp_region_seq ?_
 refine wpL_chunk 13 (by rfl) (fun Lk hLk => ?_)
 simp only [List.take, List.drop]
 refine wpV_callf (v := .bool true) (args := #[]) (by rfl) rfl Tryd.func49 (by kernel_rfl) (by kernel_rfl) rfl (fun W hW => alive09_c ((M.sees hW).oldL L0) ((M.sees hW).oldR R0_0 L0)) ?_
 simp only [putT, List.set]
 refine wpV_move (v := .bool true) (by rfl) rfl rfl ?_
 simp only [putT, List.set]
 refine wpV_move (v := .int .i64 1) (by rfl) rfl rfl ?_
 simp only [putT, List.set]
 refine wpV_bin (v := .bool true) (by rfl) rfl rfl rfl (fun W => run_eql _ _ _ _ W) ?_
 simp only [putT, List.set]
 refine wpV_pick (v := .bool true) (by rfl) rfl rfl rfl ?_
 simp only [putT, List.set]
 refine wpV_move (v := .bool true) (by rfl) rfl rfl ?_
 simp only [putT, List.set]
 refine wpV_move (v := .string (bs ([]))) (by rfl) rfl rfl ?_
 simp only [putT, List.set]
 refine wpV_binS (v := .bool true) (by rfl) rfl rfl rfl (fun W => (run_eql_bs _ _ _ W).trans (by rw [show decide ([] = []) = true from (decide_eq_true rfl)])) ?_
 simp only [putT, List.set]
 refine wpV_pick (v := .bool true) (by rfl) rfl rfl rfl ?_
 simp only [putT, List.set]
 refine wpV_move (v := .bool true) (by rfl) rfl rfl ?_
 simp only [putT, List.set]
 refine wpV_move (v := .string (bs ([]))) (by rfl) rfl rfl ?_
 simp only [putT, List.set]
 refine wpV_binS (v := .bool true) (by rfl) rfl rfl rfl (fun W => (run_eql_bs _ _ _ W).trans (by rw [show decide ([] = []) = true from (decide_eq_true rfl)])) ?_
 simp only [putT, List.set]
 refine wpV_pick (v := .bool true) (by rfl) rfl rfl rfl ?_
 simp only [putT, List.set]
 refine wpV_nil (hLk _ (fun w21 Sw21 => ?_))
 clear hLk Lk
 simp only [List.take, List.drop]
 replace M := M.sees Sw21
 refine wpL_assign (v := .bool true) (by rfl) (by rfl) (by rfl) ?_
 simp only [putT, List.set]
 refine wpL_nil (no_panic ?_)
 refine hK19 _ _ ?_
 refine wp_ret ?_
 repeat (first | with_reducible refine then_ret ?_ | with_reducible refine inblock_ret ?_)
 refine bodyPost_ret (v := .bool true) (res1 rfl (.tmp (by rfl))) rfl ?_
 have BE := M.below
 exact ⟨rfl, BE⟩
set_option maxRecDepth 100000 in
set_option maxHeartbeats 4000000 in
theorem lclash_many {vls vms : Value} {ls ms Pl Ql : List (List UInt8)} {ra rb la lb : List UInt8} {x y : Int} {w : World} (hQ1 : cutsS 50 40 ls = Pl) (hQ2 : cutsS 50 40 ms = Ql) (hPL : Pl.length ≤ 50) (hQL : Ql.length ≤ 50) (hL : cut ra 40 = la) (hR : cut rb 40 = lb) (hx : ¬ x < 0) (hy : ¬ y ≤ x) (hm : 4096 < y) (L0 : 0 < w.heap.size) (R0_0 : w.rangeAt 0 0 kcells) (hvls : RowS w vls ls) (hvms : RowS w vms ms) :
  Calls Tryd.prog 16 #[.string (bs ra), .string (bs rb), .int .i64 x, .int .i64 y, vls, vms] w fun e w' => e = .returned (.bool true) ∧ Below w.heap.size w w' := by
 have h4 : Pl.length ≤ 4096 := by omega
 have h4q : Ql.length ≤ 4096 := by omega
 go_enter Tryd.func16, Tryd.ntmps16
 have M := Mem.start w
 refine wp_seq_k (fun K1 hK1 => ?_)
 refine wp_region_seq ?_
 refine wpL_assign (v := .bool false) (by rfl) (by rfl) (by rfl) ?_
 simp only [putT, List.set]
 refine wpL_nil (no_panic ?_)
 refine hK1 _ _ ?_
 refine wp_seq_k (fun K3 hK3 => ?_)
 refine wp_region_seq ?_
 refine wpL_move (v := vls) (by rfl) (by rfl) (by rfl) ?_
 simp only [putT, List.set]
 refine wpL_callE (f := 46) (args := #[vls]) (R := MemRow w ((cutsS 50 40 ls).length) (scells (cutsS 50 40 ls))) (by rfl) (by rfl) rfl Tryd.func46 (by kernel_rfl) (by kernel_rfl) (few9_c (hvls.mem M)) (fun v9 w6 hv9 Sw6 => ?_)
 obtain ⟨g5, g5c, rfl, Cg5, M9⟩ := hv9
 replace M := M.call1 M9
 simp only [putT, List.set]
 refine wpL_move (v := vms) (by rfl) (by rfl) (by rfl) ?_
 simp only [putT, List.set]
 refine wpL_callE (f := 46) (args := #[vms]) (R := MemRow w6 ((cutsS 50 40 ms).length) (scells (cutsS 50 40 ms))) (by rfl) (by rfl) rfl Tryd.func46 (by kernel_rfl) (by kernel_rfl) (few9_c (hvms.mem M)) (fun v9 w8 hv9 Sw8 => ?_)
 obtain ⟨g7, g7c, rfl, Cg7, M9⟩ := hv9
 replace M := M.call1 M9
 simp only [putT, List.set]
 refine wpL_assign (v := .slice (some ⟨g5, 0, none⟩) ((cutsS 50 40 ls).length) g5c) (by rfl) (by rfl) (by rfl) ?_
 simp only [putT, List.set]
 refine wpL_assign (v := .slice (some ⟨g7, 0, none⟩) ((cutsS 50 40 ms).length) g7c) (by rfl) (by rfl) (by rfl) ?_
 simp only [putT, List.set]
 refine wpL_nil (no_panic ?_)
 simp only [hQ1, hQ2] at M
 simp only [hQ1, hQ2]
 rw [hQ2] at Cg7
 rw [hQ1] at Cg5
 refine hK3 _ _ ?_
 refine wp_seq_k (fun K9 hK9 => ?_)
 refine wp_region_grow 12 [] (by kernel_rfl) (by kernel_rfl) (by kernel_rfl) (fun Lk hLk => ?_)
 simp only [List.take, List.drop]
 refine wpV_move (v := .string (bs ra)) (by rfl) rfl rfl ?_
 simp only [putT, List.set]
 refine wpV_move (v := .string (bs ra)) (by rfl) rfl rfl ?_
 simp only [putT, List.set]
 refine wpV_lenS (by rfl) rfl rfl rfl Tryd.underlying9 ?_
 simp only [putT, List.set]
 refine wpV_min (n := ra.length) (m := 40) (by rfl) rfl rfl rfl ?_
 simp only [putT, List.set]
 refine wpV_cut (l := ra) (m := 40) (by rfl) rfl rfl rfl Tryd.underlying9 ?_
 simp only [putT, List.set]
 refine wpV_move (v := .string (bs rb)) (by rfl) rfl rfl ?_
 simp only [putT, List.set]
 refine wpV_move (v := .string (bs rb)) (by rfl) rfl rfl ?_
 simp only [putT, List.set]
 refine wpV_lenS (by rfl) rfl rfl rfl Tryd.underlying9 ?_
 simp only [putT, List.set]
 refine wpV_min (n := rb.length) (m := 40) (by rfl) rfl rfl rfl ?_
 simp only [putT, List.set]
 refine wpV_cut (l := rb) (m := 40) (by rfl) rfl rfl rfl Tryd.underlying9 ?_
 simp only [putT, List.set]
 refine wpV_assign (v := .string (bs (cut ra 40))) (by rfl) rfl rfl ?_
 simp only [putT, List.set]
 refine wpV_assign (v := .string (bs (cut rb 40))) (by rfl) rfl rfl ?_
 simp only [putT, List.set]
 refine wpV_nil (hLk.out _ ?_)
 clear hLk Lk
 simp only [List.take, List.drop]
 iterate 12 refine wpN_skip (by rfl) ?_
 refine wpN_nil (fun w11 Sw11 hbs => ?_)
 clear hbs
 replace M := M.sees Sw11
 refine wpL_nil (no_panic ?_)
 simp only [hL, hR]
 refine hK9 _ _ ?_
 refine wp_seq_k (fun K12 hK12 => ?_)
 refine wp_region_seq ?_
 refine wpL_move (v := .string (bs la)) (by rfl) (by rfl) (by rfl) ?_
 simp only [putT, List.set]
 refine wpL_move (v := .string (bs lb)) (by rfl) (by rfl) (by rfl) ?_
 simp only [putT, List.set]
 refine wpL_move (v := .int .i64 x) (by rfl) (by rfl) (by rfl) ?_
 simp only [putT, List.set]
 refine wpL_move (v := .int .i64 y) (by rfl) (by rfl) (by rfl) ?_
 simp only [putT, List.set]
 refine wpL_move (v := .slice (some ⟨g5, 0, none⟩) Pl.length g5c) (by rfl) (by rfl) (by rfl) ?_
 simp only [putT, List.set]
 refine wpL_move (v := .slice (some ⟨g7, 0, none⟩) Ql.length g7c) (by rfl) (by rfl) (by rfl) ?_
 simp only [putT, List.set]
 refine wpL_chunk 5 (by rfl) (fun Lk hLk => ?_)
 simp only [List.take, List.drop]
 refine wpV_callf (v := .tuple #[.string (bs ([])), .string (bs ([])), .int .i64 1]) (args := #[.string (bs la), .string (bs lb), .int .i64 x, .int .i64 y, .slice (some ⟨g5, 0, none⟩) Pl.length g5c, .slice (some ⟨g7, 0, none⟩) Ql.length g7c]) (by rfl) rfl Tryd.func65 (by kernel_rfl) (by kernel_rfl) rfl (fun W hW => by with_reducible exact Clash_many h4 h4q hx hy hm ((M.sees hW).oldL L0) ((M.sees hW).oldR R0_0 L0) (RowA.of ((M.sees hW).r 1 0 rfl rfl) ((M.sees hW).lt 1 rfl) (scells_len _).symm Cg5) (RowA.of ((M.sees hW).r 0 0 rfl rfl) ((M.sees hW).lt 0 rfl) (scells_len _).symm Cg7)) ?_
 simp only [putT, List.set]
 refine wpV_move (v := .tuple #[.string (bs ([])), .string (bs ([])), .int .i64 1]) (by rfl) rfl rfl ?_
 simp only [putT, List.set]
 refine wpV_extract (v := .string (bs ([]))) (by rfl) rfl rfl rfl ?_
 simp only [putT, List.set]
 refine wpV_extract (v := .string (bs ([]))) (by rfl) rfl rfl rfl ?_
 simp only [putT, List.set]
 refine wpV_extract (v := .int .i64 1) (by rfl) rfl rfl rfl ?_
 simp only [putT, List.set]
 refine wpV_nil (hLk _ (fun w14 Sw14 => ?_))
 clear hLk Lk
 simp only [List.take, List.drop]
 replace M := M.sees Sw14
 refine wpL_assign (v := .string (bs ([]))) (by rfl) (by rfl) (by rfl) ?_
 simp only [putT, List.set]
 refine wpL_assign (v := .string (bs ([]))) (by rfl) (by rfl) (by rfl) ?_
 simp only [putT, List.set]
 refine wpL_assign (v := .int .i64 1) (by rfl) (by rfl) (by rfl) ?_
 simp only [putT, List.set]
 refine wpL_nil (no_panic ?_)
 refine hK12 _ _ ?_
 refine wp_seq_k (fun K15 hK15 => ?_)
 refine wp_seq_k (fun K16 hK16 => ?_)
 refine wp_region_seq ?_
 refine wpL_move (v := .int .i64 x) (by rfl) (by rfl) (by rfl) ?_
 simp only [putT, List.set]
 refine wpL_chunk 30 (by rfl) (fun Lk hLk => ?_)
 simp only [List.take, List.drop]
 refine wpV_bin (v := .bool false) (by rfl) rfl rfl rfl (fun W => (run_lss _ _ _ _ W).trans (by rw [(decide_eq_false hx)])) ?_
 simp only [putT, List.set]
 refine wpV_move (v := .bool false) (by rfl) rfl rfl ?_
 simp only [putT, List.set]
 refine wpV_move (v := .int .i64 x) (by rfl) rfl rfl ?_
 simp only [putT, List.set]
 refine wpV_move (v := .int .i64 y) (by rfl) rfl rfl ?_
 simp only [putT, List.set]
 refine wpV_bin (v := .bool false) (by rfl) rfl rfl rfl (fun W => (run_geq _ _ _ _ W).trans (by rw [(decide_eq_false hy)])) ?_
 simp only [putT, List.set]
 refine wpV_pick (v := .bool false) (by rfl) rfl rfl rfl ?_
 simp only [putT, List.set]
 refine wpV_move (v := .bool false) (by rfl) rfl rfl ?_
 simp only [putT, List.set]
 refine wpV_move (v := .int .i64 y) (by rfl) rfl rfl ?_
 simp only [putT, List.set]
 refine wpV_bin (v := .bool true) (by rfl) rfl rfl rfl (fun W => (run_gtr _ _ _ _ W).trans (by rw [(decide_eq_true hm)])) ?_
 simp only [putT, List.set]
 refine wpV_pick (v := .bool true) (by rfl) rfl rfl rfl ?_
 simp only [putT, List.set]
 refine wpV_move (v := .bool true) (by rfl) rfl rfl ?_
 simp only [putT, List.set]
 refine wpV_skip (by rfl) (by rfl) ?_
 simp only [putT, List.set]
 refine wpV_skip (by rfl) (by rfl) ?_
 simp only [putT, List.set]
 refine wpV_skip (by rfl) (by rfl) ?_
 simp only [putT, List.set]
 refine wpV_pick (v := .bool true) (by rfl) rfl rfl rfl ?_
 simp only [putT, List.set]
 refine wpV_move (v := .bool true) (by rfl) rfl rfl ?_
 simp only [putT, List.set]
 refine wpV_skip (by rfl) (by rfl) ?_
 simp only [putT, List.set]
 refine wpV_skip (by rfl) (by rfl) ?_
 simp only [putT, List.set]
 refine wpV_skip (by rfl) (by rfl) ?_
 simp only [putT, List.set]
 refine wpV_pick (v := .bool true) (by rfl) rfl rfl rfl ?_
 simp only [putT, List.set]
 refine wpV_move (v := .bool true) (by rfl) rfl rfl ?_
 simp only [putT, List.set]
 refine wpV_skip (by rfl) (by rfl) ?_
 simp only [putT, List.set]
 refine wpV_skip (by rfl) (by rfl) ?_
 simp only [putT, List.set]
 refine wpV_skip (by rfl) (by rfl) ?_
 simp only [putT, List.set]
 refine wpV_pick (v := .bool true) (by rfl) rfl rfl rfl ?_
 simp only [putT, List.set]
 refine wpV_move (v := .bool true) (by rfl) rfl rfl ?_
 simp only [putT, List.set]
 refine wpV_skip (by rfl) (by rfl) ?_
 simp only [putT, List.set]
 refine wpV_skip (by rfl) (by rfl) ?_
 simp only [putT, List.set]
 refine wpV_skip (by rfl) (by rfl) ?_
 simp only [putT, List.set]
 refine wpV_pick (v := .bool true) (by rfl) rfl rfl rfl ?_
 simp only [putT, List.set]
 refine wpV_nil (hLk _ (fun w18 Sw18 => ?_))
 clear hLk Lk
 simp only [List.take, List.drop]
 replace M := M.sees Sw18
 refine wpL_nil (no_panic ?_)
 refine hK16 _ _ ?_
 refine wp_cond_true rfl ?_
 refine wp_seq_k (fun K19 hK19 => ?_)
 refine wp_region_seq ?_
 refine wpL_chunk 13 (by rfl) (fun Lk hLk => ?_)
 simp only [List.take, List.drop]
 refine wpV_callf (v := .bool true) (args := #[]) (by rfl) rfl Tryd.func49 (by kernel_rfl) (by kernel_rfl) rfl (fun W hW => alive09_c ((M.sees hW).oldL L0) ((M.sees hW).oldR R0_0 L0)) ?_
 simp only [putT, List.set]
 refine wpV_move (v := .bool true) (by rfl) rfl rfl ?_
 simp only [putT, List.set]
 refine wpV_move (v := .int .i64 1) (by rfl) rfl rfl ?_
 simp only [putT, List.set]
 refine wpV_bin (v := .bool true) (by rfl) rfl rfl rfl (fun W => run_eql _ _ _ _ W) ?_
 simp only [putT, List.set]
 refine wpV_pick (v := .bool true) (by rfl) rfl rfl rfl ?_
 simp only [putT, List.set]
 refine wpV_move (v := .bool true) (by rfl) rfl rfl ?_
 simp only [putT, List.set]
 refine wpV_move (v := .string (bs ([]))) (by rfl) rfl rfl ?_
 simp only [putT, List.set]
 refine wpV_binS (v := .bool true) (by rfl) rfl rfl rfl (fun W => (run_eql_bs _ _ _ W).trans (by rw [show decide ([] = []) = true from (decide_eq_true rfl)])) ?_
 simp only [putT, List.set]
 refine wpV_pick (v := .bool true) (by rfl) rfl rfl rfl ?_
 simp only [putT, List.set]
 refine wpV_move (v := .bool true) (by rfl) rfl rfl ?_
 simp only [putT, List.set]
 refine wpV_move (v := .string (bs ([]))) (by rfl) rfl rfl ?_
 simp only [putT, List.set]
 refine wpV_binS (v := .bool true) (by rfl) rfl rfl rfl (fun W => (run_eql_bs _ _ _ W).trans (by rw [show decide ([] = []) = true from (decide_eq_true rfl)])) ?_
 simp only [putT, List.set]
 refine wpV_pick (v := .bool true) (by rfl) rfl rfl rfl ?_
 simp only [putT, List.set]
 refine wpV_nil (hLk _ (fun w21 Sw21 => ?_))
 clear hLk Lk
 simp only [List.take, List.drop]
 replace M := M.sees Sw21
 refine wpL_assign (v := .bool true) (by rfl) (by rfl) (by rfl) ?_
 simp only [putT, List.set]
 refine wpL_nil (no_panic ?_)
 refine hK19 _ _ ?_
 refine wp_ret ?_
 repeat (first | with_reducible refine then_ret ?_ | with_reducible refine inblock_ret ?_)
 refine bodyPost_ret (v := .bool true) (res1 rfl (.tmp (by rfl))) rfl ?_
 have BE := M.below
 exact ⟨rfl, BE⟩
set_option maxRecDepth 100000 in
set_option maxHeartbeats 4000000 in
theorem lclash_la {vls vms : Value} {ls ms Pl Ql : List (List UInt8)} {ra rb la lb : List UInt8} {x y : Int} {w : World} (hQ1 : cutsS 50 40 ls = Pl) (hQ2 : cutsS 50 40 ms = Ql) (hPL : Pl.length ≤ 50) (hQL : Ql.length ≤ 50) (hL : cut ra 40 = la) (hR : cut rb 40 = lb) (hx : ¬ x < 0) (hy : ¬ y ≤ x) (hm : ¬ 4096 < y) (h1 : la.length ≠ 32) (L0 : 0 < w.heap.size) (R0_0 : w.rangeAt 0 0 kcells) (hvls : RowS w vls ls) (hvms : RowS w vms ms) :
  Calls Tryd.prog 16 #[.string (bs ra), .string (bs rb), .int .i64 x, .int .i64 y, vls, vms] w fun e w' => e = .returned (.bool true) ∧ Below w.heap.size w w' := by
 have h4 : Pl.length ≤ 4096 := by omega
 have h4q : Ql.length ≤ 4096 := by omega
 go_enter Tryd.func16, Tryd.ntmps16
 have M := Mem.start w
 refine wp_seq_k (fun K1 hK1 => ?_)
 refine wp_region_seq ?_
 refine wpL_assign (v := .bool false) (by rfl) (by rfl) (by rfl) ?_
 simp only [putT, List.set]
 refine wpL_nil (no_panic ?_)
 refine hK1 _ _ ?_
 refine wp_seq_k (fun K3 hK3 => ?_)
 refine wp_region_seq ?_
 refine wpL_move (v := vls) (by rfl) (by rfl) (by rfl) ?_
 simp only [putT, List.set]
 refine wpL_callE (f := 46) (args := #[vls]) (R := MemRow w ((cutsS 50 40 ls).length) (scells (cutsS 50 40 ls))) (by rfl) (by rfl) rfl Tryd.func46 (by kernel_rfl) (by kernel_rfl) (few9_c (hvls.mem M)) (fun v9 w6 hv9 Sw6 => ?_)
 obtain ⟨g5, g5c, rfl, Cg5, M9⟩ := hv9
 replace M := M.call1 M9
 simp only [putT, List.set]
 refine wpL_move (v := vms) (by rfl) (by rfl) (by rfl) ?_
 simp only [putT, List.set]
 refine wpL_callE (f := 46) (args := #[vms]) (R := MemRow w6 ((cutsS 50 40 ms).length) (scells (cutsS 50 40 ms))) (by rfl) (by rfl) rfl Tryd.func46 (by kernel_rfl) (by kernel_rfl) (few9_c (hvms.mem M)) (fun v9 w8 hv9 Sw8 => ?_)
 obtain ⟨g7, g7c, rfl, Cg7, M9⟩ := hv9
 replace M := M.call1 M9
 simp only [putT, List.set]
 refine wpL_assign (v := .slice (some ⟨g5, 0, none⟩) ((cutsS 50 40 ls).length) g5c) (by rfl) (by rfl) (by rfl) ?_
 simp only [putT, List.set]
 refine wpL_assign (v := .slice (some ⟨g7, 0, none⟩) ((cutsS 50 40 ms).length) g7c) (by rfl) (by rfl) (by rfl) ?_
 simp only [putT, List.set]
 refine wpL_nil (no_panic ?_)
 simp only [hQ1, hQ2] at M
 simp only [hQ1, hQ2]
 rw [hQ2] at Cg7
 rw [hQ1] at Cg5
 refine hK3 _ _ ?_
 refine wp_seq_k (fun K9 hK9 => ?_)
 refine wp_region_grow 12 [] (by kernel_rfl) (by kernel_rfl) (by kernel_rfl) (fun Lk hLk => ?_)
 simp only [List.take, List.drop]
 refine wpV_move (v := .string (bs ra)) (by rfl) rfl rfl ?_
 simp only [putT, List.set]
 refine wpV_move (v := .string (bs ra)) (by rfl) rfl rfl ?_
 simp only [putT, List.set]
 refine wpV_lenS (by rfl) rfl rfl rfl Tryd.underlying9 ?_
 simp only [putT, List.set]
 refine wpV_min (n := ra.length) (m := 40) (by rfl) rfl rfl rfl ?_
 simp only [putT, List.set]
 refine wpV_cut (l := ra) (m := 40) (by rfl) rfl rfl rfl Tryd.underlying9 ?_
 simp only [putT, List.set]
 refine wpV_move (v := .string (bs rb)) (by rfl) rfl rfl ?_
 simp only [putT, List.set]
 refine wpV_move (v := .string (bs rb)) (by rfl) rfl rfl ?_
 simp only [putT, List.set]
 refine wpV_lenS (by rfl) rfl rfl rfl Tryd.underlying9 ?_
 simp only [putT, List.set]
 refine wpV_min (n := rb.length) (m := 40) (by rfl) rfl rfl rfl ?_
 simp only [putT, List.set]
 refine wpV_cut (l := rb) (m := 40) (by rfl) rfl rfl rfl Tryd.underlying9 ?_
 simp only [putT, List.set]
 refine wpV_assign (v := .string (bs (cut ra 40))) (by rfl) rfl rfl ?_
 simp only [putT, List.set]
 refine wpV_assign (v := .string (bs (cut rb 40))) (by rfl) rfl rfl ?_
 simp only [putT, List.set]
 refine wpV_nil (hLk.out _ ?_)
 clear hLk Lk
 simp only [List.take, List.drop]
 iterate 12 refine wpN_skip (by rfl) ?_
 refine wpN_nil (fun w11 Sw11 hbs => ?_)
 clear hbs
 replace M := M.sees Sw11
 refine wpL_nil (no_panic ?_)
 simp only [hL, hR]
 refine hK9 _ _ ?_
 refine wp_seq_k (fun K12 hK12 => ?_)
 refine wp_region_seq ?_
 refine wpL_move (v := .string (bs la)) (by rfl) (by rfl) (by rfl) ?_
 simp only [putT, List.set]
 refine wpL_move (v := .string (bs lb)) (by rfl) (by rfl) (by rfl) ?_
 simp only [putT, List.set]
 refine wpL_move (v := .int .i64 x) (by rfl) (by rfl) (by rfl) ?_
 simp only [putT, List.set]
 refine wpL_move (v := .int .i64 y) (by rfl) (by rfl) (by rfl) ?_
 simp only [putT, List.set]
 refine wpL_move (v := .slice (some ⟨g5, 0, none⟩) Pl.length g5c) (by rfl) (by rfl) (by rfl) ?_
 simp only [putT, List.set]
 refine wpL_move (v := .slice (some ⟨g7, 0, none⟩) Ql.length g7c) (by rfl) (by rfl) (by rfl) ?_
 simp only [putT, List.set]
 refine wpL_chunk 5 (by rfl) (fun Lk hLk => ?_)
 simp only [List.take, List.drop]
 refine wpV_callf (v := .tuple #[.string (bs ([])), .string (bs ([])), .int .i64 1]) (args := #[.string (bs la), .string (bs lb), .int .i64 x, .int .i64 y, .slice (some ⟨g5, 0, none⟩) Pl.length g5c, .slice (some ⟨g7, 0, none⟩) Ql.length g7c]) (by rfl) rfl Tryd.func65 (by kernel_rfl) (by kernel_rfl) rfl (fun W hW => by with_reducible exact Clash_two h4 h4q hx hy hm (two_no1 h1) ((M.sees hW).oldL L0) ((M.sees hW).oldR R0_0 L0) (RowA.of ((M.sees hW).r 1 0 rfl rfl) ((M.sees hW).lt 1 rfl) (scells_len _).symm Cg5) (RowA.of ((M.sees hW).r 0 0 rfl rfl) ((M.sees hW).lt 0 rfl) (scells_len _).symm Cg7)) ?_
 simp only [putT, List.set]
 refine wpV_move (v := .tuple #[.string (bs ([])), .string (bs ([])), .int .i64 1]) (by rfl) rfl rfl ?_
 simp only [putT, List.set]
 refine wpV_extract (v := .string (bs ([]))) (by rfl) rfl rfl rfl ?_
 simp only [putT, List.set]
 refine wpV_extract (v := .string (bs ([]))) (by rfl) rfl rfl rfl ?_
 simp only [putT, List.set]
 refine wpV_extract (v := .int .i64 1) (by rfl) rfl rfl rfl ?_
 simp only [putT, List.set]
 refine wpV_nil (hLk _ (fun w14 Sw14 => ?_))
 clear hLk Lk
 simp only [List.take, List.drop]
 replace M := M.sees Sw14
 refine wpL_assign (v := .string (bs ([]))) (by rfl) (by rfl) (by rfl) ?_
 simp only [putT, List.set]
 refine wpL_assign (v := .string (bs ([]))) (by rfl) (by rfl) (by rfl) ?_
 simp only [putT, List.set]
 refine wpL_assign (v := .int .i64 1) (by rfl) (by rfl) (by rfl) ?_
 simp only [putT, List.set]
 refine wpL_nil (no_panic ?_)
 refine hK12 _ _ ?_
 refine wp_seq_k (fun K15 hK15 => ?_)
 refine wp_seq_k (fun K16 hK16 => ?_)
 refine wp_region_seq ?_
 refine wpL_move (v := .int .i64 x) (by rfl) (by rfl) (by rfl) ?_
 simp only [putT, List.set]
 refine wpL_chunk 30 (by rfl) (fun Lk hLk => ?_)
 simp only [List.take, List.drop]
 refine wpV_bin (v := .bool false) (by rfl) rfl rfl rfl (fun W => (run_lss _ _ _ _ W).trans (by rw [(decide_eq_false hx)])) ?_
 simp only [putT, List.set]
 refine wpV_move (v := .bool false) (by rfl) rfl rfl ?_
 simp only [putT, List.set]
 refine wpV_move (v := .int .i64 x) (by rfl) rfl rfl ?_
 simp only [putT, List.set]
 refine wpV_move (v := .int .i64 y) (by rfl) rfl rfl ?_
 simp only [putT, List.set]
 refine wpV_bin (v := .bool false) (by rfl) rfl rfl rfl (fun W => (run_geq _ _ _ _ W).trans (by rw [(decide_eq_false hy)])) ?_
 simp only [putT, List.set]
 refine wpV_pick (v := .bool false) (by rfl) rfl rfl rfl ?_
 simp only [putT, List.set]
 refine wpV_move (v := .bool false) (by rfl) rfl rfl ?_
 simp only [putT, List.set]
 refine wpV_move (v := .int .i64 y) (by rfl) rfl rfl ?_
 simp only [putT, List.set]
 refine wpV_bin (v := .bool false) (by rfl) rfl rfl rfl (fun W => (run_gtr _ _ _ _ W).trans (by rw [(decide_eq_false hm)])) ?_
 simp only [putT, List.set]
 refine wpV_pick (v := .bool false) (by rfl) rfl rfl rfl ?_
 simp only [putT, List.set]
 refine wpV_move (v := .bool false) (by rfl) rfl rfl ?_
 simp only [putT, List.set]
 refine wpV_move (v := .string (bs la)) (by rfl) rfl rfl ?_
 simp only [putT, List.set]
 refine wpV_lenS (by rfl) rfl rfl rfl Tryd.underlying9 ?_
 simp only [putT, List.set]
 refine wpV_bin (v := .bool true) (by rfl) rfl rfl rfl (fun W => (run_neqN la.length 32 _ _ W).trans (by rw [(decide_eq_true h1)])) ?_
 simp only [putT, List.set]
 refine wpV_pick (v := .bool true) (by rfl) rfl rfl rfl ?_
 simp only [putT, List.set]
 refine wpV_move (v := .bool true) (by rfl) rfl rfl ?_
 simp only [putT, List.set]
 refine wpV_skip (by rfl) (by rfl) ?_
 simp only [putT, List.set]
 refine wpV_skip (by rfl) (by rfl) ?_
 simp only [putT, List.set]
 refine wpV_skip (by rfl) (by rfl) ?_
 simp only [putT, List.set]
 refine wpV_pick (v := .bool true) (by rfl) rfl rfl rfl ?_
 simp only [putT, List.set]
 refine wpV_move (v := .bool true) (by rfl) rfl rfl ?_
 simp only [putT, List.set]
 refine wpV_skip (by rfl) (by rfl) ?_
 simp only [putT, List.set]
 refine wpV_skip (by rfl) (by rfl) ?_
 simp only [putT, List.set]
 refine wpV_skip (by rfl) (by rfl) ?_
 simp only [putT, List.set]
 refine wpV_pick (v := .bool true) (by rfl) rfl rfl rfl ?_
 simp only [putT, List.set]
 refine wpV_move (v := .bool true) (by rfl) rfl rfl ?_
 simp only [putT, List.set]
 refine wpV_skip (by rfl) (by rfl) ?_
 simp only [putT, List.set]
 refine wpV_skip (by rfl) (by rfl) ?_
 simp only [putT, List.set]
 refine wpV_skip (by rfl) (by rfl) ?_
 simp only [putT, List.set]
 refine wpV_pick (v := .bool true) (by rfl) rfl rfl rfl ?_
 simp only [putT, List.set]
 refine wpV_nil (hLk _ (fun w18 Sw18 => ?_))
 clear hLk Lk
 simp only [List.take, List.drop]
 replace M := M.sees Sw18
 refine wpL_nil (no_panic ?_)
 refine hK16 _ _ ?_
 refine wp_cond_true rfl ?_
 refine wp_seq_k (fun K19 hK19 => ?_)
 refine wp_region_seq ?_
 refine wpL_chunk 13 (by rfl) (fun Lk hLk => ?_)
 simp only [List.take, List.drop]
 refine wpV_callf (v := .bool true) (args := #[]) (by rfl) rfl Tryd.func49 (by kernel_rfl) (by kernel_rfl) rfl (fun W hW => alive09_c ((M.sees hW).oldL L0) ((M.sees hW).oldR R0_0 L0)) ?_
 simp only [putT, List.set]
 refine wpV_move (v := .bool true) (by rfl) rfl rfl ?_
 simp only [putT, List.set]
 refine wpV_move (v := .int .i64 1) (by rfl) rfl rfl ?_
 simp only [putT, List.set]
 refine wpV_bin (v := .bool true) (by rfl) rfl rfl rfl (fun W => run_eql _ _ _ _ W) ?_
 simp only [putT, List.set]
 refine wpV_pick (v := .bool true) (by rfl) rfl rfl rfl ?_
 simp only [putT, List.set]
 refine wpV_move (v := .bool true) (by rfl) rfl rfl ?_
 simp only [putT, List.set]
 refine wpV_move (v := .string (bs ([]))) (by rfl) rfl rfl ?_
 simp only [putT, List.set]
 refine wpV_binS (v := .bool true) (by rfl) rfl rfl rfl (fun W => (run_eql_bs _ _ _ W).trans (by rw [show decide ([] = []) = true from (decide_eq_true rfl)])) ?_
 simp only [putT, List.set]
 refine wpV_pick (v := .bool true) (by rfl) rfl rfl rfl ?_
 simp only [putT, List.set]
 refine wpV_move (v := .bool true) (by rfl) rfl rfl ?_
 simp only [putT, List.set]
 refine wpV_move (v := .string (bs ([]))) (by rfl) rfl rfl ?_
 simp only [putT, List.set]
 refine wpV_binS (v := .bool true) (by rfl) rfl rfl rfl (fun W => (run_eql_bs _ _ _ W).trans (by rw [show decide ([] = []) = true from (decide_eq_true rfl)])) ?_
 simp only [putT, List.set]
 refine wpV_pick (v := .bool true) (by rfl) rfl rfl rfl ?_
 simp only [putT, List.set]
 refine wpV_nil (hLk _ (fun w21 Sw21 => ?_))
 clear hLk Lk
 simp only [List.take, List.drop]
 replace M := M.sees Sw21
 refine wpL_assign (v := .bool true) (by rfl) (by rfl) (by rfl) ?_
 simp only [putT, List.set]
 refine wpL_nil (no_panic ?_)
 refine hK19 _ _ ?_
 refine wp_ret ?_
 repeat (first | with_reducible refine then_ret ?_ | with_reducible refine inblock_ret ?_)
 refine bodyPost_ret (v := .bool true) (res1 rfl (.tmp (by rfl))) rfl ?_
 have BE := M.below
 exact ⟨rfl, BE⟩
set_option maxRecDepth 100000 in
set_option maxHeartbeats 4000000 in
theorem lclash_lb {vls vms : Value} {ls ms Pl Ql : List (List UInt8)} {ra rb la lb : List UInt8} {x y : Int} {w : World} (hQ1 : cutsS 50 40 ls = Pl) (hQ2 : cutsS 50 40 ms = Ql) (hPL : Pl.length ≤ 50) (hQL : Ql.length ≤ 50) (hL : cut ra 40 = la) (hR : cut rb 40 = lb) (hx : ¬ x < 0) (hy : ¬ y ≤ x) (hm : ¬ 4096 < y) (h1 : ¬ la.length ≠ 32) (h2 : lb.length ≠ 32) (L0 : 0 < w.heap.size) (R0_0 : w.rangeAt 0 0 kcells) (hvls : RowS w vls ls) (hvms : RowS w vms ms) :
  Calls Tryd.prog 16 #[.string (bs ra), .string (bs rb), .int .i64 x, .int .i64 y, vls, vms] w fun e w' => e = .returned (.bool true) ∧ Below w.heap.size w w' := by
 have h4 : Pl.length ≤ 4096 := by omega
 have h4q : Ql.length ≤ 4096 := by omega
 go_enter Tryd.func16, Tryd.ntmps16
 have M := Mem.start w
 refine wp_seq_k (fun K1 hK1 => ?_)
 refine wp_region_seq ?_
 refine wpL_assign (v := .bool false) (by rfl) (by rfl) (by rfl) ?_
 simp only [putT, List.set]
 refine wpL_nil (no_panic ?_)
 refine hK1 _ _ ?_
 refine wp_seq_k (fun K3 hK3 => ?_)
 refine wp_region_seq ?_
 refine wpL_move (v := vls) (by rfl) (by rfl) (by rfl) ?_
 simp only [putT, List.set]
 refine wpL_callE (f := 46) (args := #[vls]) (R := MemRow w ((cutsS 50 40 ls).length) (scells (cutsS 50 40 ls))) (by rfl) (by rfl) rfl Tryd.func46 (by kernel_rfl) (by kernel_rfl) (few9_c (hvls.mem M)) (fun v9 w6 hv9 Sw6 => ?_)
 obtain ⟨g5, g5c, rfl, Cg5, M9⟩ := hv9
 replace M := M.call1 M9
 simp only [putT, List.set]
 refine wpL_move (v := vms) (by rfl) (by rfl) (by rfl) ?_
 simp only [putT, List.set]
 refine wpL_callE (f := 46) (args := #[vms]) (R := MemRow w6 ((cutsS 50 40 ms).length) (scells (cutsS 50 40 ms))) (by rfl) (by rfl) rfl Tryd.func46 (by kernel_rfl) (by kernel_rfl) (few9_c (hvms.mem M)) (fun v9 w8 hv9 Sw8 => ?_)
 obtain ⟨g7, g7c, rfl, Cg7, M9⟩ := hv9
 replace M := M.call1 M9
 simp only [putT, List.set]
 refine wpL_assign (v := .slice (some ⟨g5, 0, none⟩) ((cutsS 50 40 ls).length) g5c) (by rfl) (by rfl) (by rfl) ?_
 simp only [putT, List.set]
 refine wpL_assign (v := .slice (some ⟨g7, 0, none⟩) ((cutsS 50 40 ms).length) g7c) (by rfl) (by rfl) (by rfl) ?_
 simp only [putT, List.set]
 refine wpL_nil (no_panic ?_)
 simp only [hQ1, hQ2] at M
 simp only [hQ1, hQ2]
 rw [hQ2] at Cg7
 rw [hQ1] at Cg5
 refine hK3 _ _ ?_
 refine wp_seq_k (fun K9 hK9 => ?_)
 refine wp_region_grow 12 [] (by kernel_rfl) (by kernel_rfl) (by kernel_rfl) (fun Lk hLk => ?_)
 simp only [List.take, List.drop]
 refine wpV_move (v := .string (bs ra)) (by rfl) rfl rfl ?_
 simp only [putT, List.set]
 refine wpV_move (v := .string (bs ra)) (by rfl) rfl rfl ?_
 simp only [putT, List.set]
 refine wpV_lenS (by rfl) rfl rfl rfl Tryd.underlying9 ?_
 simp only [putT, List.set]
 refine wpV_min (n := ra.length) (m := 40) (by rfl) rfl rfl rfl ?_
 simp only [putT, List.set]
 refine wpV_cut (l := ra) (m := 40) (by rfl) rfl rfl rfl Tryd.underlying9 ?_
 simp only [putT, List.set]
 refine wpV_move (v := .string (bs rb)) (by rfl) rfl rfl ?_
 simp only [putT, List.set]
 refine wpV_move (v := .string (bs rb)) (by rfl) rfl rfl ?_
 simp only [putT, List.set]
 refine wpV_lenS (by rfl) rfl rfl rfl Tryd.underlying9 ?_
 simp only [putT, List.set]
 refine wpV_min (n := rb.length) (m := 40) (by rfl) rfl rfl rfl ?_
 simp only [putT, List.set]
 refine wpV_cut (l := rb) (m := 40) (by rfl) rfl rfl rfl Tryd.underlying9 ?_
 simp only [putT, List.set]
 refine wpV_assign (v := .string (bs (cut ra 40))) (by rfl) rfl rfl ?_
 simp only [putT, List.set]
 refine wpV_assign (v := .string (bs (cut rb 40))) (by rfl) rfl rfl ?_
 simp only [putT, List.set]
 refine wpV_nil (hLk.out _ ?_)
 clear hLk Lk
 simp only [List.take, List.drop]
 iterate 12 refine wpN_skip (by rfl) ?_
 refine wpN_nil (fun w11 Sw11 hbs => ?_)
 clear hbs
 replace M := M.sees Sw11
 refine wpL_nil (no_panic ?_)
 simp only [hL, hR]
 refine hK9 _ _ ?_
 refine wp_seq_k (fun K12 hK12 => ?_)
 refine wp_region_seq ?_
 refine wpL_move (v := .string (bs la)) (by rfl) (by rfl) (by rfl) ?_
 simp only [putT, List.set]
 refine wpL_move (v := .string (bs lb)) (by rfl) (by rfl) (by rfl) ?_
 simp only [putT, List.set]
 refine wpL_move (v := .int .i64 x) (by rfl) (by rfl) (by rfl) ?_
 simp only [putT, List.set]
 refine wpL_move (v := .int .i64 y) (by rfl) (by rfl) (by rfl) ?_
 simp only [putT, List.set]
 refine wpL_move (v := .slice (some ⟨g5, 0, none⟩) Pl.length g5c) (by rfl) (by rfl) (by rfl) ?_
 simp only [putT, List.set]
 refine wpL_move (v := .slice (some ⟨g7, 0, none⟩) Ql.length g7c) (by rfl) (by rfl) (by rfl) ?_
 simp only [putT, List.set]
 refine wpL_chunk 5 (by rfl) (fun Lk hLk => ?_)
 simp only [List.take, List.drop]
 refine wpV_callf (v := .tuple #[.string (bs ([])), .string (bs ([])), .int .i64 1]) (args := #[.string (bs la), .string (bs lb), .int .i64 x, .int .i64 y, .slice (some ⟨g5, 0, none⟩) Pl.length g5c, .slice (some ⟨g7, 0, none⟩) Ql.length g7c]) (by rfl) rfl Tryd.func65 (by kernel_rfl) (by kernel_rfl) rfl (fun W hW => by with_reducible exact Clash_two h4 h4q hx hy hm (two_no2 h2) ((M.sees hW).oldL L0) ((M.sees hW).oldR R0_0 L0) (RowA.of ((M.sees hW).r 1 0 rfl rfl) ((M.sees hW).lt 1 rfl) (scells_len _).symm Cg5) (RowA.of ((M.sees hW).r 0 0 rfl rfl) ((M.sees hW).lt 0 rfl) (scells_len _).symm Cg7)) ?_
 simp only [putT, List.set]
 refine wpV_move (v := .tuple #[.string (bs ([])), .string (bs ([])), .int .i64 1]) (by rfl) rfl rfl ?_
 simp only [putT, List.set]
 refine wpV_extract (v := .string (bs ([]))) (by rfl) rfl rfl rfl ?_
 simp only [putT, List.set]
 refine wpV_extract (v := .string (bs ([]))) (by rfl) rfl rfl rfl ?_
 simp only [putT, List.set]
 refine wpV_extract (v := .int .i64 1) (by rfl) rfl rfl rfl ?_
 simp only [putT, List.set]
 refine wpV_nil (hLk _ (fun w14 Sw14 => ?_))
 clear hLk Lk
 simp only [List.take, List.drop]
 replace M := M.sees Sw14
 refine wpL_assign (v := .string (bs ([]))) (by rfl) (by rfl) (by rfl) ?_
 simp only [putT, List.set]
 refine wpL_assign (v := .string (bs ([]))) (by rfl) (by rfl) (by rfl) ?_
 simp only [putT, List.set]
 refine wpL_assign (v := .int .i64 1) (by rfl) (by rfl) (by rfl) ?_
 simp only [putT, List.set]
 refine wpL_nil (no_panic ?_)
 refine hK12 _ _ ?_
 refine wp_seq_k (fun K15 hK15 => ?_)
 refine wp_seq_k (fun K16 hK16 => ?_)
 refine wp_region_seq ?_
 refine wpL_move (v := .int .i64 x) (by rfl) (by rfl) (by rfl) ?_
 simp only [putT, List.set]
 refine wpL_chunk 30 (by rfl) (fun Lk hLk => ?_)
 simp only [List.take, List.drop]
 refine wpV_bin (v := .bool false) (by rfl) rfl rfl rfl (fun W => (run_lss _ _ _ _ W).trans (by rw [(decide_eq_false hx)])) ?_
 simp only [putT, List.set]
 refine wpV_move (v := .bool false) (by rfl) rfl rfl ?_
 simp only [putT, List.set]
 refine wpV_move (v := .int .i64 x) (by rfl) rfl rfl ?_
 simp only [putT, List.set]
 refine wpV_move (v := .int .i64 y) (by rfl) rfl rfl ?_
 simp only [putT, List.set]
 refine wpV_bin (v := .bool false) (by rfl) rfl rfl rfl (fun W => (run_geq _ _ _ _ W).trans (by rw [(decide_eq_false hy)])) ?_
 simp only [putT, List.set]
 refine wpV_pick (v := .bool false) (by rfl) rfl rfl rfl ?_
 simp only [putT, List.set]
 refine wpV_move (v := .bool false) (by rfl) rfl rfl ?_
 simp only [putT, List.set]
 refine wpV_move (v := .int .i64 y) (by rfl) rfl rfl ?_
 simp only [putT, List.set]
 refine wpV_bin (v := .bool false) (by rfl) rfl rfl rfl (fun W => (run_gtr _ _ _ _ W).trans (by rw [(decide_eq_false hm)])) ?_
 simp only [putT, List.set]
 refine wpV_pick (v := .bool false) (by rfl) rfl rfl rfl ?_
 simp only [putT, List.set]
 refine wpV_move (v := .bool false) (by rfl) rfl rfl ?_
 simp only [putT, List.set]
 refine wpV_move (v := .string (bs la)) (by rfl) rfl rfl ?_
 simp only [putT, List.set]
 refine wpV_lenS (by rfl) rfl rfl rfl Tryd.underlying9 ?_
 simp only [putT, List.set]
 refine wpV_bin (v := .bool false) (by rfl) rfl rfl rfl (fun W => (run_neqN la.length 32 _ _ W).trans (by rw [(decide_eq_false h1)])) ?_
 simp only [putT, List.set]
 refine wpV_pick (v := .bool false) (by rfl) rfl rfl rfl ?_
 simp only [putT, List.set]
 refine wpV_move (v := .bool false) (by rfl) rfl rfl ?_
 simp only [putT, List.set]
 refine wpV_move (v := .string (bs lb)) (by rfl) rfl rfl ?_
 simp only [putT, List.set]
 refine wpV_lenS (by rfl) rfl rfl rfl Tryd.underlying9 ?_
 simp only [putT, List.set]
 refine wpV_bin (v := .bool true) (by rfl) rfl rfl rfl (fun W => (run_neqN lb.length 32 _ _ W).trans (by rw [(decide_eq_true h2)])) ?_
 simp only [putT, List.set]
 refine wpV_pick (v := .bool true) (by rfl) rfl rfl rfl ?_
 simp only [putT, List.set]
 refine wpV_move (v := .bool true) (by rfl) rfl rfl ?_
 simp only [putT, List.set]
 refine wpV_skip (by rfl) (by rfl) ?_
 simp only [putT, List.set]
 refine wpV_skip (by rfl) (by rfl) ?_
 simp only [putT, List.set]
 refine wpV_skip (by rfl) (by rfl) ?_
 simp only [putT, List.set]
 refine wpV_pick (v := .bool true) (by rfl) rfl rfl rfl ?_
 simp only [putT, List.set]
 refine wpV_move (v := .bool true) (by rfl) rfl rfl ?_
 simp only [putT, List.set]
 refine wpV_skip (by rfl) (by rfl) ?_
 simp only [putT, List.set]
 refine wpV_skip (by rfl) (by rfl) ?_
 simp only [putT, List.set]
 refine wpV_skip (by rfl) (by rfl) ?_
 simp only [putT, List.set]
 refine wpV_pick (v := .bool true) (by rfl) rfl rfl rfl ?_
 simp only [putT, List.set]
 refine wpV_nil (hLk _ (fun w18 Sw18 => ?_))
 clear hLk Lk
 simp only [List.take, List.drop]
 replace M := M.sees Sw18
 refine wpL_nil (no_panic ?_)
 refine hK16 _ _ ?_
 refine wp_cond_true rfl ?_
 refine wp_seq_k (fun K19 hK19 => ?_)
 refine wp_region_seq ?_
 refine wpL_chunk 13 (by rfl) (fun Lk hLk => ?_)
 simp only [List.take, List.drop]
 refine wpV_callf (v := .bool true) (args := #[]) (by rfl) rfl Tryd.func49 (by kernel_rfl) (by kernel_rfl) rfl (fun W hW => alive09_c ((M.sees hW).oldL L0) ((M.sees hW).oldR R0_0 L0)) ?_
 simp only [putT, List.set]
 refine wpV_move (v := .bool true) (by rfl) rfl rfl ?_
 simp only [putT, List.set]
 refine wpV_move (v := .int .i64 1) (by rfl) rfl rfl ?_
 simp only [putT, List.set]
 refine wpV_bin (v := .bool true) (by rfl) rfl rfl rfl (fun W => run_eql _ _ _ _ W) ?_
 simp only [putT, List.set]
 refine wpV_pick (v := .bool true) (by rfl) rfl rfl rfl ?_
 simp only [putT, List.set]
 refine wpV_move (v := .bool true) (by rfl) rfl rfl ?_
 simp only [putT, List.set]
 refine wpV_move (v := .string (bs ([]))) (by rfl) rfl rfl ?_
 simp only [putT, List.set]
 refine wpV_binS (v := .bool true) (by rfl) rfl rfl rfl (fun W => (run_eql_bs _ _ _ W).trans (by rw [show decide ([] = []) = true from (decide_eq_true rfl)])) ?_
 simp only [putT, List.set]
 refine wpV_pick (v := .bool true) (by rfl) rfl rfl rfl ?_
 simp only [putT, List.set]
 refine wpV_move (v := .bool true) (by rfl) rfl rfl ?_
 simp only [putT, List.set]
 refine wpV_move (v := .string (bs ([]))) (by rfl) rfl rfl ?_
 simp only [putT, List.set]
 refine wpV_binS (v := .bool true) (by rfl) rfl rfl rfl (fun W => (run_eql_bs _ _ _ W).trans (by rw [show decide ([] = []) = true from (decide_eq_true rfl)])) ?_
 simp only [putT, List.set]
 refine wpV_pick (v := .bool true) (by rfl) rfl rfl rfl ?_
 simp only [putT, List.set]
 refine wpV_nil (hLk _ (fun w21 Sw21 => ?_))
 clear hLk Lk
 simp only [List.take, List.drop]
 replace M := M.sees Sw21
 refine wpL_assign (v := .bool true) (by rfl) (by rfl) (by rfl) ?_
 simp only [putT, List.set]
 refine wpL_nil (no_panic ?_)
 refine hK19 _ _ ?_
 refine wp_ret ?_
 repeat (first | with_reducible refine then_ret ?_ | with_reducible refine inblock_ret ?_)
 refine bodyPost_ret (v := .bool true) (res1 rfl (.tmp (by rfl))) rfl ?_
 have BE := M.below
 exact ⟨rfl, BE⟩
set_option maxRecDepth 100000 in
set_option maxHeartbeats 4000000 in
theorem lclash_one {vls vms : Value} {ls ms Pl Ql : List (List UInt8)} {ra rb la lb : List UInt8} {x y : Int} {w : World} (hQ1 : cutsS 50 40 ls = Pl) (hQ2 : cutsS 50 40 ms = Ql) (hPL : Pl.length ≤ 50) (hQL : Ql.length ≤ 50) (hL : cut ra 40 = la) (hR : cut rb 40 = lb) (hx : ¬ x < 0) (hy : ¬ y ≤ x) (hm : ¬ 4096 < y) (h1 : ¬ la.length ≠ 32) (h2 : ¬ lb.length ≠ 32) (hp : all32 Pl = false) (L0 : 0 < w.heap.size) (R0_0 : w.rangeAt 0 0 kcells) (hvls : RowS w vls ls) (hvms : RowS w vms ms) :
  Calls Tryd.prog 16 #[.string (bs ra), .string (bs rb), .int .i64 x, .int .i64 y, vls, vms] w fun e w' => e = .returned (.bool true) ∧ Below w.heap.size w w' := by
 have h4 : Pl.length ≤ 4096 := by omega
 have h4q : Ql.length ≤ 4096 := by omega
 go_enter Tryd.func16, Tryd.ntmps16
 have M := Mem.start w
 refine wp_seq_k (fun K1 hK1 => ?_)
 refine wp_region_seq ?_
 refine wpL_assign (v := .bool false) (by rfl) (by rfl) (by rfl) ?_
 simp only [putT, List.set]
 refine wpL_nil (no_panic ?_)
 refine hK1 _ _ ?_
 refine wp_seq_k (fun K3 hK3 => ?_)
 refine wp_region_seq ?_
 refine wpL_move (v := vls) (by rfl) (by rfl) (by rfl) ?_
 simp only [putT, List.set]
 refine wpL_callE (f := 46) (args := #[vls]) (R := MemRow w ((cutsS 50 40 ls).length) (scells (cutsS 50 40 ls))) (by rfl) (by rfl) rfl Tryd.func46 (by kernel_rfl) (by kernel_rfl) (few9_c (hvls.mem M)) (fun v9 w6 hv9 Sw6 => ?_)
 obtain ⟨g5, g5c, rfl, Cg5, M9⟩ := hv9
 replace M := M.call1 M9
 simp only [putT, List.set]
 refine wpL_move (v := vms) (by rfl) (by rfl) (by rfl) ?_
 simp only [putT, List.set]
 refine wpL_callE (f := 46) (args := #[vms]) (R := MemRow w6 ((cutsS 50 40 ms).length) (scells (cutsS 50 40 ms))) (by rfl) (by rfl) rfl Tryd.func46 (by kernel_rfl) (by kernel_rfl) (few9_c (hvms.mem M)) (fun v9 w8 hv9 Sw8 => ?_)
 obtain ⟨g7, g7c, rfl, Cg7, M9⟩ := hv9
 replace M := M.call1 M9
 simp only [putT, List.set]
 refine wpL_assign (v := .slice (some ⟨g5, 0, none⟩) ((cutsS 50 40 ls).length) g5c) (by rfl) (by rfl) (by rfl) ?_
 simp only [putT, List.set]
 refine wpL_assign (v := .slice (some ⟨g7, 0, none⟩) ((cutsS 50 40 ms).length) g7c) (by rfl) (by rfl) (by rfl) ?_
 simp only [putT, List.set]
 refine wpL_nil (no_panic ?_)
 simp only [hQ1, hQ2] at M
 simp only [hQ1, hQ2]
 rw [hQ2] at Cg7
 rw [hQ1] at Cg5
 refine hK3 _ _ ?_
 refine wp_seq_k (fun K9 hK9 => ?_)
 refine wp_region_grow 12 [] (by kernel_rfl) (by kernel_rfl) (by kernel_rfl) (fun Lk hLk => ?_)
 simp only [List.take, List.drop]
 refine wpV_move (v := .string (bs ra)) (by rfl) rfl rfl ?_
 simp only [putT, List.set]
 refine wpV_move (v := .string (bs ra)) (by rfl) rfl rfl ?_
 simp only [putT, List.set]
 refine wpV_lenS (by rfl) rfl rfl rfl Tryd.underlying9 ?_
 simp only [putT, List.set]
 refine wpV_min (n := ra.length) (m := 40) (by rfl) rfl rfl rfl ?_
 simp only [putT, List.set]
 refine wpV_cut (l := ra) (m := 40) (by rfl) rfl rfl rfl Tryd.underlying9 ?_
 simp only [putT, List.set]
 refine wpV_move (v := .string (bs rb)) (by rfl) rfl rfl ?_
 simp only [putT, List.set]
 refine wpV_move (v := .string (bs rb)) (by rfl) rfl rfl ?_
 simp only [putT, List.set]
 refine wpV_lenS (by rfl) rfl rfl rfl Tryd.underlying9 ?_
 simp only [putT, List.set]
 refine wpV_min (n := rb.length) (m := 40) (by rfl) rfl rfl rfl ?_
 simp only [putT, List.set]
 refine wpV_cut (l := rb) (m := 40) (by rfl) rfl rfl rfl Tryd.underlying9 ?_
 simp only [putT, List.set]
 refine wpV_assign (v := .string (bs (cut ra 40))) (by rfl) rfl rfl ?_
 simp only [putT, List.set]
 refine wpV_assign (v := .string (bs (cut rb 40))) (by rfl) rfl rfl ?_
 simp only [putT, List.set]
 refine wpV_nil (hLk.out _ ?_)
 clear hLk Lk
 simp only [List.take, List.drop]
 iterate 12 refine wpN_skip (by rfl) ?_
 refine wpN_nil (fun w11 Sw11 hbs => ?_)
 clear hbs
 replace M := M.sees Sw11
 refine wpL_nil (no_panic ?_)
 simp only [hL, hR]
 refine hK9 _ _ ?_
 refine wp_seq_k (fun K12 hK12 => ?_)
 refine wp_region_seq ?_
 refine wpL_move (v := .string (bs la)) (by rfl) (by rfl) (by rfl) ?_
 simp only [putT, List.set]
 refine wpL_move (v := .string (bs lb)) (by rfl) (by rfl) (by rfl) ?_
 simp only [putT, List.set]
 refine wpL_move (v := .int .i64 x) (by rfl) (by rfl) (by rfl) ?_
 simp only [putT, List.set]
 refine wpL_move (v := .int .i64 y) (by rfl) (by rfl) (by rfl) ?_
 simp only [putT, List.set]
 refine wpL_move (v := .slice (some ⟨g5, 0, none⟩) Pl.length g5c) (by rfl) (by rfl) (by rfl) ?_
 simp only [putT, List.set]
 refine wpL_move (v := .slice (some ⟨g7, 0, none⟩) Ql.length g7c) (by rfl) (by rfl) (by rfl) ?_
 simp only [putT, List.set]
 refine wpL_chunk 5 (by rfl) (fun Lk hLk => ?_)
 simp only [List.take, List.drop]
 refine wpV_callf (v := .tuple #[.string (bs ([])), .string (bs ([])), .int .i64 1]) (args := #[.string (bs la), .string (bs lb), .int .i64 x, .int .i64 y, .slice (some ⟨g5, 0, none⟩) Pl.length g5c, .slice (some ⟨g7, 0, none⟩) Ql.length g7c]) (by rfl) rfl Tryd.func65 (by kernel_rfl) (by kernel_rfl) rfl (fun W hW => by with_reducible exact Clash_one h4 h4q hx hy hm (two_yes h1 h2) hp ((M.sees hW).oldL L0) ((M.sees hW).oldR R0_0 L0) (RowA.of ((M.sees hW).r 1 0 rfl rfl) ((M.sees hW).lt 1 rfl) (scells_len _).symm Cg5) (RowA.of ((M.sees hW).r 0 0 rfl rfl) ((M.sees hW).lt 0 rfl) (scells_len _).symm Cg7)) ?_
 simp only [putT, List.set]
 refine wpV_move (v := .tuple #[.string (bs ([])), .string (bs ([])), .int .i64 1]) (by rfl) rfl rfl ?_
 simp only [putT, List.set]
 refine wpV_extract (v := .string (bs ([]))) (by rfl) rfl rfl rfl ?_
 simp only [putT, List.set]
 refine wpV_extract (v := .string (bs ([]))) (by rfl) rfl rfl rfl ?_
 simp only [putT, List.set]
 refine wpV_extract (v := .int .i64 1) (by rfl) rfl rfl rfl ?_
 simp only [putT, List.set]
 refine wpV_nil (hLk _ (fun w14 Sw14 => ?_))
 clear hLk Lk
 simp only [List.take, List.drop]
 replace M := M.sees Sw14
 refine wpL_assign (v := .string (bs ([]))) (by rfl) (by rfl) (by rfl) ?_
 simp only [putT, List.set]
 refine wpL_assign (v := .string (bs ([]))) (by rfl) (by rfl) (by rfl) ?_
 simp only [putT, List.set]
 refine wpL_assign (v := .int .i64 1) (by rfl) (by rfl) (by rfl) ?_
 simp only [putT, List.set]
 refine wpL_nil (no_panic ?_)
 refine hK12 _ _ ?_
 refine wp_seq_k (fun K15 hK15 => ?_)
 refine wp_seq_k (fun K16 hK16 => ?_)
 refine wp_region_seq ?_
 refine wpL_move (v := .int .i64 x) (by rfl) (by rfl) (by rfl) ?_
 simp only [putT, List.set]
 refine wpL_chunk 30 (by rfl) (fun Lk hLk => ?_)
 simp only [List.take, List.drop]
 refine wpV_bin (v := .bool false) (by rfl) rfl rfl rfl (fun W => (run_lss _ _ _ _ W).trans (by rw [(decide_eq_false hx)])) ?_
 simp only [putT, List.set]
 refine wpV_move (v := .bool false) (by rfl) rfl rfl ?_
 simp only [putT, List.set]
 refine wpV_move (v := .int .i64 x) (by rfl) rfl rfl ?_
 simp only [putT, List.set]
 refine wpV_move (v := .int .i64 y) (by rfl) rfl rfl ?_
 simp only [putT, List.set]
 refine wpV_bin (v := .bool false) (by rfl) rfl rfl rfl (fun W => (run_geq _ _ _ _ W).trans (by rw [(decide_eq_false hy)])) ?_
 simp only [putT, List.set]
 refine wpV_pick (v := .bool false) (by rfl) rfl rfl rfl ?_
 simp only [putT, List.set]
 refine wpV_move (v := .bool false) (by rfl) rfl rfl ?_
 simp only [putT, List.set]
 refine wpV_move (v := .int .i64 y) (by rfl) rfl rfl ?_
 simp only [putT, List.set]
 refine wpV_bin (v := .bool false) (by rfl) rfl rfl rfl (fun W => (run_gtr _ _ _ _ W).trans (by rw [(decide_eq_false hm)])) ?_
 simp only [putT, List.set]
 refine wpV_pick (v := .bool false) (by rfl) rfl rfl rfl ?_
 simp only [putT, List.set]
 refine wpV_move (v := .bool false) (by rfl) rfl rfl ?_
 simp only [putT, List.set]
 refine wpV_move (v := .string (bs la)) (by rfl) rfl rfl ?_
 simp only [putT, List.set]
 refine wpV_lenS (by rfl) rfl rfl rfl Tryd.underlying9 ?_
 simp only [putT, List.set]
 refine wpV_bin (v := .bool false) (by rfl) rfl rfl rfl (fun W => (run_neqN la.length 32 _ _ W).trans (by rw [(decide_eq_false h1)])) ?_
 simp only [putT, List.set]
 refine wpV_pick (v := .bool false) (by rfl) rfl rfl rfl ?_
 simp only [putT, List.set]
 refine wpV_move (v := .bool false) (by rfl) rfl rfl ?_
 simp only [putT, List.set]
 refine wpV_move (v := .string (bs lb)) (by rfl) rfl rfl ?_
 simp only [putT, List.set]
 refine wpV_lenS (by rfl) rfl rfl rfl Tryd.underlying9 ?_
 simp only [putT, List.set]
 refine wpV_bin (v := .bool false) (by rfl) rfl rfl rfl (fun W => (run_neqN lb.length 32 _ _ W).trans (by rw [(decide_eq_false h2)])) ?_
 simp only [putT, List.set]
 refine wpV_pick (v := .bool false) (by rfl) rfl rfl rfl ?_
 simp only [putT, List.set]
 refine wpV_move (v := .bool false) (by rfl) rfl rfl ?_
 simp only [putT, List.set]
 refine wpV_move (v := .slice (some ⟨g5, 0, none⟩) Pl.length g5c) (by rfl) rfl rfl ?_
 simp only [putT, List.set]
 refine wpV_callf (v := .bool false) (args := #[.slice (some ⟨g5, 0, none⟩) Pl.length g5c]) (by rfl) rfl Tryd.func57 (by kernel_rfl) (by kernel_rfl) rfl (fun W hW => by have h9 : Calls Tryd.prog _ _ W _ := rall_r (ps := Pl) (by omega) (RowA.of ((M.sees hW).r 1 0 rfl rfl) ((M.sees hW).lt 1 rfl) (scells_len _).symm Cg5); rw [hp] at h9; exact h9) ?_
 simp only [putT, List.set]
 refine wpV_not (b := false) (by rfl) rfl rfl ?_
 simp only [Bool.not_true, Bool.not_false]
 simp only [putT, List.set]
 refine wpV_pick (v := .bool true) (by rfl) rfl rfl rfl ?_
 simp only [putT, List.set]
 refine wpV_move (v := .bool true) (by rfl) rfl rfl ?_
 simp only [putT, List.set]
 refine wpV_skip (by rfl) (by rfl) ?_
 simp only [putT, List.set]
 refine wpV_skip (by rfl) (by rfl) ?_
 simp only [putT, List.set]
 refine wpV_skip (by rfl) (by rfl) ?_
 simp only [putT, List.set]
 refine wpV_pick (v := .bool true) (by rfl) rfl rfl rfl ?_
 simp only [putT, List.set]
 refine wpV_nil (hLk _ (fun w18 Sw18 => ?_))
 clear hLk Lk
 simp only [List.take, List.drop]
 replace M := M.sees Sw18
 refine wpL_nil (no_panic ?_)
 refine hK16 _ _ ?_
 refine wp_cond_true rfl ?_
 refine wp_seq_k (fun K19 hK19 => ?_)
 refine wp_region_seq ?_
 refine wpL_chunk 13 (by rfl) (fun Lk hLk => ?_)
 simp only [List.take, List.drop]
 refine wpV_callf (v := .bool true) (args := #[]) (by rfl) rfl Tryd.func49 (by kernel_rfl) (by kernel_rfl) rfl (fun W hW => alive09_c ((M.sees hW).oldL L0) ((M.sees hW).oldR R0_0 L0)) ?_
 simp only [putT, List.set]
 refine wpV_move (v := .bool true) (by rfl) rfl rfl ?_
 simp only [putT, List.set]
 refine wpV_move (v := .int .i64 1) (by rfl) rfl rfl ?_
 simp only [putT, List.set]
 refine wpV_bin (v := .bool true) (by rfl) rfl rfl rfl (fun W => run_eql _ _ _ _ W) ?_
 simp only [putT, List.set]
 refine wpV_pick (v := .bool true) (by rfl) rfl rfl rfl ?_
 simp only [putT, List.set]
 refine wpV_move (v := .bool true) (by rfl) rfl rfl ?_
 simp only [putT, List.set]
 refine wpV_move (v := .string (bs ([]))) (by rfl) rfl rfl ?_
 simp only [putT, List.set]
 refine wpV_binS (v := .bool true) (by rfl) rfl rfl rfl (fun W => (run_eql_bs _ _ _ W).trans (by rw [show decide ([] = []) = true from (decide_eq_true rfl)])) ?_
 simp only [putT, List.set]
 refine wpV_pick (v := .bool true) (by rfl) rfl rfl rfl ?_
 simp only [putT, List.set]
 refine wpV_move (v := .bool true) (by rfl) rfl rfl ?_
 simp only [putT, List.set]
 refine wpV_move (v := .string (bs ([]))) (by rfl) rfl rfl ?_
 simp only [putT, List.set]
 refine wpV_binS (v := .bool true) (by rfl) rfl rfl rfl (fun W => (run_eql_bs _ _ _ W).trans (by rw [show decide ([] = []) = true from (decide_eq_true rfl)])) ?_
 simp only [putT, List.set]
 refine wpV_pick (v := .bool true) (by rfl) rfl rfl rfl ?_
 simp only [putT, List.set]
 refine wpV_nil (hLk _ (fun w21 Sw21 => ?_))
 clear hLk Lk
 simp only [List.take, List.drop]
 replace M := M.sees Sw21
 refine wpL_assign (v := .bool true) (by rfl) (by rfl) (by rfl) ?_
 simp only [putT, List.set]
 refine wpL_nil (no_panic ?_)
 refine hK19 _ _ ?_
 refine wp_ret ?_
 repeat (first | with_reducible refine then_ret ?_ | with_reducible refine inblock_ret ?_)
 refine bodyPost_ret (v := .bool true) (res1 rfl (.tmp (by rfl))) rfl ?_
 have BE := M.below
 exact ⟨rfl, BE⟩
set_option maxRecDepth 100000 in
set_option maxHeartbeats 4000000 in
theorem lclash_other {vls vms : Value} {ls ms Pl Ql : List (List UInt8)} {ra rb la lb : List UInt8} {x y : Int} {w : World} (hQ1 : cutsS 50 40 ls = Pl) (hQ2 : cutsS 50 40 ms = Ql) (hPL : Pl.length ≤ 50) (hQL : Ql.length ≤ 50) (hL : cut ra 40 = la) (hR : cut rb 40 = lb) (hx : ¬ x < 0) (hy : ¬ y ≤ x) (hm : ¬ 4096 < y) (h1 : ¬ la.length ≠ 32) (h2 : ¬ lb.length ≠ 32) (hp : all32 Pl = true) (hq2 : all32 Ql = false) (L0 : 0 < w.heap.size) (R0_0 : w.rangeAt 0 0 kcells) (hvls : RowS w vls ls) (hvms : RowS w vms ms) :
  Calls Tryd.prog 16 #[.string (bs ra), .string (bs rb), .int .i64 x, .int .i64 y, vls, vms] w fun e w' => e = .returned (.bool true) ∧ Below w.heap.size w w' := by
 have h4 : Pl.length ≤ 4096 := by omega
 have h4q : Ql.length ≤ 4096 := by omega
 go_enter Tryd.func16, Tryd.ntmps16
 have M := Mem.start w
 refine wp_seq_k (fun K1 hK1 => ?_)
 refine wp_region_seq ?_
 refine wpL_assign (v := .bool false) (by rfl) (by rfl) (by rfl) ?_
 simp only [putT, List.set]
 refine wpL_nil (no_panic ?_)
 refine hK1 _ _ ?_
 refine wp_seq_k (fun K3 hK3 => ?_)
 refine wp_region_seq ?_
 refine wpL_move (v := vls) (by rfl) (by rfl) (by rfl) ?_
 simp only [putT, List.set]
 refine wpL_callE (f := 46) (args := #[vls]) (R := MemRow w ((cutsS 50 40 ls).length) (scells (cutsS 50 40 ls))) (by rfl) (by rfl) rfl Tryd.func46 (by kernel_rfl) (by kernel_rfl) (few9_c (hvls.mem M)) (fun v9 w6 hv9 Sw6 => ?_)
 obtain ⟨g5, g5c, rfl, Cg5, M9⟩ := hv9
 replace M := M.call1 M9
 simp only [putT, List.set]
 refine wpL_move (v := vms) (by rfl) (by rfl) (by rfl) ?_
 simp only [putT, List.set]
 refine wpL_callE (f := 46) (args := #[vms]) (R := MemRow w6 ((cutsS 50 40 ms).length) (scells (cutsS 50 40 ms))) (by rfl) (by rfl) rfl Tryd.func46 (by kernel_rfl) (by kernel_rfl) (few9_c (hvms.mem M)) (fun v9 w8 hv9 Sw8 => ?_)
 obtain ⟨g7, g7c, rfl, Cg7, M9⟩ := hv9
 replace M := M.call1 M9
 simp only [putT, List.set]
 refine wpL_assign (v := .slice (some ⟨g5, 0, none⟩) ((cutsS 50 40 ls).length) g5c) (by rfl) (by rfl) (by rfl) ?_
 simp only [putT, List.set]
 refine wpL_assign (v := .slice (some ⟨g7, 0, none⟩) ((cutsS 50 40 ms).length) g7c) (by rfl) (by rfl) (by rfl) ?_
 simp only [putT, List.set]
 refine wpL_nil (no_panic ?_)
 simp only [hQ1, hQ2] at M
 simp only [hQ1, hQ2]
 rw [hQ2] at Cg7
 rw [hQ1] at Cg5
 refine hK3 _ _ ?_
 refine wp_seq_k (fun K9 hK9 => ?_)
 refine wp_region_grow 12 [] (by kernel_rfl) (by kernel_rfl) (by kernel_rfl) (fun Lk hLk => ?_)
 simp only [List.take, List.drop]
 refine wpV_move (v := .string (bs ra)) (by rfl) rfl rfl ?_
 simp only [putT, List.set]
 refine wpV_move (v := .string (bs ra)) (by rfl) rfl rfl ?_
 simp only [putT, List.set]
 refine wpV_lenS (by rfl) rfl rfl rfl Tryd.underlying9 ?_
 simp only [putT, List.set]
 refine wpV_min (n := ra.length) (m := 40) (by rfl) rfl rfl rfl ?_
 simp only [putT, List.set]
 refine wpV_cut (l := ra) (m := 40) (by rfl) rfl rfl rfl Tryd.underlying9 ?_
 simp only [putT, List.set]
 refine wpV_move (v := .string (bs rb)) (by rfl) rfl rfl ?_
 simp only [putT, List.set]
 refine wpV_move (v := .string (bs rb)) (by rfl) rfl rfl ?_
 simp only [putT, List.set]
 refine wpV_lenS (by rfl) rfl rfl rfl Tryd.underlying9 ?_
 simp only [putT, List.set]
 refine wpV_min (n := rb.length) (m := 40) (by rfl) rfl rfl rfl ?_
 simp only [putT, List.set]
 refine wpV_cut (l := rb) (m := 40) (by rfl) rfl rfl rfl Tryd.underlying9 ?_
 simp only [putT, List.set]
 refine wpV_assign (v := .string (bs (cut ra 40))) (by rfl) rfl rfl ?_
 simp only [putT, List.set]
 refine wpV_assign (v := .string (bs (cut rb 40))) (by rfl) rfl rfl ?_
 simp only [putT, List.set]
 refine wpV_nil (hLk.out _ ?_)
 clear hLk Lk
 simp only [List.take, List.drop]
 iterate 12 refine wpN_skip (by rfl) ?_
 refine wpN_nil (fun w11 Sw11 hbs => ?_)
 clear hbs
 replace M := M.sees Sw11
 refine wpL_nil (no_panic ?_)
 simp only [hL, hR]
 refine hK9 _ _ ?_
 refine wp_seq_k (fun K12 hK12 => ?_)
 refine wp_region_seq ?_
 refine wpL_move (v := .string (bs la)) (by rfl) (by rfl) (by rfl) ?_
 simp only [putT, List.set]
 refine wpL_move (v := .string (bs lb)) (by rfl) (by rfl) (by rfl) ?_
 simp only [putT, List.set]
 refine wpL_move (v := .int .i64 x) (by rfl) (by rfl) (by rfl) ?_
 simp only [putT, List.set]
 refine wpL_move (v := .int .i64 y) (by rfl) (by rfl) (by rfl) ?_
 simp only [putT, List.set]
 refine wpL_move (v := .slice (some ⟨g5, 0, none⟩) Pl.length g5c) (by rfl) (by rfl) (by rfl) ?_
 simp only [putT, List.set]
 refine wpL_move (v := .slice (some ⟨g7, 0, none⟩) Ql.length g7c) (by rfl) (by rfl) (by rfl) ?_
 simp only [putT, List.set]
 refine wpL_chunk 5 (by rfl) (fun Lk hLk => ?_)
 simp only [List.take, List.drop]
 refine wpV_callf (v := .tuple #[.string (bs ([])), .string (bs ([])), .int .i64 1]) (args := #[.string (bs la), .string (bs lb), .int .i64 x, .int .i64 y, .slice (some ⟨g5, 0, none⟩) Pl.length g5c, .slice (some ⟨g7, 0, none⟩) Ql.length g7c]) (by rfl) rfl Tryd.func65 (by kernel_rfl) (by kernel_rfl) rfl (fun W hW => by with_reducible exact Clash_other h4 h4q hx hy hm (two_yes h1 h2) hp hq2 ((M.sees hW).oldL L0) ((M.sees hW).oldR R0_0 L0) (RowA.of ((M.sees hW).r 1 0 rfl rfl) ((M.sees hW).lt 1 rfl) (scells_len _).symm Cg5) (RowA.of ((M.sees hW).r 0 0 rfl rfl) ((M.sees hW).lt 0 rfl) (scells_len _).symm Cg7)) ?_
 simp only [putT, List.set]
 refine wpV_move (v := .tuple #[.string (bs ([])), .string (bs ([])), .int .i64 1]) (by rfl) rfl rfl ?_
 simp only [putT, List.set]
 refine wpV_extract (v := .string (bs ([]))) (by rfl) rfl rfl rfl ?_
 simp only [putT, List.set]
 refine wpV_extract (v := .string (bs ([]))) (by rfl) rfl rfl rfl ?_
 simp only [putT, List.set]
 refine wpV_extract (v := .int .i64 1) (by rfl) rfl rfl rfl ?_
 simp only [putT, List.set]
 refine wpV_nil (hLk _ (fun w14 Sw14 => ?_))
 clear hLk Lk
 simp only [List.take, List.drop]
 replace M := M.sees Sw14
 refine wpL_assign (v := .string (bs ([]))) (by rfl) (by rfl) (by rfl) ?_
 simp only [putT, List.set]
 refine wpL_assign (v := .string (bs ([]))) (by rfl) (by rfl) (by rfl) ?_
 simp only [putT, List.set]
 refine wpL_assign (v := .int .i64 1) (by rfl) (by rfl) (by rfl) ?_
 simp only [putT, List.set]
 refine wpL_nil (no_panic ?_)
 refine hK12 _ _ ?_
 refine wp_seq_k (fun K15 hK15 => ?_)
 refine wp_seq_k (fun K16 hK16 => ?_)
 refine wp_region_seq ?_
 refine wpL_move (v := .int .i64 x) (by rfl) (by rfl) (by rfl) ?_
 simp only [putT, List.set]
 refine wpL_chunk 30 (by rfl) (fun Lk hLk => ?_)
 simp only [List.take, List.drop]
 refine wpV_bin (v := .bool false) (by rfl) rfl rfl rfl (fun W => (run_lss _ _ _ _ W).trans (by rw [(decide_eq_false hx)])) ?_
 simp only [putT, List.set]
 refine wpV_move (v := .bool false) (by rfl) rfl rfl ?_
 simp only [putT, List.set]
 refine wpV_move (v := .int .i64 x) (by rfl) rfl rfl ?_
 simp only [putT, List.set]
 refine wpV_move (v := .int .i64 y) (by rfl) rfl rfl ?_
 simp only [putT, List.set]
 refine wpV_bin (v := .bool false) (by rfl) rfl rfl rfl (fun W => (run_geq _ _ _ _ W).trans (by rw [(decide_eq_false hy)])) ?_
 simp only [putT, List.set]
 refine wpV_pick (v := .bool false) (by rfl) rfl rfl rfl ?_
 simp only [putT, List.set]
 refine wpV_move (v := .bool false) (by rfl) rfl rfl ?_
 simp only [putT, List.set]
 refine wpV_move (v := .int .i64 y) (by rfl) rfl rfl ?_
 simp only [putT, List.set]
 refine wpV_bin (v := .bool false) (by rfl) rfl rfl rfl (fun W => (run_gtr _ _ _ _ W).trans (by rw [(decide_eq_false hm)])) ?_
 simp only [putT, List.set]
 refine wpV_pick (v := .bool false) (by rfl) rfl rfl rfl ?_
 simp only [putT, List.set]
 refine wpV_move (v := .bool false) (by rfl) rfl rfl ?_
 simp only [putT, List.set]
 refine wpV_move (v := .string (bs la)) (by rfl) rfl rfl ?_
 simp only [putT, List.set]
 refine wpV_lenS (by rfl) rfl rfl rfl Tryd.underlying9 ?_
 simp only [putT, List.set]
 refine wpV_bin (v := .bool false) (by rfl) rfl rfl rfl (fun W => (run_neqN la.length 32 _ _ W).trans (by rw [(decide_eq_false h1)])) ?_
 simp only [putT, List.set]
 refine wpV_pick (v := .bool false) (by rfl) rfl rfl rfl ?_
 simp only [putT, List.set]
 refine wpV_move (v := .bool false) (by rfl) rfl rfl ?_
 simp only [putT, List.set]
 refine wpV_move (v := .string (bs lb)) (by rfl) rfl rfl ?_
 simp only [putT, List.set]
 refine wpV_lenS (by rfl) rfl rfl rfl Tryd.underlying9 ?_
 simp only [putT, List.set]
 refine wpV_bin (v := .bool false) (by rfl) rfl rfl rfl (fun W => (run_neqN lb.length 32 _ _ W).trans (by rw [(decide_eq_false h2)])) ?_
 simp only [putT, List.set]
 refine wpV_pick (v := .bool false) (by rfl) rfl rfl rfl ?_
 simp only [putT, List.set]
 refine wpV_move (v := .bool false) (by rfl) rfl rfl ?_
 simp only [putT, List.set]
 refine wpV_move (v := .slice (some ⟨g5, 0, none⟩) Pl.length g5c) (by rfl) rfl rfl ?_
 simp only [putT, List.set]
 refine wpV_callf (v := .bool true) (args := #[.slice (some ⟨g5, 0, none⟩) Pl.length g5c]) (by rfl) rfl Tryd.func57 (by kernel_rfl) (by kernel_rfl) rfl (fun W hW => by have h9 : Calls Tryd.prog _ _ W _ := rall_r (ps := Pl) (by omega) (RowA.of ((M.sees hW).r 1 0 rfl rfl) ((M.sees hW).lt 1 rfl) (scells_len _).symm Cg5); rw [hp] at h9; exact h9) ?_
 simp only [putT, List.set]
 refine wpV_not (b := true) (by rfl) rfl rfl ?_
 simp only [Bool.not_true, Bool.not_false]
 simp only [putT, List.set]
 refine wpV_pick (v := .bool false) (by rfl) rfl rfl rfl ?_
 simp only [putT, List.set]
 refine wpV_move (v := .bool false) (by rfl) rfl rfl ?_
 simp only [putT, List.set]
 refine wpV_move (v := .slice (some ⟨g7, 0, none⟩) Ql.length g7c) (by rfl) rfl rfl ?_
 simp only [putT, List.set]
 refine wpV_callf (v := .bool false) (args := #[.slice (some ⟨g7, 0, none⟩) Ql.length g7c]) (by rfl) rfl Tryd.func57 (by kernel_rfl) (by kernel_rfl) rfl (fun W hW => by have h9 : Calls Tryd.prog _ _ W _ := rall_r (ps := Ql) (by omega) (RowA.of ((M.sees hW).r 0 0 rfl rfl) ((M.sees hW).lt 0 rfl) (scells_len _).symm Cg7); rw [hq2] at h9; exact h9) ?_
 simp only [putT, List.set]
 refine wpV_not (b := false) (by rfl) rfl rfl ?_
 simp only [Bool.not_true, Bool.not_false]
 simp only [putT, List.set]
 refine wpV_pick (v := .bool true) (by rfl) rfl rfl rfl ?_
 simp only [putT, List.set]
 refine wpV_nil (hLk _ (fun w18 Sw18 => ?_))
 clear hLk Lk
 simp only [List.take, List.drop]
 replace M := M.sees Sw18
 refine wpL_nil (no_panic ?_)
 refine hK16 _ _ ?_
 refine wp_cond_true rfl ?_
 refine wp_seq_k (fun K19 hK19 => ?_)
 refine wp_region_seq ?_
 refine wpL_chunk 13 (by rfl) (fun Lk hLk => ?_)
 simp only [List.take, List.drop]
 refine wpV_callf (v := .bool true) (args := #[]) (by rfl) rfl Tryd.func49 (by kernel_rfl) (by kernel_rfl) rfl (fun W hW => alive09_c ((M.sees hW).oldL L0) ((M.sees hW).oldR R0_0 L0)) ?_
 simp only [putT, List.set]
 refine wpV_move (v := .bool true) (by rfl) rfl rfl ?_
 simp only [putT, List.set]
 refine wpV_move (v := .int .i64 1) (by rfl) rfl rfl ?_
 simp only [putT, List.set]
 refine wpV_bin (v := .bool true) (by rfl) rfl rfl rfl (fun W => run_eql _ _ _ _ W) ?_
 simp only [putT, List.set]
 refine wpV_pick (v := .bool true) (by rfl) rfl rfl rfl ?_
 simp only [putT, List.set]
 refine wpV_move (v := .bool true) (by rfl) rfl rfl ?_
 simp only [putT, List.set]
 refine wpV_move (v := .string (bs ([]))) (by rfl) rfl rfl ?_
 simp only [putT, List.set]
 refine wpV_binS (v := .bool true) (by rfl) rfl rfl rfl (fun W => (run_eql_bs _ _ _ W).trans (by rw [show decide ([] = []) = true from (decide_eq_true rfl)])) ?_
 simp only [putT, List.set]
 refine wpV_pick (v := .bool true) (by rfl) rfl rfl rfl ?_
 simp only [putT, List.set]
 refine wpV_move (v := .bool true) (by rfl) rfl rfl ?_
 simp only [putT, List.set]
 refine wpV_move (v := .string (bs ([]))) (by rfl) rfl rfl ?_
 simp only [putT, List.set]
 refine wpV_binS (v := .bool true) (by rfl) rfl rfl rfl (fun W => (run_eql_bs _ _ _ W).trans (by rw [show decide ([] = []) = true from (decide_eq_true rfl)])) ?_
 simp only [putT, List.set]
 refine wpV_pick (v := .bool true) (by rfl) rfl rfl rfl ?_
 simp only [putT, List.set]
 refine wpV_nil (hLk _ (fun w21 Sw21 => ?_))
 clear hLk Lk
 simp only [List.take, List.drop]
 replace M := M.sees Sw21
 refine wpL_assign (v := .bool true) (by rfl) (by rfl) (by rfl) ?_
 simp only [putT, List.set]
 refine wpL_nil (no_panic ?_)
 refine hK19 _ _ ?_
 refine wp_ret ?_
 repeat (first | with_reducible refine then_ret ?_ | with_reducible refine inblock_ret ?_)
 refine bodyPost_ret (v := .bool true) (res1 rfl (.tmp (by rfl))) rfl ?_
 have BE := M.below
 exact ⟨rfl, BE⟩
set_option maxRecDepth 100000 in
set_option maxHeartbeats 4000000 in
theorem lclash_none {vls vms : Value} {ls ms Pl Ql : List (List UInt8)} {ra rb la lb : List UInt8} {i n : Nat} {w : World} (hQ1 : cutsS 50 40 ls = Pl) (hQ2 : cutsS 50 40 ms = Ql) (hPL : Pl.length ≤ 50) (hQL : Ql.length ≤ 50) (hL : cut ra 40 = la) (hR : cut rb 40 = lb) (hi : i < n) (hn : n ≤ 4096) (h1 : la.length = 32) (h2 : lb.length = 32) (hp : all32 Pl = true) (hq2 : all32 Ql = true) (hno : ¬ (la ≠ lb ∧ makesT la i n Pl ≠ [] ∧ makesT la i n Pl = makesT lb i n Ql)) (L0 : 0 < w.heap.size) (R0_0 : w.rangeAt 0 0 kcells) (hvls : RowS w vls ls) (hvms : RowS w vms ms) :
  Calls Tryd.prog 16 #[.string (bs ra), .string (bs rb), .int .i64 ((i : Nat) : Int), .int .i64 ((n : Nat) : Int), vls, vms] w fun e w' => e = .returned (.bool true) ∧ Below w.heap.size w w' := by
 have h4 : Pl.length ≤ 4096 := by omega
 have h4q : Ql.length ≤ 4096 := by omega
 go_enter Tryd.func16, Tryd.ntmps16
 have M := Mem.start w
 refine wp_seq_k (fun K1 hK1 => ?_)
 refine wp_region_seq ?_
 refine wpL_assign (v := .bool false) (by rfl) (by rfl) (by rfl) ?_
 simp only [putT, List.set]
 refine wpL_nil (no_panic ?_)
 refine hK1 _ _ ?_
 refine wp_seq_k (fun K3 hK3 => ?_)
 refine wp_region_seq ?_
 refine wpL_move (v := vls) (by rfl) (by rfl) (by rfl) ?_
 simp only [putT, List.set]
 refine wpL_callE (f := 46) (args := #[vls]) (R := MemRow w ((cutsS 50 40 ls).length) (scells (cutsS 50 40 ls))) (by rfl) (by rfl) rfl Tryd.func46 (by kernel_rfl) (by kernel_rfl) (few9_c (hvls.mem M)) (fun v9 w6 hv9 Sw6 => ?_)
 obtain ⟨g5, g5c, rfl, Cg5, M9⟩ := hv9
 replace M := M.call1 M9
 simp only [putT, List.set]
 refine wpL_move (v := vms) (by rfl) (by rfl) (by rfl) ?_
 simp only [putT, List.set]
 refine wpL_callE (f := 46) (args := #[vms]) (R := MemRow w6 ((cutsS 50 40 ms).length) (scells (cutsS 50 40 ms))) (by rfl) (by rfl) rfl Tryd.func46 (by kernel_rfl) (by kernel_rfl) (few9_c (hvms.mem M)) (fun v9 w8 hv9 Sw8 => ?_)
 obtain ⟨g7, g7c, rfl, Cg7, M9⟩ := hv9
 replace M := M.call1 M9
 simp only [putT, List.set]
 refine wpL_assign (v := .slice (some ⟨g5, 0, none⟩) ((cutsS 50 40 ls).length) g5c) (by rfl) (by rfl) (by rfl) ?_
 simp only [putT, List.set]
 refine wpL_assign (v := .slice (some ⟨g7, 0, none⟩) ((cutsS 50 40 ms).length) g7c) (by rfl) (by rfl) (by rfl) ?_
 simp only [putT, List.set]
 refine wpL_nil (no_panic ?_)
 simp only [hQ1, hQ2] at M
 simp only [hQ1, hQ2]
 rw [hQ2] at Cg7
 rw [hQ1] at Cg5
 refine hK3 _ _ ?_
 refine wp_seq_k (fun K9 hK9 => ?_)
 refine wp_region_grow 12 [] (by kernel_rfl) (by kernel_rfl) (by kernel_rfl) (fun Lk hLk => ?_)
 simp only [List.take, List.drop]
 refine wpV_move (v := .string (bs ra)) (by rfl) rfl rfl ?_
 simp only [putT, List.set]
 refine wpV_move (v := .string (bs ra)) (by rfl) rfl rfl ?_
 simp only [putT, List.set]
 refine wpV_lenS (by rfl) rfl rfl rfl Tryd.underlying9 ?_
 simp only [putT, List.set]
 refine wpV_min (n := ra.length) (m := 40) (by rfl) rfl rfl rfl ?_
 simp only [putT, List.set]
 refine wpV_cut (l := ra) (m := 40) (by rfl) rfl rfl rfl Tryd.underlying9 ?_
 simp only [putT, List.set]
 refine wpV_move (v := .string (bs rb)) (by rfl) rfl rfl ?_
 simp only [putT, List.set]
 refine wpV_move (v := .string (bs rb)) (by rfl) rfl rfl ?_
 simp only [putT, List.set]
 refine wpV_lenS (by rfl) rfl rfl rfl Tryd.underlying9 ?_
 simp only [putT, List.set]
 refine wpV_min (n := rb.length) (m := 40) (by rfl) rfl rfl rfl ?_
 simp only [putT, List.set]
 refine wpV_cut (l := rb) (m := 40) (by rfl) rfl rfl rfl Tryd.underlying9 ?_
 simp only [putT, List.set]
 refine wpV_assign (v := .string (bs (cut ra 40))) (by rfl) rfl rfl ?_
 simp only [putT, List.set]
 refine wpV_assign (v := .string (bs (cut rb 40))) (by rfl) rfl rfl ?_
 simp only [putT, List.set]
 refine wpV_nil (hLk.out _ ?_)
 clear hLk Lk
 simp only [List.take, List.drop]
 iterate 12 refine wpN_skip (by rfl) ?_
 refine wpN_nil (fun w11 Sw11 hbs => ?_)
 clear hbs
 replace M := M.sees Sw11
 refine wpL_nil (no_panic ?_)
 simp only [hL, hR]
 refine hK9 _ _ ?_
 refine wp_seq_k (fun K12 hK12 => ?_)
 refine wp_region_seq ?_
 refine wpL_move (v := .string (bs la)) (by rfl) (by rfl) (by rfl) ?_
 simp only [putT, List.set]
 refine wpL_move (v := .string (bs lb)) (by rfl) (by rfl) (by rfl) ?_
 simp only [putT, List.set]
 refine wpL_move (v := .int .i64 ((i : Nat) : Int)) (by rfl) (by rfl) (by rfl) ?_
 simp only [putT, List.set]
 refine wpL_move (v := .int .i64 ((n : Nat) : Int)) (by rfl) (by rfl) (by rfl) ?_
 simp only [putT, List.set]
 refine wpL_move (v := .slice (some ⟨g5, 0, none⟩) Pl.length g5c) (by rfl) (by rfl) (by rfl) ?_
 simp only [putT, List.set]
 refine wpL_move (v := .slice (some ⟨g7, 0, none⟩) Ql.length g7c) (by rfl) (by rfl) (by rfl) ?_
 simp only [putT, List.set]
 refine wpL_chunk 5 (by rfl) (fun Lk hLk => ?_)
 simp only [List.take, List.drop]
 refine wpV_callf (v := .tuple #[.string (bs ([])), .string (bs ([])), .int .i64 37]) (args := #[.string (bs la), .string (bs lb), .int .i64 ((i : Nat) : Int), .int .i64 ((n : Nat) : Int), .slice (some ⟨g5, 0, none⟩) Pl.length g5c, .slice (some ⟨g7, 0, none⟩) Ql.length g7c]) (by rfl) rfl Tryd.func65 (by kernel_rfl) (by kernel_rfl) rfl (fun W hW => by with_reducible exact Clash_no h4 h4q hi hn h1 h2 hp hq2 hno ((M.sees hW).oldL L0) ((M.sees hW).oldR R0_0 L0) (RowA.of ((M.sees hW).r 1 0 rfl rfl) ((M.sees hW).lt 1 rfl) (scells_len _).symm Cg5) (RowA.of ((M.sees hW).r 0 0 rfl rfl) ((M.sees hW).lt 0 rfl) (scells_len _).symm Cg7)) ?_
 simp only [putT, List.set]
 refine wpV_move (v := .tuple #[.string (bs ([])), .string (bs ([])), .int .i64 37]) (by rfl) rfl rfl ?_
 simp only [putT, List.set]
 refine wpV_extract (v := .string (bs ([]))) (by rfl) rfl rfl rfl ?_
 simp only [putT, List.set]
 refine wpV_extract (v := .string (bs ([]))) (by rfl) rfl rfl rfl ?_
 simp only [putT, List.set]
 refine wpV_extract (v := .int .i64 37) (by rfl) rfl rfl rfl ?_
 simp only [putT, List.set]
 refine wpV_nil (hLk _ (fun w14 Sw14 => ?_))
 clear hLk Lk
 simp only [List.take, List.drop]
 replace M := M.sees Sw14
 refine wpL_assign (v := .string (bs ([]))) (by rfl) (by rfl) (by rfl) ?_
 simp only [putT, List.set]
 refine wpL_assign (v := .string (bs ([]))) (by rfl) (by rfl) (by rfl) ?_
 simp only [putT, List.set]
 refine wpL_assign (v := .int .i64 37) (by rfl) (by rfl) (by rfl) ?_
 simp only [putT, List.set]
 refine wpL_nil (no_panic ?_)
 refine hK12 _ _ ?_
 refine wp_seq_k (fun K15 hK15 => ?_)
 refine wp_seq_k (fun K16 hK16 => ?_)
 refine wp_region_seq ?_
 refine wpL_move (v := .int .i64 ((i : Nat) : Int)) (by rfl) (by rfl) (by rfl) ?_
 simp only [putT, List.set]
 refine wpL_chunk 30 (by rfl) (fun Lk hLk => ?_)
 simp only [List.take, List.drop]
 refine wpV_bin (v := .bool false) (by rfl) rfl rfl rfl (fun W => (run_lssN i 0 _ _ W).trans (by rw [(decide_eq_false (Nat.not_lt_zero i))])) ?_
 simp only [putT, List.set]
 refine wpV_move (v := .bool false) (by rfl) rfl rfl ?_
 simp only [putT, List.set]
 refine wpV_move (v := .int .i64 ((i : Nat) : Int)) (by rfl) rfl rfl ?_
 simp only [putT, List.set]
 refine wpV_move (v := .int .i64 ((n : Nat) : Int)) (by rfl) rfl rfl ?_
 simp only [putT, List.set]
 refine wpV_bin (v := .bool false) (by rfl) rfl rfl rfl (fun W => (run_geqN i n _ _ W).trans (by rw [(decide_eq_false (Nat.not_le.2 hi))])) ?_
 simp only [putT, List.set]
 refine wpV_pick (v := .bool false) (by rfl) rfl rfl rfl ?_
 simp only [putT, List.set]
 refine wpV_move (v := .bool false) (by rfl) rfl rfl ?_
 simp only [putT, List.set]
 refine wpV_move (v := .int .i64 ((n : Nat) : Int)) (by rfl) rfl rfl ?_
 simp only [putT, List.set]
 refine wpV_bin (v := .bool false) (by rfl) rfl rfl rfl (fun W => (run_gtrN n 4096 _ _ W).trans (by rw [(decide_eq_false (Nat.not_lt.2 hn))])) ?_
 simp only [putT, List.set]
 refine wpV_pick (v := .bool false) (by rfl) rfl rfl rfl ?_
 simp only [putT, List.set]
 refine wpV_move (v := .bool false) (by rfl) rfl rfl ?_
 simp only [putT, List.set]
 refine wpV_move (v := .string (bs la)) (by rfl) rfl rfl ?_
 simp only [putT, List.set]
 refine wpV_lenS (by rfl) rfl rfl rfl Tryd.underlying9 ?_
 simp only [putT, List.set]
 refine wpV_bin (v := .bool false) (by rfl) rfl rfl rfl (fun W => (run_neqN la.length 32 _ _ W).trans (by rw [(decide_eq_false (fun e9 => e9 h1))])) ?_
 simp only [putT, List.set]
 refine wpV_pick (v := .bool false) (by rfl) rfl rfl rfl ?_
 simp only [putT, List.set]
 refine wpV_move (v := .bool false) (by rfl) rfl rfl ?_
 simp only [putT, List.set]
 refine wpV_move (v := .string (bs lb)) (by rfl) rfl rfl ?_
 simp only [putT, List.set]
 refine wpV_lenS (by rfl) rfl rfl rfl Tryd.underlying9 ?_
 simp only [putT, List.set]
 refine wpV_bin (v := .bool false) (by rfl) rfl rfl rfl (fun W => (run_neqN lb.length 32 _ _ W).trans (by rw [(decide_eq_false (fun e9 => e9 h2))])) ?_
 simp only [putT, List.set]
 refine wpV_pick (v := .bool false) (by rfl) rfl rfl rfl ?_
 simp only [putT, List.set]
 refine wpV_move (v := .bool false) (by rfl) rfl rfl ?_
 simp only [putT, List.set]
 refine wpV_move (v := .slice (some ⟨g5, 0, none⟩) Pl.length g5c) (by rfl) rfl rfl ?_
 simp only [putT, List.set]
 refine wpV_callf (v := .bool true) (args := #[.slice (some ⟨g5, 0, none⟩) Pl.length g5c]) (by rfl) rfl Tryd.func57 (by kernel_rfl) (by kernel_rfl) rfl (fun W hW => by have h9 : Calls Tryd.prog _ _ W _ := rall_r (ps := Pl) (by omega) (RowA.of ((M.sees hW).r 1 0 rfl rfl) ((M.sees hW).lt 1 rfl) (scells_len _).symm Cg5); rw [hp] at h9; exact h9) ?_
 simp only [putT, List.set]
 refine wpV_not (b := true) (by rfl) rfl rfl ?_
 simp only [Bool.not_true, Bool.not_false]
 simp only [putT, List.set]
 refine wpV_pick (v := .bool false) (by rfl) rfl rfl rfl ?_
 simp only [putT, List.set]
 refine wpV_move (v := .bool false) (by rfl) rfl rfl ?_
 simp only [putT, List.set]
 refine wpV_move (v := .slice (some ⟨g7, 0, none⟩) Ql.length g7c) (by rfl) rfl rfl ?_
 simp only [putT, List.set]
 refine wpV_callf (v := .bool true) (args := #[.slice (some ⟨g7, 0, none⟩) Ql.length g7c]) (by rfl) rfl Tryd.func57 (by kernel_rfl) (by kernel_rfl) rfl (fun W hW => by have h9 : Calls Tryd.prog _ _ W _ := rall_r (ps := Ql) (by omega) (RowA.of ((M.sees hW).r 0 0 rfl rfl) ((M.sees hW).lt 0 rfl) (scells_len _).symm Cg7); rw [hq2] at h9; exact h9) ?_
 simp only [putT, List.set]
 refine wpV_not (b := true) (by rfl) rfl rfl ?_
 simp only [Bool.not_true, Bool.not_false]
 simp only [putT, List.set]
 refine wpV_pick (v := .bool false) (by rfl) rfl rfl rfl ?_
 simp only [putT, List.set]
 refine wpV_nil (hLk _ (fun w18 Sw18 => ?_))
 clear hLk Lk
 simp only [List.take, List.drop]
 replace M := M.sees Sw18
 refine wpL_nil (no_panic ?_)
 refine hK16 _ _ ?_
 refine wp_cond_false rfl ?_
 refine wp_skip ?_
 refine hK15 _ _ ?_
 refine wp_seq_k (fun K19 hK19 => ?_)
 refine wp_region_seq ?_
 refine wpL_move (v := .string (bs la)) (by rfl) (by rfl) (by rfl) ?_
 simp only [putT, List.set]
 refine wpL_move (v := .int .i64 ((i : Nat) : Int)) (by rfl) (by rfl) (by rfl) ?_
 simp only [putT, List.set]
 refine wpL_move (v := .int .i64 ((n : Nat) : Int)) (by rfl) (by rfl) (by rfl) ?_
 simp only [putT, List.set]
 refine wpL_move (v := .slice (some ⟨g5, 0, none⟩) Pl.length g5c) (by rfl) (by rfl) (by rfl) ?_
 simp only [putT, List.set]
 refine wpL_chunk 6 (by rfl) (fun Lk hLk => ?_)
 simp only [List.take, List.drop]
 refine wpV_callf (v := .string (bs (makesT la i n Pl))) (args := #[.string (bs la), .int .i64 ((i : Nat) : Int), .int .i64 ((n : Nat) : Int), .slice (some ⟨g5, 0, none⟩) Pl.length g5c]) (by rfl) rfl Tryd.func58 (by kernel_rfl) (by kernel_rfl) rfl (fun W hW => by with_reducible exact rmakes_c _ (ps := Pl) (leaf := la) (i := i) (n := n) rfl (by omega) hn hi h1 (by omega) (all32_mem hp) (RowA.of ((M.sees hW).r 1 0 rfl rfl) ((M.sees hW).lt 1 rfl) (scells_len _).symm Cg5)) ?_
 simp only [putT, List.set]
 refine wpV_move (v := .string (bs lb)) (by rfl) rfl rfl ?_
 simp only [putT, List.set]
 refine wpV_move (v := .int .i64 ((i : Nat) : Int)) (by rfl) rfl rfl ?_
 simp only [putT, List.set]
 refine wpV_move (v := .int .i64 ((n : Nat) : Int)) (by rfl) rfl rfl ?_
 simp only [putT, List.set]
 refine wpV_move (v := .slice (some ⟨g7, 0, none⟩) Ql.length g7c) (by rfl) rfl rfl ?_
 simp only [putT, List.set]
 refine wpV_callf (v := .string (bs (makesT lb i n Ql))) (args := #[.string (bs lb), .int .i64 ((i : Nat) : Int), .int .i64 ((n : Nat) : Int), .slice (some ⟨g7, 0, none⟩) Ql.length g7c]) (by rfl) rfl Tryd.func58 (by kernel_rfl) (by kernel_rfl) rfl (fun W hW => by with_reducible exact rmakes_c _ (ps := Ql) (leaf := lb) (i := i) (n := n) rfl (by omega) hn hi h2 (by omega) (all32_mem hq2) (RowA.of ((M.sees hW).r 0 0 rfl rfl) ((M.sees hW).lt 0 rfl) (scells_len _).symm Cg7)) ?_
 simp only [putT, List.set]
 refine wpV_nil (hLk _ (fun w21 Sw21 => ?_))
 clear hLk Lk
 simp only [List.take, List.drop]
 replace M := M.sees Sw21
 refine wpL_assign (v := .string (bs (makesT la i n Pl))) (by rfl) (by rfl) (by rfl) ?_
 simp only [putT, List.set]
 refine wpL_assign (v := .string (bs (makesT lb i n Ql))) (by rfl) (by rfl) (by rfl) ?_
 simp only [putT, List.set]
 refine wpL_nil (no_panic ?_)
 refine hK19 _ _ ?_
 refine wp_seq_k (fun K22 hK22 => ?_)
 refine wp_seq_k (fun K23 hK23 => ?_)
 cases hg24 : (decide (la = lb))
 ·
  have hab : ¬ la = lb := of_decide_eq_false hg24
  cases hg25 : (decide (makesT la i n Pl = []))
  ·
   have hmm : ¬ makesT la i n Pl = [] := of_decide_eq_false hg25
   refine wp_region_seq ?_
   refine wpL_move (v := .string (bs la)) (by rfl) (by rfl) (by rfl) ?_
   simp only [putT, List.set]
   refine wpL_move (v := .string (bs lb)) (by rfl) (by rfl) (by rfl) ?_
   simp only [putT, List.set]
   refine wpL_chunk 10 (by rfl) (fun Lk hLk => ?_)
   simp only [List.take, List.drop]
   refine wpV_binS (v := .bool false) (by rfl) rfl rfl rfl (fun W => (run_eql_bs _ _ _ W).trans (by rw [hg24])) ?_
   simp only [putT, List.set]
   refine wpV_move (v := .bool false) (by rfl) rfl rfl ?_
   simp only [putT, List.set]
   refine wpV_move (v := .string (bs (makesT la i n Pl))) (by rfl) rfl rfl ?_
   simp only [putT, List.set]
   refine wpV_binS (v := .bool false) (by rfl) rfl rfl rfl (fun W => (run_eql_bs _ _ _ W).trans (by rw [hg25])) ?_
   simp only [putT, List.set]
   refine wpV_pick (v := .bool false) (by rfl) rfl rfl rfl ?_
   simp only [putT, List.set]
   refine wpV_move (v := .bool false) (by rfl) rfl rfl ?_
   simp only [putT, List.set]
   refine wpV_move (v := .string (bs (makesT la i n Pl))) (by rfl) rfl rfl ?_
   simp only [putT, List.set]
   refine wpV_move (v := .string (bs (makesT lb i n Ql))) (by rfl) rfl rfl ?_
   simp only [putT, List.set]
   refine wpV_binS (v := .bool (decide (makesT la i n Pl ≠ makesT lb i n Ql))) (by rfl) rfl rfl rfl (run_neq_bs _ _ _) ?_
   simp only [putT, List.set]
   refine wpV_pick (v := .bool (decide (makesT la i n Pl ≠ makesT lb i n Ql))) (by rfl) rfl rfl rfl ?_
   simp only [putT, List.set]
   refine wpV_nil (hLk _ (fun w27 Sw27 => ?_))
   clear hLk Lk
   simp only [List.take, List.drop]
   replace M := M.sees Sw27
   refine wpL_nil (no_panic ?_)
   refine hK23 _ _ ?_
   cases hc28 : (decide (makesT la i n Pl ≠ makesT lb i n Ql))
   ·
    exact absurd ⟨hab, hmm, Decidable.not_not.1 (of_decide_eq_false hc28)⟩ hno
   ·
    refine wp_cond_true rfl ?_
    refine wp_seq_k (fun K29 hK29 => ?_)
    refine wp_region_seq ?_
    refine wpL_chunk 13 (by rfl) (fun Lk hLk => ?_)
    simp only [List.take, List.drop]
    refine wpV_callf (v := .bool true) (args := #[]) (by rfl) rfl Tryd.func49 (by kernel_rfl) (by kernel_rfl) rfl (fun W hW => alive09_c ((M.sees hW).oldL L0) ((M.sees hW).oldR R0_0 L0)) ?_
    simp only [putT, List.set]
    refine wpV_move (v := .bool true) (by rfl) rfl rfl ?_
    simp only [putT, List.set]
    refine wpV_move (v := .int .i64 37) (by rfl) rfl rfl ?_
    simp only [putT, List.set]
    refine wpV_bin (v := .bool true) (by rfl) rfl rfl rfl (fun W => run_eql _ _ _ _ W) ?_
    simp only [putT, List.set]
    refine wpV_pick (v := .bool true) (by rfl) rfl rfl rfl ?_
    simp only [putT, List.set]
    refine wpV_move (v := .bool true) (by rfl) rfl rfl ?_
    simp only [putT, List.set]
    refine wpV_move (v := .string (bs ([]))) (by rfl) rfl rfl ?_
    simp only [putT, List.set]
    refine wpV_binS (v := .bool true) (by rfl) rfl rfl rfl (fun W => (run_eql_bs _ _ _ W).trans (by rw [show decide ([] = []) = true from (decide_eq_true rfl)])) ?_
    simp only [putT, List.set]
    refine wpV_pick (v := .bool true) (by rfl) rfl rfl rfl ?_
    simp only [putT, List.set]
    refine wpV_move (v := .bool true) (by rfl) rfl rfl ?_
    simp only [putT, List.set]
    refine wpV_move (v := .string (bs ([]))) (by rfl) rfl rfl ?_
    simp only [putT, List.set]
    refine wpV_binS (v := .bool true) (by rfl) rfl rfl rfl (fun W => (run_eql_bs _ _ _ W).trans (by rw [show decide ([] = []) = true from (decide_eq_true rfl)])) ?_
    simp only [putT, List.set]
    refine wpV_pick (v := .bool true) (by rfl) rfl rfl rfl ?_
    simp only [putT, List.set]
    refine wpV_nil (hLk _ (fun w31 Sw31 => ?_))
    clear hLk Lk
    simp only [List.take, List.drop]
    replace M := M.sees Sw31
    refine wpL_assign (v := .bool true) (by rfl) (by rfl) (by rfl) ?_
    simp only [putT, List.set]
    refine wpL_nil (no_panic ?_)
    refine hK29 _ _ ?_
    refine wp_ret ?_
    repeat (first | with_reducible refine then_ret ?_ | with_reducible refine inblock_ret ?_)
    refine bodyPost_ret (v := .bool true) (res1 rfl (.tmp (by rfl))) rfl ?_
    have BE := M.below
    exact ⟨rfl, BE⟩
  ·
   have hmm : makesT la i n Pl = [] := of_decide_eq_true hg25
   refine wp_region_seq ?_
   refine wpL_move (v := .string (bs la)) (by rfl) (by rfl) (by rfl) ?_
   simp only [putT, List.set]
   refine wpL_move (v := .string (bs lb)) (by rfl) (by rfl) (by rfl) ?_
   simp only [putT, List.set]
   refine wpL_chunk 10 (by rfl) (fun Lk hLk => ?_)
   simp only [List.take, List.drop]
   refine wpV_binS (v := .bool false) (by rfl) rfl rfl rfl (fun W => (run_eql_bs _ _ _ W).trans (by rw [hg24])) ?_
   simp only [putT, List.set]
   refine wpV_move (v := .bool false) (by rfl) rfl rfl ?_
   simp only [putT, List.set]
   refine wpV_move (v := .string (bs (makesT la i n Pl))) (by rfl) rfl rfl ?_
   simp only [putT, List.set]
   refine wpV_binS (v := .bool true) (by rfl) rfl rfl rfl (fun W => (run_eql_bs _ _ _ W).trans (by rw [hg25])) ?_
   simp only [putT, List.set]
   refine wpV_pick (v := .bool true) (by rfl) rfl rfl rfl ?_
   simp only [putT, List.set]
   refine wpV_move (v := .bool true) (by rfl) rfl rfl ?_
   simp only [putT, List.set]
   refine wpV_skip (by rfl) (by rfl) ?_
   simp only [putT, List.set]
   refine wpV_skip (by rfl) (by rfl) ?_
   simp only [putT, List.set]
   refine wpV_skip (by rfl) (by rfl) ?_
   simp only [putT, List.set]
   refine wpV_pick (v := .bool true) (by rfl) rfl rfl rfl ?_
   simp only [putT, List.set]
   refine wpV_nil (hLk _ (fun w33 Sw33 => ?_))
   clear hLk Lk
   simp only [List.take, List.drop]
   replace M := M.sees Sw33
   refine wpL_nil (no_panic ?_)
   refine hK23 _ _ ?_
   refine wp_cond_true rfl ?_
   refine wp_seq_k (fun K34 hK34 => ?_)
   refine wp_region_seq ?_
   refine wpL_chunk 13 (by rfl) (fun Lk hLk => ?_)
   simp only [List.take, List.drop]
   refine wpV_callf (v := .bool true) (args := #[]) (by rfl) rfl Tryd.func49 (by kernel_rfl) (by kernel_rfl) rfl (fun W hW => alive09_c ((M.sees hW).oldL L0) ((M.sees hW).oldR R0_0 L0)) ?_
   simp only [putT, List.set]
   refine wpV_move (v := .bool true) (by rfl) rfl rfl ?_
   simp only [putT, List.set]
   refine wpV_move (v := .int .i64 37) (by rfl) rfl rfl ?_
   simp only [putT, List.set]
   refine wpV_bin (v := .bool true) (by rfl) rfl rfl rfl (fun W => run_eql _ _ _ _ W) ?_
   simp only [putT, List.set]
   refine wpV_pick (v := .bool true) (by rfl) rfl rfl rfl ?_
   simp only [putT, List.set]
   refine wpV_move (v := .bool true) (by rfl) rfl rfl ?_
   simp only [putT, List.set]
   refine wpV_move (v := .string (bs ([]))) (by rfl) rfl rfl ?_
   simp only [putT, List.set]
   refine wpV_binS (v := .bool true) (by rfl) rfl rfl rfl (fun W => (run_eql_bs _ _ _ W).trans (by rw [show decide ([] = []) = true from (decide_eq_true rfl)])) ?_
   simp only [putT, List.set]
   refine wpV_pick (v := .bool true) (by rfl) rfl rfl rfl ?_
   simp only [putT, List.set]
   refine wpV_move (v := .bool true) (by rfl) rfl rfl ?_
   simp only [putT, List.set]
   refine wpV_move (v := .string (bs ([]))) (by rfl) rfl rfl ?_
   simp only [putT, List.set]
   refine wpV_binS (v := .bool true) (by rfl) rfl rfl rfl (fun W => (run_eql_bs _ _ _ W).trans (by rw [show decide ([] = []) = true from (decide_eq_true rfl)])) ?_
   simp only [putT, List.set]
   refine wpV_pick (v := .bool true) (by rfl) rfl rfl rfl ?_
   simp only [putT, List.set]
   refine wpV_nil (hLk _ (fun w36 Sw36 => ?_))
   clear hLk Lk
   simp only [List.take, List.drop]
   replace M := M.sees Sw36
   refine wpL_assign (v := .bool true) (by rfl) (by rfl) (by rfl) ?_
   simp only [putT, List.set]
   refine wpL_nil (no_panic ?_)
   refine hK34 _ _ ?_
   refine wp_ret ?_
   repeat (first | with_reducible refine then_ret ?_ | with_reducible refine inblock_ret ?_)
   refine bodyPost_ret (v := .bool true) (res1 rfl (.tmp (by rfl))) rfl ?_
   have BE := M.below
   exact ⟨rfl, BE⟩
 ·
  have hab : la = lb := of_decide_eq_true hg24
  refine wp_region_seq ?_
  refine wpL_move (v := .string (bs la)) (by rfl) (by rfl) (by rfl) ?_
  simp only [putT, List.set]
  refine wpL_move (v := .string (bs lb)) (by rfl) (by rfl) (by rfl) ?_
  simp only [putT, List.set]
  refine wpL_chunk 10 (by rfl) (fun Lk hLk => ?_)
  simp only [List.take, List.drop]
  refine wpV_binS (v := .bool true) (by rfl) rfl rfl rfl (fun W => (run_eql_bs _ _ _ W).trans (by rw [hg24])) ?_
  simp only [putT, List.set]
  refine wpV_move (v := .bool true) (by rfl) rfl rfl ?_
  simp only [putT, List.set]
  refine wpV_skip (by rfl) (by rfl) ?_
  simp only [putT, List.set]
  refine wpV_skip (by rfl) (by rfl) ?_
  simp only [putT, List.set]
  refine wpV_pick (v := .bool true) (by rfl) rfl rfl rfl ?_
  simp only [putT, List.set]
  refine wpV_move (v := .bool true) (by rfl) rfl rfl ?_
  simp only [putT, List.set]
  refine wpV_skip (by rfl) (by rfl) ?_
  simp only [putT, List.set]
  refine wpV_skip (by rfl) (by rfl) ?_
  simp only [putT, List.set]
  refine wpV_skip (by rfl) (by rfl) ?_
  simp only [putT, List.set]
  refine wpV_pick (v := .bool true) (by rfl) rfl rfl rfl ?_
  simp only [putT, List.set]
  refine wpV_nil (hLk _ (fun w38 Sw38 => ?_))
  clear hLk Lk
  simp only [List.take, List.drop]
  replace M := M.sees Sw38
  refine wpL_nil (no_panic ?_)
  refine hK23 _ _ ?_
  refine wp_cond_true rfl ?_
  refine wp_seq_k (fun K39 hK39 => ?_)
  refine wp_region_seq ?_
  refine wpL_chunk 13 (by rfl) (fun Lk hLk => ?_)
  simp only [List.take, List.drop]
  refine wpV_callf (v := .bool true) (args := #[]) (by rfl) rfl Tryd.func49 (by kernel_rfl) (by kernel_rfl) rfl (fun W hW => alive09_c ((M.sees hW).oldL L0) ((M.sees hW).oldR R0_0 L0)) ?_
  simp only [putT, List.set]
  refine wpV_move (v := .bool true) (by rfl) rfl rfl ?_
  simp only [putT, List.set]
  refine wpV_move (v := .int .i64 37) (by rfl) rfl rfl ?_
  simp only [putT, List.set]
  refine wpV_bin (v := .bool true) (by rfl) rfl rfl rfl (fun W => run_eql _ _ _ _ W) ?_
  simp only [putT, List.set]
  refine wpV_pick (v := .bool true) (by rfl) rfl rfl rfl ?_
  simp only [putT, List.set]
  refine wpV_move (v := .bool true) (by rfl) rfl rfl ?_
  simp only [putT, List.set]
  refine wpV_move (v := .string (bs ([]))) (by rfl) rfl rfl ?_
  simp only [putT, List.set]
  refine wpV_binS (v := .bool true) (by rfl) rfl rfl rfl (fun W => (run_eql_bs _ _ _ W).trans (by rw [show decide ([] = []) = true from (decide_eq_true rfl)])) ?_
  simp only [putT, List.set]
  refine wpV_pick (v := .bool true) (by rfl) rfl rfl rfl ?_
  simp only [putT, List.set]
  refine wpV_move (v := .bool true) (by rfl) rfl rfl ?_
  simp only [putT, List.set]
  refine wpV_move (v := .string (bs ([]))) (by rfl) rfl rfl ?_
  simp only [putT, List.set]
  refine wpV_binS (v := .bool true) (by rfl) rfl rfl rfl (fun W => (run_eql_bs _ _ _ W).trans (by rw [show decide ([] = []) = true from (decide_eq_true rfl)])) ?_
  simp only [putT, List.set]
  refine wpV_pick (v := .bool true) (by rfl) rfl rfl rfl ?_
  simp only [putT, List.set]
  refine wpV_nil (hLk _ (fun w41 Sw41 => ?_))
  clear hLk Lk
  simp only [List.take, List.drop]
  replace M := M.sees Sw41
  refine wpL_assign (v := .bool true) (by rfl) (by rfl) (by rfl) ?_
  simp only [putT, List.set]
  refine wpL_nil (no_panic ?_)
  refine hK39 _ _ ?_
  refine wp_ret ?_
  repeat (first | with_reducible refine then_ret ?_ | with_reducible refine inblock_ret ?_)
  refine bodyPost_ret (v := .bool true) (res1 rfl (.tmp (by rfl))) rfl ?_
  have BE := M.below
  exact ⟨rfl, BE⟩
set_option maxRecDepth 100000 in
set_option maxHeartbeats 4000000 in
theorem lclash_found {vls vms : Value} {ls ms Pl Ql : List (List UInt8)} {ra rb la lb : List UInt8} {i n : Nat} {P Q : List (List UInt8)} {fx fy : List UInt8} {w : World} (hQ1 : cutsS 50 40 ls = Pl) (hQ2 : cutsS 50 40 ms = Ql) (hPL : Pl.length ≤ 50) (hQL : Ql.length ≤ 50) (hL : cut ra 40 = la) (hR : cut rb 40 = lb) (hi : i < n) (hn : n ≤ 4096) (h1 : la.length = 32) (h2 : lb.length = 32) (hp : all32 Pl = true) (hq2 : all32 Ql = true) (hne : la ≠ lb) (hmk : makesT la i n Pl ≠ []) (heq : makesT la i n Pl = makesT lb i n Ql) (hPd : downT la i n Pl = P) (hQd : downT lb i n Ql = Q) (hQP : Q.length = P.length) (hP50 : P.length ≤ 50) (hc : clashT P Q = some (fx, fy)) (hsh : sha fx = sha fy) (hfx65 : fx.length = 65) (hfy65 : fy.length = 65) (L0 : 0 < w.heap.size) (R0_0 : w.rangeAt 0 0 kcells) (hvls : RowS w vls ls) (hvms : RowS w vms ms) :
  Calls Tryd.prog 16 #[.string (bs ra), .string (bs rb), .int .i64 ((i : Nat) : Int), .int .i64 ((n : Nat) : Int), vls, vms] w fun e w' => e = .returned (.bool true) ∧ Below w.heap.size w w' := by
 have h4 : Pl.length ≤ 4096 := by omega
 have h4q : Ql.length ≤ 4096 := by omega
 go_enter Tryd.func16, Tryd.ntmps16
 have M := Mem.start w
 refine wp_seq_k (fun K1 hK1 => ?_)
 refine wp_region_seq ?_
 refine wpL_assign (v := .bool false) (by rfl) (by rfl) (by rfl) ?_
 simp only [putT, List.set]
 refine wpL_nil (no_panic ?_)
 refine hK1 _ _ ?_
 refine wp_seq_k (fun K3 hK3 => ?_)
 refine wp_region_seq ?_
 refine wpL_move (v := vls) (by rfl) (by rfl) (by rfl) ?_
 simp only [putT, List.set]
 refine wpL_callE (f := 46) (args := #[vls]) (R := MemRow w ((cutsS 50 40 ls).length) (scells (cutsS 50 40 ls))) (by rfl) (by rfl) rfl Tryd.func46 (by kernel_rfl) (by kernel_rfl) (few9_c (hvls.mem M)) (fun v9 w6 hv9 Sw6 => ?_)
 obtain ⟨g5, g5c, rfl, Cg5, M9⟩ := hv9
 replace M := M.call1 M9
 simp only [putT, List.set]
 refine wpL_move (v := vms) (by rfl) (by rfl) (by rfl) ?_
 simp only [putT, List.set]
 refine wpL_callE (f := 46) (args := #[vms]) (R := MemRow w6 ((cutsS 50 40 ms).length) (scells (cutsS 50 40 ms))) (by rfl) (by rfl) rfl Tryd.func46 (by kernel_rfl) (by kernel_rfl) (few9_c (hvms.mem M)) (fun v9 w8 hv9 Sw8 => ?_)
 obtain ⟨g7, g7c, rfl, Cg7, M9⟩ := hv9
 replace M := M.call1 M9
 simp only [putT, List.set]
 refine wpL_assign (v := .slice (some ⟨g5, 0, none⟩) ((cutsS 50 40 ls).length) g5c) (by rfl) (by rfl) (by rfl) ?_
 simp only [putT, List.set]
 refine wpL_assign (v := .slice (some ⟨g7, 0, none⟩) ((cutsS 50 40 ms).length) g7c) (by rfl) (by rfl) (by rfl) ?_
 simp only [putT, List.set]
 refine wpL_nil (no_panic ?_)
 simp only [hQ1, hQ2] at M
 simp only [hQ1, hQ2]
 rw [hQ2] at Cg7
 rw [hQ1] at Cg5
 refine hK3 _ _ ?_
 refine wp_seq_k (fun K9 hK9 => ?_)
 refine wp_region_grow 12 [] (by kernel_rfl) (by kernel_rfl) (by kernel_rfl) (fun Lk hLk => ?_)
 simp only [List.take, List.drop]
 refine wpV_move (v := .string (bs ra)) (by rfl) rfl rfl ?_
 simp only [putT, List.set]
 refine wpV_move (v := .string (bs ra)) (by rfl) rfl rfl ?_
 simp only [putT, List.set]
 refine wpV_lenS (by rfl) rfl rfl rfl Tryd.underlying9 ?_
 simp only [putT, List.set]
 refine wpV_min (n := ra.length) (m := 40) (by rfl) rfl rfl rfl ?_
 simp only [putT, List.set]
 refine wpV_cut (l := ra) (m := 40) (by rfl) rfl rfl rfl Tryd.underlying9 ?_
 simp only [putT, List.set]
 refine wpV_move (v := .string (bs rb)) (by rfl) rfl rfl ?_
 simp only [putT, List.set]
 refine wpV_move (v := .string (bs rb)) (by rfl) rfl rfl ?_
 simp only [putT, List.set]
 refine wpV_lenS (by rfl) rfl rfl rfl Tryd.underlying9 ?_
 simp only [putT, List.set]
 refine wpV_min (n := rb.length) (m := 40) (by rfl) rfl rfl rfl ?_
 simp only [putT, List.set]
 refine wpV_cut (l := rb) (m := 40) (by rfl) rfl rfl rfl Tryd.underlying9 ?_
 simp only [putT, List.set]
 refine wpV_assign (v := .string (bs (cut ra 40))) (by rfl) rfl rfl ?_
 simp only [putT, List.set]
 refine wpV_assign (v := .string (bs (cut rb 40))) (by rfl) rfl rfl ?_
 simp only [putT, List.set]
 refine wpV_nil (hLk.out _ ?_)
 clear hLk Lk
 simp only [List.take, List.drop]
 iterate 12 refine wpN_skip (by rfl) ?_
 refine wpN_nil (fun w11 Sw11 hbs => ?_)
 clear hbs
 replace M := M.sees Sw11
 refine wpL_nil (no_panic ?_)
 simp only [hL, hR]
 refine hK9 _ _ ?_
 refine wp_seq_k (fun K12 hK12 => ?_)
 refine wp_region_seq ?_
 refine wpL_move (v := .string (bs la)) (by rfl) (by rfl) (by rfl) ?_
 simp only [putT, List.set]
 refine wpL_move (v := .string (bs lb)) (by rfl) (by rfl) (by rfl) ?_
 simp only [putT, List.set]
 refine wpL_move (v := .int .i64 ((i : Nat) : Int)) (by rfl) (by rfl) (by rfl) ?_
 simp only [putT, List.set]
 refine wpL_move (v := .int .i64 ((n : Nat) : Int)) (by rfl) (by rfl) (by rfl) ?_
 simp only [putT, List.set]
 refine wpL_move (v := .slice (some ⟨g5, 0, none⟩) Pl.length g5c) (by rfl) (by rfl) (by rfl) ?_
 simp only [putT, List.set]
 refine wpL_move (v := .slice (some ⟨g7, 0, none⟩) Ql.length g7c) (by rfl) (by rfl) (by rfl) ?_
 simp only [putT, List.set]
 refine wpL_chunk 5 (by rfl) (fun Lk hLk => ?_)
 simp only [List.take, List.drop]
 refine wpV_callf (v := .tuple #[.string (bs fx), .string (bs fy), .int .i64 0]) (args := #[.string (bs la), .string (bs lb), .int .i64 ((i : Nat) : Int), .int .i64 ((n : Nat) : Int), .slice (some ⟨g5, 0, none⟩) Pl.length g5c, .slice (some ⟨g7, 0, none⟩) Ql.length g7c]) (by rfl) rfl Tryd.func65 (by kernel_rfl) (by kernel_rfl) rfl (fun W hW => by with_reducible exact Clash_yes h4 h4q hi hn h1 h2 hp hq2 hne hmk heq (by rw [hPd, hQd]; exact hc) ((M.sees hW).oldL L0) ((M.sees hW).oldR R0_0 L0) (RowA.of ((M.sees hW).r 1 0 rfl rfl) ((M.sees hW).lt 1 rfl) (scells_len _).symm Cg5) (RowA.of ((M.sees hW).r 0 0 rfl rfl) ((M.sees hW).lt 0 rfl) (scells_len _).symm Cg7)) ?_
 simp only [putT, List.set]
 refine wpV_move (v := .tuple #[.string (bs fx), .string (bs fy), .int .i64 0]) (by rfl) rfl rfl ?_
 simp only [putT, List.set]
 refine wpV_extract (v := .string (bs fx)) (by rfl) rfl rfl rfl ?_
 simp only [putT, List.set]
 refine wpV_extract (v := .string (bs fy)) (by rfl) rfl rfl rfl ?_
 simp only [putT, List.set]
 refine wpV_extract (v := .int .i64 0) (by rfl) rfl rfl rfl ?_
 simp only [putT, List.set]
 refine wpV_nil (hLk _ (fun w14 Sw14 => ?_))
 clear hLk Lk
 simp only [List.take, List.drop]
 replace M := M.sees Sw14
 refine wpL_assign (v := .string (bs fx)) (by rfl) (by rfl) (by rfl) ?_
 simp only [putT, List.set]
 refine wpL_assign (v := .string (bs fy)) (by rfl) (by rfl) (by rfl) ?_
 simp only [putT, List.set]
 refine wpL_assign (v := .int .i64 0) (by rfl) (by rfl) (by rfl) ?_
 simp only [putT, List.set]
 refine wpL_nil (no_panic ?_)
 refine hK12 _ _ ?_
 refine wp_seq_k (fun K15 hK15 => ?_)
 refine wp_seq_k (fun K16 hK16 => ?_)
 refine wp_region_seq ?_
 refine wpL_move (v := .int .i64 ((i : Nat) : Int)) (by rfl) (by rfl) (by rfl) ?_
 simp only [putT, List.set]
 refine wpL_chunk 30 (by rfl) (fun Lk hLk => ?_)
 simp only [List.take, List.drop]
 refine wpV_bin (v := .bool false) (by rfl) rfl rfl rfl (fun W => (run_lssN i 0 _ _ W).trans (by rw [(decide_eq_false (Nat.not_lt_zero i))])) ?_
 simp only [putT, List.set]
 refine wpV_move (v := .bool false) (by rfl) rfl rfl ?_
 simp only [putT, List.set]
 refine wpV_move (v := .int .i64 ((i : Nat) : Int)) (by rfl) rfl rfl ?_
 simp only [putT, List.set]
 refine wpV_move (v := .int .i64 ((n : Nat) : Int)) (by rfl) rfl rfl ?_
 simp only [putT, List.set]
 refine wpV_bin (v := .bool false) (by rfl) rfl rfl rfl (fun W => (run_geqN i n _ _ W).trans (by rw [(decide_eq_false (Nat.not_le.2 hi))])) ?_
 simp only [putT, List.set]
 refine wpV_pick (v := .bool false) (by rfl) rfl rfl rfl ?_
 simp only [putT, List.set]
 refine wpV_move (v := .bool false) (by rfl) rfl rfl ?_
 simp only [putT, List.set]
 refine wpV_move (v := .int .i64 ((n : Nat) : Int)) (by rfl) rfl rfl ?_
 simp only [putT, List.set]
 refine wpV_bin (v := .bool false) (by rfl) rfl rfl rfl (fun W => (run_gtrN n 4096 _ _ W).trans (by rw [(decide_eq_false (Nat.not_lt.2 hn))])) ?_
 simp only [putT, List.set]
 refine wpV_pick (v := .bool false) (by rfl) rfl rfl rfl ?_
 simp only [putT, List.set]
 refine wpV_move (v := .bool false) (by rfl) rfl rfl ?_
 simp only [putT, List.set]
 refine wpV_move (v := .string (bs la)) (by rfl) rfl rfl ?_
 simp only [putT, List.set]
 refine wpV_lenS (by rfl) rfl rfl rfl Tryd.underlying9 ?_
 simp only [putT, List.set]
 refine wpV_bin (v := .bool false) (by rfl) rfl rfl rfl (fun W => (run_neqN la.length 32 _ _ W).trans (by rw [(decide_eq_false (fun e9 => e9 h1))])) ?_
 simp only [putT, List.set]
 refine wpV_pick (v := .bool false) (by rfl) rfl rfl rfl ?_
 simp only [putT, List.set]
 refine wpV_move (v := .bool false) (by rfl) rfl rfl ?_
 simp only [putT, List.set]
 refine wpV_move (v := .string (bs lb)) (by rfl) rfl rfl ?_
 simp only [putT, List.set]
 refine wpV_lenS (by rfl) rfl rfl rfl Tryd.underlying9 ?_
 simp only [putT, List.set]
 refine wpV_bin (v := .bool false) (by rfl) rfl rfl rfl (fun W => (run_neqN lb.length 32 _ _ W).trans (by rw [(decide_eq_false (fun e9 => e9 h2))])) ?_
 simp only [putT, List.set]
 refine wpV_pick (v := .bool false) (by rfl) rfl rfl rfl ?_
 simp only [putT, List.set]
 refine wpV_move (v := .bool false) (by rfl) rfl rfl ?_
 simp only [putT, List.set]
 refine wpV_move (v := .slice (some ⟨g5, 0, none⟩) Pl.length g5c) (by rfl) rfl rfl ?_
 simp only [putT, List.set]
 refine wpV_callf (v := .bool true) (args := #[.slice (some ⟨g5, 0, none⟩) Pl.length g5c]) (by rfl) rfl Tryd.func57 (by kernel_rfl) (by kernel_rfl) rfl (fun W hW => by have h9 : Calls Tryd.prog _ _ W _ := rall_r (ps := Pl) (by omega) (RowA.of ((M.sees hW).r 1 0 rfl rfl) ((M.sees hW).lt 1 rfl) (scells_len _).symm Cg5); rw [hp] at h9; exact h9) ?_
 simp only [putT, List.set]
 refine wpV_not (b := true) (by rfl) rfl rfl ?_
 simp only [Bool.not_true, Bool.not_false]
 simp only [putT, List.set]
 refine wpV_pick (v := .bool false) (by rfl) rfl rfl rfl ?_
 simp only [putT, List.set]
 refine wpV_move (v := .bool false) (by rfl) rfl rfl ?_
 simp only [putT, List.set]
 refine wpV_move (v := .slice (some ⟨g7, 0, none⟩) Ql.length g7c) (by rfl) rfl rfl ?_
 simp only [putT, List.set]
 refine wpV_callf (v := .bool true) (args := #[.slice (some ⟨g7, 0, none⟩) Ql.length g7c]) (by rfl) rfl Tryd.func57 (by kernel_rfl) (by kernel_rfl) rfl (fun W hW => by have h9 : Calls Tryd.prog _ _ W _ := rall_r (ps := Ql) (by omega) (RowA.of ((M.sees hW).r 0 0 rfl rfl) ((M.sees hW).lt 0 rfl) (scells_len _).symm Cg7); rw [hq2] at h9; exact h9) ?_
 simp only [putT, List.set]
 refine wpV_not (b := true) (by rfl) rfl rfl ?_
 simp only [Bool.not_true, Bool.not_false]
 simp only [putT, List.set]
 refine wpV_pick (v := .bool false) (by rfl) rfl rfl rfl ?_
 simp only [putT, List.set]
 refine wpV_nil (hLk _ (fun w18 Sw18 => ?_))
 clear hLk Lk
 simp only [List.take, List.drop]
 replace M := M.sees Sw18
 refine wpL_nil (no_panic ?_)
 refine hK16 _ _ ?_
 refine wp_cond_false rfl ?_
 refine wp_skip ?_
 refine hK15 _ _ ?_
 refine wp_seq_k (fun K19 hK19 => ?_)
 refine wp_region_seq ?_
 refine wpL_move (v := .string (bs la)) (by rfl) (by rfl) (by rfl) ?_
 simp only [putT, List.set]
 refine wpL_move (v := .int .i64 ((i : Nat) : Int)) (by rfl) (by rfl) (by rfl) ?_
 simp only [putT, List.set]
 refine wpL_move (v := .int .i64 ((n : Nat) : Int)) (by rfl) (by rfl) (by rfl) ?_
 simp only [putT, List.set]
 refine wpL_move (v := .slice (some ⟨g5, 0, none⟩) Pl.length g5c) (by rfl) (by rfl) (by rfl) ?_
 simp only [putT, List.set]
 refine wpL_chunk 6 (by rfl) (fun Lk hLk => ?_)
 simp only [List.take, List.drop]
 refine wpV_callf (v := .string (bs (makesT la i n Pl))) (args := #[.string (bs la), .int .i64 ((i : Nat) : Int), .int .i64 ((n : Nat) : Int), .slice (some ⟨g5, 0, none⟩) Pl.length g5c]) (by rfl) rfl Tryd.func58 (by kernel_rfl) (by kernel_rfl) rfl (fun W hW => by with_reducible exact rmakes_c _ (ps := Pl) (leaf := la) (i := i) (n := n) rfl (by omega) hn hi h1 (by omega) (all32_mem hp) (RowA.of ((M.sees hW).r 1 0 rfl rfl) ((M.sees hW).lt 1 rfl) (scells_len _).symm Cg5)) ?_
 simp only [putT, List.set]
 refine wpV_move (v := .string (bs lb)) (by rfl) rfl rfl ?_
 simp only [putT, List.set]
 refine wpV_move (v := .int .i64 ((i : Nat) : Int)) (by rfl) rfl rfl ?_
 simp only [putT, List.set]
 refine wpV_move (v := .int .i64 ((n : Nat) : Int)) (by rfl) rfl rfl ?_
 simp only [putT, List.set]
 refine wpV_move (v := .slice (some ⟨g7, 0, none⟩) Ql.length g7c) (by rfl) rfl rfl ?_
 simp only [putT, List.set]
 refine wpV_callf (v := .string (bs (makesT lb i n Ql))) (args := #[.string (bs lb), .int .i64 ((i : Nat) : Int), .int .i64 ((n : Nat) : Int), .slice (some ⟨g7, 0, none⟩) Ql.length g7c]) (by rfl) rfl Tryd.func58 (by kernel_rfl) (by kernel_rfl) rfl (fun W hW => by with_reducible exact rmakes_c _ (ps := Ql) (leaf := lb) (i := i) (n := n) rfl (by omega) hn hi h2 (by omega) (all32_mem hq2) (RowA.of ((M.sees hW).r 0 0 rfl rfl) ((M.sees hW).lt 0 rfl) (scells_len _).symm Cg7)) ?_
 simp only [putT, List.set]
 refine wpV_nil (hLk _ (fun w21 Sw21 => ?_))
 clear hLk Lk
 simp only [List.take, List.drop]
 replace M := M.sees Sw21
 refine wpL_assign (v := .string (bs (makesT la i n Pl))) (by rfl) (by rfl) (by rfl) ?_
 simp only [putT, List.set]
 refine wpL_assign (v := .string (bs (makesT lb i n Ql))) (by rfl) (by rfl) (by rfl) ?_
 simp only [putT, List.set]
 refine wpL_nil (no_panic ?_)
 refine hK19 _ _ ?_
 refine wp_seq_k (fun K22 hK22 => ?_)
 refine wp_seq_k (fun K23 hK23 => ?_)
 refine wp_region_seq ?_
 refine wpL_move (v := .string (bs la)) (by rfl) (by rfl) (by rfl) ?_
 simp only [putT, List.set]
 refine wpL_move (v := .string (bs lb)) (by rfl) (by rfl) (by rfl) ?_
 simp only [putT, List.set]
 refine wpL_chunk 10 (by rfl) (fun Lk hLk => ?_)
 simp only [List.take, List.drop]
 refine wpV_binS (v := .bool false) (by rfl) rfl rfl rfl (fun W => (run_eql_bs _ _ _ W).trans (by rw [(decide_eq_false hne)])) ?_
 simp only [putT, List.set]
 refine wpV_move (v := .bool false) (by rfl) rfl rfl ?_
 simp only [putT, List.set]
 refine wpV_move (v := .string (bs (makesT la i n Pl))) (by rfl) rfl rfl ?_
 simp only [putT, List.set]
 refine wpV_binS (v := .bool false) (by rfl) rfl rfl rfl (fun W => (run_eql_bs _ _ _ W).trans (by rw [(decide_eq_false hmk)])) ?_
 simp only [putT, List.set]
 refine wpV_pick (v := .bool false) (by rfl) rfl rfl rfl ?_
 simp only [putT, List.set]
 refine wpV_move (v := .bool false) (by rfl) rfl rfl ?_
 simp only [putT, List.set]
 refine wpV_move (v := .string (bs (makesT la i n Pl))) (by rfl) rfl rfl ?_
 simp only [putT, List.set]
 refine wpV_move (v := .string (bs (makesT lb i n Ql))) (by rfl) rfl rfl ?_
 simp only [putT, List.set]
 refine wpV_binS (v := .bool false) (by rfl) rfl rfl rfl (fun W => (run_neq_bs _ _ _ W).trans (by rw [(decide_eq_false (fun e9 => e9 heq))])) ?_
 simp only [putT, List.set]
 refine wpV_pick (v := .bool false) (by rfl) rfl rfl rfl ?_
 simp only [putT, List.set]
 refine wpV_nil (hLk _ (fun w25 Sw25 => ?_))
 clear hLk Lk
 simp only [List.take, List.drop]
 replace M := M.sees Sw25
 refine wpL_nil (no_panic ?_)
 refine hK23 _ _ ?_
 refine wp_cond_false rfl ?_
 refine wp_skip ?_
 refine hK22 _ _ ?_
 refine wp_seq_k (fun K26 hK26 => ?_)
 refine wp_region_seq ?_
 refine wpL_move (v := .string (bs la)) (by rfl) (by rfl) (by rfl) ?_
 simp only [putT, List.set]
 refine wpL_move (v := .int .i64 ((i : Nat) : Int)) (by rfl) (by rfl) (by rfl) ?_
 simp only [putT, List.set]
 refine wpL_move (v := .int .i64 ((n : Nat) : Int)) (by rfl) (by rfl) (by rfl) ?_
 simp only [putT, List.set]
 refine wpL_move (v := .slice (some ⟨g5, 0, none⟩) Pl.length g5c) (by rfl) (by rfl) (by rfl) ?_
 simp only [putT, List.set]
 refine wpL_callE (f := 66) (args := #[.string (bs la), .int .i64 ((i : Nat) : Int), .int .i64 ((n : Nat) : Int), .slice (some ⟨g5, 0, none⟩) Pl.length g5c]) (R := fun v9 W9 => ∃ a29 c29, v9 = .slice a29 P.length c29 ∧ RowA W9 a29 P.length c29 (scells P)) (by rfl) (by rfl) rfl Tryd.func66 (by kernel_rfl) (by kernel_rfl) (rtexts_P (ps := Pl) (leaf := la) (i := i) (n := n) hn hi h1 h4 (all32_mem hp) hmk hPd (RowA.of (M.r 1 0 rfl rfl) (M.lt 1 rfl) (scells_len _).symm Cg5)) (fun v9 w28 hv9 Sw28 => ?_)
 obtain ⟨a29, c29, rfl, H29_0⟩ := hv9
 replace M := M.sees Sw28
 replace R0_0 := M.oldR R0_0 L0
 replace L0 := M.oldL L0
 have Rg7_0 := M.r 0 0 rfl rfl
 have Lg7 := M.lt 0 rfl
 have Rg5_0 := M.r 1 0 rfl rfl
 have Lg5 := M.lt 1 rfl
 have BB := M.below
 replace M := Mem.start w28
 simp only [putT, List.set]
 refine wpL_move (v := .string (bs lb)) (by rfl) (by rfl) (by rfl) ?_
 simp only [putT, List.set]
 refine wpL_move (v := .int .i64 ((i : Nat) : Int)) (by rfl) (by rfl) (by rfl) ?_
 simp only [putT, List.set]
 refine wpL_move (v := .int .i64 ((n : Nat) : Int)) (by rfl) (by rfl) (by rfl) ?_
 simp only [putT, List.set]
 refine wpL_move (v := .slice (some ⟨g7, 0, none⟩) Ql.length g7c) (by rfl) (by rfl) (by rfl) ?_
 simp only [putT, List.set]
 refine wpL_callE (f := 66) (args := #[.string (bs lb), .int .i64 ((i : Nat) : Int), .int .i64 ((n : Nat) : Int), .slice (some ⟨g7, 0, none⟩) Ql.length g7c]) (R := fun v9 W9 => ∃ a31 c31, v9 = .slice a31 Q.length c31 ∧ RowA W9 a31 Q.length c31 (scells Q)) (by rfl) (by rfl) rfl Tryd.func66 (by kernel_rfl) (by kernel_rfl) (rtexts_P (ps := Ql) (leaf := lb) (i := i) (n := n) hn hi h2 h4q (all32_mem hq2) (fun e9 => hmk (heq.trans e9)) hQd (RowA.of (M.oldR Rg7_0 Lg7) (M.oldL Lg7) (scells_len _).symm Cg7)) (fun v9 w30 hv9 Sw30 => ?_)
 obtain ⟨a31, c31, rfl, H31_0⟩ := hv9
 replace M := M.sees Sw30
 replace Rg7_0 := M.oldR Rg7_0 Lg7
 replace Rg5_0 := M.oldR Rg5_0 Lg5
 replace R0_0 := M.oldR R0_0 L0
 replace Lg7 := M.oldL Lg7
 replace Lg5 := M.oldL Lg5
 replace L0 := M.oldL L0
 replace H29_0 := M.oldA H29_0
 replace BB := BB.trans (M.below.mono BB.size)
 replace M := Mem.start w30
 simp only [putT, List.set]
 refine wpL_assign (v := .slice a29 P.length c29) (by rfl) (by rfl) (by rfl) ?_
 simp only [putT, List.set]
 refine wpL_assign (v := .slice a31 Q.length c31) (by rfl) (by rfl) (by rfl) ?_
 simp only [putT, List.set]
 refine wpL_nil (no_panic ?_)
 refine hK26 _ _ ?_
 refine wp_seq_k (fun K32 hK32 => ?_)
 refine wp_seq_k (fun K33 hK33 => ?_)
 refine wp_region_seq ?_
 refine wpL_move (v := .slice a29 P.length c29) (by rfl) (by rfl) (by rfl) ?_
 simp only [putT, List.set]
 refine wpL_chunk 4 (by rfl) (fun Lk hLk => ?_)
 simp only [List.take, List.drop]
 refine wpV_lenA (n := P.length) (by rfl) rfl rfl rfl Tryd.underlying48 ?_
 simp only [putT, List.set]
 refine wpV_move (v := .slice a31 Q.length c31) (by rfl) rfl rfl ?_
 simp only [putT, List.set]
 refine wpV_lenA (n := Q.length) (by rfl) rfl rfl rfl Tryd.underlying48 ?_
 simp only [putT, List.set]
 refine wpV_min (n := P.length) (m := Q.length) (by rfl) rfl rfl rfl ?_
 simp only [putT, List.set]
 refine wpV_nil (hLk _ (fun w35 Sw35 => ?_))
 clear hLk Lk
 simp only [List.take, List.drop]
 replace M := M.sees Sw35
 refine wpL_move (v := .int .i64 0) (by rfl) (by rfl) (by rfl) ?_
 simp only [putT, List.set]
 refine wpL_nil (no_panic ?_)
 refine hK33 _ _ ?_
 refine wp_block ?_
 refine wp_loop_ghost (fun n9 a9 W9 => ∃ (k : Nat) (u36 : Nat → Value), n9 = 2 * (P.length - k) ∧ a9 = { tmps := #[.string (bs la), .string (bs lb), .int .i64 ((i : Nat) : Int), .int .i64 ((n : Nat) : Int), .slice (some ⟨g5, 0, none⟩) Pl.length g5c, .slice (some ⟨g7, 0, none⟩) Ql.length g7c, undef, undef, undef, undef, undef, undef, u36 12, .string (bs fx), .string (bs fy), .int .i64 0, .string (bs (makesT la i n Pl)), .string (bs (makesT lb i n Ql)), .slice a29 P.length c29, .slice a31 Q.length c31, u36 20, vls, .slice (some ⟨g5, 0, none⟩) Pl.length g5c, vms, .slice (some ⟨g7, 0, none⟩) Ql.length g7c, .string (bs ra), .string (bs ra), .int .i64 ((ra.length : Nat) : Int), .int .i64 ((min ra.length 40 : Nat) : Int), .string (bs la), .string (bs rb), .string (bs rb), .int .i64 ((rb.length : Nat) : Int), .int .i64 ((min rb.length 40 : Nat) : Int), .string (bs lb), .tuple #[.string (bs fx), .string (bs fy), .int .i64 0], .string (bs la), .string (bs lb), .int .i64 ((i : Nat) : Int), .int .i64 ((n : Nat) : Int), .slice (some ⟨g5, 0, none⟩) Pl.length g5c, .slice (some ⟨g7, 0, none⟩) Ql.length g7c, .tuple #[.string (bs fx), .string (bs fy), .int .i64 0], .string (bs fx), .string (bs fy), .int .i64 0, .int .i64 ((i : Nat) : Int), .bool false, .bool false, .int .i64 ((i : Nat) : Int), .int .i64 ((n : Nat) : Int), .bool false, .bool false, .bool false, .int .i64 ((n : Nat) : Int), .bool false, .bool false, .bool false, .string (bs la), .int .i64 ((la.length : Nat) : Int), .bool false, .bool false, .bool false, .string (bs lb), .int .i64 ((lb.length : Nat) : Int), .bool false, .bool false, .bool false, .slice (some ⟨g5, 0, none⟩) Pl.length g5c, .bool true, .bool false, .bool false, .bool false, .slice (some ⟨g7, 0, none⟩) Ql.length g7c, .bool true, .bool false, .bool false, undef, undef, undef, undef, undef, undef, undef, undef, undef, undef, undef, undef, undef, .string (bs la), .int .i64 ((i : Nat) : Int), .int .i64 ((n : Nat) : Int), .slice (some ⟨g5, 0, none⟩) Pl.length g5c, .string (bs (makesT la i n Pl)), .string (bs lb), .int .i64 ((i : Nat) : Int), .int .i64 ((n : Nat) : Int), .slice (some ⟨g7, 0, none⟩) Ql.length g7c, .string (bs (makesT lb i n Ql)), .string (bs la), .string (bs lb), .bool false, .bool false, .string (bs (makesT la i n Pl)), .bool false, .bool false, .bool false, .string (bs (makesT la i n Pl)), .string (bs (makesT lb i n Ql)), .bool false, .bool false, undef, undef, undef, undef, undef, undef, undef, undef, undef, undef, undef, undef, undef, .string (bs la), .int .i64 ((i : Nat) : Int), .int .i64 ((n : Nat) : Int), .slice (some ⟨g5, 0, none⟩) Pl.length g5c, .slice a29 P.length c29, .string (bs lb), .int .i64 ((i : Nat) : Int), .int .i64 ((n : Nat) : Int), .slice (some ⟨g7, 0, none⟩) Ql.length g7c, .slice a31 Q.length c31, .slice a29 P.length c29, .int .i64 ((P.length : Nat) : Int), .slice a31 Q.length c31, .int .i64 ((Q.length : Nat) : Int), .int .i64 ((min P.length Q.length : Nat) : Int), .int .i64 ((k : Nat) : Int), u36 141, u36 142, u36 143, u36 144, u36 145, u36 146, u36 147, u36 148, u36 149, u36 150, u36 151, u36 152, u36 153, u36 154, u36 155, u36 156, u36 157, u36 158, u36 159, u36 160, u36 161, u36 162, u36 163, u36 164, u36 165, u36 166, u36 167, u36 168, u36 169, u36 170, u36 171, u36 172, u36 173, u36 174, u36 175, u36 176, u36 177, u36 178, u36 179, u36 180, u36 181, u36 182], defers := [] } ∧ Mem [] w30 W9 [] ∧ (k ≤ P.length) ∧ (clashT (P.drop k) (Q.drop k) = some (fx, fy))) (2 * (P.length - (0))) ?_ (fun n9 a9 W9 hI => ?_)
 ·
  exact ⟨0, (fun q9 => (#[undef, undef, undef, undef, undef, undef, undef, undef, undef, undef, undef, undef, .bool false, undef, undef, undef, undef, undef, undef, undef, undef, undef, undef, undef, undef, undef, undef, undef, undef, undef, undef, undef, undef, undef, undef, undef, undef, undef, undef, undef, undef, undef, undef, undef, undef, undef, undef, undef, undef, undef, undef, undef, undef, undef, undef, undef, undef, undef, undef, undef, undef, undef, undef, undef, undef, undef, undef, undef, undef, undef, undef, undef, undef, undef, undef, undef, undef, undef, undef, undef, undef, undef, undef, undef, undef, undef, undef, undef, undef, undef, undef, undef, undef, undef, undef, undef, undef, undef, undef, undef, undef, undef, undef, undef, undef, undef, undef, undef, undef, undef, undef, undef, undef, undef, undef, undef, undef, undef, undef, undef, undef, undef, undef, undef, undef, undef, undef, undef, undef, undef, undef, undef, undef, undef, undef, undef, undef, undef, undef, undef, undef, undef, undef, undef, undef, undef, undef, undef, undef, undef, undef, undef, undef, undef, undef, undef, undef, undef, undef, undef, undef, undef, undef, undef, undef, undef, undef, undef, undef, undef, undef, undef, undef, undef, undef, undef, undef, undef, undef, undef, undef, undef, undef] : Array Value).getD q9 undef), rfl, rfl, M, (Nat.zero_le _), hc⟩
 clear M
 obtain ⟨k, u36, rfl, rfl, M, hk4, hI⟩ := hI
 obtain ⟨w37, rfl⟩ : ∃ W8, W8 = W9 := ⟨_, rfl⟩
 refine wp_seq_k (fun K38 hK38 => ?_)
 refine wp_region_seq ?_
 refine wpL_chunk 1 (by rfl) (fun Lk hLk => ?_)
 simp only [List.take, List.drop]
 refine wpV_bin (v := .bool (decide (k < min P.length Q.length))) (by rfl) rfl rfl rfl (fun W => run_lssN k (min P.length Q.length) _ _ W) ?_
 simp only [putT, List.set]
 refine wpV_nil (hLk _ (fun w40 Sw40 => ?_))
 clear hLk Lk
 simp only [List.take, List.drop]
 replace M := M.sees Sw40
 refine wpL_nil (no_panic ?_)
 refine hK38 _ _ ?_
 refine wp_seq_k (fun K41 hK41 => ?_)
 cases hc42 : (decide (k < min P.length Q.length))
 ·
  have hk : ¬ k < min P.length Q.length := of_decide_eq_false hc42
  exact absurd (hI.symm.trans (clashT_end (by omega))) (fun e9 => nomatch e9)
 ·
  have hk : k < min P.length Q.length := of_decide_eq_true hc42
  refine wp_cond_true rfl ?_
  refine wp_skip ?_
  refine hK41 _ _ ?_
  refine wp_seq_k (fun K43 hK43 => ?_)
  refine wp_block ?_
  refine wp_seq_k (fun K44 hK44 => ?_)
  refine wp_region_seq ?_
  refine wpL_move (v := .int .i64 ((k : Nat) : Int)) (by rfl) (by rfl) (by rfl) ?_
  simp only [putT, List.set]
  refine wpL_assign (v := .int .i64 ((k : Nat) : Int)) (by rfl) (by rfl) (by rfl) ?_
  simp only [putT, List.set]
  refine wpL_nil (no_panic ?_)
  refine hK44 _ _ ?_
  refine wp_seq_k (fun K46 hK46 => ?_)
  refine wp_region_grow 9 [] (by kernel_rfl) (by kernel_rfl) (by kernel_rfl) (fun Lk hLk => ?_)
  simp only [List.take, List.drop]
  refine wpV_move (v := .slice a29 P.length c29) (by rfl) rfl rfl ?_
  simp only [putT, List.set]
  refine wpV_move (v := .int .i64 ((k : Nat) : Int)) (by rfl) rfl rfl ?_
  simp only [putT, List.set]
  refine wpV_idxA (i := k) (by rfl) rfl rfl rfl Tryd.underlying48 info9 (M.oldA H29_0) (by omega) ?_
  simp only [putT, List.set]
  refine wpV_loadA (i := k) (v := .string (bs (P.getD k []))) (by rfl) rfl rfl (M.oldA H29_0) (scells_get (ps := P) (by omega)) Tryd.underlying9 rfl ?_
  simp only [putT, List.set]
  refine wpV_move (v := .slice a31 Q.length c31) (by rfl) rfl rfl ?_
  simp only [putT, List.set]
  refine wpV_move (v := .int .i64 ((k : Nat) : Int)) (by rfl) rfl rfl ?_
  simp only [putT, List.set]
  refine wpV_idxA (i := k) (by rfl) rfl rfl rfl Tryd.underlying48 info9 (M.oldA H31_0) (by omega) ?_
  simp only [putT, List.set]
  refine wpV_loadA (i := k) (v := .string (bs (Q.getD k []))) (by rfl) rfl rfl (M.oldA H31_0) (scells_get (ps := Q) (by omega)) Tryd.underlying9 rfl ?_
  simp only [putT, List.set]
  refine wpV_binS (v := .bool (decide (P.getD k [] ≠ Q.getD k []))) (by rfl) rfl rfl rfl (run_neq_bs _ _ _) ?_
  simp only [putT, List.set]
  refine wpV_nil (hLk.out _ ?_)
  clear hLk Lk
  simp only [List.take, List.drop]
  iterate 9 refine wpN_skip (by rfl) ?_
  refine wpN_nil (fun w48 Sw48 hbs => ?_)
  clear hbs
  replace M := M.sees Sw48
  refine wpL_nil (no_panic ?_)
  refine hK46 _ _ ?_
  cases hc49 : (decide (P.getD k [] ≠ Q.getD k []))
  ·
   have hsm : P.getD k [] = Q.getD k [] := Decidable.not_not.1 (of_decide_eq_false hc49)
   refine wp_cond_false rfl ?_
   refine wp_skip ?_
   refine hK43 _ _ ?_
   refine wp_region_seq ?_
   refine wpL_chunk 1 (by rfl) (fun Lk hLk => ?_)
   simp only [List.take, List.drop]
   refine wpV_bin (v := .int .i64 ((k + 1 : Nat) : Int)) (by rfl) rfl rfl rfl (fun W => run_add (by simp only [IntKind.wrap_i64]; omega) W) ?_
   simp only [putT, List.set]
   refine wpV_nil (hLk _ (fun w51 Sw51 => ?_))
   clear hLk Lk
   simp only [List.take, List.drop]
   replace M := M.sees Sw51
   refine wpL_move (v := .int .i64 ((k + 1 : Nat) : Int)) (by rfl) (by rfl) (by rfl) ?_
   simp only [putT, List.set]
   refine wpL_nil (no_panic ?_)
   refine Exists.intro _ ⟨?_, (k + 1), (fun q9 => (#[undef, undef, undef, undef, undef, undef, undef, undef, undef, undef, undef, undef, u36 12, undef, undef, undef, undef, undef, undef, undef, .int .i64 ((k : Nat) : Int), undef, undef, undef, undef, undef, undef, undef, undef, undef, undef, undef, undef, undef, undef, undef, undef, undef, undef, undef, undef, undef, undef, undef, undef, undef, undef, undef, undef, undef, undef, undef, undef, undef, undef, undef, undef, undef, undef, undef, undef, undef, undef, undef, undef, undef, undef, undef, undef, undef, undef, undef, undef, undef, undef, undef, undef, undef, undef, undef, undef, undef, undef, undef, undef, undef, undef, undef, undef, undef, undef, undef, undef, undef, undef, undef, undef, undef, undef, undef, undef, undef, undef, undef, undef, undef, undef, undef, undef, undef, undef, undef, undef, undef, undef, undef, undef, undef, undef, undef, undef, undef, undef, undef, undef, undef, undef, undef, undef, undef, undef, undef, undef, undef, undef, undef, undef, undef, undef, undef, undef, .bool true, .int .i64 ((k : Nat) : Int), .slice a29 P.length c29, .int .i64 ((k : Nat) : Int), .pointer (a29.map (·.add k)), .string (bs (P.getD k [])), .slice a31 Q.length c31, .int .i64 ((k : Nat) : Int), .pointer (a31.map (·.add k)), .string (bs (Q.getD k [])), .bool false, u36 152, u36 153, u36 154, u36 155, u36 156, u36 157, u36 158, u36 159, u36 160, u36 161, u36 162, u36 163, u36 164, u36 165, u36 166, u36 167, u36 168, u36 169, u36 170, u36 171, u36 172, u36 173, u36 174, u36 175, u36 176, u36 177, u36 178, u36 179, u36 180, u36 181, .int .i64 ((k + 1 : Nat) : Int)] : Array Value).getD q9 undef), rfl, rfl, M, (by omega), (by rw [← clashT_go (by omega) (by omega) hsm]; exact hI)⟩
   omega
  ·
   have hdf : P.getD k [] ≠ Q.getD k [] := of_decide_eq_true hc49
   have hpr := hI.symm.trans (clashT_yes (by omega) (by omega) hdf)
   injection hpr with hpr
   injection hpr with hfx hfy
   refine wp_cond_true rfl ?_
   refine wp_seq_k (fun K52 hK52 => ?_)
   refine wp_region_seq ?_
   refine wpL_chunk 23 (by rfl) (fun Lk hLk => ?_)
   simp only [List.take, List.drop]
   refine wpV_callf (v := .bool true) (args := #[]) (by rfl) rfl Tryd.func49 (by kernel_rfl) (by kernel_rfl) rfl (fun W hW => alive09_c ((M.sees hW).oldL L0) ((M.sees hW).oldR R0_0 L0)) ?_
   simp only [putT, List.set]
   refine wpV_move (v := .bool true) (by rfl) rfl rfl ?_
   simp only [putT, List.set]
   refine wpV_move (v := .int .i64 0) (by rfl) rfl rfl ?_
   simp only [putT, List.set]
   refine wpV_bin (v := .bool true) (by rfl) rfl rfl rfl (fun W => run_eql _ _ _ _ W) ?_
   simp only [putT, List.set]
   refine wpV_pick (v := .bool true) (by rfl) rfl rfl rfl ?_
   simp only [putT, List.set]
   refine wpV_move (v := .bool true) (by rfl) rfl rfl ?_
   simp only [putT, List.set]
   refine wpV_move (v := .string (bs fx)) (by rfl) rfl rfl ?_
   simp only [putT, List.set]
   refine wpV_move (v := .slice a29 P.length c29) (by rfl) rfl rfl ?_
   simp only [putT, List.set]
   refine wpV_move (v := .int .i64 ((k : Nat) : Int)) (by rfl) rfl rfl ?_
   simp only [putT, List.set]
   refine wpV_idxA (i := k) (by rfl) rfl rfl rfl Tryd.underlying48 info9 (M.oldA H29_0) (by omega) ?_
   simp only [putT, List.set]
   refine wpV_loadA (i := k) (v := .string (bs (P.getD k []))) (by rfl) rfl rfl (M.oldA H29_0) (scells_get (ps := P) (by omega)) Tryd.underlying9 rfl ?_
   simp only [putT, List.set]
   refine wpV_binS (v := .bool true) (by rfl) rfl rfl rfl (fun W => (run_eql_bs _ _ _ W).trans (by rw [(decide_eq_true hfx)])) ?_
   simp only [putT, List.set]
   refine wpV_pick (v := .bool true) (by rfl) rfl rfl rfl ?_
   simp only [putT, List.set]
   refine wpV_move (v := .bool true) (by rfl) rfl rfl ?_
   simp only [putT, List.set]
   refine wpV_move (v := .string (bs fy)) (by rfl) rfl rfl ?_
   simp only [putT, List.set]
   refine wpV_move (v := .slice a31 Q.length c31) (by rfl) rfl rfl ?_
   simp only [putT, List.set]
   refine wpV_move (v := .int .i64 ((k : Nat) : Int)) (by rfl) rfl rfl ?_
   simp only [putT, List.set]
   refine wpV_idxA (i := k) (by rfl) rfl rfl rfl Tryd.underlying48 info9 (M.oldA H31_0) (by omega) ?_
   simp only [putT, List.set]
   refine wpV_loadA (i := k) (v := .string (bs (Q.getD k []))) (by rfl) rfl rfl (M.oldA H31_0) (scells_get (ps := Q) (by omega)) Tryd.underlying9 rfl ?_
   simp only [putT, List.set]
   refine wpV_binS (v := .bool true) (by rfl) rfl rfl rfl (fun W => (run_eql_bs _ _ _ W).trans (by rw [(decide_eq_true hfy)])) ?_
   simp only [putT, List.set]
   refine wpV_pick (v := .bool true) (by rfl) rfl rfl rfl ?_
   simp only [putT, List.set]
   refine wpV_move (v := .bool true) (by rfl) rfl rfl ?_
   simp only [putT, List.set]
   refine wpV_move (v := .string (bs fx)) (by rfl) rfl rfl ?_
   simp only [putT, List.set]
   refine wpV_nil (hLk _ (fun w54 Sw54 => ?_))
   clear hLk Lk
   simp only [List.take, List.drop]
   replace M := M.sees Sw54
   refine wpL_guard (by rfl) ?_
   refine wpL_rowN (vs := [.string (bs fx)]) (z := .string { data := #[] }) (bytes := 16) (by rfl) (by rfl) Tryd.underlying48 (by kernel_rfl) (by decide) (by kernel_rfl) (fun g55 w56 Sw56 Hg55 Bg55 => ?_)
   replace M := ((M.sees Sw56).add (N := 1) (cs := [.string (bs fx)]) (M.ge Hg55) (M.fresh Hg55) Bg55 rfl)
   clear Bg55
   simp only [putT, List.set]
   refine wpL_chunk 2 (by rfl) (fun Lk hLk => ?_)
   simp only [List.take, List.drop]
   refine wpV_callf (v := .string (bs (sha (fx)))) (args := #[.slice (some ⟨g55, 0, none⟩) 1 1]) (by rfl) rfl Tryd.func20 (by kernel_rfl) (by kernel_rfl) rfl (fun W hW => (by have h := sum_c (ps := [fx]) (w := W) (by simp) (getD_le1 (by omega)) ((M.sees hW).oldL L0) ((M.sees hW).oldR R0_0 L0) (Nat.le_refl _) ((M.sees hW).lt 0 rfl) ((M.sees hW).r 0 0 rfl rfl); rw [flat1] at h; exact h)) ?_
   simp only [putT, List.set]
   refine wpV_move (v := .string (bs fy)) (by rfl) rfl rfl ?_
   simp only [putT, List.set]
   refine wpV_nil (hLk _ (fun w57 Sw57 => ?_))
   clear hLk Lk
   simp only [List.take, List.drop]
   replace M := M.sees Sw57
   refine wpL_guard (by rfl) ?_
   refine wpL_rowN (vs := [.string (bs fy)]) (z := .string { data := #[] }) (bytes := 16) (by rfl) (by rfl) Tryd.underlying48 (by kernel_rfl) (by decide) (by kernel_rfl) (fun g58 w59 Sw59 Hg58 Bg58 => ?_)
   replace M := ((M.sees Sw59).add (N := 1) (cs := [.string (bs fy)]) (M.ge Hg58) (M.fresh Hg58) Bg58 rfl)
   clear Bg58
   simp only [putT, List.set]
   refine wpL_chunk 3 (by rfl) (fun Lk hLk => ?_)
   simp only [List.take, List.drop]
   refine wpV_callf (v := .string (bs (sha (fy)))) (args := #[.slice (some ⟨g58, 0, none⟩) 1 1]) (by rfl) rfl Tryd.func20 (by kernel_rfl) (by kernel_rfl) rfl (fun W hW => (by have h := sum_c (ps := [fy]) (w := W) (by simp) (getD_le1 (by omega)) ((M.sees hW).oldL L0) ((M.sees hW).oldR R0_0 L0) (Nat.le_refl _) ((M.sees hW).lt 0 rfl) ((M.sees hW).r 0 0 rfl rfl); rw [flat1] at h; exact h)) ?_
   simp only [putT, List.set]
   refine wpV_binS (v := .bool (decide (sha (fx) = sha (fy)))) (by rfl) rfl rfl rfl (run_eql_bs _ _ _) ?_
   simp only [putT, List.set]
   refine wpV_pick (v := .bool (decide (sha (fx) = sha (fy)))) (by rfl) rfl rfl rfl ?_
   simp only [putT, List.set]
   refine wpV_nil (hLk _ (fun w60 Sw60 => ?_))
   clear hLk Lk
   simp only [List.take, List.drop]
   replace M := M.sees Sw60
   refine wpL_assign (v := .bool (decide (sha (fx) = sha (fy)))) (by rfl) (by rfl) (by rfl) ?_
   simp only [putT, List.set]
   refine wpL_nil (no_panic ?_)
   refine hK52 _ _ ?_
   refine wp_ret ?_
   repeat (first | with_reducible refine then_ret ?_ | with_reducible refine inblock_ret ?_)
   refine bodyPost_ret (v := .bool (decide (sha (fx) = sha (fy)))) (res1 rfl (.tmp (by rfl))) rfl ?_
   have BE := M.below
   exact ⟨by rw [decide_eq_true hsh], BB.trans (BE.mono BB.size)⟩
theorem lclash_c {vls vms : Value} {ls ms : List (List UInt8)} {ra rb : List UInt8} {x y : Int} {w : World} (L0 : 0 < w.heap.size) (R0_0 : w.rangeAt 0 0 kcells) (hvls : RowS w vls ls) (hvms : RowS w vms ms) :
  Calls Tryd.prog 16 #[.string (bs ra), .string (bs rb), .int .i64 x, .int .i64 y, vls, vms] w fun e w' => e = .returned (.bool true) ∧ Below w.heap.size w w' := by
 have hPL := cutsS_len 50 40 ls
 have hQL := cutsS_len 50 40 ms
 by_cases hx : x < 0
 ·
  exact lclash_neg rfl rfl hPL hQL rfl rfl hx L0 R0_0 hvls hvms
 ·
  by_cases hy : y ≤ x
  ·
   exact lclash_far rfl rfl hPL hQL rfl rfl hx hy L0 R0_0 hvls hvms
  ·
   by_cases hm : 4096 < y
   ·
    exact lclash_many rfl rfl hPL hQL rfl rfl hx hy hm L0 R0_0 hvls hvms
   ·
    by_cases h1 : (cut ra 40).length ≠ 32
    ·
     exact lclash_la rfl rfl hPL hQL rfl rfl hx hy hm h1 L0 R0_0 hvls hvms
    ·
     by_cases h2 : (cut rb 40).length ≠ 32
     ·
      exact lclash_lb rfl rfl hPL hQL rfl rfl hx hy hm h1 h2 L0 R0_0 hvls hvms
     ·
      cases hp : all32 (cutsS 50 40 ls) with
      | false => exact lclash_one rfl rfl hPL hQL rfl rfl hx hy hm h1 h2 hp L0 R0_0 hvls hvms
      | true =>
       cases hq2 : all32 (cutsS 50 40 ms) with
       | false => exact lclash_other rfl rfl hPL hQL rfl rfl hx hy hm h1 h2 hp hq2 L0 R0_0 hvls hvms
       | true =>
        obtain ⟨i, rfl⟩ : ∃ i : Nat, x = (i : Int) := ⟨x.toNat, by omega⟩
        obtain ⟨n, rfl⟩ : ∃ n : Nat, y = (n : Int) := ⟨y.toNat, by omega⟩
        have h1 := Decidable.not_not.1 h1
        have h2 := Decidable.not_not.1 h2
        by_cases hg : cut ra 40 ≠ cut rb 40 ∧ makesT (cut ra 40) i n (cutsS 50 40 ls) ≠ [] ∧ makesT (cut ra 40) i n (cutsS 50 40 ls) = makesT (cut rb 40) i n (cutsS 50 40 ms)
        ·
         obtain ⟨hne, hmk, heq⟩ := hg
         have d1 := makes_len hmk
         have d2 := makes_len (heq ▸ hmk)
         obtain ⟨fx, fy, hc, hsh⟩ := clash_found (sideT i n).length (sideT i n) (cutsS 50 40 ls) (cutsS 50 40 ms) (cut ra 40) (cut rb 40) rfl d1 d2 (all32_mem hp) (all32_mem hq2) h1 h2 hne (by rw [← makes_fold d1, ← makes_fold d2]; exact heq)
         have hmem := clashT_mem hc
         exact lclash_found rfl rfl hPL hQL rfl rfl (by omega) (by omega) h1 h2 hp hq2 hne hmk heq rfl rfl (by rw [downT_len d1, downT_len d2]; omega) (by rw [downT_len d1]; omega) hc hsh (downT_65 (all32_mem hp) h1 _ hmem.1) (downT_65 (all32_mem hq2) h2 _ hmem.2) L0 R0_0 hvls hvms
        ·
         exact lclash_none rfl rfl hPL hQL rfl rfl (by omega) (by omega) h1 h2 hp hq2 hg L0 R0_0 hvls hvms
end Go.Proofs.Yb

