import Derived.WalkKit
import Derived.WalkSpells
import Derived.Laws.Pointers
import Derived.RowKit3
import Derived.Below
import Derived.Outline
import Derived.LoopN
import Derived.Lib.Hide
import Derived.Handy
import Derived.Laws.Bits64b
import Derived.Test.YticcchgckljlnaaDoorTr9
import Derived.Test.YticcchgckljlnaaDoorTr3
import Derived.Test.YticcchgckljlnaaDoorJoinB
set_option linter.unusedSimpArgs false
set_option linter.unusedVariables false
namespace Go.Proofs.Yb
open Go Go.RowKit Go.Proofs.Num
attribute [local irreducible] wpV wpN wpList
theorem get_32 {ls : List (List UInt8)} (h : ∀ s ∈ ls, s.length = 32) {k : Nat} (hk : k < ls.length) : (ls.getD k []).length = 32 := by
  rw [List.getD_eq_getElem?_getD, List.getElem?_eq_getElem hk]
  exact h _ (List.getElem_mem hk)
theorem add_step {m k : Nat} {ps ls : List (List UInt8)} (hk : k < ls.length) : addP (m + k) (addsP m ps (ls.take k)) (ls.getD k []) = addsP m ps (ls.take (k + 1)) := by
  have e : ls.take (k + 1) = ls.take k ++ [ls.getD k []] := by
    rw [List.take_add_one, List.getD_eq_getElem?_getD, List.getElem?_eq_getElem hk]
    rfl
  rw [e, addsP_snoc, List.length_take, Nat.min_eq_left (Nat.le_of_lt hk)]
theorem add_step0 {m : Nat} {ps ls : List (List UInt8)} (hk : 0 < ls.length) : addP m ps (ls.getD 0 []) = addsP m ps (ls.take 1) := add_step (k := 0) hk
set_option maxHeartbeats 4000000 in
theorem Add_new {ps : List (List UInt8)} {ap : Option Addr} {np cp : Nat} {ls : List (List UInt8)} {aq : Option Addr} {nq cq : Nat} {m : Nat} {w : World} (hp : ps.length ≤ 4611686018427387904) (hm : m ≤ 4096) (hmay : mayG ((m : Nat) : Int) ps = true) (hri : rightB ls = true) (hle : m + ls.length ≤ 4096) (hpl : ps.length = ones m) (h32 : ∀ s ∈ ps, s.length = 32) (hl32 : ∀ s ∈ ls, s.length = 32) (h0l : 0 < ls.length) (L0 : 0 < w.heap.size) (R0_0 : w.rangeAt 0 0 kcells) (Hp : RowA w ap np cp (scells ps)) (Hq : RowA w aq nq cq (scells ls)) :
    Calls Tryd.prog 55 #[.agg [.int .i64 ((m : Nat) : Int), .slice ap np cp].toArray, .slice aq nq cq] w fun e w' => ∃ v, e = .returned v ∧ ∃ g c, v = .tuple #[.agg [.int .i64 ((m + ls.length : Nat) : Int), .slice (some ⟨g, 0, none⟩) (addsP m ps ls).length c].toArray, .int .i64 0] ∧ (addsP m ps ls).length ≤ c ∧ Mem [] w w' [⟨g, c, [(0, scells (addsP m ps ls))]⟩] := by
  obtain rfl : np = ps.length := by have := Hp.len; rwa [scells_len] at this
  obtain rfl : nq = ls.length := by have := Hq.len; rwa [scells_len] at this
  go_enter Tryd.func55, Tryd.ntmps55
  have M := Mem.start w
  refine wp_seq_k (fun K1 hK1 => ?_)
  refine wp_region_seq ?_
  refine wpL_var (t := 66) (cs := [.int .i64 ((m : Nat) : Int), .slice ap ps.length cp]) (by rfl) (fun W => ?_) (fun g3 w4 Sw4 Hg3 Bg3 => ?_)
  · (first | rfl | go_simp)
  replace M := ((M.sees Sw4).add (N := 2) (cs := [.int .i64 ((m : Nat) : Int), .slice ap ps.length cp]) (M.ge Hg3) (M.fresh Hg3) Bg3 rfl)
  clear Bg3
  simp only [putT, List.set]
  refine wpL_var (t := 66) (cs := [.int .i64 0, .slice none 0 0]) (by rfl) (fun W => ?_) (fun g5 w6 Sw6 Hg5 Bg5 => ?_)
  · go_simp
  replace M := ((M.sees Sw6).add (N := 2) (cs := [.int .i64 0, .slice none 0 0]) (M.ge Hg5) (M.fresh Hg5) Bg5 rfl)
  clear Bg5
  simp only [putT, List.set]
  refine wpL_assign (v := .int .i64 0) (by rfl) (by rfl) (by rfl) ?_
  simp only [putT, List.set]
  refine wpL_nil (no_panic ?_)
  refine hK1 _ _ ?_
  refine wp_seq_k (fun K7 hK7 => ?_)
  refine wp_block ?_
  refine wp_seq_k (fun K8 hK8 => ?_)
  refine wp_region_seq ?_
  refine wpL_chunk 8 (by rfl) (fun Lk hLk => ?_)
  simp only [List.take, List.drop]
  refine wpV_load (cs := [.int .i64 ((m : Nat) : Int), .slice ap ps.length cp]) (by rfl) rfl rfl (M.r 1 0 rfl rfl) (M.lt 1 rfl) Tryd.underlying66 rfl info66 ?_
  simp only [putT, List.set]
  refine wpV_callf (v := .bool true) (args := #[.agg ([.int .i64 ((m : Nat) : Int), .slice ap ps.length cp]).toArray]) (by rfl) rfl Tryd.func80 (by kernel_rfl) (by kernel_rfl) rfl (fun W hW => by have h9 : Calls Tryd.prog _ _ W _ := may_c (ps := ps) (x := ((m : Nat) : Int)) hp ((M.sees hW).oldA Hp); rw [hmay] at h9; exact h9) ?_
  simp only [putT, List.set]
  refine wpV_not (b := true) (by rfl) rfl rfl ?_
  simp only [Bool.not_true, Bool.not_false]
  simp only [putT, List.set]
  refine wpV_move (v := .bool false) (by rfl) rfl rfl ?_
  simp only [putT, List.set]
  refine wpV_move (v := .slice aq ls.length cq) (by rfl) rfl rfl ?_
  simp only [putT, List.set]
  refine wpV_callf (v := .bool true) (args := #[.slice aq ls.length cq]) (by rfl) rfl Tryd.func42 (by kernel_rfl) (by kernel_rfl) rfl (fun W hW => by have h9 : Calls Tryd.prog _ _ W _ := right_r (ps := ls)  ((M.sees hW).oldA Hq); rw [hri] at h9; exact h9) ?_
  simp only [putT, List.set]
  refine wpV_not (b := true) (by rfl) rfl rfl ?_
  simp only [Bool.not_true, Bool.not_false]
  simp only [putT, List.set]
  refine wpV_pick (v := .bool false) (by rfl) rfl rfl rfl ?_
  simp only [putT, List.set]
  refine wpV_nil (hLk _ (fun w10 Sw10 => ?_))
  clear hLk Lk
  simp only [List.take, List.drop]
  replace M := M.sees Sw10
  refine wpL_assign (v := .bool false) (by rfl) (by rfl) (by rfl) ?_
  simp only [putT, List.set]
  refine wpL_nil (no_panic ?_)
  refine hK8 _ _ ?_
  refine wp_cond_false rfl ?_
  refine wp_seq_k (fun K11 hK11 => ?_)
  refine wp_region_seq ?_
  refine wpL_chunk 6 (by rfl) (fun Lk hLk => ?_)
  simp only [List.take, List.drop]
  refine wpV_val (v := .pointer (some ⟨g3, 0, none⟩)) (by rfl) (by rfl) (fun W hW => ?_) ?_
  · (go_simp; exact rfl)
  simp only [putT, List.set]
  refine wpV_load1 (v := .int .i64 ((m : Nat) : Int)) (by rfl) rfl rfl (range_one (range_sub (M.r 1 0 rfl rfl) 0 1 0 (xs := [.int .i64 ((m : Nat) : Int)]) rfl rfl)) (M.lt 1 rfl) Tryd.underlying3 rfl ?_
  simp only [putT, List.set]
  refine wpV_move (v := .slice aq ls.length cq) (by rfl) rfl rfl ?_
  simp only [putT, List.set]
  refine wpV_lenA (n := ls.length) (by rfl) rfl rfl rfl Tryd.underlying48 ?_
  simp only [putT, List.set]
  refine wpV_bin (v := .int .i64 ((m + ls.length : Nat) : Int)) (by rfl) rfl rfl rfl (fun W => run_add (by simp only [IntKind.wrap_i64]; omega) W) ?_
  simp only [putT, List.set]
  refine wpV_bin (v := .bool false) (by rfl) rfl rfl rfl (fun W => (run_gtrN (m + ls.length) 4096 _ _ W).trans (by rw [(decide_eq_false (Nat.not_lt.2 hle))])) ?_
  simp only [putT, List.set]
  refine wpV_nil (hLk _ (fun w13 Sw13 => ?_))
  clear hLk Lk
  simp only [List.take, List.drop]
  replace M := M.sees Sw13
  refine wpL_assign (v := .bool false) (by rfl) (by rfl) (by rfl) ?_
  simp only [putT, List.set]
  refine wpL_nil (no_panic ?_)
  refine hK11 _ _ ?_
  refine wp_cond_false rfl ?_
  refine wp_skip ?_
  refine hK7 _ _ ?_
  refine wp_seq_k (fun K14 hK14 => ?_)
  refine wp_region_seq ?_
  refine wpL_chunk 2 (by rfl) (fun Lk hLk => ?_)
  simp only [List.take, List.drop]
  refine wpV_load (cs := [.int .i64 ((m : Nat) : Int), .slice ap ps.length cp]) (by rfl) rfl rfl (M.r 1 0 rfl rfl) (M.lt 1 rfl) Tryd.underlying66 rfl info66 ?_
  simp only [putT, List.set]
  refine wpV_val (v := .agg ([.int .i64 ((m : Nat) : Int), .slice ap ps.length cp]).toArray) (by rfl) (by rfl) (fun W hW => ?_) ?_
  · (unfold RunsVal; kernel_rfl)
  simp only [putT, List.set]
  refine wpV_nil (hLk _ (fun w16 Sw16 => ?_))
  clear hLk Lk
  simp only [List.take, List.drop]
  replace M := M.sees Sw16
  refine wpL_var (t := 100) (cs := [.int .i64 ((m : Nat) : Int), .slice ap ps.length cp]) (by rfl) (fun W => ?_) (fun g17 w18 Sw18 Hg17 Bg17 => ?_)
  · (first | rfl | go_simp)
  replace M := ((M.sees Sw18).add (N := 2) (cs := [.int .i64 ((m : Nat) : Int), .slice ap ps.length cp]) (M.ge Hg17) (M.fresh Hg17) Bg17 rfl)
  clear Bg17
  simp only [putT, List.set]
  refine wpL_assign (v := .pointer (some ⟨g17, 0, none⟩)) (by rfl) (by rfl) (by rfl) ?_
  simp only [putT, List.set]
  refine wpL_nil (no_panic ?_)
  refine hK14 _ _ ?_
  refine wp_seq_k (fun K19 hK19 => ?_)
  refine wp_seq_k (fun K20 hK20 => ?_)
  refine wp_region_seq ?_
  refine wpL_move (v := .slice aq ls.length cq) (by rfl) (by rfl) (by rfl) ?_
  simp only [putT, List.set]
  refine wpL_chunk 1 (by rfl) (fun Lk hLk => ?_)
  simp only [List.take, List.drop]
  refine wpV_lenA (n := ls.length) (by rfl) rfl rfl rfl Tryd.underlying48 ?_
  simp only [putT, List.set]
  refine wpV_nil (hLk _ (fun w22 Sw22 => ?_))
  clear hLk Lk
  simp only [List.take, List.drop]
  replace M := M.sees Sw22
  refine wpL_move (v := .int .i64 0) (by rfl) (by rfl) (by rfl) ?_
  simp only [putT, List.set]
  refine wpL_nil (no_panic ?_)
  refine hK20 _ _ ?_
  refine wp_block ?_
  refine wp_loop_peel (fun n9 a9 W9 => ∃ (k : Nat) (r : Nat) (rc : Nat) (u23 : Nat → Value), n9 = 2 * (ls.length - k) ∧ a9 = { tmps := #[.agg ([.int .i64 ((m : Nat) : Int), .slice ap ps.length cp]).toArray, .slice aq ls.length cq, .pointer (some ⟨g3, 0, none⟩), undef, .pointer (some ⟨g5, 0, none⟩), .int .i64 0, .pointer (some ⟨g17, 0, none⟩), undef, u23 8, .bool false, .agg ([.int .i64 ((m : Nat) : Int), .slice ap ps.length cp]).toArray, .bool true, .bool false, .bool false, .slice aq ls.length cq, .bool true, .bool false, .bool false, undef, .bool false, .pointer (some ⟨g3, 0, none⟩), .int .i64 ((m : Nat) : Int), .slice aq ls.length cq, .int .i64 ((ls.length : Nat) : Int), .int .i64 ((m + ls.length : Nat) : Int), .bool false, undef, .agg ([.int .i64 ((m : Nat) : Int), .slice ap ps.length cp]).toArray, .agg ([.int .i64 ((m : Nat) : Int), .slice ap ps.length cp]).toArray, .pointer (some ⟨g17, 0, none⟩), .slice aq ls.length cq, .int .i64 ((ls.length : Nat) : Int), .int .i64 ((k : Nat) : Int), u23 33, u23 34, u23 35, u23 36, u23 37, u23 38, u23 39, undef, undef, undef, undef], defers := [] } ∧ Mem [] w W9 [⟨g17, 2, [(0, [.int .i64 ((m + k : Nat) : Int), .slice (some ⟨r, 0, none⟩) ((addsP m ps (ls.take k)).length) rc])]⟩, ⟨g5, 2, [(0, [.int .i64 0, .slice none 0 0])]⟩, ⟨g3, 2, [(0, [.int .i64 ((m : Nat) : Int), .slice ap ps.length cp])]⟩, ⟨r, rc, [(0, scells (addsP m ps (ls.take k)))]⟩] ∧ (addsP m ps (ls.take k)).length ≤ rc ∧ (1 ≤ k) ∧ (k ≤ ls.length)) (2 * (ls.length - (1)) + 1) ?_ (fun n9 a9 W9 hI => ?_)
  · skip
    refine wp_seq_k (fun K24 hK24 => ?_)
    refine wp_region_seq ?_
    refine wpL_chunk 1 (by rfl) (fun Lk hLk => ?_)
    simp only [List.take, List.drop]
    refine wpV_bin (v := .bool true) (by rfl) rfl rfl rfl (fun W => (run_lssN 0 ls.length _ _ W).trans (by rw [(decide_eq_true h0l)])) ?_
    simp only [putT, List.set]
    refine wpV_nil (hLk _ (fun w26 Sw26 => ?_))
    clear hLk Lk
    simp only [List.take, List.drop]
    replace M := M.sees Sw26
    refine wpL_nil (no_panic ?_)
    refine hK24 _ _ ?_
    refine wp_seq_k (fun K27 hK27 => ?_)
    refine wp_cond_true rfl ?_
    refine wp_skip ?_
    refine hK27 _ _ ?_
    refine wp_seq_k (fun K28 hK28 => ?_)
    refine wp_block ?_
    refine wp_seq_k (fun K29 hK29 => ?_)
    refine wp_region_seq ?_
    refine wpL_chunk 2 (by rfl) (fun Lk hLk => ?_)
    simp only [List.take, List.drop]
    refine wpV_idxA (i := 0) (by rfl) rfl rfl rfl Tryd.underlying48 info9 (M.oldA Hq) (by omega) ?_
    simp only [putT, List.set]
    refine wpV_loadA (i := 0) (v := .string (bs (ls.getD 0 []))) (by rfl) rfl rfl (M.oldA Hq) (scells_get (ps := ls) (by omega)) Tryd.underlying9 rfl ?_
    simp only [putT, List.set]
    refine wpV_nil (hLk _ (fun w31 Sw31 => ?_))
    clear hLk Lk
    simp only [List.take, List.drop]
    replace M := M.sees Sw31
    refine wpL_assign (v := .string (bs (ls.getD 0 []))) (by rfl) (by rfl) (by rfl) ?_
    simp only [putT, List.set]
    refine wpL_nil (no_panic ?_)
    refine hK29 _ _ ?_
    refine wp_region_seq ?_
    refine wpL_move (v := .pointer (some ⟨g17, 0, none⟩)) (by rfl) (by rfl) (by rfl) ?_
    simp only [putT, List.set]
    refine wpL_move (v := .string (bs (ls.getD 0 []))) (by rfl) (by rfl) (by rfl) ?_
    simp only [putT, List.set]
    refine wpL_callM (f := 81) (args := #[.pointer (some ⟨g17, 0, none⟩), .string (bs (ls.getD 0 []))]) (R := fun v9 W9 => ∃ g34 g34c, v9 = .tuple #[] ∧ (addsP m ps (ls.take 1)).length ≤ g34c ∧ Mem [g17] w31 W9 [⟨g17, 2, [(0, [.int .i64 ((m + 1 : Nat) : Int), .slice (some ⟨g34, 0, none⟩) ((addsP m ps (ls.take 1)).length) g34c])]⟩, ⟨g34, g34c, [(0, scells (addsP m ps (ls.take 1)))]⟩]) (by rfl) (by rfl) rfl Tryd.func81 (by kernel_rfl) (by kernel_rfl) (by have h9 := add_c (m := m) (ps := ps) (s0 := ls.getD 0 []) hm hpl h32 (get_32 hl32 h0l) (by rw [hpl]; exact Nat.le_trans (oc_ones hm).2.2 (by decide)) (M.ne0 0 rfl L0) (M.oldL L0) (M.oldR R0_0 L0) (M.notin 0 rfl Hp) (M.one 0 rfl); rw [add_step0 h0l] at h9; exact h9) (fun v9 w33 h9 => ?_)
    obtain ⟨g34, g34c, rfl, Cg34, M9⟩ := h9
    replace M := M.callM 0 rfl M9
    simp only [List.set, List.cons_append, List.nil_append] at M
    simp only [putT, List.set]
    refine wpL_nil (no_panic ?_)
    refine hK28 _ _ ?_
    refine wp_region_seq ?_
    refine wpL_chunk 1 (by rfl) (fun Lk hLk => ?_)
    simp only [List.take, List.drop]
    refine wpV_bin (v := .int .i64 1) (by rfl) rfl rfl rfl (fun W => run_add (by decide) W) ?_
    simp only [putT, List.set]
    refine wpV_nil (hLk _ (fun w36 Sw36 => ?_))
    clear hLk Lk
    simp only [List.take, List.drop]
    replace M := M.sees Sw36
    refine wpL_move (v := .int .i64 1) (by rfl) (by rfl) (by rfl) ?_
    simp only [putT, List.set]
    refine wpL_nil (no_panic ?_)
    refine Exists.intro _ ⟨Nat.lt_succ_self _, 1, g34, g34c, (fun q9 => (#[undef, undef, undef, undef, undef, undef, undef, undef, .string (bs (ls.getD 0 [])), undef, undef, undef, undef, undef, undef, undef, undef, undef, undef, undef, undef, undef, undef, undef, undef, undef, undef, undef, undef, undef, undef, undef, undef, .bool true, .pointer (aq.map (·.add 0)), .string (bs (ls.getD 0 [])), .pointer (some ⟨g17, 0, none⟩), .string (bs (ls.getD 0 [])), .tuple #[], .int .i64 1] : Array Value).getD q9 undef), rfl, rfl, (M.pick [1, 2, 3, 0] (by decide) rfl), Cg34, (by omega), (by omega)⟩
  clear M
  obtain ⟨k, r, rc, u23, rfl, rfl, M, Cr, hk1, hk4⟩ := hI
  obtain ⟨w37, rfl⟩ : ∃ W8, W8 = W9 := ⟨_, rfl⟩
  have hLl : (addsP m ps (ls.take k)).length = ones (m + k) := by rw [addsP_len _ _ _ hpl, List.length_take, Nat.min_eq_left hk4]
  have hL32 : ∀ s ∈ (addsP m ps (ls.take k)), s.length = 32 := addsP_32 _ _ _ h32 (fun s hs => hl32 s (List.mem_of_mem_take hs))
  refine wp_seq_k (fun K38 hK38 => ?_)
  refine wp_region_seq ?_
  refine wpL_chunk 1 (by rfl) (fun Lk hLk => ?_)
  simp only [List.take, List.drop]
  refine wpV_bin (v := .bool (decide (k < ls.length))) (by rfl) rfl rfl rfl (fun W => run_lssN k ls.length _ _ W) ?_
  simp only [putT, List.set]
  refine wpV_nil (hLk _ (fun w40 Sw40 => ?_))
  clear hLk Lk
  simp only [List.take, List.drop]
  replace M := M.sees Sw40
  refine wpL_nil (no_panic ?_)
  refine hK38 _ _ ?_
  refine wp_seq_k (fun K41 hK41 => ?_)
  cases hc42 : (decide (k < ls.length))
  · skip
    have ek : k = ls.length := by have := of_decide_eq_false hc42; omega
    subst ek
    refine wp_cond_false rfl ?_
    refine wp_exit ?_
    refine hK19 _ _ ?_
    refine wp_seq_k (fun K43 hK43 => ?_)
    refine wp_region_seq ?_
    refine wpL_move (v := .pointer (some ⟨g17, 0, none⟩)) (by rfl) (by rfl) (by rfl) ?_
    simp only [putT, List.set]
    refine wpL_chunk 3 (by rfl) (fun Lk hLk => ?_)
    simp only [List.take, List.drop]
    refine wpV_nilCheck (by rfl) rfl rfl ?_
    simp only [putT, List.set]
    refine wpV_val (v := .pointer (some ⟨g17, 0, none⟩)) (by rfl) (by rfl) (fun W hW => ?_) ?_
    · (go_simp; exact rfl)
    simp only [putT, List.set]
    refine wpV_load (cs := [.int .i64 ((m + ls.length : Nat) : Int), .slice (some ⟨r, 0, none⟩) ((addsP m ps (ls.take ls.length)).length) rc]) (by rfl) rfl rfl (M.r 0 0 rfl rfl) (M.lt 0 rfl) Tryd.underlying66 rfl info66 ?_
    simp only [putT, List.set]
    refine wpV_nil (hLk _ (fun w45 Sw45 => ?_))
    clear hLk Lk
    simp only [List.take, List.drop]
    replace M := M.sees Sw45
    refine wpL_store (g := g5) (off := 0) (n := 2) (cs := [.int .i64 ((m + ls.length : Nat) : Int), .slice (some ⟨r, 0, none⟩) ((addsP m ps (ls.take ls.length)).length) rc]) (by rfl) (by rfl) (by rfl) (by rfl) (by rfl) (M.t 1 rfl) (by simp [flen]) info66 (by simp [fone, Value.oneCell']) (fun w46 P R T => ?_)
    replace M := M.putS 1 0 rfl P R T rfl ⟨.inl rfl, trivial⟩
    simp only [List.set] at M
    refine wpL_assign (v := .int .i64 0) (by rfl) (by rfl) (by rfl) ?_
    simp only [putT, List.set]
    refine wpL_nil (no_panic ?_)
    refine hK43 _ _ ?_
    refine wp_ret ?_
    repeat (first | with_reducible refine then_ret ?_ | with_reducible refine inblock_ret ?_)
    refine bodyPost_ret (v := .tuple #[.agg ([.int .i64 ((m + ls.length : Nat) : Int), .slice (some ⟨r, 0, none⟩) ((addsP m ps (ls.take ls.length)).length) rc]).toArray, .int .i64 0]) (res2 rfl (.cell (by rfl) (run_loadVar_mid _ _ _ _ ([.int .i64 ((m + ls.length : Nat) : Int), .slice (some ⟨r, 0, none⟩) ((addsP m ps (ls.take ls.length)).length) rc]) _ (M.r 1 0 rfl rfl) Tryd.underlying66 rfl info66)) (.tmp (by rfl))) rfl ?_
    have BE := M.below
    rw [List.take_length] at M Cr
    rw [List.take_length]
    exact ⟨_, rfl, r, rc, rfl, Cr, M.pick [3] (by decide) rfl⟩
  · skip
    have hk : k < ls.length := of_decide_eq_true hc42
    refine wp_cond_true rfl ?_
    refine wp_skip ?_
    refine hK41 _ _ ?_
    refine wp_seq_k (fun K47 hK47 => ?_)
    refine wp_block ?_
    refine wp_seq_k (fun K48 hK48 => ?_)
    refine wp_region_seq ?_
    refine wpL_chunk 2 (by rfl) (fun Lk hLk => ?_)
    simp only [List.take, List.drop]
    refine wpV_idxA (i := k) (by rfl) rfl rfl rfl Tryd.underlying48 info9 (M.oldA Hq) (by omega) ?_
    simp only [putT, List.set]
    refine wpV_loadA (i := k) (v := .string (bs (ls.getD k []))) (by rfl) rfl rfl (M.oldA Hq) (scells_get (ps := ls) (by omega)) Tryd.underlying9 rfl ?_
    simp only [putT, List.set]
    refine wpV_nil (hLk _ (fun w50 Sw50 => ?_))
    clear hLk Lk
    simp only [List.take, List.drop]
    replace M := M.sees Sw50
    refine wpL_assign (v := .string (bs (ls.getD k []))) (by rfl) (by rfl) (by rfl) ?_
    simp only [putT, List.set]
    refine wpL_nil (no_panic ?_)
    refine hK48 _ _ ?_
    refine wp_region_seq ?_
    refine wpL_move (v := .pointer (some ⟨g17, 0, none⟩)) (by rfl) (by rfl) (by rfl) ?_
    simp only [putT, List.set]
    refine wpL_move (v := .string (bs (ls.getD k []))) (by rfl) (by rfl) (by rfl) ?_
    simp only [putT, List.set]
    refine wpL_callM (f := 81) (args := #[.pointer (some ⟨g17, 0, none⟩), .string (bs (ls.getD k []))]) (R := fun v9 W9 => ∃ g53 g53c, v9 = .tuple #[] ∧ (addsP m ps (ls.take (k + 1))).length ≤ g53c ∧ Mem [g17] w50 W9 [⟨g17, 2, [(0, [.int .i64 ((m + k + 1 : Nat) : Int), .slice (some ⟨g53, 0, none⟩) ((addsP m ps (ls.take (k + 1))).length) g53c])]⟩, ⟨g53, g53c, [(0, scells (addsP m ps (ls.take (k + 1))))]⟩]) (by rfl) (by rfl) rfl Tryd.func81 (by kernel_rfl) (by kernel_rfl) (by have h9 := add_c (m := m + k) (ps := addsP m ps (ls.take k)) (s0 := ls.getD k []) (by omega) hLl hL32 (get_32 hl32 hk) (by rw [hLl]; exact Nat.le_trans (oc_ones (by omega)).2.2 (by decide)) (M.ne0 0 rfl L0) (M.oldL L0) (M.oldR R0_0 L0) (M.rowN 3 0 0 rfl rfl rfl (by decide) (scells_len _).symm Cr) (M.one 0 rfl); rw [add_step hk] at h9; exact h9) (fun v9 w52 h9 => ?_)
    obtain ⟨g53, g53c, rfl, Cg53, M9⟩ := h9
    replace M := M.callM 0 rfl M9
    simp only [List.set, List.cons_append, List.nil_append] at M
    simp only [putT, List.set]
    refine wpL_nil (no_panic ?_)
    refine hK47 _ _ ?_
    refine wp_region_seq ?_
    refine wpL_chunk 1 (by rfl) (fun Lk hLk => ?_)
    simp only [List.take, List.drop]
    refine wpV_bin (v := .int .i64 ((k + 1 : Nat) : Int)) (by rfl) rfl rfl rfl (fun W => run_add (by simp only [IntKind.wrap_i64]; omega) W) ?_
    simp only [putT, List.set]
    refine wpV_nil (hLk _ (fun w55 Sw55 => ?_))
    clear hLk Lk
    simp only [List.take, List.drop]
    replace M := M.sees Sw55
    refine wpL_move (v := .int .i64 ((k + 1 : Nat) : Int)) (by rfl) (by rfl) (by rfl) ?_
    simp only [putT, List.set]
    refine wpL_nil (no_panic ?_)
    refine Exists.intro _ ⟨?_, (k + 1), g53, g53c, (fun q9 => (#[undef, undef, undef, undef, undef, undef, undef, undef, .string (bs (ls.getD k [])), undef, undef, undef, undef, undef, undef, undef, undef, undef, undef, undef, undef, undef, undef, undef, undef, undef, undef, undef, undef, undef, undef, undef, undef, .bool true, .pointer (aq.map (·.add k)), .string (bs (ls.getD k [])), .pointer (some ⟨g17, 0, none⟩), .string (bs (ls.getD k [])), .tuple #[], .int .i64 ((k + 1 : Nat) : Int)] : Array Value).getD q9 undef), rfl, rfl, (M.pick [1, 2, 3, 0] (by decide) rfl), Cg53, (by omega), (by omega)⟩
    omega
end Go.Proofs.Yb

namespace Go.Proofs.Yb
open Go Go.RowKit Go.Proofs.Num
attribute [local irreducible] wpV wpN wpList
theorem last_all {ps : List (List UInt8)} (h : ∀ s ∈ ps, s.length = 32) (h0 : 1 ≤ ps.length) : (lastS ps).length = 32 := by
  have := last_len h h0 (Nat.le_refl _)
  rwa [List.take_length] at this
theorem sumP_go {ps : List (List UInt8)} {q : Nat} {u : List UInt8} (h0 : 1 ≤ q) (hq : q ≤ ps.length) (h : (ps.take q).foldr nodeS u = sumP ps) : (ps.take (q - 1)).foldr nodeS (nodeS (lastS (ps.take q)) u) = sumP ps := by
  rw [← h]
  have hl : (ps.take q).length = q := by rw [List.length_take]; omega
  have e : ps.take q = ps.take (q - 1) ++ [lastS (ps.take q)] := by
    have h1 : lastS (ps.take q) = ps.getD (q - 1) [] := by
      unfold lastS
      rw [hl, List.getD_eq_getElem?_getD, List.getElem?_take_of_lt (by omega), List.getD_eq_getElem?_getD]
    rw [h1]
    have h2 : q = q - 1 + 1 := by omega
    rw [show ps.take q = ps.take (q - 1 + 1) by rw [← h2], List.take_add_one, List.getD_eq_getElem?_getD, List.getElem?_eq_getElem (by omega)]
    rfl
  conv => rhs; rw [e]
  rw [List.foldr_append]
  rfl
set_option maxHeartbeats 1000000 in
theorem Sum_z {ps : List (List UInt8)} {ap : Option Addr} {np cp : Nat} {w : World} (hp : ps.length ≤ 4611686018427387904) (hmay : mayG 0 ps = true) (L0 : 0 < w.heap.size) (R0_0 : w.rangeAt 0 0 kcells) (Hp : RowA w ap np cp (scells ps)) :
    Calls Tryd.prog 60 #[.agg [.int .i64 0, .slice ap np cp].toArray] w fun e w' => e = .returned (.tuple #[.string (bs (sha [])), .int .i64 0]) ∧ Below w.heap.size w w' := by
  obtain rfl : np = ps.length := by have := Hp.len; rwa [scells_len] at this
  go_enter Tryd.func60, Tryd.ntmps60
  have M := Mem.start w
  refine wp_seq_k (fun K1 hK1 => ?_)
  refine wp_region_seq ?_
  refine wpL_var (t := 66) (cs := [.int .i64 0, .slice ap ps.length cp]) (by rfl) (fun W => ?_) (fun g3 w4 Sw4 Hg3 Bg3 => ?_)
  · (first | rfl | go_simp)
  replace M := ((M.sees Sw4).add (N := 2) (cs := [.int .i64 0, .slice ap ps.length cp]) (M.ge Hg3) (M.fresh Hg3) Bg3 rfl)
  clear Bg3
  simp only [putT, List.set]
  refine wpL_assign (v := .string (bs ([]))) (by rfl) (by rfl) (by rfl) ?_
  simp only [putT, List.set]
  refine wpL_assign (v := .int .i64 0) (by rfl) (by rfl) (by rfl) ?_
  simp only [putT, List.set]
  refine wpL_nil (no_panic ?_)
  refine hK1 _ _ ?_
  refine wp_seq_k (fun K5 hK5 => ?_)
  refine wp_seq_k (fun K6 hK6 => ?_)
  refine wp_region_seq ?_
  refine wpL_chunk 3 (by rfl) (fun Lk hLk => ?_)
  simp only [List.take, List.drop]
  refine wpV_load (cs := [.int .i64 0, .slice ap ps.length cp]) (by rfl) rfl rfl (M.r 0 0 rfl rfl) (M.lt 0 rfl) Tryd.underlying66 rfl info66 ?_
  simp only [putT, List.set]
  refine wpV_callf (v := .bool true) (args := #[.agg ([.int .i64 0, .slice ap ps.length cp]).toArray]) (by rfl) rfl Tryd.func80 (by kernel_rfl) (by kernel_rfl) rfl (fun W hW => by have h9 : Calls Tryd.prog _ _ W _ := may_c (ps := ps) (x := 0) hp ((M.sees hW).oldA Hp); rw [hmay] at h9; exact h9) ?_
  simp only [putT, List.set]
  refine wpV_not (b := true) (by rfl) rfl rfl ?_
  simp only [Bool.not_true, Bool.not_false]
  simp only [putT, List.set]
  refine wpV_nil (hLk _ (fun w8 Sw8 => ?_))
  clear hLk Lk
  simp only [List.take, List.drop]
  replace M := M.sees Sw8
  refine wpL_nil (no_panic ?_)
  refine hK6 _ _ ?_
  refine wp_cond_false rfl ?_
  refine wp_skip ?_
  refine hK5 _ _ ?_
  refine wp_seq_k (fun K9 hK9 => ?_)
  refine wp_seq_k (fun K10 hK10 => ?_)
  refine wp_region_seq ?_
  refine wpL_chunk 3 (by rfl) (fun Lk hLk => ?_)
  simp only [List.take, List.drop]
  refine wpV_val (v := .pointer (some ⟨g3, 0, none⟩)) (by rfl) (by rfl) (fun W hW => ?_) ?_
  · (go_simp; exact rfl)
  simp only [putT, List.set]
  refine wpV_load1 (v := .int .i64 0) (by rfl) rfl rfl (range_one (range_sub (M.r 0 0 rfl rfl) 0 1 0 (xs := [.int .i64 0]) rfl rfl)) (M.lt 0 rfl) Tryd.underlying3 rfl ?_
  simp only [putT, List.set]
  refine wpV_bin (v := .bool true) (by rfl) rfl rfl rfl (fun W => run_eql _ _ _ _ W) ?_
  simp only [putT, List.set]
  refine wpV_nil (hLk _ (fun w12 Sw12 => ?_))
  clear hLk Lk
  simp only [List.take, List.drop]
  replace M := M.sees Sw12
  refine wpL_nil (no_panic ?_)
  refine hK10 _ _ ?_
  refine wp_cond_true rfl ?_
  refine wp_seq_k (fun K13 hK13 => ?_)
  refine wp_region_seq ?_
  refine wpL_chunk 1 (by rfl) (fun Lk hLk => ?_)
  simp only [List.take, List.drop]
  refine wpV_callf (v := .string (bs (sha []))) (args := #[(.slice none 0 0)]) (by rfl) rfl Tryd.func20 (by kernel_rfl) (by kernel_rfl) rfl (fun W hW => sum0_c ((M.sees hW).oldL L0) ((M.sees hW).oldR R0_0 L0)) ?_
  simp only [putT, List.set]
  refine wpV_nil (hLk _ (fun w15 Sw15 => ?_))
  clear hLk Lk
  simp only [List.take, List.drop]
  replace M := M.sees Sw15
  refine wpL_assign (v := .string (bs (sha []))) (by rfl) (by rfl) (by rfl) ?_
  simp only [putT, List.set]
  refine wpL_assign (v := .int .i64 0) (by rfl) (by rfl) (by rfl) ?_
  simp only [putT, List.set]
  refine wpL_nil (no_panic ?_)
  refine hK13 _ _ ?_
  refine wp_ret ?_
  repeat (first | with_reducible refine then_ret ?_ | with_reducible refine inblock_ret ?_)
  refine bodyPost_ret (v := .tuple #[.string (bs (sha [])), .int .i64 0]) (res2 rfl (.tmp (by rfl)) (.tmp (by rfl))) rfl ?_
  have BE := M.below
  exact ⟨rfl, BE⟩
set_option maxHeartbeats 2000000 in
theorem Sum_go {ps : List (List UInt8)} {ap : Option Addr} {np cp : Nat} {m : Nat} {w : World} (hp : ps.length ≤ 4611686018427387904) (hmay : mayG ((m : Nat) : Int) ps = true) (hm1 : 0 < m) (hl1 : 1 ≤ ps.length) (h32 : ∀ s ∈ ps, s.length = 32) (L0 : 0 < w.heap.size) (R0_0 : w.rangeAt 0 0 kcells) (Hp : RowA w ap np cp (scells ps)) :
    Calls Tryd.prog 60 #[.agg [.int .i64 ((m : Nat) : Int), .slice ap np cp].toArray] w fun e w' => e = .returned (.tuple #[.string (bs (sumP ps)), .int .i64 0]) ∧ Below w.heap.size w w' := by
  obtain rfl : np = ps.length := by have := Hp.len; rwa [scells_len] at this
  go_enter Tryd.func60, Tryd.ntmps60
  have M := Mem.start w
  refine wp_seq_k (fun K1 hK1 => ?_)
  refine wp_region_seq ?_
  refine wpL_var (t := 66) (cs := [.int .i64 ((m : Nat) : Int), .slice ap ps.length cp]) (by rfl) (fun W => ?_) (fun g3 w4 Sw4 Hg3 Bg3 => ?_)
  · (first | rfl | go_simp)
  replace M := ((M.sees Sw4).add (N := 2) (cs := [.int .i64 ((m : Nat) : Int), .slice ap ps.length cp]) (M.ge Hg3) (M.fresh Hg3) Bg3 rfl)
  clear Bg3
  simp only [putT, List.set]
  refine wpL_assign (v := .string (bs ([]))) (by rfl) (by rfl) (by rfl) ?_
  simp only [putT, List.set]
  refine wpL_assign (v := .int .i64 0) (by rfl) (by rfl) (by rfl) ?_
  simp only [putT, List.set]
  refine wpL_nil (no_panic ?_)
  refine hK1 _ _ ?_
  refine wp_seq_k (fun K5 hK5 => ?_)
  refine wp_seq_k (fun K6 hK6 => ?_)
  refine wp_region_seq ?_
  refine wpL_chunk 3 (by rfl) (fun Lk hLk => ?_)
  simp only [List.take, List.drop]
  refine wpV_load (cs := [.int .i64 ((m : Nat) : Int), .slice ap ps.length cp]) (by rfl) rfl rfl (M.r 0 0 rfl rfl) (M.lt 0 rfl) Tryd.underlying66 rfl info66 ?_
  simp only [putT, List.set]
  refine wpV_callf (v := .bool true) (args := #[.agg ([.int .i64 ((m : Nat) : Int), .slice ap ps.length cp]).toArray]) (by rfl) rfl Tryd.func80 (by kernel_rfl) (by kernel_rfl) rfl (fun W hW => by have h9 : Calls Tryd.prog _ _ W _ := may_c (ps := ps) (x := ((m : Nat) : Int)) hp ((M.sees hW).oldA Hp); rw [hmay] at h9; exact h9) ?_
  simp only [putT, List.set]
  refine wpV_not (b := true) (by rfl) rfl rfl ?_
  simp only [Bool.not_true, Bool.not_false]
  simp only [putT, List.set]
  refine wpV_nil (hLk _ (fun w8 Sw8 => ?_))
  clear hLk Lk
  simp only [List.take, List.drop]
  replace M := M.sees Sw8
  refine wpL_nil (no_panic ?_)
  refine hK6 _ _ ?_
  refine wp_cond_false rfl ?_
  refine wp_skip ?_
  refine hK5 _ _ ?_
  refine wp_seq_k (fun K9 hK9 => ?_)
  refine wp_seq_k (fun K10 hK10 => ?_)
  refine wp_region_seq ?_
  refine wpL_chunk 3 (by rfl) (fun Lk hLk => ?_)
  simp only [List.take, List.drop]
  refine wpV_val (v := .pointer (some ⟨g3, 0, none⟩)) (by rfl) (by rfl) (fun W hW => ?_) ?_
  · (go_simp; exact rfl)
  simp only [putT, List.set]
  refine wpV_load1 (v := .int .i64 ((m : Nat) : Int)) (by rfl) rfl rfl (range_one (range_sub (M.r 0 0 rfl rfl) 0 1 0 (xs := [.int .i64 ((m : Nat) : Int)]) rfl rfl)) (M.lt 0 rfl) Tryd.underlying3 rfl ?_
  simp only [putT, List.set]
  refine wpV_bin (v := .bool false) (by rfl) rfl rfl rfl (fun W => (run_eqlN m 0 _ _ W).trans (by rw [(decide_eq_false (Nat.ne_of_gt hm1))])) ?_
  simp only [putT, List.set]
  refine wpV_nil (hLk _ (fun w12 Sw12 => ?_))
  clear hLk Lk
  simp only [List.take, List.drop]
  replace M := M.sees Sw12
  refine wpL_nil (no_panic ?_)
  refine hK10 _ _ ?_
  refine wp_cond_false rfl ?_
  refine wp_skip ?_
  refine hK9 _ _ ?_
  refine wp_seq_k (fun K13 hK13 => ?_)
  refine wp_region_seq ?_
  refine wpL_chunk 2 (by rfl) (fun Lk hLk => ?_)
  simp only [List.take, List.drop]
  refine wpV_load (cs := [.int .i64 ((m : Nat) : Int), .slice ap ps.length cp]) (by rfl) rfl rfl (M.r 0 0 rfl rfl) (M.lt 0 rfl) Tryd.underlying66 rfl info66 ?_
  simp only [putT, List.set]
  refine wpV_val (v := .agg ([.int .i64 ((m : Nat) : Int), .slice ap ps.length cp]).toArray) (by rfl) (by rfl) (fun W hW => ?_) ?_
  · (unfold RunsVal; kernel_rfl)
  simp only [putT, List.set]
  refine wpV_nil (hLk _ (fun w15 Sw15 => ?_))
  clear hLk Lk
  simp only [List.take, List.drop]
  replace M := M.sees Sw15
  refine wpL_var (t := 100) (cs := [.int .i64 ((m : Nat) : Int), .slice ap ps.length cp]) (by rfl) (fun W => ?_) (fun g16 w17 Sw17 Hg16 Bg16 => ?_)
  · (first | rfl | go_simp)
  replace M := ((M.sees Sw17).add (N := 2) (cs := [.int .i64 ((m : Nat) : Int), .slice ap ps.length cp]) (M.ge Hg16) (M.fresh Hg16) Bg16 rfl)
  clear Bg16
  simp only [putT, List.set]
  refine wpL_assign (v := .pointer (some ⟨g16, 0, none⟩)) (by rfl) (by rfl) (by rfl) ?_
  simp only [putT, List.set]
  refine wpL_nil (no_panic ?_)
  refine hK13 _ _ ?_
  refine wp_seq_k (fun K18 hK18 => ?_)
  refine wp_region_seq ?_
  refine wpL_move (v := .pointer (some ⟨g16, 0, none⟩)) (by rfl) (by rfl) (by rfl) ?_
  simp only [putT, List.set]
  refine wpL_callM (f := 85) (args := #[.pointer (some ⟨g16, 0, none⟩)]) (R := fun v9 W9 => v9 = .string (bs (lastS ps)) ∧ Mem [g16] w17 W9 [⟨g16, 2, [(0, [.int .i64 ((m : Nat) : Int), .slice ap (ps.length - 1) (ps.length - 1)])]⟩]) (by rfl) (by rfl) rfl Tryd.func85 (by kernel_rfl) (by kernel_rfl) (last_c (ps := ps) hl1 hp (M.notin 0 rfl Hp) (M.one 0 rfl)) (fun v9 w20 h9 => ?_)
  obtain ⟨rfl, M9⟩ := h9
  replace M := M.callM1 0 rfl M9
  simp only [List.set] at M
  simp only [putT, List.set]
  refine wpL_assign (v := .string (bs (lastS ps))) (by rfl) (by rfl) (by rfl) ?_
  simp only [putT, List.set]
  refine wpL_nil (no_panic ?_)
  refine hK18 _ _ ?_
  refine wp_seq_k (fun K21 hK21 => ?_)
  refine wp_block ?_
  refine wp_loop_ghost (fun n9 a9 W9 => ∃ (u : List UInt8) (q : Nat) (u22 : Nat → Value), n9 = 2 * q ∧ a9 = { tmps := #[.agg ([.int .i64 ((m : Nat) : Int), .slice ap ps.length cp]).toArray, .pointer (some ⟨g3, 0, none⟩), .string (bs ([])), .int .i64 0, .pointer (some ⟨g16, 0, none⟩), .string (bs u), .agg ([.int .i64 ((m : Nat) : Int), .slice ap ps.length cp]).toArray, .bool true, .bool false, .pointer (some ⟨g3, 0, none⟩), .int .i64 ((m : Nat) : Int), .bool false, undef, .agg ([.int .i64 ((m : Nat) : Int), .slice ap ps.length cp]).toArray, .agg ([.int .i64 ((m : Nat) : Int), .slice ap ps.length cp]).toArray, .pointer (some ⟨g16, 0, none⟩), .pointer (some ⟨g16, 0, none⟩), .string (bs (lastS ps)), u22 18, u22 19, u22 20, u22 21, u22 22, u22 23, u22 24, u22 25, u22 26, u22 27, u22 28, undef], defers := [] } ∧ Mem [] w W9 [⟨g16, 2, [(0, [.int .i64 ((m : Nat) : Int), .slice ap q q])]⟩, ⟨g3, 2, [(0, [.int .i64 ((m : Nat) : Int), .slice ap ps.length cp])]⟩] ∧ (q ≤ ps.length) ∧ (u.length = 32) ∧ ((ps.take q).foldr nodeS u = sumP ps)) (2 * (ps.length - 1)) ?_ (fun n9 a9 W9 hI => ?_)
  · exact ⟨(lastS ps), (ps.length - 1), (fun q9 => (#[undef, undef, undef, undef, undef, undef, undef, undef, undef, undef, undef, undef, undef, undef, undef, undef, undef, undef, undef, undef, undef, undef, undef, undef, undef, undef, undef, undef, undef] : Array Value).getD q9 undef), rfl, rfl, M, (Nat.sub_le _ _), (last_all h32 hl1), rfl⟩
  clear M
  obtain ⟨u, q, u22, rfl, rfl, M, hq1, hul, hS⟩ := hI
  obtain ⟨w23, rfl⟩ : ∃ W8, W8 = W9 := ⟨_, rfl⟩
  refine wp_seq_k (fun K24 hK24 => ?_)
  refine wp_seq_k (fun K25 hK25 => ?_)
  refine wp_region_seq ?_
  refine wpL_move (v := .pointer (some ⟨g16, 0, none⟩)) (by rfl) (by rfl) (by rfl) ?_
  simp only [putT, List.set]
  refine wpL_chunk 6 (by rfl) (fun Lk hLk => ?_)
  simp only [List.take, List.drop]
  refine wpV_nilCheck (by rfl) rfl rfl ?_
  simp only [putT, List.set]
  refine wpV_val (v := .pointer (some ⟨g16, 0, none⟩)) (by rfl) (by rfl) (fun W hW => ?_) ?_
  · (go_simp; exact rfl)
  simp only [putT, List.set]
  refine wpV_val (v := .pointer (some ⟨g16, 1, none⟩)) (by rfl) (by rfl) (fun W hW => ?_) ?_
  · (go_simp; exact rfl)
  simp only [putT, List.set]
  refine wpV_load1 (v := .slice ap q q) (by rfl) rfl rfl (range_one (range_sub (M.r 0 0 rfl rfl) 1 1 1 (xs := [.slice ap q q]) rfl rfl)) (M.lt 0 rfl) Tryd.underlying48 rfl ?_
  simp only [putT, List.set]
  refine wpV_lenA (n := q) (by rfl) rfl rfl rfl Tryd.underlying48 ?_
  simp only [putT, List.set]
  refine wpV_bin (v := .bool (decide (0 < q))) (by rfl) rfl rfl rfl (fun W => run_gtrN q 0 _ _ W) ?_
  simp only [putT, List.set]
  refine wpV_nil (hLk _ (fun w27 Sw27 => ?_))
  clear hLk Lk
  simp only [List.take, List.drop]
  replace M := M.sees Sw27
  refine wpL_nil (no_panic ?_)
  refine hK25 _ _ ?_
  cases hc28 : (decide (0 < q))
  · skip
    have eq0 : q = 0 := by have := of_decide_eq_false hc28; omega
    refine wp_cond_false rfl ?_
    refine wp_exit ?_
    refine hK21 _ _ ?_
    refine wp_seq_k (fun K29 hK29 => ?_)
    refine wp_region_seq ?_
    refine wpL_move (v := .string (bs u)) (by rfl) (by rfl) (by rfl) ?_
    simp only [putT, List.set]
    refine wpL_assign (v := .string (bs u)) (by rfl) (by rfl) (by rfl) ?_
    simp only [putT, List.set]
    refine wpL_assign (v := .int .i64 0) (by rfl) (by rfl) (by rfl) ?_
    simp only [putT, List.set]
    refine wpL_nil (no_panic ?_)
    refine hK29 _ _ ?_
    refine wp_ret ?_
    repeat (first | with_reducible refine then_ret ?_ | with_reducible refine inblock_ret ?_)
    refine bodyPost_ret (v := .tuple #[.string (bs u), .int .i64 0]) (res2 rfl (.tmp (by rfl)) (.tmp (by rfl))) rfl ?_
    have BE := M.below
    exact ⟨by rw [← hS, eq0]; rfl, BE⟩
  · skip
    have hq0 : 1 ≤ q := of_decide_eq_true hc28
    refine wp_cond_true rfl ?_
    refine wp_skip ?_
    refine hK24 _ _ ?_
    refine wp_block ?_
    refine wp_region_seq ?_
    refine wpL_move (v := .pointer (some ⟨g16, 0, none⟩)) (by rfl) (by rfl) (by rfl) ?_
    simp only [putT, List.set]
    refine wpL_callM (f := 85) (args := #[.pointer (some ⟨g16, 0, none⟩)]) (R := fun v9 W9 => v9 = .string (bs (lastS (ps.take q))) ∧ Mem [g16] w27 W9 [⟨g16, 2, [(0, [.int .i64 ((m : Nat) : Int), .slice ap (q - 1) (q - 1)])]⟩]) (by rfl) (by rfl) rfl Tryd.func85 (by kernel_rfl) (by kernel_rfl) (last_c (ps := ps.take q) (by rw [List.length_take]; omega) (by rw [List.length_take]; omega) (M.notin 0 rfl ((Hp.takeM hq1 (Nat.le_refl _) (Nat.le_trans hq1 Hp.cap)).eq (scells_take2 _ _))) (M.one 0 rfl)) (fun v9 w32 h9 => ?_)
    obtain ⟨rfl, M9⟩ := h9
    replace M := M.callM1 0 rfl M9
    simp only [List.set] at M
    simp only [putT, List.set]
    refine wpL_move (v := .string (bs u)) (by rfl) (by rfl) (by rfl) ?_
    simp only [putT, List.set]
    refine wpL_chunk 1 (by rfl) (fun Lk hLk => ?_)
    simp only [List.take, List.drop]
    refine wpV_callf (v := .string (bs (nodeS (lastS (ps.take q)) u))) (args := #[.string (bs (lastS (ps.take q))), .string (bs u)]) (by rfl) rfl Tryd.func40 (by kernel_rfl) (by kernel_rfl) rfl (fun W hW => node_c (a := lastS (ps.take q)) (b := u) (by rw [last_len h32 hq0 hq1]; decide) (by rw [hul]; decide) ((M.sees hW).oldL L0) ((M.sees hW).oldR R0_0 L0)) ?_
    simp only [putT, List.set]
    refine wpV_nil (hLk _ (fun w33 Sw33 => ?_))
    clear hLk Lk
    simp only [List.take, List.drop]
    replace M := M.sees Sw33
    refine wpL_assign (v := .string (bs (nodeS (lastS (ps.take q)) u))) (by rfl) (by rfl) (by rfl) ?_
    simp only [putT, List.set]
    refine wpL_nil (no_panic ?_)
    refine Exists.intro _ ⟨?_, (nodeS (lastS (ps.take q)) u), (q - 1), (fun q9 => (#[undef, undef, undef, undef, undef, undef, undef, undef, undef, undef, undef, undef, undef, undef, undef, undef, undef, undef, .pointer (some ⟨g16, 0, none⟩), .pointer (some ⟨g16, 0, none⟩), .pointer (some ⟨g16, 0, none⟩), .pointer (some ⟨g16, 1, none⟩), .slice ap q q, .int .i64 ((q : Nat) : Int), .bool true, .pointer (some ⟨g16, 0, none⟩), .string (bs (lastS (ps.take q))), .string (bs u), .string (bs (nodeS (lastS (ps.take q)) u))] : Array Value).getD q9 undef), rfl, rfl, M, (by omega), (nodeS_len _ _), (sumP_go hq0 hq1 hS)⟩
    omega
end Go.Proofs.Yb

namespace Go.Proofs.Yb
open Go Go.RowKit Go.Proofs.Num
theorem Root_c1 {ps : List (List UInt8)} {g0 o cg0 ng0 : Nat} {w : World} (L0 : 0 < w.heap.size) (R0_0 : w.rangeAt 0 0 kcells) (hn : ng0 = ps.length) (hc : ng0 ≤ cg0) (L : g0 < w.heap.size) (R : w.rangeAt g0 o (scells ps)) :
    Calls Tryd.prog 37 #[.slice (some ⟨g0, o, none⟩) ng0 cg0] w fun e w' => e = .returned (.tuple #[.string (bs (rootT ps)), .int .i64 (rootE ps)]) ∧ Below w.heap.size w w' := Root_c L0 R0_0 hn hc L R
theorem Root_3 {a b c : List UInt8} {g0 o cg0 ng0 : Nat} {w : World} (ha : a.length = 32) (hb : b.length = 32) (hd : c.length = 32) (L0 : 0 < w.heap.size) (R0_0 : w.rangeAt 0 0 kcells) (hn : ng0 = [a, b, c].length) (hc : ng0 ≤ cg0) (L : g0 < w.heap.size) (R : w.rangeAt g0 o (scells [a, b, c])) :
    Calls Tryd.prog 37 #[.slice (some ⟨g0, o, none⟩) ng0 cg0] w fun e w' => e = .returned (.tuple #[.string (bs (nodeS (nodeS a b) c)), .int .i64 0]) ∧ Below w.heap.size w w' := by
  have h := Root_c1 L0 R0_0 hn hc L R
  rwa [rootT_yes (right_three ha hb hd), rootE_yes (right_three ha hb hd), rootS_three] at h
set_option maxHeartbeats 1000000 in
theorem alive08_c  {w : World} (L0 : 0 < w.heap.size) (R0_0 : w.rangeAt 0 0 kcells) :
    Calls Tryd.prog 44 #[] w fun e w' => e = .returned (.bool true) ∧ Below w.heap.size w w' := by
  go_enter Tryd.func44, Tryd.ntmps44
  have M := Mem.start w
  refine wp_seq_k (fun K1 hK1 => ?_)
  refine wp_region_seq ?_
  refine wpL_assign (v := .bool false) (by rfl) (by rfl) (by rfl) ?_
  simp only [putT, List.set]
  refine wpL_nil (no_panic ?_)
  refine hK1 _ _ ?_
  refine wp_seq_k (fun K3 hK3 => ?_)
  refine wp_region_seq ?_
  refine wpL_chunk 3 (by rfl) (fun Lk hLk => ?_)
  simp only [List.take, List.drop]
  refine wpV_callf (v := .string (bs (leafS ([97])))) (args := #[.string (bs ([97]))]) (by rfl) rfl Tryd.func38 (by kernel_rfl) (by kernel_rfl) rfl (fun W hW => leaf_c (d := [97]) (by decide) ((M.sees hW).oldL L0) ((M.sees hW).oldR R0_0 L0)) ?_
  simp only [putT, List.set]
  refine wpV_callf (v := .string (bs (leafS ([98])))) (args := #[.string (bs ([98]))]) (by rfl) rfl Tryd.func38 (by kernel_rfl) (by kernel_rfl) rfl (fun W hW => leaf_c (d := [98]) (by decide) ((M.sees hW).oldL L0) ((M.sees hW).oldR R0_0 L0)) ?_
  simp only [putT, List.set]
  refine wpV_callf (v := .string (bs (leafS ([99])))) (args := #[.string (bs ([99]))]) (by rfl) rfl Tryd.func38 (by kernel_rfl) (by kernel_rfl) rfl (fun W hW => leaf_c (d := [99]) (by decide) ((M.sees hW).oldL L0) ((M.sees hW).oldR R0_0 L0)) ?_
  simp only [putT, List.set]
  refine wpV_nil (hLk _ (fun w5 Sw5 => ?_))
  clear hLk Lk
  simp only [List.take, List.drop]
  replace M := M.sees Sw5
  refine wpL_assign (v := .string (bs (leafS ([97])))) (by rfl) (by rfl) (by rfl) ?_
  simp only [putT, List.set]
  refine wpL_assign (v := .string (bs (leafS ([98])))) (by rfl) (by rfl) (by rfl) ?_
  simp only [putT, List.set]
  refine wpL_assign (v := .string (bs (leafS ([99])))) (by rfl) (by rfl) (by rfl) ?_
  simp only [putT, List.set]
  refine wpL_nil (no_panic ?_)
  refine hK3 _ _ ?_
  refine wp_seq_k (fun K6 hK6 => ?_)
  refine wp_region_seq ?_
  refine wpL_move (v := .string (bs (leafS ([97])))) (by rfl) (by rfl) (by rfl) ?_
  simp only [putT, List.set]
  refine wpL_move (v := .string (bs (leafS ([98])))) (by rfl) (by rfl) (by rfl) ?_
  simp only [putT, List.set]
  refine wpL_move (v := .string (bs (leafS ([99])))) (by rfl) (by rfl) (by rfl) ?_
  simp only [putT, List.set]
  refine wpL_rowN (vs := [.string (bs (leafS ([97]))), .string (bs (leafS ([98]))), .string (bs (leafS ([99])))]) (z := .string { data := #[] }) (bytes := 16) (by rfl) (by rfl) Tryd.underlying48 (by kernel_rfl) (by decide) (by kernel_rfl) (fun g8 w9 Sw9 Hg8 Bg8 => ?_)
  replace M := ((M.sees Sw9).add (N := 3) (cs := [.string (bs (leafS ([97]))), .string (bs (leafS ([98]))), .string (bs (leafS ([99])))]) (M.ge Hg8) (M.fresh Hg8) Bg8 rfl)
  clear Bg8
  simp only [putT, List.set]
  refine wpL_chunk 4 (by rfl) (fun Lk hLk => ?_)
  simp only [List.take, List.drop]
  refine wpV_callf (v := .tuple #[.string (bs (nodeS (nodeS (leafS ([97])) (leafS ([98]))) (leafS ([99])))), .int .i64 0]) (args := #[.slice (some ⟨g8, 0, none⟩) 3 3]) (by rfl) rfl Tryd.func37 (by kernel_rfl) (by kernel_rfl) rfl (fun W hW => by with_reducible exact Root_3 (leafS_len _) (leafS_len _) (leafS_len _) ((M.sees hW).oldL L0) ((M.sees hW).oldR R0_0 L0) rfl (Nat.le_refl _) ((M.sees hW).lt 0 rfl) ((M.sees hW).r 0 0 rfl rfl)) ?_
  simp only [putT, List.set]
  refine wpV_move (v := .tuple #[.string (bs (nodeS (nodeS (leafS ([97])) (leafS ([98]))) (leafS ([99])))), .int .i64 0]) (by rfl) rfl rfl ?_
  simp only [putT, List.set]
  refine wpV_extract (v := .string (bs (nodeS (nodeS (leafS ([97])) (leafS ([98]))) (leafS ([99]))))) (by rfl) rfl rfl rfl ?_
  simp only [putT, List.set]
  refine wpV_extract (v := .int .i64 0) (by rfl) rfl rfl rfl ?_
  simp only [putT, List.set]
  refine wpV_nil (hLk _ (fun w10 Sw10 => ?_))
  clear hLk Lk
  simp only [List.take, List.drop]
  replace M := M.sees Sw10
  refine wpL_assign (v := .string (bs (nodeS (nodeS (leafS ([97])) (leafS ([98]))) (leafS ([99]))))) (by rfl) (by rfl) (by rfl) ?_
  simp only [putT, List.set]
  refine wpL_assign (v := .int .i64 0) (by rfl) (by rfl) (by rfl) ?_
  simp only [putT, List.set]
  refine wpL_nil (no_panic ?_)
  refine hK6 _ _ ?_
  refine wp_seq_k (fun K11 hK11 => ?_)
  refine wp_region_seq ?_
  refine wpL_move (v := .int .i64 0) (by rfl) (by rfl) (by rfl) ?_
  simp only [putT, List.set]
  refine wpL_chunk 14 (by rfl) (fun Lk hLk => ?_)
  simp only [List.take, List.drop]
  refine wpV_bin (v := .bool true) (by rfl) rfl rfl rfl (fun W => run_eql _ _ _ _ W) ?_
  simp only [putT, List.set]
  refine wpV_move (v := .bool true) (by rfl) rfl rfl ?_
  simp only [putT, List.set]
  refine wpV_move (v := .string (bs (nodeS (nodeS (leafS ([97])) (leafS ([98]))) (leafS ([99]))))) (by rfl) rfl rfl ?_
  simp only [putT, List.set]
  refine wpV_binS (v := .bool true) (by rfl) rfl rfl rfl (fun W => (run_neq_bs _ _ _ W).trans (by rw [(show decide (nodeS (nodeS (leafS ([97])) (leafS ([98]))) (leafS ([99])) ≠ []) = true from decide_eq_true (node_ne _ _))])) ?_
  simp only [putT, List.set]
  refine wpV_pick (v := .bool true) (by rfl) rfl rfl rfl ?_
  simp only [putT, List.set]
  refine wpV_move (v := .bool true) (by rfl) rfl rfl ?_
  simp only [putT, List.set]
  refine wpV_move (v := .string (bs (nodeS (nodeS (leafS ([97])) (leafS ([98]))) (leafS ([99]))))) (by rfl) rfl rfl ?_
  simp only [putT, List.set]
  refine wpV_move (v := .string (bs (leafS ([97])))) (by rfl) rfl rfl ?_
  simp only [putT, List.set]
  refine wpV_move (v := .string (bs (leafS ([98])))) (by rfl) rfl rfl ?_
  simp only [putT, List.set]
  refine wpV_callf (v := .string (bs (nodeS (leafS ([97])) (leafS ([98]))))) (args := #[.string (bs (leafS ([97]))), .string (bs (leafS ([98])))]) (by rfl) rfl Tryd.func40 (by kernel_rfl) (by kernel_rfl) rfl (fun W hW => node_c (a := leafS ([97])) (b := leafS ([98])) (by rw [leafS_len]; decide) (by rw [leafS_len]; decide) ((M.sees hW).oldL L0) ((M.sees hW).oldR R0_0 L0)) ?_
  simp only [putT, List.set]
  refine wpV_move (v := .string (bs (leafS ([99])))) (by rfl) rfl rfl ?_
  simp only [putT, List.set]
  refine wpV_callf (v := .string (bs (nodeS (nodeS (leafS ([97])) (leafS ([98]))) (leafS ([99]))))) (args := #[.string (bs (nodeS (leafS ([97])) (leafS ([98])))), .string (bs (leafS ([99])))]) (by rfl) rfl Tryd.func40 (by kernel_rfl) (by kernel_rfl) rfl (fun W hW => node_c (a := nodeS (leafS ([97])) (leafS ([98]))) (b := leafS ([99])) (by rw [nodeS_len]; decide) (by rw [leafS_len]; decide) ((M.sees hW).oldL L0) ((M.sees hW).oldR R0_0 L0)) ?_
  simp only [putT, List.set]
  refine wpV_binS (v := .bool true) (by rfl) rfl rfl rfl (fun W => (run_eql_bs _ _ _ W).trans (by rw [show decide (nodeS (nodeS (leafS ([97])) (leafS ([98]))) (leafS ([99])) = nodeS (nodeS (leafS ([97])) (leafS ([98]))) (leafS ([99]))) = true from (decide_eq_true rfl)])) ?_
  simp only [putT, List.set]
  refine wpV_pick (v := .bool true) (by rfl) rfl rfl rfl ?_
  simp only [putT, List.set]
  refine wpV_nil (hLk _ (fun w13 Sw13 => ?_))
  clear hLk Lk
  simp only [List.take, List.drop]
  replace M := M.sees Sw13
  refine wpL_assign (v := .bool true) (by rfl) (by rfl) (by rfl) ?_
  simp only [putT, List.set]
  refine wpL_nil (no_panic ?_)
  refine hK11 _ _ ?_
  refine wp_ret ?_
  repeat (first | with_reducible refine then_ret ?_ | with_reducible refine inblock_ret ?_)
  refine bodyPost_ret (v := .bool true) (res1 rfl (.tmp (by rfl))) rfl ?_
  have BE := M.below
  exact ⟨rfl, BE⟩
end Go.Proofs.Yb

