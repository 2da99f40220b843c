import Derived.WalkKit
import Derived.WalkSpells
import Derived.Laws.Pointers
import Derived.RowKit3
import Derived.Below
import Derived.Outline
import Derived.LoopN
import Derived.Lib.Hide
import Derived.Handy
import Derived.Laws.Bits64b
import Derived.Test.YticcchgckljlnaaDoorTr16
import Derived.Test.YticcchgckljlnaaDoorTrT
set_option linter.unusedSimpArgs false
set_option linter.unusedVariables false
namespace Go.Proofs.Yb
open Go Go.RowKit Go.Proofs.Num
attribute [local irreducible] wpV wpN wpList
theorem mul_half {w M m : Nat} (h : w * M ≤ m) : 2 * w * (M / 2) ≤ m := by
  refine Nat.le_trans ?_ h
  rw [Nat.mul_comm 2 w, Nat.mul_assoc]
  exact Nat.mul_le_mul_left w (by omega)
theorem wt_le {w M m : Nat} (h : w * M ≤ m) (ho : M % 2 = 1) (hm : m ≤ 4096) : 2 * w ≤ 8192 := by
  have : w * 1 ≤ w * M := Nat.mul_le_mul_left w (by omega)
  omega
theorem addP_go2 {k m q : Nat} {ps : List (List UInt8)} {u s0 : List UInt8} (hodd : k % 2 = 1) (h0 : 1 ≤ q) (hq : q ≤ ps.length) (hA : addP k (ps.take q) u = addP m ps s0) : addP (k / 2) (ps.take (q - 1)) (nodeS (ps.getD (q - 1) []) u) = addP m ps s0 := by
  have e : lastS (ps.take q) = ps.getD (q - 1) [] := by
    unfold lastS
    have hl : (ps.take q).length = q := by rw [List.length_take]; omega
    rw [hl, List.getD_eq_getElem?_getD, List.getElem?_take_of_lt (by omega), List.getD_eq_getElem?_getD]
  rw [← e]
  exact addP_go hodd hq hA
theorem take_snoc {ps : List (List UInt8)} {i : Nat} (h : i < ps.length) : scells (ps.take i) ++ [.string (bs (ps.getD i []))] = scells (ps.take (i + 1)) := by
  have e : ps.take (i + 1) = ps.take i ++ [ps.getD i []] := by
    rw [List.take_add_one, List.getD_eq_getElem?_getD, List.getElem?_eq_getElem h]
    rfl
  rw [e]
  exact scells_app _ [_]
theorem icells_app (a b : List Int) : icells (a ++ b) = icells a ++ icells b := by simp [icells]
theorem zI_snoc (Sz : List Nat) (k : Nat) : icells (zI Sz) ++ [.int .i64 ((k : Nat) : Int)] = icells (zI (Sz ++ [k])) := by
  rw [zI_app, icells_app]
  rfl
theorem szI_one (m : Nat) : icells (zI (szL m)) ++ [.int .i64 1] = icells (zI (szW 1 m)) := by
  rw [← szW_one, zI_app, icells_app]
  rfl
theorem szI_get {l : List Nat} {i : Nat} (h : i < l.length) : (icells (zI l))[i]? = some (.int .i64 ((l.getD i 0 : Nat) : Int)) := by
  rw [icells_get (l := zI l) (by rw [zI_len]; exact h), zI_get]
theorem szI_last (w : Nat) {M q : Nat} (hq : ones M = q) : (icells (zI (szW w M)))[q]? = some (.int .i64 ((w : Nat) : Int)) := by
  rw [szI_get (by rw [szW_len]; omega), szW_last w M hq]
theorem szI_merge {w M q : Nat} (hq : ones M = q) (hM : M % 2 = 1) : icells ((zI (szW w M)).take (q - 1)) ++ [.int .i64 ((2 * w : Nat) : Int)] = icells (zI (szW (2 * w) (M / 2))) := by
  rw [zI_take, zI_snoc, szW_take hq hM]
theorem pu_last {ps : List (List UInt8)} {q : Nat} {u : List UInt8} (hq : q ≤ ps.length) : (scells (ps.take q ++ [u]))[q]? = some (.string (bs u)) := by
  have hl : (ps.take q).length = q := by rw [List.length_take]; omega
  rw [scells_get (ps := ps.take q ++ [u]) (by rw [List.length_append, hl]; simp), List.getD_eq_getElem?_getD, List.getElem?_append_right (by omega), hl, Nat.sub_self]
  rfl
theorem pu_pre {ps : List (List UInt8)} {q : Nat} {u : List UInt8} (h0 : 1 ≤ q) (hq : q ≤ ps.length) : (scells (ps.take q ++ [u]))[q - 1]? = some (.string (bs (ps.getD (q - 1) []))) := by
  have hl : (ps.take q).length = q := by rw [List.length_take]; omega
  rw [scells_get (ps := ps.take q ++ [u]) (by rw [List.length_append, hl]; omega), List.getD_eq_getElem?_getD, List.getElem?_append_left (by omega), List.getElem?_take_of_lt (by omega), List.getD_eq_getElem?_getD]
theorem merge_snoc {ps : List (List UInt8)} {q : Nat} {u : List UInt8} (hq : q ≤ ps.length) (x : List UInt8) : scells ((ps.take q ++ [u]).take (q - 1)) ++ [.string (bs x)] = scells (ps.take (q - 1) ++ [x]) := by
  have hl : (ps.take q).length = q := by rw [List.length_take]; omega
  rw [List.take_append_of_le_length (by omega), List.take_take, Nat.min_eq_left (by omega)]
  exact scells_app _ [x]
set_option maxHeartbeats 4000000 in
theorem rAdd_c {ps : List (List UInt8)} {ap : Option Addr} {np cp : Nat} {m : Nat} {s0 : List UInt8} {w : World} (hm : m ≤ 4096) (hpl : ps.length = ones m) (hpq : ps.length ≤ 4096) (h32 : ∀ s ∈ ps, s.length = 32) (hs0 : s0.length = 32) (Hp : RowA w ap np cp (scells ps)) :
    Calls Tryd.prog 63 #[.agg [.int .i64 ((m : Nat) : Int), .slice ap np cp].toArray, .string (bs s0)] w fun e w' => ∃ v, e = .returned v ∧ ∃ g c, v = .agg [.int .i64 ((m + 1 : Nat) : Int), .slice (some ⟨g, 0, none⟩) (addP m ps s0).length c].toArray ∧ (addP m ps s0).length ≤ c ∧ Mem [] w w' [⟨g, c, [(0, scells (addP m ps s0))]⟩] := by
  obtain rfl : np = ps.length := by have := Hp.len; rwa [scells_len] at this
  go_enter Tryd.func63, Tryd.ntmps63
  have M := Mem.start w
  refine wp_seq_k (fun K1 hK1 => ?_)
  refine wp_region_seq ?_
  refine wpL_var (t := 66) (cs := [.int .i64 ((m : Nat) : Int), .slice ap ps.length cp]) (by rfl) (fun W => ?_) (fun g3 w4 Sw4 Hg3 Bg3 => ?_)
  · (first | rfl | go_simp)
  replace M := ((M.sees Sw4).add (N := 2) (cs := [.int .i64 ((m : Nat) : Int), .slice ap ps.length cp]) (M.ge Hg3) (M.fresh Hg3) Bg3 rfl)
  clear Bg3
  simp only [putT, List.set]
  refine wpL_var (t := 66) (cs := [.int .i64 0, .slice none 0 0]) (by rfl) (fun W => ?_) (fun g5 w6 Sw6 Hg5 Bg5 => ?_)
  · go_simp
  replace M := ((M.sees Sw6).add (N := 2) (cs := [.int .i64 0, .slice none 0 0]) (M.ge Hg5) (M.fresh Hg5) Bg5 rfl)
  clear Bg5
  simp only [putT, List.set]
  refine wpL_nil (no_panic ?_)
  refine hK1 _ _ ?_
  refine wp_seq_k (fun K7 hK7 => ?_)
  refine wp_region_seq ?_
  refine wpL_row0 (by rfl) (by rfl) Tryd.underlying48 info9 (fun g9 w10 Sw10 Hg9 Bg9 => ?_)
  replace M := ((M.sees Sw10).add (N := 0) (cs := scells []) (M.ge Hg9) (M.fresh Hg9) Bg9 rfl)
  clear Bg9
  simp only [putT, List.set]
  refine wpL_assign (v := .slice (some ⟨g9, 0, none⟩) 0 0) (by rfl) (by rfl) (by rfl) ?_
  simp only [putT, List.set]
  refine wpL_nil (no_panic ?_)
  refine hK7 _ _ ?_
  refine wp_seq_k (fun K11 hK11 => ?_)
  refine wp_region_seq ?_
  refine wpL_row0 (by rfl) (by rfl) Tryd.underlying47 info3 (fun g13 w14 Sw14 Hg13 Bg13 => ?_)
  replace M := ((M.sees Sw14).add (N := 0) (cs := icells []) (M.ge Hg13) (M.fresh Hg13) Bg13 rfl)
  clear Bg13
  simp only [putT, List.set]
  refine wpL_assign (v := .slice (some ⟨g13, 0, none⟩) 0 0) (by rfl) (by rfl) (by rfl) ?_
  simp only [putT, List.set]
  refine wpL_nil (no_panic ?_)
  refine hK11 _ _ ?_
  refine wp_seq_k (fun K15 hK15 => ?_)
  refine wp_region_seq ?_
  refine wpL_chunk 2 (by rfl) (fun Lk hLk => ?_)
  simp only [List.take, List.drop]
  refine wpV_val (v := .pointer (some ⟨g3, 0, none⟩)) (by rfl) (by rfl) (fun W hW => ?_) ?_
  · (go_simp; exact rfl)
  simp only [putT, List.set]
  refine wpV_load1 (v := .int .i64 ((m : Nat) : Int)) (by rfl) rfl rfl (range_one (range_sub (M.r 3 0 rfl rfl) 0 1 0 (xs := [.int .i64 ((m : Nat) : Int)]) rfl rfl)) (M.lt 3 rfl) Tryd.underlying3 rfl ?_
  simp only [putT, List.set]
  refine wpV_nil (hLk _ (fun w17 Sw17 => ?_))
  clear hLk Lk
  simp only [List.take, List.drop]
  replace M := M.sees Sw17
  refine wpL_assign (v := .int .i64 ((m : Nat) : Int)) (by rfl) (by rfl) (by rfl) ?_
  simp only [putT, List.set]
  refine wpL_nil (no_panic ?_)
  refine hK15 _ _ ?_
  refine wp_seq_k (fun K18 hK18 => ?_)
  refine wp_seq_k (fun K19 hK19 => ?_)
  refine wp_region_seq ?_
  refine wpL_chunk 3 (by rfl) (fun Lk hLk => ?_)
  simp only [List.take, List.drop]
  refine wpV_val (v := .pointer (some ⟨g3, 1, none⟩)) (by rfl) (by rfl) (fun W hW => ?_) ?_
  · (go_simp; exact rfl)
  simp only [putT, List.set]
  refine wpV_load1 (v := .slice ap ps.length cp) (by rfl) rfl rfl (range_one (range_sub (M.r 3 0 rfl rfl) 1 1 1 (xs := [.slice ap ps.length cp]) rfl rfl)) (M.lt 3 rfl) Tryd.underlying48 rfl ?_
  simp only [putT, List.set]
  refine wpV_lenA (n := ps.length) (by rfl) rfl rfl rfl Tryd.underlying48 ?_
  simp only [putT, List.set]
  refine wpV_nil (hLk _ (fun w21 Sw21 => ?_))
  clear hLk Lk
  simp only [List.take, List.drop]
  replace M := M.sees Sw21
  refine wpL_move (v := .int .i64 0) (by rfl) (by rfl) (by rfl) ?_
  simp only [putT, List.set]
  refine wpL_nil (no_panic ?_)
  refine hK19 _ _ ?_
  refine wp_block ?_
  refine wp_loop_ghost (fun n9 a9 W9 => ∃ (i : Nat) (r : Nat) (Sz : List Nat) (o : Nat) (oc : Nat) (z : Nat) (zc : Nat) (u22 : Nat → Value), n9 = 2 * (ps.length - i) ∧ a9 = { tmps := #[.agg ([.int .i64 ((m : Nat) : Int), .slice ap ps.length cp]).toArray, .string (bs s0), .pointer (some ⟨g3, 0, none⟩), undef, .pointer (some ⟨g5, 0, none⟩), .slice (some ⟨o, 0, none⟩) i oc, .slice (some ⟨z, 0, none⟩) i zc, .int .i64 ((r : Nat) : Int), undef, u22 9, u22 10, undef, undef, .slice (some ⟨g9, 0, none⟩) 0 0, .slice (some ⟨g13, 0, none⟩) 0 0, .pointer (some ⟨g3, 0, none⟩), .int .i64 ((m : Nat) : Int), .pointer (some ⟨g3, 1, none⟩), .slice ap ps.length cp, .int .i64 ((ps.length : Nat) : Int), .int .i64 ((i : Nat) : Int), u22 21, u22 22, u22 23, u22 24, u22 25, u22 26, u22 27, u22 28, u22 29, u22 30, u22 31, u22 32, u22 33, u22 34, u22 35, u22 36, u22 37, u22 38, u22 39, u22 40, u22 41, undef, undef, undef, undef, undef, undef, undef, undef, undef, undef, undef, undef, undef, undef, undef, undef, undef, undef, undef, undef, undef, undef, undef, undef, undef, undef, undef, undef, undef, undef, undef, undef, undef, undef, undef, undef, undef, undef, undef, undef, undef, undef, undef, undef, undef, undef, undef, undef, undef, undef, undef, undef, undef, undef, undef, undef, undef, undef, undef, undef, undef, undef, undef, undef, undef, undef], defers := [] } ∧ Mem [] w W9 [⟨g5, 2, [(0, [.int .i64 0, .slice none 0 0])]⟩, ⟨g3, 2, [(0, [.int .i64 ((m : Nat) : Int), .slice ap ps.length cp])]⟩, ⟨o, oc, [(0, scells (ps.take i))]⟩, ⟨z, zc, [(0, icells (zI Sz))]⟩] ∧ i ≤ oc ∧ i ≤ zc ∧ (i ≤ ps.length) ∧ (Sz ++ szL r = szL m) ∧ (Sz.length = i) ∧ (r ≤ m)) (2 * (ps.length - (0))) ?_ (fun n9 a9 W9 hI => ?_)
  · exact ⟨0, m, ([]), g9, 0, g13, 0, (fun q9 => (#[undef, undef, undef, undef, undef, undef, undef, undef, undef, undef, undef, undef, undef, undef, undef, undef, undef, undef, undef, undef, undef, undef, undef, undef, undef, undef, undef, undef, undef, undef, undef, undef, undef, undef, undef, undef, undef, undef, undef, undef, undef, undef] : Array Value).getD q9 undef), rfl, rfl, (M.pick [2, 3, 1, 0] (by decide) rfl), (Nat.le_refl _), (Nat.le_refl _), (Nat.zero_le _), rfl, rfl, (Nat.le_refl _)⟩
  clear M
  obtain ⟨i, r, Sz, o, oc, z, zc, u22, rfl, rfl, M, Co, Cz, hi, hS, hSl, hrm⟩ := hI
  obtain ⟨w23, rfl⟩ : ∃ W8, W8 = W9 := ⟨_, rfl⟩
  refine wp_seq_k (fun K24 hK24 => ?_)
  refine wp_region_seq ?_
  refine wpL_chunk 1 (by rfl) (fun Lk hLk => ?_)
  simp only [List.take, List.drop]
  refine wpV_bin (v := .bool (decide (i < ps.length))) (by rfl) rfl rfl rfl (fun W => run_lssN i ps.length _ _ W) ?_
  simp only [putT, List.set]
  refine wpV_nil (hLk _ (fun w26 Sw26 => ?_))
  clear hLk Lk
  simp only [List.take, List.drop]
  replace M := M.sees Sw26
  refine wpL_nil (no_panic ?_)
  refine hK24 _ _ ?_
  refine wp_seq_k (fun K27 hK27 => ?_)
  cases hc28 : (decide (i < ps.length))
  · skip
    obtain rfl : i = ps.length := by have := of_decide_eq_false hc28; omega
    obtain rfl : Sz = szL m := szL_end hS hSl hpl
    refine wp_cond_false rfl ?_
    refine wp_exit ?_
    refine hK18 _ _ ?_
    refine wp_seq_k (fun K29 hK29 => ?_)
    refine wp_region_seq ?_
    refine wpL_move (v := .slice (some ⟨o, 0, none⟩) ps.length oc) (by rfl) (by rfl) (by rfl) ?_
    simp only [putT, List.set]
    refine wpL_move (v := .string (bs s0)) (by rfl) (by rfl) (by rfl) ?_
    simp only [putT, List.set]
    refine wpL_rowN (vs := [.string (bs s0)]) (z := .string { data := #[] }) (bytes := 16) (by rfl) (by rfl) Tryd.underlying48 (by kernel_rfl) (by decide) (by kernel_rfl) (fun g31 w32 Sw32 Hg31 Bg31 => ?_)
    replace M := ((M.sees Sw32).add (N := 1) (cs := [.string (bs s0)]) (M.ge Hg31) (M.fresh Hg31) Bg31 rfl)
    clear Bg31
    simp only [putT, List.set]
    refine wpL_append (n := ps.length) (m := 1) (olds := scells (ps.take ps.length)) (news := [.string (bs s0)]) (z := .string { data := #[] }) (bytes := 16) (by rfl) (by rfl) (by rfl) (by rfl) Tryd.underlying48 (by kernel_rfl) rfl rfl (by rw [scells_len, List.length_take]; omega) rfl (M.r 3 0 rfl rfl) (M.t 3 rfl) (M.lt 3 rfl) (M.r 0 0 rfl rfl) (by intro u hu; rw [List.mem_singleton.1 hu]; rfl) (by omega) (by simp only [maxLen]; omega) (fun g33 g33c w34 Sw34 Q Cg33 R T L => ?_)
    replace M := M.grow 3 rfl Sw34 Q R T L
    simp only [List.set] at M
    clear Q R T L
    rw [show scells (ps.take ps.length) ++ [.string (bs s0)] = scells (ps.take ps.length ++ [s0]) from scells_app _ [s0]] at M
    simp only [putT, List.set]
    refine wpL_assign (v := .slice (some ⟨g33, 0, none⟩) (ps.length + 1) g33c) (by rfl) (by rfl) (by rfl) ?_
    simp only [putT, List.set]
    refine wpL_nil (no_panic ?_)
    refine hK29 _ _ ?_
    refine wp_seq_k (fun K35 hK35 => ?_)
    refine wp_region_seq ?_
    refine wpL_move (v := .slice (some ⟨z, 0, none⟩) ps.length zc) (by rfl) (by rfl) (by rfl) ?_
    simp only [putT, List.set]
    refine wpL_rowN (vs := [.int .i64 1]) (z := .int .i64 0) (bytes := 8) (by rfl) (by rfl) Tryd.underlying47 (by kernel_rfl) (by decide) (by kernel_rfl) (fun g37 w38 Sw38 Hg37 Bg37 => ?_)
    replace M := ((M.sees Sw38).add (N := 1) (cs := [.int .i64 1]) (M.ge Hg37) (M.fresh Hg37) Bg37 rfl)
    clear Bg37
    simp only [putT, List.set]
    refine wpL_append (n := ps.length) (m := 1) (olds := icells (zI (szL m))) (news := [.int .i64 1]) (z := .int .i64 0) (bytes := 8) (by rfl) (by rfl) (by rfl) (by rfl) Tryd.underlying47 (by kernel_rfl) rfl rfl (by rw [icells_len, zI_len, szL_len, hpl]) rfl (M.r 5 0 rfl rfl) (M.t 5 rfl) (M.lt 5 rfl) (M.r 0 0 rfl rfl) (by intro u hu; rw [List.mem_singleton.1 hu]; rfl) (by omega) (by simp only [maxLen]; omega) (fun g39 g39c w40 Sw40 Q Cg39 R T L => ?_)
    replace M := M.grow 5 rfl Sw40 Q R T L
    simp only [List.set] at M
    clear Q R T L
    rw [show icells (zI (szL m)) ++ [.int .i64 1] = icells (zI (szW 1 m)) from szI_one m] at M
    simp only [putT, List.set]
    refine wpL_assign (v := .slice (some ⟨g39, 0, none⟩) (ps.length + 1) g39c) (by rfl) (by rfl) (by rfl) ?_
    simp only [putT, List.set]
    refine wpL_nil (no_panic ?_)
    refine hK35 _ _ ?_
    refine wp_seq_k (fun K41 hK41 => ?_)
    refine wp_block ?_
    refine wp_loop_ghost (fun n9 a9 W9 => ∃ (q : Nat) (u : List UInt8) (M1 : Nat) (wt : Nat) (o3 : Nat) (o3c : Nat) (z3 : Nat) (z3c : Nat) (u42 : Nat → Value), n9 = 2 * q ∧ a9 = { tmps := #[.agg ([.int .i64 ((m : Nat) : Int), .slice ap ps.length cp]).toArray, .string (bs s0), .pointer (some ⟨g3, 0, none⟩), undef, .pointer (some ⟨g5, 0, none⟩), .slice (some ⟨o3, 0, none⟩) (q + 1) o3c, .slice (some ⟨z3, 0, none⟩) (q + 1) z3c, .int .i64 ((r : Nat) : Int), undef, u22 9, u22 10, u42 11, u42 12, .slice (some ⟨g9, 0, none⟩) 0 0, .slice (some ⟨g13, 0, none⟩) 0 0, .pointer (some ⟨g3, 0, none⟩), .int .i64 ((m : Nat) : Int), .pointer (some ⟨g3, 1, none⟩), .slice ap ps.length cp, .int .i64 ((ps.length : Nat) : Int), .int .i64 ((ps.length : Nat) : Int), .bool false, u22 22, u22 23, u22 24, u22 25, u22 26, u22 27, u22 28, u22 29, u22 30, u22 31, u22 32, u22 33, u22 34, u22 35, u22 36, u22 37, u22 38, u22 39, u22 40, u22 41, .slice (some ⟨o, 0, none⟩) ps.length oc, .string (bs s0), .slice (some ⟨g31, 0, none⟩) 1 1, .slice (some ⟨g33, 0, none⟩) (ps.length + 1) g33c, .slice (some ⟨z, 0, none⟩) ps.length zc, .slice (some ⟨g37, 0, none⟩) 1 1, .slice (some ⟨g39, 0, none⟩) (ps.length + 1) g39c, u42 49, u42 50, u42 51, u42 52, u42 53, u42 54, u42 55, u42 56, u42 57, u42 58, u42 59, u42 60, u42 61, u42 62, u42 63, u42 64, u42 65, u42 66, u42 67, u42 68, u42 69, u42 70, u42 71, u42 72, u42 73, u42 74, u42 75, u42 76, u42 77, u42 78, u42 79, u42 80, u42 81, u42 82, u42 83, u42 84, u42 85, u42 86, u42 87, u42 88, u42 89, u42 90, u42 91, u42 92, u42 93, u42 94, u42 95, u42 96, u42 97, u42 98, u42 99, u42 100, u42 101, u42 102, undef, undef, undef, undef, undef], defers := [] } ∧ Mem [] w W9 [⟨g37, 1, [(0, [.int .i64 1])]⟩, ⟨g31, 1, [(0, [.string (bs s0)])]⟩, ⟨g5, 2, [(0, [.int .i64 0, .slice none 0 0])]⟩, ⟨g3, 2, [(0, [.int .i64 ((m : Nat) : Int), .slice ap ps.length cp])]⟩, ⟨o3, o3c, [(0, scells (ps.take q ++ [u]))]⟩, ⟨z3, z3c, [(0, icells (zI (szW wt M1)))]⟩] ∧ q + 1 ≤ o3c ∧ q + 1 ≤ z3c ∧ (q ≤ ps.length) ∧ (ones M1 = q) ∧ (addP M1 (ps.take q) u = addP m ps s0) ∧ (0 < wt) ∧ (wt * M1 ≤ m) ∧ (wt ≤ 8192) ∧ (u.length = 32)) (2 * (ps.length)) ?_ (fun n9 a9 W9 hI => ?_)
    · exact ⟨ps.length, s0, m, 1, g33, g33c, g39, g39c, (fun q9 => (#[undef, undef, undef, undef, undef, undef, undef, undef, undef, undef, undef, undef, undef, undef, undef, undef, undef, undef, undef, undef, undef, undef, undef, undef, undef, undef, undef, undef, undef, undef, undef, undef, undef, undef, undef, undef, undef, undef, undef, undef, undef, undef, undef, undef, undef, undef, undef, undef, undef, undef, undef, undef, undef, undef, undef, undef, undef, undef, undef, undef, undef, undef, undef, undef, undef, undef, undef, undef, undef, undef, undef, undef, undef, undef, undef, undef, undef, undef, undef, undef, undef, undef, undef, undef, undef, undef, undef, undef, undef, undef, undef, undef, undef, undef, undef, undef, undef, undef, undef, undef, undef, undef, undef] : Array Value).getD q9 undef), rfl, rfl, M, Cg33, Cg39, (Nat.le_refl _), hpl.symm, (by rw [List.take_length]), Nat.one_pos, (by omega), (by decide), hs0⟩
    clear M
    obtain ⟨q, u, M1, wt, o3, o3c, z3, z3c, u42, rfl, rfl, M, Co3, Cz3, hq1, hM, hA, hw0, hwM, hw, hul⟩ := hI
    obtain ⟨w43, rfl⟩ : ∃ W8, W8 = W9 := ⟨_, rfl⟩
    refine wp_seq_k (fun K44 hK44 => ?_)
    refine wp_seq_k (fun K45 hK45 => ?_)
    cases hg46 : (decide (1 < q + 1))
    · skip
      have hend : q = 0 ∨ ¬ M1 % 2 = 1 := .inl (by have := of_decide_eq_false hg46; omega)
      refine wp_region_grow 18 [] (by kernel_rfl) (by kernel_rfl) (by kernel_rfl) (fun Lk hLk => ?_)
      simp only [List.take, List.drop]
      refine wpV_move (v := .slice (some ⟨o3, 0, none⟩) (q + 1) o3c) (by rfl) rfl rfl ?_
      simp only [putT, List.set]
      refine wpV_lenA (n := q + 1) (by rfl) rfl rfl rfl Tryd.underlying48 ?_
      simp only [putT, List.set]
      refine wpV_bin (v := .bool false) (by rfl) rfl rfl rfl (fun W => (run_gtrN (q + 1) 1 _ _ W).trans (by rw [hg46])) ?_
      simp only [putT, List.set]
      refine wpV_move (v := .bool false) (by rfl) rfl rfl ?_
      simp only [putT, List.set]
      refine wpV_skip (by rfl) (by rfl) ?_
      simp only [putT, List.set]
      refine wpV_skip (by rfl) (by rfl) ?_
      simp only [putT, List.set]
      refine wpV_skip (by rfl) (by rfl) ?_
      simp only [putT, List.set]
      refine wpV_skip (by rfl) (by rfl) ?_
      simp only [putT, List.set]
      refine wpV_skip (by rfl) (by rfl) ?_
      simp only [putT, List.set]
      refine wpV_skip (by rfl) (by rfl) ?_
      simp only [putT, List.set]
      refine wpV_skip (by rfl) (by rfl) ?_
      simp only [putT, List.set]
      refine wpV_skip (by rfl) (by rfl) ?_
      simp only [putT, List.set]
      refine wpV_skip (by rfl) (by rfl) ?_
      simp only [putT, List.set]
      refine wpV_skip (by rfl) (by rfl) ?_
      simp only [putT, List.set]
      refine wpV_skip (by rfl) (by rfl) ?_
      simp only [putT, List.set]
      refine wpV_skip (by rfl) (by rfl) ?_
      simp only [putT, List.set]
      refine wpV_skip (by rfl) (by rfl) ?_
      simp only [putT, List.set]
      refine wpV_pick (v := .bool false) (by rfl) rfl rfl rfl ?_
      simp only [putT, List.set]
      refine wpV_nil (hLk.out _ ?_)
      clear hLk Lk
      simp only [List.take, List.drop]
      iterate 18 refine wpN_skip (by rfl) ?_
      refine wpN_nil (fun w48 Sw48 hbs => ?_)
      clear hbs
      replace M := M.sees Sw48
      refine wpL_nil (no_panic ?_)
      refine hK45 _ _ ?_
      refine wp_cond_false rfl ?_
      refine wp_exit ?_
      refine hK41 _ _ ?_
      refine wp_seq_k (fun K49 hK49 => ?_)
      refine wp_region_seq ?_
      refine wpL_chunk 5 (by rfl) (fun Lk hLk => ?_)
      simp only [List.take, List.drop]
      refine wpV_val (v := .pointer (some ⟨g3, 0, none⟩)) (by rfl) (by rfl) (fun W hW => ?_) ?_
      · (go_simp; exact rfl)
      simp only [putT, List.set]
      refine wpV_load1 (v := .int .i64 ((m : Nat) : Int)) (by rfl) rfl rfl (range_one (range_sub (M.r 3 0 rfl rfl) 0 1 0 (xs := [.int .i64 ((m : Nat) : Int)]) rfl rfl)) (M.lt 3 rfl) Tryd.underlying3 rfl ?_
      simp only [putT, List.set]
      refine wpV_bin (v := .int .i64 ((m + 1 : Nat) : Int)) (by rfl) rfl rfl rfl (fun W => run_add (by simp only [IntKind.wrap_i64]; omega) W) ?_
      simp only [putT, List.set]
      refine wpV_move (v := .slice (some ⟨o3, 0, none⟩) (q + 1) o3c) (by rfl) rfl rfl ?_
      simp only [putT, List.set]
      refine wpV_val (v := .agg ([.int .i64 ((m + 1 : Nat) : Int), .slice (some ⟨o3, 0, none⟩) (q + 1) o3c]).toArray) (by rfl) (by rfl) (fun W hW => ?_) ?_
      · (unfold RunsVal; kernel_rfl)
      simp only [putT, List.set]
      refine wpV_nil (hLk _ (fun w51 Sw51 => ?_))
      clear hLk Lk
      simp only [List.take, List.drop]
      replace M := M.sees Sw51
      refine wpL_store (g := g5) (off := 0) (n := 2) (cs := [.int .i64 ((m + 1 : Nat) : Int), .slice (some ⟨o3, 0, none⟩) (q + 1) o3c]) (by rfl) (by rfl) (by rfl) (by rfl) (by rfl) (M.t 2 rfl) (by simp [flen]) info66 (by simp [fone, Value.oneCell']) (fun w52 P R T => ?_)
      replace M := M.putS 2 0 rfl P R T rfl ⟨.inl rfl, trivial⟩
      simp only [List.set] at M
      refine wpL_nil (no_panic ?_)
      refine hK49 _ _ ?_
      refine wp_ret ?_
      repeat (first | with_reducible refine then_ret ?_ | with_reducible refine inblock_ret ?_)
      refine bodyPost_ret (v := .agg ([.int .i64 ((m + 1 : Nat) : Int), .slice (some ⟨o3, 0, none⟩) (q + 1) o3c]).toArray) (res1 rfl (.cell (by rfl) (run_loadVar_mid _ _ _ _ ([.int .i64 ((m + 1 : Nat) : Int), .slice (some ⟨o3, 0, none⟩) (q + 1) o3c]) _ (M.r 2 0 rfl rfl) Tryd.underlying66 rfl info66))) rfl ?_
      have BE := M.below
      have eL : ps.take q ++ [u] = addP m ps s0 := (addP_end hend hM).symm.trans hA
      have eN : q + 1 = (addP m ps s0).length := by rw [← eL, List.length_append, List.length_take, Nat.min_eq_left hq1]; rfl
      rw [← eN, ← eL]
      exact ⟨_, rfl, o3, o3c, rfl, Co3, M.pick [4] (by decide) rfl⟩
    · skip
      have hq0 : 1 ≤ q := by have := of_decide_eq_true hg46; omega
      refine wp_region_grow 18 [] (by kernel_rfl) (by kernel_rfl) (by kernel_rfl) (fun Lk hLk => ?_)
      simp only [List.take, List.drop]
      refine wpV_move (v := .slice (some ⟨o3, 0, none⟩) (q + 1) o3c) (by rfl) rfl rfl ?_
      simp only [putT, List.set]
      refine wpV_lenA (n := q + 1) (by rfl) rfl rfl rfl Tryd.underlying48 ?_
      simp only [putT, List.set]
      refine wpV_bin (v := .bool true) (by rfl) rfl rfl rfl (fun W => (run_gtrN (q + 1) 1 _ _ W).trans (by rw [hg46])) ?_
      simp only [putT, List.set]
      refine wpV_move (v := .bool true) (by rfl) rfl rfl ?_
      simp only [putT, List.set]
      refine wpV_move (v := .slice (some ⟨z3, 0, none⟩) (q + 1) z3c) (by rfl) rfl rfl ?_
      simp only [putT, List.set]
      refine wpV_move (v := .slice (some ⟨z3, 0, none⟩) (q + 1) z3c) (by rfl) rfl rfl ?_
      simp only [putT, List.set]
      refine wpV_lenA (n := q + 1) (by rfl) rfl rfl rfl Tryd.underlying47 ?_
      simp only [putT, List.set]
      refine wpV_bin (v := .int .i64 ((q : Nat) : Int)) (by rfl) rfl rfl rfl (fun W => run_sub (by simp only [IntKind.wrap_i64]; omega) W) ?_
      simp only [putT, List.set]
      refine wpV_idxs (n := q) (by rfl) rfl rfl rfl Tryd.underlying47 info3 (by omega) ?_
      simp only [Nat.zero_add]
      simp only [putT, List.set]
      refine wpV_load1 (v := .int .i64 ((wt : Nat) : Int)) (by rfl) rfl rfl (zadd ((M.r 5 0 rfl rfl) _ _ (szI_last wt hM))) (M.lt 5 rfl) Tryd.underlying3 rfl ?_
      simp only [putT, List.set]
      refine wpV_move (v := .slice (some ⟨z3, 0, none⟩) (q + 1) z3c) (by rfl) rfl rfl ?_
      simp only [putT, List.set]
      refine wpV_move (v := .slice (some ⟨z3, 0, none⟩) (q + 1) z3c) (by rfl) rfl rfl ?_
      simp only [putT, List.set]
      refine wpV_lenA (n := q + 1) (by rfl) rfl rfl rfl Tryd.underlying47 ?_
      simp only [putT, List.set]
      refine wpV_bin (v := .int .i64 ((q - 1 : Nat) : Int)) (by rfl) rfl rfl rfl (fun W => run_sub (by simp only [IntKind.wrap_i64]; omega) W) ?_
      simp only [putT, List.set]
      refine wpV_idxs (n := q - 1) (by rfl) rfl rfl rfl Tryd.underlying47 info3 (by omega) ?_
      simp only [Nat.zero_add]
      simp only [putT, List.set]
      refine wpV_load1 (v := .int .i64 (((szW wt M1).getD (q - 1) 0 : Nat) : Int)) (by rfl) rfl rfl (zadd ((M.r 5 0 rfl rfl) _ _ (szI_get (by rw [szW_len]; omega)))) (M.lt 5 rfl) Tryd.underlying3 rfl ?_
      simp only [putT, List.set]
      refine wpV_bin (v := .bool (decide (wt = (szW wt M1).getD (q - 1) 0))) (by rfl) rfl rfl rfl (fun W => run_eqlN wt ((szW wt M1).getD (q - 1) 0) _ _ W) ?_
      simp only [putT, List.set]
      refine wpV_pick (v := .bool (decide (wt = (szW wt M1).getD (q - 1) 0))) (by rfl) rfl rfl rfl ?_
      simp only [putT, List.set]
      refine wpV_nil (hLk.out _ ?_)
      clear hLk Lk
      simp only [List.take, List.drop]
      iterate 18 refine wpN_skip (by rfl) ?_
      refine wpN_nil (fun w54 Sw54 hbs => ?_)
      clear hbs
      replace M := M.sees Sw54
      refine wpL_nil (no_panic ?_)
      refine hK45 _ _ ?_
      cases hc55 : (decide (wt = (szW wt M1).getD (q - 1) 0))
      · skip
        have hend : q = 0 ∨ ¬ M1 % 2 = 1 := .inr fun e9 => of_decide_eq_false hc55 ((szW_pre hw0 hM hq0).2 e9).symm
        refine wp_cond_false rfl ?_
        refine wp_exit ?_
        refine hK41 _ _ ?_
        refine wp_seq_k (fun K56 hK56 => ?_)
        refine wp_region_seq ?_
        refine wpL_chunk 5 (by rfl) (fun Lk hLk => ?_)
        simp only [List.take, List.drop]
        refine wpV_val (v := .pointer (some ⟨g3, 0, none⟩)) (by rfl) (by rfl) (fun W hW => ?_) ?_
        · (go_simp; exact rfl)
        simp only [putT, List.set]
        refine wpV_load1 (v := .int .i64 ((m : Nat) : Int)) (by rfl) rfl rfl (range_one (range_sub (M.r 3 0 rfl rfl) 0 1 0 (xs := [.int .i64 ((m : Nat) : Int)]) rfl rfl)) (M.lt 3 rfl) Tryd.underlying3 rfl ?_
        simp only [putT, List.set]
        refine wpV_bin (v := .int .i64 ((m + 1 : Nat) : Int)) (by rfl) rfl rfl rfl (fun W => run_add (by simp only [IntKind.wrap_i64]; omega) W) ?_
        simp only [putT, List.set]
        refine wpV_move (v := .slice (some ⟨o3, 0, none⟩) (q + 1) o3c) (by rfl) rfl rfl ?_
        simp only [putT, List.set]
        refine wpV_val (v := .agg ([.int .i64 ((m + 1 : Nat) : Int), .slice (some ⟨o3, 0, none⟩) (q + 1) o3c]).toArray) (by rfl) (by rfl) (fun W hW => ?_) ?_
        · (unfold RunsVal; kernel_rfl)
        simp only [putT, List.set]
        refine wpV_nil (hLk _ (fun w58 Sw58 => ?_))
        clear hLk Lk
        simp only [List.take, List.drop]
        replace M := M.sees Sw58
        refine wpL_store (g := g5) (off := 0) (n := 2) (cs := [.int .i64 ((m + 1 : Nat) : Int), .slice (some ⟨o3, 0, none⟩) (q + 1) o3c]) (by rfl) (by rfl) (by rfl) (by rfl) (by rfl) (M.t 2 rfl) (by simp [flen]) info66 (by simp [fone, Value.oneCell']) (fun w59 P R T => ?_)
        replace M := M.putS 2 0 rfl P R T rfl ⟨.inl rfl, trivial⟩
        simp only [List.set] at M
        refine wpL_nil (no_panic ?_)
        refine hK56 _ _ ?_
        refine wp_ret ?_
        repeat (first | with_reducible refine then_ret ?_ | with_reducible refine inblock_ret ?_)
        refine bodyPost_ret (v := .agg ([.int .i64 ((m + 1 : Nat) : Int), .slice (some ⟨o3, 0, none⟩) (q + 1) o3c]).toArray) (res1 rfl (.cell (by rfl) (run_loadVar_mid _ _ _ _ ([.int .i64 ((m + 1 : Nat) : Int), .slice (some ⟨o3, 0, none⟩) (q + 1) o3c]) _ (M.r 2 0 rfl rfl) Tryd.underlying66 rfl info66))) rfl ?_
        have BE := M.below
        have eL : ps.take q ++ [u] = addP m ps s0 := (addP_end hend hM).symm.trans hA
        have eN : q + 1 = (addP m ps s0).length := by rw [← eL, List.length_append, List.length_take, Nat.min_eq_left hq1]; rfl
        rw [← eN, ← eL]
        exact ⟨_, rfl, o3, o3c, rfl, Co3, M.pick [4] (by decide) rfl⟩
      · skip
        have hodd : M1 % 2 = 1 := (szW_pre hw0 hM hq0).1 (of_decide_eq_true hc55).symm
        refine wp_cond_true rfl ?_
        refine wp_skip ?_
        refine hK44 _ _ ?_
        refine wp_block ?_
        refine wp_seq_k (fun K60 hK60 => ?_)
        refine wp_region_seq ?_
        refine wpL_move (v := .slice (some ⟨o3, 0, none⟩) (q + 1) o3c) (by rfl) (by rfl) (by rfl) ?_
        simp only [putT, List.set]
        refine wpL_chunk 1 (by rfl) (fun Lk hLk => ?_)
        simp only [List.take, List.drop]
        refine wpV_lenA (n := q + 1) (by rfl) rfl rfl rfl Tryd.underlying48 ?_
        simp only [putT, List.set]
        refine wpV_nil (hLk _ (fun w62 Sw62 => ?_))
        clear hLk Lk
        simp only [List.take, List.drop]
        replace M := M.sees Sw62
        refine wpL_assign (v := .int .i64 ((q + 1 : Nat) : Int)) (by rfl) (by rfl) (by rfl) ?_
        simp only [putT, List.set]
        refine wpL_nil (no_panic ?_)
        refine hK60 _ _ ?_
        refine wp_seq_k (fun K63 hK63 => ?_)
        refine wp_region_grow 11 [] (by kernel_rfl) (by kernel_rfl) (by kernel_rfl) (fun Lk hLk => ?_)
        simp only [List.take, List.drop]
        refine wpV_move (v := .slice (some ⟨o3, 0, none⟩) (q + 1) o3c) (by rfl) rfl rfl ?_
        simp only [putT, List.set]
        refine wpV_move (v := .int .i64 ((q + 1 : Nat) : Int)) (by rfl) rfl rfl ?_
        simp only [putT, List.set]
        refine wpV_bin (v := .int .i64 ((q - 1 : Nat) : Int)) (by rfl) rfl rfl rfl (fun W => run_sub (by simp only [IntKind.wrap_i64]; omega) W) ?_
        simp only [putT, List.set]
        refine wpV_idxs (n := q - 1) (by rfl) rfl rfl rfl Tryd.underlying48 info9 (by omega) ?_
        simp only [Nat.zero_add]
        simp only [putT, List.set]
        refine wpV_load1 (v := .string (bs (ps.getD (q - 1) []))) (by rfl) rfl rfl (zadd ((M.r 4 0 rfl rfl) _ _ (pu_pre hq0 hq1))) (M.lt 4 rfl) Tryd.underlying9 rfl ?_
        simp only [putT, List.set]
        refine wpV_move (v := .slice (some ⟨o3, 0, none⟩) (q + 1) o3c) (by rfl) rfl rfl ?_
        simp only [putT, List.set]
        refine wpV_move (v := .int .i64 ((q + 1 : Nat) : Int)) (by rfl) rfl rfl ?_
        simp only [putT, List.set]
        refine wpV_bin (v := .int .i64 ((q : Nat) : Int)) (by rfl) rfl rfl rfl (fun W => run_sub (by simp only [IntKind.wrap_i64]; omega) W) ?_
        simp only [putT, List.set]
        refine wpV_idxs (n := q) (by rfl) rfl rfl rfl Tryd.underlying48 info9 (by omega) ?_
        simp only [Nat.zero_add]
        simp only [putT, List.set]
        refine wpV_load1 (v := .string (bs u)) (by rfl) rfl rfl (zadd ((M.r 4 0 rfl rfl) _ _ (pu_last hq1))) (M.lt 4 rfl) Tryd.underlying9 rfl ?_
        simp only [putT, List.set]
        refine wpV_callf (v := .string (bs (nodeS (ps.getD (q - 1) []) u))) (args := #[.string (bs (ps.getD (q - 1) [])), .string (bs u)]) (by rfl) rfl Tryd.func41 (by kernel_rfl) (by kernel_rfl) rfl (fun W hW => rnode_c (a := ps.getD (q - 1) []) (b := u) (by rw [getD_32 h32 (by omega)]; decide) (by rw [hul]; decide)) ?_
        simp only [putT, List.set]
        refine wpV_nil (hLk.out _ ?_)
        clear hLk Lk
        simp only [List.take, List.drop]
        iterate 11 refine wpN_skip (by rfl) ?_
        refine wpN_nil (fun w65 Sw65 hbs => ?_)
        clear hbs
        replace M := M.sees Sw65
        refine wpL_assign (v := .string (bs (nodeS (ps.getD (q - 1) []) u))) (by rfl) (by rfl) (by rfl) ?_
        simp only [putT, List.set]
        refine wpL_nil (no_panic ?_)
        refine hK63 _ _ ?_
        refine wp_seq_k (fun K66 hK66 => ?_)
        refine wp_region_seq ?_
        refine wpL_move (v := .slice (some ⟨o3, 0, none⟩) (q + 1) o3c) (by rfl) (by rfl) (by rfl) ?_
        simp only [putT, List.set]
        refine wpL_move (v := .int .i64 ((q + 1 : Nat) : Int)) (by rfl) (by rfl) (by rfl) ?_
        simp only [putT, List.set]
        refine wpL_chunk 4 (by rfl) (fun Lk hLk => ?_)
        simp only [List.take, List.drop]
        refine wpV_bin (v := .int .i64 ((q - 1 : Nat) : Int)) (by rfl) rfl rfl rfl (fun W => run_sub (by simp only [IntKind.wrap_i64]; omega) W) ?_
        simp only [putT, List.set]
        refine wpV_move (v := .int .i64 ((q + 1 : Nat) : Int)) (by rfl) rfl rfl ?_
        simp only [putT, List.set]
        refine wpV_bin (v := .int .i64 ((q - 1 : Nat) : Int)) (by rfl) rfl rfl rfl (fun W => run_sub (by simp only [IntKind.wrap_i64]; omega) W) ?_
        simp only [putT, List.set]
        refine wpV_slcHM (hi := q - 1) (m := q - 1) (by rfl) rfl rfl rfl rfl Tryd.underlying48 info9 (Nat.le_refl _) (Nat.le_trans (by omega) Co3) ?_
        simp only [putT, List.set]
        refine wpV_nil (hLk _ (fun w68 Sw68 => ?_))
        clear hLk Lk
        simp only [List.take, List.drop]
        replace M := M.sees Sw68
        refine wpL_move (v := .string (bs (nodeS (ps.getD (q - 1) []) u))) (by rfl) (by rfl) (by rfl) ?_
        simp only [putT, List.set]
        refine wpL_rowN (vs := [.string (bs (nodeS (ps.getD (q - 1) []) u))]) (z := .string { data := #[] }) (bytes := 16) (by rfl) (by rfl) Tryd.underlying48 (by kernel_rfl) (by decide) (by kernel_rfl) (fun g69 w70 Sw70 Hg69 Bg69 => ?_)
        replace M := ((M.sees Sw70).add (N := 1) (cs := [.string (bs (nodeS (ps.getD (q - 1) []) u))]) (M.ge Hg69) (M.fresh Hg69) Bg69 rfl)
        clear Bg69
        simp only [putT, List.set]
        refine wpL_appendFA (n := q - 1) (cap := q - 1) (m := 1) (olds := scells ((ps.take q ++ [u]).take (q - 1))) (news := [.string (bs (nodeS (ps.getD (q - 1) []) u))]) (z := .string { data := #[] }) (bytes := 16) (by rfl) (by rfl) (by rfl) (by rfl) Tryd.underlying48 (by kernel_rfl) rfl (((RowA.of (M.r 5 0 rfl rfl) (M.lt 5 rfl) (by rw [scells_len, List.length_append, List.length_take, Nat.min_eq_left hq1]; rfl) Co3).takeM (by omega) (Nat.le_refl _) (Nat.le_trans (by omega) Co3)).eq (scells_take2 _ _)) rfl (by omega) (by omega) (M.r 0 0 rfl rfl) (by omega) (by simp only [maxLen]; omega) (fun g71 g71c w72 Sw72 Hg71 Cg71 R T L => ?_)
        replace M := (M.sees Sw72).addR (M.ge Hg71) (M.fresh Hg71) T R L
        clear T R L
        rw [show scells ((ps.take q ++ [u]).take (q - 1)) ++ [.string (bs (nodeS (ps.getD (q - 1) []) u))] = scells (ps.take (q - 1) ++ [nodeS (ps.getD (q - 1) []) u]) from merge_snoc hq1 _] at M
        simp only [putT, List.set]
        refine wpL_assign (v := .slice (some ⟨g71, 0, none⟩) ((q - 1) + 1) g71c) (by rfl) (by rfl) (by rfl) ?_
        simp only [putT, List.set]
        refine wpL_nil (no_panic ?_)
        refine hK66 _ _ ?_
        refine wp_region_addsF 14 [] [12, 13] [ValRel (.slice (some ⟨z3, 0, none⟩) (q + 1) z3c), ValRel (.int .i64 ((q + 1 : Nat) : Int)), ValRel (.int .i64 ((q - 1 : Nat) : Int)), ValRel (.int .i64 ((q + 1 : Nat) : Int)), ValRel (.int .i64 ((q - 1 : Nat) : Int)), ValRel (.slice (some ⟨z3, 0, none⟩) (q - 1) (q - 1)), ValRel (.slice (some ⟨z3, 0, none⟩) (q + 1) z3c), ValRel (.int .i64 ((q + 1 : Nat) : Int)), ValRel (.int .i64 ((q : Nat) : Int)), ValRel (.pointer (some ⟨z3, q, none⟩)), ValRel (.int .i64 ((wt : Nat) : Int)), ValRel (.int .i64 ((2 * wt : Nat) : Int)), BoxRel w72 (fun gA => .slice (some ⟨gA, 0, none⟩) 1 1) 1 [(0, [.int .i64 ((2 * wt : Nat) : Int)])], NewRel w72 (fun gA gAc => .slice (some ⟨gA, 0, none⟩) ((q - 1) + 1) gAc) ((q - 1) + 1) [(0, icells (zI (szW (2 * wt) (M1 / 2))))]] [[], [], [1], [], [3], [0, 2, 4], [], [], [7], [6, 8], [9], [10], [11], [5, 12]] (fun vs => { tmps := #[.agg ([.int .i64 ((m : Nat) : Int), .slice ap ps.length cp]).toArray, .string (bs s0), .pointer (some ⟨g3, 0, none⟩), undef, .pointer (some ⟨g5, 0, none⟩), .slice (some ⟨g71, 0, none⟩) ((q - 1) + 1) g71c, .slice (some ⟨z3, 0, none⟩) (q + 1) z3c, .int .i64 ((r : Nat) : Int), undef, u22 9, u22 10, .int .i64 ((q + 1 : Nat) : Int), .string (bs (nodeS (ps.getD (q - 1) []) u)), .slice (some ⟨g9, 0, none⟩) 0 0, .slice (some ⟨g13, 0, none⟩) 0 0, .pointer (some ⟨g3, 0, none⟩), .int .i64 ((m : Nat) : Int), .pointer (some ⟨g3, 1, none⟩), .slice ap ps.length cp, .int .i64 ((ps.length : Nat) : Int), .int .i64 ((ps.length : Nat) : Int), .bool false, u22 22, u22 23, u22 24, u22 25, u22 26, u22 27, u22 28, u22 29, u22 30, u22 31, u22 32, u22 33, u22 34, u22 35, u22 36, u22 37, u22 38, u22 39, u22 40, u22 41, .slice (some ⟨o, 0, none⟩) ps.length oc, .string (bs s0), .slice (some ⟨g31, 0, none⟩) 1 1, .slice (some ⟨g33, 0, none⟩) (ps.length + 1) g33c, .slice (some ⟨z, 0, none⟩) ps.length zc, .slice (some ⟨g37, 0, none⟩) 1 1, .slice (some ⟨g39, 0, none⟩) (ps.length + 1) g39c, .slice (some ⟨o3, 0, none⟩) (q + 1) o3c, .int .i64 ((q + 1 : Nat) : Int), .bool true, .bool true, .slice (some ⟨z3, 0, none⟩) (q + 1) z3c, .slice (some ⟨z3, 0, none⟩) (q + 1) z3c, .int .i64 ((q + 1 : Nat) : Int), .int .i64 ((q : Nat) : Int), .pointer (some ⟨z3, q, none⟩), .int .i64 ((wt : Nat) : Int), .slice (some ⟨z3, 0, none⟩) (q + 1) z3c, .slice (some ⟨z3, 0, none⟩) (q + 1) z3c, .int .i64 ((q + 1 : Nat) : Int), .int .i64 ((q - 1 : Nat) : Int), .pointer (some ⟨z3, q - 1, none⟩), .int .i64 (((szW wt M1).getD (q - 1) 0 : Nat) : Int), .bool true, .bool true, .slice (some ⟨o3, 0, none⟩) (q + 1) o3c, .int .i64 ((q + 1 : Nat) : Int), .slice (some ⟨o3, 0, none⟩) (q + 1) o3c, .int .i64 ((q + 1 : Nat) : Int), .int .i64 ((q - 1 : Nat) : Int), .pointer (some ⟨o3, q - 1, none⟩), .string (bs (ps.getD (q - 1) [])), .slice (some ⟨o3, 0, none⟩) (q + 1) o3c, .int .i64 ((q + 1 : Nat) : Int), .int .i64 ((q : Nat) : Int), .pointer (some ⟨o3, q, none⟩), .string (bs u), .string (bs (nodeS (ps.getD (q - 1) []) u)), .slice (some ⟨o3, 0, none⟩) (q + 1) o3c, .int .i64 ((q + 1 : Nat) : Int), .int .i64 ((q - 1 : Nat) : Int), .int .i64 ((q + 1 : Nat) : Int), .int .i64 ((q - 1 : Nat) : Int), .slice (some ⟨o3, 0, none⟩) (q - 1) (q - 1), .string (bs (nodeS (ps.getD (q - 1) []) u)), .slice (some ⟨g69, 0, none⟩) 1 1, .slice (some ⟨g71, 0, none⟩) ((q - 1) + 1) g71c, vs 0, vs 1, vs 2, vs 3, vs 4, vs 5, vs 6, vs 7, vs 8, vs 9, vs 10, vs 11, vs 12, vs 13, undef, undef, undef, undef, undef], defers := [] }) (by kernel_rfl) (by kernel_rfl) (by kernel_rfl) (by kernel_rfl) (.cons keep_val (.cons keep_val (.cons keep_val (.cons keep_val (.cons keep_val (.cons keep_val (.cons keep_val (.cons keep_val (.cons keep_val (.cons keep_val (.cons keep_val (.cons keep_val (.cons keep_box (.cons keep_new AllKeep.nil)))))))))))))) (.free free_val (.free free_val (.free free_val (.free free_val (.free free_val (.free free_val (.free free_val (.free free_val (.free free_val (.free free_val (.free free_val (.free free_val (.free free_box (.free free_new AllLoc.nil)))))))))))))) (.cons own_box (.cons own_new AllOwn.nil)) (by kernel_rfl) ?_ ?_
        · skip
          simp only [List.take]
          refine RulesL.cons (fun vs => { tmps := #[.agg ([.int .i64 ((m : Nat) : Int), .slice ap ps.length cp]).toArray, .string (bs s0), .pointer (some ⟨g3, 0, none⟩), undef, .pointer (some ⟨g5, 0, none⟩), .slice (some ⟨g71, 0, none⟩) ((q - 1) + 1) g71c, .slice (some ⟨z3, 0, none⟩) (q + 1) z3c, .int .i64 ((r : Nat) : Int), undef, u22 9, u22 10, .int .i64 ((q + 1 : Nat) : Int), .string (bs (nodeS (ps.getD (q - 1) []) u)), .slice (some ⟨g9, 0, none⟩) 0 0, .slice (some ⟨g13, 0, none⟩) 0 0, .pointer (some ⟨g3, 0, none⟩), .int .i64 ((m : Nat) : Int), .pointer (some ⟨g3, 1, none⟩), .slice ap ps.length cp, .int .i64 ((ps.length : Nat) : Int), .int .i64 ((ps.length : Nat) : Int), .bool false, u22 22, u22 23, u22 24, u22 25, u22 26, u22 27, u22 28, u22 29, u22 30, u22 31, u22 32, u22 33, u22 34, u22 35, u22 36, u22 37, u22 38, u22 39, u22 40, u22 41, .slice (some ⟨o, 0, none⟩) ps.length oc, .string (bs s0), .slice (some ⟨g31, 0, none⟩) 1 1, .slice (some ⟨g33, 0, none⟩) (ps.length + 1) g33c, .slice (some ⟨z, 0, none⟩) ps.length zc, .slice (some ⟨g37, 0, none⟩) 1 1, .slice (some ⟨g39, 0, none⟩) (ps.length + 1) g39c, .slice (some ⟨o3, 0, none⟩) (q + 1) o3c, .int .i64 ((q + 1 : Nat) : Int), .bool true, .bool true, .slice (some ⟨z3, 0, none⟩) (q + 1) z3c, .slice (some ⟨z3, 0, none⟩) (q + 1) z3c, .int .i64 ((q + 1 : Nat) : Int), .int .i64 ((q : Nat) : Int), .pointer (some ⟨z3, q, none⟩), .int .i64 ((wt : Nat) : Int), .slice (some ⟨z3, 0, none⟩) (q + 1) z3c, .slice (some ⟨z3, 0, none⟩) (q + 1) z3c, .int .i64 ((q + 1 : Nat) : Int), .int .i64 ((q - 1 : Nat) : Int), .pointer (some ⟨z3, q - 1, none⟩), .int .i64 (((szW wt M1).getD (q - 1) 0 : Nat) : Int), .bool true, .bool true, .slice (some ⟨o3, 0, none⟩) (q + 1) o3c, .int .i64 ((q + 1 : Nat) : Int), .slice (some ⟨o3, 0, none⟩) (q + 1) o3c, .int .i64 ((q + 1 : Nat) : Int), .int .i64 ((q - 1 : Nat) : Int), .pointer (some ⟨o3, q - 1, none⟩), .string (bs (ps.getD (q - 1) [])), .slice (some ⟨o3, 0, none⟩) (q + 1) o3c, .int .i64 ((q + 1 : Nat) : Int), .int .i64 ((q : Nat) : Int), .pointer (some ⟨o3, q, none⟩), .string (bs u), .string (bs (nodeS (ps.getD (q - 1) []) u)), .slice (some ⟨o3, 0, none⟩) (q + 1) o3c, .int .i64 ((q + 1 : Nat) : Int), .int .i64 ((q - 1 : Nat) : Int), .int .i64 ((q + 1 : Nat) : Int), .int .i64 ((q - 1 : Nat) : Int), .slice (some ⟨o3, 0, none⟩) (q - 1) (q - 1), .string (bs (nodeS (ps.getD (q - 1) []) u)), .slice (some ⟨g69, 0, none⟩) 1 1, .slice (some ⟨g71, 0, none⟩) ((q - 1) + 1) g71c, u42 89, u42 90, u42 91, u42 92, u42 93, u42 94, u42 95, u42 96, u42 97, u42 98, u42 99, u42 100, u42 101, u42 102, undef, undef, undef, undef, undef], defers := [] }) (by kernel_rfl) ?_ ?_
          · skip
            intro vs gs W74 SW74 D K9 hK9
            replace M := M.sees SW74
            dsimp only at hK9
            dsimp only
            refine wpL_move (v := .slice (some ⟨z3, 0, none⟩) (q + 1) z3c) (by rfl) (by rfl) (by rfl) ?_
            simp only [putT, List.set]
            refine wpL_nil (then_normal ?_)
            have h8 := hK9 (.slice (some ⟨z3, 0, none⟩) (q + 1) z3c)
            have h9 := h8 0 _ (sees_refl _) rfl (fun h => absurd h (by decide))
            simp only [putT, List.set] at h9
            exact h9
          refine RulesL.cons (fun vs => { tmps := #[.agg ([.int .i64 ((m : Nat) : Int), .slice ap ps.length cp]).toArray, .string (bs s0), .pointer (some ⟨g3, 0, none⟩), undef, .pointer (some ⟨g5, 0, none⟩), .slice (some ⟨g71, 0, none⟩) ((q - 1) + 1) g71c, .slice (some ⟨z3, 0, none⟩) (q + 1) z3c, .int .i64 ((r : Nat) : Int), undef, u22 9, u22 10, .int .i64 ((q + 1 : Nat) : Int), .string (bs (nodeS (ps.getD (q - 1) []) u)), .slice (some ⟨g9, 0, none⟩) 0 0, .slice (some ⟨g13, 0, none⟩) 0 0, .pointer (some ⟨g3, 0, none⟩), .int .i64 ((m : Nat) : Int), .pointer (some ⟨g3, 1, none⟩), .slice ap ps.length cp, .int .i64 ((ps.length : Nat) : Int), .int .i64 ((ps.length : Nat) : Int), .bool false, u22 22, u22 23, u22 24, u22 25, u22 26, u22 27, u22 28, u22 29, u22 30, u22 31, u22 32, u22 33, u22 34, u22 35, u22 36, u22 37, u22 38, u22 39, u22 40, u22 41, .slice (some ⟨o, 0, none⟩) ps.length oc, .string (bs s0), .slice (some ⟨g31, 0, none⟩) 1 1, .slice (some ⟨g33, 0, none⟩) (ps.length + 1) g33c, .slice (some ⟨z, 0, none⟩) ps.length zc, .slice (some ⟨g37, 0, none⟩) 1 1, .slice (some ⟨g39, 0, none⟩) (ps.length + 1) g39c, .slice (some ⟨o3, 0, none⟩) (q + 1) o3c, .int .i64 ((q + 1 : Nat) : Int), .bool true, .bool true, .slice (some ⟨z3, 0, none⟩) (q + 1) z3c, .slice (some ⟨z3, 0, none⟩) (q + 1) z3c, .int .i64 ((q + 1 : Nat) : Int), .int .i64 ((q : Nat) : Int), .pointer (some ⟨z3, q, none⟩), .int .i64 ((wt : Nat) : Int), .slice (some ⟨z3, 0, none⟩) (q + 1) z3c, .slice (some ⟨z3, 0, none⟩) (q + 1) z3c, .int .i64 ((q + 1 : Nat) : Int), .int .i64 ((q - 1 : Nat) : Int), .pointer (some ⟨z3, q - 1, none⟩), .int .i64 (((szW wt M1).getD (q - 1) 0 : Nat) : Int), .bool true, .bool true, .slice (some ⟨o3, 0, none⟩) (q + 1) o3c, .int .i64 ((q + 1 : Nat) : Int), .slice (some ⟨o3, 0, none⟩) (q + 1) o3c, .int .i64 ((q + 1 : Nat) : Int), .int .i64 ((q - 1 : Nat) : Int), .pointer (some ⟨o3, q - 1, none⟩), .string (bs (ps.getD (q - 1) [])), .slice (some ⟨o3, 0, none⟩) (q + 1) o3c, .int .i64 ((q + 1 : Nat) : Int), .int .i64 ((q : Nat) : Int), .pointer (some ⟨o3, q, none⟩), .string (bs u), .string (bs (nodeS (ps.getD (q - 1) []) u)), .slice (some ⟨o3, 0, none⟩) (q + 1) o3c, .int .i64 ((q + 1 : Nat) : Int), .int .i64 ((q - 1 : Nat) : Int), .int .i64 ((q + 1 : Nat) : Int), .int .i64 ((q - 1 : Nat) : Int), .slice (some ⟨o3, 0, none⟩) (q - 1) (q - 1), .string (bs (nodeS (ps.getD (q - 1) []) u)), .slice (some ⟨g69, 0, none⟩) 1 1, .slice (some ⟨g71, 0, none⟩) ((q - 1) + 1) g71c, u42 89, u42 90, u42 91, u42 92, u42 93, u42 94, u42 95, u42 96, u42 97, u42 98, u42 99, u42 100, u42 101, u42 102, undef, undef, undef, undef, undef], defers := [] }) (by kernel_rfl) ?_ ?_
          · skip
            intro vs gs W75 SW75 D K9 hK9
            replace M := M.sees SW75
            dsimp only at hK9
            dsimp only
            refine wpL_move (v := .int .i64 ((q + 1 : Nat) : Int)) (by rfl) (by rfl) (by rfl) ?_
            simp only [putT, List.set]
            refine wpL_nil (then_normal ?_)
            have h8 := hK9 (.int .i64 ((q + 1 : Nat) : Int))
            have h9 := h8 0 _ (sees_refl _) rfl (fun h => absurd h (by decide))
            simp only [putT, List.set] at h9
            exact h9
          refine RulesL.cons (fun vs => { tmps := #[.agg ([.int .i64 ((m : Nat) : Int), .slice ap ps.length cp]).toArray, .string (bs s0), .pointer (some ⟨g3, 0, none⟩), undef, .pointer (some ⟨g5, 0, none⟩), .slice (some ⟨g71, 0, none⟩) ((q - 1) + 1) g71c, .slice (some ⟨z3, 0, none⟩) (q + 1) z3c, .int .i64 ((r : Nat) : Int), undef, u22 9, u22 10, .int .i64 ((q + 1 : Nat) : Int), .string (bs (nodeS (ps.getD (q - 1) []) u)), .slice (some ⟨g9, 0, none⟩) 0 0, .slice (some ⟨g13, 0, none⟩) 0 0, .pointer (some ⟨g3, 0, none⟩), .int .i64 ((m : Nat) : Int), .pointer (some ⟨g3, 1, none⟩), .slice ap ps.length cp, .int .i64 ((ps.length : Nat) : Int), .int .i64 ((ps.length : Nat) : Int), .bool false, u22 22, u22 23, u22 24, u22 25, u22 26, u22 27, u22 28, u22 29, u22 30, u22 31, u22 32, u22 33, u22 34, u22 35, u22 36, u22 37, u22 38, u22 39, u22 40, u22 41, .slice (some ⟨o, 0, none⟩) ps.length oc, .string (bs s0), .slice (some ⟨g31, 0, none⟩) 1 1, .slice (some ⟨g33, 0, none⟩) (ps.length + 1) g33c, .slice (some ⟨z, 0, none⟩) ps.length zc, .slice (some ⟨g37, 0, none⟩) 1 1, .slice (some ⟨g39, 0, none⟩) (ps.length + 1) g39c, .slice (some ⟨o3, 0, none⟩) (q + 1) o3c, .int .i64 ((q + 1 : Nat) : Int), .bool true, .bool true, .slice (some ⟨z3, 0, none⟩) (q + 1) z3c, .slice (some ⟨z3, 0, none⟩) (q + 1) z3c, .int .i64 ((q + 1 : Nat) : Int), .int .i64 ((q : Nat) : Int), .pointer (some ⟨z3, q, none⟩), .int .i64 ((wt : Nat) : Int), .slice (some ⟨z3, 0, none⟩) (q + 1) z3c, .slice (some ⟨z3, 0, none⟩) (q + 1) z3c, .int .i64 ((q + 1 : Nat) : Int), .int .i64 ((q - 1 : Nat) : Int), .pointer (some ⟨z3, q - 1, none⟩), .int .i64 (((szW wt M1).getD (q - 1) 0 : Nat) : Int), .bool true, .bool true, .slice (some ⟨o3, 0, none⟩) (q + 1) o3c, .int .i64 ((q + 1 : Nat) : Int), .slice (some ⟨o3, 0, none⟩) (q + 1) o3c, .int .i64 ((q + 1 : Nat) : Int), .int .i64 ((q - 1 : Nat) : Int), .pointer (some ⟨o3, q - 1, none⟩), .string (bs (ps.getD (q - 1) [])), .slice (some ⟨o3, 0, none⟩) (q + 1) o3c, .int .i64 ((q + 1 : Nat) : Int), .int .i64 ((q : Nat) : Int), .pointer (some ⟨o3, q, none⟩), .string (bs u), .string (bs (nodeS (ps.getD (q - 1) []) u)), .slice (some ⟨o3, 0, none⟩) (q + 1) o3c, .int .i64 ((q + 1 : Nat) : Int), .int .i64 ((q - 1 : Nat) : Int), .int .i64 ((q + 1 : Nat) : Int), .int .i64 ((q - 1 : Nat) : Int), .slice (some ⟨o3, 0, none⟩) (q - 1) (q - 1), .string (bs (nodeS (ps.getD (q - 1) []) u)), .slice (some ⟨g69, 0, none⟩) 1 1, .slice (some ⟨g71, 0, none⟩) ((q - 1) + 1) g71c, u42 89, vs 1, u42 91, u42 92, u42 93, u42 94, u42 95, u42 96, u42 97, u42 98, u42 99, u42 100, u42 101, u42 102, undef, undef, undef, undef, undef], defers := [] }) (by kernel_rfl) ?_ ?_
          · skip
            intro vs gs W76 SW76 D K9 hK9
            replace M := M.sees SW76
            obtain ⟨D1, _⟩ := D
            have e1 : vs 1 = .int .i64 ((q + 1 : Nat) : Int) := D1
            dsimp only at hK9
            dsimp only
            rw [e1] at hK9 ⊢
            refine wpL_chunk 1 (by rfl) (fun Lk hLk => ?_)
            simp only [List.take, List.drop]
            refine wpV_bin (v := .int .i64 ((q - 1 : Nat) : Int)) (by rfl) rfl rfl rfl (fun W => run_sub (by simp only [IntKind.wrap_i64]; omega) W) ?_
            simp only [putT, List.set]
            refine wpV_nil (hLk _ (fun w77 Sw77 => ?_))
            clear hLk Lk
            simp only [List.take, List.drop]
            replace M := M.sees Sw77
            refine wpL_nil (then_normal ?_)
            have h8 := hK9 (.int .i64 ((q - 1 : Nat) : Int))
            have h9 := h8 0 _ Sw77 rfl (fun h => absurd h (by decide))
            simp only [putT, List.set] at h9
            exact h9
          refine RulesL.cons (fun vs => { tmps := #[.agg ([.int .i64 ((m : Nat) : Int), .slice ap ps.length cp]).toArray, .string (bs s0), .pointer (some ⟨g3, 0, none⟩), undef, .pointer (some ⟨g5, 0, none⟩), .slice (some ⟨g71, 0, none⟩) ((q - 1) + 1) g71c, .slice (some ⟨z3, 0, none⟩) (q + 1) z3c, .int .i64 ((r : Nat) : Int), undef, u22 9, u22 10, .int .i64 ((q + 1 : Nat) : Int), .string (bs (nodeS (ps.getD (q - 1) []) u)), .slice (some ⟨g9, 0, none⟩) 0 0, .slice (some ⟨g13, 0, none⟩) 0 0, .pointer (some ⟨g3, 0, none⟩), .int .i64 ((m : Nat) : Int), .pointer (some ⟨g3, 1, none⟩), .slice ap ps.length cp, .int .i64 ((ps.length : Nat) : Int), .int .i64 ((ps.length : Nat) : Int), .bool false, u22 22, u22 23, u22 24, u22 25, u22 26, u22 27, u22 28, u22 29, u22 30, u22 31, u22 32, u22 33, u22 34, u22 35, u22 36, u22 37, u22 38, u22 39, u22 40, u22 41, .slice (some ⟨o, 0, none⟩) ps.length oc, .string (bs s0), .slice (some ⟨g31, 0, none⟩) 1 1, .slice (some ⟨g33, 0, none⟩) (ps.length + 1) g33c, .slice (some ⟨z, 0, none⟩) ps.length zc, .slice (some ⟨g37, 0, none⟩) 1 1, .slice (some ⟨g39, 0, none⟩) (ps.length + 1) g39c, .slice (some ⟨o3, 0, none⟩) (q + 1) o3c, .int .i64 ((q + 1 : Nat) : Int), .bool true, .bool true, .slice (some ⟨z3, 0, none⟩) (q + 1) z3c, .slice (some ⟨z3, 0, none⟩) (q + 1) z3c, .int .i64 ((q + 1 : Nat) : Int), .int .i64 ((q : Nat) : Int), .pointer (some ⟨z3, q, none⟩), .int .i64 ((wt : Nat) : Int), .slice (some ⟨z3, 0, none⟩) (q + 1) z3c, .slice (some ⟨z3, 0, none⟩) (q + 1) z3c, .int .i64 ((q + 1 : Nat) : Int), .int .i64 ((q - 1 : Nat) : Int), .pointer (some ⟨z3, q - 1, none⟩), .int .i64 (((szW wt M1).getD (q - 1) 0 : Nat) : Int), .bool true, .bool true, .slice (some ⟨o3, 0, none⟩) (q + 1) o3c, .int .i64 ((q + 1 : Nat) : Int), .slice (some ⟨o3, 0, none⟩) (q + 1) o3c, .int .i64 ((q + 1 : Nat) : Int), .int .i64 ((q - 1 : Nat) : Int), .pointer (some ⟨o3, q - 1, none⟩), .string (bs (ps.getD (q - 1) [])), .slice (some ⟨o3, 0, none⟩) (q + 1) o3c, .int .i64 ((q + 1 : Nat) : Int), .int .i64 ((q : Nat) : Int), .pointer (some ⟨o3, q, none⟩), .string (bs u), .string (bs (nodeS (ps.getD (q - 1) []) u)), .slice (some ⟨o3, 0, none⟩) (q + 1) o3c, .int .i64 ((q + 1 : Nat) : Int), .int .i64 ((q - 1 : Nat) : Int), .int .i64 ((q + 1 : Nat) : Int), .int .i64 ((q - 1 : Nat) : Int), .slice (some ⟨o3, 0, none⟩) (q - 1) (q - 1), .string (bs (nodeS (ps.getD (q - 1) []) u)), .slice (some ⟨g69, 0, none⟩) 1 1, .slice (some ⟨g71, 0, none⟩) ((q - 1) + 1) g71c, u42 89, u42 90, u42 91, u42 92, u42 93, u42 94, u42 95, u42 96, u42 97, u42 98, u42 99, u42 100, u42 101, u42 102, undef, undef, undef, undef, undef], defers := [] }) (by kernel_rfl) ?_ ?_
          · skip
            intro vs gs W78 SW78 D K9 hK9
            replace M := M.sees SW78
            dsimp only at hK9
            dsimp only
            refine wpL_move (v := .int .i64 ((q + 1 : Nat) : Int)) (by rfl) (by rfl) (by rfl) ?_
            simp only [putT, List.set]
            refine wpL_nil (then_normal ?_)
            have h8 := hK9 (.int .i64 ((q + 1 : Nat) : Int))
            have h9 := h8 0 _ (sees_refl _) rfl (fun h => absurd h (by decide))
            simp only [putT, List.set] at h9
            exact h9
          refine RulesL.cons (fun vs => { tmps := #[.agg ([.int .i64 ((m : Nat) : Int), .slice ap ps.length cp]).toArray, .string (bs s0), .pointer (some ⟨g3, 0, none⟩), undef, .pointer (some ⟨g5, 0, none⟩), .slice (some ⟨g71, 0, none⟩) ((q - 1) + 1) g71c, .slice (some ⟨z3, 0, none⟩) (q + 1) z3c, .int .i64 ((r : Nat) : Int), undef, u22 9, u22 10, .int .i64 ((q + 1 : Nat) : Int), .string (bs (nodeS (ps.getD (q - 1) []) u)), .slice (some ⟨g9, 0, none⟩) 0 0, .slice (some ⟨g13, 0, none⟩) 0 0, .pointer (some ⟨g3, 0, none⟩), .int .i64 ((m : Nat) : Int), .pointer (some ⟨g3, 1, none⟩), .slice ap ps.length cp, .int .i64 ((ps.length : Nat) : Int), .int .i64 ((ps.length : Nat) : Int), .bool false, u22 22, u22 23, u22 24, u22 25, u22 26, u22 27, u22 28, u22 29, u22 30, u22 31, u22 32, u22 33, u22 34, u22 35, u22 36, u22 37, u22 38, u22 39, u22 40, u22 41, .slice (some ⟨o, 0, none⟩) ps.length oc, .string (bs s0), .slice (some ⟨g31, 0, none⟩) 1 1, .slice (some ⟨g33, 0, none⟩) (ps.length + 1) g33c, .slice (some ⟨z, 0, none⟩) ps.length zc, .slice (some ⟨g37, 0, none⟩) 1 1, .slice (some ⟨g39, 0, none⟩) (ps.length + 1) g39c, .slice (some ⟨o3, 0, none⟩) (q + 1) o3c, .int .i64 ((q + 1 : Nat) : Int), .bool true, .bool true, .slice (some ⟨z3, 0, none⟩) (q + 1) z3c, .slice (some ⟨z3, 0, none⟩) (q + 1) z3c, .int .i64 ((q + 1 : Nat) : Int), .int .i64 ((q : Nat) : Int), .pointer (some ⟨z3, q, none⟩), .int .i64 ((wt : Nat) : Int), .slice (some ⟨z3, 0, none⟩) (q + 1) z3c, .slice (some ⟨z3, 0, none⟩) (q + 1) z3c, .int .i64 ((q + 1 : Nat) : Int), .int .i64 ((q - 1 : Nat) : Int), .pointer (some ⟨z3, q - 1, none⟩), .int .i64 (((szW wt M1).getD (q - 1) 0 : Nat) : Int), .bool true, .bool true, .slice (some ⟨o3, 0, none⟩) (q + 1) o3c, .int .i64 ((q + 1 : Nat) : Int), .slice (some ⟨o3, 0, none⟩) (q + 1) o3c, .int .i64 ((q + 1 : Nat) : Int), .int .i64 ((q - 1 : Nat) : Int), .pointer (some ⟨o3, q - 1, none⟩), .string (bs (ps.getD (q - 1) [])), .slice (some ⟨o3, 0, none⟩) (q + 1) o3c, .int .i64 ((q + 1 : Nat) : Int), .int .i64 ((q : Nat) : Int), .pointer (some ⟨o3, q, none⟩), .string (bs u), .string (bs (nodeS (ps.getD (q - 1) []) u)), .slice (some ⟨o3, 0, none⟩) (q + 1) o3c, .int .i64 ((q + 1 : Nat) : Int), .int .i64 ((q - 1 : Nat) : Int), .int .i64 ((q + 1 : Nat) : Int), .int .i64 ((q - 1 : Nat) : Int), .slice (some ⟨o3, 0, none⟩) (q - 1) (q - 1), .string (bs (nodeS (ps.getD (q - 1) []) u)), .slice (some ⟨g69, 0, none⟩) 1 1, .slice (some ⟨g71, 0, none⟩) ((q - 1) + 1) g71c, u42 89, u42 90, u42 91, vs 3, u42 93, u42 94, u42 95, u42 96, u42 97, u42 98, u42 99, u42 100, u42 101, u42 102, undef, undef, undef, undef, undef], defers := [] }) (by kernel_rfl) ?_ ?_
          · skip
            intro vs gs W79 SW79 D K9 hK9
            replace M := M.sees SW79
            obtain ⟨D3, _⟩ := D
            have e3 : vs 3 = .int .i64 ((q + 1 : Nat) : Int) := D3
            dsimp only at hK9
            dsimp only
            rw [e3] at hK9 ⊢
            refine wpL_chunk 1 (by rfl) (fun Lk hLk => ?_)
            simp only [List.take, List.drop]
            refine wpV_bin (v := .int .i64 ((q - 1 : Nat) : Int)) (by rfl) rfl rfl rfl (fun W => run_sub (by simp only [IntKind.wrap_i64]; omega) W) ?_
            simp only [putT, List.set]
            refine wpV_nil (hLk _ (fun w80 Sw80 => ?_))
            clear hLk Lk
            simp only [List.take, List.drop]
            replace M := M.sees Sw80
            refine wpL_nil (then_normal ?_)
            have h8 := hK9 (.int .i64 ((q - 1 : Nat) : Int))
            have h9 := h8 0 _ Sw80 rfl (fun h => absurd h (by decide))
            simp only [putT, List.set] at h9
            exact h9
          refine RulesL.cons (fun vs => { tmps := #[.agg ([.int .i64 ((m : Nat) : Int), .slice ap ps.length cp]).toArray, .string (bs s0), .pointer (some ⟨g3, 0, none⟩), undef, .pointer (some ⟨g5, 0, none⟩), .slice (some ⟨g71, 0, none⟩) ((q - 1) + 1) g71c, .slice (some ⟨z3, 0, none⟩) (q + 1) z3c, .int .i64 ((r : Nat) : Int), undef, u22 9, u22 10, .int .i64 ((q + 1 : Nat) : Int), .string (bs (nodeS (ps.getD (q - 1) []) u)), .slice (some ⟨g9, 0, none⟩) 0 0, .slice (some ⟨g13, 0, none⟩) 0 0, .pointer (some ⟨g3, 0, none⟩), .int .i64 ((m : Nat) : Int), .pointer (some ⟨g3, 1, none⟩), .slice ap ps.length cp, .int .i64 ((ps.length : Nat) : Int), .int .i64 ((ps.length : Nat) : Int), .bool false, u22 22, u22 23, u22 24, u22 25, u22 26, u22 27, u22 28, u22 29, u22 30, u22 31, u22 32, u22 33, u22 34, u22 35, u22 36, u22 37, u22 38, u22 39, u22 40, u22 41, .slice (some ⟨o, 0, none⟩) ps.length oc, .string (bs s0), .slice (some ⟨g31, 0, none⟩) 1 1, .slice (some ⟨g33, 0, none⟩) (ps.length + 1) g33c, .slice (some ⟨z, 0, none⟩) ps.length zc, .slice (some ⟨g37, 0, none⟩) 1 1, .slice (some ⟨g39, 0, none⟩) (ps.length + 1) g39c, .slice (some ⟨o3, 0, none⟩) (q + 1) o3c, .int .i64 ((q + 1 : Nat) : Int), .bool true, .bool true, .slice (some ⟨z3, 0, none⟩) (q + 1) z3c, .slice (some ⟨z3, 0, none⟩) (q + 1) z3c, .int .i64 ((q + 1 : Nat) : Int), .int .i64 ((q : Nat) : Int), .pointer (some ⟨z3, q, none⟩), .int .i64 ((wt : Nat) : Int), .slice (some ⟨z3, 0, none⟩) (q + 1) z3c, .slice (some ⟨z3, 0, none⟩) (q + 1) z3c, .int .i64 ((q + 1 : Nat) : Int), .int .i64 ((q - 1 : Nat) : Int), .pointer (some ⟨z3, q - 1, none⟩), .int .i64 (((szW wt M1).getD (q - 1) 0 : Nat) : Int), .bool true, .bool true, .slice (some ⟨o3, 0, none⟩) (q + 1) o3c, .int .i64 ((q + 1 : Nat) : Int), .slice (some ⟨o3, 0, none⟩) (q + 1) o3c, .int .i64 ((q + 1 : Nat) : Int), .int .i64 ((q - 1 : Nat) : Int), .pointer (some ⟨o3, q - 1, none⟩), .string (bs (ps.getD (q - 1) [])), .slice (some ⟨o3, 0, none⟩) (q + 1) o3c, .int .i64 ((q + 1 : Nat) : Int), .int .i64 ((q : Nat) : Int), .pointer (some ⟨o3, q, none⟩), .string (bs u), .string (bs (nodeS (ps.getD (q - 1) []) u)), .slice (some ⟨o3, 0, none⟩) (q + 1) o3c, .int .i64 ((q + 1 : Nat) : Int), .int .i64 ((q - 1 : Nat) : Int), .int .i64 ((q + 1 : Nat) : Int), .int .i64 ((q - 1 : Nat) : Int), .slice (some ⟨o3, 0, none⟩) (q - 1) (q - 1), .string (bs (nodeS (ps.getD (q - 1) []) u)), .slice (some ⟨g69, 0, none⟩) 1 1, .slice (some ⟨g71, 0, none⟩) ((q - 1) + 1) g71c, vs 0, u42 90, vs 2, u42 92, vs 4, u42 94, u42 95, u42 96, u42 97, u42 98, u42 99, u42 100, u42 101, u42 102, undef, undef, undef, undef, undef], defers := [] }) (by kernel_rfl) ?_ ?_
          · skip
            intro vs gs W81 SW81 D K9 hK9
            replace M := M.sees SW81
            obtain ⟨D0, D2, D4, _⟩ := D
            have e0 : vs 0 = .slice (some ⟨z3, 0, none⟩) (q + 1) z3c := D0
            have e2 : vs 2 = .int .i64 ((q - 1 : Nat) : Int) := D2
            have e4 : vs 4 = .int .i64 ((q - 1 : Nat) : Int) := D4
            dsimp only at hK9
            dsimp only
            rw [e0, e2, e4] at hK9 ⊢
            refine wpL_chunk 1 (by rfl) (fun Lk hLk => ?_)
            simp only [List.take, List.drop]
            refine wpV_slcHM (hi := q - 1) (m := q - 1) (by rfl) rfl rfl rfl rfl Tryd.underlying47 info3 (Nat.le_refl _) (Nat.le_trans (by omega) Cz3) ?_
            simp only [putT, List.set]
            refine wpV_nil (hLk _ (fun w82 Sw82 => ?_))
            clear hLk Lk
            simp only [List.take, List.drop]
            replace M := M.sees Sw82
            refine wpL_nil (then_normal ?_)
            have h8 := hK9 (.slice (some ⟨z3, 0, none⟩) (q - 1) (q - 1))
            have h9 := h8 0 _ Sw82 rfl (fun h => absurd h (by decide))
            simp only [putT, List.set] at h9
            exact h9
          refine RulesL.cons (fun vs => { tmps := #[.agg ([.int .i64 ((m : Nat) : Int), .slice ap ps.length cp]).toArray, .string (bs s0), .pointer (some ⟨g3, 0, none⟩), undef, .pointer (some ⟨g5, 0, none⟩), .slice (some ⟨g71, 0, none⟩) ((q - 1) + 1) g71c, .slice (some ⟨z3, 0, none⟩) (q + 1) z3c, .int .i64 ((r : Nat) : Int), undef, u22 9, u22 10, .int .i64 ((q + 1 : Nat) : Int), .string (bs (nodeS (ps.getD (q - 1) []) u)), .slice (some ⟨g9, 0, none⟩) 0 0, .slice (some ⟨g13, 0, none⟩) 0 0, .pointer (some ⟨g3, 0, none⟩), .int .i64 ((m : Nat) : Int), .pointer (some ⟨g3, 1, none⟩), .slice ap ps.length cp, .int .i64 ((ps.length : Nat) : Int), .int .i64 ((ps.length : Nat) : Int), .bool false, u22 22, u22 23, u22 24, u22 25, u22 26, u22 27, u22 28, u22 29, u22 30, u22 31, u22 32, u22 33, u22 34, u22 35, u22 36, u22 37, u22 38, u22 39, u22 40, u22 41, .slice (some ⟨o, 0, none⟩) ps.length oc, .string (bs s0), .slice (some ⟨g31, 0, none⟩) 1 1, .slice (some ⟨g33, 0, none⟩) (ps.length + 1) g33c, .slice (some ⟨z, 0, none⟩) ps.length zc, .slice (some ⟨g37, 0, none⟩) 1 1, .slice (some ⟨g39, 0, none⟩) (ps.length + 1) g39c, .slice (some ⟨o3, 0, none⟩) (q + 1) o3c, .int .i64 ((q + 1 : Nat) : Int), .bool true, .bool true, .slice (some ⟨z3, 0, none⟩) (q + 1) z3c, .slice (some ⟨z3, 0, none⟩) (q + 1) z3c, .int .i64 ((q + 1 : Nat) : Int), .int .i64 ((q : Nat) : Int), .pointer (some ⟨z3, q, none⟩), .int .i64 ((wt : Nat) : Int), .slice (some ⟨z3, 0, none⟩) (q + 1) z3c, .slice (some ⟨z3, 0, none⟩) (q + 1) z3c, .int .i64 ((q + 1 : Nat) : Int), .int .i64 ((q - 1 : Nat) : Int), .pointer (some ⟨z3, q - 1, none⟩), .int .i64 (((szW wt M1).getD (q - 1) 0 : Nat) : Int), .bool true, .bool true, .slice (some ⟨o3, 0, none⟩) (q + 1) o3c, .int .i64 ((q + 1 : Nat) : Int), .slice (some ⟨o3, 0, none⟩) (q + 1) o3c, .int .i64 ((q + 1 : Nat) : Int), .int .i64 ((q - 1 : Nat) : Int), .pointer (some ⟨o3, q - 1, none⟩), .string (bs (ps.getD (q - 1) [])), .slice (some ⟨o3, 0, none⟩) (q + 1) o3c, .int .i64 ((q + 1 : Nat) : Int), .int .i64 ((q : Nat) : Int), .pointer (some ⟨o3, q, none⟩), .string (bs u), .string (bs (nodeS (ps.getD (q - 1) []) u)), .slice (some ⟨o3, 0, none⟩) (q + 1) o3c, .int .i64 ((q + 1 : Nat) : Int), .int .i64 ((q - 1 : Nat) : Int), .int .i64 ((q + 1 : Nat) : Int), .int .i64 ((q - 1 : Nat) : Int), .slice (some ⟨o3, 0, none⟩) (q - 1) (q - 1), .string (bs (nodeS (ps.getD (q - 1) []) u)), .slice (some ⟨g69, 0, none⟩) 1 1, .slice (some ⟨g71, 0, none⟩) ((q - 1) + 1) g71c, u42 89, u42 90, u42 91, u42 92, u42 93, u42 94, u42 95, u42 96, u42 97, u42 98, u42 99, u42 100, u42 101, u42 102, undef, undef, undef, undef, undef], defers := [] }) (by kernel_rfl) ?_ ?_
          · skip
            intro vs gs W83 SW83 D K9 hK9
            replace M := M.sees SW83
            dsimp only at hK9
            dsimp only
            refine wpL_move (v := .slice (some ⟨z3, 0, none⟩) (q + 1) z3c) (by rfl) (by rfl) (by rfl) ?_
            simp only [putT, List.set]
            refine wpL_nil (then_normal ?_)
            have h8 := hK9 (.slice (some ⟨z3, 0, none⟩) (q + 1) z3c)
            have h9 := h8 0 _ (sees_refl _) rfl (fun h => absurd h (by decide))
            simp only [putT, List.set] at h9
            exact h9
          refine RulesL.cons (fun vs => { tmps := #[.agg ([.int .i64 ((m : Nat) : Int), .slice ap ps.length cp]).toArray, .string (bs s0), .pointer (some ⟨g3, 0, none⟩), undef, .pointer (some ⟨g5, 0, none⟩), .slice (some ⟨g71, 0, none⟩) ((q - 1) + 1) g71c, .slice (some ⟨z3, 0, none⟩) (q + 1) z3c, .int .i64 ((r : Nat) : Int), undef, u22 9, u22 10, .int .i64 ((q + 1 : Nat) : Int), .string (bs (nodeS (ps.getD (q - 1) []) u)), .slice (some ⟨g9, 0, none⟩) 0 0, .slice (some ⟨g13, 0, none⟩) 0 0, .pointer (some ⟨g3, 0, none⟩), .int .i64 ((m : Nat) : Int), .pointer (some ⟨g3, 1, none⟩), .slice ap ps.length cp, .int .i64 ((ps.length : Nat) : Int), .int .i64 ((ps.length : Nat) : Int), .bool false, u22 22, u22 23, u22 24, u22 25, u22 26, u22 27, u22 28, u22 29, u22 30, u22 31, u22 32, u22 33, u22 34, u22 35, u22 36, u22 37, u22 38, u22 39, u22 40, u22 41, .slice (some ⟨o, 0, none⟩) ps.length oc, .string (bs s0), .slice (some ⟨g31, 0, none⟩) 1 1, .slice (some ⟨g33, 0, none⟩) (ps.length + 1) g33c, .slice (some ⟨z, 0, none⟩) ps.length zc, .slice (some ⟨g37, 0, none⟩) 1 1, .slice (some ⟨g39, 0, none⟩) (ps.length + 1) g39c, .slice (some ⟨o3, 0, none⟩) (q + 1) o3c, .int .i64 ((q + 1 : Nat) : Int), .bool true, .bool true, .slice (some ⟨z3, 0, none⟩) (q + 1) z3c, .slice (some ⟨z3, 0, none⟩) (q + 1) z3c, .int .i64 ((q + 1 : Nat) : Int), .int .i64 ((q : Nat) : Int), .pointer (some ⟨z3, q, none⟩), .int .i64 ((wt : Nat) : Int), .slice (some ⟨z3, 0, none⟩) (q + 1) z3c, .slice (some ⟨z3, 0, none⟩) (q + 1) z3c, .int .i64 ((q + 1 : Nat) : Int), .int .i64 ((q - 1 : Nat) : Int), .pointer (some ⟨z3, q - 1, none⟩), .int .i64 (((szW wt M1).getD (q - 1) 0 : Nat) : Int), .bool true, .bool true, .slice (some ⟨o3, 0, none⟩) (q + 1) o3c, .int .i64 ((q + 1 : Nat) : Int), .slice (some ⟨o3, 0, none⟩) (q + 1) o3c, .int .i64 ((q + 1 : Nat) : Int), .int .i64 ((q - 1 : Nat) : Int), .pointer (some ⟨o3, q - 1, none⟩), .string (bs (ps.getD (q - 1) [])), .slice (some ⟨o3, 0, none⟩) (q + 1) o3c, .int .i64 ((q + 1 : Nat) : Int), .int .i64 ((q : Nat) : Int), .pointer (some ⟨o3, q, none⟩), .string (bs u), .string (bs (nodeS (ps.getD (q - 1) []) u)), .slice (some ⟨o3, 0, none⟩) (q + 1) o3c, .int .i64 ((q + 1 : Nat) : Int), .int .i64 ((q - 1 : Nat) : Int), .int .i64 ((q + 1 : Nat) : Int), .int .i64 ((q - 1 : Nat) : Int), .slice (some ⟨o3, 0, none⟩) (q - 1) (q - 1), .string (bs (nodeS (ps.getD (q - 1) []) u)), .slice (some ⟨g69, 0, none⟩) 1 1, .slice (some ⟨g71, 0, none⟩) ((q - 1) + 1) g71c, u42 89, u42 90, u42 91, u42 92, u42 93, u42 94, u42 95, u42 96, u42 97, u42 98, u42 99, u42 100, u42 101, u42 102, undef, undef, undef, undef, undef], defers := [] }) (by kernel_rfl) ?_ ?_
          · skip
            intro vs gs W84 SW84 D K9 hK9
            replace M := M.sees SW84
            dsimp only at hK9
            dsimp only
            refine wpL_move (v := .int .i64 ((q + 1 : Nat) : Int)) (by rfl) (by rfl) (by rfl) ?_
            simp only [putT, List.set]
            refine wpL_nil (then_normal ?_)
            have h8 := hK9 (.int .i64 ((q + 1 : Nat) : Int))
            have h9 := h8 0 _ (sees_refl _) rfl (fun h => absurd h (by decide))
            simp only [putT, List.set] at h9
            exact h9
          refine RulesL.cons (fun vs => { tmps := #[.agg ([.int .i64 ((m : Nat) : Int), .slice ap ps.length cp]).toArray, .string (bs s0), .pointer (some ⟨g3, 0, none⟩), undef, .pointer (some ⟨g5, 0, none⟩), .slice (some ⟨g71, 0, none⟩) ((q - 1) + 1) g71c, .slice (some ⟨z3, 0, none⟩) (q + 1) z3c, .int .i64 ((r : Nat) : Int), undef, u22 9, u22 10, .int .i64 ((q + 1 : Nat) : Int), .string (bs (nodeS (ps.getD (q - 1) []) u)), .slice (some ⟨g9, 0, none⟩) 0 0, .slice (some ⟨g13, 0, none⟩) 0 0, .pointer (some ⟨g3, 0, none⟩), .int .i64 ((m : Nat) : Int), .pointer (some ⟨g3, 1, none⟩), .slice ap ps.length cp, .int .i64 ((ps.length : Nat) : Int), .int .i64 ((ps.length : Nat) : Int), .bool false, u22 22, u22 23, u22 24, u22 25, u22 26, u22 27, u22 28, u22 29, u22 30, u22 31, u22 32, u22 33, u22 34, u22 35, u22 36, u22 37, u22 38, u22 39, u22 40, u22 41, .slice (some ⟨o, 0, none⟩) ps.length oc, .string (bs s0), .slice (some ⟨g31, 0, none⟩) 1 1, .slice (some ⟨g33, 0, none⟩) (ps.length + 1) g33c, .slice (some ⟨z, 0, none⟩) ps.length zc, .slice (some ⟨g37, 0, none⟩) 1 1, .slice (some ⟨g39, 0, none⟩) (ps.length + 1) g39c, .slice (some ⟨o3, 0, none⟩) (q + 1) o3c, .int .i64 ((q + 1 : Nat) : Int), .bool true, .bool true, .slice (some ⟨z3, 0, none⟩) (q + 1) z3c, .slice (some ⟨z3, 0, none⟩) (q + 1) z3c, .int .i64 ((q + 1 : Nat) : Int), .int .i64 ((q : Nat) : Int), .pointer (some ⟨z3, q, none⟩), .int .i64 ((wt : Nat) : Int), .slice (some ⟨z3, 0, none⟩) (q + 1) z3c, .slice (some ⟨z3, 0, none⟩) (q + 1) z3c, .int .i64 ((q + 1 : Nat) : Int), .int .i64 ((q - 1 : Nat) : Int), .pointer (some ⟨z3, q - 1, none⟩), .int .i64 (((szW wt M1).getD (q - 1) 0 : Nat) : Int), .bool true, .bool true, .slice (some ⟨o3, 0, none⟩) (q + 1) o3c, .int .i64 ((q + 1 : Nat) : Int), .slice (some ⟨o3, 0, none⟩) (q + 1) o3c, .int .i64 ((q + 1 : Nat) : Int), .int .i64 ((q - 1 : Nat) : Int), .pointer (some ⟨o3, q - 1, none⟩), .string (bs (ps.getD (q - 1) [])), .slice (some ⟨o3, 0, none⟩) (q + 1) o3c, .int .i64 ((q + 1 : Nat) : Int), .int .i64 ((q : Nat) : Int), .pointer (some ⟨o3, q, none⟩), .string (bs u), .string (bs (nodeS (ps.getD (q - 1) []) u)), .slice (some ⟨o3, 0, none⟩) (q + 1) o3c, .int .i64 ((q + 1 : Nat) : Int), .int .i64 ((q - 1 : Nat) : Int), .int .i64 ((q + 1 : Nat) : Int), .int .i64 ((q - 1 : Nat) : Int), .slice (some ⟨o3, 0, none⟩) (q - 1) (q - 1), .string (bs (nodeS (ps.getD (q - 1) []) u)), .slice (some ⟨g69, 0, none⟩) 1 1, .slice (some ⟨g71, 0, none⟩) ((q - 1) + 1) g71c, u42 89, u42 90, u42 91, u42 92, u42 93, u42 94, u42 95, vs 7, u42 97, u42 98, u42 99, u42 100, u42 101, u42 102, undef, undef, undef, undef, undef], defers := [] }) (by kernel_rfl) ?_ ?_
          · skip
            intro vs gs W85 SW85 D K9 hK9
            replace M := M.sees SW85
            obtain ⟨D7, _⟩ := D
            have e7 : vs 7 = .int .i64 ((q + 1 : Nat) : Int) := D7
            dsimp only at hK9
            dsimp only
            rw [e7] at hK9 ⊢
            refine wpL_chunk 1 (by rfl) (fun Lk hLk => ?_)
            simp only [List.take, List.drop]
            refine wpV_bin (v := .int .i64 ((q : Nat) : Int)) (by rfl) rfl rfl rfl (fun W => run_sub (by simp only [IntKind.wrap_i64]; omega) W) ?_
            simp only [putT, List.set]
            refine wpV_nil (hLk _ (fun w86 Sw86 => ?_))
            clear hLk Lk
            simp only [List.take, List.drop]
            replace M := M.sees Sw86
            refine wpL_nil (then_normal ?_)
            have h8 := hK9 (.int .i64 ((q : Nat) : Int))
            have h9 := h8 0 _ Sw86 rfl (fun h => absurd h (by decide))
            simp only [putT, List.set] at h9
            exact h9
          refine RulesL.cons (fun vs => { tmps := #[.agg ([.int .i64 ((m : Nat) : Int), .slice ap ps.length cp]).toArray, .string (bs s0), .pointer (some ⟨g3, 0, none⟩), undef, .pointer (some ⟨g5, 0, none⟩), .slice (some ⟨g71, 0, none⟩) ((q - 1) + 1) g71c, .slice (some ⟨z3, 0, none⟩) (q + 1) z3c, .int .i64 ((r : Nat) : Int), undef, u22 9, u22 10, .int .i64 ((q + 1 : Nat) : Int), .string (bs (nodeS (ps.getD (q - 1) []) u)), .slice (some ⟨g9, 0, none⟩) 0 0, .slice (some ⟨g13, 0, none⟩) 0 0, .pointer (some ⟨g3, 0, none⟩), .int .i64 ((m : Nat) : Int), .pointer (some ⟨g3, 1, none⟩), .slice ap ps.length cp, .int .i64 ((ps.length : Nat) : Int), .int .i64 ((ps.length : Nat) : Int), .bool false, u22 22, u22 23, u22 24, u22 25, u22 26, u22 27, u22 28, u22 29, u22 30, u22 31, u22 32, u22 33, u22 34, u22 35, u22 36, u22 37, u22 38, u22 39, u22 40, u22 41, .slice (some ⟨o, 0, none⟩) ps.length oc, .string (bs s0), .slice (some ⟨g31, 0, none⟩) 1 1, .slice (some ⟨g33, 0, none⟩) (ps.length + 1) g33c, .slice (some ⟨z, 0, none⟩) ps.length zc, .slice (some ⟨g37, 0, none⟩) 1 1, .slice (some ⟨g39, 0, none⟩) (ps.length + 1) g39c, .slice (some ⟨o3, 0, none⟩) (q + 1) o3c, .int .i64 ((q + 1 : Nat) : Int), .bool true, .bool true, .slice (some ⟨z3, 0, none⟩) (q + 1) z3c, .slice (some ⟨z3, 0, none⟩) (q + 1) z3c, .int .i64 ((q + 1 : Nat) : Int), .int .i64 ((q : Nat) : Int), .pointer (some ⟨z3, q, none⟩), .int .i64 ((wt : Nat) : Int), .slice (some ⟨z3, 0, none⟩) (q + 1) z3c, .slice (some ⟨z3, 0, none⟩) (q + 1) z3c, .int .i64 ((q + 1 : Nat) : Int), .int .i64 ((q - 1 : Nat) : Int), .pointer (some ⟨z3, q - 1, none⟩), .int .i64 (((szW wt M1).getD (q - 1) 0 : Nat) : Int), .bool true, .bool true, .slice (some ⟨o3, 0, none⟩) (q + 1) o3c, .int .i64 ((q + 1 : Nat) : Int), .slice (some ⟨o3, 0, none⟩) (q + 1) o3c, .int .i64 ((q + 1 : Nat) : Int), .int .i64 ((q - 1 : Nat) : Int), .pointer (some ⟨o3, q - 1, none⟩), .string (bs (ps.getD (q - 1) [])), .slice (some ⟨o3, 0, none⟩) (q + 1) o3c, .int .i64 ((q + 1 : Nat) : Int), .int .i64 ((q : Nat) : Int), .pointer (some ⟨o3, q, none⟩), .string (bs u), .string (bs (nodeS (ps.getD (q - 1) []) u)), .slice (some ⟨o3, 0, none⟩) (q + 1) o3c, .int .i64 ((q + 1 : Nat) : Int), .int .i64 ((q - 1 : Nat) : Int), .int .i64 ((q + 1 : Nat) : Int), .int .i64 ((q - 1 : Nat) : Int), .slice (some ⟨o3, 0, none⟩) (q - 1) (q - 1), .string (bs (nodeS (ps.getD (q - 1) []) u)), .slice (some ⟨g69, 0, none⟩) 1 1, .slice (some ⟨g71, 0, none⟩) ((q - 1) + 1) g71c, u42 89, u42 90, u42 91, u42 92, u42 93, u42 94, vs 6, u42 96, vs 8, u42 98, u42 99, u42 100, u42 101, u42 102, undef, undef, undef, undef, undef], defers := [] }) (by kernel_rfl) ?_ ?_
          · skip
            intro vs gs W87 SW87 D K9 hK9
            replace M := M.sees SW87
            obtain ⟨D6, D8, _⟩ := D
            have e6 : vs 6 = .slice (some ⟨z3, 0, none⟩) (q + 1) z3c := D6
            have e8 : vs 8 = .int .i64 ((q : Nat) : Int) := D8
            dsimp only at hK9
            dsimp only
            rw [e6, e8] at hK9 ⊢
            refine wpL_chunk 1 (by rfl) (fun Lk hLk => ?_)
            simp only [List.take, List.drop]
            refine wpV_idxs (n := q) (by rfl) rfl rfl rfl Tryd.underlying47 info3 (by omega) ?_
            simp only [Nat.zero_add]
            simp only [putT, List.set]
            refine wpV_nil (hLk _ (fun w88 Sw88 => ?_))
            clear hLk Lk
            simp only [List.take, List.drop]
            replace M := M.sees Sw88
            refine wpL_nil (then_normal ?_)
            have h8 := hK9 (.pointer (some ⟨z3, q, none⟩))
            have h9 := h8 0 _ Sw88 rfl (fun h => absurd h (by decide))
            simp only [putT, List.set] at h9
            exact h9
          refine RulesL.cons (fun vs => { tmps := #[.agg ([.int .i64 ((m : Nat) : Int), .slice ap ps.length cp]).toArray, .string (bs s0), .pointer (some ⟨g3, 0, none⟩), undef, .pointer (some ⟨g5, 0, none⟩), .slice (some ⟨g71, 0, none⟩) ((q - 1) + 1) g71c, .slice (some ⟨z3, 0, none⟩) (q + 1) z3c, .int .i64 ((r : Nat) : Int), undef, u22 9, u22 10, .int .i64 ((q + 1 : Nat) : Int), .string (bs (nodeS (ps.getD (q - 1) []) u)), .slice (some ⟨g9, 0, none⟩) 0 0, .slice (some ⟨g13, 0, none⟩) 0 0, .pointer (some ⟨g3, 0, none⟩), .int .i64 ((m : Nat) : Int), .pointer (some ⟨g3, 1, none⟩), .slice ap ps.length cp, .int .i64 ((ps.length : Nat) : Int), .int .i64 ((ps.length : Nat) : Int), .bool false, u22 22, u22 23, u22 24, u22 25, u22 26, u22 27, u22 28, u22 29, u22 30, u22 31, u22 32, u22 33, u22 34, u22 35, u22 36, u22 37, u22 38, u22 39, u22 40, u22 41, .slice (some ⟨o, 0, none⟩) ps.length oc, .string (bs s0), .slice (some ⟨g31, 0, none⟩) 1 1, .slice (some ⟨g33, 0, none⟩) (ps.length + 1) g33c, .slice (some ⟨z, 0, none⟩) ps.length zc, .slice (some ⟨g37, 0, none⟩) 1 1, .slice (some ⟨g39, 0, none⟩) (ps.length + 1) g39c, .slice (some ⟨o3, 0, none⟩) (q + 1) o3c, .int .i64 ((q + 1 : Nat) : Int), .bool true, .bool true, .slice (some ⟨z3, 0, none⟩) (q + 1) z3c, .slice (some ⟨z3, 0, none⟩) (q + 1) z3c, .int .i64 ((q + 1 : Nat) : Int), .int .i64 ((q : Nat) : Int), .pointer (some ⟨z3, q, none⟩), .int .i64 ((wt : Nat) : Int), .slice (some ⟨z3, 0, none⟩) (q + 1) z3c, .slice (some ⟨z3, 0, none⟩) (q + 1) z3c, .int .i64 ((q + 1 : Nat) : Int), .int .i64 ((q - 1 : Nat) : Int), .pointer (some ⟨z3, q - 1, none⟩), .int .i64 (((szW wt M1).getD (q - 1) 0 : Nat) : Int), .bool true, .bool true, .slice (some ⟨o3, 0, none⟩) (q + 1) o3c, .int .i64 ((q + 1 : Nat) : Int), .slice (some ⟨o3, 0, none⟩) (q + 1) o3c, .int .i64 ((q + 1 : Nat) : Int), .int .i64 ((q - 1 : Nat) : Int), .pointer (some ⟨o3, q - 1, none⟩), .string (bs (ps.getD (q - 1) [])), .slice (some ⟨o3, 0, none⟩) (q + 1) o3c, .int .i64 ((q + 1 : Nat) : Int), .int .i64 ((q : Nat) : Int), .pointer (some ⟨o3, q, none⟩), .string (bs u), .string (bs (nodeS (ps.getD (q - 1) []) u)), .slice (some ⟨o3, 0, none⟩) (q + 1) o3c, .int .i64 ((q + 1 : Nat) : Int), .int .i64 ((q - 1 : Nat) : Int), .int .i64 ((q + 1 : Nat) : Int), .int .i64 ((q - 1 : Nat) : Int), .slice (some ⟨o3, 0, none⟩) (q - 1) (q - 1), .string (bs (nodeS (ps.getD (q - 1) []) u)), .slice (some ⟨g69, 0, none⟩) 1 1, .slice (some ⟨g71, 0, none⟩) ((q - 1) + 1) g71c, u42 89, u42 90, u42 91, u42 92, u42 93, u42 94, u42 95, u42 96, u42 97, vs 9, u42 99, u42 100, u42 101, u42 102, undef, undef, undef, undef, undef], defers := [] }) (by kernel_rfl) ?_ ?_
          · skip
            intro vs gs W89 SW89 D K9 hK9
            replace M := M.sees SW89
            obtain ⟨D9, _⟩ := D
            have e9 : vs 9 = .pointer (some ⟨z3, q, none⟩) := D9
            dsimp only at hK9
            dsimp only
            rw [e9] at hK9 ⊢
            refine wpL_chunk 1 (by rfl) (fun Lk hLk => ?_)
            simp only [List.take, List.drop]
            refine wpV_load1 (v := .int .i64 ((wt : Nat) : Int)) (by rfl) rfl rfl (zadd ((M.r 7 0 rfl rfl) _ _ (szI_last wt hM))) (M.lt 7 rfl) Tryd.underlying3 rfl ?_
            simp only [putT, List.set]
            refine wpV_nil (hLk _ (fun w90 Sw90 => ?_))
            clear hLk Lk
            simp only [List.take, List.drop]
            replace M := M.sees Sw90
            refine wpL_nil (then_normal ?_)
            have h8 := hK9 (.int .i64 ((wt : Nat) : Int))
            have h9 := h8 0 _ Sw90 rfl (fun h => absurd h (by decide))
            simp only [putT, List.set] at h9
            exact h9
          refine RulesL.cons (fun vs => { tmps := #[.agg ([.int .i64 ((m : Nat) : Int), .slice ap ps.length cp]).toArray, .string (bs s0), .pointer (some ⟨g3, 0, none⟩), undef, .pointer (some ⟨g5, 0, none⟩), .slice (some ⟨g71, 0, none⟩) ((q - 1) + 1) g71c, .slice (some ⟨z3, 0, none⟩) (q + 1) z3c, .int .i64 ((r : Nat) : Int), undef, u22 9, u22 10, .int .i64 ((q + 1 : Nat) : Int), .string (bs (nodeS (ps.getD (q - 1) []) u)), .slice (some ⟨g9, 0, none⟩) 0 0, .slice (some ⟨g13, 0, none⟩) 0 0, .pointer (some ⟨g3, 0, none⟩), .int .i64 ((m : Nat) : Int), .pointer (some ⟨g3, 1, none⟩), .slice ap ps.length cp, .int .i64 ((ps.length : Nat) : Int), .int .i64 ((ps.length : Nat) : Int), .bool false, u22 22, u22 23, u22 24, u22 25, u22 26, u22 27, u22 28, u22 29, u22 30, u22 31, u22 32, u22 33, u22 34, u22 35, u22 36, u22 37, u22 38, u22 39, u22 40, u22 41, .slice (some ⟨o, 0, none⟩) ps.length oc, .string (bs s0), .slice (some ⟨g31, 0, none⟩) 1 1, .slice (some ⟨g33, 0, none⟩) (ps.length + 1) g33c, .slice (some ⟨z, 0, none⟩) ps.length zc, .slice (some ⟨g37, 0, none⟩) 1 1, .slice (some ⟨g39, 0, none⟩) (ps.length + 1) g39c, .slice (some ⟨o3, 0, none⟩) (q + 1) o3c, .int .i64 ((q + 1 : Nat) : Int), .bool true, .bool true, .slice (some ⟨z3, 0, none⟩) (q + 1) z3c, .slice (some ⟨z3, 0, none⟩) (q + 1) z3c, .int .i64 ((q + 1 : Nat) : Int), .int .i64 ((q : Nat) : Int), .pointer (some ⟨z3, q, none⟩), .int .i64 ((wt : Nat) : Int), .slice (some ⟨z3, 0, none⟩) (q + 1) z3c, .slice (some ⟨z3, 0, none⟩) (q + 1) z3c, .int .i64 ((q + 1 : Nat) : Int), .int .i64 ((q - 1 : Nat) : Int), .pointer (some ⟨z3, q - 1, none⟩), .int .i64 (((szW wt M1).getD (q - 1) 0 : Nat) : Int), .bool true, .bool true, .slice (some ⟨o3, 0, none⟩) (q + 1) o3c, .int .i64 ((q + 1 : Nat) : Int), .slice (some ⟨o3, 0, none⟩) (q + 1) o3c, .int .i64 ((q + 1 : Nat) : Int), .int .i64 ((q - 1 : Nat) : Int), .pointer (some ⟨o3, q - 1, none⟩), .string (bs (ps.getD (q - 1) [])), .slice (some ⟨o3, 0, none⟩) (q + 1) o3c, .int .i64 ((q + 1 : Nat) : Int), .int .i64 ((q : Nat) : Int), .pointer (some ⟨o3, q, none⟩), .string (bs u), .string (bs (nodeS (ps.getD (q - 1) []) u)), .slice (some ⟨o3, 0, none⟩) (q + 1) o3c, .int .i64 ((q + 1 : Nat) : Int), .int .i64 ((q - 1 : Nat) : Int), .int .i64 ((q + 1 : Nat) : Int), .int .i64 ((q - 1 : Nat) : Int), .slice (some ⟨o3, 0, none⟩) (q - 1) (q - 1), .string (bs (nodeS (ps.getD (q - 1) []) u)), .slice (some ⟨g69, 0, none⟩) 1 1, .slice (some ⟨g71, 0, none⟩) ((q - 1) + 1) g71c, u42 89, u42 90, u42 91, u42 92, u42 93, u42 94, u42 95, u42 96, u42 97, u42 98, vs 10, u42 100, u42 101, u42 102, undef, undef, undef, undef, undef], defers := [] }) (by kernel_rfl) ?_ ?_
          · skip
            intro vs gs W91 SW91 D K9 hK9
            replace M := M.sees SW91
            obtain ⟨D10, _⟩ := D
            have e10 : vs 10 = .int .i64 ((wt : Nat) : Int) := D10
            dsimp only at hK9
            dsimp only
            rw [e10] at hK9 ⊢
            refine wpL_chunk 1 (by rfl) (fun Lk hLk => ?_)
            simp only [List.take, List.drop]
            refine wpV_bin (v := .int .i64 ((2 * wt : Nat) : Int)) (by rfl) rfl rfl rfl (fun W => run_mul (by simp only [IntKind.wrap_i64]; omega) W) ?_
            simp only [putT, List.set]
            refine wpV_nil (hLk _ (fun w92 Sw92 => ?_))
            clear hLk Lk
            simp only [List.take, List.drop]
            replace M := M.sees Sw92
            refine wpL_nil (then_normal ?_)
            have h8 := hK9 (.int .i64 ((2 * wt : Nat) : Int))
            have h9 := h8 0 _ Sw92 rfl (fun h => absurd h (by decide))
            simp only [putT, List.set] at h9
            exact h9
          refine RulesL.cons (fun vs => { tmps := #[.agg ([.int .i64 ((m : Nat) : Int), .slice ap ps.length cp]).toArray, .string (bs s0), .pointer (some ⟨g3, 0, none⟩), undef, .pointer (some ⟨g5, 0, none⟩), .slice (some ⟨g71, 0, none⟩) ((q - 1) + 1) g71c, .slice (some ⟨z3, 0, none⟩) (q + 1) z3c, .int .i64 ((r : Nat) : Int), undef, u22 9, u22 10, .int .i64 ((q + 1 : Nat) : Int), .string (bs (nodeS (ps.getD (q - 1) []) u)), .slice (some ⟨g9, 0, none⟩) 0 0, .slice (some ⟨g13, 0, none⟩) 0 0, .pointer (some ⟨g3, 0, none⟩), .int .i64 ((m : Nat) : Int), .pointer (some ⟨g3, 1, none⟩), .slice ap ps.length cp, .int .i64 ((ps.length : Nat) : Int), .int .i64 ((ps.length : Nat) : Int), .bool false, u22 22, u22 23, u22 24, u22 25, u22 26, u22 27, u22 28, u22 29, u22 30, u22 31, u22 32, u22 33, u22 34, u22 35, u22 36, u22 37, u22 38, u22 39, u22 40, u22 41, .slice (some ⟨o, 0, none⟩) ps.length oc, .string (bs s0), .slice (some ⟨g31, 0, none⟩) 1 1, .slice (some ⟨g33, 0, none⟩) (ps.length + 1) g33c, .slice (some ⟨z, 0, none⟩) ps.length zc, .slice (some ⟨g37, 0, none⟩) 1 1, .slice (some ⟨g39, 0, none⟩) (ps.length + 1) g39c, .slice (some ⟨o3, 0, none⟩) (q + 1) o3c, .int .i64 ((q + 1 : Nat) : Int), .bool true, .bool true, .slice (some ⟨z3, 0, none⟩) (q + 1) z3c, .slice (some ⟨z3, 0, none⟩) (q + 1) z3c, .int .i64 ((q + 1 : Nat) : Int), .int .i64 ((q : Nat) : Int), .pointer (some ⟨z3, q, none⟩), .int .i64 ((wt : Nat) : Int), .slice (some ⟨z3, 0, none⟩) (q + 1) z3c, .slice (some ⟨z3, 0, none⟩) (q + 1) z3c, .int .i64 ((q + 1 : Nat) : Int), .int .i64 ((q - 1 : Nat) : Int), .pointer (some ⟨z3, q - 1, none⟩), .int .i64 (((szW wt M1).getD (q - 1) 0 : Nat) : Int), .bool true, .bool true, .slice (some ⟨o3, 0, none⟩) (q + 1) o3c, .int .i64 ((q + 1 : Nat) : Int), .slice (some ⟨o3, 0, none⟩) (q + 1) o3c, .int .i64 ((q + 1 : Nat) : Int), .int .i64 ((q - 1 : Nat) : Int), .pointer (some ⟨o3, q - 1, none⟩), .string (bs (ps.getD (q - 1) [])), .slice (some ⟨o3, 0, none⟩) (q + 1) o3c, .int .i64 ((q + 1 : Nat) : Int), .int .i64 ((q : Nat) : Int), .pointer (some ⟨o3, q, none⟩), .string (bs u), .string (bs (nodeS (ps.getD (q - 1) []) u)), .slice (some ⟨o3, 0, none⟩) (q + 1) o3c, .int .i64 ((q + 1 : Nat) : Int), .int .i64 ((q - 1 : Nat) : Int), .int .i64 ((q + 1 : Nat) : Int), .int .i64 ((q - 1 : Nat) : Int), .slice (some ⟨o3, 0, none⟩) (q - 1) (q - 1), .string (bs (nodeS (ps.getD (q - 1) []) u)), .slice (some ⟨g69, 0, none⟩) 1 1, .slice (some ⟨g71, 0, none⟩) ((q - 1) + 1) g71c, u42 89, u42 90, u42 91, u42 92, u42 93, u42 94, u42 95, u42 96, u42 97, u42 98, u42 99, vs 11, u42 101, u42 102, undef, undef, undef, undef, undef], defers := [] }) (by kernel_rfl) ?_ ?_
          · skip
            intro vs gs W93 SW93 D K9 hK9
            replace M := M.sees SW93
            have Rg71_0 := M.r 0 0 rfl rfl
            have Lg71 := M.lt 0 rfl
            have Rg69_0 := M.r 1 0 rfl rfl
            have Lg69 := M.lt 1 rfl
            have Rg37_0 := M.r 2 0 rfl rfl
            have Lg37 := M.lt 2 rfl
            have Rg31_0 := M.r 3 0 rfl rfl
            have Lg31 := M.lt 3 rfl
            have Rg5_0 := M.r 4 0 rfl rfl
            have Lg5 := M.lt 4 rfl
            have Rg3_0 := M.r 5 0 rfl rfl
            have Lg3 := M.lt 5 rfl
            have Ro3_0 := M.r 6 0 rfl rfl
            have Lo3 := M.lt 6 rfl
            have Rz3_0 := M.r 7 0 rfl rfl
            have Lz3 := M.lt 7 rfl
            replace Hp := M.oldA Hp
            have BB := M.below
            replace M := Mem.start W93
            obtain ⟨D11, _⟩ := D
            have e11 : vs 11 = .int .i64 ((2 * wt : Nat) : Int) := D11
            dsimp only at hK9
            dsimp only
            rw [e11] at hK9 ⊢
            refine wpL_rowN (vs := [.int .i64 ((2 * wt : Nat) : Int)]) (z := .int .i64 0) (bytes := 8) (by rfl) (by rfl) Tryd.underlying47 (by kernel_rfl) (by decide) (by kernel_rfl) (fun g94 w95 Sw95 Hg94 Bg94 => ?_)
            replace M := ((M.sees Sw95).add (N := 1) (cs := [.int .i64 ((2 * wt : Nat) : Int)]) (M.ge Hg94) (M.fresh Hg94) Bg94 rfl)
            clear Bg94
            simp only [putT, List.set]
            refine wpL_nil (then_normal ?_)
            have h8 := hK9 (.slice (some ⟨g94, 0, none⟩) 1 1)
            have h9 := h8 g94 _ M.seesAll ⟨rfl, (M.ok _ (.head _)).up SW93⟩ (fun _ => (M.ok _ (.head _)).ge)
            simp only [putT, List.set] at h9
            exact h9
          refine RulesL.cons (fun vs => { tmps := #[.agg ([.int .i64 ((m : Nat) : Int), .slice ap ps.length cp]).toArray, .string (bs s0), .pointer (some ⟨g3, 0, none⟩), undef, .pointer (some ⟨g5, 0, none⟩), .slice (some ⟨g71, 0, none⟩) ((q - 1) + 1) g71c, .slice (some ⟨z3, 0, none⟩) (q + 1) z3c, .int .i64 ((r : Nat) : Int), undef, u22 9, u22 10, .int .i64 ((q + 1 : Nat) : Int), .string (bs (nodeS (ps.getD (q - 1) []) u)), .slice (some ⟨g9, 0, none⟩) 0 0, .slice (some ⟨g13, 0, none⟩) 0 0, .pointer (some ⟨g3, 0, none⟩), .int .i64 ((m : Nat) : Int), .pointer (some ⟨g3, 1, none⟩), .slice ap ps.length cp, .int .i64 ((ps.length : Nat) : Int), .int .i64 ((ps.length : Nat) : Int), .bool false, u22 22, u22 23, u22 24, u22 25, u22 26, u22 27, u22 28, u22 29, u22 30, u22 31, u22 32, u22 33, u22 34, u22 35, u22 36, u22 37, u22 38, u22 39, u22 40, u22 41, .slice (some ⟨o, 0, none⟩) ps.length oc, .string (bs s0), .slice (some ⟨g31, 0, none⟩) 1 1, .slice (some ⟨g33, 0, none⟩) (ps.length + 1) g33c, .slice (some ⟨z, 0, none⟩) ps.length zc, .slice (some ⟨g37, 0, none⟩) 1 1, .slice (some ⟨g39, 0, none⟩) (ps.length + 1) g39c, .slice (some ⟨o3, 0, none⟩) (q + 1) o3c, .int .i64 ((q + 1 : Nat) : Int), .bool true, .bool true, .slice (some ⟨z3, 0, none⟩) (q + 1) z3c, .slice (some ⟨z3, 0, none⟩) (q + 1) z3c, .int .i64 ((q + 1 : Nat) : Int), .int .i64 ((q : Nat) : Int), .pointer (some ⟨z3, q, none⟩), .int .i64 ((wt : Nat) : Int), .slice (some ⟨z3, 0, none⟩) (q + 1) z3c, .slice (some ⟨z3, 0, none⟩) (q + 1) z3c, .int .i64 ((q + 1 : Nat) : Int), .int .i64 ((q - 1 : Nat) : Int), .pointer (some ⟨z3, q - 1, none⟩), .int .i64 (((szW wt M1).getD (q - 1) 0 : Nat) : Int), .bool true, .bool true, .slice (some ⟨o3, 0, none⟩) (q + 1) o3c, .int .i64 ((q + 1 : Nat) : Int), .slice (some ⟨o3, 0, none⟩) (q + 1) o3c, .int .i64 ((q + 1 : Nat) : Int), .int .i64 ((q - 1 : Nat) : Int), .pointer (some ⟨o3, q - 1, none⟩), .string (bs (ps.getD (q - 1) [])), .slice (some ⟨o3, 0, none⟩) (q + 1) o3c, .int .i64 ((q + 1 : Nat) : Int), .int .i64 ((q : Nat) : Int), .pointer (some ⟨o3, q, none⟩), .string (bs u), .string (bs (nodeS (ps.getD (q - 1) []) u)), .slice (some ⟨o3, 0, none⟩) (q + 1) o3c, .int .i64 ((q + 1 : Nat) : Int), .int .i64 ((q - 1 : Nat) : Int), .int .i64 ((q + 1 : Nat) : Int), .int .i64 ((q - 1 : Nat) : Int), .slice (some ⟨o3, 0, none⟩) (q - 1) (q - 1), .string (bs (nodeS (ps.getD (q - 1) []) u)), .slice (some ⟨g69, 0, none⟩) 1 1, .slice (some ⟨g71, 0, none⟩) ((q - 1) + 1) g71c, u42 89, u42 90, u42 91, u42 92, u42 93, vs 5, u42 95, u42 96, u42 97, u42 98, u42 99, u42 100, vs 12, u42 102, undef, undef, undef, undef, undef], defers := [] }) (by kernel_rfl) ?_ ?_
          · skip
            intro vs gs W96 SW96 D K9 hK9
            replace M := M.sees SW96
            have Rg71_0 := M.r 0 0 rfl rfl
            have Lg71 := M.lt 0 rfl
            have Rg69_0 := M.r 1 0 rfl rfl
            have Lg69 := M.lt 1 rfl
            have Rg37_0 := M.r 2 0 rfl rfl
            have Lg37 := M.lt 2 rfl
            have Rg31_0 := M.r 3 0 rfl rfl
            have Lg31 := M.lt 3 rfl
            have Rg5_0 := M.r 4 0 rfl rfl
            have Lg5 := M.lt 4 rfl
            have Rg3_0 := M.r 5 0 rfl rfl
            have Lg3 := M.lt 5 rfl
            have Ro3_0 := M.r 6 0 rfl rfl
            have Lo3 := M.lt 6 rfl
            have Rz3_0 := M.r 7 0 rfl rfl
            have Lz3 := M.lt 7 rfl
            replace Hp := M.oldA Hp
            have BB := M.below
            replace M := Mem.start W96
            obtain ⟨D5, D12, _⟩ := D
            have e5 : vs 5 = .slice (some ⟨z3, 0, none⟩) (q - 1) (q - 1) := D5
            obtain ⟨e12, Og97⟩ := D12
            generalize gs 12 = g97 at *
            replace e12 : vs 12 = .slice (some ⟨g97, 0, none⟩) 1 1 := e12
            have Rg97_0 := Og97.range (0, [.int .i64 ((2 * wt : Nat) : Int)]) (by simp only [List.mem_cons, true_or, or_true])
            have Lg97 := Og97.lt
            dsimp only at hK9
            dsimp only
            rw [e5, e12] at hK9 ⊢
            refine wpL_appendFA (n := q - 1) (cap := q - 1) (m := 1) (olds := icells ((zI (szW wt M1)).take (q - 1))) (news := [.int .i64 ((2 * wt : Nat) : Int)]) (z := .int .i64 0) (bytes := 8) (by rfl) (by rfl) (by rfl) (by rfl) Tryd.underlying47 (by kernel_rfl) rfl (((RowA.of (M.oldR Rz3_0 Lz3) (M.oldL Lz3) (by rw [icells_len, zI_len, szW_len, hM]) Cz3).takeM (by omega) (Nat.le_refl _) (Nat.le_trans (by omega) Cz3)).eq (icells_take2 _ _)) rfl (by omega) (by omega) (M.oldR Rg97_0 Lg97) (by omega) (by simp only [maxLen]; omega) (fun g98 g98c w99 Sw99 Hg98 Cg98 R T L => ?_)
            replace M := (M.sees Sw99).addR (M.ge Hg98) (M.fresh Hg98) T R L
            clear T R L
            rw [show icells ((zI (szW wt M1)).take (q - 1)) ++ [.int .i64 ((2 * wt : Nat) : Int)] = icells (zI (szW (2 * wt) (M1 / 2))) from szI_merge hM hodd] at M
            simp only [putT, List.set]
            refine wpL_nil (then_normal ?_)
            have h8 := hK9 (.slice (some ⟨g98, 0, none⟩) ((q - 1) + 1) g98c)
            have h9 := h8 g98 _ M.seesAll ⟨g98c, rfl, Cg98, (M.ok _ (.head _)).up SW96⟩ (fun _ => (M.ok _ (.head _)).ge)
            simp only [putT, List.set] at h9
            exact h9
          exact RulesL.nil
        intro vs gs W100 SW100 D A9
        obtain ⟨D0, D1, D2, D3, D4, D5, D6, D7, D8, D9, D10, D11, D12, D13, _⟩ := (show DepRel _ vs gs W100 [0, 1, 2, 3, 4, 5, 6, 7, 8, 9, 10, 11, 12, 13] from D)
        have n12_13 : gs 12 ≠ gs 13 := A9 12 13 (by decide) (by decide) (by decide) (by decide) (by decide)
        clear A9 D
        have e0 : vs 0 = .slice (some ⟨z3, 0, none⟩) (q + 1) z3c := D0
        have e1 : vs 1 = .int .i64 ((q + 1 : Nat) : Int) := D1
        have e2 : vs 2 = .int .i64 ((q - 1 : Nat) : Int) := D2
        have e3 : vs 3 = .int .i64 ((q + 1 : Nat) : Int) := D3
        have e4 : vs 4 = .int .i64 ((q - 1 : Nat) : Int) := D4
        have e5 : vs 5 = .slice (some ⟨z3, 0, none⟩) (q - 1) (q - 1) := D5
        have e6 : vs 6 = .slice (some ⟨z3, 0, none⟩) (q + 1) z3c := D6
        have e7 : vs 7 = .int .i64 ((q + 1 : Nat) : Int) := D7
        have e8 : vs 8 = .int .i64 ((q : Nat) : Int) := D8
        have e9 : vs 9 = .pointer (some ⟨z3, q, none⟩) := D9
        have e10 : vs 10 = .int .i64 ((wt : Nat) : Int) := D10
        have e11 : vs 11 = .int .i64 ((2 * wt : Nat) : Int) := D11
        obtain ⟨e12, Og101⟩ := D12
        generalize gs 12 = g101 at *
        replace e12 : vs 12 = .slice (some ⟨g101, 0, none⟩) 1 1 := e12
        obtain ⟨g102c, e13, Cg102, Og102⟩ := D13
        generalize gs 13 = g102 at *
        replace e13 : vs 13 = .slice (some ⟨g102, 0, none⟩) ((q - 1) + 1) g102c := e13
        replace M := M.addOks SW100 [⟨g101, 1, [(0, [.int .i64 ((2 * wt : Nat) : Int)])]⟩, ⟨g102, g102c, [(0, icells (zI (szW (2 * wt) (M1 / 2))))]⟩] (List.forall_mem_cons.2 ⟨Og101, (List.forall_mem_cons.2 ⟨Og102, (fun _ h => nomatch h)⟩)⟩) (.cons (List.forall_mem_cons.2 ⟨n12_13, (fun _ h => nomatch h)⟩) (.cons (fun _ h => nomatch h) .nil))
        simp only [List.cons_append, List.nil_append] at M
        dsimp only
        simp only [e0, e1, e2, e3, e4, e5, e6, e7, e8, e9, e10, e11, e12, e13, List.drop]
        refine wpL_assign (v := .slice (some ⟨g102, 0, none⟩) ((q - 1) + 1) g102c) (by rfl) (by rfl) (by rfl) ?_
        simp only [putT, List.set]
        refine wpL_nil (no_panic ?_)
        refine Exists.intro _ ⟨?_, (q - 1), (nodeS (ps.getD (q - 1) []) u), (M1 / 2), (2 * wt), g71, g71c, g102, g102c, (fun q9 => (#[undef, undef, undef, undef, undef, undef, undef, undef, undef, undef, undef, .int .i64 ((q + 1 : Nat) : Int), .string (bs (nodeS (ps.getD (q - 1) []) u)), undef, undef, undef, undef, undef, undef, undef, undef, undef, undef, undef, undef, undef, undef, undef, undef, undef, undef, undef, undef, undef, undef, undef, undef, undef, undef, undef, undef, undef, undef, undef, undef, undef, undef, undef, undef, .slice (some ⟨o3, 0, none⟩) (q + 1) o3c, .int .i64 ((q + 1 : Nat) : Int), .bool true, .bool true, .slice (some ⟨z3, 0, none⟩) (q + 1) z3c, .slice (some ⟨z3, 0, none⟩) (q + 1) z3c, .int .i64 ((q + 1 : Nat) : Int), .int .i64 ((q : Nat) : Int), .pointer (some ⟨z3, q, none⟩), .int .i64 ((wt : Nat) : Int), .slice (some ⟨z3, 0, none⟩) (q + 1) z3c, .slice (some ⟨z3, 0, none⟩) (q + 1) z3c, .int .i64 ((q + 1 : Nat) : Int), .int .i64 ((q - 1 : Nat) : Int), .pointer (some ⟨z3, q - 1, none⟩), .int .i64 (((szW wt M1).getD (q - 1) 0 : Nat) : Int), .bool true, .bool true, .slice (some ⟨o3, 0, none⟩) (q + 1) o3c, .int .i64 ((q + 1 : Nat) : Int), .slice (some ⟨o3, 0, none⟩) (q + 1) o3c, .int .i64 ((q + 1 : Nat) : Int), .int .i64 ((q - 1 : Nat) : Int), .pointer (some ⟨o3, q - 1, none⟩), .string (bs (ps.getD (q - 1) [])), .slice (some ⟨o3, 0, none⟩) (q + 1) o3c, .int .i64 ((q + 1 : Nat) : Int), .int .i64 ((q : Nat) : Int), .pointer (some ⟨o3, q, none⟩), .string (bs u), .string (bs (nodeS (ps.getD (q - 1) []) u)), .slice (some ⟨o3, 0, none⟩) (q + 1) o3c, .int .i64 ((q + 1 : Nat) : Int), .int .i64 ((q - 1 : Nat) : Int), .int .i64 ((q + 1 : Nat) : Int), .int .i64 ((q - 1 : Nat) : Int), .slice (some ⟨o3, 0, none⟩) (q - 1) (q - 1), .string (bs (nodeS (ps.getD (q - 1) []) u)), .slice (some ⟨g69, 0, none⟩) 1 1, .slice (some ⟨g71, 0, none⟩) ((q - 1) + 1) g71c, .slice (some ⟨z3, 0, none⟩) (q + 1) z3c, .int .i64 ((q + 1 : Nat) : Int), .int .i64 ((q - 1 : Nat) : Int), .int .i64 ((q + 1 : Nat) : Int), .int .i64 ((q - 1 : Nat) : Int), .slice (some ⟨z3, 0, none⟩) (q - 1) (q - 1), .slice (some ⟨z3, 0, none⟩) (q + 1) z3c, .int .i64 ((q + 1 : Nat) : Int), .int .i64 ((q : Nat) : Int), .pointer (some ⟨z3, q, none⟩), .int .i64 ((wt : Nat) : Int), .int .i64 ((2 * wt : Nat) : Int), .slice (some ⟨g101, 0, none⟩) 1 1, .slice (some ⟨g102, 0, none⟩) ((q - 1) + 1) g102c] : Array Value).getD q9 undef), rfl, rfl, (M.pick [4, 5, 6, 7, 2, 1] (by decide) rfl), Cg71, Cg102, (by omega), (by rw [ones_odd hodd] at hM; omega), (addP_go2 hodd hq0 hq1 hA), (by omega), (mul_half hwM), (wt_le hwM hodd hm), (nodeS_len _ _)⟩
        omega
  · skip
    have hi1 : i < ps.length := of_decide_eq_true hc28
    have hr0 : r ≠ 0 := szL_pos hS hSl (by omega)
    refine wp_cond_true rfl ?_
    refine wp_skip ?_
    refine hK27 _ _ ?_
    refine wp_seq_k (fun K103 hK103 => ?_)
    refine wp_block ?_
    refine wp_seq_k (fun K104 hK104 => ?_)
    refine wp_region_seq ?_
    refine wpL_chunk 2 (by rfl) (fun Lk hLk => ?_)
    simp only [List.take, List.drop]
    refine wpV_idxA (i := i) (by rfl) rfl rfl rfl Tryd.underlying48 info9 (M.oldA Hp) (by omega) ?_
    simp only [putT, List.set]
    refine wpV_loadA (i := i) (v := .string (bs (ps.getD i []))) (by rfl) rfl rfl (M.oldA Hp) (scells_get (ps := ps) (by omega)) Tryd.underlying9 rfl ?_
    simp only [putT, List.set]
    refine wpV_nil (hLk _ (fun w106 Sw106 => ?_))
    clear hLk Lk
    simp only [List.take, List.drop]
    replace M := M.sees Sw106
    refine wpL_assign (v := .string (bs (ps.getD i []))) (by rfl) (by rfl) (by rfl) ?_
    simp only [putT, List.set]
    refine wpL_nil (no_panic ?_)
    refine hK104 _ _ ?_
    refine wp_seq_k (fun K107 hK107 => ?_)
    refine wp_region_seq ?_
    refine wpL_assign (v := .int .i64 1) (by rfl) (by rfl) (by rfl) ?_
    simp only [putT, List.set]
    refine wpL_nil (no_panic ?_)
    refine hK107 _ _ ?_
    refine wp_seq_k (fun K109 hK109 => ?_)
    refine wp_block ?_
    refine wp_loop_ghost (fun n9 a9 W9 => ∃ (k : Nat) (j : Nat) (u110 : Nat → Value), n9 = 2 * (r - k) ∧ a9 = { tmps := #[.agg ([.int .i64 ((m : Nat) : Int), .slice ap ps.length cp]).toArray, .string (bs s0), .pointer (some ⟨g3, 0, none⟩), undef, .pointer (some ⟨g5, 0, none⟩), .slice (some ⟨o, 0, none⟩) i oc, .slice (some ⟨z, 0, none⟩) i zc, .int .i64 ((r : Nat) : Int), undef, .string (bs (ps.getD i [])), .int .i64 ((k : Nat) : Int), undef, undef, .slice (some ⟨g9, 0, none⟩) 0 0, .slice (some ⟨g13, 0, none⟩) 0 0, .pointer (some ⟨g3, 0, none⟩), .int .i64 ((m : Nat) : Int), .pointer (some ⟨g3, 1, none⟩), .slice ap ps.length cp, .int .i64 ((ps.length : Nat) : Int), .int .i64 ((i : Nat) : Int), .bool true, .pointer (ap.map (·.add i)), .string (bs (ps.getD i [])), u110 24, u110 25, u110 26, u110 27, u110 28, u110 29, u22 30, u22 31, u22 32, u22 33, u22 34, u22 35, u22 36, u22 37, u22 38, u22 39, u22 40, u22 41, undef, undef, undef, undef, undef, undef, undef, undef, undef, undef, undef, undef, undef, undef, undef, undef, undef, undef, undef, undef, undef, undef, undef, undef, undef, undef, undef, undef, undef, undef, undef, undef, undef, undef, undef, undef, undef, undef, undef, undef, undef, undef, undef, undef, undef, undef, undef, undef, undef, undef, undef, undef, undef, undef, undef, undef, undef, undef, undef, undef, undef, undef, undef, undef, undef, undef], defers := [] } ∧ Mem [] w W9 [⟨g5, 2, [(0, [.int .i64 0, .slice none 0 0])]⟩, ⟨g3, 2, [(0, [.int .i64 ((m : Nat) : Int), .slice ap ps.length cp])]⟩, ⟨o, oc, [(0, scells (ps.take i))]⟩, ⟨z, zc, [(0, icells (zI Sz))]⟩] ∧ (k = 2 ^ j) ∧ (k ≤ r)) (2 * (r - (1))) ?_ (fun n9 a9 W9 hI => ?_)
    · exact ⟨1, 0, (fun q9 => (#[undef, undef, undef, undef, undef, undef, undef, undef, undef, undef, undef, undef, undef, undef, undef, undef, undef, undef, undef, undef, undef, undef, undef, undef, u22 24, u22 25, u22 26, u22 27, u22 28, u22 29] : Array Value).getD q9 undef), rfl, rfl, M, rfl, (by omega)⟩
    clear M
    obtain ⟨k, j, u110, rfl, rfl, M, hk, hkr⟩ := hI
    obtain ⟨w111, rfl⟩ : ∃ W8, W8 = W9 := ⟨_, rfl⟩
    have hkp : 0 < k := hk ▸ Nat.two_pow_pos j
    refine wp_seq_k (fun K112 hK112 => ?_)
    refine wp_seq_k (fun K113 hK113 => ?_)
    refine wp_region_seq ?_
    refine wpL_move (v := .int .i64 ((k : Nat) : Int)) (by rfl) (by rfl) (by rfl) ?_
    simp only [putT, List.set]
    refine wpL_chunk 3 (by rfl) (fun Lk hLk => ?_)
    simp only [List.take, List.drop]
    refine wpV_bin (v := .int .i64 ((2 * k : Nat) : Int)) (by rfl) rfl rfl rfl (fun W => run_mul (by simp only [IntKind.wrap_i64]; omega) W) ?_
    simp only [putT, List.set]
    refine wpV_move (v := .int .i64 ((r : Nat) : Int)) (by rfl) rfl rfl ?_
    simp only [putT, List.set]
    refine wpV_bin (v := .bool (decide (2 * k ≤ r))) (by rfl) rfl rfl rfl (fun W => run_leqN (2 * k) r _ _ W) ?_
    simp only [putT, List.set]
    refine wpV_nil (hLk _ (fun w115 Sw115 => ?_))
    clear hLk Lk
    simp only [List.take, List.drop]
    replace M := M.sees Sw115
    refine wpL_nil (no_panic ?_)
    refine hK113 _ _ ?_
    cases hc116 : (decide (2 * k ≤ r))
    · skip
      have h2k : ¬ 2 * k ≤ r := of_decide_eq_false hc116
      have hkb : k = bigN r := by rw [hk]; exact (bigN_of (by omega) (by omega)).symm
      refine wp_cond_false rfl ?_
      refine wp_exit ?_
      refine hK109 _ _ ?_
      refine wp_seq_k (fun K117 hK117 => ?_)
      refine wp_region_seq ?_
      refine wpL_move (v := .slice (some ⟨o, 0, none⟩) i oc) (by rfl) (by rfl) (by rfl) ?_
      simp only [putT, List.set]
      refine wpL_move (v := .string (bs (ps.getD i []))) (by rfl) (by rfl) (by rfl) ?_
      simp only [putT, List.set]
      refine wpL_rowN (vs := [.string (bs (ps.getD i []))]) (z := .string { data := #[] }) (bytes := 16) (by rfl) (by rfl) Tryd.underlying48 (by kernel_rfl) (by decide) (by kernel_rfl) (fun g119 w120 Sw120 Hg119 Bg119 => ?_)
      replace M := ((M.sees Sw120).add (N := 1) (cs := [.string (bs (ps.getD i []))]) (M.ge Hg119) (M.fresh Hg119) Bg119 rfl)
      clear Bg119
      simp only [putT, List.set]
      refine wpL_append (n := i) (m := 1) (olds := scells (ps.take i)) (news := [.string (bs (ps.getD i []))]) (z := .string { data := #[] }) (bytes := 16) (by rfl) (by rfl) (by rfl) (by rfl) Tryd.underlying48 (by kernel_rfl) rfl rfl (by rw [scells_len, List.length_take]; omega) rfl (M.r 3 0 rfl rfl) (M.t 3 rfl) (M.lt 3 rfl) (M.r 0 0 rfl rfl) (by intro u hu; rw [List.mem_singleton.1 hu]; rfl) (by omega) (by simp only [maxLen]; omega) (fun g121 g121c w122 Sw122 Q Cg121 R T L => ?_)
      replace M := M.grow 3 rfl Sw122 Q R T L
      simp only [List.set] at M
      clear Q R T L
      rw [show scells (ps.take i) ++ [.string (bs (ps.getD i []))] = scells (ps.take (i + 1)) from take_snoc hi1] at M
      simp only [putT, List.set]
      refine wpL_assign (v := .slice (some ⟨g121, 0, none⟩) (i + 1) g121c) (by rfl) (by rfl) (by rfl) ?_
      simp only [putT, List.set]
      refine wpL_nil (no_panic ?_)
      refine hK117 _ _ ?_
      refine wp_seq_k (fun K123 hK123 => ?_)
      refine wp_region_seq ?_
      refine wpL_move (v := .slice (some ⟨z, 0, none⟩) i zc) (by rfl) (by rfl) (by rfl) ?_
      simp only [putT, List.set]
      refine wpL_move (v := .int .i64 ((k : Nat) : Int)) (by rfl) (by rfl) (by rfl) ?_
      simp only [putT, List.set]
      refine wpL_rowN (vs := [.int .i64 ((k : Nat) : Int)]) (z := .int .i64 0) (bytes := 8) (by rfl) (by rfl) Tryd.underlying47 (by kernel_rfl) (by decide) (by kernel_rfl) (fun g125 w126 Sw126 Hg125 Bg125 => ?_)
      replace M := ((M.sees Sw126).add (N := 1) (cs := [.int .i64 ((k : Nat) : Int)]) (M.ge Hg125) (M.fresh Hg125) Bg125 rfl)
      clear Bg125
      simp only [putT, List.set]
      refine wpL_append (n := i) (m := 1) (olds := icells (zI Sz)) (news := [.int .i64 ((k : Nat) : Int)]) (z := .int .i64 0) (bytes := 8) (by rfl) (by rfl) (by rfl) (by rfl) Tryd.underlying47 (by kernel_rfl) rfl rfl (by rw [icells_len, zI_len, hSl]) rfl (M.r 5 0 rfl rfl) (M.t 5 rfl) (M.lt 5 rfl) (M.r 0 0 rfl rfl) (by intro u hu; rw [List.mem_singleton.1 hu]; rfl) (by omega) (by simp only [maxLen]; omega) (fun g127 g127c w128 Sw128 Q Cg127 R T L => ?_)
      replace M := M.grow 5 rfl Sw128 Q R T L
      simp only [List.set] at M
      clear Q R T L
      rw [show icells (zI Sz) ++ [.int .i64 ((k : Nat) : Int)] = icells (zI (Sz ++ [k])) from zI_snoc Sz k] at M
      simp only [putT, List.set]
      refine wpL_assign (v := .slice (some ⟨g127, 0, none⟩) (i + 1) g127c) (by rfl) (by rfl) (by rfl) ?_
      simp only [putT, List.set]
      refine wpL_nil (no_panic ?_)
      refine hK123 _ _ ?_
      refine wp_region_seq ?_
      refine wpL_move (v := .int .i64 ((r : Nat) : Int)) (by rfl) (by rfl) (by rfl) ?_
      simp only [putT, List.set]
      refine wpL_move (v := .int .i64 ((k : Nat) : Int)) (by rfl) (by rfl) (by rfl) ?_
      simp only [putT, List.set]
      refine wpL_chunk 1 (by rfl) (fun Lk hLk => ?_)
      simp only [List.take, List.drop]
      refine wpV_bin (v := .int .i64 ((r - k : Nat) : Int)) (by rfl) rfl rfl rfl (fun W => run_sub (by simp only [IntKind.wrap_i64]; omega) W) ?_
      simp only [putT, List.set]
      refine wpV_nil (hLk _ (fun w130 Sw130 => ?_))
      clear hLk Lk
      simp only [List.take, List.drop]
      replace M := M.sees Sw130
      refine wpL_assign (v := .int .i64 ((r - k : Nat) : Int)) (by rfl) (by rfl) (by rfl) ?_
      simp only [putT, List.set]
      refine wpL_nil (no_panic ?_)
      refine hK103 _ _ ?_
      refine wp_region_seq ?_
      refine wpL_chunk 1 (by rfl) (fun Lk hLk => ?_)
      simp only [List.take, List.drop]
      refine wpV_bin (v := .int .i64 ((i + 1 : Nat) : Int)) (by rfl) rfl rfl rfl (fun W => run_add (by simp only [IntKind.wrap_i64]; omega) W) ?_
      simp only [putT, List.set]
      refine wpV_nil (hLk _ (fun w132 Sw132 => ?_))
      clear hLk Lk
      simp only [List.take, List.drop]
      replace M := M.sees Sw132
      refine wpL_move (v := .int .i64 ((i + 1 : Nat) : Int)) (by rfl) (by rfl) (by rfl) ?_
      simp only [putT, List.set]
      refine wpL_nil (no_panic ?_)
      refine Exists.intro _ ⟨?_, (i + 1), (r - k), (Sz ++ [k]), g121, g121c, g127, g127c, (fun q9 => (#[undef, undef, undef, undef, undef, undef, undef, undef, undef, .string (bs (ps.getD i [])), .int .i64 ((k : Nat) : Int), undef, undef, undef, undef, undef, undef, undef, undef, undef, undef, .bool true, .pointer (ap.map (·.add i)), .string (bs (ps.getD i [])), .int .i64 ((k : Nat) : Int), .int .i64 ((2 * k : Nat) : Int), .int .i64 ((r : Nat) : Int), .bool false, u110 28, u110 29, .slice (some ⟨o, 0, none⟩) i oc, .string (bs (ps.getD i [])), .slice (some ⟨g119, 0, none⟩) 1 1, .slice (some ⟨g121, 0, none⟩) (i + 1) g121c, .slice (some ⟨z, 0, none⟩) i zc, .int .i64 ((k : Nat) : Int), .slice (some ⟨g125, 0, none⟩) 1 1, .slice (some ⟨g127, 0, none⟩) (i + 1) g127c, .int .i64 ((r : Nat) : Int), .int .i64 ((k : Nat) : Int), .int .i64 ((r - k : Nat) : Int), .int .i64 ((i + 1 : Nat) : Int)] : Array Value).getD q9 undef), rfl, rfl, (M.pick [2, 3, 4, 5] (by decide) rfl), Cg121, Cg127, (by omega), (szL_step hS hr0 hkb), (by rw [List.length_append, hSl]; rfl), (by omega)⟩
      omega
    · skip
      have h2k : 2 * k ≤ r := of_decide_eq_true hc116
      refine wp_cond_true rfl ?_
      refine wp_skip ?_
      refine hK112 _ _ ?_
      refine wp_block ?_
      refine wp_region_seq ?_
      refine wpL_move (v := .int .i64 ((k : Nat) : Int)) (by rfl) (by rfl) (by rfl) ?_
      simp only [putT, List.set]
      refine wpL_chunk 1 (by rfl) (fun Lk hLk => ?_)
      simp only [List.take, List.drop]
      refine wpV_bin (v := .int .i64 ((2 * k : Nat) : Int)) (by rfl) rfl rfl rfl (fun W => run_mul (by simp only [IntKind.wrap_i64]; omega) W) ?_
      simp only [putT, List.set]
      refine wpV_nil (hLk _ (fun w134 Sw134 => ?_))
      clear hLk Lk
      simp only [List.take, List.drop]
      replace M := M.sees Sw134
      refine wpL_assign (v := .int .i64 ((2 * k : Nat) : Int)) (by rfl) (by rfl) (by rfl) ?_
      simp only [putT, List.set]
      refine wpL_nil (no_panic ?_)
      refine Exists.intro _ ⟨?_, (2 * k), (j + 1), (fun q9 => (#[undef, undef, undef, undef, undef, undef, undef, undef, undef, undef, undef, undef, undef, undef, undef, undef, undef, undef, undef, undef, undef, undef, undef, undef, .int .i64 ((k : Nat) : Int), .int .i64 ((2 * k : Nat) : Int), .int .i64 ((r : Nat) : Int), .bool true, .int .i64 ((k : Nat) : Int), .int .i64 ((2 * k : Nat) : Int)] : Array Value).getD q9 undef), rfl, rfl, M, (by rw [hk, Nat.pow_succ, Nat.mul_comm]), h2k⟩
      omega
end Go.Proofs.Yb

