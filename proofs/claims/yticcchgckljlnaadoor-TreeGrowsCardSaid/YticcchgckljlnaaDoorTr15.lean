import Derived.WalkKit
import Derived.WalkSpells
import Derived.Laws.Pointers
import Derived.RowKit3
import Derived.Below
import Derived.Outline
import Derived.LoopN
import Derived.Lib.Hide
import Derived.Handy
import Derived.Laws.Bits64b
import Derived.Test.YticcchgckljlnaaDoorTr13
import Derived.Test.YticcchgckljlnaaDoorTr14
set_option linter.unusedSimpArgs false
set_option linter.unusedVariables false
namespace Go.Proofs.Yb
open Go Go.RowKit Go.Proofs.Num
attribute [local irreducible] wpV wpN wpList
theorem grow_step {ds : List (List UInt8)} {j k m : Nat} (e : j = k) (hk : k < ds.length) : scells (lvD m ds j) ++ [.string (bs (leafS (cut (ds.getD k []) m)))] = scells (lvD m ds (j + 1)) := by
  subst e
  rw [← lvD_step hk]
  exact scells_app _ [_]
theorem grow_step0 {ds : List (List UInt8)} {m : Nat} (hk : 0 < ds.length) : [.string (bs (leafS (cut (ds.getD 0 []) m)))] = scells (lvD m ds 1) := grow_step (k := 0) rfl hk
theorem take_part {L : List (List UInt8)} {a b : Nat} (h : a ≤ b) : L.take a ++ (L.take b).drop a = L.take b := by
  have e : L.take a = (L.take b).take a := by rw [List.take_take, Nat.min_eq_left h]
  rw [e, List.take_append_drop]
theorem cut_end {Lc : List Int} {m : List (List UInt8)} {k a b : Nat} (hLe : Lc.getD (Lc.length - 1) 0 = ((m.length : Nat) : Int)) (hk : k = Lc.length - 1) (hb : min (max (Lc.getD k 0) ((a : Nat) : Int)) ((m.length : Nat) : Int) = (b : Int)) (h2 : b ≤ m.length) : b = m.length := by
  subst hk
  rw [hLe] at hb
  omega
set_option maxRecDepth 100000 in
set_option maxHeartbeats 4000000 in
theorem grows_c {ds : List (List UInt8)} {ap : Option Addr} {np cp : Nat} {cuts : List Int} {aq : Option Addr} {nq cq : Nat} {w : World} (hds : ds.length ≤ 9223372036854775807) (Hp : RowA w ap np cp (scells ds)) (L0 : 0 < w.heap.size) (R0_0 : w.rangeAt 0 0 kcells) (Hq : RowA w aq nq cq (icells cuts)) :
    Calls Tryd.prog 14 #[.slice ap np cp, .slice aq nq cq] w fun e w' => e = .returned (.bool true) ∧ Below w.heap.size w w' := by
  obtain rfl : np = ds.length := by have := Hp.len; rwa [scells_len] at this
  obtain rfl : nq = cuts.length := by have := Hq.len; rwa [icells_len] at this
  go_enter Tryd.func14, Tryd.ntmps14
  have M := Mem.start w
  refine wp_seq_k (fun K1 hK1 => ?_)
  refine wp_region_seq ?_
  refine wpL_assign (v := .bool false) (by rfl) (by rfl) (by rfl) ?_
  simp only [putT, List.set]
  refine wpL_nil (no_panic ?_)
  refine hK1 _ _ ?_
  refine wp_seq_k (fun K3 hK3 => ?_)
  refine wp_region_seq ?_
  refine wpL_assign (v := (.slice none 0 0)) (by rfl) (by rfl) (by rfl) ?_
  simp only [putT, List.set]
  refine wpL_nil (no_panic ?_)
  refine hK3 _ _ ?_
  refine wp_seq_k (fun K5 hK5 => ?_)
  have HK5 : ∀ (L : List (List UInt8)) (al : Option Addr) (nl : Nat) (cl : Nat) (u5 : Nat → Value) (W9 : World), (L.length ≤ 70) → (∀ s ∈ L, s.length = 32) → Mem [] w W9 [] → RowN [] W9 al nl cl (scells L) → K5 { tmps := #[.slice ap ds.length cp, .slice aq cuts.length cq, undef, undef, .bool false, .slice al nl cl, u5 6, u5 7, undef, undef, undef, undef, undef, undef, undef, undef, undef, undef, undef, u5 19, u5 20, u5 21, u5 22, u5 23, u5 24, u5 25, u5 26, u5 27, u5 28, u5 29, u5 30, u5 31, u5 32, u5 33, u5 34, u5 35, u5 36, u5 37, undef, undef, undef, undef, undef, undef, undef, undef, undef, undef, undef, undef, undef, undef, undef, undef, undef, undef, undef, undef, undef, undef, undef, undef, undef, undef, undef, undef, undef, undef, undef, undef, undef, undef, undef, undef, undef, undef, undef, undef, undef, undef, undef, undef, undef, undef, undef, undef, undef, undef, undef, undef, undef, undef, undef, undef, undef, undef, undef, undef, undef, undef, undef, undef, undef, undef, undef, undef, undef, undef, undef, undef, undef, undef, undef, undef, undef, undef, undef, undef, undef, undef, undef, undef, undef, undef], defers := [] } W9 := by
    clear M
    intro L al nl cl u5 W9 hLl70 hL32 M Hl
    obtain ⟨w6, rfl⟩ : ∃ W8, W8 = W9 := ⟨_, rfl⟩
    have Mx7 := M
    replace R0_0 := (M.oldR R0_0 L0)
    replace L0 := Mx7.oldL L0
    replace Hp := Mx7.oldA Hp
    replace Hq := Mx7.oldA Hq
    replace M : Mem [] w6 w6 [] := Mx7.again
    obtain rfl : nl = L.length := by have h9 := Hl.row.len; rwa [scells_len] at h9
    replace Hl := Hl.row
    refine hK5 _ _ ?_
    refine wp_seq_k (fun K8 hK8 => ?_)
    refine wp_region_seq ?_
    refine wpL_chunk 1 (by rfl) (fun Lk hLk => ?_)
    simp only [List.take, List.drop]
    refine wpV_val (v := .agg ([.int .i64 0, .slice none 0 0]).toArray) (by rfl) (by rfl) (fun W hW => ?_) ?_
    · (unfold RunsVal; kernel_rfl)
    simp only [putT, List.set]
    refine wpV_nil (hLk _ (fun w10 Sw10 => ?_))
    clear hLk Lk
    simp only [List.take, List.drop]
    replace M := M.sees Sw10
    refine wpL_var (t := 66) (cs := [.int .i64 0, .slice none 0 0]) (by rfl) (fun W => ?_) (fun g11 w12 Sw12 Hg11 Bg11 => ?_)
    · go_simp
    replace M := ((M.sees Sw12).add (N := 2) (cs := [.int .i64 0, .slice none 0 0]) (M.ge Hg11) (M.fresh Hg11) Bg11 rfl)
    clear Bg11
    simp only [putT, List.set]
    refine wpL_store (g := g11) (off := 0) (n := 2) (cs := [.int .i64 0, .slice none 0 0]) (by rfl) (by rfl) (by rfl) (by rfl) (by rfl) (M.t 0 rfl) (by simp [flen]) info66 (by simp [fone, Value.oneCell']) (fun w13 P R T => ?_)
    replace M := M.putS 0 0 rfl P R T rfl ⟨.inl rfl, trivial⟩
    simp only [List.set] at M
    refine wpL_assign (v := .int .i64 0) (by rfl) (by rfl) (by rfl) ?_
    simp only [putT, List.set]
    refine wpL_nil (no_panic ?_)
    refine hK8 _ _ ?_
    refine wp_seq_k (fun K14 hK14 => ?_)
    refine wp_seq_k (fun K15 hK15 => ?_)
    obtain ⟨Lc, hLc⟩ : ∃ Lc, Lc = cuts.take (min cuts.length 20) ++ [((L.length : Nat) : Int)] := ⟨_, rfl⟩
    have hLl : Lc.length = min cuts.length 20 + 1 := by rw [hLc, List.length_append, List.length_take]; simp
    have hLe : Lc.getD (Lc.length - 1) 0 = ((L.length : Nat) : Int) := by rw [hLl, hLc]; simp [List.getD_eq_getElem?_getD, List.getElem?_append_right]
    refine wp_region_seq ?_
    refine wpL_row0 (by rfl) (by rfl) Tryd.underlying47 info3 (fun g17 w18 Sw18 Hg17 Bg17 => ?_)
    replace M := ((M.sees Sw18).add (N := 0) (cs := icells []) (M.ge Hg17) (M.fresh Hg17) Bg17 rfl)
    clear Bg17
    simp only [putT, List.set]
    refine wpL_move (v := .slice aq cuts.length cq) (by rfl) (by rfl) (by rfl) ?_
    simp only [putT, List.set]
    refine wpL_move (v := .slice aq cuts.length cq) (by rfl) (by rfl) (by rfl) ?_
    simp only [putT, List.set]
    refine wpL_chunk 3 (by rfl) (fun Lk hLk => ?_)
    simp only [List.take, List.drop]
    refine wpV_lenA (n := cuts.length) (by rfl) rfl rfl rfl Tryd.underlying47 ?_
    simp only [putT, List.set]
    refine wpV_min (n := cuts.length) (m := 20) (by rfl) rfl rfl rfl ?_
    simp only [putT, List.set]
    refine wpV_slcH (hi := min cuts.length 20) (by rfl) rfl rfl rfl Tryd.underlying47 info3 (Nat.le_trans (by omega) (M.oldA Hq).cap) ?_
    simp only [putT, List.set]
    refine wpV_nil (hLk _ (fun w19 Sw19 => ?_))
    clear hLk Lk
    simp only [List.take, List.drop]
    replace M := M.sees Sw19
    refine wpL_appendA (n := 0) (m := min cuts.length 20) (olds := icells []) (news := icells (cuts.take (min cuts.length 20))) (z := .int .i64 0) (bytes := 8) (by rfl) (by rfl) (by rfl) (by rfl) Tryd.underlying47 (by kernel_rfl) rfl rfl rfl (Nat.le_refl _) (M.r 0 0 rfl rfl) (M.t 0 rfl) (M.lt 0 rfl) (((M.oldA Hq).take (by omega)).eq (icells_take2 _ _)) (icells_one _) (by omega) (by simp only [maxLen]; omega) (fun g20 g20c w21 Sw21 Q Cg20 R T L => ?_)
    replace M := M.grow 0 rfl Sw21 Q R T L
    simp only [List.set] at M
    clear Q R T L
    rw [show icells [] ++ icells (cuts.take (min cuts.length 20)) = icells (cuts.take (min cuts.length 20)) from rfl] at M
    rw [Nat.zero_add] at Cg20
    rw [Nat.zero_add]
    simp only [putT, List.set]
    refine wpL_move (v := .slice al L.length cl) (by rfl) (by rfl) (by rfl) ?_
    simp only [putT, List.set]
    refine wpL_chunk 1 (by rfl) (fun Lk hLk => ?_)
    simp only [List.take, List.drop]
    refine wpV_lenA (n := L.length) (by rfl) rfl rfl rfl Tryd.underlying48 ?_
    simp only [putT, List.set]
    refine wpV_nil (hLk _ (fun w22 Sw22 => ?_))
    clear hLk Lk
    simp only [List.take, List.drop]
    replace M := M.sees Sw22
    refine wpL_rowN (vs := [.int .i64 ((L.length : Nat) : Int)]) (z := .int .i64 0) (bytes := 8) (by rfl) (by rfl) Tryd.underlying47 (by kernel_rfl) (by decide) (by kernel_rfl) (fun g23 w24 Sw24 Hg23 Bg23 => ?_)
    replace M := ((M.sees Sw24).add (N := 1) (cs := [.int .i64 ((L.length : Nat) : Int)]) (M.ge Hg23) (M.fresh Hg23) Bg23 rfl)
    clear Bg23
    simp only [putT, List.set]
    refine wpL_append (n := min cuts.length 20) (m := 1) (olds := icells (cuts.take (min cuts.length 20))) (news := [.int .i64 ((L.length : Nat) : Int)]) (z := .int .i64 0) (bytes := 8) (by rfl) (by rfl) (by rfl) (by rfl) Tryd.underlying47 (by kernel_rfl) rfl rfl (by rw [icells_len, List.length_take]; omega) rfl (M.r 1 0 rfl rfl) (M.t 1 rfl) (M.lt 1 rfl) (M.r 0 0 rfl rfl) (by intro u hu; rw [List.mem_singleton.1 hu]; rfl) (by omega) (by simp only [maxLen]; omega) (fun g25 g25c w26 Sw26 Q Cg25 R T L => ?_)
    replace M := M.grow 1 rfl Sw26 Q R T L
    simp only [List.set] at M
    clear Q R T L
    rw [show icells (cuts.take (min cuts.length 20)) ++ [.int .i64 ((L.length : Nat) : Int)] = icells Lc from by rw [hLc]; simp [icells]] at M
    simp only [putT, List.set]
    refine wpL_chunk 1 (by rfl) (fun Lk hLk => ?_)
    simp only [List.take, List.drop]
    refine wpV_lenA (n := min cuts.length 20 + 1) (by rfl) rfl rfl rfl Tryd.underlying47 ?_
    simp only [putT, List.set]
    refine wpV_nil (hLk _ (fun w27 Sw27 => ?_))
    clear hLk Lk
    simp only [List.take, List.drop]
    replace M := M.sees Sw27
    refine wpL_move (v := .int .i64 0) (by rfl) (by rfl) (by rfl) ?_
    simp only [putT, List.set]
    refine wpL_nil (no_panic ?_)
    refine hK15 _ _ ?_
    refine wp_block ?_
    refine wp_loop_ghost (fun n9 a9 W9 => ∃ (i : Nat) (at0 : Nat) (ar : Option Addr) (nr : Nat) (cr : Nat) (u28 : Nat → Value), n9 = 2 * (min cuts.length 20 + 1 - i) ∧ a9 = { tmps := #[.slice ap ds.length cp, .slice aq cuts.length cq, undef, undef, u28 4, .slice al L.length cl, u5 6, u5 7, .pointer (some ⟨g11, 0, none⟩), .int .i64 ((at0 : Nat) : Int), undef, u28 11, u28 12, u28 13, u28 14, u28 15, u28 16, u28 17, u28 18, u5 19, u5 20, u5 21, u5 22, u5 23, u5 24, u5 25, u5 26, u5 27, u5 28, u5 29, u5 30, u5 31, u5 32, u5 33, u5 34, u5 35, u5 36, u5 37, .agg ([.int .i64 0, .slice none 0 0]).toArray, .slice (some ⟨g17, 0, none⟩) 0 0, .slice aq cuts.length cq, .slice aq cuts.length cq, .int .i64 ((cuts.length : Nat) : Int), .int .i64 ((min cuts.length 20 : Nat) : Int), .slice aq (min cuts.length 20) cq, .slice (some ⟨g20, 0, none⟩) (min cuts.length 20) g20c, .slice al L.length cl, .int .i64 ((L.length : Nat) : Int), .slice (some ⟨g23, 0, none⟩) 1 1, .slice (some ⟨g25, 0, none⟩) (min cuts.length 20 + 1) g25c, .int .i64 ((min cuts.length 20 + 1 : Nat) : Int), .int .i64 ((i : Nat) : Int), u28 52, u28 53, u28 54, u28 55, u28 56, u28 57, u28 58, u28 59, u28 60, u28 61, u28 62, u28 63, u28 64, u28 65, u28 66, u28 67, u28 68, u28 69, u28 70, u28 71, u28 72, u28 73, u28 74, u28 75, u28 76, u28 77, u28 78, u28 79, u28 80, u28 81, u28 82, u28 83, u28 84, u28 85, u28 86, u28 87, u28 88, u28 89, u28 90, u28 91, u28 92, u28 93, u28 94, u28 95, u28 96, u28 97, u28 98, u28 99, u28 100, u28 101, u28 102, u28 103, u28 104, u28 105, u28 106, u28 107, u28 108, u28 109, u28 110, u28 111, u28 112, u28 113, u28 114, u28 115, undef, undef, undef, undef, undef, undef, undef, undef], defers := [] } ∧ Mem [] w6 W9 [⟨g25, g25c, [(0, icells Lc)]⟩, ⟨g11, 2, [(0, [.int .i64 ((at0 : Nat) : Int), .slice ar nr cr])]⟩] ∧ (i ≤ min cuts.length 20 + 1) ∧ (at0 ≤ L.length) ∧ (i = min cuts.length 20 + 1 → at0 = L.length) ∧ RowN [g25, g11] W9 ar nr cr (scells (partsL (L.take at0)))) (2 * (min cuts.length 20 + 1 - (0))) ?_ (fun n9 a9 W9 hI => ?_)
    · exact ⟨0, 0, none, 0, 0, (fun q9 => (#[undef, undef, undef, undef, .bool false, undef, undef, undef, undef, undef, undef, undef, undef, undef, undef, undef, undef, undef, undef, undef, undef, undef, undef, undef, undef, undef, undef, undef, undef, undef, undef, undef, undef, undef, undef, undef, undef, undef, undef, undef, undef, undef, undef, undef, undef, undef, undef, undef, undef, undef, undef, undef, undef, undef, undef, undef, undef, undef, undef, undef, undef, undef, undef, undef, undef, undef, undef, undef, undef, undef, undef, undef, undef, undef, undef, undef, undef, undef, undef, undef, undef, undef, undef, undef, undef, undef, undef, undef, undef, undef, undef, undef, undef, undef, undef, undef, undef, undef, undef, undef, undef, undef, undef, undef, undef, undef, undef, undef, undef, undef, undef, undef, undef, undef, undef, undef] : Array Value).getD q9 undef), rfl, rfl, (M.pick [1, 2] (by decide) rfl), (Nat.zero_le _), (Nat.zero_le _), (fun e => absurd e (by omega)), (RowN.nil.eq (by rw [List.take_zero, partsL_0]; rfl))⟩
    clear M
    obtain ⟨i, at0, ar, nr, cr, u28, rfl, rfl, M, hi, hat, hend, Hr⟩ := hI
    obtain ⟨w29, rfl⟩ : ∃ W8, W8 = W9 := ⟨_, rfl⟩
    have Mx30 := M
    replace R0_0 := (M.oldR R0_0 L0)
    have NI0 : 0 ∉ [g25, g11] := Mx30.oldNe L0 List.not_mem_nil
    replace L0 := Mx30.oldL L0
    replace Hp := Mx30.notins Hp
    simp only [List.map_cons, List.map_nil] at Hp
    replace Hq := Mx30.notins Hq
    simp only [List.map_cons, List.map_nil] at Hq
    replace Hl := Mx30.notins Hl
    simp only [List.map_cons, List.map_nil] at Hl
    replace M : Mem [g25, g11] w29 w29 [⟨g25, g25c, [(0, icells Lc)]⟩, ⟨g11, 2, [(0, [.int .i64 ((at0 : Nat) : Int), .slice ar nr cr])]⟩] := Mx30.again
    obtain rfl : nr = (partsL (L.take at0)).length := by have h9 := Hr.row.len; rwa [scells_len] at h9
    refine wp_seq_k (fun K31 hK31 => ?_)
    refine wp_region_seq ?_
    refine wpL_chunk 1 (by rfl) (fun Lk hLk => ?_)
    simp only [List.take, List.drop]
    refine wpV_bin (v := .bool (decide (i < min cuts.length 20 + 1))) (by rfl) rfl rfl rfl (fun W => run_lssN i (min cuts.length 20 + 1) _ _ W) ?_
    simp only [putT, List.set]
    refine wpV_nil (hLk _ (fun w33 Sw33 => ?_))
    clear hLk Lk
    simp only [List.take, List.drop]
    replace M := M.sees Sw33
    refine wpL_nil (no_panic ?_)
    refine hK31 _ _ ?_
    refine wp_seq_k (fun K34 hK34 => ?_)
    cases hc35 : (decide (i < min cuts.length 20 + 1))
    · skip
      have ei : i = min cuts.length 20 + 1 := by have := of_decide_eq_false hc35; omega
      obtain rfl := hend ei
      refine wp_cond_false rfl ?_
      refine wp_exit ?_
      refine hK14 _ _ ?_
      refine wp_seq_k (fun K36 hK36 => ?_)
      refine wp_region_seq ?_
      refine wpL_chunk 8 (by rfl) (fun Lk hLk => ?_)
      simp only [List.take, List.drop]
      refine wpV_callf (v := .bool true) (args := #[]) (by rfl) rfl Tryd.func44 (by kernel_rfl) (by kernel_rfl) rfl (fun W hW => alive08_c ((M.sees hW).oldL L0) ((M.sees hW).oldG R0_0 L0 NI0)) ?_
      simp only [putT, List.set]
      refine wpV_move (v := .bool true) (by rfl) rfl rfl ?_
      simp only [putT, List.set]
      refine wpV_val (v := .pointer (some ⟨g11, 0, none⟩)) (by rfl) (by rfl) (fun W hW => ?_) ?_
      · (go_simp; exact rfl)
      simp only [putT, List.set]
      refine wpV_load1 (v := .int .i64 ((L.length : Nat) : Int)) (by rfl) rfl rfl (range_one (range_sub (M.r 1 0 rfl rfl) 0 1 0 (xs := [.int .i64 ((L.length : Nat) : Int)]) rfl rfl)) (M.lt 1 rfl) Tryd.underlying3 rfl ?_
      simp only [putT, List.set]
      refine wpV_move (v := .slice al L.length cl) (by rfl) rfl rfl ?_
      simp only [putT, List.set]
      refine wpV_lenA (n := L.length) (by rfl) rfl rfl rfl Tryd.underlying48 ?_
      simp only [putT, List.set]
      refine wpV_bin (v := .bool true) (by rfl) rfl rfl rfl (fun W => (run_eqlN L.length L.length _ _ W).trans (by rw [(decide_eq_true rfl)])) ?_
      simp only [putT, List.set]
      refine wpV_pick (v := .bool true) (by rfl) rfl rfl rfl ?_
      simp only [putT, List.set]
      refine wpV_nil (hLk _ (fun w38 Sw38 => ?_))
      clear hLk Lk
      simp only [List.take, List.drop]
      replace M := M.sees Sw38
      refine wpL_assign (v := .bool true) (by rfl) (by rfl) (by rfl) ?_
      simp only [putT, List.set]
      refine wpL_nil (no_panic ?_)
      refine hK36 _ _ ?_
      refine wp_ret ?_
      repeat (first | with_reducible refine then_ret ?_ | with_reducible refine inblock_ret ?_)
      replace M := Mx30.comp M
      replace M := Mx7.comp M
      refine bodyPost_ret (v := .bool true) (res1 rfl (.tmp (by rfl))) rfl ?_
      have BE := M.below
      exact ⟨rfl, BE⟩
    · skip
      have hi1 : i < min cuts.length 20 + 1 := of_decide_eq_true hc35
      refine wp_cond_true rfl ?_
      refine wp_skip ?_
      refine hK34 _ _ ?_
      refine wp_seq_k (fun K39 hK39 => ?_)
      refine wp_block ?_
      refine wp_seq_k (fun K40 hK40 => ?_)
      refine wp_region_seq ?_
      refine wpL_chunk 2 (by rfl) (fun Lk hLk => ?_)
      simp only [List.take, List.drop]
      refine wpV_idxs (n := i) (by rfl) rfl rfl rfl Tryd.underlying47 info3 (by omega) ?_
      simp only [Nat.zero_add]
      simp only [putT, List.set]
      refine wpV_load1 (v := .int .i64 (Lc.getD i 0)) (by rfl) rfl rfl (zadd ((M.r 0 0 rfl rfl) _ _ (icells_get (l := Lc) (by omega)))) (M.lt 0 rfl) Tryd.underlying3 rfl ?_
      simp only [putT, List.set]
      refine wpV_nil (hLk _ (fun w42 Sw42 => ?_))
      clear hLk Lk
      simp only [List.take, List.drop]
      replace M := M.sees Sw42
      refine wpL_assign (v := .int .i64 (Lc.getD i 0)) (by rfl) (by rfl) (by rfl) ?_
      simp only [putT, List.set]
      refine wpL_nil (no_panic ?_)
      refine hK40 _ _ ?_
      refine wp_seq_k (fun K43 hK43 => ?_)
      obtain ⟨b, hbz, hb1, hb2⟩ : ∃ b : Nat, min (max (Lc.getD i 0) ((at0 : Nat) : Int)) ((L.length : Nat) : Int) = (b : Int) ∧ at0 ≤ b ∧ b ≤ L.length := ⟨(min (max (Lc.getD i 0) ((at0 : Nat) : Int)) ((L.length : Nat) : Int)).toNat, by omega, by omega, by omega⟩
      have hbe : i = min cuts.length 20 → b = L.length := fun e9 => cut_end hLe (by rw [hLl]; omega) hbz hb2
      refine wp_region_seq ?_
      refine wpL_move (v := .int .i64 (Lc.getD i 0)) (by rfl) (by rfl) (by rfl) ?_
      simp only [putT, List.set]
      refine wpL_move (v := .int .i64 ((at0 : Nat) : Int)) (by rfl) (by rfl) (by rfl) ?_
      simp only [putT, List.set]
      refine wpL_chunk 4 (by rfl) (fun Lk hLk => ?_)
      simp only [List.take, List.drop]
      refine wpV_maxZ (m := (Lc.getD i 0)) (n := ((at0 : Nat) : Int)) (e := max (Lc.getD i 0) ((at0 : Nat) : Int)) (by rfl) rfl rfl rfl rfl ?_
      simp only [putT, List.set]
      refine wpV_move (v := .slice al L.length cl) (by rfl) rfl rfl ?_
      simp only [putT, List.set]
      refine wpV_lenA (n := L.length) (by rfl) rfl rfl rfl Tryd.underlying48 ?_
      simp only [putT, List.set]
      refine wpV_minZ (m := (max (Lc.getD i 0) ((at0 : Nat) : Int))) (n := ((L.length : Nat) : Int)) (e := ((b : Nat) : Int)) (by rfl) rfl rfl rfl hbz ?_
      simp only [putT, List.set]
      refine wpV_nil (hLk _ (fun w45 Sw45 => ?_))
      clear hLk Lk
      simp only [List.take, List.drop]
      replace M := M.sees Sw45
      refine wpL_assign (v := .int .i64 ((b : Nat) : Int)) (by rfl) (by rfl) (by rfl) ?_
      simp only [putT, List.set]
      refine wpL_nil (no_panic ?_)
      refine hK43 _ _ ?_
      refine wp_seq_k (fun K46 hK46 => ?_)
      have HK46 : ∀ (gx : Nat) (ax : Option Addr) (nx : Nat) (cx : Nat) (u46 : Nat → Value) (W9 : World), Mem [g25, g11] w29 W9 [⟨g25, g25c, [(0, icells Lc)]⟩, ⟨g11, 2, [(0, [.int .i64 ((at0 : Nat) : Int), .slice ar ((partsL (L.take at0)).length) cr])]⟩, ⟨gx, 2, [(0, [.int .i64 ((b : Nat) : Int), .slice ax nx cx])]⟩] → RowN [g25, g11, gx] W9 ax nx cx (scells (partsL (L.take b))) → K46 { tmps := #[.slice ap ds.length cp, .slice aq cuts.length cq, undef, undef, u28 4, .slice al L.length cl, u5 6, u5 7, .pointer (some ⟨g11, 0, none⟩), .int .i64 ((at0 : Nat) : Int), undef, .int .i64 (Lc.getD i 0), .int .i64 ((b : Nat) : Int), .pointer (some ⟨gx, 0, none⟩), .int .i64 0, u28 15, u28 16, u28 17, u28 18, u5 19, u5 20, u5 21, u5 22, u5 23, u5 24, u5 25, u5 26, u5 27, u5 28, u5 29, u5 30, u5 31, u5 32, u5 33, u5 34, u5 35, u5 36, u5 37, .agg ([.int .i64 0, .slice none 0 0]).toArray, .slice (some ⟨g17, 0, none⟩) 0 0, .slice aq cuts.length cq, .slice aq cuts.length cq, .int .i64 ((cuts.length : Nat) : Int), .int .i64 ((min cuts.length 20 : Nat) : Int), .slice aq (min cuts.length 20) cq, .slice (some ⟨g20, 0, none⟩) (min cuts.length 20) g20c, .slice al L.length cl, .int .i64 ((L.length : Nat) : Int), .slice (some ⟨g23, 0, none⟩) 1 1, .slice (some ⟨g25, 0, none⟩) (min cuts.length 20 + 1) g25c, .int .i64 ((min cuts.length 20 + 1 : Nat) : Int), .int .i64 ((i : Nat) : Int), .bool true, .pointer (some ⟨g25, i, none⟩), .int .i64 (Lc.getD i 0), .int .i64 (Lc.getD i 0), .int .i64 ((at0 : Nat) : Int), .int .i64 (max (Lc.getD i 0) ((at0 : Nat) : Int)), .slice al L.length cl, .int .i64 ((L.length : Nat) : Int), .int .i64 ((b : Nat) : Int), u46 61, u46 62, u46 63, u46 64, u46 65, u46 66, u46 67, u46 68, u46 69, u28 70, u28 71, u28 72, u28 73, u28 74, u28 75, u28 76, u28 77, u28 78, u28 79, u28 80, u28 81, u28 82, u28 83, u28 84, u28 85, u28 86, u28 87, u28 88, u28 89, u28 90, u28 91, u28 92, u28 93, u28 94, u28 95, u28 96, u28 97, u28 98, u28 99, u28 100, u28 101, u28 102, u28 103, u28 104, u28 105, u28 106, u28 107, u28 108, u28 109, u28 110, u28 111, u28 112, u28 113, u28 114, u28 115, undef, undef, undef, undef, undef, undef, undef, undef], defers := [] } W9 := by
        clear M
        intro gx ax nx cx u46 W9 M Hx
        obtain ⟨w47, rfl⟩ : ∃ W8, W8 = W9 := ⟨_, rfl⟩
        have Mx48 := M
        replace R0_0 := (M.oldG R0_0 L0 NI0)
        replace NI0 : 0 ∉ [g25, g11, gx] := Mx48.oldNe L0 NI0
        replace L0 := Mx48.oldL L0
        replace Hp := Mx48.notinsG Hp
        simp only [List.map_cons, List.map_nil] at Hp
        replace Hq := Mx48.notinsG Hq
        simp only [List.map_cons, List.map_nil] at Hq
        replace Hl := Mx48.notinsG Hl
        simp only [List.map_cons, List.map_nil] at Hl
        replace Hr := Mx48.notinsG Hr
        simp only [List.map_cons, List.map_nil] at Hr
        replace M : Mem [g25, g11, gx] w47 w47 [⟨g25, g25c, [(0, icells Lc)]⟩, ⟨g11, 2, [(0, [.int .i64 ((at0 : Nat) : Int), .slice ar ((partsL (L.take at0)).length) cr])]⟩, ⟨gx, 2, [(0, [.int .i64 ((b : Nat) : Int), .slice ax nx cx])]⟩] := Mx48.again
        obtain rfl : nx = (partsL (L.take b)).length := by have h9 := Hx.row.len; rwa [scells_len] at h9
        refine hK46 _ _ ?_
        refine wp_seq_k (fun K49 hK49 => ?_)
        refine wp_region_seq ?_
        refine wpL_chunk 5 (by rfl) (fun Lk hLk => ?_)
        simp only [List.take, List.drop]
        refine wpV_load (cs := [.int .i64 ((b : Nat) : Int), .slice ax ((partsL (L.take b)).length) cx]) (by rfl) rfl rfl (M.r 2 0 rfl rfl) (M.lt 2 rfl) Tryd.underlying66 rfl info66 ?_
        simp only [putT, List.set]
        refine wpV_callf (v := .tuple #[.string (bs (rootS (L.take b))), .int .i64 0]) (args := #[.agg ([.int .i64 ((b : Nat) : Int), .slice ax ((partsL (L.take b)).length) cx]).toArray]) (by rfl) rfl Tryd.func60 (by kernel_rfl) (by kernel_rfl) rfl (fun W hW => by with_reducible exact Sum_parts (L := L.take b) (m := b) (by rw [List.length_take]; omega) (by omega) (fun s9 h9 => hL32 s9 (List.mem_of_mem_take h9)) ((M.sees hW).oldL L0) ((M.sees hW).oldG R0_0 L0 NI0) ((M.sees hW).oldN Hx)) ?_
        simp only [putT, List.set]
        refine wpV_move (v := .tuple #[.string (bs (rootS (L.take b))), .int .i64 0]) (by rfl) rfl rfl ?_
        simp only [putT, List.set]
        refine wpV_extract (v := .string (bs (rootS (L.take b)))) (by rfl) rfl rfl rfl ?_
        simp only [putT, List.set]
        refine wpV_extract (v := .int .i64 0) (by rfl) rfl rfl rfl ?_
        simp only [putT, List.set]
        refine wpV_nil (hLk _ (fun w51 Sw51 => ?_))
        clear hLk Lk
        simp only [List.take, List.drop]
        replace M := M.sees Sw51
        refine wpL_assign (v := .string (bs (rootS (L.take b)))) (by rfl) (by rfl) (by rfl) ?_
        simp only [putT, List.set]
        refine wpL_assign (v := .int .i64 0) (by rfl) (by rfl) (by rfl) ?_
        simp only [putT, List.set]
        refine wpL_nil (no_panic ?_)
        refine hK49 _ _ ?_
        refine wp_seq_k (fun K52 hK52 => ?_)
        refine wp_region_seq ?_
        refine wpL_move (v := .slice al L.length cl) (by rfl) (by rfl) (by rfl) ?_
        simp only [putT, List.set]
        refine wpL_move (v := .int .i64 ((b : Nat) : Int)) (by rfl) (by rfl) (by rfl) ?_
        simp only [putT, List.set]
        refine wpL_chunk 5 (by rfl) (fun Lk hLk => ?_)
        simp only [List.take, List.drop]
        refine wpV_slcH (hi := b) (by rfl) rfl rfl rfl Tryd.underlying48 info9 (Nat.le_trans (by omega) (M.oldN Hl).cap) ?_
        simp only [putT, List.set]
        refine wpV_callf (v := .tuple #[.string (bs (rootS (L.take b))), .int .i64 0]) (args := #[.slice al b cl]) (by rfl) rfl Tryd.func37 (by kernel_rfl) (by kernel_rfl) rfl (fun W hW => by with_reducible exact Root_r (ps := L.take b) (right_of (fun s9 h9 => hL32 s9 (List.mem_of_mem_take h9)) (by rw [List.length_take]; omega)) ((M.sees hW).oldL L0) ((M.sees hW).oldG R0_0 L0 NI0) ((((M.sees hW).oldN Hl).take (by omega)).eq (scells_take2 _ _))) ?_
        simp only [putT, List.set]
        refine wpV_move (v := .tuple #[.string (bs (rootS (L.take b))), .int .i64 0]) (by rfl) rfl rfl ?_
        simp only [putT, List.set]
        refine wpV_extract (v := .string (bs (rootS (L.take b)))) (by rfl) rfl rfl rfl ?_
        simp only [putT, List.set]
        refine wpV_extract (v := .int .i64 0) (by rfl) rfl rfl rfl ?_
        simp only [putT, List.set]
        refine wpV_nil (hLk _ (fun w54 Sw54 => ?_))
        clear hLk Lk
        simp only [List.take, List.drop]
        replace M := M.sees Sw54
        refine wpL_assign (v := .string (bs (rootS (L.take b)))) (by rfl) (by rfl) (by rfl) ?_
        simp only [putT, List.set]
        refine wpL_assign (v := .int .i64 0) (by rfl) (by rfl) (by rfl) ?_
        simp only [putT, List.set]
        refine wpL_nil (no_panic ?_)
        refine hK52 _ _ ?_
        refine wp_seq_k (fun K55 hK55 => ?_)
        refine wp_seq_k (fun K56 hK56 => ?_)
        refine wp_region_addsF 31 [] [27] [ValRel (.int .i64 0), ValRel (.bool false), ValRel (.bool false), ValRel (.int .i64 0), ValRel (.bool false), ValRel (.bool false), ValRel (.bool false), ValRel (.int .i64 0), ValRel (.bool false), ValRel (.bool false), ValRel (.bool false), ValRel (.string (bs (rootS (L.take b)))), ValRel (.string (bs (rootS (L.take b)))), ValRel (.bool false), ValRel (.bool false), ValRel (.bool false), ValRel (.pointer (some ⟨gx, 0, none⟩)), ValRel (.int .i64 ((b : Nat) : Int)), ValRel (.int .i64 ((b : Nat) : Int)), ValRel (.bool false), ValRel (.bool false), ValRel (.bool false), ValRel (.pointer (some ⟨gx, 1, none⟩)), ValRel (.slice ax ((partsL (L.take b)).length) cx), ValRel (.slice al L.length cl), ValRel (.int .i64 ((b : Nat) : Int)), ValRel (.slice al b cl), NewRel w54 (fun gA gAc => .slice (some ⟨gA, 0, none⟩) ((partsL (L.take b)).length) gAc) ((partsL (L.take b)).length) [(0, scells (partsL (L.take b)))], ValRel (.bool true), ValRel (.bool false), ValRel (.bool false)] [[], [0], [1], [2], [2, 3], [2, 4], [5], [6], [6, 7], [6, 8], [9], [10], [10], [10, 11, 12], [10, 13], [14], [15], [15, 16], [15], [15, 17, 18], [15, 19], [20], [21], [21, 22], [21], [21], [21, 24, 25], [21, 26], [21, 23, 27], [21, 28], [21, 29]] (fun vs => { tmps := #[.slice ap ds.length cp, .slice aq cuts.length cq, undef, undef, u28 4, .slice al L.length cl, u5 6, u5 7, .pointer (some ⟨g11, 0, none⟩), .int .i64 ((at0 : Nat) : Int), undef, .int .i64 (Lc.getD i 0), .int .i64 ((b : Nat) : Int), .pointer (some ⟨gx, 0, none⟩), .int .i64 0, .string (bs (rootS (L.take b))), .int .i64 0, .string (bs (rootS (L.take b))), .int .i64 0, u5 19, u5 20, u5 21, u5 22, u5 23, u5 24, u5 25, u5 26, u5 27, u5 28, u5 29, u5 30, u5 31, u5 32, u5 33, u5 34, u5 35, u5 36, u5 37, .agg ([.int .i64 0, .slice none 0 0]).toArray, .slice (some ⟨g17, 0, none⟩) 0 0, .slice aq cuts.length cq, .slice aq cuts.length cq, .int .i64 ((cuts.length : Nat) : Int), .int .i64 ((min cuts.length 20 : Nat) : Int), .slice aq (min cuts.length 20) cq, .slice (some ⟨g20, 0, none⟩) (min cuts.length 20) g20c, .slice al L.length cl, .int .i64 ((L.length : Nat) : Int), .slice (some ⟨g23, 0, none⟩) 1 1, .slice (some ⟨g25, 0, none⟩) (min cuts.length 20 + 1) g25c, .int .i64 ((min cuts.length 20 + 1 : Nat) : Int), .int .i64 ((i : Nat) : Int), .bool true, .pointer (some ⟨g25, i, none⟩), .int .i64 (Lc.getD i 0), .int .i64 (Lc.getD i 0), .int .i64 ((at0 : Nat) : Int), .int .i64 (max (Lc.getD i 0) ((at0 : Nat) : Int)), .slice al L.length cl, .int .i64 ((L.length : Nat) : Int), .int .i64 ((b : Nat) : Int), u46 61, u46 62, u46 63, u46 64, u46 65, u46 66, u46 67, u46 68, u46 69, .tuple #[.string (bs (rootS (L.take b))), .int .i64 0], .agg ([.int .i64 ((b : Nat) : Int), .slice ax ((partsL (L.take b)).length) cx]).toArray, .tuple #[.string (bs (rootS (L.take b))), .int .i64 0], .string (bs (rootS (L.take b))), .int .i64 0, .tuple #[.string (bs (rootS (L.take b))), .int .i64 0], .slice al L.length cl, .int .i64 ((b : Nat) : Int), .slice al b cl, .tuple #[.string (bs (rootS (L.take b))), .int .i64 0], .string (bs (rootS (L.take b))), .int .i64 0, vs 0, vs 1, vs 2, vs 3, vs 4, vs 5, vs 6, vs 7, vs 8, vs 9, vs 10, vs 11, vs 12, vs 13, vs 14, vs 15, vs 16, vs 17, vs 18, vs 19, vs 20, vs 21, vs 22, vs 23, vs 24, vs 25, vs 26, vs 27, vs 28, vs 29, vs 30, u28 113, u28 114, u28 115, undef, undef, undef, undef, undef, undef, undef, undef], defers := [] }) (by kernel_rfl) (by kernel_rfl) (by kernel_rfl) (by kernel_rfl) (.cons keep_val (.cons keep_val (.cons keep_val (.cons keep_val (.cons keep_val (.cons keep_val (.cons keep_val (.cons keep_val (.cons keep_val (.cons keep_val (.cons keep_val (.cons keep_val (.cons keep_val (.cons keep_val (.cons keep_val (.cons keep_val (.cons keep_val (.cons keep_val (.cons keep_val (.cons keep_val (.cons keep_val (.cons keep_val (.cons keep_val (.cons keep_val (.cons keep_val (.cons keep_val (.cons keep_val (.cons keep_new (.cons keep_val (.cons keep_val (.cons keep_val AllKeep.nil))))))))))))))))))))))))))))))) (.free free_val (.free free_val (.free free_val (.free free_val (.free free_val (.free free_val (.free free_val (.free free_val (.free free_val (.free free_val (.free free_val (.free free_val (.free free_val (.free free_val (.free free_val (.free free_val (.free free_val (.free free_val (.free free_val (.free free_val (.free free_val (.free free_val (.free free_val (.free free_val (.free free_val (.free free_val (.free free_val (.free free_new (.free free_val (.free free_val (.free free_val AllLoc.nil))))))))))))))))))))))))))))))) (.cons own_new AllOwn.nil) (by kernel_rfl) ?_ ?_
        · skip
          simp only [List.take]
          refine RulesL.cons (fun vs => { tmps := #[.slice ap ds.length cp, .slice aq cuts.length cq, undef, undef, u28 4, .slice al L.length cl, u5 6, u5 7, .pointer (some ⟨g11, 0, none⟩), .int .i64 ((at0 : Nat) : Int), undef, .int .i64 (Lc.getD i 0), .int .i64 ((b : Nat) : Int), .pointer (some ⟨gx, 0, none⟩), .int .i64 0, .string (bs (rootS (L.take b))), .int .i64 0, .string (bs (rootS (L.take b))), .int .i64 0, u5 19, u5 20, u5 21, u5 22, u5 23, u5 24, u5 25, u5 26, u5 27, u5 28, u5 29, u5 30, u5 31, u5 32, u5 33, u5 34, u5 35, u5 36, u5 37, .agg ([.int .i64 0, .slice none 0 0]).toArray, .slice (some ⟨g17, 0, none⟩) 0 0, .slice aq cuts.length cq, .slice aq cuts.length cq, .int .i64 ((cuts.length : Nat) : Int), .int .i64 ((min cuts.length 20 : Nat) : Int), .slice aq (min cuts.length 20) cq, .slice (some ⟨g20, 0, none⟩) (min cuts.length 20) g20c, .slice al L.length cl, .int .i64 ((L.length : Nat) : Int), .slice (some ⟨g23, 0, none⟩) 1 1, .slice (some ⟨g25, 0, none⟩) (min cuts.length 20 + 1) g25c, .int .i64 ((min cuts.length 20 + 1 : Nat) : Int), .int .i64 ((i : Nat) : Int), .bool true, .pointer (some ⟨g25, i, none⟩), .int .i64 (Lc.getD i 0), .int .i64 (Lc.getD i 0), .int .i64 ((at0 : Nat) : Int), .int .i64 (max (Lc.getD i 0) ((at0 : Nat) : Int)), .slice al L.length cl, .int .i64 ((L.length : Nat) : Int), .int .i64 ((b : Nat) : Int), u46 61, u46 62, u46 63, u46 64, u46 65, u46 66, u46 67, u46 68, u46 69, .tuple #[.string (bs (rootS (L.take b))), .int .i64 0], .agg ([.int .i64 ((b : Nat) : Int), .slice ax ((partsL (L.take b)).length) cx]).toArray, .tuple #[.string (bs (rootS (L.take b))), .int .i64 0], .string (bs (rootS (L.take b))), .int .i64 0, .tuple #[.string (bs (rootS (L.take b))), .int .i64 0], .slice al L.length cl, .int .i64 ((b : Nat) : Int), .slice al b cl, .tuple #[.string (bs (rootS (L.take b))), .int .i64 0], .string (bs (rootS (L.take b))), .int .i64 0, u28 82, u28 83, u28 84, u28 85, u28 86, u28 87, u28 88, u28 89, u28 90, u28 91, u28 92, u28 93, u28 94, u28 95, u28 96, u28 97, u28 98, u28 99, u28 100, u28 101, u28 102, u28 103, u28 104, u28 105, u28 106, u28 107, u28 108, u28 109, u28 110, u28 111, u28 112, u28 113, u28 114, u28 115, undef, undef, undef, undef, undef, undef, undef, undef], defers := [] }) (by kernel_rfl) ?_ ?_
          · skip
            intro vs gs W58 SW58 D K9 hK9
            replace M := M.sees SW58
            dsimp only at hK9
            dsimp only
            refine wpL_move (v := .int .i64 0) (by rfl) (by rfl) (by rfl) ?_
            simp only [putT, List.set]
            refine wpL_nil (then_normal ?_)
            have h8 := hK9 (.int .i64 0)
            have h9 := h8 0 _ (sees_refl _) rfl (fun h => absurd h (by decide))
            simp only [putT, List.set] at h9
            exact h9
          refine RulesL.cons (fun vs => { tmps := #[.slice ap ds.length cp, .slice aq cuts.length cq, undef, undef, u28 4, .slice al L.length cl, u5 6, u5 7, .pointer (some ⟨g11, 0, none⟩), .int .i64 ((at0 : Nat) : Int), undef, .int .i64 (Lc.getD i 0), .int .i64 ((b : Nat) : Int), .pointer (some ⟨gx, 0, none⟩), .int .i64 0, .string (bs (rootS (L.take b))), .int .i64 0, .string (bs (rootS (L.take b))), .int .i64 0, u5 19, u5 20, u5 21, u5 22, u5 23, u5 24, u5 25, u5 26, u5 27, u5 28, u5 29, u5 30, u5 31, u5 32, u5 33, u5 34, u5 35, u5 36, u5 37, .agg ([.int .i64 0, .slice none 0 0]).toArray, .slice (some ⟨g17, 0, none⟩) 0 0, .slice aq cuts.length cq, .slice aq cuts.length cq, .int .i64 ((cuts.length : Nat) : Int), .int .i64 ((min cuts.length 20 : Nat) : Int), .slice aq (min cuts.length 20) cq, .slice (some ⟨g20, 0, none⟩) (min cuts.length 20) g20c, .slice al L.length cl, .int .i64 ((L.length : Nat) : Int), .slice (some ⟨g23, 0, none⟩) 1 1, .slice (some ⟨g25, 0, none⟩) (min cuts.length 20 + 1) g25c, .int .i64 ((min cuts.length 20 + 1 : Nat) : Int), .int .i64 ((i : Nat) : Int), .bool true, .pointer (some ⟨g25, i, none⟩), .int .i64 (Lc.getD i 0), .int .i64 (Lc.getD i 0), .int .i64 ((at0 : Nat) : Int), .int .i64 (max (Lc.getD i 0) ((at0 : Nat) : Int)), .slice al L.length cl, .int .i64 ((L.length : Nat) : Int), .int .i64 ((b : Nat) : Int), u46 61, u46 62, u46 63, u46 64, u46 65, u46 66, u46 67, u46 68, u46 69, .tuple #[.string (bs (rootS (L.take b))), .int .i64 0], .agg ([.int .i64 ((b : Nat) : Int), .slice ax ((partsL (L.take b)).length) cx]).toArray, .tuple #[.string (bs (rootS (L.take b))), .int .i64 0], .string (bs (rootS (L.take b))), .int .i64 0, .tuple #[.string (bs (rootS (L.take b))), .int .i64 0], .slice al L.length cl, .int .i64 ((b : Nat) : Int), .slice al b cl, .tuple #[.string (bs (rootS (L.take b))), .int .i64 0], .string (bs (rootS (L.take b))), .int .i64 0, vs 0, u28 83, u28 84, u28 85, u28 86, u28 87, u28 88, u28 89, u28 90, u28 91, u28 92, u28 93, u28 94, u28 95, u28 96, u28 97, u28 98, u28 99, u28 100, u28 101, u28 102, u28 103, u28 104, u28 105, u28 106, u28 107, u28 108, u28 109, u28 110, u28 111, u28 112, u28 113, u28 114, u28 115, undef, undef, undef, undef, undef, undef, undef, undef], defers := [] }) (by kernel_rfl) ?_ ?_
          · skip
            intro vs gs W59 SW59 D K9 hK9
            replace M := M.sees SW59
            obtain ⟨D0, _⟩ := D
            have e0 : vs 0 = .int .i64 0 := D0
            dsimp only at hK9
            dsimp only
            rw [e0] at hK9 ⊢
            refine wpL_chunk 1 (by rfl) (fun Lk hLk => ?_)
            simp only [List.take, List.drop]
            refine wpV_bin (v := .bool false) (by rfl) rfl rfl rfl (fun W => run_neq _ _ _ _ W) ?_
            simp only [putT, List.set]
            refine wpV_nil (hLk _ (fun w60 Sw60 => ?_))
            clear hLk Lk
            simp only [List.take, List.drop]
            replace M := M.sees Sw60
            refine wpL_nil (then_normal ?_)
            have h8 := hK9 (.bool false)
            have h9 := h8 0 _ Sw60 rfl (fun h => absurd h (by decide))
            simp only [putT, List.set] at h9
            exact h9
          refine RulesL.cons (fun vs => { tmps := #[.slice ap ds.length cp, .slice aq cuts.length cq, undef, undef, u28 4, .slice al L.length cl, u5 6, u5 7, .pointer (some ⟨g11, 0, none⟩), .int .i64 ((at0 : Nat) : Int), undef, .int .i64 (Lc.getD i 0), .int .i64 ((b : Nat) : Int), .pointer (some ⟨gx, 0, none⟩), .int .i64 0, .string (bs (rootS (L.take b))), .int .i64 0, .string (bs (rootS (L.take b))), .int .i64 0, u5 19, u5 20, u5 21, u5 22, u5 23, u5 24, u5 25, u5 26, u5 27, u5 28, u5 29, u5 30, u5 31, u5 32, u5 33, u5 34, u5 35, u5 36, u5 37, .agg ([.int .i64 0, .slice none 0 0]).toArray, .slice (some ⟨g17, 0, none⟩) 0 0, .slice aq cuts.length cq, .slice aq cuts.length cq, .int .i64 ((cuts.length : Nat) : Int), .int .i64 ((min cuts.length 20 : Nat) : Int), .slice aq (min cuts.length 20) cq, .slice (some ⟨g20, 0, none⟩) (min cuts.length 20) g20c, .slice al L.length cl, .int .i64 ((L.length : Nat) : Int), .slice (some ⟨g23, 0, none⟩) 1 1, .slice (some ⟨g25, 0, none⟩) (min cuts.length 20 + 1) g25c, .int .i64 ((min cuts.length 20 + 1 : Nat) : Int), .int .i64 ((i : Nat) : Int), .bool true, .pointer (some ⟨g25, i, none⟩), .int .i64 (Lc.getD i 0), .int .i64 (Lc.getD i 0), .int .i64 ((at0 : Nat) : Int), .int .i64 (max (Lc.getD i 0) ((at0 : Nat) : Int)), .slice al L.length cl, .int .i64 ((L.length : Nat) : Int), .int .i64 ((b : Nat) : Int), u46 61, u46 62, u46 63, u46 64, u46 65, u46 66, u46 67, u46 68, u46 69, .tuple #[.string (bs (rootS (L.take b))), .int .i64 0], .agg ([.int .i64 ((b : Nat) : Int), .slice ax ((partsL (L.take b)).length) cx]).toArray, .tuple #[.string (bs (rootS (L.take b))), .int .i64 0], .string (bs (rootS (L.take b))), .int .i64 0, .tuple #[.string (bs (rootS (L.take b))), .int .i64 0], .slice al L.length cl, .int .i64 ((b : Nat) : Int), .slice al b cl, .tuple #[.string (bs (rootS (L.take b))), .int .i64 0], .string (bs (rootS (L.take b))), .int .i64 0, u28 82, vs 1, u28 84, u28 85, u28 86, u28 87, u28 88, u28 89, u28 90, u28 91, u28 92, u28 93, u28 94, u28 95, u28 96, u28 97, u28 98, u28 99, u28 100, u28 101, u28 102, u28 103, u28 104, u28 105, u28 106, u28 107, u28 108, u28 109, u28 110, u28 111, u28 112, u28 113, u28 114, u28 115, undef, undef, undef, undef, undef, undef, undef, undef], defers := [] }) (by kernel_rfl) ?_ ?_
          · skip
            intro vs gs W61 SW61 D K9 hK9
            replace M := M.sees SW61
            obtain ⟨D1, _⟩ := D
            have e1 : vs 1 = .bool false := D1
            dsimp only at hK9
            dsimp only
            rw [e1] at hK9 ⊢
            refine wpL_move (v := .bool false) (by rfl) (by rfl) (by rfl) ?_
            simp only [putT, List.set]
            refine wpL_nil (then_normal ?_)
            have h8 := hK9 (.bool false)
            have h9 := h8 0 _ (sees_refl _) rfl (fun h => absurd h (by decide))
            simp only [putT, List.set] at h9
            exact h9
          refine RulesL.cons (fun vs => { tmps := #[.slice ap ds.length cp, .slice aq cuts.length cq, undef, undef, u28 4, .slice al L.length cl, u5 6, u5 7, .pointer (some ⟨g11, 0, none⟩), .int .i64 ((at0 : Nat) : Int), undef, .int .i64 (Lc.getD i 0), .int .i64 ((b : Nat) : Int), .pointer (some ⟨gx, 0, none⟩), .int .i64 0, .string (bs (rootS (L.take b))), .int .i64 0, .string (bs (rootS (L.take b))), .int .i64 0, u5 19, u5 20, u5 21, u5 22, u5 23, u5 24, u5 25, u5 26, u5 27, u5 28, u5 29, u5 30, u5 31, u5 32, u5 33, u5 34, u5 35, u5 36, u5 37, .agg ([.int .i64 0, .slice none 0 0]).toArray, .slice (some ⟨g17, 0, none⟩) 0 0, .slice aq cuts.length cq, .slice aq cuts.length cq, .int .i64 ((cuts.length : Nat) : Int), .int .i64 ((min cuts.length 20 : Nat) : Int), .slice aq (min cuts.length 20) cq, .slice (some ⟨g20, 0, none⟩) (min cuts.length 20) g20c, .slice al L.length cl, .int .i64 ((L.length : Nat) : Int), .slice (some ⟨g23, 0, none⟩) 1 1, .slice (some ⟨g25, 0, none⟩) (min cuts.length 20 + 1) g25c, .int .i64 ((min cuts.length 20 + 1 : Nat) : Int), .int .i64 ((i : Nat) : Int), .bool true, .pointer (some ⟨g25, i, none⟩), .int .i64 (Lc.getD i 0), .int .i64 (Lc.getD i 0), .int .i64 ((at0 : Nat) : Int), .int .i64 (max (Lc.getD i 0) ((at0 : Nat) : Int)), .slice al L.length cl, .int .i64 ((L.length : Nat) : Int), .int .i64 ((b : Nat) : Int), u46 61, u46 62, u46 63, u46 64, u46 65, u46 66, u46 67, u46 68, u46 69, .tuple #[.string (bs (rootS (L.take b))), .int .i64 0], .agg ([.int .i64 ((b : Nat) : Int), .slice ax ((partsL (L.take b)).length) cx]).toArray, .tuple #[.string (bs (rootS (L.take b))), .int .i64 0], .string (bs (rootS (L.take b))), .int .i64 0, .tuple #[.string (bs (rootS (L.take b))), .int .i64 0], .slice al L.length cl, .int .i64 ((b : Nat) : Int), .slice al b cl, .tuple #[.string (bs (rootS (L.take b))), .int .i64 0], .string (bs (rootS (L.take b))), .int .i64 0, u28 82, u28 83, vs 2, u28 85, u28 86, u28 87, u28 88, u28 89, u28 90, u28 91, u28 92, u28 93, u28 94, u28 95, u28 96, u28 97, u28 98, u28 99, u28 100, u28 101, u28 102, u28 103, u28 104, u28 105, u28 106, u28 107, u28 108, u28 109, u28 110, u28 111, u28 112, u28 113, u28 114, u28 115, undef, undef, undef, undef, undef, undef, undef, undef], defers := [] }) (by kernel_rfl) ?_ ?_
          · skip
            intro vs gs W62 SW62 D K9 hK9
            replace M := M.sees SW62
            obtain ⟨D2, _⟩ := D
            have e2 : vs 2 = .bool false := D2
            dsimp only at hK9
            dsimp only
            rw [e2] at hK9 ⊢
            refine wpL_chunk 1 (by rfl) (fun Lk hLk => ?_)
            simp only [List.take, List.drop]
            refine wpV_move (v := .int .i64 0) (by rfl) rfl rfl ?_
            simp only [putT, List.set]
            refine wpV_nil (hLk _ (fun w63 Sw63 => ?_))
            clear hLk Lk
            simp only [List.take, List.drop]
            replace M := M.sees Sw63
            refine wpL_nil (then_normal ?_)
            have h8 := hK9 (.int .i64 0)
            have h9 := h8 0 _ Sw63 rfl (fun h => absurd h (by decide))
            simp only [putT, List.set] at h9
            exact h9
          refine RulesL.cons (fun vs => { tmps := #[.slice ap ds.length cp, .slice aq cuts.length cq, undef, undef, u28 4, .slice al L.length cl, u5 6, u5 7, .pointer (some ⟨g11, 0, none⟩), .int .i64 ((at0 : Nat) : Int), undef, .int .i64 (Lc.getD i 0), .int .i64 ((b : Nat) : Int), .pointer (some ⟨gx, 0, none⟩), .int .i64 0, .string (bs (rootS (L.take b))), .int .i64 0, .string (bs (rootS (L.take b))), .int .i64 0, u5 19, u5 20, u5 21, u5 22, u5 23, u5 24, u5 25, u5 26, u5 27, u5 28, u5 29, u5 30, u5 31, u5 32, u5 33, u5 34, u5 35, u5 36, u5 37, .agg ([.int .i64 0, .slice none 0 0]).toArray, .slice (some ⟨g17, 0, none⟩) 0 0, .slice aq cuts.length cq, .slice aq cuts.length cq, .int .i64 ((cuts.length : Nat) : Int), .int .i64 ((min cuts.length 20 : Nat) : Int), .slice aq (min cuts.length 20) cq, .slice (some ⟨g20, 0, none⟩) (min cuts.length 20) g20c, .slice al L.length cl, .int .i64 ((L.length : Nat) : Int), .slice (some ⟨g23, 0, none⟩) 1 1, .slice (some ⟨g25, 0, none⟩) (min cuts.length 20 + 1) g25c, .int .i64 ((min cuts.length 20 + 1 : Nat) : Int), .int .i64 ((i : Nat) : Int), .bool true, .pointer (some ⟨g25, i, none⟩), .int .i64 (Lc.getD i 0), .int .i64 (Lc.getD i 0), .int .i64 ((at0 : Nat) : Int), .int .i64 (max (Lc.getD i 0) ((at0 : Nat) : Int)), .slice al L.length cl, .int .i64 ((L.length : Nat) : Int), .int .i64 ((b : Nat) : Int), u46 61, u46 62, u46 63, u46 64, u46 65, u46 66, u46 67, u46 68, u46 69, .tuple #[.string (bs (rootS (L.take b))), .int .i64 0], .agg ([.int .i64 ((b : Nat) : Int), .slice ax ((partsL (L.take b)).length) cx]).toArray, .tuple #[.string (bs (rootS (L.take b))), .int .i64 0], .string (bs (rootS (L.take b))), .int .i64 0, .tuple #[.string (bs (rootS (L.take b))), .int .i64 0], .slice al L.length cl, .int .i64 ((b : Nat) : Int), .slice al b cl, .tuple #[.string (bs (rootS (L.take b))), .int .i64 0], .string (bs (rootS (L.take b))), .int .i64 0, u28 82, u28 83, vs 2, vs 3, u28 86, u28 87, u28 88, u28 89, u28 90, u28 91, u28 92, u28 93, u28 94, u28 95, u28 96, u28 97, u28 98, u28 99, u28 100, u28 101, u28 102, u28 103, u28 104, u28 105, u28 106, u28 107, u28 108, u28 109, u28 110, u28 111, u28 112, u28 113, u28 114, u28 115, undef, undef, undef, undef, undef, undef, undef, undef], defers := [] }) (by kernel_rfl) ?_ ?_
          · skip
            intro vs gs W64 SW64 D K9 hK9
            replace M := M.sees SW64
            obtain ⟨D2, D3, _⟩ := D
            have e2 : vs 2 = .bool false := D2
            have e3 : vs 3 = .int .i64 0 := D3
            dsimp only at hK9
            dsimp only
            rw [e2, e3] at hK9 ⊢
            refine wpL_chunk 1 (by rfl) (fun Lk hLk => ?_)
            simp only [List.take, List.drop]
            refine wpV_bin (v := .bool false) (by rfl) rfl rfl rfl (fun W => run_neq _ _ _ _ W) ?_
            simp only [putT, List.set]
            refine wpV_nil (hLk _ (fun w65 Sw65 => ?_))
            clear hLk Lk
            simp only [List.take, List.drop]
            replace M := M.sees Sw65
            refine wpL_nil (then_normal ?_)
            have h8 := hK9 (.bool false)
            have h9 := h8 0 _ Sw65 rfl (fun h => absurd h (by decide))
            simp only [putT, List.set] at h9
            exact h9
          refine RulesL.cons (fun vs => { tmps := #[.slice ap ds.length cp, .slice aq cuts.length cq, undef, undef, u28 4, .slice al L.length cl, u5 6, u5 7, .pointer (some ⟨g11, 0, none⟩), .int .i64 ((at0 : Nat) : Int), undef, .int .i64 (Lc.getD i 0), .int .i64 ((b : Nat) : Int), .pointer (some ⟨gx, 0, none⟩), .int .i64 0, .string (bs (rootS (L.take b))), .int .i64 0, .string (bs (rootS (L.take b))), .int .i64 0, u5 19, u5 20, u5 21, u5 22, u5 23, u5 24, u5 25, u5 26, u5 27, u5 28, u5 29, u5 30, u5 31, u5 32, u5 33, u5 34, u5 35, u5 36, u5 37, .agg ([.int .i64 0, .slice none 0 0]).toArray, .slice (some ⟨g17, 0, none⟩) 0 0, .slice aq cuts.length cq, .slice aq cuts.length cq, .int .i64 ((cuts.length : Nat) : Int), .int .i64 ((min cuts.length 20 : Nat) : Int), .slice aq (min cuts.length 20) cq, .slice (some ⟨g20, 0, none⟩) (min cuts.length 20) g20c, .slice al L.length cl, .int .i64 ((L.length : Nat) : Int), .slice (some ⟨g23, 0, none⟩) 1 1, .slice (some ⟨g25, 0, none⟩) (min cuts.length 20 + 1) g25c, .int .i64 ((min cuts.length 20 + 1 : Nat) : Int), .int .i64 ((i : Nat) : Int), .bool true, .pointer (some ⟨g25, i, none⟩), .int .i64 (Lc.getD i 0), .int .i64 (Lc.getD i 0), .int .i64 ((at0 : Nat) : Int), .int .i64 (max (Lc.getD i 0) ((at0 : Nat) : Int)), .slice al L.length cl, .int .i64 ((L.length : Nat) : Int), .int .i64 ((b : Nat) : Int), u46 61, u46 62, u46 63, u46 64, u46 65, u46 66, u46 67, u46 68, u46 69, .tuple #[.string (bs (rootS (L.take b))), .int .i64 0], .agg ([.int .i64 ((b : Nat) : Int), .slice ax ((partsL (L.take b)).length) cx]).toArray, .tuple #[.string (bs (rootS (L.take b))), .int .i64 0], .string (bs (rootS (L.take b))), .int .i64 0, .tuple #[.string (bs (rootS (L.take b))), .int .i64 0], .slice al L.length cl, .int .i64 ((b : Nat) : Int), .slice al b cl, .tuple #[.string (bs (rootS (L.take b))), .int .i64 0], .string (bs (rootS (L.take b))), .int .i64 0, u28 82, u28 83, vs 2, u28 85, vs 4, u28 87, u28 88, u28 89, u28 90, u28 91, u28 92, u28 93, u28 94, u28 95, u28 96, u28 97, u28 98, u28 99, u28 100, u28 101, u28 102, u28 103, u28 104, u28 105, u28 106, u28 107, u28 108, u28 109, u28 110, u28 111, u28 112, u28 113, u28 114, u28 115, undef, undef, undef, undef, undef, undef, undef, undef], defers := [] }) (by kernel_rfl) ?_ ?_
          · skip
            intro vs gs W66 SW66 D K9 hK9
            replace M := M.sees SW66
            obtain ⟨D2, D4, _⟩ := D
            have e2 : vs 2 = .bool false := D2
            have e4 : vs 4 = .bool false := D4
            dsimp only at hK9
            dsimp only
            rw [e2, e4] at hK9 ⊢
            refine wpL_chunk 1 (by rfl) (fun Lk hLk => ?_)
            simp only [List.take, List.drop]
            refine wpV_pick (v := .bool false) (by rfl) rfl rfl rfl ?_
            simp only [putT, List.set]
            refine wpV_nil (hLk _ (fun w67 Sw67 => ?_))
            clear hLk Lk
            simp only [List.take, List.drop]
            replace M := M.sees Sw67
            refine wpL_nil (then_normal ?_)
            have h8 := hK9 (.bool false)
            have h9 := h8 0 _ Sw67 rfl (fun h => absurd h (by decide))
            simp only [putT, List.set] at h9
            exact h9
          refine RulesL.cons (fun vs => { tmps := #[.slice ap ds.length cp, .slice aq cuts.length cq, undef, undef, u28 4, .slice al L.length cl, u5 6, u5 7, .pointer (some ⟨g11, 0, none⟩), .int .i64 ((at0 : Nat) : Int), undef, .int .i64 (Lc.getD i 0), .int .i64 ((b : Nat) : Int), .pointer (some ⟨gx, 0, none⟩), .int .i64 0, .string (bs (rootS (L.take b))), .int .i64 0, .string (bs (rootS (L.take b))), .int .i64 0, u5 19, u5 20, u5 21, u5 22, u5 23, u5 24, u5 25, u5 26, u5 27, u5 28, u5 29, u5 30, u5 31, u5 32, u5 33, u5 34, u5 35, u5 36, u5 37, .agg ([.int .i64 0, .slice none 0 0]).toArray, .slice (some ⟨g17, 0, none⟩) 0 0, .slice aq cuts.length cq, .slice aq cuts.length cq, .int .i64 ((cuts.length : Nat) : Int), .int .i64 ((min cuts.length 20 : Nat) : Int), .slice aq (min cuts.length 20) cq, .slice (some ⟨g20, 0, none⟩) (min cuts.length 20) g20c, .slice al L.length cl, .int .i64 ((L.length : Nat) : Int), .slice (some ⟨g23, 0, none⟩) 1 1, .slice (some ⟨g25, 0, none⟩) (min cuts.length 20 + 1) g25c, .int .i64 ((min cuts.length 20 + 1 : Nat) : Int), .int .i64 ((i : Nat) : Int), .bool true, .pointer (some ⟨g25, i, none⟩), .int .i64 (Lc.getD i 0), .int .i64 (Lc.getD i 0), .int .i64 ((at0 : Nat) : Int), .int .i64 (max (Lc.getD i 0) ((at0 : Nat) : Int)), .slice al L.length cl, .int .i64 ((L.length : Nat) : Int), .int .i64 ((b : Nat) : Int), u46 61, u46 62, u46 63, u46 64, u46 65, u46 66, u46 67, u46 68, u46 69, .tuple #[.string (bs (rootS (L.take b))), .int .i64 0], .agg ([.int .i64 ((b : Nat) : Int), .slice ax ((partsL (L.take b)).length) cx]).toArray, .tuple #[.string (bs (rootS (L.take b))), .int .i64 0], .string (bs (rootS (L.take b))), .int .i64 0, .tuple #[.string (bs (rootS (L.take b))), .int .i64 0], .slice al L.length cl, .int .i64 ((b : Nat) : Int), .slice al b cl, .tuple #[.string (bs (rootS (L.take b))), .int .i64 0], .string (bs (rootS (L.take b))), .int .i64 0, u28 82, u28 83, u28 84, u28 85, u28 86, vs 5, u28 88, u28 89, u28 90, u28 91, u28 92, u28 93, u28 94, u28 95, u28 96, u28 97, u28 98, u28 99, u28 100, u28 101, u28 102, u28 103, u28 104, u28 105, u28 106, u28 107, u28 108, u28 109, u28 110, u28 111, u28 112, u28 113, u28 114, u28 115, undef, undef, undef, undef, undef, undef, undef, undef], defers := [] }) (by kernel_rfl) ?_ ?_
          · skip
            intro vs gs W68 SW68 D K9 hK9
            replace M := M.sees SW68
            obtain ⟨D5, _⟩ := D
            have e5 : vs 5 = .bool false := D5
            dsimp only at hK9
            dsimp only
            rw [e5] at hK9 ⊢
            refine wpL_move (v := .bool false) (by rfl) (by rfl) (by rfl) ?_
            simp only [putT, List.set]
            refine wpL_nil (then_normal ?_)
            have h8 := hK9 (.bool false)
            have h9 := h8 0 _ (sees_refl _) rfl (fun h => absurd h (by decide))
            simp only [putT, List.set] at h9
            exact h9
          refine RulesL.cons (fun vs => { tmps := #[.slice ap ds.length cp, .slice aq cuts.length cq, undef, undef, u28 4, .slice al L.length cl, u5 6, u5 7, .pointer (some ⟨g11, 0, none⟩), .int .i64 ((at0 : Nat) : Int), undef, .int .i64 (Lc.getD i 0), .int .i64 ((b : Nat) : Int), .pointer (some ⟨gx, 0, none⟩), .int .i64 0, .string (bs (rootS (L.take b))), .int .i64 0, .string (bs (rootS (L.take b))), .int .i64 0, u5 19, u5 20, u5 21, u5 22, u5 23, u5 24, u5 25, u5 26, u5 27, u5 28, u5 29, u5 30, u5 31, u5 32, u5 33, u5 34, u5 35, u5 36, u5 37, .agg ([.int .i64 0, .slice none 0 0]).toArray, .slice (some ⟨g17, 0, none⟩) 0 0, .slice aq cuts.length cq, .slice aq cuts.length cq, .int .i64 ((cuts.length : Nat) : Int), .int .i64 ((min cuts.length 20 : Nat) : Int), .slice aq (min cuts.length 20) cq, .slice (some ⟨g20, 0, none⟩) (min cuts.length 20) g20c, .slice al L.length cl, .int .i64 ((L.length : Nat) : Int), .slice (some ⟨g23, 0, none⟩) 1 1, .slice (some ⟨g25, 0, none⟩) (min cuts.length 20 + 1) g25c, .int .i64 ((min cuts.length 20 + 1 : Nat) : Int), .int .i64 ((i : Nat) : Int), .bool true, .pointer (some ⟨g25, i, none⟩), .int .i64 (Lc.getD i 0), .int .i64 (Lc.getD i 0), .int .i64 ((at0 : Nat) : Int), .int .i64 (max (Lc.getD i 0) ((at0 : Nat) : Int)), .slice al L.length cl, .int .i64 ((L.length : Nat) : Int), .int .i64 ((b : Nat) : Int), u46 61, u46 62, u46 63, u46 64, u46 65, u46 66, u46 67, u46 68, u46 69, .tuple #[.string (bs (rootS (L.take b))), .int .i64 0], .agg ([.int .i64 ((b : Nat) : Int), .slice ax ((partsL (L.take b)).length) cx]).toArray, .tuple #[.string (bs (rootS (L.take b))), .int .i64 0], .string (bs (rootS (L.take b))), .int .i64 0, .tuple #[.string (bs (rootS (L.take b))), .int .i64 0], .slice al L.length cl, .int .i64 ((b : Nat) : Int), .slice al b cl, .tuple #[.string (bs (rootS (L.take b))), .int .i64 0], .string (bs (rootS (L.take b))), .int .i64 0, u28 82, u28 83, u28 84, u28 85, u28 86, u28 87, vs 6, u28 89, u28 90, u28 91, u28 92, u28 93, u28 94, u28 95, u28 96, u28 97, u28 98, u28 99, u28 100, u28 101, u28 102, u28 103, u28 104, u28 105, u28 106, u28 107, u28 108, u28 109, u28 110, u28 111, u28 112, u28 113, u28 114, u28 115, undef, undef, undef, undef, undef, undef, undef, undef], defers := [] }) (by kernel_rfl) ?_ ?_
          · skip
            intro vs gs W69 SW69 D K9 hK9
            replace M := M.sees SW69
            obtain ⟨D6, _⟩ := D
            have e6 : vs 6 = .bool false := D6
            dsimp only at hK9
            dsimp only
            rw [e6] at hK9 ⊢
            refine wpL_chunk 1 (by rfl) (fun Lk hLk => ?_)
            simp only [List.take, List.drop]
            refine wpV_move (v := .int .i64 0) (by rfl) rfl rfl ?_
            simp only [putT, List.set]
            refine wpV_nil (hLk _ (fun w70 Sw70 => ?_))
            clear hLk Lk
            simp only [List.take, List.drop]
            replace M := M.sees Sw70
            refine wpL_nil (then_normal ?_)
            have h8 := hK9 (.int .i64 0)
            have h9 := h8 0 _ Sw70 rfl (fun h => absurd h (by decide))
            simp only [putT, List.set] at h9
            exact h9
          refine RulesL.cons (fun vs => { tmps := #[.slice ap ds.length cp, .slice aq cuts.length cq, undef, undef, u28 4, .slice al L.length cl, u5 6, u5 7, .pointer (some ⟨g11, 0, none⟩), .int .i64 ((at0 : Nat) : Int), undef, .int .i64 (Lc.getD i 0), .int .i64 ((b : Nat) : Int), .pointer (some ⟨gx, 0, none⟩), .int .i64 0, .string (bs (rootS (L.take b))), .int .i64 0, .string (bs (rootS (L.take b))), .int .i64 0, u5 19, u5 20, u5 21, u5 22, u5 23, u5 24, u5 25, u5 26, u5 27, u5 28, u5 29, u5 30, u5 31, u5 32, u5 33, u5 34, u5 35, u5 36, u5 37, .agg ([.int .i64 0, .slice none 0 0]).toArray, .slice (some ⟨g17, 0, none⟩) 0 0, .slice aq cuts.length cq, .slice aq cuts.length cq, .int .i64 ((cuts.length : Nat) : Int), .int .i64 ((min cuts.length 20 : Nat) : Int), .slice aq (min cuts.length 20) cq, .slice (some ⟨g20, 0, none⟩) (min cuts.length 20) g20c, .slice al L.length cl, .int .i64 ((L.length : Nat) : Int), .slice (some ⟨g23, 0, none⟩) 1 1, .slice (some ⟨g25, 0, none⟩) (min cuts.length 20 + 1) g25c, .int .i64 ((min cuts.length 20 + 1 : Nat) : Int), .int .i64 ((i : Nat) : Int), .bool true, .pointer (some ⟨g25, i, none⟩), .int .i64 (Lc.getD i 0), .int .i64 (Lc.getD i 0), .int .i64 ((at0 : Nat) : Int), .int .i64 (max (Lc.getD i 0) ((at0 : Nat) : Int)), .slice al L.length cl, .int .i64 ((L.length : Nat) : Int), .int .i64 ((b : Nat) : Int), u46 61, u46 62, u46 63, u46 64, u46 65, u46 66, u46 67, u46 68, u46 69, .tuple #[.string (bs (rootS (L.take b))), .int .i64 0], .agg ([.int .i64 ((b : Nat) : Int), .slice ax ((partsL (L.take b)).length) cx]).toArray, .tuple #[.string (bs (rootS (L.take b))), .int .i64 0], .string (bs (rootS (L.take b))), .int .i64 0, .tuple #[.string (bs (rootS (L.take b))), .int .i64 0], .slice al L.length cl, .int .i64 ((b : Nat) : Int), .slice al b cl, .tuple #[.string (bs (rootS (L.take b))), .int .i64 0], .string (bs (rootS (L.take b))), .int .i64 0, u28 82, u28 83, u28 84, u28 85, u28 86, u28 87, vs 6, vs 7, u28 90, u28 91, u28 92, u28 93, u28 94, u28 95, u28 96, u28 97, u28 98, u28 99, u28 100, u28 101, u28 102, u28 103, u28 104, u28 105, u28 106, u28 107, u28 108, u28 109, u28 110, u28 111, u28 112, u28 113, u28 114, u28 115, undef, undef, undef, undef, undef, undef, undef, undef], defers := [] }) (by kernel_rfl) ?_ ?_
          · skip
            intro vs gs W71 SW71 D K9 hK9
            replace M := M.sees SW71
            obtain ⟨D6, D7, _⟩ := D
            have e6 : vs 6 = .bool false := D6
            have e7 : vs 7 = .int .i64 0 := D7
            dsimp only at hK9
            dsimp only
            rw [e6, e7] at hK9 ⊢
            refine wpL_chunk 1 (by rfl) (fun Lk hLk => ?_)
            simp only [List.take, List.drop]
            refine wpV_bin (v := .bool false) (by rfl) rfl rfl rfl (fun W => run_neq _ _ _ _ W) ?_
            simp only [putT, List.set]
            refine wpV_nil (hLk _ (fun w72 Sw72 => ?_))
            clear hLk Lk
            simp only [List.take, List.drop]
            replace M := M.sees Sw72
            refine wpL_nil (then_normal ?_)
            have h8 := hK9 (.bool false)
            have h9 := h8 0 _ Sw72 rfl (fun h => absurd h (by decide))
            simp only [putT, List.set] at h9
            exact h9
          refine RulesL.cons (fun vs => { tmps := #[.slice ap ds.length cp, .slice aq cuts.length cq, undef, undef, u28 4, .slice al L.length cl, u5 6, u5 7, .pointer (some ⟨g11, 0, none⟩), .int .i64 ((at0 : Nat) : Int), undef, .int .i64 (Lc.getD i 0), .int .i64 ((b : Nat) : Int), .pointer (some ⟨gx, 0, none⟩), .int .i64 0, .string (bs (rootS (L.take b))), .int .i64 0, .string (bs (rootS (L.take b))), .int .i64 0, u5 19, u5 20, u5 21, u5 22, u5 23, u5 24, u5 25, u5 26, u5 27, u5 28, u5 29, u5 30, u5 31, u5 32, u5 33, u5 34, u5 35, u5 36, u5 37, .agg ([.int .i64 0, .slice none 0 0]).toArray, .slice (some ⟨g17, 0, none⟩) 0 0, .slice aq cuts.length cq, .slice aq cuts.length cq, .int .i64 ((cuts.length : Nat) : Int), .int .i64 ((min cuts.length 20 : Nat) : Int), .slice aq (min cuts.length 20) cq, .slice (some ⟨g20, 0, none⟩) (min cuts.length 20) g20c, .slice al L.length cl, .int .i64 ((L.length : Nat) : Int), .slice (some ⟨g23, 0, none⟩) 1 1, .slice (some ⟨g25, 0, none⟩) (min cuts.length 20 + 1) g25c, .int .i64 ((min cuts.length 20 + 1 : Nat) : Int), .int .i64 ((i : Nat) : Int), .bool true, .pointer (some ⟨g25, i, none⟩), .int .i64 (Lc.getD i 0), .int .i64 (Lc.getD i 0), .int .i64 ((at0 : Nat) : Int), .int .i64 (max (Lc.getD i 0) ((at0 : Nat) : Int)), .slice al L.length cl, .int .i64 ((L.length : Nat) : Int), .int .i64 ((b : Nat) : Int), u46 61, u46 62, u46 63, u46 64, u46 65, u46 66, u46 67, u46 68, u46 69, .tuple #[.string (bs (rootS (L.take b))), .int .i64 0], .agg ([.int .i64 ((b : Nat) : Int), .slice ax ((partsL (L.take b)).length) cx]).toArray, .tuple #[.string (bs (rootS (L.take b))), .int .i64 0], .string (bs (rootS (L.take b))), .int .i64 0, .tuple #[.string (bs (rootS (L.take b))), .int .i64 0], .slice al L.length cl, .int .i64 ((b : Nat) : Int), .slice al b cl, .tuple #[.string (bs (rootS (L.take b))), .int .i64 0], .string (bs (rootS (L.take b))), .int .i64 0, u28 82, u28 83, u28 84, u28 85, u28 86, u28 87, vs 6, u28 89, vs 8, u28 91, u28 92, u28 93, u28 94, u28 95, u28 96, u28 97, u28 98, u28 99, u28 100, u28 101, u28 102, u28 103, u28 104, u28 105, u28 106, u28 107, u28 108, u28 109, u28 110, u28 111, u28 112, u28 113, u28 114, u28 115, undef, undef, undef, undef, undef, undef, undef, undef], defers := [] }) (by kernel_rfl) ?_ ?_
          · skip
            intro vs gs W73 SW73 D K9 hK9
            replace M := M.sees SW73
            obtain ⟨D6, D8, _⟩ := D
            have e6 : vs 6 = .bool false := D6
            have e8 : vs 8 = .bool false := D8
            dsimp only at hK9
            dsimp only
            rw [e6, e8] at hK9 ⊢
            refine wpL_chunk 1 (by rfl) (fun Lk hLk => ?_)
            simp only [List.take, List.drop]
            refine wpV_pick (v := .bool false) (by rfl) rfl rfl rfl ?_
            simp only [putT, List.set]
            refine wpV_nil (hLk _ (fun w74 Sw74 => ?_))
            clear hLk Lk
            simp only [List.take, List.drop]
            replace M := M.sees Sw74
            refine wpL_nil (then_normal ?_)
            have h8 := hK9 (.bool false)
            have h9 := h8 0 _ Sw74 rfl (fun h => absurd h (by decide))
            simp only [putT, List.set] at h9
            exact h9
          refine RulesL.cons (fun vs => { tmps := #[.slice ap ds.length cp, .slice aq cuts.length cq, undef, undef, u28 4, .slice al L.length cl, u5 6, u5 7, .pointer (some ⟨g11, 0, none⟩), .int .i64 ((at0 : Nat) : Int), undef, .int .i64 (Lc.getD i 0), .int .i64 ((b : Nat) : Int), .pointer (some ⟨gx, 0, none⟩), .int .i64 0, .string (bs (rootS (L.take b))), .int .i64 0, .string (bs (rootS (L.take b))), .int .i64 0, u5 19, u5 20, u5 21, u5 22, u5 23, u5 24, u5 25, u5 26, u5 27, u5 28, u5 29, u5 30, u5 31, u5 32, u5 33, u5 34, u5 35, u5 36, u5 37, .agg ([.int .i64 0, .slice none 0 0]).toArray, .slice (some ⟨g17, 0, none⟩) 0 0, .slice aq cuts.length cq, .slice aq cuts.length cq, .int .i64 ((cuts.length : Nat) : Int), .int .i64 ((min cuts.length 20 : Nat) : Int), .slice aq (min cuts.length 20) cq, .slice (some ⟨g20, 0, none⟩) (min cuts.length 20) g20c, .slice al L.length cl, .int .i64 ((L.length : Nat) : Int), .slice (some ⟨g23, 0, none⟩) 1 1, .slice (some ⟨g25, 0, none⟩) (min cuts.length 20 + 1) g25c, .int .i64 ((min cuts.length 20 + 1 : Nat) : Int), .int .i64 ((i : Nat) : Int), .bool true, .pointer (some ⟨g25, i, none⟩), .int .i64 (Lc.getD i 0), .int .i64 (Lc.getD i 0), .int .i64 ((at0 : Nat) : Int), .int .i64 (max (Lc.getD i 0) ((at0 : Nat) : Int)), .slice al L.length cl, .int .i64 ((L.length : Nat) : Int), .int .i64 ((b : Nat) : Int), u46 61, u46 62, u46 63, u46 64, u46 65, u46 66, u46 67, u46 68, u46 69, .tuple #[.string (bs (rootS (L.take b))), .int .i64 0], .agg ([.int .i64 ((b : Nat) : Int), .slice ax ((partsL (L.take b)).length) cx]).toArray, .tuple #[.string (bs (rootS (L.take b))), .int .i64 0], .string (bs (rootS (L.take b))), .int .i64 0, .tuple #[.string (bs (rootS (L.take b))), .int .i64 0], .slice al L.length cl, .int .i64 ((b : Nat) : Int), .slice al b cl, .tuple #[.string (bs (rootS (L.take b))), .int .i64 0], .string (bs (rootS (L.take b))), .int .i64 0, u28 82, u28 83, u28 84, u28 85, u28 86, u28 87, u28 88, u28 89, u28 90, vs 9, u28 92, u28 93, u28 94, u28 95, u28 96, u28 97, u28 98, u28 99, u28 100, u28 101, u28 102, u28 103, u28 104, u28 105, u28 106, u28 107, u28 108, u28 109, u28 110, u28 111, u28 112, u28 113, u28 114, u28 115, undef, undef, undef, undef, undef, undef, undef, undef], defers := [] }) (by kernel_rfl) ?_ ?_
          · skip
            intro vs gs W75 SW75 D K9 hK9
            replace M := M.sees SW75
            obtain ⟨D9, _⟩ := D
            have e9 : vs 9 = .bool false := D9
            dsimp only at hK9
            dsimp only
            rw [e9] at hK9 ⊢
            refine wpL_move (v := .bool false) (by rfl) (by rfl) (by rfl) ?_
            simp only [putT, List.set]
            refine wpL_nil (then_normal ?_)
            have h8 := hK9 (.bool false)
            have h9 := h8 0 _ (sees_refl _) rfl (fun h => absurd h (by decide))
            simp only [putT, List.set] at h9
            exact h9
          refine RulesL.cons (fun vs => { tmps := #[.slice ap ds.length cp, .slice aq cuts.length cq, undef, undef, u28 4, .slice al L.length cl, u5 6, u5 7, .pointer (some ⟨g11, 0, none⟩), .int .i64 ((at0 : Nat) : Int), undef, .int .i64 (Lc.getD i 0), .int .i64 ((b : Nat) : Int), .pointer (some ⟨gx, 0, none⟩), .int .i64 0, .string (bs (rootS (L.take b))), .int .i64 0, .string (bs (rootS (L.take b))), .int .i64 0, u5 19, u5 20, u5 21, u5 22, u5 23, u5 24, u5 25, u5 26, u5 27, u5 28, u5 29, u5 30, u5 31, u5 32, u5 33, u5 34, u5 35, u5 36, u5 37, .agg ([.int .i64 0, .slice none 0 0]).toArray, .slice (some ⟨g17, 0, none⟩) 0 0, .slice aq cuts.length cq, .slice aq cuts.length cq, .int .i64 ((cuts.length : Nat) : Int), .int .i64 ((min cuts.length 20 : Nat) : Int), .slice aq (min cuts.length 20) cq, .slice (some ⟨g20, 0, none⟩) (min cuts.length 20) g20c, .slice al L.length cl, .int .i64 ((L.length : Nat) : Int), .slice (some ⟨g23, 0, none⟩) 1 1, .slice (some ⟨g25, 0, none⟩) (min cuts.length 20 + 1) g25c, .int .i64 ((min cuts.length 20 + 1 : Nat) : Int), .int .i64 ((i : Nat) : Int), .bool true, .pointer (some ⟨g25, i, none⟩), .int .i64 (Lc.getD i 0), .int .i64 (Lc.getD i 0), .int .i64 ((at0 : Nat) : Int), .int .i64 (max (Lc.getD i 0) ((at0 : Nat) : Int)), .slice al L.length cl, .int .i64 ((L.length : Nat) : Int), .int .i64 ((b : Nat) : Int), u46 61, u46 62, u46 63, u46 64, u46 65, u46 66, u46 67, u46 68, u46 69, .tuple #[.string (bs (rootS (L.take b))), .int .i64 0], .agg ([.int .i64 ((b : Nat) : Int), .slice ax ((partsL (L.take b)).length) cx]).toArray, .tuple #[.string (bs (rootS (L.take b))), .int .i64 0], .string (bs (rootS (L.take b))), .int .i64 0, .tuple #[.string (bs (rootS (L.take b))), .int .i64 0], .slice al L.length cl, .int .i64 ((b : Nat) : Int), .slice al b cl, .tuple #[.string (bs (rootS (L.take b))), .int .i64 0], .string (bs (rootS (L.take b))), .int .i64 0, u28 82, u28 83, u28 84, u28 85, u28 86, u28 87, u28 88, u28 89, u28 90, u28 91, vs 10, u28 93, u28 94, u28 95, u28 96, u28 97, u28 98, u28 99, u28 100, u28 101, u28 102, u28 103, u28 104, u28 105, u28 106, u28 107, u28 108, u28 109, u28 110, u28 111, u28 112, u28 113, u28 114, u28 115, undef, undef, undef, undef, undef, undef, undef, undef], defers := [] }) (by kernel_rfl) ?_ ?_
          · skip
            intro vs gs W76 SW76 D K9 hK9
            replace M := M.sees SW76
            obtain ⟨D10, _⟩ := D
            have e10 : vs 10 = .bool false := D10
            dsimp only at hK9
            dsimp only
            rw [e10] at hK9 ⊢
            refine wpL_chunk 1 (by rfl) (fun Lk hLk => ?_)
            simp only [List.take, List.drop]
            refine wpV_move (v := .string (bs (rootS (L.take b)))) (by rfl) rfl rfl ?_
            simp only [putT, List.set]
            refine wpV_nil (hLk _ (fun w77 Sw77 => ?_))
            clear hLk Lk
            simp only [List.take, List.drop]
            replace M := M.sees Sw77
            refine wpL_nil (then_normal ?_)
            have h8 := hK9 (.string (bs (rootS (L.take b))))
            have h9 := h8 0 _ Sw77 rfl (fun h => absurd h (by decide))
            simp only [putT, List.set] at h9
            exact h9
          refine RulesL.cons (fun vs => { tmps := #[.slice ap ds.length cp, .slice aq cuts.length cq, undef, undef, u28 4, .slice al L.length cl, u5 6, u5 7, .pointer (some ⟨g11, 0, none⟩), .int .i64 ((at0 : Nat) : Int), undef, .int .i64 (Lc.getD i 0), .int .i64 ((b : Nat) : Int), .pointer (some ⟨gx, 0, none⟩), .int .i64 0, .string (bs (rootS (L.take b))), .int .i64 0, .string (bs (rootS (L.take b))), .int .i64 0, u5 19, u5 20, u5 21, u5 22, u5 23, u5 24, u5 25, u5 26, u5 27, u5 28, u5 29, u5 30, u5 31, u5 32, u5 33, u5 34, u5 35, u5 36, u5 37, .agg ([.int .i64 0, .slice none 0 0]).toArray, .slice (some ⟨g17, 0, none⟩) 0 0, .slice aq cuts.length cq, .slice aq cuts.length cq, .int .i64 ((cuts.length : Nat) : Int), .int .i64 ((min cuts.length 20 : Nat) : Int), .slice aq (min cuts.length 20) cq, .slice (some ⟨g20, 0, none⟩) (min cuts.length 20) g20c, .slice al L.length cl, .int .i64 ((L.length : Nat) : Int), .slice (some ⟨g23, 0, none⟩) 1 1, .slice (some ⟨g25, 0, none⟩) (min cuts.length 20 + 1) g25c, .int .i64 ((min cuts.length 20 + 1 : Nat) : Int), .int .i64 ((i : Nat) : Int), .bool true, .pointer (some ⟨g25, i, none⟩), .int .i64 (Lc.getD i 0), .int .i64 (Lc.getD i 0), .int .i64 ((at0 : Nat) : Int), .int .i64 (max (Lc.getD i 0) ((at0 : Nat) : Int)), .slice al L.length cl, .int .i64 ((L.length : Nat) : Int), .int .i64 ((b : Nat) : Int), u46 61, u46 62, u46 63, u46 64, u46 65, u46 66, u46 67, u46 68, u46 69, .tuple #[.string (bs (rootS (L.take b))), .int .i64 0], .agg ([.int .i64 ((b : Nat) : Int), .slice ax ((partsL (L.take b)).length) cx]).toArray, .tuple #[.string (bs (rootS (L.take b))), .int .i64 0], .string (bs (rootS (L.take b))), .int .i64 0, .tuple #[.string (bs (rootS (L.take b))), .int .i64 0], .slice al L.length cl, .int .i64 ((b : Nat) : Int), .slice al b cl, .tuple #[.string (bs (rootS (L.take b))), .int .i64 0], .string (bs (rootS (L.take b))), .int .i64 0, u28 82, u28 83, u28 84, u28 85, u28 86, u28 87, u28 88, u28 89, u28 90, u28 91, vs 10, u28 93, u28 94, u28 95, u28 96, u28 97, u28 98, u28 99, u28 100, u28 101, u28 102, u28 103, u28 104, u28 105, u28 106, u28 107, u28 108, u28 109, u28 110, u28 111, u28 112, u28 113, u28 114, u28 115, undef, undef, undef, undef, undef, undef, undef, undef], defers := [] }) (by kernel_rfl) ?_ ?_
          · skip
            intro vs gs W78 SW78 D K9 hK9
            replace M := M.sees SW78
            obtain ⟨D10, _⟩ := D
            have e10 : vs 10 = .bool false := D10
            dsimp only at hK9
            dsimp only
            rw [e10] at hK9 ⊢
            refine wpL_chunk 1 (by rfl) (fun Lk hLk => ?_)
            simp only [List.take, List.drop]
            refine wpV_move (v := .string (bs (rootS (L.take b)))) (by rfl) rfl rfl ?_
            simp only [putT, List.set]
            refine wpV_nil (hLk _ (fun w79 Sw79 => ?_))
            clear hLk Lk
            simp only [List.take, List.drop]
            replace M := M.sees Sw79
            refine wpL_nil (then_normal ?_)
            have h8 := hK9 (.string (bs (rootS (L.take b))))
            have h9 := h8 0 _ Sw79 rfl (fun h => absurd h (by decide))
            simp only [putT, List.set] at h9
            exact h9
          refine RulesL.cons (fun vs => { tmps := #[.slice ap ds.length cp, .slice aq cuts.length cq, undef, undef, u28 4, .slice al L.length cl, u5 6, u5 7, .pointer (some ⟨g11, 0, none⟩), .int .i64 ((at0 : Nat) : Int), undef, .int .i64 (Lc.getD i 0), .int .i64 ((b : Nat) : Int), .pointer (some ⟨gx, 0, none⟩), .int .i64 0, .string (bs (rootS (L.take b))), .int .i64 0, .string (bs (rootS (L.take b))), .int .i64 0, u5 19, u5 20, u5 21, u5 22, u5 23, u5 24, u5 25, u5 26, u5 27, u5 28, u5 29, u5 30, u5 31, u5 32, u5 33, u5 34, u5 35, u5 36, u5 37, .agg ([.int .i64 0, .slice none 0 0]).toArray, .slice (some ⟨g17, 0, none⟩) 0 0, .slice aq cuts.length cq, .slice aq cuts.length cq, .int .i64 ((cuts.length : Nat) : Int), .int .i64 ((min cuts.length 20 : Nat) : Int), .slice aq (min cuts.length 20) cq, .slice (some ⟨g20, 0, none⟩) (min cuts.length 20) g20c, .slice al L.length cl, .int .i64 ((L.length : Nat) : Int), .slice (some ⟨g23, 0, none⟩) 1 1, .slice (some ⟨g25, 0, none⟩) (min cuts.length 20 + 1) g25c, .int .i64 ((min cuts.length 20 + 1 : Nat) : Int), .int .i64 ((i : Nat) : Int), .bool true, .pointer (some ⟨g25, i, none⟩), .int .i64 (Lc.getD i 0), .int .i64 (Lc.getD i 0), .int .i64 ((at0 : Nat) : Int), .int .i64 (max (Lc.getD i 0) ((at0 : Nat) : Int)), .slice al L.length cl, .int .i64 ((L.length : Nat) : Int), .int .i64 ((b : Nat) : Int), u46 61, u46 62, u46 63, u46 64, u46 65, u46 66, u46 67, u46 68, u46 69, .tuple #[.string (bs (rootS (L.take b))), .int .i64 0], .agg ([.int .i64 ((b : Nat) : Int), .slice ax ((partsL (L.take b)).length) cx]).toArray, .tuple #[.string (bs (rootS (L.take b))), .int .i64 0], .string (bs (rootS (L.take b))), .int .i64 0, .tuple #[.string (bs (rootS (L.take b))), .int .i64 0], .slice al L.length cl, .int .i64 ((b : Nat) : Int), .slice al b cl, .tuple #[.string (bs (rootS (L.take b))), .int .i64 0], .string (bs (rootS (L.take b))), .int .i64 0, u28 82, u28 83, u28 84, u28 85, u28 86, u28 87, u28 88, u28 89, u28 90, u28 91, vs 10, vs 11, vs 12, u28 95, u28 96, u28 97, u28 98, u28 99, u28 100, u28 101, u28 102, u28 103, u28 104, u28 105, u28 106, u28 107, u28 108, u28 109, u28 110, u28 111, u28 112, u28 113, u28 114, u28 115, undef, undef, undef, undef, undef, undef, undef, undef], defers := [] }) (by kernel_rfl) ?_ ?_
          · skip
            intro vs gs W80 SW80 D K9 hK9
            replace M := M.sees SW80
            obtain ⟨D10, D11, D12, _⟩ := D
            have e10 : vs 10 = .bool false := D10
            have e11 : vs 11 = .string (bs (rootS (L.take b))) := D11
            have e12 : vs 12 = .string (bs (rootS (L.take b))) := D12
            dsimp only at hK9
            dsimp only
            rw [e10, e11, e12] at hK9 ⊢
            refine wpL_chunk 1 (by rfl) (fun Lk hLk => ?_)
            simp only [List.take, List.drop]
            refine wpV_binS (v := .bool false) (by rfl) rfl rfl rfl (fun W => (run_neq_bs _ _ _ W).trans (by rw [show decide (rootS (L.take b) ≠ rootS (L.take b)) = false from (decide_eq_false (fun h9 => h9 rfl))])) ?_
            simp only [putT, List.set]
            refine wpV_nil (hLk _ (fun w81 Sw81 => ?_))
            clear hLk Lk
            simp only [List.take, List.drop]
            replace M := M.sees Sw81
            refine wpL_nil (then_normal ?_)
            have h8 := hK9 (.bool false)
            have h9 := h8 0 _ Sw81 rfl (fun h => absurd h (by decide))
            simp only [putT, List.set] at h9
            exact h9
          refine RulesL.cons (fun vs => { tmps := #[.slice ap ds.length cp, .slice aq cuts.length cq, undef, undef, u28 4, .slice al L.length cl, u5 6, u5 7, .pointer (some ⟨g11, 0, none⟩), .int .i64 ((at0 : Nat) : Int), undef, .int .i64 (Lc.getD i 0), .int .i64 ((b : Nat) : Int), .pointer (some ⟨gx, 0, none⟩), .int .i64 0, .string (bs (rootS (L.take b))), .int .i64 0, .string (bs (rootS (L.take b))), .int .i64 0, u5 19, u5 20, u5 21, u5 22, u5 23, u5 24, u5 25, u5 26, u5 27, u5 28, u5 29, u5 30, u5 31, u5 32, u5 33, u5 34, u5 35, u5 36, u5 37, .agg ([.int .i64 0, .slice none 0 0]).toArray, .slice (some ⟨g17, 0, none⟩) 0 0, .slice aq cuts.length cq, .slice aq cuts.length cq, .int .i64 ((cuts.length : Nat) : Int), .int .i64 ((min cuts.length 20 : Nat) : Int), .slice aq (min cuts.length 20) cq, .slice (some ⟨g20, 0, none⟩) (min cuts.length 20) g20c, .slice al L.length cl, .int .i64 ((L.length : Nat) : Int), .slice (some ⟨g23, 0, none⟩) 1 1, .slice (some ⟨g25, 0, none⟩) (min cuts.length 20 + 1) g25c, .int .i64 ((min cuts.length 20 + 1 : Nat) : Int), .int .i64 ((i : Nat) : Int), .bool true, .pointer (some ⟨g25, i, none⟩), .int .i64 (Lc.getD i 0), .int .i64 (Lc.getD i 0), .int .i64 ((at0 : Nat) : Int), .int .i64 (max (Lc.getD i 0) ((at0 : Nat) : Int)), .slice al L.length cl, .int .i64 ((L.length : Nat) : Int), .int .i64 ((b : Nat) : Int), u46 61, u46 62, u46 63, u46 64, u46 65, u46 66, u46 67, u46 68, u46 69, .tuple #[.string (bs (rootS (L.take b))), .int .i64 0], .agg ([.int .i64 ((b : Nat) : Int), .slice ax ((partsL (L.take b)).length) cx]).toArray, .tuple #[.string (bs (rootS (L.take b))), .int .i64 0], .string (bs (rootS (L.take b))), .int .i64 0, .tuple #[.string (bs (rootS (L.take b))), .int .i64 0], .slice al L.length cl, .int .i64 ((b : Nat) : Int), .slice al b cl, .tuple #[.string (bs (rootS (L.take b))), .int .i64 0], .string (bs (rootS (L.take b))), .int .i64 0, u28 82, u28 83, u28 84, u28 85, u28 86, u28 87, u28 88, u28 89, u28 90, u28 91, vs 10, u28 93, u28 94, vs 13, u28 96, u28 97, u28 98, u28 99, u28 100, u28 101, u28 102, u28 103, u28 104, u28 105, u28 106, u28 107, u28 108, u28 109, u28 110, u28 111, u28 112, u28 113, u28 114, u28 115, undef, undef, undef, undef, undef, undef, undef, undef], defers := [] }) (by kernel_rfl) ?_ ?_
          · skip
            intro vs gs W82 SW82 D K9 hK9
            replace M := M.sees SW82
            obtain ⟨D10, D13, _⟩ := D
            have e10 : vs 10 = .bool false := D10
            have e13 : vs 13 = .bool false := D13
            dsimp only at hK9
            dsimp only
            rw [e10, e13] at hK9 ⊢
            refine wpL_chunk 1 (by rfl) (fun Lk hLk => ?_)
            simp only [List.take, List.drop]
            refine wpV_pick (v := .bool false) (by rfl) rfl rfl rfl ?_
            simp only [putT, List.set]
            refine wpV_nil (hLk _ (fun w83 Sw83 => ?_))
            clear hLk Lk
            simp only [List.take, List.drop]
            replace M := M.sees Sw83
            refine wpL_nil (then_normal ?_)
            have h8 := hK9 (.bool false)
            have h9 := h8 0 _ Sw83 rfl (fun h => absurd h (by decide))
            simp only [putT, List.set] at h9
            exact h9
          refine RulesL.cons (fun vs => { tmps := #[.slice ap ds.length cp, .slice aq cuts.length cq, undef, undef, u28 4, .slice al L.length cl, u5 6, u5 7, .pointer (some ⟨g11, 0, none⟩), .int .i64 ((at0 : Nat) : Int), undef, .int .i64 (Lc.getD i 0), .int .i64 ((b : Nat) : Int), .pointer (some ⟨gx, 0, none⟩), .int .i64 0, .string (bs (rootS (L.take b))), .int .i64 0, .string (bs (rootS (L.take b))), .int .i64 0, u5 19, u5 20, u5 21, u5 22, u5 23, u5 24, u5 25, u5 26, u5 27, u5 28, u5 29, u5 30, u5 31, u5 32, u5 33, u5 34, u5 35, u5 36, u5 37, .agg ([.int .i64 0, .slice none 0 0]).toArray, .slice (some ⟨g17, 0, none⟩) 0 0, .slice aq cuts.length cq, .slice aq cuts.length cq, .int .i64 ((cuts.length : Nat) : Int), .int .i64 ((min cuts.length 20 : Nat) : Int), .slice aq (min cuts.length 20) cq, .slice (some ⟨g20, 0, none⟩) (min cuts.length 20) g20c, .slice al L.length cl, .int .i64 ((L.length : Nat) : Int), .slice (some ⟨g23, 0, none⟩) 1 1, .slice (some ⟨g25, 0, none⟩) (min cuts.length 20 + 1) g25c, .int .i64 ((min cuts.length 20 + 1 : Nat) : Int), .int .i64 ((i : Nat) : Int), .bool true, .pointer (some ⟨g25, i, none⟩), .int .i64 (Lc.getD i 0), .int .i64 (Lc.getD i 0), .int .i64 ((at0 : Nat) : Int), .int .i64 (max (Lc.getD i 0) ((at0 : Nat) : Int)), .slice al L.length cl, .int .i64 ((L.length : Nat) : Int), .int .i64 ((b : Nat) : Int), u46 61, u46 62, u46 63, u46 64, u46 65, u46 66, u46 67, u46 68, u46 69, .tuple #[.string (bs (rootS (L.take b))), .int .i64 0], .agg ([.int .i64 ((b : Nat) : Int), .slice ax ((partsL (L.take b)).length) cx]).toArray, .tuple #[.string (bs (rootS (L.take b))), .int .i64 0], .string (bs (rootS (L.take b))), .int .i64 0, .tuple #[.string (bs (rootS (L.take b))), .int .i64 0], .slice al L.length cl, .int .i64 ((b : Nat) : Int), .slice al b cl, .tuple #[.string (bs (rootS (L.take b))), .int .i64 0], .string (bs (rootS (L.take b))), .int .i64 0, u28 82, u28 83, u28 84, u28 85, u28 86, u28 87, u28 88, u28 89, u28 90, u28 91, u28 92, u28 93, u28 94, u28 95, vs 14, u28 97, u28 98, u28 99, u28 100, u28 101, u28 102, u28 103, u28 104, u28 105, u28 106, u28 107, u28 108, u28 109, u28 110, u28 111, u28 112, u28 113, u28 114, u28 115, undef, undef, undef, undef, undef, undef, undef, undef], defers := [] }) (by kernel_rfl) ?_ ?_
          · skip
            intro vs gs W84 SW84 D K9 hK9
            replace M := M.sees SW84
            obtain ⟨D14, _⟩ := D
            have e14 : vs 14 = .bool false := D14
            dsimp only at hK9
            dsimp only
            rw [e14] at hK9 ⊢
            refine wpL_move (v := .bool false) (by rfl) (by rfl) (by rfl) ?_
            simp only [putT, List.set]
            refine wpL_nil (then_normal ?_)
            have h8 := hK9 (.bool false)
            have h9 := h8 0 _ (sees_refl _) rfl (fun h => absurd h (by decide))
            simp only [putT, List.set] at h9
            exact h9
          refine RulesL.cons (fun vs => { tmps := #[.slice ap ds.length cp, .slice aq cuts.length cq, undef, undef, u28 4, .slice al L.length cl, u5 6, u5 7, .pointer (some ⟨g11, 0, none⟩), .int .i64 ((at0 : Nat) : Int), undef, .int .i64 (Lc.getD i 0), .int .i64 ((b : Nat) : Int), .pointer (some ⟨gx, 0, none⟩), .int .i64 0, .string (bs (rootS (L.take b))), .int .i64 0, .string (bs (rootS (L.take b))), .int .i64 0, u5 19, u5 20, u5 21, u5 22, u5 23, u5 24, u5 25, u5 26, u5 27, u5 28, u5 29, u5 30, u5 31, u5 32, u5 33, u5 34, u5 35, u5 36, u5 37, .agg ([.int .i64 0, .slice none 0 0]).toArray, .slice (some ⟨g17, 0, none⟩) 0 0, .slice aq cuts.length cq, .slice aq cuts.length cq, .int .i64 ((cuts.length : Nat) : Int), .int .i64 ((min cuts.length 20 : Nat) : Int), .slice aq (min cuts.length 20) cq, .slice (some ⟨g20, 0, none⟩) (min cuts.length 20) g20c, .slice al L.length cl, .int .i64 ((L.length : Nat) : Int), .slice (some ⟨g23, 0, none⟩) 1 1, .slice (some ⟨g25, 0, none⟩) (min cuts.length 20 + 1) g25c, .int .i64 ((min cuts.length 20 + 1 : Nat) : Int), .int .i64 ((i : Nat) : Int), .bool true, .pointer (some ⟨g25, i, none⟩), .int .i64 (Lc.getD i 0), .int .i64 (Lc.getD i 0), .int .i64 ((at0 : Nat) : Int), .int .i64 (max (Lc.getD i 0) ((at0 : Nat) : Int)), .slice al L.length cl, .int .i64 ((L.length : Nat) : Int), .int .i64 ((b : Nat) : Int), u46 61, u46 62, u46 63, u46 64, u46 65, u46 66, u46 67, u46 68, u46 69, .tuple #[.string (bs (rootS (L.take b))), .int .i64 0], .agg ([.int .i64 ((b : Nat) : Int), .slice ax ((partsL (L.take b)).length) cx]).toArray, .tuple #[.string (bs (rootS (L.take b))), .int .i64 0], .string (bs (rootS (L.take b))), .int .i64 0, .tuple #[.string (bs (rootS (L.take b))), .int .i64 0], .slice al L.length cl, .int .i64 ((b : Nat) : Int), .slice al b cl, .tuple #[.string (bs (rootS (L.take b))), .int .i64 0], .string (bs (rootS (L.take b))), .int .i64 0, u28 82, u28 83, u28 84, u28 85, u28 86, u28 87, u28 88, u28 89, u28 90, u28 91, u28 92, u28 93, u28 94, u28 95, u28 96, vs 15, u28 98, u28 99, u28 100, u28 101, u28 102, u28 103, u28 104, u28 105, u28 106, u28 107, u28 108, u28 109, u28 110, u28 111, u28 112, u28 113, u28 114, u28 115, undef, undef, undef, undef, undef, undef, undef, undef], defers := [] }) (by kernel_rfl) ?_ ?_
          · skip
            intro vs gs W85 SW85 D K9 hK9
            replace M := M.sees SW85
            obtain ⟨D15, _⟩ := D
            have e15 : vs 15 = .bool false := D15
            dsimp only at hK9
            dsimp only
            rw [e15] at hK9 ⊢
            refine wpL_chunk 1 (by rfl) (fun Lk hLk => ?_)
            simp only [List.take, List.drop]
            refine wpV_val (v := .pointer (some ⟨gx, 0, none⟩)) (by rfl) (by rfl) (fun W hW => ?_) ?_
            · (go_simp; exact rfl)
            simp only [putT, List.set]
            refine wpV_nil (hLk _ (fun w86 Sw86 => ?_))
            clear hLk Lk
            simp only [List.take, List.drop]
            replace M := M.sees Sw86
            refine wpL_nil (then_normal ?_)
            have h8 := hK9 (.pointer (some ⟨gx, 0, none⟩))
            have h9 := h8 0 _ Sw86 rfl (fun h => absurd h (by decide))
            simp only [putT, List.set] at h9
            exact h9
          refine RulesL.cons (fun vs => { tmps := #[.slice ap ds.length cp, .slice aq cuts.length cq, undef, undef, u28 4, .slice al L.length cl, u5 6, u5 7, .pointer (some ⟨g11, 0, none⟩), .int .i64 ((at0 : Nat) : Int), undef, .int .i64 (Lc.getD i 0), .int .i64 ((b : Nat) : Int), .pointer (some ⟨gx, 0, none⟩), .int .i64 0, .string (bs (rootS (L.take b))), .int .i64 0, .string (bs (rootS (L.take b))), .int .i64 0, u5 19, u5 20, u5 21, u5 22, u5 23, u5 24, u5 25, u5 26, u5 27, u5 28, u5 29, u5 30, u5 31, u5 32, u5 33, u5 34, u5 35, u5 36, u5 37, .agg ([.int .i64 0, .slice none 0 0]).toArray, .slice (some ⟨g17, 0, none⟩) 0 0, .slice aq cuts.length cq, .slice aq cuts.length cq, .int .i64 ((cuts.length : Nat) : Int), .int .i64 ((min cuts.length 20 : Nat) : Int), .slice aq (min cuts.length 20) cq, .slice (some ⟨g20, 0, none⟩) (min cuts.length 20) g20c, .slice al L.length cl, .int .i64 ((L.length : Nat) : Int), .slice (some ⟨g23, 0, none⟩) 1 1, .slice (some ⟨g25, 0, none⟩) (min cuts.length 20 + 1) g25c, .int .i64 ((min cuts.length 20 + 1 : Nat) : Int), .int .i64 ((i : Nat) : Int), .bool true, .pointer (some ⟨g25, i, none⟩), .int .i64 (Lc.getD i 0), .int .i64 (Lc.getD i 0), .int .i64 ((at0 : Nat) : Int), .int .i64 (max (Lc.getD i 0) ((at0 : Nat) : Int)), .slice al L.length cl, .int .i64 ((L.length : Nat) : Int), .int .i64 ((b : Nat) : Int), u46 61, u46 62, u46 63, u46 64, u46 65, u46 66, u46 67, u46 68, u46 69, .tuple #[.string (bs (rootS (L.take b))), .int .i64 0], .agg ([.int .i64 ((b : Nat) : Int), .slice ax ((partsL (L.take b)).length) cx]).toArray, .tuple #[.string (bs (rootS (L.take b))), .int .i64 0], .string (bs (rootS (L.take b))), .int .i64 0, .tuple #[.string (bs (rootS (L.take b))), .int .i64 0], .slice al L.length cl, .int .i64 ((b : Nat) : Int), .slice al b cl, .tuple #[.string (bs (rootS (L.take b))), .int .i64 0], .string (bs (rootS (L.take b))), .int .i64 0, u28 82, u28 83, u28 84, u28 85, u28 86, u28 87, u28 88, u28 89, u28 90, u28 91, u28 92, u28 93, u28 94, u28 95, u28 96, vs 15, vs 16, u28 99, u28 100, u28 101, u28 102, u28 103, u28 104, u28 105, u28 106, u28 107, u28 108, u28 109, u28 110, u28 111, u28 112, u28 113, u28 114, u28 115, undef, undef, undef, undef, undef, undef, undef, undef], defers := [] }) (by kernel_rfl) ?_ ?_
          · skip
            intro vs gs W87 SW87 D K9 hK9
            replace M := M.sees SW87
            obtain ⟨D15, D16, _⟩ := D
            have e15 : vs 15 = .bool false := D15
            have e16 : vs 16 = .pointer (some ⟨gx, 0, none⟩) := D16
            dsimp only at hK9
            dsimp only
            rw [e15, e16] at hK9 ⊢
            refine wpL_chunk 1 (by rfl) (fun Lk hLk => ?_)
            simp only [List.take, List.drop]
            refine wpV_load1 (v := .int .i64 ((b : Nat) : Int)) (by rfl) rfl rfl (range_one (range_sub (M.r 2 0 rfl rfl) 0 1 0 (xs := [.int .i64 ((b : Nat) : Int)]) rfl rfl)) (M.lt 2 rfl) Tryd.underlying3 rfl ?_
            simp only [putT, List.set]
            refine wpV_nil (hLk _ (fun w88 Sw88 => ?_))
            clear hLk Lk
            simp only [List.take, List.drop]
            replace M := M.sees Sw88
            refine wpL_nil (then_normal ?_)
            have h8 := hK9 (.int .i64 ((b : Nat) : Int))
            have h9 := h8 0 _ Sw88 rfl (fun h => absurd h (by decide))
            simp only [putT, List.set] at h9
            exact h9
          refine RulesL.cons (fun vs => { tmps := #[.slice ap ds.length cp, .slice aq cuts.length cq, undef, undef, u28 4, .slice al L.length cl, u5 6, u5 7, .pointer (some ⟨g11, 0, none⟩), .int .i64 ((at0 : Nat) : Int), undef, .int .i64 (Lc.getD i 0), .int .i64 ((b : Nat) : Int), .pointer (some ⟨gx, 0, none⟩), .int .i64 0, .string (bs (rootS (L.take b))), .int .i64 0, .string (bs (rootS (L.take b))), .int .i64 0, u5 19, u5 20, u5 21, u5 22, u5 23, u5 24, u5 25, u5 26, u5 27, u5 28, u5 29, u5 30, u5 31, u5 32, u5 33, u5 34, u5 35, u5 36, u5 37, .agg ([.int .i64 0, .slice none 0 0]).toArray, .slice (some ⟨g17, 0, none⟩) 0 0, .slice aq cuts.length cq, .slice aq cuts.length cq, .int .i64 ((cuts.length : Nat) : Int), .int .i64 ((min cuts.length 20 : Nat) : Int), .slice aq (min cuts.length 20) cq, .slice (some ⟨g20, 0, none⟩) (min cuts.length 20) g20c, .slice al L.length cl, .int .i64 ((L.length : Nat) : Int), .slice (some ⟨g23, 0, none⟩) 1 1, .slice (some ⟨g25, 0, none⟩) (min cuts.length 20 + 1) g25c, .int .i64 ((min cuts.length 20 + 1 : Nat) : Int), .int .i64 ((i : Nat) : Int), .bool true, .pointer (some ⟨g25, i, none⟩), .int .i64 (Lc.getD i 0), .int .i64 (Lc.getD i 0), .int .i64 ((at0 : Nat) : Int), .int .i64 (max (Lc.getD i 0) ((at0 : Nat) : Int)), .slice al L.length cl, .int .i64 ((L.length : Nat) : Int), .int .i64 ((b : Nat) : Int), u46 61, u46 62, u46 63, u46 64, u46 65, u46 66, u46 67, u46 68, u46 69, .tuple #[.string (bs (rootS (L.take b))), .int .i64 0], .agg ([.int .i64 ((b : Nat) : Int), .slice ax ((partsL (L.take b)).length) cx]).toArray, .tuple #[.string (bs (rootS (L.take b))), .int .i64 0], .string (bs (rootS (L.take b))), .int .i64 0, .tuple #[.string (bs (rootS (L.take b))), .int .i64 0], .slice al L.length cl, .int .i64 ((b : Nat) : Int), .slice al b cl, .tuple #[.string (bs (rootS (L.take b))), .int .i64 0], .string (bs (rootS (L.take b))), .int .i64 0, u28 82, u28 83, u28 84, u28 85, u28 86, u28 87, u28 88, u28 89, u28 90, u28 91, u28 92, u28 93, u28 94, u28 95, u28 96, vs 15, u28 98, u28 99, u28 100, u28 101, u28 102, u28 103, u28 104, u28 105, u28 106, u28 107, u28 108, u28 109, u28 110, u28 111, u28 112, u28 113, u28 114, u28 115, undef, undef, undef, undef, undef, undef, undef, undef], defers := [] }) (by kernel_rfl) ?_ ?_
          · skip
            intro vs gs W89 SW89 D K9 hK9
            replace M := M.sees SW89
            obtain ⟨D15, _⟩ := D
            have e15 : vs 15 = .bool false := D15
            dsimp only at hK9
            dsimp only
            rw [e15] at hK9 ⊢
            refine wpL_chunk 1 (by rfl) (fun Lk hLk => ?_)
            simp only [List.take, List.drop]
            refine wpV_move (v := .int .i64 ((b : Nat) : Int)) (by rfl) rfl rfl ?_
            simp only [putT, List.set]
            refine wpV_nil (hLk _ (fun w90 Sw90 => ?_))
            clear hLk Lk
            simp only [List.take, List.drop]
            replace M := M.sees Sw90
            refine wpL_nil (then_normal ?_)
            have h8 := hK9 (.int .i64 ((b : Nat) : Int))
            have h9 := h8 0 _ Sw90 rfl (fun h => absurd h (by decide))
            simp only [putT, List.set] at h9
            exact h9
          refine RulesL.cons (fun vs => { tmps := #[.slice ap ds.length cp, .slice aq cuts.length cq, undef, undef, u28 4, .slice al L.length cl, u5 6, u5 7, .pointer (some ⟨g11, 0, none⟩), .int .i64 ((at0 : Nat) : Int), undef, .int .i64 (Lc.getD i 0), .int .i64 ((b : Nat) : Int), .pointer (some ⟨gx, 0, none⟩), .int .i64 0, .string (bs (rootS (L.take b))), .int .i64 0, .string (bs (rootS (L.take b))), .int .i64 0, u5 19, u5 20, u5 21, u5 22, u5 23, u5 24, u5 25, u5 26, u5 27, u5 28, u5 29, u5 30, u5 31, u5 32, u5 33, u5 34, u5 35, u5 36, u5 37, .agg ([.int .i64 0, .slice none 0 0]).toArray, .slice (some ⟨g17, 0, none⟩) 0 0, .slice aq cuts.length cq, .slice aq cuts.length cq, .int .i64 ((cuts.length : Nat) : Int), .int .i64 ((min cuts.length 20 : Nat) : Int), .slice aq (min cuts.length 20) cq, .slice (some ⟨g20, 0, none⟩) (min cuts.length 20) g20c, .slice al L.length cl, .int .i64 ((L.length : Nat) : Int), .slice (some ⟨g23, 0, none⟩) 1 1, .slice (some ⟨g25, 0, none⟩) (min cuts.length 20 + 1) g25c, .int .i64 ((min cuts.length 20 + 1 : Nat) : Int), .int .i64 ((i : Nat) : Int), .bool true, .pointer (some ⟨g25, i, none⟩), .int .i64 (Lc.getD i 0), .int .i64 (Lc.getD i 0), .int .i64 ((at0 : Nat) : Int), .int .i64 (max (Lc.getD i 0) ((at0 : Nat) : Int)), .slice al L.length cl, .int .i64 ((L.length : Nat) : Int), .int .i64 ((b : Nat) : Int), u46 61, u46 62, u46 63, u46 64, u46 65, u46 66, u46 67, u46 68, u46 69, .tuple #[.string (bs (rootS (L.take b))), .int .i64 0], .agg ([.int .i64 ((b : Nat) : Int), .slice ax ((partsL (L.take b)).length) cx]).toArray, .tuple #[.string (bs (rootS (L.take b))), .int .i64 0], .string (bs (rootS (L.take b))), .int .i64 0, .tuple #[.string (bs (rootS (L.take b))), .int .i64 0], .slice al L.length cl, .int .i64 ((b : Nat) : Int), .slice al b cl, .tuple #[.string (bs (rootS (L.take b))), .int .i64 0], .string (bs (rootS (L.take b))), .int .i64 0, u28 82, u28 83, u28 84, u28 85, u28 86, u28 87, u28 88, u28 89, u28 90, u28 91, u28 92, u28 93, u28 94, u28 95, u28 96, vs 15, u28 98, vs 17, vs 18, u28 101, u28 102, u28 103, u28 104, u28 105, u28 106, u28 107, u28 108, u28 109, u28 110, u28 111, u28 112, u28 113, u28 114, u28 115, undef, undef, undef, undef, undef, undef, undef, undef], defers := [] }) (by kernel_rfl) ?_ ?_
          · skip
            intro vs gs W91 SW91 D K9 hK9
            replace M := M.sees SW91
            obtain ⟨D15, D17, D18, _⟩ := D
            have e15 : vs 15 = .bool false := D15
            have e17 : vs 17 = .int .i64 ((b : Nat) : Int) := D17
            have e18 : vs 18 = .int .i64 ((b : Nat) : Int) := D18
            dsimp only at hK9
            dsimp only
            rw [e15, e17, e18] at hK9 ⊢
            refine wpL_chunk 1 (by rfl) (fun Lk hLk => ?_)
            simp only [List.take, List.drop]
            refine wpV_bin (v := .bool false) (by rfl) rfl rfl rfl (fun W => (run_neqN b b _ _ W).trans (by rw [(decide_eq_false (fun h => h rfl))])) ?_
            simp only [putT, List.set]
            refine wpV_nil (hLk _ (fun w92 Sw92 => ?_))
            clear hLk Lk
            simp only [List.take, List.drop]
            replace M := M.sees Sw92
            refine wpL_nil (then_normal ?_)
            have h8 := hK9 (.bool false)
            have h9 := h8 0 _ Sw92 rfl (fun h => absurd h (by decide))
            simp only [putT, List.set] at h9
            exact h9
          refine RulesL.cons (fun vs => { tmps := #[.slice ap ds.length cp, .slice aq cuts.length cq, undef, undef, u28 4, .slice al L.length cl, u5 6, u5 7, .pointer (some ⟨g11, 0, none⟩), .int .i64 ((at0 : Nat) : Int), undef, .int .i64 (Lc.getD i 0), .int .i64 ((b : Nat) : Int), .pointer (some ⟨gx, 0, none⟩), .int .i64 0, .string (bs (rootS (L.take b))), .int .i64 0, .string (bs (rootS (L.take b))), .int .i64 0, u5 19, u5 20, u5 21, u5 22, u5 23, u5 24, u5 25, u5 26, u5 27, u5 28, u5 29, u5 30, u5 31, u5 32, u5 33, u5 34, u5 35, u5 36, u5 37, .agg ([.int .i64 0, .slice none 0 0]).toArray, .slice (some ⟨g17, 0, none⟩) 0 0, .slice aq cuts.length cq, .slice aq cuts.length cq, .int .i64 ((cuts.length : Nat) : Int), .int .i64 ((min cuts.length 20 : Nat) : Int), .slice aq (min cuts.length 20) cq, .slice (some ⟨g20, 0, none⟩) (min cuts.length 20) g20c, .slice al L.length cl, .int .i64 ((L.length : Nat) : Int), .slice (some ⟨g23, 0, none⟩) 1 1, .slice (some ⟨g25, 0, none⟩) (min cuts.length 20 + 1) g25c, .int .i64 ((min cuts.length 20 + 1 : Nat) : Int), .int .i64 ((i : Nat) : Int), .bool true, .pointer (some ⟨g25, i, none⟩), .int .i64 (Lc.getD i 0), .int .i64 (Lc.getD i 0), .int .i64 ((at0 : Nat) : Int), .int .i64 (max (Lc.getD i 0) ((at0 : Nat) : Int)), .slice al L.length cl, .int .i64 ((L.length : Nat) : Int), .int .i64 ((b : Nat) : Int), u46 61, u46 62, u46 63, u46 64, u46 65, u46 66, u46 67, u46 68, u46 69, .tuple #[.string (bs (rootS (L.take b))), .int .i64 0], .agg ([.int .i64 ((b : Nat) : Int), .slice ax ((partsL (L.take b)).length) cx]).toArray, .tuple #[.string (bs (rootS (L.take b))), .int .i64 0], .string (bs (rootS (L.take b))), .int .i64 0, .tuple #[.string (bs (rootS (L.take b))), .int .i64 0], .slice al L.length cl, .int .i64 ((b : Nat) : Int), .slice al b cl, .tuple #[.string (bs (rootS (L.take b))), .int .i64 0], .string (bs (rootS (L.take b))), .int .i64 0, u28 82, u28 83, u28 84, u28 85, u28 86, u28 87, u28 88, u28 89, u28 90, u28 91, u28 92, u28 93, u28 94, u28 95, u28 96, vs 15, u28 98, u28 99, u28 100, vs 19, u28 102, u28 103, u28 104, u28 105, u28 106, u28 107, u28 108, u28 109, u28 110, u28 111, u28 112, u28 113, u28 114, u28 115, undef, undef, undef, undef, undef, undef, undef, undef], defers := [] }) (by kernel_rfl) ?_ ?_
          · skip
            intro vs gs W93 SW93 D K9 hK9
            replace M := M.sees SW93
            obtain ⟨D15, D19, _⟩ := D
            have e15 : vs 15 = .bool false := D15
            have e19 : vs 19 = .bool false := D19
            dsimp only at hK9
            dsimp only
            rw [e15, e19] at hK9 ⊢
            refine wpL_chunk 1 (by rfl) (fun Lk hLk => ?_)
            simp only [List.take, List.drop]
            refine wpV_pick (v := .bool false) (by rfl) rfl rfl rfl ?_
            simp only [putT, List.set]
            refine wpV_nil (hLk _ (fun w94 Sw94 => ?_))
            clear hLk Lk
            simp only [List.take, List.drop]
            replace M := M.sees Sw94
            refine wpL_nil (then_normal ?_)
            have h8 := hK9 (.bool false)
            have h9 := h8 0 _ Sw94 rfl (fun h => absurd h (by decide))
            simp only [putT, List.set] at h9
            exact h9
          refine RulesL.cons (fun vs => { tmps := #[.slice ap ds.length cp, .slice aq cuts.length cq, undef, undef, u28 4, .slice al L.length cl, u5 6, u5 7, .pointer (some ⟨g11, 0, none⟩), .int .i64 ((at0 : Nat) : Int), undef, .int .i64 (Lc.getD i 0), .int .i64 ((b : Nat) : Int), .pointer (some ⟨gx, 0, none⟩), .int .i64 0, .string (bs (rootS (L.take b))), .int .i64 0, .string (bs (rootS (L.take b))), .int .i64 0, u5 19, u5 20, u5 21, u5 22, u5 23, u5 24, u5 25, u5 26, u5 27, u5 28, u5 29, u5 30, u5 31, u5 32, u5 33, u5 34, u5 35, u5 36, u5 37, .agg ([.int .i64 0, .slice none 0 0]).toArray, .slice (some ⟨g17, 0, none⟩) 0 0, .slice aq cuts.length cq, .slice aq cuts.length cq, .int .i64 ((cuts.length : Nat) : Int), .int .i64 ((min cuts.length 20 : Nat) : Int), .slice aq (min cuts.length 20) cq, .slice (some ⟨g20, 0, none⟩) (min cuts.length 20) g20c, .slice al L.length cl, .int .i64 ((L.length : Nat) : Int), .slice (some ⟨g23, 0, none⟩) 1 1, .slice (some ⟨g25, 0, none⟩) (min cuts.length 20 + 1) g25c, .int .i64 ((min cuts.length 20 + 1 : Nat) : Int), .int .i64 ((i : Nat) : Int), .bool true, .pointer (some ⟨g25, i, none⟩), .int .i64 (Lc.getD i 0), .int .i64 (Lc.getD i 0), .int .i64 ((at0 : Nat) : Int), .int .i64 (max (Lc.getD i 0) ((at0 : Nat) : Int)), .slice al L.length cl, .int .i64 ((L.length : Nat) : Int), .int .i64 ((b : Nat) : Int), u46 61, u46 62, u46 63, u46 64, u46 65, u46 66, u46 67, u46 68, u46 69, .tuple #[.string (bs (rootS (L.take b))), .int .i64 0], .agg ([.int .i64 ((b : Nat) : Int), .slice ax ((partsL (L.take b)).length) cx]).toArray, .tuple #[.string (bs (rootS (L.take b))), .int .i64 0], .string (bs (rootS (L.take b))), .int .i64 0, .tuple #[.string (bs (rootS (L.take b))), .int .i64 0], .slice al L.length cl, .int .i64 ((b : Nat) : Int), .slice al b cl, .tuple #[.string (bs (rootS (L.take b))), .int .i64 0], .string (bs (rootS (L.take b))), .int .i64 0, u28 82, u28 83, u28 84, u28 85, u28 86, u28 87, u28 88, u28 89, u28 90, u28 91, u28 92, u28 93, u28 94, u28 95, u28 96, u28 97, u28 98, u28 99, u28 100, u28 101, vs 20, u28 103, u28 104, u28 105, u28 106, u28 107, u28 108, u28 109, u28 110, u28 111, u28 112, u28 113, u28 114, u28 115, undef, undef, undef, undef, undef, undef, undef, undef], defers := [] }) (by kernel_rfl) ?_ ?_
          · skip
            intro vs gs W95 SW95 D K9 hK9
            replace M := M.sees SW95
            obtain ⟨D20, _⟩ := D
            have e20 : vs 20 = .bool false := D20
            dsimp only at hK9
            dsimp only
            rw [e20] at hK9 ⊢
            refine wpL_move (v := .bool false) (by rfl) (by rfl) (by rfl) ?_
            simp only [putT, List.set]
            refine wpL_nil (then_normal ?_)
            have h8 := hK9 (.bool false)
            have h9 := h8 0 _ (sees_refl _) rfl (fun h => absurd h (by decide))
            simp only [putT, List.set] at h9
            exact h9
          refine RulesL.cons (fun vs => { tmps := #[.slice ap ds.length cp, .slice aq cuts.length cq, undef, undef, u28 4, .slice al L.length cl, u5 6, u5 7, .pointer (some ⟨g11, 0, none⟩), .int .i64 ((at0 : Nat) : Int), undef, .int .i64 (Lc.getD i 0), .int .i64 ((b : Nat) : Int), .pointer (some ⟨gx, 0, none⟩), .int .i64 0, .string (bs (rootS (L.take b))), .int .i64 0, .string (bs (rootS (L.take b))), .int .i64 0, u5 19, u5 20, u5 21, u5 22, u5 23, u5 24, u5 25, u5 26, u5 27, u5 28, u5 29, u5 30, u5 31, u5 32, u5 33, u5 34, u5 35, u5 36, u5 37, .agg ([.int .i64 0, .slice none 0 0]).toArray, .slice (some ⟨g17, 0, none⟩) 0 0, .slice aq cuts.length cq, .slice aq cuts.length cq, .int .i64 ((cuts.length : Nat) : Int), .int .i64 ((min cuts.length 20 : Nat) : Int), .slice aq (min cuts.length 20) cq, .slice (some ⟨g20, 0, none⟩) (min cuts.length 20) g20c, .slice al L.length cl, .int .i64 ((L.length : Nat) : Int), .slice (some ⟨g23, 0, none⟩) 1 1, .slice (some ⟨g25, 0, none⟩) (min cuts.length 20 + 1) g25c, .int .i64 ((min cuts.length 20 + 1 : Nat) : Int), .int .i64 ((i : Nat) : Int), .bool true, .pointer (some ⟨g25, i, none⟩), .int .i64 (Lc.getD i 0), .int .i64 (Lc.getD i 0), .int .i64 ((at0 : Nat) : Int), .int .i64 (max (Lc.getD i 0) ((at0 : Nat) : Int)), .slice al L.length cl, .int .i64 ((L.length : Nat) : Int), .int .i64 ((b : Nat) : Int), u46 61, u46 62, u46 63, u46 64, u46 65, u46 66, u46 67, u46 68, u46 69, .tuple #[.string (bs (rootS (L.take b))), .int .i64 0], .agg ([.int .i64 ((b : Nat) : Int), .slice ax ((partsL (L.take b)).length) cx]).toArray, .tuple #[.string (bs (rootS (L.take b))), .int .i64 0], .string (bs (rootS (L.take b))), .int .i64 0, .tuple #[.string (bs (rootS (L.take b))), .int .i64 0], .slice al L.length cl, .int .i64 ((b : Nat) : Int), .slice al b cl, .tuple #[.string (bs (rootS (L.take b))), .int .i64 0], .string (bs (rootS (L.take b))), .int .i64 0, u28 82, u28 83, u28 84, u28 85, u28 86, u28 87, u28 88, u28 89, u28 90, u28 91, u28 92, u28 93, u28 94, u28 95, u28 96, u28 97, u28 98, u28 99, u28 100, u28 101, u28 102, vs 21, u28 104, u28 105, u28 106, u28 107, u28 108, u28 109, u28 110, u28 111, u28 112, u28 113, u28 114, u28 115, undef, undef, undef, undef, undef, undef, undef, undef], defers := [] }) (by kernel_rfl) ?_ ?_
          · skip
            intro vs gs W96 SW96 D K9 hK9
            replace M := M.sees SW96
            obtain ⟨D21, _⟩ := D
            have e21 : vs 21 = .bool false := D21
            dsimp only at hK9
            dsimp only
            rw [e21] at hK9 ⊢
            refine wpL_chunk 1 (by rfl) (fun Lk hLk => ?_)
            simp only [List.take, List.drop]
            refine wpV_val (v := .pointer (some ⟨gx, 1, none⟩)) (by rfl) (by rfl) (fun W hW => ?_) ?_
            · (go_simp; exact rfl)
            simp only [putT, List.set]
            refine wpV_nil (hLk _ (fun w97 Sw97 => ?_))
            clear hLk Lk
            simp only [List.take, List.drop]
            replace M := M.sees Sw97
            refine wpL_nil (then_normal ?_)
            have h8 := hK9 (.pointer (some ⟨gx, 1, none⟩))
            have h9 := h8 0 _ Sw97 rfl (fun h => absurd h (by decide))
            simp only [putT, List.set] at h9
            exact h9
          refine RulesL.cons (fun vs => { tmps := #[.slice ap ds.length cp, .slice aq cuts.length cq, undef, undef, u28 4, .slice al L.length cl, u5 6, u5 7, .pointer (some ⟨g11, 0, none⟩), .int .i64 ((at0 : Nat) : Int), undef, .int .i64 (Lc.getD i 0), .int .i64 ((b : Nat) : Int), .pointer (some ⟨gx, 0, none⟩), .int .i64 0, .string (bs (rootS (L.take b))), .int .i64 0, .string (bs (rootS (L.take b))), .int .i64 0, u5 19, u5 20, u5 21, u5 22, u5 23, u5 24, u5 25, u5 26, u5 27, u5 28, u5 29, u5 30, u5 31, u5 32, u5 33, u5 34, u5 35, u5 36, u5 37, .agg ([.int .i64 0, .slice none 0 0]).toArray, .slice (some ⟨g17, 0, none⟩) 0 0, .slice aq cuts.length cq, .slice aq cuts.length cq, .int .i64 ((cuts.length : Nat) : Int), .int .i64 ((min cuts.length 20 : Nat) : Int), .slice aq (min cuts.length 20) cq, .slice (some ⟨g20, 0, none⟩) (min cuts.length 20) g20c, .slice al L.length cl, .int .i64 ((L.length : Nat) : Int), .slice (some ⟨g23, 0, none⟩) 1 1, .slice (some ⟨g25, 0, none⟩) (min cuts.length 20 + 1) g25c, .int .i64 ((min cuts.length 20 + 1 : Nat) : Int), .int .i64 ((i : Nat) : Int), .bool true, .pointer (some ⟨g25, i, none⟩), .int .i64 (Lc.getD i 0), .int .i64 (Lc.getD i 0), .int .i64 ((at0 : Nat) : Int), .int .i64 (max (Lc.getD i 0) ((at0 : Nat) : Int)), .slice al L.length cl, .int .i64 ((L.length : Nat) : Int), .int .i64 ((b : Nat) : Int), u46 61, u46 62, u46 63, u46 64, u46 65, u46 66, u46 67, u46 68, u46 69, .tuple #[.string (bs (rootS (L.take b))), .int .i64 0], .agg ([.int .i64 ((b : Nat) : Int), .slice ax ((partsL (L.take b)).length) cx]).toArray, .tuple #[.string (bs (rootS (L.take b))), .int .i64 0], .string (bs (rootS (L.take b))), .int .i64 0, .tuple #[.string (bs (rootS (L.take b))), .int .i64 0], .slice al L.length cl, .int .i64 ((b : Nat) : Int), .slice al b cl, .tuple #[.string (bs (rootS (L.take b))), .int .i64 0], .string (bs (rootS (L.take b))), .int .i64 0, u28 82, u28 83, u28 84, u28 85, u28 86, u28 87, u28 88, u28 89, u28 90, u28 91, u28 92, u28 93, u28 94, u28 95, u28 96, u28 97, u28 98, u28 99, u28 100, u28 101, u28 102, vs 21, vs 22, u28 105, u28 106, u28 107, u28 108, u28 109, u28 110, u28 111, u28 112, u28 113, u28 114, u28 115, undef, undef, undef, undef, undef, undef, undef, undef], defers := [] }) (by kernel_rfl) ?_ ?_
          · skip
            intro vs gs W98 SW98 D K9 hK9
            replace M := M.sees SW98
            obtain ⟨D21, D22, _⟩ := D
            have e21 : vs 21 = .bool false := D21
            have e22 : vs 22 = .pointer (some ⟨gx, 1, none⟩) := D22
            dsimp only at hK9
            dsimp only
            rw [e21, e22] at hK9 ⊢
            refine wpL_chunk 1 (by rfl) (fun Lk hLk => ?_)
            simp only [List.take, List.drop]
            refine wpV_load1 (v := .slice ax ((partsL (L.take b)).length) cx) (by rfl) rfl rfl (range_one (range_sub (M.r 2 0 rfl rfl) 1 1 1 (xs := [.slice ax ((partsL (L.take b)).length) cx]) rfl rfl)) (M.lt 2 rfl) Tryd.underlying48 rfl ?_
            simp only [putT, List.set]
            refine wpV_nil (hLk _ (fun w99 Sw99 => ?_))
            clear hLk Lk
            simp only [List.take, List.drop]
            replace M := M.sees Sw99
            refine wpL_nil (then_normal ?_)
            have h8 := hK9 (.slice ax ((partsL (L.take b)).length) cx)
            have h9 := h8 0 _ Sw99 rfl (fun h => absurd h (by decide))
            simp only [putT, List.set] at h9
            exact h9
          refine RulesL.cons (fun vs => { tmps := #[.slice ap ds.length cp, .slice aq cuts.length cq, undef, undef, u28 4, .slice al L.length cl, u5 6, u5 7, .pointer (some ⟨g11, 0, none⟩), .int .i64 ((at0 : Nat) : Int), undef, .int .i64 (Lc.getD i 0), .int .i64 ((b : Nat) : Int), .pointer (some ⟨gx, 0, none⟩), .int .i64 0, .string (bs (rootS (L.take b))), .int .i64 0, .string (bs (rootS (L.take b))), .int .i64 0, u5 19, u5 20, u5 21, u5 22, u5 23, u5 24, u5 25, u5 26, u5 27, u5 28, u5 29, u5 30, u5 31, u5 32, u5 33, u5 34, u5 35, u5 36, u5 37, .agg ([.int .i64 0, .slice none 0 0]).toArray, .slice (some ⟨g17, 0, none⟩) 0 0, .slice aq cuts.length cq, .slice aq cuts.length cq, .int .i64 ((cuts.length : Nat) : Int), .int .i64 ((min cuts.length 20 : Nat) : Int), .slice aq (min cuts.length 20) cq, .slice (some ⟨g20, 0, none⟩) (min cuts.length 20) g20c, .slice al L.length cl, .int .i64 ((L.length : Nat) : Int), .slice (some ⟨g23, 0, none⟩) 1 1, .slice (some ⟨g25, 0, none⟩) (min cuts.length 20 + 1) g25c, .int .i64 ((min cuts.length 20 + 1 : Nat) : Int), .int .i64 ((i : Nat) : Int), .bool true, .pointer (some ⟨g25, i, none⟩), .int .i64 (Lc.getD i 0), .int .i64 (Lc.getD i 0), .int .i64 ((at0 : Nat) : Int), .int .i64 (max (Lc.getD i 0) ((at0 : Nat) : Int)), .slice al L.length cl, .int .i64 ((L.length : Nat) : Int), .int .i64 ((b : Nat) : Int), u46 61, u46 62, u46 63, u46 64, u46 65, u46 66, u46 67, u46 68, u46 69, .tuple #[.string (bs (rootS (L.take b))), .int .i64 0], .agg ([.int .i64 ((b : Nat) : Int), .slice ax ((partsL (L.take b)).length) cx]).toArray, .tuple #[.string (bs (rootS (L.take b))), .int .i64 0], .string (bs (rootS (L.take b))), .int .i64 0, .tuple #[.string (bs (rootS (L.take b))), .int .i64 0], .slice al L.length cl, .int .i64 ((b : Nat) : Int), .slice al b cl, .tuple #[.string (bs (rootS (L.take b))), .int .i64 0], .string (bs (rootS (L.take b))), .int .i64 0, u28 82, u28 83, u28 84, u28 85, u28 86, u28 87, u28 88, u28 89, u28 90, u28 91, u28 92, u28 93, u28 94, u28 95, u28 96, u28 97, u28 98, u28 99, u28 100, u28 101, u28 102, vs 21, u28 104, u28 105, u28 106, u28 107, u28 108, u28 109, u28 110, u28 111, u28 112, u28 113, u28 114, u28 115, undef, undef, undef, undef, undef, undef, undef, undef], defers := [] }) (by kernel_rfl) ?_ ?_
          · skip
            intro vs gs W100 SW100 D K9 hK9
            replace M := M.sees SW100
            obtain ⟨D21, _⟩ := D
            have e21 : vs 21 = .bool false := D21
            dsimp only at hK9
            dsimp only
            rw [e21] at hK9 ⊢
            refine wpL_chunk 1 (by rfl) (fun Lk hLk => ?_)
            simp only [List.take, List.drop]
            refine wpV_move (v := .slice al L.length cl) (by rfl) rfl rfl ?_
            simp only [putT, List.set]
            refine wpV_nil (hLk _ (fun w101 Sw101 => ?_))
            clear hLk Lk
            simp only [List.take, List.drop]
            replace M := M.sees Sw101
            refine wpL_nil (then_normal ?_)
            have h8 := hK9 (.slice al L.length cl)
            have h9 := h8 0 _ Sw101 rfl (fun h => absurd h (by decide))
            simp only [putT, List.set] at h9
            exact h9
          refine RulesL.cons (fun vs => { tmps := #[.slice ap ds.length cp, .slice aq cuts.length cq, undef, undef, u28 4, .slice al L.length cl, u5 6, u5 7, .pointer (some ⟨g11, 0, none⟩), .int .i64 ((at0 : Nat) : Int), undef, .int .i64 (Lc.getD i 0), .int .i64 ((b : Nat) : Int), .pointer (some ⟨gx, 0, none⟩), .int .i64 0, .string (bs (rootS (L.take b))), .int .i64 0, .string (bs (rootS (L.take b))), .int .i64 0, u5 19, u5 20, u5 21, u5 22, u5 23, u5 24, u5 25, u5 26, u5 27, u5 28, u5 29, u5 30, u5 31, u5 32, u5 33, u5 34, u5 35, u5 36, u5 37, .agg ([.int .i64 0, .slice none 0 0]).toArray, .slice (some ⟨g17, 0, none⟩) 0 0, .slice aq cuts.length cq, .slice aq cuts.length cq, .int .i64 ((cuts.length : Nat) : Int), .int .i64 ((min cuts.length 20 : Nat) : Int), .slice aq (min cuts.length 20) cq, .slice (some ⟨g20, 0, none⟩) (min cuts.length 20) g20c, .slice al L.length cl, .int .i64 ((L.length : Nat) : Int), .slice (some ⟨g23, 0, none⟩) 1 1, .slice (some ⟨g25, 0, none⟩) (min cuts.length 20 + 1) g25c, .int .i64 ((min cuts.length 20 + 1 : Nat) : Int), .int .i64 ((i : Nat) : Int), .bool true, .pointer (some ⟨g25, i, none⟩), .int .i64 (Lc.getD i 0), .int .i64 (Lc.getD i 0), .int .i64 ((at0 : Nat) : Int), .int .i64 (max (Lc.getD i 0) ((at0 : Nat) : Int)), .slice al L.length cl, .int .i64 ((L.length : Nat) : Int), .int .i64 ((b : Nat) : Int), u46 61, u46 62, u46 63, u46 64, u46 65, u46 66, u46 67, u46 68, u46 69, .tuple #[.string (bs (rootS (L.take b))), .int .i64 0], .agg ([.int .i64 ((b : Nat) : Int), .slice ax ((partsL (L.take b)).length) cx]).toArray, .tuple #[.string (bs (rootS (L.take b))), .int .i64 0], .string (bs (rootS (L.take b))), .int .i64 0, .tuple #[.string (bs (rootS (L.take b))), .int .i64 0], .slice al L.length cl, .int .i64 ((b : Nat) : Int), .slice al b cl, .tuple #[.string (bs (rootS (L.take b))), .int .i64 0], .string (bs (rootS (L.take b))), .int .i64 0, u28 82, u28 83, u28 84, u28 85, u28 86, u28 87, u28 88, u28 89, u28 90, u28 91, u28 92, u28 93, u28 94, u28 95, u28 96, u28 97, u28 98, u28 99, u28 100, u28 101, u28 102, vs 21, u28 104, u28 105, u28 106, u28 107, u28 108, u28 109, u28 110, u28 111, u28 112, u28 113, u28 114, u28 115, undef, undef, undef, undef, undef, undef, undef, undef], defers := [] }) (by kernel_rfl) ?_ ?_
          · skip
            intro vs gs W102 SW102 D K9 hK9
            replace M := M.sees SW102
            obtain ⟨D21, _⟩ := D
            have e21 : vs 21 = .bool false := D21
            dsimp only at hK9
            dsimp only
            rw [e21] at hK9 ⊢
            refine wpL_chunk 1 (by rfl) (fun Lk hLk => ?_)
            simp only [List.take, List.drop]
            refine wpV_move (v := .int .i64 ((b : Nat) : Int)) (by rfl) rfl rfl ?_
            simp only [putT, List.set]
            refine wpV_nil (hLk _ (fun w103 Sw103 => ?_))
            clear hLk Lk
            simp only [List.take, List.drop]
            replace M := M.sees Sw103
            refine wpL_nil (then_normal ?_)
            have h8 := hK9 (.int .i64 ((b : Nat) : Int))
            have h9 := h8 0 _ Sw103 rfl (fun h => absurd h (by decide))
            simp only [putT, List.set] at h9
            exact h9
          refine RulesL.cons (fun vs => { tmps := #[.slice ap ds.length cp, .slice aq cuts.length cq, undef, undef, u28 4, .slice al L.length cl, u5 6, u5 7, .pointer (some ⟨g11, 0, none⟩), .int .i64 ((at0 : Nat) : Int), undef, .int .i64 (Lc.getD i 0), .int .i64 ((b : Nat) : Int), .pointer (some ⟨gx, 0, none⟩), .int .i64 0, .string (bs (rootS (L.take b))), .int .i64 0, .string (bs (rootS (L.take b))), .int .i64 0, u5 19, u5 20, u5 21, u5 22, u5 23, u5 24, u5 25, u5 26, u5 27, u5 28, u5 29, u5 30, u5 31, u5 32, u5 33, u5 34, u5 35, u5 36, u5 37, .agg ([.int .i64 0, .slice none 0 0]).toArray, .slice (some ⟨g17, 0, none⟩) 0 0, .slice aq cuts.length cq, .slice aq cuts.length cq, .int .i64 ((cuts.length : Nat) : Int), .int .i64 ((min cuts.length 20 : Nat) : Int), .slice aq (min cuts.length 20) cq, .slice (some ⟨g20, 0, none⟩) (min cuts.length 20) g20c, .slice al L.length cl, .int .i64 ((L.length : Nat) : Int), .slice (some ⟨g23, 0, none⟩) 1 1, .slice (some ⟨g25, 0, none⟩) (min cuts.length 20 + 1) g25c, .int .i64 ((min cuts.length 20 + 1 : Nat) : Int), .int .i64 ((i : Nat) : Int), .bool true, .pointer (some ⟨g25, i, none⟩), .int .i64 (Lc.getD i 0), .int .i64 (Lc.getD i 0), .int .i64 ((at0 : Nat) : Int), .int .i64 (max (Lc.getD i 0) ((at0 : Nat) : Int)), .slice al L.length cl, .int .i64 ((L.length : Nat) : Int), .int .i64 ((b : Nat) : Int), u46 61, u46 62, u46 63, u46 64, u46 65, u46 66, u46 67, u46 68, u46 69, .tuple #[.string (bs (rootS (L.take b))), .int .i64 0], .agg ([.int .i64 ((b : Nat) : Int), .slice ax ((partsL (L.take b)).length) cx]).toArray, .tuple #[.string (bs (rootS (L.take b))), .int .i64 0], .string (bs (rootS (L.take b))), .int .i64 0, .tuple #[.string (bs (rootS (L.take b))), .int .i64 0], .slice al L.length cl, .int .i64 ((b : Nat) : Int), .slice al b cl, .tuple #[.string (bs (rootS (L.take b))), .int .i64 0], .string (bs (rootS (L.take b))), .int .i64 0, u28 82, u28 83, u28 84, u28 85, u28 86, u28 87, u28 88, u28 89, u28 90, u28 91, u28 92, u28 93, u28 94, u28 95, u28 96, u28 97, u28 98, u28 99, u28 100, u28 101, u28 102, vs 21, u28 104, u28 105, vs 24, vs 25, u28 108, u28 109, u28 110, u28 111, u28 112, u28 113, u28 114, u28 115, undef, undef, undef, undef, undef, undef, undef, undef], defers := [] }) (by kernel_rfl) ?_ ?_
          · skip
            intro vs gs W104 SW104 D K9 hK9
            replace M := M.sees SW104
            obtain ⟨D21, D24, D25, _⟩ := D
            have e21 : vs 21 = .bool false := D21
            have e24 : vs 24 = .slice al L.length cl := D24
            have e25 : vs 25 = .int .i64 ((b : Nat) : Int) := D25
            dsimp only at hK9
            dsimp only
            rw [e21, e24, e25] at hK9 ⊢
            refine wpL_chunk 1 (by rfl) (fun Lk hLk => ?_)
            simp only [List.take, List.drop]
            refine wpV_slcH (hi := b) (by rfl) rfl rfl rfl Tryd.underlying48 info9 (Nat.le_trans (by omega) (M.oldN Hl).cap) ?_
            simp only [putT, List.set]
            refine wpV_nil (hLk _ (fun w105 Sw105 => ?_))
            clear hLk Lk
            simp only [List.take, List.drop]
            replace M := M.sees Sw105
            refine wpL_nil (then_normal ?_)
            have h8 := hK9 (.slice al b cl)
            have h9 := h8 0 _ Sw105 rfl (fun h => absurd h (by decide))
            simp only [putT, List.set] at h9
            exact h9
          refine RulesL.cons (fun vs => { tmps := #[.slice ap ds.length cp, .slice aq cuts.length cq, undef, undef, u28 4, .slice al L.length cl, u5 6, u5 7, .pointer (some ⟨g11, 0, none⟩), .int .i64 ((at0 : Nat) : Int), undef, .int .i64 (Lc.getD i 0), .int .i64 ((b : Nat) : Int), .pointer (some ⟨gx, 0, none⟩), .int .i64 0, .string (bs (rootS (L.take b))), .int .i64 0, .string (bs (rootS (L.take b))), .int .i64 0, u5 19, u5 20, u5 21, u5 22, u5 23, u5 24, u5 25, u5 26, u5 27, u5 28, u5 29, u5 30, u5 31, u5 32, u5 33, u5 34, u5 35, u5 36, u5 37, .agg ([.int .i64 0, .slice none 0 0]).toArray, .slice (some ⟨g17, 0, none⟩) 0 0, .slice aq cuts.length cq, .slice aq cuts.length cq, .int .i64 ((cuts.length : Nat) : Int), .int .i64 ((min cuts.length 20 : Nat) : Int), .slice aq (min cuts.length 20) cq, .slice (some ⟨g20, 0, none⟩) (min cuts.length 20) g20c, .slice al L.length cl, .int .i64 ((L.length : Nat) : Int), .slice (some ⟨g23, 0, none⟩) 1 1, .slice (some ⟨g25, 0, none⟩) (min cuts.length 20 + 1) g25c, .int .i64 ((min cuts.length 20 + 1 : Nat) : Int), .int .i64 ((i : Nat) : Int), .bool true, .pointer (some ⟨g25, i, none⟩), .int .i64 (Lc.getD i 0), .int .i64 (Lc.getD i 0), .int .i64 ((at0 : Nat) : Int), .int .i64 (max (Lc.getD i 0) ((at0 : Nat) : Int)), .slice al L.length cl, .int .i64 ((L.length : Nat) : Int), .int .i64 ((b : Nat) : Int), u46 61, u46 62, u46 63, u46 64, u46 65, u46 66, u46 67, u46 68, u46 69, .tuple #[.string (bs (rootS (L.take b))), .int .i64 0], .agg ([.int .i64 ((b : Nat) : Int), .slice ax ((partsL (L.take b)).length) cx]).toArray, .tuple #[.string (bs (rootS (L.take b))), .int .i64 0], .string (bs (rootS (L.take b))), .int .i64 0, .tuple #[.string (bs (rootS (L.take b))), .int .i64 0], .slice al L.length cl, .int .i64 ((b : Nat) : Int), .slice al b cl, .tuple #[.string (bs (rootS (L.take b))), .int .i64 0], .string (bs (rootS (L.take b))), .int .i64 0, u28 82, u28 83, u28 84, u28 85, u28 86, u28 87, u28 88, u28 89, u28 90, u28 91, u28 92, u28 93, u28 94, u28 95, u28 96, u28 97, u28 98, u28 99, u28 100, u28 101, u28 102, vs 21, u28 104, u28 105, u28 106, u28 107, vs 26, u28 109, u28 110, u28 111, u28 112, u28 113, u28 114, u28 115, undef, undef, undef, undef, undef, undef, undef, undef], defers := [] }) (by kernel_rfl) ?_ ?_
          · skip
            intro vs gs W106 SW106 D K9 hK9
            replace M := M.sees SW106
            replace R0_0 := (M.oldG R0_0 L0 NI0)
            replace L0 := M.oldL L0
            have Rg25_0 := M.r 0 0 rfl rfl
            have Lg25 := M.lt 0 rfl
            have Rg11_0 := M.r 1 0 rfl rfl
            have Lg11 := M.lt 1 rfl
            have Rgx_0 := M.r 2 0 rfl rfl
            have Lgx := M.lt 2 rfl
            replace Hp := M.oldN Hp
            replace Hq := M.oldN Hq
            replace Hl := M.oldN Hl
            replace Hr := M.oldN Hr
            replace Hx := M.oldN Hx
            replace M := Mem.start W106
            obtain ⟨D21, D26, _⟩ := D
            have e21 : vs 21 = .bool false := D21
            have e26 : vs 26 = .slice al b cl := D26
            dsimp only at hK9
            dsimp only
            rw [e21, e26] at hK9 ⊢
            refine wpL_guard (by rfl) ?_
            refine wpL_callE (f := 64) (args := #[.slice al b cl]) (R := fun v9 W9 => ∃ g108 g108c, v9 = .slice (some ⟨g108, 0, none⟩) ((partsL (L.take b)).length) g108c ∧ (partsL (L.take b)).length ≤ g108c ∧ Mem [] W106 W9 [⟨g108, g108c, [(0, scells (partsL (L.take b)))]⟩]) (by rfl) (by rfl) rfl Tryd.func64 (by kernel_rfl) (by kernel_rfl) (rparts_c (l := L.take b) (by rw [List.length_take]; omega) (fun s9 h9 => hL32 s9 (List.mem_of_mem_take h9)) (((M.oldA Hl).take (by omega)).eq (scells_take2 _ _))) (fun v9 w107 hv9 Sw107 => ?_)
            obtain ⟨g108, g108c, rfl, Cg108, M9⟩ := hv9
            replace M := M.call1 M9
            clear Sw107
            simp only [putT, List.set]
            refine wpL_nil (then_normal ?_)
            have h8 := hK9 (.slice (some ⟨g108, 0, none⟩) ((partsL (L.take b)).length) g108c)
            have h9 := h8 g108 _ M.seesAll ⟨g108c, rfl, Cg108, (M.ok _ (.head _)).up SW106⟩ (fun _ => (M.ok _ (.head _)).ge)
            simp only [putT, List.set] at h9
            exact h9
          refine RulesL.cons (fun vs => { tmps := #[.slice ap ds.length cp, .slice aq cuts.length cq, undef, undef, u28 4, .slice al L.length cl, u5 6, u5 7, .pointer (some ⟨g11, 0, none⟩), .int .i64 ((at0 : Nat) : Int), undef, .int .i64 (Lc.getD i 0), .int .i64 ((b : Nat) : Int), .pointer (some ⟨gx, 0, none⟩), .int .i64 0, .string (bs (rootS (L.take b))), .int .i64 0, .string (bs (rootS (L.take b))), .int .i64 0, u5 19, u5 20, u5 21, u5 22, u5 23, u5 24, u5 25, u5 26, u5 27, u5 28, u5 29, u5 30, u5 31, u5 32, u5 33, u5 34, u5 35, u5 36, u5 37, .agg ([.int .i64 0, .slice none 0 0]).toArray, .slice (some ⟨g17, 0, none⟩) 0 0, .slice aq cuts.length cq, .slice aq cuts.length cq, .int .i64 ((cuts.length : Nat) : Int), .int .i64 ((min cuts.length 20 : Nat) : Int), .slice aq (min cuts.length 20) cq, .slice (some ⟨g20, 0, none⟩) (min cuts.length 20) g20c, .slice al L.length cl, .int .i64 ((L.length : Nat) : Int), .slice (some ⟨g23, 0, none⟩) 1 1, .slice (some ⟨g25, 0, none⟩) (min cuts.length 20 + 1) g25c, .int .i64 ((min cuts.length 20 + 1 : Nat) : Int), .int .i64 ((i : Nat) : Int), .bool true, .pointer (some ⟨g25, i, none⟩), .int .i64 (Lc.getD i 0), .int .i64 (Lc.getD i 0), .int .i64 ((at0 : Nat) : Int), .int .i64 (max (Lc.getD i 0) ((at0 : Nat) : Int)), .slice al L.length cl, .int .i64 ((L.length : Nat) : Int), .int .i64 ((b : Nat) : Int), u46 61, u46 62, u46 63, u46 64, u46 65, u46 66, u46 67, u46 68, u46 69, .tuple #[.string (bs (rootS (L.take b))), .int .i64 0], .agg ([.int .i64 ((b : Nat) : Int), .slice ax ((partsL (L.take b)).length) cx]).toArray, .tuple #[.string (bs (rootS (L.take b))), .int .i64 0], .string (bs (rootS (L.take b))), .int .i64 0, .tuple #[.string (bs (rootS (L.take b))), .int .i64 0], .slice al L.length cl, .int .i64 ((b : Nat) : Int), .slice al b cl, .tuple #[.string (bs (rootS (L.take b))), .int .i64 0], .string (bs (rootS (L.take b))), .int .i64 0, u28 82, u28 83, u28 84, u28 85, u28 86, u28 87, u28 88, u28 89, u28 90, u28 91, u28 92, u28 93, u28 94, u28 95, u28 96, u28 97, u28 98, u28 99, u28 100, u28 101, u28 102, vs 21, u28 104, vs 23, u28 106, u28 107, u28 108, vs 27, u28 110, u28 111, u28 112, u28 113, u28 114, u28 115, undef, undef, undef, undef, undef, undef, undef, undef], defers := [] }) (by kernel_rfl) ?_ ?_
          · skip
            intro vs gs W109 SW109 D K9 hK9
            replace M := M.sees SW109
            replace R0_0 := (M.oldG R0_0 L0 NI0)
            replace L0 := M.oldL L0
            have Rg25_0 := M.r 0 0 rfl rfl
            have Lg25 := M.lt 0 rfl
            have Rg11_0 := M.r 1 0 rfl rfl
            have Lg11 := M.lt 1 rfl
            have Rgx_0 := M.r 2 0 rfl rfl
            have Lgx := M.lt 2 rfl
            replace Hp := M.oldN Hp
            replace Hq := M.oldN Hq
            replace Hl := M.oldN Hl
            replace Hr := M.oldN Hr
            replace Hx := M.oldN Hx
            replace M := Mem.start W109
            obtain ⟨D21, D23, D27, _⟩ := D
            have e21 : vs 21 = .bool false := D21
            have e23 : vs 23 = .slice ax ((partsL (L.take b)).length) cx := D23
            obtain ⟨g110c, e27, Cg110, Og110⟩ := D27
            generalize gs 27 = g110 at *
            replace e27 : vs 27 = .slice (some ⟨g110, 0, none⟩) ((partsL (L.take b)).length) g110c := e27
            have Rg110_0 := Og110.range (0, scells (partsL (L.take b))) (by simp only [List.mem_cons, true_or, or_true])
            have Lg110 := Og110.lt
            dsimp only at hK9
            dsimp only
            rw [e21, e23, e27] at hK9 ⊢
            refine wpL_chunk 1 (by rfl) (fun Lk hLk => ?_)
            simp only [List.take, List.drop]
            refine wpV_callf (v := .bool true) (args := #[.slice ax ((partsL (L.take b)).length) cx, .slice (some ⟨g110, 0, none⟩) ((partsL (L.take b)).length) g110c]) (by rfl) rfl Tryd.func50 (by kernel_rfl) (by kernel_rfl) rfl (fun W hW => by have h9 : Calls Tryd.prog _ _ W _ := same_r (ps := partsL (L.take b)) (qs := partsL (L.take b)) (Nat.le_trans (partsL_le (by rw [List.length_take]; omega)) (by decide)) ((M.sees hW).oldA Hx) (RowA.of ((M.sees hW).oldR Rg110_0 Lg110) ((M.sees hW).oldL Lg110) (scells_len _).symm Cg110); rw [decide_eq_true rfl] at h9; exact h9) ?_
            simp only [putT, List.set]
            refine wpV_nil (hLk _ (fun w111 Sw111 => ?_))
            clear hLk Lk
            simp only [List.take, List.drop]
            replace M := M.sees Sw111
            refine wpL_nil (then_normal ?_)
            have h8 := hK9 (.bool true)
            have h9 := h8 0 _ M.seesAll rfl (fun h => absurd h (by decide))
            simp only [putT, List.set] at h9
            exact h9
          refine RulesL.cons (fun vs => { tmps := #[.slice ap ds.length cp, .slice aq cuts.length cq, undef, undef, u28 4, .slice al L.length cl, u5 6, u5 7, .pointer (some ⟨g11, 0, none⟩), .int .i64 ((at0 : Nat) : Int), undef, .int .i64 (Lc.getD i 0), .int .i64 ((b : Nat) : Int), .pointer (some ⟨gx, 0, none⟩), .int .i64 0, .string (bs (rootS (L.take b))), .int .i64 0, .string (bs (rootS (L.take b))), .int .i64 0, u5 19, u5 20, u5 21, u5 22, u5 23, u5 24, u5 25, u5 26, u5 27, u5 28, u5 29, u5 30, u5 31, u5 32, u5 33, u5 34, u5 35, u5 36, u5 37, .agg ([.int .i64 0, .slice none 0 0]).toArray, .slice (some ⟨g17, 0, none⟩) 0 0, .slice aq cuts.length cq, .slice aq cuts.length cq, .int .i64 ((cuts.length : Nat) : Int), .int .i64 ((min cuts.length 20 : Nat) : Int), .slice aq (min cuts.length 20) cq, .slice (some ⟨g20, 0, none⟩) (min cuts.length 20) g20c, .slice al L.length cl, .int .i64 ((L.length : Nat) : Int), .slice (some ⟨g23, 0, none⟩) 1 1, .slice (some ⟨g25, 0, none⟩) (min cuts.length 20 + 1) g25c, .int .i64 ((min cuts.length 20 + 1 : Nat) : Int), .int .i64 ((i : Nat) : Int), .bool true, .pointer (some ⟨g25, i, none⟩), .int .i64 (Lc.getD i 0), .int .i64 (Lc.getD i 0), .int .i64 ((at0 : Nat) : Int), .int .i64 (max (Lc.getD i 0) ((at0 : Nat) : Int)), .slice al L.length cl, .int .i64 ((L.length : Nat) : Int), .int .i64 ((b : Nat) : Int), u46 61, u46 62, u46 63, u46 64, u46 65, u46 66, u46 67, u46 68, u46 69, .tuple #[.string (bs (rootS (L.take b))), .int .i64 0], .agg ([.int .i64 ((b : Nat) : Int), .slice ax ((partsL (L.take b)).length) cx]).toArray, .tuple #[.string (bs (rootS (L.take b))), .int .i64 0], .string (bs (rootS (L.take b))), .int .i64 0, .tuple #[.string (bs (rootS (L.take b))), .int .i64 0], .slice al L.length cl, .int .i64 ((b : Nat) : Int), .slice al b cl, .tuple #[.string (bs (rootS (L.take b))), .int .i64 0], .string (bs (rootS (L.take b))), .int .i64 0, u28 82, u28 83, u28 84, u28 85, u28 86, u28 87, u28 88, u28 89, u28 90, u28 91, u28 92, u28 93, u28 94, u28 95, u28 96, u28 97, u28 98, u28 99, u28 100, u28 101, u28 102, vs 21, u28 104, u28 105, u28 106, u28 107, u28 108, u28 109, vs 28, u28 111, u28 112, u28 113, u28 114, u28 115, undef, undef, undef, undef, undef, undef, undef, undef], defers := [] }) (by kernel_rfl) ?_ ?_
          · skip
            intro vs gs W112 SW112 D K9 hK9
            replace M := M.sees SW112
            obtain ⟨D21, D28, _⟩ := D
            have e21 : vs 21 = .bool false := D21
            have e28 : vs 28 = .bool true := D28
            dsimp only at hK9
            dsimp only
            rw [e21, e28] at hK9 ⊢
            refine wpL_chunk 1 (by rfl) (fun Lk hLk => ?_)
            simp only [List.take, List.drop]
            refine wpV_not (b := true) (by rfl) rfl rfl ?_
            simp only [Bool.not_true, Bool.not_false]
            simp only [putT, List.set]
            refine wpV_nil (hLk _ (fun w113 Sw113 => ?_))
            clear hLk Lk
            simp only [List.take, List.drop]
            replace M := M.sees Sw113
            refine wpL_nil (then_normal ?_)
            have h8 := hK9 (.bool false)
            have h9 := h8 0 _ Sw113 rfl (fun h => absurd h (by decide))
            simp only [putT, List.set] at h9
            exact h9
          refine RulesL.cons (fun vs => { tmps := #[.slice ap ds.length cp, .slice aq cuts.length cq, undef, undef, u28 4, .slice al L.length cl, u5 6, u5 7, .pointer (some ⟨g11, 0, none⟩), .int .i64 ((at0 : Nat) : Int), undef, .int .i64 (Lc.getD i 0), .int .i64 ((b : Nat) : Int), .pointer (some ⟨gx, 0, none⟩), .int .i64 0, .string (bs (rootS (L.take b))), .int .i64 0, .string (bs (rootS (L.take b))), .int .i64 0, u5 19, u5 20, u5 21, u5 22, u5 23, u5 24, u5 25, u5 26, u5 27, u5 28, u5 29, u5 30, u5 31, u5 32, u5 33, u5 34, u5 35, u5 36, u5 37, .agg ([.int .i64 0, .slice none 0 0]).toArray, .slice (some ⟨g17, 0, none⟩) 0 0, .slice aq cuts.length cq, .slice aq cuts.length cq, .int .i64 ((cuts.length : Nat) : Int), .int .i64 ((min cuts.length 20 : Nat) : Int), .slice aq (min cuts.length 20) cq, .slice (some ⟨g20, 0, none⟩) (min cuts.length 20) g20c, .slice al L.length cl, .int .i64 ((L.length : Nat) : Int), .slice (some ⟨g23, 0, none⟩) 1 1, .slice (some ⟨g25, 0, none⟩) (min cuts.length 20 + 1) g25c, .int .i64 ((min cuts.length 20 + 1 : Nat) : Int), .int .i64 ((i : Nat) : Int), .bool true, .pointer (some ⟨g25, i, none⟩), .int .i64 (Lc.getD i 0), .int .i64 (Lc.getD i 0), .int .i64 ((at0 : Nat) : Int), .int .i64 (max (Lc.getD i 0) ((at0 : Nat) : Int)), .slice al L.length cl, .int .i64 ((L.length : Nat) : Int), .int .i64 ((b : Nat) : Int), u46 61, u46 62, u46 63, u46 64, u46 65, u46 66, u46 67, u46 68, u46 69, .tuple #[.string (bs (rootS (L.take b))), .int .i64 0], .agg ([.int .i64 ((b : Nat) : Int), .slice ax ((partsL (L.take b)).length) cx]).toArray, .tuple #[.string (bs (rootS (L.take b))), .int .i64 0], .string (bs (rootS (L.take b))), .int .i64 0, .tuple #[.string (bs (rootS (L.take b))), .int .i64 0], .slice al L.length cl, .int .i64 ((b : Nat) : Int), .slice al b cl, .tuple #[.string (bs (rootS (L.take b))), .int .i64 0], .string (bs (rootS (L.take b))), .int .i64 0, u28 82, u28 83, u28 84, u28 85, u28 86, u28 87, u28 88, u28 89, u28 90, u28 91, u28 92, u28 93, u28 94, u28 95, u28 96, u28 97, u28 98, u28 99, u28 100, u28 101, u28 102, vs 21, u28 104, u28 105, u28 106, u28 107, u28 108, u28 109, u28 110, vs 29, u28 112, u28 113, u28 114, u28 115, undef, undef, undef, undef, undef, undef, undef, undef], defers := [] }) (by kernel_rfl) ?_ ?_
          · skip
            intro vs gs W114 SW114 D K9 hK9
            replace M := M.sees SW114
            obtain ⟨D21, D29, _⟩ := D
            have e21 : vs 21 = .bool false := D21
            have e29 : vs 29 = .bool false := D29
            dsimp only at hK9
            dsimp only
            rw [e21, e29] at hK9 ⊢
            refine wpL_chunk 1 (by rfl) (fun Lk hLk => ?_)
            simp only [List.take, List.drop]
            refine wpV_pick (v := .bool false) (by rfl) rfl rfl rfl ?_
            simp only [putT, List.set]
            refine wpV_nil (hLk _ (fun w115 Sw115 => ?_))
            clear hLk Lk
            simp only [List.take, List.drop]
            replace M := M.sees Sw115
            refine wpL_nil (then_normal ?_)
            have h8 := hK9 (.bool false)
            have h9 := h8 0 _ Sw115 rfl (fun h => absurd h (by decide))
            simp only [putT, List.set] at h9
            exact h9
          exact RulesL.nil
        intro vs gs W116 SW116 D A9
        obtain ⟨D0, D1, D2, D3, D4, D5, D6, D7, D8, D9, D10, D11, D12, D13, D14, D15, D16, D17, D18, D19, D20, D21, D22, D23, D24, D25, D26, D27, D28, D29, D30, _⟩ := (show DepRel _ vs gs W116 [0, 1, 2, 3, 4, 5, 6, 7, 8, 9, 10, 11, 12, 13, 14, 15, 16, 17, 18, 19, 20, 21, 22, 23, 24, 25, 26, 27, 28, 29, 30] from D)
        clear A9 D
        have e0 : vs 0 = .int .i64 0 := D0
        have e1 : vs 1 = .bool false := D1
        have e2 : vs 2 = .bool false := D2
        have e3 : vs 3 = .int .i64 0 := D3
        have e4 : vs 4 = .bool false := D4
        have e5 : vs 5 = .bool false := D5
        have e6 : vs 6 = .bool false := D6
        have e7 : vs 7 = .int .i64 0 := D7
        have e8 : vs 8 = .bool false := D8
        have e9 : vs 9 = .bool false := D9
        have e10 : vs 10 = .bool false := D10
        have e11 : vs 11 = .string (bs (rootS (L.take b))) := D11
        have e12 : vs 12 = .string (bs (rootS (L.take b))) := D12
        have e13 : vs 13 = .bool false := D13
        have e14 : vs 14 = .bool false := D14
        have e15 : vs 15 = .bool false := D15
        have e16 : vs 16 = .pointer (some ⟨gx, 0, none⟩) := D16
        have e17 : vs 17 = .int .i64 ((b : Nat) : Int) := D17
        have e18 : vs 18 = .int .i64 ((b : Nat) : Int) := D18
        have e19 : vs 19 = .bool false := D19
        have e20 : vs 20 = .bool false := D20
        have e21 : vs 21 = .bool false := D21
        have e22 : vs 22 = .pointer (some ⟨gx, 1, none⟩) := D22
        have e23 : vs 23 = .slice ax ((partsL (L.take b)).length) cx := D23
        have e24 : vs 24 = .slice al L.length cl := D24
        have e25 : vs 25 = .int .i64 ((b : Nat) : Int) := D25
        have e26 : vs 26 = .slice al b cl := D26
        obtain ⟨g117c, e27, Cg117, Og117⟩ := D27
        generalize gs 27 = g117 at *
        replace e27 : vs 27 = .slice (some ⟨g117, 0, none⟩) ((partsL (L.take b)).length) g117c := e27
        have e28 : vs 28 = .bool true := D28
        have e29 : vs 29 = .bool false := D29
        have e30 : vs 30 = .bool false := D30
        replace M := M.addOks SW116 [⟨g117, g117c, [(0, scells (partsL (L.take b)))]⟩] (List.forall_mem_cons.2 ⟨Og117, (fun _ h => nomatch h)⟩) (.cons (fun _ h => nomatch h) .nil)
        simp only [List.cons_append, List.nil_append] at M
        dsimp only
        simp only [e0, e1, e2, e3, e4, e5, e6, e7, e8, e9, e10, e11, e12, e13, e14, e15, e16, e17, e18, e19, e20, e21, e22, e23, e24, e25, e26, e27, e28, e29, e30, List.drop]
        refine wpL_nil (no_panic ?_)
        refine hK56 _ _ ?_
        refine wp_cond_false rfl ?_
        refine wp_skip ?_
        refine hK55 _ _ ?_
        refine wp_region_seq ?_
        refine wpL_chunk 1 (by rfl) (fun Lk hLk => ?_)
        simp only [List.take, List.drop]
        refine wpV_load (cs := [.int .i64 ((b : Nat) : Int), .slice ax ((partsL (L.take b)).length) cx]) (by rfl) rfl rfl (M.r 3 0 rfl rfl) (M.lt 3 rfl) Tryd.underlying66 rfl info66 ?_
        simp only [putT, List.set]
        refine wpV_nil (hLk _ (fun w119 Sw119 => ?_))
        clear hLk Lk
        simp only [List.take, List.drop]
        replace M := M.sees Sw119
        refine wpL_move (v := .int .i64 ((b : Nat) : Int)) (by rfl) (by rfl) (by rfl) ?_
        simp only [putT, List.set]
        refine wpL_store (g := g11) (off := 0) (n := 2) (cs := [.int .i64 ((b : Nat) : Int), .slice ax ((partsL (L.take b)).length) cx]) (by rfl) (by rfl) (by rfl) (by rfl) (by rfl) (M.t 2 rfl) (by simp [flen]) info66 (by simp [fone, Value.oneCell']) (fun w120 P R T => ?_)
        replace M := M.putS 2 0 rfl P R T rfl ⟨.inl rfl, trivial⟩
        simp only [List.set] at M
        refine wpL_assign (v := .int .i64 ((b : Nat) : Int)) (by rfl) (by rfl) (by rfl) ?_
        simp only [putT, List.set]
        refine wpL_nil (no_panic ?_)
        refine hK39 _ _ ?_
        refine wp_region_seq ?_
        refine wpL_chunk 1 (by rfl) (fun Lk hLk => ?_)
        simp only [List.take, List.drop]
        refine wpV_bin (v := .int .i64 ((i + 1 : Nat) : Int)) (by rfl) rfl rfl rfl (fun W => run_add (by simp only [IntKind.wrap_i64]; omega) W) ?_
        simp only [putT, List.set]
        refine wpV_nil (hLk _ (fun w122 Sw122 => ?_))
        clear hLk Lk
        simp only [List.take, List.drop]
        replace M := M.sees Sw122
        refine wpL_move (v := .int .i64 ((i + 1 : Nat) : Int)) (by rfl) (by rfl) (by rfl) ?_
        simp only [putT, List.set]
        refine wpL_nil (no_panic ?_)
        have HX123 := ((M.notinsG Hx).sub (show ∀ x ∈ [g25, g11], x ∈ [g117, g25, g11, gx] from (by intro x hx; simp only [List.mem_cons, List.not_mem_nil, or_false] at hx ⊢; omega)))
        replace M := Mx48.comp M
        replace M := Mx30.comp M
        refine Exists.intro _ ⟨?_, (i + 1), b, ax, ((partsL (L.take b)).length), cx, (fun q9 => (#[undef, undef, undef, undef, u28 4, undef, undef, undef, undef, undef, undef, .int .i64 (Lc.getD i 0), .int .i64 ((b : Nat) : Int), .pointer (some ⟨gx, 0, none⟩), .int .i64 0, .string (bs (rootS (L.take b))), .int .i64 0, .string (bs (rootS (L.take b))), .int .i64 0, undef, undef, undef, undef, undef, undef, undef, undef, undef, undef, undef, undef, undef, undef, undef, undef, undef, undef, undef, undef, undef, undef, undef, undef, undef, undef, undef, undef, undef, undef, undef, undef, undef, .bool true, .pointer (some ⟨g25, i, none⟩), .int .i64 (Lc.getD i 0), .int .i64 (Lc.getD i 0), .int .i64 ((at0 : Nat) : Int), .int .i64 (max (Lc.getD i 0) ((at0 : Nat) : Int)), .slice al L.length cl, .int .i64 ((L.length : Nat) : Int), .int .i64 ((b : Nat) : Int), u46 61, u46 62, u46 63, u46 64, u46 65, u46 66, u46 67, u46 68, u46 69, .tuple #[.string (bs (rootS (L.take b))), .int .i64 0], .agg ([.int .i64 ((b : Nat) : Int), .slice ax ((partsL (L.take b)).length) cx]).toArray, .tuple #[.string (bs (rootS (L.take b))), .int .i64 0], .string (bs (rootS (L.take b))), .int .i64 0, .tuple #[.string (bs (rootS (L.take b))), .int .i64 0], .slice al L.length cl, .int .i64 ((b : Nat) : Int), .slice al b cl, .tuple #[.string (bs (rootS (L.take b))), .int .i64 0], .string (bs (rootS (L.take b))), .int .i64 0, .int .i64 0, .bool false, .bool false, .int .i64 0, .bool false, .bool false, .bool false, .int .i64 0, .bool false, .bool false, .bool false, .string (bs (rootS (L.take b))), .string (bs (rootS (L.take b))), .bool false, .bool false, .bool false, .pointer (some ⟨gx, 0, none⟩), .int .i64 ((b : Nat) : Int), .int .i64 ((b : Nat) : Int), .bool false, .bool false, .bool false, .pointer (some ⟨gx, 1, none⟩), .slice ax ((partsL (L.take b)).length) cx, .slice al L.length cl, .int .i64 ((b : Nat) : Int), .slice al b cl, .slice (some ⟨g117, 0, none⟩) ((partsL (L.take b)).length) g117c, .bool true, .bool false, .bool false, .agg ([.int .i64 ((b : Nat) : Int), .slice ax ((partsL (L.take b)).length) cx]).toArray, .int .i64 ((b : Nat) : Int), .int .i64 ((i + 1 : Nat) : Int)] : Array Value).getD q9 undef), rfl, rfl, (M.pick [1, 2] (by decide) rfl), (by omega), hb2, (fun e => hbe (by omega)), HX123⟩
        omega
      cases hab : decide (at0 < b)
      · skip
        obtain rfl : at0 = b := by have := of_decide_eq_false hab; omega
        refine wp_region_addsF 10 [8] [9] [ValRel (.agg ([.int .i64 ((at0 : Nat) : Int), .slice ar ((partsL (L.take at0)).length) cr]).toArray), ValRel (.slice al L.length cl), ValRel (.int .i64 ((at0 : Nat) : Int)), ValRel (.int .i64 ((at0 : Nat) : Int)), ValRel (.slice (slA al at0 cl) (at0 - at0) (cl - at0)), ValRel (.tuple #[.agg ([.int .i64 ((at0 : Nat) : Int), .slice ar ((partsL (L.take at0)).length) cr]).toArray, .int .i64 0]), ValRel (.tuple #[.agg ([.int .i64 ((at0 : Nat) : Int), .slice ar ((partsL (L.take at0)).length) cr]).toArray, .int .i64 0]), ValRel (.agg ([.int .i64 ((at0 : Nat) : Int), .slice ar ((partsL (L.take at0)).length) cr]).toArray), ValRel (.int .i64 0), BoxRel w45 (fun gA => .pointer (some ⟨gA, 0, none⟩)) 2 [(0, [.int .i64 0, .slice none 0 0])]] [[], [], [], [], [1, 2, 3], [0, 4], [5], [6], [6], []] (fun vs => { tmps := #[.slice ap ds.length cp, .slice aq cuts.length cq, undef, undef, u28 4, .slice al L.length cl, u5 6, u5 7, .pointer (some ⟨g11, 0, none⟩), .int .i64 ((at0 : Nat) : Int), undef, .int .i64 (Lc.getD i 0), .int .i64 ((at0 : Nat) : Int), vs 9, u28 14, u28 15, u28 16, u28 17, u28 18, u5 19, u5 20, u5 21, u5 22, u5 23, u5 24, u5 25, u5 26, u5 27, u5 28, u5 29, u5 30, u5 31, u5 32, u5 33, u5 34, u5 35, u5 36, u5 37, .agg ([.int .i64 0, .slice none 0 0]).toArray, .slice (some ⟨g17, 0, none⟩) 0 0, .slice aq cuts.length cq, .slice aq cuts.length cq, .int .i64 ((cuts.length : Nat) : Int), .int .i64 ((min cuts.length 20 : Nat) : Int), .slice aq (min cuts.length 20) cq, .slice (some ⟨g20, 0, none⟩) (min cuts.length 20) g20c, .slice al L.length cl, .int .i64 ((L.length : Nat) : Int), .slice (some ⟨g23, 0, none⟩) 1 1, .slice (some ⟨g25, 0, none⟩) (min cuts.length 20 + 1) g25c, .int .i64 ((min cuts.length 20 + 1 : Nat) : Int), .int .i64 ((i : Nat) : Int), .bool true, .pointer (some ⟨g25, i, none⟩), .int .i64 (Lc.getD i 0), .int .i64 (Lc.getD i 0), .int .i64 ((at0 : Nat) : Int), .int .i64 (max (Lc.getD i 0) ((at0 : Nat) : Int)), .slice al L.length cl, .int .i64 ((L.length : Nat) : Int), .int .i64 ((at0 : Nat) : Int), vs 6, vs 0, vs 1, vs 2, vs 3, vs 4, vs 5, vs 7, vs 8, u28 70, u28 71, u28 72, u28 73, u28 74, u28 75, u28 76, u28 77, u28 78, u28 79, u28 80, u28 81, u28 82, u28 83, u28 84, u28 85, u28 86, u28 87, u28 88, u28 89, u28 90, u28 91, u28 92, u28 93, u28 94, u28 95, u28 96, u28 97, u28 98, u28 99, u28 100, u28 101, u28 102, u28 103, u28 104, u28 105, u28 106, u28 107, u28 108, u28 109, u28 110, u28 111, u28 112, u28 113, u28 114, u28 115, undef, undef, undef, undef, undef, undef, undef, undef], defers := [] }) (by kernel_rfl) (by kernel_rfl) (by kernel_rfl) (by kernel_rfl) (.cons keep_val (.cons keep_val (.cons keep_val (.cons keep_val (.cons keep_val (.cons keep_val (.cons keep_val (.cons keep_val (.cons keep_val (.cons keep_box AllKeep.nil)))))))))) (.free free_val (.free free_val (.free free_val (.free free_val (.free free_val (.free free_val (.free free_val (.free free_val (.free free_val (.free free_box AllLoc.nil)))))))))) (.cons own_box AllOwn.nil) (by kernel_rfl) ?_ ?_
        · skip
          simp only [List.take]
          refine RulesL.cons (fun vs => { tmps := #[.slice ap ds.length cp, .slice aq cuts.length cq, undef, undef, u28 4, .slice al L.length cl, u5 6, u5 7, .pointer (some ⟨g11, 0, none⟩), .int .i64 ((at0 : Nat) : Int), undef, .int .i64 (Lc.getD i 0), .int .i64 ((at0 : Nat) : Int), u28 13, u28 14, u28 15, u28 16, u28 17, u28 18, u5 19, u5 20, u5 21, u5 22, u5 23, u5 24, u5 25, u5 26, u5 27, u5 28, u5 29, u5 30, u5 31, u5 32, u5 33, u5 34, u5 35, u5 36, u5 37, .agg ([.int .i64 0, .slice none 0 0]).toArray, .slice (some ⟨g17, 0, none⟩) 0 0, .slice aq cuts.length cq, .slice aq cuts.length cq, .int .i64 ((cuts.length : Nat) : Int), .int .i64 ((min cuts.length 20 : Nat) : Int), .slice aq (min cuts.length 20) cq, .slice (some ⟨g20, 0, none⟩) (min cuts.length 20) g20c, .slice al L.length cl, .int .i64 ((L.length : Nat) : Int), .slice (some ⟨g23, 0, none⟩) 1 1, .slice (some ⟨g25, 0, none⟩) (min cuts.length 20 + 1) g25c, .int .i64 ((min cuts.length 20 + 1 : Nat) : Int), .int .i64 ((i : Nat) : Int), .bool true, .pointer (some ⟨g25, i, none⟩), .int .i64 (Lc.getD i 0), .int .i64 (Lc.getD i 0), .int .i64 ((at0 : Nat) : Int), .int .i64 (max (Lc.getD i 0) ((at0 : Nat) : Int)), .slice al L.length cl, .int .i64 ((L.length : Nat) : Int), .int .i64 ((at0 : Nat) : Int), u28 61, u28 62, u28 63, u28 64, u28 65, u28 66, u28 67, u28 68, u28 69, u28 70, u28 71, u28 72, u28 73, u28 74, u28 75, u28 76, u28 77, u28 78, u28 79, u28 80, u28 81, u28 82, u28 83, u28 84, u28 85, u28 86, u28 87, u28 88, u28 89, u28 90, u28 91, u28 92, u28 93, u28 94, u28 95, u28 96, u28 97, u28 98, u28 99, u28 100, u28 101, u28 102, u28 103, u28 104, u28 105, u28 106, u28 107, u28 108, u28 109, u28 110, u28 111, u28 112, u28 113, u28 114, u28 115, undef, undef, undef, undef, undef, undef, undef, undef], defers := [] }) (by kernel_rfl) ?_ ?_
          · skip
            intro vs gs W125 SW125 D K9 hK9
            replace M := M.sees SW125
            dsimp only at hK9
            dsimp only
            refine wpL_chunk 1 (by rfl) (fun Lk hLk => ?_)
            simp only [List.take, List.drop]
            refine wpV_load (cs := [.int .i64 ((at0 : Nat) : Int), .slice ar ((partsL (L.take at0)).length) cr]) (by rfl) rfl rfl (M.r 1 0 rfl rfl) (M.lt 1 rfl) Tryd.underlying66 rfl info66 ?_
            simp only [putT, List.set]
            refine wpV_nil (hLk _ (fun w126 Sw126 => ?_))
            clear hLk Lk
            simp only [List.take, List.drop]
            replace M := M.sees Sw126
            refine wpL_nil (then_normal ?_)
            have h8 := hK9 (.agg ([.int .i64 ((at0 : Nat) : Int), .slice ar ((partsL (L.take at0)).length) cr]).toArray)
            have h9 := h8 0 _ Sw126 rfl (fun h => absurd h (by decide))
            simp only [putT, List.set] at h9
            exact h9
          refine RulesL.cons (fun vs => { tmps := #[.slice ap ds.length cp, .slice aq cuts.length cq, undef, undef, u28 4, .slice al L.length cl, u5 6, u5 7, .pointer (some ⟨g11, 0, none⟩), .int .i64 ((at0 : Nat) : Int), undef, .int .i64 (Lc.getD i 0), .int .i64 ((at0 : Nat) : Int), u28 13, u28 14, u28 15, u28 16, u28 17, u28 18, u5 19, u5 20, u5 21, u5 22, u5 23, u5 24, u5 25, u5 26, u5 27, u5 28, u5 29, u5 30, u5 31, u5 32, u5 33, u5 34, u5 35, u5 36, u5 37, .agg ([.int .i64 0, .slice none 0 0]).toArray, .slice (some ⟨g17, 0, none⟩) 0 0, .slice aq cuts.length cq, .slice aq cuts.length cq, .int .i64 ((cuts.length : Nat) : Int), .int .i64 ((min cuts.length 20 : Nat) : Int), .slice aq (min cuts.length 20) cq, .slice (some ⟨g20, 0, none⟩) (min cuts.length 20) g20c, .slice al L.length cl, .int .i64 ((L.length : Nat) : Int), .slice (some ⟨g23, 0, none⟩) 1 1, .slice (some ⟨g25, 0, none⟩) (min cuts.length 20 + 1) g25c, .int .i64 ((min cuts.length 20 + 1 : Nat) : Int), .int .i64 ((i : Nat) : Int), .bool true, .pointer (some ⟨g25, i, none⟩), .int .i64 (Lc.getD i 0), .int .i64 (Lc.getD i 0), .int .i64 ((at0 : Nat) : Int), .int .i64 (max (Lc.getD i 0) ((at0 : Nat) : Int)), .slice al L.length cl, .int .i64 ((L.length : Nat) : Int), .int .i64 ((at0 : Nat) : Int), u28 61, u28 62, u28 63, u28 64, u28 65, u28 66, u28 67, u28 68, u28 69, u28 70, u28 71, u28 72, u28 73, u28 74, u28 75, u28 76, u28 77, u28 78, u28 79, u28 80, u28 81, u28 82, u28 83, u28 84, u28 85, u28 86, u28 87, u28 88, u28 89, u28 90, u28 91, u28 92, u28 93, u28 94, u28 95, u28 96, u28 97, u28 98, u28 99, u28 100, u28 101, u28 102, u28 103, u28 104, u28 105, u28 106, u28 107, u28 108, u28 109, u28 110, u28 111, u28 112, u28 113, u28 114, u28 115, undef, undef, undef, undef, undef, undef, undef, undef], defers := [] }) (by kernel_rfl) ?_ ?_
          · skip
            intro vs gs W127 SW127 D K9 hK9
            replace M := M.sees SW127
            dsimp only at hK9
            dsimp only
            refine wpL_move (v := .slice al L.length cl) (by rfl) (by rfl) (by rfl) ?_
            simp only [putT, List.set]
            refine wpL_nil (then_normal ?_)
            have h8 := hK9 (.slice al L.length cl)
            have h9 := h8 0 _ (sees_refl _) rfl (fun h => absurd h (by decide))
            simp only [putT, List.set] at h9
            exact h9
          refine RulesL.cons (fun vs => { tmps := #[.slice ap ds.length cp, .slice aq cuts.length cq, undef, undef, u28 4, .slice al L.length cl, u5 6, u5 7, .pointer (some ⟨g11, 0, none⟩), .int .i64 ((at0 : Nat) : Int), undef, .int .i64 (Lc.getD i 0), .int .i64 ((at0 : Nat) : Int), u28 13, u28 14, u28 15, u28 16, u28 17, u28 18, u5 19, u5 20, u5 21, u5 22, u5 23, u5 24, u5 25, u5 26, u5 27, u5 28, u5 29, u5 30, u5 31, u5 32, u5 33, u5 34, u5 35, u5 36, u5 37, .agg ([.int .i64 0, .slice none 0 0]).toArray, .slice (some ⟨g17, 0, none⟩) 0 0, .slice aq cuts.length cq, .slice aq cuts.length cq, .int .i64 ((cuts.length : Nat) : Int), .int .i64 ((min cuts.length 20 : Nat) : Int), .slice aq (min cuts.length 20) cq, .slice (some ⟨g20, 0, none⟩) (min cuts.length 20) g20c, .slice al L.length cl, .int .i64 ((L.length : Nat) : Int), .slice (some ⟨g23, 0, none⟩) 1 1, .slice (some ⟨g25, 0, none⟩) (min cuts.length 20 + 1) g25c, .int .i64 ((min cuts.length 20 + 1 : Nat) : Int), .int .i64 ((i : Nat) : Int), .bool true, .pointer (some ⟨g25, i, none⟩), .int .i64 (Lc.getD i 0), .int .i64 (Lc.getD i 0), .int .i64 ((at0 : Nat) : Int), .int .i64 (max (Lc.getD i 0) ((at0 : Nat) : Int)), .slice al L.length cl, .int .i64 ((L.length : Nat) : Int), .int .i64 ((at0 : Nat) : Int), u28 61, u28 62, u28 63, u28 64, u28 65, u28 66, u28 67, u28 68, u28 69, u28 70, u28 71, u28 72, u28 73, u28 74, u28 75, u28 76, u28 77, u28 78, u28 79, u28 80, u28 81, u28 82, u28 83, u28 84, u28 85, u28 86, u28 87, u28 88, u28 89, u28 90, u28 91, u28 92, u28 93, u28 94, u28 95, u28 96, u28 97, u28 98, u28 99, u28 100, u28 101, u28 102, u28 103, u28 104, u28 105, u28 106, u28 107, u28 108, u28 109, u28 110, u28 111, u28 112, u28 113, u28 114, u28 115, undef, undef, undef, undef, undef, undef, undef, undef], defers := [] }) (by kernel_rfl) ?_ ?_
          · skip
            intro vs gs W128 SW128 D K9 hK9
            replace M := M.sees SW128
            dsimp only at hK9
            dsimp only
            refine wpL_move (v := .int .i64 ((at0 : Nat) : Int)) (by rfl) (by rfl) (by rfl) ?_
            simp only [putT, List.set]
            refine wpL_nil (then_normal ?_)
            have h8 := hK9 (.int .i64 ((at0 : Nat) : Int))
            have h9 := h8 0 _ (sees_refl _) rfl (fun h => absurd h (by decide))
            simp only [putT, List.set] at h9
            exact h9
          refine RulesL.cons (fun vs => { tmps := #[.slice ap ds.length cp, .slice aq cuts.length cq, undef, undef, u28 4, .slice al L.length cl, u5 6, u5 7, .pointer (some ⟨g11, 0, none⟩), .int .i64 ((at0 : Nat) : Int), undef, .int .i64 (Lc.getD i 0), .int .i64 ((at0 : Nat) : Int), u28 13, u28 14, u28 15, u28 16, u28 17, u28 18, u5 19, u5 20, u5 21, u5 22, u5 23, u5 24, u5 25, u5 26, u5 27, u5 28, u5 29, u5 30, u5 31, u5 32, u5 33, u5 34, u5 35, u5 36, u5 37, .agg ([.int .i64 0, .slice none 0 0]).toArray, .slice (some ⟨g17, 0, none⟩) 0 0, .slice aq cuts.length cq, .slice aq cuts.length cq, .int .i64 ((cuts.length : Nat) : Int), .int .i64 ((min cuts.length 20 : Nat) : Int), .slice aq (min cuts.length 20) cq, .slice (some ⟨g20, 0, none⟩) (min cuts.length 20) g20c, .slice al L.length cl, .int .i64 ((L.length : Nat) : Int), .slice (some ⟨g23, 0, none⟩) 1 1, .slice (some ⟨g25, 0, none⟩) (min cuts.length 20 + 1) g25c, .int .i64 ((min cuts.length 20 + 1 : Nat) : Int), .int .i64 ((i : Nat) : Int), .bool true, .pointer (some ⟨g25, i, none⟩), .int .i64 (Lc.getD i 0), .int .i64 (Lc.getD i 0), .int .i64 ((at0 : Nat) : Int), .int .i64 (max (Lc.getD i 0) ((at0 : Nat) : Int)), .slice al L.length cl, .int .i64 ((L.length : Nat) : Int), .int .i64 ((at0 : Nat) : Int), u28 61, u28 62, u28 63, u28 64, u28 65, u28 66, u28 67, u28 68, u28 69, u28 70, u28 71, u28 72, u28 73, u28 74, u28 75, u28 76, u28 77, u28 78, u28 79, u28 80, u28 81, u28 82, u28 83, u28 84, u28 85, u28 86, u28 87, u28 88, u28 89, u28 90, u28 91, u28 92, u28 93, u28 94, u28 95, u28 96, u28 97, u28 98, u28 99, u28 100, u28 101, u28 102, u28 103, u28 104, u28 105, u28 106, u28 107, u28 108, u28 109, u28 110, u28 111, u28 112, u28 113, u28 114, u28 115, undef, undef, undef, undef, undef, undef, undef, undef], defers := [] }) (by kernel_rfl) ?_ ?_
          · skip
            intro vs gs W129 SW129 D K9 hK9
            replace M := M.sees SW129
            dsimp only at hK9
            dsimp only
            refine wpL_move (v := .int .i64 ((at0 : Nat) : Int)) (by rfl) (by rfl) (by rfl) ?_
            simp only [putT, List.set]
            refine wpL_nil (then_normal ?_)
            have h8 := hK9 (.int .i64 ((at0 : Nat) : Int))
            have h9 := h8 0 _ (sees_refl _) rfl (fun h => absurd h (by decide))
            simp only [putT, List.set] at h9
            exact h9
          refine RulesL.cons (fun vs => { tmps := #[.slice ap ds.length cp, .slice aq cuts.length cq, undef, undef, u28 4, .slice al L.length cl, u5 6, u5 7, .pointer (some ⟨g11, 0, none⟩), .int .i64 ((at0 : Nat) : Int), undef, .int .i64 (Lc.getD i 0), .int .i64 ((at0 : Nat) : Int), u28 13, u28 14, u28 15, u28 16, u28 17, u28 18, u5 19, u5 20, u5 21, u5 22, u5 23, u5 24, u5 25, u5 26, u5 27, u5 28, u5 29, u5 30, u5 31, u5 32, u5 33, u5 34, u5 35, u5 36, u5 37, .agg ([.int .i64 0, .slice none 0 0]).toArray, .slice (some ⟨g17, 0, none⟩) 0 0, .slice aq cuts.length cq, .slice aq cuts.length cq, .int .i64 ((cuts.length : Nat) : Int), .int .i64 ((min cuts.length 20 : Nat) : Int), .slice aq (min cuts.length 20) cq, .slice (some ⟨g20, 0, none⟩) (min cuts.length 20) g20c, .slice al L.length cl, .int .i64 ((L.length : Nat) : Int), .slice (some ⟨g23, 0, none⟩) 1 1, .slice (some ⟨g25, 0, none⟩) (min cuts.length 20 + 1) g25c, .int .i64 ((min cuts.length 20 + 1 : Nat) : Int), .int .i64 ((i : Nat) : Int), .bool true, .pointer (some ⟨g25, i, none⟩), .int .i64 (Lc.getD i 0), .int .i64 (Lc.getD i 0), .int .i64 ((at0 : Nat) : Int), .int .i64 (max (Lc.getD i 0) ((at0 : Nat) : Int)), .slice al L.length cl, .int .i64 ((L.length : Nat) : Int), .int .i64 ((at0 : Nat) : Int), u28 61, u28 62, vs 1, vs 2, vs 3, u28 66, u28 67, u28 68, u28 69, u28 70, u28 71, u28 72, u28 73, u28 74, u28 75, u28 76, u28 77, u28 78, u28 79, u28 80, u28 81, u28 82, u28 83, u28 84, u28 85, u28 86, u28 87, u28 88, u28 89, u28 90, u28 91, u28 92, u28 93, u28 94, u28 95, u28 96, u28 97, u28 98, u28 99, u28 100, u28 101, u28 102, u28 103, u28 104, u28 105, u28 106, u28 107, u28 108, u28 109, u28 110, u28 111, u28 112, u28 113, u28 114, u28 115, undef, undef, undef, undef, undef, undef, undef, undef], defers := [] }) (by kernel_rfl) ?_ ?_
          · skip
            intro vs gs W130 SW130 D K9 hK9
            replace M := M.sees SW130
            obtain ⟨D1, D2, D3, _⟩ := D
            have e1 : vs 1 = .slice al L.length cl := D1
            have e2 : vs 2 = .int .i64 ((at0 : Nat) : Int) := D2
            have e3 : vs 3 = .int .i64 ((at0 : Nat) : Int) := D3
            dsimp only at hK9
            dsimp only
            rw [e1, e2, e3] at hK9 ⊢
            refine wpL_chunk 1 (by rfl) (fun Lk hLk => ?_)
            simp only [List.take, List.drop]
            refine wpV_slcA (lo := at0) (hi := at0) (by rfl) rfl rfl rfl rfl Tryd.underlying48 info9 (by omega) (Nat.le_trans (by omega) (M.oldN Hl).cap) ?_
            simp only [putT, List.set]
            refine wpV_nil (hLk _ (fun w131 Sw131 => ?_))
            clear hLk Lk
            simp only [List.take, List.drop]
            replace M := M.sees Sw131
            refine wpL_nil (then_normal ?_)
            have h8 := hK9 (.slice (slA al at0 cl) (at0 - at0) (cl - at0))
            have h9 := h8 0 _ Sw131 rfl (fun h => absurd h (by decide))
            simp only [putT, List.set] at h9
            exact h9
          refine RulesL.cons (fun vs => { tmps := #[.slice ap ds.length cp, .slice aq cuts.length cq, undef, undef, u28 4, .slice al L.length cl, u5 6, u5 7, .pointer (some ⟨g11, 0, none⟩), .int .i64 ((at0 : Nat) : Int), undef, .int .i64 (Lc.getD i 0), .int .i64 ((at0 : Nat) : Int), u28 13, u28 14, u28 15, u28 16, u28 17, u28 18, u5 19, u5 20, u5 21, u5 22, u5 23, u5 24, u5 25, u5 26, u5 27, u5 28, u5 29, u5 30, u5 31, u5 32, u5 33, u5 34, u5 35, u5 36, u5 37, .agg ([.int .i64 0, .slice none 0 0]).toArray, .slice (some ⟨g17, 0, none⟩) 0 0, .slice aq cuts.length cq, .slice aq cuts.length cq, .int .i64 ((cuts.length : Nat) : Int), .int .i64 ((min cuts.length 20 : Nat) : Int), .slice aq (min cuts.length 20) cq, .slice (some ⟨g20, 0, none⟩) (min cuts.length 20) g20c, .slice al L.length cl, .int .i64 ((L.length : Nat) : Int), .slice (some ⟨g23, 0, none⟩) 1 1, .slice (some ⟨g25, 0, none⟩) (min cuts.length 20 + 1) g25c, .int .i64 ((min cuts.length 20 + 1 : Nat) : Int), .int .i64 ((i : Nat) : Int), .bool true, .pointer (some ⟨g25, i, none⟩), .int .i64 (Lc.getD i 0), .int .i64 (Lc.getD i 0), .int .i64 ((at0 : Nat) : Int), .int .i64 (max (Lc.getD i 0) ((at0 : Nat) : Int)), .slice al L.length cl, .int .i64 ((L.length : Nat) : Int), .int .i64 ((at0 : Nat) : Int), u28 61, vs 0, u28 63, u28 64, u28 65, vs 4, u28 67, u28 68, u28 69, u28 70, u28 71, u28 72, u28 73, u28 74, u28 75, u28 76, u28 77, u28 78, u28 79, u28 80, u28 81, u28 82, u28 83, u28 84, u28 85, u28 86, u28 87, u28 88, u28 89, u28 90, u28 91, u28 92, u28 93, u28 94, u28 95, u28 96, u28 97, u28 98, u28 99, u28 100, u28 101, u28 102, u28 103, u28 104, u28 105, u28 106, u28 107, u28 108, u28 109, u28 110, u28 111, u28 112, u28 113, u28 114, u28 115, undef, undef, undef, undef, undef, undef, undef, undef], defers := [] }) (by kernel_rfl) ?_ ?_
          · skip
            intro vs gs W132 SW132 D K9 hK9
            replace M := M.sees SW132
            obtain ⟨D0, D4, _⟩ := D
            have e0 : vs 0 = .agg ([.int .i64 ((at0 : Nat) : Int), .slice ar ((partsL (L.take at0)).length) cr]).toArray := D0
            have e4 : vs 4 = .slice (slA al at0 cl) (at0 - at0) (cl - at0) := D4
            dsimp only at hK9
            dsimp only
            rw [e0, e4] at hK9 ⊢
            refine wpL_chunk 1 (by rfl) (fun Lk hLk => ?_)
            simp only [List.take, List.drop]
            refine wpV_callf (v := .tuple #[.agg ([.int .i64 ((at0 : Nat) : Int), .slice ar ((partsL (L.take at0)).length) cr]).toArray, .int .i64 0]) (args := #[.agg ([.int .i64 ((at0 : Nat) : Int), .slice ar ((partsL (L.take at0)).length) cr]).toArray, .slice (slA al at0 cl) (at0 - at0) (cl - at0)]) (by rfl) rfl Tryd.func55 (by kernel_rfl) (by kernel_rfl) rfl (fun W hW => by with_reducible exact Add_parts0 (L := L.take at0) (ls := (L.take at0).drop at0) (m := at0) (by rw [List.length_take]; omega) (by omega) (fun s9 h9 => hL32 s9 (List.mem_of_mem_take h9)) (by rw [List.length_drop, List.length_take]; omega) ((M.sees hW).oldN Hr) ((((M.sees hW).oldN Hl).part (by omega) (by omega) (Nat.le_trans (by omega) ((M.sees hW).oldN Hl).cap) (Nat.le_refl _)).eq (scells_part _ _ _))) ?_
            simp only [putT, List.set]
            refine wpV_nil (hLk _ (fun w133 Sw133 => ?_))
            clear hLk Lk
            simp only [List.take, List.drop]
            replace M := M.sees Sw133
            refine wpL_nil (then_normal ?_)
            have h8 := hK9 (.tuple #[.agg ([.int .i64 ((at0 : Nat) : Int), .slice ar ((partsL (L.take at0)).length) cr]).toArray, .int .i64 0])
            have h9 := h8 0 _ Sw133 rfl (fun h => absurd h (by decide))
            simp only [putT, List.set] at h9
            exact h9
          refine RulesL.cons (fun vs => { tmps := #[.slice ap ds.length cp, .slice aq cuts.length cq, undef, undef, u28 4, .slice al L.length cl, u5 6, u5 7, .pointer (some ⟨g11, 0, none⟩), .int .i64 ((at0 : Nat) : Int), undef, .int .i64 (Lc.getD i 0), .int .i64 ((at0 : Nat) : Int), u28 13, u28 14, u28 15, u28 16, u28 17, u28 18, u5 19, u5 20, u5 21, u5 22, u5 23, u5 24, u5 25, u5 26, u5 27, u5 28, u5 29, u5 30, u5 31, u5 32, u5 33, u5 34, u5 35, u5 36, u5 37, .agg ([.int .i64 0, .slice none 0 0]).toArray, .slice (some ⟨g17, 0, none⟩) 0 0, .slice aq cuts.length cq, .slice aq cuts.length cq, .int .i64 ((cuts.length : Nat) : Int), .int .i64 ((min cuts.length 20 : Nat) : Int), .slice aq (min cuts.length 20) cq, .slice (some ⟨g20, 0, none⟩) (min cuts.length 20) g20c, .slice al L.length cl, .int .i64 ((L.length : Nat) : Int), .slice (some ⟨g23, 0, none⟩) 1 1, .slice (some ⟨g25, 0, none⟩) (min cuts.length 20 + 1) g25c, .int .i64 ((min cuts.length 20 + 1 : Nat) : Int), .int .i64 ((i : Nat) : Int), .bool true, .pointer (some ⟨g25, i, none⟩), .int .i64 (Lc.getD i 0), .int .i64 (Lc.getD i 0), .int .i64 ((at0 : Nat) : Int), .int .i64 (max (Lc.getD i 0) ((at0 : Nat) : Int)), .slice al L.length cl, .int .i64 ((L.length : Nat) : Int), .int .i64 ((at0 : Nat) : Int), u28 61, u28 62, u28 63, u28 64, u28 65, u28 66, vs 5, u28 68, u28 69, u28 70, u28 71, u28 72, u28 73, u28 74, u28 75, u28 76, u28 77, u28 78, u28 79, u28 80, u28 81, u28 82, u28 83, u28 84, u28 85, u28 86, u28 87, u28 88, u28 89, u28 90, u28 91, u28 92, u28 93, u28 94, u28 95, u28 96, u28 97, u28 98, u28 99, u28 100, u28 101, u28 102, u28 103, u28 104, u28 105, u28 106, u28 107, u28 108, u28 109, u28 110, u28 111, u28 112, u28 113, u28 114, u28 115, undef, undef, undef, undef, undef, undef, undef, undef], defers := [] }) (by kernel_rfl) ?_ ?_
          · skip
            intro vs gs W134 SW134 D K9 hK9
            replace M := M.sees SW134
            obtain ⟨D5, _⟩ := D
            have e5 : vs 5 = .tuple #[.agg ([.int .i64 ((at0 : Nat) : Int), .slice ar ((partsL (L.take at0)).length) cr]).toArray, .int .i64 0] := D5
            dsimp only at hK9
            dsimp only
            rw [e5] at hK9 ⊢
            refine wpL_move (v := .tuple #[.agg ([.int .i64 ((at0 : Nat) : Int), .slice ar ((partsL (L.take at0)).length) cr]).toArray, .int .i64 0]) (by rfl) (by rfl) (by rfl) ?_
            simp only [putT, List.set]
            refine wpL_nil (then_normal ?_)
            have h8 := hK9 (.tuple #[.agg ([.int .i64 ((at0 : Nat) : Int), .slice ar ((partsL (L.take at0)).length) cr]).toArray, .int .i64 0])
            have h9 := h8 0 _ (sees_refl _) rfl (fun h => absurd h (by decide))
            simp only [putT, List.set] at h9
            exact h9
          refine RulesL.cons (fun vs => { tmps := #[.slice ap ds.length cp, .slice aq cuts.length cq, undef, undef, u28 4, .slice al L.length cl, u5 6, u5 7, .pointer (some ⟨g11, 0, none⟩), .int .i64 ((at0 : Nat) : Int), undef, .int .i64 (Lc.getD i 0), .int .i64 ((at0 : Nat) : Int), u28 13, u28 14, u28 15, u28 16, u28 17, u28 18, u5 19, u5 20, u5 21, u5 22, u5 23, u5 24, u5 25, u5 26, u5 27, u5 28, u5 29, u5 30, u5 31, u5 32, u5 33, u5 34, u5 35, u5 36, u5 37, .agg ([.int .i64 0, .slice none 0 0]).toArray, .slice (some ⟨g17, 0, none⟩) 0 0, .slice aq cuts.length cq, .slice aq cuts.length cq, .int .i64 ((cuts.length : Nat) : Int), .int .i64 ((min cuts.length 20 : Nat) : Int), .slice aq (min cuts.length 20) cq, .slice (some ⟨g20, 0, none⟩) (min cuts.length 20) g20c, .slice al L.length cl, .int .i64 ((L.length : Nat) : Int), .slice (some ⟨g23, 0, none⟩) 1 1, .slice (some ⟨g25, 0, none⟩) (min cuts.length 20 + 1) g25c, .int .i64 ((min cuts.length 20 + 1 : Nat) : Int), .int .i64 ((i : Nat) : Int), .bool true, .pointer (some ⟨g25, i, none⟩), .int .i64 (Lc.getD i 0), .int .i64 (Lc.getD i 0), .int .i64 ((at0 : Nat) : Int), .int .i64 (max (Lc.getD i 0) ((at0 : Nat) : Int)), .slice al L.length cl, .int .i64 ((L.length : Nat) : Int), .int .i64 ((at0 : Nat) : Int), vs 6, u28 62, u28 63, u28 64, u28 65, u28 66, u28 67, u28 68, u28 69, u28 70, u28 71, u28 72, u28 73, u28 74, u28 75, u28 76, u28 77, u28 78, u28 79, u28 80, u28 81, u28 82, u28 83, u28 84, u28 85, u28 86, u28 87, u28 88, u28 89, u28 90, u28 91, u28 92, u28 93, u28 94, u28 95, u28 96, u28 97, u28 98, u28 99, u28 100, u28 101, u28 102, u28 103, u28 104, u28 105, u28 106, u28 107, u28 108, u28 109, u28 110, u28 111, u28 112, u28 113, u28 114, u28 115, undef, undef, undef, undef, undef, undef, undef, undef], defers := [] }) (by kernel_rfl) ?_ ?_
          · skip
            intro vs gs W135 SW135 D K9 hK9
            replace M := M.sees SW135
            obtain ⟨D6, _⟩ := D
            have e6 : vs 6 = .tuple #[.agg ([.int .i64 ((at0 : Nat) : Int), .slice ar ((partsL (L.take at0)).length) cr]).toArray, .int .i64 0] := D6
            dsimp only at hK9
            dsimp only
            rw [e6] at hK9 ⊢
            refine wpL_chunk 1 (by rfl) (fun Lk hLk => ?_)
            simp only [List.take, List.drop]
            refine wpV_extract (v := .agg ([.int .i64 ((at0 : Nat) : Int), .slice ar ((partsL (L.take at0)).length) cr]).toArray) (by rfl) rfl rfl rfl ?_
            simp only [putT, List.set]
            refine wpV_nil (hLk _ (fun w136 Sw136 => ?_))
            clear hLk Lk
            simp only [List.take, List.drop]
            replace M := M.sees Sw136
            refine wpL_nil (then_normal ?_)
            have h8 := hK9 (.agg ([.int .i64 ((at0 : Nat) : Int), .slice ar ((partsL (L.take at0)).length) cr]).toArray)
            have h9 := h8 0 _ Sw136 rfl (fun h => absurd h (by decide))
            simp only [putT, List.set] at h9
            exact h9
          refine RulesL.cons (fun vs => { tmps := #[.slice ap ds.length cp, .slice aq cuts.length cq, undef, undef, u28 4, .slice al L.length cl, u5 6, u5 7, .pointer (some ⟨g11, 0, none⟩), .int .i64 ((at0 : Nat) : Int), undef, .int .i64 (Lc.getD i 0), .int .i64 ((at0 : Nat) : Int), u28 13, u28 14, u28 15, u28 16, u28 17, u28 18, u5 19, u5 20, u5 21, u5 22, u5 23, u5 24, u5 25, u5 26, u5 27, u5 28, u5 29, u5 30, u5 31, u5 32, u5 33, u5 34, u5 35, u5 36, u5 37, .agg ([.int .i64 0, .slice none 0 0]).toArray, .slice (some ⟨g17, 0, none⟩) 0 0, .slice aq cuts.length cq, .slice aq cuts.length cq, .int .i64 ((cuts.length : Nat) : Int), .int .i64 ((min cuts.length 20 : Nat) : Int), .slice aq (min cuts.length 20) cq, .slice (some ⟨g20, 0, none⟩) (min cuts.length 20) g20c, .slice al L.length cl, .int .i64 ((L.length : Nat) : Int), .slice (some ⟨g23, 0, none⟩) 1 1, .slice (some ⟨g25, 0, none⟩) (min cuts.length 20 + 1) g25c, .int .i64 ((min cuts.length 20 + 1 : Nat) : Int), .int .i64 ((i : Nat) : Int), .bool true, .pointer (some ⟨g25, i, none⟩), .int .i64 (Lc.getD i 0), .int .i64 (Lc.getD i 0), .int .i64 ((at0 : Nat) : Int), .int .i64 (max (Lc.getD i 0) ((at0 : Nat) : Int)), .slice al L.length cl, .int .i64 ((L.length : Nat) : Int), .int .i64 ((at0 : Nat) : Int), vs 6, u28 62, u28 63, u28 64, u28 65, u28 66, u28 67, u28 68, u28 69, u28 70, u28 71, u28 72, u28 73, u28 74, u28 75, u28 76, u28 77, u28 78, u28 79, u28 80, u28 81, u28 82, u28 83, u28 84, u28 85, u28 86, u28 87, u28 88, u28 89, u28 90, u28 91, u28 92, u28 93, u28 94, u28 95, u28 96, u28 97, u28 98, u28 99, u28 100, u28 101, u28 102, u28 103, u28 104, u28 105, u28 106, u28 107, u28 108, u28 109, u28 110, u28 111, u28 112, u28 113, u28 114, u28 115, undef, undef, undef, undef, undef, undef, undef, undef], defers := [] }) (by kernel_rfl) ?_ ?_
          · skip
            intro vs gs W137 SW137 D K9 hK9
            replace M := M.sees SW137
            obtain ⟨D6, _⟩ := D
            have e6 : vs 6 = .tuple #[.agg ([.int .i64 ((at0 : Nat) : Int), .slice ar ((partsL (L.take at0)).length) cr]).toArray, .int .i64 0] := D6
            dsimp only at hK9
            dsimp only
            rw [e6] at hK9 ⊢
            refine wpL_chunk 1 (by rfl) (fun Lk hLk => ?_)
            simp only [List.take, List.drop]
            refine wpV_extract (v := .int .i64 0) (by rfl) rfl rfl rfl ?_
            simp only [putT, List.set]
            refine wpV_nil (hLk _ (fun w138 Sw138 => ?_))
            clear hLk Lk
            simp only [List.take, List.drop]
            replace M := M.sees Sw138
            refine wpL_nil (then_normal ?_)
            have h8 := hK9 (.int .i64 0)
            have h9 := h8 0 _ Sw138 rfl (fun h => absurd h (by decide))
            simp only [putT, List.set] at h9
            exact h9
          refine RulesL.cons (fun vs => { tmps := #[.slice ap ds.length cp, .slice aq cuts.length cq, undef, undef, u28 4, .slice al L.length cl, u5 6, u5 7, .pointer (some ⟨g11, 0, none⟩), .int .i64 ((at0 : Nat) : Int), undef, .int .i64 (Lc.getD i 0), .int .i64 ((at0 : Nat) : Int), u28 13, u28 14, u28 15, u28 16, u28 17, u28 18, u5 19, u5 20, u5 21, u5 22, u5 23, u5 24, u5 25, u5 26, u5 27, u5 28, u5 29, u5 30, u5 31, u5 32, u5 33, u5 34, u5 35, u5 36, u5 37, .agg ([.int .i64 0, .slice none 0 0]).toArray, .slice (some ⟨g17, 0, none⟩) 0 0, .slice aq cuts.length cq, .slice aq cuts.length cq, .int .i64 ((cuts.length : Nat) : Int), .int .i64 ((min cuts.length 20 : Nat) : Int), .slice aq (min cuts.length 20) cq, .slice (some ⟨g20, 0, none⟩) (min cuts.length 20) g20c, .slice al L.length cl, .int .i64 ((L.length : Nat) : Int), .slice (some ⟨g23, 0, none⟩) 1 1, .slice (some ⟨g25, 0, none⟩) (min cuts.length 20 + 1) g25c, .int .i64 ((min cuts.length 20 + 1 : Nat) : Int), .int .i64 ((i : Nat) : Int), .bool true, .pointer (some ⟨g25, i, none⟩), .int .i64 (Lc.getD i 0), .int .i64 (Lc.getD i 0), .int .i64 ((at0 : Nat) : Int), .int .i64 (max (Lc.getD i 0) ((at0 : Nat) : Int)), .slice al L.length cl, .int .i64 ((L.length : Nat) : Int), .int .i64 ((at0 : Nat) : Int), u28 61, u28 62, u28 63, u28 64, u28 65, u28 66, u28 67, u28 68, u28 69, u28 70, u28 71, u28 72, u28 73, u28 74, u28 75, u28 76, u28 77, u28 78, u28 79, u28 80, u28 81, u28 82, u28 83, u28 84, u28 85, u28 86, u28 87, u28 88, u28 89, u28 90, u28 91, u28 92, u28 93, u28 94, u28 95, u28 96, u28 97, u28 98, u28 99, u28 100, u28 101, u28 102, u28 103, u28 104, u28 105, u28 106, u28 107, u28 108, u28 109, u28 110, u28 111, u28 112, u28 113, u28 114, u28 115, undef, undef, undef, undef, undef, undef, undef, undef], defers := [] }) (by kernel_rfl) ?_ ?_
          · skip
            intro vs gs W139 SW139 D K9 hK9
            replace M := M.sees SW139
            replace R0_0 := (M.oldG R0_0 L0 NI0)
            replace L0 := M.oldL L0
            have Rg25_0 := M.r 0 0 rfl rfl
            have Lg25 := M.lt 0 rfl
            have Rg11_0 := M.r 1 0 rfl rfl
            have Lg11 := M.lt 1 rfl
            replace Hp := M.oldN Hp
            replace Hq := M.oldN Hq
            replace Hl := M.oldN Hl
            replace Hr := M.oldN Hr
            replace M := Mem.start W139
            dsimp only at hK9
            dsimp only
            refine wpL_var (t := 66) (cs := [.int .i64 0, .slice none 0 0]) (by rfl) (fun W => ?_) (fun g140 w141 Sw141 Hg140 Bg140 => ?_)
            · go_simp
            replace M := ((M.sees Sw141).add (N := 2) (cs := [.int .i64 0, .slice none 0 0]) (M.ge Hg140) (M.fresh Hg140) Bg140 rfl)
            clear Bg140
            simp only [putT, List.set]
            refine wpL_nil (then_normal ?_)
            have h8 := hK9 (.pointer (some ⟨g140, 0, none⟩))
            have h9 := h8 g140 _ M.seesAll ⟨rfl, (M.ok _ (.head _)).up SW139⟩ (fun _ => (M.ok _ (.head _)).ge)
            simp only [putT, List.set] at h9
            exact h9
          exact RulesL.nil
        intro vs gs W142 SW142 D A9
        obtain ⟨D0, D1, D2, D3, D4, D5, D6, D7, D8, D9, _⟩ := (show DepRel _ vs gs W142 [0, 1, 2, 3, 4, 5, 6, 7, 8, 9] from D)
        clear A9 D
        have e0 : vs 0 = .agg ([.int .i64 ((at0 : Nat) : Int), .slice ar ((partsL (L.take at0)).length) cr]).toArray := D0
        have e1 : vs 1 = .slice al L.length cl := D1
        have e2 : vs 2 = .int .i64 ((at0 : Nat) : Int) := D2
        have e3 : vs 3 = .int .i64 ((at0 : Nat) : Int) := D3
        have e4 : vs 4 = .slice (slA al at0 cl) (at0 - at0) (cl - at0) := D4
        have e5 : vs 5 = .tuple #[.agg ([.int .i64 ((at0 : Nat) : Int), .slice ar ((partsL (L.take at0)).length) cr]).toArray, .int .i64 0] := D5
        have e6 : vs 6 = .tuple #[.agg ([.int .i64 ((at0 : Nat) : Int), .slice ar ((partsL (L.take at0)).length) cr]).toArray, .int .i64 0] := D6
        have e7 : vs 7 = .agg ([.int .i64 ((at0 : Nat) : Int), .slice ar ((partsL (L.take at0)).length) cr]).toArray := D7
        have e8 : vs 8 = .int .i64 0 := D8
        obtain ⟨e9, Og143⟩ := D9
        generalize gs 9 = g143 at *
        replace e9 : vs 9 = .pointer (some ⟨g143, 0, none⟩) := e9
        replace M := M.addOks SW142 [⟨g143, 2, [(0, [.int .i64 0, .slice none 0 0])]⟩] (List.forall_mem_cons.2 ⟨Og143, (fun _ h => nomatch h)⟩) (.cons (fun _ h => nomatch h) .nil)
        simp only [List.cons_append, List.nil_append] at M
        dsimp only
        simp only [e0, e1, e2, e3, e4, e5, e6, e7, e8, e9, List.drop]
        refine wpL_store (g := g143) (off := 0) (n := 2) (cs := [.int .i64 ((at0 : Nat) : Int), .slice ar ((partsL (L.take at0)).length) cr]) (by rfl) (by rfl) (by rfl) (by rfl) (by rfl) (M.t 0 rfl) (by simp [flen]) info66 (by simp [fone, Value.oneCell']) (fun w144 P R T => ?_)
        replace M := M.putS 0 0 rfl P R T rfl ⟨.inl rfl, trivial⟩
        simp only [List.set] at M
        refine wpL_assign (v := .int .i64 0) (by rfl) (by rfl) (by rfl) ?_
        simp only [putT, List.set]
        refine wpL_nil (no_panic ?_)
        have HX145 := ((M.notinsG Hr).sub (show ∀ x ∈ [g25, g11, g143], x ∈ [g143, g25, g11] from (by intro x hx; simp only [List.mem_cons, List.not_mem_nil, or_false] at hx ⊢; omega)))
        exact HK46 g143 ar ((partsL (L.take at0)).length) cr (fun q9 => (#[undef, undef, undef, undef, undef, undef, undef, undef, undef, undef, undef, undef, undef, .pointer (some ⟨g143, 0, none⟩), undef, undef, undef, undef, undef, undef, undef, undef, undef, undef, undef, undef, undef, undef, undef, undef, undef, undef, undef, undef, undef, undef, undef, undef, undef, undef, undef, undef, undef, undef, undef, undef, undef, undef, undef, undef, undef, undef, undef, undef, undef, undef, undef, undef, undef, undef, undef, .tuple #[.agg ([.int .i64 ((at0 : Nat) : Int), .slice ar ((partsL (L.take at0)).length) cr]).toArray, .int .i64 0], .agg ([.int .i64 ((at0 : Nat) : Int), .slice ar ((partsL (L.take at0)).length) cr]).toArray, .slice al L.length cl, .int .i64 ((at0 : Nat) : Int), .int .i64 ((at0 : Nat) : Int), .slice (slA al at0 cl) (at0 - at0) (cl - at0), .tuple #[.agg ([.int .i64 ((at0 : Nat) : Int), .slice ar ((partsL (L.take at0)).length) cr]).toArray, .int .i64 0], .agg ([.int .i64 ((at0 : Nat) : Int), .slice ar ((partsL (L.take at0)).length) cr]).toArray, .int .i64 0] : Array Value).getD q9 undef) _  (M.pick [1, 2, 0] (by decide) rfl) HX145
      · skip
        have hab1 : at0 < b := of_decide_eq_true hab
        refine wp_region_addsF 10 [8] [5, 9] [ValRel (.agg ([.int .i64 ((at0 : Nat) : Int), .slice ar ((partsL (L.take at0)).length) cr]).toArray), ValRel (.slice al L.length cl), ValRel (.int .i64 ((at0 : Nat) : Int)), ValRel (.int .i64 ((b : Nat) : Int)), ValRel (.slice (slA al at0 cl) (b - at0) (cl - at0)), NewRel w45 (fun gA gAc => .tuple #[.agg ([.int .i64 ((b : Nat) : Int), .slice (some ⟨gA, 0, none⟩) ((partsL (L.take b)).length) gAc]).toArray, .int .i64 0]) ((partsL (L.take b)).length) [(0, scells (partsL (L.take b)))], LinkRel 5 (fun x => x) (NewRel w45 (fun gA gAc => .tuple #[.agg ([.int .i64 ((b : Nat) : Int), .slice (some ⟨gA, 0, none⟩) ((partsL (L.take b)).length) gAc]).toArray, .int .i64 0]) ((partsL (L.take b)).length) [(0, scells (partsL (L.take b)))]), LinkRel 6 (partF 0) (NewRel w45 (fun gA gAc => .agg ([.int .i64 ((b : Nat) : Int), .slice (some ⟨gA, 0, none⟩) ((partsL (L.take b)).length) gAc]).toArray) ((partsL (L.take b)).length) [(0, scells (partsL (L.take b)))]), ValRel (.int .i64 0), BoxRel w45 (fun gA => .pointer (some ⟨gA, 0, none⟩)) 2 [(0, [.int .i64 0, .slice none 0 0])]] [[], [], [], [], [1, 2, 3], [0, 4], [5], [6], [6], []] (fun vs => { tmps := #[.slice ap ds.length cp, .slice aq cuts.length cq, undef, undef, u28 4, .slice al L.length cl, u5 6, u5 7, .pointer (some ⟨g11, 0, none⟩), .int .i64 ((at0 : Nat) : Int), undef, .int .i64 (Lc.getD i 0), .int .i64 ((b : Nat) : Int), vs 9, u28 14, u28 15, u28 16, u28 17, u28 18, u5 19, u5 20, u5 21, u5 22, u5 23, u5 24, u5 25, u5 26, u5 27, u5 28, u5 29, u5 30, u5 31, u5 32, u5 33, u5 34, u5 35, u5 36, u5 37, .agg ([.int .i64 0, .slice none 0 0]).toArray, .slice (some ⟨g17, 0, none⟩) 0 0, .slice aq cuts.length cq, .slice aq cuts.length cq, .int .i64 ((cuts.length : Nat) : Int), .int .i64 ((min cuts.length 20 : Nat) : Int), .slice aq (min cuts.length 20) cq, .slice (some ⟨g20, 0, none⟩) (min cuts.length 20) g20c, .slice al L.length cl, .int .i64 ((L.length : Nat) : Int), .slice (some ⟨g23, 0, none⟩) 1 1, .slice (some ⟨g25, 0, none⟩) (min cuts.length 20 + 1) g25c, .int .i64 ((min cuts.length 20 + 1 : Nat) : Int), .int .i64 ((i : Nat) : Int), .bool true, .pointer (some ⟨g25, i, none⟩), .int .i64 (Lc.getD i 0), .int .i64 (Lc.getD i 0), .int .i64 ((at0 : Nat) : Int), .int .i64 (max (Lc.getD i 0) ((at0 : Nat) : Int)), .slice al L.length cl, .int .i64 ((L.length : Nat) : Int), .int .i64 ((b : Nat) : Int), vs 6, vs 0, vs 1, vs 2, vs 3, vs 4, vs 5, vs 7, vs 8, u28 70, u28 71, u28 72, u28 73, u28 74, u28 75, u28 76, u28 77, u28 78, u28 79, u28 80, u28 81, u28 82, u28 83, u28 84, u28 85, u28 86, u28 87, u28 88, u28 89, u28 90, u28 91, u28 92, u28 93, u28 94, u28 95, u28 96, u28 97, u28 98, u28 99, u28 100, u28 101, u28 102, u28 103, u28 104, u28 105, u28 106, u28 107, u28 108, u28 109, u28 110, u28 111, u28 112, u28 113, u28 114, u28 115, undef, undef, undef, undef, undef, undef, undef, undef], defers := [] }) (by kernel_rfl) (by kernel_rfl) (by kernel_rfl) (by kernel_rfl) (.cons keep_val (.cons keep_val (.cons keep_val (.cons keep_val (.cons keep_val (.cons keep_new (.cons (keep_link keep_new) (.cons (keep_link keep_new) (.cons keep_val (.cons keep_box AllKeep.nil)))))))))) (.free free_val (.free free_val (.free free_val (.free free_val (.free free_val (.free free_new (.link free_new (by decide) (.link free_new (by decide) (.free free_val (.free free_box AllLoc.nil)))))))))) (.cons own_new (.cons own_box AllOwn.nil)) (by kernel_rfl) ?_ ?_
        · skip
          simp only [List.take]
          refine RulesL.cons (fun vs => { tmps := #[.slice ap ds.length cp, .slice aq cuts.length cq, undef, undef, u28 4, .slice al L.length cl, u5 6, u5 7, .pointer (some ⟨g11, 0, none⟩), .int .i64 ((at0 : Nat) : Int), undef, .int .i64 (Lc.getD i 0), .int .i64 ((b : Nat) : Int), u28 13, u28 14, u28 15, u28 16, u28 17, u28 18, u5 19, u5 20, u5 21, u5 22, u5 23, u5 24, u5 25, u5 26, u5 27, u5 28, u5 29, u5 30, u5 31, u5 32, u5 33, u5 34, u5 35, u5 36, u5 37, .agg ([.int .i64 0, .slice none 0 0]).toArray, .slice (some ⟨g17, 0, none⟩) 0 0, .slice aq cuts.length cq, .slice aq cuts.length cq, .int .i64 ((cuts.length : Nat) : Int), .int .i64 ((min cuts.length 20 : Nat) : Int), .slice aq (min cuts.length 20) cq, .slice (some ⟨g20, 0, none⟩) (min cuts.length 20) g20c, .slice al L.length cl, .int .i64 ((L.length : Nat) : Int), .slice (some ⟨g23, 0, none⟩) 1 1, .slice (some ⟨g25, 0, none⟩) (min cuts.length 20 + 1) g25c, .int .i64 ((min cuts.length 20 + 1 : Nat) : Int), .int .i64 ((i : Nat) : Int), .bool true, .pointer (some ⟨g25, i, none⟩), .int .i64 (Lc.getD i 0), .int .i64 (Lc.getD i 0), .int .i64 ((at0 : Nat) : Int), .int .i64 (max (Lc.getD i 0) ((at0 : Nat) : Int)), .slice al L.length cl, .int .i64 ((L.length : Nat) : Int), .int .i64 ((b : Nat) : Int), u28 61, u28 62, u28 63, u28 64, u28 65, u28 66, u28 67, u28 68, u28 69, u28 70, u28 71, u28 72, u28 73, u28 74, u28 75, u28 76, u28 77, u28 78, u28 79, u28 80, u28 81, u28 82, u28 83, u28 84, u28 85, u28 86, u28 87, u28 88, u28 89, u28 90, u28 91, u28 92, u28 93, u28 94, u28 95, u28 96, u28 97, u28 98, u28 99, u28 100, u28 101, u28 102, u28 103, u28 104, u28 105, u28 106, u28 107, u28 108, u28 109, u28 110, u28 111, u28 112, u28 113, u28 114, u28 115, undef, undef, undef, undef, undef, undef, undef, undef], defers := [] }) (by kernel_rfl) ?_ ?_
          · skip
            intro vs gs W147 SW147 D K9 hK9
            replace M := M.sees SW147
            dsimp only at hK9
            dsimp only
            refine wpL_chunk 1 (by rfl) (fun Lk hLk => ?_)
            simp only [List.take, List.drop]
            refine wpV_load (cs := [.int .i64 ((at0 : Nat) : Int), .slice ar ((partsL (L.take at0)).length) cr]) (by rfl) rfl rfl (M.r 1 0 rfl rfl) (M.lt 1 rfl) Tryd.underlying66 rfl info66 ?_
            simp only [putT, List.set]
            refine wpV_nil (hLk _ (fun w148 Sw148 => ?_))
            clear hLk Lk
            simp only [List.take, List.drop]
            replace M := M.sees Sw148
            refine wpL_nil (then_normal ?_)
            have h8 := hK9 (.agg ([.int .i64 ((at0 : Nat) : Int), .slice ar ((partsL (L.take at0)).length) cr]).toArray)
            have h9 := h8 0 _ Sw148 rfl (fun h => absurd h (by decide))
            simp only [putT, List.set] at h9
            exact h9
          refine RulesL.cons (fun vs => { tmps := #[.slice ap ds.length cp, .slice aq cuts.length cq, undef, undef, u28 4, .slice al L.length cl, u5 6, u5 7, .pointer (some ⟨g11, 0, none⟩), .int .i64 ((at0 : Nat) : Int), undef, .int .i64 (Lc.getD i 0), .int .i64 ((b : Nat) : Int), u28 13, u28 14, u28 15, u28 16, u28 17, u28 18, u5 19, u5 20, u5 21, u5 22, u5 23, u5 24, u5 25, u5 26, u5 27, u5 28, u5 29, u5 30, u5 31, u5 32, u5 33, u5 34, u5 35, u5 36, u5 37, .agg ([.int .i64 0, .slice none 0 0]).toArray, .slice (some ⟨g17, 0, none⟩) 0 0, .slice aq cuts.length cq, .slice aq cuts.length cq, .int .i64 ((cuts.length : Nat) : Int), .int .i64 ((min cuts.length 20 : Nat) : Int), .slice aq (min cuts.length 20) cq, .slice (some ⟨g20, 0, none⟩) (min cuts.length 20) g20c, .slice al L.length cl, .int .i64 ((L.length : Nat) : Int), .slice (some ⟨g23, 0, none⟩) 1 1, .slice (some ⟨g25, 0, none⟩) (min cuts.length 20 + 1) g25c, .int .i64 ((min cuts.length 20 + 1 : Nat) : Int), .int .i64 ((i : Nat) : Int), .bool true, .pointer (some ⟨g25, i, none⟩), .int .i64 (Lc.getD i 0), .int .i64 (Lc.getD i 0), .int .i64 ((at0 : Nat) : Int), .int .i64 (max (Lc.getD i 0) ((at0 : Nat) : Int)), .slice al L.length cl, .int .i64 ((L.length : Nat) : Int), .int .i64 ((b : Nat) : Int), u28 61, u28 62, u28 63, u28 64, u28 65, u28 66, u28 67, u28 68, u28 69, u28 70, u28 71, u28 72, u28 73, u28 74, u28 75, u28 76, u28 77, u28 78, u28 79, u28 80, u28 81, u28 82, u28 83, u28 84, u28 85, u28 86, u28 87, u28 88, u28 89, u28 90, u28 91, u28 92, u28 93, u28 94, u28 95, u28 96, u28 97, u28 98, u28 99, u28 100, u28 101, u28 102, u28 103, u28 104, u28 105, u28 106, u28 107, u28 108, u28 109, u28 110, u28 111, u28 112, u28 113, u28 114, u28 115, undef, undef, undef, undef, undef, undef, undef, undef], defers := [] }) (by kernel_rfl) ?_ ?_
          · skip
            intro vs gs W149 SW149 D K9 hK9
            replace M := M.sees SW149
            dsimp only at hK9
            dsimp only
            refine wpL_move (v := .slice al L.length cl) (by rfl) (by rfl) (by rfl) ?_
            simp only [putT, List.set]
            refine wpL_nil (then_normal ?_)
            have h8 := hK9 (.slice al L.length cl)
            have h9 := h8 0 _ (sees_refl _) rfl (fun h => absurd h (by decide))
            simp only [putT, List.set] at h9
            exact h9
          refine RulesL.cons (fun vs => { tmps := #[.slice ap ds.length cp, .slice aq cuts.length cq, undef, undef, u28 4, .slice al L.length cl, u5 6, u5 7, .pointer (some ⟨g11, 0, none⟩), .int .i64 ((at0 : Nat) : Int), undef, .int .i64 (Lc.getD i 0), .int .i64 ((b : Nat) : Int), u28 13, u28 14, u28 15, u28 16, u28 17, u28 18, u5 19, u5 20, u5 21, u5 22, u5 23, u5 24, u5 25, u5 26, u5 27, u5 28, u5 29, u5 30, u5 31, u5 32, u5 33, u5 34, u5 35, u5 36, u5 37, .agg ([.int .i64 0, .slice none 0 0]).toArray, .slice (some ⟨g17, 0, none⟩) 0 0, .slice aq cuts.length cq, .slice aq cuts.length cq, .int .i64 ((cuts.length : Nat) : Int), .int .i64 ((min cuts.length 20 : Nat) : Int), .slice aq (min cuts.length 20) cq, .slice (some ⟨g20, 0, none⟩) (min cuts.length 20) g20c, .slice al L.length cl, .int .i64 ((L.length : Nat) : Int), .slice (some ⟨g23, 0, none⟩) 1 1, .slice (some ⟨g25, 0, none⟩) (min cuts.length 20 + 1) g25c, .int .i64 ((min cuts.length 20 + 1 : Nat) : Int), .int .i64 ((i : Nat) : Int), .bool true, .pointer (some ⟨g25, i, none⟩), .int .i64 (Lc.getD i 0), .int .i64 (Lc.getD i 0), .int .i64 ((at0 : Nat) : Int), .int .i64 (max (Lc.getD i 0) ((at0 : Nat) : Int)), .slice al L.length cl, .int .i64 ((L.length : Nat) : Int), .int .i64 ((b : Nat) : Int), u28 61, u28 62, u28 63, u28 64, u28 65, u28 66, u28 67, u28 68, u28 69, u28 70, u28 71, u28 72, u28 73, u28 74, u28 75, u28 76, u28 77, u28 78, u28 79, u28 80, u28 81, u28 82, u28 83, u28 84, u28 85, u28 86, u28 87, u28 88, u28 89, u28 90, u28 91, u28 92, u28 93, u28 94, u28 95, u28 96, u28 97, u28 98, u28 99, u28 100, u28 101, u28 102, u28 103, u28 104, u28 105, u28 106, u28 107, u28 108, u28 109, u28 110, u28 111, u28 112, u28 113, u28 114, u28 115, undef, undef, undef, undef, undef, undef, undef, undef], defers := [] }) (by kernel_rfl) ?_ ?_
          · skip
            intro vs gs W150 SW150 D K9 hK9
            replace M := M.sees SW150
            dsimp only at hK9
            dsimp only
            refine wpL_move (v := .int .i64 ((at0 : Nat) : Int)) (by rfl) (by rfl) (by rfl) ?_
            simp only [putT, List.set]
            refine wpL_nil (then_normal ?_)
            have h8 := hK9 (.int .i64 ((at0 : Nat) : Int))
            have h9 := h8 0 _ (sees_refl _) rfl (fun h => absurd h (by decide))
            simp only [putT, List.set] at h9
            exact h9
          refine RulesL.cons (fun vs => { tmps := #[.slice ap ds.length cp, .slice aq cuts.length cq, undef, undef, u28 4, .slice al L.length cl, u5 6, u5 7, .pointer (some ⟨g11, 0, none⟩), .int .i64 ((at0 : Nat) : Int), undef, .int .i64 (Lc.getD i 0), .int .i64 ((b : Nat) : Int), u28 13, u28 14, u28 15, u28 16, u28 17, u28 18, u5 19, u5 20, u5 21, u5 22, u5 23, u5 24, u5 25, u5 26, u5 27, u5 28, u5 29, u5 30, u5 31, u5 32, u5 33, u5 34, u5 35, u5 36, u5 37, .agg ([.int .i64 0, .slice none 0 0]).toArray, .slice (some ⟨g17, 0, none⟩) 0 0, .slice aq cuts.length cq, .slice aq cuts.length cq, .int .i64 ((cuts.length : Nat) : Int), .int .i64 ((min cuts.length 20 : Nat) : Int), .slice aq (min cuts.length 20) cq, .slice (some ⟨g20, 0, none⟩) (min cuts.length 20) g20c, .slice al L.length cl, .int .i64 ((L.length : Nat) : Int), .slice (some ⟨g23, 0, none⟩) 1 1, .slice (some ⟨g25, 0, none⟩) (min cuts.length 20 + 1) g25c, .int .i64 ((min cuts.length 20 + 1 : Nat) : Int), .int .i64 ((i : Nat) : Int), .bool true, .pointer (some ⟨g25, i, none⟩), .int .i64 (Lc.getD i 0), .int .i64 (Lc.getD i 0), .int .i64 ((at0 : Nat) : Int), .int .i64 (max (Lc.getD i 0) ((at0 : Nat) : Int)), .slice al L.length cl, .int .i64 ((L.length : Nat) : Int), .int .i64 ((b : Nat) : Int), u28 61, u28 62, u28 63, u28 64, u28 65, u28 66, u28 67, u28 68, u28 69, u28 70, u28 71, u28 72, u28 73, u28 74, u28 75, u28 76, u28 77, u28 78, u28 79, u28 80, u28 81, u28 82, u28 83, u28 84, u28 85, u28 86, u28 87, u28 88, u28 89, u28 90, u28 91, u28 92, u28 93, u28 94, u28 95, u28 96, u28 97, u28 98, u28 99, u28 100, u28 101, u28 102, u28 103, u28 104, u28 105, u28 106, u28 107, u28 108, u28 109, u28 110, u28 111, u28 112, u28 113, u28 114, u28 115, undef, undef, undef, undef, undef, undef, undef, undef], defers := [] }) (by kernel_rfl) ?_ ?_
          · skip
            intro vs gs W151 SW151 D K9 hK9
            replace M := M.sees SW151
            dsimp only at hK9
            dsimp only
            refine wpL_move (v := .int .i64 ((b : Nat) : Int)) (by rfl) (by rfl) (by rfl) ?_
            simp only [putT, List.set]
            refine wpL_nil (then_normal ?_)
            have h8 := hK9 (.int .i64 ((b : Nat) : Int))
            have h9 := h8 0 _ (sees_refl _) rfl (fun h => absurd h (by decide))
            simp only [putT, List.set] at h9
            exact h9
          refine RulesL.cons (fun vs => { tmps := #[.slice ap ds.length cp, .slice aq cuts.length cq, undef, undef, u28 4, .slice al L.length cl, u5 6, u5 7, .pointer (some ⟨g11, 0, none⟩), .int .i64 ((at0 : Nat) : Int), undef, .int .i64 (Lc.getD i 0), .int .i64 ((b : Nat) : Int), u28 13, u28 14, u28 15, u28 16, u28 17, u28 18, u5 19, u5 20, u5 21, u5 22, u5 23, u5 24, u5 25, u5 26, u5 27, u5 28, u5 29, u5 30, u5 31, u5 32, u5 33, u5 34, u5 35, u5 36, u5 37, .agg ([.int .i64 0, .slice none 0 0]).toArray, .slice (some ⟨g17, 0, none⟩) 0 0, .slice aq cuts.length cq, .slice aq cuts.length cq, .int .i64 ((cuts.length : Nat) : Int), .int .i64 ((min cuts.length 20 : Nat) : Int), .slice aq (min cuts.length 20) cq, .slice (some ⟨g20, 0, none⟩) (min cuts.length 20) g20c, .slice al L.length cl, .int .i64 ((L.length : Nat) : Int), .slice (some ⟨g23, 0, none⟩) 1 1, .slice (some ⟨g25, 0, none⟩) (min cuts.length 20 + 1) g25c, .int .i64 ((min cuts.length 20 + 1 : Nat) : Int), .int .i64 ((i : Nat) : Int), .bool true, .pointer (some ⟨g25, i, none⟩), .int .i64 (Lc.getD i 0), .int .i64 (Lc.getD i 0), .int .i64 ((at0 : Nat) : Int), .int .i64 (max (Lc.getD i 0) ((at0 : Nat) : Int)), .slice al L.length cl, .int .i64 ((L.length : Nat) : Int), .int .i64 ((b : Nat) : Int), u28 61, u28 62, vs 1, vs 2, vs 3, u28 66, u28 67, u28 68, u28 69, u28 70, u28 71, u28 72, u28 73, u28 74, u28 75, u28 76, u28 77, u28 78, u28 79, u28 80, u28 81, u28 82, u28 83, u28 84, u28 85, u28 86, u28 87, u28 88, u28 89, u28 90, u28 91, u28 92, u28 93, u28 94, u28 95, u28 96, u28 97, u28 98, u28 99, u28 100, u28 101, u28 102, u28 103, u28 104, u28 105, u28 106, u28 107, u28 108, u28 109, u28 110, u28 111, u28 112, u28 113, u28 114, u28 115, undef, undef, undef, undef, undef, undef, undef, undef], defers := [] }) (by kernel_rfl) ?_ ?_
          · skip
            intro vs gs W152 SW152 D K9 hK9
            replace M := M.sees SW152
            obtain ⟨D1, D2, D3, _⟩ := D
            have e1 : vs 1 = .slice al L.length cl := D1
            have e2 : vs 2 = .int .i64 ((at0 : Nat) : Int) := D2
            have e3 : vs 3 = .int .i64 ((b : Nat) : Int) := D3
            dsimp only at hK9
            dsimp only
            rw [e1, e2, e3] at hK9 ⊢
            refine wpL_chunk 1 (by rfl) (fun Lk hLk => ?_)
            simp only [List.take, List.drop]
            refine wpV_slcA (lo := at0) (hi := b) (by rfl) rfl rfl rfl rfl Tryd.underlying48 info9 (by omega) (Nat.le_trans (by omega) (M.oldN Hl).cap) ?_
            simp only [putT, List.set]
            refine wpV_nil (hLk _ (fun w153 Sw153 => ?_))
            clear hLk Lk
            simp only [List.take, List.drop]
            replace M := M.sees Sw153
            refine wpL_nil (then_normal ?_)
            have h8 := hK9 (.slice (slA al at0 cl) (b - at0) (cl - at0))
            have h9 := h8 0 _ Sw153 rfl (fun h => absurd h (by decide))
            simp only [putT, List.set] at h9
            exact h9
          refine RulesL.cons (fun vs => { tmps := #[.slice ap ds.length cp, .slice aq cuts.length cq, undef, undef, u28 4, .slice al L.length cl, u5 6, u5 7, .pointer (some ⟨g11, 0, none⟩), .int .i64 ((at0 : Nat) : Int), undef, .int .i64 (Lc.getD i 0), .int .i64 ((b : Nat) : Int), u28 13, u28 14, u28 15, u28 16, u28 17, u28 18, u5 19, u5 20, u5 21, u5 22, u5 23, u5 24, u5 25, u5 26, u5 27, u5 28, u5 29, u5 30, u5 31, u5 32, u5 33, u5 34, u5 35, u5 36, u5 37, .agg ([.int .i64 0, .slice none 0 0]).toArray, .slice (some ⟨g17, 0, none⟩) 0 0, .slice aq cuts.length cq, .slice aq cuts.length cq, .int .i64 ((cuts.length : Nat) : Int), .int .i64 ((min cuts.length 20 : Nat) : Int), .slice aq (min cuts.length 20) cq, .slice (some ⟨g20, 0, none⟩) (min cuts.length 20) g20c, .slice al L.length cl, .int .i64 ((L.length : Nat) : Int), .slice (some ⟨g23, 0, none⟩) 1 1, .slice (some ⟨g25, 0, none⟩) (min cuts.length 20 + 1) g25c, .int .i64 ((min cuts.length 20 + 1 : Nat) : Int), .int .i64 ((i : Nat) : Int), .bool true, .pointer (some ⟨g25, i, none⟩), .int .i64 (Lc.getD i 0), .int .i64 (Lc.getD i 0), .int .i64 ((at0 : Nat) : Int), .int .i64 (max (Lc.getD i 0) ((at0 : Nat) : Int)), .slice al L.length cl, .int .i64 ((L.length : Nat) : Int), .int .i64 ((b : Nat) : Int), u28 61, vs 0, u28 63, u28 64, u28 65, vs 4, u28 67, u28 68, u28 69, u28 70, u28 71, u28 72, u28 73, u28 74, u28 75, u28 76, u28 77, u28 78, u28 79, u28 80, u28 81, u28 82, u28 83, u28 84, u28 85, u28 86, u28 87, u28 88, u28 89, u28 90, u28 91, u28 92, u28 93, u28 94, u28 95, u28 96, u28 97, u28 98, u28 99, u28 100, u28 101, u28 102, u28 103, u28 104, u28 105, u28 106, u28 107, u28 108, u28 109, u28 110, u28 111, u28 112, u28 113, u28 114, u28 115, undef, undef, undef, undef, undef, undef, undef, undef], defers := [] }) (by kernel_rfl) ?_ ?_
          · skip
            intro vs gs W154 SW154 D K9 hK9
            replace M := M.sees SW154
            replace R0_0 := (M.oldG R0_0 L0 NI0)
            replace L0 := M.oldL L0
            have Rg25_0 := M.r 0 0 rfl rfl
            have Lg25 := M.lt 0 rfl
            have Rg11_0 := M.r 1 0 rfl rfl
            have Lg11 := M.lt 1 rfl
            replace Hp := M.oldN Hp
            replace Hq := M.oldN Hq
            replace Hl := M.oldN Hl
            replace Hr := M.oldN Hr
            replace M := Mem.start W154
            obtain ⟨D0, D4, _⟩ := D
            have e0 : vs 0 = .agg ([.int .i64 ((at0 : Nat) : Int), .slice ar ((partsL (L.take at0)).length) cr]).toArray := D0
            have e4 : vs 4 = .slice (slA al at0 cl) (b - at0) (cl - at0) := D4
            dsimp only at hK9
            dsimp only
            rw [e0, e4] at hK9 ⊢
            refine wpL_callE (f := 55) (args := #[.agg ([.int .i64 ((at0 : Nat) : Int), .slice ar ((partsL (L.take at0)).length) cr]).toArray, .slice (slA al at0 cl) (b - at0) (cl - at0)]) (R := fun v9 W9 => ∃ g156 g156c, v9 = .tuple #[.agg ([.int .i64 ((b : Nat) : Int), .slice (some ⟨g156, 0, none⟩) ((partsL (L.take b)).length) g156c]).toArray, .int .i64 0] ∧ (partsL (L.take b)).length ≤ g156c ∧ Mem [] W154 W9 [⟨g156, g156c, [(0, scells (partsL (L.take b)))]⟩]) (by rfl) (by rfl) rfl Tryd.func55 (by kernel_rfl) (by kernel_rfl) (by have h9 := Add_parts (L := L.take at0) (ls := (L.take b).drop at0) (m := at0) (w := W154) (by rw [List.length_take]; omega) (by rw [List.length_drop, List.length_take]; omega) (fun s9 h9 => hL32 s9 (List.mem_of_mem_take h9)) (fun s9 h9 => hL32 s9 (List.mem_of_mem_take (List.mem_of_mem_drop h9))) (by rw [List.length_drop, List.length_take]; omega) (M.oldL L0) (M.oldR R0_0 L0) (M.oldA Hr) (((M.oldA Hl).part (by omega) (by omega) (Nat.le_trans (by omega) (M.oldA Hl).cap) (Nat.le_refl _)).eq (scells_part _ _ _)); rw [take_part hb1] at h9; rw [show at0 + ((L.take b).drop at0).length = b by rw [List.length_drop, List.length_take]; omega] at h9; exact h9) (fun v9 w155 hv9 Sw155 => ?_)
            obtain ⟨g156, g156c, rfl, Cg156, M9⟩ := hv9
            replace M := M.call1 M9
            clear Sw155
            simp only [putT, List.set]
            refine wpL_nil (then_normal ?_)
            have h8 := hK9 (.tuple #[.agg ([.int .i64 ((b : Nat) : Int), .slice (some ⟨g156, 0, none⟩) ((partsL (L.take b)).length) g156c]).toArray, .int .i64 0])
            have h9 := h8 g156 _ M.seesAll ⟨g156c, rfl, Cg156, (M.ok _ (.head _)).up SW154⟩ (fun _ => (M.ok _ (.head _)).ge)
            simp only [putT, List.set] at h9
            exact h9
          refine RulesL.cons (fun vs => { tmps := #[.slice ap ds.length cp, .slice aq cuts.length cq, undef, undef, u28 4, .slice al L.length cl, u5 6, u5 7, .pointer (some ⟨g11, 0, none⟩), .int .i64 ((at0 : Nat) : Int), undef, .int .i64 (Lc.getD i 0), .int .i64 ((b : Nat) : Int), u28 13, u28 14, u28 15, u28 16, u28 17, u28 18, u5 19, u5 20, u5 21, u5 22, u5 23, u5 24, u5 25, u5 26, u5 27, u5 28, u5 29, u5 30, u5 31, u5 32, u5 33, u5 34, u5 35, u5 36, u5 37, .agg ([.int .i64 0, .slice none 0 0]).toArray, .slice (some ⟨g17, 0, none⟩) 0 0, .slice aq cuts.length cq, .slice aq cuts.length cq, .int .i64 ((cuts.length : Nat) : Int), .int .i64 ((min cuts.length 20 : Nat) : Int), .slice aq (min cuts.length 20) cq, .slice (some ⟨g20, 0, none⟩) (min cuts.length 20) g20c, .slice al L.length cl, .int .i64 ((L.length : Nat) : Int), .slice (some ⟨g23, 0, none⟩) 1 1, .slice (some ⟨g25, 0, none⟩) (min cuts.length 20 + 1) g25c, .int .i64 ((min cuts.length 20 + 1 : Nat) : Int), .int .i64 ((i : Nat) : Int), .bool true, .pointer (some ⟨g25, i, none⟩), .int .i64 (Lc.getD i 0), .int .i64 (Lc.getD i 0), .int .i64 ((at0 : Nat) : Int), .int .i64 (max (Lc.getD i 0) ((at0 : Nat) : Int)), .slice al L.length cl, .int .i64 ((L.length : Nat) : Int), .int .i64 ((b : Nat) : Int), u28 61, u28 62, u28 63, u28 64, u28 65, u28 66, vs 5, u28 68, u28 69, u28 70, u28 71, u28 72, u28 73, u28 74, u28 75, u28 76, u28 77, u28 78, u28 79, u28 80, u28 81, u28 82, u28 83, u28 84, u28 85, u28 86, u28 87, u28 88, u28 89, u28 90, u28 91, u28 92, u28 93, u28 94, u28 95, u28 96, u28 97, u28 98, u28 99, u28 100, u28 101, u28 102, u28 103, u28 104, u28 105, u28 106, u28 107, u28 108, u28 109, u28 110, u28 111, u28 112, u28 113, u28 114, u28 115, undef, undef, undef, undef, undef, undef, undef, undef], defers := [] }) (by kernel_rfl) ?_ ?_
          · skip
            intro vs gs W157 SW157 D K9 hK9
            replace M := M.sees SW157
            replace R0_0 := (M.oldG R0_0 L0 NI0)
            replace L0 := M.oldL L0
            have Rg25_0 := M.r 0 0 rfl rfl
            have Lg25 := M.lt 0 rfl
            have Rg11_0 := M.r 1 0 rfl rfl
            have Lg11 := M.lt 1 rfl
            replace Hp := M.oldN Hp
            replace Hq := M.oldN Hq
            replace Hl := M.oldN Hl
            replace Hr := M.oldN Hr
            replace M := Mem.start W157
            obtain ⟨D5, _⟩ := D
            obtain ⟨g158c, e5, Cg158, Og158⟩ := D5
            generalize gs 5 = g158 at *
            replace e5 : vs 5 = .tuple #[.agg ([.int .i64 ((b : Nat) : Int), .slice (some ⟨g158, 0, none⟩) ((partsL (L.take b)).length) g158c]).toArray, .int .i64 0] := e5
            have Rg158_0 := Og158.range (0, scells (partsL (L.take b))) (by simp only [List.mem_cons, true_or, or_true])
            have Lg158 := Og158.lt
            dsimp only at hK9
            dsimp only
            rw [e5] at hK9 ⊢
            refine wpL_move (v := .tuple #[.agg ([.int .i64 ((b : Nat) : Int), .slice (some ⟨g158, 0, none⟩) ((partsL (L.take b)).length) g158c]).toArray, .int .i64 0]) (by rfl) (by rfl) (by rfl) ?_
            simp only [putT, List.set]
            refine wpL_nil (then_normal ?_)
            have h8 := hK9 (.tuple #[.agg ([.int .i64 ((b : Nat) : Int), .slice (some ⟨g158, 0, none⟩) ((partsL (L.take b)).length) g158c]).toArray, .int .i64 0])
            have h9 := h8 g158 _ (sees_refl _) ⟨(congrArg (fun x => x) e5).symm, g158c, rfl, Cg158, Og158⟩ (fun h => absurd h (by decide))
            simp only [putT, List.set] at h9
            exact h9
          refine RulesL.cons (fun vs => { tmps := #[.slice ap ds.length cp, .slice aq cuts.length cq, undef, undef, u28 4, .slice al L.length cl, u5 6, u5 7, .pointer (some ⟨g11, 0, none⟩), .int .i64 ((at0 : Nat) : Int), undef, .int .i64 (Lc.getD i 0), .int .i64 ((b : Nat) : Int), u28 13, u28 14, u28 15, u28 16, u28 17, u28 18, u5 19, u5 20, u5 21, u5 22, u5 23, u5 24, u5 25, u5 26, u5 27, u5 28, u5 29, u5 30, u5 31, u5 32, u5 33, u5 34, u5 35, u5 36, u5 37, .agg ([.int .i64 0, .slice none 0 0]).toArray, .slice (some ⟨g17, 0, none⟩) 0 0, .slice aq cuts.length cq, .slice aq cuts.length cq, .int .i64 ((cuts.length : Nat) : Int), .int .i64 ((min cuts.length 20 : Nat) : Int), .slice aq (min cuts.length 20) cq, .slice (some ⟨g20, 0, none⟩) (min cuts.length 20) g20c, .slice al L.length cl, .int .i64 ((L.length : Nat) : Int), .slice (some ⟨g23, 0, none⟩) 1 1, .slice (some ⟨g25, 0, none⟩) (min cuts.length 20 + 1) g25c, .int .i64 ((min cuts.length 20 + 1 : Nat) : Int), .int .i64 ((i : Nat) : Int), .bool true, .pointer (some ⟨g25, i, none⟩), .int .i64 (Lc.getD i 0), .int .i64 (Lc.getD i 0), .int .i64 ((at0 : Nat) : Int), .int .i64 (max (Lc.getD i 0) ((at0 : Nat) : Int)), .slice al L.length cl, .int .i64 ((L.length : Nat) : Int), .int .i64 ((b : Nat) : Int), vs 6, u28 62, u28 63, u28 64, u28 65, u28 66, u28 67, u28 68, u28 69, u28 70, u28 71, u28 72, u28 73, u28 74, u28 75, u28 76, u28 77, u28 78, u28 79, u28 80, u28 81, u28 82, u28 83, u28 84, u28 85, u28 86, u28 87, u28 88, u28 89, u28 90, u28 91, u28 92, u28 93, u28 94, u28 95, u28 96, u28 97, u28 98, u28 99, u28 100, u28 101, u28 102, u28 103, u28 104, u28 105, u28 106, u28 107, u28 108, u28 109, u28 110, u28 111, u28 112, u28 113, u28 114, u28 115, undef, undef, undef, undef, undef, undef, undef, undef], defers := [] }) (by kernel_rfl) ?_ ?_
          · skip
            intro vs gs W159 SW159 D K9 hK9
            replace M := M.sees SW159
            replace R0_0 := (M.oldG R0_0 L0 NI0)
            replace L0 := M.oldL L0
            have Rg25_0 := M.r 0 0 rfl rfl
            have Lg25 := M.lt 0 rfl
            have Rg11_0 := M.r 1 0 rfl rfl
            have Lg11 := M.lt 1 rfl
            replace Hp := M.oldN Hp
            replace Hq := M.oldN Hq
            replace Hl := M.oldN Hl
            replace Hr := M.oldN Hr
            replace M := Mem.start W159
            obtain ⟨D6, _⟩ := D
            obtain ⟨_, g160c, e6, Cg160, Og160⟩ := D6
            generalize gs 6 = g160 at *
            replace e6 : vs 6 = .tuple #[.agg ([.int .i64 ((b : Nat) : Int), .slice (some ⟨g160, 0, none⟩) ((partsL (L.take b)).length) g160c]).toArray, .int .i64 0] := e6
            have Rg160_0 := Og160.range (0, scells (partsL (L.take b))) (by simp only [List.mem_cons, true_or, or_true])
            have Lg160 := Og160.lt
            dsimp only at hK9
            dsimp only
            rw [e6] at hK9 ⊢
            refine wpL_chunk 1 (by rfl) (fun Lk hLk => ?_)
            simp only [List.take, List.drop]
            refine wpV_extract (v := .agg ([.int .i64 ((b : Nat) : Int), .slice (some ⟨g160, 0, none⟩) ((partsL (L.take b)).length) g160c]).toArray) (by rfl) rfl rfl rfl ?_
            simp only [putT, List.set]
            refine wpV_nil (hLk _ (fun w161 Sw161 => ?_))
            clear hLk Lk
            simp only [List.take, List.drop]
            replace M := M.sees Sw161
            refine wpL_nil (then_normal ?_)
            have h8 := hK9 (.agg ([.int .i64 ((b : Nat) : Int), .slice (some ⟨g160, 0, none⟩) ((partsL (L.take b)).length) g160c]).toArray)
            have h9 := h8 g160 _ M.seesAll ⟨(congrArg (partF 0) e6).symm, g160c, rfl, Cg160, (Og160.mono M.seesAll)⟩ (fun h => absurd h (by decide))
            simp only [putT, List.set] at h9
            exact h9
          refine RulesL.cons (fun vs => { tmps := #[.slice ap ds.length cp, .slice aq cuts.length cq, undef, undef, u28 4, .slice al L.length cl, u5 6, u5 7, .pointer (some ⟨g11, 0, none⟩), .int .i64 ((at0 : Nat) : Int), undef, .int .i64 (Lc.getD i 0), .int .i64 ((b : Nat) : Int), u28 13, u28 14, u28 15, u28 16, u28 17, u28 18, u5 19, u5 20, u5 21, u5 22, u5 23, u5 24, u5 25, u5 26, u5 27, u5 28, u5 29, u5 30, u5 31, u5 32, u5 33, u5 34, u5 35, u5 36, u5 37, .agg ([.int .i64 0, .slice none 0 0]).toArray, .slice (some ⟨g17, 0, none⟩) 0 0, .slice aq cuts.length cq, .slice aq cuts.length cq, .int .i64 ((cuts.length : Nat) : Int), .int .i64 ((min cuts.length 20 : Nat) : Int), .slice aq (min cuts.length 20) cq, .slice (some ⟨g20, 0, none⟩) (min cuts.length 20) g20c, .slice al L.length cl, .int .i64 ((L.length : Nat) : Int), .slice (some ⟨g23, 0, none⟩) 1 1, .slice (some ⟨g25, 0, none⟩) (min cuts.length 20 + 1) g25c, .int .i64 ((min cuts.length 20 + 1 : Nat) : Int), .int .i64 ((i : Nat) : Int), .bool true, .pointer (some ⟨g25, i, none⟩), .int .i64 (Lc.getD i 0), .int .i64 (Lc.getD i 0), .int .i64 ((at0 : Nat) : Int), .int .i64 (max (Lc.getD i 0) ((at0 : Nat) : Int)), .slice al L.length cl, .int .i64 ((L.length : Nat) : Int), .int .i64 ((b : Nat) : Int), vs 6, u28 62, u28 63, u28 64, u28 65, u28 66, u28 67, u28 68, u28 69, u28 70, u28 71, u28 72, u28 73, u28 74, u28 75, u28 76, u28 77, u28 78, u28 79, u28 80, u28 81, u28 82, u28 83, u28 84, u28 85, u28 86, u28 87, u28 88, u28 89, u28 90, u28 91, u28 92, u28 93, u28 94, u28 95, u28 96, u28 97, u28 98, u28 99, u28 100, u28 101, u28 102, u28 103, u28 104, u28 105, u28 106, u28 107, u28 108, u28 109, u28 110, u28 111, u28 112, u28 113, u28 114, u28 115, undef, undef, undef, undef, undef, undef, undef, undef], defers := [] }) (by kernel_rfl) ?_ ?_
          · skip
            intro vs gs W162 SW162 D K9 hK9
            replace M := M.sees SW162
            replace R0_0 := (M.oldG R0_0 L0 NI0)
            replace L0 := M.oldL L0
            have Rg25_0 := M.r 0 0 rfl rfl
            have Lg25 := M.lt 0 rfl
            have Rg11_0 := M.r 1 0 rfl rfl
            have Lg11 := M.lt 1 rfl
            replace Hp := M.oldN Hp
            replace Hq := M.oldN Hq
            replace Hl := M.oldN Hl
            replace Hr := M.oldN Hr
            replace M := Mem.start W162
            obtain ⟨D6, _⟩ := D
            obtain ⟨_, g163c, e6, Cg163, Og163⟩ := D6
            generalize gs 6 = g163 at *
            replace e6 : vs 6 = .tuple #[.agg ([.int .i64 ((b : Nat) : Int), .slice (some ⟨g163, 0, none⟩) ((partsL (L.take b)).length) g163c]).toArray, .int .i64 0] := e6
            have Rg163_0 := Og163.range (0, scells (partsL (L.take b))) (by simp only [List.mem_cons, true_or, or_true])
            have Lg163 := Og163.lt
            dsimp only at hK9
            dsimp only
            rw [e6] at hK9 ⊢
            refine wpL_chunk 1 (by rfl) (fun Lk hLk => ?_)
            simp only [List.take, List.drop]
            refine wpV_extract (v := .int .i64 0) (by rfl) rfl rfl rfl ?_
            simp only [putT, List.set]
            refine wpV_nil (hLk _ (fun w164 Sw164 => ?_))
            clear hLk Lk
            simp only [List.take, List.drop]
            replace M := M.sees Sw164
            refine wpL_nil (then_normal ?_)
            have h8 := hK9 (.int .i64 0)
            have h9 := h8 0 _ M.seesAll rfl (fun h => absurd h (by decide))
            simp only [putT, List.set] at h9
            exact h9
          refine RulesL.cons (fun vs => { tmps := #[.slice ap ds.length cp, .slice aq cuts.length cq, undef, undef, u28 4, .slice al L.length cl, u5 6, u5 7, .pointer (some ⟨g11, 0, none⟩), .int .i64 ((at0 : Nat) : Int), undef, .int .i64 (Lc.getD i 0), .int .i64 ((b : Nat) : Int), u28 13, u28 14, u28 15, u28 16, u28 17, u28 18, u5 19, u5 20, u5 21, u5 22, u5 23, u5 24, u5 25, u5 26, u5 27, u5 28, u5 29, u5 30, u5 31, u5 32, u5 33, u5 34, u5 35, u5 36, u5 37, .agg ([.int .i64 0, .slice none 0 0]).toArray, .slice (some ⟨g17, 0, none⟩) 0 0, .slice aq cuts.length cq, .slice aq cuts.length cq, .int .i64 ((cuts.length : Nat) : Int), .int .i64 ((min cuts.length 20 : Nat) : Int), .slice aq (min cuts.length 20) cq, .slice (some ⟨g20, 0, none⟩) (min cuts.length 20) g20c, .slice al L.length cl, .int .i64 ((L.length : Nat) : Int), .slice (some ⟨g23, 0, none⟩) 1 1, .slice (some ⟨g25, 0, none⟩) (min cuts.length 20 + 1) g25c, .int .i64 ((min cuts.length 20 + 1 : Nat) : Int), .int .i64 ((i : Nat) : Int), .bool true, .pointer (some ⟨g25, i, none⟩), .int .i64 (Lc.getD i 0), .int .i64 (Lc.getD i 0), .int .i64 ((at0 : Nat) : Int), .int .i64 (max (Lc.getD i 0) ((at0 : Nat) : Int)), .slice al L.length cl, .int .i64 ((L.length : Nat) : Int), .int .i64 ((b : Nat) : Int), u28 61, u28 62, u28 63, u28 64, u28 65, u28 66, u28 67, u28 68, u28 69, u28 70, u28 71, u28 72, u28 73, u28 74, u28 75, u28 76, u28 77, u28 78, u28 79, u28 80, u28 81, u28 82, u28 83, u28 84, u28 85, u28 86, u28 87, u28 88, u28 89, u28 90, u28 91, u28 92, u28 93, u28 94, u28 95, u28 96, u28 97, u28 98, u28 99, u28 100, u28 101, u28 102, u28 103, u28 104, u28 105, u28 106, u28 107, u28 108, u28 109, u28 110, u28 111, u28 112, u28 113, u28 114, u28 115, undef, undef, undef, undef, undef, undef, undef, undef], defers := [] }) (by kernel_rfl) ?_ ?_
          · skip
            intro vs gs W165 SW165 D K9 hK9
            replace M := M.sees SW165
            replace R0_0 := (M.oldG R0_0 L0 NI0)
            replace L0 := M.oldL L0
            have Rg25_0 := M.r 0 0 rfl rfl
            have Lg25 := M.lt 0 rfl
            have Rg11_0 := M.r 1 0 rfl rfl
            have Lg11 := M.lt 1 rfl
            replace Hp := M.oldN Hp
            replace Hq := M.oldN Hq
            replace Hl := M.oldN Hl
            replace Hr := M.oldN Hr
            replace M := Mem.start W165
            dsimp only at hK9
            dsimp only
            refine wpL_var (t := 66) (cs := [.int .i64 0, .slice none 0 0]) (by rfl) (fun W => ?_) (fun g166 w167 Sw167 Hg166 Bg166 => ?_)
            · go_simp
            replace M := ((M.sees Sw167).add (N := 2) (cs := [.int .i64 0, .slice none 0 0]) (M.ge Hg166) (M.fresh Hg166) Bg166 rfl)
            clear Bg166
            simp only [putT, List.set]
            refine wpL_nil (then_normal ?_)
            have h8 := hK9 (.pointer (some ⟨g166, 0, none⟩))
            have h9 := h8 g166 _ M.seesAll ⟨rfl, (M.ok _ (.head _)).up SW165⟩ (fun _ => (M.ok _ (.head _)).ge)
            simp only [putT, List.set] at h9
            exact h9
          exact RulesL.nil
        intro vs gs W168 SW168 D A9
        obtain ⟨D0, D1, D2, D3, D4, D5, D6, D7, D8, D9, _⟩ := (show DepRel _ vs gs W168 [0, 1, 2, 3, 4, 5, 6, 7, 8, 9] from D)
        have n5_9 : gs 5 ≠ gs 9 := A9 5 9 (by decide) (by decide) (by decide) (by decide) (by decide)
        clear A9 D
        have e0 : vs 0 = .agg ([.int .i64 ((at0 : Nat) : Int), .slice ar ((partsL (L.take at0)).length) cr]).toArray := D0
        have e1 : vs 1 = .slice al L.length cl := D1
        have e2 : vs 2 = .int .i64 ((at0 : Nat) : Int) := D2
        have e3 : vs 3 = .int .i64 ((b : Nat) : Int) := D3
        have e4 : vs 4 = .slice (slA al at0 cl) (b - at0) (cl - at0) := D4
        obtain ⟨g169c, e5, Cg169, Og169⟩ := D5
        generalize gs 5 = g169 at *
        replace e5 : vs 5 = .tuple #[.agg ([.int .i64 ((b : Nat) : Int), .slice (some ⟨g169, 0, none⟩) ((partsL (L.take b)).length) g169c]).toArray, .int .i64 0] := e5
        have e6 : vs 6 = .tuple #[.agg ([.int .i64 ((b : Nat) : Int), .slice (some ⟨g169, 0, none⟩) ((partsL (L.take b)).length) g169c]).toArray, .int .i64 0] := D6.1.trans (congrArg (fun x => x) e5)
        have e7 : vs 7 = .agg ([.int .i64 ((b : Nat) : Int), .slice (some ⟨g169, 0, none⟩) ((partsL (L.take b)).length) g169c]).toArray := D7.1.trans (congrArg (partF 0) e6)
        have e8 : vs 8 = .int .i64 0 := D8
        obtain ⟨e9, Og170⟩ := D9
        generalize gs 9 = g170 at *
        replace e9 : vs 9 = .pointer (some ⟨g170, 0, none⟩) := e9
        replace M := M.addOks SW168 [⟨g169, g169c, [(0, scells (partsL (L.take b)))]⟩, ⟨g170, 2, [(0, [.int .i64 0, .slice none 0 0])]⟩] (List.forall_mem_cons.2 ⟨Og169, (List.forall_mem_cons.2 ⟨Og170, (fun _ h => nomatch h)⟩)⟩) (.cons (List.forall_mem_cons.2 ⟨n5_9, (fun _ h => nomatch h)⟩) (.cons (fun _ h => nomatch h) .nil))
        simp only [List.cons_append, List.nil_append] at M
        dsimp only
        simp only [e0, e1, e2, e3, e4, e5, e6, e7, e8, e9, List.drop]
        refine wpL_store (g := g170) (off := 0) (n := 2) (cs := [.int .i64 ((b : Nat) : Int), .slice (some ⟨g169, 0, none⟩) ((partsL (L.take b)).length) g169c]) (by rfl) (by rfl) (by rfl) (by rfl) (by rfl) (M.t 1 rfl) (by simp [flen]) info66 (by simp [fone, Value.oneCell']) (fun w171 P R T => ?_)
        replace M := M.putS 1 0 rfl P R T rfl ⟨.inl rfl, trivial⟩
        simp only [List.set] at M
        refine wpL_assign (v := .int .i64 0) (by rfl) (by rfl) (by rfl) ?_
        simp only [putT, List.set]
        refine wpL_nil (no_panic ?_)
        have HX172 := ((M.rowNs 0 0 rfl rfl (scells_len _).symm Cg169).sub (show ∀ x ∈ [g25, g11, g170], x ∈ [g170, g25, g11] from (by intro x hx; simp only [List.mem_cons, List.not_mem_nil, or_false] at hx ⊢; omega)))
        exact HK46 g170 (some ⟨g169, 0, none⟩) ((partsL (L.take b)).length) g169c (fun q9 => (#[undef, undef, undef, undef, undef, undef, undef, undef, undef, undef, undef, undef, undef, .pointer (some ⟨g170, 0, none⟩), undef, undef, undef, undef, undef, undef, undef, undef, undef, undef, undef, undef, undef, undef, undef, undef, undef, undef, undef, undef, undef, undef, undef, undef, undef, undef, undef, undef, undef, undef, undef, undef, undef, undef, undef, undef, undef, undef, undef, undef, undef, undef, undef, undef, undef, undef, undef, .tuple #[.agg ([.int .i64 ((b : Nat) : Int), .slice (some ⟨g169, 0, none⟩) ((partsL (L.take b)).length) g169c]).toArray, .int .i64 0], .agg ([.int .i64 ((at0 : Nat) : Int), .slice ar ((partsL (L.take at0)).length) cr]).toArray, .slice al L.length cl, .int .i64 ((at0 : Nat) : Int), .int .i64 ((b : Nat) : Int), .slice (slA al at0 cl) (b - at0) (cl - at0), .tuple #[.agg ([.int .i64 ((b : Nat) : Int), .slice (some ⟨g169, 0, none⟩) ((partsL (L.take b)).length) g169c]).toArray, .int .i64 0], .agg ([.int .i64 ((b : Nat) : Int), .slice (some ⟨g169, 0, none⟩) ((partsL (L.take b)).length) g169c]).toArray, .int .i64 0] : Array Value).getD q9 undef) _  (M.pick [2, 3, 1] (by decide) rfl) HX172
  refine wp_seq_k (fun K173 hK173 => ?_)
  refine wp_region_seq ?_
  refine wpL_move (v := .slice ap ds.length cp) (by rfl) (by rfl) (by rfl) ?_
  simp only [putT, List.set]
  refine wpL_chunk 1 (by rfl) (fun Lk hLk => ?_)
  simp only [List.take, List.drop]
  refine wpV_lenA (n := ds.length) (by rfl) rfl rfl rfl Tryd.underlying48 ?_
  simp only [putT, List.set]
  refine wpV_nil (hLk _ (fun w175 Sw175 => ?_))
  clear hLk Lk
  simp only [List.take, List.drop]
  replace M := M.sees Sw175
  refine wpL_move (v := .int .i64 0) (by rfl) (by rfl) (by rfl) ?_
  simp only [putT, List.set]
  refine wpL_nil (no_panic ?_)
  refine hK173 _ _ ?_
  refine wp_block ?_
  refine wp_loop_peel (fun n9 a9 W9 => ∃ (k : Nat) (j : Nat) (r : Nat) (rc : Nat) (u176 : Nat → Value), n9 = 2 * (ds.length - k) ∧ a9 = { tmps := #[.slice ap ds.length cp, .slice aq cuts.length cq, undef, undef, .bool false, .slice (some ⟨r, 0, none⟩) j rc, u176 6, u176 7, undef, undef, undef, undef, undef, undef, undef, undef, undef, undef, undef, .slice ap ds.length cp, .int .i64 ((ds.length : Nat) : Int), .int .i64 ((k : Nat) : Int), u176 22, u176 23, u176 24, u176 25, u176 26, u176 27, u176 28, u176 29, u176 30, u176 31, u176 32, u176 33, u176 34, u176 35, u176 36, u176 37, undef, undef, undef, undef, undef, undef, undef, undef, undef, undef, undef, undef, undef, undef, undef, undef, undef, undef, undef, undef, undef, undef, undef, undef, undef, undef, undef, undef, undef, undef, undef, undef, undef, undef, undef, undef, undef, undef, undef, undef, undef, undef, undef, undef, undef, undef, undef, undef, undef, undef, undef, undef, undef, undef, undef, undef, undef, undef, undef, undef, undef, undef, undef, undef, undef, undef, undef, undef, undef, undef, undef, undef, undef, undef, undef, undef, undef, undef, undef, undef, undef, undef, undef, undef, undef, undef], defers := [] } ∧ Mem [] w W9 [⟨r, rc, [(0, scells (lvD 100 ds j))]⟩] ∧ j ≤ rc ∧ (1 ≤ k) ∧ (k ≤ ds.length) ∧ (j = min k 70)) (2 * (ds.length - (1)) + 1) ?_ (fun n9 a9 W9 hI => ?_)
  · skip
    refine wp_seq_k (fun K177 hK177 => ?_)
    refine wp_region_seq ?_
    refine wpL_chunk 1 (by rfl) (fun Lk hLk => ?_)
    simp only [List.take, List.drop]
    refine wpV_bin (v := .bool (decide (0 < ds.length))) (by rfl) rfl rfl rfl (fun W => run_lssN 0 ds.length _ _ W) ?_
    simp only [putT, List.set]
    refine wpV_nil (hLk _ (fun w179 Sw179 => ?_))
    clear hLk Lk
    simp only [List.take, List.drop]
    replace M := M.sees Sw179
    refine wpL_nil (no_panic ?_)
    refine hK177 _ _ ?_
    refine wp_seq_k (fun K180 hK180 => ?_)
    cases hc181 : (decide (0 < ds.length))
    · skip
      refine wp_cond_false rfl ?_
      refine wp_exit ?_
      exact HK5 ([]) none 0 0 (fun q9 => (#[undef, undef, undef, undef, undef, undef, undef, undef, undef, undef, undef, undef, undef, undef, undef, undef, undef, undef, undef, .slice ap ds.length cp, .int .i64 ((ds.length : Nat) : Int), .int .i64 0, .bool false, undef, undef, undef, undef, undef, undef, undef, undef, undef, undef, undef, undef, undef, undef, undef] : Array Value).getD q9 undef) _ (Nat.zero_le _) (fun s9 h9 => absurd h9 List.not_mem_nil) M (RowN.nil.eq rfl)
    · skip
      have h0d : 0 < ds.length := of_decide_eq_true hc181
      refine wp_cond_true rfl ?_
      refine wp_skip ?_
      refine hK180 _ _ ?_
      refine wp_seq_k (fun K182 hK182 => ?_)
      refine wp_block ?_
      refine wp_seq_k (fun K183 hK183 => ?_)
      refine wp_region_seq ?_
      refine wpL_move (v := .int .i64 0) (by rfl) (by rfl) (by rfl) ?_
      simp only [putT, List.set]
      refine wpL_chunk 2 (by rfl) (fun Lk hLk => ?_)
      simp only [List.take, List.drop]
      refine wpV_idxA (i := 0) (by rfl) rfl rfl rfl Tryd.underlying48 info9 (M.oldA Hp) (by omega) ?_
      simp only [putT, List.set]
      refine wpV_loadA (i := 0) (v := .string (bs (ds.getD 0 []))) (by rfl) rfl rfl (M.oldA Hp) (scells_get (ps := ds) (by omega)) Tryd.underlying9 rfl ?_
      simp only [putT, List.set]
      refine wpV_nil (hLk _ (fun w185 Sw185 => ?_))
      clear hLk Lk
      simp only [List.take, List.drop]
      replace M := M.sees Sw185
      refine wpL_assign (v := .int .i64 0) (by rfl) (by rfl) (by rfl) ?_
      simp only [putT, List.set]
      refine wpL_assign (v := .string (bs (ds.getD 0 []))) (by rfl) (by rfl) (by rfl) ?_
      simp only [putT, List.set]
      refine wpL_nil (no_panic ?_)
      refine hK183 _ _ ?_
      refine wp_seq_k (fun K186 hK186 => ?_)
      refine wp_region_seq ?_
      refine wpL_move (v := .int .i64 0) (by rfl) (by rfl) (by rfl) ?_
      simp only [putT, List.set]
      refine wpL_chunk 1 (by rfl) (fun Lk hLk => ?_)
      simp only [List.take, List.drop]
      refine wpV_bin (v := .bool true) (by rfl) rfl rfl rfl (fun W => run_lss _ _ _ _ W) ?_
      simp only [putT, List.set]
      refine wpV_nil (hLk _ (fun w188 Sw188 => ?_))
      clear hLk Lk
      simp only [List.take, List.drop]
      replace M := M.sees Sw188
      refine wpL_nil (no_panic ?_)
      refine hK186 _ _ ?_
      refine wp_cond_true rfl ?_
      refine wp_region_seq ?_
      refine wpL_move (v := (.slice none 0 0)) (by rfl) (by rfl) (by rfl) ?_
      simp only [putT, List.set]
      refine wpL_move (v := .string (bs (ds.getD 0 []))) (by rfl) (by rfl) (by rfl) ?_
      simp only [putT, List.set]
      refine wpL_move (v := .string (bs (ds.getD 0 []))) (by rfl) (by rfl) (by rfl) ?_
      simp only [putT, List.set]
      refine wpL_chunk 4 (by rfl) (fun Lk hLk => ?_)
      simp only [List.take, List.drop]
      refine wpV_lenS (by rfl) rfl rfl rfl Tryd.underlying9 ?_
      simp only [putT, List.set]
      refine wpV_min (n := (ds.getD 0 []).length) (m := 100) (by rfl) rfl rfl rfl ?_
      simp only [putT, List.set]
      refine wpV_cut (l := ds.getD 0 []) (m := 100) (by rfl) rfl rfl rfl Tryd.underlying9 ?_
      simp only [putT, List.set]
      refine wpV_callf (v := .string (bs (leafS (cut (ds.getD 0 []) 100)))) (args := #[.string (bs (cut (ds.getD 0 []) 100))]) (by rfl) rfl Tryd.func38 (by kernel_rfl) (by kernel_rfl) rfl (fun W hW => leaf_c (d := cut (ds.getD 0 []) 100) (by have := cut_len (ds.getD 0 []) 100; omega) ((M.sees hW).oldL L0) ((M.sees hW).oldR R0_0 L0)) ?_
      simp only [putT, List.set]
      refine wpV_nil (hLk _ (fun w190 Sw190 => ?_))
      clear hLk Lk
      simp only [List.take, List.drop]
      replace M := M.sees Sw190
      refine wpL_rowN (vs := [.string (bs (leafS (cut (ds.getD 0 []) 100)))]) (z := .string { data := #[] }) (bytes := 16) (by rfl) (by rfl) Tryd.underlying48 (by kernel_rfl) (by decide) (by kernel_rfl) (fun g191 w192 Sw192 Hg191 Bg191 => ?_)
      replace M := ((M.sees Sw192).add (N := 1) (cs := [.string (bs (leafS (cut (ds.getD 0 []) 100)))]) (M.ge Hg191) (M.fresh Hg191) Bg191 rfl)
      clear Bg191
      simp only [putT, List.set]
      refine wpL_append0 (m := 1) (news := [.string (bs (leafS (cut (ds.getD 0 []) 100)))]) (z := .string { data := #[] }) (bytes := 16) (by rfl) (by rfl) (by rfl) (by rfl) Tryd.underlying48 (by kernel_rfl) rfl rfl (by decide) (M.r 0 0 rfl rfl) (by decide) (by decide) (fun g193 g193c w194 Sw194 Hg193 Cg193 R T L => ?_)
      replace M := (M.sees Sw194).addR (M.ge Hg193) (M.fresh Hg193) T R L
      clear T R L
      rw [show [.string (bs (leafS (cut (ds.getD 0 []) 100)))] = scells (lvD 100 ds 1) from grow_step0 h0d] at M
      simp only [putT, List.set]
      refine wpL_assign (v := .slice (some ⟨g193, 0, none⟩) 1 g193c) (by rfl) (by rfl) (by rfl) ?_
      simp only [putT, List.set]
      refine wpL_nil (no_panic ?_)
      refine hK182 _ _ ?_
      refine wp_region_seq ?_
      refine wpL_chunk 1 (by rfl) (fun Lk hLk => ?_)
      simp only [List.take, List.drop]
      refine wpV_bin (v := .int .i64 1) (by rfl) rfl rfl rfl (fun W => run_add (by decide) W) ?_
      simp only [putT, List.set]
      refine wpV_nil (hLk _ (fun w196 Sw196 => ?_))
      clear hLk Lk
      simp only [List.take, List.drop]
      replace M := M.sees Sw196
      refine wpL_move (v := .int .i64 1) (by rfl) (by rfl) (by rfl) ?_
      simp only [putT, List.set]
      refine wpL_nil (no_panic ?_)
      refine Exists.intro _ ⟨Nat.lt_succ_self _, 1, 1, g193, g193c, (fun q9 => (#[undef, undef, undef, undef, undef, undef, .int .i64 0, .string (bs (ds.getD 0 [])), undef, undef, undef, undef, undef, undef, undef, undef, undef, undef, undef, undef, undef, undef, .bool true, .int .i64 0, .pointer (ap.map (·.add 0)), .string (bs (ds.getD 0 [])), .int .i64 0, .bool true, (.slice none 0 0), .string (bs (ds.getD 0 [])), .string (bs (ds.getD 0 [])), .int .i64 (((ds.getD 0 []).length : Nat) : Int), .int .i64 ((min ((ds.getD 0 []).length) 100 : Nat) : Int), .string (bs (cut (ds.getD 0 []) 100)), .string (bs (leafS (cut (ds.getD 0 []) 100))), .slice (some ⟨g191, 0, none⟩) 1 1, .slice (some ⟨g193, 0, none⟩) 1 g193c, .int .i64 1] : Array Value).getD q9 undef), rfl, rfl, (M.pick [0] (by decide) rfl), Cg193, (Nat.le_refl _), (by omega), (by decide)⟩
  clear M
  obtain ⟨k, j, r, rc, u176, rfl, rfl, M, Cr, hk1, hkl, hjk⟩ := hI
  obtain ⟨w197, rfl⟩ : ∃ W8, W8 = W9 := ⟨_, rfl⟩
  refine wp_seq_k (fun K198 hK198 => ?_)
  refine wp_region_seq ?_
  refine wpL_chunk 1 (by rfl) (fun Lk hLk => ?_)
  simp only [List.take, List.drop]
  refine wpV_bin (v := .bool (decide (k < ds.length))) (by rfl) rfl rfl rfl (fun W => run_lssN k ds.length _ _ W) ?_
  simp only [putT, List.set]
  refine wpV_nil (hLk _ (fun w200 Sw200 => ?_))
  clear hLk Lk
  simp only [List.take, List.drop]
  replace M := M.sees Sw200
  refine wpL_nil (no_panic ?_)
  refine hK198 _ _ ?_
  refine wp_seq_k (fun K201 hK201 => ?_)
  cases hc202 : (decide (k < ds.length))
  · skip
    refine wp_cond_false rfl ?_
    refine wp_exit ?_
    have HX203 := ((M.rowNs 0 0 rfl rfl (by rw [scells_len, lvD_len (by omega)]) Cr).sub (show ∀ x ∈ ([] : List Nat), x ∈ ([] : List Nat) from fun _ h => absurd h List.not_mem_nil))
    exact HK5 (lvD 100 ds j) (some ⟨r, 0, none⟩) j rc (fun q9 => (#[undef, undef, undef, undef, undef, undef, u176 6, u176 7, undef, undef, undef, undef, undef, undef, undef, undef, undef, undef, undef, .slice ap ds.length cp, .int .i64 ((ds.length : Nat) : Int), .int .i64 ((k : Nat) : Int), .bool false, u176 23, u176 24, u176 25, u176 26, u176 27, u176 28, u176 29, u176 30, u176 31, u176 32, u176 33, u176 34, u176 35, u176 36, u176 37] : Array Value).getD q9 undef) _ (by rw [lvD_len (by omega)]; omega) (lvD_32 _ _ _) (M.pick [] (by decide) rfl) HX203
  · skip
    have hk : k < ds.length := of_decide_eq_true hc202
    refine wp_cond_true rfl ?_
    refine wp_skip ?_
    refine hK201 _ _ ?_
    refine wp_seq_k (fun K204 hK204 => ?_)
    refine wp_block ?_
    refine wp_seq_k (fun K205 hK205 => ?_)
    refine wp_region_seq ?_
    refine wpL_move (v := .int .i64 ((k : Nat) : Int)) (by rfl) (by rfl) (by rfl) ?_
    simp only [putT, List.set]
    refine wpL_chunk 2 (by rfl) (fun Lk hLk => ?_)
    simp only [List.take, List.drop]
    refine wpV_idxA (i := k) (by rfl) rfl rfl rfl Tryd.underlying48 info9 (M.oldA Hp) (by omega) ?_
    simp only [putT, List.set]
    refine wpV_loadA (i := k) (v := .string (bs (ds.getD k []))) (by rfl) rfl rfl (M.oldA Hp) (scells_get (ps := ds) (by omega)) Tryd.underlying9 rfl ?_
    simp only [putT, List.set]
    refine wpV_nil (hLk _ (fun w207 Sw207 => ?_))
    clear hLk Lk
    simp only [List.take, List.drop]
    replace M := M.sees Sw207
    refine wpL_assign (v := .int .i64 ((k : Nat) : Int)) (by rfl) (by rfl) (by rfl) ?_
    simp only [putT, List.set]
    refine wpL_assign (v := .string (bs (ds.getD k []))) (by rfl) (by rfl) (by rfl) ?_
    simp only [putT, List.set]
    refine wpL_nil (no_panic ?_)
    refine hK205 _ _ ?_
    refine wp_seq_k (fun K208 hK208 => ?_)
    refine wp_region_seq ?_
    refine wpL_move (v := .int .i64 ((k : Nat) : Int)) (by rfl) (by rfl) (by rfl) ?_
    simp only [putT, List.set]
    refine wpL_chunk 1 (by rfl) (fun Lk hLk => ?_)
    simp only [List.take, List.drop]
    refine wpV_bin (v := .bool (decide (k < 70))) (by rfl) rfl rfl rfl (fun W => run_lssN k 70 _ _ W) ?_
    simp only [putT, List.set]
    refine wpV_nil (hLk _ (fun w210 Sw210 => ?_))
    clear hLk Lk
    simp only [List.take, List.drop]
    replace M := M.sees Sw210
    refine wpL_nil (no_panic ?_)
    refine hK208 _ _ ?_
    cases hc211 : (decide (k < 70))
    · skip
      have hk70 : ¬ k < 70 := of_decide_eq_false hc211
      refine wp_cond_false rfl ?_
      refine wp_skip ?_
      refine hK204 _ _ ?_
      refine wp_region_seq ?_
      refine wpL_chunk 1 (by rfl) (fun Lk hLk => ?_)
      simp only [List.take, List.drop]
      refine wpV_bin (v := .int .i64 ((k + 1 : Nat) : Int)) (by rfl) rfl rfl rfl (fun W => run_add (by simp only [IntKind.wrap_i64]; omega) W) ?_
      simp only [putT, List.set]
      refine wpV_nil (hLk _ (fun w213 Sw213 => ?_))
      clear hLk Lk
      simp only [List.take, List.drop]
      replace M := M.sees Sw213
      refine wpL_move (v := .int .i64 ((k + 1 : Nat) : Int)) (by rfl) (by rfl) (by rfl) ?_
      simp only [putT, List.set]
      refine wpL_nil (no_panic ?_)
      refine Exists.intro _ ⟨?_, (k + 1), j, r, rc, (fun q9 => (#[undef, undef, undef, undef, undef, undef, .int .i64 ((k : Nat) : Int), .string (bs (ds.getD k [])), undef, undef, undef, undef, undef, undef, undef, undef, undef, undef, undef, undef, undef, undef, .bool true, .int .i64 ((k : Nat) : Int), .pointer (ap.map (·.add k)), .string (bs (ds.getD k [])), .int .i64 ((k : Nat) : Int), .bool false, u176 28, u176 29, u176 30, u176 31, u176 32, u176 33, u176 34, u176 35, u176 36, .int .i64 ((k + 1 : Nat) : Int)] : Array Value).getD q9 undef), rfl, rfl, M, Cr, (by omega), (by omega), (by omega)⟩
      omega
    · skip
      have hk70 : k < 70 := of_decide_eq_true hc211
      have ejk : j = k := by omega
      refine wp_cond_true rfl ?_
      refine wp_region_seq ?_
      refine wpL_move (v := .slice (some ⟨r, 0, none⟩) j rc) (by rfl) (by rfl) (by rfl) ?_
      simp only [putT, List.set]
      refine wpL_move (v := .string (bs (ds.getD k []))) (by rfl) (by rfl) (by rfl) ?_
      simp only [putT, List.set]
      refine wpL_move (v := .string (bs (ds.getD k []))) (by rfl) (by rfl) (by rfl) ?_
      simp only [putT, List.set]
      refine wpL_chunk 4 (by rfl) (fun Lk hLk => ?_)
      simp only [List.take, List.drop]
      refine wpV_lenS (by rfl) rfl rfl rfl Tryd.underlying9 ?_
      simp only [putT, List.set]
      refine wpV_min (n := (ds.getD k []).length) (m := 100) (by rfl) rfl rfl rfl ?_
      simp only [putT, List.set]
      refine wpV_cut (l := ds.getD k []) (m := 100) (by rfl) rfl rfl rfl Tryd.underlying9 ?_
      simp only [putT, List.set]
      refine wpV_callf (v := .string (bs (leafS (cut (ds.getD k []) 100)))) (args := #[.string (bs (cut (ds.getD k []) 100))]) (by rfl) rfl Tryd.func38 (by kernel_rfl) (by kernel_rfl) rfl (fun W hW => leaf_c (d := cut (ds.getD k []) 100) (by have := cut_len (ds.getD k []) 100; omega) ((M.sees hW).oldL L0) ((M.sees hW).oldR R0_0 L0)) ?_
      simp only [putT, List.set]
      refine wpV_nil (hLk _ (fun w215 Sw215 => ?_))
      clear hLk Lk
      simp only [List.take, List.drop]
      replace M := M.sees Sw215
      refine wpL_rowN (vs := [.string (bs (leafS (cut (ds.getD k []) 100)))]) (z := .string { data := #[] }) (bytes := 16) (by rfl) (by rfl) Tryd.underlying48 (by kernel_rfl) (by decide) (by kernel_rfl) (fun g216 w217 Sw217 Hg216 Bg216 => ?_)
      replace M := ((M.sees Sw217).add (N := 1) (cs := [.string (bs (leafS (cut (ds.getD k []) 100)))]) (M.ge Hg216) (M.fresh Hg216) Bg216 rfl)
      clear Bg216
      simp only [putT, List.set]
      refine wpL_append (n := j) (m := 1) (olds := scells (lvD 100 ds j)) (news := [.string (bs (leafS (cut (ds.getD k []) 100)))]) (z := .string { data := #[] }) (bytes := 16) (by rfl) (by rfl) (by rfl) (by rfl) Tryd.underlying48 (by kernel_rfl) rfl rfl (by rw [scells_len, lvD_len (by omega)]) rfl (M.r 1 0 rfl rfl) (M.t 1 rfl) (M.lt 1 rfl) (M.r 0 0 rfl rfl) (by intro u hu; rw [List.mem_singleton.1 hu]; rfl) (by omega) (by simp only [maxLen]; omega) (fun g218 g218c w219 Sw219 Q Cg218 R T L => ?_)
      replace M := M.grow 1 rfl Sw219 Q R T L
      simp only [List.set] at M
      clear Q R T L
      rw [show scells (lvD 100 ds j) ++ [.string (bs (leafS (cut (ds.getD k []) 100)))] = scells (lvD 100 ds (j + 1)) from grow_step ejk hk] at M
      simp only [putT, List.set]
      refine wpL_assign (v := .slice (some ⟨g218, 0, none⟩) (j + 1) g218c) (by rfl) (by rfl) (by rfl) ?_
      simp only [putT, List.set]
      refine wpL_nil (no_panic ?_)
      refine hK204 _ _ ?_
      refine wp_region_seq ?_
      refine wpL_chunk 1 (by rfl) (fun Lk hLk => ?_)
      simp only [List.take, List.drop]
      refine wpV_bin (v := .int .i64 ((k + 1 : Nat) : Int)) (by rfl) rfl rfl rfl (fun W => run_add (by simp only [IntKind.wrap_i64]; omega) W) ?_
      simp only [putT, List.set]
      refine wpV_nil (hLk _ (fun w221 Sw221 => ?_))
      clear hLk Lk
      simp only [List.take, List.drop]
      replace M := M.sees Sw221
      refine wpL_move (v := .int .i64 ((k + 1 : Nat) : Int)) (by rfl) (by rfl) (by rfl) ?_
      simp only [putT, List.set]
      refine wpL_nil (no_panic ?_)
      refine Exists.intro _ ⟨?_, (k + 1), (j + 1), g218, g218c, (fun q9 => (#[undef, undef, undef, undef, undef, undef, .int .i64 ((k : Nat) : Int), .string (bs (ds.getD k [])), undef, undef, undef, undef, undef, undef, undef, undef, undef, undef, undef, undef, undef, undef, .bool true, .int .i64 ((k : Nat) : Int), .pointer (ap.map (·.add k)), .string (bs (ds.getD k [])), .int .i64 ((k : Nat) : Int), .bool true, .slice (some ⟨r, 0, none⟩) j rc, .string (bs (ds.getD k [])), .string (bs (ds.getD k [])), .int .i64 (((ds.getD k []).length : Nat) : Int), .int .i64 ((min ((ds.getD k []).length) 100 : Nat) : Int), .string (bs (cut (ds.getD k []) 100)), .string (bs (leafS (cut (ds.getD k []) 100))), .slice (some ⟨g216, 0, none⟩) 1 1, .slice (some ⟨g218, 0, none⟩) (j + 1) g218c, .int .i64 ((k + 1 : Nat) : Int)] : Array Value).getD q9 undef), rfl, rfl, (M.pick [1] (by decide) rfl), Cg218, (by omega), (by omega), (by omega)⟩
      omega
end Go.Proofs.Yb

