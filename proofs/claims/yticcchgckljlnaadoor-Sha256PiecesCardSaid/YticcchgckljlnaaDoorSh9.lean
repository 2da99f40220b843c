import Derived.WalkKit
import Derived.WalkSpells
import Derived.Laws.Pointers
import Derived.RowKit3
import Derived.Below
import Derived.Outline
import Derived.LoopN
import Derived.Lib.Hide
import Derived.Handy
import Derived.Laws.Bits64b
import Derived.Test.YticcchgckljlnaaDoorSh7
import Derived.Test.YticcchgckljlnaaDoorSha8
set_option linter.unusedSimpArgs false
set_option linter.unusedVariables false
namespace Go.Proofs.Yb
open Go Go.RowKit Go.Proofs.Num
attribute [local irreducible] wpV wpN wpList
theorem piece_end {Lc : List Int} {m : List UInt8} {k a b : Nat} (hLe : Lc.getD (Lc.length - 1) 0 = ((m.length : Nat) : Int)) (hk : k = Lc.length - 1) (hb : min (max (Lc.getD k 0) ((a : Nat) : Int)) ((m.length : Nat) : Int) = (b : Int)) (h2 : b ≤ m.length) : b = m.length := by
  subst hk
  rw [hLe] at hb
  omega
set_option maxHeartbeats 4000000 in
theorem pieces_c {l : List UInt8} {cuts : List Int} {ap : Option Addr} {np cp : Nat} {w : World} (hl : l.length ≤ 9223372036854775807) (L0 : 0 < w.heap.size) (R0_0 : w.rangeAt 0 0 kcells) (Hp : RowA w ap np cp (icells cuts)) :
    Calls Tryd.prog 6 #[.string (bs l), .slice ap np cp] w fun e w' => e = .returned (.bool true) ∧ Below w.heap.size w w' := by
  obtain rfl : np = cuts.length := by have := Hp.len; rwa [icells_len] at this
  obtain ⟨m, hm⟩ : ∃ m, m = cut l 2000 := ⟨_, rfl⟩
  have hml : m.length ≤ 2000 := hm ▸ cut_len _ _
  go_enter Tryd.func6, Tryd.ntmps6
  have M := Mem.start w
  refine wp_seq_k (fun K1 hK1 => ?_)
  refine wp_region_seq ?_
  refine wpL_assign (v := .bool false) (by rfl) (by rfl) (by rfl) ?_
  simp only [putT, List.set]
  refine wpL_nil (no_panic ?_)
  refine hK1 _ _ ?_
  refine wp_seq_k (fun K3 hK3 => ?_)
  refine wp_region_seq ?_
  refine wpL_move (v := .string (bs l)) (by rfl) (by rfl) (by rfl) ?_
  simp only [putT, List.set]
  refine wpL_move (v := .string (bs l)) (by rfl) (by rfl) (by rfl) ?_
  simp only [putT, List.set]
  refine wpL_chunk 3 (by rfl) (fun Lk hLk => ?_)
  simp only [List.take, List.drop]
  refine wpV_lenS (by rfl) rfl rfl rfl Tryd.underlying9 ?_
  simp only [putT, List.set]
  refine wpV_min (n := l.length) (m := 2000) (by rfl) rfl rfl rfl ?_
  simp only [putT, List.set]
  refine wpV_cut (l := l) (m := 2000) (by rfl) rfl rfl rfl Tryd.underlying9 ?_
  simp only [putT, List.set]
  refine wpV_nil (hLk _ (fun w5 Sw5 => ?_))
  clear hLk Lk
  simp only [List.take, List.drop]
  replace M := M.sees Sw5
  refine wpL_assign (v := .string (bs (cut l 2000))) (by rfl) (by rfl) (by rfl) ?_
  simp only [putT, List.set]
  refine wpL_nil (no_panic ?_)
  rw [← hm]
  refine hK3 _ _ ?_
  refine wp_seq_k (fun K6 hK6 => ?_)
  refine wp_region_seq ?_
  refine wpL_chunk 1 (by rfl) (fun Lk hLk => ?_)
  simp only [List.take, List.drop]
  refine wpV_callf (v := .agg ([.int .u32 ((H0.a : Nat) : Int), .int .u32 ((H0.b : Nat) : Int), .int .u32 ((H0.c : Nat) : Int), .int .u32 ((H0.d : Nat) : Int), .int .u32 ((H0.e : Nat) : Int), .int .u32 ((H0.f : Nat) : Int), .int .u32 ((H0.g : Nat) : Int), .int .u32 ((H0.h : Nat) : Int)] ++ [.string (bs [])] ++ [.int .u64 ((0 : Nat) : Int)] : List Value).toArray) (args := #[]) (by rfl) rfl Tryd.func22 (by kernel_rfl) (by kernel_rfl) rfl (fun W hW => new_c) ?_
  simp only [putT, List.set]
  refine wpV_nil (hLk _ (fun w8 Sw8 => ?_))
  clear hLk Lk
  simp only [List.take, List.drop]
  replace M := M.sees Sw8
  refine wpL_var (t := 29) (cs := [.int .u32 0, .int .u32 0, .int .u32 0, .int .u32 0, .int .u32 0, .int .u32 0, .int .u32 0, .int .u32 0, .string { data := #[] }, .int .u64 0]) (by rfl) (fun W => ?_) (fun g9 w10 Sw10 Hg9 Bg9 => ?_)
  · go_simp
  replace M := ((M.sees Sw10).addS (N := 10) (cs := [.int .u32 0, .int .u32 0, .int .u32 0, .int .u32 0, .int .u32 0, .int .u32 0, .int .u32 0, .int .u32 0, .string { data := #[] }, .int .u64 0]) (segs := [(0, [.int .u32 0, .int .u32 0, .int .u32 0, .int .u32 0, .int .u32 0, .int .u32 0, .int .u32 0, .int .u32 0]), (8, [.string { data := #[] }]), (9, [.int .u64 0])]) (M.ge Hg9) (M.fresh Hg9) Bg9 rfl ⟨rfl, rfl, rfl, trivial⟩)
  clear Bg9
  simp only [putT, List.set]
  refine wpL_store (g := g9) (off := 0) (n := 10) (cs := [.int .u32 ((H0.a : Nat) : Int), .int .u32 ((H0.b : Nat) : Int), .int .u32 ((H0.c : Nat) : Int), .int .u32 ((H0.d : Nat) : Int), .int .u32 ((H0.e : Nat) : Int), .int .u32 ((H0.f : Nat) : Int), .int .u32 ((H0.g : Nat) : Int), .int .u32 ((H0.h : Nat) : Int)] ++ [.string (bs [])] ++ [.int .u64 ((0 : Nat) : Int)]) (by rfl) (by rfl) (by rfl) (by rfl) (by rfl) (M.t 0 rfl) (by simp [flen]) info29 (by simp [fone, Value.oneCell']) (fun w11 P R T => ?_)
  replace M := M.put (segs' := [(0, [.int .u32 ((H0.a : Nat) : Int), .int .u32 ((H0.b : Nat) : Int), .int .u32 ((H0.c : Nat) : Int), .int .u32 ((H0.d : Nat) : Int), .int .u32 ((H0.e : Nat) : Int), .int .u32 ((H0.f : Nat) : Int), .int .u32 ((H0.g : Nat) : Int), .int .u32 ((H0.h : Nat) : Int)]), (8, [.string (bs [])]), (9, [.int .u64 ((0 : Nat) : Int)])]) 0 rfl P T (SegsOf.at R ⟨rfl, rfl, rfl, trivial⟩)
  simp only [List.set] at M
  refine wpL_assign (v := .int .i64 0) (by rfl) (by rfl) (by rfl) ?_
  simp only [putT, List.set]
  refine wpL_nil (no_panic ?_)
  refine hK6 _ _ ?_
  refine wp_seq_k (fun K12 hK12 => ?_)
  refine wp_region_seq ?_
  refine wpL_assign (v := (.slice none 0 0)) (by rfl) (by rfl) (by rfl) ?_
  simp only [putT, List.set]
  refine wpL_nil (no_panic ?_)
  refine hK12 _ _ ?_
  refine wp_seq_k (fun K14 hK14 => ?_)
  refine wp_seq_k (fun K15 hK15 => ?_)
  obtain ⟨Lc, hLc⟩ : ∃ Lc, Lc = cuts.take (min cuts.length 20) ++ [((m.length : Nat) : Int)] := ⟨_, rfl⟩
  have hLl : Lc.length = min cuts.length 20 + 1 := by rw [hLc, List.length_append, List.length_take]; simp
  have hLe : Lc.getD (Lc.length - 1) 0 = ((m.length : Nat) : Int) := by rw [hLl, hLc]; simp [List.getD_eq_getElem?_getD, List.getElem?_append_right]
  refine wp_region_seq ?_
  refine wpL_row0 (by rfl) (by rfl) Tryd.underlying47 info3 (fun g17 w18 Sw18 Hg17 Bg17 => ?_)
  replace M := ((M.sees Sw18).add (N := 0) (cs := icells []) (M.ge Hg17) (M.fresh Hg17) Bg17 rfl)
  clear Bg17
  simp only [putT, List.set]
  refine wpL_move (v := .slice ap cuts.length cp) (by rfl) (by rfl) (by rfl) ?_
  simp only [putT, List.set]
  refine wpL_move (v := .slice ap cuts.length cp) (by rfl) (by rfl) (by rfl) ?_
  simp only [putT, List.set]
  refine wpL_chunk 3 (by rfl) (fun Lk hLk => ?_)
  simp only [List.take, List.drop]
  refine wpV_lenA (n := cuts.length) (by rfl) rfl rfl rfl Tryd.underlying47 ?_
  simp only [putT, List.set]
  refine wpV_min (n := cuts.length) (m := 20) (by rfl) rfl rfl rfl ?_
  simp only [putT, List.set]
  refine wpV_slcH (hi := min cuts.length 20) (by rfl) rfl rfl rfl Tryd.underlying47 info3 (Nat.le_trans (by omega) (M.oldA Hp).cap) ?_
  simp only [putT, List.set]
  refine wpV_nil (hLk _ (fun w19 Sw19 => ?_))
  clear hLk Lk
  simp only [List.take, List.drop]
  replace M := M.sees Sw19
  refine wpL_appendA (n := 0) (m := min cuts.length 20) (olds := icells []) (news := icells (cuts.take (min cuts.length 20))) (z := .int .i64 0) (bytes := 8) (by rfl) (by rfl) (by rfl) (by rfl) Tryd.underlying47 (by kernel_rfl) rfl rfl rfl (Nat.le_refl _) (M.r 0 0 rfl rfl) (M.t 0 rfl) (M.lt 0 rfl) (((M.oldA Hp).take (by omega)).eq (icells_take2 _ _)) (icells_one _) (by omega) (by simp only [maxLen]; omega) (fun g20 g20c w21 Sw21 Q Cg20 R T L => ?_)
  replace M := M.grow 0 rfl Sw21 Q R T L
  simp only [List.set] at M
  clear Q R T L
  rw [show icells [] ++ icells (cuts.take (min cuts.length 20)) = icells (cuts.take (min cuts.length 20)) from rfl] at M
  rw [Nat.zero_add] at Cg20
  rw [Nat.zero_add]
  simp only [putT, List.set]
  refine wpL_move (v := .string (bs m)) (by rfl) (by rfl) (by rfl) ?_
  simp only [putT, List.set]
  refine wpL_chunk 1 (by rfl) (fun Lk hLk => ?_)
  simp only [List.take, List.drop]
  refine wpV_lenS (by rfl) rfl rfl rfl Tryd.underlying9 ?_
  simp only [putT, List.set]
  refine wpV_nil (hLk _ (fun w22 Sw22 => ?_))
  clear hLk Lk
  simp only [List.take, List.drop]
  replace M := M.sees Sw22
  refine wpL_rowN (vs := [.int .i64 ((m.length : Nat) : Int)]) (z := .int .i64 0) (bytes := 8) (by rfl) (by rfl) Tryd.underlying47 (by kernel_rfl) (by decide) (by kernel_rfl) (fun g23 w24 Sw24 Hg23 Bg23 => ?_)
  replace M := ((M.sees Sw24).add (N := 1) (cs := [.int .i64 ((m.length : Nat) : Int)]) (M.ge Hg23) (M.fresh Hg23) Bg23 rfl)
  clear Bg23
  simp only [putT, List.set]
  refine wpL_append (n := min cuts.length 20) (m := 1) (olds := icells (cuts.take (min cuts.length 20))) (news := [.int .i64 ((m.length : Nat) : Int)]) (z := .int .i64 0) (bytes := 8) (by rfl) (by rfl) (by rfl) (by rfl) Tryd.underlying47 (by kernel_rfl) rfl rfl (by rw [icells_len, List.length_take]; omega) rfl (M.r 1 0 rfl rfl) (M.t 1 rfl) (M.lt 1 rfl) (M.r 0 0 rfl rfl) (by intro u hu; rw [List.mem_singleton.1 hu]; rfl) (by omega) (by simp only [maxLen]; omega) (fun g25 g25c w26 Sw26 Q Cg25 R T L => ?_)
  replace M := M.grow 1 rfl Sw26 Q R T L
  simp only [List.set] at M
  clear Q R T L
  rw [show icells (cuts.take (min cuts.length 20)) ++ [.int .i64 ((m.length : Nat) : Int)] = icells Lc from by rw [hLc]; simp [icells]] at M
  simp only [putT, List.set]
  refine wpL_chunk 1 (by rfl) (fun Lk hLk => ?_)
  simp only [List.take, List.drop]
  refine wpV_lenA (n := min cuts.length 20 + 1) (by rfl) rfl rfl rfl Tryd.underlying47 ?_
  simp only [putT, List.set]
  refine wpV_nil (hLk _ (fun w27 Sw27 => ?_))
  clear hLk Lk
  simp only [List.take, List.drop]
  replace M := M.sees Sw27
  refine wpL_move (v := .int .i64 0) (by rfl) (by rfl) (by rfl) ?_
  simp only [putT, List.set]
  refine wpL_nil (no_panic ?_)
  refine hK15 _ _ ?_
  refine wp_block ?_
  refine wp_loop_peel (fun n9 a9 W9 => ∃ (k : Nat) (at0 : Nat) (Ps : List (List UInt8)) (r : Nat) (rc : Nat) (u28 : Nat → Value), n9 = 2 * (min cuts.length 20 + 1 - k) ∧ a9 = { tmps := #[.string (bs m), .slice ap cuts.length cp, undef, undef, u28 4, .pointer (some ⟨g9, 0, none⟩), .int .i64 ((at0 : Nat) : Int), .slice (some ⟨r, 0, none⟩) k rc, undef, u28 9, u28 10, u28 11, u28 12, undef, undef, .string (bs l), .string (bs l), .int .i64 ((l.length : Nat) : Int), .int .i64 ((min l.length 2000 : Nat) : Int), .string (bs m), .agg ([.int .u32 ((H0.a : Nat) : Int), .int .u32 ((H0.b : Nat) : Int), .int .u32 ((H0.c : Nat) : Int), .int .u32 ((H0.d : Nat) : Int), .int .u32 ((H0.e : Nat) : Int), .int .u32 ((H0.f : Nat) : Int), .int .u32 ((H0.g : Nat) : Int), .int .u32 ((H0.h : Nat) : Int)] ++ [.string (bs [])] ++ [.int .u64 ((0 : Nat) : Int)] : List Value).toArray, .slice (some ⟨g17, 0, none⟩) 0 0, .slice ap cuts.length cp, .slice ap cuts.length cp, .int .i64 ((cuts.length : Nat) : Int), .int .i64 ((min cuts.length 20 : Nat) : Int), .slice ap (min cuts.length 20) cp, .slice (some ⟨g20, 0, none⟩) (min cuts.length 20) g20c, .string (bs m), .int .i64 ((m.length : Nat) : Int), .slice (some ⟨g23, 0, none⟩) 1 1, .slice (some ⟨g25, 0, none⟩) (min cuts.length 20 + 1) g25c, .int .i64 ((min cuts.length 20 + 1 : Nat) : Int), .int .i64 ((k : Nat) : Int), u28 34, u28 35, u28 36, u28 37, u28 38, u28 39, u28 40, u28 41, u28 42, u28 43, u28 44, u28 45, u28 46, u28 47, u28 48, u28 49, u28 50, u28 51, u28 52, u28 53, u28 54, u28 55, u28 56, u28 57, u28 58, u28 59, u28 60, u28 61, u28 62, u28 63, u28 64, u28 65, u28 66, u28 67, u28 68, u28 69, u28 70, u28 71, u28 72, u28 73, u28 74, u28 75, undef, undef, undef, undef, undef, undef, undef, undef, undef, undef, undef, undef, undef, undef, undef, undef, undef, undef, undef, undef, undef, undef, undef, undef, undef, undef, undef, undef], defers := [] } ∧ Mem [] w W9 [⟨g25, g25c, [(0, icells Lc)]⟩, ⟨g9, 10, [(0, [.int .u32 (((stX m at0).h.a : Nat) : Int), .int .u32 (((stX m at0).h.b : Nat) : Int), .int .u32 (((stX m at0).h.c : Nat) : Int), .int .u32 (((stX m at0).h.d : Nat) : Int), .int .u32 (((stX m at0).h.e : Nat) : Int), .int .u32 (((stX m at0).h.f : Nat) : Int), .int .u32 (((stX m at0).h.g : Nat) : Int), .int .u32 (((stX m at0).h.h : Nat) : Int)]), (8, [.string (bs ((stX m at0).b))]), (9, [.int .u64 (((stX m at0).n : Nat) : Int)])]⟩, ⟨r, rc, [(0, scells Ps)]⟩] ∧ k ≤ rc ∧ (1 ≤ k) ∧ (k ≤ min cuts.length 20 + 1) ∧ (at0 ≤ m.length) ∧ (k = min cuts.length 20 + 1 → at0 = m.length) ∧ (Ps.flatten = m.take at0) ∧ (Ps.length = k)) (2 * (min cuts.length 20 + 1 - (1)) + 1) ?_ (fun n9 a9 W9 hI => ?_)
  · skip
    refine wp_seq_k (fun K29 hK29 => ?_)
    refine wp_region_seq ?_
    refine wpL_chunk 1 (by rfl) (fun Lk hLk => ?_)
    simp only [List.take, List.drop]
    refine wpV_bin (v := .bool (decide (0 < min cuts.length 20 + 1))) (by rfl) rfl rfl rfl (fun W => run_lssN 0 (min cuts.length 20 + 1) _ _ W) ?_
    simp only [putT, List.set]
    refine wpV_nil (hLk _ (fun w31 Sw31 => ?_))
    clear hLk Lk
    simp only [List.take, List.drop]
    replace M := M.sees Sw31
    refine wpL_nil (no_panic ?_)
    refine hK29 _ _ ?_
    refine wp_seq_k (fun K32 hK32 => ?_)
    cases hc33 : (decide (0 < min cuts.length 20 + 1))
    · skip
      exact absurd (Nat.succ_pos _) (of_decide_eq_false hc33)
    · skip
      refine wp_cond_true rfl ?_
      refine wp_skip ?_
      refine hK32 _ _ ?_
      refine wp_seq_k (fun K34 hK34 => ?_)
      refine wp_block ?_
      refine wp_seq_k (fun K35 hK35 => ?_)
      refine wp_region_seq ?_
      refine wpL_chunk 2 (by rfl) (fun Lk hLk => ?_)
      simp only [List.take, List.drop]
      refine wpV_idxs (n := 0) (by rfl) rfl rfl rfl Tryd.underlying47 info3 (by omega) ?_
      simp only [Nat.zero_add]
      simp only [putT, List.set]
      refine wpV_load1 (v := .int .i64 (Lc.getD 0 0)) (by rfl) rfl rfl (zadd ((M.r 1 0 rfl rfl) _ _ (icells_get (l := Lc) (by omega)))) (M.lt 1 rfl) Tryd.underlying3 rfl ?_
      simp only [putT, List.set]
      refine wpV_nil (hLk _ (fun w37 Sw37 => ?_))
      clear hLk Lk
      simp only [List.take, List.drop]
      replace M := M.sees Sw37
      refine wpL_assign (v := .int .i64 (Lc.getD 0 0)) (by rfl) (by rfl) (by rfl) ?_
      simp only [putT, List.set]
      refine wpL_nil (no_panic ?_)
      refine hK35 _ _ ?_
      refine wp_seq_k (fun K38 hK38 => ?_)
      obtain ⟨b, hbz, hb1, hb2⟩ : ∃ b : Nat, min (max ((Lc).getD 0 0) 0) ((m.length : Nat) : Int) = (b : Int) ∧ 0 ≤ b ∧ b ≤ m.length := ⟨(min (max ((Lc).getD 0 0) 0) ((m.length : Nat) : Int)).toNat, by omega, by omega, by omega⟩
      have hbe : 0 = min cuts.length 20 → b = m.length := fun e9 => piece_end hLe (by rw [hLl]; omega) hbz hb2
      refine wp_region_seq ?_
      refine wpL_move (v := .int .i64 (Lc.getD 0 0)) (by rfl) (by rfl) (by rfl) ?_
      simp only [putT, List.set]
      refine wpL_move (v := .int .i64 0) (by rfl) (by rfl) (by rfl) ?_
      simp only [putT, List.set]
      refine wpL_chunk 4 (by rfl) (fun Lk hLk => ?_)
      simp only [List.take, List.drop]
      refine wpV_maxZ (m := (Lc.getD 0 0)) (n := 0) (e := max (Lc.getD 0 0) 0) (by rfl) rfl rfl rfl rfl ?_
      simp only [putT, List.set]
      refine wpV_move (v := .string (bs m)) (by rfl) rfl rfl ?_
      simp only [putT, List.set]
      refine wpV_lenS (by rfl) rfl rfl rfl Tryd.underlying9 ?_
      simp only [putT, List.set]
      refine wpV_minZ (m := (max (Lc.getD 0 0) 0)) (n := ((m.length : Nat) : Int)) (e := ((b : Nat) : Int)) (by rfl) rfl rfl rfl hbz ?_
      simp only [putT, List.set]
      refine wpV_nil (hLk _ (fun w40 Sw40 => ?_))
      clear hLk Lk
      simp only [List.take, List.drop]
      replace M := M.sees Sw40
      refine wpL_assign (v := .int .i64 ((b : Nat) : Int)) (by rfl) (by rfl) (by rfl) ?_
      simp only [putT, List.set]
      refine wpL_nil (no_panic ?_)
      refine hK38 _ _ ?_
      refine wp_seq_k (fun K41 hK41 => ?_)
      obtain ⟨hs1, hs2⟩ := st_step0 hb2 hml
      refine wp_region_grow 10 [8] (by kernel_rfl) (by kernel_rfl) (by kernel_rfl) (fun Lk hLk => ?_)
      simp only [List.take, List.drop]
      refine wpV_load (cs := [.int .u32 ((H0.a : Nat) : Int), .int .u32 ((H0.b : Nat) : Int), .int .u32 ((H0.c : Nat) : Int), .int .u32 ((H0.d : Nat) : Int), .int .u32 ((H0.e : Nat) : Int), .int .u32 ((H0.f : Nat) : Int), .int .u32 ((H0.g : Nat) : Int), .int .u32 ((H0.h : Nat) : Int)] ++ [.string (bs [])] ++ [.int .u64 ((0 : Nat) : Int)]) (by rfl) rfl rfl (range_join (range_join (M.r 2 0 rfl rfl) (M.r 2 1 rfl rfl) (by simp [flen])) (M.r 2 2 rfl rfl) (by simp [flen])) (M.lt 2 rfl) Tryd.underlying29 rfl info29 ?_
      simp only [putT, List.set]
      refine wpV_move (v := .string (bs m)) (by rfl) rfl rfl ?_
      simp only [putT, List.set]
      refine wpV_move (v := .int .i64 0) (by rfl) rfl rfl ?_
      simp only [putT, List.set]
      refine wpV_move (v := .int .i64 ((b : Nat) : Int)) (by rfl) rfl rfl ?_
      simp only [putT, List.set]
      refine wpV_subS (l := m) (lo := 0) (hi := b) (by rfl) rfl rfl rfl rfl Tryd.underlying9 (by omega) (by omega) ?_
      simp only [putT, List.set]
      refine wpV_callf (v := .tuple #[.agg ([.int .u32 (((stX m b).h.a : Nat) : Int), .int .u32 (((stX m b).h.b : Nat) : Int), .int .u32 (((stX m b).h.c : Nat) : Int), .int .u32 (((stX m b).h.d : Nat) : Int), .int .u32 (((stX m b).h.e : Nat) : Int), .int .u32 (((stX m b).h.f : Nat) : Int), .int .u32 (((stX m b).h.g : Nat) : Int), .int .u32 (((stX m b).h.h : Nat) : Int)] ++ [.string (bs ((stX m b).b))] ++ [.int .u64 (((stX m b).n : Nat) : Int)] : List Value).toArray, .int .i64 0]) (args := #[.agg ([.int .u32 ((H0.a : Nat) : Int), .int .u32 ((H0.b : Nat) : Int), .int .u32 ((H0.c : Nat) : Int), .int .u32 ((H0.d : Nat) : Int), .int .u32 ((H0.e : Nat) : Int), .int .u32 ((H0.f : Nat) : Int), .int .u32 ((H0.g : Nat) : Int), .int .u32 ((H0.h : Nat) : Int)] ++ [.string (bs [])] ++ [.int .u64 ((0 : Nat) : Int)] : List Value).toArray, .string (bs ((m.take b).drop 0))]) (by rfl) rfl Tryd.func29 (by kernel_rfl) (by kernel_rfl) rfl (fun W hW => by have h9 : Calls Tryd.prog _ _ W _ := write_c (x := newX) (l := (m.take b).drop 0) newX_ok (by rw [List.length_drop, List.length_take]; omega) ((M.sees hW).oldL L0) ((M.sees hW).oldR R0_0 L0); rw [hs1, hs2] at h9; with_reducible exact h9) ?_
      simp only [putT, List.set]
      refine wpV_move (v := .tuple #[.agg ([.int .u32 (((stX m b).h.a : Nat) : Int), .int .u32 (((stX m b).h.b : Nat) : Int), .int .u32 (((stX m b).h.c : Nat) : Int), .int .u32 (((stX m b).h.d : Nat) : Int), .int .u32 (((stX m b).h.e : Nat) : Int), .int .u32 (((stX m b).h.f : Nat) : Int), .int .u32 (((stX m b).h.g : Nat) : Int), .int .u32 (((stX m b).h.h : Nat) : Int)] ++ [.string (bs ((stX m b).b))] ++ [.int .u64 (((stX m b).n : Nat) : Int)] : List Value).toArray, .int .i64 0]) (by rfl) rfl rfl ?_
      simp only [putT, List.set]
      refine wpV_extract (v := .agg ([.int .u32 (((stX m b).h.a : Nat) : Int), .int .u32 (((stX m b).h.b : Nat) : Int), .int .u32 (((stX m b).h.c : Nat) : Int), .int .u32 (((stX m b).h.d : Nat) : Int), .int .u32 (((stX m b).h.e : Nat) : Int), .int .u32 (((stX m b).h.f : Nat) : Int), .int .u32 (((stX m b).h.g : Nat) : Int), .int .u32 (((stX m b).h.h : Nat) : Int)] ++ [.string (bs ((stX m b).b))] ++ [.int .u64 (((stX m b).n : Nat) : Int)] : List Value).toArray) (by rfl) rfl rfl rfl ?_
      simp only [putT, List.set]
      refine wpV_extract (v := .int .i64 0) (by rfl) rfl rfl rfl ?_
      simp only [putT, List.set]
      refine wpV_alloc (by rfl) ?_
      refine wpV_nil (hLk.out _ ?_)
      clear hLk Lk
      simp only [List.take, List.drop]
      iterate 9 refine wpN_skip (by rfl) ?_
      refine wpN_new (t := 29) (cs := ([.int .u32 0, .int .u32 0, .int .u32 0, .int .u32 0, .int .u32 0, .int .u32 0, .int .u32 0, .int .u32 0, .string { data := #[] }, .int .u64 0]).toArray) (by rfl) (fun W => ?_) (fun g43 Hg43 ng43 => ?_)
      · go_simp
      simp only [putT, List.set]
      refine wpN_nil (fun w44 Sw44 hbs => ?_)
      replace M := ((M.sees Sw44).addS (N := 10) (cs := [.int .u32 0, .int .u32 0, .int .u32 0, .int .u32 0, .int .u32 0, .int .u32 0, .int .u32 0, .int .u32 0, .string { data := #[] }, .int .u64 0]) (segs := [(0, [.int .u32 0, .int .u32 0, .int .u32 0, .int .u32 0, .int .u32 0, .int .u32 0, .int .u32 0, .int .u32 0]), (8, [.string { data := #[] }]), (9, [.int .u64 0])]) (M.ge Hg43) (M.fresh Hg43) (hbs _ (.head _)) rfl ⟨rfl, rfl, rfl, trivial⟩)
      clear hbs ng43
      refine wpL_store (g := g43) (off := 0) (n := 10) (cs := [.int .u32 (((stX m b).h.a : Nat) : Int), .int .u32 (((stX m b).h.b : Nat) : Int), .int .u32 (((stX m b).h.c : Nat) : Int), .int .u32 (((stX m b).h.d : Nat) : Int), .int .u32 (((stX m b).h.e : Nat) : Int), .int .u32 (((stX m b).h.f : Nat) : Int), .int .u32 (((stX m b).h.g : Nat) : Int), .int .u32 (((stX m b).h.h : Nat) : Int)] ++ [.string (bs ((stX m b).b))] ++ [.int .u64 (((stX m b).n : Nat) : Int)]) (by rfl) (by rfl) (by rfl) (by rfl) (by rfl) (M.t 0 rfl) (by simp [flen]) info29 (by simp [fone, Value.oneCell']) (fun w45 P R T => ?_)
      replace M := M.put (segs' := [(0, [.int .u32 (((stX m b).h.a : Nat) : Int), .int .u32 (((stX m b).h.b : Nat) : Int), .int .u32 (((stX m b).h.c : Nat) : Int), .int .u32 (((stX m b).h.d : Nat) : Int), .int .u32 (((stX m b).h.e : Nat) : Int), .int .u32 (((stX m b).h.f : Nat) : Int), .int .u32 (((stX m b).h.g : Nat) : Int), .int .u32 (((stX m b).h.h : Nat) : Int)]), (8, [.string (bs ((stX m b).b))]), (9, [.int .u64 (((stX m b).n : Nat) : Int)])]) 0 rfl P T (SegsOf.at R ⟨rfl, rfl, rfl, trivial⟩)
      simp only [List.set] at M
      refine wpL_assign (v := .int .i64 0) (by rfl) (by rfl) (by rfl) ?_
      simp only [putT, List.set]
      refine wpL_nil (no_panic ?_)
      refine hK41 _ _ ?_
      refine wp_seq_k (fun K46 hK46 => ?_)
      refine wp_seq_k (fun K47 hK47 => ?_)
      refine wp_region_seq ?_
      refine wpL_move (v := .int .i64 0) (by rfl) (by rfl) (by rfl) ?_
      simp only [putT, List.set]
      refine wpL_chunk 13 (by rfl) (fun Lk hLk => ?_)
      simp only [List.take, List.drop]
      refine wpV_bin (v := .bool false) (by rfl) rfl rfl rfl (fun W => run_neq _ _ _ _ W) ?_
      simp only [putT, List.set]
      refine wpV_move (v := .bool false) (by rfl) rfl rfl ?_
      simp only [putT, List.set]
      refine wpV_load (cs := [.int .u32 (((stX m b).h.a : Nat) : Int), .int .u32 (((stX m b).h.b : Nat) : Int), .int .u32 (((stX m b).h.c : Nat) : Int), .int .u32 (((stX m b).h.d : Nat) : Int), .int .u32 (((stX m b).h.e : Nat) : Int), .int .u32 (((stX m b).h.f : Nat) : Int), .int .u32 (((stX m b).h.g : Nat) : Int), .int .u32 (((stX m b).h.h : Nat) : Int)] ++ [.string (bs ((stX m b).b))] ++ [.int .u64 (((stX m b).n : Nat) : Int)]) (by rfl) rfl rfl (range_join (range_join (M.r 0 0 rfl rfl) (M.r 0 1 rfl rfl) (by simp [flen])) (M.r 0 2 rfl rfl) (by simp [flen])) (M.lt 0 rfl) Tryd.underlying29 rfl info29 ?_
      simp only [putT, List.set]
      refine wpV_callf (v := .bool true) (args := #[.agg ([.int .u32 (((stX m b).h.a : Nat) : Int), .int .u32 (((stX m b).h.b : Nat) : Int), .int .u32 (((stX m b).h.c : Nat) : Int), .int .u32 (((stX m b).h.d : Nat) : Int), .int .u32 (((stX m b).h.e : Nat) : Int), .int .u32 (((stX m b).h.f : Nat) : Int), .int .u32 (((stX m b).h.g : Nat) : Int), .int .u32 (((stX m b).h.h : Nat) : Int)] ++ [.string (bs ((stX m b).b))] ++ [.int .u64 (((stX m b).n : Nat) : Int)] : List Value).toArray]) (by rfl) rfl Tryd.func32 (by kernel_rfl) (by kernel_rfl) rfl (fun W hW => by have h9 : Calls Tryd.prog _ _ W _ := xright_c (x := (stX m b)) (stX_ok m (by omega)); rw [(stX_right hb2 hml)] at h9; exact h9) ?_
      simp only [putT, List.set]
      refine wpV_not (b := true) (by rfl) rfl rfl ?_
      simp only [Bool.not_true, Bool.not_false]
      simp only [putT, List.set]
      refine wpV_pick (v := .bool false) (by rfl) rfl rfl rfl ?_
      simp only [putT, List.set]
      refine wpV_move (v := .bool false) (by rfl) rfl rfl ?_
      simp only [putT, List.set]
      refine wpV_val (v := .pointer (some ⟨g43, 9, none⟩)) (by rfl) (by rfl) (fun W hW => ?_) ?_
      · (go_simp; exact rfl)
      simp only [putT, List.set]
      refine wpV_load1 (v := .int .u64 (((stX m b).n : Nat) : Int)) (by rfl) rfl rfl (range_one (M.r 0 2 rfl rfl)) (M.lt 0 rfl) Tryd.underlying27 rfl ?_
      simp only [putT, List.set]
      refine wpV_move (v := .int .i64 ((b : Nat) : Int)) (by rfl) rfl rfl ?_
      simp only [putT, List.set]
      refine wpV_conv (d := .bool) (e := ((b : Nat) : Int)) (by rfl) rfl rfl (run_conv_int Tryd.underlying3 Tryd.underlying27 ((wrap64N _).trans (congrArg _ (Nat.mod_eq_of_lt (by omega))))) ?_
      simp only [putT, List.set]
      refine wpV_bin (v := .bool false) (by rfl) rfl rfl rfl (fun W => (run_neqN ((stX m b).n) b _ _ W).trans (by rw [(decide_eq_false (fun h => h rfl))])) ?_
      simp only [putT, List.set]
      refine wpV_pick (v := .bool false) (by rfl) rfl rfl rfl ?_
      simp only [putT, List.set]
      refine wpV_nil (hLk _ (fun w49 Sw49 => ?_))
      clear hLk Lk
      simp only [List.take, List.drop]
      replace M := M.sees Sw49
      refine wpL_nil (no_panic ?_)
      refine hK47 _ _ ?_
      refine wp_cond_false rfl ?_
      refine wp_skip ?_
      refine hK46 _ _ ?_
      refine wp_seq_k (fun K50 hK50 => ?_)
      refine wp_region_seq ?_
      refine wpL_move (v := (.slice none 0 0)) (by rfl) (by rfl) (by rfl) ?_
      simp only [putT, List.set]
      refine wpL_move (v := .string (bs m)) (by rfl) (by rfl) (by rfl) ?_
      simp only [putT, List.set]
      refine wpL_move (v := .int .i64 0) (by rfl) (by rfl) (by rfl) ?_
      simp only [putT, List.set]
      refine wpL_move (v := .int .i64 ((b : Nat) : Int)) (by rfl) (by rfl) (by rfl) ?_
      simp only [putT, List.set]
      refine wpL_chunk 1 (by rfl) (fun Lk hLk => ?_)
      simp only [List.take, List.drop]
      refine wpV_subS (l := m) (lo := 0) (hi := b) (by rfl) rfl rfl rfl rfl Tryd.underlying9 (by omega) (by omega) ?_
      simp only [putT, List.set]
      refine wpV_nil (hLk _ (fun w52 Sw52 => ?_))
      clear hLk Lk
      simp only [List.take, List.drop]
      replace M := M.sees Sw52
      refine wpL_rowN (vs := [.string (bs ((m.take b).drop 0))]) (z := .string { data := #[] }) (bytes := 16) (by rfl) (by rfl) Tryd.underlying48 (by kernel_rfl) (by decide) (by kernel_rfl) (fun g53 w54 Sw54 Hg53 Bg53 => ?_)
      replace M := ((M.sees Sw54).add (N := 1) (cs := [.string (bs ((m.take b).drop 0))]) (M.ge Hg53) (M.fresh Hg53) Bg53 rfl)
      clear Bg53
      simp only [putT, List.set]
      refine wpL_append0 (m := 1) (news := [.string (bs ((m.take b).drop 0))]) (z := .string { data := #[] }) (bytes := 16) (by rfl) (by rfl) (by rfl) (by rfl) Tryd.underlying48 (by kernel_rfl) rfl rfl (by decide) (M.r 0 0 rfl rfl) (by decide) (by decide) (fun g55 g55c w56 Sw56 Hg55 Cg55 R T L => ?_)
      replace M := (M.sees Sw56).addR (M.ge Hg55) (M.fresh Hg55) T R L
      clear T R L
      rw [show [.string (bs ((m.take b).drop 0))] = scells [(m.take b).drop 0] from rfl] at M
      simp only [putT, List.set]
      refine wpL_assign (v := .slice (some ⟨g55, 0, none⟩) 1 g55c) (by rfl) (by rfl) (by rfl) ?_
      simp only [putT, List.set]
      refine wpL_nil (no_panic ?_)
      refine hK50 _ _ ?_
      refine wp_region_seq ?_
      refine wpL_chunk 1 (by rfl) (fun Lk hLk => ?_)
      simp only [List.take, List.drop]
      refine wpV_load (cs := [.int .u32 (((stX m b).h.a : Nat) : Int), .int .u32 (((stX m b).h.b : Nat) : Int), .int .u32 (((stX m b).h.c : Nat) : Int), .int .u32 (((stX m b).h.d : Nat) : Int), .int .u32 (((stX m b).h.e : Nat) : Int), .int .u32 (((stX m b).h.f : Nat) : Int), .int .u32 (((stX m b).h.g : Nat) : Int), .int .u32 (((stX m b).h.h : Nat) : Int)] ++ [.string (bs ((stX m b).b))] ++ [.int .u64 (((stX m b).n : Nat) : Int)]) (by rfl) rfl rfl (range_join (range_join (M.r 2 0 rfl rfl) (M.r 2 1 rfl rfl) (by simp [flen])) (M.r 2 2 rfl rfl) (by simp [flen])) (M.lt 2 rfl) Tryd.underlying29 rfl info29 ?_
      simp only [putT, List.set]
      refine wpV_nil (hLk _ (fun w58 Sw58 => ?_))
      clear hLk Lk
      simp only [List.take, List.drop]
      replace M := M.sees Sw58
      refine wpL_move (v := .int .i64 ((b : Nat) : Int)) (by rfl) (by rfl) (by rfl) ?_
      simp only [putT, List.set]
      refine wpL_store (g := g9) (off := 0) (n := 10) (cs := [.int .u32 (((stX m b).h.a : Nat) : Int), .int .u32 (((stX m b).h.b : Nat) : Int), .int .u32 (((stX m b).h.c : Nat) : Int), .int .u32 (((stX m b).h.d : Nat) : Int), .int .u32 (((stX m b).h.e : Nat) : Int), .int .u32 (((stX m b).h.f : Nat) : Int), .int .u32 (((stX m b).h.g : Nat) : Int), .int .u32 (((stX m b).h.h : Nat) : Int)] ++ [.string (bs ((stX m b).b))] ++ [.int .u64 (((stX m b).n : Nat) : Int)]) (by rfl) (by rfl) (by rfl) (by rfl) (by rfl) (M.t 5 rfl) (by simp [flen]) info29 (by simp [fone, Value.oneCell']) (fun w59 P R T => ?_)
      replace M := M.put (segs' := [(0, [.int .u32 (((stX m b).h.a : Nat) : Int), .int .u32 (((stX m b).h.b : Nat) : Int), .int .u32 (((stX m b).h.c : Nat) : Int), .int .u32 (((stX m b).h.d : Nat) : Int), .int .u32 (((stX m b).h.e : Nat) : Int), .int .u32 (((stX m b).h.f : Nat) : Int), .int .u32 (((stX m b).h.g : Nat) : Int), .int .u32 (((stX m b).h.h : Nat) : Int)]), (8, [.string (bs ((stX m b).b))]), (9, [.int .u64 (((stX m b).n : Nat) : Int)])]) 5 rfl P T (SegsOf.at R ⟨rfl, rfl, rfl, trivial⟩)
      simp only [List.set] at M
      refine wpL_assign (v := .int .i64 ((b : Nat) : Int)) (by rfl) (by rfl) (by rfl) ?_
      simp only [putT, List.set]
      refine wpL_nil (no_panic ?_)
      refine hK34 _ _ ?_
      refine wp_region_seq ?_
      refine wpL_chunk 1 (by rfl) (fun Lk hLk => ?_)
      simp only [List.take, List.drop]
      refine wpV_bin (v := .int .i64 1) (by rfl) rfl rfl rfl (fun W => run_add (by decide) W) ?_
      simp only [putT, List.set]
      refine wpV_nil (hLk _ (fun w61 Sw61 => ?_))
      clear hLk Lk
      simp only [List.take, List.drop]
      replace M := M.sees Sw61
      refine wpL_move (v := .int .i64 1) (by rfl) (by rfl) (by rfl) ?_
      simp only [putT, List.set]
      refine wpL_nil (no_panic ?_)
      refine Exists.intro _ ⟨Nat.lt_succ_self _, 1, b, ([(m.take b).drop 0]), g55, g55c, (fun q9 => (#[undef, undef, undef, undef, .bool false, undef, undef, undef, undef, .int .i64 (Lc.getD 0 0), .int .i64 ((b : Nat) : Int), .pointer (some ⟨g43, 0, none⟩), .int .i64 0, undef, undef, undef, undef, undef, undef, undef, undef, undef, undef, undef, undef, undef, undef, undef, undef, undef, undef, undef, undef, undef, .bool true, .pointer (some ⟨g25, 0, none⟩), .int .i64 (Lc.getD 0 0), .int .i64 (Lc.getD 0 0), .int .i64 0, .int .i64 (max (Lc.getD 0 0) 0), .string (bs m), .int .i64 ((m.length : Nat) : Int), .int .i64 ((b : Nat) : Int), .tuple #[.agg ([.int .u32 (((stX m b).h.a : Nat) : Int), .int .u32 (((stX m b).h.b : Nat) : Int), .int .u32 (((stX m b).h.c : Nat) : Int), .int .u32 (((stX m b).h.d : Nat) : Int), .int .u32 (((stX m b).h.e : Nat) : Int), .int .u32 (((stX m b).h.f : Nat) : Int), .int .u32 (((stX m b).h.g : Nat) : Int), .int .u32 (((stX m b).h.h : Nat) : Int)] ++ [.string (bs ((stX m b).b))] ++ [.int .u64 (((stX m b).n : Nat) : Int)] : List Value).toArray, .int .i64 0], .agg ([.int .u32 ((H0.a : Nat) : Int), .int .u32 ((H0.b : Nat) : Int), .int .u32 ((H0.c : Nat) : Int), .int .u32 ((H0.d : Nat) : Int), .int .u32 ((H0.e : Nat) : Int), .int .u32 ((H0.f : Nat) : Int), .int .u32 ((H0.g : Nat) : Int), .int .u32 ((H0.h : Nat) : Int)] ++ [.string (bs [])] ++ [.int .u64 ((0 : Nat) : Int)] : List Value).toArray, .string (bs m), .int .i64 0, .int .i64 ((b : Nat) : Int), .string (bs ((m.take b).drop 0)), .tuple #[.agg ([.int .u32 (((stX m b).h.a : Nat) : Int), .int .u32 (((stX m b).h.b : Nat) : Int), .int .u32 (((stX m b).h.c : Nat) : Int), .int .u32 (((stX m b).h.d : Nat) : Int), .int .u32 (((stX m b).h.e : Nat) : Int), .int .u32 (((stX m b).h.f : Nat) : Int), .int .u32 (((stX m b).h.g : Nat) : Int), .int .u32 (((stX m b).h.h : Nat) : Int)] ++ [.string (bs ((stX m b).b))] ++ [.int .u64 (((stX m b).n : Nat) : Int)] : List Value).toArray, .int .i64 0], .agg ([.int .u32 (((stX m b).h.a : Nat) : Int), .int .u32 (((stX m b).h.b : Nat) : Int), .int .u32 (((stX m b).h.c : Nat) : Int), .int .u32 (((stX m b).h.d : Nat) : Int), .int .u32 (((stX m b).h.e : Nat) : Int), .int .u32 (((stX m b).h.f : Nat) : Int), .int .u32 (((stX m b).h.g : Nat) : Int), .int .u32 (((stX m b).h.h : Nat) : Int)] ++ [.string (bs ((stX m b).b))] ++ [.int .u64 (((stX m b).n : Nat) : Int)] : List Value).toArray, .int .i64 0, .int .i64 0, .bool false, .bool false, .agg ([.int .u32 (((stX m b).h.a : Nat) : Int), .int .u32 (((stX m b).h.b : Nat) : Int), .int .u32 (((stX m b).h.c : Nat) : Int), .int .u32 (((stX m b).h.d : Nat) : Int), .int .u32 (((stX m b).h.e : Nat) : Int), .int .u32 (((stX m b).h.f : Nat) : Int), .int .u32 (((stX m b).h.g : Nat) : Int), .int .u32 (((stX m b).h.h : Nat) : Int)] ++ [.string (bs ((stX m b).b))] ++ [.int .u64 (((stX m b).n : Nat) : Int)] : List Value).toArray, .bool true, .bool false, .bool false, .bool false, .pointer (some ⟨g43, 9, none⟩), .int .u64 (((stX m b).n : Nat) : Int), .int .i64 ((b : Nat) : Int), .int .u64 ((b : Nat) : Int), .bool false, .bool false, (.slice none 0 0), .string (bs m), .int .i64 0, .int .i64 ((b : Nat) : Int), .string (bs ((m.take b).drop 0)), .slice (some ⟨g53, 0, none⟩) 1 1, .slice (some ⟨g55, 0, none⟩) 1 g55c, .agg ([.int .u32 (((stX m b).h.a : Nat) : Int), .int .u32 (((stX m b).h.b : Nat) : Int), .int .u32 (((stX m b).h.c : Nat) : Int), .int .u32 (((stX m b).h.d : Nat) : Int), .int .u32 (((stX m b).h.e : Nat) : Int), .int .u32 (((stX m b).h.f : Nat) : Int), .int .u32 (((stX m b).h.g : Nat) : Int), .int .u32 (((stX m b).h.h : Nat) : Int)] ++ [.string (bs ((stX m b).b))] ++ [.int .u64 (((stX m b).n : Nat) : Int)] : List Value).toArray, .int .i64 ((b : Nat) : Int), .int .i64 1] : Array Value).getD q9 undef), rfl, rfl, (M.pick [4, 5, 0] (by decide) rfl), Cg55, (Nat.le_refl _), (by omega), hb2, (fun e => hbe (by omega)), (flat_snoc [] (Nat.zero_le _) rfl), rfl⟩
  clear M
  obtain ⟨k, at0, Ps, r, rc, u28, rfl, rfl, M, Cr, hk1, hk4, hat, hend, hP, hPl⟩ := hI
  obtain ⟨w62, rfl⟩ : ∃ W8, W8 = W9 := ⟨_, rfl⟩
  refine wp_seq_k (fun K63 hK63 => ?_)
  refine wp_region_seq ?_
  refine wpL_chunk 1 (by rfl) (fun Lk hLk => ?_)
  simp only [List.take, List.drop]
  refine wpV_bin (v := .bool (decide (k < min cuts.length 20 + 1))) (by rfl) rfl rfl rfl (fun W => run_lssN k (min cuts.length 20 + 1) _ _ W) ?_
  simp only [putT, List.set]
  refine wpV_nil (hLk _ (fun w65 Sw65 => ?_))
  clear hLk Lk
  simp only [List.take, List.drop]
  replace M := M.sees Sw65
  refine wpL_nil (no_panic ?_)
  refine hK63 _ _ ?_
  refine wp_seq_k (fun K66 hK66 => ?_)
  cases hc67 : (decide (k < min cuts.length 20 + 1))
  · skip
    have ek : k = min cuts.length 20 + 1 := by have := of_decide_eq_false hc67; omega
    obtain rfl := hend ek
    have hPm : Ps.flatten = m := by rw [hP, List.take_length]
    have hfl : Ps.flatten.length ≤ 9223372036854775744 := by rw [hPm]; omega
    refine wp_cond_false rfl ?_
    refine wp_exit ?_
    refine hK14 _ _ ?_
    refine wp_seq_k (fun K68 hK68 => ?_)
    refine wp_region_seq ?_
    refine wpL_chunk 5 (by rfl) (fun Lk hLk => ?_)
    simp only [List.take, List.drop]
    refine wpV_load (cs := [.int .u32 (((stX m m.length).h.a : Nat) : Int), .int .u32 (((stX m m.length).h.b : Nat) : Int), .int .u32 (((stX m m.length).h.c : Nat) : Int), .int .u32 (((stX m m.length).h.d : Nat) : Int), .int .u32 (((stX m m.length).h.e : Nat) : Int), .int .u32 (((stX m m.length).h.f : Nat) : Int), .int .u32 (((stX m m.length).h.g : Nat) : Int), .int .u32 (((stX m m.length).h.h : Nat) : Int)] ++ [.string (bs ((stX m m.length).b))] ++ [.int .u64 (((stX m m.length).n : Nat) : Int)]) (by rfl) rfl rfl (range_join (range_join (M.r 1 0 rfl rfl) (M.r 1 1 rfl rfl) (by simp [flen])) (M.r 1 2 rfl rfl) (by simp [flen])) (M.lt 1 rfl) Tryd.underlying29 rfl info29 ?_
    simp only [putT, List.set]
    refine wpV_callf (v := .tuple #[.string (bs (sha m)), .int .i64 0]) (args := #[.agg ([.int .u32 (((stX m m.length).h.a : Nat) : Int), .int .u32 (((stX m m.length).h.b : Nat) : Int), .int .u32 (((stX m m.length).h.c : Nat) : Int), .int .u32 (((stX m m.length).h.d : Nat) : Int), .int .u32 (((stX m m.length).h.e : Nat) : Int), .int .u32 (((stX m m.length).h.f : Nat) : Int), .int .u32 (((stX m m.length).h.g : Nat) : Int), .int .u32 (((stX m m.length).h.h : Nat) : Int)] ++ [.string (bs ((stX m m.length).b))] ++ [.int .u64 (((stX m m.length).n : Nat) : Int)] : List Value).toArray]) (by rfl) rfl Tryd.func31 (by kernel_rfl) (by kernel_rfl) rfl (fun W hW => by have h9 : Calls Tryd.prog _ _ W _ := End_c (x := (stX m m.length)) (stX_ok m (by omega)) ((M.sees hW).oldL L0) ((M.sees hW).oldR R0_0 L0); rw [(st_end hml).1, (st_end hml).2] at h9; with_reducible exact h9) ?_
    simp only [putT, List.set]
    refine wpV_move (v := .tuple #[.string (bs (sha m)), .int .i64 0]) (by rfl) rfl rfl ?_
    simp only [putT, List.set]
    refine wpV_extract (v := .string (bs (sha m))) (by rfl) rfl rfl rfl ?_
    simp only [putT, List.set]
    refine wpV_extract (v := .int .i64 0) (by rfl) rfl rfl rfl ?_
    simp only [putT, List.set]
    refine wpV_nil (hLk _ (fun w70 Sw70 => ?_))
    clear hLk Lk
    simp only [List.take, List.drop]
    replace M := M.sees Sw70
    refine wpL_assign (v := .string (bs (sha m))) (by rfl) (by rfl) (by rfl) ?_
    simp only [putT, List.set]
    refine wpL_assign (v := .int .i64 0) (by rfl) (by rfl) (by rfl) ?_
    simp only [putT, List.set]
    refine wpL_nil (no_panic ?_)
    refine hK68 _ _ ?_
    refine wp_seq_k (fun K71 hK71 => ?_)
    refine wp_region_seq ?_
    refine wpL_chunk 8 (by rfl) (fun Lk hLk => ?_)
    simp only [List.take, List.drop]
    refine wpV_callf (v := .bool true) (args := #[]) (by rfl) rfl Tryd.func19 (by kernel_rfl) (by kernel_rfl) rfl (fun W hW => alive02_c ((M.sees hW).oldL L0) ((M.sees hW).oldR R0_0 L0)) ?_
    simp only [putT, List.set]
    refine wpV_move (v := .bool true) (by rfl) rfl rfl ?_
    simp only [putT, List.set]
    refine wpV_move (v := .int .i64 0) (by rfl) rfl rfl ?_
    simp only [putT, List.set]
    refine wpV_bin (v := .bool true) (by rfl) rfl rfl rfl (fun W => run_eql _ _ _ _ W) ?_
    simp only [putT, List.set]
    refine wpV_pick (v := .bool true) (by rfl) rfl rfl rfl ?_
    simp only [putT, List.set]
    refine wpV_move (v := .bool true) (by rfl) rfl rfl ?_
    simp only [putT, List.set]
    refine wpV_move (v := .string (bs (sha m))) (by rfl) rfl rfl ?_
    simp only [putT, List.set]
    refine wpV_move (v := .string (bs m)) (by rfl) rfl rfl ?_
    simp only [putT, List.set]
    refine wpV_nil (hLk _ (fun w73 Sw73 => ?_))
    clear hLk Lk
    simp only [List.take, List.drop]
    replace M := M.sees Sw73
    refine wpL_guard (by rfl) ?_
    refine wpL_rowN (vs := [.string (bs m)]) (z := .string { data := #[] }) (bytes := 16) (by rfl) (by rfl) Tryd.underlying48 (by kernel_rfl) (by decide) (by kernel_rfl) (fun g74 w75 Sw75 Hg74 Bg74 => ?_)
    replace M := ((M.sees Sw75).add (N := 1) (cs := [.string (bs m)]) (M.ge Hg74) (M.fresh Hg74) Bg74 rfl)
    clear Bg74
    simp only [putT, List.set]
    refine wpL_chunk 14 (by rfl) (fun Lk hLk => ?_)
    simp only [List.take, List.drop]
    refine wpV_callf (v := .string (bs (sha (m)))) (args := #[.slice (some ⟨g74, 0, none⟩) 1 1]) (by rfl) rfl Tryd.func20 (by kernel_rfl) (by kernel_rfl) rfl (fun W hW => (by have h := sum_c (ps := [m]) (w := W) (by simp) (getD_le1 (by omega)) ((M.sees hW).oldL L0) ((M.sees hW).oldR R0_0 L0) (Nat.le_refl _) ((M.sees hW).lt 0 rfl) ((M.sees hW).r 0 0 rfl rfl); rw [flat1] at h; exact h)) ?_
    simp only [putT, List.set]
    refine wpV_binS (v := .bool true) (by rfl) rfl rfl rfl (fun W => (run_eql_bs _ _ _ W).trans (by rw [(decide_eq_true rfl)])) ?_
    simp only [putT, List.set]
    refine wpV_pick (v := .bool true) (by rfl) rfl rfl rfl ?_
    simp only [putT, List.set]
    refine wpV_move (v := .bool true) (by rfl) rfl rfl ?_
    simp only [putT, List.set]
    refine wpV_move (v := .string (bs (sha m))) (by rfl) rfl rfl ?_
    simp only [putT, List.set]
    refine wpV_move (v := .slice (some ⟨r, 0, none⟩) k rc) (by rfl) rfl rfl ?_
    simp only [putT, List.set]
    refine wpV_callf (v := .string (bs (sha m))) (args := #[.slice (some ⟨r, 0, none⟩) k rc]) (by rfl) rfl Tryd.func20 (by kernel_rfl) (by kernel_rfl) rfl (fun W hW => (by have h := sum_c (ps := Ps) (w := W) (by omega) (fun k => Nat.le_trans (flat_le k) hfl) ((M.sees hW).oldL L0) ((M.sees hW).oldR R0_0 L0) (by rw [hPl]; exact Cr) ((M.sees hW).lt 3 rfl) ((M.sees hW).r 3 0 rfl rfl); rw [hPm, hPl] at h; exact h)) ?_
    simp only [putT, List.set]
    refine wpV_binS (v := .bool true) (by rfl) rfl rfl rfl (fun W => (run_eql_bs _ _ _ W).trans (by rw [show decide (sha m = sha m) = true from (decide_eq_true rfl)])) ?_
    simp only [putT, List.set]
    refine wpV_pick (v := .bool true) (by rfl) rfl rfl rfl ?_
    simp only [putT, List.set]
    refine wpV_move (v := .bool true) (by rfl) rfl rfl ?_
    simp only [putT, List.set]
    refine wpV_move (v := .string (bs (sha m))) (by rfl) rfl rfl ?_
    simp only [putT, List.set]
    refine wpV_lenS (by rfl) rfl rfl rfl Tryd.underlying9 ?_
    simp only [putT, List.set]
    refine wpV_bin (v := .bool true) (by rfl) rfl rfl rfl (fun W => (run_eqlN ((sha m).length) 32 _ _ W).trans (by rw [(decide_eq_true (sha_len _))])) ?_
    simp only [putT, List.set]
    refine wpV_pick (v := .bool true) (by rfl) rfl rfl rfl ?_
    simp only [putT, List.set]
    refine wpV_nil (hLk _ (fun w76 Sw76 => ?_))
    clear hLk Lk
    simp only [List.take, List.drop]
    replace M := M.sees Sw76
    refine wpL_assign (v := .bool true) (by rfl) (by rfl) (by rfl) ?_
    simp only [putT, List.set]
    refine wpL_nil (no_panic ?_)
    refine hK71 _ _ ?_
    refine wp_ret ?_
    repeat (first | with_reducible refine then_ret ?_ | with_reducible refine inblock_ret ?_)
    refine bodyPost_ret (v := .bool true) (res1 rfl (.tmp (by rfl))) rfl ?_
    have BE := M.below
    exact ⟨rfl, BE⟩
  · skip
    have hk : k < min cuts.length 20 + 1 := of_decide_eq_true hc67
    refine wp_cond_true rfl ?_
    refine wp_skip ?_
    refine hK66 _ _ ?_
    refine wp_seq_k (fun K77 hK77 => ?_)
    refine wp_block ?_
    refine wp_seq_k (fun K78 hK78 => ?_)
    refine wp_region_seq ?_
    refine wpL_chunk 2 (by rfl) (fun Lk hLk => ?_)
    simp only [List.take, List.drop]
    refine wpV_idxs (n := k) (by rfl) rfl rfl rfl Tryd.underlying47 info3 (by omega) ?_
    simp only [Nat.zero_add]
    simp only [putT, List.set]
    refine wpV_load1 (v := .int .i64 (Lc.getD k 0)) (by rfl) rfl rfl (zadd ((M.r 0 0 rfl rfl) _ _ (icells_get (l := Lc) (by omega)))) (M.lt 0 rfl) Tryd.underlying3 rfl ?_
    simp only [putT, List.set]
    refine wpV_nil (hLk _ (fun w80 Sw80 => ?_))
    clear hLk Lk
    simp only [List.take, List.drop]
    replace M := M.sees Sw80
    refine wpL_assign (v := .int .i64 (Lc.getD k 0)) (by rfl) (by rfl) (by rfl) ?_
    simp only [putT, List.set]
    refine wpL_nil (no_panic ?_)
    refine hK78 _ _ ?_
    refine wp_seq_k (fun K81 hK81 => ?_)
    obtain ⟨b, hbz, hb1, hb2⟩ : ∃ b : Nat, min (max ((Lc).getD k 0) ((at0 : Nat) : Int)) ((m.length : Nat) : Int) = (b : Int) ∧ at0 ≤ b ∧ b ≤ m.length := ⟨(min (max ((Lc).getD k 0) ((at0 : Nat) : Int)) ((m.length : Nat) : Int)).toNat, by omega, by omega, by omega⟩
    have hbe : k = min cuts.length 20 → b = m.length := fun e9 => piece_end hLe (by rw [hLl]; omega) hbz hb2
    refine wp_region_seq ?_
    refine wpL_move (v := .int .i64 (Lc.getD k 0)) (by rfl) (by rfl) (by rfl) ?_
    simp only [putT, List.set]
    refine wpL_move (v := .int .i64 ((at0 : Nat) : Int)) (by rfl) (by rfl) (by rfl) ?_
    simp only [putT, List.set]
    refine wpL_chunk 4 (by rfl) (fun Lk hLk => ?_)
    simp only [List.take, List.drop]
    refine wpV_maxZ (m := (Lc.getD k 0)) (n := ((at0 : Nat) : Int)) (e := max (Lc.getD k 0) ((at0 : Nat) : Int)) (by rfl) rfl rfl rfl rfl ?_
    simp only [putT, List.set]
    refine wpV_move (v := .string (bs m)) (by rfl) rfl rfl ?_
    simp only [putT, List.set]
    refine wpV_lenS (by rfl) rfl rfl rfl Tryd.underlying9 ?_
    simp only [putT, List.set]
    refine wpV_minZ (m := (max (Lc.getD k 0) ((at0 : Nat) : Int))) (n := ((m.length : Nat) : Int)) (e := ((b : Nat) : Int)) (by rfl) rfl rfl rfl hbz ?_
    simp only [putT, List.set]
    refine wpV_nil (hLk _ (fun w83 Sw83 => ?_))
    clear hLk Lk
    simp only [List.take, List.drop]
    replace M := M.sees Sw83
    refine wpL_assign (v := .int .i64 ((b : Nat) : Int)) (by rfl) (by rfl) (by rfl) ?_
    simp only [putT, List.set]
    refine wpL_nil (no_panic ?_)
    refine hK81 _ _ ?_
    refine wp_seq_k (fun K84 hK84 => ?_)
    obtain ⟨hs1, hs2⟩ := st_step hb1 hb2 hml
    refine wp_region_grow 10 [8] (by kernel_rfl) (by kernel_rfl) (by kernel_rfl) (fun Lk hLk => ?_)
    simp only [List.take, List.drop]
    refine wpV_load (cs := [.int .u32 (((stX m at0).h.a : Nat) : Int), .int .u32 (((stX m at0).h.b : Nat) : Int), .int .u32 (((stX m at0).h.c : Nat) : Int), .int .u32 (((stX m at0).h.d : Nat) : Int), .int .u32 (((stX m at0).h.e : Nat) : Int), .int .u32 (((stX m at0).h.f : Nat) : Int), .int .u32 (((stX m at0).h.g : Nat) : Int), .int .u32 (((stX m at0).h.h : Nat) : Int)] ++ [.string (bs ((stX m at0).b))] ++ [.int .u64 (((stX m at0).n : Nat) : Int)]) (by rfl) rfl rfl (range_join (range_join (M.r 1 0 rfl rfl) (M.r 1 1 rfl rfl) (by simp [flen])) (M.r 1 2 rfl rfl) (by simp [flen])) (M.lt 1 rfl) Tryd.underlying29 rfl info29 ?_
    simp only [putT, List.set]
    refine wpV_move (v := .string (bs m)) (by rfl) rfl rfl ?_
    simp only [putT, List.set]
    refine wpV_move (v := .int .i64 ((at0 : Nat) : Int)) (by rfl) rfl rfl ?_
    simp only [putT, List.set]
    refine wpV_move (v := .int .i64 ((b : Nat) : Int)) (by rfl) rfl rfl ?_
    simp only [putT, List.set]
    refine wpV_subS (l := m) (lo := at0) (hi := b) (by rfl) rfl rfl rfl rfl Tryd.underlying9 (by omega) (by omega) ?_
    simp only [putT, List.set]
    refine wpV_callf (v := .tuple #[.agg ([.int .u32 (((stX m b).h.a : Nat) : Int), .int .u32 (((stX m b).h.b : Nat) : Int), .int .u32 (((stX m b).h.c : Nat) : Int), .int .u32 (((stX m b).h.d : Nat) : Int), .int .u32 (((stX m b).h.e : Nat) : Int), .int .u32 (((stX m b).h.f : Nat) : Int), .int .u32 (((stX m b).h.g : Nat) : Int), .int .u32 (((stX m b).h.h : Nat) : Int)] ++ [.string (bs ((stX m b).b))] ++ [.int .u64 (((stX m b).n : Nat) : Int)] : List Value).toArray, .int .i64 0]) (args := #[.agg ([.int .u32 (((stX m at0).h.a : Nat) : Int), .int .u32 (((stX m at0).h.b : Nat) : Int), .int .u32 (((stX m at0).h.c : Nat) : Int), .int .u32 (((stX m at0).h.d : Nat) : Int), .int .u32 (((stX m at0).h.e : Nat) : Int), .int .u32 (((stX m at0).h.f : Nat) : Int), .int .u32 (((stX m at0).h.g : Nat) : Int), .int .u32 (((stX m at0).h.h : Nat) : Int)] ++ [.string (bs ((stX m at0).b))] ++ [.int .u64 (((stX m at0).n : Nat) : Int)] : List Value).toArray, .string (bs ((m.take b).drop at0))]) (by rfl) rfl Tryd.func29 (by kernel_rfl) (by kernel_rfl) rfl (fun W hW => by have h9 : Calls Tryd.prog _ _ W _ := write_c (x := (stX m at0)) (l := (m.take b).drop at0) (stX_ok m (by omega)) (by rw [List.length_drop, List.length_take]; omega) ((M.sees hW).oldL L0) ((M.sees hW).oldR R0_0 L0); rw [hs1, hs2] at h9; with_reducible exact h9) ?_
    simp only [putT, List.set]
    refine wpV_move (v := .tuple #[.agg ([.int .u32 (((stX m b).h.a : Nat) : Int), .int .u32 (((stX m b).h.b : Nat) : Int), .int .u32 (((stX m b).h.c : Nat) : Int), .int .u32 (((stX m b).h.d : Nat) : Int), .int .u32 (((stX m b).h.e : Nat) : Int), .int .u32 (((stX m b).h.f : Nat) : Int), .int .u32 (((stX m b).h.g : Nat) : Int), .int .u32 (((stX m b).h.h : Nat) : Int)] ++ [.string (bs ((stX m b).b))] ++ [.int .u64 (((stX m b).n : Nat) : Int)] : List Value).toArray, .int .i64 0]) (by rfl) rfl rfl ?_
    simp only [putT, List.set]
    refine wpV_extract (v := .agg ([.int .u32 (((stX m b).h.a : Nat) : Int), .int .u32 (((stX m b).h.b : Nat) : Int), .int .u32 (((stX m b).h.c : Nat) : Int), .int .u32 (((stX m b).h.d : Nat) : Int), .int .u32 (((stX m b).h.e : Nat) : Int), .int .u32 (((stX m b).h.f : Nat) : Int), .int .u32 (((stX m b).h.g : Nat) : Int), .int .u32 (((stX m b).h.h : Nat) : Int)] ++ [.string (bs ((stX m b).b))] ++ [.int .u64 (((stX m b).n : Nat) : Int)] : List Value).toArray) (by rfl) rfl rfl rfl ?_
    simp only [putT, List.set]
    refine wpV_extract (v := .int .i64 0) (by rfl) rfl rfl rfl ?_
    simp only [putT, List.set]
    refine wpV_alloc (by rfl) ?_
    refine wpV_nil (hLk.out _ ?_)
    clear hLk Lk
    simp only [List.take, List.drop]
    iterate 9 refine wpN_skip (by rfl) ?_
    refine wpN_new (t := 29) (cs := ([.int .u32 0, .int .u32 0, .int .u32 0, .int .u32 0, .int .u32 0, .int .u32 0, .int .u32 0, .int .u32 0, .string { data := #[] }, .int .u64 0]).toArray) (by rfl) (fun W => ?_) (fun g86 Hg86 ng86 => ?_)
    · go_simp
    simp only [putT, List.set]
    refine wpN_nil (fun w87 Sw87 hbs => ?_)
    replace M := ((M.sees Sw87).addS (N := 10) (cs := [.int .u32 0, .int .u32 0, .int .u32 0, .int .u32 0, .int .u32 0, .int .u32 0, .int .u32 0, .int .u32 0, .string { data := #[] }, .int .u64 0]) (segs := [(0, [.int .u32 0, .int .u32 0, .int .u32 0, .int .u32 0, .int .u32 0, .int .u32 0, .int .u32 0, .int .u32 0]), (8, [.string { data := #[] }]), (9, [.int .u64 0])]) (M.ge Hg86) (M.fresh Hg86) (hbs _ (.head _)) rfl ⟨rfl, rfl, rfl, trivial⟩)
    clear hbs ng86
    refine wpL_store (g := g86) (off := 0) (n := 10) (cs := [.int .u32 (((stX m b).h.a : Nat) : Int), .int .u32 (((stX m b).h.b : Nat) : Int), .int .u32 (((stX m b).h.c : Nat) : Int), .int .u32 (((stX m b).h.d : Nat) : Int), .int .u32 (((stX m b).h.e : Nat) : Int), .int .u32 (((stX m b).h.f : Nat) : Int), .int .u32 (((stX m b).h.g : Nat) : Int), .int .u32 (((stX m b).h.h : Nat) : Int)] ++ [.string (bs ((stX m b).b))] ++ [.int .u64 (((stX m b).n : Nat) : Int)]) (by rfl) (by rfl) (by rfl) (by rfl) (by rfl) (M.t 0 rfl) (by simp [flen]) info29 (by simp [fone, Value.oneCell']) (fun w88 P R T => ?_)
    replace M := M.put (segs' := [(0, [.int .u32 (((stX m b).h.a : Nat) : Int), .int .u32 (((stX m b).h.b : Nat) : Int), .int .u32 (((stX m b).h.c : Nat) : Int), .int .u32 (((stX m b).h.d : Nat) : Int), .int .u32 (((stX m b).h.e : Nat) : Int), .int .u32 (((stX m b).h.f : Nat) : Int), .int .u32 (((stX m b).h.g : Nat) : Int), .int .u32 (((stX m b).h.h : Nat) : Int)]), (8, [.string (bs ((stX m b).b))]), (9, [.int .u64 (((stX m b).n : Nat) : Int)])]) 0 rfl P T (SegsOf.at R ⟨rfl, rfl, rfl, trivial⟩)
    simp only [List.set] at M
    refine wpL_assign (v := .int .i64 0) (by rfl) (by rfl) (by rfl) ?_
    simp only [putT, List.set]
    refine wpL_nil (no_panic ?_)
    refine hK84 _ _ ?_
    refine wp_seq_k (fun K89 hK89 => ?_)
    refine wp_seq_k (fun K90 hK90 => ?_)
    refine wp_region_seq ?_
    refine wpL_move (v := .int .i64 0) (by rfl) (by rfl) (by rfl) ?_
    simp only [putT, List.set]
    refine wpL_chunk 13 (by rfl) (fun Lk hLk => ?_)
    simp only [List.take, List.drop]
    refine wpV_bin (v := .bool false) (by rfl) rfl rfl rfl (fun W => run_neq _ _ _ _ W) ?_
    simp only [putT, List.set]
    refine wpV_move (v := .bool false) (by rfl) rfl rfl ?_
    simp only [putT, List.set]
    refine wpV_load (cs := [.int .u32 (((stX m b).h.a : Nat) : Int), .int .u32 (((stX m b).h.b : Nat) : Int), .int .u32 (((stX m b).h.c : Nat) : Int), .int .u32 (((stX m b).h.d : Nat) : Int), .int .u32 (((stX m b).h.e : Nat) : Int), .int .u32 (((stX m b).h.f : Nat) : Int), .int .u32 (((stX m b).h.g : Nat) : Int), .int .u32 (((stX m b).h.h : Nat) : Int)] ++ [.string (bs ((stX m b).b))] ++ [.int .u64 (((stX m b).n : Nat) : Int)]) (by rfl) rfl rfl (range_join (range_join (M.r 0 0 rfl rfl) (M.r 0 1 rfl rfl) (by simp [flen])) (M.r 0 2 rfl rfl) (by simp [flen])) (M.lt 0 rfl) Tryd.underlying29 rfl info29 ?_
    simp only [putT, List.set]
    refine wpV_callf (v := .bool true) (args := #[.agg ([.int .u32 (((stX m b).h.a : Nat) : Int), .int .u32 (((stX m b).h.b : Nat) : Int), .int .u32 (((stX m b).h.c : Nat) : Int), .int .u32 (((stX m b).h.d : Nat) : Int), .int .u32 (((stX m b).h.e : Nat) : Int), .int .u32 (((stX m b).h.f : Nat) : Int), .int .u32 (((stX m b).h.g : Nat) : Int), .int .u32 (((stX m b).h.h : Nat) : Int)] ++ [.string (bs ((stX m b).b))] ++ [.int .u64 (((stX m b).n : Nat) : Int)] : List Value).toArray]) (by rfl) rfl Tryd.func32 (by kernel_rfl) (by kernel_rfl) rfl (fun W hW => by have h9 : Calls Tryd.prog _ _ W _ := xright_c (x := (stX m b)) (stX_ok m (by omega)); rw [(stX_right hb2 hml)] at h9; exact h9) ?_
    simp only [putT, List.set]
    refine wpV_not (b := true) (by rfl) rfl rfl ?_
    simp only [Bool.not_true, Bool.not_false]
    simp only [putT, List.set]
    refine wpV_pick (v := .bool false) (by rfl) rfl rfl rfl ?_
    simp only [putT, List.set]
    refine wpV_move (v := .bool false) (by rfl) rfl rfl ?_
    simp only [putT, List.set]
    refine wpV_val (v := .pointer (some ⟨g86, 9, none⟩)) (by rfl) (by rfl) (fun W hW => ?_) ?_
    · (go_simp; exact rfl)
    simp only [putT, List.set]
    refine wpV_load1 (v := .int .u64 (((stX m b).n : Nat) : Int)) (by rfl) rfl rfl (range_one (M.r 0 2 rfl rfl)) (M.lt 0 rfl) Tryd.underlying27 rfl ?_
    simp only [putT, List.set]
    refine wpV_move (v := .int .i64 ((b : Nat) : Int)) (by rfl) rfl rfl ?_
    simp only [putT, List.set]
    refine wpV_conv (d := .bool) (e := ((b : Nat) : Int)) (by rfl) rfl rfl (run_conv_int Tryd.underlying3 Tryd.underlying27 ((wrap64N _).trans (congrArg _ (Nat.mod_eq_of_lt (by omega))))) ?_
    simp only [putT, List.set]
    refine wpV_bin (v := .bool false) (by rfl) rfl rfl rfl (fun W => (run_neqN ((stX m b).n) b _ _ W).trans (by rw [(decide_eq_false (fun h => h rfl))])) ?_
    simp only [putT, List.set]
    refine wpV_pick (v := .bool false) (by rfl) rfl rfl rfl ?_
    simp only [putT, List.set]
    refine wpV_nil (hLk _ (fun w92 Sw92 => ?_))
    clear hLk Lk
    simp only [List.take, List.drop]
    replace M := M.sees Sw92
    refine wpL_nil (no_panic ?_)
    refine hK90 _ _ ?_
    refine wp_cond_false rfl ?_
    refine wp_skip ?_
    refine hK89 _ _ ?_
    refine wp_seq_k (fun K93 hK93 => ?_)
    refine wp_region_seq ?_
    refine wpL_move (v := .slice (some ⟨r, 0, none⟩) k rc) (by rfl) (by rfl) (by rfl) ?_
    simp only [putT, List.set]
    refine wpL_move (v := .string (bs m)) (by rfl) (by rfl) (by rfl) ?_
    simp only [putT, List.set]
    refine wpL_move (v := .int .i64 ((at0 : Nat) : Int)) (by rfl) (by rfl) (by rfl) ?_
    simp only [putT, List.set]
    refine wpL_move (v := .int .i64 ((b : Nat) : Int)) (by rfl) (by rfl) (by rfl) ?_
    simp only [putT, List.set]
    refine wpL_chunk 1 (by rfl) (fun Lk hLk => ?_)
    simp only [List.take, List.drop]
    refine wpV_subS (l := m) (lo := at0) (hi := b) (by rfl) rfl rfl rfl rfl Tryd.underlying9 (by omega) (by omega) ?_
    simp only [putT, List.set]
    refine wpV_nil (hLk _ (fun w95 Sw95 => ?_))
    clear hLk Lk
    simp only [List.take, List.drop]
    replace M := M.sees Sw95
    refine wpL_rowN (vs := [.string (bs ((m.take b).drop at0))]) (z := .string { data := #[] }) (bytes := 16) (by rfl) (by rfl) Tryd.underlying48 (by kernel_rfl) (by decide) (by kernel_rfl) (fun g96 w97 Sw97 Hg96 Bg96 => ?_)
    replace M := ((M.sees Sw97).add (N := 1) (cs := [.string (bs ((m.take b).drop at0))]) (M.ge Hg96) (M.fresh Hg96) Bg96 rfl)
    clear Bg96
    simp only [putT, List.set]
    refine wpL_append (n := k) (m := 1) (olds := scells Ps) (news := [.string (bs ((m.take b).drop at0))]) (z := .string { data := #[] }) (bytes := 16) (by rfl) (by rfl) (by rfl) (by rfl) Tryd.underlying48 (by kernel_rfl) rfl rfl (by rw [scells_len, hPl]) rfl (M.r 4 0 rfl rfl) (M.t 4 rfl) (M.lt 4 rfl) (M.r 0 0 rfl rfl) (by intro u hu; rw [List.mem_singleton.1 hu]; rfl) (by omega) (by simp only [maxLen]; omega) (fun g98 g98c w99 Sw99 Q Cg98 R T L => ?_)
    replace M := M.grow 4 rfl Sw99 Q R T L
    simp only [List.set] at M
    clear Q R T L
    rw [show scells Ps ++ [.string (bs ((m.take b).drop at0))] = scells (Ps ++ [(m.take b).drop at0]) from scells_app Ps [(m.take b).drop at0]] at M
    simp only [putT, List.set]
    refine wpL_assign (v := .slice (some ⟨g98, 0, none⟩) (k + 1) g98c) (by rfl) (by rfl) (by rfl) ?_
    simp only [putT, List.set]
    refine wpL_nil (no_panic ?_)
    refine hK93 _ _ ?_
    refine wp_region_seq ?_
    refine wpL_chunk 1 (by rfl) (fun Lk hLk => ?_)
    simp only [List.take, List.drop]
    refine wpV_load (cs := [.int .u32 (((stX m b).h.a : Nat) : Int), .int .u32 (((stX m b).h.b : Nat) : Int), .int .u32 (((stX m b).h.c : Nat) : Int), .int .u32 (((stX m b).h.d : Nat) : Int), .int .u32 (((stX m b).h.e : Nat) : Int), .int .u32 (((stX m b).h.f : Nat) : Int), .int .u32 (((stX m b).h.g : Nat) : Int), .int .u32 (((stX m b).h.h : Nat) : Int)] ++ [.string (bs ((stX m b).b))] ++ [.int .u64 (((stX m b).n : Nat) : Int)]) (by rfl) rfl rfl (range_join (range_join (M.r 1 0 rfl rfl) (M.r 1 1 rfl rfl) (by simp [flen])) (M.r 1 2 rfl rfl) (by simp [flen])) (M.lt 1 rfl) Tryd.underlying29 rfl info29 ?_
    simp only [putT, List.set]
    refine wpV_nil (hLk _ (fun w101 Sw101 => ?_))
    clear hLk Lk
    simp only [List.take, List.drop]
    replace M := M.sees Sw101
    refine wpL_move (v := .int .i64 ((b : Nat) : Int)) (by rfl) (by rfl) (by rfl) ?_
    simp only [putT, List.set]
    refine wpL_store (g := g9) (off := 0) (n := 10) (cs := [.int .u32 (((stX m b).h.a : Nat) : Int), .int .u32 (((stX m b).h.b : Nat) : Int), .int .u32 (((stX m b).h.c : Nat) : Int), .int .u32 (((stX m b).h.d : Nat) : Int), .int .u32 (((stX m b).h.e : Nat) : Int), .int .u32 (((stX m b).h.f : Nat) : Int), .int .u32 (((stX m b).h.g : Nat) : Int), .int .u32 (((stX m b).h.h : Nat) : Int)] ++ [.string (bs ((stX m b).b))] ++ [.int .u64 (((stX m b).n : Nat) : Int)]) (by rfl) (by rfl) (by rfl) (by rfl) (by rfl) (M.t 3 rfl) (by simp [flen]) info29 (by simp [fone, Value.oneCell']) (fun w102 P R T => ?_)
    replace M := M.put (segs' := [(0, [.int .u32 (((stX m b).h.a : Nat) : Int), .int .u32 (((stX m b).h.b : Nat) : Int), .int .u32 (((stX m b).h.c : Nat) : Int), .int .u32 (((stX m b).h.d : Nat) : Int), .int .u32 (((stX m b).h.e : Nat) : Int), .int .u32 (((stX m b).h.f : Nat) : Int), .int .u32 (((stX m b).h.g : Nat) : Int), .int .u32 (((stX m b).h.h : Nat) : Int)]), (8, [.string (bs ((stX m b).b))]), (9, [.int .u64 (((stX m b).n : Nat) : Int)])]) 3 rfl P T (SegsOf.at R ⟨rfl, rfl, rfl, trivial⟩)
    simp only [List.set] at M
    refine wpL_assign (v := .int .i64 ((b : Nat) : Int)) (by rfl) (by rfl) (by rfl) ?_
    simp only [putT, List.set]
    refine wpL_nil (no_panic ?_)
    refine hK77 _ _ ?_
    refine wp_region_seq ?_
    refine wpL_chunk 1 (by rfl) (fun Lk hLk => ?_)
    simp only [List.take, List.drop]
    refine wpV_bin (v := .int .i64 ((k + 1 : Nat) : Int)) (by rfl) rfl rfl rfl (fun W => run_add (by simp only [IntKind.wrap_i64]; omega) W) ?_
    simp only [putT, List.set]
    refine wpV_nil (hLk _ (fun w104 Sw104 => ?_))
    clear hLk Lk
    simp only [List.take, List.drop]
    replace M := M.sees Sw104
    refine wpL_move (v := .int .i64 ((k + 1 : Nat) : Int)) (by rfl) (by rfl) (by rfl) ?_
    simp only [putT, List.set]
    refine wpL_nil (no_panic ?_)
    refine Exists.intro _ ⟨?_, (k + 1), b, (Ps ++ [(m.take b).drop at0]), g98, g98c, (fun q9 => (#[undef, undef, undef, undef, u28 4, undef, undef, undef, undef, .int .i64 (Lc.getD k 0), .int .i64 ((b : Nat) : Int), .pointer (some ⟨g86, 0, none⟩), .int .i64 0, undef, undef, undef, undef, undef, undef, undef, undef, undef, undef, undef, undef, undef, undef, undef, undef, undef, undef, undef, undef, undef, .bool true, .pointer (some ⟨g25, k, none⟩), .int .i64 (Lc.getD k 0), .int .i64 (Lc.getD k 0), .int .i64 ((at0 : Nat) : Int), .int .i64 (max (Lc.getD k 0) ((at0 : Nat) : Int)), .string (bs m), .int .i64 ((m.length : Nat) : Int), .int .i64 ((b : Nat) : Int), .tuple #[.agg ([.int .u32 (((stX m b).h.a : Nat) : Int), .int .u32 (((stX m b).h.b : Nat) : Int), .int .u32 (((stX m b).h.c : Nat) : Int), .int .u32 (((stX m b).h.d : Nat) : Int), .int .u32 (((stX m b).h.e : Nat) : Int), .int .u32 (((stX m b).h.f : Nat) : Int), .int .u32 (((stX m b).h.g : Nat) : Int), .int .u32 (((stX m b).h.h : Nat) : Int)] ++ [.string (bs ((stX m b).b))] ++ [.int .u64 (((stX m b).n : Nat) : Int)] : List Value).toArray, .int .i64 0], .agg ([.int .u32 (((stX m at0).h.a : Nat) : Int), .int .u32 (((stX m at0).h.b : Nat) : Int), .int .u32 (((stX m at0).h.c : Nat) : Int), .int .u32 (((stX m at0).h.d : Nat) : Int), .int .u32 (((stX m at0).h.e : Nat) : Int), .int .u32 (((stX m at0).h.f : Nat) : Int), .int .u32 (((stX m at0).h.g : Nat) : Int), .int .u32 (((stX m at0).h.h : Nat) : Int)] ++ [.string (bs ((stX m at0).b))] ++ [.int .u64 (((stX m at0).n : Nat) : Int)] : List Value).toArray, .string (bs m), .int .i64 ((at0 : Nat) : Int), .int .i64 ((b : Nat) : Int), .string (bs ((m.take b).drop at0)), .tuple #[.agg ([.int .u32 (((stX m b).h.a : Nat) : Int), .int .u32 (((stX m b).h.b : Nat) : Int), .int .u32 (((stX m b).h.c : Nat) : Int), .int .u32 (((stX m b).h.d : Nat) : Int), .int .u32 (((stX m b).h.e : Nat) : Int), .int .u32 (((stX m b).h.f : Nat) : Int), .int .u32 (((stX m b).h.g : Nat) : Int), .int .u32 (((stX m b).h.h : Nat) : Int)] ++ [.string (bs ((stX m b).b))] ++ [.int .u64 (((stX m b).n : Nat) : Int)] : List Value).toArray, .int .i64 0], .agg ([.int .u32 (((stX m b).h.a : Nat) : Int), .int .u32 (((stX m b).h.b : Nat) : Int), .int .u32 (((stX m b).h.c : Nat) : Int), .int .u32 (((stX m b).h.d : Nat) : Int), .int .u32 (((stX m b).h.e : Nat) : Int), .int .u32 (((stX m b).h.f : Nat) : Int), .int .u32 (((stX m b).h.g : Nat) : Int), .int .u32 (((stX m b).h.h : Nat) : Int)] ++ [.string (bs ((stX m b).b))] ++ [.int .u64 (((stX m b).n : Nat) : Int)] : List Value).toArray, .int .i64 0, .int .i64 0, .bool false, .bool false, .agg ([.int .u32 (((stX m b).h.a : Nat) : Int), .int .u32 (((stX m b).h.b : Nat) : Int), .int .u32 (((stX m b).h.c : Nat) : Int), .int .u32 (((stX m b).h.d : Nat) : Int), .int .u32 (((stX m b).h.e : Nat) : Int), .int .u32 (((stX m b).h.f : Nat) : Int), .int .u32 (((stX m b).h.g : Nat) : Int), .int .u32 (((stX m b).h.h : Nat) : Int)] ++ [.string (bs ((stX m b).b))] ++ [.int .u64 (((stX m b).n : Nat) : Int)] : List Value).toArray, .bool true, .bool false, .bool false, .bool false, .pointer (some ⟨g86, 9, none⟩), .int .u64 (((stX m b).n : Nat) : Int), .int .i64 ((b : Nat) : Int), .int .u64 ((b : Nat) : Int), .bool false, .bool false, .slice (some ⟨r, 0, none⟩) k rc, .string (bs m), .int .i64 ((at0 : Nat) : Int), .int .i64 ((b : Nat) : Int), .string (bs ((m.take b).drop at0)), .slice (some ⟨g96, 0, none⟩) 1 1, .slice (some ⟨g98, 0, none⟩) (k + 1) g98c, .agg ([.int .u32 (((stX m b).h.a : Nat) : Int), .int .u32 (((stX m b).h.b : Nat) : Int), .int .u32 (((stX m b).h.c : Nat) : Int), .int .u32 (((stX m b).h.d : Nat) : Int), .int .u32 (((stX m b).h.e : Nat) : Int), .int .u32 (((stX m b).h.f : Nat) : Int), .int .u32 (((stX m b).h.g : Nat) : Int), .int .u32 (((stX m b).h.h : Nat) : Int)] ++ [.string (bs ((stX m b).b))] ++ [.int .u64 (((stX m b).n : Nat) : Int)] : List Value).toArray, .int .i64 ((b : Nat) : Int), .int .i64 ((k + 1 : Nat) : Int)] : Array Value).getD q9 undef), rfl, rfl, (M.pick [2, 3, 4] (by decide) rfl), Cg98, (by omega), (by omega), hb2, (fun e => hbe (by omega)), (flat_snoc Ps hb1 hP), (by rw [List.length_append, hPl]; rfl)⟩
    omega
end Go.Proofs.Yb
