import Derived.WalkKit
import Derived.WalkSpells
import Derived.Laws.Pointers
import Derived.RowKit3
import Derived.Below
import Derived.Outline
import Derived.LoopN
import Derived.Lib.Hide
import Derived.Handy
import Derived.Laws.Bits64b
import Derived.Test.YticcchgckljlnaaDoorTr17
import Derived.Test.YticcchgckljlnaaDoorTr4
set_option linter.unusedSimpArgs false
set_option linter.unusedVariables false
namespace Go.Proofs.Yb
open Go Go.RowKit Go.Proofs.Num
attribute [local irreducible] wpV wpN wpList
def sumM (m : Nat) (ps : List (List UInt8)) : List UInt8 := if m = 0 then sha [] else sumP ps
theorem Sum_m {ps : List (List UInt8)} {ap : Option Addr} {np cp : Nat} {m : Nat} {w : World} (hp : ps.length ≤ 4611686018427387904) (hmay : mayG ((m : Nat) : Int) ps = true) (hpl : ps.length = ones m) (h32 : ∀ s ∈ ps, s.length = 32) (L0 : 0 < w.heap.size) (R0_0 : w.rangeAt 0 0 kcells) (Hp : RowA w ap np cp (scells ps)) :
    Calls Tryd.prog 60 #[.agg [.int .i64 ((m : Nat) : Int), .slice ap np cp].toArray] w fun e w' => e = .returned (.tuple #[.string (bs (sumM m ps)), .int .i64 0]) ∧ Below w.heap.size w w' := by
  unfold sumM
  by_cases h0 : m = 0
  · subst h0
    rw [if_pos rfl]
    exact Sum_z hp hmay L0 R0_0 Hp
  · rw [if_neg h0]
    exact Sum_go hp hmay (by omega) (by rw [hpl]; exact ones_one_le h0) h32 L0 R0_0 Hp
theorem rSum_m {ps : List (List UInt8)} {ap : Option Addr} {np cp : Nat} {m : Nat} {w : World} (hp : ps.length ≤ 4611686018427387904) (hpl : ps.length = ones m) (h32 : ∀ s ∈ ps, s.length = 32) (Hp : RowA w ap np cp (scells ps)) :
    Calls Tryd.prog 62 #[.agg [.int .i64 ((m : Nat) : Int), .slice ap np cp].toArray] w fun e w' => e = .returned (.string (bs (sumM m ps))) ∧ Below w.heap.size w w' := by
  unfold sumM
  by_cases h0 : m = 0
  · subst h0
    rw [if_pos rfl]
    exact rSum_z Hp
  · rw [if_neg h0]
    exact rSum_go (by omega) (by rw [hpl]; exact ones_one_le h0) h32 hp Hp
set_option maxHeartbeats 1000000 in
theorem part_c {x : Int} {vps : Value} {ps : List (List UInt8)} {w : World} (hvps : RowS w vps ps) :
    Calls Tryd.prog 59 #[.agg [.int .i64 x, vps].toArray] w fun e w' => ∃ v, e = .returned v ∧ (∃ g c, v = .agg [.int .i64 x, .slice (some ⟨g, 0, none⟩) (cutsS 80 40 ps).length c].toArray ∧ (cutsS 80 40 ps).length ≤ c ∧ Mem [] w w' [⟨g, c, [(0, scells (cutsS 80 40 ps))]⟩]) ∧ Below w.heap.size w w' := by
  go_enter Tryd.func59, Tryd.ntmps59
  have M := Mem.start w
  refine wp_seq_k (fun K1 hK1 => ?_)
  refine wp_region_seq ?_
  refine wpL_var (t := 66) (cs := [.int .i64 x, vps]) (by rfl) (fun W => ?_) (fun g3 w4 Sw4 Hg3 Bg3 => ?_)
  · (first | rfl | go_simp)
  replace M := ((M.sees Sw4).add (N := 2) (cs := [.int .i64 x, vps]) (M.ge Hg3) (M.fresh Hg3) Bg3 rfl)
  clear Bg3
  simp only [putT, List.set]
  refine wpL_var (t := 66) (cs := [.int .i64 0, .slice none 0 0]) (by rfl) (fun W => ?_) (fun g5 w6 Sw6 Hg5 Bg5 => ?_)
  · go_simp
  replace M := ((M.sees Sw6).add (N := 2) (cs := [.int .i64 0, .slice none 0 0]) (M.ge Hg5) (M.fresh Hg5) Bg5 rfl)
  clear Bg5
  simp only [putT, List.set]
  refine wpL_nil (no_panic ?_)
  refine hK1 _ _ ?_
  refine wp_seq_k (fun K7 hK7 => ?_)
  refine wp_region_seq ?_
  refine wpL_chunk 2 (by rfl) (fun Lk hLk => ?_)
  simp only [List.take, List.drop]
  refine wpV_val (v := .pointer (some ⟨g3, 1, none⟩)) (by rfl) (by rfl) (fun W hW => ?_) ?_
  · (go_simp; exact rfl)
  simp only [putT, List.set]
  refine wpV_load1 (v := vps) (by rfl) rfl rfl (range_one (range_sub (M.r 1 0 rfl rfl) 1 1 1 (xs := [vps]) rfl rfl)) (M.lt 1 rfl) Tryd.underlying48 rfl ?_
  simp only [putT, List.set]
  refine wpV_nil (hLk _ (fun w9 Sw9 => ?_))
  clear hLk Lk
  simp only [List.take, List.drop]
  replace M := M.sees Sw9
  refine wpL_callE (f := 36) (args := #[vps]) (R := MemRow w9 ((cutsS 80 40 ps).length) (scells (cutsS 80 40 ps))) (by rfl) (by rfl) rfl Tryd.func36 (by kernel_rfl) (by kernel_rfl) (few_c (hvps.mem M)) (fun v9 w11 hv9 Sw11 => ?_)
  obtain ⟨g10, g10c, rfl, Cg10, M9⟩ := hv9
  replace M := M.call1 M9
  simp only [putT, List.set]
  refine wpL_chunk 1 (by rfl) (fun Lk hLk => ?_)
  simp only [List.take, List.drop]
  refine wpV_val (v := .pointer (some ⟨g3, 1, none⟩)) (by rfl) (by rfl) (fun W hW => ?_) ?_
  · (go_simp; exact rfl)
  simp only [putT, List.set]
  refine wpV_nil (hLk _ (fun w12 Sw12 => ?_))
  clear hLk Lk
  simp only [List.take, List.drop]
  replace M := M.sees Sw12
  refine wpL_store1 (g := g3) (off := 1) (n := 2) (v := .slice (some ⟨g10, 0, none⟩) ((cutsS 80 40 ps).length) g10c) (by rfl) (by rfl) (by rfl) (by rfl) (by rfl) (M.t 2 rfl) (by decide) info48 rfl (fun w13 P R T => ?_)
  replace M := M.put1 (j := 1) 2 rfl P R T rfl
  simp only [List.set] at M
  refine wpL_nil (no_panic ?_)
  refine hK7 _ _ ?_
  refine wp_seq_k (fun K14 hK14 => ?_)
  refine wp_region_seq ?_
  refine wpL_chunk 1 (by rfl) (fun Lk hLk => ?_)
  simp only [List.take, List.drop]
  refine wpV_load (cs := [.int .i64 x, .slice (some ⟨g10, 0, none⟩) ((cutsS 80 40 ps).length) g10c]) (by rfl) rfl rfl (M.r 2 0 rfl rfl) (M.lt 2 rfl) Tryd.underlying66 rfl info66 ?_
  simp only [putT, List.set]
  refine wpV_nil (hLk _ (fun w16 Sw16 => ?_))
  clear hLk Lk
  simp only [List.take, List.drop]
  replace M := M.sees Sw16
  refine wpL_store (g := g5) (off := 0) (n := 2) (cs := [.int .i64 x, .slice (some ⟨g10, 0, none⟩) ((cutsS 80 40 ps).length) g10c]) (by rfl) (by rfl) (by rfl) (by rfl) (by rfl) (M.t 1 rfl) (by simp [flen]) info66 (by simp [fone, Value.oneCell']) (fun w17 P R T => ?_)
  replace M := M.putS 1 0 rfl P R T rfl ⟨.inl rfl, trivial⟩
  simp only [List.set] at M
  refine wpL_nil (no_panic ?_)
  refine hK14 _ _ ?_
  refine wp_ret ?_
  repeat (first | with_reducible refine then_ret ?_ | with_reducible refine inblock_ret ?_)
  refine bodyPost_ret (v := .agg ([.int .i64 x, .slice (some ⟨g10, 0, none⟩) ((cutsS 80 40 ps).length) g10c]).toArray) (res1 rfl (.cell (by rfl) (run_loadVar_mid _ _ _ _ ([.int .i64 x, .slice (some ⟨g10, 0, none⟩) ((cutsS 80 40 ps).length) g10c]) _ (M.r 1 0 rfl rfl) Tryd.underlying66 rfl info66))) rfl ?_
  have BE := M.below
  exact ⟨_, rfl, ⟨g10, g10c, rfl, Cg10, M.pick [0] (by decide) rfl⟩, BE⟩
set_option maxRecDepth 100000 in
set_option maxHeartbeats 4000000 in
theorem goes_A {vps vls : Value} {ps ls Pl Ql : List (List UInt8)} {x : Int} {w : World} (hP : cutsS 80 40 ps = Pl) (hQ : cutsS 80 40 ls = Ql) (hPL : Pl.length ≤ 80) (hQL : Ql.length ≤ 80) (hmay : mayG x Pl = false) (L0 : 0 < w.heap.size) (R0_0 : w.rangeAt 0 0 kcells) (hvps : RowS w vps ps) (hvls : RowS w vls ls) :
    Calls Tryd.prog 13 #[.agg [.int .i64 x, vps].toArray, vls] w fun e w' => e = .returned (.bool true) ∧ Below w.heap.size w w' := by
  go_enter Tryd.func13, Tryd.ntmps13
  have M := Mem.start w
  refine wp_seq_k (fun K1 hK1 => ?_)
  refine wp_region_seq ?_
  refine wpL_var (t := 66) (cs := [.int .i64 x, vps]) (by rfl) (fun W => ?_) (fun g3 w4 Sw4 Hg3 Bg3 => ?_)
  · (first | rfl | go_simp)
  replace M := ((M.sees Sw4).add (N := 2) (cs := [.int .i64 x, vps]) (M.ge Hg3) (M.fresh Hg3) Bg3 rfl)
  clear Bg3
  simp only [putT, List.set]
  refine wpL_assign (v := .bool false) (by rfl) (by rfl) (by rfl) ?_
  simp only [putT, List.set]
  refine wpL_nil (no_panic ?_)
  refine hK1 _ _ ?_
  refine wp_seq_k (fun K5 hK5 => ?_)
  refine wp_region_seq ?_
  refine wpL_chunk 1 (by rfl) (fun Lk hLk => ?_)
  simp only [List.take, List.drop]
  refine wpV_load (cs := [.int .i64 x, vps]) (by rfl) rfl rfl (M.r 0 0 rfl rfl) (M.lt 0 rfl) Tryd.underlying66 rfl info66 ?_
  simp only [putT, List.set]
  refine wpV_nil (hLk _ (fun w7 Sw7 => ?_))
  clear hLk Lk
  simp only [List.take, List.drop]
  replace M := M.sees Sw7
  refine wpL_callE (f := 59) (args := #[.agg ([.int .i64 x, vps]).toArray]) (R := fun v9 W9 => ∃ g9 g9c, v9 = .agg ([.int .i64 x, .slice (some ⟨g9, 0, none⟩) ((cutsS 80 40 ps).length) g9c]).toArray ∧ (cutsS 80 40 ps).length ≤ g9c ∧ Mem [] w7 W9 [⟨g9, g9c, [(0, scells (cutsS 80 40 ps))]⟩]) (by rfl) (by rfl) rfl Tryd.func59 (by kernel_rfl) (by kernel_rfl) (by have h9 := part_c (x := x) (hvps.mem M); exact h9) (fun v9 w8 hv9 Sw8 => ?_)
  obtain ⟨g9, g9c, rfl, Cg9, M9⟩ := hv9
  replace M := M.call1 M9
  clear Sw8
  simp only [putT, List.set]
  refine wpL_move (v := vls) (by rfl) (by rfl) (by rfl) ?_
  simp only [putT, List.set]
  refine wpL_callE (f := 36) (args := #[vls]) (R := MemRow w8 ((cutsS 80 40 ls).length) (scells (cutsS 80 40 ls))) (by rfl) (by rfl) rfl Tryd.func36 (by kernel_rfl) (by kernel_rfl) (few_c (hvls.mem M)) (fun v9 w11 hv9 Sw11 => ?_)
  obtain ⟨g10, g10c, rfl, Cg10, M9⟩ := hv9
  replace M := M.call1 M9
  simp only [putT, List.set]
  refine wpL_store (g := g3) (off := 0) (n := 2) (cs := [.int .i64 x, .slice (some ⟨g9, 0, none⟩) ((cutsS 80 40 ps).length) g9c]) (by rfl) (by rfl) (by rfl) (by rfl) (by rfl) (M.t 2 rfl) (by simp [flen]) info66 (by simp [fone, Value.oneCell']) (fun w12 P R T => ?_)
  replace M := M.putS 2 0 rfl P R T rfl ⟨.inl rfl, trivial⟩
  simp only [List.set] at M
  refine wpL_assign (v := .slice (some ⟨g10, 0, none⟩) ((cutsS 80 40 ls).length) g10c) (by rfl) (by rfl) (by rfl) ?_
  simp only [putT, List.set]
  refine wpL_nil (no_panic ?_)
  simp only [hP] at M
  simp only [hQ] at M
  simp only [hP, hQ]
  try rw [hP] at Cg10
  try rw [hQ] at Cg10
  try rw [hP] at Cg9
  try rw [hQ] at Cg9
  try rw [hP] at Cg3
  try rw [hQ] at Cg3
  refine hK5 _ _ ?_
  refine wp_seq_k (fun K13 hK13 => ?_)
  refine wp_region_seq ?_
  refine wpL_chunk 6 (by rfl) (fun Lk hLk => ?_)
  simp only [List.take, List.drop]
  refine wpV_load (cs := [.int .i64 x, .slice (some ⟨g9, 0, none⟩) Pl.length g9c]) (by rfl) rfl rfl (M.r 2 0 rfl rfl) (M.lt 2 rfl) Tryd.underlying66 rfl info66 ?_
  simp only [putT, List.set]
  refine wpV_move (v := .slice (some ⟨g10, 0, none⟩) Ql.length g10c) (by rfl) rfl rfl ?_
  simp only [putT, List.set]
  refine wpV_callf (v := .tuple #[.agg ([.int .i64 0, .slice none 0 0]).toArray, .int .i64 1]) (args := #[.agg ([.int .i64 x, .slice (some ⟨g9, 0, none⟩) Pl.length g9c]).toArray, .slice (some ⟨g10, 0, none⟩) Ql.length g10c]) (by rfl) rfl Tryd.func55 (by kernel_rfl) (by kernel_rfl) rfl (fun W hW => by with_reducible exact Add_no1 (ps := Pl) (ls := Ql) (x := x) (by omega) hmay (RowA.of ((M.sees hW).r 1 0 rfl rfl) ((M.sees hW).lt 1 rfl) (scells_len _).symm Cg9) (RowA.of ((M.sees hW).r 0 0 rfl rfl) ((M.sees hW).lt 0 rfl) (scells_len _).symm Cg10)) ?_
  simp only [putT, List.set]
  refine wpV_move (v := .tuple #[.agg ([.int .i64 0, .slice none 0 0]).toArray, .int .i64 1]) (by rfl) rfl rfl ?_
  simp only [putT, List.set]
  refine wpV_extract (v := .agg ([.int .i64 0, .slice none 0 0]).toArray) (by rfl) rfl rfl rfl ?_
  simp only [putT, List.set]
  refine wpV_extract (v := .int .i64 1) (by rfl) rfl rfl rfl ?_
  simp only [putT, List.set]
  refine wpV_nil (hLk _ (fun w15 Sw15 => ?_))
  clear hLk Lk
  simp only [List.take, List.drop]
  replace M := M.sees Sw15
  refine wpL_var (t := 66) (cs := [.int .i64 0, .slice none 0 0]) (by rfl) (fun W => ?_) (fun g16 w17 Sw17 Hg16 Bg16 => ?_)
  · go_simp
  replace M := ((M.sees Sw17).add (N := 2) (cs := [.int .i64 0, .slice none 0 0]) (M.ge Hg16) (M.fresh Hg16) Bg16 rfl)
  clear Bg16
  simp only [putT, List.set]
  refine wpL_store (g := g16) (off := 0) (n := 2) (cs := [.int .i64 0, .slice none 0 0]) (by rfl) (by rfl) (by rfl) (by rfl) (by rfl) (M.t 0 rfl) (by simp [flen]) info66 (by simp [fone, Value.oneCell']) (fun w18 P R T => ?_)
  replace M := M.putS 0 0 rfl P R T rfl ⟨.inl rfl, trivial⟩
  simp only [List.set] at M
  refine wpL_assign (v := .int .i64 1) (by rfl) (by rfl) (by rfl) ?_
  simp only [putT, List.set]
  refine wpL_nil (no_panic ?_)
  refine hK13 _ _ ?_
  refine wp_seq_k (fun K19 hK19 => ?_)
  refine wp_region_seq ?_
  refine wpL_chunk 5 (by rfl) (fun Lk hLk => ?_)
  simp only [List.take, List.drop]
  refine wpV_load (cs := [.int .i64 x, .slice (some ⟨g9, 0, none⟩) Pl.length g9c]) (by rfl) rfl rfl (M.r 3 0 rfl rfl) (M.lt 3 rfl) Tryd.underlying66 rfl info66 ?_
  simp only [putT, List.set]
  refine wpV_callf (v := .tuple #[.string (bs ([])), .int .i64 1]) (args := #[.agg ([.int .i64 x, .slice (some ⟨g9, 0, none⟩) Pl.length g9c]).toArray]) (by rfl) rfl Tryd.func60 (by kernel_rfl) (by kernel_rfl) rfl (fun W hW => by with_reducible exact Sum_no (ps := Pl) (x := x) (by omega) hmay (RowA.of ((M.sees hW).r 2 0 rfl rfl) ((M.sees hW).lt 2 rfl) (scells_len _).symm Cg9)) ?_
  simp only [putT, List.set]
  refine wpV_move (v := .tuple #[.string (bs ([])), .int .i64 1]) (by rfl) rfl rfl ?_
  simp only [putT, List.set]
  refine wpV_extract (v := .string (bs ([]))) (by rfl) rfl rfl rfl ?_
  simp only [putT, List.set]
  refine wpV_extract (v := .int .i64 1) (by rfl) rfl rfl rfl ?_
  simp only [putT, List.set]
  refine wpV_nil (hLk _ (fun w21 Sw21 => ?_))
  clear hLk Lk
  simp only [List.take, List.drop]
  replace M := M.sees Sw21
  refine wpL_assign (v := .string (bs ([]))) (by rfl) (by rfl) (by rfl) ?_
  simp only [putT, List.set]
  refine wpL_assign (v := .int .i64 1) (by rfl) (by rfl) (by rfl) ?_
  simp only [putT, List.set]
  refine wpL_nil (no_panic ?_)
  refine hK19 _ _ ?_
  refine wp_seq_k (fun K22 hK22 => ?_)
  refine wp_seq_k (fun K23 hK23 => ?_)
  refine wp_region_seq ?_
  refine wpL_chunk 3 (by rfl) (fun Lk hLk => ?_)
  simp only [List.take, List.drop]
  refine wpV_load (cs := [.int .i64 x, .slice (some ⟨g9, 0, none⟩) Pl.length g9c]) (by rfl) rfl rfl (M.r 3 0 rfl rfl) (M.lt 3 rfl) Tryd.underlying66 rfl info66 ?_
  simp only [putT, List.set]
  refine wpV_callf (v := .bool false) (args := #[.agg ([.int .i64 x, .slice (some ⟨g9, 0, none⟩) Pl.length g9c]).toArray]) (by rfl) rfl Tryd.func61 (by kernel_rfl) (by kernel_rfl) rfl (fun W hW => by have h9 : Calls Tryd.prog _ _ W _ := rmay_c (ps := Pl) (x := x) (by omega) (RowA.of ((M.sees hW).r 2 0 rfl rfl) ((M.sees hW).lt 2 rfl) (scells_len _).symm Cg9); rw [hmay] at h9; exact h9) ?_
  simp only [putT, List.set]
  refine wpV_not (b := false) (by rfl) rfl rfl ?_
  simp only [Bool.not_true, Bool.not_false]
  simp only [putT, List.set]
  refine wpV_nil (hLk _ (fun w25 Sw25 => ?_))
  clear hLk Lk
  simp only [List.take, List.drop]
  replace M := M.sees Sw25
  refine wpL_nil (no_panic ?_)
  refine hK23 _ _ ?_
  refine wp_cond_true rfl ?_
  refine wp_seq_k (fun K26 hK26 => ?_)
  refine wp_region_seq ?_
  refine wpL_chunk 24 (by rfl) (fun Lk hLk => ?_)
  simp only [List.take, List.drop]
  refine wpV_callf (v := .bool true) (args := #[]) (by rfl) rfl Tryd.func44 (by kernel_rfl) (by kernel_rfl) rfl (fun W hW => alive08_c ((M.sees hW).oldL L0) ((M.sees hW).oldR R0_0 L0)) ?_
  simp only [putT, List.set]
  refine wpV_move (v := .bool true) (by rfl) rfl rfl ?_
  simp only [putT, List.set]
  refine wpV_move (v := .int .i64 1) (by rfl) rfl rfl ?_
  simp only [putT, List.set]
  refine wpV_bin (v := .bool true) (by rfl) rfl rfl rfl (fun W => run_eql _ _ _ _ W) ?_
  simp only [putT, List.set]
  refine wpV_pick (v := .bool true) (by rfl) rfl rfl rfl ?_
  simp only [putT, List.set]
  refine wpV_move (v := .bool true) (by rfl) rfl rfl ?_
  simp only [putT, List.set]
  refine wpV_move (v := .int .i64 1) (by rfl) rfl rfl ?_
  simp only [putT, List.set]
  refine wpV_bin (v := .bool true) (by rfl) rfl rfl rfl (fun W => run_eql _ _ _ _ W) ?_
  simp only [putT, List.set]
  refine wpV_pick (v := .bool true) (by rfl) rfl rfl rfl ?_
  simp only [putT, List.set]
  refine wpV_move (v := .bool true) (by rfl) rfl rfl ?_
  simp only [putT, List.set]
  refine wpV_val (v := .pointer (some ⟨g16, 0, none⟩)) (by rfl) (by rfl) (fun W hW => ?_) ?_
  · (go_simp; exact rfl)
  simp only [putT, List.set]
  refine wpV_load1 (v := .int .i64 0) (by rfl) rfl rfl (range_one (range_sub (M.r 0 0 rfl rfl) 0 1 0 (xs := [.int .i64 0]) rfl rfl)) (M.lt 0 rfl) Tryd.underlying3 rfl ?_
  simp only [putT, List.set]
  refine wpV_bin (v := .bool true) (by rfl) rfl rfl rfl (fun W => run_eql _ _ _ _ W) ?_
  simp only [putT, List.set]
  refine wpV_pick (v := .bool true) (by rfl) rfl rfl rfl ?_
  simp only [putT, List.set]
  refine wpV_move (v := .bool true) (by rfl) rfl rfl ?_
  simp only [putT, List.set]
  refine wpV_val (v := .pointer (some ⟨g16, 1, none⟩)) (by rfl) (by rfl) (fun W hW => ?_) ?_
  · (go_simp; exact rfl)
  simp only [putT, List.set]
  refine wpV_load1 (v := .slice none 0 0) (by rfl) rfl rfl (range_one (range_sub (M.r 0 0 rfl rfl) 1 1 1 (xs := [.slice none 0 0]) rfl rfl)) (M.lt 0 rfl) Tryd.underlying48 rfl ?_
  simp only [putT, List.set]
  refine wpV_lenA (n := 0) (by rfl) rfl rfl rfl Tryd.underlying48 ?_
  simp only [putT, List.set]
  refine wpV_bin (v := .bool true) (by rfl) rfl rfl rfl (fun W => run_eql _ _ _ _ W) ?_
  simp only [putT, List.set]
  refine wpV_pick (v := .bool true) (by rfl) rfl rfl rfl ?_
  simp only [putT, List.set]
  refine wpV_move (v := .bool true) (by rfl) rfl rfl ?_
  simp only [putT, List.set]
  refine wpV_move (v := .string (bs ([]))) (by rfl) rfl rfl ?_
  simp only [putT, List.set]
  refine wpV_binS (v := .bool true) (by rfl) rfl rfl rfl (fun W => (run_eql_bs _ _ _ W).trans (by rw [show decide ([] = []) = true from (decide_eq_true rfl)])) ?_
  simp only [putT, List.set]
  refine wpV_pick (v := .bool true) (by rfl) rfl rfl rfl ?_
  simp only [putT, List.set]
  refine wpV_nil (hLk _ (fun w28 Sw28 => ?_))
  clear hLk Lk
  simp only [List.take, List.drop]
  replace M := M.sees Sw28
  refine wpL_assign (v := .bool true) (by rfl) (by rfl) (by rfl) ?_
  simp only [putT, List.set]
  refine wpL_nil (no_panic ?_)
  refine hK26 _ _ ?_
  refine wp_ret ?_
  repeat (first | with_reducible refine then_ret ?_ | with_reducible refine inblock_ret ?_)
  refine bodyPost_ret (v := .bool true) (res1 rfl (.tmp (by rfl))) rfl ?_
  have BE := M.below
  exact ⟨rfl, BE⟩
set_option maxRecDepth 100000 in
set_option maxHeartbeats 4000000 in
theorem goes_B {vps vls : Value} {ps ls Pl Ql : List (List UInt8)} {m : Nat} {w : World} (hP : cutsS 80 40 ps = Pl) (hQ : cutsS 80 40 ls = Ql) (hPL : Pl.length ≤ 80) (hQL : Ql.length ≤ 80) (hp : Pl.length ≤ 4611686018427387904) (hm : m ≤ 4096) (hmay : mayG ((m : Nat) : Int) Pl = true) (hpl : Pl.length = ones m) (h32 : ∀ s ∈ Pl, s.length = 32) (hri : rightB Ql = false) (L0 : 0 < w.heap.size) (R0_0 : w.rangeAt 0 0 kcells) (hvps : RowS w vps ps) (hvls : RowS w vls ls) :
    Calls Tryd.prog 13 #[.agg [.int .i64 ((m : Nat) : Int), vps].toArray, vls] w fun e w' => e = .returned (.bool true) ∧ Below w.heap.size w w' := by
  go_enter Tryd.func13, Tryd.ntmps13
  have M := Mem.start w
  refine wp_seq_k (fun K1 hK1 => ?_)
  refine wp_region_seq ?_
  refine wpL_var (t := 66) (cs := [.int .i64 ((m : Nat) : Int), vps]) (by rfl) (fun W => ?_) (fun g3 w4 Sw4 Hg3 Bg3 => ?_)
  · (first | rfl | go_simp)
  replace M := ((M.sees Sw4).add (N := 2) (cs := [.int .i64 ((m : Nat) : Int), vps]) (M.ge Hg3) (M.fresh Hg3) Bg3 rfl)
  clear Bg3
  simp only [putT, List.set]
  refine wpL_assign (v := .bool false) (by rfl) (by rfl) (by rfl) ?_
  simp only [putT, List.set]
  refine wpL_nil (no_panic ?_)
  refine hK1 _ _ ?_
  refine wp_seq_k (fun K5 hK5 => ?_)
  refine wp_region_seq ?_
  refine wpL_chunk 1 (by rfl) (fun Lk hLk => ?_)
  simp only [List.take, List.drop]
  refine wpV_load (cs := [.int .i64 ((m : Nat) : Int), vps]) (by rfl) rfl rfl (M.r 0 0 rfl rfl) (M.lt 0 rfl) Tryd.underlying66 rfl info66 ?_
  simp only [putT, List.set]
  refine wpV_nil (hLk _ (fun w7 Sw7 => ?_))
  clear hLk Lk
  simp only [List.take, List.drop]
  replace M := M.sees Sw7
  refine wpL_callE (f := 59) (args := #[.agg ([.int .i64 ((m : Nat) : Int), vps]).toArray]) (R := fun v9 W9 => ∃ g9 g9c, v9 = .agg ([.int .i64 ((m : Nat) : Int), .slice (some ⟨g9, 0, none⟩) ((cutsS 80 40 ps).length) g9c]).toArray ∧ (cutsS 80 40 ps).length ≤ g9c ∧ Mem [] w7 W9 [⟨g9, g9c, [(0, scells (cutsS 80 40 ps))]⟩]) (by rfl) (by rfl) rfl Tryd.func59 (by kernel_rfl) (by kernel_rfl) (by have h9 := part_c (x := ((m : Nat) : Int)) (hvps.mem M); exact h9) (fun v9 w8 hv9 Sw8 => ?_)
  obtain ⟨g9, g9c, rfl, Cg9, M9⟩ := hv9
  replace M := M.call1 M9
  clear Sw8
  simp only [putT, List.set]
  refine wpL_move (v := vls) (by rfl) (by rfl) (by rfl) ?_
  simp only [putT, List.set]
  refine wpL_callE (f := 36) (args := #[vls]) (R := MemRow w8 ((cutsS 80 40 ls).length) (scells (cutsS 80 40 ls))) (by rfl) (by rfl) rfl Tryd.func36 (by kernel_rfl) (by kernel_rfl) (few_c (hvls.mem M)) (fun v9 w11 hv9 Sw11 => ?_)
  obtain ⟨g10, g10c, rfl, Cg10, M9⟩ := hv9
  replace M := M.call1 M9
  simp only [putT, List.set]
  refine wpL_store (g := g3) (off := 0) (n := 2) (cs := [.int .i64 ((m : Nat) : Int), .slice (some ⟨g9, 0, none⟩) ((cutsS 80 40 ps).length) g9c]) (by rfl) (by rfl) (by rfl) (by rfl) (by rfl) (M.t 2 rfl) (by simp [flen]) info66 (by simp [fone, Value.oneCell']) (fun w12 P R T => ?_)
  replace M := M.putS 2 0 rfl P R T rfl ⟨.inl rfl, trivial⟩
  simp only [List.set] at M
  refine wpL_assign (v := .slice (some ⟨g10, 0, none⟩) ((cutsS 80 40 ls).length) g10c) (by rfl) (by rfl) (by rfl) ?_
  simp only [putT, List.set]
  refine wpL_nil (no_panic ?_)
  simp only [hP] at M
  simp only [hQ] at M
  simp only [hP, hQ]
  try rw [hP] at Cg10
  try rw [hQ] at Cg10
  try rw [hP] at Cg9
  try rw [hQ] at Cg9
  try rw [hP] at Cg3
  try rw [hQ] at Cg3
  refine hK5 _ _ ?_
  refine wp_seq_k (fun K13 hK13 => ?_)
  refine wp_region_seq ?_
  refine wpL_chunk 6 (by rfl) (fun Lk hLk => ?_)
  simp only [List.take, List.drop]
  refine wpV_load (cs := [.int .i64 ((m : Nat) : Int), .slice (some ⟨g9, 0, none⟩) Pl.length g9c]) (by rfl) rfl rfl (M.r 2 0 rfl rfl) (M.lt 2 rfl) Tryd.underlying66 rfl info66 ?_
  simp only [putT, List.set]
  refine wpV_move (v := .slice (some ⟨g10, 0, none⟩) Ql.length g10c) (by rfl) rfl rfl ?_
  simp only [putT, List.set]
  refine wpV_callf (v := .tuple #[.agg ([.int .i64 0, .slice none 0 0]).toArray, .int .i64 1]) (args := #[.agg ([.int .i64 ((m : Nat) : Int), .slice (some ⟨g9, 0, none⟩) Pl.length g9c]).toArray, .slice (some ⟨g10, 0, none⟩) Ql.length g10c]) (by rfl) rfl Tryd.func55 (by kernel_rfl) (by kernel_rfl) rfl (fun W hW => by with_reducible exact Add_no2 (ps := Pl) (ls := Ql) (x := ((m : Nat) : Int)) hp hmay hri (RowA.of ((M.sees hW).r 1 0 rfl rfl) ((M.sees hW).lt 1 rfl) (scells_len _).symm Cg9) (RowA.of ((M.sees hW).r 0 0 rfl rfl) ((M.sees hW).lt 0 rfl) (scells_len _).symm Cg10)) ?_
  simp only [putT, List.set]
  refine wpV_move (v := .tuple #[.agg ([.int .i64 0, .slice none 0 0]).toArray, .int .i64 1]) (by rfl) rfl rfl ?_
  simp only [putT, List.set]
  refine wpV_extract (v := .agg ([.int .i64 0, .slice none 0 0]).toArray) (by rfl) rfl rfl rfl ?_
  simp only [putT, List.set]
  refine wpV_extract (v := .int .i64 1) (by rfl) rfl rfl rfl ?_
  simp only [putT, List.set]
  refine wpV_nil (hLk _ (fun w15 Sw15 => ?_))
  clear hLk Lk
  simp only [List.take, List.drop]
  replace M := M.sees Sw15
  refine wpL_var (t := 66) (cs := [.int .i64 0, .slice none 0 0]) (by rfl) (fun W => ?_) (fun g16 w17 Sw17 Hg16 Bg16 => ?_)
  · go_simp
  replace M := ((M.sees Sw17).add (N := 2) (cs := [.int .i64 0, .slice none 0 0]) (M.ge Hg16) (M.fresh Hg16) Bg16 rfl)
  clear Bg16
  simp only [putT, List.set]
  refine wpL_store (g := g16) (off := 0) (n := 2) (cs := [.int .i64 0, .slice none 0 0]) (by rfl) (by rfl) (by rfl) (by rfl) (by rfl) (M.t 0 rfl) (by simp [flen]) info66 (by simp [fone, Value.oneCell']) (fun w18 P R T => ?_)
  replace M := M.putS 0 0 rfl P R T rfl ⟨.inl rfl, trivial⟩
  simp only [List.set] at M
  refine wpL_assign (v := .int .i64 1) (by rfl) (by rfl) (by rfl) ?_
  simp only [putT, List.set]
  refine wpL_nil (no_panic ?_)
  refine hK13 _ _ ?_
  refine wp_seq_k (fun K19 hK19 => ?_)
  refine wp_region_seq ?_
  refine wpL_chunk 5 (by rfl) (fun Lk hLk => ?_)
  simp only [List.take, List.drop]
  refine wpV_load (cs := [.int .i64 ((m : Nat) : Int), .slice (some ⟨g9, 0, none⟩) Pl.length g9c]) (by rfl) rfl rfl (M.r 3 0 rfl rfl) (M.lt 3 rfl) Tryd.underlying66 rfl info66 ?_
  simp only [putT, List.set]
  refine wpV_callf (v := .tuple #[.string (bs (sumM m Pl)), .int .i64 0]) (args := #[.agg ([.int .i64 ((m : Nat) : Int), .slice (some ⟨g9, 0, none⟩) Pl.length g9c]).toArray]) (by rfl) rfl Tryd.func60 (by kernel_rfl) (by kernel_rfl) rfl (fun W hW => by with_reducible exact Sum_m (ps := Pl) (m := m) hp hmay hpl h32 ((M.sees hW).oldL L0) ((M.sees hW).oldR R0_0 L0) (RowA.of ((M.sees hW).r 2 0 rfl rfl) ((M.sees hW).lt 2 rfl) (scells_len _).symm Cg9)) ?_
  simp only [putT, List.set]
  refine wpV_move (v := .tuple #[.string (bs (sumM m Pl)), .int .i64 0]) (by rfl) rfl rfl ?_
  simp only [putT, List.set]
  refine wpV_extract (v := .string (bs (sumM m Pl))) (by rfl) rfl rfl rfl ?_
  simp only [putT, List.set]
  refine wpV_extract (v := .int .i64 0) (by rfl) rfl rfl rfl ?_
  simp only [putT, List.set]
  refine wpV_nil (hLk _ (fun w21 Sw21 => ?_))
  clear hLk Lk
  simp only [List.take, List.drop]
  replace M := M.sees Sw21
  refine wpL_assign (v := .string (bs (sumM m Pl))) (by rfl) (by rfl) (by rfl) ?_
  simp only [putT, List.set]
  refine wpL_assign (v := .int .i64 0) (by rfl) (by rfl) (by rfl) ?_
  simp only [putT, List.set]
  refine wpL_nil (no_panic ?_)
  refine hK19 _ _ ?_
  refine wp_seq_k (fun K22 hK22 => ?_)
  refine wp_seq_k (fun K23 hK23 => ?_)
  refine wp_region_seq ?_
  refine wpL_chunk 3 (by rfl) (fun Lk hLk => ?_)
  simp only [List.take, List.drop]
  refine wpV_load (cs := [.int .i64 ((m : Nat) : Int), .slice (some ⟨g9, 0, none⟩) Pl.length g9c]) (by rfl) rfl rfl (M.r 3 0 rfl rfl) (M.lt 3 rfl) Tryd.underlying66 rfl info66 ?_
  simp only [putT, List.set]
  refine wpV_callf (v := .bool true) (args := #[.agg ([.int .i64 ((m : Nat) : Int), .slice (some ⟨g9, 0, none⟩) Pl.length g9c]).toArray]) (by rfl) rfl Tryd.func61 (by kernel_rfl) (by kernel_rfl) rfl (fun W hW => by have h9 : Calls Tryd.prog _ _ W _ := rmay_c (ps := Pl) (x := ((m : Nat) : Int)) (by omega) (RowA.of ((M.sees hW).r 2 0 rfl rfl) ((M.sees hW).lt 2 rfl) (scells_len _).symm Cg9); rw [hmay] at h9; exact h9) ?_
  simp only [putT, List.set]
  refine wpV_not (b := true) (by rfl) rfl rfl ?_
  simp only [Bool.not_true, Bool.not_false]
  simp only [putT, List.set]
  refine wpV_nil (hLk _ (fun w25 Sw25 => ?_))
  clear hLk Lk
  simp only [List.take, List.drop]
  replace M := M.sees Sw25
  refine wpL_nil (no_panic ?_)
  refine hK23 _ _ ?_
  refine wp_cond_false rfl ?_
  refine wp_skip ?_
  refine hK22 _ _ ?_
  refine wp_seq_k (fun K26 hK26 => ?_)
  refine wp_seq_k (fun K27 hK27 => ?_)
  refine wp_region_seq ?_
  refine wpL_move (v := .int .i64 0) (by rfl) (by rfl) (by rfl) ?_
  simp only [putT, List.set]
  refine wpL_chunk 11 (by rfl) (fun Lk hLk => ?_)
  simp only [List.take, List.drop]
  refine wpV_bin (v := .bool false) (by rfl) rfl rfl rfl (fun W => run_neq _ _ _ _ W) ?_
  simp only [putT, List.set]
  refine wpV_move (v := .bool false) (by rfl) rfl rfl ?_
  simp only [putT, List.set]
  refine wpV_move (v := .string (bs (sumM m Pl))) (by rfl) rfl rfl ?_
  simp only [putT, List.set]
  refine wpV_load (cs := [.int .i64 ((m : Nat) : Int), .slice (some ⟨g9, 0, none⟩) Pl.length g9c]) (by rfl) rfl rfl (M.r 3 0 rfl rfl) (M.lt 3 rfl) Tryd.underlying66 rfl info66 ?_
  simp only [putT, List.set]
  refine wpV_callf (v := .string (bs (sumM m Pl))) (args := #[.agg ([.int .i64 ((m : Nat) : Int), .slice (some ⟨g9, 0, none⟩) Pl.length g9c]).toArray]) (by rfl) rfl Tryd.func62 (by kernel_rfl) (by kernel_rfl) rfl (fun W hW => by with_reducible exact rSum_m (ps := Pl) (m := m) hp hpl h32 (RowA.of ((M.sees hW).r 2 0 rfl rfl) ((M.sees hW).lt 2 rfl) (scells_len _).symm Cg9)) ?_
  simp only [putT, List.set]
  refine wpV_binS (v := .bool false) (by rfl) rfl rfl rfl (fun W => (run_neq_bs _ _ _ W).trans (by rw [show decide (sumM m Pl ≠ sumM m Pl) = false from (decide_eq_false (fun h9 => h9 rfl))])) ?_
  simp only [putT, List.set]
  refine wpV_pick (v := .bool false) (by rfl) rfl rfl rfl ?_
  simp only [putT, List.set]
  refine wpV_move (v := .bool false) (by rfl) rfl rfl ?_
  simp only [putT, List.set]
  refine wpV_callf (v := .bool true) (args := #[]) (by rfl) rfl Tryd.func44 (by kernel_rfl) (by kernel_rfl) rfl (fun W hW => alive08_c ((M.sees hW).oldL L0) ((M.sees hW).oldR R0_0 L0)) ?_
  simp only [putT, List.set]
  refine wpV_not (b := true) (by rfl) rfl rfl ?_
  simp only [Bool.not_true, Bool.not_false]
  simp only [putT, List.set]
  refine wpV_pick (v := .bool false) (by rfl) rfl rfl rfl ?_
  simp only [putT, List.set]
  refine wpV_nil (hLk _ (fun w29 Sw29 => ?_))
  clear hLk Lk
  simp only [List.take, List.drop]
  replace M := M.sees Sw29
  refine wpL_nil (no_panic ?_)
  refine hK27 _ _ ?_
  refine wp_cond_false rfl ?_
  refine wp_skip ?_
  refine hK26 _ _ ?_
  refine wp_seq_k (fun K30 hK30 => ?_)
  refine wp_seq_k (fun K31 hK31 => ?_)
  refine wp_region_seq ?_
  refine wpL_move (v := .slice (some ⟨g10, 0, none⟩) Ql.length g10c) (by rfl) (by rfl) (by rfl) ?_
  simp only [putT, List.set]
  refine wpL_chunk 2 (by rfl) (fun Lk hLk => ?_)
  simp only [List.take, List.drop]
  refine wpV_callf (v := .bool false) (args := #[.slice (some ⟨g10, 0, none⟩) Ql.length g10c]) (by rfl) rfl Tryd.func43 (by kernel_rfl) (by kernel_rfl) rfl (fun W hW => by have h9 : Calls Tryd.prog _ _ W _ := rright_r (ps := Ql) (by omega) (RowA.of ((M.sees hW).r 1 0 rfl rfl) ((M.sees hW).lt 1 rfl) (scells_len _).symm Cg10); rw [hri] at h9; exact h9) ?_
  simp only [putT, List.set]
  refine wpV_not (b := false) (by rfl) rfl rfl ?_
  simp only [Bool.not_true, Bool.not_false]
  simp only [putT, List.set]
  refine wpV_nil (hLk _ (fun w33 Sw33 => ?_))
  clear hLk Lk
  simp only [List.take, List.drop]
  replace M := M.sees Sw33
  refine wpL_nil (no_panic ?_)
  refine hK31 _ _ ?_
  refine wp_cond_true rfl ?_
  refine wp_seq_k (fun K34 hK34 => ?_)
  refine wp_region_seq ?_
  refine wpL_move (v := .int .i64 1) (by rfl) (by rfl) (by rfl) ?_
  simp only [putT, List.set]
  refine wpL_chunk 12 (by rfl) (fun Lk hLk => ?_)
  simp only [List.take, List.drop]
  refine wpV_bin (v := .bool true) (by rfl) rfl rfl rfl (fun W => run_eql _ _ _ _ W) ?_
  simp only [putT, List.set]
  refine wpV_move (v := .bool true) (by rfl) rfl rfl ?_
  simp only [putT, List.set]
  refine wpV_val (v := .pointer (some ⟨g16, 0, none⟩)) (by rfl) (by rfl) (fun W hW => ?_) ?_
  · (go_simp; exact rfl)
  simp only [putT, List.set]
  refine wpV_load1 (v := .int .i64 0) (by rfl) rfl rfl (range_one (range_sub (M.r 0 0 rfl rfl) 0 1 0 (xs := [.int .i64 0]) rfl rfl)) (M.lt 0 rfl) Tryd.underlying3 rfl ?_
  simp only [putT, List.set]
  refine wpV_bin (v := .bool true) (by rfl) rfl rfl rfl (fun W => run_eql _ _ _ _ W) ?_
  simp only [putT, List.set]
  refine wpV_pick (v := .bool true) (by rfl) rfl rfl rfl ?_
  simp only [putT, List.set]
  refine wpV_move (v := .bool true) (by rfl) rfl rfl ?_
  simp only [putT, List.set]
  refine wpV_val (v := .pointer (some ⟨g16, 1, none⟩)) (by rfl) (by rfl) (fun W hW => ?_) ?_
  · (go_simp; exact rfl)
  simp only [putT, List.set]
  refine wpV_load1 (v := .slice none 0 0) (by rfl) rfl rfl (range_one (range_sub (M.r 0 0 rfl rfl) 1 1 1 (xs := [.slice none 0 0]) rfl rfl)) (M.lt 0 rfl) Tryd.underlying48 rfl ?_
  simp only [putT, List.set]
  refine wpV_lenA (n := 0) (by rfl) rfl rfl rfl Tryd.underlying48 ?_
  simp only [putT, List.set]
  refine wpV_bin (v := .bool true) (by rfl) rfl rfl rfl (fun W => run_eql _ _ _ _ W) ?_
  simp only [putT, List.set]
  refine wpV_pick (v := .bool true) (by rfl) rfl rfl rfl ?_
  simp only [putT, List.set]
  refine wpV_nil (hLk _ (fun w36 Sw36 => ?_))
  clear hLk Lk
  simp only [List.take, List.drop]
  replace M := M.sees Sw36
  refine wpL_assign (v := .bool true) (by rfl) (by rfl) (by rfl) ?_
  simp only [putT, List.set]
  refine wpL_nil (no_panic ?_)
  refine hK34 _ _ ?_
  refine wp_ret ?_
  repeat (first | with_reducible refine then_ret ?_ | with_reducible refine inblock_ret ?_)
  refine bodyPost_ret (v := .bool true) (res1 rfl (.tmp (by rfl))) rfl ?_
  have BE := M.below
  exact ⟨rfl, BE⟩
set_option maxRecDepth 100000 in
set_option maxHeartbeats 4000000 in
theorem goes_C {vps vls : Value} {ps ls Pl Ql : List (List UInt8)} {m : Nat} {w : World} (hP : cutsS 80 40 ps = Pl) (hQ : cutsS 80 40 ls = Ql) (hPL : Pl.length ≤ 80) (hQL : Ql.length ≤ 80) (hp : Pl.length ≤ 4611686018427387904) (hm : m ≤ 4096) (hmay : mayG ((m : Nat) : Int) Pl = true) (hpl : Pl.length = ones m) (h32 : ∀ s ∈ Pl, s.length = 32) (hri : rightB Ql = true) (hl32 : ∀ s ∈ Ql, s.length = 32) (hov : 4096 < m + Ql.length) (L0 : 0 < w.heap.size) (R0_0 : w.rangeAt 0 0 kcells) (hvps : RowS w vps ps) (hvls : RowS w vls ls) :
    Calls Tryd.prog 13 #[.agg [.int .i64 ((m : Nat) : Int), vps].toArray, vls] w fun e w' => e = .returned (.bool true) ∧ Below w.heap.size w w' := by
  go_enter Tryd.func13, Tryd.ntmps13
  have M := Mem.start w
  refine wp_seq_k (fun K1 hK1 => ?_)
  refine wp_region_seq ?_
  refine wpL_var (t := 66) (cs := [.int .i64 ((m : Nat) : Int), vps]) (by rfl) (fun W => ?_) (fun g3 w4 Sw4 Hg3 Bg3 => ?_)
  · (first | rfl | go_simp)
  replace M := ((M.sees Sw4).add (N := 2) (cs := [.int .i64 ((m : Nat) : Int), vps]) (M.ge Hg3) (M.fresh Hg3) Bg3 rfl)
  clear Bg3
  simp only [putT, List.set]
  refine wpL_assign (v := .bool false) (by rfl) (by rfl) (by rfl) ?_
  simp only [putT, List.set]
  refine wpL_nil (no_panic ?_)
  refine hK1 _ _ ?_
  refine wp_seq_k (fun K5 hK5 => ?_)
  refine wp_region_seq ?_
  refine wpL_chunk 1 (by rfl) (fun Lk hLk => ?_)
  simp only [List.take, List.drop]
  refine wpV_load (cs := [.int .i64 ((m : Nat) : Int), vps]) (by rfl) rfl rfl (M.r 0 0 rfl rfl) (M.lt 0 rfl) Tryd.underlying66 rfl info66 ?_
  simp only [putT, List.set]
  refine wpV_nil (hLk _ (fun w7 Sw7 => ?_))
  clear hLk Lk
  simp only [List.take, List.drop]
  replace M := M.sees Sw7
  refine wpL_callE (f := 59) (args := #[.agg ([.int .i64 ((m : Nat) : Int), vps]).toArray]) (R := fun v9 W9 => ∃ g9 g9c, v9 = .agg ([.int .i64 ((m : Nat) : Int), .slice (some ⟨g9, 0, none⟩) ((cutsS 80 40 ps).length) g9c]).toArray ∧ (cutsS 80 40 ps).length ≤ g9c ∧ Mem [] w7 W9 [⟨g9, g9c, [(0, scells (cutsS 80 40 ps))]⟩]) (by rfl) (by rfl) rfl Tryd.func59 (by kernel_rfl) (by kernel_rfl) (by have h9 := part_c (x := ((m : Nat) : Int)) (hvps.mem M); exact h9) (fun v9 w8 hv9 Sw8 => ?_)
  obtain ⟨g9, g9c, rfl, Cg9, M9⟩ := hv9
  replace M := M.call1 M9
  clear Sw8
  simp only [putT, List.set]
  refine wpL_move (v := vls) (by rfl) (by rfl) (by rfl) ?_
  simp only [putT, List.set]
  refine wpL_callE (f := 36) (args := #[vls]) (R := MemRow w8 ((cutsS 80 40 ls).length) (scells (cutsS 80 40 ls))) (by rfl) (by rfl) rfl Tryd.func36 (by kernel_rfl) (by kernel_rfl) (few_c (hvls.mem M)) (fun v9 w11 hv9 Sw11 => ?_)
  obtain ⟨g10, g10c, rfl, Cg10, M9⟩ := hv9
  replace M := M.call1 M9
  simp only [putT, List.set]
  refine wpL_store (g := g3) (off := 0) (n := 2) (cs := [.int .i64 ((m : Nat) : Int), .slice (some ⟨g9, 0, none⟩) ((cutsS 80 40 ps).length) g9c]) (by rfl) (by rfl) (by rfl) (by rfl) (by rfl) (M.t 2 rfl) (by simp [flen]) info66 (by simp [fone, Value.oneCell']) (fun w12 P R T => ?_)
  replace M := M.putS 2 0 rfl P R T rfl ⟨.inl rfl, trivial⟩
  simp only [List.set] at M
  refine wpL_assign (v := .slice (some ⟨g10, 0, none⟩) ((cutsS 80 40 ls).length) g10c) (by rfl) (by rfl) (by rfl) ?_
  simp only [putT, List.set]
  refine wpL_nil (no_panic ?_)
  simp only [hP] at M
  simp only [hQ] at M
  simp only [hP, hQ]
  try rw [hP] at Cg10
  try rw [hQ] at Cg10
  try rw [hP] at Cg9
  try rw [hQ] at Cg9
  try rw [hP] at Cg3
  try rw [hQ] at Cg3
  refine hK5 _ _ ?_
  refine wp_seq_k (fun K13 hK13 => ?_)
  refine wp_region_seq ?_
  refine wpL_chunk 6 (by rfl) (fun Lk hLk => ?_)
  simp only [List.take, List.drop]
  refine wpV_load (cs := [.int .i64 ((m : Nat) : Int), .slice (some ⟨g9, 0, none⟩) Pl.length g9c]) (by rfl) rfl rfl (M.r 2 0 rfl rfl) (M.lt 2 rfl) Tryd.underlying66 rfl info66 ?_
  simp only [putT, List.set]
  refine wpV_move (v := .slice (some ⟨g10, 0, none⟩) Ql.length g10c) (by rfl) rfl rfl ?_
  simp only [putT, List.set]
  refine wpV_callf (v := .tuple #[.agg ([.int .i64 0, .slice none 0 0]).toArray, .int .i64 22]) (args := #[.agg ([.int .i64 ((m : Nat) : Int), .slice (some ⟨g9, 0, none⟩) Pl.length g9c]).toArray, .slice (some ⟨g10, 0, none⟩) Ql.length g10c]) (by rfl) rfl Tryd.func55 (by kernel_rfl) (by kernel_rfl) rfl (fun W hW => by with_reducible exact Add_over (ps := Pl) (ls := Ql) (m := m) hp hm hmay hri (by omega) hov (RowA.of ((M.sees hW).r 1 0 rfl rfl) ((M.sees hW).lt 1 rfl) (scells_len _).symm Cg9) (RowA.of ((M.sees hW).r 0 0 rfl rfl) ((M.sees hW).lt 0 rfl) (scells_len _).symm Cg10)) ?_
  simp only [putT, List.set]
  refine wpV_move (v := .tuple #[.agg ([.int .i64 0, .slice none 0 0]).toArray, .int .i64 22]) (by rfl) rfl rfl ?_
  simp only [putT, List.set]
  refine wpV_extract (v := .agg ([.int .i64 0, .slice none 0 0]).toArray) (by rfl) rfl rfl rfl ?_
  simp only [putT, List.set]
  refine wpV_extract (v := .int .i64 22) (by rfl) rfl rfl rfl ?_
  simp only [putT, List.set]
  refine wpV_nil (hLk _ (fun w15 Sw15 => ?_))
  clear hLk Lk
  simp only [List.take, List.drop]
  replace M := M.sees Sw15
  refine wpL_var (t := 66) (cs := [.int .i64 0, .slice none 0 0]) (by rfl) (fun W => ?_) (fun g16 w17 Sw17 Hg16 Bg16 => ?_)
  · go_simp
  replace M := ((M.sees Sw17).add (N := 2) (cs := [.int .i64 0, .slice none 0 0]) (M.ge Hg16) (M.fresh Hg16) Bg16 rfl)
  clear Bg16
  simp only [putT, List.set]
  refine wpL_store (g := g16) (off := 0) (n := 2) (cs := [.int .i64 0, .slice none 0 0]) (by rfl) (by rfl) (by rfl) (by rfl) (by rfl) (M.t 0 rfl) (by simp [flen]) info66 (by simp [fone, Value.oneCell']) (fun w18 P R T => ?_)
  replace M := M.putS 0 0 rfl P R T rfl ⟨.inl rfl, trivial⟩
  simp only [List.set] at M
  refine wpL_assign (v := .int .i64 22) (by rfl) (by rfl) (by rfl) ?_
  simp only [putT, List.set]
  refine wpL_nil (no_panic ?_)
  refine hK13 _ _ ?_
  refine wp_seq_k (fun K19 hK19 => ?_)
  refine wp_region_seq ?_
  refine wpL_chunk 5 (by rfl) (fun Lk hLk => ?_)
  simp only [List.take, List.drop]
  refine wpV_load (cs := [.int .i64 ((m : Nat) : Int), .slice (some ⟨g9, 0, none⟩) Pl.length g9c]) (by rfl) rfl rfl (M.r 3 0 rfl rfl) (M.lt 3 rfl) Tryd.underlying66 rfl info66 ?_
  simp only [putT, List.set]
  refine wpV_callf (v := .tuple #[.string (bs (sumM m Pl)), .int .i64 0]) (args := #[.agg ([.int .i64 ((m : Nat) : Int), .slice (some ⟨g9, 0, none⟩) Pl.length g9c]).toArray]) (by rfl) rfl Tryd.func60 (by kernel_rfl) (by kernel_rfl) rfl (fun W hW => by with_reducible exact Sum_m (ps := Pl) (m := m) hp hmay hpl h32 ((M.sees hW).oldL L0) ((M.sees hW).oldR R0_0 L0) (RowA.of ((M.sees hW).r 2 0 rfl rfl) ((M.sees hW).lt 2 rfl) (scells_len _).symm Cg9)) ?_
  simp only [putT, List.set]
  refine wpV_move (v := .tuple #[.string (bs (sumM m Pl)), .int .i64 0]) (by rfl) rfl rfl ?_
  simp only [putT, List.set]
  refine wpV_extract (v := .string (bs (sumM m Pl))) (by rfl) rfl rfl rfl ?_
  simp only [putT, List.set]
  refine wpV_extract (v := .int .i64 0) (by rfl) rfl rfl rfl ?_
  simp only [putT, List.set]
  refine wpV_nil (hLk _ (fun w21 Sw21 => ?_))
  clear hLk Lk
  simp only [List.take, List.drop]
  replace M := M.sees Sw21
  refine wpL_assign (v := .string (bs (sumM m Pl))) (by rfl) (by rfl) (by rfl) ?_
  simp only [putT, List.set]
  refine wpL_assign (v := .int .i64 0) (by rfl) (by rfl) (by rfl) ?_
  simp only [putT, List.set]
  refine wpL_nil (no_panic ?_)
  refine hK19 _ _ ?_
  refine wp_seq_k (fun K22 hK22 => ?_)
  refine wp_seq_k (fun K23 hK23 => ?_)
  refine wp_region_seq ?_
  refine wpL_chunk 3 (by rfl) (fun Lk hLk => ?_)
  simp only [List.take, List.drop]
  refine wpV_load (cs := [.int .i64 ((m : Nat) : Int), .slice (some ⟨g9, 0, none⟩) Pl.length g9c]) (by rfl) rfl rfl (M.r 3 0 rfl rfl) (M.lt 3 rfl) Tryd.underlying66 rfl info66 ?_
  simp only [putT, List.set]
  refine wpV_callf (v := .bool true) (args := #[.agg ([.int .i64 ((m : Nat) : Int), .slice (some ⟨g9, 0, none⟩) Pl.length g9c]).toArray]) (by rfl) rfl Tryd.func61 (by kernel_rfl) (by kernel_rfl) rfl (fun W hW => by have h9 : Calls Tryd.prog _ _ W _ := rmay_c (ps := Pl) (x := ((m : Nat) : Int)) (by omega) (RowA.of ((M.sees hW).r 2 0 rfl rfl) ((M.sees hW).lt 2 rfl) (scells_len _).symm Cg9); rw [hmay] at h9; exact h9) ?_
  simp only [putT, List.set]
  refine wpV_not (b := true) (by rfl) rfl rfl ?_
  simp only [Bool.not_true, Bool.not_false]
  simp only [putT, List.set]
  refine wpV_nil (hLk _ (fun w25 Sw25 => ?_))
  clear hLk Lk
  simp only [List.take, List.drop]
  replace M := M.sees Sw25
  refine wpL_nil (no_panic ?_)
  refine hK23 _ _ ?_
  refine wp_cond_false rfl ?_
  refine wp_skip ?_
  refine hK22 _ _ ?_
  refine wp_seq_k (fun K26 hK26 => ?_)
  refine wp_seq_k (fun K27 hK27 => ?_)
  refine wp_region_seq ?_
  refine wpL_move (v := .int .i64 0) (by rfl) (by rfl) (by rfl) ?_
  simp only [putT, List.set]
  refine wpL_chunk 11 (by rfl) (fun Lk hLk => ?_)
  simp only [List.take, List.drop]
  refine wpV_bin (v := .bool false) (by rfl) rfl rfl rfl (fun W => run_neq _ _ _ _ W) ?_
  simp only [putT, List.set]
  refine wpV_move (v := .bool false) (by rfl) rfl rfl ?_
  simp only [putT, List.set]
  refine wpV_move (v := .string (bs (sumM m Pl))) (by rfl) rfl rfl ?_
  simp only [putT, List.set]
  refine wpV_load (cs := [.int .i64 ((m : Nat) : Int), .slice (some ⟨g9, 0, none⟩) Pl.length g9c]) (by rfl) rfl rfl (M.r 3 0 rfl rfl) (M.lt 3 rfl) Tryd.underlying66 rfl info66 ?_
  simp only [putT, List.set]
  refine wpV_callf (v := .string (bs (sumM m Pl))) (args := #[.agg ([.int .i64 ((m : Nat) : Int), .slice (some ⟨g9, 0, none⟩) Pl.length g9c]).toArray]) (by rfl) rfl Tryd.func62 (by kernel_rfl) (by kernel_rfl) rfl (fun W hW => by with_reducible exact rSum_m (ps := Pl) (m := m) hp hpl h32 (RowA.of ((M.sees hW).r 2 0 rfl rfl) ((M.sees hW).lt 2 rfl) (scells_len _).symm Cg9)) ?_
  simp only [putT, List.set]
  refine wpV_binS (v := .bool false) (by rfl) rfl rfl rfl (fun W => (run_neq_bs _ _ _ W).trans (by rw [show decide (sumM m Pl ≠ sumM m Pl) = false from (decide_eq_false (fun h9 => h9 rfl))])) ?_
  simp only [putT, List.set]
  refine wpV_pick (v := .bool false) (by rfl) rfl rfl rfl ?_
  simp only [putT, List.set]
  refine wpV_move (v := .bool false) (by rfl) rfl rfl ?_
  simp only [putT, List.set]
  refine wpV_callf (v := .bool true) (args := #[]) (by rfl) rfl Tryd.func44 (by kernel_rfl) (by kernel_rfl) rfl (fun W hW => alive08_c ((M.sees hW).oldL L0) ((M.sees hW).oldR R0_0 L0)) ?_
  simp only [putT, List.set]
  refine wpV_not (b := true) (by rfl) rfl rfl ?_
  simp only [Bool.not_true, Bool.not_false]
  simp only [putT, List.set]
  refine wpV_pick (v := .bool false) (by rfl) rfl rfl rfl ?_
  simp only [putT, List.set]
  refine wpV_nil (hLk _ (fun w29 Sw29 => ?_))
  clear hLk Lk
  simp only [List.take, List.drop]
  replace M := M.sees Sw29
  refine wpL_nil (no_panic ?_)
  refine hK27 _ _ ?_
  refine wp_cond_false rfl ?_
  refine wp_skip ?_
  refine hK26 _ _ ?_
  refine wp_seq_k (fun K30 hK30 => ?_)
  refine wp_seq_k (fun K31 hK31 => ?_)
  refine wp_region_seq ?_
  refine wpL_move (v := .slice (some ⟨g10, 0, none⟩) Ql.length g10c) (by rfl) (by rfl) (by rfl) ?_
  simp only [putT, List.set]
  refine wpL_chunk 2 (by rfl) (fun Lk hLk => ?_)
  simp only [List.take, List.drop]
  refine wpV_callf (v := .bool true) (args := #[.slice (some ⟨g10, 0, none⟩) Ql.length g10c]) (by rfl) rfl Tryd.func43 (by kernel_rfl) (by kernel_rfl) rfl (fun W hW => by have h9 : Calls Tryd.prog _ _ W _ := rright_r (ps := Ql) (by omega) (RowA.of ((M.sees hW).r 1 0 rfl rfl) ((M.sees hW).lt 1 rfl) (scells_len _).symm Cg10); rw [hri] at h9; exact h9) ?_
  simp only [putT, List.set]
  refine wpV_not (b := true) (by rfl) rfl rfl ?_
  simp only [Bool.not_true, Bool.not_false]
  simp only [putT, List.set]
  refine wpV_nil (hLk _ (fun w33 Sw33 => ?_))
  clear hLk Lk
  simp only [List.take, List.drop]
  replace M := M.sees Sw33
  refine wpL_nil (no_panic ?_)
  refine hK31 _ _ ?_
  refine wp_cond_false rfl ?_
  refine wp_skip ?_
  refine hK30 _ _ ?_
  refine wp_seq_k (fun K34 hK34 => ?_)
  refine wp_seq_k (fun K35 hK35 => ?_)
  refine wp_region_seq ?_
  refine wpL_chunk 6 (by rfl) (fun Lk hLk => ?_)
  simp only [List.take, List.drop]
  refine wpV_val (v := .pointer (some ⟨g3, 0, none⟩)) (by rfl) (by rfl) (fun W hW => ?_) ?_
  · (go_simp; exact rfl)
  simp only [putT, List.set]
  refine wpV_load1 (v := .int .i64 ((m : Nat) : Int)) (by rfl) rfl rfl (range_one (range_sub (M.r 3 0 rfl rfl) 0 1 0 (xs := [.int .i64 ((m : Nat) : Int)]) rfl rfl)) (M.lt 3 rfl) Tryd.underlying3 rfl ?_
  simp only [putT, List.set]
  refine wpV_move (v := .slice (some ⟨g10, 0, none⟩) Ql.length g10c) (by rfl) rfl rfl ?_
  simp only [putT, List.set]
  refine wpV_lenA (n := Ql.length) (by rfl) rfl rfl rfl Tryd.underlying48 ?_
  simp only [putT, List.set]
  refine wpV_bin (v := .int .i64 ((m + Ql.length : Nat) : Int)) (by rfl) rfl rfl rfl (fun W => run_add (by simp only [IntKind.wrap_i64]; omega) W) ?_
  simp only [putT, List.set]
  refine wpV_bin (v := .bool true) (by rfl) rfl rfl rfl (fun W => (run_gtrN (m + Ql.length) 4096 _ _ W).trans (by rw [(decide_eq_true hov)])) ?_
  simp only [putT, List.set]
  refine wpV_nil (hLk _ (fun w37 Sw37 => ?_))
  clear hLk Lk
  simp only [List.take, List.drop]
  replace M := M.sees Sw37
  refine wpL_nil (no_panic ?_)
  refine hK35 _ _ ?_
  refine wp_cond_true rfl ?_
  refine wp_seq_k (fun K38 hK38 => ?_)
  refine wp_region_seq ?_
  refine wpL_move (v := .int .i64 22) (by rfl) (by rfl) (by rfl) ?_
  simp only [putT, List.set]
  refine wpL_chunk 12 (by rfl) (fun Lk hLk => ?_)
  simp only [List.take, List.drop]
  refine wpV_bin (v := .bool true) (by rfl) rfl rfl rfl (fun W => run_eql _ _ _ _ W) ?_
  simp only [putT, List.set]
  refine wpV_move (v := .bool true) (by rfl) rfl rfl ?_
  simp only [putT, List.set]
  refine wpV_val (v := .pointer (some ⟨g16, 0, none⟩)) (by rfl) (by rfl) (fun W hW => ?_) ?_
  · (go_simp; exact rfl)
  simp only [putT, List.set]
  refine wpV_load1 (v := .int .i64 0) (by rfl) rfl rfl (range_one (range_sub (M.r 0 0 rfl rfl) 0 1 0 (xs := [.int .i64 0]) rfl rfl)) (M.lt 0 rfl) Tryd.underlying3 rfl ?_
  simp only [putT, List.set]
  refine wpV_bin (v := .bool true) (by rfl) rfl rfl rfl (fun W => run_eql _ _ _ _ W) ?_
  simp only [putT, List.set]
  refine wpV_pick (v := .bool true) (by rfl) rfl rfl rfl ?_
  simp only [putT, List.set]
  refine wpV_move (v := .bool true) (by rfl) rfl rfl ?_
  simp only [putT, List.set]
  refine wpV_val (v := .pointer (some ⟨g16, 1, none⟩)) (by rfl) (by rfl) (fun W hW => ?_) ?_
  · (go_simp; exact rfl)
  simp only [putT, List.set]
  refine wpV_load1 (v := .slice none 0 0) (by rfl) rfl rfl (range_one (range_sub (M.r 0 0 rfl rfl) 1 1 1 (xs := [.slice none 0 0]) rfl rfl)) (M.lt 0 rfl) Tryd.underlying48 rfl ?_
  simp only [putT, List.set]
  refine wpV_lenA (n := 0) (by rfl) rfl rfl rfl Tryd.underlying48 ?_
  simp only [putT, List.set]
  refine wpV_bin (v := .bool true) (by rfl) rfl rfl rfl (fun W => run_eql _ _ _ _ W) ?_
  simp only [putT, List.set]
  refine wpV_pick (v := .bool true) (by rfl) rfl rfl rfl ?_
  simp only [putT, List.set]
  refine wpV_nil (hLk _ (fun w40 Sw40 => ?_))
  clear hLk Lk
  simp only [List.take, List.drop]
  replace M := M.sees Sw40
  refine wpL_assign (v := .bool true) (by rfl) (by rfl) (by rfl) ?_
  simp only [putT, List.set]
  refine wpL_nil (no_panic ?_)
  refine hK38 _ _ ?_
  refine wp_ret ?_
  repeat (first | with_reducible refine then_ret ?_ | with_reducible refine inblock_ret ?_)
  refine bodyPost_ret (v := .bool true) (res1 rfl (.tmp (by rfl))) rfl ?_
  have BE := M.below
  exact ⟨rfl, BE⟩
set_option maxRecDepth 100000 in
set_option maxHeartbeats 4000000 in
theorem goes_D0 {vps vls : Value} {ps ls Pl Ql : List (List UInt8)} {m : Nat} {w : World} (hP : cutsS 80 40 ps = Pl) (hQ : cutsS 80 40 ls = Ql) (hPL : Pl.length ≤ 80) (hQL : Ql.length ≤ 80) (hp : Pl.length ≤ 4611686018427387904) (hm : m ≤ 4096) (hmay : mayG ((m : Nat) : Int) Pl = true) (hpl : Pl.length = ones m) (h32 : ∀ s ∈ Pl, s.length = 32) (hri : rightB Ql = true) (hl32 : ∀ s ∈ Ql, s.length = 32) (hle : m + Ql.length ≤ 4096) (h0 : Ql.length = 0) (L0 : 0 < w.heap.size) (R0_0 : w.rangeAt 0 0 kcells) (hvps : RowS w vps ps) (hvls : RowS w vls ls) :
    Calls Tryd.prog 13 #[.agg [.int .i64 ((m : Nat) : Int), vps].toArray, vls] w fun e w' => e = .returned (.bool true) ∧ Below w.heap.size w w' := by
  go_enter Tryd.func13, Tryd.ntmps13
  have M := Mem.start w
  refine wp_seq_k (fun K1 hK1 => ?_)
  refine wp_region_seq ?_
  refine wpL_var (t := 66) (cs := [.int .i64 ((m : Nat) : Int), vps]) (by rfl) (fun W => ?_) (fun g3 w4 Sw4 Hg3 Bg3 => ?_)
  · (first | rfl | go_simp)
  replace M := ((M.sees Sw4).add (N := 2) (cs := [.int .i64 ((m : Nat) : Int), vps]) (M.ge Hg3) (M.fresh Hg3) Bg3 rfl)
  clear Bg3
  simp only [putT, List.set]
  refine wpL_assign (v := .bool false) (by rfl) (by rfl) (by rfl) ?_
  simp only [putT, List.set]
  refine wpL_nil (no_panic ?_)
  refine hK1 _ _ ?_
  refine wp_seq_k (fun K5 hK5 => ?_)
  refine wp_region_seq ?_
  refine wpL_chunk 1 (by rfl) (fun Lk hLk => ?_)
  simp only [List.take, List.drop]
  refine wpV_load (cs := [.int .i64 ((m : Nat) : Int), vps]) (by rfl) rfl rfl (M.r 0 0 rfl rfl) (M.lt 0 rfl) Tryd.underlying66 rfl info66 ?_
  simp only [putT, List.set]
  refine wpV_nil (hLk _ (fun w7 Sw7 => ?_))
  clear hLk Lk
  simp only [List.take, List.drop]
  replace M := M.sees Sw7
  refine wpL_callE (f := 59) (args := #[.agg ([.int .i64 ((m : Nat) : Int), vps]).toArray]) (R := fun v9 W9 => ∃ g9 g9c, v9 = .agg ([.int .i64 ((m : Nat) : Int), .slice (some ⟨g9, 0, none⟩) ((cutsS 80 40 ps).length) g9c]).toArray ∧ (cutsS 80 40 ps).length ≤ g9c ∧ Mem [] w7 W9 [⟨g9, g9c, [(0, scells (cutsS 80 40 ps))]⟩]) (by rfl) (by rfl) rfl Tryd.func59 (by kernel_rfl) (by kernel_rfl) (by have h9 := part_c (x := ((m : Nat) : Int)) (hvps.mem M); exact h9) (fun v9 w8 hv9 Sw8 => ?_)
  obtain ⟨g9, g9c, rfl, Cg9, M9⟩ := hv9
  replace M := M.call1 M9
  clear Sw8
  simp only [putT, List.set]
  refine wpL_move (v := vls) (by rfl) (by rfl) (by rfl) ?_
  simp only [putT, List.set]
  refine wpL_callE (f := 36) (args := #[vls]) (R := MemRow w8 ((cutsS 80 40 ls).length) (scells (cutsS 80 40 ls))) (by rfl) (by rfl) rfl Tryd.func36 (by kernel_rfl) (by kernel_rfl) (few_c (hvls.mem M)) (fun v9 w11 hv9 Sw11 => ?_)
  obtain ⟨g10, g10c, rfl, Cg10, M9⟩ := hv9
  replace M := M.call1 M9
  simp only [putT, List.set]
  refine wpL_store (g := g3) (off := 0) (n := 2) (cs := [.int .i64 ((m : Nat) : Int), .slice (some ⟨g9, 0, none⟩) ((cutsS 80 40 ps).length) g9c]) (by rfl) (by rfl) (by rfl) (by rfl) (by rfl) (M.t 2 rfl) (by simp [flen]) info66 (by simp [fone, Value.oneCell']) (fun w12 P R T => ?_)
  replace M := M.putS 2 0 rfl P R T rfl ⟨.inl rfl, trivial⟩
  simp only [List.set] at M
  refine wpL_assign (v := .slice (some ⟨g10, 0, none⟩) ((cutsS 80 40 ls).length) g10c) (by rfl) (by rfl) (by rfl) ?_
  simp only [putT, List.set]
  refine wpL_nil (no_panic ?_)
  simp only [hP] at M
  simp only [hQ] at M
  simp only [hP, hQ]
  try rw [hP] at Cg10
  try rw [hQ] at Cg10
  try rw [hP] at Cg9
  try rw [hQ] at Cg9
  try rw [hP] at Cg3
  try rw [hQ] at Cg3
  refine hK5 _ _ ?_
  refine wp_seq_k (fun K13 hK13 => ?_)
  refine wp_region_seq ?_
  refine wpL_chunk 6 (by rfl) (fun Lk hLk => ?_)
  simp only [List.take, List.drop]
  refine wpV_load (cs := [.int .i64 ((m : Nat) : Int), .slice (some ⟨g9, 0, none⟩) Pl.length g9c]) (by rfl) rfl rfl (M.r 2 0 rfl rfl) (M.lt 2 rfl) Tryd.underlying66 rfl info66 ?_
  simp only [putT, List.set]
  refine wpV_move (v := .slice (some ⟨g10, 0, none⟩) Ql.length g10c) (by rfl) rfl rfl ?_
  simp only [putT, List.set]
  refine wpV_callf (v := .tuple #[.agg ([.int .i64 ((m : Nat) : Int), .slice (some ⟨g9, 0, none⟩) Pl.length g9c]).toArray, .int .i64 0]) (args := #[.agg ([.int .i64 ((m : Nat) : Int), .slice (some ⟨g9, 0, none⟩) Pl.length g9c]).toArray, .slice (some ⟨g10, 0, none⟩) Ql.length g10c]) (by rfl) rfl Tryd.func55 (by kernel_rfl) (by kernel_rfl) rfl (fun W hW => by with_reducible exact Add_nil (ps := Pl) (ls := Ql) (m := m) hp hm hmay hri h0 (RowA.of ((M.sees hW).r 1 0 rfl rfl) ((M.sees hW).lt 1 rfl) (scells_len _).symm Cg9) (RowA.of ((M.sees hW).r 0 0 rfl rfl) ((M.sees hW).lt 0 rfl) (scells_len _).symm Cg10)) ?_
  simp only [putT, List.set]
  refine wpV_move (v := .tuple #[.agg ([.int .i64 ((m : Nat) : Int), .slice (some ⟨g9, 0, none⟩) Pl.length g9c]).toArray, .int .i64 0]) (by rfl) rfl rfl ?_
  simp only [putT, List.set]
  refine wpV_extract (v := .agg ([.int .i64 ((m : Nat) : Int), .slice (some ⟨g9, 0, none⟩) Pl.length g9c]).toArray) (by rfl) rfl rfl rfl ?_
  simp only [putT, List.set]
  refine wpV_extract (v := .int .i64 0) (by rfl) rfl rfl rfl ?_
  simp only [putT, List.set]
  refine wpV_nil (hLk _ (fun w15 Sw15 => ?_))
  clear hLk Lk
  simp only [List.take, List.drop]
  replace M := M.sees Sw15
  refine wpL_var (t := 66) (cs := [.int .i64 0, .slice none 0 0]) (by rfl) (fun W => ?_) (fun g16 w17 Sw17 Hg16 Bg16 => ?_)
  · go_simp
  replace M := ((M.sees Sw17).add (N := 2) (cs := [.int .i64 0, .slice none 0 0]) (M.ge Hg16) (M.fresh Hg16) Bg16 rfl)
  clear Bg16
  simp only [putT, List.set]
  refine wpL_store (g := g16) (off := 0) (n := 2) (cs := [.int .i64 ((m : Nat) : Int), .slice (some ⟨g9, 0, none⟩) Pl.length g9c]) (by rfl) (by rfl) (by rfl) (by rfl) (by rfl) (M.t 0 rfl) (by simp [flen]) info66 (by simp [fone, Value.oneCell']) (fun w18 P R T => ?_)
  replace M := M.putS 0 0 rfl P R T rfl ⟨.inl rfl, trivial⟩
  simp only [List.set] at M
  refine wpL_assign (v := .int .i64 0) (by rfl) (by rfl) (by rfl) ?_
  simp only [putT, List.set]
  refine wpL_nil (no_panic ?_)
  refine hK13 _ _ ?_
  refine wp_seq_k (fun K19 hK19 => ?_)
  refine wp_region_seq ?_
  refine wpL_chunk 5 (by rfl) (fun Lk hLk => ?_)
  simp only [List.take, List.drop]
  refine wpV_load (cs := [.int .i64 ((m : Nat) : Int), .slice (some ⟨g9, 0, none⟩) Pl.length g9c]) (by rfl) rfl rfl (M.r 3 0 rfl rfl) (M.lt 3 rfl) Tryd.underlying66 rfl info66 ?_
  simp only [putT, List.set]
  refine wpV_callf (v := .tuple #[.string (bs (sumM m Pl)), .int .i64 0]) (args := #[.agg ([.int .i64 ((m : Nat) : Int), .slice (some ⟨g9, 0, none⟩) Pl.length g9c]).toArray]) (by rfl) rfl Tryd.func60 (by kernel_rfl) (by kernel_rfl) rfl (fun W hW => by with_reducible exact Sum_m (ps := Pl) (m := m) hp hmay hpl h32 ((M.sees hW).oldL L0) ((M.sees hW).oldR R0_0 L0) (RowA.of ((M.sees hW).r 2 0 rfl rfl) ((M.sees hW).lt 2 rfl) (scells_len _).symm Cg9)) ?_
  simp only [putT, List.set]
  refine wpV_move (v := .tuple #[.string (bs (sumM m Pl)), .int .i64 0]) (by rfl) rfl rfl ?_
  simp only [putT, List.set]
  refine wpV_extract (v := .string (bs (sumM m Pl))) (by rfl) rfl rfl rfl ?_
  simp only [putT, List.set]
  refine wpV_extract (v := .int .i64 0) (by rfl) rfl rfl rfl ?_
  simp only [putT, List.set]
  refine wpV_nil (hLk _ (fun w21 Sw21 => ?_))
  clear hLk Lk
  simp only [List.take, List.drop]
  replace M := M.sees Sw21
  refine wpL_assign (v := .string (bs (sumM m Pl))) (by rfl) (by rfl) (by rfl) ?_
  simp only [putT, List.set]
  refine wpL_assign (v := .int .i64 0) (by rfl) (by rfl) (by rfl) ?_
  simp only [putT, List.set]
  refine wpL_nil (no_panic ?_)
  refine hK19 _ _ ?_
  refine wp_seq_k (fun K22 hK22 => ?_)
  refine wp_seq_k (fun K23 hK23 => ?_)
  refine wp_region_seq ?_
  refine wpL_chunk 3 (by rfl) (fun Lk hLk => ?_)
  simp only [List.take, List.drop]
  refine wpV_load (cs := [.int .i64 ((m : Nat) : Int), .slice (some ⟨g9, 0, none⟩) Pl.length g9c]) (by rfl) rfl rfl (M.r 3 0 rfl rfl) (M.lt 3 rfl) Tryd.underlying66 rfl info66 ?_
  simp only [putT, List.set]
  refine wpV_callf (v := .bool true) (args := #[.agg ([.int .i64 ((m : Nat) : Int), .slice (some ⟨g9, 0, none⟩) Pl.length g9c]).toArray]) (by rfl) rfl Tryd.func61 (by kernel_rfl) (by kernel_rfl) rfl (fun W hW => by have h9 : Calls Tryd.prog _ _ W _ := rmay_c (ps := Pl) (x := ((m : Nat) : Int)) (by omega) (RowA.of ((M.sees hW).r 2 0 rfl rfl) ((M.sees hW).lt 2 rfl) (scells_len _).symm Cg9); rw [hmay] at h9; exact h9) ?_
  simp only [putT, List.set]
  refine wpV_not (b := true) (by rfl) rfl rfl ?_
  simp only [Bool.not_true, Bool.not_false]
  simp only [putT, List.set]
  refine wpV_nil (hLk _ (fun w25 Sw25 => ?_))
  clear hLk Lk
  simp only [List.take, List.drop]
  replace M := M.sees Sw25
  refine wpL_nil (no_panic ?_)
  refine hK23 _ _ ?_
  refine wp_cond_false rfl ?_
  refine wp_skip ?_
  refine hK22 _ _ ?_
  refine wp_seq_k (fun K26 hK26 => ?_)
  refine wp_seq_k (fun K27 hK27 => ?_)
  refine wp_region_seq ?_
  refine wpL_move (v := .int .i64 0) (by rfl) (by rfl) (by rfl) ?_
  simp only [putT, List.set]
  refine wpL_chunk 11 (by rfl) (fun Lk hLk => ?_)
  simp only [List.take, List.drop]
  refine wpV_bin (v := .bool false) (by rfl) rfl rfl rfl (fun W => run_neq _ _ _ _ W) ?_
  simp only [putT, List.set]
  refine wpV_move (v := .bool false) (by rfl) rfl rfl ?_
  simp only [putT, List.set]
  refine wpV_move (v := .string (bs (sumM m Pl))) (by rfl) rfl rfl ?_
  simp only [putT, List.set]
  refine wpV_load (cs := [.int .i64 ((m : Nat) : Int), .slice (some ⟨g9, 0, none⟩) Pl.length g9c]) (by rfl) rfl rfl (M.r 3 0 rfl rfl) (M.lt 3 rfl) Tryd.underlying66 rfl info66 ?_
  simp only [putT, List.set]
  refine wpV_callf (v := .string (bs (sumM m Pl))) (args := #[.agg ([.int .i64 ((m : Nat) : Int), .slice (some ⟨g9, 0, none⟩) Pl.length g9c]).toArray]) (by rfl) rfl Tryd.func62 (by kernel_rfl) (by kernel_rfl) rfl (fun W hW => by with_reducible exact rSum_m (ps := Pl) (m := m) hp hpl h32 (RowA.of ((M.sees hW).r 2 0 rfl rfl) ((M.sees hW).lt 2 rfl) (scells_len _).symm Cg9)) ?_
  simp only [putT, List.set]
  refine wpV_binS (v := .bool false) (by rfl) rfl rfl rfl (fun W => (run_neq_bs _ _ _ W).trans (by rw [show decide (sumM m Pl ≠ sumM m Pl) = false from (decide_eq_false (fun h9 => h9 rfl))])) ?_
  simp only [putT, List.set]
  refine wpV_pick (v := .bool false) (by rfl) rfl rfl rfl ?_
  simp only [putT, List.set]
  refine wpV_move (v := .bool false) (by rfl) rfl rfl ?_
  simp only [putT, List.set]
  refine wpV_callf (v := .bool true) (args := #[]) (by rfl) rfl Tryd.func44 (by kernel_rfl) (by kernel_rfl) rfl (fun W hW => alive08_c ((M.sees hW).oldL L0) ((M.sees hW).oldR R0_0 L0)) ?_
  simp only [putT, List.set]
  refine wpV_not (b := true) (by rfl) rfl rfl ?_
  simp only [Bool.not_true, Bool.not_false]
  simp only [putT, List.set]
  refine wpV_pick (v := .bool false) (by rfl) rfl rfl rfl ?_
  simp only [putT, List.set]
  refine wpV_nil (hLk _ (fun w29 Sw29 => ?_))
  clear hLk Lk
  simp only [List.take, List.drop]
  replace M := M.sees Sw29
  refine wpL_nil (no_panic ?_)
  refine hK27 _ _ ?_
  refine wp_cond_false rfl ?_
  refine wp_skip ?_
  refine hK26 _ _ ?_
  refine wp_seq_k (fun K30 hK30 => ?_)
  refine wp_seq_k (fun K31 hK31 => ?_)
  refine wp_region_seq ?_
  refine wpL_move (v := .slice (some ⟨g10, 0, none⟩) Ql.length g10c) (by rfl) (by rfl) (by rfl) ?_
  simp only [putT, List.set]
  refine wpL_chunk 2 (by rfl) (fun Lk hLk => ?_)
  simp only [List.take, List.drop]
  refine wpV_callf (v := .bool true) (args := #[.slice (some ⟨g10, 0, none⟩) Ql.length g10c]) (by rfl) rfl Tryd.func43 (by kernel_rfl) (by kernel_rfl) rfl (fun W hW => by have h9 : Calls Tryd.prog _ _ W _ := rright_r (ps := Ql) (by omega) (RowA.of ((M.sees hW).r 1 0 rfl rfl) ((M.sees hW).lt 1 rfl) (scells_len _).symm Cg10); rw [hri] at h9; exact h9) ?_
  simp only [putT, List.set]
  refine wpV_not (b := true) (by rfl) rfl rfl ?_
  simp only [Bool.not_true, Bool.not_false]
  simp only [putT, List.set]
  refine wpV_nil (hLk _ (fun w33 Sw33 => ?_))
  clear hLk Lk
  simp only [List.take, List.drop]
  replace M := M.sees Sw33
  refine wpL_nil (no_panic ?_)
  refine hK31 _ _ ?_
  refine wp_cond_false rfl ?_
  refine wp_skip ?_
  refine hK30 _ _ ?_
  refine wp_seq_k (fun K34 hK34 => ?_)
  refine wp_seq_k (fun K35 hK35 => ?_)
  refine wp_region_seq ?_
  refine wpL_chunk 6 (by rfl) (fun Lk hLk => ?_)
  simp only [List.take, List.drop]
  refine wpV_val (v := .pointer (some ⟨g3, 0, none⟩)) (by rfl) (by rfl) (fun W hW => ?_) ?_
  · (go_simp; exact rfl)
  simp only [putT, List.set]
  refine wpV_load1 (v := .int .i64 ((m : Nat) : Int)) (by rfl) rfl rfl (range_one (range_sub (M.r 3 0 rfl rfl) 0 1 0 (xs := [.int .i64 ((m : Nat) : Int)]) rfl rfl)) (M.lt 3 rfl) Tryd.underlying3 rfl ?_
  simp only [putT, List.set]
  refine wpV_move (v := .slice (some ⟨g10, 0, none⟩) Ql.length g10c) (by rfl) rfl rfl ?_
  simp only [putT, List.set]
  refine wpV_lenA (n := Ql.length) (by rfl) rfl rfl rfl Tryd.underlying48 ?_
  simp only [putT, List.set]
  refine wpV_bin (v := .int .i64 ((m + Ql.length : Nat) : Int)) (by rfl) rfl rfl rfl (fun W => run_add (by simp only [IntKind.wrap_i64]; omega) W) ?_
  simp only [putT, List.set]
  refine wpV_bin (v := .bool false) (by rfl) rfl rfl rfl (fun W => (run_gtrN (m + Ql.length) 4096 _ _ W).trans (by rw [(decide_eq_false (by omega))])) ?_
  simp only [putT, List.set]
  refine wpV_nil (hLk _ (fun w37 Sw37 => ?_))
  clear hLk Lk
  simp only [List.take, List.drop]
  replace M := M.sees Sw37
  refine wpL_nil (no_panic ?_)
  refine hK35 _ _ ?_
  refine wp_cond_false rfl ?_
  refine wp_skip ?_
  refine hK34 _ _ ?_
  refine wp_seq_k (fun K38 hK38 => ?_)
  refine wp_seq_k (fun K39 hK39 => ?_)
  refine wp_region_seq ?_
  refine wpL_move (v := .slice (some ⟨g10, 0, none⟩) Ql.length g10c) (by rfl) (by rfl) (by rfl) ?_
  simp only [putT, List.set]
  refine wpL_chunk 1 (by rfl) (fun Lk hLk => ?_)
  simp only [List.take, List.drop]
  refine wpV_lenA (n := Ql.length) (by rfl) rfl rfl rfl Tryd.underlying48 ?_
  simp only [putT, List.set]
  refine wpV_nil (hLk _ (fun w41 Sw41 => ?_))
  clear hLk Lk
  simp only [List.take, List.drop]
  replace M := M.sees Sw41
  refine wpL_move (v := .int .i64 0) (by rfl) (by rfl) (by rfl) ?_
  simp only [putT, List.set]
  refine wpL_nil (no_panic ?_)
  refine hK39 _ _ ?_
  refine wp_block ?_
  refine wp_loop_rounds 2 ?_
  rw [rounds_succ]
  refine wp_seq_k (fun K42 hK42 => ?_)
  refine wp_region_seq ?_
  refine wpL_chunk 1 (by rfl) (fun Lk hLk => ?_)
  simp only [List.take, List.drop]
  refine wpV_bin (v := .bool false) (by rfl) rfl rfl rfl (fun W => (run_lssN 0 Ql.length _ _ W).trans (by rw [(decide_eq_false (by omega))])) ?_
  simp only [putT, List.set]
  refine wpV_nil (hLk _ (fun w44 Sw44 => ?_))
  clear hLk Lk
  simp only [List.take, List.drop]
  replace M := M.sees Sw44
  refine wpL_nil (no_panic ?_)
  refine hK42 _ _ ?_
  refine wp_seq_k (fun K45 hK45 => ?_)
  refine wp_cond_false rfl ?_
  refine wp_exit ?_
  refine hK38 _ _ ?_
  refine wp_seq_k (fun K46 hK46 => ?_)
  refine wp_region_seq ?_
  refine wpL_move (v := .int .i64 0) (by rfl) (by rfl) (by rfl) ?_
  simp only [putT, List.set]
  refine wpL_chunk 15 (by rfl) (fun Lk hLk => ?_)
  simp only [List.take, List.drop]
  refine wpV_bin (v := .bool true) (by rfl) rfl rfl rfl (fun W => run_eql _ _ _ _ W) ?_
  simp only [putT, List.set]
  refine wpV_move (v := .bool true) (by rfl) rfl rfl ?_
  simp only [putT, List.set]
  refine wpV_val (v := .pointer (some ⟨g16, 0, none⟩)) (by rfl) (by rfl) (fun W hW => ?_) ?_
  · (go_simp; exact rfl)
  simp only [putT, List.set]
  refine wpV_load1 (v := .int .i64 ((m : Nat) : Int)) (by rfl) rfl rfl (range_one (range_sub (M.r 0 0 rfl rfl) 0 1 0 (xs := [.int .i64 ((m : Nat) : Int)]) rfl rfl)) (M.lt 0 rfl) Tryd.underlying3 rfl ?_
  simp only [putT, List.set]
  refine wpV_val (v := .pointer (some ⟨g3, 0, none⟩)) (by rfl) (by rfl) (fun W hW => ?_) ?_
  · (go_simp; exact rfl)
  simp only [putT, List.set]
  refine wpV_load1 (v := .int .i64 ((m : Nat) : Int)) (by rfl) rfl rfl (range_one (range_sub (M.r 3 0 rfl rfl) 0 1 0 (xs := [.int .i64 ((m : Nat) : Int)]) rfl rfl)) (M.lt 3 rfl) Tryd.underlying3 rfl ?_
  simp only [putT, List.set]
  refine wpV_bin (v := .bool true) (by rfl) rfl rfl rfl (fun W => (run_eqlN m m _ _ W).trans (by rw [(decide_eq_true rfl)])) ?_
  simp only [putT, List.set]
  refine wpV_pick (v := .bool true) (by rfl) rfl rfl rfl ?_
  simp only [putT, List.set]
  refine wpV_move (v := .bool true) (by rfl) rfl rfl ?_
  simp only [putT, List.set]
  refine wpV_val (v := .pointer (some ⟨g16, 1, none⟩)) (by rfl) (by rfl) (fun W hW => ?_) ?_
  · (go_simp; exact rfl)
  simp only [putT, List.set]
  refine wpV_load1 (v := .slice (some ⟨g9, 0, none⟩) Pl.length g9c) (by rfl) rfl rfl (range_one (range_sub (M.r 0 0 rfl rfl) 1 1 1 (xs := [.slice (some ⟨g9, 0, none⟩) Pl.length g9c]) rfl rfl)) (M.lt 0 rfl) Tryd.underlying48 rfl ?_
  simp only [putT, List.set]
  refine wpV_val (v := .pointer (some ⟨g3, 1, none⟩)) (by rfl) (by rfl) (fun W hW => ?_) ?_
  · (go_simp; exact rfl)
  simp only [putT, List.set]
  refine wpV_load1 (v := .slice (some ⟨g9, 0, none⟩) Pl.length g9c) (by rfl) rfl rfl (range_one (range_sub (M.r 3 0 rfl rfl) 1 1 1 (xs := [.slice (some ⟨g9, 0, none⟩) Pl.length g9c]) rfl rfl)) (M.lt 3 rfl) Tryd.underlying48 rfl ?_
  simp only [putT, List.set]
  refine wpV_callf (v := .bool true) (args := #[.slice (some ⟨g9, 0, none⟩) Pl.length g9c, .slice (some ⟨g9, 0, none⟩) Pl.length g9c]) (by rfl) rfl Tryd.func50 (by kernel_rfl) (by kernel_rfl) rfl (fun W hW => by have h9 : Calls Tryd.prog _ _ W _ := same_r (ps := Pl) (qs := Pl) (by omega) (RowA.of ((M.sees hW).r 2 0 rfl rfl) ((M.sees hW).lt 2 rfl) (scells_len _).symm Cg9) (RowA.of ((M.sees hW).r 2 0 rfl rfl) ((M.sees hW).lt 2 rfl) (scells_len _).symm Cg9); rw [decide_eq_true rfl] at h9; exact h9) ?_
  simp only [putT, List.set]
  refine wpV_pick (v := .bool true) (by rfl) rfl rfl rfl ?_
  simp only [putT, List.set]
  refine wpV_nil (hLk _ (fun w48 Sw48 => ?_))
  clear hLk Lk
  simp only [List.take, List.drop]
  replace M := M.sees Sw48
  refine wpL_assign (v := .bool true) (by rfl) (by rfl) (by rfl) ?_
  simp only [putT, List.set]
  refine wpL_nil (no_panic ?_)
  refine hK46 _ _ ?_
  refine wp_ret ?_
  repeat (first | with_reducible refine then_ret ?_ | with_reducible refine inblock_ret ?_)
  refine bodyPost_ret (v := .bool true) (res1 rfl (.tmp (by rfl))) rfl ?_
  have BE := M.below
  exact ⟨rfl, BE⟩
set_option maxRecDepth 100000 in
set_option maxHeartbeats 4000000 in
theorem goes_D1 {vps vls : Value} {ps ls Pl Ql : List (List UInt8)} {m : Nat} {w : World} (hP : cutsS 80 40 ps = Pl) (hQ : cutsS 80 40 ls = Ql) (hPL : Pl.length ≤ 80) (hQL : Ql.length ≤ 80) (hp : Pl.length ≤ 4611686018427387904) (hm : m ≤ 4096) (hmay : mayG ((m : Nat) : Int) Pl = true) (hpl : Pl.length = ones m) (h32 : ∀ s ∈ Pl, s.length = 32) (hri : rightB Ql = true) (hl32 : ∀ s ∈ Ql, s.length = 32) (hle : m + Ql.length ≤ 4096) (h0l : 0 < Ql.length) (L0 : 0 < w.heap.size) (R0_0 : w.rangeAt 0 0 kcells) (hvps : RowS w vps ps) (hvls : RowS w vls ls) :
    Calls Tryd.prog 13 #[.agg [.int .i64 ((m : Nat) : Int), vps].toArray, vls] w fun e w' => e = .returned (.bool true) ∧ Below w.heap.size w w' := by
  go_enter Tryd.func13, Tryd.ntmps13
  have M := Mem.start w
  refine wp_seq_k (fun K1 hK1 => ?_)
  refine wp_region_seq ?_
  refine wpL_var (t := 66) (cs := [.int .i64 ((m : Nat) : Int), vps]) (by rfl) (fun W => ?_) (fun g3 w4 Sw4 Hg3 Bg3 => ?_)
  · (first | rfl | go_simp)
  replace M := ((M.sees Sw4).add (N := 2) (cs := [.int .i64 ((m : Nat) : Int), vps]) (M.ge Hg3) (M.fresh Hg3) Bg3 rfl)
  clear Bg3
  simp only [putT, List.set]
  refine wpL_assign (v := .bool false) (by rfl) (by rfl) (by rfl) ?_
  simp only [putT, List.set]
  refine wpL_nil (no_panic ?_)
  refine hK1 _ _ ?_
  refine wp_seq_k (fun K5 hK5 => ?_)
  refine wp_region_seq ?_
  refine wpL_chunk 1 (by rfl) (fun Lk hLk => ?_)
  simp only [List.take, List.drop]
  refine wpV_load (cs := [.int .i64 ((m : Nat) : Int), vps]) (by rfl) rfl rfl (M.r 0 0 rfl rfl) (M.lt 0 rfl) Tryd.underlying66 rfl info66 ?_
  simp only [putT, List.set]
  refine wpV_nil (hLk _ (fun w7 Sw7 => ?_))
  clear hLk Lk
  simp only [List.take, List.drop]
  replace M := M.sees Sw7
  refine wpL_callE (f := 59) (args := #[.agg ([.int .i64 ((m : Nat) : Int), vps]).toArray]) (R := fun v9 W9 => ∃ g9 g9c, v9 = .agg ([.int .i64 ((m : Nat) : Int), .slice (some ⟨g9, 0, none⟩) ((cutsS 80 40 ps).length) g9c]).toArray ∧ (cutsS 80 40 ps).length ≤ g9c ∧ Mem [] w7 W9 [⟨g9, g9c, [(0, scells (cutsS 80 40 ps))]⟩]) (by rfl) (by rfl) rfl Tryd.func59 (by kernel_rfl) (by kernel_rfl) (by have h9 := part_c (x := ((m : Nat) : Int)) (hvps.mem M); exact h9) (fun v9 w8 hv9 Sw8 => ?_)
  obtain ⟨g9, g9c, rfl, Cg9, M9⟩ := hv9
  replace M := M.call1 M9
  clear Sw8
  simp only [putT, List.set]
  refine wpL_move (v := vls) (by rfl) (by rfl) (by rfl) ?_
  simp only [putT, List.set]
  refine wpL_callE (f := 36) (args := #[vls]) (R := MemRow w8 ((cutsS 80 40 ls).length) (scells (cutsS 80 40 ls))) (by rfl) (by rfl) rfl Tryd.func36 (by kernel_rfl) (by kernel_rfl) (few_c (hvls.mem M)) (fun v9 w11 hv9 Sw11 => ?_)
  obtain ⟨g10, g10c, rfl, Cg10, M9⟩ := hv9
  replace M := M.call1 M9
  simp only [putT, List.set]
  refine wpL_store (g := g3) (off := 0) (n := 2) (cs := [.int .i64 ((m : Nat) : Int), .slice (some ⟨g9, 0, none⟩) ((cutsS 80 40 ps).length) g9c]) (by rfl) (by rfl) (by rfl) (by rfl) (by rfl) (M.t 2 rfl) (by simp [flen]) info66 (by simp [fone, Value.oneCell']) (fun w12 P R T => ?_)
  replace M := M.putS 2 0 rfl P R T rfl ⟨.inl rfl, trivial⟩
  simp only [List.set] at M
  refine wpL_assign (v := .slice (some ⟨g10, 0, none⟩) ((cutsS 80 40 ls).length) g10c) (by rfl) (by rfl) (by rfl) ?_
  simp only [putT, List.set]
  refine wpL_nil (no_panic ?_)
  simp only [hP] at M
  simp only [hQ] at M
  simp only [hP, hQ]
  try rw [hP] at Cg10
  try rw [hQ] at Cg10
  try rw [hP] at Cg9
  try rw [hQ] at Cg9
  try rw [hP] at Cg3
  try rw [hQ] at Cg3
  refine hK5 _ _ ?_
  refine wp_seq_k (fun K13 hK13 => ?_)
  refine wp_region_seq ?_
  refine wpL_chunk 1 (by rfl) (fun Lk hLk => ?_)
  simp only [List.take, List.drop]
  refine wpV_load (cs := [.int .i64 ((m : Nat) : Int), .slice (some ⟨g9, 0, none⟩) Pl.length g9c]) (by rfl) rfl rfl (M.r 2 0 rfl rfl) (M.lt 2 rfl) Tryd.underlying66 rfl info66 ?_
  simp only [putT, List.set]
  refine wpV_nil (hLk _ (fun w15 Sw15 => ?_))
  clear hLk Lk
  simp only [List.take, List.drop]
  replace M := M.sees Sw15
  refine wpL_move (v := .slice (some ⟨g10, 0, none⟩) Ql.length g10c) (by rfl) (by rfl) (by rfl) ?_
  simp only [putT, List.set]
  refine wpL_callE (f := 55) (args := #[.agg ([.int .i64 ((m : Nat) : Int), .slice (some ⟨g9, 0, none⟩) Pl.length g9c]).toArray, .slice (some ⟨g10, 0, none⟩) Ql.length g10c]) (R := fun v9 W9 => ∃ g17 g17c, v9 = .tuple #[.agg ([.int .i64 ((m + Ql.length : Nat) : Int), .slice (some ⟨g17, 0, none⟩) ((addsP m Pl Ql).length) g17c]).toArray, .int .i64 0] ∧ (addsP m Pl Ql).length ≤ g17c ∧ Mem [] w15 W9 [⟨g17, g17c, [(0, scells (addsP m Pl Ql))]⟩]) (by rfl) (by rfl) rfl Tryd.func55 (by kernel_rfl) (by kernel_rfl) (by have h9 := Add_new (ps := Pl) (ap := (some ⟨g9, 0, none⟩)) (np := Pl.length) (cp := g9c) (ls := Ql) (aq := (some ⟨g10, 0, none⟩)) (nq := Ql.length) (cq := g10c) (m := m) (w := w15) hp hm hmay hri hle hpl h32 hl32 h0l (M.oldL L0) (M.oldR R0_0 L0) (RowA.of (M.r 1 0 rfl rfl) (M.lt 1 rfl) (scells_len _).symm Cg9) (RowA.of (M.r 0 0 rfl rfl) (M.lt 0 rfl) (scells_len _).symm Cg10); exact Calls.mono h9 fun e W8 ⟨v8, e1, g8, c8, e2, e3, e4⟩ => ⟨v8, e1, ⟨g8, c8, e2, e3, e4⟩, e4.below⟩) (fun v9 w16 hv9 Sw16 => ?_)
  obtain ⟨g17, g17c, rfl, Cg17, M9⟩ := hv9
  replace M := M.call1 M9
  clear Sw16
  simp only [putT, List.set]
  refine wpL_move (v := .tuple #[.agg ([.int .i64 ((m + Ql.length : Nat) : Int), .slice (some ⟨g17, 0, none⟩) ((addsP m Pl Ql).length) g17c]).toArray, .int .i64 0]) (by rfl) (by rfl) (by rfl) ?_
  simp only [putT, List.set]
  refine wpL_chunk 2 (by rfl) (fun Lk hLk => ?_)
  simp only [List.take, List.drop]
  refine wpV_extract (v := .agg ([.int .i64 ((m + Ql.length : Nat) : Int), .slice (some ⟨g17, 0, none⟩) ((addsP m Pl Ql).length) g17c]).toArray) (by rfl) rfl rfl rfl ?_
  simp only [putT, List.set]
  refine wpV_extract (v := .int .i64 0) (by rfl) rfl rfl rfl ?_
  simp only [putT, List.set]
  refine wpV_nil (hLk _ (fun w18 Sw18 => ?_))
  clear hLk Lk
  simp only [List.take, List.drop]
  replace M := M.sees Sw18
  refine wpL_var (t := 66) (cs := [.int .i64 0, .slice none 0 0]) (by rfl) (fun W => ?_) (fun g19 w20 Sw20 Hg19 Bg19 => ?_)
  · go_simp
  replace M := ((M.sees Sw20).add (N := 2) (cs := [.int .i64 0, .slice none 0 0]) (M.ge Hg19) (M.fresh Hg19) Bg19 rfl)
  clear Bg19
  simp only [putT, List.set]
  refine wpL_store (g := g19) (off := 0) (n := 2) (cs := [.int .i64 ((m + Ql.length : Nat) : Int), .slice (some ⟨g17, 0, none⟩) ((addsP m Pl Ql).length) g17c]) (by rfl) (by rfl) (by rfl) (by rfl) (by rfl) (M.t 0 rfl) (by simp [flen]) info66 (by simp [fone, Value.oneCell']) (fun w21 P R T => ?_)
  replace M := M.putS 0 0 rfl P R T rfl ⟨.inl rfl, trivial⟩
  simp only [List.set] at M
  refine wpL_assign (v := .int .i64 0) (by rfl) (by rfl) (by rfl) ?_
  simp only [putT, List.set]
  refine wpL_nil (no_panic ?_)
  refine hK13 _ _ ?_
  refine wp_seq_k (fun K22 hK22 => ?_)
  refine wp_region_seq ?_
  refine wpL_chunk 5 (by rfl) (fun Lk hLk => ?_)
  simp only [List.take, List.drop]
  refine wpV_load (cs := [.int .i64 ((m : Nat) : Int), .slice (some ⟨g9, 0, none⟩) Pl.length g9c]) (by rfl) rfl rfl (M.r 4 0 rfl rfl) (M.lt 4 rfl) Tryd.underlying66 rfl info66 ?_
  simp only [putT, List.set]
  refine wpV_callf (v := .tuple #[.string (bs (sumM m Pl)), .int .i64 0]) (args := #[.agg ([.int .i64 ((m : Nat) : Int), .slice (some ⟨g9, 0, none⟩) Pl.length g9c]).toArray]) (by rfl) rfl Tryd.func60 (by kernel_rfl) (by kernel_rfl) rfl (fun W hW => by with_reducible exact Sum_m (ps := Pl) (m := m) hp hmay hpl h32 ((M.sees hW).oldL L0) ((M.sees hW).oldR R0_0 L0) (RowA.of ((M.sees hW).r 3 0 rfl rfl) ((M.sees hW).lt 3 rfl) (scells_len _).symm Cg9)) ?_
  simp only [putT, List.set]
  refine wpV_move (v := .tuple #[.string (bs (sumM m Pl)), .int .i64 0]) (by rfl) rfl rfl ?_
  simp only [putT, List.set]
  refine wpV_extract (v := .string (bs (sumM m Pl))) (by rfl) rfl rfl rfl ?_
  simp only [putT, List.set]
  refine wpV_extract (v := .int .i64 0) (by rfl) rfl rfl rfl ?_
  simp only [putT, List.set]
  refine wpV_nil (hLk _ (fun w24 Sw24 => ?_))
  clear hLk Lk
  simp only [List.take, List.drop]
  replace M := M.sees Sw24
  refine wpL_assign (v := .string (bs (sumM m Pl))) (by rfl) (by rfl) (by rfl) ?_
  simp only [putT, List.set]
  refine wpL_assign (v := .int .i64 0) (by rfl) (by rfl) (by rfl) ?_
  simp only [putT, List.set]
  refine wpL_nil (no_panic ?_)
  refine hK22 _ _ ?_
  refine wp_seq_k (fun K25 hK25 => ?_)
  refine wp_seq_k (fun K26 hK26 => ?_)
  refine wp_region_seq ?_
  refine wpL_chunk 3 (by rfl) (fun Lk hLk => ?_)
  simp only [List.take, List.drop]
  refine wpV_load (cs := [.int .i64 ((m : Nat) : Int), .slice (some ⟨g9, 0, none⟩) Pl.length g9c]) (by rfl) rfl rfl (M.r 4 0 rfl rfl) (M.lt 4 rfl) Tryd.underlying66 rfl info66 ?_
  simp only [putT, List.set]
  refine wpV_callf (v := .bool true) (args := #[.agg ([.int .i64 ((m : Nat) : Int), .slice (some ⟨g9, 0, none⟩) Pl.length g9c]).toArray]) (by rfl) rfl Tryd.func61 (by kernel_rfl) (by kernel_rfl) rfl (fun W hW => by have h9 : Calls Tryd.prog _ _ W _ := rmay_c (ps := Pl) (x := ((m : Nat) : Int)) (by omega) (RowA.of ((M.sees hW).r 3 0 rfl rfl) ((M.sees hW).lt 3 rfl) (scells_len _).symm Cg9); rw [hmay] at h9; exact h9) ?_
  simp only [putT, List.set]
  refine wpV_not (b := true) (by rfl) rfl rfl ?_
  simp only [Bool.not_true, Bool.not_false]
  simp only [putT, List.set]
  refine wpV_nil (hLk _ (fun w28 Sw28 => ?_))
  clear hLk Lk
  simp only [List.take, List.drop]
  replace M := M.sees Sw28
  refine wpL_nil (no_panic ?_)
  refine hK26 _ _ ?_
  refine wp_cond_false rfl ?_
  refine wp_skip ?_
  refine hK25 _ _ ?_
  refine wp_seq_k (fun K29 hK29 => ?_)
  refine wp_seq_k (fun K30 hK30 => ?_)
  refine wp_region_seq ?_
  refine wpL_move (v := .int .i64 0) (by rfl) (by rfl) (by rfl) ?_
  simp only [putT, List.set]
  refine wpL_chunk 11 (by rfl) (fun Lk hLk => ?_)
  simp only [List.take, List.drop]
  refine wpV_bin (v := .bool false) (by rfl) rfl rfl rfl (fun W => run_neq _ _ _ _ W) ?_
  simp only [putT, List.set]
  refine wpV_move (v := .bool false) (by rfl) rfl rfl ?_
  simp only [putT, List.set]
  refine wpV_move (v := .string (bs (sumM m Pl))) (by rfl) rfl rfl ?_
  simp only [putT, List.set]
  refine wpV_load (cs := [.int .i64 ((m : Nat) : Int), .slice (some ⟨g9, 0, none⟩) Pl.length g9c]) (by rfl) rfl rfl (M.r 4 0 rfl rfl) (M.lt 4 rfl) Tryd.underlying66 rfl info66 ?_
  simp only [putT, List.set]
  refine wpV_callf (v := .string (bs (sumM m Pl))) (args := #[.agg ([.int .i64 ((m : Nat) : Int), .slice (some ⟨g9, 0, none⟩) Pl.length g9c]).toArray]) (by rfl) rfl Tryd.func62 (by kernel_rfl) (by kernel_rfl) rfl (fun W hW => by with_reducible exact rSum_m (ps := Pl) (m := m) hp hpl h32 (RowA.of ((M.sees hW).r 3 0 rfl rfl) ((M.sees hW).lt 3 rfl) (scells_len _).symm Cg9)) ?_
  simp only [putT, List.set]
  refine wpV_binS (v := .bool false) (by rfl) rfl rfl rfl (fun W => (run_neq_bs _ _ _ W).trans (by rw [show decide (sumM m Pl ≠ sumM m Pl) = false from (decide_eq_false (fun h9 => h9 rfl))])) ?_
  simp only [putT, List.set]
  refine wpV_pick (v := .bool false) (by rfl) rfl rfl rfl ?_
  simp only [putT, List.set]
  refine wpV_move (v := .bool false) (by rfl) rfl rfl ?_
  simp only [putT, List.set]
  refine wpV_callf (v := .bool true) (args := #[]) (by rfl) rfl Tryd.func44 (by kernel_rfl) (by kernel_rfl) rfl (fun W hW => alive08_c ((M.sees hW).oldL L0) ((M.sees hW).oldR R0_0 L0)) ?_
  simp only [putT, List.set]
  refine wpV_not (b := true) (by rfl) rfl rfl ?_
  simp only [Bool.not_true, Bool.not_false]
  simp only [putT, List.set]
  refine wpV_pick (v := .bool false) (by rfl) rfl rfl rfl ?_
  simp only [putT, List.set]
  refine wpV_nil (hLk _ (fun w32 Sw32 => ?_))
  clear hLk Lk
  simp only [List.take, List.drop]
  replace M := M.sees Sw32
  refine wpL_nil (no_panic ?_)
  refine hK30 _ _ ?_
  refine wp_cond_false rfl ?_
  refine wp_skip ?_
  refine hK29 _ _ ?_
  refine wp_seq_k (fun K33 hK33 => ?_)
  refine wp_seq_k (fun K34 hK34 => ?_)
  refine wp_region_seq ?_
  refine wpL_move (v := .slice (some ⟨g10, 0, none⟩) Ql.length g10c) (by rfl) (by rfl) (by rfl) ?_
  simp only [putT, List.set]
  refine wpL_chunk 2 (by rfl) (fun Lk hLk => ?_)
  simp only [List.take, List.drop]
  refine wpV_callf (v := .bool true) (args := #[.slice (some ⟨g10, 0, none⟩) Ql.length g10c]) (by rfl) rfl Tryd.func43 (by kernel_rfl) (by kernel_rfl) rfl (fun W hW => by have h9 : Calls Tryd.prog _ _ W _ := rright_r (ps := Ql) (by omega) (RowA.of ((M.sees hW).r 2 0 rfl rfl) ((M.sees hW).lt 2 rfl) (scells_len _).symm Cg10); rw [hri] at h9; exact h9) ?_
  simp only [putT, List.set]
  refine wpV_not (b := true) (by rfl) rfl rfl ?_
  simp only [Bool.not_true, Bool.not_false]
  simp only [putT, List.set]
  refine wpV_nil (hLk _ (fun w36 Sw36 => ?_))
  clear hLk Lk
  simp only [List.take, List.drop]
  replace M := M.sees Sw36
  refine wpL_nil (no_panic ?_)
  refine hK34 _ _ ?_
  refine wp_cond_false rfl ?_
  refine wp_skip ?_
  refine hK33 _ _ ?_
  refine wp_seq_k (fun K37 hK37 => ?_)
  refine wp_seq_k (fun K38 hK38 => ?_)
  refine wp_region_seq ?_
  refine wpL_chunk 6 (by rfl) (fun Lk hLk => ?_)
  simp only [List.take, List.drop]
  refine wpV_val (v := .pointer (some ⟨g3, 0, none⟩)) (by rfl) (by rfl) (fun W hW => ?_) ?_
  · (go_simp; exact rfl)
  simp only [putT, List.set]
  refine wpV_load1 (v := .int .i64 ((m : Nat) : Int)) (by rfl) rfl rfl (range_one (range_sub (M.r 4 0 rfl rfl) 0 1 0 (xs := [.int .i64 ((m : Nat) : Int)]) rfl rfl)) (M.lt 4 rfl) Tryd.underlying3 rfl ?_
  simp only [putT, List.set]
  refine wpV_move (v := .slice (some ⟨g10, 0, none⟩) Ql.length g10c) (by rfl) rfl rfl ?_
  simp only [putT, List.set]
  refine wpV_lenA (n := Ql.length) (by rfl) rfl rfl rfl Tryd.underlying48 ?_
  simp only [putT, List.set]
  refine wpV_bin (v := .int .i64 ((m + Ql.length : Nat) : Int)) (by rfl) rfl rfl rfl (fun W => run_add (by simp only [IntKind.wrap_i64]; omega) W) ?_
  simp only [putT, List.set]
  refine wpV_bin (v := .bool false) (by rfl) rfl rfl rfl (fun W => (run_gtrN (m + Ql.length) 4096 _ _ W).trans (by rw [(decide_eq_false (by omega))])) ?_
  simp only [putT, List.set]
  refine wpV_nil (hLk _ (fun w40 Sw40 => ?_))
  clear hLk Lk
  simp only [List.take, List.drop]
  replace M := M.sees Sw40
  refine wpL_nil (no_panic ?_)
  refine hK38 _ _ ?_
  refine wp_cond_false rfl ?_
  refine wp_skip ?_
  refine hK37 _ _ ?_
  refine wp_seq_k (fun K41 hK41 => ?_)
  refine wp_seq_k (fun K42 hK42 => ?_)
  refine wp_region_seq ?_
  refine wpL_move (v := .slice (some ⟨g10, 0, none⟩) Ql.length g10c) (by rfl) (by rfl) (by rfl) ?_
  simp only [putT, List.set]
  refine wpL_chunk 1 (by rfl) (fun Lk hLk => ?_)
  simp only [List.take, List.drop]
  refine wpV_lenA (n := Ql.length) (by rfl) rfl rfl rfl Tryd.underlying48 ?_
  simp only [putT, List.set]
  refine wpV_nil (hLk _ (fun w44 Sw44 => ?_))
  clear hLk Lk
  simp only [List.take, List.drop]
  replace M := M.sees Sw44
  refine wpL_move (v := .int .i64 0) (by rfl) (by rfl) (by rfl) ?_
  simp only [putT, List.set]
  refine wpL_nil (no_panic ?_)
  refine hK42 _ _ ?_
  refine wp_block ?_
  refine wp_loop_ghost (fun n9 a9 W9 => ∃ (k : Nat) (r : Nat) (rc : Nat) (u45 : Nat → Value), n9 = 2 * (Ql.length - k) ∧ a9 = { tmps := #[.agg ([.int .i64 ((m : Nat) : Int), vps]).toArray, .slice (some ⟨g10, 0, none⟩) Ql.length g10c, .pointer (some ⟨g3, 0, none⟩), undef, .bool false, .pointer (some ⟨g19, 0, none⟩), .int .i64 0, .string (bs (sumM m Pl)), .int .i64 0, undef, u45 10, .agg ([.int .i64 ((m : Nat) : Int), vps]).toArray, .agg ([.int .i64 ((m : Nat) : Int), .slice (some ⟨g9, 0, none⟩) Pl.length g9c]).toArray, vls, .slice (some ⟨g10, 0, none⟩) Ql.length g10c, .tuple #[.agg ([.int .i64 ((m + Ql.length : Nat) : Int), .slice (some ⟨g17, 0, none⟩) ((addsP m Pl Ql).length) g17c]).toArray, .int .i64 0], .agg ([.int .i64 ((m : Nat) : Int), .slice (some ⟨g9, 0, none⟩) Pl.length g9c]).toArray, .slice (some ⟨g10, 0, none⟩) Ql.length g10c, .tuple #[.agg ([.int .i64 ((m + Ql.length : Nat) : Int), .slice (some ⟨g17, 0, none⟩) ((addsP m Pl Ql).length) g17c]).toArray, .int .i64 0], .agg ([.int .i64 ((m + Ql.length : Nat) : Int), .slice (some ⟨g17, 0, none⟩) ((addsP m Pl Ql).length) g17c]).toArray, .int .i64 0, .tuple #[.string (bs (sumM m Pl)), .int .i64 0], .agg ([.int .i64 ((m : Nat) : Int), .slice (some ⟨g9, 0, none⟩) Pl.length g9c]).toArray, .tuple #[.string (bs (sumM m Pl)), .int .i64 0], .string (bs (sumM m Pl)), .int .i64 0, .agg ([.int .i64 ((m : Nat) : Int), .slice (some ⟨g9, 0, none⟩) Pl.length g9c]).toArray, .bool true, .bool false, undef, undef, undef, undef, undef, undef, undef, undef, undef, undef, undef, undef, undef, undef, undef, undef, undef, undef, undef, undef, undef, undef, undef, undef, .int .i64 0, .bool false, .bool false, .string (bs (sumM m Pl)), .agg ([.int .i64 ((m : Nat) : Int), .slice (some ⟨g9, 0, none⟩) Pl.length g9c]).toArray, .string (bs (sumM m Pl)), .bool false, .bool false, .bool false, .bool true, .bool false, .bool false, .slice (some ⟨g10, 0, none⟩) Ql.length g10c, .bool true, .bool false, undef, undef, undef, undef, undef, undef, undef, undef, undef, undef, undef, undef, undef, .pointer (some ⟨g3, 0, none⟩), .int .i64 ((m : Nat) : Int), .slice (some ⟨g10, 0, none⟩) Ql.length g10c, .int .i64 ((Ql.length : Nat) : Int), .int .i64 ((m + Ql.length : Nat) : Int), .bool false, undef, undef, undef, undef, undef, undef, undef, undef, undef, undef, undef, undef, undef, .slice (some ⟨g10, 0, none⟩) Ql.length g10c, .int .i64 ((Ql.length : Nat) : Int), .int .i64 ((k : Nat) : Int), u45 103, u45 104, u45 105, u45 106, u45 107, u45 108, u45 109, undef, undef, undef, undef, undef, undef, undef, undef, undef, undef, undef, undef, undef, undef, undef, undef], defers := [] } ∧ Mem [] w W9 [⟨g19, 2, [(0, [.int .i64 ((m + Ql.length : Nat) : Int), .slice (some ⟨g17, 0, none⟩) ((addsP m Pl Ql).length) g17c])]⟩, ⟨g17, g17c, [(0, scells (addsP m Pl Ql))]⟩, ⟨g10, g10c, [(0, scells Ql)]⟩, ⟨g3, 2, [(0, [.int .i64 ((m + k : Nat) : Int), .slice (some ⟨r, 0, none⟩) ((addsP m Pl (Ql.take k)).length) rc])]⟩, ⟨r, rc, [(0, scells (addsP m Pl (Ql.take k)))]⟩] ∧ (addsP m Pl (Ql.take k)).length ≤ rc ∧ (k ≤ Ql.length)) (2 * (Ql.length - (0))) ?_ (fun n9 a9 W9 hI => ?_)
  · exact ⟨0, g9, g9c, (fun q9 => (#[undef, undef, undef, undef, undef, undef, undef, undef, undef, undef, undef, undef, undef, undef, undef, undef, undef, undef, undef, undef, undef, undef, undef, undef, undef, undef, undef, undef, undef, undef, undef, undef, undef, undef, undef, undef, undef, undef, undef, undef, undef, undef, undef, undef, undef, undef, undef, undef, undef, undef, undef, undef, undef, undef, undef, undef, undef, undef, undef, undef, undef, undef, undef, undef, undef, undef, undef, undef, undef, undef, undef, undef, undef, undef, undef, undef, undef, undef, undef, undef, undef, undef, undef, undef, undef, undef, undef, undef, undef, undef, undef, undef, undef, undef, undef, undef, undef, undef, undef, undef, undef, undef, undef, undef, undef, undef, undef, undef, undef, undef] : Array Value).getD q9 undef), rfl, rfl, (M.pick [0, 1, 2, 4, 3] (by decide) rfl), Cg9, (Nat.zero_le _)⟩
  clear M
  obtain ⟨k, r, rc, u45, rfl, rfl, M, Cr, hk4⟩ := hI
  obtain ⟨w46, rfl⟩ : ∃ W8, W8 = W9 := ⟨_, rfl⟩
  have hLl : (addsP m Pl (Ql.take k)).length = ones (m + k) := by rw [addsP_len _ _ _ hpl, List.length_take, Nat.min_eq_left hk4]
  have hL32 : ∀ s ∈ (addsP m Pl (Ql.take k)), s.length = 32 := addsP_32 _ _ _ h32 (fun s hs => hl32 s (List.mem_of_mem_take hs))
  refine wp_seq_k (fun K47 hK47 => ?_)
  refine wp_region_seq ?_
  refine wpL_chunk 1 (by rfl) (fun Lk hLk => ?_)
  simp only [List.take, List.drop]
  refine wpV_bin (v := .bool (decide (k < Ql.length))) (by rfl) rfl rfl rfl (fun W => run_lssN k Ql.length _ _ W) ?_
  simp only [putT, List.set]
  refine wpV_nil (hLk _ (fun w49 Sw49 => ?_))
  clear hLk Lk
  simp only [List.take, List.drop]
  replace M := M.sees Sw49
  refine wpL_nil (no_panic ?_)
  refine hK47 _ _ ?_
  refine wp_seq_k (fun K50 hK50 => ?_)
  cases hc51 : (decide (k < Ql.length))
  · skip
    obtain rfl : k = Ql.length := by have := of_decide_eq_false hc51; omega
    refine wp_cond_false rfl ?_
    refine wp_exit ?_
    refine hK41 _ _ ?_
    refine wp_seq_k (fun K52 hK52 => ?_)
    refine wp_region_seq ?_
    refine wpL_move (v := .int .i64 0) (by rfl) (by rfl) (by rfl) ?_
    simp only [putT, List.set]
    refine wpL_chunk 15 (by rfl) (fun Lk hLk => ?_)
    simp only [List.take, List.drop]
    refine wpV_bin (v := .bool true) (by rfl) rfl rfl rfl (fun W => run_eql _ _ _ _ W) ?_
    simp only [putT, List.set]
    refine wpV_move (v := .bool true) (by rfl) rfl rfl ?_
    simp only [putT, List.set]
    refine wpV_val (v := .pointer (some ⟨g19, 0, none⟩)) (by rfl) (by rfl) (fun W hW => ?_) ?_
    · (go_simp; exact rfl)
    simp only [putT, List.set]
    refine wpV_load1 (v := .int .i64 ((m + Ql.length : Nat) : Int)) (by rfl) rfl rfl (range_one (range_sub (M.r 0 0 rfl rfl) 0 1 0 (xs := [.int .i64 ((m + Ql.length : Nat) : Int)]) rfl rfl)) (M.lt 0 rfl) Tryd.underlying3 rfl ?_
    simp only [putT, List.set]
    refine wpV_val (v := .pointer (some ⟨g3, 0, none⟩)) (by rfl) (by rfl) (fun W hW => ?_) ?_
    · (go_simp; exact rfl)
    simp only [putT, List.set]
    refine wpV_load1 (v := .int .i64 ((m + Ql.length : Nat) : Int)) (by rfl) rfl rfl (range_one (range_sub (M.r 3 0 rfl rfl) 0 1 0 (xs := [.int .i64 ((m + Ql.length : Nat) : Int)]) rfl rfl)) (M.lt 3 rfl) Tryd.underlying3 rfl ?_
    simp only [putT, List.set]
    refine wpV_bin (v := .bool true) (by rfl) rfl rfl rfl (fun W => (run_eqlN (m + Ql.length) (m + Ql.length) _ _ W).trans (by rw [(decide_eq_true rfl)])) ?_
    simp only [putT, List.set]
    refine wpV_pick (v := .bool true) (by rfl) rfl rfl rfl ?_
    simp only [putT, List.set]
    refine wpV_move (v := .bool true) (by rfl) rfl rfl ?_
    simp only [putT, List.set]
    refine wpV_val (v := .pointer (some ⟨g19, 1, none⟩)) (by rfl) (by rfl) (fun W hW => ?_) ?_
    · (go_simp; exact rfl)
    simp only [putT, List.set]
    refine wpV_load1 (v := .slice (some ⟨g17, 0, none⟩) ((addsP m Pl Ql).length) g17c) (by rfl) rfl rfl (range_one (range_sub (M.r 0 0 rfl rfl) 1 1 1 (xs := [.slice (some ⟨g17, 0, none⟩) ((addsP m Pl Ql).length) g17c]) rfl rfl)) (M.lt 0 rfl) Tryd.underlying48 rfl ?_
    simp only [putT, List.set]
    refine wpV_val (v := .pointer (some ⟨g3, 1, none⟩)) (by rfl) (by rfl) (fun W hW => ?_) ?_
    · (go_simp; exact rfl)
    simp only [putT, List.set]
    refine wpV_load1 (v := .slice (some ⟨r, 0, none⟩) ((addsP m Pl (Ql.take Ql.length)).length) rc) (by rfl) rfl rfl (range_one (range_sub (M.r 3 0 rfl rfl) 1 1 1 (xs := [.slice (some ⟨r, 0, none⟩) ((addsP m Pl (Ql.take Ql.length)).length) rc]) rfl rfl)) (M.lt 3 rfl) Tryd.underlying48 rfl ?_
    simp only [putT, List.set]
    refine wpV_callf (v := .bool true) (args := #[.slice (some ⟨g17, 0, none⟩) ((addsP m Pl Ql).length) g17c, .slice (some ⟨r, 0, none⟩) ((addsP m Pl (Ql.take Ql.length)).length) rc]) (by rfl) rfl Tryd.func50 (by kernel_rfl) (by kernel_rfl) rfl (fun W hW => by have h9 : Calls Tryd.prog _ _ W _ := same_r (ps := addsP m Pl Ql) (qs := addsP m Pl (Ql.take Ql.length)) (by rw [addsP_len _ _ _ hpl]; exact Nat.le_trans (oc_ones (by omega)).2.2 (by decide)) (RowA.of ((M.sees hW).r 1 0 rfl rfl) ((M.sees hW).lt 1 rfl) (scells_len _).symm Cg17) (RowA.of ((M.sees hW).r 4 0 rfl rfl) ((M.sees hW).lt 4 rfl) (scells_len _).symm Cr); rw [decide_eq_true (by rw [List.take_length])] at h9; exact h9) ?_
    simp only [putT, List.set]
    refine wpV_pick (v := .bool true) (by rfl) rfl rfl rfl ?_
    simp only [putT, List.set]
    refine wpV_nil (hLk _ (fun w54 Sw54 => ?_))
    clear hLk Lk
    simp only [List.take, List.drop]
    replace M := M.sees Sw54
    refine wpL_assign (v := .bool true) (by rfl) (by rfl) (by rfl) ?_
    simp only [putT, List.set]
    refine wpL_nil (no_panic ?_)
    refine hK52 _ _ ?_
    refine wp_ret ?_
    repeat (first | with_reducible refine then_ret ?_ | with_reducible refine inblock_ret ?_)
    refine bodyPost_ret (v := .bool true) (res1 rfl (.tmp (by rfl))) rfl ?_
    have BE := M.below
    exact ⟨rfl, BE⟩
  · skip
    have hk : k < Ql.length := of_decide_eq_true hc51
    refine wp_cond_true rfl ?_
    refine wp_skip ?_
    refine hK50 _ _ ?_
    refine wp_seq_k (fun K55 hK55 => ?_)
    refine wp_block ?_
    refine wp_seq_k (fun K56 hK56 => ?_)
    refine wp_region_seq ?_
    refine wpL_chunk 2 (by rfl) (fun Lk hLk => ?_)
    simp only [List.take, List.drop]
    refine wpV_idxs (n := k) (by rfl) rfl rfl rfl Tryd.underlying48 info9 (by omega) ?_
    simp only [Nat.zero_add]
    simp only [putT, List.set]
    refine wpV_load1 (v := .string (bs (Ql.getD k []))) (by rfl) rfl rfl (zadd ((M.r 2 0 rfl rfl) _ _ (scells_get (ps := Ql) (by omega)))) (M.lt 2 rfl) Tryd.underlying9 rfl ?_
    simp only [putT, List.set]
    refine wpV_nil (hLk _ (fun w58 Sw58 => ?_))
    clear hLk Lk
    simp only [List.take, List.drop]
    replace M := M.sees Sw58
    refine wpL_assign (v := .string (bs (Ql.getD k []))) (by rfl) (by rfl) (by rfl) ?_
    simp only [putT, List.set]
    refine wpL_nil (no_panic ?_)
    refine hK56 _ _ ?_
    refine wp_region_seq ?_
    refine wpL_chunk 1 (by rfl) (fun Lk hLk => ?_)
    simp only [List.take, List.drop]
    refine wpV_load (cs := [.int .i64 ((m + k : Nat) : Int), .slice (some ⟨r, 0, none⟩) ((addsP m Pl (Ql.take k)).length) rc]) (by rfl) rfl rfl (M.r 3 0 rfl rfl) (M.lt 3 rfl) Tryd.underlying66 rfl info66 ?_
    simp only [putT, List.set]
    refine wpV_nil (hLk _ (fun w60 Sw60 => ?_))
    clear hLk Lk
    simp only [List.take, List.drop]
    replace M := M.sees Sw60
    refine wpL_move (v := .string (bs (Ql.getD k []))) (by rfl) (by rfl) (by rfl) ?_
    simp only [putT, List.set]
    refine wpL_callE (f := 63) (args := #[.agg ([.int .i64 ((m + k : Nat) : Int), .slice (some ⟨r, 0, none⟩) ((addsP m Pl (Ql.take k)).length) rc]).toArray, .string (bs (Ql.getD k []))]) (R := fun v9 W9 => ∃ g62 g62c, v9 = .agg ([.int .i64 ((m + k + 1 : Nat) : Int), .slice (some ⟨g62, 0, none⟩) ((addsP m Pl (Ql.take (k + 1))).length) g62c]).toArray ∧ (addsP m Pl (Ql.take (k + 1))).length ≤ g62c ∧ Mem [] w60 W9 [⟨g62, g62c, [(0, scells (addsP m Pl (Ql.take (k + 1))))]⟩]) (by rfl) (by rfl) rfl Tryd.func63 (by kernel_rfl) (by kernel_rfl) (by have h9 := rAdd_c (ps := addsP m Pl (Ql.take k)) (ap := (some ⟨r, 0, none⟩)) (np := (addsP m Pl (Ql.take k)).length) (cp := rc) (m := m + k) (s0 := Ql.getD k []) (w := w60) (by omega) hLl (by rw [hLl]; exact Nat.le_trans (oc_ones (by omega)).2.2 (by decide)) hL32 (get_32 hl32 hk) (RowA.of (M.r 4 0 rfl rfl) (M.lt 4 rfl) (scells_len _).symm Cr); rw [add_step hk] at h9; exact Calls.mono h9 fun e W8 ⟨v8, e1, g8, c8, e2, e3, e4⟩ => ⟨v8, e1, ⟨g8, c8, e2, e3, e4⟩, e4.below⟩) (fun v9 w61 hv9 Sw61 => ?_)
    obtain ⟨g62, g62c, rfl, Cg62, M9⟩ := hv9
    replace M := M.call1 M9
    clear Sw61
    simp only [putT, List.set]
    refine wpL_store (g := g3) (off := 0) (n := 2) (cs := [.int .i64 ((m + k + 1 : Nat) : Int), .slice (some ⟨g62, 0, none⟩) ((addsP m Pl (Ql.take (k + 1))).length) g62c]) (by rfl) (by rfl) (by rfl) (by rfl) (by rfl) (M.t 4 rfl) (by simp [flen]) info66 (by simp [fone, Value.oneCell']) (fun w63 P R T => ?_)
    replace M := M.putS 4 0 rfl P R T rfl ⟨.inl rfl, trivial⟩
    simp only [List.set] at M
    refine wpL_nil (no_panic ?_)
    refine hK55 _ _ ?_
    refine wp_region_seq ?_
    refine wpL_chunk 1 (by rfl) (fun Lk hLk => ?_)
    simp only [List.take, List.drop]
    refine wpV_bin (v := .int .i64 ((k + 1 : Nat) : Int)) (by rfl) rfl rfl rfl (fun W => run_add (by simp only [IntKind.wrap_i64]; omega) W) ?_
    simp only [putT, List.set]
    refine wpV_nil (hLk _ (fun w65 Sw65 => ?_))
    clear hLk Lk
    simp only [List.take, List.drop]
    replace M := M.sees Sw65
    refine wpL_move (v := .int .i64 ((k + 1 : Nat) : Int)) (by rfl) (by rfl) (by rfl) ?_
    simp only [putT, List.set]
    refine wpL_nil (no_panic ?_)
    refine Exists.intro _ ⟨?_, (k + 1), g62, g62c, (fun q9 => (#[undef, undef, undef, undef, undef, undef, undef, undef, undef, undef, .string (bs (Ql.getD k [])), undef, undef, undef, undef, undef, undef, undef, undef, undef, undef, undef, undef, undef, undef, undef, undef, undef, undef, undef, undef, undef, undef, undef, undef, undef, undef, undef, undef, undef, undef, undef, undef, undef, undef, undef, undef, undef, undef, undef, undef, undef, undef, undef, undef, undef, undef, undef, undef, undef, undef, undef, undef, undef, undef, undef, undef, undef, undef, undef, undef, undef, undef, undef, undef, undef, undef, undef, undef, undef, undef, undef, undef, undef, undef, undef, undef, undef, undef, undef, undef, undef, undef, undef, undef, undef, undef, undef, undef, undef, undef, undef, undef, .bool true, .pointer (some ⟨g10, k, none⟩), .string (bs (Ql.getD k [])), .agg ([.int .i64 ((m + k : Nat) : Int), .slice (some ⟨r, 0, none⟩) ((addsP m Pl (Ql.take k)).length) rc]).toArray, .string (bs (Ql.getD k [])), .agg ([.int .i64 ((m + k + 1 : Nat) : Int), .slice (some ⟨g62, 0, none⟩) ((addsP m Pl (Ql.take (k + 1))).length) g62c]).toArray, .int .i64 ((k + 1 : Nat) : Int)] : Array Value).getD q9 undef), rfl, rfl, (M.pick [1, 2, 3, 4, 0] (by decide) rfl), Cg62, (by omega)⟩
    omega
theorem goes_c {x : Int} {vps vls : Value} {ps ls : List (List UInt8)} {w : World} (L0 : 0 < w.heap.size) (R0_0 : w.rangeAt 0 0 kcells) (hvps : RowS w vps ps) (hvls : RowS w vls ls) :
    Calls Tryd.prog 13 #[.agg [.int .i64 x, vps].toArray, vls] w fun e w' => e = .returned (.bool true) ∧ Below w.heap.size w w' := by
  have hPl := cutsS_len 80 40 ps
  have hQl := cutsS_len 80 40 ls
  cases hmay : mayG x (cutsS 80 40 ps) with
  | false => exact goes_A rfl rfl hPl hQl hmay L0 R0_0 hvps hvls
  | true =>
    obtain ⟨m, rfl, hm, hpl, h32⟩ := may_open hmay
    cases hri : rightB (cutsS 80 40 ls) with
    | false => exact goes_B rfl rfl hPl hQl (by omega) hm hmay hpl h32 hri L0 R0_0 hvps hvls
    | true =>
      have hl32 := all32_mem (of_right hri)
      by_cases hov : 4096 < m + (cutsS 80 40 ls).length
      · exact goes_C rfl rfl hPl hQl (by omega) hm hmay hpl h32 hri hl32 hov L0 R0_0 hvps hvls
      · by_cases h0 : (cutsS 80 40 ls).length = 0
        · exact goes_D0 rfl rfl hPl hQl (by omega) hm hmay hpl h32 hri hl32 (by omega) h0 L0 R0_0 hvps hvls
        · exact goes_D1 rfl rfl hPl hQl (by omega) hm hmay hpl h32 hri hl32 (by omega) (by omega) L0 R0_0 hvps hvls
end Go.Proofs.Yb

