import Derived.WalkKit
import Derived.WalkSpells
import Derived.Laws.Pointers
import Derived.RowKit3
import Derived.Below
import Derived.Outline
import Derived.LoopN
import Derived.Lib.Hide
import Derived.Handy
import Derived.Laws.Bits64b
import Derived.Test.YticcchgckljlnaaDoorTr12
import Derived.Test.YticcchgckljlnaaDoorTrR
set_option linter.unusedSimpArgs false
set_option linter.unusedVariables false
namespace Go.Proofs.Yb
open Go Go.RowKit Go.Proofs.Num
attribute [local irreducible] wpV wpN wpList
/-- The leaves' sums of the first of some texts. -/
def lvD (m : Nat) (ds : List (List UInt8)) (k : Nat) : List (List UInt8) := (ds.take k).map fun s => leafS (cut s m)
theorem lvD_zero (m : Nat) (ds : List (List UInt8)) : lvD m ds 0 = [] := rfl
theorem lvD_len {m : Nat} {ds : List (List UInt8)} {k : Nat} (h : k ≤ ds.length) : (lvD m ds k).length = k := by
  unfold lvD
  rw [List.length_map, List.length_take]; omega
theorem lvD_32 (m : Nat) (ds : List (List UInt8)) (k : Nat) : ∀ s ∈ lvD m ds k, s.length = 32 := fun s h => by
  obtain ⟨x, _, rfl⟩ := List.mem_map.1 h
  exact leafS_len _
theorem lvD_step {m : Nat} {ds : List (List UInt8)} {k : Nat} (h : k < ds.length) : lvD m ds k ++ [leafS (cut (ds.getD k []) m)] = lvD m ds (k + 1) := by
  unfold lvD
  rw [List.take_add_one, List.getD_eq_getElem?_getD, List.getElem?_eq_getElem h, List.map_append]
  rfl
theorem partsL_le {L : List (List UInt8)} (h : L.length ≤ 4096) : (partsL L).length ≤ 13 := by rw [partsL_len]; exact (oc_ones h).2.2
theorem leaf32 {a : List UInt8} : ∀ s ∈ [leafS a], s.length = 32 := fun s h => by rw [List.mem_singleton.1 h]; exact leafS_len _
theorem leaf32_2 {a b : List UInt8} : ∀ s ∈ [leafS a, leafS b], s.length = 32 := fun s h => by
  rcases List.mem_cons.1 h with e | e
  · rw [e]; exact leafS_len _
  · rw [List.mem_singleton.1 e]; exact leafS_len _
theorem app_32 {a b : List (List UInt8)} (h : ∀ s ∈ a, s.length = 32) (h' : ∀ s ∈ b, s.length = 32) : ∀ s ∈ a ++ b, s.length = 32 := fun s hs => (List.mem_append.1 hs).elim (h s) (h' s)
theorem Add_parts {L : List (List UInt8)} {ap : Option Addr} {np cp : Nat} {ls : List (List UInt8)} {aq : Option Addr} {nq cq : Nat} {m : Nat} {w : World} (hm : L.length = m) (hle : m + ls.length ≤ 4096) (h32 : ∀ s ∈ L, s.length = 32) (hl32 : ∀ s ∈ ls, s.length = 32) (h0l : 0 < ls.length)
    (L0 : 0 < w.heap.size) (R0_0 : w.rangeAt 0 0 kcells) (Hp : RowA w ap np cp (scells (partsL L))) (Hq : RowA w aq nq cq (scells ls)) :
    Calls Tryd.prog 55 #[.agg [.int .i64 ((m : Nat) : Int), .slice ap np cp].toArray, .slice aq nq cq] w fun e w' => ∃ v, e = .returned v ∧ (∃ g c, v = .tuple #[.agg [.int .i64 ((m + ls.length : Nat) : Int), .slice (some ⟨g, 0, none⟩) (partsL (L ++ ls)).length c].toArray, .int .i64 0] ∧ (partsL (L ++ ls)).length ≤ c ∧ Mem [] w w' [⟨g, c, [(0, scells (partsL (L ++ ls)))]⟩]) ∧ Below w.heap.size w w' := by
  subst hm
  have hpl : (partsL L).length = ones L.length := partsL_len L
  have hp32 := partsL_32 L h32
  have h9 := Add_new (ps := partsL L) (ap := ap) (np := np) (cp := cp) (ls := ls) (aq := aq) (nq := nq) (cq := cq) (m := L.length) (w := w) (by rw [hpl]; exact ones_le_80 (by omega)) (by omega) (may_of (by omega) hpl hp32) (right_of hl32 (by omega)) hle hpl hp32 hl32 h0l L0 R0_0 Hp Hq
  rw [← partsL_append] at h9
  exact Calls.mono h9 fun e W8 ⟨v8, e1, g8, c8, e2, e3, e4⟩ => ⟨v8, e1, ⟨g8, c8, e2, e3, e4⟩, e4.below⟩
set_option maxRecDepth 100000 in
set_option maxHeartbeats 4000000 in
theorem keeps_c {ds : List (List UInt8)} {ap : Option Addr} {np cp : Nat} {la lb : List UInt8} {w : World} (hla : la.length ≤ 140737488351232) (hlb : lb.length ≤ 140737488351232) (Hp : RowA w ap np cp (scells ds)) (L0 : 0 < w.heap.size) (R0_0 : w.rangeAt 0 0 kcells) :
    Calls Tryd.prog 11 #[.slice ap np cp, .string (bs la), .string (bs lb)] w fun e w' => e = .returned (.bool true) ∧ Below w.heap.size w w' := by
  obtain rfl : np = ds.length := by have := Hp.len; rwa [scells_len] at this
  go_enter Tryd.func11, Tryd.ntmps11
  have M := Mem.start w
  refine wp_seq_k (fun K1 hK1 => ?_)
  refine wp_region_seq ?_
  refine wpL_assign (v := .bool false) (by rfl) (by rfl) (by rfl) ?_
  simp only [putT, List.set]
  refine wpL_nil (no_panic ?_)
  refine hK1 _ _ ?_
  refine wp_seq_k (fun K3 hK3 => ?_)
  refine wp_region_seq ?_
  refine wpL_chunk 1 (by rfl) (fun Lk hLk => ?_)
  simp only [List.take, List.drop]
  refine wpV_val (v := .agg ([.int .i64 0, .slice none 0 0]).toArray) (by rfl) (by rfl) (fun W hW => ?_) ?_
  · (unfold RunsVal; kernel_rfl)
  simp only [putT, List.set]
  refine wpV_nil (hLk _ (fun w5 Sw5 => ?_))
  clear hLk Lk
  simp only [List.take, List.drop]
  replace M := M.sees Sw5
  refine wpL_var (t := 66) (cs := [.int .i64 0, .slice none 0 0]) (by rfl) (fun W => ?_) (fun g6 w7 Sw7 Hg6 Bg6 => ?_)
  · go_simp
  replace M := ((M.sees Sw7).add (N := 2) (cs := [.int .i64 0, .slice none 0 0]) (M.ge Hg6) (M.fresh Hg6) Bg6 rfl)
  clear Bg6
  simp only [putT, List.set]
  refine wpL_store (g := g6) (off := 0) (n := 2) (cs := [.int .i64 0, .slice none 0 0]) (by rfl) (by rfl) (by rfl) (by rfl) (by rfl) (M.t 0 rfl) (by simp [flen]) info66 (by simp [fone, Value.oneCell']) (fun w8 P R T => ?_)
  replace M := M.putS 0 0 rfl P R T rfl ⟨.inl rfl, trivial⟩
  simp only [List.set] at M
  refine wpL_nil (no_panic ?_)
  refine hK3 _ _ ?_
  refine wp_seq_k (fun K9 hK9 => ?_)
  have HK9 : ∀ (k : Nat) (ar : Option Addr) (nr : Nat) (cr : Nat) (u9 : Nat → Value) (W9 : World), (k ≤ ds.length) → (k ≤ 20) → Mem [] w W9 [⟨g6, 2, [(0, [.int .i64 ((k : Nat) : Int), .slice ar nr cr])]⟩] → RowN [g6] W9 ar nr cr (scells (partsL (lvD 50 ds k))) → K9 { tmps := #[.slice ap ds.length cp, .string (bs la), .string (bs lb), undef, undef, undef, u9 6, .pointer (some ⟨g6, 0, none⟩), u9 8, u9 9, u9 10, u9 11, undef, undef, undef, undef, undef, undef, undef, undef, .agg ([.int .i64 0, .slice none 0 0]).toArray, u9 21, u9 22, u9 23, u9 24, u9 25, u9 26, u9 27, u9 28, u9 29, u9 30, u9 31, u9 32, u9 33, u9 34, u9 35, u9 36, u9 37, u9 38, u9 39, u9 40, u9 41, u9 42, u9 43, u9 44, u9 45, undef, undef, undef, undef, undef, undef, undef, undef, undef, undef, undef, undef, undef, undef, undef, undef, undef, undef, undef, undef, undef, undef, undef, undef, undef, undef, undef, undef, undef, undef, undef, undef, undef, undef, undef, undef, undef, undef, undef, undef, undef, undef, undef, undef, undef, undef, undef, undef, undef, undef, undef, undef, undef, undef, undef, undef, undef, undef, undef, undef, undef, undef, undef, undef, undef, undef, undef, undef, undef, undef, undef], defers := [] } W9 := by
    clear M
    intro k ar nr cr u9 W9 hkl hk2 M Hr
    obtain ⟨w10, rfl⟩ : ∃ W8, W8 = W9 := ⟨_, rfl⟩
    have Mx11 := M
    replace R0_0 := (M.oldR R0_0 L0)
    have NI0 : 0 ∉ [g6] := Mx11.oldNe L0 List.not_mem_nil
    replace L0 := Mx11.oldL L0
    replace Hp := Mx11.notins Hp
    simp only [List.map_cons, List.map_nil] at Hp
    replace M : Mem [g6] w10 w10 [⟨g6, 2, [(0, [.int .i64 ((k : Nat) : Int), .slice ar nr cr])]⟩] := Mx11.again
    obtain rfl : nr = (partsL (lvD 50 ds k)).length := by have h9 := Hr.row.len; rwa [scells_len] at h9
    refine hK9 _ _ ?_
    refine wp_seq_k (fun K12 hK12 => ?_)
    refine wp_region_seq ?_
    refine wpL_row0 (by rfl) (by rfl) Tryd.underlying48 info9 (fun g14 w15 Sw15 Hg14 Bg14 => ?_)
    replace M := ((M.sees Sw15).add (N := 0) (cs := scells []) (M.ge Hg14) (M.fresh Hg14) Bg14 rfl)
    clear Bg14
    simp only [putT, List.set]
    refine wpL_chunk 2 (by rfl) (fun Lk hLk => ?_)
    simp only [List.take, List.drop]
    refine wpV_val (v := .pointer (some ⟨g6, 1, none⟩)) (by rfl) (by rfl) (fun W hW => ?_) ?_
    · (go_simp; exact rfl)
    simp only [putT, List.set]
    refine wpV_load1 (v := .slice ar ((partsL (lvD 50 ds k)).length) cr) (by rfl) rfl rfl (range_one (range_sub (M.r 1 0 rfl rfl) 1 1 1 (xs := [.slice ar ((partsL (lvD 50 ds k)).length) cr]) rfl rfl)) (M.lt 1 rfl) Tryd.underlying48 rfl ?_
    simp only [putT, List.set]
    refine wpV_nil (hLk _ (fun w16 Sw16 => ?_))
    clear hLk Lk
    simp only [List.take, List.drop]
    replace M := M.sees Sw16
    refine wpL_appendA (n := 0) (m := (partsL (lvD 50 ds k)).length) (olds := scells []) (news := scells (partsL (lvD 50 ds k))) (z := .string { data := #[] }) (bytes := 16) (by rfl) (by rfl) (by rfl) (by rfl) Tryd.underlying48 (by kernel_rfl) rfl rfl (by rfl) (Nat.le_refl _) (M.r 0 0 rfl rfl) (M.t 0 rfl) (M.lt 0 rfl) (M.oldN Hr) (scells_one _) (by have := partsL_le (L := (lvD 50 ds k)) (by simp only [List.length_append, lvD_len hkl, List.length_cons, List.length_nil]; omega); omega) (by have := partsL_le (L := (lvD 50 ds k)) (by simp only [List.length_append, lvD_len hkl, List.length_cons, List.length_nil]; omega); simp only [maxLen]; omega) (fun g17 g17c w18 Sw18 Q Cg17 R T L => ?_)
    replace M := M.grow 0 rfl Sw18 Q R T L
    simp only [List.set] at M
    clear Q R T L
    rw [show scells [] ++ scells (partsL (lvD 50 ds k)) = scells (partsL (lvD 50 ds k)) from rfl] at M
    rw [Nat.zero_add] at Cg17
    rw [Nat.zero_add]
    simp only [putT, List.set]
    refine wpL_assign (v := .slice (some ⟨g17, 0, none⟩) ((partsL (lvD 50 ds k)).length) g17c) (by rfl) (by rfl) (by rfl) ?_
    simp only [putT, List.set]
    refine wpL_nil (no_panic ?_)
    refine hK12 _ _ ?_
    refine wp_seq_k (fun K19 hK19 => ?_)
    refine wp_region_addsF 11 [9] [5, 6, 10] [ValRel (.agg ([.int .i64 ((k : Nat) : Int), .slice ar ((partsL (lvD 50 ds k)).length) cr]).toArray), ValRel (.string (bs la)), ValRel (.string (bs (leafS la))), ValRel (.string (bs lb)), ValRel (.string (bs (leafS lb))), BoxRel w18 (fun gA => .slice (some ⟨gA, 0, none⟩) 2 2) 2 [(0, [.string (bs (leafS la)), .string (bs (leafS lb))])], NewRel w18 (fun gA gAc => .tuple #[.agg ([.int .i64 ((k + 2 : Nat) : Int), .slice (some ⟨gA, 0, none⟩) ((partsL (lvD 50 ds k ++ [leafS la, leafS lb])).length) gAc] : List Value).toArray, .int .i64 0]) ((partsL (lvD 50 ds k ++ [leafS la, leafS lb])).length) [(0, scells (partsL (lvD 50 ds k ++ [leafS la, leafS lb])))], LinkRel 6 (fun x => x) (NewRel w18 (fun gA gAc => .tuple #[.agg ([.int .i64 ((k + 2 : Nat) : Int), .slice (some ⟨gA, 0, none⟩) ((partsL (lvD 50 ds k ++ [leafS la, leafS lb])).length) gAc] : List Value).toArray, .int .i64 0]) ((partsL (lvD 50 ds k ++ [leafS la, leafS lb])).length) [(0, scells (partsL (lvD 50 ds k ++ [leafS la, leafS lb])))]), LinkRel 7 (partF 0) (NewRel w18 (fun gA gAc => .agg ([.int .i64 ((k + 2 : Nat) : Int), .slice (some ⟨gA, 0, none⟩) ((partsL (lvD 50 ds k ++ [leafS la, leafS lb])).length) gAc] : List Value).toArray) ((partsL (lvD 50 ds k ++ [leafS la, leafS lb])).length) [(0, scells (partsL (lvD 50 ds k ++ [leafS la, leafS lb])))]), ValRel (.int .i64 0), BoxRel w18 (fun gA => .pointer (some ⟨gA, 0, none⟩)) 2 [(0, [.int .i64 0, .slice none 0 0])]] [[], [], [1], [], [3], [2, 4], [0, 5], [6], [7], [7], []] (fun vs => { tmps := #[.slice ap ds.length cp, .string (bs la), .string (bs lb), undef, undef, undef, u9 6, .pointer (some ⟨g6, 0, none⟩), u9 8, u9 9, u9 10, u9 11, .slice (some ⟨g17, 0, none⟩) ((partsL (lvD 50 ds k)).length) g17c, vs 10, undef, undef, undef, undef, undef, undef, .agg ([.int .i64 0, .slice none 0 0]).toArray, u9 21, u9 22, u9 23, u9 24, u9 25, u9 26, u9 27, u9 28, u9 29, u9 30, u9 31, u9 32, u9 33, u9 34, u9 35, u9 36, u9 37, u9 38, u9 39, u9 40, u9 41, u9 42, u9 43, u9 44, u9 45, .slice (some ⟨g14, 0, none⟩) 0 0, .pointer (some ⟨g6, 1, none⟩), .slice ar ((partsL (lvD 50 ds k)).length) cr, .slice (some ⟨g17, 0, none⟩) ((partsL (lvD 50 ds k)).length) g17c, vs 7, vs 0, vs 1, vs 2, vs 3, vs 4, vs 5, vs 6, vs 8, vs 9, undef, undef, undef, undef, undef, undef, undef, undef, undef, undef, undef, undef, undef, undef, undef, undef, undef, undef, undef, undef, undef, undef, undef, undef, undef, undef, undef, undef, undef, undef, undef, undef, undef, undef, undef, undef, undef, undef, undef, undef, undef, undef, undef, undef, undef, undef, undef, undef, undef, undef, undef, undef, undef, undef, undef, undef, undef], defers := [] }) (by kernel_rfl) (by kernel_rfl) (by kernel_rfl) (by kernel_rfl) (.cons keep_val (.cons keep_val (.cons keep_val (.cons keep_val (.cons keep_val (.cons keep_box (.cons keep_new (.cons (keep_link keep_new) (.cons (keep_link keep_new) (.cons keep_val (.cons keep_box AllKeep.nil))))))))))) (.free free_val (.free free_val (.free free_val (.free free_val (.free free_val (.free free_box (.free free_new (.link free_new (by decide) (.link free_new (by decide) (.free free_val (.free free_box AllLoc.nil))))))))))) (.cons own_box (.cons own_new (.cons own_box AllOwn.nil))) (by kernel_rfl) ?_ ?_
    · skip
      simp only [List.take]
      refine RulesL.cons (fun vs => { tmps := #[.slice ap ds.length cp, .string (bs la), .string (bs lb), undef, undef, undef, u9 6, .pointer (some ⟨g6, 0, none⟩), u9 8, u9 9, u9 10, u9 11, .slice (some ⟨g17, 0, none⟩) ((partsL (lvD 50 ds k)).length) g17c, undef, undef, undef, undef, undef, undef, undef, .agg ([.int .i64 0, .slice none 0 0]).toArray, u9 21, u9 22, u9 23, u9 24, u9 25, u9 26, u9 27, u9 28, u9 29, u9 30, u9 31, u9 32, u9 33, u9 34, u9 35, u9 36, u9 37, u9 38, u9 39, u9 40, u9 41, u9 42, u9 43, u9 44, u9 45, .slice (some ⟨g14, 0, none⟩) 0 0, .pointer (some ⟨g6, 1, none⟩), .slice ar ((partsL (lvD 50 ds k)).length) cr, .slice (some ⟨g17, 0, none⟩) ((partsL (lvD 50 ds k)).length) g17c, undef, undef, undef, undef, undef, undef, undef, undef, undef, undef, undef, undef, undef, undef, undef, undef, undef, undef, undef, undef, undef, undef, undef, undef, undef, undef, undef, undef, undef, undef, undef, undef, undef, undef, undef, undef, undef, undef, undef, undef, undef, undef, undef, undef, undef, undef, undef, undef, undef, undef, undef, undef, undef, undef, undef, undef, undef, undef, undef, undef, undef, undef, undef, undef, undef, undef, undef], defers := [] }) (by kernel_rfl) ?_ ?_
      · skip
        intro vs gs W21 SW21 D K9 hK9
        replace M := M.sees SW21
        dsimp only at hK9
        dsimp only
        refine wpL_chunk 1 (by rfl) (fun Lk hLk => ?_)
        simp only [List.take, List.drop]
        refine wpV_load (cs := [.int .i64 ((k : Nat) : Int), .slice ar ((partsL (lvD 50 ds k)).length) cr]) (by rfl) rfl rfl (M.r 1 0 rfl rfl) (M.lt 1 rfl) Tryd.underlying66 rfl info66 ?_
        simp only [putT, List.set]
        refine wpV_nil (hLk _ (fun w22 Sw22 => ?_))
        clear hLk Lk
        simp only [List.take, List.drop]
        replace M := M.sees Sw22
        refine wpL_nil (then_normal ?_)
        have h8 := hK9 (.agg ([.int .i64 ((k : Nat) : Int), .slice ar ((partsL (lvD 50 ds k)).length) cr]).toArray)
        have h9 := h8 0 _ Sw22 rfl (fun h => absurd h (by decide))
        simp only [putT, List.set] at h9
        exact h9
      refine RulesL.cons (fun vs => { tmps := #[.slice ap ds.length cp, .string (bs la), .string (bs lb), undef, undef, undef, u9 6, .pointer (some ⟨g6, 0, none⟩), u9 8, u9 9, u9 10, u9 11, .slice (some ⟨g17, 0, none⟩) ((partsL (lvD 50 ds k)).length) g17c, undef, undef, undef, undef, undef, undef, undef, .agg ([.int .i64 0, .slice none 0 0]).toArray, u9 21, u9 22, u9 23, u9 24, u9 25, u9 26, u9 27, u9 28, u9 29, u9 30, u9 31, u9 32, u9 33, u9 34, u9 35, u9 36, u9 37, u9 38, u9 39, u9 40, u9 41, u9 42, u9 43, u9 44, u9 45, .slice (some ⟨g14, 0, none⟩) 0 0, .pointer (some ⟨g6, 1, none⟩), .slice ar ((partsL (lvD 50 ds k)).length) cr, .slice (some ⟨g17, 0, none⟩) ((partsL (lvD 50 ds k)).length) g17c, undef, undef, undef, undef, undef, undef, undef, undef, undef, undef, undef, undef, undef, undef, undef, undef, undef, undef, undef, undef, undef, undef, undef, undef, undef, undef, undef, undef, undef, undef, undef, undef, undef, undef, undef, undef, undef, undef, undef, undef, undef, undef, undef, undef, undef, undef, undef, undef, undef, undef, undef, undef, undef, undef, undef, undef, undef, undef, undef, undef, undef, undef, undef, undef, undef, undef, undef], defers := [] }) (by kernel_rfl) ?_ ?_
      · skip
        intro vs gs W23 SW23 D K9 hK9
        replace M := M.sees SW23
        dsimp only at hK9
        dsimp only
        refine wpL_move (v := .string (bs la)) (by rfl) (by rfl) (by rfl) ?_
        simp only [putT, List.set]
        refine wpL_nil (then_normal ?_)
        have h8 := hK9 (.string (bs la))
        have h9 := h8 0 _ (sees_refl _) rfl (fun h => absurd h (by decide))
        simp only [putT, List.set] at h9
        exact h9
      refine RulesL.cons (fun vs => { tmps := #[.slice ap ds.length cp, .string (bs la), .string (bs lb), undef, undef, undef, u9 6, .pointer (some ⟨g6, 0, none⟩), u9 8, u9 9, u9 10, u9 11, .slice (some ⟨g17, 0, none⟩) ((partsL (lvD 50 ds k)).length) g17c, undef, undef, undef, undef, undef, undef, undef, .agg ([.int .i64 0, .slice none 0 0]).toArray, u9 21, u9 22, u9 23, u9 24, u9 25, u9 26, u9 27, u9 28, u9 29, u9 30, u9 31, u9 32, u9 33, u9 34, u9 35, u9 36, u9 37, u9 38, u9 39, u9 40, u9 41, u9 42, u9 43, u9 44, u9 45, .slice (some ⟨g14, 0, none⟩) 0 0, .pointer (some ⟨g6, 1, none⟩), .slice ar ((partsL (lvD 50 ds k)).length) cr, .slice (some ⟨g17, 0, none⟩) ((partsL (lvD 50 ds k)).length) g17c, undef, undef, vs 1, undef, undef, undef, undef, undef, undef, undef, undef, undef, undef, undef, undef, undef, undef, undef, undef, undef, undef, undef, undef, undef, undef, undef, undef, undef, undef, undef, undef, undef, undef, undef, undef, undef, undef, undef, undef, undef, undef, undef, undef, undef, undef, undef, undef, undef, undef, undef, undef, undef, undef, undef, undef, undef, undef, undef, undef, undef, undef, undef, undef, undef, undef, undef, undef], defers := [] }) (by kernel_rfl) ?_ ?_
      · skip
        intro vs gs W24 SW24 D K9 hK9
        replace M := M.sees SW24
        obtain ⟨D1, _⟩ := D
        have e1 : vs 1 = .string (bs la) := D1
        dsimp only at hK9
        dsimp only
        rw [e1] at hK9 ⊢
        refine wpL_chunk 1 (by rfl) (fun Lk hLk => ?_)
        simp only [List.take, List.drop]
        refine wpV_callf (v := .string (bs (leafS la))) (args := #[.string (bs la)]) (by rfl) rfl Tryd.func38 (by kernel_rfl) (by kernel_rfl) rfl (fun W hW => leaf_c (d := la) (by omega) ((M.sees hW).oldL L0) ((M.sees hW).oldG R0_0 L0 NI0)) ?_
        simp only [putT, List.set]
        refine wpV_nil (hLk _ (fun w25 Sw25 => ?_))
        clear hLk Lk
        simp only [List.take, List.drop]
        replace M := M.sees Sw25
        refine wpL_nil (then_normal ?_)
        have h8 := hK9 (.string (bs (leafS la)))
        have h9 := h8 0 _ Sw25 rfl (fun h => absurd h (by decide))
        simp only [putT, List.set] at h9
        exact h9
      refine RulesL.cons (fun vs => { tmps := #[.slice ap ds.length cp, .string (bs la), .string (bs lb), undef, undef, undef, u9 6, .pointer (some ⟨g6, 0, none⟩), u9 8, u9 9, u9 10, u9 11, .slice (some ⟨g17, 0, none⟩) ((partsL (lvD 50 ds k)).length) g17c, undef, undef, undef, undef, undef, undef, undef, .agg ([.int .i64 0, .slice none 0 0]).toArray, u9 21, u9 22, u9 23, u9 24, u9 25, u9 26, u9 27, u9 28, u9 29, u9 30, u9 31, u9 32, u9 33, u9 34, u9 35, u9 36, u9 37, u9 38, u9 39, u9 40, u9 41, u9 42, u9 43, u9 44, u9 45, .slice (some ⟨g14, 0, none⟩) 0 0, .pointer (some ⟨g6, 1, none⟩), .slice ar ((partsL (lvD 50 ds k)).length) cr, .slice (some ⟨g17, 0, none⟩) ((partsL (lvD 50 ds k)).length) g17c, undef, undef, undef, undef, undef, undef, undef, undef, undef, undef, undef, undef, undef, undef, undef, undef, undef, undef, undef, undef, undef, undef, undef, undef, undef, undef, undef, undef, undef, undef, undef, undef, undef, undef, undef, undef, undef, undef, undef, undef, undef, undef, undef, undef, undef, undef, undef, undef, undef, undef, undef, undef, undef, undef, undef, undef, undef, undef, undef, undef, undef, undef, undef, undef, undef, undef, undef], defers := [] }) (by kernel_rfl) ?_ ?_
      · skip
        intro vs gs W26 SW26 D K9 hK9
        replace M := M.sees SW26
        dsimp only at hK9
        dsimp only
        refine wpL_move (v := .string (bs lb)) (by rfl) (by rfl) (by rfl) ?_
        simp only [putT, List.set]
        refine wpL_nil (then_normal ?_)
        have h8 := hK9 (.string (bs lb))
        have h9 := h8 0 _ (sees_refl _) rfl (fun h => absurd h (by decide))
        simp only [putT, List.set] at h9
        exact h9
      refine RulesL.cons (fun vs => { tmps := #[.slice ap ds.length cp, .string (bs la), .string (bs lb), undef, undef, undef, u9 6, .pointer (some ⟨g6, 0, none⟩), u9 8, u9 9, u9 10, u9 11, .slice (some ⟨g17, 0, none⟩) ((partsL (lvD 50 ds k)).length) g17c, undef, undef, undef, undef, undef, undef, undef, .agg ([.int .i64 0, .slice none 0 0]).toArray, u9 21, u9 22, u9 23, u9 24, u9 25, u9 26, u9 27, u9 28, u9 29, u9 30, u9 31, u9 32, u9 33, u9 34, u9 35, u9 36, u9 37, u9 38, u9 39, u9 40, u9 41, u9 42, u9 43, u9 44, u9 45, .slice (some ⟨g14, 0, none⟩) 0 0, .pointer (some ⟨g6, 1, none⟩), .slice ar ((partsL (lvD 50 ds k)).length) cr, .slice (some ⟨g17, 0, none⟩) ((partsL (lvD 50 ds k)).length) g17c, undef, undef, undef, undef, vs 3, undef, undef, undef, undef, undef, undef, undef, undef, undef, undef, undef, undef, undef, undef, undef, undef, undef, undef, undef, undef, undef, undef, undef, undef, undef, undef, undef, undef, undef, undef, undef, undef, undef, undef, undef, undef, undef, undef, undef, undef, undef, undef, undef, undef, undef, undef, undef, undef, undef, undef, undef, undef, undef, undef, undef, undef, undef, undef, undef, undef, undef, undef], defers := [] }) (by kernel_rfl) ?_ ?_
      · skip
        intro vs gs W27 SW27 D K9 hK9
        replace M := M.sees SW27
        obtain ⟨D3, _⟩ := D
        have e3 : vs 3 = .string (bs lb) := D3
        dsimp only at hK9
        dsimp only
        rw [e3] at hK9 ⊢
        refine wpL_chunk 1 (by rfl) (fun Lk hLk => ?_)
        simp only [List.take, List.drop]
        refine wpV_callf (v := .string (bs (leafS lb))) (args := #[.string (bs lb)]) (by rfl) rfl Tryd.func38 (by kernel_rfl) (by kernel_rfl) rfl (fun W hW => leaf_c (d := lb) (by omega) ((M.sees hW).oldL L0) ((M.sees hW).oldG R0_0 L0 NI0)) ?_
        simp only [putT, List.set]
        refine wpV_nil (hLk _ (fun w28 Sw28 => ?_))
        clear hLk Lk
        simp only [List.take, List.drop]
        replace M := M.sees Sw28
        refine wpL_nil (then_normal ?_)
        have h8 := hK9 (.string (bs (leafS lb)))
        have h9 := h8 0 _ Sw28 rfl (fun h => absurd h (by decide))
        simp only [putT, List.set] at h9
        exact h9
      refine RulesL.cons (fun vs => { tmps := #[.slice ap ds.length cp, .string (bs la), .string (bs lb), undef, undef, undef, u9 6, .pointer (some ⟨g6, 0, none⟩), u9 8, u9 9, u9 10, u9 11, .slice (some ⟨g17, 0, none⟩) ((partsL (lvD 50 ds k)).length) g17c, undef, undef, undef, undef, undef, undef, undef, .agg ([.int .i64 0, .slice none 0 0]).toArray, u9 21, u9 22, u9 23, u9 24, u9 25, u9 26, u9 27, u9 28, u9 29, u9 30, u9 31, u9 32, u9 33, u9 34, u9 35, u9 36, u9 37, u9 38, u9 39, u9 40, u9 41, u9 42, u9 43, u9 44, u9 45, .slice (some ⟨g14, 0, none⟩) 0 0, .pointer (some ⟨g6, 1, none⟩), .slice ar ((partsL (lvD 50 ds k)).length) cr, .slice (some ⟨g17, 0, none⟩) ((partsL (lvD 50 ds k)).length) g17c, undef, undef, undef, vs 2, undef, vs 4, undef, undef, undef, undef, undef, undef, undef, undef, undef, undef, undef, undef, undef, undef, undef, undef, undef, undef, undef, undef, undef, undef, undef, undef, undef, undef, undef, undef, undef, undef, undef, undef, undef, undef, undef, undef, undef, undef, undef, undef, undef, undef, undef, undef, undef, undef, undef, undef, undef, undef, undef, undef, undef, undef, undef, undef, undef, undef, undef, undef, undef], defers := [] }) (by kernel_rfl) ?_ ?_
      · skip
        intro vs gs W29 SW29 D K9 hK9
        replace M := M.sees SW29
        replace R0_0 := (M.oldG R0_0 L0 NI0)
        replace L0 := M.oldL L0
        have Rg17_0 := M.r 0 0 rfl rfl
        have Lg17 := M.lt 0 rfl
        have Rg6_0 := M.r 1 0 rfl rfl
        have Lg6 := M.lt 1 rfl
        replace Hp := M.oldN Hp
        replace Hr := M.oldN Hr
        replace M := Mem.start W29
        obtain ⟨D2, D4, _⟩ := D
        have e2 : vs 2 = .string (bs (leafS la)) := D2
        have e4 : vs 4 = .string (bs (leafS lb)) := D4
        dsimp only at hK9
        dsimp only
        rw [e2, e4] at hK9 ⊢
        refine wpL_rowN (vs := [.string (bs (leafS la)), .string (bs (leafS lb))]) (z := .string { data := #[] }) (bytes := 16) (by rfl) (by rfl) Tryd.underlying48 (by kernel_rfl) (by decide) (by kernel_rfl) (fun g30 w31 Sw31 Hg30 Bg30 => ?_)
        replace M := ((M.sees Sw31).add (N := 2) (cs := [.string (bs (leafS la)), .string (bs (leafS lb))]) (M.ge Hg30) (M.fresh Hg30) Bg30 rfl)
        clear Bg30
        simp only [putT, List.set]
        refine wpL_nil (then_normal ?_)
        have h8 := hK9 (.slice (some ⟨g30, 0, none⟩) 2 2)
        have h9 := h8 g30 _ M.seesAll ⟨rfl, (M.ok _ (.head _)).up SW29⟩ (fun _ => (M.ok _ (.head _)).ge)
        simp only [putT, List.set] at h9
        exact h9
      refine RulesL.cons (fun vs => { tmps := #[.slice ap ds.length cp, .string (bs la), .string (bs lb), undef, undef, undef, u9 6, .pointer (some ⟨g6, 0, none⟩), u9 8, u9 9, u9 10, u9 11, .slice (some ⟨g17, 0, none⟩) ((partsL (lvD 50 ds k)).length) g17c, undef, undef, undef, undef, undef, undef, undef, .agg ([.int .i64 0, .slice none 0 0]).toArray, u9 21, u9 22, u9 23, u9 24, u9 25, u9 26, u9 27, u9 28, u9 29, u9 30, u9 31, u9 32, u9 33, u9 34, u9 35, u9 36, u9 37, u9 38, u9 39, u9 40, u9 41, u9 42, u9 43, u9 44, u9 45, .slice (some ⟨g14, 0, none⟩) 0 0, .pointer (some ⟨g6, 1, none⟩), .slice ar ((partsL (lvD 50 ds k)).length) cr, .slice (some ⟨g17, 0, none⟩) ((partsL (lvD 50 ds k)).length) g17c, undef, vs 0, undef, undef, undef, undef, vs 5, undef, undef, undef, undef, undef, undef, undef, undef, undef, undef, undef, undef, undef, undef, undef, undef, undef, undef, undef, undef, undef, undef, undef, undef, undef, undef, undef, undef, undef, undef, undef, undef, undef, undef, undef, undef, undef, undef, undef, undef, undef, undef, undef, undef, undef, undef, undef, undef, undef, undef, undef, undef, undef, undef, undef, undef, undef, undef, undef, undef], defers := [] }) (by kernel_rfl) ?_ ?_
      · skip
        intro vs gs W32 SW32 D K9 hK9
        replace M := M.sees SW32
        replace R0_0 := (M.oldG R0_0 L0 NI0)
        replace L0 := M.oldL L0
        have Rg17_0 := M.r 0 0 rfl rfl
        have Lg17 := M.lt 0 rfl
        have Rg6_0 := M.r 1 0 rfl rfl
        have Lg6 := M.lt 1 rfl
        replace Hp := M.oldN Hp
        replace Hr := M.oldN Hr
        replace M := Mem.start W32
        obtain ⟨D0, D5, _⟩ := D
        have e0 : vs 0 = .agg ([.int .i64 ((k : Nat) : Int), .slice ar ((partsL (lvD 50 ds k)).length) cr]).toArray := D0
        obtain ⟨e5, Og33⟩ := D5
        generalize gs 5 = g33 at *
        replace e5 : vs 5 = .slice (some ⟨g33, 0, none⟩) 2 2 := e5
        have Rg33_0 := Og33.range (0, [.string (bs (leafS la)), .string (bs (leafS lb))]) (by simp only [List.mem_cons, true_or, or_true])
        have Lg33 := Og33.lt
        dsimp only at hK9
        dsimp only
        rw [e0, e5] at hK9 ⊢
        refine wpL_callE (f := 55) (args := #[.agg ([.int .i64 ((k : Nat) : Int), .slice ar ((partsL (lvD 50 ds k)).length) cr]).toArray, .slice (some ⟨g33, 0, none⟩) 2 2]) (R := fun v9 W9 => ∃ g35 g35c, v9 = .tuple #[.agg ([.int .i64 ((k + 2 : Nat) : Int), .slice (some ⟨g35, 0, none⟩) ((partsL (lvD 50 ds k ++ [leafS la, leafS lb])).length) g35c] : List Value).toArray, .int .i64 0] ∧ (partsL (lvD 50 ds k ++ [leafS la, leafS lb])).length ≤ g35c ∧ Mem [] W32 W9 [⟨g35, g35c, [(0, scells (partsL (lvD 50 ds k ++ [leafS la, leafS lb])))]⟩]) (by rfl) (by rfl) rfl Tryd.func55 (by kernel_rfl) (by kernel_rfl) (by have h9 := Add_parts (L := lvD 50 ds k) (ls := [leafS la, leafS lb]) (m := k) (w := W32) (lvD_len hkl) (by simp; omega) (lvD_32 _ _ _) leaf32_2 (by simp) (M.oldL L0) (M.oldR R0_0 L0) (M.oldA Hr) (RowA.of (M.oldR Rg33_0 Lg33) (M.oldL Lg33) rfl (Nat.le_refl _)); rw [show lvD 50 ds k ++ [leafS la, leafS lb] = lvD 50 ds k ++ [leafS la, leafS lb] from rfl] at h9; exact h9) (fun v9 w34 hv9 Sw34 => ?_)
        obtain ⟨g35, g35c, rfl, Cg35, M9⟩ := hv9
        replace M := M.call1 M9
        clear Sw34
        simp only [putT, List.set]
        refine wpL_nil (then_normal ?_)
        have h8 := hK9 (.tuple #[.agg ([.int .i64 ((k + 2 : Nat) : Int), .slice (some ⟨g35, 0, none⟩) ((partsL (lvD 50 ds k ++ [leafS la, leafS lb])).length) g35c] : List Value).toArray, .int .i64 0])
        have h9 := h8 g35 _ M.seesAll ⟨g35c, rfl, Cg35, (M.ok _ (.head _)).up SW32⟩ (fun _ => (M.ok _ (.head _)).ge)
        simp only [putT, List.set] at h9
        exact h9
      refine RulesL.cons (fun vs => { tmps := #[.slice ap ds.length cp, .string (bs la), .string (bs lb), undef, undef, undef, u9 6, .pointer (some ⟨g6, 0, none⟩), u9 8, u9 9, u9 10, u9 11, .slice (some ⟨g17, 0, none⟩) ((partsL (lvD 50 ds k)).length) g17c, undef, undef, undef, undef, undef, undef, undef, .agg ([.int .i64 0, .slice none 0 0]).toArray, u9 21, u9 22, u9 23, u9 24, u9 25, u9 26, u9 27, u9 28, u9 29, u9 30, u9 31, u9 32, u9 33, u9 34, u9 35, u9 36, u9 37, u9 38, u9 39, u9 40, u9 41, u9 42, u9 43, u9 44, u9 45, .slice (some ⟨g14, 0, none⟩) 0 0, .pointer (some ⟨g6, 1, none⟩), .slice ar ((partsL (lvD 50 ds k)).length) cr, .slice (some ⟨g17, 0, none⟩) ((partsL (lvD 50 ds k)).length) g17c, undef, undef, undef, undef, undef, undef, undef, vs 6, undef, undef, undef, undef, undef, undef, undef, undef, undef, undef, undef, undef, undef, undef, undef, undef, undef, undef, undef, undef, undef, undef, undef, undef, undef, undef, undef, undef, undef, undef, undef, undef, undef, undef, undef, undef, undef, undef, undef, undef, undef, undef, undef, undef, undef, undef, undef, undef, undef, undef, undef, undef, undef, undef, undef, undef, undef, undef, undef], defers := [] }) (by kernel_rfl) ?_ ?_
      · skip
        intro vs gs W36 SW36 D K9 hK9
        replace M := M.sees SW36
        replace R0_0 := (M.oldG R0_0 L0 NI0)
        replace L0 := M.oldL L0
        have Rg17_0 := M.r 0 0 rfl rfl
        have Lg17 := M.lt 0 rfl
        have Rg6_0 := M.r 1 0 rfl rfl
        have Lg6 := M.lt 1 rfl
        replace Hp := M.oldN Hp
        replace Hr := M.oldN Hr
        replace M := Mem.start W36
        obtain ⟨D6, _⟩ := D
        obtain ⟨g37c, e6, Cg37, Og37⟩ := D6
        generalize gs 6 = g37 at *
        replace e6 : vs 6 = .tuple #[.agg ([.int .i64 ((k + 2 : Nat) : Int), .slice (some ⟨g37, 0, none⟩) ((partsL (lvD 50 ds k ++ [leafS la, leafS lb])).length) g37c] : List Value).toArray, .int .i64 0] := e6
        have Rg37_0 := Og37.range (0, scells (partsL (lvD 50 ds k ++ [leafS la, leafS lb]))) (by simp only [List.mem_cons, true_or, or_true])
        have Lg37 := Og37.lt
        dsimp only at hK9
        dsimp only
        rw [e6] at hK9 ⊢
        refine wpL_move (v := .tuple #[.agg ([.int .i64 ((k + 2 : Nat) : Int), .slice (some ⟨g37, 0, none⟩) ((partsL (lvD 50 ds k ++ [leafS la, leafS lb])).length) g37c] : List Value).toArray, .int .i64 0]) (by rfl) (by rfl) (by rfl) ?_
        simp only [putT, List.set]
        refine wpL_nil (then_normal ?_)
        have h8 := hK9 (.tuple #[.agg ([.int .i64 ((k + 2 : Nat) : Int), .slice (some ⟨g37, 0, none⟩) ((partsL (lvD 50 ds k ++ [leafS la, leafS lb])).length) g37c] : List Value).toArray, .int .i64 0])
        have h9 := h8 g37 _ (sees_refl _) ⟨(congrArg (fun x => x) e6).symm, g37c, rfl, Cg37, Og37⟩ (fun h => absurd h (by decide))
        simp only [putT, List.set] at h9
        exact h9
      refine RulesL.cons (fun vs => { tmps := #[.slice ap ds.length cp, .string (bs la), .string (bs lb), undef, undef, undef, u9 6, .pointer (some ⟨g6, 0, none⟩), u9 8, u9 9, u9 10, u9 11, .slice (some ⟨g17, 0, none⟩) ((partsL (lvD 50 ds k)).length) g17c, undef, undef, undef, undef, undef, undef, undef, .agg ([.int .i64 0, .slice none 0 0]).toArray, u9 21, u9 22, u9 23, u9 24, u9 25, u9 26, u9 27, u9 28, u9 29, u9 30, u9 31, u9 32, u9 33, u9 34, u9 35, u9 36, u9 37, u9 38, u9 39, u9 40, u9 41, u9 42, u9 43, u9 44, u9 45, .slice (some ⟨g14, 0, none⟩) 0 0, .pointer (some ⟨g6, 1, none⟩), .slice ar ((partsL (lvD 50 ds k)).length) cr, .slice (some ⟨g17, 0, none⟩) ((partsL (lvD 50 ds k)).length) g17c, vs 7, undef, undef, undef, undef, undef, undef, undef, undef, undef, undef, undef, undef, undef, undef, undef, undef, undef, undef, undef, undef, undef, undef, undef, undef, undef, undef, undef, undef, undef, undef, undef, undef, undef, undef, undef, undef, undef, undef, undef, undef, undef, undef, undef, undef, undef, undef, undef, undef, undef, undef, undef, undef, undef, undef, undef, undef, undef, undef, undef, undef, undef, undef, undef, undef, undef, undef], defers := [] }) (by kernel_rfl) ?_ ?_
      · skip
        intro vs gs W38 SW38 D K9 hK9
        replace M := M.sees SW38
        replace R0_0 := (M.oldG R0_0 L0 NI0)
        replace L0 := M.oldL L0
        have Rg17_0 := M.r 0 0 rfl rfl
        have Lg17 := M.lt 0 rfl
        have Rg6_0 := M.r 1 0 rfl rfl
        have Lg6 := M.lt 1 rfl
        replace Hp := M.oldN Hp
        replace Hr := M.oldN Hr
        replace M := Mem.start W38
        obtain ⟨D7, _⟩ := D
        obtain ⟨_, g39c, e7, Cg39, Og39⟩ := D7
        generalize gs 7 = g39 at *
        replace e7 : vs 7 = .tuple #[.agg ([.int .i64 ((k + 2 : Nat) : Int), .slice (some ⟨g39, 0, none⟩) ((partsL (lvD 50 ds k ++ [leafS la, leafS lb])).length) g39c] : List Value).toArray, .int .i64 0] := e7
        have Rg39_0 := Og39.range (0, scells (partsL (lvD 50 ds k ++ [leafS la, leafS lb]))) (by simp only [List.mem_cons, true_or, or_true])
        have Lg39 := Og39.lt
        dsimp only at hK9
        dsimp only
        rw [e7] at hK9 ⊢
        refine wpL_chunk 1 (by rfl) (fun Lk hLk => ?_)
        simp only [List.take, List.drop]
        refine wpV_extract (v := .agg ([.int .i64 ((k + 2 : Nat) : Int), .slice (some ⟨g39, 0, none⟩) ((partsL (lvD 50 ds k ++ [leafS la, leafS lb])).length) g39c] : List Value).toArray) (by rfl) rfl rfl rfl ?_
        simp only [putT, List.set]
        refine wpV_nil (hLk _ (fun w40 Sw40 => ?_))
        clear hLk Lk
        simp only [List.take, List.drop]
        replace M := M.sees Sw40
        refine wpL_nil (then_normal ?_)
        have h8 := hK9 (.agg ([.int .i64 ((k + 2 : Nat) : Int), .slice (some ⟨g39, 0, none⟩) ((partsL (lvD 50 ds k ++ [leafS la, leafS lb])).length) g39c] : List Value).toArray)
        have h9 := h8 g39 _ M.seesAll ⟨(congrArg (partF 0) e7).symm, g39c, rfl, Cg39, (Og39.mono M.seesAll)⟩ (fun h => absurd h (by decide))
        simp only [putT, List.set] at h9
        exact h9
      refine RulesL.cons (fun vs => { tmps := #[.slice ap ds.length cp, .string (bs la), .string (bs lb), undef, undef, undef, u9 6, .pointer (some ⟨g6, 0, none⟩), u9 8, u9 9, u9 10, u9 11, .slice (some ⟨g17, 0, none⟩) ((partsL (lvD 50 ds k)).length) g17c, undef, undef, undef, undef, undef, undef, undef, .agg ([.int .i64 0, .slice none 0 0]).toArray, u9 21, u9 22, u9 23, u9 24, u9 25, u9 26, u9 27, u9 28, u9 29, u9 30, u9 31, u9 32, u9 33, u9 34, u9 35, u9 36, u9 37, u9 38, u9 39, u9 40, u9 41, u9 42, u9 43, u9 44, u9 45, .slice (some ⟨g14, 0, none⟩) 0 0, .pointer (some ⟨g6, 1, none⟩), .slice ar ((partsL (lvD 50 ds k)).length) cr, .slice (some ⟨g17, 0, none⟩) ((partsL (lvD 50 ds k)).length) g17c, vs 7, undef, undef, undef, undef, undef, undef, undef, undef, undef, undef, undef, undef, undef, undef, undef, undef, undef, undef, undef, undef, undef, undef, undef, undef, undef, undef, undef, undef, undef, undef, undef, undef, undef, undef, undef, undef, undef, undef, undef, undef, undef, undef, undef, undef, undef, undef, undef, undef, undef, undef, undef, undef, undef, undef, undef, undef, undef, undef, undef, undef, undef, undef, undef, undef, undef, undef], defers := [] }) (by kernel_rfl) ?_ ?_
      · skip
        intro vs gs W41 SW41 D K9 hK9
        replace M := M.sees SW41
        replace R0_0 := (M.oldG R0_0 L0 NI0)
        replace L0 := M.oldL L0
        have Rg17_0 := M.r 0 0 rfl rfl
        have Lg17 := M.lt 0 rfl
        have Rg6_0 := M.r 1 0 rfl rfl
        have Lg6 := M.lt 1 rfl
        replace Hp := M.oldN Hp
        replace Hr := M.oldN Hr
        replace M := Mem.start W41
        obtain ⟨D7, _⟩ := D
        obtain ⟨_, g42c, e7, Cg42, Og42⟩ := D7
        generalize gs 7 = g42 at *
        replace e7 : vs 7 = .tuple #[.agg ([.int .i64 ((k + 2 : Nat) : Int), .slice (some ⟨g42, 0, none⟩) ((partsL (lvD 50 ds k ++ [leafS la, leafS lb])).length) g42c] : List Value).toArray, .int .i64 0] := e7
        have Rg42_0 := Og42.range (0, scells (partsL (lvD 50 ds k ++ [leafS la, leafS lb]))) (by simp only [List.mem_cons, true_or, or_true])
        have Lg42 := Og42.lt
        dsimp only at hK9
        dsimp only
        rw [e7] at hK9 ⊢
        refine wpL_chunk 1 (by rfl) (fun Lk hLk => ?_)
        simp only [List.take, List.drop]
        refine wpV_extract (v := .int .i64 0) (by rfl) rfl rfl rfl ?_
        simp only [putT, List.set]
        refine wpV_nil (hLk _ (fun w43 Sw43 => ?_))
        clear hLk Lk
        simp only [List.take, List.drop]
        replace M := M.sees Sw43
        refine wpL_nil (then_normal ?_)
        have h8 := hK9 (.int .i64 0)
        have h9 := h8 0 _ M.seesAll rfl (fun h => absurd h (by decide))
        simp only [putT, List.set] at h9
        exact h9
      refine RulesL.cons (fun vs => { tmps := #[.slice ap ds.length cp, .string (bs la), .string (bs lb), undef, undef, undef, u9 6, .pointer (some ⟨g6, 0, none⟩), u9 8, u9 9, u9 10, u9 11, .slice (some ⟨g17, 0, none⟩) ((partsL (lvD 50 ds k)).length) g17c, undef, undef, undef, undef, undef, undef, undef, .agg ([.int .i64 0, .slice none 0 0]).toArray, u9 21, u9 22, u9 23, u9 24, u9 25, u9 26, u9 27, u9 28, u9 29, u9 30, u9 31, u9 32, u9 33, u9 34, u9 35, u9 36, u9 37, u9 38, u9 39, u9 40, u9 41, u9 42, u9 43, u9 44, u9 45, .slice (some ⟨g14, 0, none⟩) 0 0, .pointer (some ⟨g6, 1, none⟩), .slice ar ((partsL (lvD 50 ds k)).length) cr, .slice (some ⟨g17, 0, none⟩) ((partsL (lvD 50 ds k)).length) g17c, undef, undef, undef, undef, undef, undef, undef, undef, undef, undef, undef, undef, undef, undef, undef, undef, undef, undef, undef, undef, undef, undef, undef, undef, undef, undef, undef, undef, undef, undef, undef, undef, undef, undef, undef, undef, undef, undef, undef, undef, undef, undef, undef, undef, undef, undef, undef, undef, undef, undef, undef, undef, undef, undef, undef, undef, undef, undef, undef, undef, undef, undef, undef, undef, undef, undef, undef], defers := [] }) (by kernel_rfl) ?_ ?_
      · skip
        intro vs gs W44 SW44 D K9 hK9
        replace M := M.sees SW44
        replace R0_0 := (M.oldG R0_0 L0 NI0)
        replace L0 := M.oldL L0
        have Rg17_0 := M.r 0 0 rfl rfl
        have Lg17 := M.lt 0 rfl
        have Rg6_0 := M.r 1 0 rfl rfl
        have Lg6 := M.lt 1 rfl
        replace Hp := M.oldN Hp
        replace Hr := M.oldN Hr
        replace M := Mem.start W44
        dsimp only at hK9
        dsimp only
        refine wpL_var (t := 66) (cs := [.int .i64 0, .slice none 0 0]) (by rfl) (fun W => ?_) (fun g45 w46 Sw46 Hg45 Bg45 => ?_)
        · go_simp
        replace M := ((M.sees Sw46).add (N := 2) (cs := [.int .i64 0, .slice none 0 0]) (M.ge Hg45) (M.fresh Hg45) Bg45 rfl)
        clear Bg45
        simp only [putT, List.set]
        refine wpL_nil (then_normal ?_)
        have h8 := hK9 (.pointer (some ⟨g45, 0, none⟩))
        have h9 := h8 g45 _ M.seesAll ⟨rfl, (M.ok _ (.head _)).up SW44⟩ (fun _ => (M.ok _ (.head _)).ge)
        simp only [putT, List.set] at h9
        exact h9
      exact RulesL.nil
    intro vs gs W47 SW47 D A9
    obtain ⟨D0, D1, D2, D3, D4, D5, D6, D7, D8, D9, D10, _⟩ := (show DepRel _ vs gs W47 [0, 1, 2, 3, 4, 5, 6, 7, 8, 9, 10] from D)
    have n5_6 : gs 5 ≠ gs 6 := A9 5 6 (by decide) (by decide) (by decide) (by decide) (by decide)
    have n5_10 : gs 5 ≠ gs 10 := A9 5 10 (by decide) (by decide) (by decide) (by decide) (by decide)
    have n6_10 : gs 6 ≠ gs 10 := A9 6 10 (by decide) (by decide) (by decide) (by decide) (by decide)
    clear A9 D
    have e0 : vs 0 = .agg ([.int .i64 ((k : Nat) : Int), .slice ar ((partsL (lvD 50 ds k)).length) cr]).toArray := D0
    have e1 : vs 1 = .string (bs la) := D1
    have e2 : vs 2 = .string (bs (leafS la)) := D2
    have e3 : vs 3 = .string (bs lb) := D3
    have e4 : vs 4 = .string (bs (leafS lb)) := D4
    obtain ⟨e5, Og48⟩ := D5
    generalize gs 5 = g48 at *
    replace e5 : vs 5 = .slice (some ⟨g48, 0, none⟩) 2 2 := e5
    obtain ⟨g49c, e6, Cg49, Og49⟩ := D6
    generalize gs 6 = g49 at *
    replace e6 : vs 6 = .tuple #[.agg ([.int .i64 ((k + 2 : Nat) : Int), .slice (some ⟨g49, 0, none⟩) ((partsL (lvD 50 ds k ++ [leafS la, leafS lb])).length) g49c] : List Value).toArray, .int .i64 0] := e6
    have e7 : vs 7 = .tuple #[.agg ([.int .i64 ((k + 2 : Nat) : Int), .slice (some ⟨g49, 0, none⟩) ((partsL (lvD 50 ds k ++ [leafS la, leafS lb])).length) g49c] : List Value).toArray, .int .i64 0] := D7.1.trans (congrArg (fun x => x) e6)
    have e8 : vs 8 = .agg ([.int .i64 ((k + 2 : Nat) : Int), .slice (some ⟨g49, 0, none⟩) ((partsL (lvD 50 ds k ++ [leafS la, leafS lb])).length) g49c] : List Value).toArray := D8.1.trans (congrArg (partF 0) e7)
    have e9 : vs 9 = .int .i64 0 := D9
    obtain ⟨e10, Og50⟩ := D10
    generalize gs 10 = g50 at *
    replace e10 : vs 10 = .pointer (some ⟨g50, 0, none⟩) := e10
    replace M := M.addOks SW47 [⟨g48, 2, [(0, [.string (bs (leafS la)), .string (bs (leafS lb))])]⟩, ⟨g49, g49c, [(0, scells (partsL (lvD 50 ds k ++ [leafS la, leafS lb])))]⟩, ⟨g50, 2, [(0, [.int .i64 0, .slice none 0 0])]⟩] (List.forall_mem_cons.2 ⟨Og48, (List.forall_mem_cons.2 ⟨Og49, (List.forall_mem_cons.2 ⟨Og50, (fun _ h => nomatch h)⟩)⟩)⟩) (.cons (List.forall_mem_cons.2 ⟨n5_6, (List.forall_mem_cons.2 ⟨n5_10, (fun _ h => nomatch h)⟩)⟩) (.cons (List.forall_mem_cons.2 ⟨n6_10, (fun _ h => nomatch h)⟩) (.cons (fun _ h => nomatch h) .nil)))
    simp only [List.cons_append, List.nil_append] at M
    dsimp only
    simp only [e0, e1, e2, e3, e4, e5, e6, e7, e8, e9, e10, List.drop]
    refine wpL_store (g := g50) (off := 0) (n := 2) (cs := [.int .i64 ((k + 2 : Nat) : Int), .slice (some ⟨g49, 0, none⟩) ((partsL (lvD 50 ds k ++ [leafS la, leafS lb])).length) g49c]) (by rfl) (by rfl) (by rfl) (by rfl) (by rfl) (M.t 2 rfl) (by simp [flen]) info66 (by simp [fone, Value.oneCell']) (fun w51 P R T => ?_)
    replace M := M.putS 2 0 rfl P R T rfl ⟨.inl rfl, trivial⟩
    simp only [List.set] at M
    refine wpL_assign (v := .int .i64 0) (by rfl) (by rfl) (by rfl) ?_
    simp only [putT, List.set]
    refine wpL_nil (no_panic ?_)
    refine hK19 _ _ ?_
    refine wp_seq_k (fun K52 hK52 => ?_)
    refine wp_region_seq ?_
    refine wpL_row0 (by rfl) (by rfl) Tryd.underlying48 info9 (fun g54 w55 Sw55 Hg54 Bg54 => ?_)
    replace M := ((M.sees Sw55).add (N := 0) (cs := scells []) (M.ge Hg54) (M.fresh Hg54) Bg54 rfl)
    clear Bg54
    simp only [putT, List.set]
    refine wpL_chunk 2 (by rfl) (fun Lk hLk => ?_)
    simp only [List.take, List.drop]
    refine wpV_val (v := .pointer (some ⟨g50, 1, none⟩)) (by rfl) (by rfl) (fun W hW => ?_) ?_
    · (go_simp; exact rfl)
    simp only [putT, List.set]
    refine wpV_load1 (v := .slice (some ⟨g49, 0, none⟩) ((partsL (lvD 50 ds k ++ [leafS la, leafS lb])).length) g49c) (by rfl) rfl rfl (range_one (range_sub (M.r 3 0 rfl rfl) 1 1 1 (xs := [.slice (some ⟨g49, 0, none⟩) ((partsL (lvD 50 ds k ++ [leafS la, leafS lb])).length) g49c]) rfl rfl)) (M.lt 3 rfl) Tryd.underlying48 rfl ?_
    simp only [putT, List.set]
    refine wpV_nil (hLk _ (fun w56 Sw56 => ?_))
    clear hLk Lk
    simp only [List.take, List.drop]
    replace M := M.sees Sw56
    refine wpL_append (n := 0) (m := (partsL (lvD 50 ds k ++ [leafS la, leafS lb])).length) (olds := scells []) (news := scells (partsL (lvD 50 ds k ++ [leafS la, leafS lb]))) (z := .string { data := #[] }) (bytes := 16) (by rfl) (by rfl) (by rfl) (by rfl) Tryd.underlying48 (by kernel_rfl) rfl rfl (by rfl) (scells_len _) (M.r 0 0 rfl rfl) (M.t 0 rfl) (M.lt 0 rfl) (M.r 2 0 rfl rfl) (scells_one _) (by have := partsL_le (L := (lvD 50 ds k ++ [leafS la, leafS lb])) (by simp only [List.length_append, lvD_len hkl, List.length_cons, List.length_nil]; omega); omega) (by have := partsL_le (L := (lvD 50 ds k ++ [leafS la, leafS lb])) (by simp only [List.length_append, lvD_len hkl, List.length_cons, List.length_nil]; omega); simp only [maxLen]; omega) (fun g57 g57c w58 Sw58 Q Cg57 R T L => ?_)
    replace M := M.grow 0 rfl Sw58 Q R T L
    simp only [List.set] at M
    clear Q R T L
    rw [show scells [] ++ scells (partsL (lvD 50 ds k ++ [leafS la, leafS lb])) = scells (partsL (lvD 50 ds k ++ [leafS la, leafS lb])) from rfl] at M
    rw [Nat.zero_add] at Cg57
    rw [Nat.zero_add]
    simp only [putT, List.set]
    refine wpL_assign (v := .slice (some ⟨g57, 0, none⟩) ((partsL (lvD 50 ds k ++ [leafS la, leafS lb])).length) g57c) (by rfl) (by rfl) (by rfl) ?_
    simp only [putT, List.set]
    refine wpL_nil (no_panic ?_)
    refine hK52 _ _ ?_
    refine wp_seq_k (fun K59 hK59 => ?_)
    refine wp_region_addsF 9 [7] [3, 4, 8] [ValRel (.agg ([.int .i64 ((k : Nat) : Int), .slice ar ((partsL (lvD 50 ds k)).length) cr]).toArray), ValRel (.string (bs lb)), ValRel (.string (bs (leafS lb))), BoxRel w58 (fun gA => .slice (some ⟨gA, 0, none⟩) 1 1) 1 [(0, [.string (bs (leafS lb))])], NewRel w58 (fun gA gAc => .tuple #[.agg ([.int .i64 ((k + 1 : Nat) : Int), .slice (some ⟨gA, 0, none⟩) ((partsL (lvD 50 ds k ++ [leafS lb])).length) gAc] : List Value).toArray, .int .i64 0]) ((partsL (lvD 50 ds k ++ [leafS lb])).length) [(0, scells (partsL (lvD 50 ds k ++ [leafS lb])))], LinkRel 4 (fun x => x) (NewRel w58 (fun gA gAc => .tuple #[.agg ([.int .i64 ((k + 1 : Nat) : Int), .slice (some ⟨gA, 0, none⟩) ((partsL (lvD 50 ds k ++ [leafS lb])).length) gAc] : List Value).toArray, .int .i64 0]) ((partsL (lvD 50 ds k ++ [leafS lb])).length) [(0, scells (partsL (lvD 50 ds k ++ [leafS lb])))]), LinkRel 5 (partF 0) (NewRel w58 (fun gA gAc => .agg ([.int .i64 ((k + 1 : Nat) : Int), .slice (some ⟨gA, 0, none⟩) ((partsL (lvD 50 ds k ++ [leafS lb])).length) gAc] : List Value).toArray) ((partsL (lvD 50 ds k ++ [leafS lb])).length) [(0, scells (partsL (lvD 50 ds k ++ [leafS lb])))]), ValRel (.int .i64 0), BoxRel w58 (fun gA => .pointer (some ⟨gA, 0, none⟩)) 2 [(0, [.int .i64 0, .slice none 0 0])]] [[], [], [1], [2], [0, 3], [4], [5], [5], []] (fun vs => { tmps := #[.slice ap ds.length cp, .string (bs la), .string (bs lb), undef, undef, undef, u9 6, .pointer (some ⟨g6, 0, none⟩), u9 8, u9 9, u9 10, u9 11, .slice (some ⟨g17, 0, none⟩) ((partsL (lvD 50 ds k)).length) g17c, .pointer (some ⟨g50, 0, none⟩), .int .i64 0, .slice (some ⟨g57, 0, none⟩) ((partsL (lvD 50 ds k ++ [leafS la, leafS lb])).length) g57c, vs 8, undef, undef, undef, .agg ([.int .i64 0, .slice none 0 0]).toArray, u9 21, u9 22, u9 23, u9 24, u9 25, u9 26, u9 27, u9 28, u9 29, u9 30, u9 31, u9 32, u9 33, u9 34, u9 35, u9 36, u9 37, u9 38, u9 39, u9 40, u9 41, u9 42, u9 43, u9 44, u9 45, .slice (some ⟨g14, 0, none⟩) 0 0, .pointer (some ⟨g6, 1, none⟩), .slice ar ((partsL (lvD 50 ds k)).length) cr, .slice (some ⟨g17, 0, none⟩) ((partsL (lvD 50 ds k)).length) g17c, .tuple #[.agg ([.int .i64 ((k + 2 : Nat) : Int), .slice (some ⟨g49, 0, none⟩) ((partsL (lvD 50 ds k ++ [leafS la, leafS lb])).length) g49c] : List Value).toArray, .int .i64 0], .agg ([.int .i64 ((k : Nat) : Int), .slice ar ((partsL (lvD 50 ds k)).length) cr]).toArray, .string (bs la), .string (bs (leafS la)), .string (bs lb), .string (bs (leafS lb)), .slice (some ⟨g48, 0, none⟩) 2 2, .tuple #[.agg ([.int .i64 ((k + 2 : Nat) : Int), .slice (some ⟨g49, 0, none⟩) ((partsL (lvD 50 ds k ++ [leafS la, leafS lb])).length) g49c] : List Value).toArray, .int .i64 0], .agg ([.int .i64 ((k + 2 : Nat) : Int), .slice (some ⟨g49, 0, none⟩) ((partsL (lvD 50 ds k ++ [leafS la, leafS lb])).length) g49c] : List Value).toArray, .int .i64 0, .slice (some ⟨g54, 0, none⟩) 0 0, .pointer (some ⟨g50, 1, none⟩), .slice (some ⟨g49, 0, none⟩) ((partsL (lvD 50 ds k ++ [leafS la, leafS lb])).length) g49c, .slice (some ⟨g57, 0, none⟩) ((partsL (lvD 50 ds k ++ [leafS la, leafS lb])).length) g57c, vs 5, vs 0, vs 1, vs 2, vs 3, vs 4, vs 6, vs 7, undef, undef, undef, undef, undef, undef, undef, undef, undef, undef, undef, undef, undef, undef, undef, undef, undef, undef, undef, undef, undef, undef, undef, undef, undef, undef, undef, undef, undef, undef, undef, undef, undef, undef, undef, undef, undef, undef, undef, undef, undef, undef, undef, undef, undef], defers := [] }) (by kernel_rfl) (by kernel_rfl) (by kernel_rfl) (by kernel_rfl) (.cons keep_val (.cons keep_val (.cons keep_val (.cons keep_box (.cons keep_new (.cons (keep_link keep_new) (.cons (keep_link keep_new) (.cons keep_val (.cons keep_box AllKeep.nil))))))))) (.free free_val (.free free_val (.free free_val (.free free_box (.free free_new (.link free_new (by decide) (.link free_new (by decide) (.free free_val (.free free_box AllLoc.nil))))))))) (.cons own_box (.cons own_new (.cons own_box AllOwn.nil))) (by kernel_rfl) ?_ ?_
    · skip
      simp only [List.take]
      refine RulesL.cons (fun vs => { tmps := #[.slice ap ds.length cp, .string (bs la), .string (bs lb), undef, undef, undef, u9 6, .pointer (some ⟨g6, 0, none⟩), u9 8, u9 9, u9 10, u9 11, .slice (some ⟨g17, 0, none⟩) ((partsL (lvD 50 ds k)).length) g17c, .pointer (some ⟨g50, 0, none⟩), .int .i64 0, .slice (some ⟨g57, 0, none⟩) ((partsL (lvD 50 ds k ++ [leafS la, leafS lb])).length) g57c, undef, undef, undef, undef, .agg ([.int .i64 0, .slice none 0 0]).toArray, u9 21, u9 22, u9 23, u9 24, u9 25, u9 26, u9 27, u9 28, u9 29, u9 30, u9 31, u9 32, u9 33, u9 34, u9 35, u9 36, u9 37, u9 38, u9 39, u9 40, u9 41, u9 42, u9 43, u9 44, u9 45, .slice (some ⟨g14, 0, none⟩) 0 0, .pointer (some ⟨g6, 1, none⟩), .slice ar ((partsL (lvD 50 ds k)).length) cr, .slice (some ⟨g17, 0, none⟩) ((partsL (lvD 50 ds k)).length) g17c, .tuple #[.agg ([.int .i64 ((k + 2 : Nat) : Int), .slice (some ⟨g49, 0, none⟩) ((partsL (lvD 50 ds k ++ [leafS la, leafS lb])).length) g49c] : List Value).toArray, .int .i64 0], .agg ([.int .i64 ((k : Nat) : Int), .slice ar ((partsL (lvD 50 ds k)).length) cr]).toArray, .string (bs la), .string (bs (leafS la)), .string (bs lb), .string (bs (leafS lb)), .slice (some ⟨g48, 0, none⟩) 2 2, .tuple #[.agg ([.int .i64 ((k + 2 : Nat) : Int), .slice (some ⟨g49, 0, none⟩) ((partsL (lvD 50 ds k ++ [leafS la, leafS lb])).length) g49c] : List Value).toArray, .int .i64 0], .agg ([.int .i64 ((k + 2 : Nat) : Int), .slice (some ⟨g49, 0, none⟩) ((partsL (lvD 50 ds k ++ [leafS la, leafS lb])).length) g49c] : List Value).toArray, .int .i64 0, .slice (some ⟨g54, 0, none⟩) 0 0, .pointer (some ⟨g50, 1, none⟩), .slice (some ⟨g49, 0, none⟩) ((partsL (lvD 50 ds k ++ [leafS la, leafS lb])).length) g49c, .slice (some ⟨g57, 0, none⟩) ((partsL (lvD 50 ds k ++ [leafS la, leafS lb])).length) g57c, undef, undef, undef, undef, undef, undef, undef, undef, undef, undef, undef, undef, undef, undef, undef, undef, undef, undef, undef, undef, undef, undef, undef, undef, undef, undef, undef, undef, undef, undef, undef, undef, undef, undef, undef, undef, undef, undef, undef, undef, undef, undef, undef, undef, undef, undef, undef, undef, undef, undef, undef, undef, undef], defers := [] }) (by kernel_rfl) ?_ ?_
      · skip
        intro vs gs W61 SW61 D K9 hK9
        replace M := M.sees SW61
        dsimp only at hK9
        dsimp only
        refine wpL_chunk 1 (by rfl) (fun Lk hLk => ?_)
        simp only [List.take, List.drop]
        refine wpV_load (cs := [.int .i64 ((k : Nat) : Int), .slice ar ((partsL (lvD 50 ds k)).length) cr]) (by rfl) rfl rfl (M.r 5 0 rfl rfl) (M.lt 5 rfl) Tryd.underlying66 rfl info66 ?_
        simp only [putT, List.set]
        refine wpV_nil (hLk _ (fun w62 Sw62 => ?_))
        clear hLk Lk
        simp only [List.take, List.drop]
        replace M := M.sees Sw62
        refine wpL_nil (then_normal ?_)
        have h8 := hK9 (.agg ([.int .i64 ((k : Nat) : Int), .slice ar ((partsL (lvD 50 ds k)).length) cr]).toArray)
        have h9 := h8 0 _ Sw62 rfl (fun h => absurd h (by decide))
        simp only [putT, List.set] at h9
        exact h9
      refine RulesL.cons (fun vs => { tmps := #[.slice ap ds.length cp, .string (bs la), .string (bs lb), undef, undef, undef, u9 6, .pointer (some ⟨g6, 0, none⟩), u9 8, u9 9, u9 10, u9 11, .slice (some ⟨g17, 0, none⟩) ((partsL (lvD 50 ds k)).length) g17c, .pointer (some ⟨g50, 0, none⟩), .int .i64 0, .slice (some ⟨g57, 0, none⟩) ((partsL (lvD 50 ds k ++ [leafS la, leafS lb])).length) g57c, undef, undef, undef, undef, .agg ([.int .i64 0, .slice none 0 0]).toArray, u9 21, u9 22, u9 23, u9 24, u9 25, u9 26, u9 27, u9 28, u9 29, u9 30, u9 31, u9 32, u9 33, u9 34, u9 35, u9 36, u9 37, u9 38, u9 39, u9 40, u9 41, u9 42, u9 43, u9 44, u9 45, .slice (some ⟨g14, 0, none⟩) 0 0, .pointer (some ⟨g6, 1, none⟩), .slice ar ((partsL (lvD 50 ds k)).length) cr, .slice (some ⟨g17, 0, none⟩) ((partsL (lvD 50 ds k)).length) g17c, .tuple #[.agg ([.int .i64 ((k + 2 : Nat) : Int), .slice (some ⟨g49, 0, none⟩) ((partsL (lvD 50 ds k ++ [leafS la, leafS lb])).length) g49c] : List Value).toArray, .int .i64 0], .agg ([.int .i64 ((k : Nat) : Int), .slice ar ((partsL (lvD 50 ds k)).length) cr]).toArray, .string (bs la), .string (bs (leafS la)), .string (bs lb), .string (bs (leafS lb)), .slice (some ⟨g48, 0, none⟩) 2 2, .tuple #[.agg ([.int .i64 ((k + 2 : Nat) : Int), .slice (some ⟨g49, 0, none⟩) ((partsL (lvD 50 ds k ++ [leafS la, leafS lb])).length) g49c] : List Value).toArray, .int .i64 0], .agg ([.int .i64 ((k + 2 : Nat) : Int), .slice (some ⟨g49, 0, none⟩) ((partsL (lvD 50 ds k ++ [leafS la, leafS lb])).length) g49c] : List Value).toArray, .int .i64 0, .slice (some ⟨g54, 0, none⟩) 0 0, .pointer (some ⟨g50, 1, none⟩), .slice (some ⟨g49, 0, none⟩) ((partsL (lvD 50 ds k ++ [leafS la, leafS lb])).length) g49c, .slice (some ⟨g57, 0, none⟩) ((partsL (lvD 50 ds k ++ [leafS la, leafS lb])).length) g57c, undef, undef, undef, undef, undef, undef, undef, undef, undef, undef, undef, undef, undef, undef, undef, undef, undef, undef, undef, undef, undef, undef, undef, undef, undef, undef, undef, undef, undef, undef, undef, undef, undef, undef, undef, undef, undef, undef, undef, undef, undef, undef, undef, undef, undef, undef, undef, undef, undef, undef, undef, undef, undef], defers := [] }) (by kernel_rfl) ?_ ?_
      · skip
        intro vs gs W63 SW63 D K9 hK9
        replace M := M.sees SW63
        dsimp only at hK9
        dsimp only
        refine wpL_move (v := .string (bs lb)) (by rfl) (by rfl) (by rfl) ?_
        simp only [putT, List.set]
        refine wpL_nil (then_normal ?_)
        have h8 := hK9 (.string (bs lb))
        have h9 := h8 0 _ (sees_refl _) rfl (fun h => absurd h (by decide))
        simp only [putT, List.set] at h9
        exact h9
      refine RulesL.cons (fun vs => { tmps := #[.slice ap ds.length cp, .string (bs la), .string (bs lb), undef, undef, undef, u9 6, .pointer (some ⟨g6, 0, none⟩), u9 8, u9 9, u9 10, u9 11, .slice (some ⟨g17, 0, none⟩) ((partsL (lvD 50 ds k)).length) g17c, .pointer (some ⟨g50, 0, none⟩), .int .i64 0, .slice (some ⟨g57, 0, none⟩) ((partsL (lvD 50 ds k ++ [leafS la, leafS lb])).length) g57c, undef, undef, undef, undef, .agg ([.int .i64 0, .slice none 0 0]).toArray, u9 21, u9 22, u9 23, u9 24, u9 25, u9 26, u9 27, u9 28, u9 29, u9 30, u9 31, u9 32, u9 33, u9 34, u9 35, u9 36, u9 37, u9 38, u9 39, u9 40, u9 41, u9 42, u9 43, u9 44, u9 45, .slice (some ⟨g14, 0, none⟩) 0 0, .pointer (some ⟨g6, 1, none⟩), .slice ar ((partsL (lvD 50 ds k)).length) cr, .slice (some ⟨g17, 0, none⟩) ((partsL (lvD 50 ds k)).length) g17c, .tuple #[.agg ([.int .i64 ((k + 2 : Nat) : Int), .slice (some ⟨g49, 0, none⟩) ((partsL (lvD 50 ds k ++ [leafS la, leafS lb])).length) g49c] : List Value).toArray, .int .i64 0], .agg ([.int .i64 ((k : Nat) : Int), .slice ar ((partsL (lvD 50 ds k)).length) cr]).toArray, .string (bs la), .string (bs (leafS la)), .string (bs lb), .string (bs (leafS lb)), .slice (some ⟨g48, 0, none⟩) 2 2, .tuple #[.agg ([.int .i64 ((k + 2 : Nat) : Int), .slice (some ⟨g49, 0, none⟩) ((partsL (lvD 50 ds k ++ [leafS la, leafS lb])).length) g49c] : List Value).toArray, .int .i64 0], .agg ([.int .i64 ((k + 2 : Nat) : Int), .slice (some ⟨g49, 0, none⟩) ((partsL (lvD 50 ds k ++ [leafS la, leafS lb])).length) g49c] : List Value).toArray, .int .i64 0, .slice (some ⟨g54, 0, none⟩) 0 0, .pointer (some ⟨g50, 1, none⟩), .slice (some ⟨g49, 0, none⟩) ((partsL (lvD 50 ds k ++ [leafS la, leafS lb])).length) g49c, .slice (some ⟨g57, 0, none⟩) ((partsL (lvD 50 ds k ++ [leafS la, leafS lb])).length) g57c, undef, undef, vs 1, undef, undef, undef, undef, undef, undef, undef, undef, undef, undef, undef, undef, undef, undef, undef, undef, undef, undef, undef, undef, undef, undef, undef, undef, undef, undef, undef, undef, undef, undef, undef, undef, undef, undef, undef, undef, undef, undef, undef, undef, undef, undef, undef, undef, undef, undef, undef, undef, undef, undef], defers := [] }) (by kernel_rfl) ?_ ?_
      · skip
        intro vs gs W64 SW64 D K9 hK9
        replace M := M.sees SW64
        obtain ⟨D1, _⟩ := D
        have e1 : vs 1 = .string (bs lb) := D1
        dsimp only at hK9
        dsimp only
        rw [e1] at hK9 ⊢
        refine wpL_chunk 1 (by rfl) (fun Lk hLk => ?_)
        simp only [List.take, List.drop]
        refine wpV_callf (v := .string (bs (leafS lb))) (args := #[.string (bs lb)]) (by rfl) rfl Tryd.func38 (by kernel_rfl) (by kernel_rfl) rfl (fun W hW => leaf_c (d := lb) (by omega) ((M.sees hW).oldL L0) ((M.sees hW).oldG R0_0 L0 NI0)) ?_
        simp only [putT, List.set]
        refine wpV_nil (hLk _ (fun w65 Sw65 => ?_))
        clear hLk Lk
        simp only [List.take, List.drop]
        replace M := M.sees Sw65
        refine wpL_nil (then_normal ?_)
        have h8 := hK9 (.string (bs (leafS lb)))
        have h9 := h8 0 _ Sw65 rfl (fun h => absurd h (by decide))
        simp only [putT, List.set] at h9
        exact h9
      refine RulesL.cons (fun vs => { tmps := #[.slice ap ds.length cp, .string (bs la), .string (bs lb), undef, undef, undef, u9 6, .pointer (some ⟨g6, 0, none⟩), u9 8, u9 9, u9 10, u9 11, .slice (some ⟨g17, 0, none⟩) ((partsL (lvD 50 ds k)).length) g17c, .pointer (some ⟨g50, 0, none⟩), .int .i64 0, .slice (some ⟨g57, 0, none⟩) ((partsL (lvD 50 ds k ++ [leafS la, leafS lb])).length) g57c, undef, undef, undef, undef, .agg ([.int .i64 0, .slice none 0 0]).toArray, u9 21, u9 22, u9 23, u9 24, u9 25, u9 26, u9 27, u9 28, u9 29, u9 30, u9 31, u9 32, u9 33, u9 34, u9 35, u9 36, u9 37, u9 38, u9 39, u9 40, u9 41, u9 42, u9 43, u9 44, u9 45, .slice (some ⟨g14, 0, none⟩) 0 0, .pointer (some ⟨g6, 1, none⟩), .slice ar ((partsL (lvD 50 ds k)).length) cr, .slice (some ⟨g17, 0, none⟩) ((partsL (lvD 50 ds k)).length) g17c, .tuple #[.agg ([.int .i64 ((k + 2 : Nat) : Int), .slice (some ⟨g49, 0, none⟩) ((partsL (lvD 50 ds k ++ [leafS la, leafS lb])).length) g49c] : List Value).toArray, .int .i64 0], .agg ([.int .i64 ((k : Nat) : Int), .slice ar ((partsL (lvD 50 ds k)).length) cr]).toArray, .string (bs la), .string (bs (leafS la)), .string (bs lb), .string (bs (leafS lb)), .slice (some ⟨g48, 0, none⟩) 2 2, .tuple #[.agg ([.int .i64 ((k + 2 : Nat) : Int), .slice (some ⟨g49, 0, none⟩) ((partsL (lvD 50 ds k ++ [leafS la, leafS lb])).length) g49c] : List Value).toArray, .int .i64 0], .agg ([.int .i64 ((k + 2 : Nat) : Int), .slice (some ⟨g49, 0, none⟩) ((partsL (lvD 50 ds k ++ [leafS la, leafS lb])).length) g49c] : List Value).toArray, .int .i64 0, .slice (some ⟨g54, 0, none⟩) 0 0, .pointer (some ⟨g50, 1, none⟩), .slice (some ⟨g49, 0, none⟩) ((partsL (lvD 50 ds k ++ [leafS la, leafS lb])).length) g49c, .slice (some ⟨g57, 0, none⟩) ((partsL (lvD 50 ds k ++ [leafS la, leafS lb])).length) g57c, undef, undef, undef, vs 2, undef, undef, undef, undef, undef, undef, undef, undef, undef, undef, undef, undef, undef, undef, undef, undef, undef, undef, undef, undef, undef, undef, undef, undef, undef, undef, undef, undef, undef, undef, undef, undef, undef, undef, undef, undef, undef, undef, undef, undef, undef, undef, undef, undef, undef, undef, undef, undef, undef], defers := [] }) (by kernel_rfl) ?_ ?_
      · skip
        intro vs gs W66 SW66 D K9 hK9
        replace M := M.sees SW66
        replace R0_0 := (M.oldG R0_0 L0 NI0)
        replace L0 := M.oldL L0
        have Rg57_0 := M.r 0 0 rfl rfl
        have Lg57 := M.lt 0 rfl
        have Rg48_0 := M.r 1 0 rfl rfl
        have Lg48 := M.lt 1 rfl
        have Rg49_0 := M.r 2 0 rfl rfl
        have Lg49 := M.lt 2 rfl
        have Rg50_0 := M.r 3 0 rfl rfl
        have Lg50 := M.lt 3 rfl
        have Rg17_0 := M.r 4 0 rfl rfl
        have Lg17 := M.lt 4 rfl
        have Rg6_0 := M.r 5 0 rfl rfl
        have Lg6 := M.lt 5 rfl
        replace Hp := M.oldN Hp
        replace Hr := M.oldN Hr
        replace M := Mem.start W66
        obtain ⟨D2, _⟩ := D
        have e2 : vs 2 = .string (bs (leafS lb)) := D2
        dsimp only at hK9
        dsimp only
        rw [e2] at hK9 ⊢
        refine wpL_rowN (vs := [.string (bs (leafS lb))]) (z := .string { data := #[] }) (bytes := 16) (by rfl) (by rfl) Tryd.underlying48 (by kernel_rfl) (by decide) (by kernel_rfl) (fun g67 w68 Sw68 Hg67 Bg67 => ?_)
        replace M := ((M.sees Sw68).add (N := 1) (cs := [.string (bs (leafS lb))]) (M.ge Hg67) (M.fresh Hg67) Bg67 rfl)
        clear Bg67
        simp only [putT, List.set]
        refine wpL_nil (then_normal ?_)
        have h8 := hK9 (.slice (some ⟨g67, 0, none⟩) 1 1)
        have h9 := h8 g67 _ M.seesAll ⟨rfl, (M.ok _ (.head _)).up SW66⟩ (fun _ => (M.ok _ (.head _)).ge)
        simp only [putT, List.set] at h9
        exact h9
      refine RulesL.cons (fun vs => { tmps := #[.slice ap ds.length cp, .string (bs la), .string (bs lb), undef, undef, undef, u9 6, .pointer (some ⟨g6, 0, none⟩), u9 8, u9 9, u9 10, u9 11, .slice (some ⟨g17, 0, none⟩) ((partsL (lvD 50 ds k)).length) g17c, .pointer (some ⟨g50, 0, none⟩), .int .i64 0, .slice (some ⟨g57, 0, none⟩) ((partsL (lvD 50 ds k ++ [leafS la, leafS lb])).length) g57c, undef, undef, undef, undef, .agg ([.int .i64 0, .slice none 0 0]).toArray, u9 21, u9 22, u9 23, u9 24, u9 25, u9 26, u9 27, u9 28, u9 29, u9 30, u9 31, u9 32, u9 33, u9 34, u9 35, u9 36, u9 37, u9 38, u9 39, u9 40, u9 41, u9 42, u9 43, u9 44, u9 45, .slice (some ⟨g14, 0, none⟩) 0 0, .pointer (some ⟨g6, 1, none⟩), .slice ar ((partsL (lvD 50 ds k)).length) cr, .slice (some ⟨g17, 0, none⟩) ((partsL (lvD 50 ds k)).length) g17c, .tuple #[.agg ([.int .i64 ((k + 2 : Nat) : Int), .slice (some ⟨g49, 0, none⟩) ((partsL (lvD 50 ds k ++ [leafS la, leafS lb])).length) g49c] : List Value).toArray, .int .i64 0], .agg ([.int .i64 ((k : Nat) : Int), .slice ar ((partsL (lvD 50 ds k)).length) cr]).toArray, .string (bs la), .string (bs (leafS la)), .string (bs lb), .string (bs (leafS lb)), .slice (some ⟨g48, 0, none⟩) 2 2, .tuple #[.agg ([.int .i64 ((k + 2 : Nat) : Int), .slice (some ⟨g49, 0, none⟩) ((partsL (lvD 50 ds k ++ [leafS la, leafS lb])).length) g49c] : List Value).toArray, .int .i64 0], .agg ([.int .i64 ((k + 2 : Nat) : Int), .slice (some ⟨g49, 0, none⟩) ((partsL (lvD 50 ds k ++ [leafS la, leafS lb])).length) g49c] : List Value).toArray, .int .i64 0, .slice (some ⟨g54, 0, none⟩) 0 0, .pointer (some ⟨g50, 1, none⟩), .slice (some ⟨g49, 0, none⟩) ((partsL (lvD 50 ds k ++ [leafS la, leafS lb])).length) g49c, .slice (some ⟨g57, 0, none⟩) ((partsL (lvD 50 ds k ++ [leafS la, leafS lb])).length) g57c, undef, vs 0, undef, undef, vs 3, undef, undef, undef, undef, undef, undef, undef, undef, undef, undef, undef, undef, undef, undef, undef, undef, undef, undef, undef, undef, undef, undef, undef, undef, undef, undef, undef, undef, undef, undef, undef, undef, undef, undef, undef, undef, undef, undef, undef, undef, undef, undef, undef, undef, undef, undef, undef, undef], defers := [] }) (by kernel_rfl) ?_ ?_
      · skip
        intro vs gs W69 SW69 D K9 hK9
        replace M := M.sees SW69
        replace R0_0 := (M.oldG R0_0 L0 NI0)
        replace L0 := M.oldL L0
        have Rg57_0 := M.r 0 0 rfl rfl
        have Lg57 := M.lt 0 rfl
        have Rg48_0 := M.r 1 0 rfl rfl
        have Lg48 := M.lt 1 rfl
        have Rg49_0 := M.r 2 0 rfl rfl
        have Lg49 := M.lt 2 rfl
        have Rg50_0 := M.r 3 0 rfl rfl
        have Lg50 := M.lt 3 rfl
        have Rg17_0 := M.r 4 0 rfl rfl
        have Lg17 := M.lt 4 rfl
        have Rg6_0 := M.r 5 0 rfl rfl
        have Lg6 := M.lt 5 rfl
        replace Hp := M.oldN Hp
        replace Hr := M.oldN Hr
        replace M := Mem.start W69
        obtain ⟨D0, D3, _⟩ := D
        have e0 : vs 0 = .agg ([.int .i64 ((k : Nat) : Int), .slice ar ((partsL (lvD 50 ds k)).length) cr]).toArray := D0
        obtain ⟨e3, Og70⟩ := D3
        generalize gs 3 = g70 at *
        replace e3 : vs 3 = .slice (some ⟨g70, 0, none⟩) 1 1 := e3
        have Rg70_0 := Og70.range (0, [.string (bs (leafS lb))]) (by simp only [List.mem_cons, true_or, or_true])
        have Lg70 := Og70.lt
        dsimp only at hK9
        dsimp only
        rw [e0, e3] at hK9 ⊢
        refine wpL_callE (f := 55) (args := #[.agg ([.int .i64 ((k : Nat) : Int), .slice ar ((partsL (lvD 50 ds k)).length) cr]).toArray, .slice (some ⟨g70, 0, none⟩) 1 1]) (R := fun v9 W9 => ∃ g72 g72c, v9 = .tuple #[.agg ([.int .i64 ((k + 1 : Nat) : Int), .slice (some ⟨g72, 0, none⟩) ((partsL (lvD 50 ds k ++ [leafS lb])).length) g72c] : List Value).toArray, .int .i64 0] ∧ (partsL (lvD 50 ds k ++ [leafS lb])).length ≤ g72c ∧ Mem [] W69 W9 [⟨g72, g72c, [(0, scells (partsL (lvD 50 ds k ++ [leafS lb])))]⟩]) (by rfl) (by rfl) rfl Tryd.func55 (by kernel_rfl) (by kernel_rfl) (by have h9 := Add_parts (L := lvD 50 ds k) (ls := [leafS lb]) (m := k) (w := W69) (lvD_len hkl) (by simp; omega) (lvD_32 _ _ _) leaf32 (by simp) (M.oldL L0) (M.oldR R0_0 L0) (M.oldA Hr) (RowA.of (M.oldR Rg70_0 Lg70) (M.oldL Lg70) rfl (Nat.le_refl _)); rw [show lvD 50 ds k ++ [leafS lb] = lvD 50 ds k ++ [leafS lb] from rfl] at h9; exact h9) (fun v9 w71 hv9 Sw71 => ?_)
        obtain ⟨g72, g72c, rfl, Cg72, M9⟩ := hv9
        replace M := M.call1 M9
        clear Sw71
        simp only [putT, List.set]
        refine wpL_nil (then_normal ?_)
        have h8 := hK9 (.tuple #[.agg ([.int .i64 ((k + 1 : Nat) : Int), .slice (some ⟨g72, 0, none⟩) ((partsL (lvD 50 ds k ++ [leafS lb])).length) g72c] : List Value).toArray, .int .i64 0])
        have h9 := h8 g72 _ M.seesAll ⟨g72c, rfl, Cg72, (M.ok _ (.head _)).up SW69⟩ (fun _ => (M.ok _ (.head _)).ge)
        simp only [putT, List.set] at h9
        exact h9
      refine RulesL.cons (fun vs => { tmps := #[.slice ap ds.length cp, .string (bs la), .string (bs lb), undef, undef, undef, u9 6, .pointer (some ⟨g6, 0, none⟩), u9 8, u9 9, u9 10, u9 11, .slice (some ⟨g17, 0, none⟩) ((partsL (lvD 50 ds k)).length) g17c, .pointer (some ⟨g50, 0, none⟩), .int .i64 0, .slice (some ⟨g57, 0, none⟩) ((partsL (lvD 50 ds k ++ [leafS la, leafS lb])).length) g57c, undef, undef, undef, undef, .agg ([.int .i64 0, .slice none 0 0]).toArray, u9 21, u9 22, u9 23, u9 24, u9 25, u9 26, u9 27, u9 28, u9 29, u9 30, u9 31, u9 32, u9 33, u9 34, u9 35, u9 36, u9 37, u9 38, u9 39, u9 40, u9 41, u9 42, u9 43, u9 44, u9 45, .slice (some ⟨g14, 0, none⟩) 0 0, .pointer (some ⟨g6, 1, none⟩), .slice ar ((partsL (lvD 50 ds k)).length) cr, .slice (some ⟨g17, 0, none⟩) ((partsL (lvD 50 ds k)).length) g17c, .tuple #[.agg ([.int .i64 ((k + 2 : Nat) : Int), .slice (some ⟨g49, 0, none⟩) ((partsL (lvD 50 ds k ++ [leafS la, leafS lb])).length) g49c] : List Value).toArray, .int .i64 0], .agg ([.int .i64 ((k : Nat) : Int), .slice ar ((partsL (lvD 50 ds k)).length) cr]).toArray, .string (bs la), .string (bs (leafS la)), .string (bs lb), .string (bs (leafS lb)), .slice (some ⟨g48, 0, none⟩) 2 2, .tuple #[.agg ([.int .i64 ((k + 2 : Nat) : Int), .slice (some ⟨g49, 0, none⟩) ((partsL (lvD 50 ds k ++ [leafS la, leafS lb])).length) g49c] : List Value).toArray, .int .i64 0], .agg ([.int .i64 ((k + 2 : Nat) : Int), .slice (some ⟨g49, 0, none⟩) ((partsL (lvD 50 ds k ++ [leafS la, leafS lb])).length) g49c] : List Value).toArray, .int .i64 0, .slice (some ⟨g54, 0, none⟩) 0 0, .pointer (some ⟨g50, 1, none⟩), .slice (some ⟨g49, 0, none⟩) ((partsL (lvD 50 ds k ++ [leafS la, leafS lb])).length) g49c, .slice (some ⟨g57, 0, none⟩) ((partsL (lvD 50 ds k ++ [leafS la, leafS lb])).length) g57c, undef, undef, undef, undef, undef, vs 4, undef, undef, undef, undef, undef, undef, undef, undef, undef, undef, undef, undef, undef, undef, undef, undef, undef, undef, undef, undef, undef, undef, undef, undef, undef, undef, undef, undef, undef, undef, undef, undef, undef, undef, undef, undef, undef, undef, undef, undef, undef, undef, undef, undef, undef, undef, undef], defers := [] }) (by kernel_rfl) ?_ ?_
      · skip
        intro vs gs W73 SW73 D K9 hK9
        replace M := M.sees SW73
        replace R0_0 := (M.oldG R0_0 L0 NI0)
        replace L0 := M.oldL L0
        have Rg57_0 := M.r 0 0 rfl rfl
        have Lg57 := M.lt 0 rfl
        have Rg48_0 := M.r 1 0 rfl rfl
        have Lg48 := M.lt 1 rfl
        have Rg49_0 := M.r 2 0 rfl rfl
        have Lg49 := M.lt 2 rfl
        have Rg50_0 := M.r 3 0 rfl rfl
        have Lg50 := M.lt 3 rfl
        have Rg17_0 := M.r 4 0 rfl rfl
        have Lg17 := M.lt 4 rfl
        have Rg6_0 := M.r 5 0 rfl rfl
        have Lg6 := M.lt 5 rfl
        replace Hp := M.oldN Hp
        replace Hr := M.oldN Hr
        replace M := Mem.start W73
        obtain ⟨D4, _⟩ := D
        obtain ⟨g74c, e4, Cg74, Og74⟩ := D4
        generalize gs 4 = g74 at *
        replace e4 : vs 4 = .tuple #[.agg ([.int .i64 ((k + 1 : Nat) : Int), .slice (some ⟨g74, 0, none⟩) ((partsL (lvD 50 ds k ++ [leafS lb])).length) g74c] : List Value).toArray, .int .i64 0] := e4
        have Rg74_0 := Og74.range (0, scells (partsL (lvD 50 ds k ++ [leafS lb]))) (by simp only [List.mem_cons, true_or, or_true])
        have Lg74 := Og74.lt
        dsimp only at hK9
        dsimp only
        rw [e4] at hK9 ⊢
        refine wpL_move (v := .tuple #[.agg ([.int .i64 ((k + 1 : Nat) : Int), .slice (some ⟨g74, 0, none⟩) ((partsL (lvD 50 ds k ++ [leafS lb])).length) g74c] : List Value).toArray, .int .i64 0]) (by rfl) (by rfl) (by rfl) ?_
        simp only [putT, List.set]
        refine wpL_nil (then_normal ?_)
        have h8 := hK9 (.tuple #[.agg ([.int .i64 ((k + 1 : Nat) : Int), .slice (some ⟨g74, 0, none⟩) ((partsL (lvD 50 ds k ++ [leafS lb])).length) g74c] : List Value).toArray, .int .i64 0])
        have h9 := h8 g74 _ (sees_refl _) ⟨(congrArg (fun x => x) e4).symm, g74c, rfl, Cg74, Og74⟩ (fun h => absurd h (by decide))
        simp only [putT, List.set] at h9
        exact h9
      refine RulesL.cons (fun vs => { tmps := #[.slice ap ds.length cp, .string (bs la), .string (bs lb), undef, undef, undef, u9 6, .pointer (some ⟨g6, 0, none⟩), u9 8, u9 9, u9 10, u9 11, .slice (some ⟨g17, 0, none⟩) ((partsL (lvD 50 ds k)).length) g17c, .pointer (some ⟨g50, 0, none⟩), .int .i64 0, .slice (some ⟨g57, 0, none⟩) ((partsL (lvD 50 ds k ++ [leafS la, leafS lb])).length) g57c, undef, undef, undef, undef, .agg ([.int .i64 0, .slice none 0 0]).toArray, u9 21, u9 22, u9 23, u9 24, u9 25, u9 26, u9 27, u9 28, u9 29, u9 30, u9 31, u9 32, u9 33, u9 34, u9 35, u9 36, u9 37, u9 38, u9 39, u9 40, u9 41, u9 42, u9 43, u9 44, u9 45, .slice (some ⟨g14, 0, none⟩) 0 0, .pointer (some ⟨g6, 1, none⟩), .slice ar ((partsL (lvD 50 ds k)).length) cr, .slice (some ⟨g17, 0, none⟩) ((partsL (lvD 50 ds k)).length) g17c, .tuple #[.agg ([.int .i64 ((k + 2 : Nat) : Int), .slice (some ⟨g49, 0, none⟩) ((partsL (lvD 50 ds k ++ [leafS la, leafS lb])).length) g49c] : List Value).toArray, .int .i64 0], .agg ([.int .i64 ((k : Nat) : Int), .slice ar ((partsL (lvD 50 ds k)).length) cr]).toArray, .string (bs la), .string (bs (leafS la)), .string (bs lb), .string (bs (leafS lb)), .slice (some ⟨g48, 0, none⟩) 2 2, .tuple #[.agg ([.int .i64 ((k + 2 : Nat) : Int), .slice (some ⟨g49, 0, none⟩) ((partsL (lvD 50 ds k ++ [leafS la, leafS lb])).length) g49c] : List Value).toArray, .int .i64 0], .agg ([.int .i64 ((k + 2 : Nat) : Int), .slice (some ⟨g49, 0, none⟩) ((partsL (lvD 50 ds k ++ [leafS la, leafS lb])).length) g49c] : List Value).toArray, .int .i64 0, .slice (some ⟨g54, 0, none⟩) 0 0, .pointer (some ⟨g50, 1, none⟩), .slice (some ⟨g49, 0, none⟩) ((partsL (lvD 50 ds k ++ [leafS la, leafS lb])).length) g49c, .slice (some ⟨g57, 0, none⟩) ((partsL (lvD 50 ds k ++ [leafS la, leafS lb])).length) g57c, vs 5, undef, undef, undef, undef, undef, undef, undef, undef, undef, undef, undef, undef, undef, undef, undef, undef, undef, undef, undef, undef, undef, undef, undef, undef, undef, undef, undef, undef, undef, undef, undef, undef, undef, undef, undef, undef, undef, undef, undef, undef, undef, undef, undef, undef, undef, undef, undef, undef, undef, undef, undef, undef], defers := [] }) (by kernel_rfl) ?_ ?_
      · skip
        intro vs gs W75 SW75 D K9 hK9
        replace M := M.sees SW75
        replace R0_0 := (M.oldG R0_0 L0 NI0)
        replace L0 := M.oldL L0
        have Rg57_0 := M.r 0 0 rfl rfl
        have Lg57 := M.lt 0 rfl
        have Rg48_0 := M.r 1 0 rfl rfl
        have Lg48 := M.lt 1 rfl
        have Rg49_0 := M.r 2 0 rfl rfl
        have Lg49 := M.lt 2 rfl
        have Rg50_0 := M.r 3 0 rfl rfl
        have Lg50 := M.lt 3 rfl
        have Rg17_0 := M.r 4 0 rfl rfl
        have Lg17 := M.lt 4 rfl
        have Rg6_0 := M.r 5 0 rfl rfl
        have Lg6 := M.lt 5 rfl
        replace Hp := M.oldN Hp
        replace Hr := M.oldN Hr
        replace M := Mem.start W75
        obtain ⟨D5, _⟩ := D
        obtain ⟨_, g76c, e5, Cg76, Og76⟩ := D5
        generalize gs 5 = g76 at *
        replace e5 : vs 5 = .tuple #[.agg ([.int .i64 ((k + 1 : Nat) : Int), .slice (some ⟨g76, 0, none⟩) ((partsL (lvD 50 ds k ++ [leafS lb])).length) g76c] : List Value).toArray, .int .i64 0] := e5
        have Rg76_0 := Og76.range (0, scells (partsL (lvD 50 ds k ++ [leafS lb]))) (by simp only [List.mem_cons, true_or, or_true])
        have Lg76 := Og76.lt
        dsimp only at hK9
        dsimp only
        rw [e5] at hK9 ⊢
        refine wpL_chunk 1 (by rfl) (fun Lk hLk => ?_)
        simp only [List.take, List.drop]
        refine wpV_extract (v := .agg ([.int .i64 ((k + 1 : Nat) : Int), .slice (some ⟨g76, 0, none⟩) ((partsL (lvD 50 ds k ++ [leafS lb])).length) g76c] : List Value).toArray) (by rfl) rfl rfl rfl ?_
        simp only [putT, List.set]
        refine wpV_nil (hLk _ (fun w77 Sw77 => ?_))
        clear hLk Lk
        simp only [List.take, List.drop]
        replace M := M.sees Sw77
        refine wpL_nil (then_normal ?_)
        have h8 := hK9 (.agg ([.int .i64 ((k + 1 : Nat) : Int), .slice (some ⟨g76, 0, none⟩) ((partsL (lvD 50 ds k ++ [leafS lb])).length) g76c] : List Value).toArray)
        have h9 := h8 g76 _ M.seesAll ⟨(congrArg (partF 0) e5).symm, g76c, rfl, Cg76, (Og76.mono M.seesAll)⟩ (fun h => absurd h (by decide))
        simp only [putT, List.set] at h9
        exact h9
      refine RulesL.cons (fun vs => { tmps := #[.slice ap ds.length cp, .string (bs la), .string (bs lb), undef, undef, undef, u9 6, .pointer (some ⟨g6, 0, none⟩), u9 8, u9 9, u9 10, u9 11, .slice (some ⟨g17, 0, none⟩) ((partsL (lvD 50 ds k)).length) g17c, .pointer (some ⟨g50, 0, none⟩), .int .i64 0, .slice (some ⟨g57, 0, none⟩) ((partsL (lvD 50 ds k ++ [leafS la, leafS lb])).length) g57c, undef, undef, undef, undef, .agg ([.int .i64 0, .slice none 0 0]).toArray, u9 21, u9 22, u9 23, u9 24, u9 25, u9 26, u9 27, u9 28, u9 29, u9 30, u9 31, u9 32, u9 33, u9 34, u9 35, u9 36, u9 37, u9 38, u9 39, u9 40, u9 41, u9 42, u9 43, u9 44, u9 45, .slice (some ⟨g14, 0, none⟩) 0 0, .pointer (some ⟨g6, 1, none⟩), .slice ar ((partsL (lvD 50 ds k)).length) cr, .slice (some ⟨g17, 0, none⟩) ((partsL (lvD 50 ds k)).length) g17c, .tuple #[.agg ([.int .i64 ((k + 2 : Nat) : Int), .slice (some ⟨g49, 0, none⟩) ((partsL (lvD 50 ds k ++ [leafS la, leafS lb])).length) g49c] : List Value).toArray, .int .i64 0], .agg ([.int .i64 ((k : Nat) : Int), .slice ar ((partsL (lvD 50 ds k)).length) cr]).toArray, .string (bs la), .string (bs (leafS la)), .string (bs lb), .string (bs (leafS lb)), .slice (some ⟨g48, 0, none⟩) 2 2, .tuple #[.agg ([.int .i64 ((k + 2 : Nat) : Int), .slice (some ⟨g49, 0, none⟩) ((partsL (lvD 50 ds k ++ [leafS la, leafS lb])).length) g49c] : List Value).toArray, .int .i64 0], .agg ([.int .i64 ((k + 2 : Nat) : Int), .slice (some ⟨g49, 0, none⟩) ((partsL (lvD 50 ds k ++ [leafS la, leafS lb])).length) g49c] : List Value).toArray, .int .i64 0, .slice (some ⟨g54, 0, none⟩) 0 0, .pointer (some ⟨g50, 1, none⟩), .slice (some ⟨g49, 0, none⟩) ((partsL (lvD 50 ds k ++ [leafS la, leafS lb])).length) g49c, .slice (some ⟨g57, 0, none⟩) ((partsL (lvD 50 ds k ++ [leafS la, leafS lb])).length) g57c, vs 5, undef, undef, undef, undef, undef, undef, undef, undef, undef, undef, undef, undef, undef, undef, undef, undef, undef, undef, undef, undef, undef, undef, undef, undef, undef, undef, undef, undef, undef, undef, undef, undef, undef, undef, undef, undef, undef, undef, undef, undef, undef, undef, undef, undef, undef, undef, undef, undef, undef, undef, undef, undef], defers := [] }) (by kernel_rfl) ?_ ?_
      · skip
        intro vs gs W78 SW78 D K9 hK9
        replace M := M.sees SW78
        replace R0_0 := (M.oldG R0_0 L0 NI0)
        replace L0 := M.oldL L0
        have Rg57_0 := M.r 0 0 rfl rfl
        have Lg57 := M.lt 0 rfl
        have Rg48_0 := M.r 1 0 rfl rfl
        have Lg48 := M.lt 1 rfl
        have Rg49_0 := M.r 2 0 rfl rfl
        have Lg49 := M.lt 2 rfl
        have Rg50_0 := M.r 3 0 rfl rfl
        have Lg50 := M.lt 3 rfl
        have Rg17_0 := M.r 4 0 rfl rfl
        have Lg17 := M.lt 4 rfl
        have Rg6_0 := M.r 5 0 rfl rfl
        have Lg6 := M.lt 5 rfl
        replace Hp := M.oldN Hp
        replace Hr := M.oldN Hr
        replace M := Mem.start W78
        obtain ⟨D5, _⟩ := D
        obtain ⟨_, g79c, e5, Cg79, Og79⟩ := D5
        generalize gs 5 = g79 at *
        replace e5 : vs 5 = .tuple #[.agg ([.int .i64 ((k + 1 : Nat) : Int), .slice (some ⟨g79, 0, none⟩) ((partsL (lvD 50 ds k ++ [leafS lb])).length) g79c] : List Value).toArray, .int .i64 0] := e5
        have Rg79_0 := Og79.range (0, scells (partsL (lvD 50 ds k ++ [leafS lb]))) (by simp only [List.mem_cons, true_or, or_true])
        have Lg79 := Og79.lt
        dsimp only at hK9
        dsimp only
        rw [e5] at hK9 ⊢
        refine wpL_chunk 1 (by rfl) (fun Lk hLk => ?_)
        simp only [List.take, List.drop]
        refine wpV_extract (v := .int .i64 0) (by rfl) rfl rfl rfl ?_
        simp only [putT, List.set]
        refine wpV_nil (hLk _ (fun w80 Sw80 => ?_))
        clear hLk Lk
        simp only [List.take, List.drop]
        replace M := M.sees Sw80
        refine wpL_nil (then_normal ?_)
        have h8 := hK9 (.int .i64 0)
        have h9 := h8 0 _ M.seesAll rfl (fun h => absurd h (by decide))
        simp only [putT, List.set] at h9
        exact h9
      refine RulesL.cons (fun vs => { tmps := #[.slice ap ds.length cp, .string (bs la), .string (bs lb), undef, undef, undef, u9 6, .pointer (some ⟨g6, 0, none⟩), u9 8, u9 9, u9 10, u9 11, .slice (some ⟨g17, 0, none⟩) ((partsL (lvD 50 ds k)).length) g17c, .pointer (some ⟨g50, 0, none⟩), .int .i64 0, .slice (some ⟨g57, 0, none⟩) ((partsL (lvD 50 ds k ++ [leafS la, leafS lb])).length) g57c, undef, undef, undef, undef, .agg ([.int .i64 0, .slice none 0 0]).toArray, u9 21, u9 22, u9 23, u9 24, u9 25, u9 26, u9 27, u9 28, u9 29, u9 30, u9 31, u9 32, u9 33, u9 34, u9 35, u9 36, u9 37, u9 38, u9 39, u9 40, u9 41, u9 42, u9 43, u9 44, u9 45, .slice (some ⟨g14, 0, none⟩) 0 0, .pointer (some ⟨g6, 1, none⟩), .slice ar ((partsL (lvD 50 ds k)).length) cr, .slice (some ⟨g17, 0, none⟩) ((partsL (lvD 50 ds k)).length) g17c, .tuple #[.agg ([.int .i64 ((k + 2 : Nat) : Int), .slice (some ⟨g49, 0, none⟩) ((partsL (lvD 50 ds k ++ [leafS la, leafS lb])).length) g49c] : List Value).toArray, .int .i64 0], .agg ([.int .i64 ((k : Nat) : Int), .slice ar ((partsL (lvD 50 ds k)).length) cr]).toArray, .string (bs la), .string (bs (leafS la)), .string (bs lb), .string (bs (leafS lb)), .slice (some ⟨g48, 0, none⟩) 2 2, .tuple #[.agg ([.int .i64 ((k + 2 : Nat) : Int), .slice (some ⟨g49, 0, none⟩) ((partsL (lvD 50 ds k ++ [leafS la, leafS lb])).length) g49c] : List Value).toArray, .int .i64 0], .agg ([.int .i64 ((k + 2 : Nat) : Int), .slice (some ⟨g49, 0, none⟩) ((partsL (lvD 50 ds k ++ [leafS la, leafS lb])).length) g49c] : List Value).toArray, .int .i64 0, .slice (some ⟨g54, 0, none⟩) 0 0, .pointer (some ⟨g50, 1, none⟩), .slice (some ⟨g49, 0, none⟩) ((partsL (lvD 50 ds k ++ [leafS la, leafS lb])).length) g49c, .slice (some ⟨g57, 0, none⟩) ((partsL (lvD 50 ds k ++ [leafS la, leafS lb])).length) g57c, undef, undef, undef, undef, undef, undef, undef, undef, undef, undef, undef, undef, undef, undef, undef, undef, undef, undef, undef, undef, undef, undef, undef, undef, undef, undef, undef, undef, undef, undef, undef, undef, undef, undef, undef, undef, undef, undef, undef, undef, undef, undef, undef, undef, undef, undef, undef, undef, undef, undef, undef, undef, undef], defers := [] }) (by kernel_rfl) ?_ ?_
      · skip
        intro vs gs W81 SW81 D K9 hK9
        replace M := M.sees SW81
        replace R0_0 := (M.oldG R0_0 L0 NI0)
        replace L0 := M.oldL L0
        have Rg57_0 := M.r 0 0 rfl rfl
        have Lg57 := M.lt 0 rfl
        have Rg48_0 := M.r 1 0 rfl rfl
        have Lg48 := M.lt 1 rfl
        have Rg49_0 := M.r 2 0 rfl rfl
        have Lg49 := M.lt 2 rfl
        have Rg50_0 := M.r 3 0 rfl rfl
        have Lg50 := M.lt 3 rfl
        have Rg17_0 := M.r 4 0 rfl rfl
        have Lg17 := M.lt 4 rfl
        have Rg6_0 := M.r 5 0 rfl rfl
        have Lg6 := M.lt 5 rfl
        replace Hp := M.oldN Hp
        replace Hr := M.oldN Hr
        replace M := Mem.start W81
        dsimp only at hK9
        dsimp only
        refine wpL_var (t := 66) (cs := [.int .i64 0, .slice none 0 0]) (by rfl) (fun W => ?_) (fun g82 w83 Sw83 Hg82 Bg82 => ?_)
        · go_simp
        replace M := ((M.sees Sw83).add (N := 2) (cs := [.int .i64 0, .slice none 0 0]) (M.ge Hg82) (M.fresh Hg82) Bg82 rfl)
        clear Bg82
        simp only [putT, List.set]
        refine wpL_nil (then_normal ?_)
        have h8 := hK9 (.pointer (some ⟨g82, 0, none⟩))
        have h9 := h8 g82 _ M.seesAll ⟨rfl, (M.ok _ (.head _)).up SW81⟩ (fun _ => (M.ok _ (.head _)).ge)
        simp only [putT, List.set] at h9
        exact h9
      exact RulesL.nil
    intro vs gs W84 SW84 D A9
    obtain ⟨D0, D1, D2, D3, D4, D5, D6, D7, D8, _⟩ := (show DepRel _ vs gs W84 [0, 1, 2, 3, 4, 5, 6, 7, 8] from D)
    have n3_4 : gs 3 ≠ gs 4 := A9 3 4 (by decide) (by decide) (by decide) (by decide) (by decide)
    have n3_8 : gs 3 ≠ gs 8 := A9 3 8 (by decide) (by decide) (by decide) (by decide) (by decide)
    have n4_8 : gs 4 ≠ gs 8 := A9 4 8 (by decide) (by decide) (by decide) (by decide) (by decide)
    clear A9 D
    have e0 : vs 0 = .agg ([.int .i64 ((k : Nat) : Int), .slice ar ((partsL (lvD 50 ds k)).length) cr]).toArray := D0
    have e1 : vs 1 = .string (bs lb) := D1
    have e2 : vs 2 = .string (bs (leafS lb)) := D2
    obtain ⟨e3, Og85⟩ := D3
    generalize gs 3 = g85 at *
    replace e3 : vs 3 = .slice (some ⟨g85, 0, none⟩) 1 1 := e3
    obtain ⟨g86c, e4, Cg86, Og86⟩ := D4
    generalize gs 4 = g86 at *
    replace e4 : vs 4 = .tuple #[.agg ([.int .i64 ((k + 1 : Nat) : Int), .slice (some ⟨g86, 0, none⟩) ((partsL (lvD 50 ds k ++ [leafS lb])).length) g86c] : List Value).toArray, .int .i64 0] := e4
    have e5 : vs 5 = .tuple #[.agg ([.int .i64 ((k + 1 : Nat) : Int), .slice (some ⟨g86, 0, none⟩) ((partsL (lvD 50 ds k ++ [leafS lb])).length) g86c] : List Value).toArray, .int .i64 0] := D5.1.trans (congrArg (fun x => x) e4)
    have e6 : vs 6 = .agg ([.int .i64 ((k + 1 : Nat) : Int), .slice (some ⟨g86, 0, none⟩) ((partsL (lvD 50 ds k ++ [leafS lb])).length) g86c] : List Value).toArray := D6.1.trans (congrArg (partF 0) e5)
    have e7 : vs 7 = .int .i64 0 := D7
    obtain ⟨e8, Og87⟩ := D8
    generalize gs 8 = g87 at *
    replace e8 : vs 8 = .pointer (some ⟨g87, 0, none⟩) := e8
    replace M := M.addOks SW84 [⟨g85, 1, [(0, [.string (bs (leafS lb))])]⟩, ⟨g86, g86c, [(0, scells (partsL (lvD 50 ds k ++ [leafS lb])))]⟩, ⟨g87, 2, [(0, [.int .i64 0, .slice none 0 0])]⟩] (List.forall_mem_cons.2 ⟨Og85, (List.forall_mem_cons.2 ⟨Og86, (List.forall_mem_cons.2 ⟨Og87, (fun _ h => nomatch h)⟩)⟩)⟩) (.cons (List.forall_mem_cons.2 ⟨n3_4, (List.forall_mem_cons.2 ⟨n3_8, (fun _ h => nomatch h)⟩)⟩) (.cons (List.forall_mem_cons.2 ⟨n4_8, (fun _ h => nomatch h)⟩) (.cons (fun _ h => nomatch h) .nil)))
    simp only [List.cons_append, List.nil_append] at M
    dsimp only
    simp only [e0, e1, e2, e3, e4, e5, e6, e7, e8, List.drop]
    refine wpL_store (g := g87) (off := 0) (n := 2) (cs := [.int .i64 ((k + 1 : Nat) : Int), .slice (some ⟨g86, 0, none⟩) ((partsL (lvD 50 ds k ++ [leafS lb])).length) g86c]) (by rfl) (by rfl) (by rfl) (by rfl) (by rfl) (M.t 2 rfl) (by simp [flen]) info66 (by simp [fone, Value.oneCell']) (fun w88 P R T => ?_)
    replace M := M.putS 2 0 rfl P R T rfl ⟨.inl rfl, trivial⟩
    simp only [List.set] at M
    refine wpL_assign (v := .int .i64 0) (by rfl) (by rfl) (by rfl) ?_
    simp only [putT, List.set]
    refine wpL_nil (no_panic ?_)
    refine hK59 _ _ ?_
    refine wp_seq_k (fun K89 hK89 => ?_)
    refine wp_region_addsF 9 [7] [3, 4, 8] [ValRel (.agg ([.int .i64 ((k + 1 : Nat) : Int), .slice (some ⟨g86, 0, none⟩) ((partsL (lvD 50 ds k ++ [leafS lb])).length) g86c] : List Value).toArray), ValRel (.string (bs la)), ValRel (.string (bs (leafS la))), BoxRel w88 (fun gA => .slice (some ⟨gA, 0, none⟩) 1 1) 1 [(0, [.string (bs (leafS la))])], NewRel w88 (fun gA gAc => .tuple #[.agg ([.int .i64 ((k + 1 + 1 : Nat) : Int), .slice (some ⟨gA, 0, none⟩) ((partsL (lvD 50 ds k ++ [leafS lb] ++ [leafS la])).length) gAc] : List Value).toArray, .int .i64 0]) ((partsL (lvD 50 ds k ++ [leafS lb] ++ [leafS la])).length) [(0, scells (partsL (lvD 50 ds k ++ [leafS lb] ++ [leafS la])))], LinkRel 4 (fun x => x) (NewRel w88 (fun gA gAc => .tuple #[.agg ([.int .i64 ((k + 1 + 1 : Nat) : Int), .slice (some ⟨gA, 0, none⟩) ((partsL (lvD 50 ds k ++ [leafS lb] ++ [leafS la])).length) gAc] : List Value).toArray, .int .i64 0]) ((partsL (lvD 50 ds k ++ [leafS lb] ++ [leafS la])).length) [(0, scells (partsL (lvD 50 ds k ++ [leafS lb] ++ [leafS la])))]), LinkRel 5 (partF 0) (NewRel w88 (fun gA gAc => .agg ([.int .i64 ((k + 1 + 1 : Nat) : Int), .slice (some ⟨gA, 0, none⟩) ((partsL (lvD 50 ds k ++ [leafS lb] ++ [leafS la])).length) gAc] : List Value).toArray) ((partsL (lvD 50 ds k ++ [leafS lb] ++ [leafS la])).length) [(0, scells (partsL (lvD 50 ds k ++ [leafS lb] ++ [leafS la])))]), ValRel (.int .i64 0), BoxRel w88 (fun gA => .pointer (some ⟨gA, 0, none⟩)) 2 [(0, [.int .i64 0, .slice none 0 0])]] [[], [], [1], [2], [0, 3], [4], [5], [5], []] (fun vs => { tmps := #[.slice ap ds.length cp, .string (bs la), .string (bs lb), undef, undef, undef, u9 6, .pointer (some ⟨g6, 0, none⟩), u9 8, u9 9, u9 10, u9 11, .slice (some ⟨g17, 0, none⟩) ((partsL (lvD 50 ds k)).length) g17c, .pointer (some ⟨g50, 0, none⟩), .int .i64 0, .slice (some ⟨g57, 0, none⟩) ((partsL (lvD 50 ds k ++ [leafS la, leafS lb])).length) g57c, .pointer (some ⟨g87, 0, none⟩), .int .i64 0, vs 8, undef, .agg ([.int .i64 0, .slice none 0 0]).toArray, u9 21, u9 22, u9 23, u9 24, u9 25, u9 26, u9 27, u9 28, u9 29, u9 30, u9 31, u9 32, u9 33, u9 34, u9 35, u9 36, u9 37, u9 38, u9 39, u9 40, u9 41, u9 42, u9 43, u9 44, u9 45, .slice (some ⟨g14, 0, none⟩) 0 0, .pointer (some ⟨g6, 1, none⟩), .slice ar ((partsL (lvD 50 ds k)).length) cr, .slice (some ⟨g17, 0, none⟩) ((partsL (lvD 50 ds k)).length) g17c, .tuple #[.agg ([.int .i64 ((k + 2 : Nat) : Int), .slice (some ⟨g49, 0, none⟩) ((partsL (lvD 50 ds k ++ [leafS la, leafS lb])).length) g49c] : List Value).toArray, .int .i64 0], .agg ([.int .i64 ((k : Nat) : Int), .slice ar ((partsL (lvD 50 ds k)).length) cr]).toArray, .string (bs la), .string (bs (leafS la)), .string (bs lb), .string (bs (leafS lb)), .slice (some ⟨g48, 0, none⟩) 2 2, .tuple #[.agg ([.int .i64 ((k + 2 : Nat) : Int), .slice (some ⟨g49, 0, none⟩) ((partsL (lvD 50 ds k ++ [leafS la, leafS lb])).length) g49c] : List Value).toArray, .int .i64 0], .agg ([.int .i64 ((k + 2 : Nat) : Int), .slice (some ⟨g49, 0, none⟩) ((partsL (lvD 50 ds k ++ [leafS la, leafS lb])).length) g49c] : List Value).toArray, .int .i64 0, .slice (some ⟨g54, 0, none⟩) 0 0, .pointer (some ⟨g50, 1, none⟩), .slice (some ⟨g49, 0, none⟩) ((partsL (lvD 50 ds k ++ [leafS la, leafS lb])).length) g49c, .slice (some ⟨g57, 0, none⟩) ((partsL (lvD 50 ds k ++ [leafS la, leafS lb])).length) g57c, .tuple #[.agg ([.int .i64 ((k + 1 : Nat) : Int), .slice (some ⟨g86, 0, none⟩) ((partsL (lvD 50 ds k ++ [leafS lb])).length) g86c] : List Value).toArray, .int .i64 0], .agg ([.int .i64 ((k : Nat) : Int), .slice ar ((partsL (lvD 50 ds k)).length) cr]).toArray, .string (bs lb), .string (bs (leafS lb)), .slice (some ⟨g85, 0, none⟩) 1 1, .tuple #[.agg ([.int .i64 ((k + 1 : Nat) : Int), .slice (some ⟨g86, 0, none⟩) ((partsL (lvD 50 ds k ++ [leafS lb])).length) g86c] : List Value).toArray, .int .i64 0], .agg ([.int .i64 ((k + 1 : Nat) : Int), .slice (some ⟨g86, 0, none⟩) ((partsL (lvD 50 ds k ++ [leafS lb])).length) g86c] : List Value).toArray, .int .i64 0, vs 5, vs 0, vs 1, vs 2, vs 3, vs 4, vs 6, vs 7, undef, undef, undef, undef, undef, undef, undef, undef, undef, undef, undef, undef, undef, undef, undef, undef, undef, undef, undef, undef, undef, undef, undef, undef, undef, undef, undef, undef, undef, undef, undef, undef, undef, undef, undef, undef, undef], defers := [] }) (by kernel_rfl) (by kernel_rfl) (by kernel_rfl) (by kernel_rfl) (.cons keep_val (.cons keep_val (.cons keep_val (.cons keep_box (.cons keep_new (.cons (keep_link keep_new) (.cons (keep_link keep_new) (.cons keep_val (.cons keep_box AllKeep.nil))))))))) (.free free_val (.free free_val (.free free_val (.free free_box (.free free_new (.link free_new (by decide) (.link free_new (by decide) (.free free_val (.free free_box AllLoc.nil))))))))) (.cons own_box (.cons own_new (.cons own_box AllOwn.nil))) (by kernel_rfl) ?_ ?_
    · skip
      simp only [List.take]
      refine RulesL.cons (fun vs => { tmps := #[.slice ap ds.length cp, .string (bs la), .string (bs lb), undef, undef, undef, u9 6, .pointer (some ⟨g6, 0, none⟩), u9 8, u9 9, u9 10, u9 11, .slice (some ⟨g17, 0, none⟩) ((partsL (lvD 50 ds k)).length) g17c, .pointer (some ⟨g50, 0, none⟩), .int .i64 0, .slice (some ⟨g57, 0, none⟩) ((partsL (lvD 50 ds k ++ [leafS la, leafS lb])).length) g57c, .pointer (some ⟨g87, 0, none⟩), .int .i64 0, undef, undef, .agg ([.int .i64 0, .slice none 0 0]).toArray, u9 21, u9 22, u9 23, u9 24, u9 25, u9 26, u9 27, u9 28, u9 29, u9 30, u9 31, u9 32, u9 33, u9 34, u9 35, u9 36, u9 37, u9 38, u9 39, u9 40, u9 41, u9 42, u9 43, u9 44, u9 45, .slice (some ⟨g14, 0, none⟩) 0 0, .pointer (some ⟨g6, 1, none⟩), .slice ar ((partsL (lvD 50 ds k)).length) cr, .slice (some ⟨g17, 0, none⟩) ((partsL (lvD 50 ds k)).length) g17c, .tuple #[.agg ([.int .i64 ((k + 2 : Nat) : Int), .slice (some ⟨g49, 0, none⟩) ((partsL (lvD 50 ds k ++ [leafS la, leafS lb])).length) g49c] : List Value).toArray, .int .i64 0], .agg ([.int .i64 ((k : Nat) : Int), .slice ar ((partsL (lvD 50 ds k)).length) cr]).toArray, .string (bs la), .string (bs (leafS la)), .string (bs lb), .string (bs (leafS lb)), .slice (some ⟨g48, 0, none⟩) 2 2, .tuple #[.agg ([.int .i64 ((k + 2 : Nat) : Int), .slice (some ⟨g49, 0, none⟩) ((partsL (lvD 50 ds k ++ [leafS la, leafS lb])).length) g49c] : List Value).toArray, .int .i64 0], .agg ([.int .i64 ((k + 2 : Nat) : Int), .slice (some ⟨g49, 0, none⟩) ((partsL (lvD 50 ds k ++ [leafS la, leafS lb])).length) g49c] : List Value).toArray, .int .i64 0, .slice (some ⟨g54, 0, none⟩) 0 0, .pointer (some ⟨g50, 1, none⟩), .slice (some ⟨g49, 0, none⟩) ((partsL (lvD 50 ds k ++ [leafS la, leafS lb])).length) g49c, .slice (some ⟨g57, 0, none⟩) ((partsL (lvD 50 ds k ++ [leafS la, leafS lb])).length) g57c, .tuple #[.agg ([.int .i64 ((k + 1 : Nat) : Int), .slice (some ⟨g86, 0, none⟩) ((partsL (lvD 50 ds k ++ [leafS lb])).length) g86c] : List Value).toArray, .int .i64 0], .agg ([.int .i64 ((k : Nat) : Int), .slice ar ((partsL (lvD 50 ds k)).length) cr]).toArray, .string (bs lb), .string (bs (leafS lb)), .slice (some ⟨g85, 0, none⟩) 1 1, .tuple #[.agg ([.int .i64 ((k + 1 : Nat) : Int), .slice (some ⟨g86, 0, none⟩) ((partsL (lvD 50 ds k ++ [leafS lb])).length) g86c] : List Value).toArray, .int .i64 0], .agg ([.int .i64 ((k + 1 : Nat) : Int), .slice (some ⟨g86, 0, none⟩) ((partsL (lvD 50 ds k ++ [leafS lb])).length) g86c] : List Value).toArray, .int .i64 0, undef, undef, undef, undef, undef, undef, undef, undef, undef, undef, undef, undef, undef, undef, undef, undef, undef, undef, undef, undef, undef, undef, undef, undef, undef, undef, undef, undef, undef, undef, undef, undef, undef, undef, undef, undef, undef, undef, undef, undef, undef, undef, undef, undef, undef], defers := [] }) (by kernel_rfl) ?_ ?_
      · skip
        intro vs gs W91 SW91 D K9 hK9
        replace M := M.sees SW91
        dsimp only at hK9
        dsimp only
        refine wpL_chunk 1 (by rfl) (fun Lk hLk => ?_)
        simp only [List.take, List.drop]
        refine wpV_load (cs := [.int .i64 ((k + 1 : Nat) : Int), .slice (some ⟨g86, 0, none⟩) ((partsL (lvD 50 ds k ++ [leafS lb])).length) g86c]) (by rfl) rfl rfl (M.r 2 0 rfl rfl) (M.lt 2 rfl) Tryd.underlying66 rfl info66 ?_
        simp only [putT, List.set]
        refine wpV_nil (hLk _ (fun w92 Sw92 => ?_))
        clear hLk Lk
        simp only [List.take, List.drop]
        replace M := M.sees Sw92
        refine wpL_nil (then_normal ?_)
        have h8 := hK9 (.agg ([.int .i64 ((k + 1 : Nat) : Int), .slice (some ⟨g86, 0, none⟩) ((partsL (lvD 50 ds k ++ [leafS lb])).length) g86c] : List Value).toArray)
        have h9 := h8 0 _ Sw92 rfl (fun h => absurd h (by decide))
        simp only [putT, List.set] at h9
        exact h9
      refine RulesL.cons (fun vs => { tmps := #[.slice ap ds.length cp, .string (bs la), .string (bs lb), undef, undef, undef, u9 6, .pointer (some ⟨g6, 0, none⟩), u9 8, u9 9, u9 10, u9 11, .slice (some ⟨g17, 0, none⟩) ((partsL (lvD 50 ds k)).length) g17c, .pointer (some ⟨g50, 0, none⟩), .int .i64 0, .slice (some ⟨g57, 0, none⟩) ((partsL (lvD 50 ds k ++ [leafS la, leafS lb])).length) g57c, .pointer (some ⟨g87, 0, none⟩), .int .i64 0, undef, undef, .agg ([.int .i64 0, .slice none 0 0]).toArray, u9 21, u9 22, u9 23, u9 24, u9 25, u9 26, u9 27, u9 28, u9 29, u9 30, u9 31, u9 32, u9 33, u9 34, u9 35, u9 36, u9 37, u9 38, u9 39, u9 40, u9 41, u9 42, u9 43, u9 44, u9 45, .slice (some ⟨g14, 0, none⟩) 0 0, .pointer (some ⟨g6, 1, none⟩), .slice ar ((partsL (lvD 50 ds k)).length) cr, .slice (some ⟨g17, 0, none⟩) ((partsL (lvD 50 ds k)).length) g17c, .tuple #[.agg ([.int .i64 ((k + 2 : Nat) : Int), .slice (some ⟨g49, 0, none⟩) ((partsL (lvD 50 ds k ++ [leafS la, leafS lb])).length) g49c] : List Value).toArray, .int .i64 0], .agg ([.int .i64 ((k : Nat) : Int), .slice ar ((partsL (lvD 50 ds k)).length) cr]).toArray, .string (bs la), .string (bs (leafS la)), .string (bs lb), .string (bs (leafS lb)), .slice (some ⟨g48, 0, none⟩) 2 2, .tuple #[.agg ([.int .i64 ((k + 2 : Nat) : Int), .slice (some ⟨g49, 0, none⟩) ((partsL (lvD 50 ds k ++ [leafS la, leafS lb])).length) g49c] : List Value).toArray, .int .i64 0], .agg ([.int .i64 ((k + 2 : Nat) : Int), .slice (some ⟨g49, 0, none⟩) ((partsL (lvD 50 ds k ++ [leafS la, leafS lb])).length) g49c] : List Value).toArray, .int .i64 0, .slice (some ⟨g54, 0, none⟩) 0 0, .pointer (some ⟨g50, 1, none⟩), .slice (some ⟨g49, 0, none⟩) ((partsL (lvD 50 ds k ++ [leafS la, leafS lb])).length) g49c, .slice (some ⟨g57, 0, none⟩) ((partsL (lvD 50 ds k ++ [leafS la, leafS lb])).length) g57c, .tuple #[.agg ([.int .i64 ((k + 1 : Nat) : Int), .slice (some ⟨g86, 0, none⟩) ((partsL (lvD 50 ds k ++ [leafS lb])).length) g86c] : List Value).toArray, .int .i64 0], .agg ([.int .i64 ((k : Nat) : Int), .slice ar ((partsL (lvD 50 ds k)).length) cr]).toArray, .string (bs lb), .string (bs (leafS lb)), .slice (some ⟨g85, 0, none⟩) 1 1, .tuple #[.agg ([.int .i64 ((k + 1 : Nat) : Int), .slice (some ⟨g86, 0, none⟩) ((partsL (lvD 50 ds k ++ [leafS lb])).length) g86c] : List Value).toArray, .int .i64 0], .agg ([.int .i64 ((k + 1 : Nat) : Int), .slice (some ⟨g86, 0, none⟩) ((partsL (lvD 50 ds k ++ [leafS lb])).length) g86c] : List Value).toArray, .int .i64 0, undef, undef, undef, undef, undef, undef, undef, undef, undef, undef, undef, undef, undef, undef, undef, undef, undef, undef, undef, undef, undef, undef, undef, undef, undef, undef, undef, undef, undef, undef, undef, undef, undef, undef, undef, undef, undef, undef, undef, undef, undef, undef, undef, undef, undef], defers := [] }) (by kernel_rfl) ?_ ?_
      · skip
        intro vs gs W93 SW93 D K9 hK9
        replace M := M.sees SW93
        dsimp only at hK9
        dsimp only
        refine wpL_move (v := .string (bs la)) (by rfl) (by rfl) (by rfl) ?_
        simp only [putT, List.set]
        refine wpL_nil (then_normal ?_)
        have h8 := hK9 (.string (bs la))
        have h9 := h8 0 _ (sees_refl _) rfl (fun h => absurd h (by decide))
        simp only [putT, List.set] at h9
        exact h9
      refine RulesL.cons (fun vs => { tmps := #[.slice ap ds.length cp, .string (bs la), .string (bs lb), undef, undef, undef, u9 6, .pointer (some ⟨g6, 0, none⟩), u9 8, u9 9, u9 10, u9 11, .slice (some ⟨g17, 0, none⟩) ((partsL (lvD 50 ds k)).length) g17c, .pointer (some ⟨g50, 0, none⟩), .int .i64 0, .slice (some ⟨g57, 0, none⟩) ((partsL (lvD 50 ds k ++ [leafS la, leafS lb])).length) g57c, .pointer (some ⟨g87, 0, none⟩), .int .i64 0, undef, undef, .agg ([.int .i64 0, .slice none 0 0]).toArray, u9 21, u9 22, u9 23, u9 24, u9 25, u9 26, u9 27, u9 28, u9 29, u9 30, u9 31, u9 32, u9 33, u9 34, u9 35, u9 36, u9 37, u9 38, u9 39, u9 40, u9 41, u9 42, u9 43, u9 44, u9 45, .slice (some ⟨g14, 0, none⟩) 0 0, .pointer (some ⟨g6, 1, none⟩), .slice ar ((partsL (lvD 50 ds k)).length) cr, .slice (some ⟨g17, 0, none⟩) ((partsL (lvD 50 ds k)).length) g17c, .tuple #[.agg ([.int .i64 ((k + 2 : Nat) : Int), .slice (some ⟨g49, 0, none⟩) ((partsL (lvD 50 ds k ++ [leafS la, leafS lb])).length) g49c] : List Value).toArray, .int .i64 0], .agg ([.int .i64 ((k : Nat) : Int), .slice ar ((partsL (lvD 50 ds k)).length) cr]).toArray, .string (bs la), .string (bs (leafS la)), .string (bs lb), .string (bs (leafS lb)), .slice (some ⟨g48, 0, none⟩) 2 2, .tuple #[.agg ([.int .i64 ((k + 2 : Nat) : Int), .slice (some ⟨g49, 0, none⟩) ((partsL (lvD 50 ds k ++ [leafS la, leafS lb])).length) g49c] : List Value).toArray, .int .i64 0], .agg ([.int .i64 ((k + 2 : Nat) : Int), .slice (some ⟨g49, 0, none⟩) ((partsL (lvD 50 ds k ++ [leafS la, leafS lb])).length) g49c] : List Value).toArray, .int .i64 0, .slice (some ⟨g54, 0, none⟩) 0 0, .pointer (some ⟨g50, 1, none⟩), .slice (some ⟨g49, 0, none⟩) ((partsL (lvD 50 ds k ++ [leafS la, leafS lb])).length) g49c, .slice (some ⟨g57, 0, none⟩) ((partsL (lvD 50 ds k ++ [leafS la, leafS lb])).length) g57c, .tuple #[.agg ([.int .i64 ((k + 1 : Nat) : Int), .slice (some ⟨g86, 0, none⟩) ((partsL (lvD 50 ds k ++ [leafS lb])).length) g86c] : List Value).toArray, .int .i64 0], .agg ([.int .i64 ((k : Nat) : Int), .slice ar ((partsL (lvD 50 ds k)).length) cr]).toArray, .string (bs lb), .string (bs (leafS lb)), .slice (some ⟨g85, 0, none⟩) 1 1, .tuple #[.agg ([.int .i64 ((k + 1 : Nat) : Int), .slice (some ⟨g86, 0, none⟩) ((partsL (lvD 50 ds k ++ [leafS lb])).length) g86c] : List Value).toArray, .int .i64 0], .agg ([.int .i64 ((k + 1 : Nat) : Int), .slice (some ⟨g86, 0, none⟩) ((partsL (lvD 50 ds k ++ [leafS lb])).length) g86c] : List Value).toArray, .int .i64 0, undef, undef, vs 1, undef, undef, undef, undef, undef, undef, undef, undef, undef, undef, undef, undef, undef, undef, undef, undef, undef, undef, undef, undef, undef, undef, undef, undef, undef, undef, undef, undef, undef, undef, undef, undef, undef, undef, undef, undef, undef, undef, undef, undef, undef, undef], defers := [] }) (by kernel_rfl) ?_ ?_
      · skip
        intro vs gs W94 SW94 D K9 hK9
        replace M := M.sees SW94
        obtain ⟨D1, _⟩ := D
        have e1 : vs 1 = .string (bs la) := D1
        dsimp only at hK9
        dsimp only
        rw [e1] at hK9 ⊢
        refine wpL_chunk 1 (by rfl) (fun Lk hLk => ?_)
        simp only [List.take, List.drop]
        refine wpV_callf (v := .string (bs (leafS la))) (args := #[.string (bs la)]) (by rfl) rfl Tryd.func38 (by kernel_rfl) (by kernel_rfl) rfl (fun W hW => leaf_c (d := la) (by omega) ((M.sees hW).oldL L0) ((M.sees hW).oldG R0_0 L0 NI0)) ?_
        simp only [putT, List.set]
        refine wpV_nil (hLk _ (fun w95 Sw95 => ?_))
        clear hLk Lk
        simp only [List.take, List.drop]
        replace M := M.sees Sw95
        refine wpL_nil (then_normal ?_)
        have h8 := hK9 (.string (bs (leafS la)))
        have h9 := h8 0 _ Sw95 rfl (fun h => absurd h (by decide))
        simp only [putT, List.set] at h9
        exact h9
      refine RulesL.cons (fun vs => { tmps := #[.slice ap ds.length cp, .string (bs la), .string (bs lb), undef, undef, undef, u9 6, .pointer (some ⟨g6, 0, none⟩), u9 8, u9 9, u9 10, u9 11, .slice (some ⟨g17, 0, none⟩) ((partsL (lvD 50 ds k)).length) g17c, .pointer (some ⟨g50, 0, none⟩), .int .i64 0, .slice (some ⟨g57, 0, none⟩) ((partsL (lvD 50 ds k ++ [leafS la, leafS lb])).length) g57c, .pointer (some ⟨g87, 0, none⟩), .int .i64 0, undef, undef, .agg ([.int .i64 0, .slice none 0 0]).toArray, u9 21, u9 22, u9 23, u9 24, u9 25, u9 26, u9 27, u9 28, u9 29, u9 30, u9 31, u9 32, u9 33, u9 34, u9 35, u9 36, u9 37, u9 38, u9 39, u9 40, u9 41, u9 42, u9 43, u9 44, u9 45, .slice (some ⟨g14, 0, none⟩) 0 0, .pointer (some ⟨g6, 1, none⟩), .slice ar ((partsL (lvD 50 ds k)).length) cr, .slice (some ⟨g17, 0, none⟩) ((partsL (lvD 50 ds k)).length) g17c, .tuple #[.agg ([.int .i64 ((k + 2 : Nat) : Int), .slice (some ⟨g49, 0, none⟩) ((partsL (lvD 50 ds k ++ [leafS la, leafS lb])).length) g49c] : List Value).toArray, .int .i64 0], .agg ([.int .i64 ((k : Nat) : Int), .slice ar ((partsL (lvD 50 ds k)).length) cr]).toArray, .string (bs la), .string (bs (leafS la)), .string (bs lb), .string (bs (leafS lb)), .slice (some ⟨g48, 0, none⟩) 2 2, .tuple #[.agg ([.int .i64 ((k + 2 : Nat) : Int), .slice (some ⟨g49, 0, none⟩) ((partsL (lvD 50 ds k ++ [leafS la, leafS lb])).length) g49c] : List Value).toArray, .int .i64 0], .agg ([.int .i64 ((k + 2 : Nat) : Int), .slice (some ⟨g49, 0, none⟩) ((partsL (lvD 50 ds k ++ [leafS la, leafS lb])).length) g49c] : List Value).toArray, .int .i64 0, .slice (some ⟨g54, 0, none⟩) 0 0, .pointer (some ⟨g50, 1, none⟩), .slice (some ⟨g49, 0, none⟩) ((partsL (lvD 50 ds k ++ [leafS la, leafS lb])).length) g49c, .slice (some ⟨g57, 0, none⟩) ((partsL (lvD 50 ds k ++ [leafS la, leafS lb])).length) g57c, .tuple #[.agg ([.int .i64 ((k + 1 : Nat) : Int), .slice (some ⟨g86, 0, none⟩) ((partsL (lvD 50 ds k ++ [leafS lb])).length) g86c] : List Value).toArray, .int .i64 0], .agg ([.int .i64 ((k : Nat) : Int), .slice ar ((partsL (lvD 50 ds k)).length) cr]).toArray, .string (bs lb), .string (bs (leafS lb)), .slice (some ⟨g85, 0, none⟩) 1 1, .tuple #[.agg ([.int .i64 ((k + 1 : Nat) : Int), .slice (some ⟨g86, 0, none⟩) ((partsL (lvD 50 ds k ++ [leafS lb])).length) g86c] : List Value).toArray, .int .i64 0], .agg ([.int .i64 ((k + 1 : Nat) : Int), .slice (some ⟨g86, 0, none⟩) ((partsL (lvD 50 ds k ++ [leafS lb])).length) g86c] : List Value).toArray, .int .i64 0, undef, undef, undef, vs 2, undef, undef, undef, undef, undef, undef, undef, undef, undef, undef, undef, undef, undef, undef, undef, undef, undef, undef, undef, undef, undef, undef, undef, undef, undef, undef, undef, undef, undef, undef, undef, undef, undef, undef, undef, undef, undef, undef, undef, undef, undef], defers := [] }) (by kernel_rfl) ?_ ?_
      · skip
        intro vs gs W96 SW96 D K9 hK9
        replace M := M.sees SW96
        replace R0_0 := (M.oldG R0_0 L0 NI0)
        replace L0 := M.oldL L0
        have Rg85_0 := M.r 0 0 rfl rfl
        have Lg85 := M.lt 0 rfl
        have Rg86_0 := M.r 1 0 rfl rfl
        have Lg86 := M.lt 1 rfl
        have Rg87_0 := M.r 2 0 rfl rfl
        have Lg87 := M.lt 2 rfl
        have Rg57_0 := M.r 3 0 rfl rfl
        have Lg57 := M.lt 3 rfl
        have Rg48_0 := M.r 4 0 rfl rfl
        have Lg48 := M.lt 4 rfl
        have Rg49_0 := M.r 5 0 rfl rfl
        have Lg49 := M.lt 5 rfl
        have Rg50_0 := M.r 6 0 rfl rfl
        have Lg50 := M.lt 6 rfl
        have Rg17_0 := M.r 7 0 rfl rfl
        have Lg17 := M.lt 7 rfl
        have Rg6_0 := M.r 8 0 rfl rfl
        have Lg6 := M.lt 8 rfl
        replace Hp := M.oldN Hp
        replace Hr := M.oldN Hr
        replace M := Mem.start W96
        obtain ⟨D2, _⟩ := D
        have e2 : vs 2 = .string (bs (leafS la)) := D2
        dsimp only at hK9
        dsimp only
        rw [e2] at hK9 ⊢
        refine wpL_rowN (vs := [.string (bs (leafS la))]) (z := .string { data := #[] }) (bytes := 16) (by rfl) (by rfl) Tryd.underlying48 (by kernel_rfl) (by decide) (by kernel_rfl) (fun g97 w98 Sw98 Hg97 Bg97 => ?_)
        replace M := ((M.sees Sw98).add (N := 1) (cs := [.string (bs (leafS la))]) (M.ge Hg97) (M.fresh Hg97) Bg97 rfl)
        clear Bg97
        simp only [putT, List.set]
        refine wpL_nil (then_normal ?_)
        have h8 := hK9 (.slice (some ⟨g97, 0, none⟩) 1 1)
        have h9 := h8 g97 _ M.seesAll ⟨rfl, (M.ok _ (.head _)).up SW96⟩ (fun _ => (M.ok _ (.head _)).ge)
        simp only [putT, List.set] at h9
        exact h9
      refine RulesL.cons (fun vs => { tmps := #[.slice ap ds.length cp, .string (bs la), .string (bs lb), undef, undef, undef, u9 6, .pointer (some ⟨g6, 0, none⟩), u9 8, u9 9, u9 10, u9 11, .slice (some ⟨g17, 0, none⟩) ((partsL (lvD 50 ds k)).length) g17c, .pointer (some ⟨g50, 0, none⟩), .int .i64 0, .slice (some ⟨g57, 0, none⟩) ((partsL (lvD 50 ds k ++ [leafS la, leafS lb])).length) g57c, .pointer (some ⟨g87, 0, none⟩), .int .i64 0, undef, undef, .agg ([.int .i64 0, .slice none 0 0]).toArray, u9 21, u9 22, u9 23, u9 24, u9 25, u9 26, u9 27, u9 28, u9 29, u9 30, u9 31, u9 32, u9 33, u9 34, u9 35, u9 36, u9 37, u9 38, u9 39, u9 40, u9 41, u9 42, u9 43, u9 44, u9 45, .slice (some ⟨g14, 0, none⟩) 0 0, .pointer (some ⟨g6, 1, none⟩), .slice ar ((partsL (lvD 50 ds k)).length) cr, .slice (some ⟨g17, 0, none⟩) ((partsL (lvD 50 ds k)).length) g17c, .tuple #[.agg ([.int .i64 ((k + 2 : Nat) : Int), .slice (some ⟨g49, 0, none⟩) ((partsL (lvD 50 ds k ++ [leafS la, leafS lb])).length) g49c] : List Value).toArray, .int .i64 0], .agg ([.int .i64 ((k : Nat) : Int), .slice ar ((partsL (lvD 50 ds k)).length) cr]).toArray, .string (bs la), .string (bs (leafS la)), .string (bs lb), .string (bs (leafS lb)), .slice (some ⟨g48, 0, none⟩) 2 2, .tuple #[.agg ([.int .i64 ((k + 2 : Nat) : Int), .slice (some ⟨g49, 0, none⟩) ((partsL (lvD 50 ds k ++ [leafS la, leafS lb])).length) g49c] : List Value).toArray, .int .i64 0], .agg ([.int .i64 ((k + 2 : Nat) : Int), .slice (some ⟨g49, 0, none⟩) ((partsL (lvD 50 ds k ++ [leafS la, leafS lb])).length) g49c] : List Value).toArray, .int .i64 0, .slice (some ⟨g54, 0, none⟩) 0 0, .pointer (some ⟨g50, 1, none⟩), .slice (some ⟨g49, 0, none⟩) ((partsL (lvD 50 ds k ++ [leafS la, leafS lb])).length) g49c, .slice (some ⟨g57, 0, none⟩) ((partsL (lvD 50 ds k ++ [leafS la, leafS lb])).length) g57c, .tuple #[.agg ([.int .i64 ((k + 1 : Nat) : Int), .slice (some ⟨g86, 0, none⟩) ((partsL (lvD 50 ds k ++ [leafS lb])).length) g86c] : List Value).toArray, .int .i64 0], .agg ([.int .i64 ((k : Nat) : Int), .slice ar ((partsL (lvD 50 ds k)).length) cr]).toArray, .string (bs lb), .string (bs (leafS lb)), .slice (some ⟨g85, 0, none⟩) 1 1, .tuple #[.agg ([.int .i64 ((k + 1 : Nat) : Int), .slice (some ⟨g86, 0, none⟩) ((partsL (lvD 50 ds k ++ [leafS lb])).length) g86c] : List Value).toArray, .int .i64 0], .agg ([.int .i64 ((k + 1 : Nat) : Int), .slice (some ⟨g86, 0, none⟩) ((partsL (lvD 50 ds k ++ [leafS lb])).length) g86c] : List Value).toArray, .int .i64 0, undef, vs 0, undef, undef, vs 3, undef, undef, undef, undef, undef, undef, undef, undef, undef, undef, undef, undef, undef, undef, undef, undef, undef, undef, undef, undef, undef, undef, undef, undef, undef, undef, undef, undef, undef, undef, undef, undef, undef, undef, undef, undef, undef, undef, undef, undef], defers := [] }) (by kernel_rfl) ?_ ?_
      · skip
        intro vs gs W99 SW99 D K9 hK9
        replace M := M.sees SW99
        replace R0_0 := (M.oldG R0_0 L0 NI0)
        replace L0 := M.oldL L0
        have Rg85_0 := M.r 0 0 rfl rfl
        have Lg85 := M.lt 0 rfl
        have Rg86_0 := M.r 1 0 rfl rfl
        have Lg86 := M.lt 1 rfl
        have Rg87_0 := M.r 2 0 rfl rfl
        have Lg87 := M.lt 2 rfl
        have Rg57_0 := M.r 3 0 rfl rfl
        have Lg57 := M.lt 3 rfl
        have Rg48_0 := M.r 4 0 rfl rfl
        have Lg48 := M.lt 4 rfl
        have Rg49_0 := M.r 5 0 rfl rfl
        have Lg49 := M.lt 5 rfl
        have Rg50_0 := M.r 6 0 rfl rfl
        have Lg50 := M.lt 6 rfl
        have Rg17_0 := M.r 7 0 rfl rfl
        have Lg17 := M.lt 7 rfl
        have Rg6_0 := M.r 8 0 rfl rfl
        have Lg6 := M.lt 8 rfl
        replace Hp := M.oldN Hp
        replace Hr := M.oldN Hr
        replace M := Mem.start W99
        obtain ⟨D0, D3, _⟩ := D
        have e0 : vs 0 = .agg ([.int .i64 ((k + 1 : Nat) : Int), .slice (some ⟨g86, 0, none⟩) ((partsL (lvD 50 ds k ++ [leafS lb])).length) g86c] : List Value).toArray := D0
        obtain ⟨e3, Og100⟩ := D3
        generalize gs 3 = g100 at *
        replace e3 : vs 3 = .slice (some ⟨g100, 0, none⟩) 1 1 := e3
        have Rg100_0 := Og100.range (0, [.string (bs (leafS la))]) (by simp only [List.mem_cons, true_or, or_true])
        have Lg100 := Og100.lt
        dsimp only at hK9
        dsimp only
        rw [e0, e3] at hK9 ⊢
        refine wpL_callE (f := 55) (args := #[.agg ([.int .i64 ((k + 1 : Nat) : Int), .slice (some ⟨g86, 0, none⟩) ((partsL (lvD 50 ds k ++ [leafS lb])).length) g86c] : List Value).toArray, .slice (some ⟨g100, 0, none⟩) 1 1]) (R := fun v9 W9 => ∃ g102 g102c, v9 = .tuple #[.agg ([.int .i64 ((k + 1 + 1 : Nat) : Int), .slice (some ⟨g102, 0, none⟩) ((partsL (lvD 50 ds k ++ [leafS lb] ++ [leafS la])).length) g102c] : List Value).toArray, .int .i64 0] ∧ (partsL (lvD 50 ds k ++ [leafS lb] ++ [leafS la])).length ≤ g102c ∧ Mem [] W99 W9 [⟨g102, g102c, [(0, scells (partsL (lvD 50 ds k ++ [leafS lb] ++ [leafS la])))]⟩]) (by rfl) (by rfl) rfl Tryd.func55 (by kernel_rfl) (by kernel_rfl) (by have h9 := Add_parts (L := lvD 50 ds k ++ [leafS lb]) (ls := [leafS la]) (m := k + 1) (w := W99) (by rw [List.length_append, lvD_len hkl]; rfl) (by simp; omega) (app_32 (lvD_32 _ _ _) leaf32) leaf32 (by simp) (M.oldL L0) (M.oldR R0_0 L0) (RowA.of (M.oldR Rg86_0 Lg86) (M.oldL Lg86) (scells_len _).symm Cg86) (RowA.of (M.oldR Rg100_0 Lg100) (M.oldL Lg100) rfl (Nat.le_refl _)); rw [show lvD 50 ds k ++ [leafS lb] ++ [leafS la] = lvD 50 ds k ++ [leafS lb] ++ [leafS la] from rfl] at h9; exact h9) (fun v9 w101 hv9 Sw101 => ?_)
        obtain ⟨g102, g102c, rfl, Cg102, M9⟩ := hv9
        replace M := M.call1 M9
        clear Sw101
        simp only [putT, List.set]
        refine wpL_nil (then_normal ?_)
        have h8 := hK9 (.tuple #[.agg ([.int .i64 ((k + 1 + 1 : Nat) : Int), .slice (some ⟨g102, 0, none⟩) ((partsL (lvD 50 ds k ++ [leafS lb] ++ [leafS la])).length) g102c] : List Value).toArray, .int .i64 0])
        have h9 := h8 g102 _ M.seesAll ⟨g102c, rfl, Cg102, (M.ok _ (.head _)).up SW99⟩ (fun _ => (M.ok _ (.head _)).ge)
        simp only [putT, List.set] at h9
        exact h9
      refine RulesL.cons (fun vs => { tmps := #[.slice ap ds.length cp, .string (bs la), .string (bs lb), undef, undef, undef, u9 6, .pointer (some ⟨g6, 0, none⟩), u9 8, u9 9, u9 10, u9 11, .slice (some ⟨g17, 0, none⟩) ((partsL (lvD 50 ds k)).length) g17c, .pointer (some ⟨g50, 0, none⟩), .int .i64 0, .slice (some ⟨g57, 0, none⟩) ((partsL (lvD 50 ds k ++ [leafS la, leafS lb])).length) g57c, .pointer (some ⟨g87, 0, none⟩), .int .i64 0, undef, undef, .agg ([.int .i64 0, .slice none 0 0]).toArray, u9 21, u9 22, u9 23, u9 24, u9 25, u9 26, u9 27, u9 28, u9 29, u9 30, u9 31, u9 32, u9 33, u9 34, u9 35, u9 36, u9 37, u9 38, u9 39, u9 40, u9 41, u9 42, u9 43, u9 44, u9 45, .slice (some ⟨g14, 0, none⟩) 0 0, .pointer (some ⟨g6, 1, none⟩), .slice ar ((partsL (lvD 50 ds k)).length) cr, .slice (some ⟨g17, 0, none⟩) ((partsL (lvD 50 ds k)).length) g17c, .tuple #[.agg ([.int .i64 ((k + 2 : Nat) : Int), .slice (some ⟨g49, 0, none⟩) ((partsL (lvD 50 ds k ++ [leafS la, leafS lb])).length) g49c] : List Value).toArray, .int .i64 0], .agg ([.int .i64 ((k : Nat) : Int), .slice ar ((partsL (lvD 50 ds k)).length) cr]).toArray, .string (bs la), .string (bs (leafS la)), .string (bs lb), .string (bs (leafS lb)), .slice (some ⟨g48, 0, none⟩) 2 2, .tuple #[.agg ([.int .i64 ((k + 2 : Nat) : Int), .slice (some ⟨g49, 0, none⟩) ((partsL (lvD 50 ds k ++ [leafS la, leafS lb])).length) g49c] : List Value).toArray, .int .i64 0], .agg ([.int .i64 ((k + 2 : Nat) : Int), .slice (some ⟨g49, 0, none⟩) ((partsL (lvD 50 ds k ++ [leafS la, leafS lb])).length) g49c] : List Value).toArray, .int .i64 0, .slice (some ⟨g54, 0, none⟩) 0 0, .pointer (some ⟨g50, 1, none⟩), .slice (some ⟨g49, 0, none⟩) ((partsL (lvD 50 ds k ++ [leafS la, leafS lb])).length) g49c, .slice (some ⟨g57, 0, none⟩) ((partsL (lvD 50 ds k ++ [leafS la, leafS lb])).length) g57c, .tuple #[.agg ([.int .i64 ((k + 1 : Nat) : Int), .slice (some ⟨g86, 0, none⟩) ((partsL (lvD 50 ds k ++ [leafS lb])).length) g86c] : List Value).toArray, .int .i64 0], .agg ([.int .i64 ((k : Nat) : Int), .slice ar ((partsL (lvD 50 ds k)).length) cr]).toArray, .string (bs lb), .string (bs (leafS lb)), .slice (some ⟨g85, 0, none⟩) 1 1, .tuple #[.agg ([.int .i64 ((k + 1 : Nat) : Int), .slice (some ⟨g86, 0, none⟩) ((partsL (lvD 50 ds k ++ [leafS lb])).length) g86c] : List Value).toArray, .int .i64 0], .agg ([.int .i64 ((k + 1 : Nat) : Int), .slice (some ⟨g86, 0, none⟩) ((partsL (lvD 50 ds k ++ [leafS lb])).length) g86c] : List Value).toArray, .int .i64 0, undef, undef, undef, undef, undef, vs 4, undef, undef, undef, undef, undef, undef, undef, undef, undef, undef, undef, undef, undef, undef, undef, undef, undef, undef, undef, undef, undef, undef, undef, undef, undef, undef, undef, undef, undef, undef, undef, undef, undef, undef, undef, undef, undef, undef, undef], defers := [] }) (by kernel_rfl) ?_ ?_
      · skip
        intro vs gs W103 SW103 D K9 hK9
        replace M := M.sees SW103
        replace R0_0 := (M.oldG R0_0 L0 NI0)
        replace L0 := M.oldL L0
        have Rg85_0 := M.r 0 0 rfl rfl
        have Lg85 := M.lt 0 rfl
        have Rg86_0 := M.r 1 0 rfl rfl
        have Lg86 := M.lt 1 rfl
        have Rg87_0 := M.r 2 0 rfl rfl
        have Lg87 := M.lt 2 rfl
        have Rg57_0 := M.r 3 0 rfl rfl
        have Lg57 := M.lt 3 rfl
        have Rg48_0 := M.r 4 0 rfl rfl
        have Lg48 := M.lt 4 rfl
        have Rg49_0 := M.r 5 0 rfl rfl
        have Lg49 := M.lt 5 rfl
        have Rg50_0 := M.r 6 0 rfl rfl
        have Lg50 := M.lt 6 rfl
        have Rg17_0 := M.r 7 0 rfl rfl
        have Lg17 := M.lt 7 rfl
        have Rg6_0 := M.r 8 0 rfl rfl
        have Lg6 := M.lt 8 rfl
        replace Hp := M.oldN Hp
        replace Hr := M.oldN Hr
        replace M := Mem.start W103
        obtain ⟨D4, _⟩ := D
        obtain ⟨g104c, e4, Cg104, Og104⟩ := D4
        generalize gs 4 = g104 at *
        replace e4 : vs 4 = .tuple #[.agg ([.int .i64 ((k + 1 + 1 : Nat) : Int), .slice (some ⟨g104, 0, none⟩) ((partsL (lvD 50 ds k ++ [leafS lb] ++ [leafS la])).length) g104c] : List Value).toArray, .int .i64 0] := e4
        have Rg104_0 := Og104.range (0, scells (partsL (lvD 50 ds k ++ [leafS lb] ++ [leafS la]))) (by simp only [List.mem_cons, true_or, or_true])
        have Lg104 := Og104.lt
        dsimp only at hK9
        dsimp only
        rw [e4] at hK9 ⊢
        refine wpL_move (v := .tuple #[.agg ([.int .i64 ((k + 1 + 1 : Nat) : Int), .slice (some ⟨g104, 0, none⟩) ((partsL (lvD 50 ds k ++ [leafS lb] ++ [leafS la])).length) g104c] : List Value).toArray, .int .i64 0]) (by rfl) (by rfl) (by rfl) ?_
        simp only [putT, List.set]
        refine wpL_nil (then_normal ?_)
        have h8 := hK9 (.tuple #[.agg ([.int .i64 ((k + 1 + 1 : Nat) : Int), .slice (some ⟨g104, 0, none⟩) ((partsL (lvD 50 ds k ++ [leafS lb] ++ [leafS la])).length) g104c] : List Value).toArray, .int .i64 0])
        have h9 := h8 g104 _ (sees_refl _) ⟨(congrArg (fun x => x) e4).symm, g104c, rfl, Cg104, Og104⟩ (fun h => absurd h (by decide))
        simp only [putT, List.set] at h9
        exact h9
      refine RulesL.cons (fun vs => { tmps := #[.slice ap ds.length cp, .string (bs la), .string (bs lb), undef, undef, undef, u9 6, .pointer (some ⟨g6, 0, none⟩), u9 8, u9 9, u9 10, u9 11, .slice (some ⟨g17, 0, none⟩) ((partsL (lvD 50 ds k)).length) g17c, .pointer (some ⟨g50, 0, none⟩), .int .i64 0, .slice (some ⟨g57, 0, none⟩) ((partsL (lvD 50 ds k ++ [leafS la, leafS lb])).length) g57c, .pointer (some ⟨g87, 0, none⟩), .int .i64 0, undef, undef, .agg ([.int .i64 0, .slice none 0 0]).toArray, u9 21, u9 22, u9 23, u9 24, u9 25, u9 26, u9 27, u9 28, u9 29, u9 30, u9 31, u9 32, u9 33, u9 34, u9 35, u9 36, u9 37, u9 38, u9 39, u9 40, u9 41, u9 42, u9 43, u9 44, u9 45, .slice (some ⟨g14, 0, none⟩) 0 0, .pointer (some ⟨g6, 1, none⟩), .slice ar ((partsL (lvD 50 ds k)).length) cr, .slice (some ⟨g17, 0, none⟩) ((partsL (lvD 50 ds k)).length) g17c, .tuple #[.agg ([.int .i64 ((k + 2 : Nat) : Int), .slice (some ⟨g49, 0, none⟩) ((partsL (lvD 50 ds k ++ [leafS la, leafS lb])).length) g49c] : List Value).toArray, .int .i64 0], .agg ([.int .i64 ((k : Nat) : Int), .slice ar ((partsL (lvD 50 ds k)).length) cr]).toArray, .string (bs la), .string (bs (leafS la)), .string (bs lb), .string (bs (leafS lb)), .slice (some ⟨g48, 0, none⟩) 2 2, .tuple #[.agg ([.int .i64 ((k + 2 : Nat) : Int), .slice (some ⟨g49, 0, none⟩) ((partsL (lvD 50 ds k ++ [leafS la, leafS lb])).length) g49c] : List Value).toArray, .int .i64 0], .agg ([.int .i64 ((k + 2 : Nat) : Int), .slice (some ⟨g49, 0, none⟩) ((partsL (lvD 50 ds k ++ [leafS la, leafS lb])).length) g49c] : List Value).toArray, .int .i64 0, .slice (some ⟨g54, 0, none⟩) 0 0, .pointer (some ⟨g50, 1, none⟩), .slice (some ⟨g49, 0, none⟩) ((partsL (lvD 50 ds k ++ [leafS la, leafS lb])).length) g49c, .slice (some ⟨g57, 0, none⟩) ((partsL (lvD 50 ds k ++ [leafS la, leafS lb])).length) g57c, .tuple #[.agg ([.int .i64 ((k + 1 : Nat) : Int), .slice (some ⟨g86, 0, none⟩) ((partsL (lvD 50 ds k ++ [leafS lb])).length) g86c] : List Value).toArray, .int .i64 0], .agg ([.int .i64 ((k : Nat) : Int), .slice ar ((partsL (lvD 50 ds k)).length) cr]).toArray, .string (bs lb), .string (bs (leafS lb)), .slice (some ⟨g85, 0, none⟩) 1 1, .tuple #[.agg ([.int .i64 ((k + 1 : Nat) : Int), .slice (some ⟨g86, 0, none⟩) ((partsL (lvD 50 ds k ++ [leafS lb])).length) g86c] : List Value).toArray, .int .i64 0], .agg ([.int .i64 ((k + 1 : Nat) : Int), .slice (some ⟨g86, 0, none⟩) ((partsL (lvD 50 ds k ++ [leafS lb])).length) g86c] : List Value).toArray, .int .i64 0, vs 5, undef, undef, undef, undef, undef, undef, undef, undef, undef, undef, undef, undef, undef, undef, undef, undef, undef, undef, undef, undef, undef, undef, undef, undef, undef, undef, undef, undef, undef, undef, undef, undef, undef, undef, undef, undef, undef, undef, undef, undef, undef, undef, undef, undef], defers := [] }) (by kernel_rfl) ?_ ?_
      · skip
        intro vs gs W105 SW105 D K9 hK9
        replace M := M.sees SW105
        replace R0_0 := (M.oldG R0_0 L0 NI0)
        replace L0 := M.oldL L0
        have Rg85_0 := M.r 0 0 rfl rfl
        have Lg85 := M.lt 0 rfl
        have Rg86_0 := M.r 1 0 rfl rfl
        have Lg86 := M.lt 1 rfl
        have Rg87_0 := M.r 2 0 rfl rfl
        have Lg87 := M.lt 2 rfl
        have Rg57_0 := M.r 3 0 rfl rfl
        have Lg57 := M.lt 3 rfl
        have Rg48_0 := M.r 4 0 rfl rfl
        have Lg48 := M.lt 4 rfl
        have Rg49_0 := M.r 5 0 rfl rfl
        have Lg49 := M.lt 5 rfl
        have Rg50_0 := M.r 6 0 rfl rfl
        have Lg50 := M.lt 6 rfl
        have Rg17_0 := M.r 7 0 rfl rfl
        have Lg17 := M.lt 7 rfl
        have Rg6_0 := M.r 8 0 rfl rfl
        have Lg6 := M.lt 8 rfl
        replace Hp := M.oldN Hp
        replace Hr := M.oldN Hr
        replace M := Mem.start W105
        obtain ⟨D5, _⟩ := D
        obtain ⟨_, g106c, e5, Cg106, Og106⟩ := D5
        generalize gs 5 = g106 at *
        replace e5 : vs 5 = .tuple #[.agg ([.int .i64 ((k + 1 + 1 : Nat) : Int), .slice (some ⟨g106, 0, none⟩) ((partsL (lvD 50 ds k ++ [leafS lb] ++ [leafS la])).length) g106c] : List Value).toArray, .int .i64 0] := e5
        have Rg106_0 := Og106.range (0, scells (partsL (lvD 50 ds k ++ [leafS lb] ++ [leafS la]))) (by simp only [List.mem_cons, true_or, or_true])
        have Lg106 := Og106.lt
        dsimp only at hK9
        dsimp only
        rw [e5] at hK9 ⊢
        refine wpL_chunk 1 (by rfl) (fun Lk hLk => ?_)
        simp only [List.take, List.drop]
        refine wpV_extract (v := .agg ([.int .i64 ((k + 1 + 1 : Nat) : Int), .slice (some ⟨g106, 0, none⟩) ((partsL (lvD 50 ds k ++ [leafS lb] ++ [leafS la])).length) g106c] : List Value).toArray) (by rfl) rfl rfl rfl ?_
        simp only [putT, List.set]
        refine wpV_nil (hLk _ (fun w107 Sw107 => ?_))
        clear hLk Lk
        simp only [List.take, List.drop]
        replace M := M.sees Sw107
        refine wpL_nil (then_normal ?_)
        have h8 := hK9 (.agg ([.int .i64 ((k + 1 + 1 : Nat) : Int), .slice (some ⟨g106, 0, none⟩) ((partsL (lvD 50 ds k ++ [leafS lb] ++ [leafS la])).length) g106c] : List Value).toArray)
        have h9 := h8 g106 _ M.seesAll ⟨(congrArg (partF 0) e5).symm, g106c, rfl, Cg106, (Og106.mono M.seesAll)⟩ (fun h => absurd h (by decide))
        simp only [putT, List.set] at h9
        exact h9
      refine RulesL.cons (fun vs => { tmps := #[.slice ap ds.length cp, .string (bs la), .string (bs lb), undef, undef, undef, u9 6, .pointer (some ⟨g6, 0, none⟩), u9 8, u9 9, u9 10, u9 11, .slice (some ⟨g17, 0, none⟩) ((partsL (lvD 50 ds k)).length) g17c, .pointer (some ⟨g50, 0, none⟩), .int .i64 0, .slice (some ⟨g57, 0, none⟩) ((partsL (lvD 50 ds k ++ [leafS la, leafS lb])).length) g57c, .pointer (some ⟨g87, 0, none⟩), .int .i64 0, undef, undef, .agg ([.int .i64 0, .slice none 0 0]).toArray, u9 21, u9 22, u9 23, u9 24, u9 25, u9 26, u9 27, u9 28, u9 29, u9 30, u9 31, u9 32, u9 33, u9 34, u9 35, u9 36, u9 37, u9 38, u9 39, u9 40, u9 41, u9 42, u9 43, u9 44, u9 45, .slice (some ⟨g14, 0, none⟩) 0 0, .pointer (some ⟨g6, 1, none⟩), .slice ar ((partsL (lvD 50 ds k)).length) cr, .slice (some ⟨g17, 0, none⟩) ((partsL (lvD 50 ds k)).length) g17c, .tuple #[.agg ([.int .i64 ((k + 2 : Nat) : Int), .slice (some ⟨g49, 0, none⟩) ((partsL (lvD 50 ds k ++ [leafS la, leafS lb])).length) g49c] : List Value).toArray, .int .i64 0], .agg ([.int .i64 ((k : Nat) : Int), .slice ar ((partsL (lvD 50 ds k)).length) cr]).toArray, .string (bs la), .string (bs (leafS la)), .string (bs lb), .string (bs (leafS lb)), .slice (some ⟨g48, 0, none⟩) 2 2, .tuple #[.agg ([.int .i64 ((k + 2 : Nat) : Int), .slice (some ⟨g49, 0, none⟩) ((partsL (lvD 50 ds k ++ [leafS la, leafS lb])).length) g49c] : List Value).toArray, .int .i64 0], .agg ([.int .i64 ((k + 2 : Nat) : Int), .slice (some ⟨g49, 0, none⟩) ((partsL (lvD 50 ds k ++ [leafS la, leafS lb])).length) g49c] : List Value).toArray, .int .i64 0, .slice (some ⟨g54, 0, none⟩) 0 0, .pointer (some ⟨g50, 1, none⟩), .slice (some ⟨g49, 0, none⟩) ((partsL (lvD 50 ds k ++ [leafS la, leafS lb])).length) g49c, .slice (some ⟨g57, 0, none⟩) ((partsL (lvD 50 ds k ++ [leafS la, leafS lb])).length) g57c, .tuple #[.agg ([.int .i64 ((k + 1 : Nat) : Int), .slice (some ⟨g86, 0, none⟩) ((partsL (lvD 50 ds k ++ [leafS lb])).length) g86c] : List Value).toArray, .int .i64 0], .agg ([.int .i64 ((k : Nat) : Int), .slice ar ((partsL (lvD 50 ds k)).length) cr]).toArray, .string (bs lb), .string (bs (leafS lb)), .slice (some ⟨g85, 0, none⟩) 1 1, .tuple #[.agg ([.int .i64 ((k + 1 : Nat) : Int), .slice (some ⟨g86, 0, none⟩) ((partsL (lvD 50 ds k ++ [leafS lb])).length) g86c] : List Value).toArray, .int .i64 0], .agg ([.int .i64 ((k + 1 : Nat) : Int), .slice (some ⟨g86, 0, none⟩) ((partsL (lvD 50 ds k ++ [leafS lb])).length) g86c] : List Value).toArray, .int .i64 0, vs 5, undef, undef, undef, undef, undef, undef, undef, undef, undef, undef, undef, undef, undef, undef, undef, undef, undef, undef, undef, undef, undef, undef, undef, undef, undef, undef, undef, undef, undef, undef, undef, undef, undef, undef, undef, undef, undef, undef, undef, undef, undef, undef, undef, undef], defers := [] }) (by kernel_rfl) ?_ ?_
      · skip
        intro vs gs W108 SW108 D K9 hK9
        replace M := M.sees SW108
        replace R0_0 := (M.oldG R0_0 L0 NI0)
        replace L0 := M.oldL L0
        have Rg85_0 := M.r 0 0 rfl rfl
        have Lg85 := M.lt 0 rfl
        have Rg86_0 := M.r 1 0 rfl rfl
        have Lg86 := M.lt 1 rfl
        have Rg87_0 := M.r 2 0 rfl rfl
        have Lg87 := M.lt 2 rfl
        have Rg57_0 := M.r 3 0 rfl rfl
        have Lg57 := M.lt 3 rfl
        have Rg48_0 := M.r 4 0 rfl rfl
        have Lg48 := M.lt 4 rfl
        have Rg49_0 := M.r 5 0 rfl rfl
        have Lg49 := M.lt 5 rfl
        have Rg50_0 := M.r 6 0 rfl rfl
        have Lg50 := M.lt 6 rfl
        have Rg17_0 := M.r 7 0 rfl rfl
        have Lg17 := M.lt 7 rfl
        have Rg6_0 := M.r 8 0 rfl rfl
        have Lg6 := M.lt 8 rfl
        replace Hp := M.oldN Hp
        replace Hr := M.oldN Hr
        replace M := Mem.start W108
        obtain ⟨D5, _⟩ := D
        obtain ⟨_, g109c, e5, Cg109, Og109⟩ := D5
        generalize gs 5 = g109 at *
        replace e5 : vs 5 = .tuple #[.agg ([.int .i64 ((k + 1 + 1 : Nat) : Int), .slice (some ⟨g109, 0, none⟩) ((partsL (lvD 50 ds k ++ [leafS lb] ++ [leafS la])).length) g109c] : List Value).toArray, .int .i64 0] := e5
        have Rg109_0 := Og109.range (0, scells (partsL (lvD 50 ds k ++ [leafS lb] ++ [leafS la]))) (by simp only [List.mem_cons, true_or, or_true])
        have Lg109 := Og109.lt
        dsimp only at hK9
        dsimp only
        rw [e5] at hK9 ⊢
        refine wpL_chunk 1 (by rfl) (fun Lk hLk => ?_)
        simp only [List.take, List.drop]
        refine wpV_extract (v := .int .i64 0) (by rfl) rfl rfl rfl ?_
        simp only [putT, List.set]
        refine wpV_nil (hLk _ (fun w110 Sw110 => ?_))
        clear hLk Lk
        simp only [List.take, List.drop]
        replace M := M.sees Sw110
        refine wpL_nil (then_normal ?_)
        have h8 := hK9 (.int .i64 0)
        have h9 := h8 0 _ M.seesAll rfl (fun h => absurd h (by decide))
        simp only [putT, List.set] at h9
        exact h9
      refine RulesL.cons (fun vs => { tmps := #[.slice ap ds.length cp, .string (bs la), .string (bs lb), undef, undef, undef, u9 6, .pointer (some ⟨g6, 0, none⟩), u9 8, u9 9, u9 10, u9 11, .slice (some ⟨g17, 0, none⟩) ((partsL (lvD 50 ds k)).length) g17c, .pointer (some ⟨g50, 0, none⟩), .int .i64 0, .slice (some ⟨g57, 0, none⟩) ((partsL (lvD 50 ds k ++ [leafS la, leafS lb])).length) g57c, .pointer (some ⟨g87, 0, none⟩), .int .i64 0, undef, undef, .agg ([.int .i64 0, .slice none 0 0]).toArray, u9 21, u9 22, u9 23, u9 24, u9 25, u9 26, u9 27, u9 28, u9 29, u9 30, u9 31, u9 32, u9 33, u9 34, u9 35, u9 36, u9 37, u9 38, u9 39, u9 40, u9 41, u9 42, u9 43, u9 44, u9 45, .slice (some ⟨g14, 0, none⟩) 0 0, .pointer (some ⟨g6, 1, none⟩), .slice ar ((partsL (lvD 50 ds k)).length) cr, .slice (some ⟨g17, 0, none⟩) ((partsL (lvD 50 ds k)).length) g17c, .tuple #[.agg ([.int .i64 ((k + 2 : Nat) : Int), .slice (some ⟨g49, 0, none⟩) ((partsL (lvD 50 ds k ++ [leafS la, leafS lb])).length) g49c] : List Value).toArray, .int .i64 0], .agg ([.int .i64 ((k : Nat) : Int), .slice ar ((partsL (lvD 50 ds k)).length) cr]).toArray, .string (bs la), .string (bs (leafS la)), .string (bs lb), .string (bs (leafS lb)), .slice (some ⟨g48, 0, none⟩) 2 2, .tuple #[.agg ([.int .i64 ((k + 2 : Nat) : Int), .slice (some ⟨g49, 0, none⟩) ((partsL (lvD 50 ds k ++ [leafS la, leafS lb])).length) g49c] : List Value).toArray, .int .i64 0], .agg ([.int .i64 ((k + 2 : Nat) : Int), .slice (some ⟨g49, 0, none⟩) ((partsL (lvD 50 ds k ++ [leafS la, leafS lb])).length) g49c] : List Value).toArray, .int .i64 0, .slice (some ⟨g54, 0, none⟩) 0 0, .pointer (some ⟨g50, 1, none⟩), .slice (some ⟨g49, 0, none⟩) ((partsL (lvD 50 ds k ++ [leafS la, leafS lb])).length) g49c, .slice (some ⟨g57, 0, none⟩) ((partsL (lvD 50 ds k ++ [leafS la, leafS lb])).length) g57c, .tuple #[.agg ([.int .i64 ((k + 1 : Nat) : Int), .slice (some ⟨g86, 0, none⟩) ((partsL (lvD 50 ds k ++ [leafS lb])).length) g86c] : List Value).toArray, .int .i64 0], .agg ([.int .i64 ((k : Nat) : Int), .slice ar ((partsL (lvD 50 ds k)).length) cr]).toArray, .string (bs lb), .string (bs (leafS lb)), .slice (some ⟨g85, 0, none⟩) 1 1, .tuple #[.agg ([.int .i64 ((k + 1 : Nat) : Int), .slice (some ⟨g86, 0, none⟩) ((partsL (lvD 50 ds k ++ [leafS lb])).length) g86c] : List Value).toArray, .int .i64 0], .agg ([.int .i64 ((k + 1 : Nat) : Int), .slice (some ⟨g86, 0, none⟩) ((partsL (lvD 50 ds k ++ [leafS lb])).length) g86c] : List Value).toArray, .int .i64 0, undef, undef, undef, undef, undef, undef, undef, undef, undef, undef, undef, undef, undef, undef, undef, undef, undef, undef, undef, undef, undef, undef, undef, undef, undef, undef, undef, undef, undef, undef, undef, undef, undef, undef, undef, undef, undef, undef, undef, undef, undef, undef, undef, undef, undef], defers := [] }) (by kernel_rfl) ?_ ?_
      · skip
        intro vs gs W111 SW111 D K9 hK9
        replace M := M.sees SW111
        replace R0_0 := (M.oldG R0_0 L0 NI0)
        replace L0 := M.oldL L0
        have Rg85_0 := M.r 0 0 rfl rfl
        have Lg85 := M.lt 0 rfl
        have Rg86_0 := M.r 1 0 rfl rfl
        have Lg86 := M.lt 1 rfl
        have Rg87_0 := M.r 2 0 rfl rfl
        have Lg87 := M.lt 2 rfl
        have Rg57_0 := M.r 3 0 rfl rfl
        have Lg57 := M.lt 3 rfl
        have Rg48_0 := M.r 4 0 rfl rfl
        have Lg48 := M.lt 4 rfl
        have Rg49_0 := M.r 5 0 rfl rfl
        have Lg49 := M.lt 5 rfl
        have Rg50_0 := M.r 6 0 rfl rfl
        have Lg50 := M.lt 6 rfl
        have Rg17_0 := M.r 7 0 rfl rfl
        have Lg17 := M.lt 7 rfl
        have Rg6_0 := M.r 8 0 rfl rfl
        have Lg6 := M.lt 8 rfl
        replace Hp := M.oldN Hp
        replace Hr := M.oldN Hr
        replace M := Mem.start W111
        dsimp only at hK9
        dsimp only
        refine wpL_var (t := 66) (cs := [.int .i64 0, .slice none 0 0]) (by rfl) (fun W => ?_) (fun g112 w113 Sw113 Hg112 Bg112 => ?_)
        · go_simp
        replace M := ((M.sees Sw113).add (N := 2) (cs := [.int .i64 0, .slice none 0 0]) (M.ge Hg112) (M.fresh Hg112) Bg112 rfl)
        clear Bg112
        simp only [putT, List.set]
        refine wpL_nil (then_normal ?_)
        have h8 := hK9 (.pointer (some ⟨g112, 0, none⟩))
        have h9 := h8 g112 _ M.seesAll ⟨rfl, (M.ok _ (.head _)).up SW111⟩ (fun _ => (M.ok _ (.head _)).ge)
        simp only [putT, List.set] at h9
        exact h9
      exact RulesL.nil
    intro vs gs W114 SW114 D A9
    obtain ⟨D0, D1, D2, D3, D4, D5, D6, D7, D8, _⟩ := (show DepRel _ vs gs W114 [0, 1, 2, 3, 4, 5, 6, 7, 8] from D)
    have n3_4 : gs 3 ≠ gs 4 := A9 3 4 (by decide) (by decide) (by decide) (by decide) (by decide)
    have n3_8 : gs 3 ≠ gs 8 := A9 3 8 (by decide) (by decide) (by decide) (by decide) (by decide)
    have n4_8 : gs 4 ≠ gs 8 := A9 4 8 (by decide) (by decide) (by decide) (by decide) (by decide)
    clear A9 D
    have e0 : vs 0 = .agg ([.int .i64 ((k + 1 : Nat) : Int), .slice (some ⟨g86, 0, none⟩) ((partsL (lvD 50 ds k ++ [leafS lb])).length) g86c] : List Value).toArray := D0
    have e1 : vs 1 = .string (bs la) := D1
    have e2 : vs 2 = .string (bs (leafS la)) := D2
    obtain ⟨e3, Og115⟩ := D3
    generalize gs 3 = g115 at *
    replace e3 : vs 3 = .slice (some ⟨g115, 0, none⟩) 1 1 := e3
    obtain ⟨g116c, e4, Cg116, Og116⟩ := D4
    generalize gs 4 = g116 at *
    replace e4 : vs 4 = .tuple #[.agg ([.int .i64 ((k + 1 + 1 : Nat) : Int), .slice (some ⟨g116, 0, none⟩) ((partsL (lvD 50 ds k ++ [leafS lb] ++ [leafS la])).length) g116c] : List Value).toArray, .int .i64 0] := e4
    have e5 : vs 5 = .tuple #[.agg ([.int .i64 ((k + 1 + 1 : Nat) : Int), .slice (some ⟨g116, 0, none⟩) ((partsL (lvD 50 ds k ++ [leafS lb] ++ [leafS la])).length) g116c] : List Value).toArray, .int .i64 0] := D5.1.trans (congrArg (fun x => x) e4)
    have e6 : vs 6 = .agg ([.int .i64 ((k + 1 + 1 : Nat) : Int), .slice (some ⟨g116, 0, none⟩) ((partsL (lvD 50 ds k ++ [leafS lb] ++ [leafS la])).length) g116c] : List Value).toArray := D6.1.trans (congrArg (partF 0) e5)
    have e7 : vs 7 = .int .i64 0 := D7
    obtain ⟨e8, Og117⟩ := D8
    generalize gs 8 = g117 at *
    replace e8 : vs 8 = .pointer (some ⟨g117, 0, none⟩) := e8
    replace M := M.addOks SW114 [⟨g115, 1, [(0, [.string (bs (leafS la))])]⟩, ⟨g116, g116c, [(0, scells (partsL (lvD 50 ds k ++ [leafS lb] ++ [leafS la])))]⟩, ⟨g117, 2, [(0, [.int .i64 0, .slice none 0 0])]⟩] (List.forall_mem_cons.2 ⟨Og115, (List.forall_mem_cons.2 ⟨Og116, (List.forall_mem_cons.2 ⟨Og117, (fun _ h => nomatch h)⟩)⟩)⟩) (.cons (List.forall_mem_cons.2 ⟨n3_4, (List.forall_mem_cons.2 ⟨n3_8, (fun _ h => nomatch h)⟩)⟩) (.cons (List.forall_mem_cons.2 ⟨n4_8, (fun _ h => nomatch h)⟩) (.cons (fun _ h => nomatch h) .nil)))
    simp only [List.cons_append, List.nil_append] at M
    dsimp only
    simp only [e0, e1, e2, e3, e4, e5, e6, e7, e8, List.drop]
    refine wpL_store (g := g117) (off := 0) (n := 2) (cs := [.int .i64 ((k + 1 + 1 : Nat) : Int), .slice (some ⟨g116, 0, none⟩) ((partsL (lvD 50 ds k ++ [leafS lb] ++ [leafS la])).length) g116c]) (by rfl) (by rfl) (by rfl) (by rfl) (by rfl) (M.t 2 rfl) (by simp [flen]) info66 (by simp [fone, Value.oneCell']) (fun w118 P R T => ?_)
    replace M := M.putS 2 0 rfl P R T rfl ⟨.inl rfl, trivial⟩
    simp only [List.set] at M
    refine wpL_assign (v := .int .i64 0) (by rfl) (by rfl) (by rfl) ?_
    simp only [putT, List.set]
    refine wpL_nil (no_panic ?_)
    refine hK89 _ _ ?_
    refine wp_seq_k (fun K119 hK119 => ?_)
    cases hg120 : (decide (la ≠ lb))
    · skip
      obtain rfl : la = lb := Decidable.not_not.1 (of_decide_eq_false hg120)
      refine wp_region_seq ?_
      refine wpL_chunk 37 (by rfl) (fun Lk hLk => ?_)
      simp only [List.take, List.drop]
      refine wpV_callf (v := .bool true) (args := #[]) (by rfl) rfl Tryd.func44 (by kernel_rfl) (by kernel_rfl) rfl (fun W hW => alive08_c ((M.sees hW).oldL L0) ((M.sees hW).oldG R0_0 L0 NI0)) ?_
      simp only [putT, List.set]
      refine wpV_move (v := .bool true) (by rfl) rfl rfl ?_
      simp only [putT, List.set]
      refine wpV_move (v := .int .i64 0) (by rfl) rfl rfl ?_
      simp only [putT, List.set]
      refine wpV_bin (v := .bool true) (by rfl) rfl rfl rfl (fun W => run_eql _ _ _ _ W) ?_
      simp only [putT, List.set]
      refine wpV_pick (v := .bool true) (by rfl) rfl rfl rfl ?_
      simp only [putT, List.set]
      refine wpV_move (v := .bool true) (by rfl) rfl rfl ?_
      simp only [putT, List.set]
      refine wpV_move (v := .int .i64 0) (by rfl) rfl rfl ?_
      simp only [putT, List.set]
      refine wpV_bin (v := .bool true) (by rfl) rfl rfl rfl (fun W => run_eql _ _ _ _ W) ?_
      simp only [putT, List.set]
      refine wpV_pick (v := .bool true) (by rfl) rfl rfl rfl ?_
      simp only [putT, List.set]
      refine wpV_move (v := .bool true) (by rfl) rfl rfl ?_
      simp only [putT, List.set]
      refine wpV_move (v := .int .i64 0) (by rfl) rfl rfl ?_
      simp only [putT, List.set]
      refine wpV_bin (v := .bool true) (by rfl) rfl rfl rfl (fun W => run_eql _ _ _ _ W) ?_
      simp only [putT, List.set]
      refine wpV_pick (v := .bool true) (by rfl) rfl rfl rfl ?_
      simp only [putT, List.set]
      refine wpV_move (v := .bool true) (by rfl) rfl rfl ?_
      simp only [putT, List.set]
      refine wpV_val (v := .pointer (some ⟨g6, 1, none⟩)) (by rfl) (by rfl) (fun W hW => ?_) ?_
      · (go_simp; exact rfl)
      simp only [putT, List.set]
      refine wpV_load1 (v := .slice ar ((partsL (lvD 50 ds k)).length) cr) (by rfl) rfl rfl (range_one (range_sub (M.r 11 0 rfl rfl) 1 1 1 (xs := [.slice ar ((partsL (lvD 50 ds k)).length) cr]) rfl rfl)) (M.lt 11 rfl) Tryd.underlying48 rfl ?_
      simp only [putT, List.set]
      refine wpV_move (v := .slice (some ⟨g17, 0, none⟩) ((partsL (lvD 50 ds k)).length) g17c) (by rfl) rfl rfl ?_
      simp only [putT, List.set]
      refine wpV_callf (v := .bool true) (args := #[.slice ar ((partsL (lvD 50 ds k)).length) cr, .slice (some ⟨g17, 0, none⟩) ((partsL (lvD 50 ds k)).length) g17c]) (by rfl) rfl Tryd.func50 (by kernel_rfl) (by kernel_rfl) rfl (fun W hW => by have h9 : Calls Tryd.prog _ _ W _ := same_r (ps := partsL (lvD 50 ds k)) (qs := partsL (lvD 50 ds k)) (Nat.le_trans (partsL_le (by simp only [List.length_append, lvD_len hkl, List.length_cons, List.length_nil]; omega)) (by decide)) ((M.sees hW).oldN Hr) (RowA.of ((M.sees hW).r 10 0 rfl rfl) ((M.sees hW).lt 10 rfl) (scells_len _).symm Cg17); rw [decide_eq_true rfl] at h9; exact h9) ?_
      simp only [putT, List.set]
      refine wpV_pick (v := .bool true) (by rfl) rfl rfl rfl ?_
      simp only [putT, List.set]
      refine wpV_move (v := .bool true) (by rfl) rfl rfl ?_
      simp only [putT, List.set]
      refine wpV_val (v := .pointer (some ⟨g50, 1, none⟩)) (by rfl) (by rfl) (fun W hW => ?_) ?_
      · (go_simp; exact rfl)
      simp only [putT, List.set]
      refine wpV_load1 (v := .slice (some ⟨g49, 0, none⟩) ((partsL (lvD 50 ds k ++ [leafS la, leafS la])).length) g49c) (by rfl) rfl rfl (range_one (range_sub (M.r 9 0 rfl rfl) 1 1 1 (xs := [.slice (some ⟨g49, 0, none⟩) ((partsL (lvD 50 ds k ++ [leafS la, leafS la])).length) g49c]) rfl rfl)) (M.lt 9 rfl) Tryd.underlying48 rfl ?_
      simp only [putT, List.set]
      refine wpV_move (v := .slice (some ⟨g57, 0, none⟩) ((partsL (lvD 50 ds k ++ [leafS la, leafS la])).length) g57c) (by rfl) rfl rfl ?_
      simp only [putT, List.set]
      refine wpV_callf (v := .bool true) (args := #[.slice (some ⟨g49, 0, none⟩) ((partsL (lvD 50 ds k ++ [leafS la, leafS la])).length) g49c, .slice (some ⟨g57, 0, none⟩) ((partsL (lvD 50 ds k ++ [leafS la, leafS la])).length) g57c]) (by rfl) rfl Tryd.func50 (by kernel_rfl) (by kernel_rfl) rfl (fun W hW => by have h9 : Calls Tryd.prog _ _ W _ := same_r (ps := partsL (lvD 50 ds k ++ [leafS la, leafS la])) (qs := partsL (lvD 50 ds k ++ [leafS la, leafS la])) (Nat.le_trans (partsL_le (by simp only [List.length_append, lvD_len hkl, List.length_cons, List.length_nil]; omega)) (by decide)) (RowA.of ((M.sees hW).r 8 0 rfl rfl) ((M.sees hW).lt 8 rfl) (scells_len _).symm Cg49) (RowA.of ((M.sees hW).r 6 0 rfl rfl) ((M.sees hW).lt 6 rfl) (scells_len _).symm Cg57); rw [decide_eq_true rfl] at h9; exact h9) ?_
      simp only [putT, List.set]
      refine wpV_pick (v := .bool true) (by rfl) rfl rfl rfl ?_
      simp only [putT, List.set]
      refine wpV_move (v := .bool true) (by rfl) rfl rfl ?_
      simp only [putT, List.set]
      refine wpV_move (v := .string (bs la)) (by rfl) rfl rfl ?_
      simp only [putT, List.set]
      refine wpV_move (v := .string (bs la)) (by rfl) rfl rfl ?_
      simp only [putT, List.set]
      refine wpV_binS (v := .bool false) (by rfl) rfl rfl rfl (fun W => (run_neq_bs _ _ _ W).trans (by rw [show decide (la ≠ la) = false from (decide_eq_false (fun h9 => h9 rfl))])) ?_
      simp only [putT, List.set]
      refine wpV_move (v := .bool false) (by rfl) rfl rfl ?_
      simp only [putT, List.set]
      refine wpV_val (v := .pointer (some ⟨g50, 1, none⟩)) (by rfl) (by rfl) (fun W hW => ?_) ?_
      · (go_simp; exact rfl)
      simp only [putT, List.set]
      refine wpV_load1 (v := .slice (some ⟨g49, 0, none⟩) ((partsL (lvD 50 ds k ++ [leafS la, leafS la])).length) g49c) (by rfl) rfl rfl (range_one (range_sub (M.r 9 0 rfl rfl) 1 1 1 (xs := [.slice (some ⟨g49, 0, none⟩) ((partsL (lvD 50 ds k ++ [leafS la, leafS la])).length) g49c]) rfl rfl)) (M.lt 9 rfl) Tryd.underlying48 rfl ?_
      simp only [putT, List.set]
      refine wpV_val (v := .pointer (some ⟨g117, 1, none⟩)) (by rfl) (by rfl) (fun W hW => ?_) ?_
      · (go_simp; exact rfl)
      simp only [putT, List.set]
      refine wpV_load1 (v := .slice (some ⟨g116, 0, none⟩) ((partsL (lvD 50 ds k ++ [leafS la] ++ [leafS la])).length) g116c) (by rfl) rfl rfl (range_one (range_sub (M.r 2 0 rfl rfl) 1 1 1 (xs := [.slice (some ⟨g116, 0, none⟩) ((partsL (lvD 50 ds k ++ [leafS la] ++ [leafS la])).length) g116c]) rfl rfl)) (M.lt 2 rfl) Tryd.underlying48 rfl ?_
      simp only [putT, List.set]
      refine wpV_callf (v := .bool true) (args := #[.slice (some ⟨g49, 0, none⟩) ((partsL (lvD 50 ds k ++ [leafS la, leafS la])).length) g49c, .slice (some ⟨g116, 0, none⟩) ((partsL (lvD 50 ds k ++ [leafS la] ++ [leafS la])).length) g116c]) (by rfl) rfl Tryd.func50 (by kernel_rfl) (by kernel_rfl) rfl (fun W hW => by have h9 : Calls Tryd.prog _ _ W _ := same_r (ps := partsL (lvD 50 ds k ++ [leafS la, leafS la])) (qs := partsL (lvD 50 ds k ++ [leafS la] ++ [leafS la])) (Nat.le_trans (partsL_le (by simp only [List.length_append, lvD_len hkl, List.length_cons, List.length_nil]; omega)) (by decide)) (RowA.of ((M.sees hW).r 8 0 rfl rfl) ((M.sees hW).lt 8 rfl) (scells_len _).symm Cg49) (RowA.of ((M.sees hW).r 1 0 rfl rfl) ((M.sees hW).lt 1 rfl) (scells_len _).symm Cg116); rw [(decide_eq_true (by rw [List.append_assoc]; rfl))] at h9; exact h9) ?_
      simp only [putT, List.set]
      refine wpV_pick (v := .bool true) (by rfl) rfl rfl rfl ?_
      simp only [putT, List.set]
      refine wpV_pick (v := .bool true) (by rfl) rfl rfl rfl ?_
      simp only [putT, List.set]
      refine wpV_nil (hLk _ (fun w122 Sw122 => ?_))
      clear hLk Lk
      simp only [List.take, List.drop]
      replace M := M.sees Sw122
      refine wpL_assign (v := .bool true) (by rfl) (by rfl) (by rfl) ?_
      simp only [putT, List.set]
      refine wpL_nil (no_panic ?_)
      refine hK119 _ _ ?_
      refine wp_ret ?_
      repeat (first | with_reducible refine then_ret ?_ | with_reducible refine inblock_ret ?_)
      replace M := Mx11.comp M
      refine bodyPost_ret (v := .bool true) (res1 rfl (.tmp (by rfl))) rfl ?_
      have BE := M.below
      exact ⟨rfl, BE⟩
    · skip
      refine wp_region_seq ?_
      refine wpL_chunk 37 (by rfl) (fun Lk hLk => ?_)
      simp only [List.take, List.drop]
      refine wpV_callf (v := .bool true) (args := #[]) (by rfl) rfl Tryd.func44 (by kernel_rfl) (by kernel_rfl) rfl (fun W hW => alive08_c ((M.sees hW).oldL L0) ((M.sees hW).oldG R0_0 L0 NI0)) ?_
      simp only [putT, List.set]
      refine wpV_move (v := .bool true) (by rfl) rfl rfl ?_
      simp only [putT, List.set]
      refine wpV_move (v := .int .i64 0) (by rfl) rfl rfl ?_
      simp only [putT, List.set]
      refine wpV_bin (v := .bool true) (by rfl) rfl rfl rfl (fun W => run_eql _ _ _ _ W) ?_
      simp only [putT, List.set]
      refine wpV_pick (v := .bool true) (by rfl) rfl rfl rfl ?_
      simp only [putT, List.set]
      refine wpV_move (v := .bool true) (by rfl) rfl rfl ?_
      simp only [putT, List.set]
      refine wpV_move (v := .int .i64 0) (by rfl) rfl rfl ?_
      simp only [putT, List.set]
      refine wpV_bin (v := .bool true) (by rfl) rfl rfl rfl (fun W => run_eql _ _ _ _ W) ?_
      simp only [putT, List.set]
      refine wpV_pick (v := .bool true) (by rfl) rfl rfl rfl ?_
      simp only [putT, List.set]
      refine wpV_move (v := .bool true) (by rfl) rfl rfl ?_
      simp only [putT, List.set]
      refine wpV_move (v := .int .i64 0) (by rfl) rfl rfl ?_
      simp only [putT, List.set]
      refine wpV_bin (v := .bool true) (by rfl) rfl rfl rfl (fun W => run_eql _ _ _ _ W) ?_
      simp only [putT, List.set]
      refine wpV_pick (v := .bool true) (by rfl) rfl rfl rfl ?_
      simp only [putT, List.set]
      refine wpV_move (v := .bool true) (by rfl) rfl rfl ?_
      simp only [putT, List.set]
      refine wpV_val (v := .pointer (some ⟨g6, 1, none⟩)) (by rfl) (by rfl) (fun W hW => ?_) ?_
      · (go_simp; exact rfl)
      simp only [putT, List.set]
      refine wpV_load1 (v := .slice ar ((partsL (lvD 50 ds k)).length) cr) (by rfl) rfl rfl (range_one (range_sub (M.r 11 0 rfl rfl) 1 1 1 (xs := [.slice ar ((partsL (lvD 50 ds k)).length) cr]) rfl rfl)) (M.lt 11 rfl) Tryd.underlying48 rfl ?_
      simp only [putT, List.set]
      refine wpV_move (v := .slice (some ⟨g17, 0, none⟩) ((partsL (lvD 50 ds k)).length) g17c) (by rfl) rfl rfl ?_
      simp only [putT, List.set]
      refine wpV_callf (v := .bool true) (args := #[.slice ar ((partsL (lvD 50 ds k)).length) cr, .slice (some ⟨g17, 0, none⟩) ((partsL (lvD 50 ds k)).length) g17c]) (by rfl) rfl Tryd.func50 (by kernel_rfl) (by kernel_rfl) rfl (fun W hW => by have h9 : Calls Tryd.prog _ _ W _ := same_r (ps := partsL (lvD 50 ds k)) (qs := partsL (lvD 50 ds k)) (Nat.le_trans (partsL_le (by simp only [List.length_append, lvD_len hkl, List.length_cons, List.length_nil]; omega)) (by decide)) ((M.sees hW).oldN Hr) (RowA.of ((M.sees hW).r 10 0 rfl rfl) ((M.sees hW).lt 10 rfl) (scells_len _).symm Cg17); rw [decide_eq_true rfl] at h9; exact h9) ?_
      simp only [putT, List.set]
      refine wpV_pick (v := .bool true) (by rfl) rfl rfl rfl ?_
      simp only [putT, List.set]
      refine wpV_move (v := .bool true) (by rfl) rfl rfl ?_
      simp only [putT, List.set]
      refine wpV_val (v := .pointer (some ⟨g50, 1, none⟩)) (by rfl) (by rfl) (fun W hW => ?_) ?_
      · (go_simp; exact rfl)
      simp only [putT, List.set]
      refine wpV_load1 (v := .slice (some ⟨g49, 0, none⟩) ((partsL (lvD 50 ds k ++ [leafS la, leafS lb])).length) g49c) (by rfl) rfl rfl (range_one (range_sub (M.r 9 0 rfl rfl) 1 1 1 (xs := [.slice (some ⟨g49, 0, none⟩) ((partsL (lvD 50 ds k ++ [leafS la, leafS lb])).length) g49c]) rfl rfl)) (M.lt 9 rfl) Tryd.underlying48 rfl ?_
      simp only [putT, List.set]
      refine wpV_move (v := .slice (some ⟨g57, 0, none⟩) ((partsL (lvD 50 ds k ++ [leafS la, leafS lb])).length) g57c) (by rfl) rfl rfl ?_
      simp only [putT, List.set]
      refine wpV_callf (v := .bool true) (args := #[.slice (some ⟨g49, 0, none⟩) ((partsL (lvD 50 ds k ++ [leafS la, leafS lb])).length) g49c, .slice (some ⟨g57, 0, none⟩) ((partsL (lvD 50 ds k ++ [leafS la, leafS lb])).length) g57c]) (by rfl) rfl Tryd.func50 (by kernel_rfl) (by kernel_rfl) rfl (fun W hW => by have h9 : Calls Tryd.prog _ _ W _ := same_r (ps := partsL (lvD 50 ds k ++ [leafS la, leafS lb])) (qs := partsL (lvD 50 ds k ++ [leafS la, leafS lb])) (Nat.le_trans (partsL_le (by simp only [List.length_append, lvD_len hkl, List.length_cons, List.length_nil]; omega)) (by decide)) (RowA.of ((M.sees hW).r 8 0 rfl rfl) ((M.sees hW).lt 8 rfl) (scells_len _).symm Cg49) (RowA.of ((M.sees hW).r 6 0 rfl rfl) ((M.sees hW).lt 6 rfl) (scells_len _).symm Cg57); rw [decide_eq_true rfl] at h9; exact h9) ?_
      simp only [putT, List.set]
      refine wpV_pick (v := .bool true) (by rfl) rfl rfl rfl ?_
      simp only [putT, List.set]
      refine wpV_move (v := .bool true) (by rfl) rfl rfl ?_
      simp only [putT, List.set]
      refine wpV_move (v := .string (bs la)) (by rfl) rfl rfl ?_
      simp only [putT, List.set]
      refine wpV_move (v := .string (bs lb)) (by rfl) rfl rfl ?_
      simp only [putT, List.set]
      refine wpV_binS (v := .bool true) (by rfl) rfl rfl rfl (fun W => (run_neq_bs _ _ _ W).trans (by rw [hg120])) ?_
      simp only [putT, List.set]
      refine wpV_move (v := .bool true) (by rfl) rfl rfl ?_
      simp only [putT, List.set]
      refine wpV_skip (by rfl) (by rfl) ?_
      simp only [putT, List.set]
      refine wpV_skip (by rfl) (by rfl) ?_
      simp only [putT, List.set]
      refine wpV_skip (by rfl) (by rfl) ?_
      simp only [putT, List.set]
      refine wpV_skip (by rfl) (by rfl) ?_
      simp only [putT, List.set]
      refine wpV_skip (by rfl) (by rfl) ?_
      simp only [putT, List.set]
      refine wpV_pick (v := .bool true) (by rfl) rfl rfl rfl ?_
      simp only [putT, List.set]
      refine wpV_pick (v := .bool true) (by rfl) rfl rfl rfl ?_
      simp only [putT, List.set]
      refine wpV_nil (hLk _ (fun w124 Sw124 => ?_))
      clear hLk Lk
      simp only [List.take, List.drop]
      replace M := M.sees Sw124
      refine wpL_assign (v := .bool true) (by rfl) (by rfl) (by rfl) ?_
      simp only [putT, List.set]
      refine wpL_nil (no_panic ?_)
      refine hK119 _ _ ?_
      refine wp_ret ?_
      repeat (first | with_reducible refine then_ret ?_ | with_reducible refine inblock_ret ?_)
      replace M := Mx11.comp M
      refine bodyPost_ret (v := .bool true) (res1 rfl (.tmp (by rfl))) rfl ?_
      have BE := M.below
      exact ⟨rfl, BE⟩
  refine wp_seq_k (fun K125 hK125 => ?_)
  refine wp_region_seq ?_
  refine wpL_move (v := .slice ap ds.length cp) (by rfl) (by rfl) (by rfl) ?_
  simp only [putT, List.set]
  refine wpL_chunk 1 (by rfl) (fun Lk hLk => ?_)
  simp only [List.take, List.drop]
  refine wpV_lenA (n := ds.length) (by rfl) rfl rfl rfl Tryd.underlying48 ?_
  simp only [putT, List.set]
  refine wpV_nil (hLk _ (fun w127 Sw127 => ?_))
  clear hLk Lk
  simp only [List.take, List.drop]
  replace M := M.sees Sw127
  refine wpL_move (v := .int .i64 0) (by rfl) (by rfl) (by rfl) ?_
  simp only [putT, List.set]
  refine wpL_nil (no_panic ?_)
  refine hK125 _ _ ?_
  refine wp_block ?_
  refine wp_loop_ghost (fun n9 a9 W9 => ∃ (k : Nat) (ar : Option Addr) (nr : Nat) (cr : Nat) (u128 : Nat → Value), n9 = 2 * (ds.length - k) ∧ a9 = { tmps := #[.slice ap ds.length cp, .string (bs la), .string (bs lb), undef, undef, undef, u128 6, .pointer (some ⟨g6, 0, none⟩), u128 8, u128 9, u128 10, u128 11, undef, undef, undef, undef, undef, undef, undef, undef, .agg ([.int .i64 0, .slice none 0 0]).toArray, .slice ap ds.length cp, .int .i64 ((ds.length : Nat) : Int), .int .i64 ((k : Nat) : Int), u128 24, u128 25, u128 26, u128 27, u128 28, u128 29, u128 30, u128 31, u128 32, u128 33, u128 34, u128 35, u128 36, u128 37, u128 38, u128 39, u128 40, u128 41, u128 42, u128 43, u128 44, u128 45, undef, undef, undef, undef, undef, undef, undef, undef, undef, undef, undef, undef, undef, undef, undef, undef, undef, undef, undef, undef, undef, undef, undef, undef, undef, undef, undef, undef, undef, undef, undef, undef, undef, undef, undef, undef, undef, undef, undef, undef, undef, undef, undef, undef, undef, undef, undef, undef, undef, undef, undef, undef, undef, undef, undef, undef, undef, undef, undef, undef, undef, undef, undef, undef, undef, undef, undef, undef, undef, undef, undef], defers := [] } ∧ Mem [] w W9 [⟨g6, 2, [(0, [.int .i64 ((k : Nat) : Int), .slice ar nr cr])]⟩] ∧ (k ≤ ds.length) ∧ (k ≤ 20) ∧ RowN [g6] W9 ar nr cr (scells (partsL (lvD 50 ds k)))) (2 * (ds.length - (0))) ?_ (fun n9 a9 W9 hI => ?_)
  · exact ⟨0, none, 0, 0, (fun q9 => (#[undef, undef, undef, undef, undef, undef, .bool false, undef, undef, undef, undef, undef, undef, undef, undef, undef, undef, undef, undef, undef, undef, undef, undef, undef, undef, undef, undef, undef, undef, undef, undef, undef, undef, undef, undef, undef, undef, undef, undef, undef, undef, undef, undef, undef, undef, undef] : Array Value).getD q9 undef), rfl, rfl, M, (by omega), (by omega), (RowN.nil.eq (by rw [lvD_zero, partsL_0]; rfl))⟩
  clear M
  obtain ⟨k, ar, nr, cr, u128, rfl, rfl, M, hkl, hk2, Hr⟩ := hI
  obtain ⟨w129, rfl⟩ : ∃ W8, W8 = W9 := ⟨_, rfl⟩
  have Mx130 := M
  replace R0_0 := (M.oldR R0_0 L0)
  have NI0 : 0 ∉ [g6] := Mx130.oldNe L0 List.not_mem_nil
  replace L0 := Mx130.oldL L0
  replace Hp := Mx130.notins Hp
  simp only [List.map_cons, List.map_nil] at Hp
  replace M : Mem [g6] w129 w129 [⟨g6, 2, [(0, [.int .i64 ((k : Nat) : Int), .slice ar nr cr])]⟩] := Mx130.again
  obtain rfl : nr = (partsL (lvD 50 ds k)).length := by have h9 := Hr.row.len; rwa [scells_len] at h9
  refine wp_seq_k (fun K131 hK131 => ?_)
  refine wp_region_seq ?_
  refine wpL_chunk 1 (by rfl) (fun Lk hLk => ?_)
  simp only [List.take, List.drop]
  refine wpV_bin (v := .bool (decide (k < ds.length))) (by rfl) rfl rfl rfl (fun W => run_lssN k ds.length _ _ W) ?_
  simp only [putT, List.set]
  refine wpV_nil (hLk _ (fun w133 Sw133 => ?_))
  clear hLk Lk
  simp only [List.take, List.drop]
  replace M := M.sees Sw133
  refine wpL_nil (no_panic ?_)
  refine hK131 _ _ ?_
  refine wp_seq_k (fun K134 hK134 => ?_)
  cases hc135 : (decide (k < ds.length))
  · skip
    refine wp_cond_false rfl ?_
    refine wp_exit ?_
    have HX136 := ((M.notinsG Hr).sub (show ∀ x ∈ [g6], x ∈ [g6] from (by intro x hx; simp only [List.mem_cons, List.not_mem_nil, or_false] at hx ⊢; omega)))
    replace M := Mx130.comp M
    exact HK9 k ar ((partsL (lvD 50 ds k)).length) cr (fun q9 => (#[undef, undef, undef, undef, undef, undef, u128 6, undef, u128 8, u128 9, u128 10, u128 11, undef, undef, undef, undef, undef, undef, undef, undef, undef, .slice ap ds.length cp, .int .i64 ((ds.length : Nat) : Int), .int .i64 ((k : Nat) : Int), .bool false, u128 25, u128 26, u128 27, u128 28, u128 29, u128 30, u128 31, u128 32, u128 33, u128 34, u128 35, u128 36, u128 37, u128 38, u128 39, u128 40, u128 41, u128 42, u128 43, u128 44, u128 45] : Array Value).getD q9 undef) _ hkl hk2 M HX136
  · skip
    have hk : k < ds.length := of_decide_eq_true hc135
    refine wp_cond_true rfl ?_
    refine wp_skip ?_
    refine hK134 _ _ ?_
    refine wp_seq_k (fun K137 hK137 => ?_)
    refine wp_block ?_
    refine wp_seq_k (fun K138 hK138 => ?_)
    refine wp_region_seq ?_
    refine wpL_move (v := .int .i64 ((k : Nat) : Int)) (by rfl) (by rfl) (by rfl) ?_
    simp only [putT, List.set]
    refine wpL_chunk 2 (by rfl) (fun Lk hLk => ?_)
    simp only [List.take, List.drop]
    refine wpV_idxA (i := k) (by rfl) rfl rfl rfl Tryd.underlying48 info9 (M.oldN Hp) (by omega) ?_
    simp only [putT, List.set]
    refine wpV_loadA (i := k) (v := .string (bs (ds.getD k []))) (by rfl) rfl rfl (M.oldN Hp) (scells_get (ps := ds) (by omega)) Tryd.underlying9 rfl ?_
    simp only [putT, List.set]
    refine wpV_nil (hLk _ (fun w140 Sw140 => ?_))
    clear hLk Lk
    simp only [List.take, List.drop]
    replace M := M.sees Sw140
    refine wpL_assign (v := .int .i64 ((k : Nat) : Int)) (by rfl) (by rfl) (by rfl) ?_
    simp only [putT, List.set]
    refine wpL_assign (v := .string (bs (ds.getD k []))) (by rfl) (by rfl) (by rfl) ?_
    simp only [putT, List.set]
    refine wpL_nil (no_panic ?_)
    refine hK138 _ _ ?_
    refine wp_seq_k (fun K141 hK141 => ?_)
    refine wp_seq_k (fun K142 hK142 => ?_)
    refine wp_region_seq ?_
    refine wpL_move (v := .int .i64 ((k : Nat) : Int)) (by rfl) (by rfl) (by rfl) ?_
    simp only [putT, List.set]
    refine wpL_chunk 1 (by rfl) (fun Lk hLk => ?_)
    simp only [List.take, List.drop]
    refine wpV_bin (v := .bool (decide (20 ≤ k))) (by rfl) rfl rfl rfl (fun W => run_geqN k 20 _ _ W) ?_
    simp only [putT, List.set]
    refine wpV_nil (hLk _ (fun w144 Sw144 => ?_))
    clear hLk Lk
    simp only [List.take, List.drop]
    replace M := M.sees Sw144
    refine wpL_nil (no_panic ?_)
    refine hK142 _ _ ?_
    cases hc145 : (decide (20 ≤ k))
    · skip
      have hk20 : ¬ 20 ≤ k := of_decide_eq_false hc145
      refine wp_cond_false rfl ?_
      refine wp_skip ?_
      refine hK141 _ _ ?_
      refine wp_seq_k (fun K146 hK146 => ?_)
      refine wp_region_addsF 13 [11] [7, 8, 12] [ValRel (.agg ([.int .i64 ((k : Nat) : Int), .slice ar ((partsL (lvD 50 ds k)).length) cr]).toArray), ValRel (.string (bs (ds.getD k []))), ValRel (.string (bs (ds.getD k []))), ValRel (.int .i64 (((ds.getD k []).length : Nat) : Int)), ValRel (.int .i64 ((min ((ds.getD k []).length) 50 : Nat) : Int)), ValRel (.string (bs (cut (ds.getD k []) 50))), ValRel (.string (bs (leafS (cut (ds.getD k []) 50)))), BoxRel w144 (fun gA => .slice (some ⟨gA, 0, none⟩) 1 1) 1 [(0, [.string (bs (leafS (cut (ds.getD k []) 50)))])], NewRel w144 (fun gA gAc => .tuple #[.agg ([.int .i64 ((k + 1 : Nat) : Int), .slice (some ⟨gA, 0, none⟩) ((partsL (lvD 50 ds (k + 1))).length) gAc]).toArray, .int .i64 0]) ((partsL (lvD 50 ds (k + 1))).length) [(0, scells (partsL (lvD 50 ds (k + 1))))], LinkRel 8 (fun x => x) (NewRel w144 (fun gA gAc => .tuple #[.agg ([.int .i64 ((k + 1 : Nat) : Int), .slice (some ⟨gA, 0, none⟩) ((partsL (lvD 50 ds (k + 1))).length) gAc]).toArray, .int .i64 0]) ((partsL (lvD 50 ds (k + 1))).length) [(0, scells (partsL (lvD 50 ds (k + 1))))]), LinkRel 9 (partF 0) (NewRel w144 (fun gA gAc => .agg ([.int .i64 ((k + 1 : Nat) : Int), .slice (some ⟨gA, 0, none⟩) ((partsL (lvD 50 ds (k + 1))).length) gAc]).toArray) ((partsL (lvD 50 ds (k + 1))).length) [(0, scells (partsL (lvD 50 ds (k + 1))))]), ValRel (.int .i64 0), BoxRel w144 (fun gA => .pointer (some ⟨gA, 0, none⟩)) 2 [(0, [.int .i64 0, .slice none 0 0])]] [[], [], [], [2], [3], [1, 4], [5], [6], [0, 7], [8], [9], [9], []] (fun vs => { tmps := #[.slice ap ds.length cp, .string (bs la), .string (bs lb), undef, undef, undef, u128 6, .pointer (some ⟨g6, 0, none⟩), .int .i64 ((k : Nat) : Int), .string (bs (ds.getD k [])), vs 12, u128 11, undef, undef, undef, undef, undef, undef, undef, undef, .agg ([.int .i64 0, .slice none 0 0]).toArray, .slice ap ds.length cp, .int .i64 ((ds.length : Nat) : Int), .int .i64 ((k : Nat) : Int), .bool true, .int .i64 ((k : Nat) : Int), .pointer (ap.map (·.add k)), .string (bs (ds.getD k [])), .int .i64 ((k : Nat) : Int), .bool false, vs 9, vs 0, vs 1, vs 2, vs 3, vs 4, vs 5, vs 6, vs 7, vs 8, vs 10, vs 11, u128 42, u128 43, u128 44, u128 45, undef, undef, undef, undef, undef, undef, undef, undef, undef, undef, undef, undef, undef, undef, undef, undef, undef, undef, undef, undef, undef, undef, undef, undef, undef, undef, undef, undef, undef, undef, undef, undef, undef, undef, undef, undef, undef, undef, undef, undef, undef, undef, undef, undef, undef, undef, undef, undef, undef, undef, undef, undef, undef, undef, undef, undef, undef, undef, undef, undef, undef, undef, undef, undef, undef, undef, undef, undef, undef, undef, undef], defers := [] }) (by kernel_rfl) (by kernel_rfl) (by kernel_rfl) (by kernel_rfl) (.cons keep_val (.cons keep_val (.cons keep_val (.cons keep_val (.cons keep_val (.cons keep_val (.cons keep_val (.cons keep_box (.cons keep_new (.cons (keep_link keep_new) (.cons (keep_link keep_new) (.cons keep_val (.cons keep_box AllKeep.nil))))))))))))) (.free free_val (.free free_val (.free free_val (.free free_val (.free free_val (.free free_val (.free free_val (.free free_box (.free free_new (.link free_new (by decide) (.link free_new (by decide) (.free free_val (.free free_box AllLoc.nil))))))))))))) (.cons own_box (.cons own_new (.cons own_box AllOwn.nil))) (by kernel_rfl) ?_ ?_
      · skip
        simp only [List.take]
        refine RulesL.cons (fun vs => { tmps := #[.slice ap ds.length cp, .string (bs la), .string (bs lb), undef, undef, undef, u128 6, .pointer (some ⟨g6, 0, none⟩), .int .i64 ((k : Nat) : Int), .string (bs (ds.getD k [])), u128 10, u128 11, undef, undef, undef, undef, undef, undef, undef, undef, .agg ([.int .i64 0, .slice none 0 0]).toArray, .slice ap ds.length cp, .int .i64 ((ds.length : Nat) : Int), .int .i64 ((k : Nat) : Int), .bool true, .int .i64 ((k : Nat) : Int), .pointer (ap.map (·.add k)), .string (bs (ds.getD k [])), .int .i64 ((k : Nat) : Int), .bool false, u128 30, u128 31, u128 32, u128 33, u128 34, u128 35, u128 36, u128 37, u128 38, u128 39, u128 40, u128 41, u128 42, u128 43, u128 44, u128 45, undef, undef, undef, undef, undef, undef, undef, undef, undef, undef, undef, undef, undef, undef, undef, undef, undef, undef, undef, undef, undef, undef, undef, undef, undef, undef, undef, undef, undef, undef, undef, undef, undef, undef, undef, undef, undef, undef, undef, undef, undef, undef, undef, undef, undef, undef, undef, undef, undef, undef, undef, undef, undef, undef, undef, undef, undef, undef, undef, undef, undef, undef, undef, undef, undef, undef, undef, undef, undef, undef, undef], defers := [] }) (by kernel_rfl) ?_ ?_
        · skip
          intro vs gs W148 SW148 D K9 hK9
          replace M := M.sees SW148
          dsimp only at hK9
          dsimp only
          refine wpL_chunk 1 (by rfl) (fun Lk hLk => ?_)
          simp only [List.take, List.drop]
          refine wpV_load (cs := [.int .i64 ((k : Nat) : Int), .slice ar ((partsL (lvD 50 ds k)).length) cr]) (by rfl) rfl rfl (M.r 0 0 rfl rfl) (M.lt 0 rfl) Tryd.underlying66 rfl info66 ?_
          simp only [putT, List.set]
          refine wpV_nil (hLk _ (fun w149 Sw149 => ?_))
          clear hLk Lk
          simp only [List.take, List.drop]
          replace M := M.sees Sw149
          refine wpL_nil (then_normal ?_)
          have h8 := hK9 (.agg ([.int .i64 ((k : Nat) : Int), .slice ar ((partsL (lvD 50 ds k)).length) cr]).toArray)
          have h9 := h8 0 _ Sw149 rfl (fun h => absurd h (by decide))
          simp only [putT, List.set] at h9
          exact h9
        refine RulesL.cons (fun vs => { tmps := #[.slice ap ds.length cp, .string (bs la), .string (bs lb), undef, undef, undef, u128 6, .pointer (some ⟨g6, 0, none⟩), .int .i64 ((k : Nat) : Int), .string (bs (ds.getD k [])), u128 10, u128 11, undef, undef, undef, undef, undef, undef, undef, undef, .agg ([.int .i64 0, .slice none 0 0]).toArray, .slice ap ds.length cp, .int .i64 ((ds.length : Nat) : Int), .int .i64 ((k : Nat) : Int), .bool true, .int .i64 ((k : Nat) : Int), .pointer (ap.map (·.add k)), .string (bs (ds.getD k [])), .int .i64 ((k : Nat) : Int), .bool false, u128 30, u128 31, u128 32, u128 33, u128 34, u128 35, u128 36, u128 37, u128 38, u128 39, u128 40, u128 41, u128 42, u128 43, u128 44, u128 45, undef, undef, undef, undef, undef, undef, undef, undef, undef, undef, undef, undef, undef, undef, undef, undef, undef, undef, undef, undef, undef, undef, undef, undef, undef, undef, undef, undef, undef, undef, undef, undef, undef, undef, undef, undef, undef, undef, undef, undef, undef, undef, undef, undef, undef, undef, undef, undef, undef, undef, undef, undef, undef, undef, undef, undef, undef, undef, undef, undef, undef, undef, undef, undef, undef, undef, undef, undef, undef, undef, undef], defers := [] }) (by kernel_rfl) ?_ ?_
        · skip
          intro vs gs W150 SW150 D K9 hK9
          replace M := M.sees SW150
          dsimp only at hK9
          dsimp only
          refine wpL_move (v := .string (bs (ds.getD k []))) (by rfl) (by rfl) (by rfl) ?_
          simp only [putT, List.set]
          refine wpL_nil (then_normal ?_)
          have h8 := hK9 (.string (bs (ds.getD k [])))
          have h9 := h8 0 _ (sees_refl _) rfl (fun h => absurd h (by decide))
          simp only [putT, List.set] at h9
          exact h9
        refine RulesL.cons (fun vs => { tmps := #[.slice ap ds.length cp, .string (bs la), .string (bs lb), undef, undef, undef, u128 6, .pointer (some ⟨g6, 0, none⟩), .int .i64 ((k : Nat) : Int), .string (bs (ds.getD k [])), u128 10, u128 11, undef, undef, undef, undef, undef, undef, undef, undef, .agg ([.int .i64 0, .slice none 0 0]).toArray, .slice ap ds.length cp, .int .i64 ((ds.length : Nat) : Int), .int .i64 ((k : Nat) : Int), .bool true, .int .i64 ((k : Nat) : Int), .pointer (ap.map (·.add k)), .string (bs (ds.getD k [])), .int .i64 ((k : Nat) : Int), .bool false, u128 30, u128 31, u128 32, u128 33, u128 34, u128 35, u128 36, u128 37, u128 38, u128 39, u128 40, u128 41, u128 42, u128 43, u128 44, u128 45, undef, undef, undef, undef, undef, undef, undef, undef, undef, undef, undef, undef, undef, undef, undef, undef, undef, undef, undef, undef, undef, undef, undef, undef, undef, undef, undef, undef, undef, undef, undef, undef, undef, undef, undef, undef, undef, undef, undef, undef, undef, undef, undef, undef, undef, undef, undef, undef, undef, undef, undef, undef, undef, undef, undef, undef, undef, undef, undef, undef, undef, undef, undef, undef, undef, undef, undef, undef, undef, undef, undef], defers := [] }) (by kernel_rfl) ?_ ?_
        · skip
          intro vs gs W151 SW151 D K9 hK9
          replace M := M.sees SW151
          dsimp only at hK9
          dsimp only
          refine wpL_move (v := .string (bs (ds.getD k []))) (by rfl) (by rfl) (by rfl) ?_
          simp only [putT, List.set]
          refine wpL_nil (then_normal ?_)
          have h8 := hK9 (.string (bs (ds.getD k [])))
          have h9 := h8 0 _ (sees_refl _) rfl (fun h => absurd h (by decide))
          simp only [putT, List.set] at h9
          exact h9
        refine RulesL.cons (fun vs => { tmps := #[.slice ap ds.length cp, .string (bs la), .string (bs lb), undef, undef, undef, u128 6, .pointer (some ⟨g6, 0, none⟩), .int .i64 ((k : Nat) : Int), .string (bs (ds.getD k [])), u128 10, u128 11, undef, undef, undef, undef, undef, undef, undef, undef, .agg ([.int .i64 0, .slice none 0 0]).toArray, .slice ap ds.length cp, .int .i64 ((ds.length : Nat) : Int), .int .i64 ((k : Nat) : Int), .bool true, .int .i64 ((k : Nat) : Int), .pointer (ap.map (·.add k)), .string (bs (ds.getD k [])), .int .i64 ((k : Nat) : Int), .bool false, u128 30, u128 31, u128 32, vs 2, u128 34, u128 35, u128 36, u128 37, u128 38, u128 39, u128 40, u128 41, u128 42, u128 43, u128 44, u128 45, undef, undef, undef, undef, undef, undef, undef, undef, undef, undef, undef, undef, undef, undef, undef, undef, undef, undef, undef, undef, undef, undef, undef, undef, undef, undef, undef, undef, undef, undef, undef, undef, undef, undef, undef, undef, undef, undef, undef, undef, undef, undef, undef, undef, undef, undef, undef, undef, undef, undef, undef, undef, undef, undef, undef, undef, undef, undef, undef, undef, undef, undef, undef, undef, undef, undef, undef, undef, undef, undef, undef], defers := [] }) (by kernel_rfl) ?_ ?_
        · skip
          intro vs gs W152 SW152 D K9 hK9
          replace M := M.sees SW152
          obtain ⟨D2, _⟩ := D
          have e2 : vs 2 = .string (bs (ds.getD k [])) := D2
          dsimp only at hK9
          dsimp only
          rw [e2] at hK9 ⊢
          refine wpL_chunk 1 (by rfl) (fun Lk hLk => ?_)
          simp only [List.take, List.drop]
          refine wpV_lenS (by rfl) rfl rfl rfl Tryd.underlying9 ?_
          simp only [putT, List.set]
          refine wpV_nil (hLk _ (fun w153 Sw153 => ?_))
          clear hLk Lk
          simp only [List.take, List.drop]
          replace M := M.sees Sw153
          refine wpL_nil (then_normal ?_)
          have h8 := hK9 (.int .i64 (((ds.getD k []).length : Nat) : Int))
          have h9 := h8 0 _ Sw153 rfl (fun h => absurd h (by decide))
          simp only [putT, List.set] at h9
          exact h9
        refine RulesL.cons (fun vs => { tmps := #[.slice ap ds.length cp, .string (bs la), .string (bs lb), undef, undef, undef, u128 6, .pointer (some ⟨g6, 0, none⟩), .int .i64 ((k : Nat) : Int), .string (bs (ds.getD k [])), u128 10, u128 11, undef, undef, undef, undef, undef, undef, undef, undef, .agg ([.int .i64 0, .slice none 0 0]).toArray, .slice ap ds.length cp, .int .i64 ((ds.length : Nat) : Int), .int .i64 ((k : Nat) : Int), .bool true, .int .i64 ((k : Nat) : Int), .pointer (ap.map (·.add k)), .string (bs (ds.getD k [])), .int .i64 ((k : Nat) : Int), .bool false, u128 30, u128 31, u128 32, u128 33, vs 3, u128 35, u128 36, u128 37, u128 38, u128 39, u128 40, u128 41, u128 42, u128 43, u128 44, u128 45, undef, undef, undef, undef, undef, undef, undef, undef, undef, undef, undef, undef, undef, undef, undef, undef, undef, undef, undef, undef, undef, undef, undef, undef, undef, undef, undef, undef, undef, undef, undef, undef, undef, undef, undef, undef, undef, undef, undef, undef, undef, undef, undef, undef, undef, undef, undef, undef, undef, undef, undef, undef, undef, undef, undef, undef, undef, undef, undef, undef, undef, undef, undef, undef, undef, undef, undef, undef, undef, undef, undef], defers := [] }) (by kernel_rfl) ?_ ?_
        · skip
          intro vs gs W154 SW154 D K9 hK9
          replace M := M.sees SW154
          obtain ⟨D3, _⟩ := D
          have e3 : vs 3 = .int .i64 (((ds.getD k []).length : Nat) : Int) := D3
          dsimp only at hK9
          dsimp only
          rw [e3] at hK9 ⊢
          refine wpL_chunk 1 (by rfl) (fun Lk hLk => ?_)
          simp only [List.take, List.drop]
          refine wpV_min (n := (ds.getD k []).length) (m := 50) (by rfl) rfl rfl rfl ?_
          simp only [putT, List.set]
          refine wpV_nil (hLk _ (fun w155 Sw155 => ?_))
          clear hLk Lk
          simp only [List.take, List.drop]
          replace M := M.sees Sw155
          refine wpL_nil (then_normal ?_)
          have h8 := hK9 (.int .i64 ((min ((ds.getD k []).length) 50 : Nat) : Int))
          have h9 := h8 0 _ Sw155 rfl (fun h => absurd h (by decide))
          simp only [putT, List.set] at h9
          exact h9
        refine RulesL.cons (fun vs => { tmps := #[.slice ap ds.length cp, .string (bs la), .string (bs lb), undef, undef, undef, u128 6, .pointer (some ⟨g6, 0, none⟩), .int .i64 ((k : Nat) : Int), .string (bs (ds.getD k [])), u128 10, u128 11, undef, undef, undef, undef, undef, undef, undef, undef, .agg ([.int .i64 0, .slice none 0 0]).toArray, .slice ap ds.length cp, .int .i64 ((ds.length : Nat) : Int), .int .i64 ((k : Nat) : Int), .bool true, .int .i64 ((k : Nat) : Int), .pointer (ap.map (·.add k)), .string (bs (ds.getD k [])), .int .i64 ((k : Nat) : Int), .bool false, u128 30, u128 31, vs 1, u128 33, u128 34, vs 4, u128 36, u128 37, u128 38, u128 39, u128 40, u128 41, u128 42, u128 43, u128 44, u128 45, undef, undef, undef, undef, undef, undef, undef, undef, undef, undef, undef, undef, undef, undef, undef, undef, undef, undef, undef, undef, undef, undef, undef, undef, undef, undef, undef, undef, undef, undef, undef, undef, undef, undef, undef, undef, undef, undef, undef, undef, undef, undef, undef, undef, undef, undef, undef, undef, undef, undef, undef, undef, undef, undef, undef, undef, undef, undef, undef, undef, undef, undef, undef, undef, undef, undef, undef, undef, undef, undef, undef], defers := [] }) (by kernel_rfl) ?_ ?_
        · skip
          intro vs gs W156 SW156 D K9 hK9
          replace M := M.sees SW156
          obtain ⟨D1, D4, _⟩ := D
          have e1 : vs 1 = .string (bs (ds.getD k [])) := D1
          have e4 : vs 4 = .int .i64 ((min ((ds.getD k []).length) 50 : Nat) : Int) := D4
          dsimp only at hK9
          dsimp only
          rw [e1, e4] at hK9 ⊢
          refine wpL_chunk 1 (by rfl) (fun Lk hLk => ?_)
          simp only [List.take, List.drop]
          refine wpV_cut (l := ds.getD k []) (m := 50) (by rfl) rfl rfl rfl Tryd.underlying9 ?_
          simp only [putT, List.set]
          refine wpV_nil (hLk _ (fun w157 Sw157 => ?_))
          clear hLk Lk
          simp only [List.take, List.drop]
          replace M := M.sees Sw157
          refine wpL_nil (then_normal ?_)
          have h8 := hK9 (.string (bs (cut (ds.getD k []) 50)))
          have h9 := h8 0 _ Sw157 rfl (fun h => absurd h (by decide))
          simp only [putT, List.set] at h9
          exact h9
        refine RulesL.cons (fun vs => { tmps := #[.slice ap ds.length cp, .string (bs la), .string (bs lb), undef, undef, undef, u128 6, .pointer (some ⟨g6, 0, none⟩), .int .i64 ((k : Nat) : Int), .string (bs (ds.getD k [])), u128 10, u128 11, undef, undef, undef, undef, undef, undef, undef, undef, .agg ([.int .i64 0, .slice none 0 0]).toArray, .slice ap ds.length cp, .int .i64 ((ds.length : Nat) : Int), .int .i64 ((k : Nat) : Int), .bool true, .int .i64 ((k : Nat) : Int), .pointer (ap.map (·.add k)), .string (bs (ds.getD k [])), .int .i64 ((k : Nat) : Int), .bool false, u128 30, u128 31, u128 32, u128 33, u128 34, u128 35, vs 5, u128 37, u128 38, u128 39, u128 40, u128 41, u128 42, u128 43, u128 44, u128 45, undef, undef, undef, undef, undef, undef, undef, undef, undef, undef, undef, undef, undef, undef, undef, undef, undef, undef, undef, undef, undef, undef, undef, undef, undef, undef, undef, undef, undef, undef, undef, undef, undef, undef, undef, undef, undef, undef, undef, undef, undef, undef, undef, undef, undef, undef, undef, undef, undef, undef, undef, undef, undef, undef, undef, undef, undef, undef, undef, undef, undef, undef, undef, undef, undef, undef, undef, undef, undef, undef, undef], defers := [] }) (by kernel_rfl) ?_ ?_
        · skip
          intro vs gs W158 SW158 D K9 hK9
          replace M := M.sees SW158
          obtain ⟨D5, _⟩ := D
          have e5 : vs 5 = .string (bs (cut (ds.getD k []) 50)) := D5
          dsimp only at hK9
          dsimp only
          rw [e5] at hK9 ⊢
          refine wpL_chunk 1 (by rfl) (fun Lk hLk => ?_)
          simp only [List.take, List.drop]
          refine wpV_callf (v := .string (bs (leafS (cut (ds.getD k []) 50)))) (args := #[.string (bs (cut (ds.getD k []) 50))]) (by rfl) rfl Tryd.func38 (by kernel_rfl) (by kernel_rfl) rfl (fun W hW => leaf_c (d := cut (ds.getD k []) 50) (by have := cut_len (ds.getD k []) 50; omega) ((M.sees hW).oldL L0) ((M.sees hW).oldG R0_0 L0 NI0)) ?_
          simp only [putT, List.set]
          refine wpV_nil (hLk _ (fun w159 Sw159 => ?_))
          clear hLk Lk
          simp only [List.take, List.drop]
          replace M := M.sees Sw159
          refine wpL_nil (then_normal ?_)
          have h8 := hK9 (.string (bs (leafS (cut (ds.getD k []) 50))))
          have h9 := h8 0 _ Sw159 rfl (fun h => absurd h (by decide))
          simp only [putT, List.set] at h9
          exact h9
        refine RulesL.cons (fun vs => { tmps := #[.slice ap ds.length cp, .string (bs la), .string (bs lb), undef, undef, undef, u128 6, .pointer (some ⟨g6, 0, none⟩), .int .i64 ((k : Nat) : Int), .string (bs (ds.getD k [])), u128 10, u128 11, undef, undef, undef, undef, undef, undef, undef, undef, .agg ([.int .i64 0, .slice none 0 0]).toArray, .slice ap ds.length cp, .int .i64 ((ds.length : Nat) : Int), .int .i64 ((k : Nat) : Int), .bool true, .int .i64 ((k : Nat) : Int), .pointer (ap.map (·.add k)), .string (bs (ds.getD k [])), .int .i64 ((k : Nat) : Int), .bool false, u128 30, u128 31, u128 32, u128 33, u128 34, u128 35, u128 36, vs 6, u128 38, u128 39, u128 40, u128 41, u128 42, u128 43, u128 44, u128 45, undef, undef, undef, undef, undef, undef, undef, undef, undef, undef, undef, undef, undef, undef, undef, undef, undef, undef, undef, undef, undef, undef, undef, undef, undef, undef, undef, undef, undef, undef, undef, undef, undef, undef, undef, undef, undef, undef, undef, undef, undef, undef, undef, undef, undef, undef, undef, undef, undef, undef, undef, undef, undef, undef, undef, undef, undef, undef, undef, undef, undef, undef, undef, undef, undef, undef, undef, undef, undef, undef, undef], defers := [] }) (by kernel_rfl) ?_ ?_
        · skip
          intro vs gs W160 SW160 D K9 hK9
          replace M := M.sees SW160
          replace R0_0 := (M.oldG R0_0 L0 NI0)
          replace L0 := M.oldL L0
          have Rg6_0 := M.r 0 0 rfl rfl
          have Lg6 := M.lt 0 rfl
          replace Hp := M.oldN Hp
          replace Hr := M.oldN Hr
          replace M := Mem.start W160
          obtain ⟨D6, _⟩ := D
          have e6 : vs 6 = .string (bs (leafS (cut (ds.getD k []) 50))) := D6
          dsimp only at hK9
          dsimp only
          rw [e6] at hK9 ⊢
          refine wpL_rowN (vs := [.string (bs (leafS (cut (ds.getD k []) 50)))]) (z := .string { data := #[] }) (bytes := 16) (by rfl) (by rfl) Tryd.underlying48 (by kernel_rfl) (by decide) (by kernel_rfl) (fun g161 w162 Sw162 Hg161 Bg161 => ?_)
          replace M := ((M.sees Sw162).add (N := 1) (cs := [.string (bs (leafS (cut (ds.getD k []) 50)))]) (M.ge Hg161) (M.fresh Hg161) Bg161 rfl)
          clear Bg161
          simp only [putT, List.set]
          refine wpL_nil (then_normal ?_)
          have h8 := hK9 (.slice (some ⟨g161, 0, none⟩) 1 1)
          have h9 := h8 g161 _ M.seesAll ⟨rfl, (M.ok _ (.head _)).up SW160⟩ (fun _ => (M.ok _ (.head _)).ge)
          simp only [putT, List.set] at h9
          exact h9
        refine RulesL.cons (fun vs => { tmps := #[.slice ap ds.length cp, .string (bs la), .string (bs lb), undef, undef, undef, u128 6, .pointer (some ⟨g6, 0, none⟩), .int .i64 ((k : Nat) : Int), .string (bs (ds.getD k [])), u128 10, u128 11, undef, undef, undef, undef, undef, undef, undef, undef, .agg ([.int .i64 0, .slice none 0 0]).toArray, .slice ap ds.length cp, .int .i64 ((ds.length : Nat) : Int), .int .i64 ((k : Nat) : Int), .bool true, .int .i64 ((k : Nat) : Int), .pointer (ap.map (·.add k)), .string (bs (ds.getD k [])), .int .i64 ((k : Nat) : Int), .bool false, u128 30, vs 0, u128 32, u128 33, u128 34, u128 35, u128 36, u128 37, vs 7, u128 39, u128 40, u128 41, u128 42, u128 43, u128 44, u128 45, undef, undef, undef, undef, undef, undef, undef, undef, undef, undef, undef, undef, undef, undef, undef, undef, undef, undef, undef, undef, undef, undef, undef, undef, undef, undef, undef, undef, undef, undef, undef, undef, undef, undef, undef, undef, undef, undef, undef, undef, undef, undef, undef, undef, undef, undef, undef, undef, undef, undef, undef, undef, undef, undef, undef, undef, undef, undef, undef, undef, undef, undef, undef, undef, undef, undef, undef, undef, undef, undef, undef], defers := [] }) (by kernel_rfl) ?_ ?_
        · skip
          intro vs gs W163 SW163 D K9 hK9
          replace M := M.sees SW163
          replace R0_0 := (M.oldG R0_0 L0 NI0)
          replace L0 := M.oldL L0
          have Rg6_0 := M.r 0 0 rfl rfl
          have Lg6 := M.lt 0 rfl
          replace Hp := M.oldN Hp
          replace Hr := M.oldN Hr
          replace M := Mem.start W163
          obtain ⟨D0, D7, _⟩ := D
          have e0 : vs 0 = .agg ([.int .i64 ((k : Nat) : Int), .slice ar ((partsL (lvD 50 ds k)).length) cr]).toArray := D0
          obtain ⟨e7, Og164⟩ := D7
          generalize gs 7 = g164 at *
          replace e7 : vs 7 = .slice (some ⟨g164, 0, none⟩) 1 1 := e7
          have Rg164_0 := Og164.range (0, [.string (bs (leafS (cut (ds.getD k []) 50)))]) (by simp only [List.mem_cons, true_or, or_true])
          have Lg164 := Og164.lt
          dsimp only at hK9
          dsimp only
          rw [e0, e7] at hK9 ⊢
          refine wpL_callE (f := 55) (args := #[.agg ([.int .i64 ((k : Nat) : Int), .slice ar ((partsL (lvD 50 ds k)).length) cr]).toArray, .slice (some ⟨g164, 0, none⟩) 1 1]) (R := fun v9 W9 => ∃ g166 g166c, v9 = .tuple #[.agg ([.int .i64 ((k + 1 : Nat) : Int), .slice (some ⟨g166, 0, none⟩) ((partsL (lvD 50 ds (k + 1))).length) g166c]).toArray, .int .i64 0] ∧ (partsL (lvD 50 ds (k + 1))).length ≤ g166c ∧ Mem [] W163 W9 [⟨g166, g166c, [(0, scells (partsL (lvD 50 ds (k + 1))))]⟩]) (by rfl) (by rfl) rfl Tryd.func55 (by kernel_rfl) (by kernel_rfl) (by have h9 := Add_parts (L := lvD 50 ds k) (ls := [leafS (cut (ds.getD k []) 50)]) (m := k) (w := W163) (lvD_len hkl) (by simp; omega) (lvD_32 _ _ _) leaf32 (by simp) (M.oldL L0) (M.oldR R0_0 L0) (M.oldA Hr) (RowA.of (M.oldR Rg164_0 Lg164) (M.oldL Lg164) rfl (Nat.le_refl _)); rw [lvD_step hk] at h9; exact h9) (fun v9 w165 hv9 Sw165 => ?_)
          obtain ⟨g166, g166c, rfl, Cg166, M9⟩ := hv9
          replace M := M.call1 M9
          clear Sw165
          simp only [putT, List.set]
          refine wpL_nil (then_normal ?_)
          have h8 := hK9 (.tuple #[.agg ([.int .i64 ((k + 1 : Nat) : Int), .slice (some ⟨g166, 0, none⟩) ((partsL (lvD 50 ds (k + 1))).length) g166c]).toArray, .int .i64 0])
          have h9 := h8 g166 _ M.seesAll ⟨g166c, rfl, Cg166, (M.ok _ (.head _)).up SW163⟩ (fun _ => (M.ok _ (.head _)).ge)
          simp only [putT, List.set] at h9
          exact h9
        refine RulesL.cons (fun vs => { tmps := #[.slice ap ds.length cp, .string (bs la), .string (bs lb), undef, undef, undef, u128 6, .pointer (some ⟨g6, 0, none⟩), .int .i64 ((k : Nat) : Int), .string (bs (ds.getD k [])), u128 10, u128 11, undef, undef, undef, undef, undef, undef, undef, undef, .agg ([.int .i64 0, .slice none 0 0]).toArray, .slice ap ds.length cp, .int .i64 ((ds.length : Nat) : Int), .int .i64 ((k : Nat) : Int), .bool true, .int .i64 ((k : Nat) : Int), .pointer (ap.map (·.add k)), .string (bs (ds.getD k [])), .int .i64 ((k : Nat) : Int), .bool false, u128 30, u128 31, u128 32, u128 33, u128 34, u128 35, u128 36, u128 37, u128 38, vs 8, u128 40, u128 41, u128 42, u128 43, u128 44, u128 45, undef, undef, undef, undef, undef, undef, undef, undef, undef, undef, undef, undef, undef, undef, undef, undef, undef, undef, undef, undef, undef, undef, undef, undef, undef, undef, undef, undef, undef, undef, undef, undef, undef, undef, undef, undef, undef, undef, undef, undef, undef, undef, undef, undef, undef, undef, undef, undef, undef, undef, undef, undef, undef, undef, undef, undef, undef, undef, undef, undef, undef, undef, undef, undef, undef, undef, undef, undef, undef, undef, undef], defers := [] }) (by kernel_rfl) ?_ ?_
        · skip
          intro vs gs W167 SW167 D K9 hK9
          replace M := M.sees SW167
          replace R0_0 := (M.oldG R0_0 L0 NI0)
          replace L0 := M.oldL L0
          have Rg6_0 := M.r 0 0 rfl rfl
          have Lg6 := M.lt 0 rfl
          replace Hp := M.oldN Hp
          replace Hr := M.oldN Hr
          replace M := Mem.start W167
          obtain ⟨D8, _⟩ := D
          obtain ⟨g168c, e8, Cg168, Og168⟩ := D8
          generalize gs 8 = g168 at *
          replace e8 : vs 8 = .tuple #[.agg ([.int .i64 ((k + 1 : Nat) : Int), .slice (some ⟨g168, 0, none⟩) ((partsL (lvD 50 ds (k + 1))).length) g168c]).toArray, .int .i64 0] := e8
          have Rg168_0 := Og168.range (0, scells (partsL (lvD 50 ds (k + 1)))) (by simp only [List.mem_cons, true_or, or_true])
          have Lg168 := Og168.lt
          dsimp only at hK9
          dsimp only
          rw [e8] at hK9 ⊢
          refine wpL_move (v := .tuple #[.agg ([.int .i64 ((k + 1 : Nat) : Int), .slice (some ⟨g168, 0, none⟩) ((partsL (lvD 50 ds (k + 1))).length) g168c]).toArray, .int .i64 0]) (by rfl) (by rfl) (by rfl) ?_
          simp only [putT, List.set]
          refine wpL_nil (then_normal ?_)
          have h8 := hK9 (.tuple #[.agg ([.int .i64 ((k + 1 : Nat) : Int), .slice (some ⟨g168, 0, none⟩) ((partsL (lvD 50 ds (k + 1))).length) g168c]).toArray, .int .i64 0])
          have h9 := h8 g168 _ (sees_refl _) ⟨(congrArg (fun x => x) e8).symm, g168c, rfl, Cg168, Og168⟩ (fun h => absurd h (by decide))
          simp only [putT, List.set] at h9
          exact h9
        refine RulesL.cons (fun vs => { tmps := #[.slice ap ds.length cp, .string (bs la), .string (bs lb), undef, undef, undef, u128 6, .pointer (some ⟨g6, 0, none⟩), .int .i64 ((k : Nat) : Int), .string (bs (ds.getD k [])), u128 10, u128 11, undef, undef, undef, undef, undef, undef, undef, undef, .agg ([.int .i64 0, .slice none 0 0]).toArray, .slice ap ds.length cp, .int .i64 ((ds.length : Nat) : Int), .int .i64 ((k : Nat) : Int), .bool true, .int .i64 ((k : Nat) : Int), .pointer (ap.map (·.add k)), .string (bs (ds.getD k [])), .int .i64 ((k : Nat) : Int), .bool false, vs 9, u128 31, u128 32, u128 33, u128 34, u128 35, u128 36, u128 37, u128 38, u128 39, u128 40, u128 41, u128 42, u128 43, u128 44, u128 45, undef, undef, undef, undef, undef, undef, undef, undef, undef, undef, undef, undef, undef, undef, undef, undef, undef, undef, undef, undef, undef, undef, undef, undef, undef, undef, undef, undef, undef, undef, undef, undef, undef, undef, undef, undef, undef, undef, undef, undef, undef, undef, undef, undef, undef, undef, undef, undef, undef, undef, undef, undef, undef, undef, undef, undef, undef, undef, undef, undef, undef, undef, undef, undef, undef, undef, undef, undef, undef, undef, undef], defers := [] }) (by kernel_rfl) ?_ ?_
        · skip
          intro vs gs W169 SW169 D K9 hK9
          replace M := M.sees SW169
          replace R0_0 := (M.oldG R0_0 L0 NI0)
          replace L0 := M.oldL L0
          have Rg6_0 := M.r 0 0 rfl rfl
          have Lg6 := M.lt 0 rfl
          replace Hp := M.oldN Hp
          replace Hr := M.oldN Hr
          replace M := Mem.start W169
          obtain ⟨D9, _⟩ := D
          obtain ⟨_, g170c, e9, Cg170, Og170⟩ := D9
          generalize gs 9 = g170 at *
          replace e9 : vs 9 = .tuple #[.agg ([.int .i64 ((k + 1 : Nat) : Int), .slice (some ⟨g170, 0, none⟩) ((partsL (lvD 50 ds (k + 1))).length) g170c]).toArray, .int .i64 0] := e9
          have Rg170_0 := Og170.range (0, scells (partsL (lvD 50 ds (k + 1)))) (by simp only [List.mem_cons, true_or, or_true])
          have Lg170 := Og170.lt
          dsimp only at hK9
          dsimp only
          rw [e9] at hK9 ⊢
          refine wpL_chunk 1 (by rfl) (fun Lk hLk => ?_)
          simp only [List.take, List.drop]
          refine wpV_extract (v := .agg ([.int .i64 ((k + 1 : Nat) : Int), .slice (some ⟨g170, 0, none⟩) ((partsL (lvD 50 ds (k + 1))).length) g170c]).toArray) (by rfl) rfl rfl rfl ?_
          simp only [putT, List.set]
          refine wpV_nil (hLk _ (fun w171 Sw171 => ?_))
          clear hLk Lk
          simp only [List.take, List.drop]
          replace M := M.sees Sw171
          refine wpL_nil (then_normal ?_)
          have h8 := hK9 (.agg ([.int .i64 ((k + 1 : Nat) : Int), .slice (some ⟨g170, 0, none⟩) ((partsL (lvD 50 ds (k + 1))).length) g170c]).toArray)
          have h9 := h8 g170 _ M.seesAll ⟨(congrArg (partF 0) e9).symm, g170c, rfl, Cg170, (Og170.mono M.seesAll)⟩ (fun h => absurd h (by decide))
          simp only [putT, List.set] at h9
          exact h9
        refine RulesL.cons (fun vs => { tmps := #[.slice ap ds.length cp, .string (bs la), .string (bs lb), undef, undef, undef, u128 6, .pointer (some ⟨g6, 0, none⟩), .int .i64 ((k : Nat) : Int), .string (bs (ds.getD k [])), u128 10, u128 11, undef, undef, undef, undef, undef, undef, undef, undef, .agg ([.int .i64 0, .slice none 0 0]).toArray, .slice ap ds.length cp, .int .i64 ((ds.length : Nat) : Int), .int .i64 ((k : Nat) : Int), .bool true, .int .i64 ((k : Nat) : Int), .pointer (ap.map (·.add k)), .string (bs (ds.getD k [])), .int .i64 ((k : Nat) : Int), .bool false, vs 9, u128 31, u128 32, u128 33, u128 34, u128 35, u128 36, u128 37, u128 38, u128 39, u128 40, u128 41, u128 42, u128 43, u128 44, u128 45, undef, undef, undef, undef, undef, undef, undef, undef, undef, undef, undef, undef, undef, undef, undef, undef, undef, undef, undef, undef, undef, undef, undef, undef, undef, undef, undef, undef, undef, undef, undef, undef, undef, undef, undef, undef, undef, undef, undef, undef, undef, undef, undef, undef, undef, undef, undef, undef, undef, undef, undef, undef, undef, undef, undef, undef, undef, undef, undef, undef, undef, undef, undef, undef, undef, undef, undef, undef, undef, undef, undef], defers := [] }) (by kernel_rfl) ?_ ?_
        · skip
          intro vs gs W172 SW172 D K9 hK9
          replace M := M.sees SW172
          replace R0_0 := (M.oldG R0_0 L0 NI0)
          replace L0 := M.oldL L0
          have Rg6_0 := M.r 0 0 rfl rfl
          have Lg6 := M.lt 0 rfl
          replace Hp := M.oldN Hp
          replace Hr := M.oldN Hr
          replace M := Mem.start W172
          obtain ⟨D9, _⟩ := D
          obtain ⟨_, g173c, e9, Cg173, Og173⟩ := D9
          generalize gs 9 = g173 at *
          replace e9 : vs 9 = .tuple #[.agg ([.int .i64 ((k + 1 : Nat) : Int), .slice (some ⟨g173, 0, none⟩) ((partsL (lvD 50 ds (k + 1))).length) g173c]).toArray, .int .i64 0] := e9
          have Rg173_0 := Og173.range (0, scells (partsL (lvD 50 ds (k + 1)))) (by simp only [List.mem_cons, true_or, or_true])
          have Lg173 := Og173.lt
          dsimp only at hK9
          dsimp only
          rw [e9] at hK9 ⊢
          refine wpL_chunk 1 (by rfl) (fun Lk hLk => ?_)
          simp only [List.take, List.drop]
          refine wpV_extract (v := .int .i64 0) (by rfl) rfl rfl rfl ?_
          simp only [putT, List.set]
          refine wpV_nil (hLk _ (fun w174 Sw174 => ?_))
          clear hLk Lk
          simp only [List.take, List.drop]
          replace M := M.sees Sw174
          refine wpL_nil (then_normal ?_)
          have h8 := hK9 (.int .i64 0)
          have h9 := h8 0 _ M.seesAll rfl (fun h => absurd h (by decide))
          simp only [putT, List.set] at h9
          exact h9
        refine RulesL.cons (fun vs => { tmps := #[.slice ap ds.length cp, .string (bs la), .string (bs lb), undef, undef, undef, u128 6, .pointer (some ⟨g6, 0, none⟩), .int .i64 ((k : Nat) : Int), .string (bs (ds.getD k [])), u128 10, u128 11, undef, undef, undef, undef, undef, undef, undef, undef, .agg ([.int .i64 0, .slice none 0 0]).toArray, .slice ap ds.length cp, .int .i64 ((ds.length : Nat) : Int), .int .i64 ((k : Nat) : Int), .bool true, .int .i64 ((k : Nat) : Int), .pointer (ap.map (·.add k)), .string (bs (ds.getD k [])), .int .i64 ((k : Nat) : Int), .bool false, u128 30, u128 31, u128 32, u128 33, u128 34, u128 35, u128 36, u128 37, u128 38, u128 39, u128 40, u128 41, u128 42, u128 43, u128 44, u128 45, undef, undef, undef, undef, undef, undef, undef, undef, undef, undef, undef, undef, undef, undef, undef, undef, undef, undef, undef, undef, undef, undef, undef, undef, undef, undef, undef, undef, undef, undef, undef, undef, undef, undef, undef, undef, undef, undef, undef, undef, undef, undef, undef, undef, undef, undef, undef, undef, undef, undef, undef, undef, undef, undef, undef, undef, undef, undef, undef, undef, undef, undef, undef, undef, undef, undef, undef, undef, undef, undef, undef], defers := [] }) (by kernel_rfl) ?_ ?_
        · skip
          intro vs gs W175 SW175 D K9 hK9
          replace M := M.sees SW175
          replace R0_0 := (M.oldG R0_0 L0 NI0)
          replace L0 := M.oldL L0
          have Rg6_0 := M.r 0 0 rfl rfl
          have Lg6 := M.lt 0 rfl
          replace Hp := M.oldN Hp
          replace Hr := M.oldN Hr
          replace M := Mem.start W175
          dsimp only at hK9
          dsimp only
          refine wpL_var (t := 66) (cs := [.int .i64 0, .slice none 0 0]) (by rfl) (fun W => ?_) (fun g176 w177 Sw177 Hg176 Bg176 => ?_)
          · go_simp
          replace M := ((M.sees Sw177).add (N := 2) (cs := [.int .i64 0, .slice none 0 0]) (M.ge Hg176) (M.fresh Hg176) Bg176 rfl)
          clear Bg176
          simp only [putT, List.set]
          refine wpL_nil (then_normal ?_)
          have h8 := hK9 (.pointer (some ⟨g176, 0, none⟩))
          have h9 := h8 g176 _ M.seesAll ⟨rfl, (M.ok _ (.head _)).up SW175⟩ (fun _ => (M.ok _ (.head _)).ge)
          simp only [putT, List.set] at h9
          exact h9
        exact RulesL.nil
      intro vs gs W178 SW178 D A9
      obtain ⟨D0, D1, D2, D3, D4, D5, D6, D7, D8, D9, D10, D11, D12, _⟩ := (show DepRel _ vs gs W178 [0, 1, 2, 3, 4, 5, 6, 7, 8, 9, 10, 11, 12] from D)
      have n7_8 : gs 7 ≠ gs 8 := A9 7 8 (by decide) (by decide) (by decide) (by decide) (by decide)
      have n7_12 : gs 7 ≠ gs 12 := A9 7 12 (by decide) (by decide) (by decide) (by decide) (by decide)
      have n8_12 : gs 8 ≠ gs 12 := A9 8 12 (by decide) (by decide) (by decide) (by decide) (by decide)
      clear A9 D
      have e0 : vs 0 = .agg ([.int .i64 ((k : Nat) : Int), .slice ar ((partsL (lvD 50 ds k)).length) cr]).toArray := D0
      have e1 : vs 1 = .string (bs (ds.getD k [])) := D1
      have e2 : vs 2 = .string (bs (ds.getD k [])) := D2
      have e3 : vs 3 = .int .i64 (((ds.getD k []).length : Nat) : Int) := D3
      have e4 : vs 4 = .int .i64 ((min ((ds.getD k []).length) 50 : Nat) : Int) := D4
      have e5 : vs 5 = .string (bs (cut (ds.getD k []) 50)) := D5
      have e6 : vs 6 = .string (bs (leafS (cut (ds.getD k []) 50))) := D6
      obtain ⟨e7, Og179⟩ := D7
      generalize gs 7 = g179 at *
      replace e7 : vs 7 = .slice (some ⟨g179, 0, none⟩) 1 1 := e7
      obtain ⟨g180c, e8, Cg180, Og180⟩ := D8
      generalize gs 8 = g180 at *
      replace e8 : vs 8 = .tuple #[.agg ([.int .i64 ((k + 1 : Nat) : Int), .slice (some ⟨g180, 0, none⟩) ((partsL (lvD 50 ds (k + 1))).length) g180c]).toArray, .int .i64 0] := e8
      have e9 : vs 9 = .tuple #[.agg ([.int .i64 ((k + 1 : Nat) : Int), .slice (some ⟨g180, 0, none⟩) ((partsL (lvD 50 ds (k + 1))).length) g180c]).toArray, .int .i64 0] := D9.1.trans (congrArg (fun x => x) e8)
      have e10 : vs 10 = .agg ([.int .i64 ((k + 1 : Nat) : Int), .slice (some ⟨g180, 0, none⟩) ((partsL (lvD 50 ds (k + 1))).length) g180c]).toArray := D10.1.trans (congrArg (partF 0) e9)
      have e11 : vs 11 = .int .i64 0 := D11
      obtain ⟨e12, Og181⟩ := D12
      generalize gs 12 = g181 at *
      replace e12 : vs 12 = .pointer (some ⟨g181, 0, none⟩) := e12
      replace M := M.addOks SW178 [⟨g179, 1, [(0, [.string (bs (leafS (cut (ds.getD k []) 50)))])]⟩, ⟨g180, g180c, [(0, scells (partsL (lvD 50 ds (k + 1))))]⟩, ⟨g181, 2, [(0, [.int .i64 0, .slice none 0 0])]⟩] (List.forall_mem_cons.2 ⟨Og179, (List.forall_mem_cons.2 ⟨Og180, (List.forall_mem_cons.2 ⟨Og181, (fun _ h => nomatch h)⟩)⟩)⟩) (.cons (List.forall_mem_cons.2 ⟨n7_8, (List.forall_mem_cons.2 ⟨n7_12, (fun _ h => nomatch h)⟩)⟩) (.cons (List.forall_mem_cons.2 ⟨n8_12, (fun _ h => nomatch h)⟩) (.cons (fun _ h => nomatch h) .nil)))
      simp only [List.cons_append, List.nil_append] at M
      dsimp only
      simp only [e0, e1, e2, e3, e4, e5, e6, e7, e8, e9, e10, e11, e12, List.drop]
      refine wpL_store (g := g181) (off := 0) (n := 2) (cs := [.int .i64 ((k + 1 : Nat) : Int), .slice (some ⟨g180, 0, none⟩) ((partsL (lvD 50 ds (k + 1))).length) g180c]) (by rfl) (by rfl) (by rfl) (by rfl) (by rfl) (M.t 2 rfl) (by simp [flen]) info66 (by simp [fone, Value.oneCell']) (fun w182 P R T => ?_)
      replace M := M.putS 2 0 rfl P R T rfl ⟨.inl rfl, trivial⟩
      simp only [List.set] at M
      refine wpL_assign (v := .int .i64 0) (by rfl) (by rfl) (by rfl) ?_
      simp only [putT, List.set]
      refine wpL_nil (no_panic ?_)
      refine hK146 _ _ ?_
      refine wp_seq_k (fun K183 hK183 => ?_)
      refine wp_seq_k (fun K184 hK184 => ?_)
      refine wp_region_seq ?_
      refine wpL_move (v := .int .i64 0) (by rfl) (by rfl) (by rfl) ?_
      simp only [putT, List.set]
      refine wpL_chunk 1 (by rfl) (fun Lk hLk => ?_)
      simp only [List.take, List.drop]
      refine wpV_bin (v := .bool false) (by rfl) rfl rfl rfl (fun W => run_neq _ _ _ _ W) ?_
      simp only [putT, List.set]
      refine wpV_nil (hLk _ (fun w186 Sw186 => ?_))
      clear hLk Lk
      simp only [List.take, List.drop]
      replace M := M.sees Sw186
      refine wpL_nil (no_panic ?_)
      refine hK184 _ _ ?_
      refine wp_cond_false rfl ?_
      refine wp_skip ?_
      refine hK183 _ _ ?_
      refine wp_region_seq ?_
      refine wpL_chunk 1 (by rfl) (fun Lk hLk => ?_)
      simp only [List.take, List.drop]
      refine wpV_load (cs := [.int .i64 ((k + 1 : Nat) : Int), .slice (some ⟨g180, 0, none⟩) ((partsL (lvD 50 ds (k + 1))).length) g180c]) (by rfl) rfl rfl (M.r 2 0 rfl rfl) (M.lt 2 rfl) Tryd.underlying66 rfl info66 ?_
      simp only [putT, List.set]
      refine wpV_nil (hLk _ (fun w188 Sw188 => ?_))
      clear hLk Lk
      simp only [List.take, List.drop]
      replace M := M.sees Sw188
      refine wpL_store (g := g6) (off := 0) (n := 2) (cs := [.int .i64 ((k + 1 : Nat) : Int), .slice (some ⟨g180, 0, none⟩) ((partsL (lvD 50 ds (k + 1))).length) g180c]) (by rfl) (by rfl) (by rfl) (by rfl) (by rfl) (M.t 3 rfl) (by simp [flen]) info66 (by simp [fone, Value.oneCell']) (fun w189 P R T => ?_)
      replace M := M.putS 3 0 rfl P R T rfl ⟨.inl rfl, trivial⟩
      simp only [List.set] at M
      refine wpL_nil (no_panic ?_)
      refine hK137 _ _ ?_
      refine wp_region_seq ?_
      refine wpL_chunk 1 (by rfl) (fun Lk hLk => ?_)
      simp only [List.take, List.drop]
      refine wpV_bin (v := .int .i64 ((k + 1 : Nat) : Int)) (by rfl) rfl rfl rfl (fun W => run_add (by simp only [IntKind.wrap_i64]; omega) W) ?_
      simp only [putT, List.set]
      refine wpV_nil (hLk _ (fun w191 Sw191 => ?_))
      clear hLk Lk
      simp only [List.take, List.drop]
      replace M := M.sees Sw191
      refine wpL_move (v := .int .i64 ((k + 1 : Nat) : Int)) (by rfl) (by rfl) (by rfl) ?_
      simp only [putT, List.set]
      refine wpL_nil (no_panic ?_)
      have HX192 := ((M.rowNs 1 0 rfl rfl (scells_len _).symm Cg180).sub (show ∀ x ∈ [g6], x ∈ [g179, g181, g6] from (by intro x hx; simp only [List.mem_cons, List.not_mem_nil, or_false] at hx ⊢; omega)))
      replace M := Mx130.comp M
      refine Exists.intro _ ⟨?_, (k + 1), (some ⟨g180, 0, none⟩), ((partsL (lvD 50 ds (k + 1))).length), g180c, (fun q9 => (#[undef, undef, undef, undef, undef, undef, u128 6, undef, .int .i64 ((k : Nat) : Int), .string (bs (ds.getD k [])), .pointer (some ⟨g181, 0, none⟩), .int .i64 0, undef, undef, undef, undef, undef, undef, undef, undef, undef, undef, undef, undef, .bool true, .int .i64 ((k : Nat) : Int), .pointer (ap.map (·.add k)), .string (bs (ds.getD k [])), .int .i64 ((k : Nat) : Int), .bool false, .tuple #[.agg ([.int .i64 ((k + 1 : Nat) : Int), .slice (some ⟨g180, 0, none⟩) ((partsL (lvD 50 ds (k + 1))).length) g180c]).toArray, .int .i64 0], .agg ([.int .i64 ((k : Nat) : Int), .slice ar ((partsL (lvD 50 ds k)).length) cr]).toArray, .string (bs (ds.getD k [])), .string (bs (ds.getD k [])), .int .i64 (((ds.getD k []).length : Nat) : Int), .int .i64 ((min ((ds.getD k []).length) 50 : Nat) : Int), .string (bs (cut (ds.getD k []) 50)), .string (bs (leafS (cut (ds.getD k []) 50))), .slice (some ⟨g179, 0, none⟩) 1 1, .tuple #[.agg ([.int .i64 ((k + 1 : Nat) : Int), .slice (some ⟨g180, 0, none⟩) ((partsL (lvD 50 ds (k + 1))).length) g180c]).toArray, .int .i64 0], .agg ([.int .i64 ((k + 1 : Nat) : Int), .slice (some ⟨g180, 0, none⟩) ((partsL (lvD 50 ds (k + 1))).length) g180c]).toArray, .int .i64 0, .int .i64 0, .bool false, .agg ([.int .i64 ((k + 1 : Nat) : Int), .slice (some ⟨g180, 0, none⟩) ((partsL (lvD 50 ds (k + 1))).length) g180c]).toArray, .int .i64 ((k + 1 : Nat) : Int)] : Array Value).getD q9 undef), rfl, rfl, (M.pick [3] (by decide) rfl), (by omega), (by omega), HX192⟩
      omega
    · skip
      refine wp_cond_true rfl ?_
      refine wp_exit ?_
      have HX193 := ((M.notinsG Hr).sub (show ∀ x ∈ [g6], x ∈ [g6] from (by intro x hx; simp only [List.mem_cons, List.not_mem_nil, or_false] at hx ⊢; omega)))
      replace M := Mx130.comp M
      exact HK9 k ar ((partsL (lvD 50 ds k)).length) cr (fun q9 => (#[undef, undef, undef, undef, undef, undef, u128 6, undef, .int .i64 ((k : Nat) : Int), .string (bs (ds.getD k [])), u128 10, u128 11, undef, undef, undef, undef, undef, undef, undef, undef, undef, .slice ap ds.length cp, .int .i64 ((ds.length : Nat) : Int), .int .i64 ((k : Nat) : Int), .bool true, .int .i64 ((k : Nat) : Int), .pointer (ap.map (·.add k)), .string (bs (ds.getD k [])), .int .i64 ((k : Nat) : Int), .bool true, u128 30, u128 31, u128 32, u128 33, u128 34, u128 35, u128 36, u128 37, u128 38, u128 39, u128 40, u128 41, u128 42, u128 43, u128 44, u128 45] : Array Value).getD q9 undef) _ hkl hk2 M HX193
end Go.Proofs.Yb

