import Derived.WalkKit
import Derived.WalkSpells
import Derived.Laws.Pointers
import Derived.RowKit3
import Derived.Below
import Derived.Outline
import Derived.LoopN
import Derived.Lib.Hide
import Derived.Handy
import Derived.Laws.Bits64b
import Derived.Test.YticcchgckljlnaaDoorPr12
import Derived.Test.YticcchgckljlnaaDoorPr4
import Derived.Test.YticcchgckljlnaaDoorPr10
import Derived.Test.YticcchgckljlnaaDoorJoinB
import Derived.Test.YticcchgckljlnaaDoorTr3
set_option linter.unusedSimpArgs false
set_option linter.unusedVariables false
namespace Go.Proofs.Yb
open Go Go.RowKit Go.Proofs.Num
open List renaming set → Z0, take → Z1, drop → Z2
open Go renaming undef → Z3, wp_seq_k → Z4, wp_cond_true → Z5, wp_cond_false → Z6
open Go.Proofs.Num renaming putT → Z7, wp_region_seq → Z8, wpL_nil → Z9, no_panic → Z10, wpL_chunk → Z11, wpL_move → Z12, wpL_assign → Z13, wpV_nil → Z14, wpV_bin → Z15, wpV_move → Z16, then_normal → Z17, wpL_store1 → Z18, wpV_val → Z19, wpV_callf → Z20
attribute [local irreducible] wpV wpN wpList
/-- Does a step show that a tree goes on from another one? -/
def folB (m n : Nat) (old root : List UInt8) (st : List (List UInt8)) : Bool := decide (followT oldF m n old st true = old ∧ followT nodeF m n old st true = root)
theorem folB_nil {m n : Nat} {old root : List UInt8} (h1 : 1 ≤ m) (hm : m < n) (ho : old ≠ []) : folB m n old root [] = false := by
 unfold folB
 rw [followT_nil h1 hm]
 exact decide_eq_false fun h => ho h.1.symm
theorem dec_no1 {x : Bool} {B D : Prop} [Decidable D] (h : (x = true ∧ B) ↔ D) (hx : x = false) : decide D = false := decide_eq_false fun d => by
 have := (h.2 d).1
 rw [hx] at this
 cases this
theorem dec_no2 {x : Bool} {B C D : Prop} [Decidable D] (h : (x = true ∧ B ∧ C) ↔ D) (hb : ¬ B) : decide D = false := decide_eq_false fun d => hb (h.2 d).2.1
theorem dec_yes {x : Bool} {B C D : Prop} [Decidable D] [Decidable C] (h : (x = true ∧ B ∧ C) ↔ D) (hx : x = true) (hb : B) : decide D = decide C := by
 by_cases hc : C
 ·
  rw [decide_eq_true hc, decide_eq_true (h.1 ⟨hx, hb, hc⟩)]
 ·
  rw [decide_eq_false hc, decide_eq_false fun d => hc (h.2 d).2.2]
theorem dec_one {x : Bool} {C D : Prop} [Decidable D] [Decidable C] (h : (x = true ∧ C) ↔ D) (hx : x = true) : decide D = decide C := by
 by_cases hc : C
 ·
  rw [decide_eq_true hc, decide_eq_true (h.1 ⟨hx, hc⟩)]
 ·
  rw [decide_eq_false hc, decide_eq_false fun d => hc (h.2 d).2]
set_option maxHeartbeats 4000000 in
theorem follows_c {st : List (List UInt8)} {ap : Option Addr} {np cp : Nat} {m n : Nat} {old root : List UInt8} {w : World} (hq : st.length ≤ 4611686018427387904) (h1 : 1 ≤ m) (hm : m < n) (hn : n ≤ 4096) (hol : old.length = 32) (hrt : root.length = 32) (h32 : ∀ s ∈ st, s.length = 32) (L0 : 0 < w.heap.size) (R0_0 : w.rangeAt 0 0 kcells) (Hp : RowA w ap np cp (scells st)) :
  Calls Tryd.prog 87 #[.int .i64 ((m : Nat) : Int), .int .i64 ((n : Nat) : Int), .string (bs old), .string (bs root), .slice ap np cp] w fun e w' => e = .returned (.bool (folB m n old root st)) ∧ Below w.heap.size w w' := by
 obtain rfl : np = st.length := by have := Hp.len; rwa [scells_len] at this
 have hone : old ≠ [] := fun e9 => by rw [e9] at hol; cases hol
 have hrne : root ≠ [] := fun e9 => by rw [e9] at hrt; cases hrt
 go_enter Tryd.func87, Tryd.ntmps87
 have M := Mem.start w
 refine Z4 (fun K1 hK1 => ?_)
 refine Z8 ?_
 refine Z13 (v := .bool false) (by rfl) (by rfl) (by rfl) ?_
 simp only [Z7,Z0]
 refine Z9 (Z10 ?_)
 refine hK1 _ _ ?_
 refine Z4 (fun K3 hK3 => ?_)
 refine Z8 ?_
 refine Z12 (v := .int .i64 ((m : Nat) : Int)) (by rfl) (by rfl) (by rfl) ?_
 simp only [Z7,Z0]
 refine Z11 3 (by rfl) (fun Lk hLk => ?_)
 simp only [Z1,Z2]
 refine Z15 (v := .int .i64 ((m - 1 : Nat) : Int)) (by rfl) rfl rfl rfl (fun W => run_sub (by simp only [IntKind.wrap_i64]; omega) W) ?_
 simp only [Z7,Z0]
 refine Z16 (v := .int .i64 ((n : Nat) : Int)) (by rfl) rfl rfl ?_
 simp only [Z7,Z0]
 refine Z15 (v := .int .i64 ((n - 1 : Nat) : Int)) (by rfl) rfl rfl rfl (fun W => run_sub (by simp only [IntKind.wrap_i64]; omega) W) ?_
 simp only [Z7,Z0]
 refine Z14 (hLk _ (fun w5 Sw5 => ?_))
 clear hLk Lk
 simp only [Z1,Z2]
 replace M := M.sees Sw5
 refine Z13 (v := .int .i64 ((m - 1 : Nat) : Int)) (by rfl) (by rfl) (by rfl) ?_
 simp only [Z7,Z0]
 refine Z13 (v := .int .i64 ((n - 1 : Nat) : Int)) (by rfl) (by rfl) (by rfl) ?_
 simp only [Z7,Z0]
 refine Z9 (Z10 ?_)
 refine hK3 _ _ ?_
 refine Z4 (fun K6 hK6 => ?_)
 refine wp_block ?_
 refine wp_loop_ghost (fun n9 a9 W9 => ∃ (a : Nat) (l : Nat) (u7 : Nat → Value), n9 = 2 * a ∧ a9 = { tmps := #[.int .i64 ((m : Nat) : Int), .int .i64 ((n : Nat) : Int), .string (bs old), .string (bs root), .slice ap st.length cp, Z3, Z3, Z3, Z3, Z3, .bool false, .int .i64 ((a : Nat) : Int), .int .i64 ((l : Nat) : Int), Z3, Z3, Z3, Z3, Z3, .int .i64 ((m : Nat) : Int), .int .i64 ((m - 1 : Nat) : Int), .int .i64 ((n : Nat) : Int), .int .i64 ((n - 1 : Nat) : Int), u7 22, u7 23, u7 24, u7 25, u7 26, u7 27, u7 28, Z3, Z3, Z3, Z3, Z3, Z3, Z3, Z3, Z3, Z3, Z3, Z3, Z3, Z3, Z3, Z3, Z3, Z3, Z3, Z3, Z3, Z3, Z3, Z3, Z3, Z3, Z3, Z3, Z3, Z3, Z3, Z3, Z3, Z3, Z3, Z3, Z3, Z3, Z3, Z3], defers := [] } ∧ Mem [] w W9 [] ∧ (a ≤ 4096) ∧ (l ≤ 4096) ∧ (stripA a l = stripA (m - 1) (n - 1))) (2 * (m - 1)) ?_ (fun n9 a9 W9 hI => ?_)
 ·
  exact ⟨(m - 1), (n - 1), (fun q9 => (#[Z3, Z3, Z3, Z3, Z3, Z3, Z3, Z3, Z3, Z3, Z3, Z3, Z3, Z3, Z3, Z3, Z3, Z3, Z3, Z3, Z3, Z3, Z3, Z3, Z3, Z3, Z3, Z3, Z3] : Array Value).getD q9 Z3), rfl, rfl, M, (by omega), (by omega), rfl⟩
 clear M
 obtain ⟨a, l, u7, rfl, rfl, M, ha, hl, hz⟩ := hI
 obtain ⟨w8, rfl⟩ : ∃ W8, W8 = W9 := ⟨_, rfl⟩
 refine Z4 (fun K9 hK9 => ?_)
 refine Z4 (fun K10 hK10 => ?_)
 refine Z8 ?_
 refine Z12 (v := .int .i64 ((a : Nat) : Int)) (by rfl) (by rfl) (by rfl) ?_
 simp only [Z7,Z0]
 refine Z11 2 (by rfl) (fun Lk hLk => ?_)
 simp only [Z1,Z2]
 refine Z15 (v := .int .i64 ((a % 2 : Nat) : Int)) (by rfl) rfl rfl rfl (fun W => run_and ((and_i64 (m := a) (n := 1) (by omega) (by decide)).trans (by rw [and_oneN])) W) ?_
 simp only [Z7,Z0]
 refine Z15 (v := .bool (decide (a % 2 = 1))) (by rfl) rfl rfl rfl (fun W => run_eqlN (a % 2) 1 _ _ W) ?_
 simp only [Z7,Z0]
 refine Z14 (hLk _ (fun w12 Sw12 => ?_))
 clear hLk Lk
 simp only [Z1,Z2]
 replace M := M.sees Sw12
 refine Z9 (Z10 ?_)
 refine hK10 _ _ ?_
 cases hc13 : (decide (a % 2 = 1))
 ·
  have ho : ¬ a % 2 = 1 := of_decide_eq_false hc13
  have hst : stripA (m - 1) (n - 1) = (a, l) := hz.symm.trans (stripA_even ho)
  refine Z6 rfl ?_
  refine wp_exit ?_
  refine hK6 _ _ ?_
  refine Z4 (fun K14 hK14 => ?_)
  refine Z4 (fun K15 hK15 => ?_)
  refine Z8 ?_
  refine Z12 (v := .int .i64 ((a : Nat) : Int)) (by rfl) (by rfl) (by rfl) ?_
  simp only [Z7,Z0]
  refine Z11 1 (by rfl) (fun Lk hLk => ?_)
  simp only [Z1,Z2]
  refine Z15 (v := .bool (decide (a ≠ 0))) (by rfl) rfl rfl rfl (fun W => run_neqN a 0 _ _ W) ?_
  simp only [Z7,Z0]
  refine Z14 (hLk _ (fun w17 Sw17 => ?_))
  clear hLk Lk
  simp only [Z1,Z2]
  replace M := M.sees Sw17
  refine Z9 (Z10 ?_)
  refine hK15 _ _ ?_
  cases hc18 : (decide (a ≠ 0))
  ·
   obtain rfl : a = 0 := Decidable.not_not.1 (of_decide_eq_false hc18)
   have hfm := follows_whole (st := st) h1 hm (by rw [hst]) hone hrne
   rw [hst] at hfm
   refine Z6 rfl ?_
   refine wp_skip ?_
   refine hK14 _ _ ?_
   refine Z4 (fun K19 hK19 => ?_)
   refine Z8 ?_
   refine Z12 (v := .string (bs old)) (by rfl) (by rfl) (by rfl) ?_
   simp only [Z7,Z0]
   refine wpL_var (t := 9) (cs := [.string { data := #[] }]) (by rfl) (fun W => ?_) (fun g21 w22 Sw22 Hg21 Bg21 => ?_)
   ·
    go_simp
   replace M := ((M.sees Sw22).add (N := 1) (cs := [.string { data := #[] }]) (M.ge Hg21) (M.fresh Hg21) Bg21 rfl)
   clear Bg21
   simp only [Z7,Z0]
   refine Z18 (g := g21) (off := 0) (n := 1) (v := .string (bs old)) (by rfl) (by rfl) (by rfl) (by rfl) (by rfl) (M.t 0 rfl) (by decide) info9 rfl (fun w23 P R T => ?_)
   replace M := M.putS (new := [.string (bs old)]) 0 0 rfl P R T rfl ⟨.inl rfl, trivial⟩
   simp only [Z0] at M
   refine Z9 (Z10 ?_)
   refine hK19 _ _ ?_
   refine Z4 (fun K24 hK24 => ?_)
   refine Z8 ?_
   refine Z12 (v := .int .i64 0) (by rfl) (by rfl) (by rfl) ?_
   simp only [Z7,Z0]
   refine Z12 (v := .int .i64 ((l : Nat) : Int)) (by rfl) (by rfl) (by rfl) ?_
   simp only [Z7,Z0]
   refine Z12 (v := .slice ap st.length cp) (by rfl) (by rfl) (by rfl) ?_
   simp only [Z7,Z0]
   refine Z11 1 (by rfl) (fun Lk hLk => ?_)
   simp only [Z1,Z2]
   refine Z19 (v := .func (.func 103) #[] #[.pointer (some ⟨g21, 0, none⟩)]) (by rfl) (by rfl) (fun W hW => ?_) ?_
   ·
    (unfold RunsVal; kernel_rfl)
   simp only [Z7,Z0]
   refine Z14 (hLk _ (fun w26 Sw26 => ?_))
   clear hLk Lk
   simp only [Z1,Z2]
   replace M := M.sees Sw26
   refine wpL_callM (f := 83) (args := #[.int .i64 0, .int .i64 ((l : Nat) : Int), .slice ap st.length cp, .func (.func 103) #[] #[.pointer (some ⟨g21, 0, none⟩)]]) (R := fun v9 W9 => v9 = .bool ((walkF nodeF st 0 l old).1) ∧ Mem [g21] w26 W9 [⟨g21, 1, [(0, [.string (bs (walkF nodeF st 0 l old).2)])]⟩]) (by rfl) (by rfl) rfl Tryd.func83 (by kernel_rfl) (by kernel_rfl) (walk1_c (ps := st) (a0 := 0) (l0 := l) hq (by omega) (by omega) (fun hk => getD_32 h32 hk) hol (M.ne0 0 rfl L0) (M.oldL L0) (M.oldR R0_0 L0) ((M.notins Hp).sub (show ∀ x ∈ [g21], x ∈ [g21] from (by intro x hx; simp only [List.mem_cons, List.not_mem_nil, or_false] at hx ⊢; omega))) (M.some (l' := [⟨g21, 1, [(0, [.string (bs old)])]⟩]) [0] (by decide) rfl)) (fun v9 w27 h9 => ?_)
   obtain ⟨rfl, M9⟩ := h9
   replace M := (show Mem [] w w26 ([⟨g21, 1, [(0, [.string (bs old)])]⟩] ++ []) from M.pick [0] (by decide) rfl).frame M9
   simp only [List.cons_append, List.nil_append] at M
   simp only [Z7,Z0]
   refine Z13 (v := .bool ((walkF nodeF st 0 l old).1)) (by rfl) (by rfl) (by rfl) ?_
   simp only [Z7,Z0]
   refine Z9 (Z10 ?_)
   refine hK24 _ _ ?_
   refine Z4 (fun K28 hK28 => ?_)
   cases hw1 : (walkF nodeF st 0 l old).1
   ·
    refine Z8 ?_
    refine Z12 (v := .bool false) (by rfl) (by rfl) (by rfl) ?_
    simp only [Z7,Z0]
    refine Z12 (v := .bool false) (by rfl) (by rfl) (by rfl) ?_
    simp only [Z7,Z0]
    refine Z11 4 (by rfl) (fun Lk hLk => ?_)
    simp only [Z1,Z2]
    refine wpV_skip (by rfl) (by rfl) ?_
    simp only [Z7,Z0]
    refine wpV_skip (by rfl) (by rfl) ?_
    simp only [Z7,Z0]
    refine wpV_skip (by rfl) (by rfl) ?_
    simp only [Z7,Z0]
    refine wpV_pick (v := .bool false) (by rfl) rfl rfl rfl ?_
    simp only [Z7,Z0]
    refine Z14 (hLk _ (fun w30 Sw30 => ?_))
    clear hLk Lk
    simp only [Z1,Z2]
    replace M := M.sees Sw30
    refine Z13 (v := .bool false) (by rfl) (by rfl) (by rfl) ?_
    simp only [Z7,Z0]
    refine Z9 (Z10 ?_)
    refine hK28 _ _ ?_
    refine wp_ret ?_
    repeat (first | with_reducible refine then_ret ?_ | with_reducible refine inblock_ret ?_)
    refine bodyPost_ret (v := .bool false) (res1 rfl (.tmp (by rfl))) rfl ?_
    have BE := M.below
    exact ⟨by unfold folB; rw [dec_no1 hfm hw1], BE⟩
   ·
    refine Z8 ?_
    refine Z12 (v := .bool true) (by rfl) (by rfl) (by rfl) ?_
    simp only [Z7,Z0]
    refine Z12 (v := .bool true) (by rfl) (by rfl) (by rfl) ?_
    simp only [Z7,Z0]
    refine Z11 4 (by rfl) (fun Lk hLk => ?_)
    simp only [Z1,Z2]
    refine wpV_load1 (v := .string (bs ((walkF nodeF st 0 l old).2))) (by rfl) rfl rfl (range_one (M.r 0 0 rfl rfl)) (M.lt 0 rfl) Tryd.underlying9 rfl ?_
    simp only [Z7,Z0]
    refine Z16 (v := .string (bs root)) (by rfl) rfl rfl ?_
    simp only [Z7,Z0]
    refine wpV_binS (v := .bool (decide ((walkF nodeF st 0 l old).2 = root))) (by rfl) rfl rfl rfl (run_eql_bs _ _ _) ?_
    simp only [Z7,Z0]
    refine wpV_pick (v := .bool (decide ((walkF nodeF st 0 l old).2 = root))) (by rfl) rfl rfl rfl ?_
    simp only [Z7,Z0]
    refine Z14 (hLk _ (fun w32 Sw32 => ?_))
    clear hLk Lk
    simp only [Z1,Z2]
    replace M := M.sees Sw32
    refine Z13 (v := .bool (decide ((walkF nodeF st 0 l old).2 = root))) (by rfl) (by rfl) (by rfl) ?_
    simp only [Z7,Z0]
    refine Z9 (Z10 ?_)
    refine hK28 _ _ ?_
    refine wp_ret ?_
    repeat (first | with_reducible refine then_ret ?_ | with_reducible refine inblock_ret ?_)
    refine bodyPost_ret (v := .bool (decide ((walkF nodeF st 0 l old).2 = root))) (res1 rfl (.tmp (by rfl))) rfl ?_
    have BE := M.below
    exact ⟨by unfold folB; rw [dec_one hfm hw1], BE⟩
  ·
   have hnz : a ≠ 0 := of_decide_eq_true hc18
   refine Z5 rfl ?_
   refine Z4 (fun K33 hK33 => ?_)
   refine Z4 (fun K34 hK34 => ?_)
   refine Z8 ?_
   refine Z12 (v := .slice ap st.length cp) (by rfl) (by rfl) (by rfl) ?_
   simp only [Z7,Z0]
   refine Z11 2 (by rfl) (fun Lk hLk => ?_)
   simp only [Z1,Z2]
   refine wpV_lenA (n := st.length) (by rfl) rfl rfl rfl Tryd.underlying48 ?_
   simp only [Z7,Z0]
   refine Z15 (v := .bool (decide (st.length = 0))) (by rfl) rfl rfl rfl (fun W => run_eqlN st.length 0 _ _ W) ?_
   simp only [Z7,Z0]
   refine Z14 (hLk _ (fun w36 Sw36 => ?_))
   clear hLk Lk
   simp only [Z1,Z2]
   replace M := M.sees Sw36
   refine Z9 (Z10 ?_)
   refine hK34 _ _ ?_
   cases hc37 : (decide (st.length = 0))
   ·
    have hs0 : ¬ st.length = 0 := of_decide_eq_false hc37
    have hcons : st = st.getD 0 [] :: st.drop 1 := by have := drop_get (ps := st) (k := 0) (by omega); simpa using this
    have hfm := follows_more (s0 := st.getD 0 []) (st := st.drop 1) h1 hm (by rw [hst]; exact hnz) hone hrne
    rw [hst, ← hcons] at hfm
    have hd32 : (st.getD 0 []).length = 32 := getD_32 h32 (by omega)
    refine Z6 rfl ?_
    refine wp_skip ?_
    refine hK33 _ _ ?_
    refine Z4 (fun K38 hK38 => ?_)
    have HK39 : ∀ (g43 : Nat) (g45 : Nat) (W9 : World), Mem [] w W9 [⟨g45, 1, [(0, [.string (bs (st.getD 0 []))])]⟩, ⟨g43, 1, [(0, [.string (bs (st.getD 0 []))])]⟩] → K38 { tmps := #[.int .i64 ((m : Nat) : Int), .int .i64 ((n : Nat) : Int), .string (bs old), .string (bs root), .slice ap st.length cp, Z3, Z3, Z3, Z3, Z3, .bool false, .int .i64 ((a : Nat) : Int), .int .i64 ((l : Nat) : Int), .pointer (some ⟨g43, 0, none⟩), .pointer (some ⟨g45, 0, none⟩), Z3, Z3, Z3, .int .i64 ((m : Nat) : Int), .int .i64 ((m - 1 : Nat) : Int), .int .i64 ((n : Nat) : Int), .int .i64 ((n - 1 : Nat) : Int), .int .i64 ((a : Nat) : Int), .int .i64 ((a % 2 : Nat) : Int), .bool false, u7 25, u7 26, u7 27, u7 28, .int .i64 ((a : Nat) : Int), .bool true, .slice ap st.length cp, .int .i64 ((st.length : Nat) : Int), .bool false, .slice ap st.length cp, .pointer (ap.map (·.add 0)), .string (bs (st.getD 0 [])), .slice ap st.length cp, .pointer (ap.map (·.add 0)), .string (bs (st.getD 0 [])), Z3, Z3, Z3, Z3, Z3, Z3, Z3, Z3, Z3, Z3, Z3, Z3, Z3, Z3, Z3, Z3, Z3, Z3, Z3, Z3, Z3, Z3, Z3, Z3, Z3, Z3, Z3, Z3, Z3], defers := [] } W9 := by
     clear M
     intro g43 g45 W9 M
     obtain ⟨w40, rfl⟩ : ∃ W8, W8 = W9 := ⟨_, rfl⟩
     refine hK38 _ _ ?_
     refine Z4 (fun K41 hK41 => ?_)
     refine Z8 ?_
     refine Z12 (v := .int .i64 ((a : Nat) : Int)) (by rfl) (by rfl) (by rfl) ?_
     simp only [Z7,Z0]
     refine Z12 (v := .int .i64 ((l : Nat) : Int)) (by rfl) (by rfl) (by rfl) ?_
     simp only [Z7,Z0]
     refine Z12 (v := .slice ap st.length cp) (by rfl) (by rfl) (by rfl) ?_
     simp only [Z7,Z0]
     refine Z11 2 (by rfl) (fun Lk hLk => ?_)
     simp only [Z1,Z2]
     refine wpV_slcL (lo := 1) (by rfl) rfl rfl rfl Tryd.underlying48 info9 (by omega) ?_
     simp only [Z7,Z0]
     refine Z19 (v := .func (.func 102) #[] #[.pointer (some ⟨g45, 0, none⟩), .pointer (some ⟨g43, 0, none⟩)]) (by rfl) (by rfl) (fun W hW => ?_) ?_
     ·
      (unfold RunsVal; kernel_rfl)
     simp only [Z7,Z0]
     refine Z14 (hLk _ (fun w43 Sw43 => ?_))
     clear hLk Lk
     simp only [Z1,Z2]
     replace M := M.sees Sw43
     refine wpL_callM (f := 83) (args := #[.int .i64 ((a : Nat) : Int), .int .i64 ((l : Nat) : Int), .slice (slA ap 1 cp) (st.length - 1) (cp - 1), .func (.func 102) #[] #[.pointer (some ⟨g45, 0, none⟩), .pointer (some ⟨g43, 0, none⟩)]]) (R := fun v9 W9 => v9 = .bool ((walkF bothF (st.drop 1) a l (st.getD 0 [], st.getD 0 [])).1) ∧ Mem [g45, g43] w43 W9 [⟨g45, 1, [(0, [.string (bs (walkF bothF (st.drop 1) a l (st.getD 0 [], st.getD 0 [])).2.2)])]⟩, ⟨g43, 1, [(0, [.string (bs (walkF bothF (st.drop 1) a l (st.getD 0 [], st.getD 0 [])).2.1)])]⟩]) (by rfl) (by rfl) rfl Tryd.func83 (by kernel_rfl) (by kernel_rfl) (walk2_c (ps := st.drop 1) (a0 := a) (l0 := l) (by rw [List.length_drop]; omega) (by omega) (by omega) (fun hk => getD_32 (fun s9 h9 => h32 s9 (List.mem_of_mem_drop h9)) hk) hd32 hd32 (M.ne0 0 rfl L0) (M.ne0 1 rfl L0) (M.oldL L0) (M.oldR R0_0 L0) ((((M.notins Hp).drop (by omega)).eq (scells_drop2 _ _)).sub (show ∀ x ∈ [g45, g43], x ∈ [g45, g43] from (by intro x hx; simp only [List.mem_cons, List.not_mem_nil, or_false] at hx ⊢; omega))) (M.some (l' := [⟨g45, 1, [(0, [.string (bs (st.getD 0 []))])]⟩, ⟨g43, 1, [(0, [.string (bs (st.getD 0 []))])]⟩]) [0, 1] (by decide) rfl)) (fun v9 w44 h9 => ?_)
     obtain ⟨rfl, M9⟩ := h9
     replace M := (show Mem [] w w43 ([⟨g45, 1, [(0, [.string (bs (st.getD 0 []))])]⟩, ⟨g43, 1, [(0, [.string (bs (st.getD 0 []))])]⟩] ++ []) from M.pick [0, 1] (by decide) rfl).frame M9
     simp only [List.cons_append, List.nil_append] at M
     simp only [Z7,Z0]
     refine Z13 (v := .bool ((walkF bothF (st.drop 1) a l (st.getD 0 [], st.getD 0 [])).1)) (by rfl) (by rfl) (by rfl) ?_
     simp only [Z7,Z0]
     refine Z9 (Z10 ?_)
     refine hK41 _ _ ?_
     refine Z4 (fun K45 hK45 => ?_)
     cases hw1 : (walkF bothF (st.drop 1) a l (st.getD 0 [], st.getD 0 [])).1
     ·
      refine Z8 ?_
      refine Z12 (v := .bool false) (by rfl) (by rfl) (by rfl) ?_
      simp only [Z7,Z0]
      refine Z12 (v := .bool false) (by rfl) (by rfl) (by rfl) ?_
      simp only [Z7,Z0]
      refine Z11 9 (by rfl) (fun Lk hLk => ?_)
      simp only [Z1,Z2]
      refine wpV_skip (by rfl) (by rfl) ?_
      simp only [Z7,Z0]
      refine wpV_skip (by rfl) (by rfl) ?_
      simp only [Z7,Z0]
      refine wpV_skip (by rfl) (by rfl) ?_
      simp only [Z7,Z0]
      refine wpV_pick (v := .bool false) (by rfl) rfl rfl rfl ?_
      simp only [Z7,Z0]
      refine Z16 (v := .bool false) (by rfl) rfl rfl ?_
      simp only [Z7,Z0]
      refine wpV_skip (by rfl) (by rfl) ?_
      simp only [Z7,Z0]
      refine wpV_skip (by rfl) (by rfl) ?_
      simp only [Z7,Z0]
      refine wpV_skip (by rfl) (by rfl) ?_
      simp only [Z7,Z0]
      refine wpV_pick (v := .bool false) (by rfl) rfl rfl rfl ?_
      simp only [Z7,Z0]
      refine Z14 (hLk _ (fun w47 Sw47 => ?_))
      clear hLk Lk
      simp only [Z1,Z2]
      replace M := M.sees Sw47
      refine Z13 (v := .bool false) (by rfl) (by rfl) (by rfl) ?_
      simp only [Z7,Z0]
      refine Z9 (Z10 ?_)
      refine hK45 _ _ ?_
      refine wp_ret ?_
      repeat (first | with_reducible refine then_ret ?_ | with_reducible refine inblock_ret ?_)
      refine bodyPost_ret (v := .bool false) (res1 rfl (.tmp (by rfl))) rfl ?_
      have BE := M.below
      exact ⟨by unfold folB; rw [dec_no1 hfm hw1], BE⟩
     ·
      cases hg48 : (decide ((walkF bothF (st.drop 1) a l (st.getD 0 [], st.getD 0 [])).2.1 = old))
      ·
       have hw2 : ¬ (walkF bothF (st.drop 1) a l (st.getD 0 [], st.getD 0 [])).2.1 = old := of_decide_eq_false hg48
       refine Z8 ?_
       refine Z12 (v := .bool true) (by rfl) (by rfl) (by rfl) ?_
       simp only [Z7,Z0]
       refine Z12 (v := .bool true) (by rfl) (by rfl) (by rfl) ?_
       simp only [Z7,Z0]
       refine Z11 9 (by rfl) (fun Lk hLk => ?_)
       simp only [Z1,Z2]
       refine wpV_load1 (v := .string (bs ((walkF bothF (st.drop 1) a l (st.getD 0 [], st.getD 0 [])).2.1))) (by rfl) rfl rfl (range_one (M.r 1 0 rfl rfl)) (M.lt 1 rfl) Tryd.underlying9 rfl ?_
       simp only [Z7,Z0]
       refine Z16 (v := .string (bs old)) (by rfl) rfl rfl ?_
       simp only [Z7,Z0]
       refine wpV_binS (v := .bool false) (by rfl) rfl rfl rfl (fun W => (run_eql_bs _ _ _ W).trans (by rw [hg48])) ?_
       simp only [Z7,Z0]
       refine wpV_pick (v := .bool false) (by rfl) rfl rfl rfl ?_
       simp only [Z7,Z0]
       refine Z16 (v := .bool false) (by rfl) rfl rfl ?_
       simp only [Z7,Z0]
       refine wpV_skip (by rfl) (by rfl) ?_
       simp only [Z7,Z0]
       refine wpV_skip (by rfl) (by rfl) ?_
       simp only [Z7,Z0]
       refine wpV_skip (by rfl) (by rfl) ?_
       simp only [Z7,Z0]
       refine wpV_pick (v := .bool false) (by rfl) rfl rfl rfl ?_
       simp only [Z7,Z0]
       refine Z14 (hLk _ (fun w50 Sw50 => ?_))
       clear hLk Lk
       simp only [Z1,Z2]
       replace M := M.sees Sw50
       refine Z13 (v := .bool false) (by rfl) (by rfl) (by rfl) ?_
       simp only [Z7,Z0]
       refine Z9 (Z10 ?_)
       refine hK45 _ _ ?_
       refine wp_ret ?_
       repeat (first | with_reducible refine then_ret ?_ | with_reducible refine inblock_ret ?_)
       refine bodyPost_ret (v := .bool false) (res1 rfl (.tmp (by rfl))) rfl ?_
       have BE := M.below
       exact ⟨by unfold folB; rw [dec_no2 hfm hw2], BE⟩
      ·
       have hw2 : (walkF bothF (st.drop 1) a l (st.getD 0 [], st.getD 0 [])).2.1 = old := of_decide_eq_true hg48
       refine Z8 ?_
       refine Z12 (v := .bool true) (by rfl) (by rfl) (by rfl) ?_
       simp only [Z7,Z0]
       refine Z12 (v := .bool true) (by rfl) (by rfl) (by rfl) ?_
       simp only [Z7,Z0]
       refine Z11 9 (by rfl) (fun Lk hLk => ?_)
       simp only [Z1,Z2]
       refine wpV_load1 (v := .string (bs ((walkF bothF (st.drop 1) a l (st.getD 0 [], st.getD 0 [])).2.1))) (by rfl) rfl rfl (range_one (M.r 1 0 rfl rfl)) (M.lt 1 rfl) Tryd.underlying9 rfl ?_
       simp only [Z7,Z0]
       refine Z16 (v := .string (bs old)) (by rfl) rfl rfl ?_
       simp only [Z7,Z0]
       refine wpV_binS (v := .bool true) (by rfl) rfl rfl rfl (fun W => (run_eql_bs _ _ _ W).trans (by rw [hg48])) ?_
       simp only [Z7,Z0]
       refine wpV_pick (v := .bool true) (by rfl) rfl rfl rfl ?_
       simp only [Z7,Z0]
       refine Z16 (v := .bool true) (by rfl) rfl rfl ?_
       simp only [Z7,Z0]
       refine wpV_load1 (v := .string (bs ((walkF bothF (st.drop 1) a l (st.getD 0 [], st.getD 0 [])).2.2))) (by rfl) rfl rfl (range_one (M.r 0 0 rfl rfl)) (M.lt 0 rfl) Tryd.underlying9 rfl ?_
       simp only [Z7,Z0]
       refine Z16 (v := .string (bs root)) (by rfl) rfl rfl ?_
       simp only [Z7,Z0]
       refine wpV_binS (v := .bool (decide ((walkF bothF (st.drop 1) a l (st.getD 0 [], st.getD 0 [])).2.2 = root))) (by rfl) rfl rfl rfl (run_eql_bs _ _ _) ?_
       simp only [Z7,Z0]
       refine wpV_pick (v := .bool (decide ((walkF bothF (st.drop 1) a l (st.getD 0 [], st.getD 0 [])).2.2 = root))) (by rfl) rfl rfl rfl ?_
       simp only [Z7,Z0]
       refine Z14 (hLk _ (fun w52 Sw52 => ?_))
       clear hLk Lk
       simp only [Z1,Z2]
       replace M := M.sees Sw52
       refine Z13 (v := .bool (decide ((walkF bothF (st.drop 1) a l (st.getD 0 [], st.getD 0 [])).2.2 = root))) (by rfl) (by rfl) (by rfl) ?_
       simp only [Z7,Z0]
       refine Z9 (Z10 ?_)
       refine hK45 _ _ ?_
       refine wp_ret ?_
       repeat (first | with_reducible refine then_ret ?_ | with_reducible refine inblock_ret ?_)
       refine bodyPost_ret (v := .bool (decide ((walkF bothF (st.drop 1) a l (st.getD 0 [], st.getD 0 [])).2.2 = root))) (res1 rfl (.tmp (by rfl))) rfl ?_
       have BE := M.below
       exact ⟨by unfold folB; rw [dec_yes hfm hw1 hw2], BE⟩
    refine wp_region_treeN (by kernel_rfl) (fun w54 Sw54 => ?_)
    replace M := M.sees Sw54
    refine any_first 0 (v := .slice ap st.length cp) (by rfl) (by kernel_rfl) nopanic_not (by rfl) (by exact yl_move rfl rfl) ?_
    simp only [Z7,Z0]
    refine any_first 1 (v := .pointer (ap.map (·.add 0))) (by rfl) (by kernel_rfl) nopanic_not (by rfl) (by exact yl_idxA (i := 0) rfl rfl rfl Tryd.underlying48 info9 (M.oldA Hp) (by omega)) ?_
    simp only [Z7,Z0]
    refine any_first 3 (v := .slice ap st.length cp) (by rfl) (by kernel_rfl) nopanic_not (by rfl) (by exact yl_move rfl rfl) ?_
    simp only [Z7,Z0]
    refine any_first 4 (v := .pointer (ap.map (·.add 0))) (by rfl) (by kernel_rfl) nopanic_not (by rfl) (by exact yl_idxA (i := 0) rfl rfl rfl Tryd.underlying48 info9 (M.oldA Hp) (by omega)) ?_
    simp only [Z7,Z0]
    refine any_step [2, 5, 6, 7] (by kernel_rfl) rfl (any_two ?_ (any_two ?_ (any_two ?_ (any_one ?_))))
    ·
     refine any_opL 2 (by rfl) ?_
     simp only [Z1,Z2]
     refine Z11 1 (by rfl) (fun Lk hLk => ?_)
     simp only [Z1,Z2]
     refine wpV_loadA (i := 0) (v := .string (bs (st.getD 0 []))) (by rfl) rfl rfl (M.oldA Hp) (scells_get (ps := st) (by omega)) Tryd.underlying9 rfl ?_
     simp only [Z7,Z0]
     refine Z14 (hLk _ (fun w55 Sw55 => ?_))
     clear hLk Lk
     simp only [Z1,Z2]
     replace M := M.sees Sw55
     refine Z9 (Z17 ?_)
     refine any_step [5, 6, 7] (by kernel_rfl) rfl (any_two ?_ (any_two ?_ (any_one ?_)))
     ·
      refine any_opL 5 (by rfl) ?_
      simp only [Z1,Z2]
      refine Z11 1 (by rfl) (fun Lk hLk => ?_)
      simp only [Z1,Z2]
      refine wpV_loadA (i := 0) (v := .string (bs (st.getD 0 []))) (by rfl) rfl rfl (M.oldA Hp) (scells_get (ps := st) (by omega)) Tryd.underlying9 rfl ?_
      simp only [Z7,Z0]
      refine Z14 (hLk _ (fun w56 Sw56 => ?_))
      clear hLk Lk
      simp only [Z1,Z2]
      replace M := M.sees Sw56
      refine Z9 (Z17 ?_)
      refine any_step [6, 7] (by kernel_rfl) rfl (any_two ?_ (any_one ?_))
      ·
       refine any_opL 6 (by rfl) ?_
       simp only [Z1,Z2]
       refine wpL_var (t := 9) (cs := [.string { data := #[] }]) (by rfl) (fun W => ?_) (fun g57 w58 Sw58 Hg57 Bg57 => ?_)
       ·
        go_simp
       replace M := ((M.sees Sw58).add (N := 1) (cs := [.string { data := #[] }]) (M.ge Hg57) (M.fresh Hg57) Bg57 rfl)
       clear Bg57
       simp only [Z7,Z0]
       refine Z9 (Z17 ?_)
       refine any_step [7] (by kernel_rfl) rfl (any_one ?_)
       refine any_opL 7 (by rfl) ?_
       simp only [Z1,Z2]
       refine wpL_var (t := 9) (cs := [.string { data := #[] }]) (by rfl) (fun W => ?_) (fun g59 w60 Sw60 Hg59 Bg59 => ?_)
       ·
        go_simp
       replace M := ((M.sees Sw60).add (N := 1) (cs := [.string { data := #[] }]) (M.ge Hg59) (M.fresh Hg59) Bg59 rfl)
       clear Bg59
       simp only [Z7,Z0]
       refine Z9 (Z17 ?_)
       refine any_step [8] (by kernel_rfl) rfl (any_one ?_)
       refine any_opL 8 (by rfl) ?_
       simp only [Z1,Z2]
       refine Z18 (g := g57) (off := 0) (n := 1) (v := .string (bs (st.getD 0 []))) (by rfl) (by rfl) (by rfl) (by rfl) (by rfl) (M.t 1 rfl) (by decide) info9 rfl (fun w61 P R T => ?_)
       replace M := M.putS (new := [.string (bs (st.getD 0 []))]) 1 0 rfl P R T rfl ⟨.inl rfl, trivial⟩
       simp only [Z0] at M
       refine Z9 (Z17 ?_)
       refine any_step [9] (by kernel_rfl) rfl (any_one ?_)
       refine any_opL 9 (by rfl) ?_
       simp only [Z1,Z2]
       refine Z18 (g := g59) (off := 0) (n := 1) (v := .string (bs (st.getD 0 []))) (by rfl) (by rfl) (by rfl) (by rfl) (by rfl) (M.t 0 rfl) (by decide) info9 rfl (fun w62 P R T => ?_)
       replace M := M.putS (new := [.string (bs (st.getD 0 []))]) 0 0 rfl P R T rfl ⟨.inl rfl, trivial⟩
       simp only [Z0] at M
       refine Z9 (Z17 ?_)
       refine any_end (by kernel_rfl) (Z10 ?_)
       exact HK39 g57 g59  _  M
      ·
       refine any_opL 7 (by rfl) ?_
       simp only [Z1,Z2]
       refine wpL_var (t := 9) (cs := [.string { data := #[] }]) (by rfl) (fun W => ?_) (fun g63 w64 Sw64 Hg63 Bg63 => ?_)
       ·
        go_simp
       replace M := ((M.sees Sw64).add (N := 1) (cs := [.string { data := #[] }]) (M.ge Hg63) (M.fresh Hg63) Bg63 rfl)
       clear Bg63
       simp only [Z7,Z0]
       refine Z9 (Z17 ?_)
       refine any_step [6] (by kernel_rfl) rfl (any_one ?_)
       refine any_opL 6 (by rfl) ?_
       simp only [Z1,Z2]
       refine wpL_var (t := 9) (cs := [.string { data := #[] }]) (by rfl) (fun W => ?_) (fun g65 w66 Sw66 Hg65 Bg65 => ?_)
       ·
        go_simp
       replace M := ((M.sees Sw66).add (N := 1) (cs := [.string { data := #[] }]) (M.ge Hg65) (M.fresh Hg65) Bg65 rfl)
       clear Bg65
       simp only [Z7,Z0]
       refine Z9 (Z17 ?_)
       refine any_step [8] (by kernel_rfl) rfl (any_one ?_)
       refine any_opL 8 (by rfl) ?_
       simp only [Z1,Z2]
       refine Z18 (g := g65) (off := 0) (n := 1) (v := .string (bs (st.getD 0 []))) (by rfl) (by rfl) (by rfl) (by rfl) (by rfl) (M.t 0 rfl) (by decide) info9 rfl (fun w67 P R T => ?_)
       replace M := M.putS (new := [.string (bs (st.getD 0 []))]) 0 0 rfl P R T rfl ⟨.inl rfl, trivial⟩
       simp only [Z0] at M
       refine Z9 (Z17 ?_)
       refine any_step [9] (by kernel_rfl) rfl (any_one ?_)
       refine any_opL 9 (by rfl) ?_
       simp only [Z1,Z2]
       refine Z18 (g := g63) (off := 0) (n := 1) (v := .string (bs (st.getD 0 []))) (by rfl) (by rfl) (by rfl) (by rfl) (by rfl) (M.t 1 rfl) (by decide) info9 rfl (fun w68 P R T => ?_)
       replace M := M.putS (new := [.string (bs (st.getD 0 []))]) 1 0 rfl P R T rfl ⟨.inl rfl, trivial⟩
       simp only [Z0] at M
       refine Z9 (Z17 ?_)
       refine any_end (by kernel_rfl) (Z10 ?_)
       exact HK39 g65 g63  _  (M.pick [1, 0] (by decide) rfl)
     ·
      refine any_opL 6 (by rfl) ?_
      simp only [Z1,Z2]
      refine wpL_var (t := 9) (cs := [.string { data := #[] }]) (by rfl) (fun W => ?_) (fun g69 w70 Sw70 Hg69 Bg69 => ?_)
      ·
       go_simp
      replace M := ((M.sees Sw70).add (N := 1) (cs := [.string { data := #[] }]) (M.ge Hg69) (M.fresh Hg69) Bg69 rfl)
      clear Bg69
      simp only [Z7,Z0]
      refine Z9 (Z17 ?_)
      refine any_step [5, 7] (by kernel_rfl) rfl (any_two ?_ (any_one ?_))
      ·
       refine any_opL 5 (by rfl) ?_
       simp only [Z1,Z2]
       refine Z11 1 (by rfl) (fun Lk hLk => ?_)
       simp only [Z1,Z2]
       refine wpV_loadA (i := 0) (v := .string (bs (st.getD 0 []))) (by rfl) rfl rfl (M.oldA Hp) (scells_get (ps := st) (by omega)) Tryd.underlying9 rfl ?_
       simp only [Z7,Z0]
       refine Z14 (hLk _ (fun w71 Sw71 => ?_))
       clear hLk Lk
       simp only [Z1,Z2]
       replace M := M.sees Sw71
       refine Z9 (Z17 ?_)
       refine any_step [7] (by kernel_rfl) rfl (any_one ?_)
       refine any_opL 7 (by rfl) ?_
       simp only [Z1,Z2]
       refine wpL_var (t := 9) (cs := [.string { data := #[] }]) (by rfl) (fun W => ?_) (fun g72 w73 Sw73 Hg72 Bg72 => ?_)
       ·
        go_simp
       replace M := ((M.sees Sw73).add (N := 1) (cs := [.string { data := #[] }]) (M.ge Hg72) (M.fresh Hg72) Bg72 rfl)
       clear Bg72
       simp only [Z7,Z0]
       refine Z9 (Z17 ?_)
       refine any_step [8] (by kernel_rfl) rfl (any_one ?_)
       refine any_opL 8 (by rfl) ?_
       simp only [Z1,Z2]
       refine Z18 (g := g69) (off := 0) (n := 1) (v := .string (bs (st.getD 0 []))) (by rfl) (by rfl) (by rfl) (by rfl) (by rfl) (M.t 1 rfl) (by decide) info9 rfl (fun w74 P R T => ?_)
       replace M := M.putS (new := [.string (bs (st.getD 0 []))]) 1 0 rfl P R T rfl ⟨.inl rfl, trivial⟩
       simp only [Z0] at M
       refine Z9 (Z17 ?_)
       refine any_step [9] (by kernel_rfl) rfl (any_one ?_)
       refine any_opL 9 (by rfl) ?_
       simp only [Z1,Z2]
       refine Z18 (g := g72) (off := 0) (n := 1) (v := .string (bs (st.getD 0 []))) (by rfl) (by rfl) (by rfl) (by rfl) (by rfl) (M.t 0 rfl) (by decide) info9 rfl (fun w75 P R T => ?_)
       replace M := M.putS (new := [.string (bs (st.getD 0 []))]) 0 0 rfl P R T rfl ⟨.inl rfl, trivial⟩
       simp only [Z0] at M
       refine Z9 (Z17 ?_)
       refine any_end (by kernel_rfl) (Z10 ?_)
       exact HK39 g69 g72  _  M
      ·
       refine any_opL 7 (by rfl) ?_
       simp only [Z1,Z2]
       refine wpL_var (t := 9) (cs := [.string { data := #[] }]) (by rfl) (fun W => ?_) (fun g76 w77 Sw77 Hg76 Bg76 => ?_)
       ·
        go_simp
       replace M := ((M.sees Sw77).add (N := 1) (cs := [.string { data := #[] }]) (M.ge Hg76) (M.fresh Hg76) Bg76 rfl)
       clear Bg76
       simp only [Z7,Z0]
       refine Z9 (Z17 ?_)
       refine any_step [5, 8] (by kernel_rfl) rfl (any_two ?_ (any_one ?_))
       ·
        refine any_opL 5 (by rfl) ?_
        simp only [Z1,Z2]
        refine Z11 1 (by rfl) (fun Lk hLk => ?_)
        simp only [Z1,Z2]
        refine wpV_loadA (i := 0) (v := .string (bs (st.getD 0 []))) (by rfl) rfl rfl (M.oldA Hp) (scells_get (ps := st) (by omega)) Tryd.underlying9 rfl ?_
        simp only [Z7,Z0]
        refine Z14 (hLk _ (fun w78 Sw78 => ?_))
        clear hLk Lk
        simp only [Z1,Z2]
        replace M := M.sees Sw78
        refine Z9 (Z17 ?_)
        refine any_step [8] (by kernel_rfl) rfl (any_one ?_)
        refine any_opL 8 (by rfl) ?_
        simp only [Z1,Z2]
        refine Z18 (g := g69) (off := 0) (n := 1) (v := .string (bs (st.getD 0 []))) (by rfl) (by rfl) (by rfl) (by rfl) (by rfl) (M.t 1 rfl) (by decide) info9 rfl (fun w79 P R T => ?_)
        replace M := M.putS (new := [.string (bs (st.getD 0 []))]) 1 0 rfl P R T rfl ⟨.inl rfl, trivial⟩
        simp only [Z0] at M
        refine Z9 (Z17 ?_)
        refine any_step [9] (by kernel_rfl) rfl (any_one ?_)
        refine any_opL 9 (by rfl) ?_
        simp only [Z1,Z2]
        refine Z18 (g := g76) (off := 0) (n := 1) (v := .string (bs (st.getD 0 []))) (by rfl) (by rfl) (by rfl) (by rfl) (by rfl) (M.t 0 rfl) (by decide) info9 rfl (fun w80 P R T => ?_)
        replace M := M.putS (new := [.string (bs (st.getD 0 []))]) 0 0 rfl P R T rfl ⟨.inl rfl, trivial⟩
        simp only [Z0] at M
        refine Z9 (Z17 ?_)
        refine any_end (by kernel_rfl) (Z10 ?_)
        exact HK39 g69 g76  _  M
       ·
        refine any_opL 8 (by rfl) ?_
        simp only [Z1,Z2]
        refine Z18 (g := g69) (off := 0) (n := 1) (v := .string (bs (st.getD 0 []))) (by rfl) (by rfl) (by rfl) (by rfl) (by rfl) (M.t 1 rfl) (by decide) info9 rfl (fun w81 P R T => ?_)
        replace M := M.putS (new := [.string (bs (st.getD 0 []))]) 1 0 rfl P R T rfl ⟨.inl rfl, trivial⟩
        simp only [Z0] at M
        refine Z9 (Z17 ?_)
        refine any_step [5] (by kernel_rfl) rfl (any_one ?_)
        refine any_opL 5 (by rfl) ?_
        simp only [Z1,Z2]
        refine Z11 1 (by rfl) (fun Lk hLk => ?_)
        simp only [Z1,Z2]
        refine wpV_loadA (i := 0) (v := .string (bs (st.getD 0 []))) (by rfl) rfl rfl (M.oldA Hp) (scells_get (ps := st) (by omega)) Tryd.underlying9 rfl ?_
        simp only [Z7,Z0]
        refine Z14 (hLk _ (fun w82 Sw82 => ?_))
        clear hLk Lk
        simp only [Z1,Z2]
        replace M := M.sees Sw82
        refine Z9 (Z17 ?_)
        refine any_step [9] (by kernel_rfl) rfl (any_one ?_)
        refine any_opL 9 (by rfl) ?_
        simp only [Z1,Z2]
        refine Z18 (g := g76) (off := 0) (n := 1) (v := .string (bs (st.getD 0 []))) (by rfl) (by rfl) (by rfl) (by rfl) (by rfl) (M.t 0 rfl) (by decide) info9 rfl (fun w83 P R T => ?_)
        replace M := M.putS (new := [.string (bs (st.getD 0 []))]) 0 0 rfl P R T rfl ⟨.inl rfl, trivial⟩
        simp only [Z0] at M
        refine Z9 (Z17 ?_)
        refine any_end (by kernel_rfl) (Z10 ?_)
        exact HK39 g69 g76  _  M
     ·
      refine any_opL 7 (by rfl) ?_
      simp only [Z1,Z2]
      refine wpL_var (t := 9) (cs := [.string { data := #[] }]) (by rfl) (fun W => ?_) (fun g84 w85 Sw85 Hg84 Bg84 => ?_)
      ·
       go_simp
      replace M := ((M.sees Sw85).add (N := 1) (cs := [.string { data := #[] }]) (M.ge Hg84) (M.fresh Hg84) Bg84 rfl)
      clear Bg84
      simp only [Z7,Z0]
      refine Z9 (Z17 ?_)
      refine any_step [5, 6] (by kernel_rfl) rfl (any_two ?_ (any_one ?_))
      ·
       refine any_opL 5 (by rfl) ?_
       simp only [Z1,Z2]
       refine Z11 1 (by rfl) (fun Lk hLk => ?_)
       simp only [Z1,Z2]
       refine wpV_loadA (i := 0) (v := .string (bs (st.getD 0 []))) (by rfl) rfl rfl (M.oldA Hp) (scells_get (ps := st) (by omega)) Tryd.underlying9 rfl ?_
       simp only [Z7,Z0]
       refine Z14 (hLk _ (fun w86 Sw86 => ?_))
       clear hLk Lk
       simp only [Z1,Z2]
       replace M := M.sees Sw86
       refine Z9 (Z17 ?_)
       refine any_step [6] (by kernel_rfl) rfl (any_one ?_)
       refine any_opL 6 (by rfl) ?_
       simp only [Z1,Z2]
       refine wpL_var (t := 9) (cs := [.string { data := #[] }]) (by rfl) (fun W => ?_) (fun g87 w88 Sw88 Hg87 Bg87 => ?_)
       ·
        go_simp
       replace M := ((M.sees Sw88).add (N := 1) (cs := [.string { data := #[] }]) (M.ge Hg87) (M.fresh Hg87) Bg87 rfl)
       clear Bg87
       simp only [Z7,Z0]
       refine Z9 (Z17 ?_)
       refine any_step [8] (by kernel_rfl) rfl (any_one ?_)
       refine any_opL 8 (by rfl) ?_
       simp only [Z1,Z2]
       refine Z18 (g := g87) (off := 0) (n := 1) (v := .string (bs (st.getD 0 []))) (by rfl) (by rfl) (by rfl) (by rfl) (by rfl) (M.t 0 rfl) (by decide) info9 rfl (fun w89 P R T => ?_)
       replace M := M.putS (new := [.string (bs (st.getD 0 []))]) 0 0 rfl P R T rfl ⟨.inl rfl, trivial⟩
       simp only [Z0] at M
       refine Z9 (Z17 ?_)
       refine any_step [9] (by kernel_rfl) rfl (any_one ?_)
       refine any_opL 9 (by rfl) ?_
       simp only [Z1,Z2]
       refine Z18 (g := g84) (off := 0) (n := 1) (v := .string (bs (st.getD 0 []))) (by rfl) (by rfl) (by rfl) (by rfl) (by rfl) (M.t 1 rfl) (by decide) info9 rfl (fun w90 P R T => ?_)
       replace M := M.putS (new := [.string (bs (st.getD 0 []))]) 1 0 rfl P R T rfl ⟨.inl rfl, trivial⟩
       simp only [Z0] at M
       refine Z9 (Z17 ?_)
       refine any_end (by kernel_rfl) (Z10 ?_)
       exact HK39 g87 g84  _  (M.pick [1, 0] (by decide) rfl)
      ·
       refine any_opL 6 (by rfl) ?_
       simp only [Z1,Z2]
       refine wpL_var (t := 9) (cs := [.string { data := #[] }]) (by rfl) (fun W => ?_) (fun g91 w92 Sw92 Hg91 Bg91 => ?_)
       ·
        go_simp
       replace M := ((M.sees Sw92).add (N := 1) (cs := [.string { data := #[] }]) (M.ge Hg91) (M.fresh Hg91) Bg91 rfl)
       clear Bg91
       simp only [Z7,Z0]
       refine Z9 (Z17 ?_)
       refine any_step [5, 8] (by kernel_rfl) rfl (any_two ?_ (any_one ?_))
       ·
        refine any_opL 5 (by rfl) ?_
        simp only [Z1,Z2]
        refine Z11 1 (by rfl) (fun Lk hLk => ?_)
        simp only [Z1,Z2]
        refine wpV_loadA (i := 0) (v := .string (bs (st.getD 0 []))) (by rfl) rfl rfl (M.oldA Hp) (scells_get (ps := st) (by omega)) Tryd.underlying9 rfl ?_
        simp only [Z7,Z0]
        refine Z14 (hLk _ (fun w93 Sw93 => ?_))
        clear hLk Lk
        simp only [Z1,Z2]
        replace M := M.sees Sw93
        refine Z9 (Z17 ?_)
        refine any_step [8] (by kernel_rfl) rfl (any_one ?_)
        refine any_opL 8 (by rfl) ?_
        simp only [Z1,Z2]
        refine Z18 (g := g91) (off := 0) (n := 1) (v := .string (bs (st.getD 0 []))) (by rfl) (by rfl) (by rfl) (by rfl) (by rfl) (M.t 0 rfl) (by decide) info9 rfl (fun w94 P R T => ?_)
        replace M := M.putS (new := [.string (bs (st.getD 0 []))]) 0 0 rfl P R T rfl ⟨.inl rfl, trivial⟩
        simp only [Z0] at M
        refine Z9 (Z17 ?_)
        refine any_step [9] (by kernel_rfl) rfl (any_one ?_)
        refine any_opL 9 (by rfl) ?_
        simp only [Z1,Z2]
        refine Z18 (g := g84) (off := 0) (n := 1) (v := .string (bs (st.getD 0 []))) (by rfl) (by rfl) (by rfl) (by rfl) (by rfl) (M.t 1 rfl) (by decide) info9 rfl (fun w95 P R T => ?_)
        replace M := M.putS (new := [.string (bs (st.getD 0 []))]) 1 0 rfl P R T rfl ⟨.inl rfl, trivial⟩
        simp only [Z0] at M
        refine Z9 (Z17 ?_)
        refine any_end (by kernel_rfl) (Z10 ?_)
        exact HK39 g91 g84  _  (M.pick [1, 0] (by decide) rfl)
       ·
        refine any_opL 8 (by rfl) ?_
        simp only [Z1,Z2]
        refine Z18 (g := g91) (off := 0) (n := 1) (v := .string (bs (st.getD 0 []))) (by rfl) (by rfl) (by rfl) (by rfl) (by rfl) (M.t 0 rfl) (by decide) info9 rfl (fun w96 P R T => ?_)
        replace M := M.putS (new := [.string (bs (st.getD 0 []))]) 0 0 rfl P R T rfl ⟨.inl rfl, trivial⟩
        simp only [Z0] at M
        refine Z9 (Z17 ?_)
        refine any_step [5] (by kernel_rfl) rfl (any_one ?_)
        refine any_opL 5 (by rfl) ?_
        simp only [Z1,Z2]
        refine Z11 1 (by rfl) (fun Lk hLk => ?_)
        simp only [Z1,Z2]
        refine wpV_loadA (i := 0) (v := .string (bs (st.getD 0 []))) (by rfl) rfl rfl (M.oldA Hp) (scells_get (ps := st) (by omega)) Tryd.underlying9 rfl ?_
        simp only [Z7,Z0]
        refine Z14 (hLk _ (fun w97 Sw97 => ?_))
        clear hLk Lk
        simp only [Z1,Z2]
        replace M := M.sees Sw97
        refine Z9 (Z17 ?_)
        refine any_step [9] (by kernel_rfl) rfl (any_one ?_)
        refine any_opL 9 (by rfl) ?_
        simp only [Z1,Z2]
        refine Z18 (g := g84) (off := 0) (n := 1) (v := .string (bs (st.getD 0 []))) (by rfl) (by rfl) (by rfl) (by rfl) (by rfl) (M.t 1 rfl) (by decide) info9 rfl (fun w98 P R T => ?_)
        replace M := M.putS (new := [.string (bs (st.getD 0 []))]) 1 0 rfl P R T rfl ⟨.inl rfl, trivial⟩
        simp only [Z0] at M
        refine Z9 (Z17 ?_)
        refine any_end (by kernel_rfl) (Z10 ?_)
        exact HK39 g91 g84  _  (M.pick [1, 0] (by decide) rfl)
    ·
     refine any_opL 5 (by rfl) ?_
     simp only [Z1,Z2]
     refine Z11 1 (by rfl) (fun Lk hLk => ?_)
     simp only [Z1,Z2]
     refine wpV_loadA (i := 0) (v := .string (bs (st.getD 0 []))) (by rfl) rfl rfl (M.oldA Hp) (scells_get (ps := st) (by omega)) Tryd.underlying9 rfl ?_
     simp only [Z7,Z0]
     refine Z14 (hLk _ (fun w99 Sw99 => ?_))
     clear hLk Lk
     simp only [Z1,Z2]
     replace M := M.sees Sw99
     refine Z9 (Z17 ?_)
     refine any_step [2, 6, 7] (by kernel_rfl) rfl (any_two ?_ (any_two ?_ (any_one ?_)))
     ·
      refine any_opL 2 (by rfl) ?_
      simp only [Z1,Z2]
      refine Z11 1 (by rfl) (fun Lk hLk => ?_)
      simp only [Z1,Z2]
      refine wpV_loadA (i := 0) (v := .string (bs (st.getD 0 []))) (by rfl) rfl rfl (M.oldA Hp) (scells_get (ps := st) (by omega)) Tryd.underlying9 rfl ?_
      simp only [Z7,Z0]
      refine Z14 (hLk _ (fun w100 Sw100 => ?_))
      clear hLk Lk
      simp only [Z1,Z2]
      replace M := M.sees Sw100
      refine Z9 (Z17 ?_)
      refine any_step [6, 7] (by kernel_rfl) rfl (any_two ?_ (any_one ?_))
      ·
       refine any_opL 6 (by rfl) ?_
       simp only [Z1,Z2]
       refine wpL_var (t := 9) (cs := [.string { data := #[] }]) (by rfl) (fun W => ?_) (fun g101 w102 Sw102 Hg101 Bg101 => ?_)
       ·
        go_simp
       replace M := ((M.sees Sw102).add (N := 1) (cs := [.string { data := #[] }]) (M.ge Hg101) (M.fresh Hg101) Bg101 rfl)
       clear Bg101
       simp only [Z7,Z0]
       refine Z9 (Z17 ?_)
       refine any_step [7] (by kernel_rfl) rfl (any_one ?_)
       refine any_opL 7 (by rfl) ?_
       simp only [Z1,Z2]
       refine wpL_var (t := 9) (cs := [.string { data := #[] }]) (by rfl) (fun W => ?_) (fun g103 w104 Sw104 Hg103 Bg103 => ?_)
       ·
        go_simp
       replace M := ((M.sees Sw104).add (N := 1) (cs := [.string { data := #[] }]) (M.ge Hg103) (M.fresh Hg103) Bg103 rfl)
       clear Bg103
       simp only [Z7,Z0]
       refine Z9 (Z17 ?_)
       refine any_step [8] (by kernel_rfl) rfl (any_one ?_)
       refine any_opL 8 (by rfl) ?_
       simp only [Z1,Z2]
       refine Z18 (g := g101) (off := 0) (n := 1) (v := .string (bs (st.getD 0 []))) (by rfl) (by rfl) (by rfl) (by rfl) (by rfl) (M.t 1 rfl) (by decide) info9 rfl (fun w105 P R T => ?_)
       replace M := M.putS (new := [.string (bs (st.getD 0 []))]) 1 0 rfl P R T rfl ⟨.inl rfl, trivial⟩
       simp only [Z0] at M
       refine Z9 (Z17 ?_)
       refine any_step [9] (by kernel_rfl) rfl (any_one ?_)
       refine any_opL 9 (by rfl) ?_
       simp only [Z1,Z2]
       refine Z18 (g := g103) (off := 0) (n := 1) (v := .string (bs (st.getD 0 []))) (by rfl) (by rfl) (by rfl) (by rfl) (by rfl) (M.t 0 rfl) (by decide) info9 rfl (fun w106 P R T => ?_)
       replace M := M.putS (new := [.string (bs (st.getD 0 []))]) 0 0 rfl P R T rfl ⟨.inl rfl, trivial⟩
       simp only [Z0] at M
       refine Z9 (Z17 ?_)
       refine any_end (by kernel_rfl) (Z10 ?_)
       exact HK39 g101 g103  _  M
      ·
       refine any_opL 7 (by rfl) ?_
       simp only [Z1,Z2]
       refine wpL_var (t := 9) (cs := [.string { data := #[] }]) (by rfl) (fun W => ?_) (fun g107 w108 Sw108 Hg107 Bg107 => ?_)
       ·
        go_simp
       replace M := ((M.sees Sw108).add (N := 1) (cs := [.string { data := #[] }]) (M.ge Hg107) (M.fresh Hg107) Bg107 rfl)
       clear Bg107
       simp only [Z7,Z0]
       refine Z9 (Z17 ?_)
       refine any_step [6] (by kernel_rfl) rfl (any_one ?_)
       refine any_opL 6 (by rfl) ?_
       simp only [Z1,Z2]
       refine wpL_var (t := 9) (cs := [.string { data := #[] }]) (by rfl) (fun W => ?_) (fun g109 w110 Sw110 Hg109 Bg109 => ?_)
       ·
        go_simp
       replace M := ((M.sees Sw110).add (N := 1) (cs := [.string { data := #[] }]) (M.ge Hg109) (M.fresh Hg109) Bg109 rfl)
       clear Bg109
       simp only [Z7,Z0]
       refine Z9 (Z17 ?_)
       refine any_step [8] (by kernel_rfl) rfl (any_one ?_)
       refine any_opL 8 (by rfl) ?_
       simp only [Z1,Z2]
       refine Z18 (g := g109) (off := 0) (n := 1) (v := .string (bs (st.getD 0 []))) (by rfl) (by rfl) (by rfl) (by rfl) (by rfl) (M.t 0 rfl) (by decide) info9 rfl (fun w111 P R T => ?_)
       replace M := M.putS (new := [.string (bs (st.getD 0 []))]) 0 0 rfl P R T rfl ⟨.inl rfl, trivial⟩
       simp only [Z0] at M
       refine Z9 (Z17 ?_)
       refine any_step [9] (by kernel_rfl) rfl (any_one ?_)
       refine any_opL 9 (by rfl) ?_
       simp only [Z1,Z2]
       refine Z18 (g := g107) (off := 0) (n := 1) (v := .string (bs (st.getD 0 []))) (by rfl) (by rfl) (by rfl) (by rfl) (by rfl) (M.t 1 rfl) (by decide) info9 rfl (fun w112 P R T => ?_)
       replace M := M.putS (new := [.string (bs (st.getD 0 []))]) 1 0 rfl P R T rfl ⟨.inl rfl, trivial⟩
       simp only [Z0] at M
       refine Z9 (Z17 ?_)
       refine any_end (by kernel_rfl) (Z10 ?_)
       exact HK39 g109 g107  _  (M.pick [1, 0] (by decide) rfl)
     ·
      refine any_opL 6 (by rfl) ?_
      simp only [Z1,Z2]
      refine wpL_var (t := 9) (cs := [.string { data := #[] }]) (by rfl) (fun W => ?_) (fun g113 w114 Sw114 Hg113 Bg113 => ?_)
      ·
       go_simp
      replace M := ((M.sees Sw114).add (N := 1) (cs := [.string { data := #[] }]) (M.ge Hg113) (M.fresh Hg113) Bg113 rfl)
      clear Bg113
      simp only [Z7,Z0]
      refine Z9 (Z17 ?_)
      refine any_step [2, 7] (by kernel_rfl) rfl (any_two ?_ (any_one ?_))
      ·
       refine any_opL 2 (by rfl) ?_
       simp only [Z1,Z2]
       refine Z11 1 (by rfl) (fun Lk hLk => ?_)
       simp only [Z1,Z2]
       refine wpV_loadA (i := 0) (v := .string (bs (st.getD 0 []))) (by rfl) rfl rfl (M.oldA Hp) (scells_get (ps := st) (by omega)) Tryd.underlying9 rfl ?_
       simp only [Z7,Z0]
       refine Z14 (hLk _ (fun w115 Sw115 => ?_))
       clear hLk Lk
       simp only [Z1,Z2]
       replace M := M.sees Sw115
       refine Z9 (Z17 ?_)
       refine any_step [7] (by kernel_rfl) rfl (any_one ?_)
       refine any_opL 7 (by rfl) ?_
       simp only [Z1,Z2]
       refine wpL_var (t := 9) (cs := [.string { data := #[] }]) (by rfl) (fun W => ?_) (fun g116 w117 Sw117 Hg116 Bg116 => ?_)
       ·
        go_simp
       replace M := ((M.sees Sw117).add (N := 1) (cs := [.string { data := #[] }]) (M.ge Hg116) (M.fresh Hg116) Bg116 rfl)
       clear Bg116
       simp only [Z7,Z0]
       refine Z9 (Z17 ?_)
       refine any_step [8] (by kernel_rfl) rfl (any_one ?_)
       refine any_opL 8 (by rfl) ?_
       simp only [Z1,Z2]
       refine Z18 (g := g113) (off := 0) (n := 1) (v := .string (bs (st.getD 0 []))) (by rfl) (by rfl) (by rfl) (by rfl) (by rfl) (M.t 1 rfl) (by decide) info9 rfl (fun w118 P R T => ?_)
       replace M := M.putS (new := [.string (bs (st.getD 0 []))]) 1 0 rfl P R T rfl ⟨.inl rfl, trivial⟩
       simp only [Z0] at M
       refine Z9 (Z17 ?_)
       refine any_step [9] (by kernel_rfl) rfl (any_one ?_)
       refine any_opL 9 (by rfl) ?_
       simp only [Z1,Z2]
       refine Z18 (g := g116) (off := 0) (n := 1) (v := .string (bs (st.getD 0 []))) (by rfl) (by rfl) (by rfl) (by rfl) (by rfl) (M.t 0 rfl) (by decide) info9 rfl (fun w119 P R T => ?_)
       replace M := M.putS (new := [.string (bs (st.getD 0 []))]) 0 0 rfl P R T rfl ⟨.inl rfl, trivial⟩
       simp only [Z0] at M
       refine Z9 (Z17 ?_)
       refine any_end (by kernel_rfl) (Z10 ?_)
       exact HK39 g113 g116  _  M
      ·
       refine any_opL 7 (by rfl) ?_
       simp only [Z1,Z2]
       refine wpL_var (t := 9) (cs := [.string { data := #[] }]) (by rfl) (fun W => ?_) (fun g120 w121 Sw121 Hg120 Bg120 => ?_)
       ·
        go_simp
       replace M := ((M.sees Sw121).add (N := 1) (cs := [.string { data := #[] }]) (M.ge Hg120) (M.fresh Hg120) Bg120 rfl)
       clear Bg120
       simp only [Z7,Z0]
       refine Z9 (Z17 ?_)
       refine any_step [2] (by kernel_rfl) rfl (any_one ?_)
       refine any_opL 2 (by rfl) ?_
       simp only [Z1,Z2]
       refine Z11 1 (by rfl) (fun Lk hLk => ?_)
       simp only [Z1,Z2]
       refine wpV_loadA (i := 0) (v := .string (bs (st.getD 0 []))) (by rfl) rfl rfl (M.oldA Hp) (scells_get (ps := st) (by omega)) Tryd.underlying9 rfl ?_
       simp only [Z7,Z0]
       refine Z14 (hLk _ (fun w122 Sw122 => ?_))
       clear hLk Lk
       simp only [Z1,Z2]
       replace M := M.sees Sw122
       refine Z9 (Z17 ?_)
       refine any_step [8] (by kernel_rfl) rfl (any_one ?_)
       refine any_opL 8 (by rfl) ?_
       simp only [Z1,Z2]
       refine Z18 (g := g113) (off := 0) (n := 1) (v := .string (bs (st.getD 0 []))) (by rfl) (by rfl) (by rfl) (by rfl) (by rfl) (M.t 1 rfl) (by decide) info9 rfl (fun w123 P R T => ?_)
       replace M := M.putS (new := [.string (bs (st.getD 0 []))]) 1 0 rfl P R T rfl ⟨.inl rfl, trivial⟩
       simp only [Z0] at M
       refine Z9 (Z17 ?_)
       refine any_step [9] (by kernel_rfl) rfl (any_one ?_)
       refine any_opL 9 (by rfl) ?_
       simp only [Z1,Z2]
       refine Z18 (g := g120) (off := 0) (n := 1) (v := .string (bs (st.getD 0 []))) (by rfl) (by rfl) (by rfl) (by rfl) (by rfl) (M.t 0 rfl) (by decide) info9 rfl (fun w124 P R T => ?_)
       replace M := M.putS (new := [.string (bs (st.getD 0 []))]) 0 0 rfl P R T rfl ⟨.inl rfl, trivial⟩
       simp only [Z0] at M
       refine Z9 (Z17 ?_)
       refine any_end (by kernel_rfl) (Z10 ?_)
       exact HK39 g113 g120  _  M
     ·
      refine any_opL 7 (by rfl) ?_
      simp only [Z1,Z2]
      refine wpL_var (t := 9) (cs := [.string { data := #[] }]) (by rfl) (fun W => ?_) (fun g125 w126 Sw126 Hg125 Bg125 => ?_)
      ·
       go_simp
      replace M := ((M.sees Sw126).add (N := 1) (cs := [.string { data := #[] }]) (M.ge Hg125) (M.fresh Hg125) Bg125 rfl)
      clear Bg125
      simp only [Z7,Z0]
      refine Z9 (Z17 ?_)
      refine any_step [2, 6] (by kernel_rfl) rfl (any_two ?_ (any_one ?_))
      ·
       refine any_opL 2 (by rfl) ?_
       simp only [Z1,Z2]
       refine Z11 1 (by rfl) (fun Lk hLk => ?_)
       simp only [Z1,Z2]
       refine wpV_loadA (i := 0) (v := .string (bs (st.getD 0 []))) (by rfl) rfl rfl (M.oldA Hp) (scells_get (ps := st) (by omega)) Tryd.underlying9 rfl ?_
       simp only [Z7,Z0]
       refine Z14 (hLk _ (fun w127 Sw127 => ?_))
       clear hLk Lk
       simp only [Z1,Z2]
       replace M := M.sees Sw127
       refine Z9 (Z17 ?_)
       refine any_step [6] (by kernel_rfl) rfl (any_one ?_)
       refine any_opL 6 (by rfl) ?_
       simp only [Z1,Z2]
       refine wpL_var (t := 9) (cs := [.string { data := #[] }]) (by rfl) (fun W => ?_) (fun g128 w129 Sw129 Hg128 Bg128 => ?_)
       ·
        go_simp
       replace M := ((M.sees Sw129).add (N := 1) (cs := [.string { data := #[] }]) (M.ge Hg128) (M.fresh Hg128) Bg128 rfl)
       clear Bg128
       simp only [Z7,Z0]
       refine Z9 (Z17 ?_)
       refine any_step [8] (by kernel_rfl) rfl (any_one ?_)
       refine any_opL 8 (by rfl) ?_
       simp only [Z1,Z2]
       refine Z18 (g := g128) (off := 0) (n := 1) (v := .string (bs (st.getD 0 []))) (by rfl) (by rfl) (by rfl) (by rfl) (by rfl) (M.t 0 rfl) (by decide) info9 rfl (fun w130 P R T => ?_)
       replace M := M.putS (new := [.string (bs (st.getD 0 []))]) 0 0 rfl P R T rfl ⟨.inl rfl, trivial⟩
       simp only [Z0] at M
       refine Z9 (Z17 ?_)
       refine any_step [9] (by kernel_rfl) rfl (any_one ?_)
       refine any_opL 9 (by rfl) ?_
       simp only [Z1,Z2]
       refine Z18 (g := g125) (off := 0) (n := 1) (v := .string (bs (st.getD 0 []))) (by rfl) (by rfl) (by rfl) (by rfl) (by rfl) (M.t 1 rfl) (by decide) info9 rfl (fun w131 P R T => ?_)
       replace M := M.putS (new := [.string (bs (st.getD 0 []))]) 1 0 rfl P R T rfl ⟨.inl rfl, trivial⟩
       simp only [Z0] at M
       refine Z9 (Z17 ?_)
       refine any_end (by kernel_rfl) (Z10 ?_)
       exact HK39 g128 g125  _  (M.pick [1, 0] (by decide) rfl)
      ·
       refine any_opL 6 (by rfl) ?_
       simp only [Z1,Z2]
       refine wpL_var (t := 9) (cs := [.string { data := #[] }]) (by rfl) (fun W => ?_) (fun g132 w133 Sw133 Hg132 Bg132 => ?_)
       ·
        go_simp
       replace M := ((M.sees Sw133).add (N := 1) (cs := [.string { data := #[] }]) (M.ge Hg132) (M.fresh Hg132) Bg132 rfl)
       clear Bg132
       simp only [Z7,Z0]
       refine Z9 (Z17 ?_)
       refine any_step [2] (by kernel_rfl) rfl (any_one ?_)
       refine any_opL 2 (by rfl) ?_
       simp only [Z1,Z2]
       refine Z11 1 (by rfl) (fun Lk hLk => ?_)
       simp only [Z1,Z2]
       refine wpV_loadA (i := 0) (v := .string (bs (st.getD 0 []))) (by rfl) rfl rfl (M.oldA Hp) (scells_get (ps := st) (by omega)) Tryd.underlying9 rfl ?_
       simp only [Z7,Z0]
       refine Z14 (hLk _ (fun w134 Sw134 => ?_))
       clear hLk Lk
       simp only [Z1,Z2]
       replace M := M.sees Sw134
       refine Z9 (Z17 ?_)
       refine any_step [8] (by kernel_rfl) rfl (any_one ?_)
       refine any_opL 8 (by rfl) ?_
       simp only [Z1,Z2]
       refine Z18 (g := g132) (off := 0) (n := 1) (v := .string (bs (st.getD 0 []))) (by rfl) (by rfl) (by rfl) (by rfl) (by rfl) (M.t 0 rfl) (by decide) info9 rfl (fun w135 P R T => ?_)
       replace M := M.putS (new := [.string (bs (st.getD 0 []))]) 0 0 rfl P R T rfl ⟨.inl rfl, trivial⟩
       simp only [Z0] at M
       refine Z9 (Z17 ?_)
       refine any_step [9] (by kernel_rfl) rfl (any_one ?_)
       refine any_opL 9 (by rfl) ?_
       simp only [Z1,Z2]
       refine Z18 (g := g125) (off := 0) (n := 1) (v := .string (bs (st.getD 0 []))) (by rfl) (by rfl) (by rfl) (by rfl) (by rfl) (M.t 1 rfl) (by decide) info9 rfl (fun w136 P R T => ?_)
       replace M := M.putS (new := [.string (bs (st.getD 0 []))]) 1 0 rfl P R T rfl ⟨.inl rfl, trivial⟩
       simp only [Z0] at M
       refine Z9 (Z17 ?_)
       refine any_end (by kernel_rfl) (Z10 ?_)
       exact HK39 g132 g125  _  (M.pick [1, 0] (by decide) rfl)
    ·
     refine any_opL 6 (by rfl) ?_
     simp only [Z1,Z2]
     refine wpL_var (t := 9) (cs := [.string { data := #[] }]) (by rfl) (fun W => ?_) (fun g137 w138 Sw138 Hg137 Bg137 => ?_)
     ·
      go_simp
     replace M := ((M.sees Sw138).add (N := 1) (cs := [.string { data := #[] }]) (M.ge Hg137) (M.fresh Hg137) Bg137 rfl)
     clear Bg137
     simp only [Z7,Z0]
     refine Z9 (Z17 ?_)
     refine any_step [2, 5, 7] (by kernel_rfl) rfl (any_two ?_ (any_two ?_ (any_one ?_)))
     ·
      refine any_opL 2 (by rfl) ?_
      simp only [Z1,Z2]
      refine Z11 1 (by rfl) (fun Lk hLk => ?_)
      simp only [Z1,Z2]
      refine wpV_loadA (i := 0) (v := .string (bs (st.getD 0 []))) (by rfl) rfl rfl (M.oldA Hp) (scells_get (ps := st) (by omega)) Tryd.underlying9 rfl ?_
      simp only [Z7,Z0]
      refine Z14 (hLk _ (fun w139 Sw139 => ?_))
      clear hLk Lk
      simp only [Z1,Z2]
      replace M := M.sees Sw139
      refine Z9 (Z17 ?_)
      refine any_step [5, 7] (by kernel_rfl) rfl (any_two ?_ (any_one ?_))
      ·
       refine any_opL 5 (by rfl) ?_
       simp only [Z1,Z2]
       refine Z11 1 (by rfl) (fun Lk hLk => ?_)
       simp only [Z1,Z2]
       refine wpV_loadA (i := 0) (v := .string (bs (st.getD 0 []))) (by rfl) rfl rfl (M.oldA Hp) (scells_get (ps := st) (by omega)) Tryd.underlying9 rfl ?_
       simp only [Z7,Z0]
       refine Z14 (hLk _ (fun w140 Sw140 => ?_))
       clear hLk Lk
       simp only [Z1,Z2]
       replace M := M.sees Sw140
       refine Z9 (Z17 ?_)
       refine any_step [7] (by kernel_rfl) rfl (any_one ?_)
       refine any_opL 7 (by rfl) ?_
       simp only [Z1,Z2]
       refine wpL_var (t := 9) (cs := [.string { data := #[] }]) (by rfl) (fun W => ?_) (fun g141 w142 Sw142 Hg141 Bg141 => ?_)
       ·
        go_simp
       replace M := ((M.sees Sw142).add (N := 1) (cs := [.string { data := #[] }]) (M.ge Hg141) (M.fresh Hg141) Bg141 rfl)
       clear Bg141
       simp only [Z7,Z0]
       refine Z9 (Z17 ?_)
       refine any_step [8] (by kernel_rfl) rfl (any_one ?_)
       refine any_opL 8 (by rfl) ?_
       simp only [Z1,Z2]
       refine Z18 (g := g137) (off := 0) (n := 1) (v := .string (bs (st.getD 0 []))) (by rfl) (by rfl) (by rfl) (by rfl) (by rfl) (M.t 1 rfl) (by decide) info9 rfl (fun w143 P R T => ?_)
       replace M := M.putS (new := [.string (bs (st.getD 0 []))]) 1 0 rfl P R T rfl ⟨.inl rfl, trivial⟩
       simp only [Z0] at M
       refine Z9 (Z17 ?_)
       refine any_step [9] (by kernel_rfl) rfl (any_one ?_)
       refine any_opL 9 (by rfl) ?_
       simp only [Z1,Z2]
       refine Z18 (g := g141) (off := 0) (n := 1) (v := .string (bs (st.getD 0 []))) (by rfl) (by rfl) (by rfl) (by rfl) (by rfl) (M.t 0 rfl) (by decide) info9 rfl (fun w144 P R T => ?_)
       replace M := M.putS (new := [.string (bs (st.getD 0 []))]) 0 0 rfl P R T rfl ⟨.inl rfl, trivial⟩
       simp only [Z0] at M
       refine Z9 (Z17 ?_)
       refine any_end (by kernel_rfl) (Z10 ?_)
       exact HK39 g137 g141  _  M
      ·
       refine any_opL 7 (by rfl) ?_
       simp only [Z1,Z2]
       refine wpL_var (t := 9) (cs := [.string { data := #[] }]) (by rfl) (fun W => ?_) (fun g145 w146 Sw146 Hg145 Bg145 => ?_)
       ·
        go_simp
       replace M := ((M.sees Sw146).add (N := 1) (cs := [.string { data := #[] }]) (M.ge Hg145) (M.fresh Hg145) Bg145 rfl)
       clear Bg145
       simp only [Z7,Z0]
       refine Z9 (Z17 ?_)
       refine any_step [5, 8] (by kernel_rfl) rfl (any_two ?_ (any_one ?_))
       ·
        refine any_opL 5 (by rfl) ?_
        simp only [Z1,Z2]
        refine Z11 1 (by rfl) (fun Lk hLk => ?_)
        simp only [Z1,Z2]
        refine wpV_loadA (i := 0) (v := .string (bs (st.getD 0 []))) (by rfl) rfl rfl (M.oldA Hp) (scells_get (ps := st) (by omega)) Tryd.underlying9 rfl ?_
        simp only [Z7,Z0]
        refine Z14 (hLk _ (fun w147 Sw147 => ?_))
        clear hLk Lk
        simp only [Z1,Z2]
        replace M := M.sees Sw147
        refine Z9 (Z17 ?_)
        refine any_step [8] (by kernel_rfl) rfl (any_one ?_)
        refine any_opL 8 (by rfl) ?_
        simp only [Z1,Z2]
        refine Z18 (g := g137) (off := 0) (n := 1) (v := .string (bs (st.getD 0 []))) (by rfl) (by rfl) (by rfl) (by rfl) (by rfl) (M.t 1 rfl) (by decide) info9 rfl (fun w148 P R T => ?_)
        replace M := M.putS (new := [.string (bs (st.getD 0 []))]) 1 0 rfl P R T rfl ⟨.inl rfl, trivial⟩
        simp only [Z0] at M
        refine Z9 (Z17 ?_)
        refine any_step [9] (by kernel_rfl) rfl (any_one ?_)
        refine any_opL 9 (by rfl) ?_
        simp only [Z1,Z2]
        refine Z18 (g := g145) (off := 0) (n := 1) (v := .string (bs (st.getD 0 []))) (by rfl) (by rfl) (by rfl) (by rfl) (by rfl) (M.t 0 rfl) (by decide) info9 rfl (fun w149 P R T => ?_)
        replace M := M.putS (new := [.string (bs (st.getD 0 []))]) 0 0 rfl P R T rfl ⟨.inl rfl, trivial⟩
        simp only [Z0] at M
        refine Z9 (Z17 ?_)
        refine any_end (by kernel_rfl) (Z10 ?_)
        exact HK39 g137 g145  _  M
       ·
        refine any_opL 8 (by rfl) ?_
        simp only [Z1,Z2]
        refine Z18 (g := g137) (off := 0) (n := 1) (v := .string (bs (st.getD 0 []))) (by rfl) (by rfl) (by rfl) (by rfl) (by rfl) (M.t 1 rfl) (by decide) info9 rfl (fun w150 P R T => ?_)
        replace M := M.putS (new := [.string (bs (st.getD 0 []))]) 1 0 rfl P R T rfl ⟨.inl rfl, trivial⟩
        simp only [Z0] at M
        refine Z9 (Z17 ?_)
        refine any_step [5] (by kernel_rfl) rfl (any_one ?_)
        refine any_opL 5 (by rfl) ?_
        simp only [Z1,Z2]
        refine Z11 1 (by rfl) (fun Lk hLk => ?_)
        simp only [Z1,Z2]
        refine wpV_loadA (i := 0) (v := .string (bs (st.getD 0 []))) (by rfl) rfl rfl (M.oldA Hp) (scells_get (ps := st) (by omega)) Tryd.underlying9 rfl ?_
        simp only [Z7,Z0]
        refine Z14 (hLk _ (fun w151 Sw151 => ?_))
        clear hLk Lk
        simp only [Z1,Z2]
        replace M := M.sees Sw151
        refine Z9 (Z17 ?_)
        refine any_step [9] (by kernel_rfl) rfl (any_one ?_)
        refine any_opL 9 (by rfl) ?_
        simp only [Z1,Z2]
        refine Z18 (g := g145) (off := 0) (n := 1) (v := .string (bs (st.getD 0 []))) (by rfl) (by rfl) (by rfl) (by rfl) (by rfl) (M.t 0 rfl) (by decide) info9 rfl (fun w152 P R T => ?_)
        replace M := M.putS (new := [.string (bs (st.getD 0 []))]) 0 0 rfl P R T rfl ⟨.inl rfl, trivial⟩
        simp only [Z0] at M
        refine Z9 (Z17 ?_)
        refine any_end (by kernel_rfl) (Z10 ?_)
        exact HK39 g137 g145  _  M
     ·
      refine any_opL 5 (by rfl) ?_
      simp only [Z1,Z2]
      refine Z11 1 (by rfl) (fun Lk hLk => ?_)
      simp only [Z1,Z2]
      refine wpV_loadA (i := 0) (v := .string (bs (st.getD 0 []))) (by rfl) rfl rfl (M.oldA Hp) (scells_get (ps := st) (by omega)) Tryd.underlying9 rfl ?_
      simp only [Z7,Z0]
      refine Z14 (hLk _ (fun w153 Sw153 => ?_))
      clear hLk Lk
      simp only [Z1,Z2]
      replace M := M.sees Sw153
      refine Z9 (Z17 ?_)
      refine any_step [2, 7] (by kernel_rfl) rfl (any_two ?_ (any_one ?_))
      ·
       refine any_opL 2 (by rfl) ?_
       simp only [Z1,Z2]
       refine Z11 1 (by rfl) (fun Lk hLk => ?_)
       simp only [Z1,Z2]
       refine wpV_loadA (i := 0) (v := .string (bs (st.getD 0 []))) (by rfl) rfl rfl (M.oldA Hp) (scells_get (ps := st) (by omega)) Tryd.underlying9 rfl ?_
       simp only [Z7,Z0]
       refine Z14 (hLk _ (fun w154 Sw154 => ?_))
       clear hLk Lk
       simp only [Z1,Z2]
       replace M := M.sees Sw154
       refine Z9 (Z17 ?_)
       refine any_step [7] (by kernel_rfl) rfl (any_one ?_)
       refine any_opL 7 (by rfl) ?_
       simp only [Z1,Z2]
       refine wpL_var (t := 9) (cs := [.string { data := #[] }]) (by rfl) (fun W => ?_) (fun g155 w156 Sw156 Hg155 Bg155 => ?_)
       ·
        go_simp
       replace M := ((M.sees Sw156).add (N := 1) (cs := [.string { data := #[] }]) (M.ge Hg155) (M.fresh Hg155) Bg155 rfl)
       clear Bg155
       simp only [Z7,Z0]
       refine Z9 (Z17 ?_)
       refine any_step [8] (by kernel_rfl) rfl (any_one ?_)
       refine any_opL 8 (by rfl) ?_
       simp only [Z1,Z2]
       refine Z18 (g := g137) (off := 0) (n := 1) (v := .string (bs (st.getD 0 []))) (by rfl) (by rfl) (by rfl) (by rfl) (by rfl) (M.t 1 rfl) (by decide) info9 rfl (fun w157 P R T => ?_)
       replace M := M.putS (new := [.string (bs (st.getD 0 []))]) 1 0 rfl P R T rfl ⟨.inl rfl, trivial⟩
       simp only [Z0] at M
       refine Z9 (Z17 ?_)
       refine any_step [9] (by kernel_rfl) rfl (any_one ?_)
       refine any_opL 9 (by rfl) ?_
       simp only [Z1,Z2]
       refine Z18 (g := g155) (off := 0) (n := 1) (v := .string (bs (st.getD 0 []))) (by rfl) (by rfl) (by rfl) (by rfl) (by rfl) (M.t 0 rfl) (by decide) info9 rfl (fun w158 P R T => ?_)
       replace M := M.putS (new := [.string (bs (st.getD 0 []))]) 0 0 rfl P R T rfl ⟨.inl rfl, trivial⟩
       simp only [Z0] at M
       refine Z9 (Z17 ?_)
       refine any_end (by kernel_rfl) (Z10 ?_)
       exact HK39 g137 g155  _  M
      ·
       refine any_opL 7 (by rfl) ?_
       simp only [Z1,Z2]
       refine wpL_var (t := 9) (cs := [.string { data := #[] }]) (by rfl) (fun W => ?_) (fun g159 w160 Sw160 Hg159 Bg159 => ?_)
       ·
        go_simp
       replace M := ((M.sees Sw160).add (N := 1) (cs := [.string { data := #[] }]) (M.ge Hg159) (M.fresh Hg159) Bg159 rfl)
       clear Bg159
       simp only [Z7,Z0]
       refine Z9 (Z17 ?_)
       refine any_step [2] (by kernel_rfl) rfl (any_one ?_)
       refine any_opL 2 (by rfl) ?_
       simp only [Z1,Z2]
       refine Z11 1 (by rfl) (fun Lk hLk => ?_)
       simp only [Z1,Z2]
       refine wpV_loadA (i := 0) (v := .string (bs (st.getD 0 []))) (by rfl) rfl rfl (M.oldA Hp) (scells_get (ps := st) (by omega)) Tryd.underlying9 rfl ?_
       simp only [Z7,Z0]
       refine Z14 (hLk _ (fun w161 Sw161 => ?_))
       clear hLk Lk
       simp only [Z1,Z2]
       replace M := M.sees Sw161
       refine Z9 (Z17 ?_)
       refine any_step [8] (by kernel_rfl) rfl (any_one ?_)
       refine any_opL 8 (by rfl) ?_
       simp only [Z1,Z2]
       refine Z18 (g := g137) (off := 0) (n := 1) (v := .string (bs (st.getD 0 []))) (by rfl) (by rfl) (by rfl) (by rfl) (by rfl) (M.t 1 rfl) (by decide) info9 rfl (fun w162 P R T => ?_)
       replace M := M.putS (new := [.string (bs (st.getD 0 []))]) 1 0 rfl P R T rfl ⟨.inl rfl, trivial⟩
       simp only [Z0] at M
       refine Z9 (Z17 ?_)
       refine any_step [9] (by kernel_rfl) rfl (any_one ?_)
       refine any_opL 9 (by rfl) ?_
       simp only [Z1,Z2]
       refine Z18 (g := g159) (off := 0) (n := 1) (v := .string (bs (st.getD 0 []))) (by rfl) (by rfl) (by rfl) (by rfl) (by rfl) (M.t 0 rfl) (by decide) info9 rfl (fun w163 P R T => ?_)
       replace M := M.putS (new := [.string (bs (st.getD 0 []))]) 0 0 rfl P R T rfl ⟨.inl rfl, trivial⟩
       simp only [Z0] at M
       refine Z9 (Z17 ?_)
       refine any_end (by kernel_rfl) (Z10 ?_)
       exact HK39 g137 g159  _  M
     ·
      refine any_opL 7 (by rfl) ?_
      simp only [Z1,Z2]
      refine wpL_var (t := 9) (cs := [.string { data := #[] }]) (by rfl) (fun W => ?_) (fun g164 w165 Sw165 Hg164 Bg164 => ?_)
      ·
       go_simp
      replace M := ((M.sees Sw165).add (N := 1) (cs := [.string { data := #[] }]) (M.ge Hg164) (M.fresh Hg164) Bg164 rfl)
      clear Bg164
      simp only [Z7,Z0]
      refine Z9 (Z17 ?_)
      refine any_step [2, 5] (by kernel_rfl) rfl (any_two ?_ (any_one ?_))
      ·
       refine any_opL 2 (by rfl) ?_
       simp only [Z1,Z2]
       refine Z11 1 (by rfl) (fun Lk hLk => ?_)
       simp only [Z1,Z2]
       refine wpV_loadA (i := 0) (v := .string (bs (st.getD 0 []))) (by rfl) rfl rfl (M.oldA Hp) (scells_get (ps := st) (by omega)) Tryd.underlying9 rfl ?_
       simp only [Z7,Z0]
       refine Z14 (hLk _ (fun w166 Sw166 => ?_))
       clear hLk Lk
       simp only [Z1,Z2]
       replace M := M.sees Sw166
       refine Z9 (Z17 ?_)
       refine any_step [5, 8] (by kernel_rfl) rfl (any_two ?_ (any_one ?_))
       ·
        refine any_opL 5 (by rfl) ?_
        simp only [Z1,Z2]
        refine Z11 1 (by rfl) (fun Lk hLk => ?_)
        simp only [Z1,Z2]
        refine wpV_loadA (i := 0) (v := .string (bs (st.getD 0 []))) (by rfl) rfl rfl (M.oldA Hp) (scells_get (ps := st) (by omega)) Tryd.underlying9 rfl ?_
        simp only [Z7,Z0]
        refine Z14 (hLk _ (fun w167 Sw167 => ?_))
        clear hLk Lk
        simp only [Z1,Z2]
        replace M := M.sees Sw167
        refine Z9 (Z17 ?_)
        refine any_step [8] (by kernel_rfl) rfl (any_one ?_)
        refine any_opL 8 (by rfl) ?_
        simp only [Z1,Z2]
        refine Z18 (g := g137) (off := 0) (n := 1) (v := .string (bs (st.getD 0 []))) (by rfl) (by rfl) (by rfl) (by rfl) (by rfl) (M.t 1 rfl) (by decide) info9 rfl (fun w168 P R T => ?_)
        replace M := M.putS (new := [.string (bs (st.getD 0 []))]) 1 0 rfl P R T rfl ⟨.inl rfl, trivial⟩
        simp only [Z0] at M
        refine Z9 (Z17 ?_)
        refine any_step [9] (by kernel_rfl) rfl (any_one ?_)
        refine any_opL 9 (by rfl) ?_
        simp only [Z1,Z2]
        refine Z18 (g := g164) (off := 0) (n := 1) (v := .string (bs (st.getD 0 []))) (by rfl) (by rfl) (by rfl) (by rfl) (by rfl) (M.t 0 rfl) (by decide) info9 rfl (fun w169 P R T => ?_)
        replace M := M.putS (new := [.string (bs (st.getD 0 []))]) 0 0 rfl P R T rfl ⟨.inl rfl, trivial⟩
        simp only [Z0] at M
        refine Z9 (Z17 ?_)
        refine any_end (by kernel_rfl) (Z10 ?_)
        exact HK39 g137 g164  _  M
       ·
        refine any_opL 8 (by rfl) ?_
        simp only [Z1,Z2]
        refine Z18 (g := g137) (off := 0) (n := 1) (v := .string (bs (st.getD 0 []))) (by rfl) (by rfl) (by rfl) (by rfl) (by rfl) (M.t 1 rfl) (by decide) info9 rfl (fun w170 P R T => ?_)
        replace M := M.putS (new := [.string (bs (st.getD 0 []))]) 1 0 rfl P R T rfl ⟨.inl rfl, trivial⟩
        simp only [Z0] at M
        refine Z9 (Z17 ?_)
        refine any_step [5] (by kernel_rfl) rfl (any_one ?_)
        refine any_opL 5 (by rfl) ?_
        simp only [Z1,Z2]
        refine Z11 1 (by rfl) (fun Lk hLk => ?_)
        simp only [Z1,Z2]
        refine wpV_loadA (i := 0) (v := .string (bs (st.getD 0 []))) (by rfl) rfl rfl (M.oldA Hp) (scells_get (ps := st) (by omega)) Tryd.underlying9 rfl ?_
        simp only [Z7,Z0]
        refine Z14 (hLk _ (fun w171 Sw171 => ?_))
        clear hLk Lk
        simp only [Z1,Z2]
        replace M := M.sees Sw171
        refine Z9 (Z17 ?_)
        refine any_step [9] (by kernel_rfl) rfl (any_one ?_)
        refine any_opL 9 (by rfl) ?_
        simp only [Z1,Z2]
        refine Z18 (g := g164) (off := 0) (n := 1) (v := .string (bs (st.getD 0 []))) (by rfl) (by rfl) (by rfl) (by rfl) (by rfl) (M.t 0 rfl) (by decide) info9 rfl (fun w172 P R T => ?_)
        replace M := M.putS (new := [.string (bs (st.getD 0 []))]) 0 0 rfl P R T rfl ⟨.inl rfl, trivial⟩
        simp only [Z0] at M
        refine Z9 (Z17 ?_)
        refine any_end (by kernel_rfl) (Z10 ?_)
        exact HK39 g137 g164  _  M
      ·
       refine any_opL 5 (by rfl) ?_
       simp only [Z1,Z2]
       refine Z11 1 (by rfl) (fun Lk hLk => ?_)
       simp only [Z1,Z2]
       refine wpV_loadA (i := 0) (v := .string (bs (st.getD 0 []))) (by rfl) rfl rfl (M.oldA Hp) (scells_get (ps := st) (by omega)) Tryd.underlying9 rfl ?_
       simp only [Z7,Z0]
       refine Z14 (hLk _ (fun w173 Sw173 => ?_))
       clear hLk Lk
       simp only [Z1,Z2]
       replace M := M.sees Sw173
       refine Z9 (Z17 ?_)
       refine any_step [2] (by kernel_rfl) rfl (any_one ?_)
       refine any_opL 2 (by rfl) ?_
       simp only [Z1,Z2]
       refine Z11 1 (by rfl) (fun Lk hLk => ?_)
       simp only [Z1,Z2]
       refine wpV_loadA (i := 0) (v := .string (bs (st.getD 0 []))) (by rfl) rfl rfl (M.oldA Hp) (scells_get (ps := st) (by omega)) Tryd.underlying9 rfl ?_
       simp only [Z7,Z0]
       refine Z14 (hLk _ (fun w174 Sw174 => ?_))
       clear hLk Lk
       simp only [Z1,Z2]
       replace M := M.sees Sw174
       refine Z9 (Z17 ?_)
       refine any_step [8] (by kernel_rfl) rfl (any_one ?_)
       refine any_opL 8 (by rfl) ?_
       simp only [Z1,Z2]
       refine Z18 (g := g137) (off := 0) (n := 1) (v := .string (bs (st.getD 0 []))) (by rfl) (by rfl) (by rfl) (by rfl) (by rfl) (M.t 1 rfl) (by decide) info9 rfl (fun w175 P R T => ?_)
       replace M := M.putS (new := [.string (bs (st.getD 0 []))]) 1 0 rfl P R T rfl ⟨.inl rfl, trivial⟩
       simp only [Z0] at M
       refine Z9 (Z17 ?_)
       refine any_step [9] (by kernel_rfl) rfl (any_one ?_)
       refine any_opL 9 (by rfl) ?_
       simp only [Z1,Z2]
       refine Z18 (g := g164) (off := 0) (n := 1) (v := .string (bs (st.getD 0 []))) (by rfl) (by rfl) (by rfl) (by rfl) (by rfl) (M.t 0 rfl) (by decide) info9 rfl (fun w176 P R T => ?_)
       replace M := M.putS (new := [.string (bs (st.getD 0 []))]) 0 0 rfl P R T rfl ⟨.inl rfl, trivial⟩
       simp only [Z0] at M
       refine Z9 (Z17 ?_)
       refine any_end (by kernel_rfl) (Z10 ?_)
       exact HK39 g137 g164  _  M
    ·
     refine any_opL 7 (by rfl) ?_
     simp only [Z1,Z2]
     refine wpL_var (t := 9) (cs := [.string { data := #[] }]) (by rfl) (fun W => ?_) (fun g177 w178 Sw178 Hg177 Bg177 => ?_)
     ·
      go_simp
     replace M := ((M.sees Sw178).add (N := 1) (cs := [.string { data := #[] }]) (M.ge Hg177) (M.fresh Hg177) Bg177 rfl)
     clear Bg177
     simp only [Z7,Z0]
     refine Z9 (Z17 ?_)
     refine any_step [2, 5, 6] (by kernel_rfl) rfl (any_two ?_ (any_two ?_ (any_one ?_)))
     ·
      refine any_opL 2 (by rfl) ?_
      simp only [Z1,Z2]
      refine Z11 1 (by rfl) (fun Lk hLk => ?_)
      simp only [Z1,Z2]
      refine wpV_loadA (i := 0) (v := .string (bs (st.getD 0 []))) (by rfl) rfl rfl (M.oldA Hp) (scells_get (ps := st) (by omega)) Tryd.underlying9 rfl ?_
      simp only [Z7,Z0]
      refine Z14 (hLk _ (fun w179 Sw179 => ?_))
      clear hLk Lk
      simp only [Z1,Z2]
      replace M := M.sees Sw179
      refine Z9 (Z17 ?_)
      refine any_step [5, 6] (by kernel_rfl) rfl (any_two ?_ (any_one ?_))
      ·
       refine any_opL 5 (by rfl) ?_
       simp only [Z1,Z2]
       refine Z11 1 (by rfl) (fun Lk hLk => ?_)
       simp only [Z1,Z2]
       refine wpV_loadA (i := 0) (v := .string (bs (st.getD 0 []))) (by rfl) rfl rfl (M.oldA Hp) (scells_get (ps := st) (by omega)) Tryd.underlying9 rfl ?_
       simp only [Z7,Z0]
       refine Z14 (hLk _ (fun w180 Sw180 => ?_))
       clear hLk Lk
       simp only [Z1,Z2]
       replace M := M.sees Sw180
       refine Z9 (Z17 ?_)
       refine any_step [6] (by kernel_rfl) rfl (any_one ?_)
       refine any_opL 6 (by rfl) ?_
       simp only [Z1,Z2]
       refine wpL_var (t := 9) (cs := [.string { data := #[] }]) (by rfl) (fun W => ?_) (fun g181 w182 Sw182 Hg181 Bg181 => ?_)
       ·
        go_simp
       replace M := ((M.sees Sw182).add (N := 1) (cs := [.string { data := #[] }]) (M.ge Hg181) (M.fresh Hg181) Bg181 rfl)
       clear Bg181
       simp only [Z7,Z0]
       refine Z9 (Z17 ?_)
       refine any_step [8] (by kernel_rfl) rfl (any_one ?_)
       refine any_opL 8 (by rfl) ?_
       simp only [Z1,Z2]
       refine Z18 (g := g181) (off := 0) (n := 1) (v := .string (bs (st.getD 0 []))) (by rfl) (by rfl) (by rfl) (by rfl) (by rfl) (M.t 0 rfl) (by decide) info9 rfl (fun w183 P R T => ?_)
       replace M := M.putS (new := [.string (bs (st.getD 0 []))]) 0 0 rfl P R T rfl ⟨.inl rfl, trivial⟩
       simp only [Z0] at M
       refine Z9 (Z17 ?_)
       refine any_step [9] (by kernel_rfl) rfl (any_one ?_)
       refine any_opL 9 (by rfl) ?_
       simp only [Z1,Z2]
       refine Z18 (g := g177) (off := 0) (n := 1) (v := .string (bs (st.getD 0 []))) (by rfl) (by rfl) (by rfl) (by rfl) (by rfl) (M.t 1 rfl) (by decide) info9 rfl (fun w184 P R T => ?_)
       replace M := M.putS (new := [.string (bs (st.getD 0 []))]) 1 0 rfl P R T rfl ⟨.inl rfl, trivial⟩
       simp only [Z0] at M
       refine Z9 (Z17 ?_)
       refine any_end (by kernel_rfl) (Z10 ?_)
       exact HK39 g181 g177  _  (M.pick [1, 0] (by decide) rfl)
      ·
       refine any_opL 6 (by rfl) ?_
       simp only [Z1,Z2]
       refine wpL_var (t := 9) (cs := [.string { data := #[] }]) (by rfl) (fun W => ?_) (fun g185 w186 Sw186 Hg185 Bg185 => ?_)
       ·
        go_simp
       replace M := ((M.sees Sw186).add (N := 1) (cs := [.string { data := #[] }]) (M.ge Hg185) (M.fresh Hg185) Bg185 rfl)
       clear Bg185
       simp only [Z7,Z0]
       refine Z9 (Z17 ?_)
       refine any_step [5, 8] (by kernel_rfl) rfl (any_two ?_ (any_one ?_))
       ·
        refine any_opL 5 (by rfl) ?_
        simp only [Z1,Z2]
        refine Z11 1 (by rfl) (fun Lk hLk => ?_)
        simp only [Z1,Z2]
        refine wpV_loadA (i := 0) (v := .string (bs (st.getD 0 []))) (by rfl) rfl rfl (M.oldA Hp) (scells_get (ps := st) (by omega)) Tryd.underlying9 rfl ?_
        simp only [Z7,Z0]
        refine Z14 (hLk _ (fun w187 Sw187 => ?_))
        clear hLk Lk
        simp only [Z1,Z2]
        replace M := M.sees Sw187
        refine Z9 (Z17 ?_)
        refine any_step [8] (by kernel_rfl) rfl (any_one ?_)
        refine any_opL 8 (by rfl) ?_
        simp only [Z1,Z2]
        refine Z18 (g := g185) (off := 0) (n := 1) (v := .string (bs (st.getD 0 []))) (by rfl) (by rfl) (by rfl) (by rfl) (by rfl) (M.t 0 rfl) (by decide) info9 rfl (fun w188 P R T => ?_)
        replace M := M.putS (new := [.string (bs (st.getD 0 []))]) 0 0 rfl P R T rfl ⟨.inl rfl, trivial⟩
        simp only [Z0] at M
        refine Z9 (Z17 ?_)
        refine any_step [9] (by kernel_rfl) rfl (any_one ?_)
        refine any_opL 9 (by rfl) ?_
        simp only [Z1,Z2]
        refine Z18 (g := g177) (off := 0) (n := 1) (v := .string (bs (st.getD 0 []))) (by rfl) (by rfl) (by rfl) (by rfl) (by rfl) (M.t 1 rfl) (by decide) info9 rfl (fun w189 P R T => ?_)
        replace M := M.putS (new := [.string (bs (st.getD 0 []))]) 1 0 rfl P R T rfl ⟨.inl rfl, trivial⟩
        simp only [Z0] at M
        refine Z9 (Z17 ?_)
        refine any_end (by kernel_rfl) (Z10 ?_)
        exact HK39 g185 g177  _  (M.pick [1, 0] (by decide) rfl)
       ·
        refine any_opL 8 (by rfl) ?_
        simp only [Z1,Z2]
        refine Z18 (g := g185) (off := 0) (n := 1) (v := .string (bs (st.getD 0 []))) (by rfl) (by rfl) (by rfl) (by rfl) (by rfl) (M.t 0 rfl) (by decide) info9 rfl (fun w190 P R T => ?_)
        replace M := M.putS (new := [.string (bs (st.getD 0 []))]) 0 0 rfl P R T rfl ⟨.inl rfl, trivial⟩
        simp only [Z0] at M
        refine Z9 (Z17 ?_)
        refine any_step [5] (by kernel_rfl) rfl (any_one ?_)
        refine any_opL 5 (by rfl) ?_
        simp only [Z1,Z2]
        refine Z11 1 (by rfl) (fun Lk hLk => ?_)
        simp only [Z1,Z2]
        refine wpV_loadA (i := 0) (v := .string (bs (st.getD 0 []))) (by rfl) rfl rfl (M.oldA Hp) (scells_get (ps := st) (by omega)) Tryd.underlying9 rfl ?_
        simp only [Z7,Z0]
        refine Z14 (hLk _ (fun w191 Sw191 => ?_))
        clear hLk Lk
        simp only [Z1,Z2]
        replace M := M.sees Sw191
        refine Z9 (Z17 ?_)
        refine any_step [9] (by kernel_rfl) rfl (any_one ?_)
        refine any_opL 9 (by rfl) ?_
        simp only [Z1,Z2]
        refine Z18 (g := g177) (off := 0) (n := 1) (v := .string (bs (st.getD 0 []))) (by rfl) (by rfl) (by rfl) (by rfl) (by rfl) (M.t 1 rfl) (by decide) info9 rfl (fun w192 P R T => ?_)
        replace M := M.putS (new := [.string (bs (st.getD 0 []))]) 1 0 rfl P R T rfl ⟨.inl rfl, trivial⟩
        simp only [Z0] at M
        refine Z9 (Z17 ?_)
        refine any_end (by kernel_rfl) (Z10 ?_)
        exact HK39 g185 g177  _  (M.pick [1, 0] (by decide) rfl)
     ·
      refine any_opL 5 (by rfl) ?_
      simp only [Z1,Z2]
      refine Z11 1 (by rfl) (fun Lk hLk => ?_)
      simp only [Z1,Z2]
      refine wpV_loadA (i := 0) (v := .string (bs (st.getD 0 []))) (by rfl) rfl rfl (M.oldA Hp) (scells_get (ps := st) (by omega)) Tryd.underlying9 rfl ?_
      simp only [Z7,Z0]
      refine Z14 (hLk _ (fun w193 Sw193 => ?_))
      clear hLk Lk
      simp only [Z1,Z2]
      replace M := M.sees Sw193
      refine Z9 (Z17 ?_)
      refine any_step [2, 6] (by kernel_rfl) rfl (any_two ?_ (any_one ?_))
      ·
       refine any_opL 2 (by rfl) ?_
       simp only [Z1,Z2]
       refine Z11 1 (by rfl) (fun Lk hLk => ?_)
       simp only [Z1,Z2]
       refine wpV_loadA (i := 0) (v := .string (bs (st.getD 0 []))) (by rfl) rfl rfl (M.oldA Hp) (scells_get (ps := st) (by omega)) Tryd.underlying9 rfl ?_
       simp only [Z7,Z0]
       refine Z14 (hLk _ (fun w194 Sw194 => ?_))
       clear hLk Lk
       simp only [Z1,Z2]
       replace M := M.sees Sw194
       refine Z9 (Z17 ?_)
       refine any_step [6] (by kernel_rfl) rfl (any_one ?_)
       refine any_opL 6 (by rfl) ?_
       simp only [Z1,Z2]
       refine wpL_var (t := 9) (cs := [.string { data := #[] }]) (by rfl) (fun W => ?_) (fun g195 w196 Sw196 Hg195 Bg195 => ?_)
       ·
        go_simp
       replace M := ((M.sees Sw196).add (N := 1) (cs := [.string { data := #[] }]) (M.ge Hg195) (M.fresh Hg195) Bg195 rfl)
       clear Bg195
       simp only [Z7,Z0]
       refine Z9 (Z17 ?_)
       refine any_step [8] (by kernel_rfl) rfl (any_one ?_)
       refine any_opL 8 (by rfl) ?_
       simp only [Z1,Z2]
       refine Z18 (g := g195) (off := 0) (n := 1) (v := .string (bs (st.getD 0 []))) (by rfl) (by rfl) (by rfl) (by rfl) (by rfl) (M.t 0 rfl) (by decide) info9 rfl (fun w197 P R T => ?_)
       replace M := M.putS (new := [.string (bs (st.getD 0 []))]) 0 0 rfl P R T rfl ⟨.inl rfl, trivial⟩
       simp only [Z0] at M
       refine Z9 (Z17 ?_)
       refine any_step [9] (by kernel_rfl) rfl (any_one ?_)
       refine any_opL 9 (by rfl) ?_
       simp only [Z1,Z2]
       refine Z18 (g := g177) (off := 0) (n := 1) (v := .string (bs (st.getD 0 []))) (by rfl) (by rfl) (by rfl) (by rfl) (by rfl) (M.t 1 rfl) (by decide) info9 rfl (fun w198 P R T => ?_)
       replace M := M.putS (new := [.string (bs (st.getD 0 []))]) 1 0 rfl P R T rfl ⟨.inl rfl, trivial⟩
       simp only [Z0] at M
       refine Z9 (Z17 ?_)
       refine any_end (by kernel_rfl) (Z10 ?_)
       exact HK39 g195 g177  _  (M.pick [1, 0] (by decide) rfl)
      ·
       refine any_opL 6 (by rfl) ?_
       simp only [Z1,Z2]
       refine wpL_var (t := 9) (cs := [.string { data := #[] }]) (by rfl) (fun W => ?_) (fun g199 w200 Sw200 Hg199 Bg199 => ?_)
       ·
        go_simp
       replace M := ((M.sees Sw200).add (N := 1) (cs := [.string { data := #[] }]) (M.ge Hg199) (M.fresh Hg199) Bg199 rfl)
       clear Bg199
       simp only [Z7,Z0]
       refine Z9 (Z17 ?_)
       refine any_step [2] (by kernel_rfl) rfl (any_one ?_)
       refine any_opL 2 (by rfl) ?_
       simp only [Z1,Z2]
       refine Z11 1 (by rfl) (fun Lk hLk => ?_)
       simp only [Z1,Z2]
       refine wpV_loadA (i := 0) (v := .string (bs (st.getD 0 []))) (by rfl) rfl rfl (M.oldA Hp) (scells_get (ps := st) (by omega)) Tryd.underlying9 rfl ?_
       simp only [Z7,Z0]
       refine Z14 (hLk _ (fun w201 Sw201 => ?_))
       clear hLk Lk
       simp only [Z1,Z2]
       replace M := M.sees Sw201
       refine Z9 (Z17 ?_)
       refine any_step [8] (by kernel_rfl) rfl (any_one ?_)
       refine any_opL 8 (by rfl) ?_
       simp only [Z1,Z2]
       refine Z18 (g := g199) (off := 0) (n := 1) (v := .string (bs (st.getD 0 []))) (by rfl) (by rfl) (by rfl) (by rfl) (by rfl) (M.t 0 rfl) (by decide) info9 rfl (fun w202 P R T => ?_)
       replace M := M.putS (new := [.string (bs (st.getD 0 []))]) 0 0 rfl P R T rfl ⟨.inl rfl, trivial⟩
       simp only [Z0] at M
       refine Z9 (Z17 ?_)
       refine any_step [9] (by kernel_rfl) rfl (any_one ?_)
       refine any_opL 9 (by rfl) ?_
       simp only [Z1,Z2]
       refine Z18 (g := g177) (off := 0) (n := 1) (v := .string (bs (st.getD 0 []))) (by rfl) (by rfl) (by rfl) (by rfl) (by rfl) (M.t 1 rfl) (by decide) info9 rfl (fun w203 P R T => ?_)
       replace M := M.putS (new := [.string (bs (st.getD 0 []))]) 1 0 rfl P R T rfl ⟨.inl rfl, trivial⟩
       simp only [Z0] at M
       refine Z9 (Z17 ?_)
       refine any_end (by kernel_rfl) (Z10 ?_)
       exact HK39 g199 g177  _  (M.pick [1, 0] (by decide) rfl)
     ·
      refine any_opL 6 (by rfl) ?_
      simp only [Z1,Z2]
      refine wpL_var (t := 9) (cs := [.string { data := #[] }]) (by rfl) (fun W => ?_) (fun g204 w205 Sw205 Hg204 Bg204 => ?_)
      ·
       go_simp
      replace M := ((M.sees Sw205).add (N := 1) (cs := [.string { data := #[] }]) (M.ge Hg204) (M.fresh Hg204) Bg204 rfl)
      clear Bg204
      simp only [Z7,Z0]
      refine Z9 (Z17 ?_)
      refine any_step [2, 5] (by kernel_rfl) rfl (any_two ?_ (any_one ?_))
      ·
       refine any_opL 2 (by rfl) ?_
       simp only [Z1,Z2]
       refine Z11 1 (by rfl) (fun Lk hLk => ?_)
       simp only [Z1,Z2]
       refine wpV_loadA (i := 0) (v := .string (bs (st.getD 0 []))) (by rfl) rfl rfl (M.oldA Hp) (scells_get (ps := st) (by omega)) Tryd.underlying9 rfl ?_
       simp only [Z7,Z0]
       refine Z14 (hLk _ (fun w206 Sw206 => ?_))
       clear hLk Lk
       simp only [Z1,Z2]
       replace M := M.sees Sw206
       refine Z9 (Z17 ?_)
       refine any_step [5, 8] (by kernel_rfl) rfl (any_two ?_ (any_one ?_))
       ·
        refine any_opL 5 (by rfl) ?_
        simp only [Z1,Z2]
        refine Z11 1 (by rfl) (fun Lk hLk => ?_)
        simp only [Z1,Z2]
        refine wpV_loadA (i := 0) (v := .string (bs (st.getD 0 []))) (by rfl) rfl rfl (M.oldA Hp) (scells_get (ps := st) (by omega)) Tryd.underlying9 rfl ?_
        simp only [Z7,Z0]
        refine Z14 (hLk _ (fun w207 Sw207 => ?_))
        clear hLk Lk
        simp only [Z1,Z2]
        replace M := M.sees Sw207
        refine Z9 (Z17 ?_)
        refine any_step [8] (by kernel_rfl) rfl (any_one ?_)
        refine any_opL 8 (by rfl) ?_
        simp only [Z1,Z2]
        refine Z18 (g := g204) (off := 0) (n := 1) (v := .string (bs (st.getD 0 []))) (by rfl) (by rfl) (by rfl) (by rfl) (by rfl) (M.t 0 rfl) (by decide) info9 rfl (fun w208 P R T => ?_)
        replace M := M.putS (new := [.string (bs (st.getD 0 []))]) 0 0 rfl P R T rfl ⟨.inl rfl, trivial⟩
        simp only [Z0] at M
        refine Z9 (Z17 ?_)
        refine any_step [9] (by kernel_rfl) rfl (any_one ?_)
        refine any_opL 9 (by rfl) ?_
        simp only [Z1,Z2]
        refine Z18 (g := g177) (off := 0) (n := 1) (v := .string (bs (st.getD 0 []))) (by rfl) (by rfl) (by rfl) (by rfl) (by rfl) (M.t 1 rfl) (by decide) info9 rfl (fun w209 P R T => ?_)
        replace M := M.putS (new := [.string (bs (st.getD 0 []))]) 1 0 rfl P R T rfl ⟨.inl rfl, trivial⟩
        simp only [Z0] at M
        refine Z9 (Z17 ?_)
        refine any_end (by kernel_rfl) (Z10 ?_)
        exact HK39 g204 g177  _  (M.pick [1, 0] (by decide) rfl)
       ·
        refine any_opL 8 (by rfl) ?_
        simp only [Z1,Z2]
        refine Z18 (g := g204) (off := 0) (n := 1) (v := .string (bs (st.getD 0 []))) (by rfl) (by rfl) (by rfl) (by rfl) (by rfl) (M.t 0 rfl) (by decide) info9 rfl (fun w210 P R T => ?_)
        replace M := M.putS (new := [.string (bs (st.getD 0 []))]) 0 0 rfl P R T rfl ⟨.inl rfl, trivial⟩
        simp only [Z0] at M
        refine Z9 (Z17 ?_)
        refine any_step [5] (by kernel_rfl) rfl (any_one ?_)
        refine any_opL 5 (by rfl) ?_
        simp only [Z1,Z2]
        refine Z11 1 (by rfl) (fun Lk hLk => ?_)
        simp only [Z1,Z2]
        refine wpV_loadA (i := 0) (v := .string (bs (st.getD 0 []))) (by rfl) rfl rfl (M.oldA Hp) (scells_get (ps := st) (by omega)) Tryd.underlying9 rfl ?_
        simp only [Z7,Z0]
        refine Z14 (hLk _ (fun w211 Sw211 => ?_))
        clear hLk Lk
        simp only [Z1,Z2]
        replace M := M.sees Sw211
        refine Z9 (Z17 ?_)
        refine any_step [9] (by kernel_rfl) rfl (any_one ?_)
        refine any_opL 9 (by rfl) ?_
        simp only [Z1,Z2]
        refine Z18 (g := g177) (off := 0) (n := 1) (v := .string (bs (st.getD 0 []))) (by rfl) (by rfl) (by rfl) (by rfl) (by rfl) (M.t 1 rfl) (by decide) info9 rfl (fun w212 P R T => ?_)
        replace M := M.putS (new := [.string (bs (st.getD 0 []))]) 1 0 rfl P R T rfl ⟨.inl rfl, trivial⟩
        simp only [Z0] at M
        refine Z9 (Z17 ?_)
        refine any_end (by kernel_rfl) (Z10 ?_)
        exact HK39 g204 g177  _  (M.pick [1, 0] (by decide) rfl)
      ·
       refine any_opL 5 (by rfl) ?_
       simp only [Z1,Z2]
       refine Z11 1 (by rfl) (fun Lk hLk => ?_)
       simp only [Z1,Z2]
       refine wpV_loadA (i := 0) (v := .string (bs (st.getD 0 []))) (by rfl) rfl rfl (M.oldA Hp) (scells_get (ps := st) (by omega)) Tryd.underlying9 rfl ?_
       simp only [Z7,Z0]
       refine Z14 (hLk _ (fun w213 Sw213 => ?_))
       clear hLk Lk
       simp only [Z1,Z2]
       replace M := M.sees Sw213
       refine Z9 (Z17 ?_)
       refine any_step [2] (by kernel_rfl) rfl (any_one ?_)
       refine any_opL 2 (by rfl) ?_
       simp only [Z1,Z2]
       refine Z11 1 (by rfl) (fun Lk hLk => ?_)
       simp only [Z1,Z2]
       refine wpV_loadA (i := 0) (v := .string (bs (st.getD 0 []))) (by rfl) rfl rfl (M.oldA Hp) (scells_get (ps := st) (by omega)) Tryd.underlying9 rfl ?_
       simp only [Z7,Z0]
       refine Z14 (hLk _ (fun w214 Sw214 => ?_))
       clear hLk Lk
       simp only [Z1,Z2]
       replace M := M.sees Sw214
       refine Z9 (Z17 ?_)
       refine any_step [8] (by kernel_rfl) rfl (any_one ?_)
       refine any_opL 8 (by rfl) ?_
       simp only [Z1,Z2]
       refine Z18 (g := g204) (off := 0) (n := 1) (v := .string (bs (st.getD 0 []))) (by rfl) (by rfl) (by rfl) (by rfl) (by rfl) (M.t 0 rfl) (by decide) info9 rfl (fun w215 P R T => ?_)
       replace M := M.putS (new := [.string (bs (st.getD 0 []))]) 0 0 rfl P R T rfl ⟨.inl rfl, trivial⟩
       simp only [Z0] at M
       refine Z9 (Z17 ?_)
       refine any_step [9] (by kernel_rfl) rfl (any_one ?_)
       refine any_opL 9 (by rfl) ?_
       simp only [Z1,Z2]
       refine Z18 (g := g177) (off := 0) (n := 1) (v := .string (bs (st.getD 0 []))) (by rfl) (by rfl) (by rfl) (by rfl) (by rfl) (M.t 1 rfl) (by decide) info9 rfl (fun w216 P R T => ?_)
       replace M := M.putS (new := [.string (bs (st.getD 0 []))]) 1 0 rfl P R T rfl ⟨.inl rfl, trivial⟩
       simp only [Z0] at M
       refine Z9 (Z17 ?_)
       refine any_end (by kernel_rfl) (Z10 ?_)
       exact HK39 g204 g177  _  (M.pick [1, 0] (by decide) rfl)
   ·
    have hs0 : st.length = 0 := of_decide_eq_true hc37
    refine Z5 rfl ?_
    refine Z4 (fun K217 hK217 => ?_)
    refine Z8 ?_
    refine Z13 (v := .bool false) (by rfl) (by rfl) (by rfl) ?_
    simp only [Z7,Z0]
    refine Z9 (Z10 ?_)
    refine hK217 _ _ ?_
    refine wp_ret ?_
    repeat (first | with_reducible refine then_ret ?_ | with_reducible refine inblock_ret ?_)
    refine bodyPost_ret (v := .bool false) (res1 rfl (.tmp (by rfl))) rfl ?_
    have BE := M.below
    exact ⟨by rw [List.length_eq_zero_iff.1 hs0, folB_nil h1 hm hone], BE⟩
 ·
  have ho : a % 2 = 1 := of_decide_eq_true hc13
  refine Z5 rfl ?_
  refine wp_skip ?_
  refine hK9 _ _ ?_
  refine wp_block ?_
  refine Z8 ?_
  refine Z12 (v := .int .i64 ((a : Nat) : Int)) (by rfl) (by rfl) (by rfl) ?_
  simp only [Z7,Z0]
  refine Z11 3 (by rfl) (fun Lk hLk => ?_)
  simp only [Z1,Z2]
  refine Z15 (v := .int .i64 ((a / 2 ^ 1 : Nat) : Int)) (by rfl) rfl rfl rfl (fun W => run_shr (n := 1) (by decide) rfl W) ?_
  simp only [Z7,Z0]
  refine Z16 (v := .int .i64 ((l : Nat) : Int)) (by rfl) rfl rfl ?_
  simp only [Z7,Z0]
  refine Z15 (v := .int .i64 ((l / 2 ^ 1 : Nat) : Int)) (by rfl) rfl rfl rfl (fun W => run_shr (n := 1) (by decide) rfl W) ?_
  simp only [Z7,Z0]
  refine Z14 (hLk _ (fun w220 Sw220 => ?_))
  clear hLk Lk
  simp only [Z1,Z2]
  replace M := M.sees Sw220
  refine Z13 (v := .int .i64 ((a / 2 ^ 1 : Nat) : Int)) (by rfl) (by rfl) (by rfl) ?_
  simp only [Z7,Z0]
  refine Z13 (v := .int .i64 ((l / 2 ^ 1 : Nat) : Int)) (by rfl) (by rfl) (by rfl) ?_
  simp only [Z7,Z0]
  refine Z9 (Z10 ?_)
  refine Exists.intro _ ⟨?_, (a / 2 ^ 1), (l / 2 ^ 1), (fun q9 => (#[Z3, Z3, Z3, Z3, Z3, Z3, Z3, Z3, Z3, Z3, Z3, Z3, Z3, Z3, Z3, Z3, Z3, Z3, Z3, Z3, Z3, Z3, .int .i64 ((a : Nat) : Int), .int .i64 ((a % 2 : Nat) : Int), .bool true, .int .i64 ((a : Nat) : Int), .int .i64 ((a / 2 ^ 1 : Nat) : Int), .int .i64 ((l : Nat) : Int), .int .i64 ((l / 2 ^ 1 : Nat) : Int)] : Array Value).getD q9 Z3), rfl, rfl, M, (by omega), (by omega), ((stripA_odd ho).symm.trans hz)⟩
  omega
end Go.Proofs.Yb

namespace Go.Proofs.Yb
open Go Go.RowKit Go.Proofs.Num
open List renaming set → Z0, take → Z1, drop → Z2
open Go renaming undef → Z3, wp_seq_k → Z4, wp_cond_true → Z5, wp_cond_false → Z6
open Go.Proofs.Num renaming putT → Z7, wp_region_seq → Z8, wpL_nil → Z9, no_panic → Z10, wpL_chunk → Z11, wpL_move → Z12, wpL_assign → Z13, wpV_nil → Z14, wpV_bin → Z15, wpV_move → Z16, then_normal → Z17, wpL_store1 → Z18, wpV_val → Z19, wpV_callf → Z20
attribute [local irreducible] wpV wpN wpList
theorem folB_all {m n : Nat} {old root : List UInt8} {st : List (List UInt8)} (h : n ≤ m) (ho : old ≠ []) : folB m n old root st = true ↔ (st.length = 0 ∧ old = root) := by
 unfold folB
 rw [decide_eq_true_eq, followT_all h, followT_all h]
 by_cases hz : st.length = 0
 ·
  simp [hz]
 ·
  simp [hz, Ne.symm ho]
set_option maxHeartbeats 1000000 in
theorem Follows_zero {st : List (List UInt8)} {ap : Option Addr} {np cp : Nat} {old root : List UInt8} {n : Nat} {w : World} (hq : st.length ≤ 4611686018427387904) (hn : n ≤ 4096) (ht : all32 [old, root] = true) (hp : all32 st = true) (L0 : 0 < w.heap.size) (R0_0 : w.rangeAt 0 0 kcells) (Hp : RowA w ap np cp (scells st)) :
  Calls Tryd.prog 67 #[.int .i64 0, .int .i64 ((n : Nat) : Int), .string (bs old), .string (bs root), .slice ap np cp] w fun e w' => e = .returned (.int .i64 (if st.length = 0 ∧ old = rootS [] then 0 else 13)) ∧ Below w.heap.size w w' := by
 obtain rfl : np = st.length := by have := Hp.len; rwa [scells_len] at this
 have h32 := all32_mem hp
 have hl2 := all32_mem ht
 have hol : old.length = 32 := hl2 old (.head _)
 have hrt : root.length = 32 := hl2 root (.tail _ (.head _))
 have hone : old ≠ [] := fun e9 => by rw [e9] at hol; cases hol
 go_enter Tryd.func67, Tryd.ntmps67
 have M := Mem.start w
 refine Z4 (fun K1 hK1 => ?_)
 refine Z8 ?_
 refine Z13 (v := .int .i64 0) (by rfl) (by rfl) (by rfl) ?_
 simp only [Z7,Z0]
 refine Z9 (Z10 ?_)
 refine hK1 _ _ ?_
 refine Z4 (fun K3 hK3 => ?_)
 refine Z4 (fun K4 hK4 => ?_)
 refine Z8 ?_
 refine Z12 (v := .int .i64 0) (by rfl) (by rfl) (by rfl) ?_
 simp only [Z7,Z0]
 refine Z11 13 (by rfl) (fun Lk hLk => ?_)
 simp only [Z1,Z2]
 refine Z15 (v := .bool false) (by rfl) rfl rfl rfl (fun W => run_lss _ _ _ _ W) ?_
 simp only [Z7,Z0]
 refine Z16 (v := .bool false) (by rfl) rfl rfl ?_
 simp only [Z7,Z0]
 refine Z16 (v := .int .i64 0) (by rfl) rfl rfl ?_
 simp only [Z7,Z0]
 refine Z16 (v := .int .i64 ((n : Nat) : Int)) (by rfl) rfl rfl ?_
 simp only [Z7,Z0]
 refine Z15 (v := .bool false) (by rfl) rfl rfl rfl (fun W => (run_gtrN 0 n _ _ W).trans (by rw [(decide_eq_false (Nat.not_lt_zero n))])) ?_
 simp only [Z7,Z0]
 refine wpV_pick (v := .bool false) (by rfl) rfl rfl rfl ?_
 simp only [Z7,Z0]
 refine Z16 (v := .bool false) (by rfl) rfl rfl ?_
 simp only [Z7,Z0]
 refine Z16 (v := .int .i64 ((n : Nat) : Int)) (by rfl) rfl rfl ?_
 simp only [Z7,Z0]
 refine Z15 (v := .bool false) (by rfl) rfl rfl rfl (fun W => (run_gtrN n 4096 _ _ W).trans (by rw [(decide_eq_false (Nat.not_lt.2 hn))])) ?_
 simp only [Z7,Z0]
 refine wpV_pick (v := .bool false) (by rfl) rfl rfl rfl ?_
 simp only [Z7,Z0]
 refine Z16 (v := .bool false) (by rfl) rfl rfl ?_
 simp only [Z7,Z0]
 refine Z16 (v := .string (bs old)) (by rfl) rfl rfl ?_
 simp only [Z7,Z0]
 refine Z16 (v := .string (bs root)) (by rfl) rfl rfl ?_
 simp only [Z7,Z0]
 refine Z14 (hLk _ (fun w6 Sw6 => ?_))
 clear hLk Lk
 simp only [Z1,Z2]
 replace M := M.sees Sw6
 refine wpL_guard (by rfl) ?_
 refine wpL_rowN (vs := [.string (bs old), .string (bs root)]) (z := .string { data := #[] }) (bytes := 16) (by rfl) (by rfl) Tryd.underlying48 (by kernel_rfl) (by decide) (by kernel_rfl) (fun g7 w8 Sw8 Hg7 Bg7 => ?_)
 replace M := ((M.sees Sw8).add (N := 2) (cs := [.string (bs old), .string (bs root)]) (M.ge Hg7) (M.fresh Hg7) Bg7 rfl)
 clear Bg7
 simp only [Z7,Z0]
 refine Z11 8 (by rfl) (fun Lk hLk => ?_)
 simp only [Z1,Z2]
 refine Z20 (v := .bool true) (args := #[.slice (some ⟨g7, 0, none⟩) 2 2]) (by rfl) rfl Tryd.func82 (by kernel_rfl) (by kernel_rfl) rfl (fun W hW => by have h9 : Calls Tryd.prog _ _ W _ := wellp_r (ps := [old, root]) (show 2 ≤ 4611686018427387904 by decide) (RowA.of ((M.sees hW).r 0 0 rfl rfl) ((M.sees hW).lt 0 rfl) rfl (Nat.le_refl _)); rw [ht] at h9; exact h9) ?_
 simp only [Z7,Z0]
 refine wpV_not (b := true) (by rfl) rfl rfl ?_
 simp only [Bool.not_true, Bool.not_false]
 simp only [Z7,Z0]
 refine wpV_pick (v := .bool false) (by rfl) rfl rfl rfl ?_
 simp only [Z7,Z0]
 refine Z16 (v := .bool false) (by rfl) rfl rfl ?_
 simp only [Z7,Z0]
 refine Z16 (v := .slice ap st.length cp) (by rfl) rfl rfl ?_
 simp only [Z7,Z0]
 refine Z20 (v := .bool true) (args := #[.slice ap st.length cp]) (by rfl) rfl Tryd.func82 (by kernel_rfl) (by kernel_rfl) rfl (fun W hW => by have h9 : Calls Tryd.prog _ _ W _ := wellp_r (ps := st) hq ((M.sees hW).oldA Hp); rw [hp] at h9; exact h9) ?_
 simp only [Z7,Z0]
 refine wpV_not (b := true) (by rfl) rfl rfl ?_
 simp only [Bool.not_true, Bool.not_false]
 simp only [Z7,Z0]
 refine wpV_pick (v := .bool false) (by rfl) rfl rfl rfl ?_
 simp only [Z7,Z0]
 refine Z14 (hLk _ (fun w9 Sw9 => ?_))
 clear hLk Lk
 simp only [Z1,Z2]
 replace M := M.sees Sw9
 refine Z9 (Z10 ?_)
 refine hK4 _ _ ?_
 refine Z6 rfl ?_
 refine wp_skip ?_
 refine hK3 _ _ ?_
 refine Z4 (fun K10 hK10 => ?_)
 refine Z8 ?_
 refine Z11 4 (by rfl) (fun Lk hLk => ?_)
 simp only [Z1,Z2]
 refine Z20 (v := .tuple #[.string (bs (rootS [])), .int .i64 0]) (args := #[(.slice none 0 0)]) (by rfl) rfl Tryd.func37 (by kernel_rfl) (by kernel_rfl) rfl (fun W hW => Root_c0 ((M.sees hW).oldL L0) ((M.sees hW).oldR R0_0 L0)) ?_
 simp only [Z7,Z0]
 refine Z16 (v := .tuple #[.string (bs (rootS [])), .int .i64 0]) (by rfl) rfl rfl ?_
 simp only [Z7,Z0]
 refine wpV_extract (v := .string (bs (rootS []))) (by rfl) rfl rfl rfl ?_
 simp only [Z7,Z0]
 refine wpV_extract (v := .int .i64 0) (by rfl) rfl rfl rfl ?_
 simp only [Z7,Z0]
 refine Z14 (hLk _ (fun w12 Sw12 => ?_))
 clear hLk Lk
 simp only [Z1,Z2]
 replace M := M.sees Sw12
 refine Z13 (v := .string (bs (rootS []))) (by rfl) (by rfl) (by rfl) ?_
 simp only [Z7,Z0]
 refine Z13 (v := .int .i64 0) (by rfl) (by rfl) (by rfl) ?_
 simp only [Z7,Z0]
 refine Z9 (Z10 ?_)
 refine hK10 _ _ ?_
 refine Z4 (fun K13 hK13 => ?_)
 refine Z8 ?_
 refine Z13 (v := .bool true) (by rfl) (by rfl) (by rfl) ?_
 simp only [Z7,Z0]
 refine Z9 (Z10 ?_)
 refine hK13 _ _ ?_
 refine Z4 (fun K15 hK15 => ?_)
 refine wp_block ?_
 refine Z4 (fun K16 hK16 => ?_)
 refine Z8 ?_
 refine Z12 (v := .int .i64 0) (by rfl) (by rfl) (by rfl) ?_
 simp only [Z7,Z0]
 refine Z11 1 (by rfl) (fun Lk hLk => ?_)
 simp only [Z1,Z2]
 refine Z15 (v := .bool true) (by rfl) rfl rfl rfl (fun W => run_eql _ _ _ _ W) ?_
 simp only [Z7,Z0]
 refine Z14 (hLk _ (fun w18 Sw18 => ?_))
 clear hLk Lk
 simp only [Z1,Z2]
 replace M := M.sees Sw18
 refine Z13 (v := .bool true) (by rfl) (by rfl) (by rfl) ?_
 simp only [Z7,Z0]
 refine Z9 (Z10 ?_)
 refine hK16 _ _ ?_
 refine Z5 rfl ?_
 cases hg19 : (decide (st.length = 0))
 ·
  have hz : ¬ st.length = 0 := of_decide_eq_false hg19
  refine Z8 ?_
  refine Z12 (v := .slice ap st.length cp) (by rfl) (by rfl) (by rfl) ?_
  simp only [Z7,Z0]
  refine Z11 7 (by rfl) (fun Lk hLk => ?_)
  simp only [Z1,Z2]
  refine wpV_lenA (n := st.length) (by rfl) rfl rfl rfl Tryd.underlying48 ?_
  simp only [Z7,Z0]
  refine Z15 (v := .bool false) (by rfl) rfl rfl rfl (fun W => (run_eqlN st.length 0 _ _ W).trans (by rw [hg19])) ?_
  simp only [Z7,Z0]
  refine Z16 (v := .bool false) (by rfl) rfl rfl ?_
  simp only [Z7,Z0]
  refine wpV_skip (by rfl) (by rfl) ?_
  simp only [Z7,Z0]
  refine wpV_skip (by rfl) (by rfl) ?_
  simp only [Z7,Z0]
  refine wpV_skip (by rfl) (by rfl) ?_
  simp only [Z7,Z0]
  refine wpV_pick (v := .bool false) (by rfl) rfl rfl rfl ?_
  simp only [Z7,Z0]
  refine Z14 (hLk _ (fun w21 Sw21 => ?_))
  clear hLk Lk
  simp only [Z1,Z2]
  replace M := M.sees Sw21
  refine Z13 (v := .bool false) (by rfl) (by rfl) (by rfl) ?_
  simp only [Z7,Z0]
  refine Z9 (Z10 ?_)
  refine hK15 _ _ ?_
  refine Z4 (fun K22 hK22 => ?_)
  refine Z4 (fun K23 hK23 => ?_)
  refine Z8 ?_
  refine Z12 (v := .bool false) (by rfl) (by rfl) (by rfl) ?_
  simp only [Z7,Z0]
  refine Z11 1 (by rfl) (fun Lk hLk => ?_)
  simp only [Z1,Z2]
  refine wpV_not (b := false) (by rfl) rfl rfl ?_
  simp only [Bool.not_true, Bool.not_false]
  simp only [Z7,Z0]
  refine Z14 (hLk _ (fun w25 Sw25 => ?_))
  clear hLk Lk
  simp only [Z1,Z2]
  replace M := M.sees Sw25
  refine Z9 (Z10 ?_)
  refine hK23 _ _ ?_
  refine Z5 rfl ?_
  refine Z4 (fun K26 hK26 => ?_)
  refine Z8 ?_
  refine Z13 (v := .int .i64 13) (by rfl) (by rfl) (by rfl) ?_
  simp only [Z7,Z0]
  refine Z9 (Z10 ?_)
  refine hK26 _ _ ?_
  refine wp_ret ?_
  repeat (first | with_reducible refine then_ret ?_ | with_reducible refine inblock_ret ?_)
  refine bodyPost_ret (v := .int .i64 13) (res1 rfl (.tmp (by rfl))) rfl ?_
  have BE := M.below
  exact ⟨by rw [if_neg (fun q9 => hz q9.1)], BE⟩
 ·
  have hz : st.length = 0 := of_decide_eq_true hg19
  refine Z8 ?_
  refine Z12 (v := .slice ap st.length cp) (by rfl) (by rfl) (by rfl) ?_
  simp only [Z7,Z0]
  refine Z11 7 (by rfl) (fun Lk hLk => ?_)
  simp only [Z1,Z2]
  refine wpV_lenA (n := st.length) (by rfl) rfl rfl rfl Tryd.underlying48 ?_
  simp only [Z7,Z0]
  refine Z15 (v := .bool true) (by rfl) rfl rfl rfl (fun W => (run_eqlN st.length 0 _ _ W).trans (by rw [hg19])) ?_
  simp only [Z7,Z0]
  refine Z16 (v := .bool true) (by rfl) rfl rfl ?_
  simp only [Z7,Z0]
  refine Z16 (v := .string (bs old)) (by rfl) rfl rfl ?_
  simp only [Z7,Z0]
  refine Z16 (v := .string (bs (rootS []))) (by rfl) rfl rfl ?_
  simp only [Z7,Z0]
  refine wpV_binS (v := .bool (decide (old = rootS []))) (by rfl) rfl rfl rfl (run_eql_bs _ _ _) ?_
  simp only [Z7,Z0]
  refine wpV_pick (v := .bool (decide (old = rootS []))) (by rfl) rfl rfl rfl ?_
  simp only [Z7,Z0]
  refine Z14 (hLk _ (fun w29 Sw29 => ?_))
  clear hLk Lk
  simp only [Z1,Z2]
  replace M := M.sees Sw29
  refine Z13 (v := .bool (decide (old = rootS []))) (by rfl) (by rfl) (by rfl) ?_
  simp only [Z7,Z0]
  refine Z9 (Z10 ?_)
  refine hK15 _ _ ?_
  refine Z4 (fun K30 hK30 => ?_)
  refine Z4 (fun K31 hK31 => ?_)
  refine Z8 ?_
  refine Z12 (v := .bool (decide (old = rootS []))) (by rfl) (by rfl) (by rfl) ?_
  simp only [Z7,Z0]
  refine Z11 1 (by rfl) (fun Lk hLk => ?_)
  simp only [Z1,Z2]
  refine wpV_not (b := decide (old = rootS [])) (by rfl) rfl rfl ?_
  simp only [Z7,Z0]
  refine Z14 (hLk _ (fun w33 Sw33 => ?_))
  clear hLk Lk
  simp only [Z1,Z2]
  replace M := M.sees Sw33
  refine Z9 (Z10 ?_)
  refine hK31 _ _ ?_
  cases hc34 : (!(decide (old = rootS [])))
  ·
   have hr : old = rootS [] := of_decide_eq_true (by simpa using hc34 : decide (old = rootS []) = true)
   refine Z6 rfl ?_
   refine wp_skip ?_
   refine hK30 _ _ ?_
   refine Z4 (fun K35 hK35 => ?_)
   refine Z8 ?_
   refine Z13 (v := .int .i64 0) (by rfl) (by rfl) (by rfl) ?_
   simp only [Z7,Z0]
   refine Z9 (Z10 ?_)
   refine hK35 _ _ ?_
   refine wp_ret ?_
   repeat (first | with_reducible refine then_ret ?_ | with_reducible refine inblock_ret ?_)
   refine bodyPost_ret (v := .int .i64 0) (res1 rfl (.tmp (by rfl))) rfl ?_
   have BE := M.below
   exact ⟨by rw [if_pos ⟨hz, hr⟩], BE⟩
  ·
   have hr : ¬ old = rootS [] := of_decide_eq_false (by simpa using hc34 : decide (old = rootS []) = false)
   refine Z5 rfl ?_
   refine Z4 (fun K37 hK37 => ?_)
   refine Z8 ?_
   refine Z13 (v := .int .i64 13) (by rfl) (by rfl) (by rfl) ?_
   simp only [Z7,Z0]
   refine Z9 (Z10 ?_)
   refine hK37 _ _ ?_
   refine wp_ret ?_
   repeat (first | with_reducible refine then_ret ?_ | with_reducible refine inblock_ret ?_)
   refine bodyPost_ret (v := .int .i64 13) (res1 rfl (.tmp (by rfl))) rfl ?_
   have BE := M.below
   exact ⟨by rw [if_neg (fun q9 => hr q9.2)], BE⟩
set_option maxHeartbeats 1000000 in
theorem Follows_all {st : List (List UInt8)} {ap : Option Addr} {np cp : Nat} {old root : List UInt8} {m n : Nat} {w : World} (hq : st.length ≤ 4611686018427387904) (hn : n ≤ 4096) (ht : all32 [old, root] = true) (hp : all32 st = true) (h1 : 1 ≤ m) (hmn : m = n) (L0 : 0 < w.heap.size) (R0_0 : w.rangeAt 0 0 kcells) (Hp : RowA w ap np cp (scells st)) :
  Calls Tryd.prog 67 #[.int .i64 ((m : Nat) : Int), .int .i64 ((n : Nat) : Int), .string (bs old), .string (bs root), .slice ap np cp] w fun e w' => e = .returned (.int .i64 (if folB m n old root st = true then 0 else 13)) ∧ Below w.heap.size w w' := by
 obtain rfl : np = st.length := by have := Hp.len; rwa [scells_len] at this
 have h32 := all32_mem hp
 have hl2 := all32_mem ht
 have hol : old.length = 32 := hl2 old (.head _)
 have hrt : root.length = 32 := hl2 root (.tail _ (.head _))
 have hone : old ≠ [] := fun e9 => by rw [e9] at hol; cases hol
 go_enter Tryd.func67, Tryd.ntmps67
 have M := Mem.start w
 refine Z4 (fun K1 hK1 => ?_)
 refine Z8 ?_
 refine Z13 (v := .int .i64 0) (by rfl) (by rfl) (by rfl) ?_
 simp only [Z7,Z0]
 refine Z9 (Z10 ?_)
 refine hK1 _ _ ?_
 refine Z4 (fun K3 hK3 => ?_)
 refine Z4 (fun K4 hK4 => ?_)
 refine Z8 ?_
 refine Z12 (v := .int .i64 ((m : Nat) : Int)) (by rfl) (by rfl) (by rfl) ?_
 simp only [Z7,Z0]
 refine Z11 13 (by rfl) (fun Lk hLk => ?_)
 simp only [Z1,Z2]
 refine Z15 (v := .bool false) (by rfl) rfl rfl rfl (fun W => (run_lssN m 0 _ _ W).trans (by rw [(decide_eq_false (Nat.not_lt_zero m))])) ?_
 simp only [Z7,Z0]
 refine Z16 (v := .bool false) (by rfl) rfl rfl ?_
 simp only [Z7,Z0]
 refine Z16 (v := .int .i64 ((m : Nat) : Int)) (by rfl) rfl rfl ?_
 simp only [Z7,Z0]
 refine Z16 (v := .int .i64 ((n : Nat) : Int)) (by rfl) rfl rfl ?_
 simp only [Z7,Z0]
 refine Z15 (v := .bool false) (by rfl) rfl rfl rfl (fun W => (run_gtrN m n _ _ W).trans (by rw [(decide_eq_false (by omega))])) ?_
 simp only [Z7,Z0]
 refine wpV_pick (v := .bool false) (by rfl) rfl rfl rfl ?_
 simp only [Z7,Z0]
 refine Z16 (v := .bool false) (by rfl) rfl rfl ?_
 simp only [Z7,Z0]
 refine Z16 (v := .int .i64 ((n : Nat) : Int)) (by rfl) rfl rfl ?_
 simp only [Z7,Z0]
 refine Z15 (v := .bool false) (by rfl) rfl rfl rfl (fun W => (run_gtrN n 4096 _ _ W).trans (by rw [(decide_eq_false (Nat.not_lt.2 hn))])) ?_
 simp only [Z7,Z0]
 refine wpV_pick (v := .bool false) (by rfl) rfl rfl rfl ?_
 simp only [Z7,Z0]
 refine Z16 (v := .bool false) (by rfl) rfl rfl ?_
 simp only [Z7,Z0]
 refine Z16 (v := .string (bs old)) (by rfl) rfl rfl ?_
 simp only [Z7,Z0]
 refine Z16 (v := .string (bs root)) (by rfl) rfl rfl ?_
 simp only [Z7,Z0]
 refine Z14 (hLk _ (fun w6 Sw6 => ?_))
 clear hLk Lk
 simp only [Z1,Z2]
 replace M := M.sees Sw6
 refine wpL_guard (by rfl) ?_
 refine wpL_rowN (vs := [.string (bs old), .string (bs root)]) (z := .string { data := #[] }) (bytes := 16) (by rfl) (by rfl) Tryd.underlying48 (by kernel_rfl) (by decide) (by kernel_rfl) (fun g7 w8 Sw8 Hg7 Bg7 => ?_)
 replace M := ((M.sees Sw8).add (N := 2) (cs := [.string (bs old), .string (bs root)]) (M.ge Hg7) (M.fresh Hg7) Bg7 rfl)
 clear Bg7
 simp only [Z7,Z0]
 refine Z11 8 (by rfl) (fun Lk hLk => ?_)
 simp only [Z1,Z2]
 refine Z20 (v := .bool true) (args := #[.slice (some ⟨g7, 0, none⟩) 2 2]) (by rfl) rfl Tryd.func82 (by kernel_rfl) (by kernel_rfl) rfl (fun W hW => by have h9 : Calls Tryd.prog _ _ W _ := wellp_r (ps := [old, root]) (show 2 ≤ 4611686018427387904 by decide) (RowA.of ((M.sees hW).r 0 0 rfl rfl) ((M.sees hW).lt 0 rfl) rfl (Nat.le_refl _)); rw [ht] at h9; exact h9) ?_
 simp only [Z7,Z0]
 refine wpV_not (b := true) (by rfl) rfl rfl ?_
 simp only [Bool.not_true, Bool.not_false]
 simp only [Z7,Z0]
 refine wpV_pick (v := .bool false) (by rfl) rfl rfl rfl ?_
 simp only [Z7,Z0]
 refine Z16 (v := .bool false) (by rfl) rfl rfl ?_
 simp only [Z7,Z0]
 refine Z16 (v := .slice ap st.length cp) (by rfl) rfl rfl ?_
 simp only [Z7,Z0]
 refine Z20 (v := .bool true) (args := #[.slice ap st.length cp]) (by rfl) rfl Tryd.func82 (by kernel_rfl) (by kernel_rfl) rfl (fun W hW => by have h9 : Calls Tryd.prog _ _ W _ := wellp_r (ps := st) hq ((M.sees hW).oldA Hp); rw [hp] at h9; exact h9) ?_
 simp only [Z7,Z0]
 refine wpV_not (b := true) (by rfl) rfl rfl ?_
 simp only [Bool.not_true, Bool.not_false]
 simp only [Z7,Z0]
 refine wpV_pick (v := .bool false) (by rfl) rfl rfl rfl ?_
 simp only [Z7,Z0]
 refine Z14 (hLk _ (fun w9 Sw9 => ?_))
 clear hLk Lk
 simp only [Z1,Z2]
 replace M := M.sees Sw9
 refine Z9 (Z10 ?_)
 refine hK4 _ _ ?_
 refine Z6 rfl ?_
 refine wp_skip ?_
 refine hK3 _ _ ?_
 refine Z4 (fun K10 hK10 => ?_)
 refine Z8 ?_
 refine Z11 4 (by rfl) (fun Lk hLk => ?_)
 simp only [Z1,Z2]
 refine Z20 (v := .tuple #[.string (bs (rootS [])), .int .i64 0]) (args := #[(.slice none 0 0)]) (by rfl) rfl Tryd.func37 (by kernel_rfl) (by kernel_rfl) rfl (fun W hW => Root_c0 ((M.sees hW).oldL L0) ((M.sees hW).oldR R0_0 L0)) ?_
 simp only [Z7,Z0]
 refine Z16 (v := .tuple #[.string (bs (rootS [])), .int .i64 0]) (by rfl) rfl rfl ?_
 simp only [Z7,Z0]
 refine wpV_extract (v := .string (bs (rootS []))) (by rfl) rfl rfl rfl ?_
 simp only [Z7,Z0]
 refine wpV_extract (v := .int .i64 0) (by rfl) rfl rfl rfl ?_
 simp only [Z7,Z0]
 refine Z14 (hLk _ (fun w12 Sw12 => ?_))
 clear hLk Lk
 simp only [Z1,Z2]
 replace M := M.sees Sw12
 refine Z13 (v := .string (bs (rootS []))) (by rfl) (by rfl) (by rfl) ?_
 simp only [Z7,Z0]
 refine Z13 (v := .int .i64 0) (by rfl) (by rfl) (by rfl) ?_
 simp only [Z7,Z0]
 refine Z9 (Z10 ?_)
 refine hK10 _ _ ?_
 refine Z4 (fun K13 hK13 => ?_)
 refine Z8 ?_
 refine Z13 (v := .bool true) (by rfl) (by rfl) (by rfl) ?_
 simp only [Z7,Z0]
 refine Z9 (Z10 ?_)
 refine hK13 _ _ ?_
 refine Z4 (fun K15 hK15 => ?_)
 refine wp_block ?_
 refine Z4 (fun K16 hK16 => ?_)
 refine Z8 ?_
 refine Z12 (v := .int .i64 ((m : Nat) : Int)) (by rfl) (by rfl) (by rfl) ?_
 simp only [Z7,Z0]
 refine Z11 1 (by rfl) (fun Lk hLk => ?_)
 simp only [Z1,Z2]
 refine Z15 (v := .bool false) (by rfl) rfl rfl rfl (fun W => (run_eqlN m 0 _ _ W).trans (by rw [(decide_eq_false (by omega))])) ?_
 simp only [Z7,Z0]
 refine Z14 (hLk _ (fun w18 Sw18 => ?_))
 clear hLk Lk
 simp only [Z1,Z2]
 replace M := M.sees Sw18
 refine Z13 (v := .bool false) (by rfl) (by rfl) (by rfl) ?_
 simp only [Z7,Z0]
 refine Z9 (Z10 ?_)
 refine hK16 _ _ ?_
 refine Z6 rfl ?_
 refine Z4 (fun K19 hK19 => ?_)
 refine Z8 ?_
 refine Z12 (v := .int .i64 ((m : Nat) : Int)) (by rfl) (by rfl) (by rfl) ?_
 simp only [Z7,Z0]
 refine Z12 (v := .int .i64 ((n : Nat) : Int)) (by rfl) (by rfl) (by rfl) ?_
 simp only [Z7,Z0]
 refine Z11 1 (by rfl) (fun Lk hLk => ?_)
 simp only [Z1,Z2]
 refine Z15 (v := .bool true) (by rfl) rfl rfl rfl (fun W => (run_eqlN m n _ _ W).trans (by rw [(decide_eq_true hmn)])) ?_
 simp only [Z7,Z0]
 refine Z14 (hLk _ (fun w21 Sw21 => ?_))
 clear hLk Lk
 simp only [Z1,Z2]
 replace M := M.sees Sw21
 refine Z13 (v := .bool true) (by rfl) (by rfl) (by rfl) ?_
 simp only [Z7,Z0]
 refine Z9 (Z10 ?_)
 refine hK19 _ _ ?_
 refine Z5 rfl ?_
 cases hg22 : (decide (st.length = 0))
 ·
  have hz : ¬ st.length = 0 := of_decide_eq_false hg22
  refine Z8 ?_
  refine Z12 (v := .slice ap st.length cp) (by rfl) (by rfl) (by rfl) ?_
  simp only [Z7,Z0]
  refine Z11 7 (by rfl) (fun Lk hLk => ?_)
  simp only [Z1,Z2]
  refine wpV_lenA (n := st.length) (by rfl) rfl rfl rfl Tryd.underlying48 ?_
  simp only [Z7,Z0]
  refine Z15 (v := .bool false) (by rfl) rfl rfl rfl (fun W => (run_eqlN st.length 0 _ _ W).trans (by rw [hg22])) ?_
  simp only [Z7,Z0]
  refine Z16 (v := .bool false) (by rfl) rfl rfl ?_
  simp only [Z7,Z0]
  refine wpV_skip (by rfl) (by rfl) ?_
  simp only [Z7,Z0]
  refine wpV_skip (by rfl) (by rfl) ?_
  simp only [Z7,Z0]
  refine wpV_skip (by rfl) (by rfl) ?_
  simp only [Z7,Z0]
  refine wpV_pick (v := .bool false) (by rfl) rfl rfl rfl ?_
  simp only [Z7,Z0]
  refine Z14 (hLk _ (fun w24 Sw24 => ?_))
  clear hLk Lk
  simp only [Z1,Z2]
  replace M := M.sees Sw24
  refine Z13 (v := .bool false) (by rfl) (by rfl) (by rfl) ?_
  simp only [Z7,Z0]
  refine Z9 (Z10 ?_)
  refine hK15 _ _ ?_
  refine Z4 (fun K25 hK25 => ?_)
  refine Z4 (fun K26 hK26 => ?_)
  refine Z8 ?_
  refine Z12 (v := .bool false) (by rfl) (by rfl) (by rfl) ?_
  simp only [Z7,Z0]
  refine Z11 1 (by rfl) (fun Lk hLk => ?_)
  simp only [Z1,Z2]
  refine wpV_not (b := false) (by rfl) rfl rfl ?_
  simp only [Bool.not_true, Bool.not_false]
  simp only [Z7,Z0]
  refine Z14 (hLk _ (fun w28 Sw28 => ?_))
  clear hLk Lk
  simp only [Z1,Z2]
  replace M := M.sees Sw28
  refine Z9 (Z10 ?_)
  refine hK26 _ _ ?_
  refine Z5 rfl ?_
  refine Z4 (fun K29 hK29 => ?_)
  refine Z8 ?_
  refine Z13 (v := .int .i64 13) (by rfl) (by rfl) (by rfl) ?_
  simp only [Z7,Z0]
  refine Z9 (Z10 ?_)
  refine hK29 _ _ ?_
  refine wp_ret ?_
  repeat (first | with_reducible refine then_ret ?_ | with_reducible refine inblock_ret ?_)
  refine bodyPost_ret (v := .int .i64 13) (res1 rfl (.tmp (by rfl))) rfl ?_
  have BE := M.below
  exact ⟨by rw [if_neg (fun q9 => hz ((folB_all (Nat.le_of_eq hmn.symm) hone).1 q9).1)], BE⟩
 ·
  have hz : st.length = 0 := of_decide_eq_true hg22
  refine Z8 ?_
  refine Z12 (v := .slice ap st.length cp) (by rfl) (by rfl) (by rfl) ?_
  simp only [Z7,Z0]
  refine Z11 7 (by rfl) (fun Lk hLk => ?_)
  simp only [Z1,Z2]
  refine wpV_lenA (n := st.length) (by rfl) rfl rfl rfl Tryd.underlying48 ?_
  simp only [Z7,Z0]
  refine Z15 (v := .bool true) (by rfl) rfl rfl rfl (fun W => (run_eqlN st.length 0 _ _ W).trans (by rw [hg22])) ?_
  simp only [Z7,Z0]
  refine Z16 (v := .bool true) (by rfl) rfl rfl ?_
  simp only [Z7,Z0]
  refine Z16 (v := .string (bs old)) (by rfl) rfl rfl ?_
  simp only [Z7,Z0]
  refine Z16 (v := .string (bs root)) (by rfl) rfl rfl ?_
  simp only [Z7,Z0]
  refine wpV_binS (v := .bool (decide (old = root))) (by rfl) rfl rfl rfl (run_eql_bs _ _ _) ?_
  simp only [Z7,Z0]
  refine wpV_pick (v := .bool (decide (old = root))) (by rfl) rfl rfl rfl ?_
  simp only [Z7,Z0]
  refine Z14 (hLk _ (fun w32 Sw32 => ?_))
  clear hLk Lk
  simp only [Z1,Z2]
  replace M := M.sees Sw32
  refine Z13 (v := .bool (decide (old = root))) (by rfl) (by rfl) (by rfl) ?_
  simp only [Z7,Z0]
  refine Z9 (Z10 ?_)
  refine hK15 _ _ ?_
  refine Z4 (fun K33 hK33 => ?_)
  refine Z4 (fun K34 hK34 => ?_)
  refine Z8 ?_
  refine Z12 (v := .bool (decide (old = root))) (by rfl) (by rfl) (by rfl) ?_
  simp only [Z7,Z0]
  refine Z11 1 (by rfl) (fun Lk hLk => ?_)
  simp only [Z1,Z2]
  refine wpV_not (b := decide (old = root)) (by rfl) rfl rfl ?_
  simp only [Z7,Z0]
  refine Z14 (hLk _ (fun w36 Sw36 => ?_))
  clear hLk Lk
  simp only [Z1,Z2]
  replace M := M.sees Sw36
  refine Z9 (Z10 ?_)
  refine hK34 _ _ ?_
  cases hc37 : (!(decide (old = root)))
  ·
   have hr : old = root := of_decide_eq_true (by simpa using hc37 : decide (old = root) = true)
   refine Z6 rfl ?_
   refine wp_skip ?_
   refine hK33 _ _ ?_
   refine Z4 (fun K38 hK38 => ?_)
   refine Z8 ?_
   refine Z13 (v := .int .i64 0) (by rfl) (by rfl) (by rfl) ?_
   simp only [Z7,Z0]
   refine Z9 (Z10 ?_)
   refine hK38 _ _ ?_
   refine wp_ret ?_
   repeat (first | with_reducible refine then_ret ?_ | with_reducible refine inblock_ret ?_)
   refine bodyPost_ret (v := .int .i64 0) (res1 rfl (.tmp (by rfl))) rfl ?_
   have BE := M.below
   exact ⟨by rw [if_pos ((folB_all (Nat.le_of_eq hmn.symm) hone).2 ⟨hz, hr⟩)], BE⟩
  ·
   have hr : ¬ old = root := of_decide_eq_false (by simpa using hc37 : decide (old = root) = false)
   refine Z5 rfl ?_
   refine Z4 (fun K40 hK40 => ?_)
   refine Z8 ?_
   refine Z13 (v := .int .i64 13) (by rfl) (by rfl) (by rfl) ?_
   simp only [Z7,Z0]
   refine Z9 (Z10 ?_)
   refine hK40 _ _ ?_
   refine wp_ret ?_
   repeat (first | with_reducible refine then_ret ?_ | with_reducible refine inblock_ret ?_)
   refine bodyPost_ret (v := .int .i64 13) (res1 rfl (.tmp (by rfl))) rfl ?_
   have BE := M.below
   exact ⟨by rw [if_neg (fun q9 => hr ((folB_all (Nat.le_of_eq hmn.symm) hone).1 q9).2)], BE⟩
set_option maxHeartbeats 1000000 in
theorem Follows_go {st : List (List UInt8)} {ap : Option Addr} {np cp : Nat} {old root : List UInt8} {m n : Nat} {w : World} (hq : st.length ≤ 4611686018427387904) (hn : n ≤ 4096) (ht : all32 [old, root] = true) (hp : all32 st = true) (h1 : 1 ≤ m) (hmn : m < n) (L0 : 0 < w.heap.size) (R0_0 : w.rangeAt 0 0 kcells) (Hp : RowA w ap np cp (scells st)) :
  Calls Tryd.prog 67 #[.int .i64 ((m : Nat) : Int), .int .i64 ((n : Nat) : Int), .string (bs old), .string (bs root), .slice ap np cp] w fun e w' => e = .returned (.int .i64 (if folB m n old root st = true then 0 else 13)) ∧ Below w.heap.size w w' := by
 obtain rfl : np = st.length := by have := Hp.len; rwa [scells_len] at this
 have h32 := all32_mem hp
 have hl2 := all32_mem ht
 have hol : old.length = 32 := hl2 old (.head _)
 have hrt : root.length = 32 := hl2 root (.tail _ (.head _))
 have hone : old ≠ [] := fun e9 => by rw [e9] at hol; cases hol
 go_enter Tryd.func67, Tryd.ntmps67
 have M := Mem.start w
 refine Z4 (fun K1 hK1 => ?_)
 refine Z8 ?_
 refine Z13 (v := .int .i64 0) (by rfl) (by rfl) (by rfl) ?_
 simp only [Z7,Z0]
 refine Z9 (Z10 ?_)
 refine hK1 _ _ ?_
 refine Z4 (fun K3 hK3 => ?_)
 refine Z4 (fun K4 hK4 => ?_)
 refine Z8 ?_
 refine Z12 (v := .int .i64 ((m : Nat) : Int)) (by rfl) (by rfl) (by rfl) ?_
 simp only [Z7,Z0]
 refine Z11 13 (by rfl) (fun Lk hLk => ?_)
 simp only [Z1,Z2]
 refine Z15 (v := .bool false) (by rfl) rfl rfl rfl (fun W => (run_lssN m 0 _ _ W).trans (by rw [(decide_eq_false (Nat.not_lt_zero m))])) ?_
 simp only [Z7,Z0]
 refine Z16 (v := .bool false) (by rfl) rfl rfl ?_
 simp only [Z7,Z0]
 refine Z16 (v := .int .i64 ((m : Nat) : Int)) (by rfl) rfl rfl ?_
 simp only [Z7,Z0]
 refine Z16 (v := .int .i64 ((n : Nat) : Int)) (by rfl) rfl rfl ?_
 simp only [Z7,Z0]
 refine Z15 (v := .bool false) (by rfl) rfl rfl rfl (fun W => (run_gtrN m n _ _ W).trans (by rw [(decide_eq_false (by omega))])) ?_
 simp only [Z7,Z0]
 refine wpV_pick (v := .bool false) (by rfl) rfl rfl rfl ?_
 simp only [Z7,Z0]
 refine Z16 (v := .bool false) (by rfl) rfl rfl ?_
 simp only [Z7,Z0]
 refine Z16 (v := .int .i64 ((n : Nat) : Int)) (by rfl) rfl rfl ?_
 simp only [Z7,Z0]
 refine Z15 (v := .bool false) (by rfl) rfl rfl rfl (fun W => (run_gtrN n 4096 _ _ W).trans (by rw [(decide_eq_false (Nat.not_lt.2 hn))])) ?_
 simp only [Z7,Z0]
 refine wpV_pick (v := .bool false) (by rfl) rfl rfl rfl ?_
 simp only [Z7,Z0]
 refine Z16 (v := .bool false) (by rfl) rfl rfl ?_
 simp only [Z7,Z0]
 refine Z16 (v := .string (bs old)) (by rfl) rfl rfl ?_
 simp only [Z7,Z0]
 refine Z16 (v := .string (bs root)) (by rfl) rfl rfl ?_
 simp only [Z7,Z0]
 refine Z14 (hLk _ (fun w6 Sw6 => ?_))
 clear hLk Lk
 simp only [Z1,Z2]
 replace M := M.sees Sw6
 refine wpL_guard (by rfl) ?_
 refine wpL_rowN (vs := [.string (bs old), .string (bs root)]) (z := .string { data := #[] }) (bytes := 16) (by rfl) (by rfl) Tryd.underlying48 (by kernel_rfl) (by decide) (by kernel_rfl) (fun g7 w8 Sw8 Hg7 Bg7 => ?_)
 replace M := ((M.sees Sw8).add (N := 2) (cs := [.string (bs old), .string (bs root)]) (M.ge Hg7) (M.fresh Hg7) Bg7 rfl)
 clear Bg7
 simp only [Z7,Z0]
 refine Z11 8 (by rfl) (fun Lk hLk => ?_)
 simp only [Z1,Z2]
 refine Z20 (v := .bool true) (args := #[.slice (some ⟨g7, 0, none⟩) 2 2]) (by rfl) rfl Tryd.func82 (by kernel_rfl) (by kernel_rfl) rfl (fun W hW => by have h9 : Calls Tryd.prog _ _ W _ := wellp_r (ps := [old, root]) (show 2 ≤ 4611686018427387904 by decide) (RowA.of ((M.sees hW).r 0 0 rfl rfl) ((M.sees hW).lt 0 rfl) rfl (Nat.le_refl _)); rw [ht] at h9; exact h9) ?_
 simp only [Z7,Z0]
 refine wpV_not (b := true) (by rfl) rfl rfl ?_
 simp only [Bool.not_true, Bool.not_false]
 simp only [Z7,Z0]
 refine wpV_pick (v := .bool false) (by rfl) rfl rfl rfl ?_
 simp only [Z7,Z0]
 refine Z16 (v := .bool false) (by rfl) rfl rfl ?_
 simp only [Z7,Z0]
 refine Z16 (v := .slice ap st.length cp) (by rfl) rfl rfl ?_
 simp only [Z7,Z0]
 refine Z20 (v := .bool true) (args := #[.slice ap st.length cp]) (by rfl) rfl Tryd.func82 (by kernel_rfl) (by kernel_rfl) rfl (fun W hW => by have h9 : Calls Tryd.prog _ _ W _ := wellp_r (ps := st) hq ((M.sees hW).oldA Hp); rw [hp] at h9; exact h9) ?_
 simp only [Z7,Z0]
 refine wpV_not (b := true) (by rfl) rfl rfl ?_
 simp only [Bool.not_true, Bool.not_false]
 simp only [Z7,Z0]
 refine wpV_pick (v := .bool false) (by rfl) rfl rfl rfl ?_
 simp only [Z7,Z0]
 refine Z14 (hLk _ (fun w9 Sw9 => ?_))
 clear hLk Lk
 simp only [Z1,Z2]
 replace M := M.sees Sw9
 refine Z9 (Z10 ?_)
 refine hK4 _ _ ?_
 refine Z6 rfl ?_
 refine wp_skip ?_
 refine hK3 _ _ ?_
 refine Z4 (fun K10 hK10 => ?_)
 refine Z8 ?_
 refine Z11 4 (by rfl) (fun Lk hLk => ?_)
 simp only [Z1,Z2]
 refine Z20 (v := .tuple #[.string (bs (rootS [])), .int .i64 0]) (args := #[(.slice none 0 0)]) (by rfl) rfl Tryd.func37 (by kernel_rfl) (by kernel_rfl) rfl (fun W hW => Root_c0 ((M.sees hW).oldL L0) ((M.sees hW).oldR R0_0 L0)) ?_
 simp only [Z7,Z0]
 refine Z16 (v := .tuple #[.string (bs (rootS [])), .int .i64 0]) (by rfl) rfl rfl ?_
 simp only [Z7,Z0]
 refine wpV_extract (v := .string (bs (rootS []))) (by rfl) rfl rfl rfl ?_
 simp only [Z7,Z0]
 refine wpV_extract (v := .int .i64 0) (by rfl) rfl rfl rfl ?_
 simp only [Z7,Z0]
 refine Z14 (hLk _ (fun w12 Sw12 => ?_))
 clear hLk Lk
 simp only [Z1,Z2]
 replace M := M.sees Sw12
 refine Z13 (v := .string (bs (rootS []))) (by rfl) (by rfl) (by rfl) ?_
 simp only [Z7,Z0]
 refine Z13 (v := .int .i64 0) (by rfl) (by rfl) (by rfl) ?_
 simp only [Z7,Z0]
 refine Z9 (Z10 ?_)
 refine hK10 _ _ ?_
 refine Z4 (fun K13 hK13 => ?_)
 refine Z8 ?_
 refine Z13 (v := .bool true) (by rfl) (by rfl) (by rfl) ?_
 simp only [Z7,Z0]
 refine Z9 (Z10 ?_)
 refine hK13 _ _ ?_
 refine Z4 (fun K15 hK15 => ?_)
 refine wp_block ?_
 refine Z4 (fun K16 hK16 => ?_)
 refine Z8 ?_
 refine Z12 (v := .int .i64 ((m : Nat) : Int)) (by rfl) (by rfl) (by rfl) ?_
 simp only [Z7,Z0]
 refine Z11 1 (by rfl) (fun Lk hLk => ?_)
 simp only [Z1,Z2]
 refine Z15 (v := .bool false) (by rfl) rfl rfl rfl (fun W => (run_eqlN m 0 _ _ W).trans (by rw [(decide_eq_false (by omega))])) ?_
 simp only [Z7,Z0]
 refine Z14 (hLk _ (fun w18 Sw18 => ?_))
 clear hLk Lk
 simp only [Z1,Z2]
 replace M := M.sees Sw18
 refine Z13 (v := .bool false) (by rfl) (by rfl) (by rfl) ?_
 simp only [Z7,Z0]
 refine Z9 (Z10 ?_)
 refine hK16 _ _ ?_
 refine Z6 rfl ?_
 refine Z4 (fun K19 hK19 => ?_)
 refine Z8 ?_
 refine Z12 (v := .int .i64 ((m : Nat) : Int)) (by rfl) (by rfl) (by rfl) ?_
 simp only [Z7,Z0]
 refine Z12 (v := .int .i64 ((n : Nat) : Int)) (by rfl) (by rfl) (by rfl) ?_
 simp only [Z7,Z0]
 refine Z11 1 (by rfl) (fun Lk hLk => ?_)
 simp only [Z1,Z2]
 refine Z15 (v := .bool false) (by rfl) rfl rfl rfl (fun W => (run_eqlN m n _ _ W).trans (by rw [(decide_eq_false (Nat.ne_of_lt hmn))])) ?_
 simp only [Z7,Z0]
 refine Z14 (hLk _ (fun w21 Sw21 => ?_))
 clear hLk Lk
 simp only [Z1,Z2]
 replace M := M.sees Sw21
 refine Z13 (v := .bool false) (by rfl) (by rfl) (by rfl) ?_
 simp only [Z7,Z0]
 refine Z9 (Z10 ?_)
 refine hK19 _ _ ?_
 refine Z6 rfl ?_
 refine Z8 ?_
 refine Z12 (v := .int .i64 ((m : Nat) : Int)) (by rfl) (by rfl) (by rfl) ?_
 simp only [Z7,Z0]
 refine Z12 (v := .int .i64 ((n : Nat) : Int)) (by rfl) (by rfl) (by rfl) ?_
 simp only [Z7,Z0]
 refine Z12 (v := .string (bs old)) (by rfl) (by rfl) (by rfl) ?_
 simp only [Z7,Z0]
 refine Z12 (v := .string (bs root)) (by rfl) (by rfl) (by rfl) ?_
 simp only [Z7,Z0]
 refine Z12 (v := .slice ap st.length cp) (by rfl) (by rfl) (by rfl) ?_
 simp only [Z7,Z0]
 refine Z11 1 (by rfl) (fun Lk hLk => ?_)
 simp only [Z1,Z2]
 refine Z20 (v := .bool (folB m n old root st)) (args := #[.int .i64 ((m : Nat) : Int), .int .i64 ((n : Nat) : Int), .string (bs old), .string (bs root), .slice ap st.length cp]) (by rfl) rfl Tryd.func87 (by kernel_rfl) (by kernel_rfl) rfl (fun W hW => by with_reducible exact follows_c (st := st) hq h1 hmn hn hol hrt h32 ((M.sees hW).oldL L0) ((M.sees hW).oldR R0_0 L0) ((M.sees hW).oldA Hp)) ?_
 simp only [Z7,Z0]
 refine Z14 (hLk _ (fun w23 Sw23 => ?_))
 clear hLk Lk
 simp only [Z1,Z2]
 replace M := M.sees Sw23
 refine Z13 (v := .bool (folB m n old root st)) (by rfl) (by rfl) (by rfl) ?_
 simp only [Z7,Z0]
 refine Z9 (Z10 ?_)
 refine hK15 _ _ ?_
 refine Z4 (fun K24 hK24 => ?_)
 refine Z4 (fun K25 hK25 => ?_)
 refine Z8 ?_
 refine Z12 (v := .bool (folB m n old root st)) (by rfl) (by rfl) (by rfl) ?_
 simp only [Z7,Z0]
 refine Z11 1 (by rfl) (fun Lk hLk => ?_)
 simp only [Z1,Z2]
 refine wpV_not (b := folB m n old root st) (by rfl) rfl rfl ?_
 simp only [Z7,Z0]
 refine Z14 (hLk _ (fun w27 Sw27 => ?_))
 clear hLk Lk
 simp only [Z1,Z2]
 replace M := M.sees Sw27
 refine Z9 (Z10 ?_)
 refine hK25 _ _ ?_
 cases hc28 : (!(folB m n old root st))
 ·
  have hf : folB m n old root st = true := (by simpa using hc28 : folB m n old root st = true)
  refine Z6 rfl ?_
  refine wp_skip ?_
  refine hK24 _ _ ?_
  refine Z4 (fun K29 hK29 => ?_)
  refine Z8 ?_
  refine Z13 (v := .int .i64 0) (by rfl) (by rfl) (by rfl) ?_
  simp only [Z7,Z0]
  refine Z9 (Z10 ?_)
  refine hK29 _ _ ?_
  refine wp_ret ?_
  repeat (first | with_reducible refine then_ret ?_ | with_reducible refine inblock_ret ?_)
  refine bodyPost_ret (v := .int .i64 0) (res1 rfl (.tmp (by rfl))) rfl ?_
  have BE := M.below
  exact ⟨by rw [if_pos hf], BE⟩
 ·
  have hf : folB m n old root st = false := (by simpa using hc28 : folB m n old root st = false)
  refine Z5 rfl ?_
  refine Z4 (fun K31 hK31 => ?_)
  refine Z8 ?_
  refine Z13 (v := .int .i64 13) (by rfl) (by rfl) (by rfl) ?_
  simp only [Z7,Z0]
  refine Z9 (Z10 ?_)
  refine hK31 _ _ ?_
  refine wp_ret ?_
  repeat (first | with_reducible refine then_ret ?_ | with_reducible refine inblock_ret ?_)
  refine bodyPost_ret (v := .int .i64 13) (res1 rfl (.tmp (by rfl))) rfl ?_
  have BE := M.below
  exact ⟨by rw [if_neg (by rw [hf]; decide)], BE⟩
theorem Follows_pos {st : List (List UInt8)} {ap : Option Addr} {np cp : Nat} {old root : List UInt8} {m n : Nat} {w : World} (hq : st.length ≤ 4611686018427387904) (hn : n ≤ 4096) (ht : all32 [old, root] = true) (hp : all32 st = true) (h1 : 1 ≤ m) (hmn : m ≤ n) (L0 : 0 < w.heap.size) (R0_0 : w.rangeAt 0 0 kcells) (Hp : RowA w ap np cp (scells st)) :
  Calls Tryd.prog 67 #[.int .i64 ((m : Nat) : Int), .int .i64 ((n : Nat) : Int), .string (bs old), .string (bs root), .slice ap np cp] w fun e w' => e = .returned (.int .i64 (if folB m n old root st = true then 0 else 13)) ∧ Below w.heap.size w w' := by
 by_cases h : m = n
 ·
  exact Follows_all hq hn ht hp h1 h L0 R0_0 Hp
 ·
  exact Follows_go hq hn ht hp h1 (by omega) L0 R0_0 Hp
end Go.Proofs.Yb

namespace Go.Proofs.Yb
open Go Go.RowKit Go.Proofs.Num
open List renaming set → Z0, take → Z1, drop → Z2
open Go renaming undef → Z3, wp_seq_k → Z4, wp_cond_true → Z5, wp_cond_false → Z6
open Go.Proofs.Num renaming putT → Z7, wp_region_seq → Z8, wpL_nil → Z9, no_panic → Z10, wpL_chunk → Z11, wpL_move → Z12, wpL_assign → Z13, wpV_nil → Z14, wpV_bin → Z15, wpV_move → Z16, then_normal → Z17, wpL_store1 → Z18, wpV_val → Z19, wpV_callf → Z20
attribute [local irreducible] wpV wpN wpList
theorem dpath_le {i n : Nat} (h1 : 1 ≤ n) (h : n ≤ 4096) : depthN i n ≤ 4096 := Nat.le_trans (depthN_lt h1) (by omega)
end Go.Proofs.Yb

namespace Go.Proofs.Yb
open Go Go.RowKit Go.Proofs.Num
open List renaming set → Z0, take → Z1, drop → Z2
open Go renaming undef → Z3, wp_seq_k → Z4, wp_cond_true → Z5, wp_cond_false → Z6
open Go.Proofs.Num renaming putT → Z7, wp_region_seq → Z8, wpL_nil → Z9, no_panic → Z10, wpL_chunk → Z11, wpL_move → Z12, wpL_assign → Z13, wpV_nil → Z14, wpV_bin → Z15, wpV_move → Z16, then_normal → Z17, wpL_store1 → Z18, wpV_val → Z19, wpV_callf → Z20
attribute [local irreducible] wpV wpN wpList
theorem stepS_le : ∀ {l : List (List UInt8)} {p : Nat} {wh : Bool}, 1 ≤ l.length → (stepS l p wh).length ≤ l.length := by
 intro l
 generalize hn : l.length = n
 induction n using Nat.strongRecOn generalizing l with
 | ind n ih =>
  intro p wh h1
  by_cases h : l.length ≤ p ∨ l.length ≤ 1
  ·
   rw [stepS, dif_pos h]
   cases wh <;> simp <;> omega
  ·
   have h2 := splitN_lt (n := l.length) (by omega)
   have h3 := splitN_pos l.length
   by_cases hm : p ≤ splitN l.length
   ·
    rw [stepS_left (by omega) (by omega) hm, List.length_append]
    have := ih (splitN l.length) (by omega) (l := l.take (splitN l.length)) (by rw [List.length_take]; omega) (p := p) (wh := wh) (by omega)
    simp only [List.length_cons, List.length_nil]
    omega
   ·
    rw [stepS_right (by omega) (by omega) hm, List.length_append]
    have := ih (l.length - splitN l.length) (by omega) (l := l.drop (splitN l.length)) (by rw [List.length_drop]) (p := p - splitN l.length) (wh := false) (by omega)
    simp only [List.length_cons, List.length_nil]
    omega
end Go.Proofs.Yb

namespace Go.Proofs.Yb
open Go Go.RowKit Go.Proofs.Num
open List renaming set → Z0, take → Z1, drop → Z2
open Go renaming undef → Z3, wp_seq_k → Z4, wp_cond_true → Z5, wp_cond_false → Z6
open Go.Proofs.Num renaming putT → Z7, wp_region_seq → Z8, wpL_nil → Z9, no_panic → Z10, wpL_chunk → Z11, wpL_move → Z12, wpL_assign → Z13, wpV_nil → Z14, wpV_bin → Z15, wpV_move → Z16, then_normal → Z17, wpL_store1 → Z18, wpV_val → Z19, wpV_callf → Z20
attribute [local irreducible] wpV wpN wpList
theorem two_yes {a b : List UInt8} (h1 : ¬ a.length ≠ 32) (h2 : ¬ b.length ≠ 32) : all32 [a, b] = true := by
 unfold all32
 simp [Decidable.not_not.1 h1, Decidable.not_not.1 h2]
theorem two_yes' {a b : List UInt8} (h1 : a.length = 32) (h2 : b.length = 32) : all32 [a, b] = true := two_yes (fun e => e h1) (fun e => e h2)
end Go.Proofs.Yb

