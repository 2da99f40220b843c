import Derived.WalkKit
import Derived.WalkSpells
import Derived.Laws.Pointers
import Derived.RowKit3
import Derived.Below
import Derived.Outline
import Derived.LoopN
import Derived.Lib.Hide
import Derived.Handy
import Derived.Laws.Bits64b
import Derived.Test.YticcchgckljlnaaDoorPr11
import Derived.Test.YticcchgckljlnaaDoorPr4
import Derived.Test.YticcchgckljlnaaDoorPrB
set_option linter.unusedSimpArgs false
set_option linter.unusedVariables false
namespace Go.Proofs.Yb
open Go Go.RowKit Go.Proofs.Num
open List renaming set → Z0, take → Z1, drop → Z2
open Go renaming undef → Z3, wp_seq_k → Z4, wp_cond_true → Z5, wp_cond_false → Z6
open Go.Proofs.Num renaming putT → Z7, wp_region_seq → Z8, wpL_nil → Z9, no_panic → Z10, wpL_chunk → Z11, wpL_move → Z12, wpL_assign → Z13, wpV_nil → Z14, wpV_bin → Z15, wpV_move → Z16, then_normal → Z17, wpL_store1 → Z18, wpV_val → Z19, wpV_callf → Z20
attribute [local irreducible] wpV wpN wpList
/-- The step from the first m: none from none. -/
def stepP (l : List (List UInt8)) (m : Nat) : List (List UInt8) := if m = 0 then [] else stepS l m true
theorem stepP_1 {l : List (List UInt8)} {m : Nat} (h : 1 ≤ m) : stepP l m = stepS l m true := if_neg (by omega)
theorem stepP_32 {l : List (List UInt8)} {m : Nat} (h : ∀ s ∈ l, s.length = 32) : ∀ s ∈ stepP l m, s.length = 32 := by
 unfold stepP
 split
 ·
  intro s hs; cases hs
 ·
  exact stepS_32 _ l m true rfl h
theorem stepP_le {l : List (List UInt8)} {m : Nat} (h : 1 ≤ l.length) : (stepP l m).length ≤ l.length := by
 unfold stepP
 split
 ·
  exact Nat.zero_le _
 ·
  exact stepS_le h
theorem Step_any {l : List (List UInt8)} {ap : Option Addr} {np cp : Nat} {m : Nat} {w : World} (hok : rightB l = true) (hx : m ≤ l.length) (L0 : 0 < w.heap.size) (R0_0 : w.rangeAt 0 0 kcells) (Hp : RowA w ap np cp (scells l)) :
  Calls Tryd.prog 48 #[.slice ap np cp, .int .i64 ((m : Nat) : Int)] w fun e w' => ∃ v, e = .returned v ∧ (∃ a c, v = .tuple #[.slice a (stepP l m).length c, .int .i64 0] ∧ RowA w' a (stepP l m).length c (scells (stepP l m))) ∧ Below w.heap.size w w' := by
 by_cases h0 : m = 0
 ·
  subst h0
  exact (Step_zero hok Hp).mono fun e w' ⟨he, hb⟩ => ⟨_, he, ⟨none, 0, rfl, RowA.nil⟩, hb⟩
 ·
  rw [stepP_1 (by omega)]
  by_cases h : m = l.length
  ·
   exact (Step_all hok (by omega) h Hp).mono fun e w' ⟨he, hb⟩ => ⟨_, he, ⟨none, 0, by rw [stepS_all (by omega)]; rfl, by rw [stepS_all (by omega)]; exact RowA.nil⟩, hb⟩
  ·
   exact Step_n hok (by omega) (by omega) L0 R0_0 Hp
theorem all32_of {ps : List (List UInt8)} (h : ∀ s ∈ ps, s.length = 32) : all32 ps = true := all32_yes fun _ hj => getD_32 h hj
/-- A path that is right. -/
theorem HoldsB {L ps : List (List UInt8)} {ap : Option Addr} {np cp : Nat} {i n : Nat} {w : World} (hn : L.length = n) (hi : i < n) (hle : n ≤ 4096) (h32 : ∀ s ∈ L, s.length = 32) (hps : ps = pathS L i) (L0 : 0 < w.heap.size) (R0_0 : w.rangeAt 0 0 kcells) (Hp : RowA w ap np cp (scells ps)) :
  Calls Tryd.prog 56 #[.string (bs (L.getD i [])), .int .i64 ((i : Nat) : Int), .int .i64 ((n : Nat) : Int), .slice ap np cp, .string (bs (rootS L))] w fun e w' => e = .returned (.int .i64 0) ∧ Below w.heap.size w w' := by
 subst hps
 have h9 := Holds_go (leaf := L.getD i []) (root := rootS L) (ps := pathS L i) (by rw [pathS_len, hn]; exact Nat.le_trans (dpath_le (by omega) hle) (by decide)) hi hle (two_yes' (getD_32 h32 (by omega)) (rootS_len h32)) (all32_of (pathS_32 _ L i rfl h32)) L0 R0_0 Hp
 rw [path_back n L i hn hi h32, if_pos rfl] at h9
 exact h9
/-- A path that is too short or too long. -/
theorem HoldsX {L ps : List (List UInt8)} {ap : Option Addr} {np cp : Nat} {i n : Nat} {w : World} (hn : L.length = n) (hi : i < n) (hle : n ≤ 4096) (h32 : ∀ s ∈ L, s.length = 32) (hp32 : ∀ s ∈ ps, s.length = 32) (hq : ps.length ≤ 4611686018427387904) (hps : ps.length ≠ (pathS L i).length) (L0 : 0 < w.heap.size) (R0_0 : w.rangeAt 0 0 kcells) (Hp : RowA w ap np cp (scells ps)) :
  Calls Tryd.prog 56 #[.string (bs (L.getD i [])), .int .i64 ((i : Nat) : Int), .int .i64 ((n : Nat) : Int), .slice ap np cp, .string (bs (rootS L))] w fun e w' => e = .returned (.int .i64 13) ∧ Below w.heap.size w w' := by
 have h9 := Holds_go (leaf := L.getD i []) (root := rootS L) (ps := ps) hq hi hle (two_yes' (getD_32 h32 (by omega)) (rootS_len h32)) (all32_of hp32) L0 R0_0 Hp
 rw [makesT_no (by rw [pathS_len, hn] at hps; exact hps), if_neg (fun e => rootS_ne h32 e.symm)] at h9
 exact h9
/-- A step that is right. -/
theorem FollowsB {L st : List (List UInt8)} {ap : Option Addr} {np cp : Nat} {m n : Nat} {w : World} (hn : L.length = n) (h1 : 1 ≤ n) (hm : m ≤ n) (hle : n ≤ 4096) (h32 : ∀ s ∈ L, s.length = 32) (hst : st = stepP L m) (L0 : 0 < w.heap.size) (R0_0 : w.rangeAt 0 0 kcells) (Hp : RowA w ap np cp (scells st)) :
  Calls Tryd.prog 67 #[.int .i64 ((m : Nat) : Int), .int .i64 ((n : Nat) : Int), .string (bs (rootS (L.take m))), .string (bs (rootS L)), .slice ap np cp] w fun e w' => e = .returned (.int .i64 0) ∧ Below w.heap.size w w' := by
 subst hst
 have ht32 : ∀ s ∈ L.take m, s.length = 32 := fun s hs => h32 s (List.mem_of_mem_take hs)
 have hq : (stepP L m).length ≤ 4611686018427387904 := Nat.le_trans (stepP_le (by omega)) (by omega)
 have ht := two_yes' (rootS_len ht32) (rootS_len h32)
 by_cases h0 : m = 0
 ·
  subst h0
  have h9 := Follows_zero (st := stepP L 0) (old := rootS (L.take 0)) (root := rootS L) (n := n) hq hle ht (all32_of (stepP_32 h32)) L0 R0_0 Hp
  rw [if_pos ⟨rfl, rfl⟩] at h9
  exact h9
 ·
  have h9 := Follows_pos (st := stepP L m) (old := rootS (L.take m)) (root := rootS L) (m := m) (n := n) hq hle ht (all32_of (stepP_32 h32)) (by omega) hm L0 R0_0 Hp
  have hb := step_back n L m true (rootS (L.take m)) hn (by omega) hm h32 (rootS_ne ht32) (fun _ => rfl)
  rw [if_pos (by rw [stepP_1 (by omega)]; unfold folB; exact decide_eq_true hb)] at h9
  exact h9
/-- A step that is too short or too long. -/
theorem FollowsX {L st : List (List UInt8)} {ap : Option Addr} {np cp : Nat} {m n : Nat} {w : World} (hn : L.length = n) (h1 : 1 ≤ m) (hm : m ≤ n) (hle : n ≤ 4096) (h32 : ∀ s ∈ L, s.length = 32) (hs32 : ∀ s ∈ st, s.length = 32) (hq : st.length ≤ 4611686018427387904) (hst : st.length ≠ (stepP L m).length) (L0 : 0 < w.heap.size) (R0_0 : w.rangeAt 0 0 kcells) (Hp : RowA w ap np cp (scells st)) :
  Calls Tryd.prog 67 #[.int .i64 ((m : Nat) : Int), .int .i64 ((n : Nat) : Int), .string (bs (rootS (L.take m))), .string (bs (rootS L)), .slice ap np cp] w fun e w' => e = .returned (.int .i64 13) ∧ Below w.heap.size w w' := by
 have ht32 : ∀ s ∈ L.take m, s.length = 32 := fun s hs => h32 s (List.mem_of_mem_take hs)
 have h9 := Follows_pos (st := st) (old := rootS (L.take m)) (root := rootS L) (m := m) (n := n) hq hle (two_yes' (rootS_len ht32) (rootS_len h32)) (all32_of hs32) h1 hm L0 R0_0 Hp
 rw [stepP_1 h1] at hst
 rw [if_neg (by unfold folB; rw [decide_eq_true_eq, followT_no hn h1 hm hst]; exact fun e => rootS_ne ht32 e.1.symm)] at h9
 exact h9
end Go.Proofs.Yb

