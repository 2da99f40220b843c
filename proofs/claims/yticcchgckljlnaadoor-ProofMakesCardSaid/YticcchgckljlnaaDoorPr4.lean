import Derived.WalkKit
import Derived.WalkSpells
import Derived.Laws.Pointers
import Derived.RowKit3
import Derived.Below
import Derived.Outline
import Derived.LoopN
import Derived.Lib.Hide
import Derived.Handy
import Derived.Laws.Bits64b
import Derived.Test.YticcchgckljlnaaDoorPr3
import Derived.Test.YticcchgckljlnaaDoorTrS
import Derived.Test.YticcchgckljlnaaDoorTrP
import Derived.Test.YticcchgckljlnaaDoorJoinB
import Derived.Test.YticcchgckljlnaaDoorTr3
import Derived.Test.YticcchgckljlnaaDoorTr1
import Derived.Test.YticcchgckljlnaaDoorTr7
set_option linter.unusedSimpArgs false
set_option linter.unusedVariables false
namespace Go.Proofs.Yb
open Go Go.RowKit Go.Proofs.Num
attribute [local irreducible] wpV wpN wpList
theorem stepS_le : ∀ {l : List (List UInt8)} {p : Nat} {wh : Bool}, 1 ≤ l.length → (stepS l p wh).length ≤ l.length := by
  intro l
  generalize hn : l.length = n
  induction n using Nat.strongRecOn generalizing l with
  | ind n ih =>
    intro p wh h1
    by_cases h : l.length ≤ p ∨ l.length ≤ 1
    · rw [stepS, dif_pos h]
      cases wh <;> simp <;> omega
    · have h2 := splitN_lt (n := l.length) (by omega)
      have h3 := splitN_pos l.length
      by_cases hm : p ≤ splitN l.length
      · rw [stepS_left (by omega) (by omega) hm, List.length_append]
        have := ih (splitN l.length) (by omega) (l := l.take (splitN l.length)) (by rw [List.length_take]; omega) (p := p) (wh := wh) (by omega)
        simp only [List.length_cons, List.length_nil]
        omega
      · rw [stepS_right (by omega) (by omega) hm, List.length_append]
        have := ih (l.length - splitN l.length) (by omega) (l := l.drop (splitN l.length)) (by rw [List.length_drop]) (p := p - splitN l.length) (wh := false) (by omega)
        simp only [List.length_cons, List.length_nil]
        omega
set_option maxHeartbeats 4000000 in
theorem rStep_c : ∀ (N : Nat) {l : List (List UInt8)} {ap : Option Addr} {np cp : Nat} {i : Nat} {wh : Bool} {w : World} (hN : l.length = N) (h4 : l.length ≤ 4096) (hs : ∀ s ∈ l, s.length = 32) (hi1 : 1 ≤ i) (hi : i ≤ l.length) (Hp : RowA w ap np cp (scells l)),
    Calls Tryd.prog 52 #[.slice ap np cp, .int .i64 ((i : Nat) : Int), .bool wh] w fun e w' => ∃ v, e = .returned v ∧ MemRow w ((stepS l i wh).length) (scells (stepS l i wh)) v w' ∧ Below w.heap.size w w' := by
  intro N
  induction N using Nat.strongRecOn with
  | _ N ih =>
    intro l ap np cp i wh w hN h4 hs hi1 hi Hp
    subst hN
    obtain rfl : np = l.length := by have := Hp.len; rwa [scells_len] at this
    go_enter Tryd.func52, Tryd.ntmps52
    have M := Mem.start w
    refine wp_seq_k (fun K1 hK1 => ?_)
    refine wp_region_seq ?_
    refine wpL_assign (v := (.slice none 0 0)) (by rfl) (by rfl) (by rfl) ?_
    simp only [putT, List.set]
    refine wpL_nil (no_panic ?_)
    refine hK1 _ _ ?_
    refine wp_seq_k (fun K3 hK3 => ?_)
    refine wp_region_seq ?_
    refine wpL_row0 (by rfl) (by rfl) Tryd.underlying48 info9 (fun g5 w6 Sw6 Hg5 Bg5 => ?_)
    replace M := ((M.sees Sw6).add (N := 0) (cs := scells []) (M.ge Hg5) (M.fresh Hg5) Bg5 rfl)
    clear Bg5
    simp only [putT, List.set]
    refine wpL_assign (v := .slice (some ⟨g5, 0, none⟩) 0 0) (by rfl) (by rfl) (by rfl) ?_
    simp only [putT, List.set]
    refine wpL_nil (no_panic ?_)
    refine hK3 _ _ ?_
    refine wp_seq_k (fun K7 hK7 => ?_)
    refine wp_seq_k (fun K8 hK8 => ?_)
    refine wp_region_seq ?_
    refine wpL_move (v := .int .i64 ((i : Nat) : Int)) (by rfl) (by rfl) (by rfl) ?_
    simp only [putT, List.set]
    refine wpL_move (v := .slice ap l.length cp) (by rfl) (by rfl) (by rfl) ?_
    simp only [putT, List.set]
    refine wpL_chunk 2 (by rfl) (fun Lk hLk => ?_)
    simp only [List.take, List.drop]
    refine wpV_lenA (n := l.length) (by rfl) rfl rfl rfl Tryd.underlying48 ?_
    simp only [putT, List.set]
    refine wpV_bin (v := .bool (decide (i = l.length))) (by rfl) rfl rfl rfl (fun W => run_eqlN i l.length _ _ W) ?_
    simp only [putT, List.set]
    refine wpV_nil (hLk _ (fun w10 Sw10 => ?_))
    clear hLk Lk
    simp only [List.take, List.drop]
    replace M := M.sees Sw10
    refine wpL_nil (no_panic ?_)
    refine hK8 _ _ ?_
    cases hc11 : (decide (i = l.length))
    · skip
      have hn1 : ¬ i = l.length := of_decide_eq_false hc11
      have h2 : 2 ≤ l.length := by omega
      have hsl := splitN_lt h2
      have hsp := splitN_pos l.length
      refine wp_cond_false rfl ?_
      refine wp_skip ?_
      refine hK7 _ _ ?_
      refine wp_seq_k (fun K12 hK12 => ?_)
      refine wp_region_seq ?_
      refine wpL_move (v := .slice ap l.length cp) (by rfl) (by rfl) (by rfl) ?_
      simp only [putT, List.set]
      refine wpL_chunk 2 (by rfl) (fun Lk hLk => ?_)
      simp only [List.take, List.drop]
      refine wpV_lenA (n := l.length) (by rfl) rfl rfl rfl Tryd.underlying48 ?_
      simp only [putT, List.set]
      refine wpV_callf (v := .int .i64 ((splitN l.length : Nat) : Int)) (args := #[.int .i64 ((l.length : Nat) : Int)]) (by rfl) rfl Tryd.func54 (by kernel_rfl) (by kernel_rfl) rfl (fun W hW => rsplit_c (n := l.length) h2 (by omega)) ?_
      simp only [putT, List.set]
      refine wpV_nil (hLk _ (fun w14 Sw14 => ?_))
      clear hLk Lk
      simp only [List.take, List.drop]
      replace M := M.sees Sw14
      refine wpL_assign (v := .int .i64 ((splitN l.length : Nat) : Int)) (by rfl) (by rfl) (by rfl) ?_
      simp only [putT, List.set]
      refine wpL_nil (no_panic ?_)
      refine hK12 _ _ ?_
      refine wp_seq_k (fun K15 hK15 => ?_)
      refine wp_seq_k (fun K16 hK16 => ?_)
      refine wp_region_seq ?_
      refine wpL_move (v := .int .i64 ((i : Nat) : Int)) (by rfl) (by rfl) (by rfl) ?_
      simp only [putT, List.set]
      refine wpL_move (v := .int .i64 ((splitN l.length : Nat) : Int)) (by rfl) (by rfl) (by rfl) ?_
      simp only [putT, List.set]
      refine wpL_chunk 1 (by rfl) (fun Lk hLk => ?_)
      simp only [List.take, List.drop]
      refine wpV_bin (v := .bool (decide (i ≤ splitN l.length))) (by rfl) rfl rfl rfl (fun W => run_leqN i (splitN l.length) _ _ W) ?_
      simp only [putT, List.set]
      refine wpV_nil (hLk _ (fun w18 Sw18 => ?_))
      clear hLk Lk
      simp only [List.take, List.drop]
      replace M := M.sees Sw18
      refine wpL_nil (no_panic ?_)
      refine hK16 _ _ ?_
      cases hc19 : (decide (i ≤ splitN l.length))
      · skip
        have hi2 : ¬ i ≤ splitN l.length := of_decide_eq_false hc19
        refine wp_cond_false rfl ?_
        refine wp_seq_k (fun K20 hK20 => ?_)
        refine wp_region_seq ?_
        refine wpL_move (v := .slice (some ⟨g5, 0, none⟩) 0 0) (by rfl) (by rfl) (by rfl) ?_
        simp only [putT, List.set]
        refine wpL_move (v := .slice ap l.length cp) (by rfl) (by rfl) (by rfl) ?_
        simp only [putT, List.set]
        refine wpL_move (v := .int .i64 ((splitN l.length : Nat) : Int)) (by rfl) (by rfl) (by rfl) ?_
        simp only [putT, List.set]
        refine wpL_chunk 4 (by rfl) (fun Lk hLk => ?_)
        simp only [List.take, List.drop]
        refine wpV_slcL (lo := splitN l.length) (by rfl) rfl rfl rfl Tryd.underlying48 info9 (Nat.le_of_lt hsl) ?_
        simp only [putT, List.set]
        refine wpV_move (v := .int .i64 ((i : Nat) : Int)) (by rfl) rfl rfl ?_
        simp only [putT, List.set]
        refine wpV_move (v := .int .i64 ((splitN l.length : Nat) : Int)) (by rfl) rfl rfl ?_
        simp only [putT, List.set]
        refine wpV_bin (v := .int .i64 ((i - (splitN l.length) : Nat) : Int)) (by rfl) rfl rfl rfl (fun W => run_sub (by simp only [IntKind.wrap_i64]; omega) W) ?_
        simp only [putT, List.set]
        refine wpV_nil (hLk _ (fun w22 Sw22 => ?_))
        clear hLk Lk
        simp only [List.take, List.drop]
        replace M := M.sees Sw22
        refine wpL_callE (f := 52) (args := #[.slice (slA ap (splitN l.length) cp) (l.length - (splitN l.length)) (cp - (splitN l.length)), .int .i64 ((i - (splitN l.length) : Nat) : Int), .bool false]) (R := MemRow w22 ((stepS (l.drop (splitN l.length)) (i - (splitN l.length)) false).length) (scells (stepS (l.drop (splitN l.length)) (i - (splitN l.length)) false))) (by rfl) (by rfl) rfl Tryd.func52 (by kernel_rfl) (by kernel_rfl) (ih (l.drop (splitN l.length)).length (by rw [List.length_drop]; omega) (l := l.drop (splitN l.length)) (i := i - (splitN l.length)) (wh := false) rfl (by rw [List.length_drop]; omega) (fun s9 h9 => hs s9 (List.mem_of_mem_drop h9)) (by omega) (by rw [List.length_drop]; omega) (((M.oldA Hp).drop (Nat.le_of_lt hsl)).eq (scells_drop2 _ _))) (fun v9 w24 hv9 Sw24 => ?_)
        obtain ⟨g23, g23c, rfl, Cg23, M9⟩ := hv9
        replace M := M.call1 M9
        simp only [putT, List.set]
        refine wpL_append (n := 0) (m := (stepS (l.drop (splitN l.length)) (i - (splitN l.length)) false).length) (olds := scells []) (news := scells (stepS (l.drop (splitN l.length)) (i - (splitN l.length)) false)) (z := .string { data := #[] }) (bytes := 16) (by rfl) (by rfl) (by rfl) (by rfl) Tryd.underlying48 (by kernel_rfl) rfl rfl (by rfl) (scells_len _) (M.r 1 0 rfl rfl) (M.t 1 rfl) (M.lt 1 rfl) (M.r 0 0 rfl rfl) (scells_one _) (by have := len_le (stepS (l.drop (splitN l.length)) (i - (splitN l.length)) false) (Nat.le_trans (stepS_le (by rw [List.length_drop]; omega)) (by rw [List.length_drop]; omega)); omega) (by have := len_le (stepS (l.drop (splitN l.length)) (i - (splitN l.length)) false) (Nat.le_trans (stepS_le (by rw [List.length_drop]; omega)) (by rw [List.length_drop]; omega)); simp only [maxLen]; omega) (fun g25 g25c w26 Sw26 Q Cg25 R T L => ?_)
        replace M := M.grow 1 rfl Sw26 Q R T L
        simp only [List.set] at M
        clear Q R T L
        rw [show scells [] ++ scells (stepS (l.drop (splitN l.length)) (i - (splitN l.length)) false) = scells (stepS (l.drop (splitN l.length)) (i - (splitN l.length)) false) from rfl] at M
        rw [Nat.zero_add] at Cg25
        rw [Nat.zero_add]
        simp only [putT, List.set]
        refine wpL_assign (v := .slice (some ⟨g25, 0, none⟩) ((stepS (l.drop (splitN l.length)) (i - (splitN l.length)) false).length) g25c) (by rfl) (by rfl) (by rfl) ?_
        simp only [putT, List.set]
        refine wpL_nil (no_panic ?_)
        refine hK20 _ _ ?_
        refine wp_region_seq ?_
        refine wpL_move (v := .slice (some ⟨g25, 0, none⟩) ((stepS (l.drop (splitN l.length)) (i - (splitN l.length)) false).length) g25c) (by rfl) (by rfl) (by rfl) ?_
        simp only [putT, List.set]
        refine wpL_move (v := .slice ap l.length cp) (by rfl) (by rfl) (by rfl) ?_
        simp only [putT, List.set]
        refine wpL_move (v := .int .i64 ((splitN l.length : Nat) : Int)) (by rfl) (by rfl) (by rfl) ?_
        simp only [putT, List.set]
        refine wpL_chunk 2 (by rfl) (fun Lk hLk => ?_)
        simp only [List.take, List.drop]
        refine wpV_slcH (hi := splitN l.length) (by rfl) rfl rfl rfl Tryd.underlying48 info9 (Nat.le_trans (Nat.le_of_lt hsl) (M.oldA Hp).cap) ?_
        simp only [putT, List.set]
        refine wpV_callf (v := .string (bs (rootS (l.take (splitN l.length))))) (args := #[.slice ap (splitN l.length) cp]) (by rfl) rfl Tryd.func45 (by kernel_rfl) (by kernel_rfl) rfl (fun W hW => by with_reducible exact rroot_r _ (ps := l.take (splitN l.length)) rfl (by rw [List.length_take]; omega) (fun s9 h9 => hs s9 (List.mem_of_mem_take h9))  ((((M.sees hW).oldA Hp).take (Nat.le_of_lt hsl)).eq (scells_take2 _ _))) ?_
        simp only [putT, List.set]
        refine wpV_nil (hLk _ (fun w28 Sw28 => ?_))
        clear hLk Lk
        simp only [List.take, List.drop]
        replace M := M.sees Sw28
        refine wpL_rowN (vs := [.string (bs (rootS (l.take (splitN l.length))))]) (z := .string { data := #[] }) (bytes := 16) (by rfl) (by rfl) Tryd.underlying48 (by kernel_rfl) (by decide) (by kernel_rfl) (fun g29 w30 Sw30 Hg29 Bg29 => ?_)
        replace M := ((M.sees Sw30).add (N := 1) (cs := [.string (bs (rootS (l.take (splitN l.length))))]) (M.ge Hg29) (M.fresh Hg29) Bg29 rfl)
        clear Bg29
        simp only [putT, List.set]
        refine wpL_append (n := (stepS (l.drop (splitN l.length)) (i - (splitN l.length)) false).length) (m := 1) (olds := scells (stepS (l.drop (splitN l.length)) (i - (splitN l.length)) false)) (news := [.string (bs (rootS (l.take (splitN l.length))))]) (z := .string { data := #[] }) (bytes := 16) (by rfl) (by rfl) (by rfl) (by rfl) Tryd.underlying48 (by kernel_rfl) rfl rfl (scells_len _) rfl (M.r 2 0 rfl rfl) (M.t 2 rfl) (M.lt 2 rfl) (M.r 0 0 rfl rfl) (by intro u hu; rw [List.mem_singleton.1 hu]; rfl) (by have := len_le (stepS (l.drop (splitN l.length)) (i - (splitN l.length)) false) (Nat.le_trans (stepS_le (by rw [List.length_drop]; omega)) (by rw [List.length_drop]; omega)); omega) (by have := len_le (stepS (l.drop (splitN l.length)) (i - (splitN l.length)) false) (Nat.le_trans (stepS_le (by rw [List.length_drop]; omega)) (by rw [List.length_drop]; omega)); simp only [maxLen]; omega) (fun g31 g31c w32 Sw32 Q Cg31 R T L => ?_)
        replace M := M.grow 2 rfl Sw32 Q R T L
        simp only [List.set] at M
        clear Q R T L
        rw [show scells (stepS (l.drop (splitN l.length)) (i - (splitN l.length)) false) ++ [.string (bs (rootS (l.take (splitN l.length))))] = scells (stepS (l.drop (splitN l.length)) (i - (splitN l.length)) false ++ [rootS (l.take (splitN l.length))]) from scells_app _ [_]] at M
        simp only [putT, List.set]
        refine wpL_assign (v := .slice (some ⟨g31, 0, none⟩) ((stepS (l.drop (splitN l.length)) (i - (splitN l.length)) false).length + 1) g31c) (by rfl) (by rfl) (by rfl) ?_
        simp only [putT, List.set]
        refine wpL_nil (no_panic ?_)
        refine hK15 _ _ ?_
        refine wp_seq_k (fun K33 hK33 => ?_)
        refine wp_region_seq ?_
        refine wpL_move (v := .slice (some ⟨g31, 0, none⟩) ((stepS (l.drop (splitN l.length)) (i - (splitN l.length)) false).length + 1) g31c) (by rfl) (by rfl) (by rfl) ?_
        simp only [putT, List.set]
        refine wpL_assign (v := .slice (some ⟨g31, 0, none⟩) ((stepS (l.drop (splitN l.length)) (i - (splitN l.length)) false).length + 1) g31c) (by rfl) (by rfl) (by rfl) ?_
        simp only [putT, List.set]
        refine wpL_nil (no_panic ?_)
        refine hK33 _ _ ?_
        refine wp_ret ?_
        repeat (first | with_reducible refine then_ret ?_ | with_reducible refine inblock_ret ?_)
        refine bodyPost_ret (v := .slice (some ⟨g31, 0, none⟩) ((stepS (l.drop (splitN l.length)) (i - (splitN l.length)) false).length + 1) g31c) (res1 rfl (.tmp (by rfl))) rfl ?_
        have BE := M.below
        rw [stepS_right h2 (by omega) hi2, List.length_append]
        exact ⟨_, rfl, ⟨g31, g31c, rfl, Cg31, M.pick [2] (by decide) rfl⟩, BE⟩
      · skip
        have hi2 : i ≤ splitN l.length := of_decide_eq_true hc19
        refine wp_cond_true rfl ?_
        refine wp_seq_k (fun K35 hK35 => ?_)
        refine wp_region_seq ?_
        refine wpL_move (v := .slice (some ⟨g5, 0, none⟩) 0 0) (by rfl) (by rfl) (by rfl) ?_
        simp only [putT, List.set]
        refine wpL_move (v := .slice ap l.length cp) (by rfl) (by rfl) (by rfl) ?_
        simp only [putT, List.set]
        refine wpL_move (v := .int .i64 ((splitN l.length : Nat) : Int)) (by rfl) (by rfl) (by rfl) ?_
        simp only [putT, List.set]
        refine wpL_chunk 1 (by rfl) (fun Lk hLk => ?_)
        simp only [List.take, List.drop]
        refine wpV_slcH (hi := splitN l.length) (by rfl) rfl rfl rfl Tryd.underlying48 info9 (Nat.le_trans (Nat.le_of_lt hsl) (M.oldA Hp).cap) ?_
        simp only [putT, List.set]
        refine wpV_nil (hLk _ (fun w37 Sw37 => ?_))
        clear hLk Lk
        simp only [List.take, List.drop]
        replace M := M.sees Sw37
        refine wpL_move (v := .int .i64 ((i : Nat) : Int)) (by rfl) (by rfl) (by rfl) ?_
        simp only [putT, List.set]
        refine wpL_move (v := .bool wh) (by rfl) (by rfl) (by rfl) ?_
        simp only [putT, List.set]
        refine wpL_callE (f := 52) (args := #[.slice ap (splitN l.length) cp, .int .i64 ((i : Nat) : Int), .bool wh]) (R := MemRow w37 ((stepS (l.take (splitN l.length)) i wh).length) (scells (stepS (l.take (splitN l.length)) i wh))) (by rfl) (by rfl) rfl Tryd.func52 (by kernel_rfl) (by kernel_rfl) (ih (l.take (splitN l.length)).length (by rw [List.length_take]; omega) (l := l.take (splitN l.length)) (i := i) (wh := wh) rfl (by rw [List.length_take]; omega) (fun s9 h9 => hs s9 (List.mem_of_mem_take h9)) (by omega) (by rw [List.length_take]; omega) (((M.oldA Hp).take (Nat.le_of_lt hsl)).eq (scells_take2 _ _))) (fun v9 w39 hv9 Sw39 => ?_)
        obtain ⟨g38, g38c, rfl, Cg38, M9⟩ := hv9
        replace M := M.call1 M9
        simp only [putT, List.set]
        refine wpL_append (n := 0) (m := (stepS (l.take (splitN l.length)) i wh).length) (olds := scells []) (news := scells (stepS (l.take (splitN l.length)) i wh)) (z := .string { data := #[] }) (bytes := 16) (by rfl) (by rfl) (by rfl) (by rfl) Tryd.underlying48 (by kernel_rfl) rfl rfl (by rfl) (scells_len _) (M.r 1 0 rfl rfl) (M.t 1 rfl) (M.lt 1 rfl) (M.r 0 0 rfl rfl) (scells_one _) (by have := len_le (stepS (l.take (splitN l.length)) i wh) (Nat.le_trans (stepS_le (by rw [List.length_take]; omega)) (by rw [List.length_take]; omega)); omega) (by have := len_le (stepS (l.take (splitN l.length)) i wh) (Nat.le_trans (stepS_le (by rw [List.length_take]; omega)) (by rw [List.length_take]; omega)); simp only [maxLen]; omega) (fun g40 g40c w41 Sw41 Q Cg40 R T L => ?_)
        replace M := M.grow 1 rfl Sw41 Q R T L
        simp only [List.set] at M
        clear Q R T L
        rw [show scells [] ++ scells (stepS (l.take (splitN l.length)) i wh) = scells (stepS (l.take (splitN l.length)) i wh) from rfl] at M
        rw [Nat.zero_add] at Cg40
        rw [Nat.zero_add]
        simp only [putT, List.set]
        refine wpL_assign (v := .slice (some ⟨g40, 0, none⟩) ((stepS (l.take (splitN l.length)) i wh).length) g40c) (by rfl) (by rfl) (by rfl) ?_
        simp only [putT, List.set]
        refine wpL_nil (no_panic ?_)
        refine hK35 _ _ ?_
        refine wp_region_seq ?_
        refine wpL_move (v := .slice (some ⟨g40, 0, none⟩) ((stepS (l.take (splitN l.length)) i wh).length) g40c) (by rfl) (by rfl) (by rfl) ?_
        simp only [putT, List.set]
        refine wpL_move (v := .slice ap l.length cp) (by rfl) (by rfl) (by rfl) ?_
        simp only [putT, List.set]
        refine wpL_move (v := .int .i64 ((splitN l.length : Nat) : Int)) (by rfl) (by rfl) (by rfl) ?_
        simp only [putT, List.set]
        refine wpL_chunk 2 (by rfl) (fun Lk hLk => ?_)
        simp only [List.take, List.drop]
        refine wpV_slcL (lo := splitN l.length) (by rfl) rfl rfl rfl Tryd.underlying48 info9 (Nat.le_of_lt hsl) ?_
        simp only [putT, List.set]
        refine wpV_callf (v := .string (bs (rootS (l.drop (splitN l.length))))) (args := #[.slice (slA ap (splitN l.length) cp) (l.length - (splitN l.length)) (cp - (splitN l.length))]) (by rfl) rfl Tryd.func45 (by kernel_rfl) (by kernel_rfl) rfl (fun W hW => by with_reducible exact rroot_r _ (ps := l.drop (splitN l.length)) rfl (by rw [List.length_drop]; omega) (fun s9 h9 => hs s9 (List.mem_of_mem_drop h9))  ((((M.sees hW).oldA Hp).drop (Nat.le_of_lt hsl)).eq (scells_drop2 _ _))) ?_
        simp only [putT, List.set]
        refine wpV_nil (hLk _ (fun w43 Sw43 => ?_))
        clear hLk Lk
        simp only [List.take, List.drop]
        replace M := M.sees Sw43
        refine wpL_rowN (vs := [.string (bs (rootS (l.drop (splitN l.length))))]) (z := .string { data := #[] }) (bytes := 16) (by rfl) (by rfl) Tryd.underlying48 (by kernel_rfl) (by decide) (by kernel_rfl) (fun g44 w45 Sw45 Hg44 Bg44 => ?_)
        replace M := ((M.sees Sw45).add (N := 1) (cs := [.string (bs (rootS (l.drop (splitN l.length))))]) (M.ge Hg44) (M.fresh Hg44) Bg44 rfl)
        clear Bg44
        simp only [putT, List.set]
        refine wpL_append (n := (stepS (l.take (splitN l.length)) i wh).length) (m := 1) (olds := scells (stepS (l.take (splitN l.length)) i wh)) (news := [.string (bs (rootS (l.drop (splitN l.length))))]) (z := .string { data := #[] }) (bytes := 16) (by rfl) (by rfl) (by rfl) (by rfl) Tryd.underlying48 (by kernel_rfl) rfl rfl (scells_len _) rfl (M.r 2 0 rfl rfl) (M.t 2 rfl) (M.lt 2 rfl) (M.r 0 0 rfl rfl) (by intro u hu; rw [List.mem_singleton.1 hu]; rfl) (by have := len_le (stepS (l.take (splitN l.length)) i wh) (Nat.le_trans (stepS_le (by rw [List.length_take]; omega)) (by rw [List.length_take]; omega)); omega) (by have := len_le (stepS (l.take (splitN l.length)) i wh) (Nat.le_trans (stepS_le (by rw [List.length_take]; omega)) (by rw [List.length_take]; omega)); simp only [maxLen]; omega) (fun g46 g46c w47 Sw47 Q Cg46 R T L => ?_)
        replace M := M.grow 2 rfl Sw47 Q R T L
        simp only [List.set] at M
        clear Q R T L
        rw [show scells (stepS (l.take (splitN l.length)) i wh) ++ [.string (bs (rootS (l.drop (splitN l.length))))] = scells (stepS (l.take (splitN l.length)) i wh ++ [rootS (l.drop (splitN l.length))]) from scells_app _ [_]] at M
        simp only [putT, List.set]
        refine wpL_assign (v := .slice (some ⟨g46, 0, none⟩) ((stepS (l.take (splitN l.length)) i wh).length + 1) g46c) (by rfl) (by rfl) (by rfl) ?_
        simp only [putT, List.set]
        refine wpL_nil (no_panic ?_)
        refine hK15 _ _ ?_
        refine wp_seq_k (fun K48 hK48 => ?_)
        refine wp_region_seq ?_
        refine wpL_move (v := .slice (some ⟨g46, 0, none⟩) ((stepS (l.take (splitN l.length)) i wh).length + 1) g46c) (by rfl) (by rfl) (by rfl) ?_
        simp only [putT, List.set]
        refine wpL_assign (v := .slice (some ⟨g46, 0, none⟩) ((stepS (l.take (splitN l.length)) i wh).length + 1) g46c) (by rfl) (by rfl) (by rfl) ?_
        simp only [putT, List.set]
        refine wpL_nil (no_panic ?_)
        refine hK48 _ _ ?_
        refine wp_ret ?_
        repeat (first | with_reducible refine then_ret ?_ | with_reducible refine inblock_ret ?_)
        refine bodyPost_ret (v := .slice (some ⟨g46, 0, none⟩) ((stepS (l.take (splitN l.length)) i wh).length + 1) g46c) (res1 rfl (.tmp (by rfl))) rfl ?_
        have BE := M.below
        rw [stepS_left h2 (by omega) hi2, List.length_append]
        exact ⟨_, rfl, ⟨g46, g46c, rfl, Cg46, M.pick [2] (by decide) rfl⟩, BE⟩
    · skip
      have hn1 : i = l.length := of_decide_eq_true hc11
      refine wp_cond_true rfl ?_
      refine wp_seq_k (fun K50 hK50 => ?_)
      refine wp_seq_k (fun K51 hK51 => ?_)
      refine wp_region_seq ?_
      refine wpL_move (v := .bool wh) (by rfl) (by rfl) (by rfl) ?_
      simp only [putT, List.set]
      refine wpL_chunk 1 (by rfl) (fun Lk hLk => ?_)
      simp only [List.take, List.drop]
      refine wpV_not (b := wh) (by rfl) rfl rfl ?_
      simp only [putT, List.set]
      refine wpV_nil (hLk _ (fun w53 Sw53 => ?_))
      clear hLk Lk
      simp only [List.take, List.drop]
      replace M := M.sees Sw53
      refine wpL_nil (no_panic ?_)
      refine hK51 _ _ ?_
      cases hc54 : (!wh)
      · skip
        have ewh : wh = true := by simpa using hc54
        refine wp_cond_false rfl ?_
        refine wp_skip ?_
        refine hK50 _ _ ?_
        refine wp_seq_k (fun K55 hK55 => ?_)
        refine wp_region_seq ?_
        refine wpL_move (v := .slice (some ⟨g5, 0, none⟩) 0 0) (by rfl) (by rfl) (by rfl) ?_
        simp only [putT, List.set]
        refine wpL_assign (v := .slice (some ⟨g5, 0, none⟩) 0 0) (by rfl) (by rfl) (by rfl) ?_
        simp only [putT, List.set]
        refine wpL_nil (no_panic ?_)
        refine hK55 _ _ ?_
        refine wp_ret ?_
        repeat (first | with_reducible refine then_ret ?_ | with_reducible refine inblock_ret ?_)
        refine bodyPost_ret (v := .slice (some ⟨g5, 0, none⟩) 0 0) (res1 rfl (.tmp (by rfl))) rfl ?_
        have BE := M.below
        rw [stepS_all (by omega), ewh]
        exact ⟨_, rfl, ⟨g5, 0, rfl, (Nat.le_refl _), M.pick [0] (by decide) rfl⟩, BE⟩
      · skip
        have ewh : wh = false := by simpa using hc54
        refine wp_cond_true rfl ?_
        refine wp_region_seq ?_
        refine wpL_move (v := .slice (some ⟨g5, 0, none⟩) 0 0) (by rfl) (by rfl) (by rfl) ?_
        simp only [putT, List.set]
        refine wpL_move (v := .slice ap l.length cp) (by rfl) (by rfl) (by rfl) ?_
        simp only [putT, List.set]
        refine wpL_chunk 1 (by rfl) (fun Lk hLk => ?_)
        simp only [List.take, List.drop]
        refine wpV_callf (v := .string (bs (rootS l))) (args := #[.slice ap l.length cp]) (by rfl) rfl Tryd.func45 (by kernel_rfl) (by kernel_rfl) rfl (fun W hW => by with_reducible exact rroot_r _ (ps := l) rfl h4 hs  ((M.sees hW).oldA Hp)) ?_
        simp only [putT, List.set]
        refine wpV_nil (hLk _ (fun w58 Sw58 => ?_))
        clear hLk Lk
        simp only [List.take, List.drop]
        replace M := M.sees Sw58
        refine wpL_rowN (vs := [.string (bs (rootS l))]) (z := .string { data := #[] }) (bytes := 16) (by rfl) (by rfl) Tryd.underlying48 (by kernel_rfl) (by decide) (by kernel_rfl) (fun g59 w60 Sw60 Hg59 Bg59 => ?_)
        replace M := ((M.sees Sw60).add (N := 1) (cs := [.string (bs (rootS l))]) (M.ge Hg59) (M.fresh Hg59) Bg59 rfl)
        clear Bg59
        simp only [putT, List.set]
        refine wpL_append (n := 0) (m := 1) (olds := scells []) (news := [.string (bs (rootS l))]) (z := .string { data := #[] }) (bytes := 16) (by rfl) (by rfl) (by rfl) (by rfl) Tryd.underlying48 (by kernel_rfl) rfl rfl (by rfl) rfl (M.r 1 0 rfl rfl) (M.t 1 rfl) (M.lt 1 rfl) (M.r 0 0 rfl rfl) (by intro u hu; rw [List.mem_singleton.1 hu]; rfl) (by decide) (by decide) (fun g61 g61c w62 Sw62 Q Cg61 R T L => ?_)
        replace M := M.grow 1 rfl Sw62 Q R T L
        simp only [List.set] at M
        clear Q R T L
        rw [show scells [] ++ [.string (bs (rootS l))] = scells [rootS l] from rfl] at M
        simp only [putT, List.set]
        refine wpL_assign (v := .slice (some ⟨g61, 0, none⟩) 1 g61c) (by rfl) (by rfl) (by rfl) ?_
        simp only [putT, List.set]
        refine wpL_nil (no_panic ?_)
        refine hK50 _ _ ?_
        refine wp_seq_k (fun K63 hK63 => ?_)
        refine wp_region_seq ?_
        refine wpL_move (v := .slice (some ⟨g61, 0, none⟩) 1 g61c) (by rfl) (by rfl) (by rfl) ?_
        simp only [putT, List.set]
        refine wpL_assign (v := .slice (some ⟨g61, 0, none⟩) 1 g61c) (by rfl) (by rfl) (by rfl) ?_
        simp only [putT, List.set]
        refine wpL_nil (no_panic ?_)
        refine hK63 _ _ ?_
        refine wp_ret ?_
        repeat (first | with_reducible refine then_ret ?_ | with_reducible refine inblock_ret ?_)
        refine bodyPost_ret (v := .slice (some ⟨g61, 0, none⟩) 1 g61c) (res1 rfl (.tmp (by rfl))) rfl ?_
        have BE := M.below
        rw [stepS_all (by omega), ewh]
        exact ⟨_, rfl, ⟨g61, g61c, rfl, Cg61, M.pick [1] (by decide) rfl⟩, BE⟩
end Go.Proofs.Yb

namespace Go.Proofs.Yb
open Go Go.RowKit Go.Proofs.Num
attribute [local irreducible] wpV wpN wpList
theorem leaf32_2 {a b : List UInt8} : ∀ s ∈ [leafS a, leafS b], s.length = 32 := fun s h => by
  rcases List.mem_cons.1 h with e | e
  · rw [e]; exact leafS_len _
  · rw [List.mem_singleton.1 e]; exact leafS_len _
end Go.Proofs.Yb

namespace Go.Proofs.Yb
open Go Go.RowKit Go.Proofs.Num
attribute [local irreducible] wpV wpN wpList
theorem Path_n {l : List (List UInt8)} {ap : Option Addr} {np cp : Nat} {i0 : Nat} {w : World} (hok : rightB l = true) (hx : i0 < l.length) (L0 : 0 < w.heap.size) (R0_0 : w.rangeAt 0 0 kcells) (Hp : RowA w ap np cp (scells l)) :
    Calls Tryd.prog 47 #[.slice ap np cp, .int .i64 ((i0 : Nat) : Int)] w fun e w' => ∃ v, e = .returned v ∧ (∃ a c, v = .tuple #[.slice a (pathS l i0).length c, .int .i64 0] ∧ RowA w' a (pathS l i0).length c (scells (pathS l i0))) ∧ Below w.heap.size w w' :=
  (Path_go hok hx L0 R0_0 Hp).mono fun e w' ⟨a, n, c, he, hR, hb⟩ => by
    have hn := hR.len
    rw [scells_len] at hn
    subst hn
    exact ⟨_, he, ⟨a, c, rfl, hR⟩, hb⟩
theorem Step_n {l : List (List UInt8)} {ap : Option Addr} {np cp : Nat} {m : Nat} {w : World} (hok : rightB l = true) (hm1 : 1 ≤ m) (hx : m < l.length) (L0 : 0 < w.heap.size) (R0_0 : w.rangeAt 0 0 kcells) (Hp : RowA w ap np cp (scells l)) :
    Calls Tryd.prog 48 #[.slice ap np cp, .int .i64 ((m : Nat) : Int)] w fun e w' => ∃ v, e = .returned v ∧ (∃ a c, v = .tuple #[.slice a (stepS l m true).length c, .int .i64 0] ∧ RowA w' a (stepS l m true).length c (scells (stepS l m true))) ∧ Below w.heap.size w w' :=
  (Step_go hok hm1 hx L0 R0_0 Hp).mono fun e w' ⟨a, n, c, he, hR, hb⟩ => by
    have hn := hR.len
    rw [scells_len] at hn
    subst hn
    exact ⟨_, he, ⟨a, c, rfl, hR⟩, hb⟩
theorem Step_full {l : List (List UInt8)} {ap : Option Addr} {np cp : Nat} {m : Nat} {w : World} (hok : rightB l = true) (hx : m = l.length) (Hp : RowA w ap np cp (scells l)) :
    Calls Tryd.prog 48 #[.slice ap np cp, .int .i64 ((m : Nat) : Int)] w fun e w' => e = .returned (.tuple #[.slice none 0 0, .int .i64 0]) ∧ Below w.heap.size w w' := by
  by_cases h0 : m = 0
  · rw [h0]
    exact Step_zero hok Hp
  · exact Step_all hok (by omega) hx Hp
theorem path_ab (a b : List UInt8) : pathS [a, b] 1 = [a] := by
  have e : splitN 2 = 1 := by decide
  rw [pathS_right (by simp) (by show ¬ 1 < splitN 2; rw [e]; decide)]
  show pathS (List.drop (splitN 2) [a, b]) (1 - splitN 2) ++ [rootS (List.take (splitN 2) [a, b])] = [a]
  rw [e]
  show pathS [b] 0 ++ [rootS [a]] = [a]
  rw [pathS_one (by simp), rootS_1 rfl]
  rfl
theorem leaf_ne (a : List UInt8) : leafS a ≠ [] := fun e => by
  have := leafS_len a
  rw [e] at this
  cases this
set_option maxHeartbeats 1000000 in
theorem alive09_c  {w : World} (L0 : 0 < w.heap.size) (R0_0 : w.rangeAt 0 0 kcells) :
    Calls Tryd.prog 49 #[] w fun e w' => e = .returned (.bool true) ∧ Below w.heap.size w w' := by
  go_enter Tryd.func49, Tryd.ntmps49
  have M := Mem.start w
  refine wp_seq_k (fun K1 hK1 => ?_)
  refine wp_region_seq ?_
  refine wpL_assign (v := .bool false) (by rfl) (by rfl) (by rfl) ?_
  simp only [putT, List.set]
  refine wpL_nil (no_panic ?_)
  refine hK1 _ _ ?_
  refine wp_seq_k (fun K3 hK3 => ?_)
  refine wp_region_seq ?_
  refine wpL_chunk 2 (by rfl) (fun Lk hLk => ?_)
  simp only [List.take, List.drop]
  refine wpV_callf (v := .string (bs (leafS ([97])))) (args := #[.string (bs ([97]))]) (by rfl) rfl Tryd.func38 (by kernel_rfl) (by kernel_rfl) rfl (fun W hW => leaf_c (d := [97]) (by decide) ((M.sees hW).oldL L0) ((M.sees hW).oldR R0_0 L0)) ?_
  simp only [putT, List.set]
  refine wpV_callf (v := .string (bs (leafS ([98])))) (args := #[.string (bs ([98]))]) (by rfl) rfl Tryd.func38 (by kernel_rfl) (by kernel_rfl) rfl (fun W hW => leaf_c (d := [98]) (by decide) ((M.sees hW).oldL L0) ((M.sees hW).oldR R0_0 L0)) ?_
  simp only [putT, List.set]
  refine wpV_nil (hLk _ (fun w5 Sw5 => ?_))
  clear hLk Lk
  simp only [List.take, List.drop]
  replace M := M.sees Sw5
  refine wpL_assign (v := .string (bs (leafS ([97])))) (by rfl) (by rfl) (by rfl) ?_
  simp only [putT, List.set]
  refine wpL_assign (v := .string (bs (leafS ([98])))) (by rfl) (by rfl) (by rfl) ?_
  simp only [putT, List.set]
  refine wpL_nil (no_panic ?_)
  refine hK3 _ _ ?_
  refine wp_seq_k (fun K6 hK6 => ?_)
  refine wp_region_seq ?_
  refine wpL_move (v := .string (bs (leafS ([97])))) (by rfl) (by rfl) (by rfl) ?_
  simp only [putT, List.set]
  refine wpL_move (v := .string (bs (leafS ([98])))) (by rfl) (by rfl) (by rfl) ?_
  simp only [putT, List.set]
  refine wpL_rowN (vs := [.string (bs (leafS ([97]))), .string (bs (leafS ([98])))]) (z := .string { data := #[] }) (bytes := 16) (by rfl) (by rfl) Tryd.underlying48 (by kernel_rfl) (by decide) (by kernel_rfl) (fun g8 w9 Sw9 Hg8 Bg8 => ?_)
  replace M := ((M.sees Sw9).add (N := 2) (cs := [.string (bs (leafS ([97]))), .string (bs (leafS ([98])))]) (M.ge Hg8) (M.fresh Hg8) Bg8 rfl)
  clear Bg8
  simp only [putT, List.set]
  refine wpL_callE (f := 47) (args := #[.slice (some ⟨g8, 0, none⟩) 2 2, .int .i64 1]) (R := fun v9 W9 => ∃ a11 c11, v9 = .tuple #[.slice a11 (([leafS ([97])]).length) c11, .int .i64 0] ∧ RowA W9 a11 ([leafS ([97])]).length c11 (scells ([leafS ([97])]))) (by rfl) (by rfl) rfl Tryd.func47 (by kernel_rfl) (by kernel_rfl) (by have h9 := Path_n (l := [leafS ([97]), leafS ([98])]) (i0 := 1) (right_of leaf32_2 (by decide)) (by decide) (M.oldL L0) (M.oldR R0_0 L0) (RowA.of (M.r 0 0 rfl rfl) (M.lt 0 rfl) rfl (Nat.le_refl _)); rw [path_ab] at h9; exact h9) (fun v9 w10 hv9 Sw10 => ?_)
  obtain ⟨a11, c11, rfl, H11_0⟩ := hv9
  replace M := M.sees Sw10
  replace R0_0 := M.oldR R0_0 L0
  replace L0 := M.oldL L0
  have Rg8_0 := M.r 0 0 rfl rfl
  have Lg8 := M.lt 0 rfl
  have BB := M.below
  replace M := Mem.start w10
  simp only [putT, List.set]
  refine wpL_move (v := .tuple #[.slice a11 (([leafS ([97])]).length) c11, .int .i64 0]) (by rfl) (by rfl) (by rfl) ?_
  simp only [putT, List.set]
  refine wpL_chunk 2 (by rfl) (fun Lk hLk => ?_)
  simp only [List.take, List.drop]
  refine wpV_extract (v := .slice a11 (([leafS ([97])]).length) c11) (by rfl) rfl rfl rfl ?_
  simp only [putT, List.set]
  refine wpV_extract (v := .int .i64 0) (by rfl) rfl rfl rfl ?_
  simp only [putT, List.set]
  refine wpV_nil (hLk _ (fun w12 Sw12 => ?_))
  clear hLk Lk
  simp only [List.take, List.drop]
  replace M := M.sees Sw12
  refine wpL_assign (v := .slice a11 (([leafS ([97])]).length) c11) (by rfl) (by rfl) (by rfl) ?_
  simp only [putT, List.set]
  refine wpL_assign (v := .int .i64 0) (by rfl) (by rfl) (by rfl) ?_
  simp only [putT, List.set]
  refine wpL_nil (no_panic ?_)
  refine hK6 _ _ ?_
  refine wp_seq_k (fun K13 hK13 => ?_)
  refine wp_region_seq ?_
  refine wpL_move (v := .int .i64 0) (by rfl) (by rfl) (by rfl) ?_
  simp only [putT, List.set]
  refine wpL_chunk 17 (by rfl) (fun Lk hLk => ?_)
  simp only [List.take, List.drop]
  refine wpV_bin (v := .bool true) (by rfl) rfl rfl rfl (fun W => run_eql _ _ _ _ W) ?_
  simp only [putT, List.set]
  refine wpV_move (v := .bool true) (by rfl) rfl rfl ?_
  simp only [putT, List.set]
  refine wpV_move (v := .slice a11 (([leafS ([97])]).length) c11) (by rfl) rfl rfl ?_
  simp only [putT, List.set]
  refine wpV_lenA (n := ([leafS ([97])]).length) (by rfl) rfl rfl rfl Tryd.underlying48 ?_
  simp only [putT, List.set]
  refine wpV_bin (v := .bool true) (by rfl) rfl rfl rfl (fun W => (run_eqlN (([leafS ([97])]).length) 1 _ _ W).trans (by rw [(show decide ([leafS [97]].length = 1) = true from rfl)])) ?_
  simp only [putT, List.set]
  refine wpV_pick (v := .bool true) (by rfl) rfl rfl rfl ?_
  simp only [putT, List.set]
  refine wpV_move (v := .bool true) (by rfl) rfl rfl ?_
  simp only [putT, List.set]
  refine wpV_move (v := .slice a11 (([leafS ([97])]).length) c11) (by rfl) rfl rfl ?_
  simp only [putT, List.set]
  refine wpV_idxA (i := 0) (by rfl) rfl rfl rfl Tryd.underlying48 info9 (M.oldA H11_0) Nat.zero_lt_one ?_
  simp only [putT, List.set]
  refine wpV_loadA (i := 0) (v := .string (bs (leafS ([97])))) (by rfl) rfl rfl (M.oldA H11_0) rfl Tryd.underlying9 rfl ?_
  simp only [putT, List.set]
  refine wpV_move (v := .string (bs (leafS ([97])))) (by rfl) rfl rfl ?_
  simp only [putT, List.set]
  refine wpV_binS (v := .bool true) (by rfl) rfl rfl rfl (fun W => (run_eql_bs _ _ _ W).trans (by rw [show decide (leafS ([97]) = leafS ([97])) = true from (decide_eq_true rfl)])) ?_
  simp only [putT, List.set]
  refine wpV_pick (v := .bool true) (by rfl) rfl rfl rfl ?_
  simp only [putT, List.set]
  refine wpV_move (v := .bool true) (by rfl) rfl rfl ?_
  simp only [putT, List.set]
  refine wpV_move (v := .string (bs (leafS ([97])))) (by rfl) rfl rfl ?_
  simp only [putT, List.set]
  refine wpV_binS (v := .bool true) (by rfl) rfl rfl rfl (fun W => (run_neq_bs _ _ _ W).trans (by rw [(decide_eq_true (leaf_ne _))])) ?_
  simp only [putT, List.set]
  refine wpV_pick (v := .bool true) (by rfl) rfl rfl rfl ?_
  simp only [putT, List.set]
  refine wpV_nil (hLk _ (fun w15 Sw15 => ?_))
  clear hLk Lk
  simp only [List.take, List.drop]
  replace M := M.sees Sw15
  refine wpL_assign (v := .bool true) (by rfl) (by rfl) (by rfl) ?_
  simp only [putT, List.set]
  refine wpL_nil (no_panic ?_)
  refine hK13 _ _ ?_
  refine wp_ret ?_
  repeat (first | with_reducible refine then_ret ?_ | with_reducible refine inblock_ret ?_)
  refine bodyPost_ret (v := .bool true) (res1 rfl (.tmp (by rfl))) rfl ?_
  have BE := M.below
  exact ⟨rfl, BB.trans (BE.mono BB.size)⟩
end Go.Proofs.Yb

